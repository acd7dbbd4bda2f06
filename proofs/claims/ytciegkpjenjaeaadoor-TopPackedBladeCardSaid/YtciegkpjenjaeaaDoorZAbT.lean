/- Facts of the seat: its types and its functions, by number. -/
import Derived.Test.YtciegkpjenjaeaaDoorZAbV
import Derived.Test.YtciegkpjenjaeaaDoorProg
import Derived.KernelRfl
namespace Go.Proofs.YtciegkpjenjaeaaDoor.Ab
open Go Go.RowKit
set_option linter.defProp false
theorem tyc_1 : tyc Tryd.prog 1 = some (false, 1) := by kernel_rfl
theorem zer_1 : zer Tryd.prog 1 = some [Go.Value.nilFunc] := by kernel_rfl
theorem tyc_2 : tyc Tryd.prog 2 = some (false, 1) := by kernel_rfl
theorem zer_2 : zer Tryd.prog 2 = some [Go.Value.int Go.IntKind.i64 0] := by kernel_rfl
theorem zds_2 : zds Tryd.prog 2 = some [.v (Go.Value.int Go.IntKind.i64 0)] := by kernel_rfl
theorem und_2 : Tryd.prog.underlying 2 = some (.int .i64) := by kernel_rfl
theorem apf_2 : apf Tryd.prog 2 = some (1, 8) := by kernel_rfl
theorem tyc_3 : tyc Tryd.prog 3 = some (false, 1) := by kernel_rfl
theorem zer_3 : zer Tryd.prog 3 = some [Go.Value.int Go.IntKind.i64 0] := by kernel_rfl
theorem zds_3 : zds Tryd.prog 3 = some [.v (Go.Value.int Go.IntKind.i64 0)] := by kernel_rfl
theorem und_3 : Tryd.prog.underlying 3 = some (.int .i64) := by kernel_rfl
theorem apf_3 : apf Tryd.prog 3 = some (1, 8) := by kernel_rfl
theorem tyc_4 : tyc Tryd.prog 4 = some (false, 1) := by kernel_rfl
theorem zer_4 : zer Tryd.prog 4 = some [Go.Value.bool false] := by kernel_rfl
theorem zds_4 : zds Tryd.prog 4 = some [.v (Go.Value.bool false)] := by kernel_rfl
theorem und_4 : Tryd.prog.underlying 4 = some .bool := by kernel_rfl
theorem apf_4 : apf Tryd.prog 4 = some (1, 1) := by kernel_rfl
theorem tyc_5 : tyc Tryd.prog 5 = some (false, 1) := by kernel_rfl
theorem zer_5 : zer Tryd.prog 5 = some [Go.Value.int Go.IntKind.u8 0] := by kernel_rfl
theorem zds_5 : zds Tryd.prog 5 = some [.v (Go.Value.int Go.IntKind.u8 0)] := by kernel_rfl
theorem und_5 : Tryd.prog.underlying 5 = some (.int .u8) := by kernel_rfl
theorem apf_5 : apf Tryd.prog 5 = some (1, 1) := by kernel_rfl
theorem tyc_6 : tyc Tryd.prog 6 = some (false, 1) := by kernel_rfl
theorem zer_6 : zer Tryd.prog 6 = some [Go.Value.int Go.IntKind.u8 0] := by kernel_rfl
theorem zds_6 : zds Tryd.prog 6 = some [.v (Go.Value.int Go.IntKind.u8 0)] := by kernel_rfl
theorem und_6 : Tryd.prog.underlying 6 = some (.int .u8) := by kernel_rfl
theorem apf_6 : apf Tryd.prog 6 = some (1, 1) := by kernel_rfl
theorem tyc_7 : tyc Tryd.prog 7 = some (true, 4) := by kernel_rfl
theorem zer_7 : zer Tryd.prog 7 = some [Go.Value.int Go.IntKind.i64 0, Go.Value.int Go.IntKind.i64 0, Go.Value.bool false, Go.Value.int Go.IntKind.u8 0] := by kernel_rfl
theorem zds_7 : zds Tryd.prog 7 = some [.v (Go.Value.int Go.IntKind.i64 0), .v (Go.Value.int Go.IntKind.i64 0), .v (Go.Value.bool false), .v (Go.Value.int Go.IntKind.u8 0)] := by kernel_rfl
theorem fld_7_0 : fld Tryd.prog 7 0 = some (0, 2) := by kernel_rfl
theorem fld_7_1 : fld Tryd.prog 7 1 = some (1, 3) := by kernel_rfl
theorem fld_7_2 : fld Tryd.prog 7 2 = some (2, 4) := by kernel_rfl
theorem fld_7_3 : fld Tryd.prog 7 3 = some (3, 6) := by kernel_rfl
theorem stf_7 : stf Tryd.prog 7 = some [(0, 1), (1, 1), (2, 1), (3, 1)] := by kernel_rfl
theorem arr_7 : arr Tryd.prog 7 = none := by kernel_rfl
theorem apf_7 : apf Tryd.prog 7 = some (4, 24) := by kernel_rfl
theorem tyc_8 : tyc Tryd.prog 8 = some (true, 4) := by kernel_rfl
theorem zer_8 : zer Tryd.prog 8 = some [Go.Value.int Go.IntKind.i64 0, Go.Value.int Go.IntKind.i64 0, Go.Value.bool false, Go.Value.int Go.IntKind.u8 0] := by kernel_rfl
theorem zds_8 : zds Tryd.prog 8 = some [.v (Go.Value.int Go.IntKind.i64 0), .v (Go.Value.int Go.IntKind.i64 0), .v (Go.Value.bool false), .v (Go.Value.int Go.IntKind.u8 0)] := by kernel_rfl
theorem fld_8_0 : fld Tryd.prog 8 0 = some (0, 2) := by kernel_rfl
theorem fld_8_1 : fld Tryd.prog 8 1 = some (1, 3) := by kernel_rfl
theorem fld_8_2 : fld Tryd.prog 8 2 = some (2, 4) := by kernel_rfl
theorem fld_8_3 : fld Tryd.prog 8 3 = some (3, 6) := by kernel_rfl
theorem stf_8 : stf Tryd.prog 8 = some [(0, 1), (1, 1), (2, 1), (3, 1)] := by kernel_rfl
theorem arr_8 : arr Tryd.prog 8 = none := by kernel_rfl
theorem apf_8 : apf Tryd.prog 8 = some (4, 24) := by kernel_rfl
theorem tyc_9 : tyc Tryd.prog 9 = some (false, 1) := by kernel_rfl
theorem zer_9 : zer Tryd.prog 9 = some [Go.Value.string { data := #[] }] := by kernel_rfl
theorem zds_9 : zds Tryd.prog 9 = some [.v (Go.Value.string { data := #[] })] := by kernel_rfl
theorem apf_9 : apf Tryd.prog 9 = some (1, 16) := by kernel_rfl
theorem tyc_10 : tyc Tryd.prog 10 = some (false, 1) := by kernel_rfl
theorem zer_10 : zer Tryd.prog 10 = some [Go.Value.string { data := #[] }] := by kernel_rfl
theorem zds_10 : zds Tryd.prog 10 = some [.v (Go.Value.string { data := #[] })] := by kernel_rfl
theorem apf_10 : apf Tryd.prog 10 = some (1, 16) := by kernel_rfl
theorem tyc_11 : tyc Tryd.prog 11 = some (false, 1) := by kernel_rfl
theorem zer_11 : zer Tryd.prog 11 = some [Go.Value.string { data := #[] }] := by kernel_rfl
theorem zds_11 : zds Tryd.prog 11 = some [.v (Go.Value.string { data := #[] })] := by kernel_rfl
theorem apf_11 : apf Tryd.prog 11 = some (1, 16) := by kernel_rfl
theorem tyc_12 : tyc Tryd.prog 12 = some (false, 1) := by kernel_rfl
theorem zer_12 : zer Tryd.prog 12 = some [Go.Value.int Go.IntKind.u64 0] := by kernel_rfl
theorem zds_12 : zds Tryd.prog 12 = some [.v (Go.Value.int Go.IntKind.u64 0)] := by kernel_rfl
theorem und_12 : Tryd.prog.underlying 12 = some (.int .u64) := by kernel_rfl
theorem apf_12 : apf Tryd.prog 12 = some (1, 8) := by kernel_rfl
theorem tyc_13 : tyc Tryd.prog 13 = some (true, 2) := by kernel_rfl
theorem zer_13 : zer Tryd.prog 13 = some [Go.Value.string { data := #[] }, Go.Value.int Go.IntKind.u64 0] := by kernel_rfl
theorem zds_13 : zds Tryd.prog 13 = some [.v (Go.Value.string { data := #[] }), .v (Go.Value.int Go.IntKind.u64 0)] := by kernel_rfl
theorem fld_13_0 : fld Tryd.prog 13 0 = some (0, 9) := by kernel_rfl
theorem fld_13_1 : fld Tryd.prog 13 1 = some (1, 12) := by kernel_rfl
theorem stf_13 : stf Tryd.prog 13 = some [(0, 1), (1, 1)] := by kernel_rfl
theorem arr_13 : arr Tryd.prog 13 = none := by kernel_rfl
theorem apf_13 : apf Tryd.prog 13 = some (2, 24) := by kernel_rfl
theorem tyc_14 : tyc Tryd.prog 14 = some (true, 2) := by kernel_rfl
theorem zer_14 : zer Tryd.prog 14 = some [Go.Value.string { data := #[] }, Go.Value.int Go.IntKind.u64 0] := by kernel_rfl
theorem zds_14 : zds Tryd.prog 14 = some [.v (Go.Value.string { data := #[] }), .v (Go.Value.int Go.IntKind.u64 0)] := by kernel_rfl
theorem fld_14_0 : fld Tryd.prog 14 0 = some (0, 9) := by kernel_rfl
theorem fld_14_1 : fld Tryd.prog 14 1 = some (1, 12) := by kernel_rfl
theorem stf_14 : stf Tryd.prog 14 = some [(0, 1), (1, 1)] := by kernel_rfl
theorem arr_14 : arr Tryd.prog 14 = none := by kernel_rfl
theorem apf_14 : apf Tryd.prog 14 = some (2, 24) := by kernel_rfl
theorem tyc_15 : tyc Tryd.prog 15 = some (false, 1) := by kernel_rfl
theorem zer_15 : zer Tryd.prog 15 = some [Go.Value.pointer none] := by kernel_rfl
theorem zds_15 : zds Tryd.prog 15 = some [.v (Go.Value.pointer none)] := by kernel_rfl
theorem apf_15 : apf Tryd.prog 15 = some (1, 8) := by kernel_rfl
theorem tyc_16 : tyc Tryd.prog 16 = some (false, 1) := by kernel_rfl
theorem zer_16 : zer Tryd.prog 16 = some [Go.Value.pointer none] := by kernel_rfl
theorem zds_16 : zds Tryd.prog 16 = some [.v (Go.Value.pointer none)] := by kernel_rfl
theorem apf_16 : apf Tryd.prog 16 = some (1, 8) := by kernel_rfl
theorem tyc_17 : tyc Tryd.prog 17 = some (false, 1) := by kernel_rfl
theorem zer_17 : zer Tryd.prog 17 = some [Go.Value.pointer none] := by kernel_rfl
theorem zds_17 : zds Tryd.prog 17 = some [.v (Go.Value.pointer none)] := by kernel_rfl
theorem apf_17 : apf Tryd.prog 17 = some (1, 8) := by kernel_rfl
theorem tyc_18 : tyc Tryd.prog 18 = some (true, 1) := by kernel_rfl
theorem zer_18 : zer Tryd.prog 18 = some [Go.Value.pointer none] := by kernel_rfl
theorem zds_18 : zds Tryd.prog 18 = some [.v (Go.Value.pointer none)] := by kernel_rfl
theorem fld_18_0 : fld Tryd.prog 18 0 = some (0, 17) := by kernel_rfl
theorem stf_18 : stf Tryd.prog 18 = some [(0, 1)] := by kernel_rfl
theorem arr_18 : arr Tryd.prog 18 = none := by kernel_rfl
theorem apf_18 : apf Tryd.prog 18 = some (1, 8) := by kernel_rfl
theorem tyc_19 : tyc Tryd.prog 19 = some (true, 1) := by kernel_rfl
theorem zer_19 : zer Tryd.prog 19 = some [Go.Value.pointer none] := by kernel_rfl
theorem zds_19 : zds Tryd.prog 19 = some [.v (Go.Value.pointer none)] := by kernel_rfl
theorem fld_19_0 : fld Tryd.prog 19 0 = some (0, 17) := by kernel_rfl
theorem stf_19 : stf Tryd.prog 19 = some [(0, 1)] := by kernel_rfl
theorem arr_19 : arr Tryd.prog 19 = none := by kernel_rfl
theorem apf_19 : apf Tryd.prog 19 = some (1, 8) := by kernel_rfl
theorem tyc_21 : tyc Tryd.prog 21 = some (false, 1) := by kernel_rfl
theorem zer_21 : zer Tryd.prog 21 = some [Go.Value.int Go.IntKind.i32 0] := by kernel_rfl
theorem zds_21 : zds Tryd.prog 21 = some [.v (Go.Value.int Go.IntKind.i32 0)] := by kernel_rfl
theorem und_21 : Tryd.prog.underlying 21 = some (.int .i32) := by kernel_rfl
theorem apf_21 : apf Tryd.prog 21 = some (1, 4) := by kernel_rfl
theorem tyc_22 : tyc Tryd.prog 22 = some (true, 2) := by kernel_rfl
theorem zer_22 : zer Tryd.prog 22 = some [Go.Value.int Go.IntKind.u8 0, Go.Value.int Go.IntKind.u8 0] := by kernel_rfl
theorem zds_22 : zds Tryd.prog 22 = some [.v (Go.Value.int Go.IntKind.u8 0), .v (Go.Value.int Go.IntKind.u8 0)] := by kernel_rfl
theorem arr_22 : arr Tryd.prog 22 = some (2, 5, 1) := by kernel_rfl
theorem stf_22 : stf Tryd.prog 22 = none := by kernel_rfl
theorem apf_22 : apf Tryd.prog 22 = some (2, 2) := by kernel_rfl
theorem tyc_23 : tyc Tryd.prog 23 = some (true, 12) := by kernel_rfl
theorem zer_23 : zer Tryd.prog 23 = some [Go.Value.int Go.IntKind.u8 0, Go.Value.int Go.IntKind.u8 0, Go.Value.int Go.IntKind.u8 0, Go.Value.int Go.IntKind.u8 0, Go.Value.int Go.IntKind.u8 0, Go.Value.int Go.IntKind.u8 0, Go.Value.int Go.IntKind.u8 0, Go.Value.int Go.IntKind.u8 0, Go.Value.int Go.IntKind.u8 0, Go.Value.int Go.IntKind.u8 0, Go.Value.int Go.IntKind.u8 0, Go.Value.int Go.IntKind.u8 0] := by kernel_rfl
theorem zds_23 : zds Tryd.prog 23 = some [.v (Go.Value.int Go.IntKind.u8 0), .v (Go.Value.int Go.IntKind.u8 0), .v (Go.Value.int Go.IntKind.u8 0), .v (Go.Value.int Go.IntKind.u8 0), .v (Go.Value.int Go.IntKind.u8 0), .v (Go.Value.int Go.IntKind.u8 0), .v (Go.Value.int Go.IntKind.u8 0), .v (Go.Value.int Go.IntKind.u8 0), .v (Go.Value.int Go.IntKind.u8 0), .v (Go.Value.int Go.IntKind.u8 0), .v (Go.Value.int Go.IntKind.u8 0), .v (Go.Value.int Go.IntKind.u8 0)] := by kernel_rfl
theorem arr_23 : arr Tryd.prog 23 = some (6, 22, 2) := by kernel_rfl
theorem stf_23 : stf Tryd.prog 23 = none := by kernel_rfl
theorem apf_23 : apf Tryd.prog 23 = some (12, 12) := by kernel_rfl
theorem tyc_24 : tyc Tryd.prog 24 = some (false, 1) := by kernel_rfl
theorem zer_24 : zer Tryd.prog 24 = some [Go.Value.slice none 0 0] := by kernel_rfl
theorem zds_24 : zds Tryd.prog 24 = some [.sl 3 []] := by kernel_rfl
theorem elt_24 : elt Tryd.prog 24 = some (28, 3) := by kernel_rfl
theorem apf_24 : apf Tryd.prog 24 = some (1, 24) := by kernel_rfl
theorem tyc_25 : tyc Tryd.prog 25 = some (true, 4) := by kernel_rfl
theorem zer_25 : zer Tryd.prog 25 = some [Go.Value.int Go.IntKind.u8 0, Go.Value.int Go.IntKind.u8 0, Go.Value.int Go.IntKind.u8 0, Go.Value.int Go.IntKind.u8 0] := by kernel_rfl
theorem zds_25 : zds Tryd.prog 25 = some [.v (Go.Value.int Go.IntKind.u8 0), .v (Go.Value.int Go.IntKind.u8 0), .v (Go.Value.int Go.IntKind.u8 0), .v (Go.Value.int Go.IntKind.u8 0)] := by kernel_rfl
theorem arr_25 : arr Tryd.prog 25 = some (4, 5, 1) := by kernel_rfl
theorem stf_25 : stf Tryd.prog 25 = none := by kernel_rfl
theorem apf_25 : apf Tryd.prog 25 = some (4, 4) := by kernel_rfl
theorem tyc_26 : tyc Tryd.prog 26 = some (true, 30) := by kernel_rfl
theorem zer_26 : zer Tryd.prog 26 = some [Go.Value.int Go.IntKind.u8 0, Go.Value.int Go.IntKind.u8 0, Go.Value.int Go.IntKind.u8 0, Go.Value.int Go.IntKind.u8 0, Go.Value.int Go.IntKind.u8 0, Go.Value.int Go.IntKind.u8 0, Go.Value.int Go.IntKind.u8 0, Go.Value.int Go.IntKind.u8 0, Go.Value.int Go.IntKind.u8 0, Go.Value.int Go.IntKind.u8 0, Go.Value.int Go.IntKind.u8 0, Go.Value.int Go.IntKind.u8 0, Go.Value.int Go.IntKind.u8 0, Go.Value.int Go.IntKind.u8 0, Go.Value.int Go.IntKind.u8 0, Go.Value.int Go.IntKind.u8 0, Go.Value.int Go.IntKind.u8 0, Go.Value.int Go.IntKind.u8 0, Go.Value.int Go.IntKind.u8 0, Go.Value.int Go.IntKind.u8 0, Go.Value.int Go.IntKind.u8 0, Go.Value.int Go.IntKind.u8 0, Go.Value.int Go.IntKind.u8 0, Go.Value.int Go.IntKind.u8 0, Go.Value.int Go.IntKind.u8 0, Go.Value.slice none 0 0, Go.Value.int Go.IntKind.u8 0, Go.Value.int Go.IntKind.u8 0, Go.Value.int Go.IntKind.u8 0, Go.Value.int Go.IntKind.u8 0] := by kernel_rfl
theorem zds_26 : zds Tryd.prog 26 = some [.v (Go.Value.int Go.IntKind.u8 0), .v (Go.Value.int Go.IntKind.u8 0), .v (Go.Value.int Go.IntKind.u8 0), .v (Go.Value.int Go.IntKind.u8 0), .v (Go.Value.int Go.IntKind.u8 0), .v (Go.Value.int Go.IntKind.u8 0), .v (Go.Value.int Go.IntKind.u8 0), .v (Go.Value.int Go.IntKind.u8 0), .v (Go.Value.int Go.IntKind.u8 0), .v (Go.Value.int Go.IntKind.u8 0), .v (Go.Value.int Go.IntKind.u8 0), .v (Go.Value.int Go.IntKind.u8 0), .v (Go.Value.int Go.IntKind.u8 0), .v (Go.Value.int Go.IntKind.u8 0), .v (Go.Value.int Go.IntKind.u8 0), .v (Go.Value.int Go.IntKind.u8 0), .v (Go.Value.int Go.IntKind.u8 0), .v (Go.Value.int Go.IntKind.u8 0), .v (Go.Value.int Go.IntKind.u8 0), .v (Go.Value.int Go.IntKind.u8 0), .v (Go.Value.int Go.IntKind.u8 0), .v (Go.Value.int Go.IntKind.u8 0), .v (Go.Value.int Go.IntKind.u8 0), .v (Go.Value.int Go.IntKind.u8 0), .v (Go.Value.int Go.IntKind.u8 0), .v (Go.Value.slice none 0 0), .v (Go.Value.int Go.IntKind.u8 0), .v (Go.Value.int Go.IntKind.u8 0), .v (Go.Value.int Go.IntKind.u8 0), .v (Go.Value.int Go.IntKind.u8 0)] := by kernel_rfl
theorem fld_26_0 : fld Tryd.prog 26 0 = some (0, 5) := by kernel_rfl
theorem fld_26_1 : fld Tryd.prog 26 1 = some (1, 23) := by kernel_rfl
theorem fld_26_2 : fld Tryd.prog 26 2 = some (13, 23) := by kernel_rfl
theorem fld_26_3 : fld Tryd.prog 26 3 = some (25, 24) := by kernel_rfl
theorem fld_26_4 : fld Tryd.prog 26 4 = some (26, 25) := by kernel_rfl
theorem stf_26 : stf Tryd.prog 26 = some [(0, 1), (1, 12), (13, 12), (25, 1), (26, 4)] := by kernel_rfl
theorem arr_26 : arr Tryd.prog 26 = none := by kernel_rfl
theorem apf_26 : apf Tryd.prog 26 = some (30, 64) := by kernel_rfl
theorem tyc_27 : tyc Tryd.prog 27 = some (true, 30) := by kernel_rfl
theorem zer_27 : zer Tryd.prog 27 = some [Go.Value.int Go.IntKind.u8 0, Go.Value.int Go.IntKind.u8 0, Go.Value.int Go.IntKind.u8 0, Go.Value.int Go.IntKind.u8 0, Go.Value.int Go.IntKind.u8 0, Go.Value.int Go.IntKind.u8 0, Go.Value.int Go.IntKind.u8 0, Go.Value.int Go.IntKind.u8 0, Go.Value.int Go.IntKind.u8 0, Go.Value.int Go.IntKind.u8 0, Go.Value.int Go.IntKind.u8 0, Go.Value.int Go.IntKind.u8 0, Go.Value.int Go.IntKind.u8 0, Go.Value.int Go.IntKind.u8 0, Go.Value.int Go.IntKind.u8 0, Go.Value.int Go.IntKind.u8 0, Go.Value.int Go.IntKind.u8 0, Go.Value.int Go.IntKind.u8 0, Go.Value.int Go.IntKind.u8 0, Go.Value.int Go.IntKind.u8 0, Go.Value.int Go.IntKind.u8 0, Go.Value.int Go.IntKind.u8 0, Go.Value.int Go.IntKind.u8 0, Go.Value.int Go.IntKind.u8 0, Go.Value.int Go.IntKind.u8 0, Go.Value.slice none 0 0, Go.Value.int Go.IntKind.u8 0, Go.Value.int Go.IntKind.u8 0, Go.Value.int Go.IntKind.u8 0, Go.Value.int Go.IntKind.u8 0] := by kernel_rfl
theorem zds_27 : zds Tryd.prog 27 = some [.v (Go.Value.int Go.IntKind.u8 0), .v (Go.Value.int Go.IntKind.u8 0), .v (Go.Value.int Go.IntKind.u8 0), .v (Go.Value.int Go.IntKind.u8 0), .v (Go.Value.int Go.IntKind.u8 0), .v (Go.Value.int Go.IntKind.u8 0), .v (Go.Value.int Go.IntKind.u8 0), .v (Go.Value.int Go.IntKind.u8 0), .v (Go.Value.int Go.IntKind.u8 0), .v (Go.Value.int Go.IntKind.u8 0), .v (Go.Value.int Go.IntKind.u8 0), .v (Go.Value.int Go.IntKind.u8 0), .v (Go.Value.int Go.IntKind.u8 0), .v (Go.Value.int Go.IntKind.u8 0), .v (Go.Value.int Go.IntKind.u8 0), .v (Go.Value.int Go.IntKind.u8 0), .v (Go.Value.int Go.IntKind.u8 0), .v (Go.Value.int Go.IntKind.u8 0), .v (Go.Value.int Go.IntKind.u8 0), .v (Go.Value.int Go.IntKind.u8 0), .v (Go.Value.int Go.IntKind.u8 0), .v (Go.Value.int Go.IntKind.u8 0), .v (Go.Value.int Go.IntKind.u8 0), .v (Go.Value.int Go.IntKind.u8 0), .v (Go.Value.int Go.IntKind.u8 0), .v (Go.Value.slice none 0 0), .v (Go.Value.int Go.IntKind.u8 0), .v (Go.Value.int Go.IntKind.u8 0), .v (Go.Value.int Go.IntKind.u8 0), .v (Go.Value.int Go.IntKind.u8 0)] := by kernel_rfl
theorem fld_27_0 : fld Tryd.prog 27 0 = some (0, 5) := by kernel_rfl
theorem fld_27_1 : fld Tryd.prog 27 1 = some (1, 23) := by kernel_rfl
theorem fld_27_2 : fld Tryd.prog 27 2 = some (13, 23) := by kernel_rfl
theorem fld_27_3 : fld Tryd.prog 27 3 = some (25, 24) := by kernel_rfl
theorem fld_27_4 : fld Tryd.prog 27 4 = some (26, 25) := by kernel_rfl
theorem stf_27 : stf Tryd.prog 27 = some [(0, 1), (1, 12), (13, 12), (25, 1), (26, 4)] := by kernel_rfl
theorem arr_27 : arr Tryd.prog 27 = none := by kernel_rfl
theorem apf_27 : apf Tryd.prog 27 = some (30, 64) := by kernel_rfl
theorem tyc_28 : tyc Tryd.prog 28 = some (true, 3) := by kernel_rfl
theorem zer_28 : zer Tryd.prog 28 = some [Go.Value.int Go.IntKind.u8 0, Go.Value.int Go.IntKind.u8 0, Go.Value.int Go.IntKind.u8 0] := by kernel_rfl
theorem zds_28 : zds Tryd.prog 28 = some [.v (Go.Value.int Go.IntKind.u8 0), .v (Go.Value.int Go.IntKind.u8 0), .v (Go.Value.int Go.IntKind.u8 0)] := by kernel_rfl
theorem arr_28 : arr Tryd.prog 28 = some (3, 5, 1) := by kernel_rfl
theorem stf_28 : stf Tryd.prog 28 = none := by kernel_rfl
theorem apf_28 : apf Tryd.prog 28 = some (3, 3) := by kernel_rfl
theorem tyc_29 : tyc Tryd.prog 29 = some (false, 1) := by kernel_rfl
theorem zer_29 : zer Tryd.prog 29 = some [Go.Value.slice none 0 0] := by kernel_rfl
theorem zds_29 : zds Tryd.prog 29 = some [.sl 2 []] := by kernel_rfl
theorem elt_29 : elt Tryd.prog 29 = some (50, 2) := by kernel_rfl
theorem apf_29 : apf Tryd.prog 29 = some (1, 24) := by kernel_rfl
theorem tyc_30 : tyc Tryd.prog 30 = some (false, 1) := by kernel_rfl
theorem zer_30 : zer Tryd.prog 30 = some [Go.Value.slice none 0 0] := by kernel_rfl
theorem zds_30 : zds Tryd.prog 30 = some [.sl 6 []] := by kernel_rfl
theorem elt_30 : elt Tryd.prog 30 = some (59, 6) := by kernel_rfl
theorem apf_30 : apf Tryd.prog 30 = some (1, 24) := by kernel_rfl
theorem tyc_31 : tyc Tryd.prog 31 = some (true, 4) := by kernel_rfl
theorem zer_31 : zer Tryd.prog 31 = some [Go.Value.slice none 0 0, Go.Value.slice none 0 0, Go.Value.int Go.IntKind.i64 0, Go.Value.slice none 0 0] := by kernel_rfl
theorem zds_31 : zds Tryd.prog 31 = some [.v (Go.Value.slice none 0 0), .v (Go.Value.slice none 0 0), .v (Go.Value.int Go.IntKind.i64 0), .v (Go.Value.slice none 0 0)] := by kernel_rfl
theorem fld_31_0 : fld Tryd.prog 31 0 = some (0, 29) := by kernel_rfl
theorem fld_31_1 : fld Tryd.prog 31 1 = some (1, 29) := by kernel_rfl
theorem fld_31_2 : fld Tryd.prog 31 2 = some (2, 3) := by kernel_rfl
theorem fld_31_3 : fld Tryd.prog 31 3 = some (3, 30) := by kernel_rfl
theorem stf_31 : stf Tryd.prog 31 = some [(0, 1), (1, 1), (2, 1), (3, 1)] := by kernel_rfl
theorem arr_31 : arr Tryd.prog 31 = none := by kernel_rfl
theorem apf_31 : apf Tryd.prog 31 = some (4, 80) := by kernel_rfl
theorem tyc_32 : tyc Tryd.prog 32 = some (true, 4) := by kernel_rfl
theorem zer_32 : zer Tryd.prog 32 = some [Go.Value.slice none 0 0, Go.Value.slice none 0 0, Go.Value.int Go.IntKind.i64 0, Go.Value.slice none 0 0] := by kernel_rfl
theorem zds_32 : zds Tryd.prog 32 = some [.v (Go.Value.slice none 0 0), .v (Go.Value.slice none 0 0), .v (Go.Value.int Go.IntKind.i64 0), .v (Go.Value.slice none 0 0)] := by kernel_rfl
theorem fld_32_0 : fld Tryd.prog 32 0 = some (0, 29) := by kernel_rfl
theorem fld_32_1 : fld Tryd.prog 32 1 = some (1, 29) := by kernel_rfl
theorem fld_32_2 : fld Tryd.prog 32 2 = some (2, 3) := by kernel_rfl
theorem fld_32_3 : fld Tryd.prog 32 3 = some (3, 30) := by kernel_rfl
theorem stf_32 : stf Tryd.prog 32 = some [(0, 1), (1, 1), (2, 1), (3, 1)] := by kernel_rfl
theorem arr_32 : arr Tryd.prog 32 = none := by kernel_rfl
theorem apf_32 : apf Tryd.prog 32 = some (4, 80) := by kernel_rfl
theorem tyc_33 : tyc Tryd.prog 33 = some (true, 4) := by kernel_rfl
theorem zer_33 : zer Tryd.prog 33 = some [Go.Value.int Go.IntKind.i64 0, Go.Value.int Go.IntKind.i64 0, Go.Value.int Go.IntKind.i64 0, Go.Value.int Go.IntKind.i64 0] := by kernel_rfl
theorem zds_33 : zds Tryd.prog 33 = some [.v (Go.Value.int Go.IntKind.i64 0), .v (Go.Value.int Go.IntKind.i64 0), .v (Go.Value.int Go.IntKind.i64 0), .v (Go.Value.int Go.IntKind.i64 0)] := by kernel_rfl
theorem fld_33_0 : fld Tryd.prog 33 0 = some (0, 3) := by kernel_rfl
theorem fld_33_1 : fld Tryd.prog 33 1 = some (1, 3) := by kernel_rfl
theorem fld_33_2 : fld Tryd.prog 33 2 = some (2, 3) := by kernel_rfl
theorem fld_33_3 : fld Tryd.prog 33 3 = some (3, 3) := by kernel_rfl
theorem stf_33 : stf Tryd.prog 33 = some [(0, 1), (1, 1), (2, 1), (3, 1)] := by kernel_rfl
theorem arr_33 : arr Tryd.prog 33 = none := by kernel_rfl
theorem apf_33 : apf Tryd.prog 33 = some (4, 32) := by kernel_rfl
theorem tyc_34 : tyc Tryd.prog 34 = some (true, 4) := by kernel_rfl
theorem zer_34 : zer Tryd.prog 34 = some [Go.Value.int Go.IntKind.i64 0, Go.Value.int Go.IntKind.i64 0, Go.Value.int Go.IntKind.i64 0, Go.Value.int Go.IntKind.i64 0] := by kernel_rfl
theorem zds_34 : zds Tryd.prog 34 = some [.v (Go.Value.int Go.IntKind.i64 0), .v (Go.Value.int Go.IntKind.i64 0), .v (Go.Value.int Go.IntKind.i64 0), .v (Go.Value.int Go.IntKind.i64 0)] := by kernel_rfl
theorem fld_34_0 : fld Tryd.prog 34 0 = some (0, 3) := by kernel_rfl
theorem fld_34_1 : fld Tryd.prog 34 1 = some (1, 3) := by kernel_rfl
theorem fld_34_2 : fld Tryd.prog 34 2 = some (2, 3) := by kernel_rfl
theorem fld_34_3 : fld Tryd.prog 34 3 = some (3, 3) := by kernel_rfl
theorem stf_34 : stf Tryd.prog 34 = some [(0, 1), (1, 1), (2, 1), (3, 1)] := by kernel_rfl
theorem arr_34 : arr Tryd.prog 34 = none := by kernel_rfl
theorem apf_34 : apf Tryd.prog 34 = some (4, 32) := by kernel_rfl
theorem tyc_36 : tyc Tryd.prog 36 = some (false, 1) := by kernel_rfl
theorem zer_36 : zer Tryd.prog 36 = some [Go.Value.nilFunc] := by kernel_rfl
theorem tyc_37 : tyc Tryd.prog 37 = some (false, 1) := by kernel_rfl
theorem zer_37 : zer Tryd.prog 37 = some [Go.Value.slice none 0 0] := by kernel_rfl
theorem zds_37 : zds Tryd.prog 37 = some [.sl 2 []] := by kernel_rfl
theorem elt_37 : elt Tryd.prog 37 = some (96, 2) := by kernel_rfl
theorem apf_37 : apf Tryd.prog 37 = some (1, 24) := by kernel_rfl
theorem tyc_38 : tyc Tryd.prog 38 = some (false, 1) := by kernel_rfl
theorem zer_38 : zer Tryd.prog 38 = some [Go.Value.int Go.IntKind.i64 0] := by kernel_rfl
theorem zds_38 : zds Tryd.prog 38 = some [.v (Go.Value.int Go.IntKind.i64 0)] := by kernel_rfl
theorem und_38 : Tryd.prog.underlying 38 = some (.int .i64) := by kernel_rfl
theorem apf_38 : apf Tryd.prog 38 = some (1, 8) := by kernel_rfl
theorem tyc_40 : tyc Tryd.prog 40 = some (false, 1) := by kernel_rfl
theorem zer_40 : zer Tryd.prog 40 = some [Go.Value.nilFunc] := by kernel_rfl
theorem tyc_41 : tyc Tryd.prog 41 = some (false, 1) := by kernel_rfl
theorem zer_41 : zer Tryd.prog 41 = some [Go.Value.nilFunc] := by kernel_rfl
theorem tyc_42 : tyc Tryd.prog 42 = some (false, 1) := by kernel_rfl
theorem zer_42 : zer Tryd.prog 42 = some [Go.Value.slice none 0 0] := by kernel_rfl
theorem zds_42 : zds Tryd.prog 42 = some [.sl 2 []] := by kernel_rfl
theorem elt_42 : elt Tryd.prog 42 = some (45, 2) := by kernel_rfl
theorem apf_42 : apf Tryd.prog 42 = some (1, 24) := by kernel_rfl
theorem tyc_43 : tyc Tryd.prog 43 = some (false, 1) := by kernel_rfl
theorem zer_43 : zer Tryd.prog 43 = some [Go.Value.slice none 0 0] := by kernel_rfl
theorem zds_43 : zds Tryd.prog 43 = some [.sl 3 []] := by kernel_rfl
theorem elt_43 : elt Tryd.prog 43 = some (53, 3) := by kernel_rfl
theorem apf_43 : apf Tryd.prog 43 = some (1, 24) := by kernel_rfl
theorem tyc_44 : tyc Tryd.prog 44 = some (true, 2) := by kernel_rfl
theorem zer_44 : zer Tryd.prog 44 = some [Go.Value.int Go.IntKind.i64 0, Go.Value.int Go.IntKind.i64 0] := by kernel_rfl
theorem zds_44 : zds Tryd.prog 44 = some [.v (Go.Value.int Go.IntKind.i64 0), .v (Go.Value.int Go.IntKind.i64 0)] := by kernel_rfl
theorem fld_44_0 : fld Tryd.prog 44 0 = some (0, 3) := by kernel_rfl
theorem fld_44_1 : fld Tryd.prog 44 1 = some (1, 3) := by kernel_rfl
theorem stf_44 : stf Tryd.prog 44 = some [(0, 1), (1, 1)] := by kernel_rfl
theorem arr_44 : arr Tryd.prog 44 = none := by kernel_rfl
theorem apf_44 : apf Tryd.prog 44 = some (2, 16) := by kernel_rfl
theorem tyc_45 : tyc Tryd.prog 45 = some (true, 2) := by kernel_rfl
theorem zer_45 : zer Tryd.prog 45 = some [Go.Value.int Go.IntKind.i64 0, Go.Value.int Go.IntKind.i64 0] := by kernel_rfl
theorem zds_45 : zds Tryd.prog 45 = some [.v (Go.Value.int Go.IntKind.i64 0), .v (Go.Value.int Go.IntKind.i64 0)] := by kernel_rfl
theorem fld_45_0 : fld Tryd.prog 45 0 = some (0, 3) := by kernel_rfl
theorem fld_45_1 : fld Tryd.prog 45 1 = some (1, 3) := by kernel_rfl
theorem stf_45 : stf Tryd.prog 45 = some [(0, 1), (1, 1)] := by kernel_rfl
theorem arr_45 : arr Tryd.prog 45 = none := by kernel_rfl
theorem apf_45 : apf Tryd.prog 45 = some (2, 16) := by kernel_rfl
theorem tyc_47 : tyc Tryd.prog 47 = some (false, 1) := by kernel_rfl
theorem zer_47 : zer Tryd.prog 47 = some [Go.Value.nilFunc] := by kernel_rfl
theorem tyc_48 : tyc Tryd.prog 48 = some (false, 1) := by kernel_rfl
theorem zer_48 : zer Tryd.prog 48 = some [Go.Value.int Go.IntKind.u64 0] := by kernel_rfl
theorem zds_48 : zds Tryd.prog 48 = some [.v (Go.Value.int Go.IntKind.u64 0)] := by kernel_rfl
theorem und_48 : Tryd.prog.underlying 48 = some (.int .u64) := by kernel_rfl
theorem apf_48 : apf Tryd.prog 48 = some (1, 8) := by kernel_rfl
theorem tyc_49 : tyc Tryd.prog 49 = some (true, 2) := by kernel_rfl
theorem zer_49 : zer Tryd.prog 49 = some [Go.Value.int Go.IntKind.i64 0, Go.Value.int Go.IntKind.i64 0] := by kernel_rfl
theorem zds_49 : zds Tryd.prog 49 = some [.v (Go.Value.int Go.IntKind.i64 0), .v (Go.Value.int Go.IntKind.i64 0)] := by kernel_rfl
theorem fld_49_0 : fld Tryd.prog 49 0 = some (0, 3) := by kernel_rfl
theorem fld_49_1 : fld Tryd.prog 49 1 = some (1, 3) := by kernel_rfl
theorem stf_49 : stf Tryd.prog 49 = some [(0, 1), (1, 1)] := by kernel_rfl
theorem arr_49 : arr Tryd.prog 49 = none := by kernel_rfl
theorem apf_49 : apf Tryd.prog 49 = some (2, 16) := by kernel_rfl
theorem tyc_50 : tyc Tryd.prog 50 = some (true, 2) := by kernel_rfl
theorem zer_50 : zer Tryd.prog 50 = some [Go.Value.int Go.IntKind.i64 0, Go.Value.int Go.IntKind.i64 0] := by kernel_rfl
theorem zds_50 : zds Tryd.prog 50 = some [.v (Go.Value.int Go.IntKind.i64 0), .v (Go.Value.int Go.IntKind.i64 0)] := by kernel_rfl
theorem fld_50_0 : fld Tryd.prog 50 0 = some (0, 3) := by kernel_rfl
theorem fld_50_1 : fld Tryd.prog 50 1 = some (1, 3) := by kernel_rfl
theorem stf_50 : stf Tryd.prog 50 = some [(0, 1), (1, 1)] := by kernel_rfl
theorem arr_50 : arr Tryd.prog 50 = none := by kernel_rfl
theorem apf_50 : apf Tryd.prog 50 = some (2, 16) := by kernel_rfl
theorem tyc_51 : tyc Tryd.prog 51 = some (false, 1) := by kernel_rfl
theorem zer_51 : zer Tryd.prog 51 = some [Go.Value.nilFunc] := by kernel_rfl
theorem tyc_52 : tyc Tryd.prog 52 = some (true, 3) := by kernel_rfl
theorem zer_52 : zer Tryd.prog 52 = some [Go.Value.int Go.IntKind.i64 0, Go.Value.int Go.IntKind.i64 0, Go.Value.int Go.IntKind.i64 0] := by kernel_rfl
theorem zds_52 : zds Tryd.prog 52 = some [.v (Go.Value.int Go.IntKind.i64 0), .v (Go.Value.int Go.IntKind.i64 0), .v (Go.Value.int Go.IntKind.i64 0)] := by kernel_rfl
theorem fld_52_0 : fld Tryd.prog 52 0 = some (0, 3) := by kernel_rfl
theorem fld_52_1 : fld Tryd.prog 52 1 = some (1, 50) := by kernel_rfl
theorem stf_52 : stf Tryd.prog 52 = some [(0, 1), (1, 2)] := by kernel_rfl
theorem arr_52 : arr Tryd.prog 52 = none := by kernel_rfl
theorem apf_52 : apf Tryd.prog 52 = some (3, 24) := by kernel_rfl
theorem tyc_53 : tyc Tryd.prog 53 = some (true, 3) := by kernel_rfl
theorem zer_53 : zer Tryd.prog 53 = some [Go.Value.int Go.IntKind.i64 0, Go.Value.int Go.IntKind.i64 0, Go.Value.int Go.IntKind.i64 0] := by kernel_rfl
theorem zds_53 : zds Tryd.prog 53 = some [.v (Go.Value.int Go.IntKind.i64 0), .v (Go.Value.int Go.IntKind.i64 0), .v (Go.Value.int Go.IntKind.i64 0)] := by kernel_rfl
theorem fld_53_0 : fld Tryd.prog 53 0 = some (0, 3) := by kernel_rfl
theorem fld_53_1 : fld Tryd.prog 53 1 = some (1, 50) := by kernel_rfl
theorem stf_53 : stf Tryd.prog 53 = some [(0, 1), (1, 2)] := by kernel_rfl
theorem arr_53 : arr Tryd.prog 53 = none := by kernel_rfl
theorem apf_53 : apf Tryd.prog 53 = some (3, 24) := by kernel_rfl
theorem tyc_55 : tyc Tryd.prog 55 = some (false, 1) := by kernel_rfl
theorem zer_55 : zer Tryd.prog 55 = some [Go.Value.nilFunc] := by kernel_rfl
theorem tyc_56 : tyc Tryd.prog 56 = some (false, 1) := by kernel_rfl
theorem zer_56 : zer Tryd.prog 56 = some [Go.Value.nilFunc] := by kernel_rfl
theorem tyc_57 : tyc Tryd.prog 57 = some (false, 1) := by kernel_rfl
theorem zer_57 : zer Tryd.prog 57 = some [Go.Value.nilFunc] := by kernel_rfl
theorem tyc_58 : tyc Tryd.prog 58 = some (true, 6) := by kernel_rfl
theorem zer_58 : zer Tryd.prog 58 = some [Go.Value.int Go.IntKind.i64 0, Go.Value.int Go.IntKind.i64 0, Go.Value.int Go.IntKind.i64 0, Go.Value.int Go.IntKind.i64 0, Go.Value.int Go.IntKind.i64 0, Go.Value.int Go.IntKind.i64 0] := by kernel_rfl
theorem zds_58 : zds Tryd.prog 58 = some [.v (Go.Value.int Go.IntKind.i64 0), .v (Go.Value.int Go.IntKind.i64 0), .v (Go.Value.int Go.IntKind.i64 0), .v (Go.Value.int Go.IntKind.i64 0), .v (Go.Value.int Go.IntKind.i64 0), .v (Go.Value.int Go.IntKind.i64 0)] := by kernel_rfl
theorem fld_58_0 : fld Tryd.prog 58 0 = some (0, 50) := by kernel_rfl
theorem fld_58_1 : fld Tryd.prog 58 1 = some (2, 50) := by kernel_rfl
theorem fld_58_2 : fld Tryd.prog 58 2 = some (4, 50) := by kernel_rfl
theorem stf_58 : stf Tryd.prog 58 = some [(0, 2), (2, 2), (4, 2)] := by kernel_rfl
theorem arr_58 : arr Tryd.prog 58 = none := by kernel_rfl
theorem apf_58 : apf Tryd.prog 58 = some (6, 48) := by kernel_rfl
theorem tyc_59 : tyc Tryd.prog 59 = some (true, 6) := by kernel_rfl
theorem zer_59 : zer Tryd.prog 59 = some [Go.Value.int Go.IntKind.i64 0, Go.Value.int Go.IntKind.i64 0, Go.Value.int Go.IntKind.i64 0, Go.Value.int Go.IntKind.i64 0, Go.Value.int Go.IntKind.i64 0, Go.Value.int Go.IntKind.i64 0] := by kernel_rfl
theorem zds_59 : zds Tryd.prog 59 = some [.v (Go.Value.int Go.IntKind.i64 0), .v (Go.Value.int Go.IntKind.i64 0), .v (Go.Value.int Go.IntKind.i64 0), .v (Go.Value.int Go.IntKind.i64 0), .v (Go.Value.int Go.IntKind.i64 0), .v (Go.Value.int Go.IntKind.i64 0)] := by kernel_rfl
theorem fld_59_0 : fld Tryd.prog 59 0 = some (0, 50) := by kernel_rfl
theorem fld_59_1 : fld Tryd.prog 59 1 = some (2, 50) := by kernel_rfl
theorem fld_59_2 : fld Tryd.prog 59 2 = some (4, 50) := by kernel_rfl
theorem stf_59 : stf Tryd.prog 59 = some [(0, 2), (2, 2), (4, 2)] := by kernel_rfl
theorem arr_59 : arr Tryd.prog 59 = none := by kernel_rfl
theorem apf_59 : apf Tryd.prog 59 = some (6, 48) := by kernel_rfl
theorem tyc_60 : tyc Tryd.prog 60 = some (true, 6) := by kernel_rfl
theorem zer_60 : zer Tryd.prog 60 = some [Go.Value.slice none 0 0, Go.Value.slice none 0 0, Go.Value.int Go.IntKind.i64 0, Go.Value.slice none 0 0, Go.Value.slice none 0 0, Go.Value.slice none 0 0] := by kernel_rfl
theorem zds_60 : zds Tryd.prog 60 = some [.v (Go.Value.slice none 0 0), .v (Go.Value.slice none 0 0), .v (Go.Value.int Go.IntKind.i64 0), .v (Go.Value.slice none 0 0), .v (Go.Value.slice none 0 0), .v (Go.Value.slice none 0 0)] := by kernel_rfl
theorem fld_60_0 : fld Tryd.prog 60 0 = some (0, 32) := by kernel_rfl
theorem fld_60_1 : fld Tryd.prog 60 1 = some (4, 29) := by kernel_rfl
theorem fld_60_2 : fld Tryd.prog 60 2 = some (5, 29) := by kernel_rfl
theorem stf_60 : stf Tryd.prog 60 = some [(0, 4), (4, 1), (5, 1)] := by kernel_rfl
theorem arr_60 : arr Tryd.prog 60 = none := by kernel_rfl
theorem apf_60 : apf Tryd.prog 60 = some (6, 128) := by kernel_rfl
theorem tyc_61 : tyc Tryd.prog 61 = some (true, 6) := by kernel_rfl
theorem zer_61 : zer Tryd.prog 61 = some [Go.Value.slice none 0 0, Go.Value.slice none 0 0, Go.Value.int Go.IntKind.i64 0, Go.Value.slice none 0 0, Go.Value.slice none 0 0, Go.Value.slice none 0 0] := by kernel_rfl
theorem zds_61 : zds Tryd.prog 61 = some [.v (Go.Value.slice none 0 0), .v (Go.Value.slice none 0 0), .v (Go.Value.int Go.IntKind.i64 0), .v (Go.Value.slice none 0 0), .v (Go.Value.slice none 0 0), .v (Go.Value.slice none 0 0)] := by kernel_rfl
theorem fld_61_0 : fld Tryd.prog 61 0 = some (0, 32) := by kernel_rfl
theorem fld_61_1 : fld Tryd.prog 61 1 = some (4, 29) := by kernel_rfl
theorem fld_61_2 : fld Tryd.prog 61 2 = some (5, 29) := by kernel_rfl
theorem stf_61 : stf Tryd.prog 61 = some [(0, 4), (4, 1), (5, 1)] := by kernel_rfl
theorem arr_61 : arr Tryd.prog 61 = none := by kernel_rfl
theorem apf_61 : apf Tryd.prog 61 = some (6, 128) := by kernel_rfl
theorem tyc_63 : tyc Tryd.prog 63 = some (false, 1) := by kernel_rfl
theorem zer_63 : zer Tryd.prog 63 = some [Go.Value.nilFunc] := by kernel_rfl
theorem tyc_64 : tyc Tryd.prog 64 = some (false, 1) := by kernel_rfl
theorem zer_64 : zer Tryd.prog 64 = some [Go.Value.slice none 0 0] := by kernel_rfl
theorem zds_64 : zds Tryd.prog 64 = some [.sl 1 []] := by kernel_rfl
theorem elt_64 : elt Tryd.prog 64 = some (3, 1) := by kernel_rfl
theorem apf_64 : apf Tryd.prog 64 = some (1, 24) := by kernel_rfl
theorem tyc_65 : tyc Tryd.prog 65 = some (false, 1) := by kernel_rfl
theorem zer_65 : zer Tryd.prog 65 = some [Go.Value.slice none 0 0] := by kernel_rfl
theorem zds_65 : zds Tryd.prog 65 = some [.sl 4 []] := by kernel_rfl
theorem elt_65 : elt Tryd.prog 65 = some (92, 4) := by kernel_rfl
theorem apf_65 : apf Tryd.prog 65 = some (1, 24) := by kernel_rfl
theorem tyc_66 : tyc Tryd.prog 66 = some (true, 3) := by kernel_rfl
theorem zer_66 : zer Tryd.prog 66 = some [Go.Value.slice none 0 0, Go.Value.slice none 0 0, Go.Value.slice none 0 0] := by kernel_rfl
theorem zds_66 : zds Tryd.prog 66 = some [.v (Go.Value.slice none 0 0), .v (Go.Value.slice none 0 0), .v (Go.Value.slice none 0 0)] := by kernel_rfl
theorem fld_66_0 : fld Tryd.prog 66 0 = some (0, 64) := by kernel_rfl
theorem fld_66_1 : fld Tryd.prog 66 1 = some (1, 64) := by kernel_rfl
theorem fld_66_2 : fld Tryd.prog 66 2 = some (2, 65) := by kernel_rfl
theorem stf_66 : stf Tryd.prog 66 = some [(0, 1), (1, 1), (2, 1)] := by kernel_rfl
theorem arr_66 : arr Tryd.prog 66 = none := by kernel_rfl
theorem apf_66 : apf Tryd.prog 66 = some (3, 72) := by kernel_rfl
theorem tyc_67 : tyc Tryd.prog 67 = some (true, 3) := by kernel_rfl
theorem zer_67 : zer Tryd.prog 67 = some [Go.Value.slice none 0 0, Go.Value.slice none 0 0, Go.Value.slice none 0 0] := by kernel_rfl
theorem zds_67 : zds Tryd.prog 67 = some [.v (Go.Value.slice none 0 0), .v (Go.Value.slice none 0 0), .v (Go.Value.slice none 0 0)] := by kernel_rfl
theorem fld_67_0 : fld Tryd.prog 67 0 = some (0, 64) := by kernel_rfl
theorem fld_67_1 : fld Tryd.prog 67 1 = some (1, 64) := by kernel_rfl
theorem fld_67_2 : fld Tryd.prog 67 2 = some (2, 65) := by kernel_rfl
theorem stf_67 : stf Tryd.prog 67 = some [(0, 1), (1, 1), (2, 1)] := by kernel_rfl
theorem arr_67 : arr Tryd.prog 67 = none := by kernel_rfl
theorem apf_67 : apf Tryd.prog 67 = some (3, 72) := by kernel_rfl
theorem tyc_68 : tyc Tryd.prog 68 = some (false, 1) := by kernel_rfl
theorem zer_68 : zer Tryd.prog 68 = some [Go.Value.nilFunc] := by kernel_rfl
theorem tyc_69 : tyc Tryd.prog 69 = some (false, 1) := by kernel_rfl
theorem zer_69 : zer Tryd.prog 69 = some [Go.Value.nilFunc] := by kernel_rfl
theorem tyc_70 : tyc Tryd.prog 70 = some (false, 1) := by kernel_rfl
theorem zer_70 : zer Tryd.prog 70 = some [Go.Value.slice none 0 0] := by kernel_rfl
theorem zds_70 : zds Tryd.prog 70 = some [.sl 1 []] := by kernel_rfl
theorem elt_70 : elt Tryd.prog 70 = some (5, 1) := by kernel_rfl
theorem apf_70 : apf Tryd.prog 70 = some (1, 24) := by kernel_rfl
theorem tyc_72 : tyc Tryd.prog 72 = some (false, 1) := by kernel_rfl
theorem zer_72 : zer Tryd.prog 72 = some [Go.Value.nilFunc] := by kernel_rfl
theorem tyc_74 : tyc Tryd.prog 74 = some (false, 1) := by kernel_rfl
theorem zer_74 : zer Tryd.prog 74 = some [Go.Value.nilFunc] := by kernel_rfl
theorem tyc_76 : tyc Tryd.prog 76 = some (false, 1) := by kernel_rfl
theorem zer_76 : zer Tryd.prog 76 = some [Go.Value.nilFunc] := by kernel_rfl
theorem tyc_77 : tyc Tryd.prog 77 = some (false, 1) := by kernel_rfl
theorem zer_77 : zer Tryd.prog 77 = some [Go.Value.slice none 0 0] := by kernel_rfl
theorem zds_77 : zds Tryd.prog 77 = some [.sl 1 []] := by kernel_rfl
theorem elt_77 : elt Tryd.prog 77 = some (106, 1) := by kernel_rfl
theorem apf_77 : apf Tryd.prog 77 = some (1, 24) := by kernel_rfl
theorem tyc_78 : tyc Tryd.prog 78 = some (false, 1) := by kernel_rfl
theorem zer_78 : zer Tryd.prog 78 = some [Go.Value.slice none 0 0] := by kernel_rfl
theorem zds_78 : zds Tryd.prog 78 = some [.sl 1 []] := by kernel_rfl
theorem elt_78 : elt Tryd.prog 78 = some (106, 1) := by kernel_rfl
theorem apf_78 : apf Tryd.prog 78 = some (1, 24) := by kernel_rfl
theorem tyc_80 : tyc Tryd.prog 80 = some (false, 1) := by kernel_rfl
theorem zer_80 : zer Tryd.prog 80 = some [Go.Value.nilFunc] := by kernel_rfl
theorem tyc_81 : tyc Tryd.prog 81 = some (false, 1) := by kernel_rfl
theorem zer_81 : zer Tryd.prog 81 = some [Go.Value.nilFunc] := by kernel_rfl
theorem tyc_83 : tyc Tryd.prog 83 = some (false, 1) := by kernel_rfl
theorem zer_83 : zer Tryd.prog 83 = some [Go.Value.nilFunc] := by kernel_rfl
theorem tyc_84 : tyc Tryd.prog 84 = some (false, 1) := by kernel_rfl
theorem zer_84 : zer Tryd.prog 84 = some [Go.Value.int Go.IntKind.i64 0] := by kernel_rfl
theorem zds_84 : zds Tryd.prog 84 = some [.v (Go.Value.int Go.IntKind.i64 0)] := by kernel_rfl
theorem und_84 : Tryd.prog.underlying 84 = some (.int .i64) := by kernel_rfl
theorem apf_84 : apf Tryd.prog 84 = some (1, 8) := by kernel_rfl
theorem tyc_85 : tyc Tryd.prog 85 = some (true, 6) := by kernel_rfl
theorem zer_85 : zer Tryd.prog 85 = some [Go.Value.int Go.IntKind.i64 0, Go.Value.int Go.IntKind.i64 0, Go.Value.int Go.IntKind.i64 0, Go.Value.int Go.IntKind.i64 0, Go.Value.int Go.IntKind.i64 0, Go.Value.int Go.IntKind.i64 0] := by kernel_rfl
theorem zds_85 : zds Tryd.prog 85 = some [.v (Go.Value.int Go.IntKind.i64 0), .v (Go.Value.int Go.IntKind.i64 0), .v (Go.Value.int Go.IntKind.i64 0), .v (Go.Value.int Go.IntKind.i64 0), .v (Go.Value.int Go.IntKind.i64 0), .v (Go.Value.int Go.IntKind.i64 0)] := by kernel_rfl
theorem fld_85_0 : fld Tryd.prog 85 0 = some (0, 3) := by kernel_rfl
theorem fld_85_1 : fld Tryd.prog 85 1 = some (1, 3) := by kernel_rfl
theorem fld_85_2 : fld Tryd.prog 85 2 = some (2, 3) := by kernel_rfl
theorem fld_85_3 : fld Tryd.prog 85 3 = some (3, 84) := by kernel_rfl
theorem fld_85_4 : fld Tryd.prog 85 4 = some (4, 3) := by kernel_rfl
theorem fld_85_5 : fld Tryd.prog 85 5 = some (5, 3) := by kernel_rfl
theorem stf_85 : stf Tryd.prog 85 = some [(0, 1), (1, 1), (2, 1), (3, 1), (4, 1), (5, 1)] := by kernel_rfl
theorem arr_85 : arr Tryd.prog 85 = none := by kernel_rfl
theorem apf_85 : apf Tryd.prog 85 = some (6, 48) := by kernel_rfl
theorem tyc_86 : tyc Tryd.prog 86 = some (true, 6) := by kernel_rfl
theorem zer_86 : zer Tryd.prog 86 = some [Go.Value.int Go.IntKind.i64 0, Go.Value.int Go.IntKind.i64 0, Go.Value.int Go.IntKind.i64 0, Go.Value.int Go.IntKind.i64 0, Go.Value.int Go.IntKind.i64 0, Go.Value.int Go.IntKind.i64 0] := by kernel_rfl
theorem zds_86 : zds Tryd.prog 86 = some [.v (Go.Value.int Go.IntKind.i64 0), .v (Go.Value.int Go.IntKind.i64 0), .v (Go.Value.int Go.IntKind.i64 0), .v (Go.Value.int Go.IntKind.i64 0), .v (Go.Value.int Go.IntKind.i64 0), .v (Go.Value.int Go.IntKind.i64 0)] := by kernel_rfl
theorem fld_86_0 : fld Tryd.prog 86 0 = some (0, 3) := by kernel_rfl
theorem fld_86_1 : fld Tryd.prog 86 1 = some (1, 3) := by kernel_rfl
theorem fld_86_2 : fld Tryd.prog 86 2 = some (2, 3) := by kernel_rfl
theorem fld_86_3 : fld Tryd.prog 86 3 = some (3, 84) := by kernel_rfl
theorem fld_86_4 : fld Tryd.prog 86 4 = some (4, 3) := by kernel_rfl
theorem fld_86_5 : fld Tryd.prog 86 5 = some (5, 3) := by kernel_rfl
theorem stf_86 : stf Tryd.prog 86 = some [(0, 1), (1, 1), (2, 1), (3, 1), (4, 1), (5, 1)] := by kernel_rfl
theorem arr_86 : arr Tryd.prog 86 = none := by kernel_rfl
theorem apf_86 : apf Tryd.prog 86 = some (6, 48) := by kernel_rfl
theorem tyc_87 : tyc Tryd.prog 87 = some (false, 1) := by kernel_rfl
theorem zer_87 : zer Tryd.prog 87 = some [Go.Value.nilFunc] := by kernel_rfl
theorem tyc_88 : tyc Tryd.prog 88 = some (false, 1) := by kernel_rfl
theorem zer_88 : zer Tryd.prog 88 = some [Go.Value.nilFunc] := by kernel_rfl
theorem tyc_89 : tyc Tryd.prog 89 = some (false, 1) := by kernel_rfl
theorem zer_89 : zer Tryd.prog 89 = some [Go.Value.nilFunc] := by kernel_rfl
theorem tyc_90 : tyc Tryd.prog 90 = some (false, 1) := by kernel_rfl
theorem zer_90 : zer Tryd.prog 90 = some [Go.Value.nilFunc] := by kernel_rfl
theorem tyc_91 : tyc Tryd.prog 91 = some (true, 4) := by kernel_rfl
theorem zer_91 : zer Tryd.prog 91 = some [Go.Value.int Go.IntKind.i64 0, Go.Value.int Go.IntKind.i64 0, Go.Value.int Go.IntKind.i64 0, Go.Value.int Go.IntKind.i64 0] := by kernel_rfl
theorem zds_91 : zds Tryd.prog 91 = some [.v (Go.Value.int Go.IntKind.i64 0), .v (Go.Value.int Go.IntKind.i64 0), .v (Go.Value.int Go.IntKind.i64 0), .v (Go.Value.int Go.IntKind.i64 0)] := by kernel_rfl
theorem fld_91_0 : fld Tryd.prog 91 0 = some (0, 50) := by kernel_rfl
theorem fld_91_1 : fld Tryd.prog 91 1 = some (2, 50) := by kernel_rfl
theorem stf_91 : stf Tryd.prog 91 = some [(0, 2), (2, 2)] := by kernel_rfl
theorem arr_91 : arr Tryd.prog 91 = none := by kernel_rfl
theorem apf_91 : apf Tryd.prog 91 = some (4, 32) := by kernel_rfl
theorem tyc_92 : tyc Tryd.prog 92 = some (true, 4) := by kernel_rfl
theorem zer_92 : zer Tryd.prog 92 = some [Go.Value.int Go.IntKind.i64 0, Go.Value.int Go.IntKind.i64 0, Go.Value.int Go.IntKind.i64 0, Go.Value.int Go.IntKind.i64 0] := by kernel_rfl
theorem zds_92 : zds Tryd.prog 92 = some [.v (Go.Value.int Go.IntKind.i64 0), .v (Go.Value.int Go.IntKind.i64 0), .v (Go.Value.int Go.IntKind.i64 0), .v (Go.Value.int Go.IntKind.i64 0)] := by kernel_rfl
theorem fld_92_0 : fld Tryd.prog 92 0 = some (0, 50) := by kernel_rfl
theorem fld_92_1 : fld Tryd.prog 92 1 = some (2, 50) := by kernel_rfl
theorem stf_92 : stf Tryd.prog 92 = some [(0, 2), (2, 2)] := by kernel_rfl
theorem arr_92 : arr Tryd.prog 92 = none := by kernel_rfl
theorem apf_92 : apf Tryd.prog 92 = some (4, 32) := by kernel_rfl
theorem tyc_93 : tyc Tryd.prog 93 = some (false, 1) := by kernel_rfl
theorem zer_93 : zer Tryd.prog 93 = some [Go.Value.map none] := by kernel_rfl
theorem zds_93 : zds Tryd.prog 93 = some [.v (Go.Value.map none)] := by kernel_rfl
theorem mpt_93 : mpt Tryd.prog 93 = some (.i64, 64) := by kernel_rfl
theorem apf_93 : apf Tryd.prog 93 = some (1, 8) := by kernel_rfl
theorem tyc_94 : tyc Tryd.prog 94 = some (false, 1) := by kernel_rfl
theorem zer_94 : zer Tryd.prog 94 = some [Go.Value.nilFunc] := by kernel_rfl
theorem tyc_95 : tyc Tryd.prog 95 = some (true, 2) := by kernel_rfl
theorem zer_95 : zer Tryd.prog 95 = some [Go.Value.int Go.IntKind.i64 0, Go.Value.int Go.IntKind.i64 0] := by kernel_rfl
theorem zds_95 : zds Tryd.prog 95 = some [.v (Go.Value.int Go.IntKind.i64 0), .v (Go.Value.int Go.IntKind.i64 0)] := by kernel_rfl
theorem fld_95_0 : fld Tryd.prog 95 0 = some (0, 3) := by kernel_rfl
theorem fld_95_1 : fld Tryd.prog 95 1 = some (1, 3) := by kernel_rfl
theorem stf_95 : stf Tryd.prog 95 = some [(0, 1), (1, 1)] := by kernel_rfl
theorem arr_95 : arr Tryd.prog 95 = none := by kernel_rfl
theorem apf_95 : apf Tryd.prog 95 = some (2, 16) := by kernel_rfl
theorem tyc_96 : tyc Tryd.prog 96 = some (true, 2) := by kernel_rfl
theorem zer_96 : zer Tryd.prog 96 = some [Go.Value.int Go.IntKind.i64 0, Go.Value.int Go.IntKind.i64 0] := by kernel_rfl
theorem zds_96 : zds Tryd.prog 96 = some [.v (Go.Value.int Go.IntKind.i64 0), .v (Go.Value.int Go.IntKind.i64 0)] := by kernel_rfl
theorem fld_96_0 : fld Tryd.prog 96 0 = some (0, 3) := by kernel_rfl
theorem fld_96_1 : fld Tryd.prog 96 1 = some (1, 3) := by kernel_rfl
theorem stf_96 : stf Tryd.prog 96 = some [(0, 1), (1, 1)] := by kernel_rfl
theorem arr_96 : arr Tryd.prog 96 = none := by kernel_rfl
theorem apf_96 : apf Tryd.prog 96 = some (2, 16) := by kernel_rfl
theorem tyc_97 : tyc Tryd.prog 97 = some (false, 1) := by kernel_rfl
theorem zer_97 : zer Tryd.prog 97 = some [Go.Value.nilFunc] := by kernel_rfl
theorem tyc_98 : tyc Tryd.prog 98 = some (false, 1) := by kernel_rfl
theorem zer_98 : zer Tryd.prog 98 = some [Go.Value.nilFunc] := by kernel_rfl
theorem tyc_100 : tyc Tryd.prog 100 = some (false, 1) := by kernel_rfl
theorem zer_100 : zer Tryd.prog 100 = some [Go.Value.nilFunc] := by kernel_rfl
theorem tyc_101 : tyc Tryd.prog 101 = some (false, 1) := by kernel_rfl
theorem zer_101 : zer Tryd.prog 101 = some [Go.Value.nilFunc] := by kernel_rfl
theorem tyc_102 : tyc Tryd.prog 102 = some (false, 1) := by kernel_rfl
theorem zer_102 : zer Tryd.prog 102 = some [Go.Value.nilFunc] := by kernel_rfl
theorem tyc_103 : tyc Tryd.prog 103 = some (false, 1) := by kernel_rfl
theorem zer_103 : zer Tryd.prog 103 = some [Go.Value.nilFunc] := by kernel_rfl
theorem tyc_104 : tyc Tryd.prog 104 = some (false, 1) := by kernel_rfl
theorem zer_104 : zer Tryd.prog 104 = some [Go.Value.nilFunc] := by kernel_rfl
theorem tyc_105 : tyc Tryd.prog 105 = some (false, 1) := by kernel_rfl
theorem zer_105 : zer Tryd.prog 105 = some [Go.Value.int Go.IntKind.u64 0] := by kernel_rfl
theorem zds_105 : zds Tryd.prog 105 = some [.v (Go.Value.int Go.IntKind.u64 0)] := by kernel_rfl
theorem und_105 : Tryd.prog.underlying 105 = some (.int .u64) := by kernel_rfl
theorem apf_105 : apf Tryd.prog 105 = some (1, 8) := by kernel_rfl
theorem tyc_106 : tyc Tryd.prog 106 = some (false, 1) := by kernel_rfl
theorem zer_106 : zer Tryd.prog 106 = some [Go.Value.int Go.IntKind.u64 0] := by kernel_rfl
theorem zds_106 : zds Tryd.prog 106 = some [.v (Go.Value.int Go.IntKind.u64 0)] := by kernel_rfl
theorem und_106 : Tryd.prog.underlying 106 = some (.int .u64) := by kernel_rfl
theorem apf_106 : apf Tryd.prog 106 = some (1, 8) := by kernel_rfl
theorem tyc_107 : tyc Tryd.prog 107 = some (false, 1) := by kernel_rfl
theorem zer_107 : zer Tryd.prog 107 = some [Go.Value.nilFunc] := by kernel_rfl
theorem tyc_108 : tyc Tryd.prog 108 = some (false, 1) := by kernel_rfl
theorem zer_108 : zer Tryd.prog 108 = some [Go.Value.nilFunc] := by kernel_rfl
theorem tyc_109 : tyc Tryd.prog 109 = some (false, 1) := by kernel_rfl
theorem zer_109 : zer Tryd.prog 109 = some [Go.Value.nilFunc] := by kernel_rfl
theorem tyc_110 : tyc Tryd.prog 110 = some (false, 1) := by kernel_rfl
theorem zer_110 : zer Tryd.prog 110 = some [Go.Value.nilFunc] := by kernel_rfl
theorem tyc_111 : tyc Tryd.prog 111 = some (false, 1) := by kernel_rfl
theorem zer_111 : zer Tryd.prog 111 = some [Go.Value.nilFunc] := by kernel_rfl
theorem tyc_112 : tyc Tryd.prog 112 = some (false, 1) := by kernel_rfl
theorem zer_112 : zer Tryd.prog 112 = some [Go.Value.nilFunc] := by kernel_rfl
theorem tyc_113 : tyc Tryd.prog 113 = some (false, 1) := by kernel_rfl
theorem zer_113 : zer Tryd.prog 113 = some [Go.Value.pointer none] := by kernel_rfl
theorem zds_113 : zds Tryd.prog 113 = some [.v (Go.Value.pointer none)] := by kernel_rfl
theorem apf_113 : apf Tryd.prog 113 = some (1, 8) := by kernel_rfl
theorem tyc_114 : tyc Tryd.prog 114 = some (true, 3) := by kernel_rfl
theorem zer_114 : zer Tryd.prog 114 = some [Go.Value.int Go.IntKind.i64 0, Go.Value.int Go.IntKind.i64 0, Go.Value.pointer none] := by kernel_rfl
theorem zds_114 : zds Tryd.prog 114 = some [.v (Go.Value.int Go.IntKind.i64 0), .v (Go.Value.int Go.IntKind.i64 0), .v (Go.Value.pointer none)] := by kernel_rfl
theorem fld_114_0 : fld Tryd.prog 114 0 = some (0, 3) := by kernel_rfl
theorem fld_114_1 : fld Tryd.prog 114 1 = some (1, 3) := by kernel_rfl
theorem fld_114_2 : fld Tryd.prog 114 2 = some (2, 113) := by kernel_rfl
theorem stf_114 : stf Tryd.prog 114 = some [(0, 1), (1, 1), (2, 1)] := by kernel_rfl
theorem arr_114 : arr Tryd.prog 114 = none := by kernel_rfl
theorem apf_114 : apf Tryd.prog 114 = some (3, 24) := by kernel_rfl
theorem tyc_115 : tyc Tryd.prog 115 = some (true, 3) := by kernel_rfl
theorem zer_115 : zer Tryd.prog 115 = some [Go.Value.int Go.IntKind.i64 0, Go.Value.int Go.IntKind.i64 0, Go.Value.pointer none] := by kernel_rfl
theorem zds_115 : zds Tryd.prog 115 = some [.v (Go.Value.int Go.IntKind.i64 0), .v (Go.Value.int Go.IntKind.i64 0), .v (Go.Value.pointer none)] := by kernel_rfl
theorem fld_115_0 : fld Tryd.prog 115 0 = some (0, 3) := by kernel_rfl
theorem fld_115_1 : fld Tryd.prog 115 1 = some (1, 3) := by kernel_rfl
theorem fld_115_2 : fld Tryd.prog 115 2 = some (2, 113) := by kernel_rfl
theorem stf_115 : stf Tryd.prog 115 = some [(0, 1), (1, 1), (2, 1)] := by kernel_rfl
theorem arr_115 : arr Tryd.prog 115 = none := by kernel_rfl
theorem apf_115 : apf Tryd.prog 115 = some (3, 24) := by kernel_rfl
theorem tyc_116 : tyc Tryd.prog 116 = some (true, 15) := by kernel_rfl
theorem zer_116 : zer Tryd.prog 116 = some [Go.Value.int Go.IntKind.i64 0, Go.Value.int Go.IntKind.i64 0, Go.Value.pointer none, Go.Value.int Go.IntKind.i64 0, Go.Value.int Go.IntKind.i64 0, Go.Value.pointer none, Go.Value.int Go.IntKind.i64 0, Go.Value.int Go.IntKind.i64 0, Go.Value.pointer none, Go.Value.int Go.IntKind.i64 0, Go.Value.int Go.IntKind.i64 0, Go.Value.pointer none, Go.Value.int Go.IntKind.i64 0, Go.Value.int Go.IntKind.i64 0, Go.Value.pointer none] := by kernel_rfl
theorem zds_116 : zds Tryd.prog 116 = some [.v (Go.Value.int Go.IntKind.i64 0), .v (Go.Value.int Go.IntKind.i64 0), .v (Go.Value.pointer none), .v (Go.Value.int Go.IntKind.i64 0), .v (Go.Value.int Go.IntKind.i64 0), .v (Go.Value.pointer none), .v (Go.Value.int Go.IntKind.i64 0), .v (Go.Value.int Go.IntKind.i64 0), .v (Go.Value.pointer none), .v (Go.Value.int Go.IntKind.i64 0), .v (Go.Value.int Go.IntKind.i64 0), .v (Go.Value.pointer none), .v (Go.Value.int Go.IntKind.i64 0), .v (Go.Value.int Go.IntKind.i64 0), .v (Go.Value.pointer none)] := by kernel_rfl
theorem arr_116 : arr Tryd.prog 116 = some (5, 115, 3) := by kernel_rfl
theorem stf_116 : stf Tryd.prog 116 = none := by kernel_rfl
theorem apf_116 : apf Tryd.prog 116 = some (15, 120) := by kernel_rfl
theorem tyc_117 : tyc Tryd.prog 117 = some (false, 1) := by kernel_rfl
theorem zer_117 : zer Tryd.prog 117 = some [Go.Value.nilFunc] := by kernel_rfl
theorem tyc_118 : tyc Tryd.prog 118 = some (false, 1) := by kernel_rfl
theorem zer_118 : zer Tryd.prog 118 = some [Go.Value.pointer none] := by kernel_rfl
theorem zds_118 : zds Tryd.prog 118 = some [.v (Go.Value.pointer none)] := by kernel_rfl
theorem apf_118 : apf Tryd.prog 118 = some (1, 8) := by kernel_rfl
theorem tyc_119 : tyc Tryd.prog 119 = some (false, 1) := by kernel_rfl
theorem zer_119 : zer Tryd.prog 119 = some [Go.Value.nilFunc] := by kernel_rfl
theorem tyc_120 : tyc Tryd.prog 120 = some (false, 1) := by kernel_rfl
theorem zer_120 : zer Tryd.prog 120 = some [Go.Value.nilFunc] := by kernel_rfl
theorem tyc_121 : tyc Tryd.prog 121 = some (false, 1) := by kernel_rfl
theorem zer_121 : zer Tryd.prog 121 = some [Go.Value.nilFunc] := by kernel_rfl
theorem tyc_123 : tyc Tryd.prog 123 = some (false, 1) := by kernel_rfl
theorem zer_123 : zer Tryd.prog 123 = some [Go.Value.nilFunc] := by kernel_rfl
theorem tyc_124 : tyc Tryd.prog 124 = some (false, 1) := by kernel_rfl
theorem zer_124 : zer Tryd.prog 124 = some [Go.Value.nilFunc] := by kernel_rfl
theorem tyc_126 : tyc Tryd.prog 126 = some (false, 1) := by kernel_rfl
theorem zer_126 : zer Tryd.prog 126 = some [Go.Value.nilFunc] := by kernel_rfl
theorem tyc_127 : tyc Tryd.prog 127 = some (false, 1) := by kernel_rfl
theorem zer_127 : zer Tryd.prog 127 = some [Go.Value.nilFunc] := by kernel_rfl
theorem tyc_128 : tyc Tryd.prog 128 = some (false, 1) := by kernel_rfl
theorem zer_128 : zer Tryd.prog 128 = some [Go.Value.nilFunc] := by kernel_rfl
theorem tyc_129 : tyc Tryd.prog 129 = some (false, 1) := by kernel_rfl
theorem zer_129 : zer Tryd.prog 129 = some [Go.Value.nilFunc] := by kernel_rfl
theorem tyc_130 : tyc Tryd.prog 130 = some (false, 1) := by kernel_rfl
theorem zer_130 : zer Tryd.prog 130 = some [Go.Value.nilFunc] := by kernel_rfl
theorem tyc_131 : tyc Tryd.prog 131 = some (false, 1) := by kernel_rfl
theorem zer_131 : zer Tryd.prog 131 = some [Go.Value.nilFunc] := by kernel_rfl
theorem tyc_132 : tyc Tryd.prog 132 = some (false, 1) := by kernel_rfl
theorem zer_132 : zer Tryd.prog 132 = some [Go.Value.nilFunc] := by kernel_rfl
theorem tyc_133 : tyc Tryd.prog 133 = some (false, 1) := by kernel_rfl
theorem zer_133 : zer Tryd.prog 133 = some [Go.Value.map none] := by kernel_rfl
theorem zds_133 : zds Tryd.prog 133 = some [.v (Go.Value.map none)] := by kernel_rfl
theorem mpt_133 : mpt Tryd.prog 133 = some (.i64, 3) := by kernel_rfl
theorem apf_133 : apf Tryd.prog 133 = some (1, 8) := by kernel_rfl
theorem tyc_134 : tyc Tryd.prog 134 = some (true, 2) := by kernel_rfl
theorem zer_134 : zer Tryd.prog 134 = some [Go.Value.slice none 0 0, Go.Value.map none] := by kernel_rfl
theorem zds_134 : zds Tryd.prog 134 = some [.v (Go.Value.slice none 0 0), .v (Go.Value.map none)] := by kernel_rfl
theorem fld_134_0 : fld Tryd.prog 134 0 = some (0, 78) := by kernel_rfl
theorem fld_134_1 : fld Tryd.prog 134 1 = some (1, 133) := by kernel_rfl
theorem stf_134 : stf Tryd.prog 134 = some [(0, 1), (1, 1)] := by kernel_rfl
theorem arr_134 : arr Tryd.prog 134 = none := by kernel_rfl
theorem apf_134 : apf Tryd.prog 134 = some (2, 32) := by kernel_rfl
theorem tyc_135 : tyc Tryd.prog 135 = some (true, 2) := by kernel_rfl
theorem zer_135 : zer Tryd.prog 135 = some [Go.Value.slice none 0 0, Go.Value.map none] := by kernel_rfl
theorem zds_135 : zds Tryd.prog 135 = some [.v (Go.Value.slice none 0 0), .v (Go.Value.map none)] := by kernel_rfl
theorem fld_135_0 : fld Tryd.prog 135 0 = some (0, 78) := by kernel_rfl
theorem fld_135_1 : fld Tryd.prog 135 1 = some (1, 133) := by kernel_rfl
theorem stf_135 : stf Tryd.prog 135 = some [(0, 1), (1, 1)] := by kernel_rfl
theorem arr_135 : arr Tryd.prog 135 = none := by kernel_rfl
theorem apf_135 : apf Tryd.prog 135 = some (2, 32) := by kernel_rfl
theorem tyc_136 : tyc Tryd.prog 136 = some (false, 1) := by kernel_rfl
theorem zer_136 : zer Tryd.prog 136 = some [Go.Value.nilFunc] := by kernel_rfl
theorem tyc_137 : tyc Tryd.prog 137 = some (false, 1) := by kernel_rfl
theorem zer_137 : zer Tryd.prog 137 = some [Go.Value.pointer none] := by kernel_rfl
theorem zds_137 : zds Tryd.prog 137 = some [.v (Go.Value.pointer none)] := by kernel_rfl
theorem apf_137 : apf Tryd.prog 137 = some (1, 8) := by kernel_rfl
theorem tyc_138 : tyc Tryd.prog 138 = some (false, 1) := by kernel_rfl
theorem zer_138 : zer Tryd.prog 138 = some [Go.Value.nilFunc] := by kernel_rfl
theorem tyc_139 : tyc Tryd.prog 139 = some (false, 1) := by kernel_rfl
theorem zer_139 : zer Tryd.prog 139 = some [Go.Value.nilFunc] := by kernel_rfl
theorem tyc_140 : tyc Tryd.prog 140 = some (false, 1) := by kernel_rfl
theorem zer_140 : zer Tryd.prog 140 = some [Go.Value.nilFunc] := by kernel_rfl
theorem tyc_141 : tyc Tryd.prog 141 = some (false, 1) := by kernel_rfl
theorem zer_141 : zer Tryd.prog 141 = some [Go.Value.nilFunc] := by kernel_rfl
theorem tyc_142 : tyc Tryd.prog 142 = some (false, 1) := by kernel_rfl
theorem zer_142 : zer Tryd.prog 142 = some [Go.Value.nilFunc] := by kernel_rfl
theorem tyc_143 : tyc Tryd.prog 143 = some (false, 1) := by kernel_rfl
theorem zer_143 : zer Tryd.prog 143 = some [Go.Value.nilFunc] := by kernel_rfl
theorem tyc_144 : tyc Tryd.prog 144 = some (false, 1) := by kernel_rfl
theorem zer_144 : zer Tryd.prog 144 = some [Go.Value.nilFunc] := by kernel_rfl
theorem tyc_145 : tyc Tryd.prog 145 = some (false, 1) := by kernel_rfl
theorem zer_145 : zer Tryd.prog 145 = some [Go.Value.nilFunc] := by kernel_rfl
theorem tyc_146 : tyc Tryd.prog 146 = some (false, 1) := by kernel_rfl
theorem zer_146 : zer Tryd.prog 146 = some [Go.Value.nilFunc] := by kernel_rfl
theorem tyc_147 : tyc Tryd.prog 147 = some (false, 1) := by kernel_rfl
theorem zer_147 : zer Tryd.prog 147 = some [Go.Value.nilFunc] := by kernel_rfl
theorem tyc_148 : tyc Tryd.prog 148 = some (false, 1) := by kernel_rfl
theorem zer_148 : zer Tryd.prog 148 = some [Go.Value.nilFunc] := by kernel_rfl
theorem tyc_149 : tyc Tryd.prog 149 = some (false, 1) := by kernel_rfl
theorem zer_149 : zer Tryd.prog 149 = some [Go.Value.nilFunc] := by kernel_rfl
theorem tyc_150 : tyc Tryd.prog 150 = some (false, 1) := by kernel_rfl
theorem zer_150 : zer Tryd.prog 150 = some [Go.Value.nilFunc] := by kernel_rfl
theorem tyc_151 : tyc Tryd.prog 151 = some (false, 1) := by kernel_rfl
theorem zer_151 : zer Tryd.prog 151 = some [Go.Value.nilFunc] := by kernel_rfl
theorem tyc_152 : tyc Tryd.prog 152 = some (true, 64) := by kernel_rfl
theorem zer_152 : zer Tryd.prog 152 = some [Go.Value.int Go.IntKind.u8 0, Go.Value.int Go.IntKind.u8 0, Go.Value.int Go.IntKind.u8 0, Go.Value.int Go.IntKind.u8 0, Go.Value.int Go.IntKind.u8 0, Go.Value.int Go.IntKind.u8 0, Go.Value.int Go.IntKind.u8 0, Go.Value.int Go.IntKind.u8 0, Go.Value.int Go.IntKind.u8 0, Go.Value.int Go.IntKind.u8 0, Go.Value.int Go.IntKind.u8 0, Go.Value.int Go.IntKind.u8 0, Go.Value.int Go.IntKind.u8 0, Go.Value.int Go.IntKind.u8 0, Go.Value.int Go.IntKind.u8 0, Go.Value.int Go.IntKind.u8 0, Go.Value.int Go.IntKind.u8 0, Go.Value.int Go.IntKind.u8 0, Go.Value.int Go.IntKind.u8 0, Go.Value.int Go.IntKind.u8 0, Go.Value.int Go.IntKind.u8 0, Go.Value.int Go.IntKind.u8 0, Go.Value.int Go.IntKind.u8 0, Go.Value.int Go.IntKind.u8 0, Go.Value.int Go.IntKind.u8 0, Go.Value.int Go.IntKind.u8 0, Go.Value.int Go.IntKind.u8 0, Go.Value.int Go.IntKind.u8 0, Go.Value.int Go.IntKind.u8 0, Go.Value.int Go.IntKind.u8 0, Go.Value.int Go.IntKind.u8 0, Go.Value.int Go.IntKind.u8 0, Go.Value.int Go.IntKind.u8 0, Go.Value.int Go.IntKind.u8 0, Go.Value.int Go.IntKind.u8 0, Go.Value.int Go.IntKind.u8 0, Go.Value.int Go.IntKind.u8 0, Go.Value.int Go.IntKind.u8 0, Go.Value.int Go.IntKind.u8 0, Go.Value.int Go.IntKind.u8 0, Go.Value.int Go.IntKind.u8 0, Go.Value.int Go.IntKind.u8 0, Go.Value.int Go.IntKind.u8 0, Go.Value.int Go.IntKind.u8 0, Go.Value.int Go.IntKind.u8 0, Go.Value.int Go.IntKind.u8 0, Go.Value.int Go.IntKind.u8 0, Go.Value.int Go.IntKind.u8 0, Go.Value.int Go.IntKind.u8 0, Go.Value.int Go.IntKind.u8 0, Go.Value.int Go.IntKind.u8 0, Go.Value.int Go.IntKind.u8 0, Go.Value.int Go.IntKind.u8 0, Go.Value.int Go.IntKind.u8 0, Go.Value.int Go.IntKind.u8 0, Go.Value.int Go.IntKind.u8 0, Go.Value.int Go.IntKind.u8 0, Go.Value.int Go.IntKind.u8 0, Go.Value.int Go.IntKind.u8 0, Go.Value.int Go.IntKind.u8 0, Go.Value.int Go.IntKind.u8 0, Go.Value.int Go.IntKind.u8 0, Go.Value.int Go.IntKind.u8 0, Go.Value.int Go.IntKind.u8 0] := by kernel_rfl
theorem zds_152 : zds Tryd.prog 152 = some [.v (Go.Value.int Go.IntKind.u8 0), .v (Go.Value.int Go.IntKind.u8 0), .v (Go.Value.int Go.IntKind.u8 0), .v (Go.Value.int Go.IntKind.u8 0), .v (Go.Value.int Go.IntKind.u8 0), .v (Go.Value.int Go.IntKind.u8 0), .v (Go.Value.int Go.IntKind.u8 0), .v (Go.Value.int Go.IntKind.u8 0), .v (Go.Value.int Go.IntKind.u8 0), .v (Go.Value.int Go.IntKind.u8 0), .v (Go.Value.int Go.IntKind.u8 0), .v (Go.Value.int Go.IntKind.u8 0), .v (Go.Value.int Go.IntKind.u8 0), .v (Go.Value.int Go.IntKind.u8 0), .v (Go.Value.int Go.IntKind.u8 0), .v (Go.Value.int Go.IntKind.u8 0), .v (Go.Value.int Go.IntKind.u8 0), .v (Go.Value.int Go.IntKind.u8 0), .v (Go.Value.int Go.IntKind.u8 0), .v (Go.Value.int Go.IntKind.u8 0), .v (Go.Value.int Go.IntKind.u8 0), .v (Go.Value.int Go.IntKind.u8 0), .v (Go.Value.int Go.IntKind.u8 0), .v (Go.Value.int Go.IntKind.u8 0), .v (Go.Value.int Go.IntKind.u8 0), .v (Go.Value.int Go.IntKind.u8 0), .v (Go.Value.int Go.IntKind.u8 0), .v (Go.Value.int Go.IntKind.u8 0), .v (Go.Value.int Go.IntKind.u8 0), .v (Go.Value.int Go.IntKind.u8 0), .v (Go.Value.int Go.IntKind.u8 0), .v (Go.Value.int Go.IntKind.u8 0), .v (Go.Value.int Go.IntKind.u8 0), .v (Go.Value.int Go.IntKind.u8 0), .v (Go.Value.int Go.IntKind.u8 0), .v (Go.Value.int Go.IntKind.u8 0), .v (Go.Value.int Go.IntKind.u8 0), .v (Go.Value.int Go.IntKind.u8 0), .v (Go.Value.int Go.IntKind.u8 0), .v (Go.Value.int Go.IntKind.u8 0), .v (Go.Value.int Go.IntKind.u8 0), .v (Go.Value.int Go.IntKind.u8 0), .v (Go.Value.int Go.IntKind.u8 0), .v (Go.Value.int Go.IntKind.u8 0), .v (Go.Value.int Go.IntKind.u8 0), .v (Go.Value.int Go.IntKind.u8 0), .v (Go.Value.int Go.IntKind.u8 0), .v (Go.Value.int Go.IntKind.u8 0), .v (Go.Value.int Go.IntKind.u8 0), .v (Go.Value.int Go.IntKind.u8 0), .v (Go.Value.int Go.IntKind.u8 0), .v (Go.Value.int Go.IntKind.u8 0), .v (Go.Value.int Go.IntKind.u8 0), .v (Go.Value.int Go.IntKind.u8 0), .v (Go.Value.int Go.IntKind.u8 0), .v (Go.Value.int Go.IntKind.u8 0), .v (Go.Value.int Go.IntKind.u8 0), .v (Go.Value.int Go.IntKind.u8 0), .v (Go.Value.int Go.IntKind.u8 0), .v (Go.Value.int Go.IntKind.u8 0), .v (Go.Value.int Go.IntKind.u8 0), .v (Go.Value.int Go.IntKind.u8 0), .v (Go.Value.int Go.IntKind.u8 0), .v (Go.Value.int Go.IntKind.u8 0)] := by kernel_rfl
theorem arr_152 : arr Tryd.prog 152 = some (64, 5, 1) := by kernel_rfl
theorem stf_152 : stf Tryd.prog 152 = none := by kernel_rfl
theorem apf_152 : apf Tryd.prog 152 = some (64, 64) := by kernel_rfl
theorem tyc_153 : tyc Tryd.prog 153 = some (false, 1) := by kernel_rfl
theorem zer_153 : zer Tryd.prog 153 = some [Go.Value.nilFunc] := by kernel_rfl
theorem tyc_154 : tyc Tryd.prog 154 = some (false, 1) := by kernel_rfl
theorem zer_154 : zer Tryd.prog 154 = some [Go.Value.nilFunc] := by kernel_rfl
theorem tyc_155 : tyc Tryd.prog 155 = some (false, 1) := by kernel_rfl
theorem zer_155 : zer Tryd.prog 155 = some [Go.Value.nilFunc] := by kernel_rfl
theorem tyc_156 : tyc Tryd.prog 156 = some (false, 1) := by kernel_rfl
theorem zer_156 : zer Tryd.prog 156 = some [Go.Value.nilFunc] := by kernel_rfl
theorem tyc_157 : tyc Tryd.prog 157 = some (true, 4) := by kernel_rfl
theorem zer_157 : zer Tryd.prog 157 = some [Go.Value.pointer none, Go.Value.pointer none, Go.Value.pointer none, Go.Value.string { data := #[] }] := by kernel_rfl
theorem zds_157 : zds Tryd.prog 157 = some [.v (Go.Value.pointer none), .v (Go.Value.pointer none), .v (Go.Value.pointer none), .v (Go.Value.string { data := #[] })] := by kernel_rfl
theorem fld_157_0 : fld Tryd.prog 157 0 = some (0, 17) := by kernel_rfl
theorem fld_157_1 : fld Tryd.prog 157 1 = some (1, 17) := by kernel_rfl
theorem fld_157_2 : fld Tryd.prog 157 2 = some (2, 17) := by kernel_rfl
theorem fld_157_3 : fld Tryd.prog 157 3 = some (3, 9) := by kernel_rfl
theorem stf_157 : stf Tryd.prog 157 = some [(0, 1), (1, 1), (2, 1), (3, 1)] := by kernel_rfl
theorem arr_157 : arr Tryd.prog 157 = none := by kernel_rfl
theorem apf_157 : apf Tryd.prog 157 = some (4, 40) := by kernel_rfl
theorem tyc_158 : tyc Tryd.prog 158 = some (true, 4) := by kernel_rfl
theorem zer_158 : zer Tryd.prog 158 = some [Go.Value.pointer none, Go.Value.pointer none, Go.Value.pointer none, Go.Value.string { data := #[] }] := by kernel_rfl
theorem zds_158 : zds Tryd.prog 158 = some [.v (Go.Value.pointer none), .v (Go.Value.pointer none), .v (Go.Value.pointer none), .v (Go.Value.string { data := #[] })] := by kernel_rfl
theorem fld_158_0 : fld Tryd.prog 158 0 = some (0, 17) := by kernel_rfl
theorem fld_158_1 : fld Tryd.prog 158 1 = some (1, 17) := by kernel_rfl
theorem fld_158_2 : fld Tryd.prog 158 2 = some (2, 17) := by kernel_rfl
theorem fld_158_3 : fld Tryd.prog 158 3 = some (3, 9) := by kernel_rfl
theorem stf_158 : stf Tryd.prog 158 = some [(0, 1), (1, 1), (2, 1), (3, 1)] := by kernel_rfl
theorem arr_158 : arr Tryd.prog 158 = none := by kernel_rfl
theorem apf_158 : apf Tryd.prog 158 = some (4, 40) := by kernel_rfl
theorem tyc_159 : tyc Tryd.prog 159 = some (true, 0) := by kernel_rfl
theorem zer_159 : zer Tryd.prog 159 = some [] := by kernel_rfl
theorem zds_159 : zds Tryd.prog 159 = some [] := by kernel_rfl
theorem arr_159 : arr Tryd.prog 159 = some (0, 16, 1) := by kernel_rfl
theorem stf_159 : stf Tryd.prog 159 = none := by kernel_rfl
theorem tyc_160 : tyc Tryd.prog 160 = some (true, 0) := by kernel_rfl
theorem zer_160 : zer Tryd.prog 160 = some [] := by kernel_rfl
theorem zds_160 : zds Tryd.prog 160 = some [] := by kernel_rfl
theorem stf_160 : stf Tryd.prog 160 = some [(0, 0)] := by kernel_rfl
theorem arr_160 : arr Tryd.prog 160 = none := by kernel_rfl
theorem tyc_161 : tyc Tryd.prog 161 = some (true, 0) := by kernel_rfl
theorem zer_161 : zer Tryd.prog 161 = some [] := by kernel_rfl
theorem zds_161 : zds Tryd.prog 161 = some [] := by kernel_rfl
theorem stf_161 : stf Tryd.prog 161 = some [(0, 0)] := by kernel_rfl
theorem arr_161 : arr Tryd.prog 161 = none := by kernel_rfl
theorem tyc_162 : tyc Tryd.prog 162 = some (false, 1) := by kernel_rfl
theorem zer_162 : zer Tryd.prog 162 = some [Go.Value.nilFunc] := by kernel_rfl
theorem tyc_163 : tyc Tryd.prog 163 = some (false, 1) := by kernel_rfl
theorem zer_163 : zer Tryd.prog 163 = some [Go.Value.int Go.IntKind.u32 0] := by kernel_rfl
theorem zds_163 : zds Tryd.prog 163 = some [.v (Go.Value.int Go.IntKind.u32 0)] := by kernel_rfl
theorem und_163 : Tryd.prog.underlying 163 = some (.int .u32) := by kernel_rfl
theorem apf_163 : apf Tryd.prog 163 = some (1, 4) := by kernel_rfl
theorem tyc_164 : tyc Tryd.prog 164 = some (false, 1) := by kernel_rfl
theorem zer_164 : zer Tryd.prog 164 = some [Go.Value.int Go.IntKind.u8 0] := by kernel_rfl
theorem zds_164 : zds Tryd.prog 164 = some [.v (Go.Value.int Go.IntKind.u8 0)] := by kernel_rfl
theorem und_164 : Tryd.prog.underlying 164 = some (.int .u8) := by kernel_rfl
theorem apf_164 : apf Tryd.prog 164 = some (1, 1) := by kernel_rfl
theorem tyc_165 : tyc Tryd.prog 165 = some (false, 1) := by kernel_rfl
theorem zer_165 : zer Tryd.prog 165 = some [Go.Value.int Go.IntKind.u8 0] := by kernel_rfl
theorem zds_165 : zds Tryd.prog 165 = some [.v (Go.Value.int Go.IntKind.u8 0)] := by kernel_rfl
theorem und_165 : Tryd.prog.underlying 165 = some (.int .u8) := by kernel_rfl
theorem apf_165 : apf Tryd.prog 165 = some (1, 1) := by kernel_rfl
theorem tyc_166 : tyc Tryd.prog 166 = some (false, 1) := by kernel_rfl
theorem zer_166 : zer Tryd.prog 166 = some [Go.Value.nilFunc] := by kernel_rfl
theorem tyc_167 : tyc Tryd.prog 167 = some (false, 1) := by kernel_rfl
theorem zer_167 : zer Tryd.prog 167 = some [Go.Value.pointer none] := by kernel_rfl
theorem zds_167 : zds Tryd.prog 167 = some [.v (Go.Value.pointer none)] := by kernel_rfl
theorem apf_167 : apf Tryd.prog 167 = some (1, 8) := by kernel_rfl
theorem tyc_168 : tyc Tryd.prog 168 = some (false, 1) := by kernel_rfl
theorem zer_168 : zer Tryd.prog 168 = some [Go.Value.int Go.IntKind.i32 0] := by kernel_rfl
theorem zds_168 : zds Tryd.prog 168 = some [.v (Go.Value.int Go.IntKind.i32 0)] := by kernel_rfl
theorem und_168 : Tryd.prog.underlying 168 = some (.int .i32) := by kernel_rfl
theorem apf_168 : apf Tryd.prog 168 = some (1, 4) := by kernel_rfl
theorem tyc_169 : tyc Tryd.prog 169 = some (false, 1) := by kernel_rfl
theorem zer_169 : zer Tryd.prog 169 = some [Go.Value.int Go.IntKind.i32 0] := by kernel_rfl
theorem zds_169 : zds Tryd.prog 169 = some [.v (Go.Value.int Go.IntKind.i32 0)] := by kernel_rfl
theorem und_169 : Tryd.prog.underlying 169 = some (.int .i32) := by kernel_rfl
theorem apf_169 : apf Tryd.prog 169 = some (1, 4) := by kernel_rfl
theorem tyc_170 : tyc Tryd.prog 170 = some (true, 11) := by kernel_rfl
theorem zer_170 : zer Tryd.prog 170 = some [Go.Value.int Go.IntKind.u64 0, Go.Value.int Go.IntKind.u64 0, Go.Value.int Go.IntKind.u32 0, Go.Value.int Go.IntKind.u8 0, Go.Value.int Go.IntKind.u8 0, Go.Value.int Go.IntKind.u8 0, Go.Value.int Go.IntKind.u8 0, Go.Value.nilFunc, Go.Value.pointer none, Go.Value.int Go.IntKind.i32 0, Go.Value.int Go.IntKind.i32 0] := by kernel_rfl
theorem zds_170 : zds Tryd.prog 170 = some [.v (Go.Value.int Go.IntKind.u64 0), .v (Go.Value.int Go.IntKind.u64 0), .v (Go.Value.int Go.IntKind.u32 0), .v (Go.Value.int Go.IntKind.u8 0), .v (Go.Value.int Go.IntKind.u8 0), .v (Go.Value.int Go.IntKind.u8 0), .v (Go.Value.int Go.IntKind.u8 0), .v (Go.Value.nilFunc), .v (Go.Value.pointer none), .v (Go.Value.int Go.IntKind.i32 0), .v (Go.Value.int Go.IntKind.i32 0)] := by kernel_rfl
theorem fld_170_0 : fld Tryd.prog 170 0 = some (0, 12) := by kernel_rfl
theorem fld_170_1 : fld Tryd.prog 170 1 = some (1, 12) := by kernel_rfl
theorem fld_170_2 : fld Tryd.prog 170 2 = some (2, 163) := by kernel_rfl
theorem fld_170_3 : fld Tryd.prog 170 3 = some (3, 164) := by kernel_rfl
theorem fld_170_4 : fld Tryd.prog 170 4 = some (4, 5) := by kernel_rfl
theorem fld_170_5 : fld Tryd.prog 170 5 = some (5, 5) := by kernel_rfl
theorem fld_170_6 : fld Tryd.prog 170 6 = some (6, 165) := by kernel_rfl
theorem fld_170_7 : fld Tryd.prog 170 7 = some (7, 166) := by kernel_rfl
theorem fld_170_8 : fld Tryd.prog 170 8 = some (8, 167) := by kernel_rfl
theorem fld_170_9 : fld Tryd.prog 170 9 = some (9, 168) := by kernel_rfl
theorem fld_170_10 : fld Tryd.prog 170 10 = some (10, 169) := by kernel_rfl
theorem stf_170 : stf Tryd.prog 170 = some [(0, 1), (1, 1), (2, 1), (3, 1), (4, 1), (5, 1), (6, 1), (7, 1), (8, 1), (9, 1), (10, 1)] := by kernel_rfl
theorem arr_170 : arr Tryd.prog 170 = none := by kernel_rfl
theorem apf_170 : apf Tryd.prog 170 = some (11, 48) := by kernel_rfl
theorem tyc_171 : tyc Tryd.prog 171 = some (true, 11) := by kernel_rfl
theorem zer_171 : zer Tryd.prog 171 = some [Go.Value.int Go.IntKind.u64 0, Go.Value.int Go.IntKind.u64 0, Go.Value.int Go.IntKind.u32 0, Go.Value.int Go.IntKind.u8 0, Go.Value.int Go.IntKind.u8 0, Go.Value.int Go.IntKind.u8 0, Go.Value.int Go.IntKind.u8 0, Go.Value.nilFunc, Go.Value.pointer none, Go.Value.int Go.IntKind.i32 0, Go.Value.int Go.IntKind.i32 0] := by kernel_rfl
theorem zds_171 : zds Tryd.prog 171 = some [.v (Go.Value.int Go.IntKind.u64 0), .v (Go.Value.int Go.IntKind.u64 0), .v (Go.Value.int Go.IntKind.u32 0), .v (Go.Value.int Go.IntKind.u8 0), .v (Go.Value.int Go.IntKind.u8 0), .v (Go.Value.int Go.IntKind.u8 0), .v (Go.Value.int Go.IntKind.u8 0), .v (Go.Value.nilFunc), .v (Go.Value.pointer none), .v (Go.Value.int Go.IntKind.i32 0), .v (Go.Value.int Go.IntKind.i32 0)] := by kernel_rfl
theorem fld_171_0 : fld Tryd.prog 171 0 = some (0, 12) := by kernel_rfl
theorem fld_171_1 : fld Tryd.prog 171 1 = some (1, 12) := by kernel_rfl
theorem fld_171_2 : fld Tryd.prog 171 2 = some (2, 163) := by kernel_rfl
theorem fld_171_3 : fld Tryd.prog 171 3 = some (3, 164) := by kernel_rfl
theorem fld_171_4 : fld Tryd.prog 171 4 = some (4, 5) := by kernel_rfl
theorem fld_171_5 : fld Tryd.prog 171 5 = some (5, 5) := by kernel_rfl
theorem fld_171_6 : fld Tryd.prog 171 6 = some (6, 165) := by kernel_rfl
theorem fld_171_7 : fld Tryd.prog 171 7 = some (7, 166) := by kernel_rfl
theorem fld_171_8 : fld Tryd.prog 171 8 = some (8, 167) := by kernel_rfl
theorem fld_171_9 : fld Tryd.prog 171 9 = some (9, 168) := by kernel_rfl
theorem fld_171_10 : fld Tryd.prog 171 10 = some (10, 169) := by kernel_rfl
theorem stf_171 : stf Tryd.prog 171 = some [(0, 1), (1, 1), (2, 1), (3, 1), (4, 1), (5, 1), (6, 1), (7, 1), (8, 1), (9, 1), (10, 1)] := by kernel_rfl
theorem arr_171 : arr Tryd.prog 171 = none := by kernel_rfl
theorem apf_171 : apf Tryd.prog 171 = some (11, 48) := by kernel_rfl
theorem tyc_172 : tyc Tryd.prog 172 = some (false, 1) := by kernel_rfl
theorem zer_172 : zer Tryd.prog 172 = some [Go.Value.nilFunc] := by kernel_rfl
theorem tyc_174 : tyc Tryd.prog 174 = some (false, 1) := by kernel_rfl
theorem zer_174 : zer Tryd.prog 174 = some [Go.Value.nilFunc] := by kernel_rfl
theorem zro_3 : zro Tryd.prog 3 = some (Go.Value.int Go.IntKind.i64 0) := by kernel_rfl
theorem zro_64 : zro Tryd.prog 64 = some (Go.Value.slice none 0 0) := by kernel_rfl
theorem fun_3 : Tryd.prog.funcs[3]? = some Tryd.f3 := by kernel_rfl
theorem fun_4 : Tryd.prog.funcs[4]? = some Tryd.f4 := by kernel_rfl
theorem fun_5 : Tryd.prog.funcs[5]? = some Tryd.f5 := by kernel_rfl
theorem fun_6 : Tryd.prog.funcs[6]? = some Tryd.f6 := by kernel_rfl
theorem fun_7 : Tryd.prog.funcs[7]? = some Tryd.f7 := by kernel_rfl
theorem fun_8 : Tryd.prog.funcs[8]? = some Tryd.f8 := by kernel_rfl
theorem fun_9 : Tryd.prog.funcs[9]? = some Tryd.f9 := by kernel_rfl
theorem fun_10 : Tryd.prog.funcs[10]? = some Tryd.f10 := by kernel_rfl
theorem fun_11 : Tryd.prog.funcs[11]? = some Tryd.f11 := by kernel_rfl
theorem fun_12 : Tryd.prog.funcs[12]? = some Tryd.f12 := by kernel_rfl
theorem fun_13 : Tryd.prog.funcs[13]? = some Tryd.f13 := by kernel_rfl
theorem fun_14 : Tryd.prog.funcs[14]? = some Tryd.f14 := by kernel_rfl
theorem fun_15 : Tryd.prog.funcs[15]? = some Tryd.f15 := by kernel_rfl
theorem fun_16 : Tryd.prog.funcs[16]? = some Tryd.f16 := by kernel_rfl
theorem fun_17 : Tryd.prog.funcs[17]? = some Tryd.f17 := by kernel_rfl
theorem fun_18 : Tryd.prog.funcs[18]? = some Tryd.f18 := by kernel_rfl
theorem fun_19 : Tryd.prog.funcs[19]? = some Tryd.f19 := by kernel_rfl
theorem fun_20 : Tryd.prog.funcs[20]? = some Tryd.f20 := by kernel_rfl
theorem fun_21 : Tryd.prog.funcs[21]? = some Tryd.f21 := by kernel_rfl
theorem fun_22 : Tryd.prog.funcs[22]? = some Tryd.f22 := by kernel_rfl
theorem fun_23 : Tryd.prog.funcs[23]? = some Tryd.f23 := by kernel_rfl
theorem fun_24 : Tryd.prog.funcs[24]? = some Tryd.f24 := by kernel_rfl
theorem fun_25 : Tryd.prog.funcs[25]? = some Tryd.f25 := by kernel_rfl
theorem fun_26 : Tryd.prog.funcs[26]? = some Tryd.f26 := by kernel_rfl
theorem fun_27 : Tryd.prog.funcs[27]? = some Tryd.f27 := by kernel_rfl
theorem fun_28 : Tryd.prog.funcs[28]? = some Tryd.f28 := by kernel_rfl
theorem fun_29 : Tryd.prog.funcs[29]? = some Tryd.f29 := by kernel_rfl
theorem fun_30 : Tryd.prog.funcs[30]? = some Tryd.f30 := by kernel_rfl
theorem fun_31 : Tryd.prog.funcs[31]? = some Tryd.f31 := by kernel_rfl
theorem fun_32 : Tryd.prog.funcs[32]? = some Tryd.f32 := by kernel_rfl
theorem fun_33 : Tryd.prog.funcs[33]? = some Tryd.f33 := by kernel_rfl
theorem fun_34 : Tryd.prog.funcs[34]? = some Tryd.f34 := by kernel_rfl
theorem fun_35 : Tryd.prog.funcs[35]? = some Tryd.f35 := by kernel_rfl
theorem fun_36 : Tryd.prog.funcs[36]? = some Tryd.f36 := by kernel_rfl
theorem fun_37 : Tryd.prog.funcs[37]? = some Tryd.f37 := by kernel_rfl
theorem fun_38 : Tryd.prog.funcs[38]? = some Tryd.f38 := by kernel_rfl
theorem fun_39 : Tryd.prog.funcs[39]? = some Tryd.f39 := by kernel_rfl
theorem fun_40 : Tryd.prog.funcs[40]? = some Tryd.f40 := by kernel_rfl
theorem fun_41 : Tryd.prog.funcs[41]? = some Tryd.f41 := by kernel_rfl
theorem fun_42 : Tryd.prog.funcs[42]? = some Tryd.f42 := by kernel_rfl
theorem fun_43 : Tryd.prog.funcs[43]? = some Tryd.f43 := by kernel_rfl
theorem fun_44 : Tryd.prog.funcs[44]? = some Tryd.f44 := by kernel_rfl
theorem fun_45 : Tryd.prog.funcs[45]? = some Tryd.f45 := by kernel_rfl
theorem fun_46 : Tryd.prog.funcs[46]? = some Tryd.f46 := by kernel_rfl
theorem fun_47 : Tryd.prog.funcs[47]? = some Tryd.f47 := by kernel_rfl
theorem fun_48 : Tryd.prog.funcs[48]? = some Tryd.f48 := by kernel_rfl
theorem fun_49 : Tryd.prog.funcs[49]? = some Tryd.f49 := by kernel_rfl
theorem fun_50 : Tryd.prog.funcs[50]? = some Tryd.f50 := by kernel_rfl
theorem fun_51 : Tryd.prog.funcs[51]? = some Tryd.f51 := by kernel_rfl
theorem fun_52 : Tryd.prog.funcs[52]? = some Tryd.f52 := by kernel_rfl
theorem fun_53 : Tryd.prog.funcs[53]? = some Tryd.f53 := by kernel_rfl
theorem fun_54 : Tryd.prog.funcs[54]? = some Tryd.f54 := by kernel_rfl
theorem fun_55 : Tryd.prog.funcs[55]? = some Tryd.f55 := by kernel_rfl
theorem fun_56 : Tryd.prog.funcs[56]? = some Tryd.f56 := by kernel_rfl
theorem fun_57 : Tryd.prog.funcs[57]? = some Tryd.f57 := by kernel_rfl
theorem fun_58 : Tryd.prog.funcs[58]? = some Tryd.f58 := by kernel_rfl
theorem fun_59 : Tryd.prog.funcs[59]? = some Tryd.f59 := by kernel_rfl
theorem fun_60 : Tryd.prog.funcs[60]? = some Tryd.f60 := by kernel_rfl
theorem fun_61 : Tryd.prog.funcs[61]? = some Tryd.f61 := by kernel_rfl
theorem fun_62 : Tryd.prog.funcs[62]? = some Tryd.f62 := by kernel_rfl
theorem fun_63 : Tryd.prog.funcs[63]? = some Tryd.f63 := by kernel_rfl
theorem fun_64 : Tryd.prog.funcs[64]? = some Tryd.f64 := by kernel_rfl
theorem fun_65 : Tryd.prog.funcs[65]? = some Tryd.f65 := by kernel_rfl
theorem fun_66 : Tryd.prog.funcs[66]? = some Tryd.f66 := by kernel_rfl
theorem fun_67 : Tryd.prog.funcs[67]? = some Tryd.f67 := by kernel_rfl
theorem fun_68 : Tryd.prog.funcs[68]? = some Tryd.f68 := by kernel_rfl
theorem fun_69 : Tryd.prog.funcs[69]? = some Tryd.f69 := by kernel_rfl
theorem fun_70 : Tryd.prog.funcs[70]? = some Tryd.f70 := by kernel_rfl
theorem fun_71 : Tryd.prog.funcs[71]? = some Tryd.f71 := by kernel_rfl
theorem fun_72 : Tryd.prog.funcs[72]? = some Tryd.f72 := by kernel_rfl
theorem fun_73 : Tryd.prog.funcs[73]? = some Tryd.f73 := by kernel_rfl
theorem fun_74 : Tryd.prog.funcs[74]? = some Tryd.f74 := by kernel_rfl
theorem fun_75 : Tryd.prog.funcs[75]? = some Tryd.f75 := by kernel_rfl
theorem fun_76 : Tryd.prog.funcs[76]? = some Tryd.f76 := by kernel_rfl
theorem fun_77 : Tryd.prog.funcs[77]? = some Tryd.f77 := by kernel_rfl
theorem fun_78 : Tryd.prog.funcs[78]? = some Tryd.f78 := by kernel_rfl
theorem fun_79 : Tryd.prog.funcs[79]? = some Tryd.f79 := by kernel_rfl
theorem fun_80 : Tryd.prog.funcs[80]? = some Tryd.f80 := by kernel_rfl
theorem fun_81 : Tryd.prog.funcs[81]? = some Tryd.f81 := by kernel_rfl
def fA0 := (And.intro (And.intro (And.intro (And.intro (And.intro (And.intro (And.intro (And.intro (And.intro @tyc_1 @zer_1) (And.intro @tyc_2 (And.intro @zer_2 @zds_2))) (And.intro (And.intro @und_2 (And.intro @apf_2 @tyc_3)) (And.intro @zer_3 (And.intro @zds_3 @und_3)))) (And.intro (And.intro (And.intro @apf_3 (And.intro @tyc_4 @zer_4)) (And.intro @zds_4 (And.intro @und_4 @apf_4))) (And.intro (And.intro @tyc_5 (And.intro @zer_5 @zds_5)) (And.intro @und_5 (And.intro @apf_5 @tyc_6))))) (And.intro (And.intro (And.intro (And.intro @zer_6 @zds_6) (And.intro @und_6 (And.intro @apf_6 @tyc_7))) (And.intro (And.intro @zer_7 (And.intro @zds_7 @fld_7_0)) (And.intro @fld_7_1 (And.intro @fld_7_2 @fld_7_3)))) (And.intro (And.intro (And.intro @stf_7 (And.intro @arr_7 @apf_7)) (And.intro @tyc_8 (And.intro @zer_8 @zds_8))) (And.intro (And.intro @fld_8_0 (And.intro @fld_8_1 @fld_8_2)) (And.intro @fld_8_3 (And.intro @stf_8 @arr_8)))))) (And.intro (And.intro (And.intro (And.intro (And.intro @apf_8 @tyc_9) (And.intro @zer_9 (And.intro @zds_9 @apf_9))) (And.intro (And.intro @tyc_10 (And.intro @zer_10 @zds_10)) (And.intro @apf_10 (And.intro @tyc_11 @zer_11)))) (And.intro (And.intro (And.intro @zds_11 (And.intro @apf_11 @tyc_12)) (And.intro @zer_12 (And.intro @zds_12 @und_12))) (And.intro (And.intro @apf_12 (And.intro @tyc_13 @zer_13)) (And.intro @zds_13 (And.intro @fld_13_0 @fld_13_1))))) (And.intro (And.intro (And.intro (And.intro @stf_13 (And.intro @arr_13 @apf_13)) (And.intro @tyc_14 (And.intro @zer_14 @zds_14))) (And.intro (And.intro @fld_14_0 (And.intro @fld_14_1 @stf_14)) (And.intro @arr_14 (And.intro @apf_14 @tyc_15)))) (And.intro (And.intro (And.intro @zer_15 (And.intro @zds_15 @apf_15)) (And.intro @tyc_16 (And.intro @zer_16 @zds_16))) (And.intro (And.intro @apf_16 (And.intro @tyc_17 @zer_17)) (And.intro @zds_17 (And.intro @apf_17 @tyc_18))))))) (And.intro (And.intro (And.intro (And.intro (And.intro (And.intro @zer_18 @zds_18) (And.intro @fld_18_0 (And.intro @stf_18 @arr_18))) (And.intro (And.intro @apf_18 (And.intro @tyc_19 @zer_19)) (And.intro @zds_19 (And.intro @fld_19_0 @stf_19)))) (And.intro (And.intro (And.intro @arr_19 (And.intro @apf_19 @tyc_21)) (And.intro @zer_21 (And.intro @zds_21 @und_21))) (And.intro (And.intro @apf_21 (And.intro @tyc_22 @zer_22)) (And.intro @zds_22 (And.intro @arr_22 @stf_22))))) (And.intro (And.intro (And.intro (And.intro @apf_22 @tyc_23) (And.intro @zer_23 (And.intro @zds_23 @arr_23))) (And.intro (And.intro @stf_23 (And.intro @apf_23 @tyc_24)) (And.intro @zer_24 (And.intro @zds_24 @elt_24)))) (And.intro (And.intro (And.intro @apf_24 (And.intro @tyc_25 @zer_25)) (And.intro @zds_25 (And.intro @arr_25 @stf_25))) (And.intro (And.intro @apf_25 (And.intro @tyc_26 @zer_26)) (And.intro @zds_26 (And.intro @fld_26_0 @fld_26_1)))))) (And.intro (And.intro (And.intro (And.intro (And.intro @fld_26_2 @fld_26_3) (And.intro @fld_26_4 (And.intro @stf_26 @arr_26))) (And.intro (And.intro @apf_26 (And.intro @tyc_27 @zer_27)) (And.intro @zds_27 (And.intro @fld_27_0 @fld_27_1)))) (And.intro (And.intro (And.intro @fld_27_2 (And.intro @fld_27_3 @fld_27_4)) (And.intro @stf_27 (And.intro @arr_27 @apf_27))) (And.intro (And.intro @tyc_28 (And.intro @zer_28 @zds_28)) (And.intro @arr_28 (And.intro @stf_28 @apf_28))))) (And.intro (And.intro (And.intro (And.intro @tyc_29 (And.intro @zer_29 @zds_29)) (And.intro @elt_29 (And.intro @apf_29 @tyc_30))) (And.intro (And.intro @zer_30 (And.intro @zds_30 @elt_30)) (And.intro @apf_30 (And.intro @tyc_31 @zer_31)))) (And.intro (And.intro (And.intro @zds_31 (And.intro @fld_31_0 @fld_31_1)) (And.intro @fld_31_2 (And.intro @fld_31_3 @stf_31))) (And.intro (And.intro @arr_31 (And.intro @apf_31 @tyc_32)) (And.intro @zer_32 (And.intro @zds_32 @fld_32_0)))))))) (And.intro (And.intro (And.intro (And.intro (And.intro (And.intro (And.intro @fld_32_1 @fld_32_2) (And.intro @fld_32_3 (And.intro @stf_32 @arr_32))) (And.intro (And.intro @apf_32 (And.intro @tyc_33 @zer_33)) (And.intro @zds_33 (And.intro @fld_33_0 @fld_33_1)))) (And.intro (And.intro (And.intro @fld_33_2 (And.intro @fld_33_3 @stf_33)) (And.intro @arr_33 (And.intro @apf_33 @tyc_34))) (And.intro (And.intro @zer_34 (And.intro @zds_34 @fld_34_0)) (And.intro @fld_34_1 (And.intro @fld_34_2 @fld_34_3))))) (And.intro (And.intro (And.intro (And.intro @stf_34 @arr_34) (And.intro @apf_34 (And.intro @tyc_36 @zer_36))) (And.intro (And.intro @tyc_37 (And.intro @zer_37 @zds_37)) (And.intro @elt_37 (And.intro @apf_37 @tyc_38)))) (And.intro (And.intro (And.intro @zer_38 (And.intro @zds_38 @und_38)) (And.intro @apf_38 (And.intro @tyc_40 @zer_40))) (And.intro (And.intro @tyc_41 (And.intro @zer_41 @tyc_42)) (And.intro @zer_42 (And.intro @zds_42 @elt_42)))))) (And.intro (And.intro (And.intro (And.intro (And.intro @apf_42 @tyc_43) (And.intro @zer_43 (And.intro @zds_43 @elt_43))) (And.intro (And.intro @apf_43 (And.intro @tyc_44 @zer_44)) (And.intro @zds_44 (And.intro @fld_44_0 @fld_44_1)))) (And.intro (And.intro (And.intro @stf_44 (And.intro @arr_44 @apf_44)) (And.intro @tyc_45 (And.intro @zer_45 @zds_45))) (And.intro (And.intro @fld_45_0 (And.intro @fld_45_1 @stf_45)) (And.intro @arr_45 (And.intro @apf_45 @tyc_47))))) (And.intro (And.intro (And.intro (And.intro @zer_47 (And.intro @tyc_48 @zer_48)) (And.intro @zds_48 (And.intro @und_48 @apf_48))) (And.intro (And.intro @tyc_49 (And.intro @zer_49 @zds_49)) (And.intro @fld_49_0 (And.intro @fld_49_1 @stf_49)))) (And.intro (And.intro (And.intro @arr_49 (And.intro @apf_49 @tyc_50)) (And.intro @zer_50 (And.intro @zds_50 @fld_50_0))) (And.intro (And.intro @fld_50_1 (And.intro @stf_50 @arr_50)) (And.intro @apf_50 (And.intro @tyc_51 @zer_51))))))) (And.intro (And.intro (And.intro (And.intro (And.intro (And.intro @tyc_52 @zer_52) (And.intro @zds_52 (And.intro @fld_52_0 @fld_52_1))) (And.intro (And.intro @stf_52 (And.intro @arr_52 @apf_52)) (And.intro @tyc_53 (And.intro @zer_53 @zds_53)))) (And.intro (And.intro (And.intro @fld_53_0 (And.intro @fld_53_1 @stf_53)) (And.intro @arr_53 (And.intro @apf_53 @tyc_55))) (And.intro (And.intro @zer_55 (And.intro @tyc_56 @zer_56)) (And.intro @tyc_57 (And.intro @zer_57 @tyc_58))))) (And.intro (And.intro (And.intro (And.intro @zer_58 @zds_58) (And.intro @fld_58_0 (And.intro @fld_58_1 @fld_58_2))) (And.intro (And.intro @stf_58 (And.intro @arr_58 @apf_58)) (And.intro @tyc_59 (And.intro @zer_59 @zds_59)))) (And.intro (And.intro (And.intro @fld_59_0 (And.intro @fld_59_1 @fld_59_2)) (And.intro @stf_59 (And.intro @arr_59 @apf_59))) (And.intro (And.intro @tyc_60 (And.intro @zer_60 @zds_60)) (And.intro @fld_60_0 (And.intro @fld_60_1 @fld_60_2)))))) (And.intro (And.intro (And.intro (And.intro (And.intro @stf_60 @arr_60) (And.intro @apf_60 (And.intro @tyc_61 @zer_61))) (And.intro (And.intro @zds_61 (And.intro @fld_61_0 @fld_61_1)) (And.intro @fld_61_2 (And.intro @stf_61 @arr_61)))) (And.intro (And.intro (And.intro @apf_61 (And.intro @tyc_63 @zer_63)) (And.intro @tyc_64 (And.intro @zer_64 @zds_64))) (And.intro (And.intro @elt_64 (And.intro @apf_64 @tyc_65)) (And.intro @zer_65 (And.intro @zds_65 @elt_65))))) (And.intro (And.intro (And.intro (And.intro @apf_65 (And.intro @tyc_66 @zer_66)) (And.intro @zds_66 (And.intro @fld_66_0 @fld_66_1))) (And.intro (And.intro @fld_66_2 (And.intro @stf_66 @arr_66)) (And.intro @apf_66 (And.intro @tyc_67 @zer_67)))) (And.intro (And.intro (And.intro @zds_67 (And.intro @fld_67_0 @fld_67_1)) (And.intro @fld_67_2 (And.intro @stf_67 @arr_67))) (And.intro (And.intro @apf_67 (And.intro @tyc_68 @zer_68)) (And.intro @tyc_69 (And.intro @zer_69 @tyc_70))))))))) (And.intro (And.intro (And.intro (And.intro (And.intro (And.intro (And.intro (And.intro @zer_70 @zds_70) (And.intro @elt_70 (And.intro @apf_70 @tyc_72))) (And.intro (And.intro @zer_72 (And.intro @tyc_74 @zer_74)) (And.intro @tyc_76 (And.intro @zer_76 @tyc_77)))) (And.intro (And.intro (And.intro @zer_77 (And.intro @zds_77 @elt_77)) (And.intro @apf_77 (And.intro @tyc_78 @zer_78))) (And.intro (And.intro @zds_78 (And.intro @elt_78 @apf_78)) (And.intro @tyc_80 (And.intro @zer_80 @tyc_81))))) (And.intro (And.intro (And.intro (And.intro @zer_81 @tyc_83) (And.intro @zer_83 (And.intro @tyc_84 @zer_84))) (And.intro (And.intro @zds_84 (And.intro @und_84 @apf_84)) (And.intro @tyc_85 (And.intro @zer_85 @zds_85)))) (And.intro (And.intro (And.intro @fld_85_0 (And.intro @fld_85_1 @fld_85_2)) (And.intro @fld_85_3 (And.intro @fld_85_4 @fld_85_5))) (And.intro (And.intro @stf_85 (And.intro @arr_85 @apf_85)) (And.intro @tyc_86 (And.intro @zer_86 @zds_86)))))) (And.intro (And.intro (And.intro (And.intro (And.intro @fld_86_0 @fld_86_1) (And.intro @fld_86_2 (And.intro @fld_86_3 @fld_86_4))) (And.intro (And.intro @fld_86_5 (And.intro @stf_86 @arr_86)) (And.intro @apf_86 (And.intro @tyc_87 @zer_87)))) (And.intro (And.intro (And.intro @tyc_88 (And.intro @zer_88 @tyc_89)) (And.intro @zer_89 (And.intro @tyc_90 @zer_90))) (And.intro (And.intro @tyc_91 (And.intro @zer_91 @zds_91)) (And.intro @fld_91_0 (And.intro @fld_91_1 @stf_91))))) (And.intro (And.intro (And.intro (And.intro @arr_91 (And.intro @apf_91 @tyc_92)) (And.intro @zer_92 (And.intro @zds_92 @fld_92_0))) (And.intro (And.intro @fld_92_1 (And.intro @stf_92 @arr_92)) (And.intro @apf_92 (And.intro @tyc_93 @zer_93)))) (And.intro (And.intro (And.intro @zds_93 (And.intro @mpt_93 @apf_93)) (And.intro @tyc_94 (And.intro @zer_94 @tyc_95))) (And.intro (And.intro @zer_95 (And.intro @zds_95 @fld_95_0)) (And.intro @fld_95_1 (And.intro @stf_95 @arr_95))))))) (And.intro (And.intro (And.intro (And.intro (And.intro (And.intro @apf_95 @tyc_96) (And.intro @zer_96 (And.intro @zds_96 @fld_96_0))) (And.intro (And.intro @fld_96_1 (And.intro @stf_96 @arr_96)) (And.intro @apf_96 (And.intro @tyc_97 @zer_97)))) (And.intro (And.intro (And.intro @tyc_98 (And.intro @zer_98 @tyc_100)) (And.intro @zer_100 (And.intro @tyc_101 @zer_101))) (And.intro (And.intro @tyc_102 (And.intro @zer_102 @tyc_103)) (And.intro @zer_103 (And.intro @tyc_104 @zer_104))))) (And.intro (And.intro (And.intro (And.intro @tyc_105 @zer_105) (And.intro @zds_105 (And.intro @und_105 @apf_105))) (And.intro (And.intro @tyc_106 (And.intro @zer_106 @zds_106)) (And.intro @und_106 (And.intro @apf_106 @tyc_107)))) (And.intro (And.intro (And.intro @zer_107 (And.intro @tyc_108 @zer_108)) (And.intro @tyc_109 (And.intro @zer_109 @tyc_110))) (And.intro (And.intro @zer_110 (And.intro @tyc_111 @zer_111)) (And.intro @tyc_112 (And.intro @zer_112 @tyc_113)))))) (And.intro (And.intro (And.intro (And.intro (And.intro @zer_113 @zds_113) (And.intro @apf_113 (And.intro @tyc_114 @zer_114))) (And.intro (And.intro @zds_114 (And.intro @fld_114_0 @fld_114_1)) (And.intro @fld_114_2 (And.intro @stf_114 @arr_114)))) (And.intro (And.intro (And.intro @apf_114 (And.intro @tyc_115 @zer_115)) (And.intro @zds_115 (And.intro @fld_115_0 @fld_115_1))) (And.intro (And.intro @fld_115_2 (And.intro @stf_115 @arr_115)) (And.intro @apf_115 (And.intro @tyc_116 @zer_116))))) (And.intro (And.intro (And.intro (And.intro @zds_116 (And.intro @arr_116 @stf_116)) (And.intro @apf_116 (And.intro @tyc_117 @zer_117))) (And.intro (And.intro @tyc_118 (And.intro @zer_118 @zds_118)) (And.intro @apf_118 (And.intro @tyc_119 @zer_119)))) (And.intro (And.intro (And.intro @tyc_120 (And.intro @zer_120 @tyc_121)) (And.intro @zer_121 (And.intro @tyc_123 @zer_123))) (And.intro (And.intro @tyc_124 (And.intro @zer_124 @tyc_126)) (And.intro @zer_126 (And.intro @tyc_127 @zer_127)))))))) (And.intro (And.intro (And.intro (And.intro (And.intro (And.intro (And.intro @tyc_128 @zer_128) (And.intro @tyc_129 (And.intro @zer_129 @tyc_130))) (And.intro (And.intro @zer_130 (And.intro @tyc_131 @zer_131)) (And.intro @tyc_132 (And.intro @zer_132 @tyc_133)))) (And.intro (And.intro (And.intro @zer_133 (And.intro @zds_133 @mpt_133)) (And.intro @apf_133 (And.intro @tyc_134 @zer_134))) (And.intro (And.intro @zds_134 (And.intro @fld_134_0 @fld_134_1)) (And.intro @stf_134 (And.intro @arr_134 @apf_134))))) (And.intro (And.intro (And.intro (And.intro @tyc_135 @zer_135) (And.intro @zds_135 (And.intro @fld_135_0 @fld_135_1))) (And.intro (And.intro @stf_135 (And.intro @arr_135 @apf_135)) (And.intro @tyc_136 (And.intro @zer_136 @tyc_137)))) (And.intro (And.intro (And.intro @zer_137 (And.intro @zds_137 @apf_137)) (And.intro @tyc_138 (And.intro @zer_138 @tyc_139))) (And.intro (And.intro @zer_139 (And.intro @tyc_140 @zer_140)) (And.intro @tyc_141 (And.intro @zer_141 @tyc_142)))))) (And.intro (And.intro (And.intro (And.intro (And.intro @zer_142 @tyc_143) (And.intro @zer_143 (And.intro @tyc_144 @zer_144))) (And.intro (And.intro @tyc_145 (And.intro @zer_145 @tyc_146)) (And.intro @zer_146 (And.intro @tyc_147 @zer_147)))) (And.intro (And.intro (And.intro @tyc_148 (And.intro @zer_148 @tyc_149)) (And.intro @zer_149 (And.intro @tyc_150 @zer_150))) (And.intro (And.intro @tyc_151 (And.intro @zer_151 @tyc_152)) (And.intro @zer_152 (And.intro @zds_152 @arr_152))))) (And.intro (And.intro (And.intro (And.intro @stf_152 (And.intro @apf_152 @tyc_153)) (And.intro @zer_153 (And.intro @tyc_154 @zer_154))) (And.intro (And.intro @tyc_155 (And.intro @zer_155 @tyc_156)) (And.intro @zer_156 (And.intro @tyc_157 @zer_157)))) (And.intro (And.intro (And.intro @zds_157 (And.intro @fld_157_0 @fld_157_1)) (And.intro @fld_157_2 (And.intro @fld_157_3 @stf_157))) (And.intro (And.intro @arr_157 (And.intro @apf_157 @tyc_158)) (And.intro @zer_158 (And.intro @zds_158 @fld_158_0))))))) (And.intro (And.intro (And.intro (And.intro (And.intro (And.intro @fld_158_1 @fld_158_2) (And.intro @fld_158_3 (And.intro @stf_158 @arr_158))) (And.intro (And.intro @apf_158 (And.intro @tyc_159 @zer_159)) (And.intro @zds_159 (And.intro @arr_159 @stf_159)))) (And.intro (And.intro (And.intro @tyc_160 (And.intro @zer_160 @zds_160)) (And.intro @stf_160 (And.intro @arr_160 @tyc_161))) (And.intro (And.intro @zer_161 (And.intro @zds_161 @stf_161)) (And.intro @arr_161 (And.intro @tyc_162 @zer_162))))) (And.intro (And.intro (And.intro (And.intro @tyc_163 (And.intro @zer_163 @zds_163)) (And.intro @und_163 (And.intro @apf_163 @tyc_164))) (And.intro (And.intro @zer_164 (And.intro @zds_164 @und_164)) (And.intro @apf_164 (And.intro @tyc_165 @zer_165)))) (And.intro (And.intro (And.intro @zds_165 (And.intro @und_165 @apf_165)) (And.intro @tyc_166 (And.intro @zer_166 @tyc_167))) (And.intro (And.intro @zer_167 (And.intro @zds_167 @apf_167)) (And.intro @tyc_168 (And.intro @zer_168 @zds_168)))))) (And.intro (And.intro (And.intro (And.intro (And.intro @und_168 @apf_168) (And.intro @tyc_169 (And.intro @zer_169 @zds_169))) (And.intro (And.intro @und_169 (And.intro @apf_169 @tyc_170)) (And.intro @zer_170 (And.intro @zds_170 @fld_170_0)))) (And.intro (And.intro (And.intro @fld_170_1 (And.intro @fld_170_2 @fld_170_3)) (And.intro @fld_170_4 (And.intro @fld_170_5 @fld_170_6))) (And.intro (And.intro @fld_170_7 (And.intro @fld_170_8 @fld_170_9)) (And.intro @fld_170_10 (And.intro @stf_170 @arr_170))))) (And.intro (And.intro (And.intro (And.intro @apf_170 (And.intro @tyc_171 @zer_171)) (And.intro @zds_171 (And.intro @fld_171_0 @fld_171_1))) (And.intro (And.intro @fld_171_2 (And.intro @fld_171_3 @fld_171_4)) (And.intro @fld_171_5 (And.intro @fld_171_6 @fld_171_7)))) (And.intro (And.intro (And.intro @fld_171_8 (And.intro @fld_171_9 @fld_171_10)) (And.intro @stf_171 (And.intro @arr_171 @apf_171))) (And.intro (And.intro @tyc_172 (And.intro @zer_172 @tyc_174)) (And.intro @zer_174 (And.intro @zro_3 @zro_64))))))))))
theorem fA : type_of% fA0 := fA0
end Go.Proofs.YtciegkpjenjaeaaDoor.Ab
