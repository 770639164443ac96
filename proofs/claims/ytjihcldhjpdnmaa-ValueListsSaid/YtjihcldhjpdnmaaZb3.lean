/- Part 3 of the proof: words, contracts, plain laws. Laid by a program of this session (wip/tool/shake.py): what is needed of own and printed texts, in order. -/
import Derived.Test.YtjihcldhjpdnmaaZb0
import Derived.Test.YtjihcldhjpdnmaaZb1
import Derived.Test.YtjihcldhjpdnmaaZb2
import Derived.Test.YtjihcldhjpdnmaaProg
import Derived.KernelRfl
import Derived.Calls
import Derived.Lib.ItoaNum
import Derived.Orders
import Derived.Tactics
import Derived.Below
import Derived.Laws.Rows
import Derived.Laws.World
import Derived.Laws.CopyRow
import Derived.Lib.FrozenHead
import Derived.Deep.AppendSrc
import Derived.Deep.Upon
import Derived.Laws.BytesArg
import Derived.IntWalk
import Derived.Laws.Externs
import Derived.LoopN
import Derived.MapKept
import Derived.RegionTactic
namespace Go.Proofs.Ytjihcldhjpdnmaa.AM
open Go.RowKit Go.Proofs
set_option maxRecDepth 100000
@[go_sem] theorem tsz_1 : tsz Try.prog 1 = some 1 := by kernel_rfl
@[go_sem] theorem agg_1 : isAggT Try.prog 1 = some false := by kernel_rfl
@[go_sem] theorem zer_1 : zeroOf Try.prog 1 = some (.nilFunc) := by kernel_rfl
@[go_sem] theorem zcs_1 : zcs Try.prog 1 = some 1 := by kernel_rfl
@[go_sem] theorem str_1 : isStrT Try.prog 1 = false := by kernel_rfl
@[go_sem] theorem ifc_1 : isIfaceT Try.prog 1 = some false := by kernel_rfl
@[go_sem] theorem tsz_2 : tsz Try.prog 2 = some 1 := by kernel_rfl
@[go_sem] theorem agg_2 : isAggT Try.prog 2 = some false := by kernel_rfl
@[go_sem] theorem zer_2 : zeroOf Try.prog 2 = some (.int .i64 0) := by kernel_rfl
@[go_sem] theorem zcs_2 : zcs Try.prog 2 = some 1 := by kernel_rfl
@[go_sem] theorem str_2 : isStrT Try.prog 2 = false := by kernel_rfl
@[go_sem] theorem ifc_2 : isIfaceT Try.prog 2 = some false := by kernel_rfl
@[go_sem] theorem int_2 : intT Try.prog 2 = some .i64 := by kernel_rfl
@[go_sem] theorem und_2 : Try.prog.underlying 2 = some (.int .i64) := by kernel_rfl
@[go_sem] theorem tsz_3 : tsz Try.prog 3 = some 1 := by kernel_rfl
@[go_sem] theorem agg_3 : isAggT Try.prog 3 = some false := by kernel_rfl
@[go_sem] theorem zer_3 : zeroOf Try.prog 3 = some (.int .i64 0) := by kernel_rfl
@[go_sem] theorem zcs_3 : zcs Try.prog 3 = some 1 := by kernel_rfl
@[go_sem] theorem str_3 : isStrT Try.prog 3 = false := by kernel_rfl
@[go_sem] theorem ifc_3 : isIfaceT Try.prog 3 = some false := by kernel_rfl
@[go_sem] theorem int_3 : intT Try.prog 3 = some .i64 := by kernel_rfl
@[go_sem] theorem und_3 : Try.prog.underlying 3 = some (.int .i64) := by kernel_rfl
@[go_sem] theorem tsz_4 : tsz Try.prog 4 = some 1 := by kernel_rfl
@[go_sem] theorem agg_4 : isAggT Try.prog 4 = some false := by kernel_rfl
@[go_sem] theorem zer_4 : zeroOf Try.prog 4 = some (.bool false) := by kernel_rfl
@[go_sem] theorem zcs_4 : zcs Try.prog 4 = some 1 := by kernel_rfl
@[go_sem] theorem str_4 : isStrT Try.prog 4 = false := by kernel_rfl
@[go_sem] theorem ifc_4 : isIfaceT Try.prog 4 = some false := by kernel_rfl
@[go_sem] theorem und_4 : Try.prog.underlying 4 = some (.bool) := by kernel_rfl
@[go_sem] theorem tsz_5 : tsz Try.prog 5 = some 1 := by kernel_rfl
@[go_sem] theorem agg_5 : isAggT Try.prog 5 = some false := by kernel_rfl
@[go_sem] theorem zer_5 : zeroOf Try.prog 5 = some (.int .u8 0) := by kernel_rfl
@[go_sem] theorem zcs_5 : zcs Try.prog 5 = some 1 := by kernel_rfl
@[go_sem] theorem str_5 : isStrT Try.prog 5 = false := by kernel_rfl
@[go_sem] theorem ifc_5 : isIfaceT Try.prog 5 = some false := by kernel_rfl
@[go_sem] theorem int_5 : intT Try.prog 5 = some .u8 := by kernel_rfl
@[go_sem] theorem und_5 : Try.prog.underlying 5 = some (.int .u8) := by kernel_rfl
@[go_sem] theorem tsz_6 : tsz Try.prog 6 = some 1 := by kernel_rfl
@[go_sem] theorem agg_6 : isAggT Try.prog 6 = some false := by kernel_rfl
@[go_sem] theorem zer_6 : zeroOf Try.prog 6 = some (.int .u8 0) := by kernel_rfl
@[go_sem] theorem zcs_6 : zcs Try.prog 6 = some 1 := by kernel_rfl
@[go_sem] theorem str_6 : isStrT Try.prog 6 = false := by kernel_rfl
@[go_sem] theorem ifc_6 : isIfaceT Try.prog 6 = some false := by kernel_rfl
@[go_sem] theorem int_6 : intT Try.prog 6 = some .u8 := by kernel_rfl
@[go_sem] theorem und_6 : Try.prog.underlying 6 = some (.int .u8) := by kernel_rfl
@[go_sem] theorem tsz_7 : tsz Try.prog 7 = some 4 := by kernel_rfl
@[go_sem] theorem agg_7 : isAggT Try.prog 7 = some true := by kernel_rfl
@[go_sem] theorem zer_7 : zeroOf Try.prog 7 = some (.agg #[.int .i64 0, .int .i64 0, .bool false, .int .u8 0]) := by kernel_rfl
@[go_sem] theorem zcs_7 : zcs Try.prog 7 = some 4 := by kernel_rfl
@[go_sem] theorem str_7 : isStrT Try.prog 7 = false := by kernel_rfl
@[go_sem] theorem ifc_7 : isIfaceT Try.prog 7 = some false := by kernel_rfl
@[go_sem] theorem fld_7_0 : fieldOf Try.prog 7 0 = some (0, 2) := by kernel_rfl
@[go_sem] theorem fld_7_1 : fieldOf Try.prog 7 1 = some (1, 3) := by kernel_rfl
@[go_sem] theorem fld_7_2 : fieldOf Try.prog 7 2 = some (2, 4) := by kernel_rfl
@[go_sem] theorem fld_7_3 : fieldOf Try.prog 7 3 = some (3, 6) := by kernel_rfl
@[go_sem] theorem plc_7 : placesOf Try.prog 7 = some [(0, 1), (1, 1), (2, 1), (3, 1)] := by kernel_rfl
@[go_sem] theorem tsz_8 : tsz Try.prog 8 = some 4 := by kernel_rfl
@[go_sem] theorem agg_8 : isAggT Try.prog 8 = some true := by kernel_rfl
@[go_sem] theorem zer_8 : zeroOf Try.prog 8 = some (.agg #[.int .i64 0, .int .i64 0, .bool false, .int .u8 0]) := by kernel_rfl
@[go_sem] theorem zcs_8 : zcs Try.prog 8 = some 4 := by kernel_rfl
@[go_sem] theorem str_8 : isStrT Try.prog 8 = false := by kernel_rfl
@[go_sem] theorem ifc_8 : isIfaceT Try.prog 8 = some false := by kernel_rfl
@[go_sem] theorem fld_8_0 : fieldOf Try.prog 8 0 = some (0, 2) := by kernel_rfl
@[go_sem] theorem fld_8_1 : fieldOf Try.prog 8 1 = some (1, 3) := by kernel_rfl
@[go_sem] theorem fld_8_2 : fieldOf Try.prog 8 2 = some (2, 4) := by kernel_rfl
@[go_sem] theorem fld_8_3 : fieldOf Try.prog 8 3 = some (3, 6) := by kernel_rfl
@[go_sem] theorem plc_8 : placesOf Try.prog 8 = some [(0, 1), (1, 1), (2, 1), (3, 1)] := by kernel_rfl
@[go_sem] theorem tsz_9 : tsz Try.prog 9 = some 1 := by kernel_rfl
@[go_sem] theorem agg_9 : isAggT Try.prog 9 = some false := by kernel_rfl
@[go_sem] theorem zer_9 : zeroOf Try.prog 9 = some (.string (⟨#[]⟩ : ByteArray)) := by kernel_rfl
@[go_sem] theorem zcs_9 : zcs Try.prog 9 = some 1 := by kernel_rfl
@[go_sem] theorem str_9 : isStrT Try.prog 9 = true := by kernel_rfl
@[go_sem] theorem ifc_9 : isIfaceT Try.prog 9 = some false := by kernel_rfl
@[go_sem] theorem und_9 : Try.prog.underlying 9 = some (.string) := by kernel_rfl
@[go_sem] theorem tsz_10 : tsz Try.prog 10 = some 1 := by kernel_rfl
@[go_sem] theorem agg_10 : isAggT Try.prog 10 = some false := by kernel_rfl
@[go_sem] theorem zer_10 : zeroOf Try.prog 10 = some (.string (⟨#[]⟩ : ByteArray)) := by kernel_rfl
@[go_sem] theorem zcs_10 : zcs Try.prog 10 = some 1 := by kernel_rfl
@[go_sem] theorem str_10 : isStrT Try.prog 10 = true := by kernel_rfl
@[go_sem] theorem ifc_10 : isIfaceT Try.prog 10 = some false := by kernel_rfl
@[go_sem] theorem und_10 : Try.prog.underlying 10 = some (.string) := by kernel_rfl
@[go_sem] theorem tsz_11 : tsz Try.prog 11 = some 1 := by kernel_rfl
@[go_sem] theorem agg_11 : isAggT Try.prog 11 = some false := by kernel_rfl
@[go_sem] theorem zer_11 : zeroOf Try.prog 11 = some (.string (⟨#[]⟩ : ByteArray)) := by kernel_rfl
@[go_sem] theorem zcs_11 : zcs Try.prog 11 = some 1 := by kernel_rfl
@[go_sem] theorem str_11 : isStrT Try.prog 11 = true := by kernel_rfl
@[go_sem] theorem ifc_11 : isIfaceT Try.prog 11 = some false := by kernel_rfl
@[go_sem] theorem und_11 : Try.prog.underlying 11 = some (.string) := by kernel_rfl
@[go_sem] theorem tsz_12 : tsz Try.prog 12 = some 1 := by kernel_rfl
@[go_sem] theorem agg_12 : isAggT Try.prog 12 = some false := by kernel_rfl
@[go_sem] theorem zer_12 : zeroOf Try.prog 12 = some (.int .u64 0) := by kernel_rfl
@[go_sem] theorem zcs_12 : zcs Try.prog 12 = some 1 := by kernel_rfl
@[go_sem] theorem str_12 : isStrT Try.prog 12 = false := by kernel_rfl
@[go_sem] theorem ifc_12 : isIfaceT Try.prog 12 = some false := by kernel_rfl
@[go_sem] theorem int_12 : intT Try.prog 12 = some .u64 := by kernel_rfl
@[go_sem] theorem und_12 : Try.prog.underlying 12 = some (.int .u64) := by kernel_rfl
@[go_sem] theorem tsz_13 : tsz Try.prog 13 = some 2 := by kernel_rfl
@[go_sem] theorem agg_13 : isAggT Try.prog 13 = some true := by kernel_rfl
@[go_sem] theorem zer_13 : zeroOf Try.prog 13 = some (.agg #[.string (⟨#[]⟩ : ByteArray), .int .u64 0]) := by kernel_rfl
@[go_sem] theorem zcs_13 : zcs Try.prog 13 = some 2 := by kernel_rfl
@[go_sem] theorem str_13 : isStrT Try.prog 13 = false := by kernel_rfl
@[go_sem] theorem ifc_13 : isIfaceT Try.prog 13 = some false := by kernel_rfl
@[go_sem] theorem fld_13_0 : fieldOf Try.prog 13 0 = some (0, 9) := by kernel_rfl
@[go_sem] theorem fld_13_1 : fieldOf Try.prog 13 1 = some (1, 12) := by kernel_rfl
@[go_sem] theorem plc_13 : placesOf Try.prog 13 = some [(0, 1), (1, 1)] := by kernel_rfl
@[go_sem] theorem tsz_14 : tsz Try.prog 14 = some 2 := by kernel_rfl
@[go_sem] theorem agg_14 : isAggT Try.prog 14 = some true := by kernel_rfl
@[go_sem] theorem zer_14 : zeroOf Try.prog 14 = some (.agg #[.string (⟨#[]⟩ : ByteArray), .int .u64 0]) := by kernel_rfl
@[go_sem] theorem zcs_14 : zcs Try.prog 14 = some 2 := by kernel_rfl
@[go_sem] theorem str_14 : isStrT Try.prog 14 = false := by kernel_rfl
@[go_sem] theorem ifc_14 : isIfaceT Try.prog 14 = some false := by kernel_rfl
@[go_sem] theorem fld_14_0 : fieldOf Try.prog 14 0 = some (0, 9) := by kernel_rfl
@[go_sem] theorem fld_14_1 : fieldOf Try.prog 14 1 = some (1, 12) := by kernel_rfl
@[go_sem] theorem plc_14 : placesOf Try.prog 14 = some [(0, 1), (1, 1)] := by kernel_rfl
@[go_sem] theorem tsz_15 : tsz Try.prog 15 = some 1 := by kernel_rfl
@[go_sem] theorem agg_15 : isAggT Try.prog 15 = some false := by kernel_rfl
@[go_sem] theorem zer_15 : zeroOf Try.prog 15 = some (.pointer none) := by kernel_rfl
@[go_sem] theorem zcs_15 : zcs Try.prog 15 = some 1 := by kernel_rfl
@[go_sem] theorem str_15 : isStrT Try.prog 15 = false := by kernel_rfl
@[go_sem] theorem ifc_15 : isIfaceT Try.prog 15 = some false := by kernel_rfl
@[go_sem] theorem tsz_16 : tsz Try.prog 16 = some 1 := by kernel_rfl
@[go_sem] theorem agg_16 : isAggT Try.prog 16 = some false := by kernel_rfl
@[go_sem] theorem zer_16 : zeroOf Try.prog 16 = some (.pointer none) := by kernel_rfl
@[go_sem] theorem zcs_16 : zcs Try.prog 16 = some 1 := by kernel_rfl
@[go_sem] theorem str_16 : isStrT Try.prog 16 = false := by kernel_rfl
@[go_sem] theorem ifc_16 : isIfaceT Try.prog 16 = some false := by kernel_rfl
@[go_sem] theorem tsz_17 : tsz Try.prog 17 = some 1 := by kernel_rfl
@[go_sem] theorem agg_17 : isAggT Try.prog 17 = some false := by kernel_rfl
@[go_sem] theorem zer_17 : zeroOf Try.prog 17 = some (.pointer none) := by kernel_rfl
@[go_sem] theorem zcs_17 : zcs Try.prog 17 = some 1 := by kernel_rfl
@[go_sem] theorem str_17 : isStrT Try.prog 17 = false := by kernel_rfl
@[go_sem] theorem ifc_17 : isIfaceT Try.prog 17 = some false := by kernel_rfl
@[go_sem] theorem tsz_18 : tsz Try.prog 18 = some 1 := by kernel_rfl
@[go_sem] theorem agg_18 : isAggT Try.prog 18 = some true := by kernel_rfl
@[go_sem] theorem zer_18 : zeroOf Try.prog 18 = some (.agg #[.pointer none]) := by kernel_rfl
@[go_sem] theorem zcs_18 : zcs Try.prog 18 = some 1 := by kernel_rfl
@[go_sem] theorem str_18 : isStrT Try.prog 18 = false := by kernel_rfl
@[go_sem] theorem ifc_18 : isIfaceT Try.prog 18 = some false := by kernel_rfl
@[go_sem] theorem fld_18_0 : fieldOf Try.prog 18 0 = some (0, 17) := by kernel_rfl
@[go_sem] theorem plc_18 : placesOf Try.prog 18 = some [(0, 1)] := by kernel_rfl
@[go_sem] theorem tsz_19 : tsz Try.prog 19 = some 1 := by kernel_rfl
@[go_sem] theorem agg_19 : isAggT Try.prog 19 = some true := by kernel_rfl
@[go_sem] theorem zer_19 : zeroOf Try.prog 19 = some (.agg #[.pointer none]) := by kernel_rfl
@[go_sem] theorem zcs_19 : zcs Try.prog 19 = some 1 := by kernel_rfl
@[go_sem] theorem str_19 : isStrT Try.prog 19 = false := by kernel_rfl
@[go_sem] theorem ifc_19 : isIfaceT Try.prog 19 = some false := by kernel_rfl
@[go_sem] theorem fld_19_0 : fieldOf Try.prog 19 0 = some (0, 17) := by kernel_rfl
@[go_sem] theorem plc_19 : placesOf Try.prog 19 = some [(0, 1)] := by kernel_rfl
@[go_sem] theorem tsz_20 : tsz Try.prog 20 = some 1 := by kernel_rfl
@[go_sem] theorem agg_20 : isAggT Try.prog 20 = some false := by kernel_rfl
@[go_sem] theorem zer_20 : zeroOf Try.prog 20 = some (.nilIface) := by kernel_rfl
@[go_sem] theorem zcs_20 : zcs Try.prog 20 = some 1 := by kernel_rfl
@[go_sem] theorem str_20 : isStrT Try.prog 20 = false := by kernel_rfl
@[go_sem] theorem ifc_20 : isIfaceT Try.prog 20 = some true := by kernel_rfl
@[go_sem] theorem tsz_21 : tsz Try.prog 21 = some 1 := by kernel_rfl
@[go_sem] theorem agg_21 : isAggT Try.prog 21 = some false := by kernel_rfl
@[go_sem] theorem zer_21 : zeroOf Try.prog 21 = some (.int .i32 0) := by kernel_rfl
@[go_sem] theorem zcs_21 : zcs Try.prog 21 = some 1 := by kernel_rfl
@[go_sem] theorem str_21 : isStrT Try.prog 21 = false := by kernel_rfl
@[go_sem] theorem ifc_21 : isIfaceT Try.prog 21 = some false := by kernel_rfl
@[go_sem] theorem int_21 : intT Try.prog 21 = some .i32 := by kernel_rfl
@[go_sem] theorem und_21 : Try.prog.underlying 21 = some (.int .i32) := by kernel_rfl
@[go_sem] theorem tsz_22 : tsz Try.prog 22 = some 1 := by kernel_rfl
@[go_sem] theorem agg_22 : isAggT Try.prog 22 = some false := by kernel_rfl
@[go_sem] theorem zer_22 : zeroOf Try.prog 22 = some (.slice none 0 0) := by kernel_rfl
@[go_sem] theorem zcs_22 : zcs Try.prog 22 = some 1 := by kernel_rfl
@[go_sem] theorem str_22 : isStrT Try.prog 22 = false := by kernel_rfl
@[go_sem] theorem ifc_22 : isIfaceT Try.prog 22 = some false := by kernel_rfl
@[go_sem] theorem und_22 : Try.prog.underlying 22 = some (.slice 25) := by kernel_rfl
@[go_sem] theorem elm_22 : elemT Try.prog 22 = some 25 := by kernel_rfl
@[go_sem] theorem tsz_23 : tsz Try.prog 23 = some 1 := by kernel_rfl
@[go_sem] theorem agg_23 : isAggT Try.prog 23 = some false := by kernel_rfl
@[go_sem] theorem zer_23 : zeroOf Try.prog 23 = some (.float .f64 0) := by kernel_rfl
@[go_sem] theorem zcs_23 : zcs Try.prog 23 = some 1 := by kernel_rfl
@[go_sem] theorem str_23 : isStrT Try.prog 23 = false := by kernel_rfl
@[go_sem] theorem ifc_23 : isIfaceT Try.prog 23 = some false := by kernel_rfl
@[go_sem] theorem und_23 : Try.prog.underlying 23 = some (.float .f64) := by kernel_rfl
@[go_sem] theorem tsz_24 : tsz Try.prog 24 = some 4 := by kernel_rfl
@[go_sem] theorem agg_24 : isAggT Try.prog 24 = some true := by kernel_rfl
@[go_sem] theorem zer_24 : zeroOf Try.prog 24 = some (.agg #[.int .i64 0, .int .i64 0, .float .f64 0, .string (⟨#[]⟩ : ByteArray)]) := by kernel_rfl
@[go_sem] theorem zcs_24 : zcs Try.prog 24 = some 4 := by kernel_rfl
@[go_sem] theorem str_24 : isStrT Try.prog 24 = false := by kernel_rfl
@[go_sem] theorem ifc_24 : isIfaceT Try.prog 24 = some false := by kernel_rfl
@[go_sem] theorem fld_24_0 : fieldOf Try.prog 24 0 = some (0, 3) := by kernel_rfl
@[go_sem] theorem fld_24_1 : fieldOf Try.prog 24 1 = some (1, 3) := by kernel_rfl
@[go_sem] theorem fld_24_2 : fieldOf Try.prog 24 2 = some (2, 23) := by kernel_rfl
@[go_sem] theorem fld_24_3 : fieldOf Try.prog 24 3 = some (3, 9) := by kernel_rfl
@[go_sem] theorem plc_24 : placesOf Try.prog 24 = some [(0, 1), (1, 1), (2, 1), (3, 1)] := by kernel_rfl
@[go_sem] theorem tsz_25 : tsz Try.prog 25 = some 4 := by kernel_rfl
@[go_sem] theorem agg_25 : isAggT Try.prog 25 = some true := by kernel_rfl
@[go_sem] theorem zer_25 : zeroOf Try.prog 25 = some (.agg #[.int .i64 0, .int .i64 0, .float .f64 0, .string (⟨#[]⟩ : ByteArray)]) := by kernel_rfl
@[go_sem] theorem zcs_25 : zcs Try.prog 25 = some 4 := by kernel_rfl
@[go_sem] theorem str_25 : isStrT Try.prog 25 = false := by kernel_rfl
@[go_sem] theorem ifc_25 : isIfaceT Try.prog 25 = some false := by kernel_rfl
@[go_sem] theorem fld_25_0 : fieldOf Try.prog 25 0 = some (0, 3) := by kernel_rfl
@[go_sem] theorem fld_25_1 : fieldOf Try.prog 25 1 = some (1, 3) := by kernel_rfl
@[go_sem] theorem fld_25_2 : fieldOf Try.prog 25 2 = some (2, 23) := by kernel_rfl
@[go_sem] theorem fld_25_3 : fieldOf Try.prog 25 3 = some (3, 9) := by kernel_rfl
@[go_sem] theorem plc_25 : placesOf Try.prog 25 = some [(0, 1), (1, 1), (2, 1), (3, 1)] := by kernel_rfl
@[go_sem] theorem tsz_26 : tsz Try.prog 26 = some 5 := by kernel_rfl
@[go_sem] theorem agg_26 : isAggT Try.prog 26 = some true := by kernel_rfl
@[go_sem] theorem zer_26 : zeroOf Try.prog 26 = some (.agg #[.int .i64 0, .int .i64 0, .float .f64 0, .string (⟨#[]⟩ : ByteArray), .slice none 0 0]) := by kernel_rfl
@[go_sem] theorem zcs_26 : zcs Try.prog 26 = some 5 := by kernel_rfl
@[go_sem] theorem str_26 : isStrT Try.prog 26 = false := by kernel_rfl
@[go_sem] theorem ifc_26 : isIfaceT Try.prog 26 = some false := by kernel_rfl
@[go_sem] theorem fld_26_0 : fieldOf Try.prog 26 0 = some (0, 25) := by kernel_rfl
@[go_sem] theorem fld_26_1 : fieldOf Try.prog 26 1 = some (4, 22) := by kernel_rfl
@[go_sem] theorem plc_26 : placesOf Try.prog 26 = some [(0, 4), (4, 1)] := by kernel_rfl
@[go_sem] theorem tsz_27 : tsz Try.prog 27 = some 5 := by kernel_rfl
@[go_sem] theorem agg_27 : isAggT Try.prog 27 = some true := by kernel_rfl
@[go_sem] theorem zer_27 : zeroOf Try.prog 27 = some (.agg #[.int .i64 0, .int .i64 0, .float .f64 0, .string (⟨#[]⟩ : ByteArray), .slice none 0 0]) := by kernel_rfl
@[go_sem] theorem zcs_27 : zcs Try.prog 27 = some 5 := by kernel_rfl
@[go_sem] theorem str_27 : isStrT Try.prog 27 = false := by kernel_rfl
@[go_sem] theorem ifc_27 : isIfaceT Try.prog 27 = some false := by kernel_rfl
@[go_sem] theorem fld_27_0 : fieldOf Try.prog 27 0 = some (0, 25) := by kernel_rfl
@[go_sem] theorem fld_27_1 : fieldOf Try.prog 27 1 = some (4, 22) := by kernel_rfl
@[go_sem] theorem plc_27 : placesOf Try.prog 27 = some [(0, 4), (4, 1)] := by kernel_rfl
@[go_sem] theorem tsz_28 : tsz Try.prog 28 = some 1 := by kernel_rfl
@[go_sem] theorem agg_28 : isAggT Try.prog 28 = some false := by kernel_rfl
@[go_sem] theorem zer_28 : zeroOf Try.prog 28 = some (.nilFunc) := by kernel_rfl
@[go_sem] theorem zcs_28 : zcs Try.prog 28 = some 1 := by kernel_rfl
@[go_sem] theorem str_28 : isStrT Try.prog 28 = false := by kernel_rfl
@[go_sem] theorem ifc_28 : isIfaceT Try.prog 28 = some false := by kernel_rfl
@[go_sem] theorem tsz_29 : tsz Try.prog 29 = some 1 := by kernel_rfl
@[go_sem] theorem agg_29 : isAggT Try.prog 29 = some false := by kernel_rfl
@[go_sem] theorem zer_29 : zeroOf Try.prog 29 = some (.nilFunc) := by kernel_rfl
@[go_sem] theorem zcs_29 : zcs Try.prog 29 = some 1 := by kernel_rfl
@[go_sem] theorem str_29 : isStrT Try.prog 29 = false := by kernel_rfl
@[go_sem] theorem ifc_29 : isIfaceT Try.prog 29 = some false := by kernel_rfl
@[go_sem] theorem tsz_30 : tsz Try.prog 30 = some 1 := by kernel_rfl
@[go_sem] theorem agg_30 : isAggT Try.prog 30 = some false := by kernel_rfl
@[go_sem] theorem zer_30 : zeroOf Try.prog 30 = some (.nilFunc) := by kernel_rfl
@[go_sem] theorem zcs_30 : zcs Try.prog 30 = some 1 := by kernel_rfl
@[go_sem] theorem str_30 : isStrT Try.prog 30 = false := by kernel_rfl
@[go_sem] theorem ifc_30 : isIfaceT Try.prog 30 = some false := by kernel_rfl
@[go_sem] theorem tsz_31 : tsz Try.prog 31 = some 1 := by kernel_rfl
@[go_sem] theorem agg_31 : isAggT Try.prog 31 = some false := by kernel_rfl
@[go_sem] theorem zer_31 : zeroOf Try.prog 31 = some (.nilFunc) := by kernel_rfl
@[go_sem] theorem zcs_31 : zcs Try.prog 31 = some 1 := by kernel_rfl
@[go_sem] theorem str_31 : isStrT Try.prog 31 = false := by kernel_rfl
@[go_sem] theorem ifc_31 : isIfaceT Try.prog 31 = some false := by kernel_rfl
@[go_sem] theorem tsz_32 : tsz Try.prog 32 = some 1 := by kernel_rfl
@[go_sem] theorem agg_32 : isAggT Try.prog 32 = some false := by kernel_rfl
@[go_sem] theorem zer_32 : zeroOf Try.prog 32 = some (.nilFunc) := by kernel_rfl
@[go_sem] theorem zcs_32 : zcs Try.prog 32 = some 1 := by kernel_rfl
@[go_sem] theorem str_32 : isStrT Try.prog 32 = false := by kernel_rfl
@[go_sem] theorem ifc_32 : isIfaceT Try.prog 32 = some false := by kernel_rfl
@[go_sem] theorem tsz_33 : tsz Try.prog 33 = some 1 := by kernel_rfl
@[go_sem] theorem agg_33 : isAggT Try.prog 33 = some false := by kernel_rfl
@[go_sem] theorem zer_33 : zeroOf Try.prog 33 = some (.nilFunc) := by kernel_rfl
@[go_sem] theorem zcs_33 : zcs Try.prog 33 = some 1 := by kernel_rfl
@[go_sem] theorem str_33 : isStrT Try.prog 33 = false := by kernel_rfl
@[go_sem] theorem ifc_33 : isIfaceT Try.prog 33 = some false := by kernel_rfl
@[go_sem] theorem tsz_34 : tsz Try.prog 34 = some 1 := by kernel_rfl
@[go_sem] theorem agg_34 : isAggT Try.prog 34 = some false := by kernel_rfl
@[go_sem] theorem zer_34 : zeroOf Try.prog 34 = some (.int .u64 0) := by kernel_rfl
@[go_sem] theorem zcs_34 : zcs Try.prog 34 = some 1 := by kernel_rfl
@[go_sem] theorem str_34 : isStrT Try.prog 34 = false := by kernel_rfl
@[go_sem] theorem ifc_34 : isIfaceT Try.prog 34 = some false := by kernel_rfl
@[go_sem] theorem int_34 : intT Try.prog 34 = some .u64 := by kernel_rfl
@[go_sem] theorem und_34 : Try.prog.underlying 34 = some (.int .u64) := by kernel_rfl
@[go_sem] theorem tsz_35 : tsz Try.prog 35 = some 1 := by kernel_rfl
@[go_sem] theorem agg_35 : isAggT Try.prog 35 = some false := by kernel_rfl
@[go_sem] theorem zer_35 : zeroOf Try.prog 35 = some (.nilFunc) := by kernel_rfl
@[go_sem] theorem zcs_35 : zcs Try.prog 35 = some 1 := by kernel_rfl
@[go_sem] theorem str_35 : isStrT Try.prog 35 = false := by kernel_rfl
@[go_sem] theorem ifc_35 : isIfaceT Try.prog 35 = some false := by kernel_rfl
@[go_sem] theorem tsz_36 : tsz Try.prog 36 = some 1 := by kernel_rfl
@[go_sem] theorem agg_36 : isAggT Try.prog 36 = some false := by kernel_rfl
@[go_sem] theorem zer_36 : zeroOf Try.prog 36 = some (.nilFunc) := by kernel_rfl
@[go_sem] theorem zcs_36 : zcs Try.prog 36 = some 1 := by kernel_rfl
@[go_sem] theorem str_36 : isStrT Try.prog 36 = false := by kernel_rfl
@[go_sem] theorem ifc_36 : isIfaceT Try.prog 36 = some false := by kernel_rfl
@[go_sem] theorem tsz_37 : tsz Try.prog 37 = some 4 := by kernel_rfl
@[go_sem] theorem agg_37 : isAggT Try.prog 37 = some true := by kernel_rfl
@[go_sem] theorem zer_37 : zeroOf Try.prog 37 = some (.agg #[.int .i64 0, .int .i64 0, .float .f64 0, .string (⟨#[]⟩ : ByteArray)]) := by kernel_rfl
@[go_sem] theorem zcs_37 : zcs Try.prog 37 = some 4 := by kernel_rfl
@[go_sem] theorem str_37 : isStrT Try.prog 37 = false := by kernel_rfl
@[go_sem] theorem ifc_37 : isIfaceT Try.prog 37 = some false := by kernel_rfl
@[go_sem] theorem fld_37_0 : fieldOf Try.prog 37 0 = some (0, 25) := by kernel_rfl
@[go_sem] theorem plc_37 : placesOf Try.prog 37 = some [(0, 4)] := by kernel_rfl
@[go_sem] theorem tsz_38 : tsz Try.prog 38 = some 4 := by kernel_rfl
@[go_sem] theorem agg_38 : isAggT Try.prog 38 = some true := by kernel_rfl
@[go_sem] theorem zer_38 : zeroOf Try.prog 38 = some (.agg #[.int .i64 0, .int .i64 0, .float .f64 0, .string (⟨#[]⟩ : ByteArray)]) := by kernel_rfl
@[go_sem] theorem zcs_38 : zcs Try.prog 38 = some 4 := by kernel_rfl
@[go_sem] theorem str_38 : isStrT Try.prog 38 = false := by kernel_rfl
@[go_sem] theorem ifc_38 : isIfaceT Try.prog 38 = some false := by kernel_rfl
@[go_sem] theorem fld_38_0 : fieldOf Try.prog 38 0 = some (0, 25) := by kernel_rfl
@[go_sem] theorem plc_38 : placesOf Try.prog 38 = some [(0, 4)] := by kernel_rfl
@[go_sem] theorem tsz_39 : tsz Try.prog 39 = some 1 := by kernel_rfl
@[go_sem] theorem agg_39 : isAggT Try.prog 39 = some false := by kernel_rfl
@[go_sem] theorem zer_39 : zeroOf Try.prog 39 = some (.nilFunc) := by kernel_rfl
@[go_sem] theorem zcs_39 : zcs Try.prog 39 = some 1 := by kernel_rfl
@[go_sem] theorem str_39 : isStrT Try.prog 39 = false := by kernel_rfl
@[go_sem] theorem ifc_39 : isIfaceT Try.prog 39 = some false := by kernel_rfl
@[go_sem] theorem tsz_40 : tsz Try.prog 40 = some 1 := by kernel_rfl
@[go_sem] theorem agg_40 : isAggT Try.prog 40 = some false := by kernel_rfl
@[go_sem] theorem zer_40 : zeroOf Try.prog 40 = some (.nilFunc) := by kernel_rfl
@[go_sem] theorem zcs_40 : zcs Try.prog 40 = some 1 := by kernel_rfl
@[go_sem] theorem str_40 : isStrT Try.prog 40 = false := by kernel_rfl
@[go_sem] theorem ifc_40 : isIfaceT Try.prog 40 = some false := by kernel_rfl
@[go_sem] theorem tsz_41 : tsz Try.prog 41 = some 1 := by kernel_rfl
@[go_sem] theorem agg_41 : isAggT Try.prog 41 = some false := by kernel_rfl
@[go_sem] theorem zer_41 : zeroOf Try.prog 41 = some (.nilFunc) := by kernel_rfl
@[go_sem] theorem zcs_41 : zcs Try.prog 41 = some 1 := by kernel_rfl
@[go_sem] theorem str_41 : isStrT Try.prog 41 = false := by kernel_rfl
@[go_sem] theorem ifc_41 : isIfaceT Try.prog 41 = some false := by kernel_rfl
@[go_sem] theorem tsz_42 : tsz Try.prog 42 = some 1 := by kernel_rfl
@[go_sem] theorem agg_42 : isAggT Try.prog 42 = some false := by kernel_rfl
@[go_sem] theorem zer_42 : zeroOf Try.prog 42 = some (.nilFunc) := by kernel_rfl
@[go_sem] theorem zcs_42 : zcs Try.prog 42 = some 1 := by kernel_rfl
@[go_sem] theorem str_42 : isStrT Try.prog 42 = false := by kernel_rfl
@[go_sem] theorem ifc_42 : isIfaceT Try.prog 42 = some false := by kernel_rfl
@[go_sem] theorem tsz_43 : tsz Try.prog 43 = some 1 := by kernel_rfl
@[go_sem] theorem agg_43 : isAggT Try.prog 43 = some false := by kernel_rfl
@[go_sem] theorem zer_43 : zeroOf Try.prog 43 = some (.nilFunc) := by kernel_rfl
@[go_sem] theorem zcs_43 : zcs Try.prog 43 = some 1 := by kernel_rfl
@[go_sem] theorem str_43 : isStrT Try.prog 43 = false := by kernel_rfl
@[go_sem] theorem ifc_43 : isIfaceT Try.prog 43 = some false := by kernel_rfl
@[go_sem] theorem tsz_44 : tsz Try.prog 44 = some 1 := by kernel_rfl
@[go_sem] theorem agg_44 : isAggT Try.prog 44 = some false := by kernel_rfl
@[go_sem] theorem zer_44 : zeroOf Try.prog 44 = some (.nilFunc) := by kernel_rfl
@[go_sem] theorem zcs_44 : zcs Try.prog 44 = some 1 := by kernel_rfl
@[go_sem] theorem str_44 : isStrT Try.prog 44 = false := by kernel_rfl
@[go_sem] theorem ifc_44 : isIfaceT Try.prog 44 = some false := by kernel_rfl
@[go_sem] theorem tsz_45 : tsz Try.prog 45 = some 1 := by kernel_rfl
@[go_sem] theorem agg_45 : isAggT Try.prog 45 = some false := by kernel_rfl
@[go_sem] theorem zer_45 : zeroOf Try.prog 45 = some (.nilFunc) := by kernel_rfl
@[go_sem] theorem zcs_45 : zcs Try.prog 45 = some 1 := by kernel_rfl
@[go_sem] theorem str_45 : isStrT Try.prog 45 = false := by kernel_rfl
@[go_sem] theorem ifc_45 : isIfaceT Try.prog 45 = some false := by kernel_rfl
@[go_sem] theorem tsz_46 : tsz Try.prog 46 = some 1 := by kernel_rfl
@[go_sem] theorem agg_46 : isAggT Try.prog 46 = some false := by kernel_rfl
@[go_sem] theorem zer_46 : zeroOf Try.prog 46 = some (.nilFunc) := by kernel_rfl
@[go_sem] theorem zcs_46 : zcs Try.prog 46 = some 1 := by kernel_rfl
@[go_sem] theorem str_46 : isStrT Try.prog 46 = false := by kernel_rfl
@[go_sem] theorem ifc_46 : isIfaceT Try.prog 46 = some false := by kernel_rfl
@[go_sem] theorem tsz_47 : tsz Try.prog 47 = some 1 := by kernel_rfl
@[go_sem] theorem agg_47 : isAggT Try.prog 47 = some false := by kernel_rfl
@[go_sem] theorem zer_47 : zeroOf Try.prog 47 = some (.nilFunc) := by kernel_rfl
@[go_sem] theorem zcs_47 : zcs Try.prog 47 = some 1 := by kernel_rfl
@[go_sem] theorem str_47 : isStrT Try.prog 47 = false := by kernel_rfl
@[go_sem] theorem ifc_47 : isIfaceT Try.prog 47 = some false := by kernel_rfl
@[go_sem] theorem tsz_48 : tsz Try.prog 48 = some 1 := by kernel_rfl
@[go_sem] theorem agg_48 : isAggT Try.prog 48 = some false := by kernel_rfl
@[go_sem] theorem zer_48 : zeroOf Try.prog 48 = some (.nilFunc) := by kernel_rfl
@[go_sem] theorem zcs_48 : zcs Try.prog 48 = some 1 := by kernel_rfl
@[go_sem] theorem str_48 : isStrT Try.prog 48 = false := by kernel_rfl
@[go_sem] theorem ifc_48 : isIfaceT Try.prog 48 = some false := by kernel_rfl
@[go_sem] theorem tsz_49 : tsz Try.prog 49 = some 1 := by kernel_rfl
@[go_sem] theorem agg_49 : isAggT Try.prog 49 = some false := by kernel_rfl
@[go_sem] theorem zer_49 : zeroOf Try.prog 49 = some (.slice none 0 0) := by kernel_rfl
@[go_sem] theorem zcs_49 : zcs Try.prog 49 = some 1 := by kernel_rfl
@[go_sem] theorem str_49 : isStrT Try.prog 49 = false := by kernel_rfl
@[go_sem] theorem ifc_49 : isIfaceT Try.prog 49 = some false := by kernel_rfl
@[go_sem] theorem und_49 : Try.prog.underlying 49 = some (.slice 3) := by kernel_rfl
@[go_sem] theorem elm_49 : elemT Try.prog 49 = some 3 := by kernel_rfl
@[go_sem] theorem tsz_50 : tsz Try.prog 50 = some 1 := by kernel_rfl
@[go_sem] theorem agg_50 : isAggT Try.prog 50 = some false := by kernel_rfl
@[go_sem] theorem zer_50 : zeroOf Try.prog 50 = some (.nilFunc) := by kernel_rfl
@[go_sem] theorem zcs_50 : zcs Try.prog 50 = some 1 := by kernel_rfl
@[go_sem] theorem str_50 : isStrT Try.prog 50 = false := by kernel_rfl
@[go_sem] theorem ifc_50 : isIfaceT Try.prog 50 = some false := by kernel_rfl
@[go_sem] theorem tsz_51 : tsz Try.prog 51 = some 1 := by kernel_rfl
@[go_sem] theorem agg_51 : isAggT Try.prog 51 = some false := by kernel_rfl
@[go_sem] theorem zer_51 : zeroOf Try.prog 51 = some (.nilFunc) := by kernel_rfl
@[go_sem] theorem zcs_51 : zcs Try.prog 51 = some 1 := by kernel_rfl
@[go_sem] theorem str_51 : isStrT Try.prog 51 = false := by kernel_rfl
@[go_sem] theorem ifc_51 : isIfaceT Try.prog 51 = some false := by kernel_rfl
@[go_sem] theorem tsz_52 : tsz Try.prog 52 = some 1 := by kernel_rfl
@[go_sem] theorem agg_52 : isAggT Try.prog 52 = some false := by kernel_rfl
@[go_sem] theorem zer_52 : zeroOf Try.prog 52 = some (.nilFunc) := by kernel_rfl
@[go_sem] theorem zcs_52 : zcs Try.prog 52 = some 1 := by kernel_rfl
@[go_sem] theorem str_52 : isStrT Try.prog 52 = false := by kernel_rfl
@[go_sem] theorem ifc_52 : isIfaceT Try.prog 52 = some false := by kernel_rfl
@[go_sem] theorem tsz_53 : tsz Try.prog 53 = some 1 := by kernel_rfl
@[go_sem] theorem agg_53 : isAggT Try.prog 53 = some false := by kernel_rfl
@[go_sem] theorem zer_53 : zeroOf Try.prog 53 = some (.nilFunc) := by kernel_rfl
@[go_sem] theorem zcs_53 : zcs Try.prog 53 = some 1 := by kernel_rfl
@[go_sem] theorem str_53 : isStrT Try.prog 53 = false := by kernel_rfl
@[go_sem] theorem ifc_53 : isIfaceT Try.prog 53 = some false := by kernel_rfl
@[go_sem] theorem tsz_54 : tsz Try.prog 54 = some 1 := by kernel_rfl
@[go_sem] theorem agg_54 : isAggT Try.prog 54 = some false := by kernel_rfl
@[go_sem] theorem zer_54 : zeroOf Try.prog 54 = some (.nilFunc) := by kernel_rfl
@[go_sem] theorem zcs_54 : zcs Try.prog 54 = some 1 := by kernel_rfl
@[go_sem] theorem str_54 : isStrT Try.prog 54 = false := by kernel_rfl
@[go_sem] theorem ifc_54 : isIfaceT Try.prog 54 = some false := by kernel_rfl
@[go_sem] theorem tsz_55 : tsz Try.prog 55 = some 1 := by kernel_rfl
@[go_sem] theorem agg_55 : isAggT Try.prog 55 = some false := by kernel_rfl
@[go_sem] theorem zer_55 : zeroOf Try.prog 55 = some (.nilFunc) := by kernel_rfl
@[go_sem] theorem zcs_55 : zcs Try.prog 55 = some 1 := by kernel_rfl
@[go_sem] theorem str_55 : isStrT Try.prog 55 = false := by kernel_rfl
@[go_sem] theorem ifc_55 : isIfaceT Try.prog 55 = some false := by kernel_rfl
@[go_sem] theorem tsz_56 : tsz Try.prog 56 = some 1 := by kernel_rfl
@[go_sem] theorem agg_56 : isAggT Try.prog 56 = some false := by kernel_rfl
@[go_sem] theorem zer_56 : zeroOf Try.prog 56 = some (.nilFunc) := by kernel_rfl
@[go_sem] theorem zcs_56 : zcs Try.prog 56 = some 1 := by kernel_rfl
@[go_sem] theorem str_56 : isStrT Try.prog 56 = false := by kernel_rfl
@[go_sem] theorem ifc_56 : isIfaceT Try.prog 56 = some false := by kernel_rfl
@[go_sem] theorem tsz_57 : tsz Try.prog 57 = some 1 := by kernel_rfl
@[go_sem] theorem agg_57 : isAggT Try.prog 57 = some false := by kernel_rfl
@[go_sem] theorem zer_57 : zeroOf Try.prog 57 = some (.int .u64 0) := by kernel_rfl
@[go_sem] theorem zcs_57 : zcs Try.prog 57 = some 1 := by kernel_rfl
@[go_sem] theorem str_57 : isStrT Try.prog 57 = false := by kernel_rfl
@[go_sem] theorem ifc_57 : isIfaceT Try.prog 57 = some false := by kernel_rfl
@[go_sem] theorem int_57 : intT Try.prog 57 = some .u64 := by kernel_rfl
@[go_sem] theorem und_57 : Try.prog.underlying 57 = some (.int .u64) := by kernel_rfl
@[go_sem] theorem tsz_58 : tsz Try.prog 58 = some 1 := by kernel_rfl
@[go_sem] theorem agg_58 : isAggT Try.prog 58 = some false := by kernel_rfl
@[go_sem] theorem zer_58 : zeroOf Try.prog 58 = some (.nilFunc) := by kernel_rfl
@[go_sem] theorem zcs_58 : zcs Try.prog 58 = some 1 := by kernel_rfl
@[go_sem] theorem str_58 : isStrT Try.prog 58 = false := by kernel_rfl
@[go_sem] theorem ifc_58 : isIfaceT Try.prog 58 = some false := by kernel_rfl
@[go_sem] theorem tsz_59 : tsz Try.prog 59 = some 4 := by kernel_rfl
@[go_sem] theorem agg_59 : isAggT Try.prog 59 = some true := by kernel_rfl
@[go_sem] theorem zer_59 : zeroOf Try.prog 59 = some (.agg #[.pointer none, .pointer none, .pointer none, .string (⟨#[]⟩ : ByteArray)]) := by kernel_rfl
@[go_sem] theorem zcs_59 : zcs Try.prog 59 = some 4 := by kernel_rfl
@[go_sem] theorem str_59 : isStrT Try.prog 59 = false := by kernel_rfl
@[go_sem] theorem ifc_59 : isIfaceT Try.prog 59 = some false := by kernel_rfl
@[go_sem] theorem fld_59_0 : fieldOf Try.prog 59 0 = some (0, 17) := by kernel_rfl
@[go_sem] theorem fld_59_1 : fieldOf Try.prog 59 1 = some (1, 17) := by kernel_rfl
@[go_sem] theorem fld_59_2 : fieldOf Try.prog 59 2 = some (2, 17) := by kernel_rfl
@[go_sem] theorem fld_59_3 : fieldOf Try.prog 59 3 = some (3, 9) := by kernel_rfl
@[go_sem] theorem plc_59 : placesOf Try.prog 59 = some [(0, 1), (1, 1), (2, 1), (3, 1)] := by kernel_rfl
@[go_sem] theorem tsz_60 : tsz Try.prog 60 = some 4 := by kernel_rfl
@[go_sem] theorem agg_60 : isAggT Try.prog 60 = some true := by kernel_rfl
@[go_sem] theorem zer_60 : zeroOf Try.prog 60 = some (.agg #[.pointer none, .pointer none, .pointer none, .string (⟨#[]⟩ : ByteArray)]) := by kernel_rfl
@[go_sem] theorem zcs_60 : zcs Try.prog 60 = some 4 := by kernel_rfl
@[go_sem] theorem str_60 : isStrT Try.prog 60 = false := by kernel_rfl
@[go_sem] theorem ifc_60 : isIfaceT Try.prog 60 = some false := by kernel_rfl
@[go_sem] theorem fld_60_0 : fieldOf Try.prog 60 0 = some (0, 17) := by kernel_rfl
@[go_sem] theorem fld_60_1 : fieldOf Try.prog 60 1 = some (1, 17) := by kernel_rfl
@[go_sem] theorem fld_60_2 : fieldOf Try.prog 60 2 = some (2, 17) := by kernel_rfl
@[go_sem] theorem fld_60_3 : fieldOf Try.prog 60 3 = some (3, 9) := by kernel_rfl
@[go_sem] theorem plc_60 : placesOf Try.prog 60 = some [(0, 1), (1, 1), (2, 1), (3, 1)] := by kernel_rfl
@[go_sem] theorem tsz_64 : tsz Try.prog 64 = some 1 := by kernel_rfl
@[go_sem] theorem agg_64 : isAggT Try.prog 64 = some false := by kernel_rfl
@[go_sem] theorem zer_64 : zeroOf Try.prog 64 = some (.int .u32 0) := by kernel_rfl
@[go_sem] theorem zcs_64 : zcs Try.prog 64 = some 1 := by kernel_rfl
@[go_sem] theorem str_64 : isStrT Try.prog 64 = false := by kernel_rfl
@[go_sem] theorem ifc_64 : isIfaceT Try.prog 64 = some false := by kernel_rfl
@[go_sem] theorem int_64 : intT Try.prog 64 = some .u32 := by kernel_rfl
@[go_sem] theorem und_64 : Try.prog.underlying 64 = some (.int .u32) := by kernel_rfl
@[go_sem] theorem tsz_65 : tsz Try.prog 65 = some 1 := by kernel_rfl
@[go_sem] theorem agg_65 : isAggT Try.prog 65 = some false := by kernel_rfl
@[go_sem] theorem zer_65 : zeroOf Try.prog 65 = some (.int .u8 0) := by kernel_rfl
@[go_sem] theorem zcs_65 : zcs Try.prog 65 = some 1 := by kernel_rfl
@[go_sem] theorem str_65 : isStrT Try.prog 65 = false := by kernel_rfl
@[go_sem] theorem ifc_65 : isIfaceT Try.prog 65 = some false := by kernel_rfl
@[go_sem] theorem int_65 : intT Try.prog 65 = some .u8 := by kernel_rfl
@[go_sem] theorem und_65 : Try.prog.underlying 65 = some (.int .u8) := by kernel_rfl
@[go_sem] theorem tsz_66 : tsz Try.prog 66 = some 1 := by kernel_rfl
@[go_sem] theorem agg_66 : isAggT Try.prog 66 = some false := by kernel_rfl
@[go_sem] theorem zer_66 : zeroOf Try.prog 66 = some (.int .u8 0) := by kernel_rfl
@[go_sem] theorem zcs_66 : zcs Try.prog 66 = some 1 := by kernel_rfl
@[go_sem] theorem str_66 : isStrT Try.prog 66 = false := by kernel_rfl
@[go_sem] theorem ifc_66 : isIfaceT Try.prog 66 = some false := by kernel_rfl
@[go_sem] theorem int_66 : intT Try.prog 66 = some .u8 := by kernel_rfl
@[go_sem] theorem und_66 : Try.prog.underlying 66 = some (.int .u8) := by kernel_rfl
@[go_sem] theorem tsz_67 : tsz Try.prog 67 = some 1 := by kernel_rfl
@[go_sem] theorem agg_67 : isAggT Try.prog 67 = some false := by kernel_rfl
@[go_sem] theorem zer_67 : zeroOf Try.prog 67 = some (.nilFunc) := by kernel_rfl
@[go_sem] theorem zcs_67 : zcs Try.prog 67 = some 1 := by kernel_rfl
@[go_sem] theorem str_67 : isStrT Try.prog 67 = false := by kernel_rfl
@[go_sem] theorem ifc_67 : isIfaceT Try.prog 67 = some false := by kernel_rfl
@[go_sem] theorem tsz_68 : tsz Try.prog 68 = some 1 := by kernel_rfl
@[go_sem] theorem agg_68 : isAggT Try.prog 68 = some false := by kernel_rfl
@[go_sem] theorem zer_68 : zeroOf Try.prog 68 = some (.pointer none) := by kernel_rfl
@[go_sem] theorem zcs_68 : zcs Try.prog 68 = some 1 := by kernel_rfl
@[go_sem] theorem str_68 : isStrT Try.prog 68 = false := by kernel_rfl
@[go_sem] theorem ifc_68 : isIfaceT Try.prog 68 = some false := by kernel_rfl
@[go_sem] theorem tsz_69 : tsz Try.prog 69 = some 1 := by kernel_rfl
@[go_sem] theorem agg_69 : isAggT Try.prog 69 = some false := by kernel_rfl
@[go_sem] theorem zer_69 : zeroOf Try.prog 69 = some (.int .i32 0) := by kernel_rfl
@[go_sem] theorem zcs_69 : zcs Try.prog 69 = some 1 := by kernel_rfl
@[go_sem] theorem str_69 : isStrT Try.prog 69 = false := by kernel_rfl
@[go_sem] theorem ifc_69 : isIfaceT Try.prog 69 = some false := by kernel_rfl
@[go_sem] theorem int_69 : intT Try.prog 69 = some .i32 := by kernel_rfl
@[go_sem] theorem und_69 : Try.prog.underlying 69 = some (.int .i32) := by kernel_rfl
@[go_sem] theorem tsz_70 : tsz Try.prog 70 = some 1 := by kernel_rfl
@[go_sem] theorem agg_70 : isAggT Try.prog 70 = some false := by kernel_rfl
@[go_sem] theorem zer_70 : zeroOf Try.prog 70 = some (.int .i32 0) := by kernel_rfl
@[go_sem] theorem zcs_70 : zcs Try.prog 70 = some 1 := by kernel_rfl
@[go_sem] theorem str_70 : isStrT Try.prog 70 = false := by kernel_rfl
@[go_sem] theorem ifc_70 : isIfaceT Try.prog 70 = some false := by kernel_rfl
@[go_sem] theorem int_70 : intT Try.prog 70 = some .i32 := by kernel_rfl
@[go_sem] theorem und_70 : Try.prog.underlying 70 = some (.int .i32) := by kernel_rfl
@[go_sem] theorem tsz_71 : tsz Try.prog 71 = some 11 := by kernel_rfl
@[go_sem] theorem agg_71 : isAggT Try.prog 71 = some true := by kernel_rfl
@[go_sem] theorem zer_71 : zeroOf Try.prog 71 = some (.agg #[.int .u64 0, .int .u64 0, .int .u32 0, .int .u8 0, .int .u8 0, .int .u8 0, .int .u8 0, .nilFunc, .pointer none, .int .i32 0, .int .i32 0]) := by kernel_rfl
@[go_sem] theorem zcs_71 : zcs Try.prog 71 = some 11 := by kernel_rfl
@[go_sem] theorem str_71 : isStrT Try.prog 71 = false := by kernel_rfl
@[go_sem] theorem ifc_71 : isIfaceT Try.prog 71 = some false := by kernel_rfl
@[go_sem] theorem fld_71_0 : fieldOf Try.prog 71 0 = some (0, 12) := by kernel_rfl
@[go_sem] theorem fld_71_1 : fieldOf Try.prog 71 1 = some (1, 12) := by kernel_rfl
@[go_sem] theorem fld_71_2 : fieldOf Try.prog 71 2 = some (2, 64) := by kernel_rfl
@[go_sem] theorem fld_71_3 : fieldOf Try.prog 71 3 = some (3, 65) := by kernel_rfl
@[go_sem] theorem fld_71_4 : fieldOf Try.prog 71 4 = some (4, 5) := by kernel_rfl
@[go_sem] theorem fld_71_5 : fieldOf Try.prog 71 5 = some (5, 5) := by kernel_rfl
@[go_sem] theorem fld_71_6 : fieldOf Try.prog 71 6 = some (6, 66) := by kernel_rfl
@[go_sem] theorem fld_71_7 : fieldOf Try.prog 71 7 = some (7, 67) := by kernel_rfl
@[go_sem] theorem fld_71_8 : fieldOf Try.prog 71 8 = some (8, 68) := by kernel_rfl
@[go_sem] theorem fld_71_9 : fieldOf Try.prog 71 9 = some (9, 69) := by kernel_rfl
@[go_sem] theorem fld_71_10 : fieldOf Try.prog 71 10 = some (10, 70) := by kernel_rfl
@[go_sem] theorem plc_71 : placesOf Try.prog 71 = some [(0, 1), (1, 1), (2, 1), (3, 1), (4, 1), (5, 1), (6, 1), (7, 1), (8, 1), (9, 1), (10, 1)] := by kernel_rfl
@[go_sem] theorem tsz_72 : tsz Try.prog 72 = some 11 := by kernel_rfl
@[go_sem] theorem agg_72 : isAggT Try.prog 72 = some true := by kernel_rfl
@[go_sem] theorem zer_72 : zeroOf Try.prog 72 = some (.agg #[.int .u64 0, .int .u64 0, .int .u32 0, .int .u8 0, .int .u8 0, .int .u8 0, .int .u8 0, .nilFunc, .pointer none, .int .i32 0, .int .i32 0]) := by kernel_rfl
@[go_sem] theorem zcs_72 : zcs Try.prog 72 = some 11 := by kernel_rfl
@[go_sem] theorem str_72 : isStrT Try.prog 72 = false := by kernel_rfl
@[go_sem] theorem ifc_72 : isIfaceT Try.prog 72 = some false := by kernel_rfl
@[go_sem] theorem fld_72_0 : fieldOf Try.prog 72 0 = some (0, 12) := by kernel_rfl
@[go_sem] theorem fld_72_1 : fieldOf Try.prog 72 1 = some (1, 12) := by kernel_rfl
@[go_sem] theorem fld_72_2 : fieldOf Try.prog 72 2 = some (2, 64) := by kernel_rfl
@[go_sem] theorem fld_72_3 : fieldOf Try.prog 72 3 = some (3, 65) := by kernel_rfl
@[go_sem] theorem fld_72_4 : fieldOf Try.prog 72 4 = some (4, 5) := by kernel_rfl
@[go_sem] theorem fld_72_5 : fieldOf Try.prog 72 5 = some (5, 5) := by kernel_rfl
@[go_sem] theorem fld_72_6 : fieldOf Try.prog 72 6 = some (6, 66) := by kernel_rfl
@[go_sem] theorem fld_72_7 : fieldOf Try.prog 72 7 = some (7, 67) := by kernel_rfl
@[go_sem] theorem fld_72_8 : fieldOf Try.prog 72 8 = some (8, 68) := by kernel_rfl
@[go_sem] theorem fld_72_9 : fieldOf Try.prog 72 9 = some (9, 69) := by kernel_rfl
@[go_sem] theorem fld_72_10 : fieldOf Try.prog 72 10 = some (10, 70) := by kernel_rfl
@[go_sem] theorem plc_72 : placesOf Try.prog 72 = some [(0, 1), (1, 1), (2, 1), (3, 1), (4, 1), (5, 1), (6, 1), (7, 1), (8, 1), (9, 1), (10, 1)] := by kernel_rfl
@[go_sem] theorem tby_3 : tby Try.prog 3 = some 8 := by kernel_rfl
@[go_sem] theorem tby_25 : tby Try.prog 25 = some 40 := by kernel_rfl
theorem mix : Try.prog.follows .mixedOrders = true := by kernel_rfl
end Go.Proofs.Ytjihcldhjpdnmaa.AM
namespace Go.Proofs.Ytjihcldhjpdnmaa.AM
open Go.RowKit
abbrev iv (n : Int) : AV := .lit (.int .i64 n)
abbrev bv (b : Bool) : AV := .lit (.bool b)
abbrev sv (s : ByteArray) : AV := .lit (.string s)
abbrev di (n : Int) : Dat := .lit (.int .i64 n)
abbrev ds' (s : ByteArray) : Dat := .lit (.string s)
abbrev df (f : Nat) : Dat := .lit (.float .f64 f)
abbrev eE : ByteArray := ⟨#[]⟩
structure AtomD where
  k : Int
  n : Int
  f : Nat
  s : ByteArray
def AtomD.enc (a : AtomD) : List Dat := [di a.k, di a.n, df a.f, ds' a.s]
structure ValD where
  a : AtomD
  l : List AtomD
theorem row_at {α : Type} (e : α → List Dat) (l : List α) (k : Nat) (h : k < l.length) : (l.map e)[k]? = some (e l[k]) := by simp [h]
theorem lt_t {a b : Nat} (h : a < b) : decide ((a : Int) < (b : Int)) = true := by simpa using h
theorem lt_f {a b : Nat} (h : ¬ a < b) : decide ((a : Int) < (b : Int)) = false := by simpa using h
end Go.Proofs.Ytjihcldhjpdnmaa.AM
