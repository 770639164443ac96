/- Part 3 of the proof: words, contracts, plain laws. Laid by a program of this session (wip/tool/shake.py): what is needed of own and printed texts, in order. -/
import Derived.Test.YtfeacmadnbajfaaGreatDoorZa0
import Derived.Test.YtfeacmadnbajfaaGreatDoorZa1
import Derived.Test.YtfeacmadnbajfaaGreatDoorZa2
import Derived.Test.YtfeacmadnbajfaaGreatDoorProg
import Derived.KernelRfl
import Derived.Calls
import Derived.Lib.ItoaNum
import Derived.Orders
import Derived.Tactics
import Derived.Below
import Derived.Laws.Rows
import Derived.Laws.World
import Derived.Laws.CopyRow
import Derived.Lib.FrozenHead
import Derived.Deep.AppendSrc
import Derived.Deep.Upon
import Derived.Laws.BytesArg
import Derived.IntWalk
import Derived.Laws.Externs
import Derived.LoopN
import Derived.MapKept
import Derived.RegionTactic
namespace Go.Proofs.YtfeacmadnbajfaaGreatDoor.AM
open Go.RowKit Go.Proofs
set_option maxRecDepth 100000
@[go_sem] theorem tsz_1 : tsz Tryz.prog 1 = some 1 := by kernel_rfl
@[go_sem] theorem agg_1 : isAggT Tryz.prog 1 = some false := by kernel_rfl
@[go_sem] theorem zer_1 : zeroOf Tryz.prog 1 = some (.nilFunc) := by kernel_rfl
@[go_sem] theorem zcs_1 : zcs Tryz.prog 1 = some 1 := by kernel_rfl
@[go_sem] theorem str_1 : isStrT Tryz.prog 1 = false := by kernel_rfl
@[go_sem] theorem ifc_1 : isIfaceT Tryz.prog 1 = some false := by kernel_rfl
@[go_sem] theorem tsz_2 : tsz Tryz.prog 2 = some 1 := by kernel_rfl
@[go_sem] theorem agg_2 : isAggT Tryz.prog 2 = some false := by kernel_rfl
@[go_sem] theorem zer_2 : zeroOf Tryz.prog 2 = some (.int .i64 0) := by kernel_rfl
@[go_sem] theorem zcs_2 : zcs Tryz.prog 2 = some 1 := by kernel_rfl
@[go_sem] theorem str_2 : isStrT Tryz.prog 2 = false := by kernel_rfl
@[go_sem] theorem ifc_2 : isIfaceT Tryz.prog 2 = some false := by kernel_rfl
@[go_sem] theorem int_2 : intT Tryz.prog 2 = some .i64 := by kernel_rfl
@[go_sem] theorem und_2 : Tryz.prog.underlying 2 = some (.int .i64) := by kernel_rfl
@[go_sem] theorem tsz_3 : tsz Tryz.prog 3 = some 1 := by kernel_rfl
@[go_sem] theorem agg_3 : isAggT Tryz.prog 3 = some false := by kernel_rfl
@[go_sem] theorem zer_3 : zeroOf Tryz.prog 3 = some (.int .i64 0) := by kernel_rfl
@[go_sem] theorem zcs_3 : zcs Tryz.prog 3 = some 1 := by kernel_rfl
@[go_sem] theorem str_3 : isStrT Tryz.prog 3 = false := by kernel_rfl
@[go_sem] theorem ifc_3 : isIfaceT Tryz.prog 3 = some false := by kernel_rfl
@[go_sem] theorem int_3 : intT Tryz.prog 3 = some .i64 := by kernel_rfl
@[go_sem] theorem und_3 : Tryz.prog.underlying 3 = some (.int .i64) := by kernel_rfl
@[go_sem] theorem tsz_4 : tsz Tryz.prog 4 = some 1 := by kernel_rfl
@[go_sem] theorem agg_4 : isAggT Tryz.prog 4 = some false := by kernel_rfl
@[go_sem] theorem zer_4 : zeroOf Tryz.prog 4 = some (.bool false) := by kernel_rfl
@[go_sem] theorem zcs_4 : zcs Tryz.prog 4 = some 1 := by kernel_rfl
@[go_sem] theorem str_4 : isStrT Tryz.prog 4 = false := by kernel_rfl
@[go_sem] theorem ifc_4 : isIfaceT Tryz.prog 4 = some false := by kernel_rfl
@[go_sem] theorem und_4 : Tryz.prog.underlying 4 = some (.bool) := by kernel_rfl
@[go_sem] theorem tsz_5 : tsz Tryz.prog 5 = some 1 := by kernel_rfl
@[go_sem] theorem agg_5 : isAggT Tryz.prog 5 = some false := by kernel_rfl
@[go_sem] theorem zer_5 : zeroOf Tryz.prog 5 = some (.int .u8 0) := by kernel_rfl
@[go_sem] theorem zcs_5 : zcs Tryz.prog 5 = some 1 := by kernel_rfl
@[go_sem] theorem str_5 : isStrT Tryz.prog 5 = false := by kernel_rfl
@[go_sem] theorem ifc_5 : isIfaceT Tryz.prog 5 = some false := by kernel_rfl
@[go_sem] theorem int_5 : intT Tryz.prog 5 = some .u8 := by kernel_rfl
@[go_sem] theorem und_5 : Tryz.prog.underlying 5 = some (.int .u8) := by kernel_rfl
@[go_sem] theorem tsz_6 : tsz Tryz.prog 6 = some 1 := by kernel_rfl
@[go_sem] theorem agg_6 : isAggT Tryz.prog 6 = some false := by kernel_rfl
@[go_sem] theorem zer_6 : zeroOf Tryz.prog 6 = some (.int .u8 0) := by kernel_rfl
@[go_sem] theorem zcs_6 : zcs Tryz.prog 6 = some 1 := by kernel_rfl
@[go_sem] theorem str_6 : isStrT Tryz.prog 6 = false := by kernel_rfl
@[go_sem] theorem ifc_6 : isIfaceT Tryz.prog 6 = some false := by kernel_rfl
@[go_sem] theorem int_6 : intT Tryz.prog 6 = some .u8 := by kernel_rfl
@[go_sem] theorem und_6 : Tryz.prog.underlying 6 = some (.int .u8) := by kernel_rfl
@[go_sem] theorem tsz_7 : tsz Tryz.prog 7 = some 4 := by kernel_rfl
@[go_sem] theorem agg_7 : isAggT Tryz.prog 7 = some true := by kernel_rfl
@[go_sem] theorem zer_7 : zeroOf Tryz.prog 7 = some (.agg #[.int .i64 0, .int .i64 0, .bool false, .int .u8 0]) := by kernel_rfl
@[go_sem] theorem zcs_7 : zcs Tryz.prog 7 = some 4 := by kernel_rfl
@[go_sem] theorem str_7 : isStrT Tryz.prog 7 = false := by kernel_rfl
@[go_sem] theorem ifc_7 : isIfaceT Tryz.prog 7 = some false := by kernel_rfl
@[go_sem] theorem fld_7_0 : fieldOf Tryz.prog 7 0 = some (0, 2) := by kernel_rfl
@[go_sem] theorem fld_7_1 : fieldOf Tryz.prog 7 1 = some (1, 3) := by kernel_rfl
@[go_sem] theorem fld_7_2 : fieldOf Tryz.prog 7 2 = some (2, 4) := by kernel_rfl
@[go_sem] theorem fld_7_3 : fieldOf Tryz.prog 7 3 = some (3, 6) := by kernel_rfl
@[go_sem] theorem plc_7 : placesOf Tryz.prog 7 = some [(0, 1), (1, 1), (2, 1), (3, 1)] := by kernel_rfl
@[go_sem] theorem tsz_8 : tsz Tryz.prog 8 = some 4 := by kernel_rfl
@[go_sem] theorem agg_8 : isAggT Tryz.prog 8 = some true := by kernel_rfl
@[go_sem] theorem zer_8 : zeroOf Tryz.prog 8 = some (.agg #[.int .i64 0, .int .i64 0, .bool false, .int .u8 0]) := by kernel_rfl
@[go_sem] theorem zcs_8 : zcs Tryz.prog 8 = some 4 := by kernel_rfl
@[go_sem] theorem str_8 : isStrT Tryz.prog 8 = false := by kernel_rfl
@[go_sem] theorem ifc_8 : isIfaceT Tryz.prog 8 = some false := by kernel_rfl
@[go_sem] theorem fld_8_0 : fieldOf Tryz.prog 8 0 = some (0, 2) := by kernel_rfl
@[go_sem] theorem fld_8_1 : fieldOf Tryz.prog 8 1 = some (1, 3) := by kernel_rfl
@[go_sem] theorem fld_8_2 : fieldOf Tryz.prog 8 2 = some (2, 4) := by kernel_rfl
@[go_sem] theorem fld_8_3 : fieldOf Tryz.prog 8 3 = some (3, 6) := by kernel_rfl
@[go_sem] theorem plc_8 : placesOf Tryz.prog 8 = some [(0, 1), (1, 1), (2, 1), (3, 1)] := by kernel_rfl
@[go_sem] theorem tsz_9 : tsz Tryz.prog 9 = some 1 := by kernel_rfl
@[go_sem] theorem agg_9 : isAggT Tryz.prog 9 = some false := by kernel_rfl
@[go_sem] theorem zer_9 : zeroOf Tryz.prog 9 = some (.string (⟨#[]⟩ : ByteArray)) := by kernel_rfl
@[go_sem] theorem zcs_9 : zcs Tryz.prog 9 = some 1 := by kernel_rfl
@[go_sem] theorem str_9 : isStrT Tryz.prog 9 = true := by kernel_rfl
@[go_sem] theorem ifc_9 : isIfaceT Tryz.prog 9 = some false := by kernel_rfl
@[go_sem] theorem und_9 : Tryz.prog.underlying 9 = some (.string) := by kernel_rfl
@[go_sem] theorem tsz_10 : tsz Tryz.prog 10 = some 1 := by kernel_rfl
@[go_sem] theorem agg_10 : isAggT Tryz.prog 10 = some false := by kernel_rfl
@[go_sem] theorem zer_10 : zeroOf Tryz.prog 10 = some (.string (⟨#[]⟩ : ByteArray)) := by kernel_rfl
@[go_sem] theorem zcs_10 : zcs Tryz.prog 10 = some 1 := by kernel_rfl
@[go_sem] theorem str_10 : isStrT Tryz.prog 10 = true := by kernel_rfl
@[go_sem] theorem ifc_10 : isIfaceT Tryz.prog 10 = some false := by kernel_rfl
@[go_sem] theorem und_10 : Tryz.prog.underlying 10 = some (.string) := by kernel_rfl
@[go_sem] theorem tsz_11 : tsz Tryz.prog 11 = some 1 := by kernel_rfl
@[go_sem] theorem agg_11 : isAggT Tryz.prog 11 = some false := by kernel_rfl
@[go_sem] theorem zer_11 : zeroOf Tryz.prog 11 = some (.string (⟨#[]⟩ : ByteArray)) := by kernel_rfl
@[go_sem] theorem zcs_11 : zcs Tryz.prog 11 = some 1 := by kernel_rfl
@[go_sem] theorem str_11 : isStrT Tryz.prog 11 = true := by kernel_rfl
@[go_sem] theorem ifc_11 : isIfaceT Tryz.prog 11 = some false := by kernel_rfl
@[go_sem] theorem und_11 : Tryz.prog.underlying 11 = some (.string) := by kernel_rfl
@[go_sem] theorem tsz_12 : tsz Tryz.prog 12 = some 1 := by kernel_rfl
@[go_sem] theorem agg_12 : isAggT Tryz.prog 12 = some false := by kernel_rfl
@[go_sem] theorem zer_12 : zeroOf Tryz.prog 12 = some (.int .u64 0) := by kernel_rfl
@[go_sem] theorem zcs_12 : zcs Tryz.prog 12 = some 1 := by kernel_rfl
@[go_sem] theorem str_12 : isStrT Tryz.prog 12 = false := by kernel_rfl
@[go_sem] theorem ifc_12 : isIfaceT Tryz.prog 12 = some false := by kernel_rfl
@[go_sem] theorem int_12 : intT Tryz.prog 12 = some .u64 := by kernel_rfl
@[go_sem] theorem und_12 : Tryz.prog.underlying 12 = some (.int .u64) := by kernel_rfl
@[go_sem] theorem tsz_13 : tsz Tryz.prog 13 = some 2 := by kernel_rfl
@[go_sem] theorem agg_13 : isAggT Tryz.prog 13 = some true := by kernel_rfl
@[go_sem] theorem zer_13 : zeroOf Tryz.prog 13 = some (.agg #[.string (⟨#[]⟩ : ByteArray), .int .u64 0]) := by kernel_rfl
@[go_sem] theorem zcs_13 : zcs Tryz.prog 13 = some 2 := by kernel_rfl
@[go_sem] theorem str_13 : isStrT Tryz.prog 13 = false := by kernel_rfl
@[go_sem] theorem ifc_13 : isIfaceT Tryz.prog 13 = some false := by kernel_rfl
@[go_sem] theorem fld_13_0 : fieldOf Tryz.prog 13 0 = some (0, 9) := by kernel_rfl
@[go_sem] theorem fld_13_1 : fieldOf Tryz.prog 13 1 = some (1, 12) := by kernel_rfl
@[go_sem] theorem plc_13 : placesOf Tryz.prog 13 = some [(0, 1), (1, 1)] := by kernel_rfl
@[go_sem] theorem tsz_14 : tsz Tryz.prog 14 = some 2 := by kernel_rfl
@[go_sem] theorem agg_14 : isAggT Tryz.prog 14 = some true := by kernel_rfl
@[go_sem] theorem zer_14 : zeroOf Tryz.prog 14 = some (.agg #[.string (⟨#[]⟩ : ByteArray), .int .u64 0]) := by kernel_rfl
@[go_sem] theorem zcs_14 : zcs Tryz.prog 14 = some 2 := by kernel_rfl
@[go_sem] theorem str_14 : isStrT Tryz.prog 14 = false := by kernel_rfl
@[go_sem] theorem ifc_14 : isIfaceT Tryz.prog 14 = some false := by kernel_rfl
@[go_sem] theorem fld_14_0 : fieldOf Tryz.prog 14 0 = some (0, 9) := by kernel_rfl
@[go_sem] theorem fld_14_1 : fieldOf Tryz.prog 14 1 = some (1, 12) := by kernel_rfl
@[go_sem] theorem plc_14 : placesOf Tryz.prog 14 = some [(0, 1), (1, 1)] := by kernel_rfl
@[go_sem] theorem tsz_15 : tsz Tryz.prog 15 = some 1 := by kernel_rfl
@[go_sem] theorem agg_15 : isAggT Tryz.prog 15 = some false := by kernel_rfl
@[go_sem] theorem zer_15 : zeroOf Tryz.prog 15 = some (.pointer none) := by kernel_rfl
@[go_sem] theorem zcs_15 : zcs Tryz.prog 15 = some 1 := by kernel_rfl
@[go_sem] theorem str_15 : isStrT Tryz.prog 15 = false := by kernel_rfl
@[go_sem] theorem ifc_15 : isIfaceT Tryz.prog 15 = some false := by kernel_rfl
@[go_sem] theorem tsz_16 : tsz Tryz.prog 16 = some 1 := by kernel_rfl
@[go_sem] theorem agg_16 : isAggT Tryz.prog 16 = some false := by kernel_rfl
@[go_sem] theorem zer_16 : zeroOf Tryz.prog 16 = some (.pointer none) := by kernel_rfl
@[go_sem] theorem zcs_16 : zcs Tryz.prog 16 = some 1 := by kernel_rfl
@[go_sem] theorem str_16 : isStrT Tryz.prog 16 = false := by kernel_rfl
@[go_sem] theorem ifc_16 : isIfaceT Tryz.prog 16 = some false := by kernel_rfl
@[go_sem] theorem tsz_17 : tsz Tryz.prog 17 = some 1 := by kernel_rfl
@[go_sem] theorem agg_17 : isAggT Tryz.prog 17 = some false := by kernel_rfl
@[go_sem] theorem zer_17 : zeroOf Tryz.prog 17 = some (.pointer none) := by kernel_rfl
@[go_sem] theorem zcs_17 : zcs Tryz.prog 17 = some 1 := by kernel_rfl
@[go_sem] theorem str_17 : isStrT Tryz.prog 17 = false := by kernel_rfl
@[go_sem] theorem ifc_17 : isIfaceT Tryz.prog 17 = some false := by kernel_rfl
@[go_sem] theorem tsz_18 : tsz Tryz.prog 18 = some 1 := by kernel_rfl
@[go_sem] theorem agg_18 : isAggT Tryz.prog 18 = some true := by kernel_rfl
@[go_sem] theorem zer_18 : zeroOf Tryz.prog 18 = some (.agg #[.pointer none]) := by kernel_rfl
@[go_sem] theorem zcs_18 : zcs Tryz.prog 18 = some 1 := by kernel_rfl
@[go_sem] theorem str_18 : isStrT Tryz.prog 18 = false := by kernel_rfl
@[go_sem] theorem ifc_18 : isIfaceT Tryz.prog 18 = some false := by kernel_rfl
@[go_sem] theorem fld_18_0 : fieldOf Tryz.prog 18 0 = some (0, 17) := by kernel_rfl
@[go_sem] theorem plc_18 : placesOf Tryz.prog 18 = some [(0, 1)] := by kernel_rfl
@[go_sem] theorem tsz_19 : tsz Tryz.prog 19 = some 1 := by kernel_rfl
@[go_sem] theorem agg_19 : isAggT Tryz.prog 19 = some true := by kernel_rfl
@[go_sem] theorem zer_19 : zeroOf Tryz.prog 19 = some (.agg #[.pointer none]) := by kernel_rfl
@[go_sem] theorem zcs_19 : zcs Tryz.prog 19 = some 1 := by kernel_rfl
@[go_sem] theorem str_19 : isStrT Tryz.prog 19 = false := by kernel_rfl
@[go_sem] theorem ifc_19 : isIfaceT Tryz.prog 19 = some false := by kernel_rfl
@[go_sem] theorem fld_19_0 : fieldOf Tryz.prog 19 0 = some (0, 17) := by kernel_rfl
@[go_sem] theorem plc_19 : placesOf Tryz.prog 19 = some [(0, 1)] := by kernel_rfl
@[go_sem] theorem tsz_20 : tsz Tryz.prog 20 = some 1 := by kernel_rfl
@[go_sem] theorem agg_20 : isAggT Tryz.prog 20 = some false := by kernel_rfl
@[go_sem] theorem zer_20 : zeroOf Tryz.prog 20 = some (.nilIface) := by kernel_rfl
@[go_sem] theorem zcs_20 : zcs Tryz.prog 20 = some 1 := by kernel_rfl
@[go_sem] theorem str_20 : isStrT Tryz.prog 20 = false := by kernel_rfl
@[go_sem] theorem ifc_20 : isIfaceT Tryz.prog 20 = some true := by kernel_rfl
@[go_sem] theorem tsz_21 : tsz Tryz.prog 21 = some 1 := by kernel_rfl
@[go_sem] theorem agg_21 : isAggT Tryz.prog 21 = some false := by kernel_rfl
@[go_sem] theorem zer_21 : zeroOf Tryz.prog 21 = some (.int .i32 0) := by kernel_rfl
@[go_sem] theorem zcs_21 : zcs Tryz.prog 21 = some 1 := by kernel_rfl
@[go_sem] theorem str_21 : isStrT Tryz.prog 21 = false := by kernel_rfl
@[go_sem] theorem ifc_21 : isIfaceT Tryz.prog 21 = some false := by kernel_rfl
@[go_sem] theorem int_21 : intT Tryz.prog 21 = some .i32 := by kernel_rfl
@[go_sem] theorem und_21 : Tryz.prog.underlying 21 = some (.int .i32) := by kernel_rfl
@[go_sem] theorem tsz_22 : tsz Tryz.prog 22 = some 1 := by kernel_rfl
@[go_sem] theorem agg_22 : isAggT Tryz.prog 22 = some false := by kernel_rfl
@[go_sem] theorem zer_22 : zeroOf Tryz.prog 22 = some (.float .f64 0) := by kernel_rfl
@[go_sem] theorem zcs_22 : zcs Tryz.prog 22 = some 1 := by kernel_rfl
@[go_sem] theorem str_22 : isStrT Tryz.prog 22 = false := by kernel_rfl
@[go_sem] theorem ifc_22 : isIfaceT Tryz.prog 22 = some false := by kernel_rfl
@[go_sem] theorem und_22 : Tryz.prog.underlying 22 = some (.float .f64) := by kernel_rfl
@[go_sem] theorem tsz_23 : tsz Tryz.prog 23 = some 4 := by kernel_rfl
@[go_sem] theorem agg_23 : isAggT Tryz.prog 23 = some true := by kernel_rfl
@[go_sem] theorem zer_23 : zeroOf Tryz.prog 23 = some (.agg #[.int .i64 0, .int .i64 0, .float .f64 0, .string (⟨#[]⟩ : ByteArray)]) := by kernel_rfl
@[go_sem] theorem zcs_23 : zcs Tryz.prog 23 = some 4 := by kernel_rfl
@[go_sem] theorem str_23 : isStrT Tryz.prog 23 = false := by kernel_rfl
@[go_sem] theorem ifc_23 : isIfaceT Tryz.prog 23 = some false := by kernel_rfl
@[go_sem] theorem fld_23_0 : fieldOf Tryz.prog 23 0 = some (0, 3) := by kernel_rfl
@[go_sem] theorem fld_23_1 : fieldOf Tryz.prog 23 1 = some (1, 3) := by kernel_rfl
@[go_sem] theorem fld_23_2 : fieldOf Tryz.prog 23 2 = some (2, 22) := by kernel_rfl
@[go_sem] theorem fld_23_3 : fieldOf Tryz.prog 23 3 = some (3, 9) := by kernel_rfl
@[go_sem] theorem plc_23 : placesOf Tryz.prog 23 = some [(0, 1), (1, 1), (2, 1), (3, 1)] := by kernel_rfl
@[go_sem] theorem tsz_24 : tsz Tryz.prog 24 = some 4 := by kernel_rfl
@[go_sem] theorem agg_24 : isAggT Tryz.prog 24 = some true := by kernel_rfl
@[go_sem] theorem zer_24 : zeroOf Tryz.prog 24 = some (.agg #[.int .i64 0, .int .i64 0, .float .f64 0, .string (⟨#[]⟩ : ByteArray)]) := by kernel_rfl
@[go_sem] theorem zcs_24 : zcs Tryz.prog 24 = some 4 := by kernel_rfl
@[go_sem] theorem str_24 : isStrT Tryz.prog 24 = false := by kernel_rfl
@[go_sem] theorem ifc_24 : isIfaceT Tryz.prog 24 = some false := by kernel_rfl
@[go_sem] theorem fld_24_0 : fieldOf Tryz.prog 24 0 = some (0, 3) := by kernel_rfl
@[go_sem] theorem fld_24_1 : fieldOf Tryz.prog 24 1 = some (1, 3) := by kernel_rfl
@[go_sem] theorem fld_24_2 : fieldOf Tryz.prog 24 2 = some (2, 22) := by kernel_rfl
@[go_sem] theorem fld_24_3 : fieldOf Tryz.prog 24 3 = some (3, 9) := by kernel_rfl
@[go_sem] theorem plc_24 : placesOf Tryz.prog 24 = some [(0, 1), (1, 1), (2, 1), (3, 1)] := by kernel_rfl
@[go_sem] theorem tsz_25 : tsz Tryz.prog 25 = some 1 := by kernel_rfl
@[go_sem] theorem agg_25 : isAggT Tryz.prog 25 = some false := by kernel_rfl
@[go_sem] theorem zer_25 : zeroOf Tryz.prog 25 = some (.slice none 0 0) := by kernel_rfl
@[go_sem] theorem zcs_25 : zcs Tryz.prog 25 = some 1 := by kernel_rfl
@[go_sem] theorem str_25 : isStrT Tryz.prog 25 = false := by kernel_rfl
@[go_sem] theorem ifc_25 : isIfaceT Tryz.prog 25 = some false := by kernel_rfl
@[go_sem] theorem und_25 : Tryz.prog.underlying 25 = some (.slice 24) := by kernel_rfl
@[go_sem] theorem elm_25 : elemT Tryz.prog 25 = some 24 := by kernel_rfl
@[go_sem] theorem tsz_26 : tsz Tryz.prog 26 = some 5 := by kernel_rfl
@[go_sem] theorem agg_26 : isAggT Tryz.prog 26 = some true := by kernel_rfl
@[go_sem] theorem zer_26 : zeroOf Tryz.prog 26 = some (.agg #[.int .i64 0, .int .i64 0, .float .f64 0, .string (⟨#[]⟩ : ByteArray), .slice none 0 0]) := by kernel_rfl
@[go_sem] theorem zcs_26 : zcs Tryz.prog 26 = some 5 := by kernel_rfl
@[go_sem] theorem str_26 : isStrT Tryz.prog 26 = false := by kernel_rfl
@[go_sem] theorem ifc_26 : isIfaceT Tryz.prog 26 = some false := by kernel_rfl
@[go_sem] theorem fld_26_0 : fieldOf Tryz.prog 26 0 = some (0, 24) := by kernel_rfl
@[go_sem] theorem fld_26_1 : fieldOf Tryz.prog 26 1 = some (4, 25) := by kernel_rfl
@[go_sem] theorem plc_26 : placesOf Tryz.prog 26 = some [(0, 4), (4, 1)] := by kernel_rfl
@[go_sem] theorem tsz_27 : tsz Tryz.prog 27 = some 5 := by kernel_rfl
@[go_sem] theorem agg_27 : isAggT Tryz.prog 27 = some true := by kernel_rfl
@[go_sem] theorem zer_27 : zeroOf Tryz.prog 27 = some (.agg #[.int .i64 0, .int .i64 0, .float .f64 0, .string (⟨#[]⟩ : ByteArray), .slice none 0 0]) := by kernel_rfl
@[go_sem] theorem zcs_27 : zcs Tryz.prog 27 = some 5 := by kernel_rfl
@[go_sem] theorem str_27 : isStrT Tryz.prog 27 = false := by kernel_rfl
@[go_sem] theorem ifc_27 : isIfaceT Tryz.prog 27 = some false := by kernel_rfl
@[go_sem] theorem fld_27_0 : fieldOf Tryz.prog 27 0 = some (0, 24) := by kernel_rfl
@[go_sem] theorem fld_27_1 : fieldOf Tryz.prog 27 1 = some (4, 25) := by kernel_rfl
@[go_sem] theorem plc_27 : placesOf Tryz.prog 27 = some [(0, 4), (4, 1)] := by kernel_rfl
@[go_sem] theorem tsz_28 : tsz Tryz.prog 28 = some 8 := by kernel_rfl
@[go_sem] theorem agg_28 : isAggT Tryz.prog 28 = some true := by kernel_rfl
@[go_sem] theorem zer_28 : zeroOf Tryz.prog 28 = some (.agg #[.int .i64 0, .string (⟨#[]⟩ : ByteArray), .string (⟨#[]⟩ : ByteArray), .int .i64 0, .int .i64 0, .float .f64 0, .string (⟨#[]⟩ : ByteArray), .slice none 0 0]) := by kernel_rfl
@[go_sem] theorem zcs_28 : zcs Tryz.prog 28 = some 8 := by kernel_rfl
@[go_sem] theorem str_28 : isStrT Tryz.prog 28 = false := by kernel_rfl
@[go_sem] theorem ifc_28 : isIfaceT Tryz.prog 28 = some false := by kernel_rfl
@[go_sem] theorem fld_28_0 : fieldOf Tryz.prog 28 0 = some (0, 3) := by kernel_rfl
@[go_sem] theorem fld_28_1 : fieldOf Tryz.prog 28 1 = some (1, 9) := by kernel_rfl
@[go_sem] theorem fld_28_2 : fieldOf Tryz.prog 28 2 = some (2, 9) := by kernel_rfl
@[go_sem] theorem fld_28_3 : fieldOf Tryz.prog 28 3 = some (3, 27) := by kernel_rfl
@[go_sem] theorem plc_28 : placesOf Tryz.prog 28 = some [(0, 1), (1, 1), (2, 1), (3, 5)] := by kernel_rfl
@[go_sem] theorem tsz_29 : tsz Tryz.prog 29 = some 8 := by kernel_rfl
@[go_sem] theorem agg_29 : isAggT Tryz.prog 29 = some true := by kernel_rfl
@[go_sem] theorem zer_29 : zeroOf Tryz.prog 29 = some (.agg #[.int .i64 0, .string (⟨#[]⟩ : ByteArray), .string (⟨#[]⟩ : ByteArray), .int .i64 0, .int .i64 0, .float .f64 0, .string (⟨#[]⟩ : ByteArray), .slice none 0 0]) := by kernel_rfl
@[go_sem] theorem zcs_29 : zcs Tryz.prog 29 = some 8 := by kernel_rfl
@[go_sem] theorem str_29 : isStrT Tryz.prog 29 = false := by kernel_rfl
@[go_sem] theorem ifc_29 : isIfaceT Tryz.prog 29 = some false := by kernel_rfl
@[go_sem] theorem fld_29_0 : fieldOf Tryz.prog 29 0 = some (0, 3) := by kernel_rfl
@[go_sem] theorem fld_29_1 : fieldOf Tryz.prog 29 1 = some (1, 9) := by kernel_rfl
@[go_sem] theorem fld_29_2 : fieldOf Tryz.prog 29 2 = some (2, 9) := by kernel_rfl
@[go_sem] theorem fld_29_3 : fieldOf Tryz.prog 29 3 = some (3, 27) := by kernel_rfl
@[go_sem] theorem plc_29 : placesOf Tryz.prog 29 = some [(0, 1), (1, 1), (2, 1), (3, 5)] := by kernel_rfl
@[go_sem] theorem tsz_30 : tsz Tryz.prog 30 = some 1 := by kernel_rfl
@[go_sem] theorem agg_30 : isAggT Tryz.prog 30 = some false := by kernel_rfl
@[go_sem] theorem zer_30 : zeroOf Tryz.prog 30 = some (.nilFunc) := by kernel_rfl
@[go_sem] theorem zcs_30 : zcs Tryz.prog 30 = some 1 := by kernel_rfl
@[go_sem] theorem str_30 : isStrT Tryz.prog 30 = false := by kernel_rfl
@[go_sem] theorem ifc_30 : isIfaceT Tryz.prog 30 = some false := by kernel_rfl
@[go_sem] theorem tsz_31 : tsz Tryz.prog 31 = some 1 := by kernel_rfl
@[go_sem] theorem agg_31 : isAggT Tryz.prog 31 = some false := by kernel_rfl
@[go_sem] theorem zer_31 : zeroOf Tryz.prog 31 = some (.int .i64 0) := by kernel_rfl
@[go_sem] theorem zcs_31 : zcs Tryz.prog 31 = some 1 := by kernel_rfl
@[go_sem] theorem str_31 : isStrT Tryz.prog 31 = false := by kernel_rfl
@[go_sem] theorem ifc_31 : isIfaceT Tryz.prog 31 = some false := by kernel_rfl
@[go_sem] theorem int_31 : intT Tryz.prog 31 = some .i64 := by kernel_rfl
@[go_sem] theorem und_31 : Tryz.prog.underlying 31 = some (.int .i64) := by kernel_rfl
@[go_sem] theorem tsz_33 : tsz Tryz.prog 33 = some 1 := by kernel_rfl
@[go_sem] theorem agg_33 : isAggT Tryz.prog 33 = some false := by kernel_rfl
@[go_sem] theorem zer_33 : zeroOf Tryz.prog 33 = some (.nilFunc) := by kernel_rfl
@[go_sem] theorem zcs_33 : zcs Tryz.prog 33 = some 1 := by kernel_rfl
@[go_sem] theorem str_33 : isStrT Tryz.prog 33 = false := by kernel_rfl
@[go_sem] theorem ifc_33 : isIfaceT Tryz.prog 33 = some false := by kernel_rfl
@[go_sem] theorem tsz_34 : tsz Tryz.prog 34 = some 1 := by kernel_rfl
@[go_sem] theorem agg_34 : isAggT Tryz.prog 34 = some false := by kernel_rfl
@[go_sem] theorem zer_34 : zeroOf Tryz.prog 34 = some (.slice none 0 0) := by kernel_rfl
@[go_sem] theorem zcs_34 : zcs Tryz.prog 34 = some 1 := by kernel_rfl
@[go_sem] theorem str_34 : isStrT Tryz.prog 34 = false := by kernel_rfl
@[go_sem] theorem ifc_34 : isIfaceT Tryz.prog 34 = some false := by kernel_rfl
@[go_sem] theorem und_34 : Tryz.prog.underlying 34 = some (.slice 29) := by kernel_rfl
@[go_sem] theorem elm_34 : elemT Tryz.prog 34 = some 29 := by kernel_rfl
@[go_sem] theorem tsz_35 : tsz Tryz.prog 35 = some 1 := by kernel_rfl
@[go_sem] theorem agg_35 : isAggT Tryz.prog 35 = some false := by kernel_rfl
@[go_sem] theorem zer_35 : zeroOf Tryz.prog 35 = some (.int .u64 0) := by kernel_rfl
@[go_sem] theorem zcs_35 : zcs Tryz.prog 35 = some 1 := by kernel_rfl
@[go_sem] theorem str_35 : isStrT Tryz.prog 35 = false := by kernel_rfl
@[go_sem] theorem ifc_35 : isIfaceT Tryz.prog 35 = some false := by kernel_rfl
@[go_sem] theorem int_35 : intT Tryz.prog 35 = some .u64 := by kernel_rfl
@[go_sem] theorem und_35 : Tryz.prog.underlying 35 = some (.int .u64) := by kernel_rfl
@[go_sem] theorem tsz_36 : tsz Tryz.prog 36 = some 1 := by kernel_rfl
@[go_sem] theorem agg_36 : isAggT Tryz.prog 36 = some false := by kernel_rfl
@[go_sem] theorem zer_36 : zeroOf Tryz.prog 36 = some (.nilFunc) := by kernel_rfl
@[go_sem] theorem zcs_36 : zcs Tryz.prog 36 = some 1 := by kernel_rfl
@[go_sem] theorem str_36 : isStrT Tryz.prog 36 = false := by kernel_rfl
@[go_sem] theorem ifc_36 : isIfaceT Tryz.prog 36 = some false := by kernel_rfl
@[go_sem] theorem tsz_37 : tsz Tryz.prog 37 = some 1 := by kernel_rfl
@[go_sem] theorem agg_37 : isAggT Tryz.prog 37 = some false := by kernel_rfl
@[go_sem] theorem zer_37 : zeroOf Tryz.prog 37 = some (.slice none 0 0) := by kernel_rfl
@[go_sem] theorem zcs_37 : zcs Tryz.prog 37 = some 1 := by kernel_rfl
@[go_sem] theorem str_37 : isStrT Tryz.prog 37 = false := by kernel_rfl
@[go_sem] theorem ifc_37 : isIfaceT Tryz.prog 37 = some false := by kernel_rfl
@[go_sem] theorem und_37 : Tryz.prog.underlying 37 = some (.slice 27) := by kernel_rfl
@[go_sem] theorem elm_37 : elemT Tryz.prog 37 = some 27 := by kernel_rfl
@[go_sem] theorem tsz_39 : tsz Tryz.prog 39 = some 1 := by kernel_rfl
@[go_sem] theorem agg_39 : isAggT Tryz.prog 39 = some false := by kernel_rfl
@[go_sem] theorem zer_39 : zeroOf Tryz.prog 39 = some (.nilFunc) := by kernel_rfl
@[go_sem] theorem zcs_39 : zcs Tryz.prog 39 = some 1 := by kernel_rfl
@[go_sem] theorem str_39 : isStrT Tryz.prog 39 = false := by kernel_rfl
@[go_sem] theorem ifc_39 : isIfaceT Tryz.prog 39 = some false := by kernel_rfl
@[go_sem] theorem tsz_40 : tsz Tryz.prog 40 = some 1 := by kernel_rfl
@[go_sem] theorem agg_40 : isAggT Tryz.prog 40 = some false := by kernel_rfl
@[go_sem] theorem zer_40 : zeroOf Tryz.prog 40 = some (.nilFunc) := by kernel_rfl
@[go_sem] theorem zcs_40 : zcs Tryz.prog 40 = some 1 := by kernel_rfl
@[go_sem] theorem str_40 : isStrT Tryz.prog 40 = false := by kernel_rfl
@[go_sem] theorem ifc_40 : isIfaceT Tryz.prog 40 = some false := by kernel_rfl
@[go_sem] theorem tsz_41 : tsz Tryz.prog 41 = some 1 := by kernel_rfl
@[go_sem] theorem agg_41 : isAggT Tryz.prog 41 = some false := by kernel_rfl
@[go_sem] theorem zer_41 : zeroOf Tryz.prog 41 = some (.nilFunc) := by kernel_rfl
@[go_sem] theorem zcs_41 : zcs Tryz.prog 41 = some 1 := by kernel_rfl
@[go_sem] theorem str_41 : isStrT Tryz.prog 41 = false := by kernel_rfl
@[go_sem] theorem ifc_41 : isIfaceT Tryz.prog 41 = some false := by kernel_rfl
@[go_sem] theorem tsz_42 : tsz Tryz.prog 42 = some 1 := by kernel_rfl
@[go_sem] theorem agg_42 : isAggT Tryz.prog 42 = some false := by kernel_rfl
@[go_sem] theorem zer_42 : zeroOf Tryz.prog 42 = some (.nilFunc) := by kernel_rfl
@[go_sem] theorem zcs_42 : zcs Tryz.prog 42 = some 1 := by kernel_rfl
@[go_sem] theorem str_42 : isStrT Tryz.prog 42 = false := by kernel_rfl
@[go_sem] theorem ifc_42 : isIfaceT Tryz.prog 42 = some false := by kernel_rfl
@[go_sem] theorem tsz_43 : tsz Tryz.prog 43 = some 1 := by kernel_rfl
@[go_sem] theorem agg_43 : isAggT Tryz.prog 43 = some false := by kernel_rfl
@[go_sem] theorem zer_43 : zeroOf Tryz.prog 43 = some (.slice none 0 0) := by kernel_rfl
@[go_sem] theorem zcs_43 : zcs Tryz.prog 43 = some 1 := by kernel_rfl
@[go_sem] theorem str_43 : isStrT Tryz.prog 43 = false := by kernel_rfl
@[go_sem] theorem ifc_43 : isIfaceT Tryz.prog 43 = some false := by kernel_rfl
@[go_sem] theorem und_43 : Tryz.prog.underlying 43 = some (.slice 102) := by kernel_rfl
@[go_sem] theorem elm_43 : elemT Tryz.prog 43 = some 102 := by kernel_rfl
@[go_sem] theorem tsz_44 : tsz Tryz.prog 44 = some 1 := by kernel_rfl
@[go_sem] theorem agg_44 : isAggT Tryz.prog 44 = some false := by kernel_rfl
@[go_sem] theorem zer_44 : zeroOf Tryz.prog 44 = some (.nilFunc) := by kernel_rfl
@[go_sem] theorem zcs_44 : zcs Tryz.prog 44 = some 1 := by kernel_rfl
@[go_sem] theorem str_44 : isStrT Tryz.prog 44 = false := by kernel_rfl
@[go_sem] theorem ifc_44 : isIfaceT Tryz.prog 44 = some false := by kernel_rfl
@[go_sem] theorem tsz_45 : tsz Tryz.prog 45 = some 1 := by kernel_rfl
@[go_sem] theorem agg_45 : isAggT Tryz.prog 45 = some false := by kernel_rfl
@[go_sem] theorem zer_45 : zeroOf Tryz.prog 45 = some (.map none) := by kernel_rfl
@[go_sem] theorem zcs_45 : zcs Tryz.prog 45 = some 1 := by kernel_rfl
@[go_sem] theorem str_45 : isStrT Tryz.prog 45 = false := by kernel_rfl
@[go_sem] theorem ifc_45 : isIfaceT Tryz.prog 45 = some false := by kernel_rfl
@[go_sem] theorem mpt_45 : mapT Tryz.prog 45 = some 91 := by kernel_rfl
@[go_sem] theorem tsz_46 : tsz Tryz.prog 46 = some 1 := by kernel_rfl
@[go_sem] theorem agg_46 : isAggT Tryz.prog 46 = some false := by kernel_rfl
@[go_sem] theorem zer_46 : zeroOf Tryz.prog 46 = some (.slice none 0 0) := by kernel_rfl
@[go_sem] theorem zcs_46 : zcs Tryz.prog 46 = some 1 := by kernel_rfl
@[go_sem] theorem str_46 : isStrT Tryz.prog 46 = false := by kernel_rfl
@[go_sem] theorem ifc_46 : isIfaceT Tryz.prog 46 = some false := by kernel_rfl
@[go_sem] theorem und_46 : Tryz.prog.underlying 46 = some (.slice 106) := by kernel_rfl
@[go_sem] theorem elm_46 : elemT Tryz.prog 46 = some 106 := by kernel_rfl
@[go_sem] theorem tsz_48 : tsz Tryz.prog 48 = some 1 := by kernel_rfl
@[go_sem] theorem agg_48 : isAggT Tryz.prog 48 = some false := by kernel_rfl
@[go_sem] theorem zer_48 : zeroOf Tryz.prog 48 = some (.nilFunc) := by kernel_rfl
@[go_sem] theorem zcs_48 : zcs Tryz.prog 48 = some 1 := by kernel_rfl
@[go_sem] theorem str_48 : isStrT Tryz.prog 48 = false := by kernel_rfl
@[go_sem] theorem ifc_48 : isIfaceT Tryz.prog 48 = some false := by kernel_rfl
@[go_sem] theorem tsz_49 : tsz Tryz.prog 49 = some 1 := by kernel_rfl
@[go_sem] theorem agg_49 : isAggT Tryz.prog 49 = some false := by kernel_rfl
@[go_sem] theorem zer_49 : zeroOf Tryz.prog 49 = some (.nilFunc) := by kernel_rfl
@[go_sem] theorem zcs_49 : zcs Tryz.prog 49 = some 1 := by kernel_rfl
@[go_sem] theorem str_49 : isStrT Tryz.prog 49 = false := by kernel_rfl
@[go_sem] theorem ifc_49 : isIfaceT Tryz.prog 49 = some false := by kernel_rfl
@[go_sem] theorem tsz_50 : tsz Tryz.prog 50 = some 1 := by kernel_rfl
@[go_sem] theorem agg_50 : isAggT Tryz.prog 50 = some false := by kernel_rfl
@[go_sem] theorem zer_50 : zeroOf Tryz.prog 50 = some (.slice none 0 0) := by kernel_rfl
@[go_sem] theorem zcs_50 : zcs Tryz.prog 50 = some 1 := by kernel_rfl
@[go_sem] theorem str_50 : isStrT Tryz.prog 50 = false := by kernel_rfl
@[go_sem] theorem ifc_50 : isIfaceT Tryz.prog 50 = some false := by kernel_rfl
@[go_sem] theorem und_50 : Tryz.prog.underlying 50 = some (.slice 4) := by kernel_rfl
@[go_sem] theorem elm_50 : elemT Tryz.prog 50 = some 4 := by kernel_rfl
@[go_sem] theorem tsz_51 : tsz Tryz.prog 51 = some 1 := by kernel_rfl
@[go_sem] theorem agg_51 : isAggT Tryz.prog 51 = some false := by kernel_rfl
@[go_sem] theorem zer_51 : zeroOf Tryz.prog 51 = some (.slice none 0 0) := by kernel_rfl
@[go_sem] theorem zcs_51 : zcs Tryz.prog 51 = some 1 := by kernel_rfl
@[go_sem] theorem str_51 : isStrT Tryz.prog 51 = false := by kernel_rfl
@[go_sem] theorem ifc_51 : isIfaceT Tryz.prog 51 = some false := by kernel_rfl
@[go_sem] theorem und_51 : Tryz.prog.underlying 51 = some (.slice 63) := by kernel_rfl
@[go_sem] theorem elm_51 : elemT Tryz.prog 51 = some 63 := by kernel_rfl
@[go_sem] theorem tsz_52 : tsz Tryz.prog 52 = some 1 := by kernel_rfl
@[go_sem] theorem agg_52 : isAggT Tryz.prog 52 = some false := by kernel_rfl
@[go_sem] theorem zer_52 : zeroOf Tryz.prog 52 = some (.slice none 0 0) := by kernel_rfl
@[go_sem] theorem zcs_52 : zcs Tryz.prog 52 = some 1 := by kernel_rfl
@[go_sem] theorem str_52 : isStrT Tryz.prog 52 = false := by kernel_rfl
@[go_sem] theorem ifc_52 : isIfaceT Tryz.prog 52 = some false := by kernel_rfl
@[go_sem] theorem und_52 : Tryz.prog.underlying 52 = some (.slice 109) := by kernel_rfl
@[go_sem] theorem elm_52 : elemT Tryz.prog 52 = some 109 := by kernel_rfl
@[go_sem] theorem tsz_53 : tsz Tryz.prog 53 = some 1 := by kernel_rfl
@[go_sem] theorem agg_53 : isAggT Tryz.prog 53 = some false := by kernel_rfl
@[go_sem] theorem zer_53 : zeroOf Tryz.prog 53 = some (.slice none 0 0) := by kernel_rfl
@[go_sem] theorem zcs_53 : zcs Tryz.prog 53 = some 1 := by kernel_rfl
@[go_sem] theorem str_53 : isStrT Tryz.prog 53 = false := by kernel_rfl
@[go_sem] theorem ifc_53 : isIfaceT Tryz.prog 53 = some false := by kernel_rfl
@[go_sem] theorem und_53 : Tryz.prog.underlying 53 = some (.slice 65) := by kernel_rfl
@[go_sem] theorem elm_53 : elemT Tryz.prog 53 = some 65 := by kernel_rfl
@[go_sem] theorem tsz_54 : tsz Tryz.prog 54 = some 1 := by kernel_rfl
@[go_sem] theorem agg_54 : isAggT Tryz.prog 54 = some false := by kernel_rfl
@[go_sem] theorem zer_54 : zeroOf Tryz.prog 54 = some (.slice none 0 0) := by kernel_rfl
@[go_sem] theorem zcs_54 : zcs Tryz.prog 54 = some 1 := by kernel_rfl
@[go_sem] theorem str_54 : isStrT Tryz.prog 54 = false := by kernel_rfl
@[go_sem] theorem ifc_54 : isIfaceT Tryz.prog 54 = some false := by kernel_rfl
@[go_sem] theorem und_54 : Tryz.prog.underlying 54 = some (.slice 125) := by kernel_rfl
@[go_sem] theorem elm_54 : elemT Tryz.prog 54 = some 125 := by kernel_rfl
@[go_sem] theorem tsz_55 : tsz Tryz.prog 55 = some 8 := by kernel_rfl
@[go_sem] theorem agg_55 : isAggT Tryz.prog 55 = some true := by kernel_rfl
@[go_sem] theorem zer_55 : zeroOf Tryz.prog 55 = some (.agg #[.slice none 0 0, .slice none 0 0, .slice none 0 0, .slice none 0 0, .bool false, .slice none 0 0, .int .i64 0, .int .i64 0]) := by kernel_rfl
@[go_sem] theorem zcs_55 : zcs Tryz.prog 55 = some 8 := by kernel_rfl
@[go_sem] theorem str_55 : isStrT Tryz.prog 55 = false := by kernel_rfl
@[go_sem] theorem ifc_55 : isIfaceT Tryz.prog 55 = some false := by kernel_rfl
@[go_sem] theorem fld_55_0 : fieldOf Tryz.prog 55 0 = some (0, 51) := by kernel_rfl
@[go_sem] theorem fld_55_1 : fieldOf Tryz.prog 55 1 = some (1, 52) := by kernel_rfl
@[go_sem] theorem fld_55_2 : fieldOf Tryz.prog 55 2 = some (2, 34) := by kernel_rfl
@[go_sem] theorem fld_55_3 : fieldOf Tryz.prog 55 3 = some (3, 53) := by kernel_rfl
@[go_sem] theorem fld_55_4 : fieldOf Tryz.prog 55 4 = some (4, 4) := by kernel_rfl
@[go_sem] theorem fld_55_5 : fieldOf Tryz.prog 55 5 = some (5, 54) := by kernel_rfl
@[go_sem] theorem fld_55_6 : fieldOf Tryz.prog 55 6 = some (6, 3) := by kernel_rfl
@[go_sem] theorem fld_55_7 : fieldOf Tryz.prog 55 7 = some (7, 3) := by kernel_rfl
@[go_sem] theorem plc_55 : placesOf Tryz.prog 55 = some [(0, 1), (1, 1), (2, 1), (3, 1), (4, 1), (5, 1), (6, 1), (7, 1)] := by kernel_rfl
@[go_sem] theorem tsz_56 : tsz Tryz.prog 56 = some 8 := by kernel_rfl
@[go_sem] theorem agg_56 : isAggT Tryz.prog 56 = some true := by kernel_rfl
@[go_sem] theorem zer_56 : zeroOf Tryz.prog 56 = some (.agg #[.slice none 0 0, .slice none 0 0, .slice none 0 0, .slice none 0 0, .bool false, .slice none 0 0, .int .i64 0, .int .i64 0]) := by kernel_rfl
@[go_sem] theorem zcs_56 : zcs Tryz.prog 56 = some 8 := by kernel_rfl
@[go_sem] theorem str_56 : isStrT Tryz.prog 56 = false := by kernel_rfl
@[go_sem] theorem ifc_56 : isIfaceT Tryz.prog 56 = some false := by kernel_rfl
@[go_sem] theorem fld_56_0 : fieldOf Tryz.prog 56 0 = some (0, 51) := by kernel_rfl
@[go_sem] theorem fld_56_1 : fieldOf Tryz.prog 56 1 = some (1, 52) := by kernel_rfl
@[go_sem] theorem fld_56_2 : fieldOf Tryz.prog 56 2 = some (2, 34) := by kernel_rfl
@[go_sem] theorem fld_56_3 : fieldOf Tryz.prog 56 3 = some (3, 53) := by kernel_rfl
@[go_sem] theorem fld_56_4 : fieldOf Tryz.prog 56 4 = some (4, 4) := by kernel_rfl
@[go_sem] theorem fld_56_5 : fieldOf Tryz.prog 56 5 = some (5, 54) := by kernel_rfl
@[go_sem] theorem fld_56_6 : fieldOf Tryz.prog 56 6 = some (6, 3) := by kernel_rfl
@[go_sem] theorem fld_56_7 : fieldOf Tryz.prog 56 7 = some (7, 3) := by kernel_rfl
@[go_sem] theorem plc_56 : placesOf Tryz.prog 56 = some [(0, 1), (1, 1), (2, 1), (3, 1), (4, 1), (5, 1), (6, 1), (7, 1)] := by kernel_rfl
@[go_sem] theorem tsz_57 : tsz Tryz.prog 57 = some 1 := by kernel_rfl
@[go_sem] theorem agg_57 : isAggT Tryz.prog 57 = some false := by kernel_rfl
@[go_sem] theorem zer_57 : zeroOf Tryz.prog 57 = some (.nilFunc) := by kernel_rfl
@[go_sem] theorem zcs_57 : zcs Tryz.prog 57 = some 1 := by kernel_rfl
@[go_sem] theorem str_57 : isStrT Tryz.prog 57 = false := by kernel_rfl
@[go_sem] theorem ifc_57 : isIfaceT Tryz.prog 57 = some false := by kernel_rfl
@[go_sem] theorem tsz_58 : tsz Tryz.prog 58 = some 1 := by kernel_rfl
@[go_sem] theorem agg_58 : isAggT Tryz.prog 58 = some false := by kernel_rfl
@[go_sem] theorem zer_58 : zeroOf Tryz.prog 58 = some (.nilFunc) := by kernel_rfl
@[go_sem] theorem zcs_58 : zcs Tryz.prog 58 = some 1 := by kernel_rfl
@[go_sem] theorem str_58 : isStrT Tryz.prog 58 = false := by kernel_rfl
@[go_sem] theorem ifc_58 : isIfaceT Tryz.prog 58 = some false := by kernel_rfl
@[go_sem] theorem tsz_59 : tsz Tryz.prog 59 = some 1 := by kernel_rfl
@[go_sem] theorem agg_59 : isAggT Tryz.prog 59 = some false := by kernel_rfl
@[go_sem] theorem zer_59 : zeroOf Tryz.prog 59 = some (.slice none 0 0) := by kernel_rfl
@[go_sem] theorem zcs_59 : zcs Tryz.prog 59 = some 1 := by kernel_rfl
@[go_sem] theorem str_59 : isStrT Tryz.prog 59 = false := by kernel_rfl
@[go_sem] theorem ifc_59 : isIfaceT Tryz.prog 59 = some false := by kernel_rfl
@[go_sem] theorem und_59 : Tryz.prog.underlying 59 = some (.slice 9) := by kernel_rfl
@[go_sem] theorem elm_59 : elemT Tryz.prog 59 = some 9 := by kernel_rfl
@[go_sem] theorem tsz_60 : tsz Tryz.prog 60 = some 1 := by kernel_rfl
@[go_sem] theorem agg_60 : isAggT Tryz.prog 60 = some false := by kernel_rfl
@[go_sem] theorem zer_60 : zeroOf Tryz.prog 60 = some (.nilFunc) := by kernel_rfl
@[go_sem] theorem zcs_60 : zcs Tryz.prog 60 = some 1 := by kernel_rfl
@[go_sem] theorem str_60 : isStrT Tryz.prog 60 = false := by kernel_rfl
@[go_sem] theorem ifc_60 : isIfaceT Tryz.prog 60 = some false := by kernel_rfl
@[go_sem] theorem tsz_61 : tsz Tryz.prog 61 = some 1 := by kernel_rfl
@[go_sem] theorem agg_61 : isAggT Tryz.prog 61 = some false := by kernel_rfl
@[go_sem] theorem zer_61 : zeroOf Tryz.prog 61 = some (.slice none 0 0) := by kernel_rfl
@[go_sem] theorem zcs_61 : zcs Tryz.prog 61 = some 1 := by kernel_rfl
@[go_sem] theorem str_61 : isStrT Tryz.prog 61 = false := by kernel_rfl
@[go_sem] theorem ifc_61 : isIfaceT Tryz.prog 61 = some false := by kernel_rfl
@[go_sem] theorem und_61 : Tryz.prog.underlying 61 = some (.slice 104) := by kernel_rfl
@[go_sem] theorem elm_61 : elemT Tryz.prog 61 = some 104 := by kernel_rfl
@[go_sem] theorem tsz_62 : tsz Tryz.prog 62 = some 3 := by kernel_rfl
@[go_sem] theorem agg_62 : isAggT Tryz.prog 62 = some true := by kernel_rfl
@[go_sem] theorem zer_62 : zeroOf Tryz.prog 62 = some (.agg #[.string (⟨#[]⟩ : ByteArray), .string (⟨#[]⟩ : ByteArray), .slice none 0 0]) := by kernel_rfl
@[go_sem] theorem zcs_62 : zcs Tryz.prog 62 = some 3 := by kernel_rfl
@[go_sem] theorem str_62 : isStrT Tryz.prog 62 = false := by kernel_rfl
@[go_sem] theorem ifc_62 : isIfaceT Tryz.prog 62 = some false := by kernel_rfl
@[go_sem] theorem fld_62_0 : fieldOf Tryz.prog 62 0 = some (0, 9) := by kernel_rfl
@[go_sem] theorem fld_62_1 : fieldOf Tryz.prog 62 1 = some (1, 9) := by kernel_rfl
@[go_sem] theorem fld_62_2 : fieldOf Tryz.prog 62 2 = some (2, 61) := by kernel_rfl
@[go_sem] theorem plc_62 : placesOf Tryz.prog 62 = some [(0, 1), (1, 1), (2, 1)] := by kernel_rfl
@[go_sem] theorem tsz_63 : tsz Tryz.prog 63 = some 3 := by kernel_rfl
@[go_sem] theorem agg_63 : isAggT Tryz.prog 63 = some true := by kernel_rfl
@[go_sem] theorem zer_63 : zeroOf Tryz.prog 63 = some (.agg #[.string (⟨#[]⟩ : ByteArray), .string (⟨#[]⟩ : ByteArray), .slice none 0 0]) := by kernel_rfl
@[go_sem] theorem zcs_63 : zcs Tryz.prog 63 = some 3 := by kernel_rfl
@[go_sem] theorem str_63 : isStrT Tryz.prog 63 = false := by kernel_rfl
@[go_sem] theorem ifc_63 : isIfaceT Tryz.prog 63 = some false := by kernel_rfl
@[go_sem] theorem fld_63_0 : fieldOf Tryz.prog 63 0 = some (0, 9) := by kernel_rfl
@[go_sem] theorem fld_63_1 : fieldOf Tryz.prog 63 1 = some (1, 9) := by kernel_rfl
@[go_sem] theorem fld_63_2 : fieldOf Tryz.prog 63 2 = some (2, 61) := by kernel_rfl
@[go_sem] theorem plc_63 : placesOf Tryz.prog 63 = some [(0, 1), (1, 1), (2, 1)] := by kernel_rfl
@[go_sem] theorem tsz_64 : tsz Tryz.prog 64 = some 2 := by kernel_rfl
@[go_sem] theorem agg_64 : isAggT Tryz.prog 64 = some true := by kernel_rfl
@[go_sem] theorem zer_64 : zeroOf Tryz.prog 64 = some (.agg #[.int .i64 0, .slice none 0 0]) := by kernel_rfl
@[go_sem] theorem zcs_64 : zcs Tryz.prog 64 = some 2 := by kernel_rfl
@[go_sem] theorem str_64 : isStrT Tryz.prog 64 = false := by kernel_rfl
@[go_sem] theorem ifc_64 : isIfaceT Tryz.prog 64 = some false := by kernel_rfl
@[go_sem] theorem fld_64_0 : fieldOf Tryz.prog 64 0 = some (0, 3) := by kernel_rfl
@[go_sem] theorem fld_64_1 : fieldOf Tryz.prog 64 1 = some (1, 34) := by kernel_rfl
@[go_sem] theorem plc_64 : placesOf Tryz.prog 64 = some [(0, 1), (1, 1)] := by kernel_rfl
@[go_sem] theorem tsz_65 : tsz Tryz.prog 65 = some 2 := by kernel_rfl
@[go_sem] theorem agg_65 : isAggT Tryz.prog 65 = some true := by kernel_rfl
@[go_sem] theorem zer_65 : zeroOf Tryz.prog 65 = some (.agg #[.int .i64 0, .slice none 0 0]) := by kernel_rfl
@[go_sem] theorem zcs_65 : zcs Tryz.prog 65 = some 2 := by kernel_rfl
@[go_sem] theorem str_65 : isStrT Tryz.prog 65 = false := by kernel_rfl
@[go_sem] theorem ifc_65 : isIfaceT Tryz.prog 65 = some false := by kernel_rfl
@[go_sem] theorem fld_65_0 : fieldOf Tryz.prog 65 0 = some (0, 3) := by kernel_rfl
@[go_sem] theorem fld_65_1 : fieldOf Tryz.prog 65 1 = some (1, 34) := by kernel_rfl
@[go_sem] theorem plc_65 : placesOf Tryz.prog 65 = some [(0, 1), (1, 1)] := by kernel_rfl
@[go_sem] theorem tsz_66 : tsz Tryz.prog 66 = some 1 := by kernel_rfl
@[go_sem] theorem agg_66 : isAggT Tryz.prog 66 = some false := by kernel_rfl
@[go_sem] theorem zer_66 : zeroOf Tryz.prog 66 = some (.slice none 0 0) := by kernel_rfl
@[go_sem] theorem zcs_66 : zcs Tryz.prog 66 = some 1 := by kernel_rfl
@[go_sem] theorem str_66 : isStrT Tryz.prog 66 = false := by kernel_rfl
@[go_sem] theorem ifc_66 : isIfaceT Tryz.prog 66 = some false := by kernel_rfl
@[go_sem] theorem und_66 : Tryz.prog.underlying 66 = some (.slice 34) := by kernel_rfl
@[go_sem] theorem elm_66 : elemT Tryz.prog 66 = some 34 := by kernel_rfl
@[go_sem] theorem tsz_68 : tsz Tryz.prog 68 = some 1 := by kernel_rfl
@[go_sem] theorem agg_68 : isAggT Tryz.prog 68 = some false := by kernel_rfl
@[go_sem] theorem zer_68 : zeroOf Tryz.prog 68 = some (.nilFunc) := by kernel_rfl
@[go_sem] theorem zcs_68 : zcs Tryz.prog 68 = some 1 := by kernel_rfl
@[go_sem] theorem str_68 : isStrT Tryz.prog 68 = false := by kernel_rfl
@[go_sem] theorem ifc_68 : isIfaceT Tryz.prog 68 = some false := by kernel_rfl
@[go_sem] theorem tsz_69 : tsz Tryz.prog 69 = some 1 := by kernel_rfl
@[go_sem] theorem agg_69 : isAggT Tryz.prog 69 = some false := by kernel_rfl
@[go_sem] theorem zer_69 : zeroOf Tryz.prog 69 = some (.nilFunc) := by kernel_rfl
@[go_sem] theorem zcs_69 : zcs Tryz.prog 69 = some 1 := by kernel_rfl
@[go_sem] theorem str_69 : isStrT Tryz.prog 69 = false := by kernel_rfl
@[go_sem] theorem ifc_69 : isIfaceT Tryz.prog 69 = some false := by kernel_rfl
@[go_sem] theorem tsz_70 : tsz Tryz.prog 70 = some 1 := by kernel_rfl
@[go_sem] theorem agg_70 : isAggT Tryz.prog 70 = some false := by kernel_rfl
@[go_sem] theorem zer_70 : zeroOf Tryz.prog 70 = some (.slice none 0 0) := by kernel_rfl
@[go_sem] theorem zcs_70 : zcs Tryz.prog 70 = some 1 := by kernel_rfl
@[go_sem] theorem str_70 : isStrT Tryz.prog 70 = false := by kernel_rfl
@[go_sem] theorem ifc_70 : isIfaceT Tryz.prog 70 = some false := by kernel_rfl
@[go_sem] theorem und_70 : Tryz.prog.underlying 70 = some (.slice 119) := by kernel_rfl
@[go_sem] theorem elm_70 : elemT Tryz.prog 70 = some 119 := by kernel_rfl
@[go_sem] theorem tsz_71 : tsz Tryz.prog 71 = some 1 := by kernel_rfl
@[go_sem] theorem agg_71 : isAggT Tryz.prog 71 = some false := by kernel_rfl
@[go_sem] theorem zer_71 : zeroOf Tryz.prog 71 = some (.slice none 0 0) := by kernel_rfl
@[go_sem] theorem zcs_71 : zcs Tryz.prog 71 = some 1 := by kernel_rfl
@[go_sem] theorem str_71 : isStrT Tryz.prog 71 = false := by kernel_rfl
@[go_sem] theorem ifc_71 : isIfaceT Tryz.prog 71 = some false := by kernel_rfl
@[go_sem] theorem und_71 : Tryz.prog.underlying 71 = some (.slice 120) := by kernel_rfl
@[go_sem] theorem elm_71 : elemT Tryz.prog 71 = some 120 := by kernel_rfl
@[go_sem] theorem tsz_72 : tsz Tryz.prog 72 = some 1 := by kernel_rfl
@[go_sem] theorem agg_72 : isAggT Tryz.prog 72 = some false := by kernel_rfl
@[go_sem] theorem zer_72 : zeroOf Tryz.prog 72 = some (.slice none 0 0) := by kernel_rfl
@[go_sem] theorem zcs_72 : zcs Tryz.prog 72 = some 1 := by kernel_rfl
@[go_sem] theorem str_72 : isStrT Tryz.prog 72 = false := by kernel_rfl
@[go_sem] theorem ifc_72 : isIfaceT Tryz.prog 72 = some false := by kernel_rfl
@[go_sem] theorem und_72 : Tryz.prog.underlying 72 = some (.slice 135) := by kernel_rfl
@[go_sem] theorem elm_72 : elemT Tryz.prog 72 = some 135 := by kernel_rfl
@[go_sem] theorem tsz_73 : tsz Tryz.prog 73 = some 1 := by kernel_rfl
@[go_sem] theorem agg_73 : isAggT Tryz.prog 73 = some false := by kernel_rfl
@[go_sem] theorem zer_73 : zeroOf Tryz.prog 73 = some (.slice none 0 0) := by kernel_rfl
@[go_sem] theorem zcs_73 : zcs Tryz.prog 73 = some 1 := by kernel_rfl
@[go_sem] theorem str_73 : isStrT Tryz.prog 73 = false := by kernel_rfl
@[go_sem] theorem ifc_73 : isIfaceT Tryz.prog 73 = some false := by kernel_rfl
@[go_sem] theorem und_73 : Tryz.prog.underlying 73 = some (.slice 122) := by kernel_rfl
@[go_sem] theorem elm_73 : elemT Tryz.prog 73 = some 122 := by kernel_rfl
@[go_sem] theorem tsz_74 : tsz Tryz.prog 74 = some 1 := by kernel_rfl
@[go_sem] theorem agg_74 : isAggT Tryz.prog 74 = some false := by kernel_rfl
@[go_sem] theorem zer_74 : zeroOf Tryz.prog 74 = some (.slice none 0 0) := by kernel_rfl
@[go_sem] theorem zcs_74 : zcs Tryz.prog 74 = some 1 := by kernel_rfl
@[go_sem] theorem str_74 : isStrT Tryz.prog 74 = false := by kernel_rfl
@[go_sem] theorem ifc_74 : isIfaceT Tryz.prog 74 = some false := by kernel_rfl
@[go_sem] theorem und_74 : Tryz.prog.underlying 74 = some (.slice 124) := by kernel_rfl
@[go_sem] theorem elm_74 : elemT Tryz.prog 74 = some 124 := by kernel_rfl
@[go_sem] theorem tsz_75 : tsz Tryz.prog 75 = some 8 := by kernel_rfl
@[go_sem] theorem agg_75 : isAggT Tryz.prog 75 = some true := by kernel_rfl
@[go_sem] theorem zer_75 : zeroOf Tryz.prog 75 = some (.agg #[.slice none 0 0, .slice none 0 0, .slice none 0 0, .slice none 0 0, .bool false, .slice none 0 0, .int .i64 0, .int .i64 0]) := by kernel_rfl
@[go_sem] theorem zcs_75 : zcs Tryz.prog 75 = some 8 := by kernel_rfl
@[go_sem] theorem str_75 : isStrT Tryz.prog 75 = false := by kernel_rfl
@[go_sem] theorem ifc_75 : isIfaceT Tryz.prog 75 = some false := by kernel_rfl
@[go_sem] theorem fld_75_0 : fieldOf Tryz.prog 75 0 = some (0, 70) := by kernel_rfl
@[go_sem] theorem fld_75_1 : fieldOf Tryz.prog 75 1 = some (1, 71) := by kernel_rfl
@[go_sem] theorem fld_75_2 : fieldOf Tryz.prog 75 2 = some (2, 72) := by kernel_rfl
@[go_sem] theorem fld_75_3 : fieldOf Tryz.prog 75 3 = some (3, 73) := by kernel_rfl
@[go_sem] theorem fld_75_4 : fieldOf Tryz.prog 75 4 = some (4, 4) := by kernel_rfl
@[go_sem] theorem fld_75_5 : fieldOf Tryz.prog 75 5 = some (5, 74) := by kernel_rfl
@[go_sem] theorem fld_75_6 : fieldOf Tryz.prog 75 6 = some (6, 3) := by kernel_rfl
@[go_sem] theorem fld_75_7 : fieldOf Tryz.prog 75 7 = some (7, 3) := by kernel_rfl
@[go_sem] theorem plc_75 : placesOf Tryz.prog 75 = some [(0, 1), (1, 1), (2, 1), (3, 1), (4, 1), (5, 1), (6, 1), (7, 1)] := by kernel_rfl
@[go_sem] theorem tsz_76 : tsz Tryz.prog 76 = some 8 := by kernel_rfl
@[go_sem] theorem agg_76 : isAggT Tryz.prog 76 = some true := by kernel_rfl
@[go_sem] theorem zer_76 : zeroOf Tryz.prog 76 = some (.agg #[.slice none 0 0, .slice none 0 0, .slice none 0 0, .slice none 0 0, .bool false, .slice none 0 0, .int .i64 0, .int .i64 0]) := by kernel_rfl
@[go_sem] theorem zcs_76 : zcs Tryz.prog 76 = some 8 := by kernel_rfl
@[go_sem] theorem str_76 : isStrT Tryz.prog 76 = false := by kernel_rfl
@[go_sem] theorem ifc_76 : isIfaceT Tryz.prog 76 = some false := by kernel_rfl
@[go_sem] theorem fld_76_0 : fieldOf Tryz.prog 76 0 = some (0, 70) := by kernel_rfl
@[go_sem] theorem fld_76_1 : fieldOf Tryz.prog 76 1 = some (1, 71) := by kernel_rfl
@[go_sem] theorem fld_76_2 : fieldOf Tryz.prog 76 2 = some (2, 72) := by kernel_rfl
@[go_sem] theorem fld_76_3 : fieldOf Tryz.prog 76 3 = some (3, 73) := by kernel_rfl
@[go_sem] theorem fld_76_4 : fieldOf Tryz.prog 76 4 = some (4, 4) := by kernel_rfl
@[go_sem] theorem fld_76_5 : fieldOf Tryz.prog 76 5 = some (5, 74) := by kernel_rfl
@[go_sem] theorem fld_76_6 : fieldOf Tryz.prog 76 6 = some (6, 3) := by kernel_rfl
@[go_sem] theorem fld_76_7 : fieldOf Tryz.prog 76 7 = some (7, 3) := by kernel_rfl
@[go_sem] theorem plc_76 : placesOf Tryz.prog 76 = some [(0, 1), (1, 1), (2, 1), (3, 1), (4, 1), (5, 1), (6, 1), (7, 1)] := by kernel_rfl
@[go_sem] theorem tsz_77 : tsz Tryz.prog 77 = some 1 := by kernel_rfl
@[go_sem] theorem agg_77 : isAggT Tryz.prog 77 = some false := by kernel_rfl
@[go_sem] theorem zer_77 : zeroOf Tryz.prog 77 = some (.nilFunc) := by kernel_rfl
@[go_sem] theorem zcs_77 : zcs Tryz.prog 77 = some 1 := by kernel_rfl
@[go_sem] theorem str_77 : isStrT Tryz.prog 77 = false := by kernel_rfl
@[go_sem] theorem ifc_77 : isIfaceT Tryz.prog 77 = some false := by kernel_rfl
@[go_sem] theorem tsz_78 : tsz Tryz.prog 78 = some 1 := by kernel_rfl
@[go_sem] theorem agg_78 : isAggT Tryz.prog 78 = some false := by kernel_rfl
@[go_sem] theorem zer_78 : zeroOf Tryz.prog 78 = some (.nilFunc) := by kernel_rfl
@[go_sem] theorem zcs_78 : zcs Tryz.prog 78 = some 1 := by kernel_rfl
@[go_sem] theorem str_78 : isStrT Tryz.prog 78 = false := by kernel_rfl
@[go_sem] theorem ifc_78 : isIfaceT Tryz.prog 78 = some false := by kernel_rfl
@[go_sem] theorem tsz_79 : tsz Tryz.prog 79 = some 1 := by kernel_rfl
@[go_sem] theorem agg_79 : isAggT Tryz.prog 79 = some false := by kernel_rfl
@[go_sem] theorem zer_79 : zeroOf Tryz.prog 79 = some (.nilFunc) := by kernel_rfl
@[go_sem] theorem zcs_79 : zcs Tryz.prog 79 = some 1 := by kernel_rfl
@[go_sem] theorem str_79 : isStrT Tryz.prog 79 = false := by kernel_rfl
@[go_sem] theorem ifc_79 : isIfaceT Tryz.prog 79 = some false := by kernel_rfl
@[go_sem] theorem tsz_80 : tsz Tryz.prog 80 = some 1 := by kernel_rfl
@[go_sem] theorem agg_80 : isAggT Tryz.prog 80 = some false := by kernel_rfl
@[go_sem] theorem zer_80 : zeroOf Tryz.prog 80 = some (.nilFunc) := by kernel_rfl
@[go_sem] theorem zcs_80 : zcs Tryz.prog 80 = some 1 := by kernel_rfl
@[go_sem] theorem str_80 : isStrT Tryz.prog 80 = false := by kernel_rfl
@[go_sem] theorem ifc_80 : isIfaceT Tryz.prog 80 = some false := by kernel_rfl
@[go_sem] theorem tsz_81 : tsz Tryz.prog 81 = some 1 := by kernel_rfl
@[go_sem] theorem agg_81 : isAggT Tryz.prog 81 = some false := by kernel_rfl
@[go_sem] theorem zer_81 : zeroOf Tryz.prog 81 = some (.nilFunc) := by kernel_rfl
@[go_sem] theorem zcs_81 : zcs Tryz.prog 81 = some 1 := by kernel_rfl
@[go_sem] theorem str_81 : isStrT Tryz.prog 81 = false := by kernel_rfl
@[go_sem] theorem ifc_81 : isIfaceT Tryz.prog 81 = some false := by kernel_rfl
@[go_sem] theorem tsz_83 : tsz Tryz.prog 83 = some 1 := by kernel_rfl
@[go_sem] theorem agg_83 : isAggT Tryz.prog 83 = some false := by kernel_rfl
@[go_sem] theorem zer_83 : zeroOf Tryz.prog 83 = some (.nilFunc) := by kernel_rfl
@[go_sem] theorem zcs_83 : zcs Tryz.prog 83 = some 1 := by kernel_rfl
@[go_sem] theorem str_83 : isStrT Tryz.prog 83 = false := by kernel_rfl
@[go_sem] theorem ifc_83 : isIfaceT Tryz.prog 83 = some false := by kernel_rfl
@[go_sem] theorem tsz_84 : tsz Tryz.prog 84 = some 1 := by kernel_rfl
@[go_sem] theorem agg_84 : isAggT Tryz.prog 84 = some false := by kernel_rfl
@[go_sem] theorem zer_84 : zeroOf Tryz.prog 84 = some (.pointer none) := by kernel_rfl
@[go_sem] theorem zcs_84 : zcs Tryz.prog 84 = some 1 := by kernel_rfl
@[go_sem] theorem str_84 : isStrT Tryz.prog 84 = false := by kernel_rfl
@[go_sem] theorem ifc_84 : isIfaceT Tryz.prog 84 = some false := by kernel_rfl
@[go_sem] theorem tsz_85 : tsz Tryz.prog 85 = some 1 := by kernel_rfl
@[go_sem] theorem agg_85 : isAggT Tryz.prog 85 = some true := by kernel_rfl
@[go_sem] theorem zer_85 : zeroOf Tryz.prog 85 = some (.agg #[.slice none 0 0]) := by kernel_rfl
@[go_sem] theorem zcs_85 : zcs Tryz.prog 85 = some 1 := by kernel_rfl
@[go_sem] theorem str_85 : isStrT Tryz.prog 85 = false := by kernel_rfl
@[go_sem] theorem ifc_85 : isIfaceT Tryz.prog 85 = some false := by kernel_rfl
@[go_sem] theorem fld_85_0 : fieldOf Tryz.prog 85 0 = some (0, 37) := by kernel_rfl
@[go_sem] theorem plc_85 : placesOf Tryz.prog 85 = some [(0, 1)] := by kernel_rfl
@[go_sem] theorem tsz_86 : tsz Tryz.prog 86 = some 1 := by kernel_rfl
@[go_sem] theorem agg_86 : isAggT Tryz.prog 86 = some true := by kernel_rfl
@[go_sem] theorem zer_86 : zeroOf Tryz.prog 86 = some (.agg #[.slice none 0 0]) := by kernel_rfl
@[go_sem] theorem zcs_86 : zcs Tryz.prog 86 = some 1 := by kernel_rfl
@[go_sem] theorem str_86 : isStrT Tryz.prog 86 = false := by kernel_rfl
@[go_sem] theorem ifc_86 : isIfaceT Tryz.prog 86 = some false := by kernel_rfl
@[go_sem] theorem fld_86_0 : fieldOf Tryz.prog 86 0 = some (0, 37) := by kernel_rfl
@[go_sem] theorem plc_86 : placesOf Tryz.prog 86 = some [(0, 1)] := by kernel_rfl
@[go_sem] theorem tsz_87 : tsz Tryz.prog 87 = some 1 := by kernel_rfl
@[go_sem] theorem agg_87 : isAggT Tryz.prog 87 = some false := by kernel_rfl
@[go_sem] theorem zer_87 : zeroOf Tryz.prog 87 = some (.nilFunc) := by kernel_rfl
@[go_sem] theorem zcs_87 : zcs Tryz.prog 87 = some 1 := by kernel_rfl
@[go_sem] theorem str_87 : isStrT Tryz.prog 87 = false := by kernel_rfl
@[go_sem] theorem ifc_87 : isIfaceT Tryz.prog 87 = some false := by kernel_rfl
@[go_sem] theorem tsz_89 : tsz Tryz.prog 89 = some 1 := by kernel_rfl
@[go_sem] theorem agg_89 : isAggT Tryz.prog 89 = some false := by kernel_rfl
@[go_sem] theorem zer_89 : zeroOf Tryz.prog 89 = some (.nilFunc) := by kernel_rfl
@[go_sem] theorem zcs_89 : zcs Tryz.prog 89 = some 1 := by kernel_rfl
@[go_sem] theorem str_89 : isStrT Tryz.prog 89 = false := by kernel_rfl
@[go_sem] theorem ifc_89 : isIfaceT Tryz.prog 89 = some false := by kernel_rfl
@[go_sem] theorem tsz_90 : tsz Tryz.prog 90 = some 2 := by kernel_rfl
@[go_sem] theorem agg_90 : isAggT Tryz.prog 90 = some true := by kernel_rfl
@[go_sem] theorem zer_90 : zeroOf Tryz.prog 90 = some (.agg #[.int .i64 0, .slice none 0 0]) := by kernel_rfl
@[go_sem] theorem zcs_90 : zcs Tryz.prog 90 = some 2 := by kernel_rfl
@[go_sem] theorem str_90 : isStrT Tryz.prog 90 = false := by kernel_rfl
@[go_sem] theorem ifc_90 : isIfaceT Tryz.prog 90 = some false := by kernel_rfl
@[go_sem] theorem fld_90_0 : fieldOf Tryz.prog 90 0 = some (0, 3) := by kernel_rfl
@[go_sem] theorem fld_90_1 : fieldOf Tryz.prog 90 1 = some (1, 61) := by kernel_rfl
@[go_sem] theorem plc_90 : placesOf Tryz.prog 90 = some [(0, 1), (1, 1)] := by kernel_rfl
@[go_sem] theorem tsz_91 : tsz Tryz.prog 91 = some 2 := by kernel_rfl
@[go_sem] theorem agg_91 : isAggT Tryz.prog 91 = some true := by kernel_rfl
@[go_sem] theorem zer_91 : zeroOf Tryz.prog 91 = some (.agg #[.int .i64 0, .slice none 0 0]) := by kernel_rfl
@[go_sem] theorem zcs_91 : zcs Tryz.prog 91 = some 2 := by kernel_rfl
@[go_sem] theorem str_91 : isStrT Tryz.prog 91 = false := by kernel_rfl
@[go_sem] theorem ifc_91 : isIfaceT Tryz.prog 91 = some false := by kernel_rfl
@[go_sem] theorem fld_91_0 : fieldOf Tryz.prog 91 0 = some (0, 3) := by kernel_rfl
@[go_sem] theorem fld_91_1 : fieldOf Tryz.prog 91 1 = some (1, 61) := by kernel_rfl
@[go_sem] theorem plc_91 : placesOf Tryz.prog 91 = some [(0, 1), (1, 1)] := by kernel_rfl
@[go_sem] theorem tsz_92 : tsz Tryz.prog 92 = some 1 := by kernel_rfl
@[go_sem] theorem agg_92 : isAggT Tryz.prog 92 = some false := by kernel_rfl
@[go_sem] theorem zer_92 : zeroOf Tryz.prog 92 = some (.nilFunc) := by kernel_rfl
@[go_sem] theorem zcs_92 : zcs Tryz.prog 92 = some 1 := by kernel_rfl
@[go_sem] theorem str_92 : isStrT Tryz.prog 92 = false := by kernel_rfl
@[go_sem] theorem ifc_92 : isIfaceT Tryz.prog 92 = some false := by kernel_rfl
@[go_sem] theorem tsz_93 : tsz Tryz.prog 93 = some 1 := by kernel_rfl
@[go_sem] theorem agg_93 : isAggT Tryz.prog 93 = some false := by kernel_rfl
@[go_sem] theorem zer_93 : zeroOf Tryz.prog 93 = some (.nilFunc) := by kernel_rfl
@[go_sem] theorem zcs_93 : zcs Tryz.prog 93 = some 1 := by kernel_rfl
@[go_sem] theorem str_93 : isStrT Tryz.prog 93 = false := by kernel_rfl
@[go_sem] theorem ifc_93 : isIfaceT Tryz.prog 93 = some false := by kernel_rfl
@[go_sem] theorem tsz_94 : tsz Tryz.prog 94 = some 1 := by kernel_rfl
@[go_sem] theorem agg_94 : isAggT Tryz.prog 94 = some false := by kernel_rfl
@[go_sem] theorem zer_94 : zeroOf Tryz.prog 94 = some (.nilFunc) := by kernel_rfl
@[go_sem] theorem zcs_94 : zcs Tryz.prog 94 = some 1 := by kernel_rfl
@[go_sem] theorem str_94 : isStrT Tryz.prog 94 = false := by kernel_rfl
@[go_sem] theorem ifc_94 : isIfaceT Tryz.prog 94 = some false := by kernel_rfl
@[go_sem] theorem tsz_95 : tsz Tryz.prog 95 = some 1 := by kernel_rfl
@[go_sem] theorem agg_95 : isAggT Tryz.prog 95 = some false := by kernel_rfl
@[go_sem] theorem zer_95 : zeroOf Tryz.prog 95 = some (.nilFunc) := by kernel_rfl
@[go_sem] theorem zcs_95 : zcs Tryz.prog 95 = some 1 := by kernel_rfl
@[go_sem] theorem str_95 : isStrT Tryz.prog 95 = false := by kernel_rfl
@[go_sem] theorem ifc_95 : isIfaceT Tryz.prog 95 = some false := by kernel_rfl
@[go_sem] theorem tsz_96 : tsz Tryz.prog 96 = some 1 := by kernel_rfl
@[go_sem] theorem agg_96 : isAggT Tryz.prog 96 = some false := by kernel_rfl
@[go_sem] theorem zer_96 : zeroOf Tryz.prog 96 = some (.nilFunc) := by kernel_rfl
@[go_sem] theorem zcs_96 : zcs Tryz.prog 96 = some 1 := by kernel_rfl
@[go_sem] theorem str_96 : isStrT Tryz.prog 96 = false := by kernel_rfl
@[go_sem] theorem ifc_96 : isIfaceT Tryz.prog 96 = some false := by kernel_rfl
@[go_sem] theorem tsz_97 : tsz Tryz.prog 97 = some 1 := by kernel_rfl
@[go_sem] theorem agg_97 : isAggT Tryz.prog 97 = some false := by kernel_rfl
@[go_sem] theorem zer_97 : zeroOf Tryz.prog 97 = some (.nilFunc) := by kernel_rfl
@[go_sem] theorem zcs_97 : zcs Tryz.prog 97 = some 1 := by kernel_rfl
@[go_sem] theorem str_97 : isStrT Tryz.prog 97 = false := by kernel_rfl
@[go_sem] theorem ifc_97 : isIfaceT Tryz.prog 97 = some false := by kernel_rfl
@[go_sem] theorem tsz_98 : tsz Tryz.prog 98 = some 1 := by kernel_rfl
@[go_sem] theorem agg_98 : isAggT Tryz.prog 98 = some false := by kernel_rfl
@[go_sem] theorem zer_98 : zeroOf Tryz.prog 98 = some (.nilFunc) := by kernel_rfl
@[go_sem] theorem zcs_98 : zcs Tryz.prog 98 = some 1 := by kernel_rfl
@[go_sem] theorem str_98 : isStrT Tryz.prog 98 = false := by kernel_rfl
@[go_sem] theorem ifc_98 : isIfaceT Tryz.prog 98 = some false := by kernel_rfl
@[go_sem] theorem tsz_99 : tsz Tryz.prog 99 = some 1 := by kernel_rfl
@[go_sem] theorem agg_99 : isAggT Tryz.prog 99 = some false := by kernel_rfl
@[go_sem] theorem zer_99 : zeroOf Tryz.prog 99 = some (.int .u64 0) := by kernel_rfl
@[go_sem] theorem zcs_99 : zcs Tryz.prog 99 = some 1 := by kernel_rfl
@[go_sem] theorem str_99 : isStrT Tryz.prog 99 = false := by kernel_rfl
@[go_sem] theorem ifc_99 : isIfaceT Tryz.prog 99 = some false := by kernel_rfl
@[go_sem] theorem int_99 : intT Tryz.prog 99 = some .u64 := by kernel_rfl
@[go_sem] theorem und_99 : Tryz.prog.underlying 99 = some (.int .u64) := by kernel_rfl
@[go_sem] theorem tsz_100 : tsz Tryz.prog 100 = some 1 := by kernel_rfl
@[go_sem] theorem agg_100 : isAggT Tryz.prog 100 = some false := by kernel_rfl
@[go_sem] theorem zer_100 : zeroOf Tryz.prog 100 = some (.nilFunc) := by kernel_rfl
@[go_sem] theorem zcs_100 : zcs Tryz.prog 100 = some 1 := by kernel_rfl
@[go_sem] theorem str_100 : isStrT Tryz.prog 100 = false := by kernel_rfl
@[go_sem] theorem ifc_100 : isIfaceT Tryz.prog 100 = some false := by kernel_rfl
@[go_sem] theorem tsz_101 : tsz Tryz.prog 101 = some 3 := by kernel_rfl
@[go_sem] theorem agg_101 : isAggT Tryz.prog 101 = some true := by kernel_rfl
@[go_sem] theorem zer_101 : zeroOf Tryz.prog 101 = some (.agg #[.string (⟨#[]⟩ : ByteArray), .int .i64 0, .slice none 0 0]) := by kernel_rfl
@[go_sem] theorem zcs_101 : zcs Tryz.prog 101 = some 3 := by kernel_rfl
@[go_sem] theorem str_101 : isStrT Tryz.prog 101 = false := by kernel_rfl
@[go_sem] theorem ifc_101 : isIfaceT Tryz.prog 101 = some false := by kernel_rfl
@[go_sem] theorem fld_101_0 : fieldOf Tryz.prog 101 0 = some (0, 9) := by kernel_rfl
@[go_sem] theorem fld_101_1 : fieldOf Tryz.prog 101 1 = some (1, 3) := by kernel_rfl
@[go_sem] theorem fld_101_2 : fieldOf Tryz.prog 101 2 = some (2, 61) := by kernel_rfl
@[go_sem] theorem plc_101 : placesOf Tryz.prog 101 = some [(0, 1), (1, 1), (2, 1)] := by kernel_rfl
@[go_sem] theorem tsz_102 : tsz Tryz.prog 102 = some 3 := by kernel_rfl
@[go_sem] theorem agg_102 : isAggT Tryz.prog 102 = some true := by kernel_rfl
@[go_sem] theorem zer_102 : zeroOf Tryz.prog 102 = some (.agg #[.string (⟨#[]⟩ : ByteArray), .int .i64 0, .slice none 0 0]) := by kernel_rfl
@[go_sem] theorem zcs_102 : zcs Tryz.prog 102 = some 3 := by kernel_rfl
@[go_sem] theorem str_102 : isStrT Tryz.prog 102 = false := by kernel_rfl
@[go_sem] theorem ifc_102 : isIfaceT Tryz.prog 102 = some false := by kernel_rfl
@[go_sem] theorem fld_102_0 : fieldOf Tryz.prog 102 0 = some (0, 9) := by kernel_rfl
@[go_sem] theorem fld_102_1 : fieldOf Tryz.prog 102 1 = some (1, 3) := by kernel_rfl
@[go_sem] theorem fld_102_2 : fieldOf Tryz.prog 102 2 = some (2, 61) := by kernel_rfl
@[go_sem] theorem plc_102 : placesOf Tryz.prog 102 = some [(0, 1), (1, 1), (2, 1)] := by kernel_rfl
@[go_sem] theorem tsz_103 : tsz Tryz.prog 103 = some 6 := by kernel_rfl
@[go_sem] theorem agg_103 : isAggT Tryz.prog 103 = some true := by kernel_rfl
@[go_sem] theorem zer_103 : zeroOf Tryz.prog 103 = some (.agg #[.string (⟨#[]⟩ : ByteArray), .int .i64 0, .int .i64 0, .float .f64 0, .string (⟨#[]⟩ : ByteArray), .slice none 0 0]) := by kernel_rfl
@[go_sem] theorem zcs_103 : zcs Tryz.prog 103 = some 6 := by kernel_rfl
@[go_sem] theorem str_103 : isStrT Tryz.prog 103 = false := by kernel_rfl
@[go_sem] theorem ifc_103 : isIfaceT Tryz.prog 103 = some false := by kernel_rfl
@[go_sem] theorem fld_103_0 : fieldOf Tryz.prog 103 0 = some (0, 9) := by kernel_rfl
@[go_sem] theorem fld_103_1 : fieldOf Tryz.prog 103 1 = some (1, 27) := by kernel_rfl
@[go_sem] theorem plc_103 : placesOf Tryz.prog 103 = some [(0, 1), (1, 5)] := by kernel_rfl
@[go_sem] theorem tsz_104 : tsz Tryz.prog 104 = some 6 := by kernel_rfl
@[go_sem] theorem agg_104 : isAggT Tryz.prog 104 = some true := by kernel_rfl
@[go_sem] theorem zer_104 : zeroOf Tryz.prog 104 = some (.agg #[.string (⟨#[]⟩ : ByteArray), .int .i64 0, .int .i64 0, .float .f64 0, .string (⟨#[]⟩ : ByteArray), .slice none 0 0]) := by kernel_rfl
@[go_sem] theorem zcs_104 : zcs Tryz.prog 104 = some 6 := by kernel_rfl
@[go_sem] theorem str_104 : isStrT Tryz.prog 104 = false := by kernel_rfl
@[go_sem] theorem ifc_104 : isIfaceT Tryz.prog 104 = some false := by kernel_rfl
@[go_sem] theorem fld_104_0 : fieldOf Tryz.prog 104 0 = some (0, 9) := by kernel_rfl
@[go_sem] theorem fld_104_1 : fieldOf Tryz.prog 104 1 = some (1, 27) := by kernel_rfl
@[go_sem] theorem plc_104 : placesOf Tryz.prog 104 = some [(0, 1), (1, 5)] := by kernel_rfl
@[go_sem] theorem tsz_106 : tsz Tryz.prog 106 = some 3 := by kernel_rfl
@[go_sem] theorem agg_106 : isAggT Tryz.prog 106 = some true := by kernel_rfl
@[go_sem] theorem zer_106 : zeroOf Tryz.prog 106 = some (.agg #[.string (⟨#[]⟩ : ByteArray), .int .i64 0, .slice none 0 0]) := by kernel_rfl
@[go_sem] theorem zcs_106 : zcs Tryz.prog 106 = some 3 := by kernel_rfl
@[go_sem] theorem str_106 : isStrT Tryz.prog 106 = false := by kernel_rfl
@[go_sem] theorem ifc_106 : isIfaceT Tryz.prog 106 = some false := by kernel_rfl
@[go_sem] theorem fld_106_0 : fieldOf Tryz.prog 106 0 = some (0, 9) := by kernel_rfl
@[go_sem] theorem fld_106_1 : fieldOf Tryz.prog 106 1 = some (1, 3) := by kernel_rfl
@[go_sem] theorem fld_106_2 : fieldOf Tryz.prog 106 2 = some (2, 61) := by kernel_rfl
@[go_sem] theorem plc_106 : placesOf Tryz.prog 106 = some [(0, 1), (1, 1), (2, 1)] := by kernel_rfl
@[go_sem] theorem tsz_107 : tsz Tryz.prog 107 = some 1 := by kernel_rfl
@[go_sem] theorem agg_107 : isAggT Tryz.prog 107 = some false := by kernel_rfl
@[go_sem] theorem zer_107 : zeroOf Tryz.prog 107 = some (.slice none 0 0) := by kernel_rfl
@[go_sem] theorem zcs_107 : zcs Tryz.prog 107 = some 1 := by kernel_rfl
@[go_sem] theorem str_107 : isStrT Tryz.prog 107 = false := by kernel_rfl
@[go_sem] theorem ifc_107 : isIfaceT Tryz.prog 107 = some false := by kernel_rfl
@[go_sem] theorem und_107 : Tryz.prog.underlying 107 = some (.slice 3) := by kernel_rfl
@[go_sem] theorem elm_107 : elemT Tryz.prog 107 = some 3 := by kernel_rfl
@[go_sem] theorem tsz_108 : tsz Tryz.prog 108 = some 6 := by kernel_rfl
@[go_sem] theorem agg_108 : isAggT Tryz.prog 108 = some true := by kernel_rfl
@[go_sem] theorem zer_108 : zeroOf Tryz.prog 108 = some (.agg #[.string (⟨#[]⟩ : ByteArray), .string (⟨#[]⟩ : ByteArray), .bool false, .bool false, .int .i64 0, .int .i64 0]) := by kernel_rfl
@[go_sem] theorem zcs_108 : zcs Tryz.prog 108 = some 6 := by kernel_rfl
@[go_sem] theorem str_108 : isStrT Tryz.prog 108 = false := by kernel_rfl
@[go_sem] theorem ifc_108 : isIfaceT Tryz.prog 108 = some false := by kernel_rfl
@[go_sem] theorem fld_108_0 : fieldOf Tryz.prog 108 0 = some (0, 9) := by kernel_rfl
@[go_sem] theorem fld_108_1 : fieldOf Tryz.prog 108 1 = some (1, 9) := by kernel_rfl
@[go_sem] theorem fld_108_2 : fieldOf Tryz.prog 108 2 = some (2, 4) := by kernel_rfl
@[go_sem] theorem fld_108_3 : fieldOf Tryz.prog 108 3 = some (3, 4) := by kernel_rfl
@[go_sem] theorem fld_108_4 : fieldOf Tryz.prog 108 4 = some (4, 3) := by kernel_rfl
@[go_sem] theorem fld_108_5 : fieldOf Tryz.prog 108 5 = some (5, 3) := by kernel_rfl
@[go_sem] theorem plc_108 : placesOf Tryz.prog 108 = some [(0, 1), (1, 1), (2, 1), (3, 1), (4, 1), (5, 1)] := by kernel_rfl
@[go_sem] theorem tsz_109 : tsz Tryz.prog 109 = some 6 := by kernel_rfl
@[go_sem] theorem agg_109 : isAggT Tryz.prog 109 = some true := by kernel_rfl
@[go_sem] theorem zer_109 : zeroOf Tryz.prog 109 = some (.agg #[.string (⟨#[]⟩ : ByteArray), .string (⟨#[]⟩ : ByteArray), .bool false, .bool false, .int .i64 0, .int .i64 0]) := by kernel_rfl
@[go_sem] theorem zcs_109 : zcs Tryz.prog 109 = some 6 := by kernel_rfl
@[go_sem] theorem str_109 : isStrT Tryz.prog 109 = false := by kernel_rfl
@[go_sem] theorem ifc_109 : isIfaceT Tryz.prog 109 = some false := by kernel_rfl
@[go_sem] theorem fld_109_0 : fieldOf Tryz.prog 109 0 = some (0, 9) := by kernel_rfl
@[go_sem] theorem fld_109_1 : fieldOf Tryz.prog 109 1 = some (1, 9) := by kernel_rfl
@[go_sem] theorem fld_109_2 : fieldOf Tryz.prog 109 2 = some (2, 4) := by kernel_rfl
@[go_sem] theorem fld_109_3 : fieldOf Tryz.prog 109 3 = some (3, 4) := by kernel_rfl
@[go_sem] theorem fld_109_4 : fieldOf Tryz.prog 109 4 = some (4, 3) := by kernel_rfl
@[go_sem] theorem fld_109_5 : fieldOf Tryz.prog 109 5 = some (5, 3) := by kernel_rfl
@[go_sem] theorem plc_109 : placesOf Tryz.prog 109 = some [(0, 1), (1, 1), (2, 1), (3, 1), (4, 1), (5, 1)] := by kernel_rfl
@[go_sem] theorem tsz_110 : tsz Tryz.prog 110 = some 1 := by kernel_rfl
@[go_sem] theorem agg_110 : isAggT Tryz.prog 110 = some false := by kernel_rfl
@[go_sem] theorem zer_110 : zeroOf Tryz.prog 110 = some (.nilFunc) := by kernel_rfl
@[go_sem] theorem zcs_110 : zcs Tryz.prog 110 = some 1 := by kernel_rfl
@[go_sem] theorem str_110 : isStrT Tryz.prog 110 = false := by kernel_rfl
@[go_sem] theorem ifc_110 : isIfaceT Tryz.prog 110 = some false := by kernel_rfl
@[go_sem] theorem tsz_111 : tsz Tryz.prog 111 = some 1 := by kernel_rfl
@[go_sem] theorem agg_111 : isAggT Tryz.prog 111 = some false := by kernel_rfl
@[go_sem] theorem zer_111 : zeroOf Tryz.prog 111 = some (.nilFunc) := by kernel_rfl
@[go_sem] theorem zcs_111 : zcs Tryz.prog 111 = some 1 := by kernel_rfl
@[go_sem] theorem str_111 : isStrT Tryz.prog 111 = false := by kernel_rfl
@[go_sem] theorem ifc_111 : isIfaceT Tryz.prog 111 = some false := by kernel_rfl
@[go_sem] theorem tsz_112 : tsz Tryz.prog 112 = some 1 := by kernel_rfl
@[go_sem] theorem agg_112 : isAggT Tryz.prog 112 = some false := by kernel_rfl
@[go_sem] theorem zer_112 : zeroOf Tryz.prog 112 = some (.nilFunc) := by kernel_rfl
@[go_sem] theorem zcs_112 : zcs Tryz.prog 112 = some 1 := by kernel_rfl
@[go_sem] theorem str_112 : isStrT Tryz.prog 112 = false := by kernel_rfl
@[go_sem] theorem ifc_112 : isIfaceT Tryz.prog 112 = some false := by kernel_rfl
@[go_sem] theorem tsz_113 : tsz Tryz.prog 113 = some 1 := by kernel_rfl
@[go_sem] theorem agg_113 : isAggT Tryz.prog 113 = some false := by kernel_rfl
@[go_sem] theorem zer_113 : zeroOf Tryz.prog 113 = some (.nilFunc) := by kernel_rfl
@[go_sem] theorem zcs_113 : zcs Tryz.prog 113 = some 1 := by kernel_rfl
@[go_sem] theorem str_113 : isStrT Tryz.prog 113 = false := by kernel_rfl
@[go_sem] theorem ifc_113 : isIfaceT Tryz.prog 113 = some false := by kernel_rfl
@[go_sem] theorem tsz_114 : tsz Tryz.prog 114 = some 1 := by kernel_rfl
@[go_sem] theorem agg_114 : isAggT Tryz.prog 114 = some false := by kernel_rfl
@[go_sem] theorem zer_114 : zeroOf Tryz.prog 114 = some (.nilFunc) := by kernel_rfl
@[go_sem] theorem zcs_114 : zcs Tryz.prog 114 = some 1 := by kernel_rfl
@[go_sem] theorem str_114 : isStrT Tryz.prog 114 = false := by kernel_rfl
@[go_sem] theorem ifc_114 : isIfaceT Tryz.prog 114 = some false := by kernel_rfl
@[go_sem] theorem tsz_115 : tsz Tryz.prog 115 = some 1 := by kernel_rfl
@[go_sem] theorem agg_115 : isAggT Tryz.prog 115 = some false := by kernel_rfl
@[go_sem] theorem zer_115 : zeroOf Tryz.prog 115 = some (.map none) := by kernel_rfl
@[go_sem] theorem zcs_115 : zcs Tryz.prog 115 = some 1 := by kernel_rfl
@[go_sem] theorem str_115 : isStrT Tryz.prog 115 = false := by kernel_rfl
@[go_sem] theorem ifc_115 : isIfaceT Tryz.prog 115 = some false := by kernel_rfl
@[go_sem] theorem mpt_115 : mapT Tryz.prog 115 = some 4 := by kernel_rfl
@[go_sem] theorem tsz_117 : tsz Tryz.prog 117 = some 1 := by kernel_rfl
@[go_sem] theorem agg_117 : isAggT Tryz.prog 117 = some false := by kernel_rfl
@[go_sem] theorem zer_117 : zeroOf Tryz.prog 117 = some (.nilFunc) := by kernel_rfl
@[go_sem] theorem zcs_117 : zcs Tryz.prog 117 = some 1 := by kernel_rfl
@[go_sem] theorem str_117 : isStrT Tryz.prog 117 = false := by kernel_rfl
@[go_sem] theorem ifc_117 : isIfaceT Tryz.prog 117 = some false := by kernel_rfl
@[go_sem] theorem tsz_118 : tsz Tryz.prog 118 = some 1 := by kernel_rfl
@[go_sem] theorem agg_118 : isAggT Tryz.prog 118 = some false := by kernel_rfl
@[go_sem] theorem zer_118 : zeroOf Tryz.prog 118 = some (.nilFunc) := by kernel_rfl
@[go_sem] theorem zcs_118 : zcs Tryz.prog 118 = some 1 := by kernel_rfl
@[go_sem] theorem str_118 : isStrT Tryz.prog 118 = false := by kernel_rfl
@[go_sem] theorem ifc_118 : isIfaceT Tryz.prog 118 = some false := by kernel_rfl
@[go_sem] theorem tsz_119 : tsz Tryz.prog 119 = some 3 := by kernel_rfl
@[go_sem] theorem agg_119 : isAggT Tryz.prog 119 = some true := by kernel_rfl
@[go_sem] theorem zer_119 : zeroOf Tryz.prog 119 = some (.agg #[.string (⟨#[]⟩ : ByteArray), .string (⟨#[]⟩ : ByteArray), .slice none 0 0]) := by kernel_rfl
@[go_sem] theorem zcs_119 : zcs Tryz.prog 119 = some 3 := by kernel_rfl
@[go_sem] theorem str_119 : isStrT Tryz.prog 119 = false := by kernel_rfl
@[go_sem] theorem ifc_119 : isIfaceT Tryz.prog 119 = some false := by kernel_rfl
@[go_sem] theorem fld_119_0 : fieldOf Tryz.prog 119 0 = some (0, 9) := by kernel_rfl
@[go_sem] theorem fld_119_1 : fieldOf Tryz.prog 119 1 = some (1, 9) := by kernel_rfl
@[go_sem] theorem fld_119_2 : fieldOf Tryz.prog 119 2 = some (2, 61) := by kernel_rfl
@[go_sem] theorem plc_119 : placesOf Tryz.prog 119 = some [(0, 1), (1, 1), (2, 1)] := by kernel_rfl
@[go_sem] theorem tsz_120 : tsz Tryz.prog 120 = some 6 := by kernel_rfl
@[go_sem] theorem agg_120 : isAggT Tryz.prog 120 = some true := by kernel_rfl
@[go_sem] theorem zer_120 : zeroOf Tryz.prog 120 = some (.agg #[.string (⟨#[]⟩ : ByteArray), .string (⟨#[]⟩ : ByteArray), .bool false, .bool false, .int .i64 0, .int .i64 0]) := by kernel_rfl
@[go_sem] theorem zcs_120 : zcs Tryz.prog 120 = some 6 := by kernel_rfl
@[go_sem] theorem str_120 : isStrT Tryz.prog 120 = false := by kernel_rfl
@[go_sem] theorem ifc_120 : isIfaceT Tryz.prog 120 = some false := by kernel_rfl
@[go_sem] theorem fld_120_0 : fieldOf Tryz.prog 120 0 = some (0, 9) := by kernel_rfl
@[go_sem] theorem fld_120_1 : fieldOf Tryz.prog 120 1 = some (1, 9) := by kernel_rfl
@[go_sem] theorem fld_120_2 : fieldOf Tryz.prog 120 2 = some (2, 4) := by kernel_rfl
@[go_sem] theorem fld_120_3 : fieldOf Tryz.prog 120 3 = some (3, 4) := by kernel_rfl
@[go_sem] theorem fld_120_4 : fieldOf Tryz.prog 120 4 = some (4, 3) := by kernel_rfl
@[go_sem] theorem fld_120_5 : fieldOf Tryz.prog 120 5 = some (5, 3) := by kernel_rfl
@[go_sem] theorem plc_120 : placesOf Tryz.prog 120 = some [(0, 1), (1, 1), (2, 1), (3, 1), (4, 1), (5, 1)] := by kernel_rfl
@[go_sem] theorem tsz_121 : tsz Tryz.prog 121 = some 2 := by kernel_rfl
@[go_sem] theorem agg_121 : isAggT Tryz.prog 121 = some true := by kernel_rfl
@[go_sem] theorem zer_121 : zeroOf Tryz.prog 121 = some (.agg #[.int .i64 0, .slice none 0 0]) := by kernel_rfl
@[go_sem] theorem zcs_121 : zcs Tryz.prog 121 = some 2 := by kernel_rfl
@[go_sem] theorem str_121 : isStrT Tryz.prog 121 = false := by kernel_rfl
@[go_sem] theorem ifc_121 : isIfaceT Tryz.prog 121 = some false := by kernel_rfl
@[go_sem] theorem fld_121_0 : fieldOf Tryz.prog 121 0 = some (0, 3) := by kernel_rfl
@[go_sem] theorem fld_121_1 : fieldOf Tryz.prog 121 1 = some (1, 72) := by kernel_rfl
@[go_sem] theorem plc_121 : placesOf Tryz.prog 121 = some [(0, 1), (1, 1)] := by kernel_rfl
@[go_sem] theorem tsz_122 : tsz Tryz.prog 122 = some 2 := by kernel_rfl
@[go_sem] theorem agg_122 : isAggT Tryz.prog 122 = some true := by kernel_rfl
@[go_sem] theorem zer_122 : zeroOf Tryz.prog 122 = some (.agg #[.int .i64 0, .slice none 0 0]) := by kernel_rfl
@[go_sem] theorem zcs_122 : zcs Tryz.prog 122 = some 2 := by kernel_rfl
@[go_sem] theorem str_122 : isStrT Tryz.prog 122 = false := by kernel_rfl
@[go_sem] theorem ifc_122 : isIfaceT Tryz.prog 122 = some false := by kernel_rfl
@[go_sem] theorem fld_122_0 : fieldOf Tryz.prog 122 0 = some (0, 3) := by kernel_rfl
@[go_sem] theorem fld_122_1 : fieldOf Tryz.prog 122 1 = some (1, 72) := by kernel_rfl
@[go_sem] theorem plc_122 : placesOf Tryz.prog 122 = some [(0, 1), (1, 1)] := by kernel_rfl
@[go_sem] theorem tsz_123 : tsz Tryz.prog 123 = some 2 := by kernel_rfl
@[go_sem] theorem agg_123 : isAggT Tryz.prog 123 = some true := by kernel_rfl
@[go_sem] theorem zer_123 : zeroOf Tryz.prog 123 = some (.agg #[.int .i64 0, .bool false]) := by kernel_rfl
@[go_sem] theorem zcs_123 : zcs Tryz.prog 123 = some 2 := by kernel_rfl
@[go_sem] theorem str_123 : isStrT Tryz.prog 123 = false := by kernel_rfl
@[go_sem] theorem ifc_123 : isIfaceT Tryz.prog 123 = some false := by kernel_rfl
@[go_sem] theorem fld_123_0 : fieldOf Tryz.prog 123 0 = some (0, 3) := by kernel_rfl
@[go_sem] theorem fld_123_1 : fieldOf Tryz.prog 123 1 = some (1, 4) := by kernel_rfl
@[go_sem] theorem plc_123 : placesOf Tryz.prog 123 = some [(0, 1), (1, 1)] := by kernel_rfl
@[go_sem] theorem tsz_124 : tsz Tryz.prog 124 = some 2 := by kernel_rfl
@[go_sem] theorem agg_124 : isAggT Tryz.prog 124 = some true := by kernel_rfl
@[go_sem] theorem zer_124 : zeroOf Tryz.prog 124 = some (.agg #[.int .i64 0, .bool false]) := by kernel_rfl
@[go_sem] theorem zcs_124 : zcs Tryz.prog 124 = some 2 := by kernel_rfl
@[go_sem] theorem str_124 : isStrT Tryz.prog 124 = false := by kernel_rfl
@[go_sem] theorem ifc_124 : isIfaceT Tryz.prog 124 = some false := by kernel_rfl
@[go_sem] theorem fld_124_0 : fieldOf Tryz.prog 124 0 = some (0, 3) := by kernel_rfl
@[go_sem] theorem fld_124_1 : fieldOf Tryz.prog 124 1 = some (1, 4) := by kernel_rfl
@[go_sem] theorem plc_124 : placesOf Tryz.prog 124 = some [(0, 1), (1, 1)] := by kernel_rfl
@[go_sem] theorem tsz_125 : tsz Tryz.prog 125 = some 2 := by kernel_rfl
@[go_sem] theorem agg_125 : isAggT Tryz.prog 125 = some true := by kernel_rfl
@[go_sem] theorem zer_125 : zeroOf Tryz.prog 125 = some (.agg #[.int .i64 0, .bool false]) := by kernel_rfl
@[go_sem] theorem zcs_125 : zcs Tryz.prog 125 = some 2 := by kernel_rfl
@[go_sem] theorem str_125 : isStrT Tryz.prog 125 = false := by kernel_rfl
@[go_sem] theorem ifc_125 : isIfaceT Tryz.prog 125 = some false := by kernel_rfl
@[go_sem] theorem fld_125_0 : fieldOf Tryz.prog 125 0 = some (0, 3) := by kernel_rfl
@[go_sem] theorem fld_125_1 : fieldOf Tryz.prog 125 1 = some (1, 4) := by kernel_rfl
@[go_sem] theorem plc_125 : placesOf Tryz.prog 125 = some [(0, 1), (1, 1)] := by kernel_rfl
@[go_sem] theorem tsz_126 : tsz Tryz.prog 126 = some 1 := by kernel_rfl
@[go_sem] theorem agg_126 : isAggT Tryz.prog 126 = some false := by kernel_rfl
@[go_sem] theorem zer_126 : zeroOf Tryz.prog 126 = some (.nilFunc) := by kernel_rfl
@[go_sem] theorem zcs_126 : zcs Tryz.prog 126 = some 1 := by kernel_rfl
@[go_sem] theorem str_126 : isStrT Tryz.prog 126 = false := by kernel_rfl
@[go_sem] theorem ifc_126 : isIfaceT Tryz.prog 126 = some false := by kernel_rfl
@[go_sem] theorem tsz_127 : tsz Tryz.prog 127 = some 1 := by kernel_rfl
@[go_sem] theorem agg_127 : isAggT Tryz.prog 127 = some false := by kernel_rfl
@[go_sem] theorem zer_127 : zeroOf Tryz.prog 127 = some (.nilFunc) := by kernel_rfl
@[go_sem] theorem zcs_127 : zcs Tryz.prog 127 = some 1 := by kernel_rfl
@[go_sem] theorem str_127 : isStrT Tryz.prog 127 = false := by kernel_rfl
@[go_sem] theorem ifc_127 : isIfaceT Tryz.prog 127 = some false := by kernel_rfl
@[go_sem] theorem tsz_128 : tsz Tryz.prog 128 = some 1 := by kernel_rfl
@[go_sem] theorem agg_128 : isAggT Tryz.prog 128 = some false := by kernel_rfl
@[go_sem] theorem zer_128 : zeroOf Tryz.prog 128 = some (.nilFunc) := by kernel_rfl
@[go_sem] theorem zcs_128 : zcs Tryz.prog 128 = some 1 := by kernel_rfl
@[go_sem] theorem str_128 : isStrT Tryz.prog 128 = false := by kernel_rfl
@[go_sem] theorem ifc_128 : isIfaceT Tryz.prog 128 = some false := by kernel_rfl
@[go_sem] theorem tsz_129 : tsz Tryz.prog 129 = some 1 := by kernel_rfl
@[go_sem] theorem agg_129 : isAggT Tryz.prog 129 = some false := by kernel_rfl
@[go_sem] theorem zer_129 : zeroOf Tryz.prog 129 = some (.nilFunc) := by kernel_rfl
@[go_sem] theorem zcs_129 : zcs Tryz.prog 129 = some 1 := by kernel_rfl
@[go_sem] theorem str_129 : isStrT Tryz.prog 129 = false := by kernel_rfl
@[go_sem] theorem ifc_129 : isIfaceT Tryz.prog 129 = some false := by kernel_rfl
@[go_sem] theorem tsz_130 : tsz Tryz.prog 130 = some 1 := by kernel_rfl
@[go_sem] theorem agg_130 : isAggT Tryz.prog 130 = some false := by kernel_rfl
@[go_sem] theorem zer_130 : zeroOf Tryz.prog 130 = some (.nilFunc) := by kernel_rfl
@[go_sem] theorem zcs_130 : zcs Tryz.prog 130 = some 1 := by kernel_rfl
@[go_sem] theorem str_130 : isStrT Tryz.prog 130 = false := by kernel_rfl
@[go_sem] theorem ifc_130 : isIfaceT Tryz.prog 130 = some false := by kernel_rfl
@[go_sem] theorem tsz_131 : tsz Tryz.prog 131 = some 1 := by kernel_rfl
@[go_sem] theorem agg_131 : isAggT Tryz.prog 131 = some false := by kernel_rfl
@[go_sem] theorem zer_131 : zeroOf Tryz.prog 131 = some (.nilFunc) := by kernel_rfl
@[go_sem] theorem zcs_131 : zcs Tryz.prog 131 = some 1 := by kernel_rfl
@[go_sem] theorem str_131 : isStrT Tryz.prog 131 = false := by kernel_rfl
@[go_sem] theorem ifc_131 : isIfaceT Tryz.prog 131 = some false := by kernel_rfl
@[go_sem] theorem tsz_132 : tsz Tryz.prog 132 = some 1 := by kernel_rfl
@[go_sem] theorem agg_132 : isAggT Tryz.prog 132 = some false := by kernel_rfl
@[go_sem] theorem zer_132 : zeroOf Tryz.prog 132 = some (.nilFunc) := by kernel_rfl
@[go_sem] theorem zcs_132 : zcs Tryz.prog 132 = some 1 := by kernel_rfl
@[go_sem] theorem str_132 : isStrT Tryz.prog 132 = false := by kernel_rfl
@[go_sem] theorem ifc_132 : isIfaceT Tryz.prog 132 = some false := by kernel_rfl
@[go_sem] theorem tsz_133 : tsz Tryz.prog 133 = some 1 := by kernel_rfl
@[go_sem] theorem agg_133 : isAggT Tryz.prog 133 = some false := by kernel_rfl
@[go_sem] theorem zer_133 : zeroOf Tryz.prog 133 = some (.nilFunc) := by kernel_rfl
@[go_sem] theorem zcs_133 : zcs Tryz.prog 133 = some 1 := by kernel_rfl
@[go_sem] theorem str_133 : isStrT Tryz.prog 133 = false := by kernel_rfl
@[go_sem] theorem ifc_133 : isIfaceT Tryz.prog 133 = some false := by kernel_rfl
@[go_sem] theorem tsz_134 : tsz Tryz.prog 134 = some 1 := by kernel_rfl
@[go_sem] theorem agg_134 : isAggT Tryz.prog 134 = some false := by kernel_rfl
@[go_sem] theorem zer_134 : zeroOf Tryz.prog 134 = some (.nilFunc) := by kernel_rfl
@[go_sem] theorem zcs_134 : zcs Tryz.prog 134 = some 1 := by kernel_rfl
@[go_sem] theorem str_134 : isStrT Tryz.prog 134 = false := by kernel_rfl
@[go_sem] theorem ifc_134 : isIfaceT Tryz.prog 134 = some false := by kernel_rfl
@[go_sem] theorem tsz_135 : tsz Tryz.prog 135 = some 8 := by kernel_rfl
@[go_sem] theorem agg_135 : isAggT Tryz.prog 135 = some true := by kernel_rfl
@[go_sem] theorem zer_135 : zeroOf Tryz.prog 135 = some (.agg #[.int .i64 0, .string (⟨#[]⟩ : ByteArray), .string (⟨#[]⟩ : ByteArray), .int .i64 0, .int .i64 0, .float .f64 0, .string (⟨#[]⟩ : ByteArray), .slice none 0 0]) := by kernel_rfl
@[go_sem] theorem zcs_135 : zcs Tryz.prog 135 = some 8 := by kernel_rfl
@[go_sem] theorem str_135 : isStrT Tryz.prog 135 = false := by kernel_rfl
@[go_sem] theorem ifc_135 : isIfaceT Tryz.prog 135 = some false := by kernel_rfl
@[go_sem] theorem fld_135_0 : fieldOf Tryz.prog 135 0 = some (0, 3) := by kernel_rfl
@[go_sem] theorem fld_135_1 : fieldOf Tryz.prog 135 1 = some (1, 9) := by kernel_rfl
@[go_sem] theorem fld_135_2 : fieldOf Tryz.prog 135 2 = some (2, 9) := by kernel_rfl
@[go_sem] theorem fld_135_3 : fieldOf Tryz.prog 135 3 = some (3, 27) := by kernel_rfl
@[go_sem] theorem plc_135 : placesOf Tryz.prog 135 = some [(0, 1), (1, 1), (2, 1), (3, 5)] := by kernel_rfl
@[go_sem] theorem tsz_136 : tsz Tryz.prog 136 = some 1 := by kernel_rfl
@[go_sem] theorem agg_136 : isAggT Tryz.prog 136 = some false := by kernel_rfl
@[go_sem] theorem zer_136 : zeroOf Tryz.prog 136 = some (.nilFunc) := by kernel_rfl
@[go_sem] theorem zcs_136 : zcs Tryz.prog 136 = some 1 := by kernel_rfl
@[go_sem] theorem str_136 : isStrT Tryz.prog 136 = false := by kernel_rfl
@[go_sem] theorem ifc_136 : isIfaceT Tryz.prog 136 = some false := by kernel_rfl
@[go_sem] theorem tsz_137 : tsz Tryz.prog 137 = some 3 := by kernel_rfl
@[go_sem] theorem agg_137 : isAggT Tryz.prog 137 = some true := by kernel_rfl
@[go_sem] theorem zer_137 : zeroOf Tryz.prog 137 = some (.agg #[.int .i64 0, .slice none 0 0, .slice none 0 0]) := by kernel_rfl
@[go_sem] theorem zcs_137 : zcs Tryz.prog 137 = some 3 := by kernel_rfl
@[go_sem] theorem str_137 : isStrT Tryz.prog 137 = false := by kernel_rfl
@[go_sem] theorem ifc_137 : isIfaceT Tryz.prog 137 = some false := by kernel_rfl
@[go_sem] theorem fld_137_0 : fieldOf Tryz.prog 137 0 = some (0, 3) := by kernel_rfl
@[go_sem] theorem fld_137_1 : fieldOf Tryz.prog 137 1 = some (1, 59) := by kernel_rfl
@[go_sem] theorem fld_137_2 : fieldOf Tryz.prog 137 2 = some (2, 61) := by kernel_rfl
@[go_sem] theorem plc_137 : placesOf Tryz.prog 137 = some [(0, 1), (1, 1), (2, 1)] := by kernel_rfl
@[go_sem] theorem tsz_138 : tsz Tryz.prog 138 = some 3 := by kernel_rfl
@[go_sem] theorem agg_138 : isAggT Tryz.prog 138 = some true := by kernel_rfl
@[go_sem] theorem zer_138 : zeroOf Tryz.prog 138 = some (.agg #[.int .i64 0, .slice none 0 0, .slice none 0 0]) := by kernel_rfl
@[go_sem] theorem zcs_138 : zcs Tryz.prog 138 = some 3 := by kernel_rfl
@[go_sem] theorem str_138 : isStrT Tryz.prog 138 = false := by kernel_rfl
@[go_sem] theorem ifc_138 : isIfaceT Tryz.prog 138 = some false := by kernel_rfl
@[go_sem] theorem fld_138_0 : fieldOf Tryz.prog 138 0 = some (0, 3) := by kernel_rfl
@[go_sem] theorem fld_138_1 : fieldOf Tryz.prog 138 1 = some (1, 59) := by kernel_rfl
@[go_sem] theorem fld_138_2 : fieldOf Tryz.prog 138 2 = some (2, 61) := by kernel_rfl
@[go_sem] theorem plc_138 : placesOf Tryz.prog 138 = some [(0, 1), (1, 1), (2, 1)] := by kernel_rfl
@[go_sem] theorem tsz_139 : tsz Tryz.prog 139 = some 1 := by kernel_rfl
@[go_sem] theorem agg_139 : isAggT Tryz.prog 139 = some false := by kernel_rfl
@[go_sem] theorem zer_139 : zeroOf Tryz.prog 139 = some (.nilFunc) := by kernel_rfl
@[go_sem] theorem zcs_139 : zcs Tryz.prog 139 = some 1 := by kernel_rfl
@[go_sem] theorem str_139 : isStrT Tryz.prog 139 = false := by kernel_rfl
@[go_sem] theorem ifc_139 : isIfaceT Tryz.prog 139 = some false := by kernel_rfl
@[go_sem] theorem tsz_140 : tsz Tryz.prog 140 = some 1 := by kernel_rfl
@[go_sem] theorem agg_140 : isAggT Tryz.prog 140 = some false := by kernel_rfl
@[go_sem] theorem zer_140 : zeroOf Tryz.prog 140 = some (.nilFunc) := by kernel_rfl
@[go_sem] theorem zcs_140 : zcs Tryz.prog 140 = some 1 := by kernel_rfl
@[go_sem] theorem str_140 : isStrT Tryz.prog 140 = false := by kernel_rfl
@[go_sem] theorem ifc_140 : isIfaceT Tryz.prog 140 = some false := by kernel_rfl
@[go_sem] theorem tsz_141 : tsz Tryz.prog 141 = some 1 := by kernel_rfl
@[go_sem] theorem agg_141 : isAggT Tryz.prog 141 = some false := by kernel_rfl
@[go_sem] theorem zer_141 : zeroOf Tryz.prog 141 = some (.nilFunc) := by kernel_rfl
@[go_sem] theorem zcs_141 : zcs Tryz.prog 141 = some 1 := by kernel_rfl
@[go_sem] theorem str_141 : isStrT Tryz.prog 141 = false := by kernel_rfl
@[go_sem] theorem ifc_141 : isIfaceT Tryz.prog 141 = some false := by kernel_rfl
@[go_sem] theorem tsz_142 : tsz Tryz.prog 142 = some 1 := by kernel_rfl
@[go_sem] theorem agg_142 : isAggT Tryz.prog 142 = some false := by kernel_rfl
@[go_sem] theorem zer_142 : zeroOf Tryz.prog 142 = some (.nilFunc) := by kernel_rfl
@[go_sem] theorem zcs_142 : zcs Tryz.prog 142 = some 1 := by kernel_rfl
@[go_sem] theorem str_142 : isStrT Tryz.prog 142 = false := by kernel_rfl
@[go_sem] theorem ifc_142 : isIfaceT Tryz.prog 142 = some false := by kernel_rfl
@[go_sem] theorem tsz_143 : tsz Tryz.prog 143 = some 1 := by kernel_rfl
@[go_sem] theorem agg_143 : isAggT Tryz.prog 143 = some false := by kernel_rfl
@[go_sem] theorem zer_143 : zeroOf Tryz.prog 143 = some (.nilFunc) := by kernel_rfl
@[go_sem] theorem zcs_143 : zcs Tryz.prog 143 = some 1 := by kernel_rfl
@[go_sem] theorem str_143 : isStrT Tryz.prog 143 = false := by kernel_rfl
@[go_sem] theorem ifc_143 : isIfaceT Tryz.prog 143 = some false := by kernel_rfl
@[go_sem] theorem tsz_144 : tsz Tryz.prog 144 = some 1 := by kernel_rfl
@[go_sem] theorem agg_144 : isAggT Tryz.prog 144 = some false := by kernel_rfl
@[go_sem] theorem zer_144 : zeroOf Tryz.prog 144 = some (.nilFunc) := by kernel_rfl
@[go_sem] theorem zcs_144 : zcs Tryz.prog 144 = some 1 := by kernel_rfl
@[go_sem] theorem str_144 : isStrT Tryz.prog 144 = false := by kernel_rfl
@[go_sem] theorem ifc_144 : isIfaceT Tryz.prog 144 = some false := by kernel_rfl
@[go_sem] theorem tsz_145 : tsz Tryz.prog 145 = some 1 := by kernel_rfl
@[go_sem] theorem agg_145 : isAggT Tryz.prog 145 = some false := by kernel_rfl
@[go_sem] theorem zer_145 : zeroOf Tryz.prog 145 = some (.nilFunc) := by kernel_rfl
@[go_sem] theorem zcs_145 : zcs Tryz.prog 145 = some 1 := by kernel_rfl
@[go_sem] theorem str_145 : isStrT Tryz.prog 145 = false := by kernel_rfl
@[go_sem] theorem ifc_145 : isIfaceT Tryz.prog 145 = some false := by kernel_rfl
@[go_sem] theorem tsz_146 : tsz Tryz.prog 146 = some 1 := by kernel_rfl
@[go_sem] theorem agg_146 : isAggT Tryz.prog 146 = some false := by kernel_rfl
@[go_sem] theorem zer_146 : zeroOf Tryz.prog 146 = some (.map none) := by kernel_rfl
@[go_sem] theorem zcs_146 : zcs Tryz.prog 146 = some 1 := by kernel_rfl
@[go_sem] theorem str_146 : isStrT Tryz.prog 146 = false := by kernel_rfl
@[go_sem] theorem ifc_146 : isIfaceT Tryz.prog 146 = some false := by kernel_rfl
@[go_sem] theorem mpt_146 : mapT Tryz.prog 146 = some 3 := by kernel_rfl
@[go_sem] theorem tsz_147 : tsz Tryz.prog 147 = some 1 := by kernel_rfl
@[go_sem] theorem agg_147 : isAggT Tryz.prog 147 = some false := by kernel_rfl
@[go_sem] theorem zer_147 : zeroOf Tryz.prog 147 = some (.nilFunc) := by kernel_rfl
@[go_sem] theorem zcs_147 : zcs Tryz.prog 147 = some 1 := by kernel_rfl
@[go_sem] theorem str_147 : isStrT Tryz.prog 147 = false := by kernel_rfl
@[go_sem] theorem ifc_147 : isIfaceT Tryz.prog 147 = some false := by kernel_rfl
@[go_sem] theorem tsz_148 : tsz Tryz.prog 148 = some 1 := by kernel_rfl
@[go_sem] theorem agg_148 : isAggT Tryz.prog 148 = some false := by kernel_rfl
@[go_sem] theorem zer_148 : zeroOf Tryz.prog 148 = some (.nilFunc) := by kernel_rfl
@[go_sem] theorem zcs_148 : zcs Tryz.prog 148 = some 1 := by kernel_rfl
@[go_sem] theorem str_148 : isStrT Tryz.prog 148 = false := by kernel_rfl
@[go_sem] theorem ifc_148 : isIfaceT Tryz.prog 148 = some false := by kernel_rfl
@[go_sem] theorem tsz_149 : tsz Tryz.prog 149 = some 1 := by kernel_rfl
@[go_sem] theorem agg_149 : isAggT Tryz.prog 149 = some false := by kernel_rfl
@[go_sem] theorem zer_149 : zeroOf Tryz.prog 149 = some (.nilFunc) := by kernel_rfl
@[go_sem] theorem zcs_149 : zcs Tryz.prog 149 = some 1 := by kernel_rfl
@[go_sem] theorem str_149 : isStrT Tryz.prog 149 = false := by kernel_rfl
@[go_sem] theorem ifc_149 : isIfaceT Tryz.prog 149 = some false := by kernel_rfl
@[go_sem] theorem tsz_150 : tsz Tryz.prog 150 = some 1 := by kernel_rfl
@[go_sem] theorem agg_150 : isAggT Tryz.prog 150 = some false := by kernel_rfl
@[go_sem] theorem zer_150 : zeroOf Tryz.prog 150 = some (.nilFunc) := by kernel_rfl
@[go_sem] theorem zcs_150 : zcs Tryz.prog 150 = some 1 := by kernel_rfl
@[go_sem] theorem str_150 : isStrT Tryz.prog 150 = false := by kernel_rfl
@[go_sem] theorem ifc_150 : isIfaceT Tryz.prog 150 = some false := by kernel_rfl
@[go_sem] theorem tsz_151 : tsz Tryz.prog 151 = some 1 := by kernel_rfl
@[go_sem] theorem agg_151 : isAggT Tryz.prog 151 = some false := by kernel_rfl
@[go_sem] theorem zer_151 : zeroOf Tryz.prog 151 = some (.nilFunc) := by kernel_rfl
@[go_sem] theorem zcs_151 : zcs Tryz.prog 151 = some 1 := by kernel_rfl
@[go_sem] theorem str_151 : isStrT Tryz.prog 151 = false := by kernel_rfl
@[go_sem] theorem ifc_151 : isIfaceT Tryz.prog 151 = some false := by kernel_rfl
@[go_sem] theorem tsz_152 : tsz Tryz.prog 152 = some 1 := by kernel_rfl
@[go_sem] theorem agg_152 : isAggT Tryz.prog 152 = some false := by kernel_rfl
@[go_sem] theorem zer_152 : zeroOf Tryz.prog 152 = some (.nilFunc) := by kernel_rfl
@[go_sem] theorem zcs_152 : zcs Tryz.prog 152 = some 1 := by kernel_rfl
@[go_sem] theorem str_152 : isStrT Tryz.prog 152 = false := by kernel_rfl
@[go_sem] theorem ifc_152 : isIfaceT Tryz.prog 152 = some false := by kernel_rfl
@[go_sem] theorem tsz_153 : tsz Tryz.prog 153 = some 1 := by kernel_rfl
@[go_sem] theorem agg_153 : isAggT Tryz.prog 153 = some false := by kernel_rfl
@[go_sem] theorem zer_153 : zeroOf Tryz.prog 153 = some (.nilFunc) := by kernel_rfl
@[go_sem] theorem zcs_153 : zcs Tryz.prog 153 = some 1 := by kernel_rfl
@[go_sem] theorem str_153 : isStrT Tryz.prog 153 = false := by kernel_rfl
@[go_sem] theorem ifc_153 : isIfaceT Tryz.prog 153 = some false := by kernel_rfl
@[go_sem] theorem tsz_154 : tsz Tryz.prog 154 = some 1 := by kernel_rfl
@[go_sem] theorem agg_154 : isAggT Tryz.prog 154 = some false := by kernel_rfl
@[go_sem] theorem zer_154 : zeroOf Tryz.prog 154 = some (.nilFunc) := by kernel_rfl
@[go_sem] theorem zcs_154 : zcs Tryz.prog 154 = some 1 := by kernel_rfl
@[go_sem] theorem str_154 : isStrT Tryz.prog 154 = false := by kernel_rfl
@[go_sem] theorem ifc_154 : isIfaceT Tryz.prog 154 = some false := by kernel_rfl
@[go_sem] theorem tsz_155 : tsz Tryz.prog 155 = some 1 := by kernel_rfl
@[go_sem] theorem agg_155 : isAggT Tryz.prog 155 = some false := by kernel_rfl
@[go_sem] theorem zer_155 : zeroOf Tryz.prog 155 = some (.nilFunc) := by kernel_rfl
@[go_sem] theorem zcs_155 : zcs Tryz.prog 155 = some 1 := by kernel_rfl
@[go_sem] theorem str_155 : isStrT Tryz.prog 155 = false := by kernel_rfl
@[go_sem] theorem ifc_155 : isIfaceT Tryz.prog 155 = some false := by kernel_rfl
@[go_sem] theorem tsz_156 : tsz Tryz.prog 156 = some 1 := by kernel_rfl
@[go_sem] theorem agg_156 : isAggT Tryz.prog 156 = some false := by kernel_rfl
@[go_sem] theorem zer_156 : zeroOf Tryz.prog 156 = some (.nilFunc) := by kernel_rfl
@[go_sem] theorem zcs_156 : zcs Tryz.prog 156 = some 1 := by kernel_rfl
@[go_sem] theorem str_156 : isStrT Tryz.prog 156 = false := by kernel_rfl
@[go_sem] theorem ifc_156 : isIfaceT Tryz.prog 156 = some false := by kernel_rfl
@[go_sem] theorem tsz_157 : tsz Tryz.prog 157 = some 1 := by kernel_rfl
@[go_sem] theorem agg_157 : isAggT Tryz.prog 157 = some false := by kernel_rfl
@[go_sem] theorem zer_157 : zeroOf Tryz.prog 157 = some (.pointer none) := by kernel_rfl
@[go_sem] theorem zcs_157 : zcs Tryz.prog 157 = some 1 := by kernel_rfl
@[go_sem] theorem str_157 : isStrT Tryz.prog 157 = false := by kernel_rfl
@[go_sem] theorem ifc_157 : isIfaceT Tryz.prog 157 = some false := by kernel_rfl
@[go_sem] theorem tsz_158 : tsz Tryz.prog 158 = some 1 := by kernel_rfl
@[go_sem] theorem agg_158 : isAggT Tryz.prog 158 = some false := by kernel_rfl
@[go_sem] theorem zer_158 : zeroOf Tryz.prog 158 = some (.slice none 0 0) := by kernel_rfl
@[go_sem] theorem zcs_158 : zcs Tryz.prog 158 = some 1 := by kernel_rfl
@[go_sem] theorem str_158 : isStrT Tryz.prog 158 = false := by kernel_rfl
@[go_sem] theorem ifc_158 : isIfaceT Tryz.prog 158 = some false := by kernel_rfl
@[go_sem] theorem und_158 : Tryz.prog.underlying 158 = some (.slice 5) := by kernel_rfl
@[go_sem] theorem elm_158 : elemT Tryz.prog 158 = some 5 := by kernel_rfl
@[go_sem] theorem tsz_159 : tsz Tryz.prog 159 = some 2 := by kernel_rfl
@[go_sem] theorem agg_159 : isAggT Tryz.prog 159 = some true := by kernel_rfl
@[go_sem] theorem zer_159 : zeroOf Tryz.prog 159 = some (.agg #[.pointer none, .slice none 0 0]) := by kernel_rfl
@[go_sem] theorem zcs_159 : zcs Tryz.prog 159 = some 2 := by kernel_rfl
@[go_sem] theorem str_159 : isStrT Tryz.prog 159 = false := by kernel_rfl
@[go_sem] theorem ifc_159 : isIfaceT Tryz.prog 159 = some false := by kernel_rfl
@[go_sem] theorem fld_159_0 : fieldOf Tryz.prog 159 0 = some (0, 157) := by kernel_rfl
@[go_sem] theorem fld_159_1 : fieldOf Tryz.prog 159 1 = some (1, 158) := by kernel_rfl
@[go_sem] theorem plc_159 : placesOf Tryz.prog 159 = some [(0, 1), (1, 1)] := by kernel_rfl
@[go_sem] theorem tsz_160 : tsz Tryz.prog 160 = some 2 := by kernel_rfl
@[go_sem] theorem agg_160 : isAggT Tryz.prog 160 = some true := by kernel_rfl
@[go_sem] theorem zer_160 : zeroOf Tryz.prog 160 = some (.agg #[.pointer none, .slice none 0 0]) := by kernel_rfl
@[go_sem] theorem zcs_160 : zcs Tryz.prog 160 = some 2 := by kernel_rfl
@[go_sem] theorem str_160 : isStrT Tryz.prog 160 = false := by kernel_rfl
@[go_sem] theorem ifc_160 : isIfaceT Tryz.prog 160 = some false := by kernel_rfl
@[go_sem] theorem fld_160_0 : fieldOf Tryz.prog 160 0 = some (0, 157) := by kernel_rfl
@[go_sem] theorem fld_160_1 : fieldOf Tryz.prog 160 1 = some (1, 158) := by kernel_rfl
@[go_sem] theorem plc_160 : placesOf Tryz.prog 160 = some [(0, 1), (1, 1)] := by kernel_rfl
@[go_sem] theorem tsz_161 : tsz Tryz.prog 161 = some 1 := by kernel_rfl
@[go_sem] theorem agg_161 : isAggT Tryz.prog 161 = some false := by kernel_rfl
@[go_sem] theorem zer_161 : zeroOf Tryz.prog 161 = some (.nilFunc) := by kernel_rfl
@[go_sem] theorem zcs_161 : zcs Tryz.prog 161 = some 1 := by kernel_rfl
@[go_sem] theorem str_161 : isStrT Tryz.prog 161 = false := by kernel_rfl
@[go_sem] theorem ifc_161 : isIfaceT Tryz.prog 161 = some false := by kernel_rfl
@[go_sem] theorem tsz_162 : tsz Tryz.prog 162 = some 1 := by kernel_rfl
@[go_sem] theorem agg_162 : isAggT Tryz.prog 162 = some false := by kernel_rfl
@[go_sem] theorem zer_162 : zeroOf Tryz.prog 162 = some (.nilIface) := by kernel_rfl
@[go_sem] theorem zcs_162 : zcs Tryz.prog 162 = some 1 := by kernel_rfl
@[go_sem] theorem str_162 : isStrT Tryz.prog 162 = false := by kernel_rfl
@[go_sem] theorem ifc_162 : isIfaceT Tryz.prog 162 = some true := by kernel_rfl
@[go_sem] theorem tsz_163 : tsz Tryz.prog 163 = some 1 := by kernel_rfl
@[go_sem] theorem agg_163 : isAggT Tryz.prog 163 = some false := by kernel_rfl
@[go_sem] theorem zer_163 : zeroOf Tryz.prog 163 = some (.nilIface) := by kernel_rfl
@[go_sem] theorem zcs_163 : zcs Tryz.prog 163 = some 1 := by kernel_rfl
@[go_sem] theorem str_163 : isStrT Tryz.prog 163 = false := by kernel_rfl
@[go_sem] theorem ifc_163 : isIfaceT Tryz.prog 163 = some true := by kernel_rfl
@[go_sem] theorem tsz_165 : tsz Tryz.prog 165 = some 1 := by kernel_rfl
@[go_sem] theorem agg_165 : isAggT Tryz.prog 165 = some false := by kernel_rfl
@[go_sem] theorem zer_165 : zeroOf Tryz.prog 165 = some (.nilFunc) := by kernel_rfl
@[go_sem] theorem zcs_165 : zcs Tryz.prog 165 = some 1 := by kernel_rfl
@[go_sem] theorem str_165 : isStrT Tryz.prog 165 = false := by kernel_rfl
@[go_sem] theorem ifc_165 : isIfaceT Tryz.prog 165 = some false := by kernel_rfl
@[go_sem] theorem tsz_166 : tsz Tryz.prog 166 = some 1 := by kernel_rfl
@[go_sem] theorem agg_166 : isAggT Tryz.prog 166 = some false := by kernel_rfl
@[go_sem] theorem zer_166 : zeroOf Tryz.prog 166 = some (.nilFunc) := by kernel_rfl
@[go_sem] theorem zcs_166 : zcs Tryz.prog 166 = some 1 := by kernel_rfl
@[go_sem] theorem str_166 : isStrT Tryz.prog 166 = false := by kernel_rfl
@[go_sem] theorem ifc_166 : isIfaceT Tryz.prog 166 = some false := by kernel_rfl
@[go_sem] theorem tsz_167 : tsz Tryz.prog 167 = some 1 := by kernel_rfl
@[go_sem] theorem agg_167 : isAggT Tryz.prog 167 = some false := by kernel_rfl
@[go_sem] theorem zer_167 : zeroOf Tryz.prog 167 = some (.nilFunc) := by kernel_rfl
@[go_sem] theorem zcs_167 : zcs Tryz.prog 167 = some 1 := by kernel_rfl
@[go_sem] theorem str_167 : isStrT Tryz.prog 167 = false := by kernel_rfl
@[go_sem] theorem ifc_167 : isIfaceT Tryz.prog 167 = some false := by kernel_rfl
@[go_sem] theorem tsz_168 : tsz Tryz.prog 168 = some 1 := by kernel_rfl
@[go_sem] theorem agg_168 : isAggT Tryz.prog 168 = some false := by kernel_rfl
@[go_sem] theorem zer_168 : zeroOf Tryz.prog 168 = some (.nilFunc) := by kernel_rfl
@[go_sem] theorem zcs_168 : zcs Tryz.prog 168 = some 1 := by kernel_rfl
@[go_sem] theorem str_168 : isStrT Tryz.prog 168 = false := by kernel_rfl
@[go_sem] theorem ifc_168 : isIfaceT Tryz.prog 168 = some false := by kernel_rfl
@[go_sem] theorem tsz_169 : tsz Tryz.prog 169 = some 1 := by kernel_rfl
@[go_sem] theorem agg_169 : isAggT Tryz.prog 169 = some false := by kernel_rfl
@[go_sem] theorem zer_169 : zeroOf Tryz.prog 169 = some (.nilFunc) := by kernel_rfl
@[go_sem] theorem zcs_169 : zcs Tryz.prog 169 = some 1 := by kernel_rfl
@[go_sem] theorem str_169 : isStrT Tryz.prog 169 = false := by kernel_rfl
@[go_sem] theorem ifc_169 : isIfaceT Tryz.prog 169 = some false := by kernel_rfl
@[go_sem] theorem tsz_170 : tsz Tryz.prog 170 = some 1 := by kernel_rfl
@[go_sem] theorem agg_170 : isAggT Tryz.prog 170 = some false := by kernel_rfl
@[go_sem] theorem zer_170 : zeroOf Tryz.prog 170 = some (.nilFunc) := by kernel_rfl
@[go_sem] theorem zcs_170 : zcs Tryz.prog 170 = some 1 := by kernel_rfl
@[go_sem] theorem str_170 : isStrT Tryz.prog 170 = false := by kernel_rfl
@[go_sem] theorem ifc_170 : isIfaceT Tryz.prog 170 = some false := by kernel_rfl
@[go_sem] theorem tsz_171 : tsz Tryz.prog 171 = some 4 := by kernel_rfl
@[go_sem] theorem agg_171 : isAggT Tryz.prog 171 = some true := by kernel_rfl
@[go_sem] theorem zer_171 : zeroOf Tryz.prog 171 = some (.agg #[.int .i64 0, .int .i64 0, .float .f64 0, .string (⟨#[]⟩ : ByteArray)]) := by kernel_rfl
@[go_sem] theorem zcs_171 : zcs Tryz.prog 171 = some 4 := by kernel_rfl
@[go_sem] theorem str_171 : isStrT Tryz.prog 171 = false := by kernel_rfl
@[go_sem] theorem ifc_171 : isIfaceT Tryz.prog 171 = some false := by kernel_rfl
@[go_sem] theorem fld_171_0 : fieldOf Tryz.prog 171 0 = some (0, 24) := by kernel_rfl
@[go_sem] theorem plc_171 : placesOf Tryz.prog 171 = some [(0, 4)] := by kernel_rfl
@[go_sem] theorem tsz_172 : tsz Tryz.prog 172 = some 4 := by kernel_rfl
@[go_sem] theorem agg_172 : isAggT Tryz.prog 172 = some true := by kernel_rfl
@[go_sem] theorem zer_172 : zeroOf Tryz.prog 172 = some (.agg #[.int .i64 0, .int .i64 0, .float .f64 0, .string (⟨#[]⟩ : ByteArray)]) := by kernel_rfl
@[go_sem] theorem zcs_172 : zcs Tryz.prog 172 = some 4 := by kernel_rfl
@[go_sem] theorem str_172 : isStrT Tryz.prog 172 = false := by kernel_rfl
@[go_sem] theorem ifc_172 : isIfaceT Tryz.prog 172 = some false := by kernel_rfl
@[go_sem] theorem fld_172_0 : fieldOf Tryz.prog 172 0 = some (0, 24) := by kernel_rfl
@[go_sem] theorem plc_172 : placesOf Tryz.prog 172 = some [(0, 4)] := by kernel_rfl
@[go_sem] theorem tsz_173 : tsz Tryz.prog 173 = some 1 := by kernel_rfl
@[go_sem] theorem agg_173 : isAggT Tryz.prog 173 = some false := by kernel_rfl
@[go_sem] theorem zer_173 : zeroOf Tryz.prog 173 = some (.nilFunc) := by kernel_rfl
@[go_sem] theorem zcs_173 : zcs Tryz.prog 173 = some 1 := by kernel_rfl
@[go_sem] theorem str_173 : isStrT Tryz.prog 173 = false := by kernel_rfl
@[go_sem] theorem ifc_173 : isIfaceT Tryz.prog 173 = some false := by kernel_rfl
@[go_sem] theorem tsz_174 : tsz Tryz.prog 174 = some 1 := by kernel_rfl
@[go_sem] theorem agg_174 : isAggT Tryz.prog 174 = some false := by kernel_rfl
@[go_sem] theorem zer_174 : zeroOf Tryz.prog 174 = some (.nilFunc) := by kernel_rfl
@[go_sem] theorem zcs_174 : zcs Tryz.prog 174 = some 1 := by kernel_rfl
@[go_sem] theorem str_174 : isStrT Tryz.prog 174 = false := by kernel_rfl
@[go_sem] theorem ifc_174 : isIfaceT Tryz.prog 174 = some false := by kernel_rfl
@[go_sem] theorem tsz_175 : tsz Tryz.prog 175 = some 1 := by kernel_rfl
@[go_sem] theorem agg_175 : isAggT Tryz.prog 175 = some false := by kernel_rfl
@[go_sem] theorem zer_175 : zeroOf Tryz.prog 175 = some (.nilFunc) := by kernel_rfl
@[go_sem] theorem zcs_175 : zcs Tryz.prog 175 = some 1 := by kernel_rfl
@[go_sem] theorem str_175 : isStrT Tryz.prog 175 = false := by kernel_rfl
@[go_sem] theorem ifc_175 : isIfaceT Tryz.prog 175 = some false := by kernel_rfl
@[go_sem] theorem tsz_176 : tsz Tryz.prog 176 = some 1 := by kernel_rfl
@[go_sem] theorem agg_176 : isAggT Tryz.prog 176 = some false := by kernel_rfl
@[go_sem] theorem zer_176 : zeroOf Tryz.prog 176 = some (.int .i64 0) := by kernel_rfl
@[go_sem] theorem zcs_176 : zcs Tryz.prog 176 = some 1 := by kernel_rfl
@[go_sem] theorem str_176 : isStrT Tryz.prog 176 = false := by kernel_rfl
@[go_sem] theorem ifc_176 : isIfaceT Tryz.prog 176 = some false := by kernel_rfl
@[go_sem] theorem int_176 : intT Tryz.prog 176 = some .i64 := by kernel_rfl
@[go_sem] theorem und_176 : Tryz.prog.underlying 176 = some (.int .i64) := by kernel_rfl
@[go_sem] theorem tsz_178 : tsz Tryz.prog 178 = some 1 := by kernel_rfl
@[go_sem] theorem agg_178 : isAggT Tryz.prog 178 = some false := by kernel_rfl
@[go_sem] theorem zer_178 : zeroOf Tryz.prog 178 = some (.nilFunc) := by kernel_rfl
@[go_sem] theorem zcs_178 : zcs Tryz.prog 178 = some 1 := by kernel_rfl
@[go_sem] theorem str_178 : isStrT Tryz.prog 178 = false := by kernel_rfl
@[go_sem] theorem ifc_178 : isIfaceT Tryz.prog 178 = some false := by kernel_rfl
@[go_sem] theorem tsz_179 : tsz Tryz.prog 179 = some 1 := by kernel_rfl
@[go_sem] theorem agg_179 : isAggT Tryz.prog 179 = some false := by kernel_rfl
@[go_sem] theorem zer_179 : zeroOf Tryz.prog 179 = some (.nilFunc) := by kernel_rfl
@[go_sem] theorem zcs_179 : zcs Tryz.prog 179 = some 1 := by kernel_rfl
@[go_sem] theorem str_179 : isStrT Tryz.prog 179 = false := by kernel_rfl
@[go_sem] theorem ifc_179 : isIfaceT Tryz.prog 179 = some false := by kernel_rfl
@[go_sem] theorem tsz_180 : tsz Tryz.prog 180 = some 1 := by kernel_rfl
@[go_sem] theorem agg_180 : isAggT Tryz.prog 180 = some false := by kernel_rfl
@[go_sem] theorem zer_180 : zeroOf Tryz.prog 180 = some (.nilFunc) := by kernel_rfl
@[go_sem] theorem zcs_180 : zcs Tryz.prog 180 = some 1 := by kernel_rfl
@[go_sem] theorem str_180 : isStrT Tryz.prog 180 = false := by kernel_rfl
@[go_sem] theorem ifc_180 : isIfaceT Tryz.prog 180 = some false := by kernel_rfl
@[go_sem] theorem tsz_181 : tsz Tryz.prog 181 = some 1 := by kernel_rfl
@[go_sem] theorem agg_181 : isAggT Tryz.prog 181 = some false := by kernel_rfl
@[go_sem] theorem zer_181 : zeroOf Tryz.prog 181 = some (.nilFunc) := by kernel_rfl
@[go_sem] theorem zcs_181 : zcs Tryz.prog 181 = some 1 := by kernel_rfl
@[go_sem] theorem str_181 : isStrT Tryz.prog 181 = false := by kernel_rfl
@[go_sem] theorem ifc_181 : isIfaceT Tryz.prog 181 = some false := by kernel_rfl
@[go_sem] theorem tsz_183 : tsz Tryz.prog 183 = some 1 := by kernel_rfl
@[go_sem] theorem agg_183 : isAggT Tryz.prog 183 = some false := by kernel_rfl
@[go_sem] theorem zer_183 : zeroOf Tryz.prog 183 = some (.nilFunc) := by kernel_rfl
@[go_sem] theorem zcs_183 : zcs Tryz.prog 183 = some 1 := by kernel_rfl
@[go_sem] theorem str_183 : isStrT Tryz.prog 183 = false := by kernel_rfl
@[go_sem] theorem ifc_183 : isIfaceT Tryz.prog 183 = some false := by kernel_rfl
@[go_sem] theorem tsz_184 : tsz Tryz.prog 184 = some 1 := by kernel_rfl
@[go_sem] theorem agg_184 : isAggT Tryz.prog 184 = some false := by kernel_rfl
@[go_sem] theorem zer_184 : zeroOf Tryz.prog 184 = some (.nilFunc) := by kernel_rfl
@[go_sem] theorem zcs_184 : zcs Tryz.prog 184 = some 1 := by kernel_rfl
@[go_sem] theorem str_184 : isStrT Tryz.prog 184 = false := by kernel_rfl
@[go_sem] theorem ifc_184 : isIfaceT Tryz.prog 184 = some false := by kernel_rfl
@[go_sem] theorem tsz_185 : tsz Tryz.prog 185 = some 1 := by kernel_rfl
@[go_sem] theorem agg_185 : isAggT Tryz.prog 185 = some false := by kernel_rfl
@[go_sem] theorem zer_185 : zeroOf Tryz.prog 185 = some (.int .u32 0) := by kernel_rfl
@[go_sem] theorem zcs_185 : zcs Tryz.prog 185 = some 1 := by kernel_rfl
@[go_sem] theorem str_185 : isStrT Tryz.prog 185 = false := by kernel_rfl
@[go_sem] theorem ifc_185 : isIfaceT Tryz.prog 185 = some false := by kernel_rfl
@[go_sem] theorem int_185 : intT Tryz.prog 185 = some .u32 := by kernel_rfl
@[go_sem] theorem und_185 : Tryz.prog.underlying 185 = some (.int .u32) := by kernel_rfl
@[go_sem] theorem tsz_186 : tsz Tryz.prog 186 = some 1 := by kernel_rfl
@[go_sem] theorem agg_186 : isAggT Tryz.prog 186 = some false := by kernel_rfl
@[go_sem] theorem zer_186 : zeroOf Tryz.prog 186 = some (.nilFunc) := by kernel_rfl
@[go_sem] theorem zcs_186 : zcs Tryz.prog 186 = some 1 := by kernel_rfl
@[go_sem] theorem str_186 : isStrT Tryz.prog 186 = false := by kernel_rfl
@[go_sem] theorem ifc_186 : isIfaceT Tryz.prog 186 = some false := by kernel_rfl
@[go_sem] theorem tsz_187 : tsz Tryz.prog 187 = some 1 := by kernel_rfl
@[go_sem] theorem agg_187 : isAggT Tryz.prog 187 = some false := by kernel_rfl
@[go_sem] theorem zer_187 : zeroOf Tryz.prog 187 = some (.nilFunc) := by kernel_rfl
@[go_sem] theorem zcs_187 : zcs Tryz.prog 187 = some 1 := by kernel_rfl
@[go_sem] theorem str_187 : isStrT Tryz.prog 187 = false := by kernel_rfl
@[go_sem] theorem ifc_187 : isIfaceT Tryz.prog 187 = some false := by kernel_rfl
@[go_sem] theorem tsz_188 : tsz Tryz.prog 188 = some 1 := by kernel_rfl
@[go_sem] theorem agg_188 : isAggT Tryz.prog 188 = some false := by kernel_rfl
@[go_sem] theorem zer_188 : zeroOf Tryz.prog 188 = some (.nilFunc) := by kernel_rfl
@[go_sem] theorem zcs_188 : zcs Tryz.prog 188 = some 1 := by kernel_rfl
@[go_sem] theorem str_188 : isStrT Tryz.prog 188 = false := by kernel_rfl
@[go_sem] theorem ifc_188 : isIfaceT Tryz.prog 188 = some false := by kernel_rfl
@[go_sem] theorem tsz_189 : tsz Tryz.prog 189 = some 1 := by kernel_rfl
@[go_sem] theorem agg_189 : isAggT Tryz.prog 189 = some false := by kernel_rfl
@[go_sem] theorem zer_189 : zeroOf Tryz.prog 189 = some (.nilFunc) := by kernel_rfl
@[go_sem] theorem zcs_189 : zcs Tryz.prog 189 = some 1 := by kernel_rfl
@[go_sem] theorem str_189 : isStrT Tryz.prog 189 = false := by kernel_rfl
@[go_sem] theorem ifc_189 : isIfaceT Tryz.prog 189 = some false := by kernel_rfl
@[go_sem] theorem tsz_190 : tsz Tryz.prog 190 = some 1 := by kernel_rfl
@[go_sem] theorem agg_190 : isAggT Tryz.prog 190 = some false := by kernel_rfl
@[go_sem] theorem zer_190 : zeroOf Tryz.prog 190 = some (.pointer none) := by kernel_rfl
@[go_sem] theorem zcs_190 : zcs Tryz.prog 190 = some 1 := by kernel_rfl
@[go_sem] theorem str_190 : isStrT Tryz.prog 190 = false := by kernel_rfl
@[go_sem] theorem ifc_190 : isIfaceT Tryz.prog 190 = some false := by kernel_rfl
@[go_sem] theorem tsz_191 : tsz Tryz.prog 191 = some 1 := by kernel_rfl
@[go_sem] theorem agg_191 : isAggT Tryz.prog 191 = some false := by kernel_rfl
@[go_sem] theorem zer_191 : zeroOf Tryz.prog 191 = some (.nilFunc) := by kernel_rfl
@[go_sem] theorem zcs_191 : zcs Tryz.prog 191 = some 1 := by kernel_rfl
@[go_sem] theorem str_191 : isStrT Tryz.prog 191 = false := by kernel_rfl
@[go_sem] theorem ifc_191 : isIfaceT Tryz.prog 191 = some false := by kernel_rfl
@[go_sem] theorem tsz_192 : tsz Tryz.prog 192 = some 1 := by kernel_rfl
@[go_sem] theorem agg_192 : isAggT Tryz.prog 192 = some false := by kernel_rfl
@[go_sem] theorem zer_192 : zeroOf Tryz.prog 192 = some (.nilFunc) := by kernel_rfl
@[go_sem] theorem zcs_192 : zcs Tryz.prog 192 = some 1 := by kernel_rfl
@[go_sem] theorem str_192 : isStrT Tryz.prog 192 = false := by kernel_rfl
@[go_sem] theorem ifc_192 : isIfaceT Tryz.prog 192 = some false := by kernel_rfl
@[go_sem] theorem tsz_193 : tsz Tryz.prog 193 = some 1 := by kernel_rfl
@[go_sem] theorem agg_193 : isAggT Tryz.prog 193 = some false := by kernel_rfl
@[go_sem] theorem zer_193 : zeroOf Tryz.prog 193 = some (.nilFunc) := by kernel_rfl
@[go_sem] theorem zcs_193 : zcs Tryz.prog 193 = some 1 := by kernel_rfl
@[go_sem] theorem str_193 : isStrT Tryz.prog 193 = false := by kernel_rfl
@[go_sem] theorem ifc_193 : isIfaceT Tryz.prog 193 = some false := by kernel_rfl
@[go_sem] theorem tsz_194 : tsz Tryz.prog 194 = some 1 := by kernel_rfl
@[go_sem] theorem agg_194 : isAggT Tryz.prog 194 = some false := by kernel_rfl
@[go_sem] theorem zer_194 : zeroOf Tryz.prog 194 = some (.nilFunc) := by kernel_rfl
@[go_sem] theorem zcs_194 : zcs Tryz.prog 194 = some 1 := by kernel_rfl
@[go_sem] theorem str_194 : isStrT Tryz.prog 194 = false := by kernel_rfl
@[go_sem] theorem ifc_194 : isIfaceT Tryz.prog 194 = some false := by kernel_rfl
@[go_sem] theorem tsz_195 : tsz Tryz.prog 195 = some 1 := by kernel_rfl
@[go_sem] theorem agg_195 : isAggT Tryz.prog 195 = some false := by kernel_rfl
@[go_sem] theorem zer_195 : zeroOf Tryz.prog 195 = some (.nilFunc) := by kernel_rfl
@[go_sem] theorem zcs_195 : zcs Tryz.prog 195 = some 1 := by kernel_rfl
@[go_sem] theorem str_195 : isStrT Tryz.prog 195 = false := by kernel_rfl
@[go_sem] theorem ifc_195 : isIfaceT Tryz.prog 195 = some false := by kernel_rfl
@[go_sem] theorem tsz_196 : tsz Tryz.prog 196 = some 1 := by kernel_rfl
@[go_sem] theorem agg_196 : isAggT Tryz.prog 196 = some false := by kernel_rfl
@[go_sem] theorem zer_196 : zeroOf Tryz.prog 196 = some (.nilFunc) := by kernel_rfl
@[go_sem] theorem zcs_196 : zcs Tryz.prog 196 = some 1 := by kernel_rfl
@[go_sem] theorem str_196 : isStrT Tryz.prog 196 = false := by kernel_rfl
@[go_sem] theorem ifc_196 : isIfaceT Tryz.prog 196 = some false := by kernel_rfl
@[go_sem] theorem tsz_197 : tsz Tryz.prog 197 = some 1 := by kernel_rfl
@[go_sem] theorem agg_197 : isAggT Tryz.prog 197 = some false := by kernel_rfl
@[go_sem] theorem zer_197 : zeroOf Tryz.prog 197 = some (.nilFunc) := by kernel_rfl
@[go_sem] theorem zcs_197 : zcs Tryz.prog 197 = some 1 := by kernel_rfl
@[go_sem] theorem str_197 : isStrT Tryz.prog 197 = false := by kernel_rfl
@[go_sem] theorem ifc_197 : isIfaceT Tryz.prog 197 = some false := by kernel_rfl
@[go_sem] theorem tsz_198 : tsz Tryz.prog 198 = some 1 := by kernel_rfl
@[go_sem] theorem agg_198 : isAggT Tryz.prog 198 = some false := by kernel_rfl
@[go_sem] theorem zer_198 : zeroOf Tryz.prog 198 = some (.nilFunc) := by kernel_rfl
@[go_sem] theorem zcs_198 : zcs Tryz.prog 198 = some 1 := by kernel_rfl
@[go_sem] theorem str_198 : isStrT Tryz.prog 198 = false := by kernel_rfl
@[go_sem] theorem ifc_198 : isIfaceT Tryz.prog 198 = some false := by kernel_rfl
@[go_sem] theorem tsz_199 : tsz Tryz.prog 199 = some 1 := by kernel_rfl
@[go_sem] theorem agg_199 : isAggT Tryz.prog 199 = some false := by kernel_rfl
@[go_sem] theorem zer_199 : zeroOf Tryz.prog 199 = some (.nilFunc) := by kernel_rfl
@[go_sem] theorem zcs_199 : zcs Tryz.prog 199 = some 1 := by kernel_rfl
@[go_sem] theorem str_199 : isStrT Tryz.prog 199 = false := by kernel_rfl
@[go_sem] theorem ifc_199 : isIfaceT Tryz.prog 199 = some false := by kernel_rfl
@[go_sem] theorem tsz_200 : tsz Tryz.prog 200 = some 1 := by kernel_rfl
@[go_sem] theorem agg_200 : isAggT Tryz.prog 200 = some false := by kernel_rfl
@[go_sem] theorem zer_200 : zeroOf Tryz.prog 200 = some (.nilFunc) := by kernel_rfl
@[go_sem] theorem zcs_200 : zcs Tryz.prog 200 = some 1 := by kernel_rfl
@[go_sem] theorem str_200 : isStrT Tryz.prog 200 = false := by kernel_rfl
@[go_sem] theorem ifc_200 : isIfaceT Tryz.prog 200 = some false := by kernel_rfl
@[go_sem] theorem tsz_201 : tsz Tryz.prog 201 = some 1 := by kernel_rfl
@[go_sem] theorem agg_201 : isAggT Tryz.prog 201 = some false := by kernel_rfl
@[go_sem] theorem zer_201 : zeroOf Tryz.prog 201 = some (.nilFunc) := by kernel_rfl
@[go_sem] theorem zcs_201 : zcs Tryz.prog 201 = some 1 := by kernel_rfl
@[go_sem] theorem str_201 : isStrT Tryz.prog 201 = false := by kernel_rfl
@[go_sem] theorem ifc_201 : isIfaceT Tryz.prog 201 = some false := by kernel_rfl
@[go_sem] theorem tsz_202 : tsz Tryz.prog 202 = some 1 := by kernel_rfl
@[go_sem] theorem agg_202 : isAggT Tryz.prog 202 = some false := by kernel_rfl
@[go_sem] theorem zer_202 : zeroOf Tryz.prog 202 = some (.int .u64 0) := by kernel_rfl
@[go_sem] theorem zcs_202 : zcs Tryz.prog 202 = some 1 := by kernel_rfl
@[go_sem] theorem str_202 : isStrT Tryz.prog 202 = false := by kernel_rfl
@[go_sem] theorem ifc_202 : isIfaceT Tryz.prog 202 = some false := by kernel_rfl
@[go_sem] theorem int_202 : intT Tryz.prog 202 = some .u64 := by kernel_rfl
@[go_sem] theorem und_202 : Tryz.prog.underlying 202 = some (.int .u64) := by kernel_rfl
@[go_sem] theorem tsz_203 : tsz Tryz.prog 203 = some 1 := by kernel_rfl
@[go_sem] theorem agg_203 : isAggT Tryz.prog 203 = some false := by kernel_rfl
@[go_sem] theorem zer_203 : zeroOf Tryz.prog 203 = some (.nilFunc) := by kernel_rfl
@[go_sem] theorem zcs_203 : zcs Tryz.prog 203 = some 1 := by kernel_rfl
@[go_sem] theorem str_203 : isStrT Tryz.prog 203 = false := by kernel_rfl
@[go_sem] theorem ifc_203 : isIfaceT Tryz.prog 203 = some false := by kernel_rfl
@[go_sem] theorem tsz_204 : tsz Tryz.prog 204 = some 1 := by kernel_rfl
@[go_sem] theorem agg_204 : isAggT Tryz.prog 204 = some false := by kernel_rfl
@[go_sem] theorem zer_204 : zeroOf Tryz.prog 204 = some (.nilFunc) := by kernel_rfl
@[go_sem] theorem zcs_204 : zcs Tryz.prog 204 = some 1 := by kernel_rfl
@[go_sem] theorem str_204 : isStrT Tryz.prog 204 = false := by kernel_rfl
@[go_sem] theorem ifc_204 : isIfaceT Tryz.prog 204 = some false := by kernel_rfl
@[go_sem] theorem tsz_205 : tsz Tryz.prog 205 = some 1 := by kernel_rfl
@[go_sem] theorem agg_205 : isAggT Tryz.prog 205 = some false := by kernel_rfl
@[go_sem] theorem zer_205 : zeroOf Tryz.prog 205 = some (.nilFunc) := by kernel_rfl
@[go_sem] theorem zcs_205 : zcs Tryz.prog 205 = some 1 := by kernel_rfl
@[go_sem] theorem str_205 : isStrT Tryz.prog 205 = false := by kernel_rfl
@[go_sem] theorem ifc_205 : isIfaceT Tryz.prog 205 = some false := by kernel_rfl
@[go_sem] theorem tsz_206 : tsz Tryz.prog 206 = some 1 := by kernel_rfl
@[go_sem] theorem agg_206 : isAggT Tryz.prog 206 = some false := by kernel_rfl
@[go_sem] theorem zer_206 : zeroOf Tryz.prog 206 = some (.pointer none) := by kernel_rfl
@[go_sem] theorem zcs_206 : zcs Tryz.prog 206 = some 1 := by kernel_rfl
@[go_sem] theorem str_206 : isStrT Tryz.prog 206 = false := by kernel_rfl
@[go_sem] theorem ifc_206 : isIfaceT Tryz.prog 206 = some false := by kernel_rfl
@[go_sem] theorem tsz_207 : tsz Tryz.prog 207 = some 1 := by kernel_rfl
@[go_sem] theorem agg_207 : isAggT Tryz.prog 207 = some false := by kernel_rfl
@[go_sem] theorem zer_207 : zeroOf Tryz.prog 207 = some (.nilFunc) := by kernel_rfl
@[go_sem] theorem zcs_207 : zcs Tryz.prog 207 = some 1 := by kernel_rfl
@[go_sem] theorem str_207 : isStrT Tryz.prog 207 = false := by kernel_rfl
@[go_sem] theorem ifc_207 : isIfaceT Tryz.prog 207 = some false := by kernel_rfl
@[go_sem] theorem tsz_208 : tsz Tryz.prog 208 = some 1 := by kernel_rfl
@[go_sem] theorem agg_208 : isAggT Tryz.prog 208 = some false := by kernel_rfl
@[go_sem] theorem zer_208 : zeroOf Tryz.prog 208 = some (.nilFunc) := by kernel_rfl
@[go_sem] theorem zcs_208 : zcs Tryz.prog 208 = some 1 := by kernel_rfl
@[go_sem] theorem str_208 : isStrT Tryz.prog 208 = false := by kernel_rfl
@[go_sem] theorem ifc_208 : isIfaceT Tryz.prog 208 = some false := by kernel_rfl
@[go_sem] theorem tsz_209 : tsz Tryz.prog 209 = some 1 := by kernel_rfl
@[go_sem] theorem agg_209 : isAggT Tryz.prog 209 = some false := by kernel_rfl
@[go_sem] theorem zer_209 : zeroOf Tryz.prog 209 = some (.nilFunc) := by kernel_rfl
@[go_sem] theorem zcs_209 : zcs Tryz.prog 209 = some 1 := by kernel_rfl
@[go_sem] theorem str_209 : isStrT Tryz.prog 209 = false := by kernel_rfl
@[go_sem] theorem ifc_209 : isIfaceT Tryz.prog 209 = some false := by kernel_rfl
@[go_sem] theorem tsz_210 : tsz Tryz.prog 210 = some 1 := by kernel_rfl
@[go_sem] theorem agg_210 : isAggT Tryz.prog 210 = some false := by kernel_rfl
@[go_sem] theorem zer_210 : zeroOf Tryz.prog 210 = some (.nilFunc) := by kernel_rfl
@[go_sem] theorem zcs_210 : zcs Tryz.prog 210 = some 1 := by kernel_rfl
@[go_sem] theorem str_210 : isStrT Tryz.prog 210 = false := by kernel_rfl
@[go_sem] theorem ifc_210 : isIfaceT Tryz.prog 210 = some false := by kernel_rfl
@[go_sem] theorem tsz_212 : tsz Tryz.prog 212 = some 1 := by kernel_rfl
@[go_sem] theorem agg_212 : isAggT Tryz.prog 212 = some false := by kernel_rfl
@[go_sem] theorem zer_212 : zeroOf Tryz.prog 212 = some (.nilFunc) := by kernel_rfl
@[go_sem] theorem zcs_212 : zcs Tryz.prog 212 = some 1 := by kernel_rfl
@[go_sem] theorem str_212 : isStrT Tryz.prog 212 = false := by kernel_rfl
@[go_sem] theorem ifc_212 : isIfaceT Tryz.prog 212 = some false := by kernel_rfl
@[go_sem] theorem tsz_213 : tsz Tryz.prog 213 = some 1 := by kernel_rfl
@[go_sem] theorem agg_213 : isAggT Tryz.prog 213 = some false := by kernel_rfl
@[go_sem] theorem zer_213 : zeroOf Tryz.prog 213 = some (.nilFunc) := by kernel_rfl
@[go_sem] theorem zcs_213 : zcs Tryz.prog 213 = some 1 := by kernel_rfl
@[go_sem] theorem str_213 : isStrT Tryz.prog 213 = false := by kernel_rfl
@[go_sem] theorem ifc_213 : isIfaceT Tryz.prog 213 = some false := by kernel_rfl
@[go_sem] theorem tsz_214 : tsz Tryz.prog 214 = some 24 := by kernel_rfl
@[go_sem] theorem agg_214 : isAggT Tryz.prog 214 = some true := by kernel_rfl
@[go_sem] theorem zer_214 : zeroOf Tryz.prog 214 = some (.agg #[.int .u8 0, .int .u8 0, .int .u8 0, .int .u8 0, .int .u8 0, .int .u8 0, .int .u8 0, .int .u8 0, .int .u8 0, .int .u8 0, .int .u8 0, .int .u8 0, .int .u8 0, .int .u8 0, .int .u8 0, .int .u8 0, .int .u8 0, .int .u8 0, .int .u8 0, .int .u8 0, .int .u8 0, .int .u8 0, .int .u8 0, .int .u8 0]) := by kernel_rfl
@[go_sem] theorem zcs_214 : zcs Tryz.prog 214 = some 24 := by kernel_rfl
@[go_sem] theorem str_214 : isStrT Tryz.prog 214 = false := by kernel_rfl
@[go_sem] theorem ifc_214 : isIfaceT Tryz.prog 214 = some false := by kernel_rfl
@[go_sem] theorem elm_214 : elemT Tryz.prog 214 = none := by kernel_rfl
@[go_sem] theorem plc_214 : placesOf Tryz.prog 214 = none := by kernel_rfl
@[go_sem] theorem arr_214 : arrT Tryz.prog 214 = some (24, 5) := by kernel_rfl
@[go_sem] theorem tsz_215 : tsz Tryz.prog 215 = some 1 := by kernel_rfl
@[go_sem] theorem agg_215 : isAggT Tryz.prog 215 = some false := by kernel_rfl
@[go_sem] theorem zer_215 : zeroOf Tryz.prog 215 = some (.nilFunc) := by kernel_rfl
@[go_sem] theorem zcs_215 : zcs Tryz.prog 215 = some 1 := by kernel_rfl
@[go_sem] theorem str_215 : isStrT Tryz.prog 215 = false := by kernel_rfl
@[go_sem] theorem ifc_215 : isIfaceT Tryz.prog 215 = some false := by kernel_rfl
@[go_sem] theorem tsz_217 : tsz Tryz.prog 217 = some 1 := by kernel_rfl
@[go_sem] theorem agg_217 : isAggT Tryz.prog 217 = some false := by kernel_rfl
@[go_sem] theorem zer_217 : zeroOf Tryz.prog 217 = some (.nilFunc) := by kernel_rfl
@[go_sem] theorem zcs_217 : zcs Tryz.prog 217 = some 1 := by kernel_rfl
@[go_sem] theorem str_217 : isStrT Tryz.prog 217 = false := by kernel_rfl
@[go_sem] theorem ifc_217 : isIfaceT Tryz.prog 217 = some false := by kernel_rfl
@[go_sem] theorem tsz_218 : tsz Tryz.prog 218 = some 1 := by kernel_rfl
@[go_sem] theorem agg_218 : isAggT Tryz.prog 218 = some false := by kernel_rfl
@[go_sem] theorem zer_218 : zeroOf Tryz.prog 218 = some (.nilFunc) := by kernel_rfl
@[go_sem] theorem zcs_218 : zcs Tryz.prog 218 = some 1 := by kernel_rfl
@[go_sem] theorem str_218 : isStrT Tryz.prog 218 = false := by kernel_rfl
@[go_sem] theorem ifc_218 : isIfaceT Tryz.prog 218 = some false := by kernel_rfl
@[go_sem] theorem tsz_219 : tsz Tryz.prog 219 = some 1 := by kernel_rfl
@[go_sem] theorem agg_219 : isAggT Tryz.prog 219 = some false := by kernel_rfl
@[go_sem] theorem zer_219 : zeroOf Tryz.prog 219 = some (.nilFunc) := by kernel_rfl
@[go_sem] theorem zcs_219 : zcs Tryz.prog 219 = some 1 := by kernel_rfl
@[go_sem] theorem str_219 : isStrT Tryz.prog 219 = false := by kernel_rfl
@[go_sem] theorem ifc_219 : isIfaceT Tryz.prog 219 = some false := by kernel_rfl
@[go_sem] theorem tsz_220 : tsz Tryz.prog 220 = some 1 := by kernel_rfl
@[go_sem] theorem agg_220 : isAggT Tryz.prog 220 = some false := by kernel_rfl
@[go_sem] theorem zer_220 : zeroOf Tryz.prog 220 = some (.nilFunc) := by kernel_rfl
@[go_sem] theorem zcs_220 : zcs Tryz.prog 220 = some 1 := by kernel_rfl
@[go_sem] theorem str_220 : isStrT Tryz.prog 220 = false := by kernel_rfl
@[go_sem] theorem ifc_220 : isIfaceT Tryz.prog 220 = some false := by kernel_rfl
@[go_sem] theorem tsz_221 : tsz Tryz.prog 221 = some 1 := by kernel_rfl
@[go_sem] theorem agg_221 : isAggT Tryz.prog 221 = some false := by kernel_rfl
@[go_sem] theorem zer_221 : zeroOf Tryz.prog 221 = some (.pointer none) := by kernel_rfl
@[go_sem] theorem zcs_221 : zcs Tryz.prog 221 = some 1 := by kernel_rfl
@[go_sem] theorem str_221 : isStrT Tryz.prog 221 = false := by kernel_rfl
@[go_sem] theorem ifc_221 : isIfaceT Tryz.prog 221 = some false := by kernel_rfl
@[go_sem] theorem tsz_223 : tsz Tryz.prog 223 = some 1 := by kernel_rfl
@[go_sem] theorem agg_223 : isAggT Tryz.prog 223 = some false := by kernel_rfl
@[go_sem] theorem zer_223 : zeroOf Tryz.prog 223 = some (.nilFunc) := by kernel_rfl
@[go_sem] theorem zcs_223 : zcs Tryz.prog 223 = some 1 := by kernel_rfl
@[go_sem] theorem str_223 : isStrT Tryz.prog 223 = false := by kernel_rfl
@[go_sem] theorem ifc_223 : isIfaceT Tryz.prog 223 = some false := by kernel_rfl
@[go_sem] theorem tsz_224 : tsz Tryz.prog 224 = some 22 := by kernel_rfl
@[go_sem] theorem agg_224 : isAggT Tryz.prog 224 = some true := by kernel_rfl
@[go_sem] theorem zer_224 : zeroOf Tryz.prog 224 = some (.agg #[.string (⟨#[]⟩ : ByteArray), .string (⟨#[]⟩ : ByteArray), .string (⟨#[]⟩ : ByteArray), .string (⟨#[]⟩ : ByteArray), .string (⟨#[]⟩ : ByteArray), .string (⟨#[]⟩ : ByteArray), .string (⟨#[]⟩ : ByteArray), .string (⟨#[]⟩ : ByteArray), .string (⟨#[]⟩ : ByteArray), .string (⟨#[]⟩ : ByteArray), .string (⟨#[]⟩ : ByteArray), .string (⟨#[]⟩ : ByteArray), .string (⟨#[]⟩ : ByteArray), .string (⟨#[]⟩ : ByteArray), .string (⟨#[]⟩ : ByteArray), .string (⟨#[]⟩ : ByteArray), .string (⟨#[]⟩ : ByteArray), .string (⟨#[]⟩ : ByteArray), .string (⟨#[]⟩ : ByteArray), .string (⟨#[]⟩ : ByteArray), .string (⟨#[]⟩ : ByteArray), .string (⟨#[]⟩ : ByteArray)]) := by kernel_rfl
@[go_sem] theorem zcs_224 : zcs Tryz.prog 224 = some 22 := by kernel_rfl
@[go_sem] theorem str_224 : isStrT Tryz.prog 224 = false := by kernel_rfl
@[go_sem] theorem ifc_224 : isIfaceT Tryz.prog 224 = some false := by kernel_rfl
@[go_sem] theorem elm_224 : elemT Tryz.prog 224 = none := by kernel_rfl
@[go_sem] theorem plc_224 : placesOf Tryz.prog 224 = none := by kernel_rfl
@[go_sem] theorem arr_224 : arrT Tryz.prog 224 = some (22, 9) := by kernel_rfl
@[go_sem] theorem tsz_225 : tsz Tryz.prog 225 = some 1 := by kernel_rfl
@[go_sem] theorem agg_225 : isAggT Tryz.prog 225 = some false := by kernel_rfl
@[go_sem] theorem zer_225 : zeroOf Tryz.prog 225 = some (.nilFunc) := by kernel_rfl
@[go_sem] theorem zcs_225 : zcs Tryz.prog 225 = some 1 := by kernel_rfl
@[go_sem] theorem str_225 : isStrT Tryz.prog 225 = false := by kernel_rfl
@[go_sem] theorem ifc_225 : isIfaceT Tryz.prog 225 = some false := by kernel_rfl
@[go_sem] theorem tsz_226 : tsz Tryz.prog 226 = some 1 := by kernel_rfl
@[go_sem] theorem agg_226 : isAggT Tryz.prog 226 = some false := by kernel_rfl
@[go_sem] theorem zer_226 : zeroOf Tryz.prog 226 = some (.nilFunc) := by kernel_rfl
@[go_sem] theorem zcs_226 : zcs Tryz.prog 226 = some 1 := by kernel_rfl
@[go_sem] theorem str_226 : isStrT Tryz.prog 226 = false := by kernel_rfl
@[go_sem] theorem ifc_226 : isIfaceT Tryz.prog 226 = some false := by kernel_rfl
@[go_sem] theorem tsz_227 : tsz Tryz.prog 227 = some 1 := by kernel_rfl
@[go_sem] theorem agg_227 : isAggT Tryz.prog 227 = some false := by kernel_rfl
@[go_sem] theorem zer_227 : zeroOf Tryz.prog 227 = some (.nilFunc) := by kernel_rfl
@[go_sem] theorem zcs_227 : zcs Tryz.prog 227 = some 1 := by kernel_rfl
@[go_sem] theorem str_227 : isStrT Tryz.prog 227 = false := by kernel_rfl
@[go_sem] theorem ifc_227 : isIfaceT Tryz.prog 227 = some false := by kernel_rfl
@[go_sem] theorem tsz_228 : tsz Tryz.prog 228 = some 16 := by kernel_rfl
@[go_sem] theorem agg_228 : isAggT Tryz.prog 228 = some true := by kernel_rfl
@[go_sem] theorem zer_228 : zeroOf Tryz.prog 228 = some (.agg #[.int .u8 0, .int .u8 0, .int .u8 0, .int .u8 0, .int .u8 0, .int .u8 0, .int .u8 0, .int .u8 0, .int .u8 0, .int .u8 0, .int .u8 0, .int .u8 0, .int .u8 0, .int .u8 0, .int .u8 0, .int .u8 0]) := by kernel_rfl
@[go_sem] theorem zcs_228 : zcs Tryz.prog 228 = some 16 := by kernel_rfl
@[go_sem] theorem str_228 : isStrT Tryz.prog 228 = false := by kernel_rfl
@[go_sem] theorem ifc_228 : isIfaceT Tryz.prog 228 = some false := by kernel_rfl
@[go_sem] theorem elm_228 : elemT Tryz.prog 228 = none := by kernel_rfl
@[go_sem] theorem plc_228 : placesOf Tryz.prog 228 = none := by kernel_rfl
@[go_sem] theorem arr_228 : arrT Tryz.prog 228 = some (16, 5) := by kernel_rfl
@[go_sem] theorem tsz_229 : tsz Tryz.prog 229 = some 1 := by kernel_rfl
@[go_sem] theorem agg_229 : isAggT Tryz.prog 229 = some false := by kernel_rfl
@[go_sem] theorem zer_229 : zeroOf Tryz.prog 229 = some (.nilFunc) := by kernel_rfl
@[go_sem] theorem zcs_229 : zcs Tryz.prog 229 = some 1 := by kernel_rfl
@[go_sem] theorem str_229 : isStrT Tryz.prog 229 = false := by kernel_rfl
@[go_sem] theorem ifc_229 : isIfaceT Tryz.prog 229 = some false := by kernel_rfl
@[go_sem] theorem tsz_230 : tsz Tryz.prog 230 = some 20 := by kernel_rfl
@[go_sem] theorem agg_230 : isAggT Tryz.prog 230 = some true := by kernel_rfl
@[go_sem] theorem zer_230 : zeroOf Tryz.prog 230 = some (.agg #[.int .u64 0, .int .u64 0, .int .u64 0, .int .u64 0, .int .u64 0, .int .u64 0, .int .u64 0, .int .u64 0, .int .u64 0, .int .u64 0, .int .u64 0, .int .u64 0, .int .u64 0, .int .u64 0, .int .u64 0, .int .u64 0, .int .u64 0, .int .u64 0, .int .u64 0, .int .u64 0]) := by kernel_rfl
@[go_sem] theorem zcs_230 : zcs Tryz.prog 230 = some 20 := by kernel_rfl
@[go_sem] theorem str_230 : isStrT Tryz.prog 230 = false := by kernel_rfl
@[go_sem] theorem ifc_230 : isIfaceT Tryz.prog 230 = some false := by kernel_rfl
@[go_sem] theorem elm_230 : elemT Tryz.prog 230 = none := by kernel_rfl
@[go_sem] theorem plc_230 : placesOf Tryz.prog 230 = none := by kernel_rfl
@[go_sem] theorem arr_230 : arrT Tryz.prog 230 = some (20, 99) := by kernel_rfl
@[go_sem] theorem tsz_232 : tsz Tryz.prog 232 = some 1 := by kernel_rfl
@[go_sem] theorem agg_232 : isAggT Tryz.prog 232 = some false := by kernel_rfl
@[go_sem] theorem zer_232 : zeroOf Tryz.prog 232 = some (.nilFunc) := by kernel_rfl
@[go_sem] theorem zcs_232 : zcs Tryz.prog 232 = some 1 := by kernel_rfl
@[go_sem] theorem str_232 : isStrT Tryz.prog 232 = false := by kernel_rfl
@[go_sem] theorem ifc_232 : isIfaceT Tryz.prog 232 = some false := by kernel_rfl
@[go_sem] theorem tsz_233 : tsz Tryz.prog 233 = some 1 := by kernel_rfl
@[go_sem] theorem agg_233 : isAggT Tryz.prog 233 = some false := by kernel_rfl
@[go_sem] theorem zer_233 : zeroOf Tryz.prog 233 = some (.nilFunc) := by kernel_rfl
@[go_sem] theorem zcs_233 : zcs Tryz.prog 233 = some 1 := by kernel_rfl
@[go_sem] theorem str_233 : isStrT Tryz.prog 233 = false := by kernel_rfl
@[go_sem] theorem ifc_233 : isIfaceT Tryz.prog 233 = some false := by kernel_rfl
@[go_sem] theorem tsz_234 : tsz Tryz.prog 234 = some 1 := by kernel_rfl
@[go_sem] theorem agg_234 : isAggT Tryz.prog 234 = some false := by kernel_rfl
@[go_sem] theorem zer_234 : zeroOf Tryz.prog 234 = some (.nilFunc) := by kernel_rfl
@[go_sem] theorem zcs_234 : zcs Tryz.prog 234 = some 1 := by kernel_rfl
@[go_sem] theorem str_234 : isStrT Tryz.prog 234 = false := by kernel_rfl
@[go_sem] theorem ifc_234 : isIfaceT Tryz.prog 234 = some false := by kernel_rfl
@[go_sem] theorem tsz_235 : tsz Tryz.prog 235 = some 32 := by kernel_rfl
@[go_sem] theorem agg_235 : isAggT Tryz.prog 235 = some true := by kernel_rfl
@[go_sem] theorem zer_235 : zeroOf Tryz.prog 235 = some (.agg #[.int .u8 0, .int .u8 0, .int .u8 0, .int .u8 0, .int .u8 0, .int .u8 0, .int .u8 0, .int .u8 0, .int .u8 0, .int .u8 0, .int .u8 0, .int .u8 0, .int .u8 0, .int .u8 0, .int .u8 0, .int .u8 0, .int .u8 0, .int .u8 0, .int .u8 0, .int .u8 0, .int .u8 0, .int .u8 0, .int .u8 0, .int .u8 0, .int .u8 0, .int .u8 0, .int .u8 0, .int .u8 0, .int .u8 0, .int .u8 0, .int .u8 0, .int .u8 0]) := by kernel_rfl
@[go_sem] theorem zcs_235 : zcs Tryz.prog 235 = some 32 := by kernel_rfl
@[go_sem] theorem str_235 : isStrT Tryz.prog 235 = false := by kernel_rfl
@[go_sem] theorem ifc_235 : isIfaceT Tryz.prog 235 = some false := by kernel_rfl
@[go_sem] theorem elm_235 : elemT Tryz.prog 235 = none := by kernel_rfl
@[go_sem] theorem plc_235 : placesOf Tryz.prog 235 = none := by kernel_rfl
@[go_sem] theorem arr_235 : arrT Tryz.prog 235 = some (32, 5) := by kernel_rfl
@[go_sem] theorem tsz_237 : tsz Tryz.prog 237 = some 4 := by kernel_rfl
@[go_sem] theorem agg_237 : isAggT Tryz.prog 237 = some true := by kernel_rfl
@[go_sem] theorem zer_237 : zeroOf Tryz.prog 237 = some (.agg #[.pointer none, .pointer none, .pointer none, .string (⟨#[]⟩ : ByteArray)]) := by kernel_rfl
@[go_sem] theorem zcs_237 : zcs Tryz.prog 237 = some 4 := by kernel_rfl
@[go_sem] theorem str_237 : isStrT Tryz.prog 237 = false := by kernel_rfl
@[go_sem] theorem ifc_237 : isIfaceT Tryz.prog 237 = some false := by kernel_rfl
@[go_sem] theorem fld_237_0 : fieldOf Tryz.prog 237 0 = some (0, 17) := by kernel_rfl
@[go_sem] theorem fld_237_1 : fieldOf Tryz.prog 237 1 = some (1, 17) := by kernel_rfl
@[go_sem] theorem fld_237_2 : fieldOf Tryz.prog 237 2 = some (2, 17) := by kernel_rfl
@[go_sem] theorem fld_237_3 : fieldOf Tryz.prog 237 3 = some (3, 9) := by kernel_rfl
@[go_sem] theorem plc_237 : placesOf Tryz.prog 237 = some [(0, 1), (1, 1), (2, 1), (3, 1)] := by kernel_rfl
@[go_sem] theorem tsz_238 : tsz Tryz.prog 238 = some 4 := by kernel_rfl
@[go_sem] theorem agg_238 : isAggT Tryz.prog 238 = some true := by kernel_rfl
@[go_sem] theorem zer_238 : zeroOf Tryz.prog 238 = some (.agg #[.pointer none, .pointer none, .pointer none, .string (⟨#[]⟩ : ByteArray)]) := by kernel_rfl
@[go_sem] theorem zcs_238 : zcs Tryz.prog 238 = some 4 := by kernel_rfl
@[go_sem] theorem str_238 : isStrT Tryz.prog 238 = false := by kernel_rfl
@[go_sem] theorem ifc_238 : isIfaceT Tryz.prog 238 = some false := by kernel_rfl
@[go_sem] theorem fld_238_0 : fieldOf Tryz.prog 238 0 = some (0, 17) := by kernel_rfl
@[go_sem] theorem fld_238_1 : fieldOf Tryz.prog 238 1 = some (1, 17) := by kernel_rfl
@[go_sem] theorem fld_238_2 : fieldOf Tryz.prog 238 2 = some (2, 17) := by kernel_rfl
@[go_sem] theorem fld_238_3 : fieldOf Tryz.prog 238 3 = some (3, 9) := by kernel_rfl
@[go_sem] theorem plc_238 : placesOf Tryz.prog 238 = some [(0, 1), (1, 1), (2, 1), (3, 1)] := by kernel_rfl
@[go_sem] theorem tsz_242 : tsz Tryz.prog 242 = some 1 := by kernel_rfl
@[go_sem] theorem agg_242 : isAggT Tryz.prog 242 = some false := by kernel_rfl
@[go_sem] theorem zer_242 : zeroOf Tryz.prog 242 = some (.int .u8 0) := by kernel_rfl
@[go_sem] theorem zcs_242 : zcs Tryz.prog 242 = some 1 := by kernel_rfl
@[go_sem] theorem str_242 : isStrT Tryz.prog 242 = false := by kernel_rfl
@[go_sem] theorem ifc_242 : isIfaceT Tryz.prog 242 = some false := by kernel_rfl
@[go_sem] theorem int_242 : intT Tryz.prog 242 = some .u8 := by kernel_rfl
@[go_sem] theorem und_242 : Tryz.prog.underlying 242 = some (.int .u8) := by kernel_rfl
@[go_sem] theorem tsz_243 : tsz Tryz.prog 243 = some 1 := by kernel_rfl
@[go_sem] theorem agg_243 : isAggT Tryz.prog 243 = some false := by kernel_rfl
@[go_sem] theorem zer_243 : zeroOf Tryz.prog 243 = some (.int .u8 0) := by kernel_rfl
@[go_sem] theorem zcs_243 : zcs Tryz.prog 243 = some 1 := by kernel_rfl
@[go_sem] theorem str_243 : isStrT Tryz.prog 243 = false := by kernel_rfl
@[go_sem] theorem ifc_243 : isIfaceT Tryz.prog 243 = some false := by kernel_rfl
@[go_sem] theorem int_243 : intT Tryz.prog 243 = some .u8 := by kernel_rfl
@[go_sem] theorem und_243 : Tryz.prog.underlying 243 = some (.int .u8) := by kernel_rfl
@[go_sem] theorem tsz_244 : tsz Tryz.prog 244 = some 1 := by kernel_rfl
@[go_sem] theorem agg_244 : isAggT Tryz.prog 244 = some false := by kernel_rfl
@[go_sem] theorem zer_244 : zeroOf Tryz.prog 244 = some (.nilFunc) := by kernel_rfl
@[go_sem] theorem zcs_244 : zcs Tryz.prog 244 = some 1 := by kernel_rfl
@[go_sem] theorem str_244 : isStrT Tryz.prog 244 = false := by kernel_rfl
@[go_sem] theorem ifc_244 : isIfaceT Tryz.prog 244 = some false := by kernel_rfl
@[go_sem] theorem tsz_245 : tsz Tryz.prog 245 = some 1 := by kernel_rfl
@[go_sem] theorem agg_245 : isAggT Tryz.prog 245 = some false := by kernel_rfl
@[go_sem] theorem zer_245 : zeroOf Tryz.prog 245 = some (.int .i32 0) := by kernel_rfl
@[go_sem] theorem zcs_245 : zcs Tryz.prog 245 = some 1 := by kernel_rfl
@[go_sem] theorem str_245 : isStrT Tryz.prog 245 = false := by kernel_rfl
@[go_sem] theorem ifc_245 : isIfaceT Tryz.prog 245 = some false := by kernel_rfl
@[go_sem] theorem int_245 : intT Tryz.prog 245 = some .i32 := by kernel_rfl
@[go_sem] theorem und_245 : Tryz.prog.underlying 245 = some (.int .i32) := by kernel_rfl
@[go_sem] theorem tsz_246 : tsz Tryz.prog 246 = some 1 := by kernel_rfl
@[go_sem] theorem agg_246 : isAggT Tryz.prog 246 = some false := by kernel_rfl
@[go_sem] theorem zer_246 : zeroOf Tryz.prog 246 = some (.int .i32 0) := by kernel_rfl
@[go_sem] theorem zcs_246 : zcs Tryz.prog 246 = some 1 := by kernel_rfl
@[go_sem] theorem str_246 : isStrT Tryz.prog 246 = false := by kernel_rfl
@[go_sem] theorem ifc_246 : isIfaceT Tryz.prog 246 = some false := by kernel_rfl
@[go_sem] theorem int_246 : intT Tryz.prog 246 = some .i32 := by kernel_rfl
@[go_sem] theorem und_246 : Tryz.prog.underlying 246 = some (.int .i32) := by kernel_rfl
@[go_sem] theorem tsz_247 : tsz Tryz.prog 247 = some 11 := by kernel_rfl
@[go_sem] theorem agg_247 : isAggT Tryz.prog 247 = some true := by kernel_rfl
@[go_sem] theorem zer_247 : zeroOf Tryz.prog 247 = some (.agg #[.int .u64 0, .int .u64 0, .int .u32 0, .int .u8 0, .int .u8 0, .int .u8 0, .int .u8 0, .nilFunc, .pointer none, .int .i32 0, .int .i32 0]) := by kernel_rfl
@[go_sem] theorem zcs_247 : zcs Tryz.prog 247 = some 11 := by kernel_rfl
@[go_sem] theorem str_247 : isStrT Tryz.prog 247 = false := by kernel_rfl
@[go_sem] theorem ifc_247 : isIfaceT Tryz.prog 247 = some false := by kernel_rfl
@[go_sem] theorem fld_247_0 : fieldOf Tryz.prog 247 0 = some (0, 12) := by kernel_rfl
@[go_sem] theorem fld_247_1 : fieldOf Tryz.prog 247 1 = some (1, 12) := by kernel_rfl
@[go_sem] theorem fld_247_2 : fieldOf Tryz.prog 247 2 = some (2, 185) := by kernel_rfl
@[go_sem] theorem fld_247_3 : fieldOf Tryz.prog 247 3 = some (3, 242) := by kernel_rfl
@[go_sem] theorem fld_247_4 : fieldOf Tryz.prog 247 4 = some (4, 5) := by kernel_rfl
@[go_sem] theorem fld_247_5 : fieldOf Tryz.prog 247 5 = some (5, 5) := by kernel_rfl
@[go_sem] theorem fld_247_6 : fieldOf Tryz.prog 247 6 = some (6, 243) := by kernel_rfl
@[go_sem] theorem fld_247_7 : fieldOf Tryz.prog 247 7 = some (7, 244) := by kernel_rfl
@[go_sem] theorem fld_247_8 : fieldOf Tryz.prog 247 8 = some (8, 190) := by kernel_rfl
@[go_sem] theorem fld_247_9 : fieldOf Tryz.prog 247 9 = some (9, 245) := by kernel_rfl
@[go_sem] theorem fld_247_10 : fieldOf Tryz.prog 247 10 = some (10, 246) := by kernel_rfl
@[go_sem] theorem plc_247 : placesOf Tryz.prog 247 = some [(0, 1), (1, 1), (2, 1), (3, 1), (4, 1), (5, 1), (6, 1), (7, 1), (8, 1), (9, 1), (10, 1)] := by kernel_rfl
@[go_sem] theorem tsz_248 : tsz Tryz.prog 248 = some 11 := by kernel_rfl
@[go_sem] theorem agg_248 : isAggT Tryz.prog 248 = some true := by kernel_rfl
@[go_sem] theorem zer_248 : zeroOf Tryz.prog 248 = some (.agg #[.int .u64 0, .int .u64 0, .int .u32 0, .int .u8 0, .int .u8 0, .int .u8 0, .int .u8 0, .nilFunc, .pointer none, .int .i32 0, .int .i32 0]) := by kernel_rfl
@[go_sem] theorem zcs_248 : zcs Tryz.prog 248 = some 11 := by kernel_rfl
@[go_sem] theorem str_248 : isStrT Tryz.prog 248 = false := by kernel_rfl
@[go_sem] theorem ifc_248 : isIfaceT Tryz.prog 248 = some false := by kernel_rfl
@[go_sem] theorem fld_248_0 : fieldOf Tryz.prog 248 0 = some (0, 12) := by kernel_rfl
@[go_sem] theorem fld_248_1 : fieldOf Tryz.prog 248 1 = some (1, 12) := by kernel_rfl
@[go_sem] theorem fld_248_2 : fieldOf Tryz.prog 248 2 = some (2, 185) := by kernel_rfl
@[go_sem] theorem fld_248_3 : fieldOf Tryz.prog 248 3 = some (3, 242) := by kernel_rfl
@[go_sem] theorem fld_248_4 : fieldOf Tryz.prog 248 4 = some (4, 5) := by kernel_rfl
@[go_sem] theorem fld_248_5 : fieldOf Tryz.prog 248 5 = some (5, 5) := by kernel_rfl
@[go_sem] theorem fld_248_6 : fieldOf Tryz.prog 248 6 = some (6, 243) := by kernel_rfl
@[go_sem] theorem fld_248_7 : fieldOf Tryz.prog 248 7 = some (7, 244) := by kernel_rfl
@[go_sem] theorem fld_248_8 : fieldOf Tryz.prog 248 8 = some (8, 190) := by kernel_rfl
@[go_sem] theorem fld_248_9 : fieldOf Tryz.prog 248 9 = some (9, 245) := by kernel_rfl
@[go_sem] theorem fld_248_10 : fieldOf Tryz.prog 248 10 = some (10, 246) := by kernel_rfl
@[go_sem] theorem plc_248 : placesOf Tryz.prog 248 = some [(0, 1), (1, 1), (2, 1), (3, 1), (4, 1), (5, 1), (6, 1), (7, 1), (8, 1), (9, 1), (10, 1)] := by kernel_rfl
@[go_sem] theorem tby_3 : tby Tryz.prog 3 = some 8 := by kernel_rfl
@[go_sem] theorem tby_4 : tby Tryz.prog 4 = some 1 := by kernel_rfl
@[go_sem] theorem tby_5 : tby Tryz.prog 5 = some 1 := by kernel_rfl
@[go_sem] theorem tby_9 : tby Tryz.prog 9 = some 16 := by kernel_rfl
@[go_sem] theorem tby_24 : tby Tryz.prog 24 = some 40 := by kernel_rfl
@[go_sem] theorem tby_27 : tby Tryz.prog 27 = some 64 := by kernel_rfl
@[go_sem] theorem tby_29 : tby Tryz.prog 29 = some 104 := by kernel_rfl
@[go_sem] theorem tby_34 : tby Tryz.prog 34 = some 24 := by kernel_rfl
@[go_sem] theorem tby_63 : tby Tryz.prog 63 = some 56 := by kernel_rfl
@[go_sem] theorem tby_65 : tby Tryz.prog 65 = some 32 := by kernel_rfl
@[go_sem] theorem tby_102 : tby Tryz.prog 102 = some 48 := by kernel_rfl
@[go_sem] theorem tby_104 : tby Tryz.prog 104 = some 80 := by kernel_rfl
@[go_sem] theorem tby_106 : tby Tryz.prog 106 = some 48 := by kernel_rfl
@[go_sem] theorem tby_109 : tby Tryz.prog 109 = some 56 := by kernel_rfl
@[go_sem] theorem tby_119 : tby Tryz.prog 119 = some 56 := by kernel_rfl
@[go_sem] theorem tby_120 : tby Tryz.prog 120 = some 56 := by kernel_rfl
@[go_sem] theorem tby_122 : tby Tryz.prog 122 = some 32 := by kernel_rfl
@[go_sem] theorem tby_124 : tby Tryz.prog 124 = some 16 := by kernel_rfl
@[go_sem] theorem tby_125 : tby Tryz.prog 125 = some 16 := by kernel_rfl
@[go_sem] theorem tby_135 : tby Tryz.prog 135 = some 104 := by kernel_rfl
theorem mix : Tryz.prog.follows .mixedOrders = true := by kernel_rfl
end Go.Proofs.YtfeacmadnbajfaaGreatDoor.AM
namespace Go.Proofs.YtfeacmadnbajfaaGreatDoor.AM
open Go.RowKit
abbrev iv (n : Int) : AV := .lit (.int .i64 n)
abbrev bv (b : Bool) : AV := .lit (.bool b)
abbrev sv (s : ByteArray) : AV := .lit (.string s)
abbrev di (n : Int) : Dat := .lit (.int .i64 n)
abbrev db (b : Bool) : Dat := .lit (.bool b)
abbrev ds' (s : ByteArray) : Dat := .lit (.string s)
abbrev df (f : Nat) : Dat := .lit (.float .f64 f)
abbrev eE : ByteArray := ⟨#[]⟩
structure AtomD where
  k : Int
  n : Int
  f : Nat
  s : ByteArray
def AtomD.enc (a : AtomD) : List Dat := [di a.k, di a.n, df a.f, ds' a.s]
structure ValD where
  a : AtomD
  l : List AtomD
def ValD.enc (v : ValD) : List Dat := [di v.a.k, di v.a.n, df v.a.f, ds' v.a.s, .lst 4 (v.l.map AtomD.enc)]
structure TermD where
  op : Int
  var : ByteArray
  name : ByteArray
  v : ValD
def TermD.enc (t : TermD) : List Dat := [di t.op, ds' t.var, ds' t.name, di t.v.a.k, di t.v.a.n, df t.v.a.f, ds' t.v.a.s, .lst 4 (t.v.l.map AtomD.enc)]
end Go.Proofs.YtfeacmadnbajfaaGreatDoor.AM
