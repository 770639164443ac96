/- Part 3 of the proof: words, contracts, plain laws. Laid by a program of this session (wip/tool/shake.py): what is needed of own and printed texts, in order. -/
import Derived.Test.YtinpnidokpjfhaaGreatDoorZa0
import Derived.Test.YtinpnidokpjfhaaGreatDoorZa1
import Derived.Test.YtinpnidokpjfhaaGreatDoorZa2
import Derived.Test.YtinpnidokpjfhaaGreatDoorProg
import Derived.KernelRfl
import Derived.Calls
import Derived.Lib.ItoaNum
import Derived.Orders
import Derived.Tactics
import Derived.Below
import Derived.Laws.Rows
import Derived.Laws.World
import Derived.Laws.CopyRow
import Derived.Lib.FrozenHead
import Derived.Deep.AppendSrc
import Derived.Deep.Upon
import Derived.Laws.BytesArg
import Derived.IntWalk
import Derived.Laws.Externs
import Derived.LoopN
import Derived.Scope
import Derived.MapKept
import Derived.RegionTactic
namespace Go.Proofs.YtinpnidokpjfhaaGreatDoor.AM
open Go.RowKit Go.Proofs
set_option maxRecDepth 100000
@[go_sem] theorem tsz_1 : tsz Tryz.prog 1 = some 1 := by kernel_rfl
@[go_sem] theorem agg_1 : isAggT Tryz.prog 1 = some false := by kernel_rfl
@[go_sem] theorem zer_1 : zeroOf Tryz.prog 1 = some (.nilFunc) := by kernel_rfl
@[go_sem] theorem zcs_1 : zcs Tryz.prog 1 = some 1 := by kernel_rfl
@[go_sem] theorem str_1 : isStrT Tryz.prog 1 = false := by kernel_rfl
@[go_sem] theorem ifc_1 : isIfaceT Tryz.prog 1 = some false := by kernel_rfl
@[go_sem] theorem tsz_2 : tsz Tryz.prog 2 = some 1 := by kernel_rfl
@[go_sem] theorem agg_2 : isAggT Tryz.prog 2 = some false := by kernel_rfl
@[go_sem] theorem zer_2 : zeroOf Tryz.prog 2 = some (.int .i64 0) := by kernel_rfl
@[go_sem] theorem zcs_2 : zcs Tryz.prog 2 = some 1 := by kernel_rfl
@[go_sem] theorem str_2 : isStrT Tryz.prog 2 = false := by kernel_rfl
@[go_sem] theorem ifc_2 : isIfaceT Tryz.prog 2 = some false := by kernel_rfl
@[go_sem] theorem int_2 : intT Tryz.prog 2 = some .i64 := by kernel_rfl
@[go_sem] theorem und_2 : Tryz.prog.underlying 2 = some (.int .i64) := by kernel_rfl
@[go_sem] theorem tsz_3 : tsz Tryz.prog 3 = some 1 := by kernel_rfl
@[go_sem] theorem agg_3 : isAggT Tryz.prog 3 = some false := by kernel_rfl
@[go_sem] theorem zer_3 : zeroOf Tryz.prog 3 = some (.int .i64 0) := by kernel_rfl
@[go_sem] theorem zcs_3 : zcs Tryz.prog 3 = some 1 := by kernel_rfl
@[go_sem] theorem str_3 : isStrT Tryz.prog 3 = false := by kernel_rfl
@[go_sem] theorem ifc_3 : isIfaceT Tryz.prog 3 = some false := by kernel_rfl
@[go_sem] theorem int_3 : intT Tryz.prog 3 = some .i64 := by kernel_rfl
@[go_sem] theorem und_3 : Tryz.prog.underlying 3 = some (.int .i64) := by kernel_rfl
@[go_sem] theorem tsz_4 : tsz Tryz.prog 4 = some 1 := by kernel_rfl
@[go_sem] theorem agg_4 : isAggT Tryz.prog 4 = some false := by kernel_rfl
@[go_sem] theorem zer_4 : zeroOf Tryz.prog 4 = some (.bool false) := by kernel_rfl
@[go_sem] theorem zcs_4 : zcs Tryz.prog 4 = some 1 := by kernel_rfl
@[go_sem] theorem str_4 : isStrT Tryz.prog 4 = false := by kernel_rfl
@[go_sem] theorem ifc_4 : isIfaceT Tryz.prog 4 = some false := by kernel_rfl
@[go_sem] theorem und_4 : Tryz.prog.underlying 4 = some (.bool) := by kernel_rfl
@[go_sem] theorem tsz_5 : tsz Tryz.prog 5 = some 1 := by kernel_rfl
@[go_sem] theorem agg_5 : isAggT Tryz.prog 5 = some false := by kernel_rfl
@[go_sem] theorem zer_5 : zeroOf Tryz.prog 5 = some (.int .u8 0) := by kernel_rfl
@[go_sem] theorem zcs_5 : zcs Tryz.prog 5 = some 1 := by kernel_rfl
@[go_sem] theorem str_5 : isStrT Tryz.prog 5 = false := by kernel_rfl
@[go_sem] theorem ifc_5 : isIfaceT Tryz.prog 5 = some false := by kernel_rfl
@[go_sem] theorem int_5 : intT Tryz.prog 5 = some .u8 := by kernel_rfl
@[go_sem] theorem und_5 : Tryz.prog.underlying 5 = some (.int .u8) := by kernel_rfl
@[go_sem] theorem tsz_6 : tsz Tryz.prog 6 = some 1 := by kernel_rfl
@[go_sem] theorem agg_6 : isAggT Tryz.prog 6 = some false := by kernel_rfl
@[go_sem] theorem zer_6 : zeroOf Tryz.prog 6 = some (.int .u8 0) := by kernel_rfl
@[go_sem] theorem zcs_6 : zcs Tryz.prog 6 = some 1 := by kernel_rfl
@[go_sem] theorem str_6 : isStrT Tryz.prog 6 = false := by kernel_rfl
@[go_sem] theorem ifc_6 : isIfaceT Tryz.prog 6 = some false := by kernel_rfl
@[go_sem] theorem int_6 : intT Tryz.prog 6 = some .u8 := by kernel_rfl
@[go_sem] theorem und_6 : Tryz.prog.underlying 6 = some (.int .u8) := by kernel_rfl
@[go_sem] theorem tsz_7 : tsz Tryz.prog 7 = some 4 := by kernel_rfl
@[go_sem] theorem agg_7 : isAggT Tryz.prog 7 = some true := by kernel_rfl
@[go_sem] theorem zer_7 : zeroOf Tryz.prog 7 = some (.agg #[.int .i64 0, .int .i64 0, .bool false, .int .u8 0]) := by kernel_rfl
@[go_sem] theorem zcs_7 : zcs Tryz.prog 7 = some 4 := by kernel_rfl
@[go_sem] theorem str_7 : isStrT Tryz.prog 7 = false := by kernel_rfl
@[go_sem] theorem ifc_7 : isIfaceT Tryz.prog 7 = some false := by kernel_rfl
@[go_sem] theorem fld_7_0 : fieldOf Tryz.prog 7 0 = some (0, 2) := by kernel_rfl
@[go_sem] theorem fld_7_1 : fieldOf Tryz.prog 7 1 = some (1, 3) := by kernel_rfl
@[go_sem] theorem fld_7_2 : fieldOf Tryz.prog 7 2 = some (2, 4) := by kernel_rfl
@[go_sem] theorem fld_7_3 : fieldOf Tryz.prog 7 3 = some (3, 6) := by kernel_rfl
@[go_sem] theorem plc_7 : placesOf Tryz.prog 7 = some [(0, 1), (1, 1), (2, 1), (3, 1)] := by kernel_rfl
@[go_sem] theorem tsz_8 : tsz Tryz.prog 8 = some 4 := by kernel_rfl
@[go_sem] theorem agg_8 : isAggT Tryz.prog 8 = some true := by kernel_rfl
@[go_sem] theorem zer_8 : zeroOf Tryz.prog 8 = some (.agg #[.int .i64 0, .int .i64 0, .bool false, .int .u8 0]) := by kernel_rfl
@[go_sem] theorem zcs_8 : zcs Tryz.prog 8 = some 4 := by kernel_rfl
@[go_sem] theorem str_8 : isStrT Tryz.prog 8 = false := by kernel_rfl
@[go_sem] theorem ifc_8 : isIfaceT Tryz.prog 8 = some false := by kernel_rfl
@[go_sem] theorem fld_8_0 : fieldOf Tryz.prog 8 0 = some (0, 2) := by kernel_rfl
@[go_sem] theorem fld_8_1 : fieldOf Tryz.prog 8 1 = some (1, 3) := by kernel_rfl
@[go_sem] theorem fld_8_2 : fieldOf Tryz.prog 8 2 = some (2, 4) := by kernel_rfl
@[go_sem] theorem fld_8_3 : fieldOf Tryz.prog 8 3 = some (3, 6) := by kernel_rfl
@[go_sem] theorem plc_8 : placesOf Tryz.prog 8 = some [(0, 1), (1, 1), (2, 1), (3, 1)] := by kernel_rfl
@[go_sem] theorem tsz_9 : tsz Tryz.prog 9 = some 1 := by kernel_rfl
@[go_sem] theorem agg_9 : isAggT Tryz.prog 9 = some false := by kernel_rfl
@[go_sem] theorem zer_9 : zeroOf Tryz.prog 9 = some (.string (⟨#[]⟩ : ByteArray)) := by kernel_rfl
@[go_sem] theorem zcs_9 : zcs Tryz.prog 9 = some 1 := by kernel_rfl
@[go_sem] theorem str_9 : isStrT Tryz.prog 9 = true := by kernel_rfl
@[go_sem] theorem ifc_9 : isIfaceT Tryz.prog 9 = some false := by kernel_rfl
@[go_sem] theorem und_9 : Tryz.prog.underlying 9 = some (.string) := by kernel_rfl
@[go_sem] theorem tsz_10 : tsz Tryz.prog 10 = some 1 := by kernel_rfl
@[go_sem] theorem agg_10 : isAggT Tryz.prog 10 = some false := by kernel_rfl
@[go_sem] theorem zer_10 : zeroOf Tryz.prog 10 = some (.string (⟨#[]⟩ : ByteArray)) := by kernel_rfl
@[go_sem] theorem zcs_10 : zcs Tryz.prog 10 = some 1 := by kernel_rfl
@[go_sem] theorem str_10 : isStrT Tryz.prog 10 = true := by kernel_rfl
@[go_sem] theorem ifc_10 : isIfaceT Tryz.prog 10 = some false := by kernel_rfl
@[go_sem] theorem und_10 : Tryz.prog.underlying 10 = some (.string) := by kernel_rfl
@[go_sem] theorem tsz_11 : tsz Tryz.prog 11 = some 1 := by kernel_rfl
@[go_sem] theorem agg_11 : isAggT Tryz.prog 11 = some false := by kernel_rfl
@[go_sem] theorem zer_11 : zeroOf Tryz.prog 11 = some (.string (⟨#[]⟩ : ByteArray)) := by kernel_rfl
@[go_sem] theorem zcs_11 : zcs Tryz.prog 11 = some 1 := by kernel_rfl
@[go_sem] theorem str_11 : isStrT Tryz.prog 11 = true := by kernel_rfl
@[go_sem] theorem ifc_11 : isIfaceT Tryz.prog 11 = some false := by kernel_rfl
@[go_sem] theorem und_11 : Tryz.prog.underlying 11 = some (.string) := by kernel_rfl
@[go_sem] theorem tsz_12 : tsz Tryz.prog 12 = some 1 := by kernel_rfl
@[go_sem] theorem agg_12 : isAggT Tryz.prog 12 = some false := by kernel_rfl
@[go_sem] theorem zer_12 : zeroOf Tryz.prog 12 = some (.int .u64 0) := by kernel_rfl
@[go_sem] theorem zcs_12 : zcs Tryz.prog 12 = some 1 := by kernel_rfl
@[go_sem] theorem str_12 : isStrT Tryz.prog 12 = false := by kernel_rfl
@[go_sem] theorem ifc_12 : isIfaceT Tryz.prog 12 = some false := by kernel_rfl
@[go_sem] theorem int_12 : intT Tryz.prog 12 = some .u64 := by kernel_rfl
@[go_sem] theorem und_12 : Tryz.prog.underlying 12 = some (.int .u64) := by kernel_rfl
@[go_sem] theorem tsz_13 : tsz Tryz.prog 13 = some 2 := by kernel_rfl
@[go_sem] theorem agg_13 : isAggT Tryz.prog 13 = some true := by kernel_rfl
@[go_sem] theorem zer_13 : zeroOf Tryz.prog 13 = some (.agg #[.string (⟨#[]⟩ : ByteArray), .int .u64 0]) := by kernel_rfl
@[go_sem] theorem zcs_13 : zcs Tryz.prog 13 = some 2 := by kernel_rfl
@[go_sem] theorem str_13 : isStrT Tryz.prog 13 = false := by kernel_rfl
@[go_sem] theorem ifc_13 : isIfaceT Tryz.prog 13 = some false := by kernel_rfl
@[go_sem] theorem fld_13_0 : fieldOf Tryz.prog 13 0 = some (0, 9) := by kernel_rfl
@[go_sem] theorem fld_13_1 : fieldOf Tryz.prog 13 1 = some (1, 12) := by kernel_rfl
@[go_sem] theorem plc_13 : placesOf Tryz.prog 13 = some [(0, 1), (1, 1)] := by kernel_rfl
@[go_sem] theorem tsz_14 : tsz Tryz.prog 14 = some 2 := by kernel_rfl
@[go_sem] theorem agg_14 : isAggT Tryz.prog 14 = some true := by kernel_rfl
@[go_sem] theorem zer_14 : zeroOf Tryz.prog 14 = some (.agg #[.string (⟨#[]⟩ : ByteArray), .int .u64 0]) := by kernel_rfl
@[go_sem] theorem zcs_14 : zcs Tryz.prog 14 = some 2 := by kernel_rfl
@[go_sem] theorem str_14 : isStrT Tryz.prog 14 = false := by kernel_rfl
@[go_sem] theorem ifc_14 : isIfaceT Tryz.prog 14 = some false := by kernel_rfl
@[go_sem] theorem fld_14_0 : fieldOf Tryz.prog 14 0 = some (0, 9) := by kernel_rfl
@[go_sem] theorem fld_14_1 : fieldOf Tryz.prog 14 1 = some (1, 12) := by kernel_rfl
@[go_sem] theorem plc_14 : placesOf Tryz.prog 14 = some [(0, 1), (1, 1)] := by kernel_rfl
@[go_sem] theorem tsz_15 : tsz Tryz.prog 15 = some 1 := by kernel_rfl
@[go_sem] theorem agg_15 : isAggT Tryz.prog 15 = some false := by kernel_rfl
@[go_sem] theorem zer_15 : zeroOf Tryz.prog 15 = some (.pointer none) := by kernel_rfl
@[go_sem] theorem zcs_15 : zcs Tryz.prog 15 = some 1 := by kernel_rfl
@[go_sem] theorem str_15 : isStrT Tryz.prog 15 = false := by kernel_rfl
@[go_sem] theorem ifc_15 : isIfaceT Tryz.prog 15 = some false := by kernel_rfl
@[go_sem] theorem tsz_16 : tsz Tryz.prog 16 = some 1 := by kernel_rfl
@[go_sem] theorem agg_16 : isAggT Tryz.prog 16 = some false := by kernel_rfl
@[go_sem] theorem zer_16 : zeroOf Tryz.prog 16 = some (.pointer none) := by kernel_rfl
@[go_sem] theorem zcs_16 : zcs Tryz.prog 16 = some 1 := by kernel_rfl
@[go_sem] theorem str_16 : isStrT Tryz.prog 16 = false := by kernel_rfl
@[go_sem] theorem ifc_16 : isIfaceT Tryz.prog 16 = some false := by kernel_rfl
@[go_sem] theorem tsz_17 : tsz Tryz.prog 17 = some 1 := by kernel_rfl
@[go_sem] theorem agg_17 : isAggT Tryz.prog 17 = some false := by kernel_rfl
@[go_sem] theorem zer_17 : zeroOf Tryz.prog 17 = some (.pointer none) := by kernel_rfl
@[go_sem] theorem zcs_17 : zcs Tryz.prog 17 = some 1 := by kernel_rfl
@[go_sem] theorem str_17 : isStrT Tryz.prog 17 = false := by kernel_rfl
@[go_sem] theorem ifc_17 : isIfaceT Tryz.prog 17 = some false := by kernel_rfl
@[go_sem] theorem tsz_18 : tsz Tryz.prog 18 = some 1 := by kernel_rfl
@[go_sem] theorem agg_18 : isAggT Tryz.prog 18 = some true := by kernel_rfl
@[go_sem] theorem zer_18 : zeroOf Tryz.prog 18 = some (.agg #[.pointer none]) := by kernel_rfl
@[go_sem] theorem zcs_18 : zcs Tryz.prog 18 = some 1 := by kernel_rfl
@[go_sem] theorem str_18 : isStrT Tryz.prog 18 = false := by kernel_rfl
@[go_sem] theorem ifc_18 : isIfaceT Tryz.prog 18 = some false := by kernel_rfl
@[go_sem] theorem fld_18_0 : fieldOf Tryz.prog 18 0 = some (0, 17) := by kernel_rfl
@[go_sem] theorem plc_18 : placesOf Tryz.prog 18 = some [(0, 1)] := by kernel_rfl
@[go_sem] theorem tsz_19 : tsz Tryz.prog 19 = some 1 := by kernel_rfl
@[go_sem] theorem agg_19 : isAggT Tryz.prog 19 = some true := by kernel_rfl
@[go_sem] theorem zer_19 : zeroOf Tryz.prog 19 = some (.agg #[.pointer none]) := by kernel_rfl
@[go_sem] theorem zcs_19 : zcs Tryz.prog 19 = some 1 := by kernel_rfl
@[go_sem] theorem str_19 : isStrT Tryz.prog 19 = false := by kernel_rfl
@[go_sem] theorem ifc_19 : isIfaceT Tryz.prog 19 = some false := by kernel_rfl
@[go_sem] theorem fld_19_0 : fieldOf Tryz.prog 19 0 = some (0, 17) := by kernel_rfl
@[go_sem] theorem plc_19 : placesOf Tryz.prog 19 = some [(0, 1)] := by kernel_rfl
@[go_sem] theorem tsz_20 : tsz Tryz.prog 20 = some 1 := by kernel_rfl
@[go_sem] theorem agg_20 : isAggT Tryz.prog 20 = some false := by kernel_rfl
@[go_sem] theorem zer_20 : zeroOf Tryz.prog 20 = some (.nilIface) := by kernel_rfl
@[go_sem] theorem zcs_20 : zcs Tryz.prog 20 = some 1 := by kernel_rfl
@[go_sem] theorem str_20 : isStrT Tryz.prog 20 = false := by kernel_rfl
@[go_sem] theorem ifc_20 : isIfaceT Tryz.prog 20 = some true := by kernel_rfl
@[go_sem] theorem tsz_21 : tsz Tryz.prog 21 = some 1 := by kernel_rfl
@[go_sem] theorem agg_21 : isAggT Tryz.prog 21 = some false := by kernel_rfl
@[go_sem] theorem zer_21 : zeroOf Tryz.prog 21 = some (.int .i32 0) := by kernel_rfl
@[go_sem] theorem zcs_21 : zcs Tryz.prog 21 = some 1 := by kernel_rfl
@[go_sem] theorem str_21 : isStrT Tryz.prog 21 = false := by kernel_rfl
@[go_sem] theorem ifc_21 : isIfaceT Tryz.prog 21 = some false := by kernel_rfl
@[go_sem] theorem int_21 : intT Tryz.prog 21 = some .i32 := by kernel_rfl
@[go_sem] theorem und_21 : Tryz.prog.underlying 21 = some (.int .i32) := by kernel_rfl
@[go_sem] theorem tsz_22 : tsz Tryz.prog 22 = some 1 := by kernel_rfl
@[go_sem] theorem agg_22 : isAggT Tryz.prog 22 = some false := by kernel_rfl
@[go_sem] theorem zer_22 : zeroOf Tryz.prog 22 = some (.slice none 0 0) := by kernel_rfl
@[go_sem] theorem zcs_22 : zcs Tryz.prog 22 = some 1 := by kernel_rfl
@[go_sem] theorem str_22 : isStrT Tryz.prog 22 = false := by kernel_rfl
@[go_sem] theorem ifc_22 : isIfaceT Tryz.prog 22 = some false := by kernel_rfl
@[go_sem] theorem und_22 : Tryz.prog.underlying 22 = some (.slice 40) := by kernel_rfl
@[go_sem] theorem elm_22 : elemT Tryz.prog 22 = some 40 := by kernel_rfl
@[go_sem] theorem tsz_23 : tsz Tryz.prog 23 = some 1 := by kernel_rfl
@[go_sem] theorem agg_23 : isAggT Tryz.prog 23 = some false := by kernel_rfl
@[go_sem] theorem zer_23 : zeroOf Tryz.prog 23 = some (.slice none 0 0) := by kernel_rfl
@[go_sem] theorem zcs_23 : zcs Tryz.prog 23 = some 1 := by kernel_rfl
@[go_sem] theorem str_23 : isStrT Tryz.prog 23 = false := by kernel_rfl
@[go_sem] theorem ifc_23 : isIfaceT Tryz.prog 23 = some false := by kernel_rfl
@[go_sem] theorem und_23 : Tryz.prog.underlying 23 = some (.slice 58) := by kernel_rfl
@[go_sem] theorem elm_23 : elemT Tryz.prog 23 = some 58 := by kernel_rfl
@[go_sem] theorem tsz_24 : tsz Tryz.prog 24 = some 1 := by kernel_rfl
@[go_sem] theorem agg_24 : isAggT Tryz.prog 24 = some false := by kernel_rfl
@[go_sem] theorem zer_24 : zeroOf Tryz.prog 24 = some (.slice none 0 0) := by kernel_rfl
@[go_sem] theorem zcs_24 : zcs Tryz.prog 24 = some 1 := by kernel_rfl
@[go_sem] theorem str_24 : isStrT Tryz.prog 24 = false := by kernel_rfl
@[go_sem] theorem ifc_24 : isIfaceT Tryz.prog 24 = some false := by kernel_rfl
@[go_sem] theorem und_24 : Tryz.prog.underlying 24 = some (.slice 79) := by kernel_rfl
@[go_sem] theorem elm_24 : elemT Tryz.prog 24 = some 79 := by kernel_rfl
@[go_sem] theorem tsz_25 : tsz Tryz.prog 25 = some 1 := by kernel_rfl
@[go_sem] theorem agg_25 : isAggT Tryz.prog 25 = some false := by kernel_rfl
@[go_sem] theorem zer_25 : zeroOf Tryz.prog 25 = some (.slice none 0 0) := by kernel_rfl
@[go_sem] theorem zcs_25 : zcs Tryz.prog 25 = some 1 := by kernel_rfl
@[go_sem] theorem str_25 : isStrT Tryz.prog 25 = false := by kernel_rfl
@[go_sem] theorem ifc_25 : isIfaceT Tryz.prog 25 = some false := by kernel_rfl
@[go_sem] theorem und_25 : Tryz.prog.underlying 25 = some (.slice 42) := by kernel_rfl
@[go_sem] theorem elm_25 : elemT Tryz.prog 25 = some 42 := by kernel_rfl
@[go_sem] theorem tsz_26 : tsz Tryz.prog 26 = some 1 := by kernel_rfl
@[go_sem] theorem agg_26 : isAggT Tryz.prog 26 = some false := by kernel_rfl
@[go_sem] theorem zer_26 : zeroOf Tryz.prog 26 = some (.slice none 0 0) := by kernel_rfl
@[go_sem] theorem zcs_26 : zcs Tryz.prog 26 = some 1 := by kernel_rfl
@[go_sem] theorem str_26 : isStrT Tryz.prog 26 = false := by kernel_rfl
@[go_sem] theorem ifc_26 : isIfaceT Tryz.prog 26 = some false := by kernel_rfl
@[go_sem] theorem und_26 : Tryz.prog.underlying 26 = some (.slice 66) := by kernel_rfl
@[go_sem] theorem elm_26 : elemT Tryz.prog 26 = some 66 := by kernel_rfl
@[go_sem] theorem tsz_27 : tsz Tryz.prog 27 = some 8 := by kernel_rfl
@[go_sem] theorem agg_27 : isAggT Tryz.prog 27 = some true := by kernel_rfl
@[go_sem] theorem zer_27 : zeroOf Tryz.prog 27 = some (.agg #[.slice none 0 0, .slice none 0 0, .slice none 0 0, .slice none 0 0, .bool false, .slice none 0 0, .int .i64 0, .int .i64 0]) := by kernel_rfl
@[go_sem] theorem zcs_27 : zcs Tryz.prog 27 = some 8 := by kernel_rfl
@[go_sem] theorem str_27 : isStrT Tryz.prog 27 = false := by kernel_rfl
@[go_sem] theorem ifc_27 : isIfaceT Tryz.prog 27 = some false := by kernel_rfl
@[go_sem] theorem fld_27_0 : fieldOf Tryz.prog 27 0 = some (0, 22) := by kernel_rfl
@[go_sem] theorem fld_27_1 : fieldOf Tryz.prog 27 1 = some (1, 23) := by kernel_rfl
@[go_sem] theorem fld_27_2 : fieldOf Tryz.prog 27 2 = some (2, 24) := by kernel_rfl
@[go_sem] theorem fld_27_3 : fieldOf Tryz.prog 27 3 = some (3, 25) := by kernel_rfl
@[go_sem] theorem fld_27_4 : fieldOf Tryz.prog 27 4 = some (4, 4) := by kernel_rfl
@[go_sem] theorem fld_27_5 : fieldOf Tryz.prog 27 5 = some (5, 26) := by kernel_rfl
@[go_sem] theorem fld_27_6 : fieldOf Tryz.prog 27 6 = some (6, 3) := by kernel_rfl
@[go_sem] theorem fld_27_7 : fieldOf Tryz.prog 27 7 = some (7, 3) := by kernel_rfl
@[go_sem] theorem plc_27 : placesOf Tryz.prog 27 = some [(0, 1), (1, 1), (2, 1), (3, 1), (4, 1), (5, 1), (6, 1), (7, 1)] := by kernel_rfl
@[go_sem] theorem tsz_28 : tsz Tryz.prog 28 = some 8 := by kernel_rfl
@[go_sem] theorem agg_28 : isAggT Tryz.prog 28 = some true := by kernel_rfl
@[go_sem] theorem zer_28 : zeroOf Tryz.prog 28 = some (.agg #[.slice none 0 0, .slice none 0 0, .slice none 0 0, .slice none 0 0, .bool false, .slice none 0 0, .int .i64 0, .int .i64 0]) := by kernel_rfl
@[go_sem] theorem zcs_28 : zcs Tryz.prog 28 = some 8 := by kernel_rfl
@[go_sem] theorem str_28 : isStrT Tryz.prog 28 = false := by kernel_rfl
@[go_sem] theorem ifc_28 : isIfaceT Tryz.prog 28 = some false := by kernel_rfl
@[go_sem] theorem fld_28_0 : fieldOf Tryz.prog 28 0 = some (0, 22) := by kernel_rfl
@[go_sem] theorem fld_28_1 : fieldOf Tryz.prog 28 1 = some (1, 23) := by kernel_rfl
@[go_sem] theorem fld_28_2 : fieldOf Tryz.prog 28 2 = some (2, 24) := by kernel_rfl
@[go_sem] theorem fld_28_3 : fieldOf Tryz.prog 28 3 = some (3, 25) := by kernel_rfl
@[go_sem] theorem fld_28_4 : fieldOf Tryz.prog 28 4 = some (4, 4) := by kernel_rfl
@[go_sem] theorem fld_28_5 : fieldOf Tryz.prog 28 5 = some (5, 26) := by kernel_rfl
@[go_sem] theorem fld_28_6 : fieldOf Tryz.prog 28 6 = some (6, 3) := by kernel_rfl
@[go_sem] theorem fld_28_7 : fieldOf Tryz.prog 28 7 = some (7, 3) := by kernel_rfl
@[go_sem] theorem plc_28 : placesOf Tryz.prog 28 = some [(0, 1), (1, 1), (2, 1), (3, 1), (4, 1), (5, 1), (6, 1), (7, 1)] := by kernel_rfl
@[go_sem] theorem tsz_29 : tsz Tryz.prog 29 = some 1 := by kernel_rfl
@[go_sem] theorem agg_29 : isAggT Tryz.prog 29 = some false := by kernel_rfl
@[go_sem] theorem zer_29 : zeroOf Tryz.prog 29 = some (.nilFunc) := by kernel_rfl
@[go_sem] theorem zcs_29 : zcs Tryz.prog 29 = some 1 := by kernel_rfl
@[go_sem] theorem str_29 : isStrT Tryz.prog 29 = false := by kernel_rfl
@[go_sem] theorem ifc_29 : isIfaceT Tryz.prog 29 = some false := by kernel_rfl
@[go_sem] theorem tsz_30 : tsz Tryz.prog 30 = some 1 := by kernel_rfl
@[go_sem] theorem agg_30 : isAggT Tryz.prog 30 = some false := by kernel_rfl
@[go_sem] theorem zer_30 : zeroOf Tryz.prog 30 = some (.slice none 0 0) := by kernel_rfl
@[go_sem] theorem zcs_30 : zcs Tryz.prog 30 = some 1 := by kernel_rfl
@[go_sem] theorem str_30 : isStrT Tryz.prog 30 = false := by kernel_rfl
@[go_sem] theorem ifc_30 : isIfaceT Tryz.prog 30 = some false := by kernel_rfl
@[go_sem] theorem und_30 : Tryz.prog.underlying 30 = some (.slice 60) := by kernel_rfl
@[go_sem] theorem elm_30 : elemT Tryz.prog 30 = some 60 := by kernel_rfl
@[go_sem] theorem tsz_31 : tsz Tryz.prog 31 = some 1 := by kernel_rfl
@[go_sem] theorem agg_31 : isAggT Tryz.prog 31 = some false := by kernel_rfl
@[go_sem] theorem zer_31 : zeroOf Tryz.prog 31 = some (.slice none 0 0) := by kernel_rfl
@[go_sem] theorem zcs_31 : zcs Tryz.prog 31 = some 1 := by kernel_rfl
@[go_sem] theorem str_31 : isStrT Tryz.prog 31 = false := by kernel_rfl
@[go_sem] theorem ifc_31 : isIfaceT Tryz.prog 31 = some false := by kernel_rfl
@[go_sem] theorem und_31 : Tryz.prog.underlying 31 = some (.slice 61) := by kernel_rfl
@[go_sem] theorem elm_31 : elemT Tryz.prog 31 = some 61 := by kernel_rfl
@[go_sem] theorem tsz_32 : tsz Tryz.prog 32 = some 1 := by kernel_rfl
@[go_sem] theorem agg_32 : isAggT Tryz.prog 32 = some false := by kernel_rfl
@[go_sem] theorem zer_32 : zeroOf Tryz.prog 32 = some (.slice none 0 0) := by kernel_rfl
@[go_sem] theorem zcs_32 : zcs Tryz.prog 32 = some 1 := by kernel_rfl
@[go_sem] theorem str_32 : isStrT Tryz.prog 32 = false := by kernel_rfl
@[go_sem] theorem ifc_32 : isIfaceT Tryz.prog 32 = some false := by kernel_rfl
@[go_sem] theorem und_32 : Tryz.prog.underlying 32 = some (.slice 81) := by kernel_rfl
@[go_sem] theorem elm_32 : elemT Tryz.prog 32 = some 81 := by kernel_rfl
@[go_sem] theorem tsz_33 : tsz Tryz.prog 33 = some 1 := by kernel_rfl
@[go_sem] theorem agg_33 : isAggT Tryz.prog 33 = some false := by kernel_rfl
@[go_sem] theorem zer_33 : zeroOf Tryz.prog 33 = some (.slice none 0 0) := by kernel_rfl
@[go_sem] theorem zcs_33 : zcs Tryz.prog 33 = some 1 := by kernel_rfl
@[go_sem] theorem str_33 : isStrT Tryz.prog 33 = false := by kernel_rfl
@[go_sem] theorem ifc_33 : isIfaceT Tryz.prog 33 = some false := by kernel_rfl
@[go_sem] theorem und_33 : Tryz.prog.underlying 33 = some (.slice 63) := by kernel_rfl
@[go_sem] theorem elm_33 : elemT Tryz.prog 33 = some 63 := by kernel_rfl
@[go_sem] theorem tsz_34 : tsz Tryz.prog 34 = some 1 := by kernel_rfl
@[go_sem] theorem agg_34 : isAggT Tryz.prog 34 = some false := by kernel_rfl
@[go_sem] theorem zer_34 : zeroOf Tryz.prog 34 = some (.slice none 0 0) := by kernel_rfl
@[go_sem] theorem zcs_34 : zcs Tryz.prog 34 = some 1 := by kernel_rfl
@[go_sem] theorem str_34 : isStrT Tryz.prog 34 = false := by kernel_rfl
@[go_sem] theorem ifc_34 : isIfaceT Tryz.prog 34 = some false := by kernel_rfl
@[go_sem] theorem und_34 : Tryz.prog.underlying 34 = some (.slice 65) := by kernel_rfl
@[go_sem] theorem elm_34 : elemT Tryz.prog 34 = some 65 := by kernel_rfl
@[go_sem] theorem tsz_35 : tsz Tryz.prog 35 = some 8 := by kernel_rfl
@[go_sem] theorem agg_35 : isAggT Tryz.prog 35 = some true := by kernel_rfl
@[go_sem] theorem zer_35 : zeroOf Tryz.prog 35 = some (.agg #[.slice none 0 0, .slice none 0 0, .slice none 0 0, .slice none 0 0, .bool false, .slice none 0 0, .int .i64 0, .int .i64 0]) := by kernel_rfl
@[go_sem] theorem zcs_35 : zcs Tryz.prog 35 = some 8 := by kernel_rfl
@[go_sem] theorem str_35 : isStrT Tryz.prog 35 = false := by kernel_rfl
@[go_sem] theorem ifc_35 : isIfaceT Tryz.prog 35 = some false := by kernel_rfl
@[go_sem] theorem fld_35_0 : fieldOf Tryz.prog 35 0 = some (0, 30) := by kernel_rfl
@[go_sem] theorem fld_35_1 : fieldOf Tryz.prog 35 1 = some (1, 31) := by kernel_rfl
@[go_sem] theorem fld_35_2 : fieldOf Tryz.prog 35 2 = some (2, 32) := by kernel_rfl
@[go_sem] theorem fld_35_3 : fieldOf Tryz.prog 35 3 = some (3, 33) := by kernel_rfl
@[go_sem] theorem fld_35_4 : fieldOf Tryz.prog 35 4 = some (4, 4) := by kernel_rfl
@[go_sem] theorem fld_35_5 : fieldOf Tryz.prog 35 5 = some (5, 34) := by kernel_rfl
@[go_sem] theorem fld_35_6 : fieldOf Tryz.prog 35 6 = some (6, 3) := by kernel_rfl
@[go_sem] theorem fld_35_7 : fieldOf Tryz.prog 35 7 = some (7, 3) := by kernel_rfl
@[go_sem] theorem plc_35 : placesOf Tryz.prog 35 = some [(0, 1), (1, 1), (2, 1), (3, 1), (4, 1), (5, 1), (6, 1), (7, 1)] := by kernel_rfl
@[go_sem] theorem tsz_36 : tsz Tryz.prog 36 = some 8 := by kernel_rfl
@[go_sem] theorem agg_36 : isAggT Tryz.prog 36 = some true := by kernel_rfl
@[go_sem] theorem zer_36 : zeroOf Tryz.prog 36 = some (.agg #[.slice none 0 0, .slice none 0 0, .slice none 0 0, .slice none 0 0, .bool false, .slice none 0 0, .int .i64 0, .int .i64 0]) := by kernel_rfl
@[go_sem] theorem zcs_36 : zcs Tryz.prog 36 = some 8 := by kernel_rfl
@[go_sem] theorem str_36 : isStrT Tryz.prog 36 = false := by kernel_rfl
@[go_sem] theorem ifc_36 : isIfaceT Tryz.prog 36 = some false := by kernel_rfl
@[go_sem] theorem fld_36_0 : fieldOf Tryz.prog 36 0 = some (0, 30) := by kernel_rfl
@[go_sem] theorem fld_36_1 : fieldOf Tryz.prog 36 1 = some (1, 31) := by kernel_rfl
@[go_sem] theorem fld_36_2 : fieldOf Tryz.prog 36 2 = some (2, 32) := by kernel_rfl
@[go_sem] theorem fld_36_3 : fieldOf Tryz.prog 36 3 = some (3, 33) := by kernel_rfl
@[go_sem] theorem fld_36_4 : fieldOf Tryz.prog 36 4 = some (4, 4) := by kernel_rfl
@[go_sem] theorem fld_36_5 : fieldOf Tryz.prog 36 5 = some (5, 34) := by kernel_rfl
@[go_sem] theorem fld_36_6 : fieldOf Tryz.prog 36 6 = some (6, 3) := by kernel_rfl
@[go_sem] theorem fld_36_7 : fieldOf Tryz.prog 36 7 = some (7, 3) := by kernel_rfl
@[go_sem] theorem plc_36 : placesOf Tryz.prog 36 = some [(0, 1), (1, 1), (2, 1), (3, 1), (4, 1), (5, 1), (6, 1), (7, 1)] := by kernel_rfl
@[go_sem] theorem tsz_37 : tsz Tryz.prog 37 = some 1 := by kernel_rfl
@[go_sem] theorem agg_37 : isAggT Tryz.prog 37 = some false := by kernel_rfl
@[go_sem] theorem zer_37 : zeroOf Tryz.prog 37 = some (.nilFunc) := by kernel_rfl
@[go_sem] theorem zcs_37 : zcs Tryz.prog 37 = some 1 := by kernel_rfl
@[go_sem] theorem str_37 : isStrT Tryz.prog 37 = false := by kernel_rfl
@[go_sem] theorem ifc_37 : isIfaceT Tryz.prog 37 = some false := by kernel_rfl
@[go_sem] theorem tsz_38 : tsz Tryz.prog 38 = some 1 := by kernel_rfl
@[go_sem] theorem agg_38 : isAggT Tryz.prog 38 = some false := by kernel_rfl
@[go_sem] theorem zer_38 : zeroOf Tryz.prog 38 = some (.slice none 0 0) := by kernel_rfl
@[go_sem] theorem zcs_38 : zcs Tryz.prog 38 = some 1 := by kernel_rfl
@[go_sem] theorem str_38 : isStrT Tryz.prog 38 = false := by kernel_rfl
@[go_sem] theorem ifc_38 : isIfaceT Tryz.prog 38 = some false := by kernel_rfl
@[go_sem] theorem und_38 : Tryz.prog.underlying 38 = some (.slice 56) := by kernel_rfl
@[go_sem] theorem elm_38 : elemT Tryz.prog 38 = some 56 := by kernel_rfl
@[go_sem] theorem tsz_39 : tsz Tryz.prog 39 = some 3 := by kernel_rfl
@[go_sem] theorem agg_39 : isAggT Tryz.prog 39 = some true := by kernel_rfl
@[go_sem] theorem zer_39 : zeroOf Tryz.prog 39 = some (.agg #[.string (⟨#[]⟩ : ByteArray), .string (⟨#[]⟩ : ByteArray), .slice none 0 0]) := by kernel_rfl
@[go_sem] theorem zcs_39 : zcs Tryz.prog 39 = some 3 := by kernel_rfl
@[go_sem] theorem str_39 : isStrT Tryz.prog 39 = false := by kernel_rfl
@[go_sem] theorem ifc_39 : isIfaceT Tryz.prog 39 = some false := by kernel_rfl
@[go_sem] theorem fld_39_0 : fieldOf Tryz.prog 39 0 = some (0, 9) := by kernel_rfl
@[go_sem] theorem fld_39_1 : fieldOf Tryz.prog 39 1 = some (1, 9) := by kernel_rfl
@[go_sem] theorem fld_39_2 : fieldOf Tryz.prog 39 2 = some (2, 38) := by kernel_rfl
@[go_sem] theorem plc_39 : placesOf Tryz.prog 39 = some [(0, 1), (1, 1), (2, 1)] := by kernel_rfl
@[go_sem] theorem tsz_40 : tsz Tryz.prog 40 = some 3 := by kernel_rfl
@[go_sem] theorem agg_40 : isAggT Tryz.prog 40 = some true := by kernel_rfl
@[go_sem] theorem zer_40 : zeroOf Tryz.prog 40 = some (.agg #[.string (⟨#[]⟩ : ByteArray), .string (⟨#[]⟩ : ByteArray), .slice none 0 0]) := by kernel_rfl
@[go_sem] theorem zcs_40 : zcs Tryz.prog 40 = some 3 := by kernel_rfl
@[go_sem] theorem str_40 : isStrT Tryz.prog 40 = false := by kernel_rfl
@[go_sem] theorem ifc_40 : isIfaceT Tryz.prog 40 = some false := by kernel_rfl
@[go_sem] theorem fld_40_0 : fieldOf Tryz.prog 40 0 = some (0, 9) := by kernel_rfl
@[go_sem] theorem fld_40_1 : fieldOf Tryz.prog 40 1 = some (1, 9) := by kernel_rfl
@[go_sem] theorem fld_40_2 : fieldOf Tryz.prog 40 2 = some (2, 38) := by kernel_rfl
@[go_sem] theorem plc_40 : placesOf Tryz.prog 40 = some [(0, 1), (1, 1), (2, 1)] := by kernel_rfl
@[go_sem] theorem tsz_41 : tsz Tryz.prog 41 = some 2 := by kernel_rfl
@[go_sem] theorem agg_41 : isAggT Tryz.prog 41 = some true := by kernel_rfl
@[go_sem] theorem zer_41 : zeroOf Tryz.prog 41 = some (.agg #[.int .i64 0, .slice none 0 0]) := by kernel_rfl
@[go_sem] theorem zcs_41 : zcs Tryz.prog 41 = some 2 := by kernel_rfl
@[go_sem] theorem str_41 : isStrT Tryz.prog 41 = false := by kernel_rfl
@[go_sem] theorem ifc_41 : isIfaceT Tryz.prog 41 = some false := by kernel_rfl
@[go_sem] theorem fld_41_0 : fieldOf Tryz.prog 41 0 = some (0, 3) := by kernel_rfl
@[go_sem] theorem fld_41_1 : fieldOf Tryz.prog 41 1 = some (1, 24) := by kernel_rfl
@[go_sem] theorem plc_41 : placesOf Tryz.prog 41 = some [(0, 1), (1, 1)] := by kernel_rfl
@[go_sem] theorem tsz_42 : tsz Tryz.prog 42 = some 2 := by kernel_rfl
@[go_sem] theorem agg_42 : isAggT Tryz.prog 42 = some true := by kernel_rfl
@[go_sem] theorem zer_42 : zeroOf Tryz.prog 42 = some (.agg #[.int .i64 0, .slice none 0 0]) := by kernel_rfl
@[go_sem] theorem zcs_42 : zcs Tryz.prog 42 = some 2 := by kernel_rfl
@[go_sem] theorem str_42 : isStrT Tryz.prog 42 = false := by kernel_rfl
@[go_sem] theorem ifc_42 : isIfaceT Tryz.prog 42 = some false := by kernel_rfl
@[go_sem] theorem fld_42_0 : fieldOf Tryz.prog 42 0 = some (0, 3) := by kernel_rfl
@[go_sem] theorem fld_42_1 : fieldOf Tryz.prog 42 1 = some (1, 24) := by kernel_rfl
@[go_sem] theorem plc_42 : placesOf Tryz.prog 42 = some [(0, 1), (1, 1)] := by kernel_rfl
@[go_sem] theorem tsz_43 : tsz Tryz.prog 43 = some 1 := by kernel_rfl
@[go_sem] theorem agg_43 : isAggT Tryz.prog 43 = some false := by kernel_rfl
@[go_sem] theorem zer_43 : zeroOf Tryz.prog 43 = some (.nilFunc) := by kernel_rfl
@[go_sem] theorem zcs_43 : zcs Tryz.prog 43 = some 1 := by kernel_rfl
@[go_sem] theorem str_43 : isStrT Tryz.prog 43 = false := by kernel_rfl
@[go_sem] theorem ifc_43 : isIfaceT Tryz.prog 43 = some false := by kernel_rfl
@[go_sem] theorem tsz_44 : tsz Tryz.prog 44 = some 1 := by kernel_rfl
@[go_sem] theorem agg_44 : isAggT Tryz.prog 44 = some false := by kernel_rfl
@[go_sem] theorem zer_44 : zeroOf Tryz.prog 44 = some (.nilFunc) := by kernel_rfl
@[go_sem] theorem zcs_44 : zcs Tryz.prog 44 = some 1 := by kernel_rfl
@[go_sem] theorem str_44 : isStrT Tryz.prog 44 = false := by kernel_rfl
@[go_sem] theorem ifc_44 : isIfaceT Tryz.prog 44 = some false := by kernel_rfl
@[go_sem] theorem tsz_45 : tsz Tryz.prog 45 = some 1 := by kernel_rfl
@[go_sem] theorem agg_45 : isAggT Tryz.prog 45 = some false := by kernel_rfl
@[go_sem] theorem zer_45 : zeroOf Tryz.prog 45 = some (.nilFunc) := by kernel_rfl
@[go_sem] theorem zcs_45 : zcs Tryz.prog 45 = some 1 := by kernel_rfl
@[go_sem] theorem str_45 : isStrT Tryz.prog 45 = false := by kernel_rfl
@[go_sem] theorem ifc_45 : isIfaceT Tryz.prog 45 = some false := by kernel_rfl
@[go_sem] theorem tsz_46 : tsz Tryz.prog 46 = some 1 := by kernel_rfl
@[go_sem] theorem agg_46 : isAggT Tryz.prog 46 = some false := by kernel_rfl
@[go_sem] theorem zer_46 : zeroOf Tryz.prog 46 = some (.nilFunc) := by kernel_rfl
@[go_sem] theorem zcs_46 : zcs Tryz.prog 46 = some 1 := by kernel_rfl
@[go_sem] theorem str_46 : isStrT Tryz.prog 46 = false := by kernel_rfl
@[go_sem] theorem ifc_46 : isIfaceT Tryz.prog 46 = some false := by kernel_rfl
@[go_sem] theorem tsz_47 : tsz Tryz.prog 47 = some 1 := by kernel_rfl
@[go_sem] theorem agg_47 : isAggT Tryz.prog 47 = some false := by kernel_rfl
@[go_sem] theorem zer_47 : zeroOf Tryz.prog 47 = some (.nilFunc) := by kernel_rfl
@[go_sem] theorem zcs_47 : zcs Tryz.prog 47 = some 1 := by kernel_rfl
@[go_sem] theorem str_47 : isStrT Tryz.prog 47 = false := by kernel_rfl
@[go_sem] theorem ifc_47 : isIfaceT Tryz.prog 47 = some false := by kernel_rfl
@[go_sem] theorem tsz_48 : tsz Tryz.prog 48 = some 1 := by kernel_rfl
@[go_sem] theorem agg_48 : isAggT Tryz.prog 48 = some false := by kernel_rfl
@[go_sem] theorem zer_48 : zeroOf Tryz.prog 48 = some (.nilFunc) := by kernel_rfl
@[go_sem] theorem zcs_48 : zcs Tryz.prog 48 = some 1 := by kernel_rfl
@[go_sem] theorem str_48 : isStrT Tryz.prog 48 = false := by kernel_rfl
@[go_sem] theorem ifc_48 : isIfaceT Tryz.prog 48 = some false := by kernel_rfl
@[go_sem] theorem tsz_49 : tsz Tryz.prog 49 = some 1 := by kernel_rfl
@[go_sem] theorem agg_49 : isAggT Tryz.prog 49 = some false := by kernel_rfl
@[go_sem] theorem zer_49 : zeroOf Tryz.prog 49 = some (.float .f64 0) := by kernel_rfl
@[go_sem] theorem zcs_49 : zcs Tryz.prog 49 = some 1 := by kernel_rfl
@[go_sem] theorem str_49 : isStrT Tryz.prog 49 = false := by kernel_rfl
@[go_sem] theorem ifc_49 : isIfaceT Tryz.prog 49 = some false := by kernel_rfl
@[go_sem] theorem und_49 : Tryz.prog.underlying 49 = some (.float .f64) := by kernel_rfl
@[go_sem] theorem tsz_50 : tsz Tryz.prog 50 = some 4 := by kernel_rfl
@[go_sem] theorem agg_50 : isAggT Tryz.prog 50 = some true := by kernel_rfl
@[go_sem] theorem zer_50 : zeroOf Tryz.prog 50 = some (.agg #[.int .i64 0, .int .i64 0, .float .f64 0, .string (⟨#[]⟩ : ByteArray)]) := by kernel_rfl
@[go_sem] theorem zcs_50 : zcs Tryz.prog 50 = some 4 := by kernel_rfl
@[go_sem] theorem str_50 : isStrT Tryz.prog 50 = false := by kernel_rfl
@[go_sem] theorem ifc_50 : isIfaceT Tryz.prog 50 = some false := by kernel_rfl
@[go_sem] theorem fld_50_0 : fieldOf Tryz.prog 50 0 = some (0, 3) := by kernel_rfl
@[go_sem] theorem fld_50_1 : fieldOf Tryz.prog 50 1 = some (1, 3) := by kernel_rfl
@[go_sem] theorem fld_50_2 : fieldOf Tryz.prog 50 2 = some (2, 49) := by kernel_rfl
@[go_sem] theorem fld_50_3 : fieldOf Tryz.prog 50 3 = some (3, 9) := by kernel_rfl
@[go_sem] theorem plc_50 : placesOf Tryz.prog 50 = some [(0, 1), (1, 1), (2, 1), (3, 1)] := by kernel_rfl
@[go_sem] theorem tsz_51 : tsz Tryz.prog 51 = some 4 := by kernel_rfl
@[go_sem] theorem agg_51 : isAggT Tryz.prog 51 = some true := by kernel_rfl
@[go_sem] theorem zer_51 : zeroOf Tryz.prog 51 = some (.agg #[.int .i64 0, .int .i64 0, .float .f64 0, .string (⟨#[]⟩ : ByteArray)]) := by kernel_rfl
@[go_sem] theorem zcs_51 : zcs Tryz.prog 51 = some 4 := by kernel_rfl
@[go_sem] theorem str_51 : isStrT Tryz.prog 51 = false := by kernel_rfl
@[go_sem] theorem ifc_51 : isIfaceT Tryz.prog 51 = some false := by kernel_rfl
@[go_sem] theorem fld_51_0 : fieldOf Tryz.prog 51 0 = some (0, 3) := by kernel_rfl
@[go_sem] theorem fld_51_1 : fieldOf Tryz.prog 51 1 = some (1, 3) := by kernel_rfl
@[go_sem] theorem fld_51_2 : fieldOf Tryz.prog 51 2 = some (2, 49) := by kernel_rfl
@[go_sem] theorem fld_51_3 : fieldOf Tryz.prog 51 3 = some (3, 9) := by kernel_rfl
@[go_sem] theorem plc_51 : placesOf Tryz.prog 51 = some [(0, 1), (1, 1), (2, 1), (3, 1)] := by kernel_rfl
@[go_sem] theorem tsz_52 : tsz Tryz.prog 52 = some 1 := by kernel_rfl
@[go_sem] theorem agg_52 : isAggT Tryz.prog 52 = some false := by kernel_rfl
@[go_sem] theorem zer_52 : zeroOf Tryz.prog 52 = some (.slice none 0 0) := by kernel_rfl
@[go_sem] theorem zcs_52 : zcs Tryz.prog 52 = some 1 := by kernel_rfl
@[go_sem] theorem str_52 : isStrT Tryz.prog 52 = false := by kernel_rfl
@[go_sem] theorem ifc_52 : isIfaceT Tryz.prog 52 = some false := by kernel_rfl
@[go_sem] theorem und_52 : Tryz.prog.underlying 52 = some (.slice 51) := by kernel_rfl
@[go_sem] theorem elm_52 : elemT Tryz.prog 52 = some 51 := by kernel_rfl
@[go_sem] theorem tsz_53 : tsz Tryz.prog 53 = some 5 := by kernel_rfl
@[go_sem] theorem agg_53 : isAggT Tryz.prog 53 = some true := by kernel_rfl
@[go_sem] theorem zer_53 : zeroOf Tryz.prog 53 = some (.agg #[.int .i64 0, .int .i64 0, .float .f64 0, .string (⟨#[]⟩ : ByteArray), .slice none 0 0]) := by kernel_rfl
@[go_sem] theorem zcs_53 : zcs Tryz.prog 53 = some 5 := by kernel_rfl
@[go_sem] theorem str_53 : isStrT Tryz.prog 53 = false := by kernel_rfl
@[go_sem] theorem ifc_53 : isIfaceT Tryz.prog 53 = some false := by kernel_rfl
@[go_sem] theorem fld_53_0 : fieldOf Tryz.prog 53 0 = some (0, 51) := by kernel_rfl
@[go_sem] theorem fld_53_1 : fieldOf Tryz.prog 53 1 = some (4, 52) := by kernel_rfl
@[go_sem] theorem plc_53 : placesOf Tryz.prog 53 = some [(0, 4), (4, 1)] := by kernel_rfl
@[go_sem] theorem tsz_54 : tsz Tryz.prog 54 = some 5 := by kernel_rfl
@[go_sem] theorem agg_54 : isAggT Tryz.prog 54 = some true := by kernel_rfl
@[go_sem] theorem zer_54 : zeroOf Tryz.prog 54 = some (.agg #[.int .i64 0, .int .i64 0, .float .f64 0, .string (⟨#[]⟩ : ByteArray), .slice none 0 0]) := by kernel_rfl
@[go_sem] theorem zcs_54 : zcs Tryz.prog 54 = some 5 := by kernel_rfl
@[go_sem] theorem str_54 : isStrT Tryz.prog 54 = false := by kernel_rfl
@[go_sem] theorem ifc_54 : isIfaceT Tryz.prog 54 = some false := by kernel_rfl
@[go_sem] theorem fld_54_0 : fieldOf Tryz.prog 54 0 = some (0, 51) := by kernel_rfl
@[go_sem] theorem fld_54_1 : fieldOf Tryz.prog 54 1 = some (4, 52) := by kernel_rfl
@[go_sem] theorem plc_54 : placesOf Tryz.prog 54 = some [(0, 4), (4, 1)] := by kernel_rfl
@[go_sem] theorem tsz_55 : tsz Tryz.prog 55 = some 6 := by kernel_rfl
@[go_sem] theorem agg_55 : isAggT Tryz.prog 55 = some true := by kernel_rfl
@[go_sem] theorem zer_55 : zeroOf Tryz.prog 55 = some (.agg #[.string (⟨#[]⟩ : ByteArray), .int .i64 0, .int .i64 0, .float .f64 0, .string (⟨#[]⟩ : ByteArray), .slice none 0 0]) := by kernel_rfl
@[go_sem] theorem zcs_55 : zcs Tryz.prog 55 = some 6 := by kernel_rfl
@[go_sem] theorem str_55 : isStrT Tryz.prog 55 = false := by kernel_rfl
@[go_sem] theorem ifc_55 : isIfaceT Tryz.prog 55 = some false := by kernel_rfl
@[go_sem] theorem fld_55_0 : fieldOf Tryz.prog 55 0 = some (0, 9) := by kernel_rfl
@[go_sem] theorem fld_55_1 : fieldOf Tryz.prog 55 1 = some (1, 54) := by kernel_rfl
@[go_sem] theorem plc_55 : placesOf Tryz.prog 55 = some [(0, 1), (1, 5)] := by kernel_rfl
@[go_sem] theorem tsz_56 : tsz Tryz.prog 56 = some 6 := by kernel_rfl
@[go_sem] theorem agg_56 : isAggT Tryz.prog 56 = some true := by kernel_rfl
@[go_sem] theorem zer_56 : zeroOf Tryz.prog 56 = some (.agg #[.string (⟨#[]⟩ : ByteArray), .int .i64 0, .int .i64 0, .float .f64 0, .string (⟨#[]⟩ : ByteArray), .slice none 0 0]) := by kernel_rfl
@[go_sem] theorem zcs_56 : zcs Tryz.prog 56 = some 6 := by kernel_rfl
@[go_sem] theorem str_56 : isStrT Tryz.prog 56 = false := by kernel_rfl
@[go_sem] theorem ifc_56 : isIfaceT Tryz.prog 56 = some false := by kernel_rfl
@[go_sem] theorem fld_56_0 : fieldOf Tryz.prog 56 0 = some (0, 9) := by kernel_rfl
@[go_sem] theorem fld_56_1 : fieldOf Tryz.prog 56 1 = some (1, 54) := by kernel_rfl
@[go_sem] theorem plc_56 : placesOf Tryz.prog 56 = some [(0, 1), (1, 5)] := by kernel_rfl
@[go_sem] theorem tsz_57 : tsz Tryz.prog 57 = some 6 := by kernel_rfl
@[go_sem] theorem agg_57 : isAggT Tryz.prog 57 = some true := by kernel_rfl
@[go_sem] theorem zer_57 : zeroOf Tryz.prog 57 = some (.agg #[.string (⟨#[]⟩ : ByteArray), .string (⟨#[]⟩ : ByteArray), .bool false, .bool false, .int .i64 0, .int .i64 0]) := by kernel_rfl
@[go_sem] theorem zcs_57 : zcs Tryz.prog 57 = some 6 := by kernel_rfl
@[go_sem] theorem str_57 : isStrT Tryz.prog 57 = false := by kernel_rfl
@[go_sem] theorem ifc_57 : isIfaceT Tryz.prog 57 = some false := by kernel_rfl
@[go_sem] theorem fld_57_0 : fieldOf Tryz.prog 57 0 = some (0, 9) := by kernel_rfl
@[go_sem] theorem fld_57_1 : fieldOf Tryz.prog 57 1 = some (1, 9) := by kernel_rfl
@[go_sem] theorem fld_57_2 : fieldOf Tryz.prog 57 2 = some (2, 4) := by kernel_rfl
@[go_sem] theorem fld_57_3 : fieldOf Tryz.prog 57 3 = some (3, 4) := by kernel_rfl
@[go_sem] theorem fld_57_4 : fieldOf Tryz.prog 57 4 = some (4, 3) := by kernel_rfl
@[go_sem] theorem fld_57_5 : fieldOf Tryz.prog 57 5 = some (5, 3) := by kernel_rfl
@[go_sem] theorem plc_57 : placesOf Tryz.prog 57 = some [(0, 1), (1, 1), (2, 1), (3, 1), (4, 1), (5, 1)] := by kernel_rfl
@[go_sem] theorem tsz_58 : tsz Tryz.prog 58 = some 6 := by kernel_rfl
@[go_sem] theorem agg_58 : isAggT Tryz.prog 58 = some true := by kernel_rfl
@[go_sem] theorem zer_58 : zeroOf Tryz.prog 58 = some (.agg #[.string (⟨#[]⟩ : ByteArray), .string (⟨#[]⟩ : ByteArray), .bool false, .bool false, .int .i64 0, .int .i64 0]) := by kernel_rfl
@[go_sem] theorem zcs_58 : zcs Tryz.prog 58 = some 6 := by kernel_rfl
@[go_sem] theorem str_58 : isStrT Tryz.prog 58 = false := by kernel_rfl
@[go_sem] theorem ifc_58 : isIfaceT Tryz.prog 58 = some false := by kernel_rfl
@[go_sem] theorem fld_58_0 : fieldOf Tryz.prog 58 0 = some (0, 9) := by kernel_rfl
@[go_sem] theorem fld_58_1 : fieldOf Tryz.prog 58 1 = some (1, 9) := by kernel_rfl
@[go_sem] theorem fld_58_2 : fieldOf Tryz.prog 58 2 = some (2, 4) := by kernel_rfl
@[go_sem] theorem fld_58_3 : fieldOf Tryz.prog 58 3 = some (3, 4) := by kernel_rfl
@[go_sem] theorem fld_58_4 : fieldOf Tryz.prog 58 4 = some (4, 3) := by kernel_rfl
@[go_sem] theorem fld_58_5 : fieldOf Tryz.prog 58 5 = some (5, 3) := by kernel_rfl
@[go_sem] theorem plc_58 : placesOf Tryz.prog 58 = some [(0, 1), (1, 1), (2, 1), (3, 1), (4, 1), (5, 1)] := by kernel_rfl
@[go_sem] theorem tsz_59 : tsz Tryz.prog 59 = some 1 := by kernel_rfl
@[go_sem] theorem agg_59 : isAggT Tryz.prog 59 = some false := by kernel_rfl
@[go_sem] theorem zer_59 : zeroOf Tryz.prog 59 = some (.nilFunc) := by kernel_rfl
@[go_sem] theorem zcs_59 : zcs Tryz.prog 59 = some 1 := by kernel_rfl
@[go_sem] theorem str_59 : isStrT Tryz.prog 59 = false := by kernel_rfl
@[go_sem] theorem ifc_59 : isIfaceT Tryz.prog 59 = some false := by kernel_rfl
@[go_sem] theorem tsz_60 : tsz Tryz.prog 60 = some 3 := by kernel_rfl
@[go_sem] theorem agg_60 : isAggT Tryz.prog 60 = some true := by kernel_rfl
@[go_sem] theorem zer_60 : zeroOf Tryz.prog 60 = some (.agg #[.string (⟨#[]⟩ : ByteArray), .string (⟨#[]⟩ : ByteArray), .slice none 0 0]) := by kernel_rfl
@[go_sem] theorem zcs_60 : zcs Tryz.prog 60 = some 3 := by kernel_rfl
@[go_sem] theorem str_60 : isStrT Tryz.prog 60 = false := by kernel_rfl
@[go_sem] theorem ifc_60 : isIfaceT Tryz.prog 60 = some false := by kernel_rfl
@[go_sem] theorem fld_60_0 : fieldOf Tryz.prog 60 0 = some (0, 9) := by kernel_rfl
@[go_sem] theorem fld_60_1 : fieldOf Tryz.prog 60 1 = some (1, 9) := by kernel_rfl
@[go_sem] theorem fld_60_2 : fieldOf Tryz.prog 60 2 = some (2, 38) := by kernel_rfl
@[go_sem] theorem plc_60 : placesOf Tryz.prog 60 = some [(0, 1), (1, 1), (2, 1)] := by kernel_rfl
@[go_sem] theorem tsz_61 : tsz Tryz.prog 61 = some 6 := by kernel_rfl
@[go_sem] theorem agg_61 : isAggT Tryz.prog 61 = some true := by kernel_rfl
@[go_sem] theorem zer_61 : zeroOf Tryz.prog 61 = some (.agg #[.string (⟨#[]⟩ : ByteArray), .string (⟨#[]⟩ : ByteArray), .bool false, .bool false, .int .i64 0, .int .i64 0]) := by kernel_rfl
@[go_sem] theorem zcs_61 : zcs Tryz.prog 61 = some 6 := by kernel_rfl
@[go_sem] theorem str_61 : isStrT Tryz.prog 61 = false := by kernel_rfl
@[go_sem] theorem ifc_61 : isIfaceT Tryz.prog 61 = some false := by kernel_rfl
@[go_sem] theorem fld_61_0 : fieldOf Tryz.prog 61 0 = some (0, 9) := by kernel_rfl
@[go_sem] theorem fld_61_1 : fieldOf Tryz.prog 61 1 = some (1, 9) := by kernel_rfl
@[go_sem] theorem fld_61_2 : fieldOf Tryz.prog 61 2 = some (2, 4) := by kernel_rfl
@[go_sem] theorem fld_61_3 : fieldOf Tryz.prog 61 3 = some (3, 4) := by kernel_rfl
@[go_sem] theorem fld_61_4 : fieldOf Tryz.prog 61 4 = some (4, 3) := by kernel_rfl
@[go_sem] theorem fld_61_5 : fieldOf Tryz.prog 61 5 = some (5, 3) := by kernel_rfl
@[go_sem] theorem plc_61 : placesOf Tryz.prog 61 = some [(0, 1), (1, 1), (2, 1), (3, 1), (4, 1), (5, 1)] := by kernel_rfl
@[go_sem] theorem tsz_62 : tsz Tryz.prog 62 = some 2 := by kernel_rfl
@[go_sem] theorem agg_62 : isAggT Tryz.prog 62 = some true := by kernel_rfl
@[go_sem] theorem zer_62 : zeroOf Tryz.prog 62 = some (.agg #[.int .i64 0, .slice none 0 0]) := by kernel_rfl
@[go_sem] theorem zcs_62 : zcs Tryz.prog 62 = some 2 := by kernel_rfl
@[go_sem] theorem str_62 : isStrT Tryz.prog 62 = false := by kernel_rfl
@[go_sem] theorem ifc_62 : isIfaceT Tryz.prog 62 = some false := by kernel_rfl
@[go_sem] theorem fld_62_0 : fieldOf Tryz.prog 62 0 = some (0, 3) := by kernel_rfl
@[go_sem] theorem fld_62_1 : fieldOf Tryz.prog 62 1 = some (1, 32) := by kernel_rfl
@[go_sem] theorem plc_62 : placesOf Tryz.prog 62 = some [(0, 1), (1, 1)] := by kernel_rfl
@[go_sem] theorem tsz_63 : tsz Tryz.prog 63 = some 2 := by kernel_rfl
@[go_sem] theorem agg_63 : isAggT Tryz.prog 63 = some true := by kernel_rfl
@[go_sem] theorem zer_63 : zeroOf Tryz.prog 63 = some (.agg #[.int .i64 0, .slice none 0 0]) := by kernel_rfl
@[go_sem] theorem zcs_63 : zcs Tryz.prog 63 = some 2 := by kernel_rfl
@[go_sem] theorem str_63 : isStrT Tryz.prog 63 = false := by kernel_rfl
@[go_sem] theorem ifc_63 : isIfaceT Tryz.prog 63 = some false := by kernel_rfl
@[go_sem] theorem fld_63_0 : fieldOf Tryz.prog 63 0 = some (0, 3) := by kernel_rfl
@[go_sem] theorem fld_63_1 : fieldOf Tryz.prog 63 1 = some (1, 32) := by kernel_rfl
@[go_sem] theorem plc_63 : placesOf Tryz.prog 63 = some [(0, 1), (1, 1)] := by kernel_rfl
@[go_sem] theorem tsz_64 : tsz Tryz.prog 64 = some 2 := by kernel_rfl
@[go_sem] theorem agg_64 : isAggT Tryz.prog 64 = some true := by kernel_rfl
@[go_sem] theorem zer_64 : zeroOf Tryz.prog 64 = some (.agg #[.int .i64 0, .bool false]) := by kernel_rfl
@[go_sem] theorem zcs_64 : zcs Tryz.prog 64 = some 2 := by kernel_rfl
@[go_sem] theorem str_64 : isStrT Tryz.prog 64 = false := by kernel_rfl
@[go_sem] theorem ifc_64 : isIfaceT Tryz.prog 64 = some false := by kernel_rfl
@[go_sem] theorem fld_64_0 : fieldOf Tryz.prog 64 0 = some (0, 3) := by kernel_rfl
@[go_sem] theorem fld_64_1 : fieldOf Tryz.prog 64 1 = some (1, 4) := by kernel_rfl
@[go_sem] theorem plc_64 : placesOf Tryz.prog 64 = some [(0, 1), (1, 1)] := by kernel_rfl
@[go_sem] theorem tsz_65 : tsz Tryz.prog 65 = some 2 := by kernel_rfl
@[go_sem] theorem agg_65 : isAggT Tryz.prog 65 = some true := by kernel_rfl
@[go_sem] theorem zer_65 : zeroOf Tryz.prog 65 = some (.agg #[.int .i64 0, .bool false]) := by kernel_rfl
@[go_sem] theorem zcs_65 : zcs Tryz.prog 65 = some 2 := by kernel_rfl
@[go_sem] theorem str_65 : isStrT Tryz.prog 65 = false := by kernel_rfl
@[go_sem] theorem ifc_65 : isIfaceT Tryz.prog 65 = some false := by kernel_rfl
@[go_sem] theorem fld_65_0 : fieldOf Tryz.prog 65 0 = some (0, 3) := by kernel_rfl
@[go_sem] theorem fld_65_1 : fieldOf Tryz.prog 65 1 = some (1, 4) := by kernel_rfl
@[go_sem] theorem plc_65 : placesOf Tryz.prog 65 = some [(0, 1), (1, 1)] := by kernel_rfl
@[go_sem] theorem tsz_66 : tsz Tryz.prog 66 = some 2 := by kernel_rfl
@[go_sem] theorem agg_66 : isAggT Tryz.prog 66 = some true := by kernel_rfl
@[go_sem] theorem zer_66 : zeroOf Tryz.prog 66 = some (.agg #[.int .i64 0, .bool false]) := by kernel_rfl
@[go_sem] theorem zcs_66 : zcs Tryz.prog 66 = some 2 := by kernel_rfl
@[go_sem] theorem str_66 : isStrT Tryz.prog 66 = false := by kernel_rfl
@[go_sem] theorem ifc_66 : isIfaceT Tryz.prog 66 = some false := by kernel_rfl
@[go_sem] theorem fld_66_0 : fieldOf Tryz.prog 66 0 = some (0, 3) := by kernel_rfl
@[go_sem] theorem fld_66_1 : fieldOf Tryz.prog 66 1 = some (1, 4) := by kernel_rfl
@[go_sem] theorem plc_66 : placesOf Tryz.prog 66 = some [(0, 1), (1, 1)] := by kernel_rfl
@[go_sem] theorem tsz_67 : tsz Tryz.prog 67 = some 1 := by kernel_rfl
@[go_sem] theorem agg_67 : isAggT Tryz.prog 67 = some false := by kernel_rfl
@[go_sem] theorem zer_67 : zeroOf Tryz.prog 67 = some (.nilFunc) := by kernel_rfl
@[go_sem] theorem zcs_67 : zcs Tryz.prog 67 = some 1 := by kernel_rfl
@[go_sem] theorem str_67 : isStrT Tryz.prog 67 = false := by kernel_rfl
@[go_sem] theorem ifc_67 : isIfaceT Tryz.prog 67 = some false := by kernel_rfl
@[go_sem] theorem tsz_68 : tsz Tryz.prog 68 = some 1 := by kernel_rfl
@[go_sem] theorem agg_68 : isAggT Tryz.prog 68 = some false := by kernel_rfl
@[go_sem] theorem zer_68 : zeroOf Tryz.prog 68 = some (.nilFunc) := by kernel_rfl
@[go_sem] theorem zcs_68 : zcs Tryz.prog 68 = some 1 := by kernel_rfl
@[go_sem] theorem str_68 : isStrT Tryz.prog 68 = false := by kernel_rfl
@[go_sem] theorem ifc_68 : isIfaceT Tryz.prog 68 = some false := by kernel_rfl
@[go_sem] theorem tsz_69 : tsz Tryz.prog 69 = some 1 := by kernel_rfl
@[go_sem] theorem agg_69 : isAggT Tryz.prog 69 = some false := by kernel_rfl
@[go_sem] theorem zer_69 : zeroOf Tryz.prog 69 = some (.slice none 0 0) := by kernel_rfl
@[go_sem] theorem zcs_69 : zcs Tryz.prog 69 = some 1 := by kernel_rfl
@[go_sem] theorem str_69 : isStrT Tryz.prog 69 = false := by kernel_rfl
@[go_sem] theorem ifc_69 : isIfaceT Tryz.prog 69 = some false := by kernel_rfl
@[go_sem] theorem und_69 : Tryz.prog.underlying 69 = some (.slice 9) := by kernel_rfl
@[go_sem] theorem elm_69 : elemT Tryz.prog 69 = some 9 := by kernel_rfl
@[go_sem] theorem tsz_70 : tsz Tryz.prog 70 = some 1 := by kernel_rfl
@[go_sem] theorem agg_70 : isAggT Tryz.prog 70 = some false := by kernel_rfl
@[go_sem] theorem zer_70 : zeroOf Tryz.prog 70 = some (.nilFunc) := by kernel_rfl
@[go_sem] theorem zcs_70 : zcs Tryz.prog 70 = some 1 := by kernel_rfl
@[go_sem] theorem str_70 : isStrT Tryz.prog 70 = false := by kernel_rfl
@[go_sem] theorem ifc_70 : isIfaceT Tryz.prog 70 = some false := by kernel_rfl
@[go_sem] theorem tsz_71 : tsz Tryz.prog 71 = some 1 := by kernel_rfl
@[go_sem] theorem agg_71 : isAggT Tryz.prog 71 = some false := by kernel_rfl
@[go_sem] theorem zer_71 : zeroOf Tryz.prog 71 = some (.nilFunc) := by kernel_rfl
@[go_sem] theorem zcs_71 : zcs Tryz.prog 71 = some 1 := by kernel_rfl
@[go_sem] theorem str_71 : isStrT Tryz.prog 71 = false := by kernel_rfl
@[go_sem] theorem ifc_71 : isIfaceT Tryz.prog 71 = some false := by kernel_rfl
@[go_sem] theorem tsz_72 : tsz Tryz.prog 72 = some 1 := by kernel_rfl
@[go_sem] theorem agg_72 : isAggT Tryz.prog 72 = some false := by kernel_rfl
@[go_sem] theorem zer_72 : zeroOf Tryz.prog 72 = some (.nilFunc) := by kernel_rfl
@[go_sem] theorem zcs_72 : zcs Tryz.prog 72 = some 1 := by kernel_rfl
@[go_sem] theorem str_72 : isStrT Tryz.prog 72 = false := by kernel_rfl
@[go_sem] theorem ifc_72 : isIfaceT Tryz.prog 72 = some false := by kernel_rfl
@[go_sem] theorem tsz_73 : tsz Tryz.prog 73 = some 1 := by kernel_rfl
@[go_sem] theorem agg_73 : isAggT Tryz.prog 73 = some false := by kernel_rfl
@[go_sem] theorem zer_73 : zeroOf Tryz.prog 73 = some (.nilFunc) := by kernel_rfl
@[go_sem] theorem zcs_73 : zcs Tryz.prog 73 = some 1 := by kernel_rfl
@[go_sem] theorem str_73 : isStrT Tryz.prog 73 = false := by kernel_rfl
@[go_sem] theorem ifc_73 : isIfaceT Tryz.prog 73 = some false := by kernel_rfl
@[go_sem] theorem tsz_74 : tsz Tryz.prog 74 = some 1 := by kernel_rfl
@[go_sem] theorem agg_74 : isAggT Tryz.prog 74 = some false := by kernel_rfl
@[go_sem] theorem zer_74 : zeroOf Tryz.prog 74 = some (.nilFunc) := by kernel_rfl
@[go_sem] theorem zcs_74 : zcs Tryz.prog 74 = some 1 := by kernel_rfl
@[go_sem] theorem str_74 : isStrT Tryz.prog 74 = false := by kernel_rfl
@[go_sem] theorem ifc_74 : isIfaceT Tryz.prog 74 = some false := by kernel_rfl
@[go_sem] theorem tsz_75 : tsz Tryz.prog 75 = some 1 := by kernel_rfl
@[go_sem] theorem agg_75 : isAggT Tryz.prog 75 = some false := by kernel_rfl
@[go_sem] theorem zer_75 : zeroOf Tryz.prog 75 = some (.nilFunc) := by kernel_rfl
@[go_sem] theorem zcs_75 : zcs Tryz.prog 75 = some 1 := by kernel_rfl
@[go_sem] theorem str_75 : isStrT Tryz.prog 75 = false := by kernel_rfl
@[go_sem] theorem ifc_75 : isIfaceT Tryz.prog 75 = some false := by kernel_rfl
@[go_sem] theorem tsz_76 : tsz Tryz.prog 76 = some 1 := by kernel_rfl
@[go_sem] theorem agg_76 : isAggT Tryz.prog 76 = some false := by kernel_rfl
@[go_sem] theorem zer_76 : zeroOf Tryz.prog 76 = some (.nilFunc) := by kernel_rfl
@[go_sem] theorem zcs_76 : zcs Tryz.prog 76 = some 1 := by kernel_rfl
@[go_sem] theorem str_76 : isStrT Tryz.prog 76 = false := by kernel_rfl
@[go_sem] theorem ifc_76 : isIfaceT Tryz.prog 76 = some false := by kernel_rfl
@[go_sem] theorem tsz_77 : tsz Tryz.prog 77 = some 1 := by kernel_rfl
@[go_sem] theorem agg_77 : isAggT Tryz.prog 77 = some false := by kernel_rfl
@[go_sem] theorem zer_77 : zeroOf Tryz.prog 77 = some (.slice none 0 0) := by kernel_rfl
@[go_sem] theorem zcs_77 : zcs Tryz.prog 77 = some 1 := by kernel_rfl
@[go_sem] theorem str_77 : isStrT Tryz.prog 77 = false := by kernel_rfl
@[go_sem] theorem ifc_77 : isIfaceT Tryz.prog 77 = some false := by kernel_rfl
@[go_sem] theorem und_77 : Tryz.prog.underlying 77 = some (.slice 3) := by kernel_rfl
@[go_sem] theorem elm_77 : elemT Tryz.prog 77 = some 3 := by kernel_rfl
@[go_sem] theorem tsz_78 : tsz Tryz.prog 78 = some 8 := by kernel_rfl
@[go_sem] theorem agg_78 : isAggT Tryz.prog 78 = some true := by kernel_rfl
@[go_sem] theorem zer_78 : zeroOf Tryz.prog 78 = some (.agg #[.int .i64 0, .string (⟨#[]⟩ : ByteArray), .string (⟨#[]⟩ : ByteArray), .int .i64 0, .int .i64 0, .float .f64 0, .string (⟨#[]⟩ : ByteArray), .slice none 0 0]) := by kernel_rfl
@[go_sem] theorem zcs_78 : zcs Tryz.prog 78 = some 8 := by kernel_rfl
@[go_sem] theorem str_78 : isStrT Tryz.prog 78 = false := by kernel_rfl
@[go_sem] theorem ifc_78 : isIfaceT Tryz.prog 78 = some false := by kernel_rfl
@[go_sem] theorem fld_78_0 : fieldOf Tryz.prog 78 0 = some (0, 3) := by kernel_rfl
@[go_sem] theorem fld_78_1 : fieldOf Tryz.prog 78 1 = some (1, 9) := by kernel_rfl
@[go_sem] theorem fld_78_2 : fieldOf Tryz.prog 78 2 = some (2, 9) := by kernel_rfl
@[go_sem] theorem fld_78_3 : fieldOf Tryz.prog 78 3 = some (3, 54) := by kernel_rfl
@[go_sem] theorem plc_78 : placesOf Tryz.prog 78 = some [(0, 1), (1, 1), (2, 1), (3, 5)] := by kernel_rfl
@[go_sem] theorem tsz_79 : tsz Tryz.prog 79 = some 8 := by kernel_rfl
@[go_sem] theorem agg_79 : isAggT Tryz.prog 79 = some true := by kernel_rfl
@[go_sem] theorem zer_79 : zeroOf Tryz.prog 79 = some (.agg #[.int .i64 0, .string (⟨#[]⟩ : ByteArray), .string (⟨#[]⟩ : ByteArray), .int .i64 0, .int .i64 0, .float .f64 0, .string (⟨#[]⟩ : ByteArray), .slice none 0 0]) := by kernel_rfl
@[go_sem] theorem zcs_79 : zcs Tryz.prog 79 = some 8 := by kernel_rfl
@[go_sem] theorem str_79 : isStrT Tryz.prog 79 = false := by kernel_rfl
@[go_sem] theorem ifc_79 : isIfaceT Tryz.prog 79 = some false := by kernel_rfl
@[go_sem] theorem fld_79_0 : fieldOf Tryz.prog 79 0 = some (0, 3) := by kernel_rfl
@[go_sem] theorem fld_79_1 : fieldOf Tryz.prog 79 1 = some (1, 9) := by kernel_rfl
@[go_sem] theorem fld_79_2 : fieldOf Tryz.prog 79 2 = some (2, 9) := by kernel_rfl
@[go_sem] theorem fld_79_3 : fieldOf Tryz.prog 79 3 = some (3, 54) := by kernel_rfl
@[go_sem] theorem plc_79 : placesOf Tryz.prog 79 = some [(0, 1), (1, 1), (2, 1), (3, 5)] := by kernel_rfl
@[go_sem] theorem tsz_80 : tsz Tryz.prog 80 = some 1 := by kernel_rfl
@[go_sem] theorem agg_80 : isAggT Tryz.prog 80 = some false := by kernel_rfl
@[go_sem] theorem zer_80 : zeroOf Tryz.prog 80 = some (.nilFunc) := by kernel_rfl
@[go_sem] theorem zcs_80 : zcs Tryz.prog 80 = some 1 := by kernel_rfl
@[go_sem] theorem str_80 : isStrT Tryz.prog 80 = false := by kernel_rfl
@[go_sem] theorem ifc_80 : isIfaceT Tryz.prog 80 = some false := by kernel_rfl
@[go_sem] theorem tsz_81 : tsz Tryz.prog 81 = some 8 := by kernel_rfl
@[go_sem] theorem agg_81 : isAggT Tryz.prog 81 = some true := by kernel_rfl
@[go_sem] theorem zer_81 : zeroOf Tryz.prog 81 = some (.agg #[.int .i64 0, .string (⟨#[]⟩ : ByteArray), .string (⟨#[]⟩ : ByteArray), .int .i64 0, .int .i64 0, .float .f64 0, .string (⟨#[]⟩ : ByteArray), .slice none 0 0]) := by kernel_rfl
@[go_sem] theorem zcs_81 : zcs Tryz.prog 81 = some 8 := by kernel_rfl
@[go_sem] theorem str_81 : isStrT Tryz.prog 81 = false := by kernel_rfl
@[go_sem] theorem ifc_81 : isIfaceT Tryz.prog 81 = some false := by kernel_rfl
@[go_sem] theorem fld_81_0 : fieldOf Tryz.prog 81 0 = some (0, 3) := by kernel_rfl
@[go_sem] theorem fld_81_1 : fieldOf Tryz.prog 81 1 = some (1, 9) := by kernel_rfl
@[go_sem] theorem fld_81_2 : fieldOf Tryz.prog 81 2 = some (2, 9) := by kernel_rfl
@[go_sem] theorem fld_81_3 : fieldOf Tryz.prog 81 3 = some (3, 54) := by kernel_rfl
@[go_sem] theorem plc_81 : placesOf Tryz.prog 81 = some [(0, 1), (1, 1), (2, 1), (3, 5)] := by kernel_rfl
@[go_sem] theorem tsz_82 : tsz Tryz.prog 82 = some 1 := by kernel_rfl
@[go_sem] theorem agg_82 : isAggT Tryz.prog 82 = some false := by kernel_rfl
@[go_sem] theorem zer_82 : zeroOf Tryz.prog 82 = some (.nilFunc) := by kernel_rfl
@[go_sem] theorem zcs_82 : zcs Tryz.prog 82 = some 1 := by kernel_rfl
@[go_sem] theorem str_82 : isStrT Tryz.prog 82 = false := by kernel_rfl
@[go_sem] theorem ifc_82 : isIfaceT Tryz.prog 82 = some false := by kernel_rfl
@[go_sem] theorem tsz_83 : tsz Tryz.prog 83 = some 1 := by kernel_rfl
@[go_sem] theorem agg_83 : isAggT Tryz.prog 83 = some false := by kernel_rfl
@[go_sem] theorem zer_83 : zeroOf Tryz.prog 83 = some (.nilFunc) := by kernel_rfl
@[go_sem] theorem zcs_83 : zcs Tryz.prog 83 = some 1 := by kernel_rfl
@[go_sem] theorem str_83 : isStrT Tryz.prog 83 = false := by kernel_rfl
@[go_sem] theorem ifc_83 : isIfaceT Tryz.prog 83 = some false := by kernel_rfl
@[go_sem] theorem tsz_84 : tsz Tryz.prog 84 = some 1 := by kernel_rfl
@[go_sem] theorem agg_84 : isAggT Tryz.prog 84 = some false := by kernel_rfl
@[go_sem] theorem zer_84 : zeroOf Tryz.prog 84 = some (.nilFunc) := by kernel_rfl
@[go_sem] theorem zcs_84 : zcs Tryz.prog 84 = some 1 := by kernel_rfl
@[go_sem] theorem str_84 : isStrT Tryz.prog 84 = false := by kernel_rfl
@[go_sem] theorem ifc_84 : isIfaceT Tryz.prog 84 = some false := by kernel_rfl
@[go_sem] theorem tsz_85 : tsz Tryz.prog 85 = some 1 := by kernel_rfl
@[go_sem] theorem agg_85 : isAggT Tryz.prog 85 = some false := by kernel_rfl
@[go_sem] theorem zer_85 : zeroOf Tryz.prog 85 = some (.nilFunc) := by kernel_rfl
@[go_sem] theorem zcs_85 : zcs Tryz.prog 85 = some 1 := by kernel_rfl
@[go_sem] theorem str_85 : isStrT Tryz.prog 85 = false := by kernel_rfl
@[go_sem] theorem ifc_85 : isIfaceT Tryz.prog 85 = some false := by kernel_rfl
@[go_sem] theorem tsz_86 : tsz Tryz.prog 86 = some 1 := by kernel_rfl
@[go_sem] theorem agg_86 : isAggT Tryz.prog 86 = some false := by kernel_rfl
@[go_sem] theorem zer_86 : zeroOf Tryz.prog 86 = some (.nilFunc) := by kernel_rfl
@[go_sem] theorem zcs_86 : zcs Tryz.prog 86 = some 1 := by kernel_rfl
@[go_sem] theorem str_86 : isStrT Tryz.prog 86 = false := by kernel_rfl
@[go_sem] theorem ifc_86 : isIfaceT Tryz.prog 86 = some false := by kernel_rfl
@[go_sem] theorem tsz_87 : tsz Tryz.prog 87 = some 1 := by kernel_rfl
@[go_sem] theorem agg_87 : isAggT Tryz.prog 87 = some false := by kernel_rfl
@[go_sem] theorem zer_87 : zeroOf Tryz.prog 87 = some (.nilFunc) := by kernel_rfl
@[go_sem] theorem zcs_87 : zcs Tryz.prog 87 = some 1 := by kernel_rfl
@[go_sem] theorem str_87 : isStrT Tryz.prog 87 = false := by kernel_rfl
@[go_sem] theorem ifc_87 : isIfaceT Tryz.prog 87 = some false := by kernel_rfl
@[go_sem] theorem tsz_88 : tsz Tryz.prog 88 = some 1 := by kernel_rfl
@[go_sem] theorem agg_88 : isAggT Tryz.prog 88 = some false := by kernel_rfl
@[go_sem] theorem zer_88 : zeroOf Tryz.prog 88 = some (.nilFunc) := by kernel_rfl
@[go_sem] theorem zcs_88 : zcs Tryz.prog 88 = some 1 := by kernel_rfl
@[go_sem] theorem str_88 : isStrT Tryz.prog 88 = false := by kernel_rfl
@[go_sem] theorem ifc_88 : isIfaceT Tryz.prog 88 = some false := by kernel_rfl
@[go_sem] theorem tsz_89 : tsz Tryz.prog 89 = some 1 := by kernel_rfl
@[go_sem] theorem agg_89 : isAggT Tryz.prog 89 = some false := by kernel_rfl
@[go_sem] theorem zer_89 : zeroOf Tryz.prog 89 = some (.nilFunc) := by kernel_rfl
@[go_sem] theorem zcs_89 : zcs Tryz.prog 89 = some 1 := by kernel_rfl
@[go_sem] theorem str_89 : isStrT Tryz.prog 89 = false := by kernel_rfl
@[go_sem] theorem ifc_89 : isIfaceT Tryz.prog 89 = some false := by kernel_rfl
@[go_sem] theorem tsz_90 : tsz Tryz.prog 90 = some 1 := by kernel_rfl
@[go_sem] theorem agg_90 : isAggT Tryz.prog 90 = some false := by kernel_rfl
@[go_sem] theorem zer_90 : zeroOf Tryz.prog 90 = some (.nilFunc) := by kernel_rfl
@[go_sem] theorem zcs_90 : zcs Tryz.prog 90 = some 1 := by kernel_rfl
@[go_sem] theorem str_90 : isStrT Tryz.prog 90 = false := by kernel_rfl
@[go_sem] theorem ifc_90 : isIfaceT Tryz.prog 90 = some false := by kernel_rfl
@[go_sem] theorem tsz_91 : tsz Tryz.prog 91 = some 1 := by kernel_rfl
@[go_sem] theorem agg_91 : isAggT Tryz.prog 91 = some false := by kernel_rfl
@[go_sem] theorem zer_91 : zeroOf Tryz.prog 91 = some (.pointer none) := by kernel_rfl
@[go_sem] theorem zcs_91 : zcs Tryz.prog 91 = some 1 := by kernel_rfl
@[go_sem] theorem str_91 : isStrT Tryz.prog 91 = false := by kernel_rfl
@[go_sem] theorem ifc_91 : isIfaceT Tryz.prog 91 = some false := by kernel_rfl
@[go_sem] theorem tsz_92 : tsz Tryz.prog 92 = some 1 := by kernel_rfl
@[go_sem] theorem agg_92 : isAggT Tryz.prog 92 = some false := by kernel_rfl
@[go_sem] theorem zer_92 : zeroOf Tryz.prog 92 = some (.slice none 0 0) := by kernel_rfl
@[go_sem] theorem zcs_92 : zcs Tryz.prog 92 = some 1 := by kernel_rfl
@[go_sem] theorem str_92 : isStrT Tryz.prog 92 = false := by kernel_rfl
@[go_sem] theorem ifc_92 : isIfaceT Tryz.prog 92 = some false := by kernel_rfl
@[go_sem] theorem und_92 : Tryz.prog.underlying 92 = some (.slice 5) := by kernel_rfl
@[go_sem] theorem elm_92 : elemT Tryz.prog 92 = some 5 := by kernel_rfl
@[go_sem] theorem tsz_93 : tsz Tryz.prog 93 = some 2 := by kernel_rfl
@[go_sem] theorem agg_93 : isAggT Tryz.prog 93 = some true := by kernel_rfl
@[go_sem] theorem zer_93 : zeroOf Tryz.prog 93 = some (.agg #[.pointer none, .slice none 0 0]) := by kernel_rfl
@[go_sem] theorem zcs_93 : zcs Tryz.prog 93 = some 2 := by kernel_rfl
@[go_sem] theorem str_93 : isStrT Tryz.prog 93 = false := by kernel_rfl
@[go_sem] theorem ifc_93 : isIfaceT Tryz.prog 93 = some false := by kernel_rfl
@[go_sem] theorem fld_93_0 : fieldOf Tryz.prog 93 0 = some (0, 91) := by kernel_rfl
@[go_sem] theorem fld_93_1 : fieldOf Tryz.prog 93 1 = some (1, 92) := by kernel_rfl
@[go_sem] theorem plc_93 : placesOf Tryz.prog 93 = some [(0, 1), (1, 1)] := by kernel_rfl
@[go_sem] theorem tsz_94 : tsz Tryz.prog 94 = some 2 := by kernel_rfl
@[go_sem] theorem agg_94 : isAggT Tryz.prog 94 = some true := by kernel_rfl
@[go_sem] theorem zer_94 : zeroOf Tryz.prog 94 = some (.agg #[.pointer none, .slice none 0 0]) := by kernel_rfl
@[go_sem] theorem zcs_94 : zcs Tryz.prog 94 = some 2 := by kernel_rfl
@[go_sem] theorem str_94 : isStrT Tryz.prog 94 = false := by kernel_rfl
@[go_sem] theorem ifc_94 : isIfaceT Tryz.prog 94 = some false := by kernel_rfl
@[go_sem] theorem fld_94_0 : fieldOf Tryz.prog 94 0 = some (0, 91) := by kernel_rfl
@[go_sem] theorem fld_94_1 : fieldOf Tryz.prog 94 1 = some (1, 92) := by kernel_rfl
@[go_sem] theorem plc_94 : placesOf Tryz.prog 94 = some [(0, 1), (1, 1)] := by kernel_rfl
@[go_sem] theorem tsz_95 : tsz Tryz.prog 95 = some 1 := by kernel_rfl
@[go_sem] theorem agg_95 : isAggT Tryz.prog 95 = some false := by kernel_rfl
@[go_sem] theorem zer_95 : zeroOf Tryz.prog 95 = some (.nilFunc) := by kernel_rfl
@[go_sem] theorem zcs_95 : zcs Tryz.prog 95 = some 1 := by kernel_rfl
@[go_sem] theorem str_95 : isStrT Tryz.prog 95 = false := by kernel_rfl
@[go_sem] theorem ifc_95 : isIfaceT Tryz.prog 95 = some false := by kernel_rfl
@[go_sem] theorem tsz_96 : tsz Tryz.prog 96 = some 1 := by kernel_rfl
@[go_sem] theorem agg_96 : isAggT Tryz.prog 96 = some false := by kernel_rfl
@[go_sem] theorem zer_96 : zeroOf Tryz.prog 96 = some (.nilIface) := by kernel_rfl
@[go_sem] theorem zcs_96 : zcs Tryz.prog 96 = some 1 := by kernel_rfl
@[go_sem] theorem str_96 : isStrT Tryz.prog 96 = false := by kernel_rfl
@[go_sem] theorem ifc_96 : isIfaceT Tryz.prog 96 = some true := by kernel_rfl
@[go_sem] theorem tsz_97 : tsz Tryz.prog 97 = some 1 := by kernel_rfl
@[go_sem] theorem agg_97 : isAggT Tryz.prog 97 = some false := by kernel_rfl
@[go_sem] theorem zer_97 : zeroOf Tryz.prog 97 = some (.nilIface) := by kernel_rfl
@[go_sem] theorem zcs_97 : zcs Tryz.prog 97 = some 1 := by kernel_rfl
@[go_sem] theorem str_97 : isStrT Tryz.prog 97 = false := by kernel_rfl
@[go_sem] theorem ifc_97 : isIfaceT Tryz.prog 97 = some true := by kernel_rfl
@[go_sem] theorem tsz_99 : tsz Tryz.prog 99 = some 1 := by kernel_rfl
@[go_sem] theorem agg_99 : isAggT Tryz.prog 99 = some false := by kernel_rfl
@[go_sem] theorem zer_99 : zeroOf Tryz.prog 99 = some (.nilFunc) := by kernel_rfl
@[go_sem] theorem zcs_99 : zcs Tryz.prog 99 = some 1 := by kernel_rfl
@[go_sem] theorem str_99 : isStrT Tryz.prog 99 = false := by kernel_rfl
@[go_sem] theorem ifc_99 : isIfaceT Tryz.prog 99 = some false := by kernel_rfl
@[go_sem] theorem tsz_100 : tsz Tryz.prog 100 = some 1 := by kernel_rfl
@[go_sem] theorem agg_100 : isAggT Tryz.prog 100 = some false := by kernel_rfl
@[go_sem] theorem zer_100 : zeroOf Tryz.prog 100 = some (.nilFunc) := by kernel_rfl
@[go_sem] theorem zcs_100 : zcs Tryz.prog 100 = some 1 := by kernel_rfl
@[go_sem] theorem str_100 : isStrT Tryz.prog 100 = false := by kernel_rfl
@[go_sem] theorem ifc_100 : isIfaceT Tryz.prog 100 = some false := by kernel_rfl
@[go_sem] theorem tsz_101 : tsz Tryz.prog 101 = some 1 := by kernel_rfl
@[go_sem] theorem agg_101 : isAggT Tryz.prog 101 = some false := by kernel_rfl
@[go_sem] theorem zer_101 : zeroOf Tryz.prog 101 = some (.nilFunc) := by kernel_rfl
@[go_sem] theorem zcs_101 : zcs Tryz.prog 101 = some 1 := by kernel_rfl
@[go_sem] theorem str_101 : isStrT Tryz.prog 101 = false := by kernel_rfl
@[go_sem] theorem ifc_101 : isIfaceT Tryz.prog 101 = some false := by kernel_rfl
@[go_sem] theorem tsz_102 : tsz Tryz.prog 102 = some 1 := by kernel_rfl
@[go_sem] theorem agg_102 : isAggT Tryz.prog 102 = some false := by kernel_rfl
@[go_sem] theorem zer_102 : zeroOf Tryz.prog 102 = some (.nilFunc) := by kernel_rfl
@[go_sem] theorem zcs_102 : zcs Tryz.prog 102 = some 1 := by kernel_rfl
@[go_sem] theorem str_102 : isStrT Tryz.prog 102 = false := by kernel_rfl
@[go_sem] theorem ifc_102 : isIfaceT Tryz.prog 102 = some false := by kernel_rfl
@[go_sem] theorem tsz_103 : tsz Tryz.prog 103 = some 1 := by kernel_rfl
@[go_sem] theorem agg_103 : isAggT Tryz.prog 103 = some false := by kernel_rfl
@[go_sem] theorem zer_103 : zeroOf Tryz.prog 103 = some (.nilFunc) := by kernel_rfl
@[go_sem] theorem zcs_103 : zcs Tryz.prog 103 = some 1 := by kernel_rfl
@[go_sem] theorem str_103 : isStrT Tryz.prog 103 = false := by kernel_rfl
@[go_sem] theorem ifc_103 : isIfaceT Tryz.prog 103 = some false := by kernel_rfl
@[go_sem] theorem tsz_104 : tsz Tryz.prog 104 = some 4 := by kernel_rfl
@[go_sem] theorem agg_104 : isAggT Tryz.prog 104 = some true := by kernel_rfl
@[go_sem] theorem zer_104 : zeroOf Tryz.prog 104 = some (.agg #[.int .i64 0, .int .i64 0, .float .f64 0, .string (⟨#[]⟩ : ByteArray)]) := by kernel_rfl
@[go_sem] theorem zcs_104 : zcs Tryz.prog 104 = some 4 := by kernel_rfl
@[go_sem] theorem str_104 : isStrT Tryz.prog 104 = false := by kernel_rfl
@[go_sem] theorem ifc_104 : isIfaceT Tryz.prog 104 = some false := by kernel_rfl
@[go_sem] theorem fld_104_0 : fieldOf Tryz.prog 104 0 = some (0, 51) := by kernel_rfl
@[go_sem] theorem plc_104 : placesOf Tryz.prog 104 = some [(0, 4)] := by kernel_rfl
@[go_sem] theorem tsz_105 : tsz Tryz.prog 105 = some 4 := by kernel_rfl
@[go_sem] theorem agg_105 : isAggT Tryz.prog 105 = some true := by kernel_rfl
@[go_sem] theorem zer_105 : zeroOf Tryz.prog 105 = some (.agg #[.int .i64 0, .int .i64 0, .float .f64 0, .string (⟨#[]⟩ : ByteArray)]) := by kernel_rfl
@[go_sem] theorem zcs_105 : zcs Tryz.prog 105 = some 4 := by kernel_rfl
@[go_sem] theorem str_105 : isStrT Tryz.prog 105 = false := by kernel_rfl
@[go_sem] theorem ifc_105 : isIfaceT Tryz.prog 105 = some false := by kernel_rfl
@[go_sem] theorem fld_105_0 : fieldOf Tryz.prog 105 0 = some (0, 51) := by kernel_rfl
@[go_sem] theorem plc_105 : placesOf Tryz.prog 105 = some [(0, 4)] := by kernel_rfl
@[go_sem] theorem tsz_106 : tsz Tryz.prog 106 = some 1 := by kernel_rfl
@[go_sem] theorem agg_106 : isAggT Tryz.prog 106 = some false := by kernel_rfl
@[go_sem] theorem zer_106 : zeroOf Tryz.prog 106 = some (.pointer none) := by kernel_rfl
@[go_sem] theorem zcs_106 : zcs Tryz.prog 106 = some 1 := by kernel_rfl
@[go_sem] theorem str_106 : isStrT Tryz.prog 106 = false := by kernel_rfl
@[go_sem] theorem ifc_106 : isIfaceT Tryz.prog 106 = some false := by kernel_rfl
@[go_sem] theorem tsz_107 : tsz Tryz.prog 107 = some 1 := by kernel_rfl
@[go_sem] theorem agg_107 : isAggT Tryz.prog 107 = some false := by kernel_rfl
@[go_sem] theorem zer_107 : zeroOf Tryz.prog 107 = some (.nilFunc) := by kernel_rfl
@[go_sem] theorem zcs_107 : zcs Tryz.prog 107 = some 1 := by kernel_rfl
@[go_sem] theorem str_107 : isStrT Tryz.prog 107 = false := by kernel_rfl
@[go_sem] theorem ifc_107 : isIfaceT Tryz.prog 107 = some false := by kernel_rfl
@[go_sem] theorem tsz_108 : tsz Tryz.prog 108 = some 1 := by kernel_rfl
@[go_sem] theorem agg_108 : isAggT Tryz.prog 108 = some false := by kernel_rfl
@[go_sem] theorem zer_108 : zeroOf Tryz.prog 108 = some (.nilFunc) := by kernel_rfl
@[go_sem] theorem zcs_108 : zcs Tryz.prog 108 = some 1 := by kernel_rfl
@[go_sem] theorem str_108 : isStrT Tryz.prog 108 = false := by kernel_rfl
@[go_sem] theorem ifc_108 : isIfaceT Tryz.prog 108 = some false := by kernel_rfl
@[go_sem] theorem tsz_109 : tsz Tryz.prog 109 = some 1 := by kernel_rfl
@[go_sem] theorem agg_109 : isAggT Tryz.prog 109 = some false := by kernel_rfl
@[go_sem] theorem zer_109 : zeroOf Tryz.prog 109 = some (.nilFunc) := by kernel_rfl
@[go_sem] theorem zcs_109 : zcs Tryz.prog 109 = some 1 := by kernel_rfl
@[go_sem] theorem str_109 : isStrT Tryz.prog 109 = false := by kernel_rfl
@[go_sem] theorem ifc_109 : isIfaceT Tryz.prog 109 = some false := by kernel_rfl
@[go_sem] theorem tsz_110 : tsz Tryz.prog 110 = some 1 := by kernel_rfl
@[go_sem] theorem agg_110 : isAggT Tryz.prog 110 = some false := by kernel_rfl
@[go_sem] theorem zer_110 : zeroOf Tryz.prog 110 = some (.nilFunc) := by kernel_rfl
@[go_sem] theorem zcs_110 : zcs Tryz.prog 110 = some 1 := by kernel_rfl
@[go_sem] theorem str_110 : isStrT Tryz.prog 110 = false := by kernel_rfl
@[go_sem] theorem ifc_110 : isIfaceT Tryz.prog 110 = some false := by kernel_rfl
@[go_sem] theorem tsz_111 : tsz Tryz.prog 111 = some 1 := by kernel_rfl
@[go_sem] theorem agg_111 : isAggT Tryz.prog 111 = some false := by kernel_rfl
@[go_sem] theorem zer_111 : zeroOf Tryz.prog 111 = some (.nilFunc) := by kernel_rfl
@[go_sem] theorem zcs_111 : zcs Tryz.prog 111 = some 1 := by kernel_rfl
@[go_sem] theorem str_111 : isStrT Tryz.prog 111 = false := by kernel_rfl
@[go_sem] theorem ifc_111 : isIfaceT Tryz.prog 111 = some false := by kernel_rfl
@[go_sem] theorem tsz_112 : tsz Tryz.prog 112 = some 1 := by kernel_rfl
@[go_sem] theorem agg_112 : isAggT Tryz.prog 112 = some false := by kernel_rfl
@[go_sem] theorem zer_112 : zeroOf Tryz.prog 112 = some (.nilFunc) := by kernel_rfl
@[go_sem] theorem zcs_112 : zcs Tryz.prog 112 = some 1 := by kernel_rfl
@[go_sem] theorem str_112 : isStrT Tryz.prog 112 = false := by kernel_rfl
@[go_sem] theorem ifc_112 : isIfaceT Tryz.prog 112 = some false := by kernel_rfl
@[go_sem] theorem tsz_113 : tsz Tryz.prog 113 = some 1 := by kernel_rfl
@[go_sem] theorem agg_113 : isAggT Tryz.prog 113 = some false := by kernel_rfl
@[go_sem] theorem zer_113 : zeroOf Tryz.prog 113 = some (.nilFunc) := by kernel_rfl
@[go_sem] theorem zcs_113 : zcs Tryz.prog 113 = some 1 := by kernel_rfl
@[go_sem] theorem str_113 : isStrT Tryz.prog 113 = false := by kernel_rfl
@[go_sem] theorem ifc_113 : isIfaceT Tryz.prog 113 = some false := by kernel_rfl
@[go_sem] theorem tsz_115 : tsz Tryz.prog 115 = some 1 := by kernel_rfl
@[go_sem] theorem agg_115 : isAggT Tryz.prog 115 = some false := by kernel_rfl
@[go_sem] theorem zer_115 : zeroOf Tryz.prog 115 = some (.nilFunc) := by kernel_rfl
@[go_sem] theorem zcs_115 : zcs Tryz.prog 115 = some 1 := by kernel_rfl
@[go_sem] theorem str_115 : isStrT Tryz.prog 115 = false := by kernel_rfl
@[go_sem] theorem ifc_115 : isIfaceT Tryz.prog 115 = some false := by kernel_rfl
@[go_sem] theorem tsz_116 : tsz Tryz.prog 116 = some 1 := by kernel_rfl
@[go_sem] theorem agg_116 : isAggT Tryz.prog 116 = some false := by kernel_rfl
@[go_sem] theorem zer_116 : zeroOf Tryz.prog 116 = some (.nilFunc) := by kernel_rfl
@[go_sem] theorem zcs_116 : zcs Tryz.prog 116 = some 1 := by kernel_rfl
@[go_sem] theorem str_116 : isStrT Tryz.prog 116 = false := by kernel_rfl
@[go_sem] theorem ifc_116 : isIfaceT Tryz.prog 116 = some false := by kernel_rfl
@[go_sem] theorem tsz_117 : tsz Tryz.prog 117 = some 24 := by kernel_rfl
@[go_sem] theorem agg_117 : isAggT Tryz.prog 117 = some true := by kernel_rfl
@[go_sem] theorem zer_117 : zeroOf Tryz.prog 117 = some (.agg #[.int .u8 0, .int .u8 0, .int .u8 0, .int .u8 0, .int .u8 0, .int .u8 0, .int .u8 0, .int .u8 0, .int .u8 0, .int .u8 0, .int .u8 0, .int .u8 0, .int .u8 0, .int .u8 0, .int .u8 0, .int .u8 0, .int .u8 0, .int .u8 0, .int .u8 0, .int .u8 0, .int .u8 0, .int .u8 0, .int .u8 0, .int .u8 0]) := by kernel_rfl
@[go_sem] theorem zcs_117 : zcs Tryz.prog 117 = some 24 := by kernel_rfl
@[go_sem] theorem str_117 : isStrT Tryz.prog 117 = false := by kernel_rfl
@[go_sem] theorem ifc_117 : isIfaceT Tryz.prog 117 = some false := by kernel_rfl
@[go_sem] theorem elm_117 : elemT Tryz.prog 117 = none := by kernel_rfl
@[go_sem] theorem plc_117 : placesOf Tryz.prog 117 = none := by kernel_rfl
@[go_sem] theorem arr_117 : arrT Tryz.prog 117 = some (24, 5) := by kernel_rfl
@[go_sem] theorem tsz_118 : tsz Tryz.prog 118 = some 1 := by kernel_rfl
@[go_sem] theorem agg_118 : isAggT Tryz.prog 118 = some false := by kernel_rfl
@[go_sem] theorem zer_118 : zeroOf Tryz.prog 118 = some (.int .u64 0) := by kernel_rfl
@[go_sem] theorem zcs_118 : zcs Tryz.prog 118 = some 1 := by kernel_rfl
@[go_sem] theorem str_118 : isStrT Tryz.prog 118 = false := by kernel_rfl
@[go_sem] theorem ifc_118 : isIfaceT Tryz.prog 118 = some false := by kernel_rfl
@[go_sem] theorem int_118 : intT Tryz.prog 118 = some .u64 := by kernel_rfl
@[go_sem] theorem und_118 : Tryz.prog.underlying 118 = some (.int .u64) := by kernel_rfl
@[go_sem] theorem tsz_119 : tsz Tryz.prog 119 = some 1 := by kernel_rfl
@[go_sem] theorem agg_119 : isAggT Tryz.prog 119 = some false := by kernel_rfl
@[go_sem] theorem zer_119 : zeroOf Tryz.prog 119 = some (.nilFunc) := by kernel_rfl
@[go_sem] theorem zcs_119 : zcs Tryz.prog 119 = some 1 := by kernel_rfl
@[go_sem] theorem str_119 : isStrT Tryz.prog 119 = false := by kernel_rfl
@[go_sem] theorem ifc_119 : isIfaceT Tryz.prog 119 = some false := by kernel_rfl
@[go_sem] theorem tsz_120 : tsz Tryz.prog 120 = some 1 := by kernel_rfl
@[go_sem] theorem agg_120 : isAggT Tryz.prog 120 = some false := by kernel_rfl
@[go_sem] theorem zer_120 : zeroOf Tryz.prog 120 = some (.nilFunc) := by kernel_rfl
@[go_sem] theorem zcs_120 : zcs Tryz.prog 120 = some 1 := by kernel_rfl
@[go_sem] theorem str_120 : isStrT Tryz.prog 120 = false := by kernel_rfl
@[go_sem] theorem ifc_120 : isIfaceT Tryz.prog 120 = some false := by kernel_rfl
@[go_sem] theorem tsz_122 : tsz Tryz.prog 122 = some 1 := by kernel_rfl
@[go_sem] theorem agg_122 : isAggT Tryz.prog 122 = some false := by kernel_rfl
@[go_sem] theorem zer_122 : zeroOf Tryz.prog 122 = some (.nilFunc) := by kernel_rfl
@[go_sem] theorem zcs_122 : zcs Tryz.prog 122 = some 1 := by kernel_rfl
@[go_sem] theorem str_122 : isStrT Tryz.prog 122 = false := by kernel_rfl
@[go_sem] theorem ifc_122 : isIfaceT Tryz.prog 122 = some false := by kernel_rfl
@[go_sem] theorem tsz_123 : tsz Tryz.prog 123 = some 1 := by kernel_rfl
@[go_sem] theorem agg_123 : isAggT Tryz.prog 123 = some false := by kernel_rfl
@[go_sem] theorem zer_123 : zeroOf Tryz.prog 123 = some (.nilFunc) := by kernel_rfl
@[go_sem] theorem zcs_123 : zcs Tryz.prog 123 = some 1 := by kernel_rfl
@[go_sem] theorem str_123 : isStrT Tryz.prog 123 = false := by kernel_rfl
@[go_sem] theorem ifc_123 : isIfaceT Tryz.prog 123 = some false := by kernel_rfl
@[go_sem] theorem tsz_124 : tsz Tryz.prog 124 = some 1 := by kernel_rfl
@[go_sem] theorem agg_124 : isAggT Tryz.prog 124 = some false := by kernel_rfl
@[go_sem] theorem zer_124 : zeroOf Tryz.prog 124 = some (.nilFunc) := by kernel_rfl
@[go_sem] theorem zcs_124 : zcs Tryz.prog 124 = some 1 := by kernel_rfl
@[go_sem] theorem str_124 : isStrT Tryz.prog 124 = false := by kernel_rfl
@[go_sem] theorem ifc_124 : isIfaceT Tryz.prog 124 = some false := by kernel_rfl
@[go_sem] theorem tsz_125 : tsz Tryz.prog 125 = some 1 := by kernel_rfl
@[go_sem] theorem agg_125 : isAggT Tryz.prog 125 = some false := by kernel_rfl
@[go_sem] theorem zer_125 : zeroOf Tryz.prog 125 = some (.nilFunc) := by kernel_rfl
@[go_sem] theorem zcs_125 : zcs Tryz.prog 125 = some 1 := by kernel_rfl
@[go_sem] theorem str_125 : isStrT Tryz.prog 125 = false := by kernel_rfl
@[go_sem] theorem ifc_125 : isIfaceT Tryz.prog 125 = some false := by kernel_rfl
@[go_sem] theorem tsz_126 : tsz Tryz.prog 126 = some 22 := by kernel_rfl
@[go_sem] theorem agg_126 : isAggT Tryz.prog 126 = some true := by kernel_rfl
@[go_sem] theorem zer_126 : zeroOf Tryz.prog 126 = some (.agg #[.string (⟨#[]⟩ : ByteArray), .string (⟨#[]⟩ : ByteArray), .string (⟨#[]⟩ : ByteArray), .string (⟨#[]⟩ : ByteArray), .string (⟨#[]⟩ : ByteArray), .string (⟨#[]⟩ : ByteArray), .string (⟨#[]⟩ : ByteArray), .string (⟨#[]⟩ : ByteArray), .string (⟨#[]⟩ : ByteArray), .string (⟨#[]⟩ : ByteArray), .string (⟨#[]⟩ : ByteArray), .string (⟨#[]⟩ : ByteArray), .string (⟨#[]⟩ : ByteArray), .string (⟨#[]⟩ : ByteArray), .string (⟨#[]⟩ : ByteArray), .string (⟨#[]⟩ : ByteArray), .string (⟨#[]⟩ : ByteArray), .string (⟨#[]⟩ : ByteArray), .string (⟨#[]⟩ : ByteArray), .string (⟨#[]⟩ : ByteArray), .string (⟨#[]⟩ : ByteArray), .string (⟨#[]⟩ : ByteArray)]) := by kernel_rfl
@[go_sem] theorem zcs_126 : zcs Tryz.prog 126 = some 22 := by kernel_rfl
@[go_sem] theorem str_126 : isStrT Tryz.prog 126 = false := by kernel_rfl
@[go_sem] theorem ifc_126 : isIfaceT Tryz.prog 126 = some false := by kernel_rfl
@[go_sem] theorem elm_126 : elemT Tryz.prog 126 = none := by kernel_rfl
@[go_sem] theorem plc_126 : placesOf Tryz.prog 126 = none := by kernel_rfl
@[go_sem] theorem arr_126 : arrT Tryz.prog 126 = some (22, 9) := by kernel_rfl
@[go_sem] theorem tsz_127 : tsz Tryz.prog 127 = some 1 := by kernel_rfl
@[go_sem] theorem agg_127 : isAggT Tryz.prog 127 = some false := by kernel_rfl
@[go_sem] theorem zer_127 : zeroOf Tryz.prog 127 = some (.nilFunc) := by kernel_rfl
@[go_sem] theorem zcs_127 : zcs Tryz.prog 127 = some 1 := by kernel_rfl
@[go_sem] theorem str_127 : isStrT Tryz.prog 127 = false := by kernel_rfl
@[go_sem] theorem ifc_127 : isIfaceT Tryz.prog 127 = some false := by kernel_rfl
@[go_sem] theorem tsz_128 : tsz Tryz.prog 128 = some 1 := by kernel_rfl
@[go_sem] theorem agg_128 : isAggT Tryz.prog 128 = some false := by kernel_rfl
@[go_sem] theorem zer_128 : zeroOf Tryz.prog 128 = some (.nilFunc) := by kernel_rfl
@[go_sem] theorem zcs_128 : zcs Tryz.prog 128 = some 1 := by kernel_rfl
@[go_sem] theorem str_128 : isStrT Tryz.prog 128 = false := by kernel_rfl
@[go_sem] theorem ifc_128 : isIfaceT Tryz.prog 128 = some false := by kernel_rfl
@[go_sem] theorem tsz_129 : tsz Tryz.prog 129 = some 1 := by kernel_rfl
@[go_sem] theorem agg_129 : isAggT Tryz.prog 129 = some false := by kernel_rfl
@[go_sem] theorem zer_129 : zeroOf Tryz.prog 129 = some (.nilFunc) := by kernel_rfl
@[go_sem] theorem zcs_129 : zcs Tryz.prog 129 = some 1 := by kernel_rfl
@[go_sem] theorem str_129 : isStrT Tryz.prog 129 = false := by kernel_rfl
@[go_sem] theorem ifc_129 : isIfaceT Tryz.prog 129 = some false := by kernel_rfl
@[go_sem] theorem tsz_130 : tsz Tryz.prog 130 = some 1 := by kernel_rfl
@[go_sem] theorem agg_130 : isAggT Tryz.prog 130 = some false := by kernel_rfl
@[go_sem] theorem zer_130 : zeroOf Tryz.prog 130 = some (.nilFunc) := by kernel_rfl
@[go_sem] theorem zcs_130 : zcs Tryz.prog 130 = some 1 := by kernel_rfl
@[go_sem] theorem str_130 : isStrT Tryz.prog 130 = false := by kernel_rfl
@[go_sem] theorem ifc_130 : isIfaceT Tryz.prog 130 = some false := by kernel_rfl
@[go_sem] theorem tsz_131 : tsz Tryz.prog 131 = some 1 := by kernel_rfl
@[go_sem] theorem agg_131 : isAggT Tryz.prog 131 = some false := by kernel_rfl
@[go_sem] theorem zer_131 : zeroOf Tryz.prog 131 = some (.nilFunc) := by kernel_rfl
@[go_sem] theorem zcs_131 : zcs Tryz.prog 131 = some 1 := by kernel_rfl
@[go_sem] theorem str_131 : isStrT Tryz.prog 131 = false := by kernel_rfl
@[go_sem] theorem ifc_131 : isIfaceT Tryz.prog 131 = some false := by kernel_rfl
@[go_sem] theorem tsz_132 : tsz Tryz.prog 132 = some 1 := by kernel_rfl
@[go_sem] theorem agg_132 : isAggT Tryz.prog 132 = some false := by kernel_rfl
@[go_sem] theorem zer_132 : zeroOf Tryz.prog 132 = some (.nilFunc) := by kernel_rfl
@[go_sem] theorem zcs_132 : zcs Tryz.prog 132 = some 1 := by kernel_rfl
@[go_sem] theorem str_132 : isStrT Tryz.prog 132 = false := by kernel_rfl
@[go_sem] theorem ifc_132 : isIfaceT Tryz.prog 132 = some false := by kernel_rfl
@[go_sem] theorem tsz_133 : tsz Tryz.prog 133 = some 16 := by kernel_rfl
@[go_sem] theorem agg_133 : isAggT Tryz.prog 133 = some true := by kernel_rfl
@[go_sem] theorem zer_133 : zeroOf Tryz.prog 133 = some (.agg #[.int .u8 0, .int .u8 0, .int .u8 0, .int .u8 0, .int .u8 0, .int .u8 0, .int .u8 0, .int .u8 0, .int .u8 0, .int .u8 0, .int .u8 0, .int .u8 0, .int .u8 0, .int .u8 0, .int .u8 0, .int .u8 0]) := by kernel_rfl
@[go_sem] theorem zcs_133 : zcs Tryz.prog 133 = some 16 := by kernel_rfl
@[go_sem] theorem str_133 : isStrT Tryz.prog 133 = false := by kernel_rfl
@[go_sem] theorem ifc_133 : isIfaceT Tryz.prog 133 = some false := by kernel_rfl
@[go_sem] theorem elm_133 : elemT Tryz.prog 133 = none := by kernel_rfl
@[go_sem] theorem plc_133 : placesOf Tryz.prog 133 = none := by kernel_rfl
@[go_sem] theorem arr_133 : arrT Tryz.prog 133 = some (16, 5) := by kernel_rfl
@[go_sem] theorem tsz_134 : tsz Tryz.prog 134 = some 1 := by kernel_rfl
@[go_sem] theorem agg_134 : isAggT Tryz.prog 134 = some false := by kernel_rfl
@[go_sem] theorem zer_134 : zeroOf Tryz.prog 134 = some (.nilFunc) := by kernel_rfl
@[go_sem] theorem zcs_134 : zcs Tryz.prog 134 = some 1 := by kernel_rfl
@[go_sem] theorem str_134 : isStrT Tryz.prog 134 = false := by kernel_rfl
@[go_sem] theorem ifc_134 : isIfaceT Tryz.prog 134 = some false := by kernel_rfl
@[go_sem] theorem tsz_135 : tsz Tryz.prog 135 = some 1 := by kernel_rfl
@[go_sem] theorem agg_135 : isAggT Tryz.prog 135 = some false := by kernel_rfl
@[go_sem] theorem zer_135 : zeroOf Tryz.prog 135 = some (.int .u64 0) := by kernel_rfl
@[go_sem] theorem zcs_135 : zcs Tryz.prog 135 = some 1 := by kernel_rfl
@[go_sem] theorem str_135 : isStrT Tryz.prog 135 = false := by kernel_rfl
@[go_sem] theorem ifc_135 : isIfaceT Tryz.prog 135 = some false := by kernel_rfl
@[go_sem] theorem int_135 : intT Tryz.prog 135 = some .u64 := by kernel_rfl
@[go_sem] theorem und_135 : Tryz.prog.underlying 135 = some (.int .u64) := by kernel_rfl
@[go_sem] theorem tsz_136 : tsz Tryz.prog 136 = some 1 := by kernel_rfl
@[go_sem] theorem agg_136 : isAggT Tryz.prog 136 = some false := by kernel_rfl
@[go_sem] theorem zer_136 : zeroOf Tryz.prog 136 = some (.nilFunc) := by kernel_rfl
@[go_sem] theorem zcs_136 : zcs Tryz.prog 136 = some 1 := by kernel_rfl
@[go_sem] theorem str_136 : isStrT Tryz.prog 136 = false := by kernel_rfl
@[go_sem] theorem ifc_136 : isIfaceT Tryz.prog 136 = some false := by kernel_rfl
@[go_sem] theorem tsz_137 : tsz Tryz.prog 137 = some 20 := by kernel_rfl
@[go_sem] theorem agg_137 : isAggT Tryz.prog 137 = some true := by kernel_rfl
@[go_sem] theorem zer_137 : zeroOf Tryz.prog 137 = some (.agg #[.int .u64 0, .int .u64 0, .int .u64 0, .int .u64 0, .int .u64 0, .int .u64 0, .int .u64 0, .int .u64 0, .int .u64 0, .int .u64 0, .int .u64 0, .int .u64 0, .int .u64 0, .int .u64 0, .int .u64 0, .int .u64 0, .int .u64 0, .int .u64 0, .int .u64 0, .int .u64 0]) := by kernel_rfl
@[go_sem] theorem zcs_137 : zcs Tryz.prog 137 = some 20 := by kernel_rfl
@[go_sem] theorem str_137 : isStrT Tryz.prog 137 = false := by kernel_rfl
@[go_sem] theorem ifc_137 : isIfaceT Tryz.prog 137 = some false := by kernel_rfl
@[go_sem] theorem elm_137 : elemT Tryz.prog 137 = none := by kernel_rfl
@[go_sem] theorem plc_137 : placesOf Tryz.prog 137 = none := by kernel_rfl
@[go_sem] theorem arr_137 : arrT Tryz.prog 137 = some (20, 118) := by kernel_rfl
@[go_sem] theorem tsz_138 : tsz Tryz.prog 138 = some 1 := by kernel_rfl
@[go_sem] theorem agg_138 : isAggT Tryz.prog 138 = some false := by kernel_rfl
@[go_sem] theorem zer_138 : zeroOf Tryz.prog 138 = some (.int .u32 0) := by kernel_rfl
@[go_sem] theorem zcs_138 : zcs Tryz.prog 138 = some 1 := by kernel_rfl
@[go_sem] theorem str_138 : isStrT Tryz.prog 138 = false := by kernel_rfl
@[go_sem] theorem ifc_138 : isIfaceT Tryz.prog 138 = some false := by kernel_rfl
@[go_sem] theorem int_138 : intT Tryz.prog 138 = some .u32 := by kernel_rfl
@[go_sem] theorem und_138 : Tryz.prog.underlying 138 = some (.int .u32) := by kernel_rfl
@[go_sem] theorem tsz_140 : tsz Tryz.prog 140 = some 1 := by kernel_rfl
@[go_sem] theorem agg_140 : isAggT Tryz.prog 140 = some false := by kernel_rfl
@[go_sem] theorem zer_140 : zeroOf Tryz.prog 140 = some (.nilFunc) := by kernel_rfl
@[go_sem] theorem zcs_140 : zcs Tryz.prog 140 = some 1 := by kernel_rfl
@[go_sem] theorem str_140 : isStrT Tryz.prog 140 = false := by kernel_rfl
@[go_sem] theorem ifc_140 : isIfaceT Tryz.prog 140 = some false := by kernel_rfl
@[go_sem] theorem tsz_141 : tsz Tryz.prog 141 = some 1 := by kernel_rfl
@[go_sem] theorem agg_141 : isAggT Tryz.prog 141 = some false := by kernel_rfl
@[go_sem] theorem zer_141 : zeroOf Tryz.prog 141 = some (.nilFunc) := by kernel_rfl
@[go_sem] theorem zcs_141 : zcs Tryz.prog 141 = some 1 := by kernel_rfl
@[go_sem] theorem str_141 : isStrT Tryz.prog 141 = false := by kernel_rfl
@[go_sem] theorem ifc_141 : isIfaceT Tryz.prog 141 = some false := by kernel_rfl
@[go_sem] theorem tsz_142 : tsz Tryz.prog 142 = some 1 := by kernel_rfl
@[go_sem] theorem agg_142 : isAggT Tryz.prog 142 = some false := by kernel_rfl
@[go_sem] theorem zer_142 : zeroOf Tryz.prog 142 = some (.nilFunc) := by kernel_rfl
@[go_sem] theorem zcs_142 : zcs Tryz.prog 142 = some 1 := by kernel_rfl
@[go_sem] theorem str_142 : isStrT Tryz.prog 142 = false := by kernel_rfl
@[go_sem] theorem ifc_142 : isIfaceT Tryz.prog 142 = some false := by kernel_rfl
@[go_sem] theorem tsz_143 : tsz Tryz.prog 143 = some 1 := by kernel_rfl
@[go_sem] theorem agg_143 : isAggT Tryz.prog 143 = some false := by kernel_rfl
@[go_sem] theorem zer_143 : zeroOf Tryz.prog 143 = some (.nilFunc) := by kernel_rfl
@[go_sem] theorem zcs_143 : zcs Tryz.prog 143 = some 1 := by kernel_rfl
@[go_sem] theorem str_143 : isStrT Tryz.prog 143 = false := by kernel_rfl
@[go_sem] theorem ifc_143 : isIfaceT Tryz.prog 143 = some false := by kernel_rfl
@[go_sem] theorem tsz_144 : tsz Tryz.prog 144 = some 1 := by kernel_rfl
@[go_sem] theorem agg_144 : isAggT Tryz.prog 144 = some false := by kernel_rfl
@[go_sem] theorem zer_144 : zeroOf Tryz.prog 144 = some (.nilFunc) := by kernel_rfl
@[go_sem] theorem zcs_144 : zcs Tryz.prog 144 = some 1 := by kernel_rfl
@[go_sem] theorem str_144 : isStrT Tryz.prog 144 = false := by kernel_rfl
@[go_sem] theorem ifc_144 : isIfaceT Tryz.prog 144 = some false := by kernel_rfl
@[go_sem] theorem tsz_145 : tsz Tryz.prog 145 = some 1 := by kernel_rfl
@[go_sem] theorem agg_145 : isAggT Tryz.prog 145 = some false := by kernel_rfl
@[go_sem] theorem zer_145 : zeroOf Tryz.prog 145 = some (.nilFunc) := by kernel_rfl
@[go_sem] theorem zcs_145 : zcs Tryz.prog 145 = some 1 := by kernel_rfl
@[go_sem] theorem str_145 : isStrT Tryz.prog 145 = false := by kernel_rfl
@[go_sem] theorem ifc_145 : isIfaceT Tryz.prog 145 = some false := by kernel_rfl
@[go_sem] theorem tsz_146 : tsz Tryz.prog 146 = some 1 := by kernel_rfl
@[go_sem] theorem agg_146 : isAggT Tryz.prog 146 = some false := by kernel_rfl
@[go_sem] theorem zer_146 : zeroOf Tryz.prog 146 = some (.nilFunc) := by kernel_rfl
@[go_sem] theorem zcs_146 : zcs Tryz.prog 146 = some 1 := by kernel_rfl
@[go_sem] theorem str_146 : isStrT Tryz.prog 146 = false := by kernel_rfl
@[go_sem] theorem ifc_146 : isIfaceT Tryz.prog 146 = some false := by kernel_rfl
@[go_sem] theorem tsz_147 : tsz Tryz.prog 147 = some 32 := by kernel_rfl
@[go_sem] theorem agg_147 : isAggT Tryz.prog 147 = some true := by kernel_rfl
@[go_sem] theorem zer_147 : zeroOf Tryz.prog 147 = some (.agg #[.int .u8 0, .int .u8 0, .int .u8 0, .int .u8 0, .int .u8 0, .int .u8 0, .int .u8 0, .int .u8 0, .int .u8 0, .int .u8 0, .int .u8 0, .int .u8 0, .int .u8 0, .int .u8 0, .int .u8 0, .int .u8 0, .int .u8 0, .int .u8 0, .int .u8 0, .int .u8 0, .int .u8 0, .int .u8 0, .int .u8 0, .int .u8 0, .int .u8 0, .int .u8 0, .int .u8 0, .int .u8 0, .int .u8 0, .int .u8 0, .int .u8 0, .int .u8 0]) := by kernel_rfl
@[go_sem] theorem zcs_147 : zcs Tryz.prog 147 = some 32 := by kernel_rfl
@[go_sem] theorem str_147 : isStrT Tryz.prog 147 = false := by kernel_rfl
@[go_sem] theorem ifc_147 : isIfaceT Tryz.prog 147 = some false := by kernel_rfl
@[go_sem] theorem elm_147 : elemT Tryz.prog 147 = none := by kernel_rfl
@[go_sem] theorem plc_147 : placesOf Tryz.prog 147 = none := by kernel_rfl
@[go_sem] theorem arr_147 : arrT Tryz.prog 147 = some (32, 5) := by kernel_rfl
@[go_sem] theorem tsz_149 : tsz Tryz.prog 149 = some 4 := by kernel_rfl
@[go_sem] theorem agg_149 : isAggT Tryz.prog 149 = some true := by kernel_rfl
@[go_sem] theorem zer_149 : zeroOf Tryz.prog 149 = some (.agg #[.pointer none, .pointer none, .pointer none, .string (⟨#[]⟩ : ByteArray)]) := by kernel_rfl
@[go_sem] theorem zcs_149 : zcs Tryz.prog 149 = some 4 := by kernel_rfl
@[go_sem] theorem str_149 : isStrT Tryz.prog 149 = false := by kernel_rfl
@[go_sem] theorem ifc_149 : isIfaceT Tryz.prog 149 = some false := by kernel_rfl
@[go_sem] theorem fld_149_0 : fieldOf Tryz.prog 149 0 = some (0, 17) := by kernel_rfl
@[go_sem] theorem fld_149_1 : fieldOf Tryz.prog 149 1 = some (1, 17) := by kernel_rfl
@[go_sem] theorem fld_149_2 : fieldOf Tryz.prog 149 2 = some (2, 17) := by kernel_rfl
@[go_sem] theorem fld_149_3 : fieldOf Tryz.prog 149 3 = some (3, 9) := by kernel_rfl
@[go_sem] theorem plc_149 : placesOf Tryz.prog 149 = some [(0, 1), (1, 1), (2, 1), (3, 1)] := by kernel_rfl
@[go_sem] theorem tsz_150 : tsz Tryz.prog 150 = some 4 := by kernel_rfl
@[go_sem] theorem agg_150 : isAggT Tryz.prog 150 = some true := by kernel_rfl
@[go_sem] theorem zer_150 : zeroOf Tryz.prog 150 = some (.agg #[.pointer none, .pointer none, .pointer none, .string (⟨#[]⟩ : ByteArray)]) := by kernel_rfl
@[go_sem] theorem zcs_150 : zcs Tryz.prog 150 = some 4 := by kernel_rfl
@[go_sem] theorem str_150 : isStrT Tryz.prog 150 = false := by kernel_rfl
@[go_sem] theorem ifc_150 : isIfaceT Tryz.prog 150 = some false := by kernel_rfl
@[go_sem] theorem fld_150_0 : fieldOf Tryz.prog 150 0 = some (0, 17) := by kernel_rfl
@[go_sem] theorem fld_150_1 : fieldOf Tryz.prog 150 1 = some (1, 17) := by kernel_rfl
@[go_sem] theorem fld_150_2 : fieldOf Tryz.prog 150 2 = some (2, 17) := by kernel_rfl
@[go_sem] theorem fld_150_3 : fieldOf Tryz.prog 150 3 = some (3, 9) := by kernel_rfl
@[go_sem] theorem plc_150 : placesOf Tryz.prog 150 = some [(0, 1), (1, 1), (2, 1), (3, 1)] := by kernel_rfl
@[go_sem] theorem tsz_154 : tsz Tryz.prog 154 = some 1 := by kernel_rfl
@[go_sem] theorem agg_154 : isAggT Tryz.prog 154 = some false := by kernel_rfl
@[go_sem] theorem zer_154 : zeroOf Tryz.prog 154 = some (.nilFunc) := by kernel_rfl
@[go_sem] theorem zcs_154 : zcs Tryz.prog 154 = some 1 := by kernel_rfl
@[go_sem] theorem str_154 : isStrT Tryz.prog 154 = false := by kernel_rfl
@[go_sem] theorem ifc_154 : isIfaceT Tryz.prog 154 = some false := by kernel_rfl
@[go_sem] theorem tsz_155 : tsz Tryz.prog 155 = some 1 := by kernel_rfl
@[go_sem] theorem agg_155 : isAggT Tryz.prog 155 = some false := by kernel_rfl
@[go_sem] theorem zer_155 : zeroOf Tryz.prog 155 = some (.int .u8 0) := by kernel_rfl
@[go_sem] theorem zcs_155 : zcs Tryz.prog 155 = some 1 := by kernel_rfl
@[go_sem] theorem str_155 : isStrT Tryz.prog 155 = false := by kernel_rfl
@[go_sem] theorem ifc_155 : isIfaceT Tryz.prog 155 = some false := by kernel_rfl
@[go_sem] theorem int_155 : intT Tryz.prog 155 = some .u8 := by kernel_rfl
@[go_sem] theorem und_155 : Tryz.prog.underlying 155 = some (.int .u8) := by kernel_rfl
@[go_sem] theorem tsz_156 : tsz Tryz.prog 156 = some 1 := by kernel_rfl
@[go_sem] theorem agg_156 : isAggT Tryz.prog 156 = some false := by kernel_rfl
@[go_sem] theorem zer_156 : zeroOf Tryz.prog 156 = some (.int .u8 0) := by kernel_rfl
@[go_sem] theorem zcs_156 : zcs Tryz.prog 156 = some 1 := by kernel_rfl
@[go_sem] theorem str_156 : isStrT Tryz.prog 156 = false := by kernel_rfl
@[go_sem] theorem ifc_156 : isIfaceT Tryz.prog 156 = some false := by kernel_rfl
@[go_sem] theorem int_156 : intT Tryz.prog 156 = some .u8 := by kernel_rfl
@[go_sem] theorem und_156 : Tryz.prog.underlying 156 = some (.int .u8) := by kernel_rfl
@[go_sem] theorem tsz_157 : tsz Tryz.prog 157 = some 1 := by kernel_rfl
@[go_sem] theorem agg_157 : isAggT Tryz.prog 157 = some false := by kernel_rfl
@[go_sem] theorem zer_157 : zeroOf Tryz.prog 157 = some (.nilFunc) := by kernel_rfl
@[go_sem] theorem zcs_157 : zcs Tryz.prog 157 = some 1 := by kernel_rfl
@[go_sem] theorem str_157 : isStrT Tryz.prog 157 = false := by kernel_rfl
@[go_sem] theorem ifc_157 : isIfaceT Tryz.prog 157 = some false := by kernel_rfl
@[go_sem] theorem tsz_158 : tsz Tryz.prog 158 = some 1 := by kernel_rfl
@[go_sem] theorem agg_158 : isAggT Tryz.prog 158 = some false := by kernel_rfl
@[go_sem] theorem zer_158 : zeroOf Tryz.prog 158 = some (.int .i32 0) := by kernel_rfl
@[go_sem] theorem zcs_158 : zcs Tryz.prog 158 = some 1 := by kernel_rfl
@[go_sem] theorem str_158 : isStrT Tryz.prog 158 = false := by kernel_rfl
@[go_sem] theorem ifc_158 : isIfaceT Tryz.prog 158 = some false := by kernel_rfl
@[go_sem] theorem int_158 : intT Tryz.prog 158 = some .i32 := by kernel_rfl
@[go_sem] theorem und_158 : Tryz.prog.underlying 158 = some (.int .i32) := by kernel_rfl
@[go_sem] theorem tsz_159 : tsz Tryz.prog 159 = some 1 := by kernel_rfl
@[go_sem] theorem agg_159 : isAggT Tryz.prog 159 = some false := by kernel_rfl
@[go_sem] theorem zer_159 : zeroOf Tryz.prog 159 = some (.int .i32 0) := by kernel_rfl
@[go_sem] theorem zcs_159 : zcs Tryz.prog 159 = some 1 := by kernel_rfl
@[go_sem] theorem str_159 : isStrT Tryz.prog 159 = false := by kernel_rfl
@[go_sem] theorem ifc_159 : isIfaceT Tryz.prog 159 = some false := by kernel_rfl
@[go_sem] theorem int_159 : intT Tryz.prog 159 = some .i32 := by kernel_rfl
@[go_sem] theorem und_159 : Tryz.prog.underlying 159 = some (.int .i32) := by kernel_rfl
@[go_sem] theorem tsz_160 : tsz Tryz.prog 160 = some 11 := by kernel_rfl
@[go_sem] theorem agg_160 : isAggT Tryz.prog 160 = some true := by kernel_rfl
@[go_sem] theorem zer_160 : zeroOf Tryz.prog 160 = some (.agg #[.int .u64 0, .int .u64 0, .int .u32 0, .int .u8 0, .int .u8 0, .int .u8 0, .int .u8 0, .nilFunc, .pointer none, .int .i32 0, .int .i32 0]) := by kernel_rfl
@[go_sem] theorem zcs_160 : zcs Tryz.prog 160 = some 11 := by kernel_rfl
@[go_sem] theorem str_160 : isStrT Tryz.prog 160 = false := by kernel_rfl
@[go_sem] theorem ifc_160 : isIfaceT Tryz.prog 160 = some false := by kernel_rfl
@[go_sem] theorem fld_160_0 : fieldOf Tryz.prog 160 0 = some (0, 12) := by kernel_rfl
@[go_sem] theorem fld_160_1 : fieldOf Tryz.prog 160 1 = some (1, 12) := by kernel_rfl
@[go_sem] theorem fld_160_2 : fieldOf Tryz.prog 160 2 = some (2, 138) := by kernel_rfl
@[go_sem] theorem fld_160_3 : fieldOf Tryz.prog 160 3 = some (3, 155) := by kernel_rfl
@[go_sem] theorem fld_160_4 : fieldOf Tryz.prog 160 4 = some (4, 5) := by kernel_rfl
@[go_sem] theorem fld_160_5 : fieldOf Tryz.prog 160 5 = some (5, 5) := by kernel_rfl
@[go_sem] theorem fld_160_6 : fieldOf Tryz.prog 160 6 = some (6, 156) := by kernel_rfl
@[go_sem] theorem fld_160_7 : fieldOf Tryz.prog 160 7 = some (7, 157) := by kernel_rfl
@[go_sem] theorem fld_160_8 : fieldOf Tryz.prog 160 8 = some (8, 106) := by kernel_rfl
@[go_sem] theorem fld_160_9 : fieldOf Tryz.prog 160 9 = some (9, 158) := by kernel_rfl
@[go_sem] theorem fld_160_10 : fieldOf Tryz.prog 160 10 = some (10, 159) := by kernel_rfl
@[go_sem] theorem plc_160 : placesOf Tryz.prog 160 = some [(0, 1), (1, 1), (2, 1), (3, 1), (4, 1), (5, 1), (6, 1), (7, 1), (8, 1), (9, 1), (10, 1)] := by kernel_rfl
@[go_sem] theorem tsz_161 : tsz Tryz.prog 161 = some 11 := by kernel_rfl
@[go_sem] theorem agg_161 : isAggT Tryz.prog 161 = some true := by kernel_rfl
@[go_sem] theorem zer_161 : zeroOf Tryz.prog 161 = some (.agg #[.int .u64 0, .int .u64 0, .int .u32 0, .int .u8 0, .int .u8 0, .int .u8 0, .int .u8 0, .nilFunc, .pointer none, .int .i32 0, .int .i32 0]) := by kernel_rfl
@[go_sem] theorem zcs_161 : zcs Tryz.prog 161 = some 11 := by kernel_rfl
@[go_sem] theorem str_161 : isStrT Tryz.prog 161 = false := by kernel_rfl
@[go_sem] theorem ifc_161 : isIfaceT Tryz.prog 161 = some false := by kernel_rfl
@[go_sem] theorem fld_161_0 : fieldOf Tryz.prog 161 0 = some (0, 12) := by kernel_rfl
@[go_sem] theorem fld_161_1 : fieldOf Tryz.prog 161 1 = some (1, 12) := by kernel_rfl
@[go_sem] theorem fld_161_2 : fieldOf Tryz.prog 161 2 = some (2, 138) := by kernel_rfl
@[go_sem] theorem fld_161_3 : fieldOf Tryz.prog 161 3 = some (3, 155) := by kernel_rfl
@[go_sem] theorem fld_161_4 : fieldOf Tryz.prog 161 4 = some (4, 5) := by kernel_rfl
@[go_sem] theorem fld_161_5 : fieldOf Tryz.prog 161 5 = some (5, 5) := by kernel_rfl
@[go_sem] theorem fld_161_6 : fieldOf Tryz.prog 161 6 = some (6, 156) := by kernel_rfl
@[go_sem] theorem fld_161_7 : fieldOf Tryz.prog 161 7 = some (7, 157) := by kernel_rfl
@[go_sem] theorem fld_161_8 : fieldOf Tryz.prog 161 8 = some (8, 106) := by kernel_rfl
@[go_sem] theorem fld_161_9 : fieldOf Tryz.prog 161 9 = some (9, 158) := by kernel_rfl
@[go_sem] theorem fld_161_10 : fieldOf Tryz.prog 161 10 = some (10, 159) := by kernel_rfl
@[go_sem] theorem plc_161 : placesOf Tryz.prog 161 = some [(0, 1), (1, 1), (2, 1), (3, 1), (4, 1), (5, 1), (6, 1), (7, 1), (8, 1), (9, 1), (10, 1)] := by kernel_rfl
@[go_sem] theorem tby_3 : tby Tryz.prog 3 = some 8 := by kernel_rfl
@[go_sem] theorem tby_5 : tby Tryz.prog 5 = some 1 := by kernel_rfl
@[go_sem] theorem tby_9 : tby Tryz.prog 9 = some 16 := by kernel_rfl
@[go_sem] theorem tby_40 : tby Tryz.prog 40 = some 56 := by kernel_rfl
@[go_sem] theorem tby_42 : tby Tryz.prog 42 = some 32 := by kernel_rfl
@[go_sem] theorem tby_51 : tby Tryz.prog 51 = some 40 := by kernel_rfl
@[go_sem] theorem tby_56 : tby Tryz.prog 56 = some 80 := by kernel_rfl
@[go_sem] theorem tby_58 : tby Tryz.prog 58 = some 56 := by kernel_rfl
@[go_sem] theorem tby_60 : tby Tryz.prog 60 = some 56 := by kernel_rfl
@[go_sem] theorem tby_61 : tby Tryz.prog 61 = some 56 := by kernel_rfl
@[go_sem] theorem tby_63 : tby Tryz.prog 63 = some 32 := by kernel_rfl
@[go_sem] theorem tby_65 : tby Tryz.prog 65 = some 16 := by kernel_rfl
@[go_sem] theorem tby_66 : tby Tryz.prog 66 = some 16 := by kernel_rfl
@[go_sem] theorem tby_79 : tby Tryz.prog 79 = some 104 := by kernel_rfl
@[go_sem] theorem tby_81 : tby Tryz.prog 81 = some 104 := by kernel_rfl
theorem mix : Tryz.prog.follows .mixedOrders = true := by kernel_rfl
end Go.Proofs.YtinpnidokpjfhaaGreatDoor.AM
namespace Go.Proofs.YtinpnidokpjfhaaGreatDoor.AM
open Go.RowKit
abbrev iv (n : Int) : AV := .lit (.int .i64 n)
abbrev bv (b : Bool) : AV := .lit (.bool b)
abbrev sv (s : ByteArray) : AV := .lit (.string s)
abbrev di (n : Int) : Dat := .lit (.int .i64 n)
abbrev db (b : Bool) : Dat := .lit (.bool b)
abbrev ds' (s : ByteArray) : Dat := .lit (.string s)
abbrev df (f : Nat) : Dat := .lit (.float .f64 f)
abbrev eE : ByteArray := ⟨#[]⟩
structure AtomD where
  k : Int
  n : Int
  f : Nat
  s : ByteArray
def AtomD.enc (a : AtomD) : List Dat := [di a.k, di a.n, df a.f, ds' a.s]
structure ValD where
  a : AtomD
  l : List AtomD
def ValD.enc (v : ValD) : List Dat := [di v.a.k, di v.a.n, df v.a.f, ds' v.a.s, .lst 4 (v.l.map AtomD.enc)]
structure TermD where
  op : Int
  var : ByteArray
  name : ByteArray
  v : ValD
def TermD.enc (t : TermD) : List Dat := [di t.op, ds' t.var, ds' t.name, di t.v.a.k, di t.v.a.n, df t.v.a.f, ds' t.v.a.s, .lst 4 (t.v.l.map AtomD.enc)]
structure PropD where
  name : ByteArray
  v : ValD
def PropD.enc (p : PropD) : List Dat := [ds' p.name, di p.v.a.k, di p.v.a.n, df p.v.a.f, ds' p.v.a.s, .lst 4 (p.v.l.map AtomD.enc)]
structure SpotD where
  var : ByteArray
  label : ByteArray
  props : List PropD
def SpotD.enc (s : SpotD) : List Dat := [ds' s.var, ds' s.label, .lst 6 (s.props.map PropD.enc)]
structure HopD where
  var : ByteArray
  type : ByteArray
  back : Bool
  many : Bool
  least : Int
  most : Int
def HopD.enc (h : HopD) : List Dat := [ds' h.var, ds' h.type, db h.back, db h.many, di h.least, di h.most]
structure ItemD where
  fn : Int
  terms : List TermD
def ItemD.enc (x : ItemD) : List Dat := [di x.fn, .lst 8 (x.terms.map TermD.enc)]
structure SortD where
  item : Int
  desc : Bool
def SortD.enc (x : SortD) : List Dat := [di x.item, db x.desc]
structure QueryD where
  spots : List SpotD
  hops : List HopD
  wh : List TermD
  items : List ItemD
  distinct : Bool
  sorts : List SortD
  skip : Int
  limit : Int
def QueryD.enc (q : QueryD) : List Dat := [.lst 3 (q.spots.map SpotD.enc), .lst 6 (q.hops.map HopD.enc), .lst 8 (q.wh.map TermD.enc), .lst 2 (q.items.map ItemD.enc), db q.distinct, .lst 2 (q.sorts.map SortD.enc), di q.skip, di q.limit]
theorem row_at {α : Type} (e : α → List Dat) (l : List α) (k : Nat) (h : k < l.length) : (l.map e)[k]? = some (e l[k]) := by simp [h]
theorem lt_t {a b : Nat} (h : a < b) : decide ((a : Int) < (b : Int)) = true := by simpa using h
theorem lt_f {a b : Nat} (h : ¬ a < b) : decide ((a : Int) < (b : Int)) = false := by simpa using h
end Go.Proofs.YtinpnidokpjfhaaGreatDoor.AM
