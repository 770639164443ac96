/- Part 3 of the proof: words, contracts, plain laws. Laid by a program of this session (wip/tool/shake.py): what is needed of own and printed texts, in order. -/
import Derived.Test.YtlpfdgkfdgehnaaDoorZb0
import Derived.Test.YtlpfdgkfdgehnaaDoorZb1
import Derived.Test.YtlpfdgkfdgehnaaDoorZb2
import Derived.Test.YtlpfdgkfdgehnaaDoorProg
import Derived.KernelRfl
import Derived.Calls
import Derived.Lib.ItoaNum
import Derived.Orders
import Derived.Tactics
import Derived.Below
import Derived.Laws.Rows
import Derived.Laws.World
import Derived.Laws.CopyRow
import Derived.Lib.FrozenHead
import Derived.Deep.AppendSrc
import Derived.Deep.Upon
import Derived.Laws.BytesArg
import Derived.IntWalk
import Derived.Laws.Externs
import Derived.LoopN
import Derived.Scope
import Derived.MapKept
import Derived.RegionTactic
namespace Go.Proofs.YtlpfdgkfdgehnaaDoor.AM
open Go.RowKit Go.Proofs
set_option maxRecDepth 100000
@[go_sem] theorem tsz_1 : tsz Tryd.prog 1 = some 1 := by kernel_rfl
@[go_sem] theorem agg_1 : isAggT Tryd.prog 1 = some false := by kernel_rfl
@[go_sem] theorem zer_1 : zeroOf Tryd.prog 1 = some (.nilFunc) := by kernel_rfl
@[go_sem] theorem zcs_1 : zcs Tryd.prog 1 = some 1 := by kernel_rfl
@[go_sem] theorem str_1 : isStrT Tryd.prog 1 = false := by kernel_rfl
@[go_sem] theorem ifc_1 : isIfaceT Tryd.prog 1 = some false := by kernel_rfl
@[go_sem] theorem tsz_2 : tsz Tryd.prog 2 = some 1 := by kernel_rfl
@[go_sem] theorem agg_2 : isAggT Tryd.prog 2 = some false := by kernel_rfl
@[go_sem] theorem zer_2 : zeroOf Tryd.prog 2 = some (.int .i64 0) := by kernel_rfl
@[go_sem] theorem zcs_2 : zcs Tryd.prog 2 = some 1 := by kernel_rfl
@[go_sem] theorem str_2 : isStrT Tryd.prog 2 = false := by kernel_rfl
@[go_sem] theorem ifc_2 : isIfaceT Tryd.prog 2 = some false := by kernel_rfl
@[go_sem] theorem int_2 : intT Tryd.prog 2 = some .i64 := by kernel_rfl
@[go_sem] theorem und_2 : Tryd.prog.underlying 2 = some (.int .i64) := by kernel_rfl
@[go_sem] theorem tsz_3 : tsz Tryd.prog 3 = some 1 := by kernel_rfl
@[go_sem] theorem agg_3 : isAggT Tryd.prog 3 = some false := by kernel_rfl
@[go_sem] theorem zer_3 : zeroOf Tryd.prog 3 = some (.int .i64 0) := by kernel_rfl
@[go_sem] theorem zcs_3 : zcs Tryd.prog 3 = some 1 := by kernel_rfl
@[go_sem] theorem str_3 : isStrT Tryd.prog 3 = false := by kernel_rfl
@[go_sem] theorem ifc_3 : isIfaceT Tryd.prog 3 = some false := by kernel_rfl
@[go_sem] theorem int_3 : intT Tryd.prog 3 = some .i64 := by kernel_rfl
@[go_sem] theorem und_3 : Tryd.prog.underlying 3 = some (.int .i64) := by kernel_rfl
@[go_sem] theorem tsz_4 : tsz Tryd.prog 4 = some 1 := by kernel_rfl
@[go_sem] theorem agg_4 : isAggT Tryd.prog 4 = some false := by kernel_rfl
@[go_sem] theorem zer_4 : zeroOf Tryd.prog 4 = some (.bool false) := by kernel_rfl
@[go_sem] theorem zcs_4 : zcs Tryd.prog 4 = some 1 := by kernel_rfl
@[go_sem] theorem str_4 : isStrT Tryd.prog 4 = false := by kernel_rfl
@[go_sem] theorem ifc_4 : isIfaceT Tryd.prog 4 = some false := by kernel_rfl
@[go_sem] theorem und_4 : Tryd.prog.underlying 4 = some (.bool) := by kernel_rfl
@[go_sem] theorem tsz_5 : tsz Tryd.prog 5 = some 1 := by kernel_rfl
@[go_sem] theorem agg_5 : isAggT Tryd.prog 5 = some false := by kernel_rfl
@[go_sem] theorem zer_5 : zeroOf Tryd.prog 5 = some (.int .u8 0) := by kernel_rfl
@[go_sem] theorem zcs_5 : zcs Tryd.prog 5 = some 1 := by kernel_rfl
@[go_sem] theorem str_5 : isStrT Tryd.prog 5 = false := by kernel_rfl
@[go_sem] theorem ifc_5 : isIfaceT Tryd.prog 5 = some false := by kernel_rfl
@[go_sem] theorem int_5 : intT Tryd.prog 5 = some .u8 := by kernel_rfl
@[go_sem] theorem und_5 : Tryd.prog.underlying 5 = some (.int .u8) := by kernel_rfl
@[go_sem] theorem tsz_6 : tsz Tryd.prog 6 = some 1 := by kernel_rfl
@[go_sem] theorem agg_6 : isAggT Tryd.prog 6 = some false := by kernel_rfl
@[go_sem] theorem zer_6 : zeroOf Tryd.prog 6 = some (.int .u8 0) := by kernel_rfl
@[go_sem] theorem zcs_6 : zcs Tryd.prog 6 = some 1 := by kernel_rfl
@[go_sem] theorem str_6 : isStrT Tryd.prog 6 = false := by kernel_rfl
@[go_sem] theorem ifc_6 : isIfaceT Tryd.prog 6 = some false := by kernel_rfl
@[go_sem] theorem int_6 : intT Tryd.prog 6 = some .u8 := by kernel_rfl
@[go_sem] theorem und_6 : Tryd.prog.underlying 6 = some (.int .u8) := by kernel_rfl
@[go_sem] theorem tsz_7 : tsz Tryd.prog 7 = some 4 := by kernel_rfl
@[go_sem] theorem agg_7 : isAggT Tryd.prog 7 = some true := by kernel_rfl
@[go_sem] theorem zer_7 : zeroOf Tryd.prog 7 = some (.agg #[.int .i64 0, .int .i64 0, .bool false, .int .u8 0]) := by kernel_rfl
@[go_sem] theorem zcs_7 : zcs Tryd.prog 7 = some 4 := by kernel_rfl
@[go_sem] theorem str_7 : isStrT Tryd.prog 7 = false := by kernel_rfl
@[go_sem] theorem ifc_7 : isIfaceT Tryd.prog 7 = some false := by kernel_rfl
@[go_sem] theorem fld_7_0 : fieldOf Tryd.prog 7 0 = some (0, 2) := by kernel_rfl
@[go_sem] theorem fld_7_1 : fieldOf Tryd.prog 7 1 = some (1, 3) := by kernel_rfl
@[go_sem] theorem fld_7_2 : fieldOf Tryd.prog 7 2 = some (2, 4) := by kernel_rfl
@[go_sem] theorem fld_7_3 : fieldOf Tryd.prog 7 3 = some (3, 6) := by kernel_rfl
@[go_sem] theorem plc_7 : placesOf Tryd.prog 7 = some [(0, 1), (1, 1), (2, 1), (3, 1)] := by kernel_rfl
@[go_sem] theorem tsz_8 : tsz Tryd.prog 8 = some 4 := by kernel_rfl
@[go_sem] theorem agg_8 : isAggT Tryd.prog 8 = some true := by kernel_rfl
@[go_sem] theorem zer_8 : zeroOf Tryd.prog 8 = some (.agg #[.int .i64 0, .int .i64 0, .bool false, .int .u8 0]) := by kernel_rfl
@[go_sem] theorem zcs_8 : zcs Tryd.prog 8 = some 4 := by kernel_rfl
@[go_sem] theorem str_8 : isStrT Tryd.prog 8 = false := by kernel_rfl
@[go_sem] theorem ifc_8 : isIfaceT Tryd.prog 8 = some false := by kernel_rfl
@[go_sem] theorem fld_8_0 : fieldOf Tryd.prog 8 0 = some (0, 2) := by kernel_rfl
@[go_sem] theorem fld_8_1 : fieldOf Tryd.prog 8 1 = some (1, 3) := by kernel_rfl
@[go_sem] theorem fld_8_2 : fieldOf Tryd.prog 8 2 = some (2, 4) := by kernel_rfl
@[go_sem] theorem fld_8_3 : fieldOf Tryd.prog 8 3 = some (3, 6) := by kernel_rfl
@[go_sem] theorem plc_8 : placesOf Tryd.prog 8 = some [(0, 1), (1, 1), (2, 1), (3, 1)] := by kernel_rfl
@[go_sem] theorem tsz_9 : tsz Tryd.prog 9 = some 1 := by kernel_rfl
@[go_sem] theorem agg_9 : isAggT Tryd.prog 9 = some false := by kernel_rfl
@[go_sem] theorem zer_9 : zeroOf Tryd.prog 9 = some (.string (⟨#[]⟩ : ByteArray)) := by kernel_rfl
@[go_sem] theorem zcs_9 : zcs Tryd.prog 9 = some 1 := by kernel_rfl
@[go_sem] theorem str_9 : isStrT Tryd.prog 9 = true := by kernel_rfl
@[go_sem] theorem ifc_9 : isIfaceT Tryd.prog 9 = some false := by kernel_rfl
@[go_sem] theorem und_9 : Tryd.prog.underlying 9 = some (.string) := by kernel_rfl
@[go_sem] theorem tsz_10 : tsz Tryd.prog 10 = some 1 := by kernel_rfl
@[go_sem] theorem agg_10 : isAggT Tryd.prog 10 = some false := by kernel_rfl
@[go_sem] theorem zer_10 : zeroOf Tryd.prog 10 = some (.string (⟨#[]⟩ : ByteArray)) := by kernel_rfl
@[go_sem] theorem zcs_10 : zcs Tryd.prog 10 = some 1 := by kernel_rfl
@[go_sem] theorem str_10 : isStrT Tryd.prog 10 = true := by kernel_rfl
@[go_sem] theorem ifc_10 : isIfaceT Tryd.prog 10 = some false := by kernel_rfl
@[go_sem] theorem und_10 : Tryd.prog.underlying 10 = some (.string) := by kernel_rfl
@[go_sem] theorem tsz_11 : tsz Tryd.prog 11 = some 1 := by kernel_rfl
@[go_sem] theorem agg_11 : isAggT Tryd.prog 11 = some false := by kernel_rfl
@[go_sem] theorem zer_11 : zeroOf Tryd.prog 11 = some (.string (⟨#[]⟩ : ByteArray)) := by kernel_rfl
@[go_sem] theorem zcs_11 : zcs Tryd.prog 11 = some 1 := by kernel_rfl
@[go_sem] theorem str_11 : isStrT Tryd.prog 11 = true := by kernel_rfl
@[go_sem] theorem ifc_11 : isIfaceT Tryd.prog 11 = some false := by kernel_rfl
@[go_sem] theorem und_11 : Tryd.prog.underlying 11 = some (.string) := by kernel_rfl
@[go_sem] theorem tsz_12 : tsz Tryd.prog 12 = some 1 := by kernel_rfl
@[go_sem] theorem agg_12 : isAggT Tryd.prog 12 = some false := by kernel_rfl
@[go_sem] theorem zer_12 : zeroOf Tryd.prog 12 = some (.int .u64 0) := by kernel_rfl
@[go_sem] theorem zcs_12 : zcs Tryd.prog 12 = some 1 := by kernel_rfl
@[go_sem] theorem str_12 : isStrT Tryd.prog 12 = false := by kernel_rfl
@[go_sem] theorem ifc_12 : isIfaceT Tryd.prog 12 = some false := by kernel_rfl
@[go_sem] theorem int_12 : intT Tryd.prog 12 = some .u64 := by kernel_rfl
@[go_sem] theorem und_12 : Tryd.prog.underlying 12 = some (.int .u64) := by kernel_rfl
@[go_sem] theorem tsz_13 : tsz Tryd.prog 13 = some 2 := by kernel_rfl
@[go_sem] theorem agg_13 : isAggT Tryd.prog 13 = some true := by kernel_rfl
@[go_sem] theorem zer_13 : zeroOf Tryd.prog 13 = some (.agg #[.string (⟨#[]⟩ : ByteArray), .int .u64 0]) := by kernel_rfl
@[go_sem] theorem zcs_13 : zcs Tryd.prog 13 = some 2 := by kernel_rfl
@[go_sem] theorem str_13 : isStrT Tryd.prog 13 = false := by kernel_rfl
@[go_sem] theorem ifc_13 : isIfaceT Tryd.prog 13 = some false := by kernel_rfl
@[go_sem] theorem fld_13_0 : fieldOf Tryd.prog 13 0 = some (0, 9) := by kernel_rfl
@[go_sem] theorem fld_13_1 : fieldOf Tryd.prog 13 1 = some (1, 12) := by kernel_rfl
@[go_sem] theorem plc_13 : placesOf Tryd.prog 13 = some [(0, 1), (1, 1)] := by kernel_rfl
@[go_sem] theorem tsz_14 : tsz Tryd.prog 14 = some 2 := by kernel_rfl
@[go_sem] theorem agg_14 : isAggT Tryd.prog 14 = some true := by kernel_rfl
@[go_sem] theorem zer_14 : zeroOf Tryd.prog 14 = some (.agg #[.string (⟨#[]⟩ : ByteArray), .int .u64 0]) := by kernel_rfl
@[go_sem] theorem zcs_14 : zcs Tryd.prog 14 = some 2 := by kernel_rfl
@[go_sem] theorem str_14 : isStrT Tryd.prog 14 = false := by kernel_rfl
@[go_sem] theorem ifc_14 : isIfaceT Tryd.prog 14 = some false := by kernel_rfl
@[go_sem] theorem fld_14_0 : fieldOf Tryd.prog 14 0 = some (0, 9) := by kernel_rfl
@[go_sem] theorem fld_14_1 : fieldOf Tryd.prog 14 1 = some (1, 12) := by kernel_rfl
@[go_sem] theorem plc_14 : placesOf Tryd.prog 14 = some [(0, 1), (1, 1)] := by kernel_rfl
@[go_sem] theorem tsz_15 : tsz Tryd.prog 15 = some 1 := by kernel_rfl
@[go_sem] theorem agg_15 : isAggT Tryd.prog 15 = some false := by kernel_rfl
@[go_sem] theorem zer_15 : zeroOf Tryd.prog 15 = some (.pointer none) := by kernel_rfl
@[go_sem] theorem zcs_15 : zcs Tryd.prog 15 = some 1 := by kernel_rfl
@[go_sem] theorem str_15 : isStrT Tryd.prog 15 = false := by kernel_rfl
@[go_sem] theorem ifc_15 : isIfaceT Tryd.prog 15 = some false := by kernel_rfl
@[go_sem] theorem tsz_16 : tsz Tryd.prog 16 = some 1 := by kernel_rfl
@[go_sem] theorem agg_16 : isAggT Tryd.prog 16 = some false := by kernel_rfl
@[go_sem] theorem zer_16 : zeroOf Tryd.prog 16 = some (.pointer none) := by kernel_rfl
@[go_sem] theorem zcs_16 : zcs Tryd.prog 16 = some 1 := by kernel_rfl
@[go_sem] theorem str_16 : isStrT Tryd.prog 16 = false := by kernel_rfl
@[go_sem] theorem ifc_16 : isIfaceT Tryd.prog 16 = some false := by kernel_rfl
@[go_sem] theorem tsz_17 : tsz Tryd.prog 17 = some 1 := by kernel_rfl
@[go_sem] theorem agg_17 : isAggT Tryd.prog 17 = some false := by kernel_rfl
@[go_sem] theorem zer_17 : zeroOf Tryd.prog 17 = some (.pointer none) := by kernel_rfl
@[go_sem] theorem zcs_17 : zcs Tryd.prog 17 = some 1 := by kernel_rfl
@[go_sem] theorem str_17 : isStrT Tryd.prog 17 = false := by kernel_rfl
@[go_sem] theorem ifc_17 : isIfaceT Tryd.prog 17 = some false := by kernel_rfl
@[go_sem] theorem tsz_18 : tsz Tryd.prog 18 = some 1 := by kernel_rfl
@[go_sem] theorem agg_18 : isAggT Tryd.prog 18 = some true := by kernel_rfl
@[go_sem] theorem zer_18 : zeroOf Tryd.prog 18 = some (.agg #[.pointer none]) := by kernel_rfl
@[go_sem] theorem zcs_18 : zcs Tryd.prog 18 = some 1 := by kernel_rfl
@[go_sem] theorem str_18 : isStrT Tryd.prog 18 = false := by kernel_rfl
@[go_sem] theorem ifc_18 : isIfaceT Tryd.prog 18 = some false := by kernel_rfl
@[go_sem] theorem fld_18_0 : fieldOf Tryd.prog 18 0 = some (0, 17) := by kernel_rfl
@[go_sem] theorem plc_18 : placesOf Tryd.prog 18 = some [(0, 1)] := by kernel_rfl
@[go_sem] theorem tsz_19 : tsz Tryd.prog 19 = some 1 := by kernel_rfl
@[go_sem] theorem agg_19 : isAggT Tryd.prog 19 = some true := by kernel_rfl
@[go_sem] theorem zer_19 : zeroOf Tryd.prog 19 = some (.agg #[.pointer none]) := by kernel_rfl
@[go_sem] theorem zcs_19 : zcs Tryd.prog 19 = some 1 := by kernel_rfl
@[go_sem] theorem str_19 : isStrT Tryd.prog 19 = false := by kernel_rfl
@[go_sem] theorem ifc_19 : isIfaceT Tryd.prog 19 = some false := by kernel_rfl
@[go_sem] theorem fld_19_0 : fieldOf Tryd.prog 19 0 = some (0, 17) := by kernel_rfl
@[go_sem] theorem plc_19 : placesOf Tryd.prog 19 = some [(0, 1)] := by kernel_rfl
@[go_sem] theorem tsz_20 : tsz Tryd.prog 20 = some 1 := by kernel_rfl
@[go_sem] theorem agg_20 : isAggT Tryd.prog 20 = some false := by kernel_rfl
@[go_sem] theorem zer_20 : zeroOf Tryd.prog 20 = some (.nilIface) := by kernel_rfl
@[go_sem] theorem zcs_20 : zcs Tryd.prog 20 = some 1 := by kernel_rfl
@[go_sem] theorem str_20 : isStrT Tryd.prog 20 = false := by kernel_rfl
@[go_sem] theorem ifc_20 : isIfaceT Tryd.prog 20 = some true := by kernel_rfl
@[go_sem] theorem tsz_21 : tsz Tryd.prog 21 = some 1 := by kernel_rfl
@[go_sem] theorem agg_21 : isAggT Tryd.prog 21 = some false := by kernel_rfl
@[go_sem] theorem zer_21 : zeroOf Tryd.prog 21 = some (.int .i32 0) := by kernel_rfl
@[go_sem] theorem zcs_21 : zcs Tryd.prog 21 = some 1 := by kernel_rfl
@[go_sem] theorem str_21 : isStrT Tryd.prog 21 = false := by kernel_rfl
@[go_sem] theorem ifc_21 : isIfaceT Tryd.prog 21 = some false := by kernel_rfl
@[go_sem] theorem int_21 : intT Tryd.prog 21 = some .i32 := by kernel_rfl
@[go_sem] theorem und_21 : Tryd.prog.underlying 21 = some (.int .i32) := by kernel_rfl
@[go_sem] theorem tsz_22 : tsz Tryd.prog 22 = some 1 := by kernel_rfl
@[go_sem] theorem agg_22 : isAggT Tryd.prog 22 = some false := by kernel_rfl
@[go_sem] theorem zer_22 : zeroOf Tryd.prog 22 = some (.slice none 0 0) := by kernel_rfl
@[go_sem] theorem zcs_22 : zcs Tryd.prog 22 = some 1 := by kernel_rfl
@[go_sem] theorem str_22 : isStrT Tryd.prog 22 = false := by kernel_rfl
@[go_sem] theorem ifc_22 : isIfaceT Tryd.prog 22 = some false := by kernel_rfl
@[go_sem] theorem und_22 : Tryd.prog.underlying 22 = some (.slice 33) := by kernel_rfl
@[go_sem] theorem elm_22 : elemT Tryd.prog 22 = some 33 := by kernel_rfl
@[go_sem] theorem tsz_23 : tsz Tryd.prog 23 = some 1 := by kernel_rfl
@[go_sem] theorem agg_23 : isAggT Tryd.prog 23 = some false := by kernel_rfl
@[go_sem] theorem zer_23 : zeroOf Tryd.prog 23 = some (.slice none 0 0) := by kernel_rfl
@[go_sem] theorem zcs_23 : zcs Tryd.prog 23 = some 1 := by kernel_rfl
@[go_sem] theorem str_23 : isStrT Tryd.prog 23 = false := by kernel_rfl
@[go_sem] theorem ifc_23 : isIfaceT Tryd.prog 23 = some false := by kernel_rfl
@[go_sem] theorem und_23 : Tryd.prog.underlying 23 = some (.slice 56) := by kernel_rfl
@[go_sem] theorem elm_23 : elemT Tryd.prog 23 = some 56 := by kernel_rfl
@[go_sem] theorem tsz_24 : tsz Tryd.prog 24 = some 1 := by kernel_rfl
@[go_sem] theorem agg_24 : isAggT Tryd.prog 24 = some false := by kernel_rfl
@[go_sem] theorem zer_24 : zeroOf Tryd.prog 24 = some (.slice none 0 0) := by kernel_rfl
@[go_sem] theorem zcs_24 : zcs Tryd.prog 24 = some 1 := by kernel_rfl
@[go_sem] theorem str_24 : isStrT Tryd.prog 24 = false := by kernel_rfl
@[go_sem] theorem ifc_24 : isIfaceT Tryd.prog 24 = some false := by kernel_rfl
@[go_sem] theorem und_24 : Tryd.prog.underlying 24 = some (.slice 75) := by kernel_rfl
@[go_sem] theorem elm_24 : elemT Tryd.prog 24 = some 75 := by kernel_rfl
@[go_sem] theorem tsz_25 : tsz Tryd.prog 25 = some 1 := by kernel_rfl
@[go_sem] theorem agg_25 : isAggT Tryd.prog 25 = some false := by kernel_rfl
@[go_sem] theorem zer_25 : zeroOf Tryd.prog 25 = some (.slice none 0 0) := by kernel_rfl
@[go_sem] theorem zcs_25 : zcs Tryd.prog 25 = some 1 := by kernel_rfl
@[go_sem] theorem str_25 : isStrT Tryd.prog 25 = false := by kernel_rfl
@[go_sem] theorem ifc_25 : isIfaceT Tryd.prog 25 = some false := by kernel_rfl
@[go_sem] theorem und_25 : Tryd.prog.underlying 25 = some (.slice 35) := by kernel_rfl
@[go_sem] theorem elm_25 : elemT Tryd.prog 25 = some 35 := by kernel_rfl
@[go_sem] theorem tsz_26 : tsz Tryd.prog 26 = some 1 := by kernel_rfl
@[go_sem] theorem agg_26 : isAggT Tryd.prog 26 = some false := by kernel_rfl
@[go_sem] theorem zer_26 : zeroOf Tryd.prog 26 = some (.slice none 0 0) := by kernel_rfl
@[go_sem] theorem zcs_26 : zcs Tryd.prog 26 = some 1 := by kernel_rfl
@[go_sem] theorem str_26 : isStrT Tryd.prog 26 = false := by kernel_rfl
@[go_sem] theorem ifc_26 : isIfaceT Tryd.prog 26 = some false := by kernel_rfl
@[go_sem] theorem und_26 : Tryd.prog.underlying 26 = some (.slice 63) := by kernel_rfl
@[go_sem] theorem elm_26 : elemT Tryd.prog 26 = some 63 := by kernel_rfl
@[go_sem] theorem tsz_27 : tsz Tryd.prog 27 = some 8 := by kernel_rfl
@[go_sem] theorem agg_27 : isAggT Tryd.prog 27 = some true := by kernel_rfl
@[go_sem] theorem zer_27 : zeroOf Tryd.prog 27 = some (.agg #[.slice none 0 0, .slice none 0 0, .slice none 0 0, .slice none 0 0, .bool false, .slice none 0 0, .int .i64 0, .int .i64 0]) := by kernel_rfl
@[go_sem] theorem zcs_27 : zcs Tryd.prog 27 = some 8 := by kernel_rfl
@[go_sem] theorem str_27 : isStrT Tryd.prog 27 = false := by kernel_rfl
@[go_sem] theorem ifc_27 : isIfaceT Tryd.prog 27 = some false := by kernel_rfl
@[go_sem] theorem fld_27_0 : fieldOf Tryd.prog 27 0 = some (0, 22) := by kernel_rfl
@[go_sem] theorem fld_27_1 : fieldOf Tryd.prog 27 1 = some (1, 23) := by kernel_rfl
@[go_sem] theorem fld_27_2 : fieldOf Tryd.prog 27 2 = some (2, 24) := by kernel_rfl
@[go_sem] theorem fld_27_3 : fieldOf Tryd.prog 27 3 = some (3, 25) := by kernel_rfl
@[go_sem] theorem fld_27_4 : fieldOf Tryd.prog 27 4 = some (4, 4) := by kernel_rfl
@[go_sem] theorem fld_27_5 : fieldOf Tryd.prog 27 5 = some (5, 26) := by kernel_rfl
@[go_sem] theorem fld_27_6 : fieldOf Tryd.prog 27 6 = some (6, 3) := by kernel_rfl
@[go_sem] theorem fld_27_7 : fieldOf Tryd.prog 27 7 = some (7, 3) := by kernel_rfl
@[go_sem] theorem plc_27 : placesOf Tryd.prog 27 = some [(0, 1), (1, 1), (2, 1), (3, 1), (4, 1), (5, 1), (6, 1), (7, 1)] := by kernel_rfl
@[go_sem] theorem tsz_28 : tsz Tryd.prog 28 = some 8 := by kernel_rfl
@[go_sem] theorem agg_28 : isAggT Tryd.prog 28 = some true := by kernel_rfl
@[go_sem] theorem zer_28 : zeroOf Tryd.prog 28 = some (.agg #[.slice none 0 0, .slice none 0 0, .slice none 0 0, .slice none 0 0, .bool false, .slice none 0 0, .int .i64 0, .int .i64 0]) := by kernel_rfl
@[go_sem] theorem zcs_28 : zcs Tryd.prog 28 = some 8 := by kernel_rfl
@[go_sem] theorem str_28 : isStrT Tryd.prog 28 = false := by kernel_rfl
@[go_sem] theorem ifc_28 : isIfaceT Tryd.prog 28 = some false := by kernel_rfl
@[go_sem] theorem fld_28_0 : fieldOf Tryd.prog 28 0 = some (0, 22) := by kernel_rfl
@[go_sem] theorem fld_28_1 : fieldOf Tryd.prog 28 1 = some (1, 23) := by kernel_rfl
@[go_sem] theorem fld_28_2 : fieldOf Tryd.prog 28 2 = some (2, 24) := by kernel_rfl
@[go_sem] theorem fld_28_3 : fieldOf Tryd.prog 28 3 = some (3, 25) := by kernel_rfl
@[go_sem] theorem fld_28_4 : fieldOf Tryd.prog 28 4 = some (4, 4) := by kernel_rfl
@[go_sem] theorem fld_28_5 : fieldOf Tryd.prog 28 5 = some (5, 26) := by kernel_rfl
@[go_sem] theorem fld_28_6 : fieldOf Tryd.prog 28 6 = some (6, 3) := by kernel_rfl
@[go_sem] theorem fld_28_7 : fieldOf Tryd.prog 28 7 = some (7, 3) := by kernel_rfl
@[go_sem] theorem plc_28 : placesOf Tryd.prog 28 = some [(0, 1), (1, 1), (2, 1), (3, 1), (4, 1), (5, 1), (6, 1), (7, 1)] := by kernel_rfl
@[go_sem] theorem tsz_29 : tsz Tryd.prog 29 = some 1 := by kernel_rfl
@[go_sem] theorem agg_29 : isAggT Tryd.prog 29 = some false := by kernel_rfl
@[go_sem] theorem zer_29 : zeroOf Tryd.prog 29 = some (.nilFunc) := by kernel_rfl
@[go_sem] theorem zcs_29 : zcs Tryd.prog 29 = some 1 := by kernel_rfl
@[go_sem] theorem str_29 : isStrT Tryd.prog 29 = false := by kernel_rfl
@[go_sem] theorem ifc_29 : isIfaceT Tryd.prog 29 = some false := by kernel_rfl
@[go_sem] theorem tsz_30 : tsz Tryd.prog 30 = some 1 := by kernel_rfl
@[go_sem] theorem agg_30 : isAggT Tryd.prog 30 = some false := by kernel_rfl
@[go_sem] theorem zer_30 : zeroOf Tryd.prog 30 = some (.nilFunc) := by kernel_rfl
@[go_sem] theorem zcs_30 : zcs Tryd.prog 30 = some 1 := by kernel_rfl
@[go_sem] theorem str_30 : isStrT Tryd.prog 30 = false := by kernel_rfl
@[go_sem] theorem ifc_30 : isIfaceT Tryd.prog 30 = some false := by kernel_rfl
@[go_sem] theorem tsz_31 : tsz Tryd.prog 31 = some 1 := by kernel_rfl
@[go_sem] theorem agg_31 : isAggT Tryd.prog 31 = some false := by kernel_rfl
@[go_sem] theorem zer_31 : zeroOf Tryd.prog 31 = some (.slice none 0 0) := by kernel_rfl
@[go_sem] theorem zcs_31 : zcs Tryd.prog 31 = some 1 := by kernel_rfl
@[go_sem] theorem str_31 : isStrT Tryd.prog 31 = false := by kernel_rfl
@[go_sem] theorem ifc_31 : isIfaceT Tryd.prog 31 = some false := by kernel_rfl
@[go_sem] theorem und_31 : Tryd.prog.underlying 31 = some (.slice 54) := by kernel_rfl
@[go_sem] theorem elm_31 : elemT Tryd.prog 31 = some 54 := by kernel_rfl
@[go_sem] theorem tsz_32 : tsz Tryd.prog 32 = some 3 := by kernel_rfl
@[go_sem] theorem agg_32 : isAggT Tryd.prog 32 = some true := by kernel_rfl
@[go_sem] theorem zer_32 : zeroOf Tryd.prog 32 = some (.agg #[.string (⟨#[]⟩ : ByteArray), .string (⟨#[]⟩ : ByteArray), .slice none 0 0]) := by kernel_rfl
@[go_sem] theorem zcs_32 : zcs Tryd.prog 32 = some 3 := by kernel_rfl
@[go_sem] theorem str_32 : isStrT Tryd.prog 32 = false := by kernel_rfl
@[go_sem] theorem ifc_32 : isIfaceT Tryd.prog 32 = some false := by kernel_rfl
@[go_sem] theorem fld_32_0 : fieldOf Tryd.prog 32 0 = some (0, 9) := by kernel_rfl
@[go_sem] theorem fld_32_1 : fieldOf Tryd.prog 32 1 = some (1, 9) := by kernel_rfl
@[go_sem] theorem fld_32_2 : fieldOf Tryd.prog 32 2 = some (2, 31) := by kernel_rfl
@[go_sem] theorem plc_32 : placesOf Tryd.prog 32 = some [(0, 1), (1, 1), (2, 1)] := by kernel_rfl
@[go_sem] theorem tsz_33 : tsz Tryd.prog 33 = some 3 := by kernel_rfl
@[go_sem] theorem agg_33 : isAggT Tryd.prog 33 = some true := by kernel_rfl
@[go_sem] theorem zer_33 : zeroOf Tryd.prog 33 = some (.agg #[.string (⟨#[]⟩ : ByteArray), .string (⟨#[]⟩ : ByteArray), .slice none 0 0]) := by kernel_rfl
@[go_sem] theorem zcs_33 : zcs Tryd.prog 33 = some 3 := by kernel_rfl
@[go_sem] theorem str_33 : isStrT Tryd.prog 33 = false := by kernel_rfl
@[go_sem] theorem ifc_33 : isIfaceT Tryd.prog 33 = some false := by kernel_rfl
@[go_sem] theorem fld_33_0 : fieldOf Tryd.prog 33 0 = some (0, 9) := by kernel_rfl
@[go_sem] theorem fld_33_1 : fieldOf Tryd.prog 33 1 = some (1, 9) := by kernel_rfl
@[go_sem] theorem fld_33_2 : fieldOf Tryd.prog 33 2 = some (2, 31) := by kernel_rfl
@[go_sem] theorem plc_33 : placesOf Tryd.prog 33 = some [(0, 1), (1, 1), (2, 1)] := by kernel_rfl
@[go_sem] theorem tsz_34 : tsz Tryd.prog 34 = some 2 := by kernel_rfl
@[go_sem] theorem agg_34 : isAggT Tryd.prog 34 = some true := by kernel_rfl
@[go_sem] theorem zer_34 : zeroOf Tryd.prog 34 = some (.agg #[.int .i64 0, .slice none 0 0]) := by kernel_rfl
@[go_sem] theorem zcs_34 : zcs Tryd.prog 34 = some 2 := by kernel_rfl
@[go_sem] theorem str_34 : isStrT Tryd.prog 34 = false := by kernel_rfl
@[go_sem] theorem ifc_34 : isIfaceT Tryd.prog 34 = some false := by kernel_rfl
@[go_sem] theorem fld_34_0 : fieldOf Tryd.prog 34 0 = some (0, 3) := by kernel_rfl
@[go_sem] theorem fld_34_1 : fieldOf Tryd.prog 34 1 = some (1, 24) := by kernel_rfl
@[go_sem] theorem plc_34 : placesOf Tryd.prog 34 = some [(0, 1), (1, 1)] := by kernel_rfl
@[go_sem] theorem tsz_35 : tsz Tryd.prog 35 = some 2 := by kernel_rfl
@[go_sem] theorem agg_35 : isAggT Tryd.prog 35 = some true := by kernel_rfl
@[go_sem] theorem zer_35 : zeroOf Tryd.prog 35 = some (.agg #[.int .i64 0, .slice none 0 0]) := by kernel_rfl
@[go_sem] theorem zcs_35 : zcs Tryd.prog 35 = some 2 := by kernel_rfl
@[go_sem] theorem str_35 : isStrT Tryd.prog 35 = false := by kernel_rfl
@[go_sem] theorem ifc_35 : isIfaceT Tryd.prog 35 = some false := by kernel_rfl
@[go_sem] theorem fld_35_0 : fieldOf Tryd.prog 35 0 = some (0, 3) := by kernel_rfl
@[go_sem] theorem fld_35_1 : fieldOf Tryd.prog 35 1 = some (1, 24) := by kernel_rfl
@[go_sem] theorem plc_35 : placesOf Tryd.prog 35 = some [(0, 1), (1, 1)] := by kernel_rfl
@[go_sem] theorem tsz_36 : tsz Tryd.prog 36 = some 1 := by kernel_rfl
@[go_sem] theorem agg_36 : isAggT Tryd.prog 36 = some false := by kernel_rfl
@[go_sem] theorem zer_36 : zeroOf Tryd.prog 36 = some (.nilFunc) := by kernel_rfl
@[go_sem] theorem zcs_36 : zcs Tryd.prog 36 = some 1 := by kernel_rfl
@[go_sem] theorem str_36 : isStrT Tryd.prog 36 = false := by kernel_rfl
@[go_sem] theorem ifc_36 : isIfaceT Tryd.prog 36 = some false := by kernel_rfl
@[go_sem] theorem tsz_37 : tsz Tryd.prog 37 = some 1 := by kernel_rfl
@[go_sem] theorem agg_37 : isAggT Tryd.prog 37 = some false := by kernel_rfl
@[go_sem] theorem zer_37 : zeroOf Tryd.prog 37 = some (.nilFunc) := by kernel_rfl
@[go_sem] theorem zcs_37 : zcs Tryd.prog 37 = some 1 := by kernel_rfl
@[go_sem] theorem str_37 : isStrT Tryd.prog 37 = false := by kernel_rfl
@[go_sem] theorem ifc_37 : isIfaceT Tryd.prog 37 = some false := by kernel_rfl
@[go_sem] theorem tsz_38 : tsz Tryd.prog 38 = some 1 := by kernel_rfl
@[go_sem] theorem agg_38 : isAggT Tryd.prog 38 = some false := by kernel_rfl
@[go_sem] theorem zer_38 : zeroOf Tryd.prog 38 = some (.slice none 0 0) := by kernel_rfl
@[go_sem] theorem zcs_38 : zcs Tryd.prog 38 = some 1 := by kernel_rfl
@[go_sem] theorem str_38 : isStrT Tryd.prog 38 = false := by kernel_rfl
@[go_sem] theorem ifc_38 : isIfaceT Tryd.prog 38 = some false := by kernel_rfl
@[go_sem] theorem und_38 : Tryd.prog.underlying 38 = some (.slice 67) := by kernel_rfl
@[go_sem] theorem elm_38 : elemT Tryd.prog 38 = some 67 := by kernel_rfl
@[go_sem] theorem tsz_39 : tsz Tryd.prog 39 = some 1 := by kernel_rfl
@[go_sem] theorem agg_39 : isAggT Tryd.prog 39 = some false := by kernel_rfl
@[go_sem] theorem zer_39 : zeroOf Tryd.prog 39 = some (.slice none 0 0) := by kernel_rfl
@[go_sem] theorem zcs_39 : zcs Tryd.prog 39 = some 1 := by kernel_rfl
@[go_sem] theorem str_39 : isStrT Tryd.prog 39 = false := by kernel_rfl
@[go_sem] theorem ifc_39 : isIfaceT Tryd.prog 39 = some false := by kernel_rfl
@[go_sem] theorem und_39 : Tryd.prog.underlying 39 = some (.slice 69) := by kernel_rfl
@[go_sem] theorem elm_39 : elemT Tryd.prog 39 = some 69 := by kernel_rfl
@[go_sem] theorem tsz_40 : tsz Tryd.prog 40 = some 1 := by kernel_rfl
@[go_sem] theorem agg_40 : isAggT Tryd.prog 40 = some false := by kernel_rfl
@[go_sem] theorem zer_40 : zeroOf Tryd.prog 40 = some (.slice none 0 0) := by kernel_rfl
@[go_sem] theorem zcs_40 : zcs Tryd.prog 40 = some 1 := by kernel_rfl
@[go_sem] theorem str_40 : isStrT Tryd.prog 40 = false := by kernel_rfl
@[go_sem] theorem ifc_40 : isIfaceT Tryd.prog 40 = some false := by kernel_rfl
@[go_sem] theorem und_40 : Tryd.prog.underlying 40 = some (.slice 91) := by kernel_rfl
@[go_sem] theorem elm_40 : elemT Tryd.prog 40 = some 91 := by kernel_rfl
@[go_sem] theorem tsz_41 : tsz Tryd.prog 41 = some 1 := by kernel_rfl
@[go_sem] theorem agg_41 : isAggT Tryd.prog 41 = some false := by kernel_rfl
@[go_sem] theorem zer_41 : zeroOf Tryd.prog 41 = some (.slice none 0 0) := by kernel_rfl
@[go_sem] theorem zcs_41 : zcs Tryd.prog 41 = some 1 := by kernel_rfl
@[go_sem] theorem str_41 : isStrT Tryd.prog 41 = false := by kernel_rfl
@[go_sem] theorem ifc_41 : isIfaceT Tryd.prog 41 = some false := by kernel_rfl
@[go_sem] theorem und_41 : Tryd.prog.underlying 41 = some (.slice 71) := by kernel_rfl
@[go_sem] theorem elm_41 : elemT Tryd.prog 41 = some 71 := by kernel_rfl
@[go_sem] theorem tsz_42 : tsz Tryd.prog 42 = some 1 := by kernel_rfl
@[go_sem] theorem agg_42 : isAggT Tryd.prog 42 = some false := by kernel_rfl
@[go_sem] theorem zer_42 : zeroOf Tryd.prog 42 = some (.slice none 0 0) := by kernel_rfl
@[go_sem] theorem zcs_42 : zcs Tryd.prog 42 = some 1 := by kernel_rfl
@[go_sem] theorem str_42 : isStrT Tryd.prog 42 = false := by kernel_rfl
@[go_sem] theorem ifc_42 : isIfaceT Tryd.prog 42 = some false := by kernel_rfl
@[go_sem] theorem und_42 : Tryd.prog.underlying 42 = some (.slice 72) := by kernel_rfl
@[go_sem] theorem elm_42 : elemT Tryd.prog 42 = some 72 := by kernel_rfl
@[go_sem] theorem tsz_43 : tsz Tryd.prog 43 = some 8 := by kernel_rfl
@[go_sem] theorem agg_43 : isAggT Tryd.prog 43 = some true := by kernel_rfl
@[go_sem] theorem zer_43 : zeroOf Tryd.prog 43 = some (.agg #[.slice none 0 0, .slice none 0 0, .slice none 0 0, .slice none 0 0, .bool false, .slice none 0 0, .int .i64 0, .int .i64 0]) := by kernel_rfl
@[go_sem] theorem zcs_43 : zcs Tryd.prog 43 = some 8 := by kernel_rfl
@[go_sem] theorem str_43 : isStrT Tryd.prog 43 = false := by kernel_rfl
@[go_sem] theorem ifc_43 : isIfaceT Tryd.prog 43 = some false := by kernel_rfl
@[go_sem] theorem fld_43_0 : fieldOf Tryd.prog 43 0 = some (0, 38) := by kernel_rfl
@[go_sem] theorem fld_43_1 : fieldOf Tryd.prog 43 1 = some (1, 39) := by kernel_rfl
@[go_sem] theorem fld_43_2 : fieldOf Tryd.prog 43 2 = some (2, 40) := by kernel_rfl
@[go_sem] theorem fld_43_3 : fieldOf Tryd.prog 43 3 = some (3, 41) := by kernel_rfl
@[go_sem] theorem fld_43_4 : fieldOf Tryd.prog 43 4 = some (4, 4) := by kernel_rfl
@[go_sem] theorem fld_43_5 : fieldOf Tryd.prog 43 5 = some (5, 42) := by kernel_rfl
@[go_sem] theorem fld_43_6 : fieldOf Tryd.prog 43 6 = some (6, 3) := by kernel_rfl
@[go_sem] theorem fld_43_7 : fieldOf Tryd.prog 43 7 = some (7, 3) := by kernel_rfl
@[go_sem] theorem plc_43 : placesOf Tryd.prog 43 = some [(0, 1), (1, 1), (2, 1), (3, 1), (4, 1), (5, 1), (6, 1), (7, 1)] := by kernel_rfl
@[go_sem] theorem tsz_44 : tsz Tryd.prog 44 = some 8 := by kernel_rfl
@[go_sem] theorem agg_44 : isAggT Tryd.prog 44 = some true := by kernel_rfl
@[go_sem] theorem zer_44 : zeroOf Tryd.prog 44 = some (.agg #[.slice none 0 0, .slice none 0 0, .slice none 0 0, .slice none 0 0, .bool false, .slice none 0 0, .int .i64 0, .int .i64 0]) := by kernel_rfl
@[go_sem] theorem zcs_44 : zcs Tryd.prog 44 = some 8 := by kernel_rfl
@[go_sem] theorem str_44 : isStrT Tryd.prog 44 = false := by kernel_rfl
@[go_sem] theorem ifc_44 : isIfaceT Tryd.prog 44 = some false := by kernel_rfl
@[go_sem] theorem fld_44_0 : fieldOf Tryd.prog 44 0 = some (0, 38) := by kernel_rfl
@[go_sem] theorem fld_44_1 : fieldOf Tryd.prog 44 1 = some (1, 39) := by kernel_rfl
@[go_sem] theorem fld_44_2 : fieldOf Tryd.prog 44 2 = some (2, 40) := by kernel_rfl
@[go_sem] theorem fld_44_3 : fieldOf Tryd.prog 44 3 = some (3, 41) := by kernel_rfl
@[go_sem] theorem fld_44_4 : fieldOf Tryd.prog 44 4 = some (4, 4) := by kernel_rfl
@[go_sem] theorem fld_44_5 : fieldOf Tryd.prog 44 5 = some (5, 42) := by kernel_rfl
@[go_sem] theorem fld_44_6 : fieldOf Tryd.prog 44 6 = some (6, 3) := by kernel_rfl
@[go_sem] theorem fld_44_7 : fieldOf Tryd.prog 44 7 = some (7, 3) := by kernel_rfl
@[go_sem] theorem plc_44 : placesOf Tryd.prog 44 = some [(0, 1), (1, 1), (2, 1), (3, 1), (4, 1), (5, 1), (6, 1), (7, 1)] := by kernel_rfl
@[go_sem] theorem tsz_45 : tsz Tryd.prog 45 = some 1 := by kernel_rfl
@[go_sem] theorem agg_45 : isAggT Tryd.prog 45 = some false := by kernel_rfl
@[go_sem] theorem zer_45 : zeroOf Tryd.prog 45 = some (.nilFunc) := by kernel_rfl
@[go_sem] theorem zcs_45 : zcs Tryd.prog 45 = some 1 := by kernel_rfl
@[go_sem] theorem str_45 : isStrT Tryd.prog 45 = false := by kernel_rfl
@[go_sem] theorem ifc_45 : isIfaceT Tryd.prog 45 = some false := by kernel_rfl
@[go_sem] theorem tsz_46 : tsz Tryd.prog 46 = some 1 := by kernel_rfl
@[go_sem] theorem agg_46 : isAggT Tryd.prog 46 = some false := by kernel_rfl
@[go_sem] theorem zer_46 : zeroOf Tryd.prog 46 = some (.nilFunc) := by kernel_rfl
@[go_sem] theorem zcs_46 : zcs Tryd.prog 46 = some 1 := by kernel_rfl
@[go_sem] theorem str_46 : isStrT Tryd.prog 46 = false := by kernel_rfl
@[go_sem] theorem ifc_46 : isIfaceT Tryd.prog 46 = some false := by kernel_rfl
@[go_sem] theorem tsz_47 : tsz Tryd.prog 47 = some 1 := by kernel_rfl
@[go_sem] theorem agg_47 : isAggT Tryd.prog 47 = some false := by kernel_rfl
@[go_sem] theorem zer_47 : zeroOf Tryd.prog 47 = some (.float .f64 0) := by kernel_rfl
@[go_sem] theorem zcs_47 : zcs Tryd.prog 47 = some 1 := by kernel_rfl
@[go_sem] theorem str_47 : isStrT Tryd.prog 47 = false := by kernel_rfl
@[go_sem] theorem ifc_47 : isIfaceT Tryd.prog 47 = some false := by kernel_rfl
@[go_sem] theorem und_47 : Tryd.prog.underlying 47 = some (.float .f64) := by kernel_rfl
@[go_sem] theorem tsz_48 : tsz Tryd.prog 48 = some 4 := by kernel_rfl
@[go_sem] theorem agg_48 : isAggT Tryd.prog 48 = some true := by kernel_rfl
@[go_sem] theorem zer_48 : zeroOf Tryd.prog 48 = some (.agg #[.int .i64 0, .int .i64 0, .float .f64 0, .string (⟨#[]⟩ : ByteArray)]) := by kernel_rfl
@[go_sem] theorem zcs_48 : zcs Tryd.prog 48 = some 4 := by kernel_rfl
@[go_sem] theorem str_48 : isStrT Tryd.prog 48 = false := by kernel_rfl
@[go_sem] theorem ifc_48 : isIfaceT Tryd.prog 48 = some false := by kernel_rfl
@[go_sem] theorem fld_48_0 : fieldOf Tryd.prog 48 0 = some (0, 3) := by kernel_rfl
@[go_sem] theorem fld_48_1 : fieldOf Tryd.prog 48 1 = some (1, 3) := by kernel_rfl
@[go_sem] theorem fld_48_2 : fieldOf Tryd.prog 48 2 = some (2, 47) := by kernel_rfl
@[go_sem] theorem fld_48_3 : fieldOf Tryd.prog 48 3 = some (3, 9) := by kernel_rfl
@[go_sem] theorem plc_48 : placesOf Tryd.prog 48 = some [(0, 1), (1, 1), (2, 1), (3, 1)] := by kernel_rfl
@[go_sem] theorem tsz_49 : tsz Tryd.prog 49 = some 4 := by kernel_rfl
@[go_sem] theorem agg_49 : isAggT Tryd.prog 49 = some true := by kernel_rfl
@[go_sem] theorem zer_49 : zeroOf Tryd.prog 49 = some (.agg #[.int .i64 0, .int .i64 0, .float .f64 0, .string (⟨#[]⟩ : ByteArray)]) := by kernel_rfl
@[go_sem] theorem zcs_49 : zcs Tryd.prog 49 = some 4 := by kernel_rfl
@[go_sem] theorem str_49 : isStrT Tryd.prog 49 = false := by kernel_rfl
@[go_sem] theorem ifc_49 : isIfaceT Tryd.prog 49 = some false := by kernel_rfl
@[go_sem] theorem fld_49_0 : fieldOf Tryd.prog 49 0 = some (0, 3) := by kernel_rfl
@[go_sem] theorem fld_49_1 : fieldOf Tryd.prog 49 1 = some (1, 3) := by kernel_rfl
@[go_sem] theorem fld_49_2 : fieldOf Tryd.prog 49 2 = some (2, 47) := by kernel_rfl
@[go_sem] theorem fld_49_3 : fieldOf Tryd.prog 49 3 = some (3, 9) := by kernel_rfl
@[go_sem] theorem plc_49 : placesOf Tryd.prog 49 = some [(0, 1), (1, 1), (2, 1), (3, 1)] := by kernel_rfl
@[go_sem] theorem tsz_50 : tsz Tryd.prog 50 = some 1 := by kernel_rfl
@[go_sem] theorem agg_50 : isAggT Tryd.prog 50 = some false := by kernel_rfl
@[go_sem] theorem zer_50 : zeroOf Tryd.prog 50 = some (.slice none 0 0) := by kernel_rfl
@[go_sem] theorem zcs_50 : zcs Tryd.prog 50 = some 1 := by kernel_rfl
@[go_sem] theorem str_50 : isStrT Tryd.prog 50 = false := by kernel_rfl
@[go_sem] theorem ifc_50 : isIfaceT Tryd.prog 50 = some false := by kernel_rfl
@[go_sem] theorem und_50 : Tryd.prog.underlying 50 = some (.slice 49) := by kernel_rfl
@[go_sem] theorem elm_50 : elemT Tryd.prog 50 = some 49 := by kernel_rfl
@[go_sem] theorem tsz_51 : tsz Tryd.prog 51 = some 5 := by kernel_rfl
@[go_sem] theorem agg_51 : isAggT Tryd.prog 51 = some true := by kernel_rfl
@[go_sem] theorem zer_51 : zeroOf Tryd.prog 51 = some (.agg #[.int .i64 0, .int .i64 0, .float .f64 0, .string (⟨#[]⟩ : ByteArray), .slice none 0 0]) := by kernel_rfl
@[go_sem] theorem zcs_51 : zcs Tryd.prog 51 = some 5 := by kernel_rfl
@[go_sem] theorem str_51 : isStrT Tryd.prog 51 = false := by kernel_rfl
@[go_sem] theorem ifc_51 : isIfaceT Tryd.prog 51 = some false := by kernel_rfl
@[go_sem] theorem fld_51_0 : fieldOf Tryd.prog 51 0 = some (0, 49) := by kernel_rfl
@[go_sem] theorem fld_51_1 : fieldOf Tryd.prog 51 1 = some (4, 50) := by kernel_rfl
@[go_sem] theorem plc_51 : placesOf Tryd.prog 51 = some [(0, 4), (4, 1)] := by kernel_rfl
@[go_sem] theorem tsz_52 : tsz Tryd.prog 52 = some 5 := by kernel_rfl
@[go_sem] theorem agg_52 : isAggT Tryd.prog 52 = some true := by kernel_rfl
@[go_sem] theorem zer_52 : zeroOf Tryd.prog 52 = some (.agg #[.int .i64 0, .int .i64 0, .float .f64 0, .string (⟨#[]⟩ : ByteArray), .slice none 0 0]) := by kernel_rfl
@[go_sem] theorem zcs_52 : zcs Tryd.prog 52 = some 5 := by kernel_rfl
@[go_sem] theorem str_52 : isStrT Tryd.prog 52 = false := by kernel_rfl
@[go_sem] theorem ifc_52 : isIfaceT Tryd.prog 52 = some false := by kernel_rfl
@[go_sem] theorem fld_52_0 : fieldOf Tryd.prog 52 0 = some (0, 49) := by kernel_rfl
@[go_sem] theorem fld_52_1 : fieldOf Tryd.prog 52 1 = some (4, 50) := by kernel_rfl
@[go_sem] theorem plc_52 : placesOf Tryd.prog 52 = some [(0, 4), (4, 1)] := by kernel_rfl
@[go_sem] theorem tsz_53 : tsz Tryd.prog 53 = some 6 := by kernel_rfl
@[go_sem] theorem agg_53 : isAggT Tryd.prog 53 = some true := by kernel_rfl
@[go_sem] theorem zer_53 : zeroOf Tryd.prog 53 = some (.agg #[.string (⟨#[]⟩ : ByteArray), .int .i64 0, .int .i64 0, .float .f64 0, .string (⟨#[]⟩ : ByteArray), .slice none 0 0]) := by kernel_rfl
@[go_sem] theorem zcs_53 : zcs Tryd.prog 53 = some 6 := by kernel_rfl
@[go_sem] theorem str_53 : isStrT Tryd.prog 53 = false := by kernel_rfl
@[go_sem] theorem ifc_53 : isIfaceT Tryd.prog 53 = some false := by kernel_rfl
@[go_sem] theorem fld_53_0 : fieldOf Tryd.prog 53 0 = some (0, 9) := by kernel_rfl
@[go_sem] theorem fld_53_1 : fieldOf Tryd.prog 53 1 = some (1, 52) := by kernel_rfl
@[go_sem] theorem plc_53 : placesOf Tryd.prog 53 = some [(0, 1), (1, 5)] := by kernel_rfl
@[go_sem] theorem tsz_54 : tsz Tryd.prog 54 = some 6 := by kernel_rfl
@[go_sem] theorem agg_54 : isAggT Tryd.prog 54 = some true := by kernel_rfl
@[go_sem] theorem zer_54 : zeroOf Tryd.prog 54 = some (.agg #[.string (⟨#[]⟩ : ByteArray), .int .i64 0, .int .i64 0, .float .f64 0, .string (⟨#[]⟩ : ByteArray), .slice none 0 0]) := by kernel_rfl
@[go_sem] theorem zcs_54 : zcs Tryd.prog 54 = some 6 := by kernel_rfl
@[go_sem] theorem str_54 : isStrT Tryd.prog 54 = false := by kernel_rfl
@[go_sem] theorem ifc_54 : isIfaceT Tryd.prog 54 = some false := by kernel_rfl
@[go_sem] theorem fld_54_0 : fieldOf Tryd.prog 54 0 = some (0, 9) := by kernel_rfl
@[go_sem] theorem fld_54_1 : fieldOf Tryd.prog 54 1 = some (1, 52) := by kernel_rfl
@[go_sem] theorem plc_54 : placesOf Tryd.prog 54 = some [(0, 1), (1, 5)] := by kernel_rfl
@[go_sem] theorem tsz_55 : tsz Tryd.prog 55 = some 6 := by kernel_rfl
@[go_sem] theorem agg_55 : isAggT Tryd.prog 55 = some true := by kernel_rfl
@[go_sem] theorem zer_55 : zeroOf Tryd.prog 55 = some (.agg #[.string (⟨#[]⟩ : ByteArray), .string (⟨#[]⟩ : ByteArray), .bool false, .bool false, .int .i64 0, .int .i64 0]) := by kernel_rfl
@[go_sem] theorem zcs_55 : zcs Tryd.prog 55 = some 6 := by kernel_rfl
@[go_sem] theorem str_55 : isStrT Tryd.prog 55 = false := by kernel_rfl
@[go_sem] theorem ifc_55 : isIfaceT Tryd.prog 55 = some false := by kernel_rfl
@[go_sem] theorem fld_55_0 : fieldOf Tryd.prog 55 0 = some (0, 9) := by kernel_rfl
@[go_sem] theorem fld_55_1 : fieldOf Tryd.prog 55 1 = some (1, 9) := by kernel_rfl
@[go_sem] theorem fld_55_2 : fieldOf Tryd.prog 55 2 = some (2, 4) := by kernel_rfl
@[go_sem] theorem fld_55_3 : fieldOf Tryd.prog 55 3 = some (3, 4) := by kernel_rfl
@[go_sem] theorem fld_55_4 : fieldOf Tryd.prog 55 4 = some (4, 3) := by kernel_rfl
@[go_sem] theorem fld_55_5 : fieldOf Tryd.prog 55 5 = some (5, 3) := by kernel_rfl
@[go_sem] theorem plc_55 : placesOf Tryd.prog 55 = some [(0, 1), (1, 1), (2, 1), (3, 1), (4, 1), (5, 1)] := by kernel_rfl
@[go_sem] theorem tsz_56 : tsz Tryd.prog 56 = some 6 := by kernel_rfl
@[go_sem] theorem agg_56 : isAggT Tryd.prog 56 = some true := by kernel_rfl
@[go_sem] theorem zer_56 : zeroOf Tryd.prog 56 = some (.agg #[.string (⟨#[]⟩ : ByteArray), .string (⟨#[]⟩ : ByteArray), .bool false, .bool false, .int .i64 0, .int .i64 0]) := by kernel_rfl
@[go_sem] theorem zcs_56 : zcs Tryd.prog 56 = some 6 := by kernel_rfl
@[go_sem] theorem str_56 : isStrT Tryd.prog 56 = false := by kernel_rfl
@[go_sem] theorem ifc_56 : isIfaceT Tryd.prog 56 = some false := by kernel_rfl
@[go_sem] theorem fld_56_0 : fieldOf Tryd.prog 56 0 = some (0, 9) := by kernel_rfl
@[go_sem] theorem fld_56_1 : fieldOf Tryd.prog 56 1 = some (1, 9) := by kernel_rfl
@[go_sem] theorem fld_56_2 : fieldOf Tryd.prog 56 2 = some (2, 4) := by kernel_rfl
@[go_sem] theorem fld_56_3 : fieldOf Tryd.prog 56 3 = some (3, 4) := by kernel_rfl
@[go_sem] theorem fld_56_4 : fieldOf Tryd.prog 56 4 = some (4, 3) := by kernel_rfl
@[go_sem] theorem fld_56_5 : fieldOf Tryd.prog 56 5 = some (5, 3) := by kernel_rfl
@[go_sem] theorem plc_56 : placesOf Tryd.prog 56 = some [(0, 1), (1, 1), (2, 1), (3, 1), (4, 1), (5, 1)] := by kernel_rfl
@[go_sem] theorem tsz_57 : tsz Tryd.prog 57 = some 1 := by kernel_rfl
@[go_sem] theorem agg_57 : isAggT Tryd.prog 57 = some false := by kernel_rfl
@[go_sem] theorem zer_57 : zeroOf Tryd.prog 57 = some (.nilFunc) := by kernel_rfl
@[go_sem] theorem zcs_57 : zcs Tryd.prog 57 = some 1 := by kernel_rfl
@[go_sem] theorem str_57 : isStrT Tryd.prog 57 = false := by kernel_rfl
@[go_sem] theorem ifc_57 : isIfaceT Tryd.prog 57 = some false := by kernel_rfl
@[go_sem] theorem tsz_58 : tsz Tryd.prog 58 = some 1 := by kernel_rfl
@[go_sem] theorem agg_58 : isAggT Tryd.prog 58 = some false := by kernel_rfl
@[go_sem] theorem zer_58 : zeroOf Tryd.prog 58 = some (.nilFunc) := by kernel_rfl
@[go_sem] theorem zcs_58 : zcs Tryd.prog 58 = some 1 := by kernel_rfl
@[go_sem] theorem str_58 : isStrT Tryd.prog 58 = false := by kernel_rfl
@[go_sem] theorem ifc_58 : isIfaceT Tryd.prog 58 = some false := by kernel_rfl
@[go_sem] theorem tsz_59 : tsz Tryd.prog 59 = some 1 := by kernel_rfl
@[go_sem] theorem agg_59 : isAggT Tryd.prog 59 = some false := by kernel_rfl
@[go_sem] theorem zer_59 : zeroOf Tryd.prog 59 = some (.nilFunc) := by kernel_rfl
@[go_sem] theorem zcs_59 : zcs Tryd.prog 59 = some 1 := by kernel_rfl
@[go_sem] theorem str_59 : isStrT Tryd.prog 59 = false := by kernel_rfl
@[go_sem] theorem ifc_59 : isIfaceT Tryd.prog 59 = some false := by kernel_rfl
@[go_sem] theorem tsz_60 : tsz Tryd.prog 60 = some 1 := by kernel_rfl
@[go_sem] theorem agg_60 : isAggT Tryd.prog 60 = some false := by kernel_rfl
@[go_sem] theorem zer_60 : zeroOf Tryd.prog 60 = some (.slice none 0 0) := by kernel_rfl
@[go_sem] theorem zcs_60 : zcs Tryd.prog 60 = some 1 := by kernel_rfl
@[go_sem] theorem str_60 : isStrT Tryd.prog 60 = false := by kernel_rfl
@[go_sem] theorem ifc_60 : isIfaceT Tryd.prog 60 = some false := by kernel_rfl
@[go_sem] theorem und_60 : Tryd.prog.underlying 60 = some (.slice 9) := by kernel_rfl
@[go_sem] theorem elm_60 : elemT Tryd.prog 60 = some 9 := by kernel_rfl
@[go_sem] theorem tsz_61 : tsz Tryd.prog 61 = some 1 := by kernel_rfl
@[go_sem] theorem agg_61 : isAggT Tryd.prog 61 = some false := by kernel_rfl
@[go_sem] theorem zer_61 : zeroOf Tryd.prog 61 = some (.nilFunc) := by kernel_rfl
@[go_sem] theorem zcs_61 : zcs Tryd.prog 61 = some 1 := by kernel_rfl
@[go_sem] theorem str_61 : isStrT Tryd.prog 61 = false := by kernel_rfl
@[go_sem] theorem ifc_61 : isIfaceT Tryd.prog 61 = some false := by kernel_rfl
@[go_sem] theorem tsz_62 : tsz Tryd.prog 62 = some 2 := by kernel_rfl
@[go_sem] theorem agg_62 : isAggT Tryd.prog 62 = some true := by kernel_rfl
@[go_sem] theorem zer_62 : zeroOf Tryd.prog 62 = some (.agg #[.int .i64 0, .bool false]) := by kernel_rfl
@[go_sem] theorem zcs_62 : zcs Tryd.prog 62 = some 2 := by kernel_rfl
@[go_sem] theorem str_62 : isStrT Tryd.prog 62 = false := by kernel_rfl
@[go_sem] theorem ifc_62 : isIfaceT Tryd.prog 62 = some false := by kernel_rfl
@[go_sem] theorem fld_62_0 : fieldOf Tryd.prog 62 0 = some (0, 3) := by kernel_rfl
@[go_sem] theorem fld_62_1 : fieldOf Tryd.prog 62 1 = some (1, 4) := by kernel_rfl
@[go_sem] theorem plc_62 : placesOf Tryd.prog 62 = some [(0, 1), (1, 1)] := by kernel_rfl
@[go_sem] theorem tsz_63 : tsz Tryd.prog 63 = some 2 := by kernel_rfl
@[go_sem] theorem agg_63 : isAggT Tryd.prog 63 = some true := by kernel_rfl
@[go_sem] theorem zer_63 : zeroOf Tryd.prog 63 = some (.agg #[.int .i64 0, .bool false]) := by kernel_rfl
@[go_sem] theorem zcs_63 : zcs Tryd.prog 63 = some 2 := by kernel_rfl
@[go_sem] theorem str_63 : isStrT Tryd.prog 63 = false := by kernel_rfl
@[go_sem] theorem ifc_63 : isIfaceT Tryd.prog 63 = some false := by kernel_rfl
@[go_sem] theorem fld_63_0 : fieldOf Tryd.prog 63 0 = some (0, 3) := by kernel_rfl
@[go_sem] theorem fld_63_1 : fieldOf Tryd.prog 63 1 = some (1, 4) := by kernel_rfl
@[go_sem] theorem plc_63 : placesOf Tryd.prog 63 = some [(0, 1), (1, 1)] := by kernel_rfl
@[go_sem] theorem tsz_64 : tsz Tryd.prog 64 = some 1 := by kernel_rfl
@[go_sem] theorem agg_64 : isAggT Tryd.prog 64 = some false := by kernel_rfl
@[go_sem] theorem zer_64 : zeroOf Tryd.prog 64 = some (.nilFunc) := by kernel_rfl
@[go_sem] theorem zcs_64 : zcs Tryd.prog 64 = some 1 := by kernel_rfl
@[go_sem] theorem str_64 : isStrT Tryd.prog 64 = false := by kernel_rfl
@[go_sem] theorem ifc_64 : isIfaceT Tryd.prog 64 = some false := by kernel_rfl
@[go_sem] theorem tsz_65 : tsz Tryd.prog 65 = some 1 := by kernel_rfl
@[go_sem] theorem agg_65 : isAggT Tryd.prog 65 = some false := by kernel_rfl
@[go_sem] theorem zer_65 : zeroOf Tryd.prog 65 = some (.nilFunc) := by kernel_rfl
@[go_sem] theorem zcs_65 : zcs Tryd.prog 65 = some 1 := by kernel_rfl
@[go_sem] theorem str_65 : isStrT Tryd.prog 65 = false := by kernel_rfl
@[go_sem] theorem ifc_65 : isIfaceT Tryd.prog 65 = some false := by kernel_rfl
@[go_sem] theorem tsz_66 : tsz Tryd.prog 66 = some 1 := by kernel_rfl
@[go_sem] theorem agg_66 : isAggT Tryd.prog 66 = some false := by kernel_rfl
@[go_sem] theorem zer_66 : zeroOf Tryd.prog 66 = some (.nilFunc) := by kernel_rfl
@[go_sem] theorem zcs_66 : zcs Tryd.prog 66 = some 1 := by kernel_rfl
@[go_sem] theorem str_66 : isStrT Tryd.prog 66 = false := by kernel_rfl
@[go_sem] theorem ifc_66 : isIfaceT Tryd.prog 66 = some false := by kernel_rfl
@[go_sem] theorem tsz_67 : tsz Tryd.prog 67 = some 3 := by kernel_rfl
@[go_sem] theorem agg_67 : isAggT Tryd.prog 67 = some true := by kernel_rfl
@[go_sem] theorem zer_67 : zeroOf Tryd.prog 67 = some (.agg #[.string (⟨#[]⟩ : ByteArray), .string (⟨#[]⟩ : ByteArray), .slice none 0 0]) := by kernel_rfl
@[go_sem] theorem zcs_67 : zcs Tryd.prog 67 = some 3 := by kernel_rfl
@[go_sem] theorem str_67 : isStrT Tryd.prog 67 = false := by kernel_rfl
@[go_sem] theorem ifc_67 : isIfaceT Tryd.prog 67 = some false := by kernel_rfl
@[go_sem] theorem fld_67_0 : fieldOf Tryd.prog 67 0 = some (0, 9) := by kernel_rfl
@[go_sem] theorem fld_67_1 : fieldOf Tryd.prog 67 1 = some (1, 9) := by kernel_rfl
@[go_sem] theorem fld_67_2 : fieldOf Tryd.prog 67 2 = some (2, 31) := by kernel_rfl
@[go_sem] theorem plc_67 : placesOf Tryd.prog 67 = some [(0, 1), (1, 1), (2, 1)] := by kernel_rfl
@[go_sem] theorem tsz_68 : tsz Tryd.prog 68 = some 1 := by kernel_rfl
@[go_sem] theorem agg_68 : isAggT Tryd.prog 68 = some false := by kernel_rfl
@[go_sem] theorem zer_68 : zeroOf Tryd.prog 68 = some (.nilFunc) := by kernel_rfl
@[go_sem] theorem zcs_68 : zcs Tryd.prog 68 = some 1 := by kernel_rfl
@[go_sem] theorem str_68 : isStrT Tryd.prog 68 = false := by kernel_rfl
@[go_sem] theorem ifc_68 : isIfaceT Tryd.prog 68 = some false := by kernel_rfl
@[go_sem] theorem tsz_69 : tsz Tryd.prog 69 = some 6 := by kernel_rfl
@[go_sem] theorem agg_69 : isAggT Tryd.prog 69 = some true := by kernel_rfl
@[go_sem] theorem zer_69 : zeroOf Tryd.prog 69 = some (.agg #[.string (⟨#[]⟩ : ByteArray), .string (⟨#[]⟩ : ByteArray), .bool false, .bool false, .int .i64 0, .int .i64 0]) := by kernel_rfl
@[go_sem] theorem zcs_69 : zcs Tryd.prog 69 = some 6 := by kernel_rfl
@[go_sem] theorem str_69 : isStrT Tryd.prog 69 = false := by kernel_rfl
@[go_sem] theorem ifc_69 : isIfaceT Tryd.prog 69 = some false := by kernel_rfl
@[go_sem] theorem fld_69_0 : fieldOf Tryd.prog 69 0 = some (0, 9) := by kernel_rfl
@[go_sem] theorem fld_69_1 : fieldOf Tryd.prog 69 1 = some (1, 9) := by kernel_rfl
@[go_sem] theorem fld_69_2 : fieldOf Tryd.prog 69 2 = some (2, 4) := by kernel_rfl
@[go_sem] theorem fld_69_3 : fieldOf Tryd.prog 69 3 = some (3, 4) := by kernel_rfl
@[go_sem] theorem fld_69_4 : fieldOf Tryd.prog 69 4 = some (4, 3) := by kernel_rfl
@[go_sem] theorem fld_69_5 : fieldOf Tryd.prog 69 5 = some (5, 3) := by kernel_rfl
@[go_sem] theorem plc_69 : placesOf Tryd.prog 69 = some [(0, 1), (1, 1), (2, 1), (3, 1), (4, 1), (5, 1)] := by kernel_rfl
@[go_sem] theorem tsz_70 : tsz Tryd.prog 70 = some 2 := by kernel_rfl
@[go_sem] theorem agg_70 : isAggT Tryd.prog 70 = some true := by kernel_rfl
@[go_sem] theorem zer_70 : zeroOf Tryd.prog 70 = some (.agg #[.int .i64 0, .slice none 0 0]) := by kernel_rfl
@[go_sem] theorem zcs_70 : zcs Tryd.prog 70 = some 2 := by kernel_rfl
@[go_sem] theorem str_70 : isStrT Tryd.prog 70 = false := by kernel_rfl
@[go_sem] theorem ifc_70 : isIfaceT Tryd.prog 70 = some false := by kernel_rfl
@[go_sem] theorem fld_70_0 : fieldOf Tryd.prog 70 0 = some (0, 3) := by kernel_rfl
@[go_sem] theorem fld_70_1 : fieldOf Tryd.prog 70 1 = some (1, 40) := by kernel_rfl
@[go_sem] theorem plc_70 : placesOf Tryd.prog 70 = some [(0, 1), (1, 1)] := by kernel_rfl
@[go_sem] theorem tsz_71 : tsz Tryd.prog 71 = some 2 := by kernel_rfl
@[go_sem] theorem agg_71 : isAggT Tryd.prog 71 = some true := by kernel_rfl
@[go_sem] theorem zer_71 : zeroOf Tryd.prog 71 = some (.agg #[.int .i64 0, .slice none 0 0]) := by kernel_rfl
@[go_sem] theorem zcs_71 : zcs Tryd.prog 71 = some 2 := by kernel_rfl
@[go_sem] theorem str_71 : isStrT Tryd.prog 71 = false := by kernel_rfl
@[go_sem] theorem ifc_71 : isIfaceT Tryd.prog 71 = some false := by kernel_rfl
@[go_sem] theorem fld_71_0 : fieldOf Tryd.prog 71 0 = some (0, 3) := by kernel_rfl
@[go_sem] theorem fld_71_1 : fieldOf Tryd.prog 71 1 = some (1, 40) := by kernel_rfl
@[go_sem] theorem plc_71 : placesOf Tryd.prog 71 = some [(0, 1), (1, 1)] := by kernel_rfl
@[go_sem] theorem tsz_72 : tsz Tryd.prog 72 = some 2 := by kernel_rfl
@[go_sem] theorem agg_72 : isAggT Tryd.prog 72 = some true := by kernel_rfl
@[go_sem] theorem zer_72 : zeroOf Tryd.prog 72 = some (.agg #[.int .i64 0, .bool false]) := by kernel_rfl
@[go_sem] theorem zcs_72 : zcs Tryd.prog 72 = some 2 := by kernel_rfl
@[go_sem] theorem str_72 : isStrT Tryd.prog 72 = false := by kernel_rfl
@[go_sem] theorem ifc_72 : isIfaceT Tryd.prog 72 = some false := by kernel_rfl
@[go_sem] theorem fld_72_0 : fieldOf Tryd.prog 72 0 = some (0, 3) := by kernel_rfl
@[go_sem] theorem fld_72_1 : fieldOf Tryd.prog 72 1 = some (1, 4) := by kernel_rfl
@[go_sem] theorem plc_72 : placesOf Tryd.prog 72 = some [(0, 1), (1, 1)] := by kernel_rfl
@[go_sem] theorem tsz_73 : tsz Tryd.prog 73 = some 1 := by kernel_rfl
@[go_sem] theorem agg_73 : isAggT Tryd.prog 73 = some false := by kernel_rfl
@[go_sem] theorem zer_73 : zeroOf Tryd.prog 73 = some (.nilFunc) := by kernel_rfl
@[go_sem] theorem zcs_73 : zcs Tryd.prog 73 = some 1 := by kernel_rfl
@[go_sem] theorem str_73 : isStrT Tryd.prog 73 = false := by kernel_rfl
@[go_sem] theorem ifc_73 : isIfaceT Tryd.prog 73 = some false := by kernel_rfl
@[go_sem] theorem tsz_74 : tsz Tryd.prog 74 = some 8 := by kernel_rfl
@[go_sem] theorem agg_74 : isAggT Tryd.prog 74 = some true := by kernel_rfl
@[go_sem] theorem zer_74 : zeroOf Tryd.prog 74 = some (.agg #[.int .i64 0, .string (⟨#[]⟩ : ByteArray), .string (⟨#[]⟩ : ByteArray), .int .i64 0, .int .i64 0, .float .f64 0, .string (⟨#[]⟩ : ByteArray), .slice none 0 0]) := by kernel_rfl
@[go_sem] theorem zcs_74 : zcs Tryd.prog 74 = some 8 := by kernel_rfl
@[go_sem] theorem str_74 : isStrT Tryd.prog 74 = false := by kernel_rfl
@[go_sem] theorem ifc_74 : isIfaceT Tryd.prog 74 = some false := by kernel_rfl
@[go_sem] theorem fld_74_0 : fieldOf Tryd.prog 74 0 = some (0, 3) := by kernel_rfl
@[go_sem] theorem fld_74_1 : fieldOf Tryd.prog 74 1 = some (1, 9) := by kernel_rfl
@[go_sem] theorem fld_74_2 : fieldOf Tryd.prog 74 2 = some (2, 9) := by kernel_rfl
@[go_sem] theorem fld_74_3 : fieldOf Tryd.prog 74 3 = some (3, 52) := by kernel_rfl
@[go_sem] theorem plc_74 : placesOf Tryd.prog 74 = some [(0, 1), (1, 1), (2, 1), (3, 5)] := by kernel_rfl
@[go_sem] theorem tsz_75 : tsz Tryd.prog 75 = some 8 := by kernel_rfl
@[go_sem] theorem agg_75 : isAggT Tryd.prog 75 = some true := by kernel_rfl
@[go_sem] theorem zer_75 : zeroOf Tryd.prog 75 = some (.agg #[.int .i64 0, .string (⟨#[]⟩ : ByteArray), .string (⟨#[]⟩ : ByteArray), .int .i64 0, .int .i64 0, .float .f64 0, .string (⟨#[]⟩ : ByteArray), .slice none 0 0]) := by kernel_rfl
@[go_sem] theorem zcs_75 : zcs Tryd.prog 75 = some 8 := by kernel_rfl
@[go_sem] theorem str_75 : isStrT Tryd.prog 75 = false := by kernel_rfl
@[go_sem] theorem ifc_75 : isIfaceT Tryd.prog 75 = some false := by kernel_rfl
@[go_sem] theorem fld_75_0 : fieldOf Tryd.prog 75 0 = some (0, 3) := by kernel_rfl
@[go_sem] theorem fld_75_1 : fieldOf Tryd.prog 75 1 = some (1, 9) := by kernel_rfl
@[go_sem] theorem fld_75_2 : fieldOf Tryd.prog 75 2 = some (2, 9) := by kernel_rfl
@[go_sem] theorem fld_75_3 : fieldOf Tryd.prog 75 3 = some (3, 52) := by kernel_rfl
@[go_sem] theorem plc_75 : placesOf Tryd.prog 75 = some [(0, 1), (1, 1), (2, 1), (3, 5)] := by kernel_rfl
@[go_sem] theorem tsz_76 : tsz Tryd.prog 76 = some 1 := by kernel_rfl
@[go_sem] theorem agg_76 : isAggT Tryd.prog 76 = some false := by kernel_rfl
@[go_sem] theorem zer_76 : zeroOf Tryd.prog 76 = some (.nilFunc) := by kernel_rfl
@[go_sem] theorem zcs_76 : zcs Tryd.prog 76 = some 1 := by kernel_rfl
@[go_sem] theorem str_76 : isStrT Tryd.prog 76 = false := by kernel_rfl
@[go_sem] theorem ifc_76 : isIfaceT Tryd.prog 76 = some false := by kernel_rfl
@[go_sem] theorem tsz_77 : tsz Tryd.prog 77 = some 1 := by kernel_rfl
@[go_sem] theorem agg_77 : isAggT Tryd.prog 77 = some false := by kernel_rfl
@[go_sem] theorem zer_77 : zeroOf Tryd.prog 77 = some (.nilFunc) := by kernel_rfl
@[go_sem] theorem zcs_77 : zcs Tryd.prog 77 = some 1 := by kernel_rfl
@[go_sem] theorem str_77 : isStrT Tryd.prog 77 = false := by kernel_rfl
@[go_sem] theorem ifc_77 : isIfaceT Tryd.prog 77 = some false := by kernel_rfl
@[go_sem] theorem tsz_78 : tsz Tryd.prog 78 = some 1 := by kernel_rfl
@[go_sem] theorem agg_78 : isAggT Tryd.prog 78 = some false := by kernel_rfl
@[go_sem] theorem zer_78 : zeroOf Tryd.prog 78 = some (.nilFunc) := by kernel_rfl
@[go_sem] theorem zcs_78 : zcs Tryd.prog 78 = some 1 := by kernel_rfl
@[go_sem] theorem str_78 : isStrT Tryd.prog 78 = false := by kernel_rfl
@[go_sem] theorem ifc_78 : isIfaceT Tryd.prog 78 = some false := by kernel_rfl
@[go_sem] theorem tsz_79 : tsz Tryd.prog 79 = some 1 := by kernel_rfl
@[go_sem] theorem agg_79 : isAggT Tryd.prog 79 = some false := by kernel_rfl
@[go_sem] theorem zer_79 : zeroOf Tryd.prog 79 = some (.nilFunc) := by kernel_rfl
@[go_sem] theorem zcs_79 : zcs Tryd.prog 79 = some 1 := by kernel_rfl
@[go_sem] theorem str_79 : isStrT Tryd.prog 79 = false := by kernel_rfl
@[go_sem] theorem ifc_79 : isIfaceT Tryd.prog 79 = some false := by kernel_rfl
@[go_sem] theorem tsz_80 : tsz Tryd.prog 80 = some 1 := by kernel_rfl
@[go_sem] theorem agg_80 : isAggT Tryd.prog 80 = some false := by kernel_rfl
@[go_sem] theorem zer_80 : zeroOf Tryd.prog 80 = some (.nilFunc) := by kernel_rfl
@[go_sem] theorem zcs_80 : zcs Tryd.prog 80 = some 1 := by kernel_rfl
@[go_sem] theorem str_80 : isStrT Tryd.prog 80 = false := by kernel_rfl
@[go_sem] theorem ifc_80 : isIfaceT Tryd.prog 80 = some false := by kernel_rfl
@[go_sem] theorem tsz_81 : tsz Tryd.prog 81 = some 1 := by kernel_rfl
@[go_sem] theorem agg_81 : isAggT Tryd.prog 81 = some false := by kernel_rfl
@[go_sem] theorem zer_81 : zeroOf Tryd.prog 81 = some (.nilFunc) := by kernel_rfl
@[go_sem] theorem zcs_81 : zcs Tryd.prog 81 = some 1 := by kernel_rfl
@[go_sem] theorem str_81 : isStrT Tryd.prog 81 = false := by kernel_rfl
@[go_sem] theorem ifc_81 : isIfaceT Tryd.prog 81 = some false := by kernel_rfl
@[go_sem] theorem tsz_82 : tsz Tryd.prog 82 = some 1 := by kernel_rfl
@[go_sem] theorem agg_82 : isAggT Tryd.prog 82 = some false := by kernel_rfl
@[go_sem] theorem zer_82 : zeroOf Tryd.prog 82 = some (.pointer none) := by kernel_rfl
@[go_sem] theorem zcs_82 : zcs Tryd.prog 82 = some 1 := by kernel_rfl
@[go_sem] theorem str_82 : isStrT Tryd.prog 82 = false := by kernel_rfl
@[go_sem] theorem ifc_82 : isIfaceT Tryd.prog 82 = some false := by kernel_rfl
@[go_sem] theorem tsz_83 : tsz Tryd.prog 83 = some 1 := by kernel_rfl
@[go_sem] theorem agg_83 : isAggT Tryd.prog 83 = some false := by kernel_rfl
@[go_sem] theorem zer_83 : zeroOf Tryd.prog 83 = some (.slice none 0 0) := by kernel_rfl
@[go_sem] theorem zcs_83 : zcs Tryd.prog 83 = some 1 := by kernel_rfl
@[go_sem] theorem str_83 : isStrT Tryd.prog 83 = false := by kernel_rfl
@[go_sem] theorem ifc_83 : isIfaceT Tryd.prog 83 = some false := by kernel_rfl
@[go_sem] theorem und_83 : Tryd.prog.underlying 83 = some (.slice 5) := by kernel_rfl
@[go_sem] theorem elm_83 : elemT Tryd.prog 83 = some 5 := by kernel_rfl
@[go_sem] theorem tsz_84 : tsz Tryd.prog 84 = some 2 := by kernel_rfl
@[go_sem] theorem agg_84 : isAggT Tryd.prog 84 = some true := by kernel_rfl
@[go_sem] theorem zer_84 : zeroOf Tryd.prog 84 = some (.agg #[.pointer none, .slice none 0 0]) := by kernel_rfl
@[go_sem] theorem zcs_84 : zcs Tryd.prog 84 = some 2 := by kernel_rfl
@[go_sem] theorem str_84 : isStrT Tryd.prog 84 = false := by kernel_rfl
@[go_sem] theorem ifc_84 : isIfaceT Tryd.prog 84 = some false := by kernel_rfl
@[go_sem] theorem fld_84_0 : fieldOf Tryd.prog 84 0 = some (0, 82) := by kernel_rfl
@[go_sem] theorem fld_84_1 : fieldOf Tryd.prog 84 1 = some (1, 83) := by kernel_rfl
@[go_sem] theorem plc_84 : placesOf Tryd.prog 84 = some [(0, 1), (1, 1)] := by kernel_rfl
@[go_sem] theorem tsz_85 : tsz Tryd.prog 85 = some 2 := by kernel_rfl
@[go_sem] theorem agg_85 : isAggT Tryd.prog 85 = some true := by kernel_rfl
@[go_sem] theorem zer_85 : zeroOf Tryd.prog 85 = some (.agg #[.pointer none, .slice none 0 0]) := by kernel_rfl
@[go_sem] theorem zcs_85 : zcs Tryd.prog 85 = some 2 := by kernel_rfl
@[go_sem] theorem str_85 : isStrT Tryd.prog 85 = false := by kernel_rfl
@[go_sem] theorem ifc_85 : isIfaceT Tryd.prog 85 = some false := by kernel_rfl
@[go_sem] theorem fld_85_0 : fieldOf Tryd.prog 85 0 = some (0, 82) := by kernel_rfl
@[go_sem] theorem fld_85_1 : fieldOf Tryd.prog 85 1 = some (1, 83) := by kernel_rfl
@[go_sem] theorem plc_85 : placesOf Tryd.prog 85 = some [(0, 1), (1, 1)] := by kernel_rfl
@[go_sem] theorem tsz_86 : tsz Tryd.prog 86 = some 1 := by kernel_rfl
@[go_sem] theorem agg_86 : isAggT Tryd.prog 86 = some false := by kernel_rfl
@[go_sem] theorem zer_86 : zeroOf Tryd.prog 86 = some (.nilFunc) := by kernel_rfl
@[go_sem] theorem zcs_86 : zcs Tryd.prog 86 = some 1 := by kernel_rfl
@[go_sem] theorem str_86 : isStrT Tryd.prog 86 = false := by kernel_rfl
@[go_sem] theorem ifc_86 : isIfaceT Tryd.prog 86 = some false := by kernel_rfl
@[go_sem] theorem tsz_87 : tsz Tryd.prog 87 = some 1 := by kernel_rfl
@[go_sem] theorem agg_87 : isAggT Tryd.prog 87 = some false := by kernel_rfl
@[go_sem] theorem zer_87 : zeroOf Tryd.prog 87 = some (.nilIface) := by kernel_rfl
@[go_sem] theorem zcs_87 : zcs Tryd.prog 87 = some 1 := by kernel_rfl
@[go_sem] theorem str_87 : isStrT Tryd.prog 87 = false := by kernel_rfl
@[go_sem] theorem ifc_87 : isIfaceT Tryd.prog 87 = some true := by kernel_rfl
@[go_sem] theorem tsz_88 : tsz Tryd.prog 88 = some 1 := by kernel_rfl
@[go_sem] theorem agg_88 : isAggT Tryd.prog 88 = some false := by kernel_rfl
@[go_sem] theorem zer_88 : zeroOf Tryd.prog 88 = some (.nilIface) := by kernel_rfl
@[go_sem] theorem zcs_88 : zcs Tryd.prog 88 = some 1 := by kernel_rfl
@[go_sem] theorem str_88 : isStrT Tryd.prog 88 = false := by kernel_rfl
@[go_sem] theorem ifc_88 : isIfaceT Tryd.prog 88 = some true := by kernel_rfl
@[go_sem] theorem tsz_90 : tsz Tryd.prog 90 = some 1 := by kernel_rfl
@[go_sem] theorem agg_90 : isAggT Tryd.prog 90 = some false := by kernel_rfl
@[go_sem] theorem zer_90 : zeroOf Tryd.prog 90 = some (.nilFunc) := by kernel_rfl
@[go_sem] theorem zcs_90 : zcs Tryd.prog 90 = some 1 := by kernel_rfl
@[go_sem] theorem str_90 : isStrT Tryd.prog 90 = false := by kernel_rfl
@[go_sem] theorem ifc_90 : isIfaceT Tryd.prog 90 = some false := by kernel_rfl
@[go_sem] theorem tsz_91 : tsz Tryd.prog 91 = some 8 := by kernel_rfl
@[go_sem] theorem agg_91 : isAggT Tryd.prog 91 = some true := by kernel_rfl
@[go_sem] theorem zer_91 : zeroOf Tryd.prog 91 = some (.agg #[.int .i64 0, .string (⟨#[]⟩ : ByteArray), .string (⟨#[]⟩ : ByteArray), .int .i64 0, .int .i64 0, .float .f64 0, .string (⟨#[]⟩ : ByteArray), .slice none 0 0]) := by kernel_rfl
@[go_sem] theorem zcs_91 : zcs Tryd.prog 91 = some 8 := by kernel_rfl
@[go_sem] theorem str_91 : isStrT Tryd.prog 91 = false := by kernel_rfl
@[go_sem] theorem ifc_91 : isIfaceT Tryd.prog 91 = some false := by kernel_rfl
@[go_sem] theorem fld_91_0 : fieldOf Tryd.prog 91 0 = some (0, 3) := by kernel_rfl
@[go_sem] theorem fld_91_1 : fieldOf Tryd.prog 91 1 = some (1, 9) := by kernel_rfl
@[go_sem] theorem fld_91_2 : fieldOf Tryd.prog 91 2 = some (2, 9) := by kernel_rfl
@[go_sem] theorem fld_91_3 : fieldOf Tryd.prog 91 3 = some (3, 52) := by kernel_rfl
@[go_sem] theorem plc_91 : placesOf Tryd.prog 91 = some [(0, 1), (1, 1), (2, 1), (3, 5)] := by kernel_rfl
@[go_sem] theorem tsz_92 : tsz Tryd.prog 92 = some 1 := by kernel_rfl
@[go_sem] theorem agg_92 : isAggT Tryd.prog 92 = some false := by kernel_rfl
@[go_sem] theorem zer_92 : zeroOf Tryd.prog 92 = some (.nilFunc) := by kernel_rfl
@[go_sem] theorem zcs_92 : zcs Tryd.prog 92 = some 1 := by kernel_rfl
@[go_sem] theorem str_92 : isStrT Tryd.prog 92 = false := by kernel_rfl
@[go_sem] theorem ifc_92 : isIfaceT Tryd.prog 92 = some false := by kernel_rfl
@[go_sem] theorem tsz_93 : tsz Tryd.prog 93 = some 1 := by kernel_rfl
@[go_sem] theorem agg_93 : isAggT Tryd.prog 93 = some false := by kernel_rfl
@[go_sem] theorem zer_93 : zeroOf Tryd.prog 93 = some (.nilFunc) := by kernel_rfl
@[go_sem] theorem zcs_93 : zcs Tryd.prog 93 = some 1 := by kernel_rfl
@[go_sem] theorem str_93 : isStrT Tryd.prog 93 = false := by kernel_rfl
@[go_sem] theorem ifc_93 : isIfaceT Tryd.prog 93 = some false := by kernel_rfl
@[go_sem] theorem tsz_94 : tsz Tryd.prog 94 = some 1 := by kernel_rfl
@[go_sem] theorem agg_94 : isAggT Tryd.prog 94 = some false := by kernel_rfl
@[go_sem] theorem zer_94 : zeroOf Tryd.prog 94 = some (.nilFunc) := by kernel_rfl
@[go_sem] theorem zcs_94 : zcs Tryd.prog 94 = some 1 := by kernel_rfl
@[go_sem] theorem str_94 : isStrT Tryd.prog 94 = false := by kernel_rfl
@[go_sem] theorem ifc_94 : isIfaceT Tryd.prog 94 = some false := by kernel_rfl
@[go_sem] theorem tsz_95 : tsz Tryd.prog 95 = some 1 := by kernel_rfl
@[go_sem] theorem agg_95 : isAggT Tryd.prog 95 = some false := by kernel_rfl
@[go_sem] theorem zer_95 : zeroOf Tryd.prog 95 = some (.nilFunc) := by kernel_rfl
@[go_sem] theorem zcs_95 : zcs Tryd.prog 95 = some 1 := by kernel_rfl
@[go_sem] theorem str_95 : isStrT Tryd.prog 95 = false := by kernel_rfl
@[go_sem] theorem ifc_95 : isIfaceT Tryd.prog 95 = some false := by kernel_rfl
@[go_sem] theorem tsz_96 : tsz Tryd.prog 96 = some 4 := by kernel_rfl
@[go_sem] theorem agg_96 : isAggT Tryd.prog 96 = some true := by kernel_rfl
@[go_sem] theorem zer_96 : zeroOf Tryd.prog 96 = some (.agg #[.int .i64 0, .int .i64 0, .float .f64 0, .string (⟨#[]⟩ : ByteArray)]) := by kernel_rfl
@[go_sem] theorem zcs_96 : zcs Tryd.prog 96 = some 4 := by kernel_rfl
@[go_sem] theorem str_96 : isStrT Tryd.prog 96 = false := by kernel_rfl
@[go_sem] theorem ifc_96 : isIfaceT Tryd.prog 96 = some false := by kernel_rfl
@[go_sem] theorem fld_96_0 : fieldOf Tryd.prog 96 0 = some (0, 49) := by kernel_rfl
@[go_sem] theorem plc_96 : placesOf Tryd.prog 96 = some [(0, 4)] := by kernel_rfl
@[go_sem] theorem tsz_97 : tsz Tryd.prog 97 = some 4 := by kernel_rfl
@[go_sem] theorem agg_97 : isAggT Tryd.prog 97 = some true := by kernel_rfl
@[go_sem] theorem zer_97 : zeroOf Tryd.prog 97 = some (.agg #[.int .i64 0, .int .i64 0, .float .f64 0, .string (⟨#[]⟩ : ByteArray)]) := by kernel_rfl
@[go_sem] theorem zcs_97 : zcs Tryd.prog 97 = some 4 := by kernel_rfl
@[go_sem] theorem str_97 : isStrT Tryd.prog 97 = false := by kernel_rfl
@[go_sem] theorem ifc_97 : isIfaceT Tryd.prog 97 = some false := by kernel_rfl
@[go_sem] theorem fld_97_0 : fieldOf Tryd.prog 97 0 = some (0, 49) := by kernel_rfl
@[go_sem] theorem plc_97 : placesOf Tryd.prog 97 = some [(0, 4)] := by kernel_rfl
@[go_sem] theorem tsz_98 : tsz Tryd.prog 98 = some 1 := by kernel_rfl
@[go_sem] theorem agg_98 : isAggT Tryd.prog 98 = some false := by kernel_rfl
@[go_sem] theorem zer_98 : zeroOf Tryd.prog 98 = some (.pointer none) := by kernel_rfl
@[go_sem] theorem zcs_98 : zcs Tryd.prog 98 = some 1 := by kernel_rfl
@[go_sem] theorem str_98 : isStrT Tryd.prog 98 = false := by kernel_rfl
@[go_sem] theorem ifc_98 : isIfaceT Tryd.prog 98 = some false := by kernel_rfl
@[go_sem] theorem tsz_99 : tsz Tryd.prog 99 = some 1 := by kernel_rfl
@[go_sem] theorem agg_99 : isAggT Tryd.prog 99 = some false := by kernel_rfl
@[go_sem] theorem zer_99 : zeroOf Tryd.prog 99 = some (.nilFunc) := by kernel_rfl
@[go_sem] theorem zcs_99 : zcs Tryd.prog 99 = some 1 := by kernel_rfl
@[go_sem] theorem str_99 : isStrT Tryd.prog 99 = false := by kernel_rfl
@[go_sem] theorem ifc_99 : isIfaceT Tryd.prog 99 = some false := by kernel_rfl
@[go_sem] theorem tsz_100 : tsz Tryd.prog 100 = some 1 := by kernel_rfl
@[go_sem] theorem agg_100 : isAggT Tryd.prog 100 = some false := by kernel_rfl
@[go_sem] theorem zer_100 : zeroOf Tryd.prog 100 = some (.nilFunc) := by kernel_rfl
@[go_sem] theorem zcs_100 : zcs Tryd.prog 100 = some 1 := by kernel_rfl
@[go_sem] theorem str_100 : isStrT Tryd.prog 100 = false := by kernel_rfl
@[go_sem] theorem ifc_100 : isIfaceT Tryd.prog 100 = some false := by kernel_rfl
@[go_sem] theorem tsz_101 : tsz Tryd.prog 101 = some 1 := by kernel_rfl
@[go_sem] theorem agg_101 : isAggT Tryd.prog 101 = some false := by kernel_rfl
@[go_sem] theorem zer_101 : zeroOf Tryd.prog 101 = some (.slice none 0 0) := by kernel_rfl
@[go_sem] theorem zcs_101 : zcs Tryd.prog 101 = some 1 := by kernel_rfl
@[go_sem] theorem str_101 : isStrT Tryd.prog 101 = false := by kernel_rfl
@[go_sem] theorem ifc_101 : isIfaceT Tryd.prog 101 = some false := by kernel_rfl
@[go_sem] theorem und_101 : Tryd.prog.underlying 101 = some (.slice 3) := by kernel_rfl
@[go_sem] theorem elm_101 : elemT Tryd.prog 101 = some 3 := by kernel_rfl
@[go_sem] theorem tsz_102 : tsz Tryd.prog 102 = some 1 := by kernel_rfl
@[go_sem] theorem agg_102 : isAggT Tryd.prog 102 = some false := by kernel_rfl
@[go_sem] theorem zer_102 : zeroOf Tryd.prog 102 = some (.nilFunc) := by kernel_rfl
@[go_sem] theorem zcs_102 : zcs Tryd.prog 102 = some 1 := by kernel_rfl
@[go_sem] theorem str_102 : isStrT Tryd.prog 102 = false := by kernel_rfl
@[go_sem] theorem ifc_102 : isIfaceT Tryd.prog 102 = some false := by kernel_rfl
@[go_sem] theorem tsz_103 : tsz Tryd.prog 103 = some 1 := by kernel_rfl
@[go_sem] theorem agg_103 : isAggT Tryd.prog 103 = some false := by kernel_rfl
@[go_sem] theorem zer_103 : zeroOf Tryd.prog 103 = some (.nilFunc) := by kernel_rfl
@[go_sem] theorem zcs_103 : zcs Tryd.prog 103 = some 1 := by kernel_rfl
@[go_sem] theorem str_103 : isStrT Tryd.prog 103 = false := by kernel_rfl
@[go_sem] theorem ifc_103 : isIfaceT Tryd.prog 103 = some false := by kernel_rfl
@[go_sem] theorem tsz_104 : tsz Tryd.prog 104 = some 1 := by kernel_rfl
@[go_sem] theorem agg_104 : isAggT Tryd.prog 104 = some false := by kernel_rfl
@[go_sem] theorem zer_104 : zeroOf Tryd.prog 104 = some (.nilFunc) := by kernel_rfl
@[go_sem] theorem zcs_104 : zcs Tryd.prog 104 = some 1 := by kernel_rfl
@[go_sem] theorem str_104 : isStrT Tryd.prog 104 = false := by kernel_rfl
@[go_sem] theorem ifc_104 : isIfaceT Tryd.prog 104 = some false := by kernel_rfl
@[go_sem] theorem tsz_105 : tsz Tryd.prog 105 = some 1 := by kernel_rfl
@[go_sem] theorem agg_105 : isAggT Tryd.prog 105 = some false := by kernel_rfl
@[go_sem] theorem zer_105 : zeroOf Tryd.prog 105 = some (.nilFunc) := by kernel_rfl
@[go_sem] theorem zcs_105 : zcs Tryd.prog 105 = some 1 := by kernel_rfl
@[go_sem] theorem str_105 : isStrT Tryd.prog 105 = false := by kernel_rfl
@[go_sem] theorem ifc_105 : isIfaceT Tryd.prog 105 = some false := by kernel_rfl
@[go_sem] theorem tsz_106 : tsz Tryd.prog 106 = some 1 := by kernel_rfl
@[go_sem] theorem agg_106 : isAggT Tryd.prog 106 = some false := by kernel_rfl
@[go_sem] theorem zer_106 : zeroOf Tryd.prog 106 = some (.nilFunc) := by kernel_rfl
@[go_sem] theorem zcs_106 : zcs Tryd.prog 106 = some 1 := by kernel_rfl
@[go_sem] theorem str_106 : isStrT Tryd.prog 106 = false := by kernel_rfl
@[go_sem] theorem ifc_106 : isIfaceT Tryd.prog 106 = some false := by kernel_rfl
@[go_sem] theorem tsz_108 : tsz Tryd.prog 108 = some 1 := by kernel_rfl
@[go_sem] theorem agg_108 : isAggT Tryd.prog 108 = some false := by kernel_rfl
@[go_sem] theorem zer_108 : zeroOf Tryd.prog 108 = some (.nilFunc) := by kernel_rfl
@[go_sem] theorem zcs_108 : zcs Tryd.prog 108 = some 1 := by kernel_rfl
@[go_sem] theorem str_108 : isStrT Tryd.prog 108 = false := by kernel_rfl
@[go_sem] theorem ifc_108 : isIfaceT Tryd.prog 108 = some false := by kernel_rfl
@[go_sem] theorem tsz_109 : tsz Tryd.prog 109 = some 1 := by kernel_rfl
@[go_sem] theorem agg_109 : isAggT Tryd.prog 109 = some false := by kernel_rfl
@[go_sem] theorem zer_109 : zeroOf Tryd.prog 109 = some (.nilFunc) := by kernel_rfl
@[go_sem] theorem zcs_109 : zcs Tryd.prog 109 = some 1 := by kernel_rfl
@[go_sem] theorem str_109 : isStrT Tryd.prog 109 = false := by kernel_rfl
@[go_sem] theorem ifc_109 : isIfaceT Tryd.prog 109 = some false := by kernel_rfl
@[go_sem] theorem tsz_110 : tsz Tryd.prog 110 = some 24 := by kernel_rfl
@[go_sem] theorem agg_110 : isAggT Tryd.prog 110 = some true := by kernel_rfl
@[go_sem] theorem zer_110 : zeroOf Tryd.prog 110 = some (.agg #[.int .u8 0, .int .u8 0, .int .u8 0, .int .u8 0, .int .u8 0, .int .u8 0, .int .u8 0, .int .u8 0, .int .u8 0, .int .u8 0, .int .u8 0, .int .u8 0, .int .u8 0, .int .u8 0, .int .u8 0, .int .u8 0, .int .u8 0, .int .u8 0, .int .u8 0, .int .u8 0, .int .u8 0, .int .u8 0, .int .u8 0, .int .u8 0]) := by kernel_rfl
@[go_sem] theorem zcs_110 : zcs Tryd.prog 110 = some 24 := by kernel_rfl
@[go_sem] theorem str_110 : isStrT Tryd.prog 110 = false := by kernel_rfl
@[go_sem] theorem ifc_110 : isIfaceT Tryd.prog 110 = some false := by kernel_rfl
@[go_sem] theorem elm_110 : elemT Tryd.prog 110 = none := by kernel_rfl
@[go_sem] theorem plc_110 : placesOf Tryd.prog 110 = none := by kernel_rfl
@[go_sem] theorem arr_110 : arrT Tryd.prog 110 = some (24, 5) := by kernel_rfl
@[go_sem] theorem tsz_111 : tsz Tryd.prog 111 = some 1 := by kernel_rfl
@[go_sem] theorem agg_111 : isAggT Tryd.prog 111 = some false := by kernel_rfl
@[go_sem] theorem zer_111 : zeroOf Tryd.prog 111 = some (.int .u64 0) := by kernel_rfl
@[go_sem] theorem zcs_111 : zcs Tryd.prog 111 = some 1 := by kernel_rfl
@[go_sem] theorem str_111 : isStrT Tryd.prog 111 = false := by kernel_rfl
@[go_sem] theorem ifc_111 : isIfaceT Tryd.prog 111 = some false := by kernel_rfl
@[go_sem] theorem int_111 : intT Tryd.prog 111 = some .u64 := by kernel_rfl
@[go_sem] theorem und_111 : Tryd.prog.underlying 111 = some (.int .u64) := by kernel_rfl
@[go_sem] theorem tsz_112 : tsz Tryd.prog 112 = some 1 := by kernel_rfl
@[go_sem] theorem agg_112 : isAggT Tryd.prog 112 = some false := by kernel_rfl
@[go_sem] theorem zer_112 : zeroOf Tryd.prog 112 = some (.nilFunc) := by kernel_rfl
@[go_sem] theorem zcs_112 : zcs Tryd.prog 112 = some 1 := by kernel_rfl
@[go_sem] theorem str_112 : isStrT Tryd.prog 112 = false := by kernel_rfl
@[go_sem] theorem ifc_112 : isIfaceT Tryd.prog 112 = some false := by kernel_rfl
@[go_sem] theorem tsz_113 : tsz Tryd.prog 113 = some 1 := by kernel_rfl
@[go_sem] theorem agg_113 : isAggT Tryd.prog 113 = some false := by kernel_rfl
@[go_sem] theorem zer_113 : zeroOf Tryd.prog 113 = some (.nilFunc) := by kernel_rfl
@[go_sem] theorem zcs_113 : zcs Tryd.prog 113 = some 1 := by kernel_rfl
@[go_sem] theorem str_113 : isStrT Tryd.prog 113 = false := by kernel_rfl
@[go_sem] theorem ifc_113 : isIfaceT Tryd.prog 113 = some false := by kernel_rfl
@[go_sem] theorem tsz_115 : tsz Tryd.prog 115 = some 1 := by kernel_rfl
@[go_sem] theorem agg_115 : isAggT Tryd.prog 115 = some false := by kernel_rfl
@[go_sem] theorem zer_115 : zeroOf Tryd.prog 115 = some (.nilFunc) := by kernel_rfl
@[go_sem] theorem zcs_115 : zcs Tryd.prog 115 = some 1 := by kernel_rfl
@[go_sem] theorem str_115 : isStrT Tryd.prog 115 = false := by kernel_rfl
@[go_sem] theorem ifc_115 : isIfaceT Tryd.prog 115 = some false := by kernel_rfl
@[go_sem] theorem tsz_116 : tsz Tryd.prog 116 = some 1 := by kernel_rfl
@[go_sem] theorem agg_116 : isAggT Tryd.prog 116 = some false := by kernel_rfl
@[go_sem] theorem zer_116 : zeroOf Tryd.prog 116 = some (.nilFunc) := by kernel_rfl
@[go_sem] theorem zcs_116 : zcs Tryd.prog 116 = some 1 := by kernel_rfl
@[go_sem] theorem str_116 : isStrT Tryd.prog 116 = false := by kernel_rfl
@[go_sem] theorem ifc_116 : isIfaceT Tryd.prog 116 = some false := by kernel_rfl
@[go_sem] theorem tsz_117 : tsz Tryd.prog 117 = some 22 := by kernel_rfl
@[go_sem] theorem agg_117 : isAggT Tryd.prog 117 = some true := by kernel_rfl
@[go_sem] theorem zer_117 : zeroOf Tryd.prog 117 = some (.agg #[.string (⟨#[]⟩ : ByteArray), .string (⟨#[]⟩ : ByteArray), .string (⟨#[]⟩ : ByteArray), .string (⟨#[]⟩ : ByteArray), .string (⟨#[]⟩ : ByteArray), .string (⟨#[]⟩ : ByteArray), .string (⟨#[]⟩ : ByteArray), .string (⟨#[]⟩ : ByteArray), .string (⟨#[]⟩ : ByteArray), .string (⟨#[]⟩ : ByteArray), .string (⟨#[]⟩ : ByteArray), .string (⟨#[]⟩ : ByteArray), .string (⟨#[]⟩ : ByteArray), .string (⟨#[]⟩ : ByteArray), .string (⟨#[]⟩ : ByteArray), .string (⟨#[]⟩ : ByteArray), .string (⟨#[]⟩ : ByteArray), .string (⟨#[]⟩ : ByteArray), .string (⟨#[]⟩ : ByteArray), .string (⟨#[]⟩ : ByteArray), .string (⟨#[]⟩ : ByteArray), .string (⟨#[]⟩ : ByteArray)]) := by kernel_rfl
@[go_sem] theorem zcs_117 : zcs Tryd.prog 117 = some 22 := by kernel_rfl
@[go_sem] theorem str_117 : isStrT Tryd.prog 117 = false := by kernel_rfl
@[go_sem] theorem ifc_117 : isIfaceT Tryd.prog 117 = some false := by kernel_rfl
@[go_sem] theorem elm_117 : elemT Tryd.prog 117 = none := by kernel_rfl
@[go_sem] theorem plc_117 : placesOf Tryd.prog 117 = none := by kernel_rfl
@[go_sem] theorem arr_117 : arrT Tryd.prog 117 = some (22, 9) := by kernel_rfl
@[go_sem] theorem tsz_118 : tsz Tryd.prog 118 = some 1 := by kernel_rfl
@[go_sem] theorem agg_118 : isAggT Tryd.prog 118 = some false := by kernel_rfl
@[go_sem] theorem zer_118 : zeroOf Tryd.prog 118 = some (.nilFunc) := by kernel_rfl
@[go_sem] theorem zcs_118 : zcs Tryd.prog 118 = some 1 := by kernel_rfl
@[go_sem] theorem str_118 : isStrT Tryd.prog 118 = false := by kernel_rfl
@[go_sem] theorem ifc_118 : isIfaceT Tryd.prog 118 = some false := by kernel_rfl
@[go_sem] theorem tsz_119 : tsz Tryd.prog 119 = some 1 := by kernel_rfl
@[go_sem] theorem agg_119 : isAggT Tryd.prog 119 = some false := by kernel_rfl
@[go_sem] theorem zer_119 : zeroOf Tryd.prog 119 = some (.nilFunc) := by kernel_rfl
@[go_sem] theorem zcs_119 : zcs Tryd.prog 119 = some 1 := by kernel_rfl
@[go_sem] theorem str_119 : isStrT Tryd.prog 119 = false := by kernel_rfl
@[go_sem] theorem ifc_119 : isIfaceT Tryd.prog 119 = some false := by kernel_rfl
@[go_sem] theorem tsz_120 : tsz Tryd.prog 120 = some 1 := by kernel_rfl
@[go_sem] theorem agg_120 : isAggT Tryd.prog 120 = some false := by kernel_rfl
@[go_sem] theorem zer_120 : zeroOf Tryd.prog 120 = some (.nilFunc) := by kernel_rfl
@[go_sem] theorem zcs_120 : zcs Tryd.prog 120 = some 1 := by kernel_rfl
@[go_sem] theorem str_120 : isStrT Tryd.prog 120 = false := by kernel_rfl
@[go_sem] theorem ifc_120 : isIfaceT Tryd.prog 120 = some false := by kernel_rfl
@[go_sem] theorem tsz_121 : tsz Tryd.prog 121 = some 1 := by kernel_rfl
@[go_sem] theorem agg_121 : isAggT Tryd.prog 121 = some false := by kernel_rfl
@[go_sem] theorem zer_121 : zeroOf Tryd.prog 121 = some (.nilFunc) := by kernel_rfl
@[go_sem] theorem zcs_121 : zcs Tryd.prog 121 = some 1 := by kernel_rfl
@[go_sem] theorem str_121 : isStrT Tryd.prog 121 = false := by kernel_rfl
@[go_sem] theorem ifc_121 : isIfaceT Tryd.prog 121 = some false := by kernel_rfl
@[go_sem] theorem tsz_122 : tsz Tryd.prog 122 = some 16 := by kernel_rfl
@[go_sem] theorem agg_122 : isAggT Tryd.prog 122 = some true := by kernel_rfl
@[go_sem] theorem zer_122 : zeroOf Tryd.prog 122 = some (.agg #[.int .u8 0, .int .u8 0, .int .u8 0, .int .u8 0, .int .u8 0, .int .u8 0, .int .u8 0, .int .u8 0, .int .u8 0, .int .u8 0, .int .u8 0, .int .u8 0, .int .u8 0, .int .u8 0, .int .u8 0, .int .u8 0]) := by kernel_rfl
@[go_sem] theorem zcs_122 : zcs Tryd.prog 122 = some 16 := by kernel_rfl
@[go_sem] theorem str_122 : isStrT Tryd.prog 122 = false := by kernel_rfl
@[go_sem] theorem ifc_122 : isIfaceT Tryd.prog 122 = some false := by kernel_rfl
@[go_sem] theorem elm_122 : elemT Tryd.prog 122 = none := by kernel_rfl
@[go_sem] theorem plc_122 : placesOf Tryd.prog 122 = none := by kernel_rfl
@[go_sem] theorem arr_122 : arrT Tryd.prog 122 = some (16, 5) := by kernel_rfl
@[go_sem] theorem tsz_123 : tsz Tryd.prog 123 = some 1 := by kernel_rfl
@[go_sem] theorem agg_123 : isAggT Tryd.prog 123 = some false := by kernel_rfl
@[go_sem] theorem zer_123 : zeroOf Tryd.prog 123 = some (.nilFunc) := by kernel_rfl
@[go_sem] theorem zcs_123 : zcs Tryd.prog 123 = some 1 := by kernel_rfl
@[go_sem] theorem str_123 : isStrT Tryd.prog 123 = false := by kernel_rfl
@[go_sem] theorem ifc_123 : isIfaceT Tryd.prog 123 = some false := by kernel_rfl
@[go_sem] theorem tsz_124 : tsz Tryd.prog 124 = some 1 := by kernel_rfl
@[go_sem] theorem agg_124 : isAggT Tryd.prog 124 = some false := by kernel_rfl
@[go_sem] theorem zer_124 : zeroOf Tryd.prog 124 = some (.int .u64 0) := by kernel_rfl
@[go_sem] theorem zcs_124 : zcs Tryd.prog 124 = some 1 := by kernel_rfl
@[go_sem] theorem str_124 : isStrT Tryd.prog 124 = false := by kernel_rfl
@[go_sem] theorem ifc_124 : isIfaceT Tryd.prog 124 = some false := by kernel_rfl
@[go_sem] theorem int_124 : intT Tryd.prog 124 = some .u64 := by kernel_rfl
@[go_sem] theorem und_124 : Tryd.prog.underlying 124 = some (.int .u64) := by kernel_rfl
@[go_sem] theorem tsz_125 : tsz Tryd.prog 125 = some 1 := by kernel_rfl
@[go_sem] theorem agg_125 : isAggT Tryd.prog 125 = some false := by kernel_rfl
@[go_sem] theorem zer_125 : zeroOf Tryd.prog 125 = some (.nilFunc) := by kernel_rfl
@[go_sem] theorem zcs_125 : zcs Tryd.prog 125 = some 1 := by kernel_rfl
@[go_sem] theorem str_125 : isStrT Tryd.prog 125 = false := by kernel_rfl
@[go_sem] theorem ifc_125 : isIfaceT Tryd.prog 125 = some false := by kernel_rfl
@[go_sem] theorem tsz_126 : tsz Tryd.prog 126 = some 20 := by kernel_rfl
@[go_sem] theorem agg_126 : isAggT Tryd.prog 126 = some true := by kernel_rfl
@[go_sem] theorem zer_126 : zeroOf Tryd.prog 126 = some (.agg #[.int .u64 0, .int .u64 0, .int .u64 0, .int .u64 0, .int .u64 0, .int .u64 0, .int .u64 0, .int .u64 0, .int .u64 0, .int .u64 0, .int .u64 0, .int .u64 0, .int .u64 0, .int .u64 0, .int .u64 0, .int .u64 0, .int .u64 0, .int .u64 0, .int .u64 0, .int .u64 0]) := by kernel_rfl
@[go_sem] theorem zcs_126 : zcs Tryd.prog 126 = some 20 := by kernel_rfl
@[go_sem] theorem str_126 : isStrT Tryd.prog 126 = false := by kernel_rfl
@[go_sem] theorem ifc_126 : isIfaceT Tryd.prog 126 = some false := by kernel_rfl
@[go_sem] theorem elm_126 : elemT Tryd.prog 126 = none := by kernel_rfl
@[go_sem] theorem plc_126 : placesOf Tryd.prog 126 = none := by kernel_rfl
@[go_sem] theorem arr_126 : arrT Tryd.prog 126 = some (20, 111) := by kernel_rfl
@[go_sem] theorem tsz_127 : tsz Tryd.prog 127 = some 1 := by kernel_rfl
@[go_sem] theorem agg_127 : isAggT Tryd.prog 127 = some false := by kernel_rfl
@[go_sem] theorem zer_127 : zeroOf Tryd.prog 127 = some (.int .u32 0) := by kernel_rfl
@[go_sem] theorem zcs_127 : zcs Tryd.prog 127 = some 1 := by kernel_rfl
@[go_sem] theorem str_127 : isStrT Tryd.prog 127 = false := by kernel_rfl
@[go_sem] theorem ifc_127 : isIfaceT Tryd.prog 127 = some false := by kernel_rfl
@[go_sem] theorem int_127 : intT Tryd.prog 127 = some .u32 := by kernel_rfl
@[go_sem] theorem und_127 : Tryd.prog.underlying 127 = some (.int .u32) := by kernel_rfl
@[go_sem] theorem tsz_129 : tsz Tryd.prog 129 = some 1 := by kernel_rfl
@[go_sem] theorem agg_129 : isAggT Tryd.prog 129 = some false := by kernel_rfl
@[go_sem] theorem zer_129 : zeroOf Tryd.prog 129 = some (.nilFunc) := by kernel_rfl
@[go_sem] theorem zcs_129 : zcs Tryd.prog 129 = some 1 := by kernel_rfl
@[go_sem] theorem str_129 : isStrT Tryd.prog 129 = false := by kernel_rfl
@[go_sem] theorem ifc_129 : isIfaceT Tryd.prog 129 = some false := by kernel_rfl
@[go_sem] theorem tsz_130 : tsz Tryd.prog 130 = some 1 := by kernel_rfl
@[go_sem] theorem agg_130 : isAggT Tryd.prog 130 = some false := by kernel_rfl
@[go_sem] theorem zer_130 : zeroOf Tryd.prog 130 = some (.nilFunc) := by kernel_rfl
@[go_sem] theorem zcs_130 : zcs Tryd.prog 130 = some 1 := by kernel_rfl
@[go_sem] theorem str_130 : isStrT Tryd.prog 130 = false := by kernel_rfl
@[go_sem] theorem ifc_130 : isIfaceT Tryd.prog 130 = some false := by kernel_rfl
@[go_sem] theorem tsz_131 : tsz Tryd.prog 131 = some 1 := by kernel_rfl
@[go_sem] theorem agg_131 : isAggT Tryd.prog 131 = some false := by kernel_rfl
@[go_sem] theorem zer_131 : zeroOf Tryd.prog 131 = some (.nilFunc) := by kernel_rfl
@[go_sem] theorem zcs_131 : zcs Tryd.prog 131 = some 1 := by kernel_rfl
@[go_sem] theorem str_131 : isStrT Tryd.prog 131 = false := by kernel_rfl
@[go_sem] theorem ifc_131 : isIfaceT Tryd.prog 131 = some false := by kernel_rfl
@[go_sem] theorem tsz_132 : tsz Tryd.prog 132 = some 1 := by kernel_rfl
@[go_sem] theorem agg_132 : isAggT Tryd.prog 132 = some false := by kernel_rfl
@[go_sem] theorem zer_132 : zeroOf Tryd.prog 132 = some (.nilFunc) := by kernel_rfl
@[go_sem] theorem zcs_132 : zcs Tryd.prog 132 = some 1 := by kernel_rfl
@[go_sem] theorem str_132 : isStrT Tryd.prog 132 = false := by kernel_rfl
@[go_sem] theorem ifc_132 : isIfaceT Tryd.prog 132 = some false := by kernel_rfl
@[go_sem] theorem tsz_133 : tsz Tryd.prog 133 = some 1 := by kernel_rfl
@[go_sem] theorem agg_133 : isAggT Tryd.prog 133 = some false := by kernel_rfl
@[go_sem] theorem zer_133 : zeroOf Tryd.prog 133 = some (.nilFunc) := by kernel_rfl
@[go_sem] theorem zcs_133 : zcs Tryd.prog 133 = some 1 := by kernel_rfl
@[go_sem] theorem str_133 : isStrT Tryd.prog 133 = false := by kernel_rfl
@[go_sem] theorem ifc_133 : isIfaceT Tryd.prog 133 = some false := by kernel_rfl
@[go_sem] theorem tsz_134 : tsz Tryd.prog 134 = some 1 := by kernel_rfl
@[go_sem] theorem agg_134 : isAggT Tryd.prog 134 = some false := by kernel_rfl
@[go_sem] theorem zer_134 : zeroOf Tryd.prog 134 = some (.nilFunc) := by kernel_rfl
@[go_sem] theorem zcs_134 : zcs Tryd.prog 134 = some 1 := by kernel_rfl
@[go_sem] theorem str_134 : isStrT Tryd.prog 134 = false := by kernel_rfl
@[go_sem] theorem ifc_134 : isIfaceT Tryd.prog 134 = some false := by kernel_rfl
@[go_sem] theorem tsz_135 : tsz Tryd.prog 135 = some 32 := by kernel_rfl
@[go_sem] theorem agg_135 : isAggT Tryd.prog 135 = some true := by kernel_rfl
@[go_sem] theorem zer_135 : zeroOf Tryd.prog 135 = some (.agg #[.int .u8 0, .int .u8 0, .int .u8 0, .int .u8 0, .int .u8 0, .int .u8 0, .int .u8 0, .int .u8 0, .int .u8 0, .int .u8 0, .int .u8 0, .int .u8 0, .int .u8 0, .int .u8 0, .int .u8 0, .int .u8 0, .int .u8 0, .int .u8 0, .int .u8 0, .int .u8 0, .int .u8 0, .int .u8 0, .int .u8 0, .int .u8 0, .int .u8 0, .int .u8 0, .int .u8 0, .int .u8 0, .int .u8 0, .int .u8 0, .int .u8 0, .int .u8 0]) := by kernel_rfl
@[go_sem] theorem zcs_135 : zcs Tryd.prog 135 = some 32 := by kernel_rfl
@[go_sem] theorem str_135 : isStrT Tryd.prog 135 = false := by kernel_rfl
@[go_sem] theorem ifc_135 : isIfaceT Tryd.prog 135 = some false := by kernel_rfl
@[go_sem] theorem elm_135 : elemT Tryd.prog 135 = none := by kernel_rfl
@[go_sem] theorem plc_135 : placesOf Tryd.prog 135 = none := by kernel_rfl
@[go_sem] theorem arr_135 : arrT Tryd.prog 135 = some (32, 5) := by kernel_rfl
@[go_sem] theorem tsz_137 : tsz Tryd.prog 137 = some 4 := by kernel_rfl
@[go_sem] theorem agg_137 : isAggT Tryd.prog 137 = some true := by kernel_rfl
@[go_sem] theorem zer_137 : zeroOf Tryd.prog 137 = some (.agg #[.pointer none, .pointer none, .pointer none, .string (⟨#[]⟩ : ByteArray)]) := by kernel_rfl
@[go_sem] theorem zcs_137 : zcs Tryd.prog 137 = some 4 := by kernel_rfl
@[go_sem] theorem str_137 : isStrT Tryd.prog 137 = false := by kernel_rfl
@[go_sem] theorem ifc_137 : isIfaceT Tryd.prog 137 = some false := by kernel_rfl
@[go_sem] theorem fld_137_0 : fieldOf Tryd.prog 137 0 = some (0, 17) := by kernel_rfl
@[go_sem] theorem fld_137_1 : fieldOf Tryd.prog 137 1 = some (1, 17) := by kernel_rfl
@[go_sem] theorem fld_137_2 : fieldOf Tryd.prog 137 2 = some (2, 17) := by kernel_rfl
@[go_sem] theorem fld_137_3 : fieldOf Tryd.prog 137 3 = some (3, 9) := by kernel_rfl
@[go_sem] theorem plc_137 : placesOf Tryd.prog 137 = some [(0, 1), (1, 1), (2, 1), (3, 1)] := by kernel_rfl
@[go_sem] theorem tsz_138 : tsz Tryd.prog 138 = some 4 := by kernel_rfl
@[go_sem] theorem agg_138 : isAggT Tryd.prog 138 = some true := by kernel_rfl
@[go_sem] theorem zer_138 : zeroOf Tryd.prog 138 = some (.agg #[.pointer none, .pointer none, .pointer none, .string (⟨#[]⟩ : ByteArray)]) := by kernel_rfl
@[go_sem] theorem zcs_138 : zcs Tryd.prog 138 = some 4 := by kernel_rfl
@[go_sem] theorem str_138 : isStrT Tryd.prog 138 = false := by kernel_rfl
@[go_sem] theorem ifc_138 : isIfaceT Tryd.prog 138 = some false := by kernel_rfl
@[go_sem] theorem fld_138_0 : fieldOf Tryd.prog 138 0 = some (0, 17) := by kernel_rfl
@[go_sem] theorem fld_138_1 : fieldOf Tryd.prog 138 1 = some (1, 17) := by kernel_rfl
@[go_sem] theorem fld_138_2 : fieldOf Tryd.prog 138 2 = some (2, 17) := by kernel_rfl
@[go_sem] theorem fld_138_3 : fieldOf Tryd.prog 138 3 = some (3, 9) := by kernel_rfl
@[go_sem] theorem plc_138 : placesOf Tryd.prog 138 = some [(0, 1), (1, 1), (2, 1), (3, 1)] := by kernel_rfl
@[go_sem] theorem tsz_142 : tsz Tryd.prog 142 = some 1 := by kernel_rfl
@[go_sem] theorem agg_142 : isAggT Tryd.prog 142 = some false := by kernel_rfl
@[go_sem] theorem zer_142 : zeroOf Tryd.prog 142 = some (.nilFunc) := by kernel_rfl
@[go_sem] theorem zcs_142 : zcs Tryd.prog 142 = some 1 := by kernel_rfl
@[go_sem] theorem str_142 : isStrT Tryd.prog 142 = false := by kernel_rfl
@[go_sem] theorem ifc_142 : isIfaceT Tryd.prog 142 = some false := by kernel_rfl
@[go_sem] theorem tsz_143 : tsz Tryd.prog 143 = some 1 := by kernel_rfl
@[go_sem] theorem agg_143 : isAggT Tryd.prog 143 = some false := by kernel_rfl
@[go_sem] theorem zer_143 : zeroOf Tryd.prog 143 = some (.int .u8 0) := by kernel_rfl
@[go_sem] theorem zcs_143 : zcs Tryd.prog 143 = some 1 := by kernel_rfl
@[go_sem] theorem str_143 : isStrT Tryd.prog 143 = false := by kernel_rfl
@[go_sem] theorem ifc_143 : isIfaceT Tryd.prog 143 = some false := by kernel_rfl
@[go_sem] theorem int_143 : intT Tryd.prog 143 = some .u8 := by kernel_rfl
@[go_sem] theorem und_143 : Tryd.prog.underlying 143 = some (.int .u8) := by kernel_rfl
@[go_sem] theorem tsz_144 : tsz Tryd.prog 144 = some 1 := by kernel_rfl
@[go_sem] theorem agg_144 : isAggT Tryd.prog 144 = some false := by kernel_rfl
@[go_sem] theorem zer_144 : zeroOf Tryd.prog 144 = some (.int .u8 0) := by kernel_rfl
@[go_sem] theorem zcs_144 : zcs Tryd.prog 144 = some 1 := by kernel_rfl
@[go_sem] theorem str_144 : isStrT Tryd.prog 144 = false := by kernel_rfl
@[go_sem] theorem ifc_144 : isIfaceT Tryd.prog 144 = some false := by kernel_rfl
@[go_sem] theorem int_144 : intT Tryd.prog 144 = some .u8 := by kernel_rfl
@[go_sem] theorem und_144 : Tryd.prog.underlying 144 = some (.int .u8) := by kernel_rfl
@[go_sem] theorem tsz_145 : tsz Tryd.prog 145 = some 1 := by kernel_rfl
@[go_sem] theorem agg_145 : isAggT Tryd.prog 145 = some false := by kernel_rfl
@[go_sem] theorem zer_145 : zeroOf Tryd.prog 145 = some (.nilFunc) := by kernel_rfl
@[go_sem] theorem zcs_145 : zcs Tryd.prog 145 = some 1 := by kernel_rfl
@[go_sem] theorem str_145 : isStrT Tryd.prog 145 = false := by kernel_rfl
@[go_sem] theorem ifc_145 : isIfaceT Tryd.prog 145 = some false := by kernel_rfl
@[go_sem] theorem tsz_146 : tsz Tryd.prog 146 = some 1 := by kernel_rfl
@[go_sem] theorem agg_146 : isAggT Tryd.prog 146 = some false := by kernel_rfl
@[go_sem] theorem zer_146 : zeroOf Tryd.prog 146 = some (.int .i32 0) := by kernel_rfl
@[go_sem] theorem zcs_146 : zcs Tryd.prog 146 = some 1 := by kernel_rfl
@[go_sem] theorem str_146 : isStrT Tryd.prog 146 = false := by kernel_rfl
@[go_sem] theorem ifc_146 : isIfaceT Tryd.prog 146 = some false := by kernel_rfl
@[go_sem] theorem int_146 : intT Tryd.prog 146 = some .i32 := by kernel_rfl
@[go_sem] theorem und_146 : Tryd.prog.underlying 146 = some (.int .i32) := by kernel_rfl
@[go_sem] theorem tsz_147 : tsz Tryd.prog 147 = some 1 := by kernel_rfl
@[go_sem] theorem agg_147 : isAggT Tryd.prog 147 = some false := by kernel_rfl
@[go_sem] theorem zer_147 : zeroOf Tryd.prog 147 = some (.int .i32 0) := by kernel_rfl
@[go_sem] theorem zcs_147 : zcs Tryd.prog 147 = some 1 := by kernel_rfl
@[go_sem] theorem str_147 : isStrT Tryd.prog 147 = false := by kernel_rfl
@[go_sem] theorem ifc_147 : isIfaceT Tryd.prog 147 = some false := by kernel_rfl
@[go_sem] theorem int_147 : intT Tryd.prog 147 = some .i32 := by kernel_rfl
@[go_sem] theorem und_147 : Tryd.prog.underlying 147 = some (.int .i32) := by kernel_rfl
@[go_sem] theorem tsz_148 : tsz Tryd.prog 148 = some 11 := by kernel_rfl
@[go_sem] theorem agg_148 : isAggT Tryd.prog 148 = some true := by kernel_rfl
@[go_sem] theorem zer_148 : zeroOf Tryd.prog 148 = some (.agg #[.int .u64 0, .int .u64 0, .int .u32 0, .int .u8 0, .int .u8 0, .int .u8 0, .int .u8 0, .nilFunc, .pointer none, .int .i32 0, .int .i32 0]) := by kernel_rfl
@[go_sem] theorem zcs_148 : zcs Tryd.prog 148 = some 11 := by kernel_rfl
@[go_sem] theorem str_148 : isStrT Tryd.prog 148 = false := by kernel_rfl
@[go_sem] theorem ifc_148 : isIfaceT Tryd.prog 148 = some false := by kernel_rfl
@[go_sem] theorem fld_148_0 : fieldOf Tryd.prog 148 0 = some (0, 12) := by kernel_rfl
@[go_sem] theorem fld_148_1 : fieldOf Tryd.prog 148 1 = some (1, 12) := by kernel_rfl
@[go_sem] theorem fld_148_2 : fieldOf Tryd.prog 148 2 = some (2, 127) := by kernel_rfl
@[go_sem] theorem fld_148_3 : fieldOf Tryd.prog 148 3 = some (3, 143) := by kernel_rfl
@[go_sem] theorem fld_148_4 : fieldOf Tryd.prog 148 4 = some (4, 5) := by kernel_rfl
@[go_sem] theorem fld_148_5 : fieldOf Tryd.prog 148 5 = some (5, 5) := by kernel_rfl
@[go_sem] theorem fld_148_6 : fieldOf Tryd.prog 148 6 = some (6, 144) := by kernel_rfl
@[go_sem] theorem fld_148_7 : fieldOf Tryd.prog 148 7 = some (7, 145) := by kernel_rfl
@[go_sem] theorem fld_148_8 : fieldOf Tryd.prog 148 8 = some (8, 98) := by kernel_rfl
@[go_sem] theorem fld_148_9 : fieldOf Tryd.prog 148 9 = some (9, 146) := by kernel_rfl
@[go_sem] theorem fld_148_10 : fieldOf Tryd.prog 148 10 = some (10, 147) := by kernel_rfl
@[go_sem] theorem plc_148 : placesOf Tryd.prog 148 = some [(0, 1), (1, 1), (2, 1), (3, 1), (4, 1), (5, 1), (6, 1), (7, 1), (8, 1), (9, 1), (10, 1)] := by kernel_rfl
@[go_sem] theorem tsz_149 : tsz Tryd.prog 149 = some 11 := by kernel_rfl
@[go_sem] theorem agg_149 : isAggT Tryd.prog 149 = some true := by kernel_rfl
@[go_sem] theorem zer_149 : zeroOf Tryd.prog 149 = some (.agg #[.int .u64 0, .int .u64 0, .int .u32 0, .int .u8 0, .int .u8 0, .int .u8 0, .int .u8 0, .nilFunc, .pointer none, .int .i32 0, .int .i32 0]) := by kernel_rfl
@[go_sem] theorem zcs_149 : zcs Tryd.prog 149 = some 11 := by kernel_rfl
@[go_sem] theorem str_149 : isStrT Tryd.prog 149 = false := by kernel_rfl
@[go_sem] theorem ifc_149 : isIfaceT Tryd.prog 149 = some false := by kernel_rfl
@[go_sem] theorem fld_149_0 : fieldOf Tryd.prog 149 0 = some (0, 12) := by kernel_rfl
@[go_sem] theorem fld_149_1 : fieldOf Tryd.prog 149 1 = some (1, 12) := by kernel_rfl
@[go_sem] theorem fld_149_2 : fieldOf Tryd.prog 149 2 = some (2, 127) := by kernel_rfl
@[go_sem] theorem fld_149_3 : fieldOf Tryd.prog 149 3 = some (3, 143) := by kernel_rfl
@[go_sem] theorem fld_149_4 : fieldOf Tryd.prog 149 4 = some (4, 5) := by kernel_rfl
@[go_sem] theorem fld_149_5 : fieldOf Tryd.prog 149 5 = some (5, 5) := by kernel_rfl
@[go_sem] theorem fld_149_6 : fieldOf Tryd.prog 149 6 = some (6, 144) := by kernel_rfl
@[go_sem] theorem fld_149_7 : fieldOf Tryd.prog 149 7 = some (7, 145) := by kernel_rfl
@[go_sem] theorem fld_149_8 : fieldOf Tryd.prog 149 8 = some (8, 98) := by kernel_rfl
@[go_sem] theorem fld_149_9 : fieldOf Tryd.prog 149 9 = some (9, 146) := by kernel_rfl
@[go_sem] theorem fld_149_10 : fieldOf Tryd.prog 149 10 = some (10, 147) := by kernel_rfl
@[go_sem] theorem plc_149 : placesOf Tryd.prog 149 = some [(0, 1), (1, 1), (2, 1), (3, 1), (4, 1), (5, 1), (6, 1), (7, 1), (8, 1), (9, 1), (10, 1)] := by kernel_rfl
@[go_sem] theorem tby_3 : tby Tryd.prog 3 = some 8 := by kernel_rfl
@[go_sem] theorem tby_5 : tby Tryd.prog 5 = some 1 := by kernel_rfl
@[go_sem] theorem tby_9 : tby Tryd.prog 9 = some 16 := by kernel_rfl
@[go_sem] theorem tby_33 : tby Tryd.prog 33 = some 56 := by kernel_rfl
@[go_sem] theorem tby_35 : tby Tryd.prog 35 = some 32 := by kernel_rfl
@[go_sem] theorem tby_49 : tby Tryd.prog 49 = some 40 := by kernel_rfl
@[go_sem] theorem tby_54 : tby Tryd.prog 54 = some 80 := by kernel_rfl
@[go_sem] theorem tby_56 : tby Tryd.prog 56 = some 56 := by kernel_rfl
@[go_sem] theorem tby_63 : tby Tryd.prog 63 = some 16 := by kernel_rfl
@[go_sem] theorem tby_67 : tby Tryd.prog 67 = some 56 := by kernel_rfl
@[go_sem] theorem tby_69 : tby Tryd.prog 69 = some 56 := by kernel_rfl
@[go_sem] theorem tby_71 : tby Tryd.prog 71 = some 32 := by kernel_rfl
@[go_sem] theorem tby_72 : tby Tryd.prog 72 = some 16 := by kernel_rfl
@[go_sem] theorem tby_75 : tby Tryd.prog 75 = some 104 := by kernel_rfl
@[go_sem] theorem tby_91 : tby Tryd.prog 91 = some 104 := by kernel_rfl
theorem mix : Tryd.prog.follows .mixedOrders = true := by kernel_rfl
end Go.Proofs.YtlpfdgkfdgehnaaDoor.AM
namespace Go.Proofs.YtlpfdgkfdgehnaaDoor.AM
open Go.RowKit
abbrev iv (n : Int) : AV := .lit (.int .i64 n)
abbrev bv (b : Bool) : AV := .lit (.bool b)
abbrev sv (s : ByteArray) : AV := .lit (.string s)
abbrev di (n : Int) : Dat := .lit (.int .i64 n)
abbrev db (b : Bool) : Dat := .lit (.bool b)
abbrev ds' (s : ByteArray) : Dat := .lit (.string s)
abbrev df (f : Nat) : Dat := .lit (.float .f64 f)
abbrev eE : ByteArray := ⟨#[]⟩
structure AtomD where
  k : Int
  n : Int
  f : Nat
  s : ByteArray
def AtomD.enc (a : AtomD) : List Dat := [di a.k, di a.n, df a.f, ds' a.s]
structure ValD where
  a : AtomD
  l : List AtomD
def ValD.enc (v : ValD) : List Dat := [di v.a.k, di v.a.n, df v.a.f, ds' v.a.s, .lst 4 (v.l.map AtomD.enc)]
structure TermD where
  op : Int
  var : ByteArray
  name : ByteArray
  v : ValD
def TermD.enc (t : TermD) : List Dat := [di t.op, ds' t.var, ds' t.name, di t.v.a.k, di t.v.a.n, df t.v.a.f, ds' t.v.a.s, .lst 4 (t.v.l.map AtomD.enc)]
structure PropD where
  name : ByteArray
  v : ValD
def PropD.enc (p : PropD) : List Dat := [ds' p.name, di p.v.a.k, di p.v.a.n, df p.v.a.f, ds' p.v.a.s, .lst 4 (p.v.l.map AtomD.enc)]
structure SpotD where
  var : ByteArray
  label : ByteArray
  props : List PropD
def SpotD.enc (s : SpotD) : List Dat := [ds' s.var, ds' s.label, .lst 6 (s.props.map PropD.enc)]
structure HopD where
  var : ByteArray
  type : ByteArray
  back : Bool
  many : Bool
  least : Int
  most : Int
def HopD.enc (h : HopD) : List Dat := [ds' h.var, ds' h.type, db h.back, db h.many, di h.least, di h.most]
structure ItemD where
  fn : Int
  terms : List TermD
def ItemD.enc (x : ItemD) : List Dat := [di x.fn, .lst 8 (x.terms.map TermD.enc)]
structure SortD where
  item : Int
  desc : Bool
def SortD.enc (x : SortD) : List Dat := [di x.item, db x.desc]
structure QueryD where
  spots : List SpotD
  hops : List HopD
  wh : List TermD
  items : List ItemD
  distinct : Bool
  sorts : List SortD
  skip : Int
  limit : Int
def QueryD.enc (q : QueryD) : List Dat := [.lst 3 (q.spots.map SpotD.enc), .lst 6 (q.hops.map HopD.enc), .lst 8 (q.wh.map TermD.enc), .lst 2 (q.items.map ItemD.enc), db q.distinct, .lst 2 (q.sorts.map SortD.enc), di q.skip, di q.limit]
theorem row_at {α : Type} (e : α → List Dat) (l : List α) (k : Nat) (h : k < l.length) : (l.map e)[k]? = some (e l[k]) := by simp [h]
theorem lt_t {a b : Nat} (h : a < b) : decide ((a : Int) < (b : Int)) = true := by simpa using h
theorem lt_f {a b : Nat} (h : ¬ a < b) : decide ((a : Int) < (b : Int)) = false := by simpa using h
end Go.Proofs.YtlpfdgkfdgehnaaDoor.AM
