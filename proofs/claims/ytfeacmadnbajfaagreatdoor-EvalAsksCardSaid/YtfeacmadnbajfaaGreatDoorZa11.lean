/- Part 11 of the proof: words, contracts, plain laws. Laid by a program of this session (wip/tool/shake.py): what is needed of own and printed texts, in order. -/
import Derived.Test.YtfeacmadnbajfaaGreatDoorZa0
import Derived.Test.YtfeacmadnbajfaaGreatDoorZa1
import Derived.Test.YtfeacmadnbajfaaGreatDoorZa2
import Derived.Test.YtfeacmadnbajfaaGreatDoorZa3
import Derived.Test.YtfeacmadnbajfaaGreatDoorZa4
import Derived.Test.YtfeacmadnbajfaaGreatDoorZa5
import Derived.Test.YtfeacmadnbajfaaGreatDoorZa6
import Derived.Test.YtfeacmadnbajfaaGreatDoorZa7
import Derived.Test.YtfeacmadnbajfaaGreatDoorZa8
import Derived.Test.YtfeacmadnbajfaaGreatDoorZa9
import Derived.Test.YtfeacmadnbajfaaGreatDoorZa10
import Derived.Calls
import Derived.Lib.ItoaNum
import Derived.Orders
import Derived.Tactics
import Derived.Below
import Derived.Laws.Rows
import Derived.Laws.World
import Derived.Laws.CopyRow
import Derived.Lib.FrozenHead
import Derived.Deep.AppendSrc
import Derived.Deep.Upon
import Derived.Laws.BytesArg
import Derived.IntWalk
import Derived.Laws.Externs
import Derived.LoopN
import Derived.Test.YtfeacmadnbajfaaGreatDoorProg
import Derived.KernelRfl
import Derived.MapKept
import Derived.Laws.FloatBits
import Derived.SizedLaws
import Derived.ChangeArms
import Derived.WideShapes
import Derived.Deep.Slices
import Derived.RegionTactic
import Derived.Lib.ItoaLen
import Derived.Lib.AppendIntMem
import Derived.Shelf.Strings.Builder1
import Derived.Shelf.Strings.Builder2
import Derived.Shelf.Strings.OnBuilder
import Derived.Shelf.Small.Bits
import Derived.Shelf.Small.Wraps
import Derived.Shelf.Strings.BuilderF
import Derived.Shelf.Strings.BuilderK
import Derived.Shelf.Strings.Builder2Cap
import Derived.Shelf.Strconv.Itoa0
import Derived.Shelf.Strconv.Itoa1
import Derived.Shelf.LaysM
import Derived.Shelf.Strconv.Itoa2
import Derived.Shelf.Strconv.Itoa3
import Derived.Shelf.Strings.BuilderCap
import Derived.Shelf.Slices.Turned
import Derived.Shelf.Slices.CompactS
import Derived.Ground.Names2Prog
import Derived.Shelf.Slices.SearchI
import Derived.Shelf.Slices.Cells
import Derived.Test.YtfeacmadnbajfaaGreatDoorRows
import Derived.Lib.LaidTab
import Derived.MakeChecks
namespace Go.Proofs.YtfeacmadnbajfaaGreatDoor.AM
open Go.RowKit
set_option linter.unusedVariables false
theorem i64_ofA {n : Int} (h : B3 n) : i64B n := by
  have h1 : (decide (IntKind.i64.min ≤ n) && decide (n ≤ IntKind.i64.max)) = true := h
  have e1 : IntKind.i64.min = -9223372036854775808 := by decide
  have e2 : IntKind.i64.max = 9223372036854775807 := by decide
  rw [e1, e2] at h1
  simpa [i64B] using h1
theorem flV_of {v : ValD} (h : B27 v) : flV v := ⟨h.1.2.2.1, fun a ha => (h.2.2.2 a ha).2.2.1⟩
theorem law22a (a b : ValD) (h0 : B27 a) (h1 : B27 b) : Pure Tryz.prog 5 [ofD a.enc, ofD b.enc] (bv true) := c_law22a a b (flV_of h0) (flV_of h1) (i64_ofA h0.1.2.1) (i64_ofA h1.1.2.1)
end Go.Proofs.YtfeacmadnbajfaaGreatDoor.AM
