/- Part 7 of the proof: words, contracts, plain laws. Laid by a program of this session (wip/tool/shake.py): what is needed of own and printed texts, in order. -/
import Derived.Test.YtfeacmadnbajfaaDoorZr0
import Derived.Test.YtfeacmadnbajfaaDoorZr1
import Derived.Test.YtfeacmadnbajfaaDoorZr2
import Derived.Test.YtfeacmadnbajfaaDoorZr3
import Derived.Test.YtfeacmadnbajfaaDoorZr4
import Derived.Test.YtfeacmadnbajfaaDoorZr5
import Derived.Test.YtfeacmadnbajfaaDoorZr6
import Derived.Calls
import Derived.Lib.ItoaNum
import Derived.Orders
import Derived.Tactics
import Derived.Below
import Derived.Laws.Rows
import Derived.Laws.World
import Derived.Laws.CopyRow
import Derived.Lib.FrozenHead
import Derived.Deep.AppendSrc
import Derived.Deep.Upon
import Derived.Laws.BytesArg
import Derived.IntWalk
import Derived.Laws.Externs
import Derived.LoopN
import Derived.Test.YtfeacmadnbajfaaDoorProg
import Derived.KernelRfl
import Derived.MapKept
import Derived.Laws.FloatBits
import Derived.SizedLaws
import Derived.ChangeArms
import Derived.WideShapes
import Derived.Deep.Slices
import Derived.Lib.ItoaMem
import Derived.Lib.ItoaLen
import Derived.Lib.Join
import Derived.RegionTactic
import Derived.Lib.AppendIntMem
import Derived.Shelf.Strings.Builder1
import Derived.Shelf.Strings.Builder2
import Derived.Shelf.Strings.OnBuilder
import Derived.Shelf.Small.Wraps
import Derived.Shelf.Strings.BuilderF
import Derived.Shelf.Strings.BuilderK
import Derived.Shelf.Strings.Builder2Cap
import Derived.Shelf.Strconv.Itoa0
import Derived.Shelf.Strconv.Itoa1
import Derived.Shelf.LaysM
import Derived.Shelf.Strconv.Itoa2
import Derived.Shelf.Strconv.Itoa3
import Derived.Shelf.Strings.BuilderCap
import Derived.Shelf.Slices.Turned
import Derived.Ground.Names2Prog
import Derived.Shelf.Slices.SearchI
import Derived.Test.YtfeacmadnbajfaaDoorRows
import Derived.Lib.LaidTab
import Derived.MakeChecks
namespace Go.Proofs.YtfeacmadnbajfaaDoor.AM
open Go.RowKit
set_option linter.unusedVariables false
theorem i64_of8 {n : Int} (h : B3 n) : i64B n := by
  have h1 : (decide (IntKind.i64.min ≤ n) && decide (n ≤ IntKind.i64.max)) = true := h
  have e1 : IntKind.i64.min = -9223372036854775808 := by decide
  have e2 : IntKind.i64.max = 9223372036854775807 := by decide
  rw [e1, e2] at h1
  simpa [i64B] using h1
theorem inA_of {a : AtomD} (h : B26 a) : inA a := ⟨i64_of8 h.2.1, h.2.2.1⟩
theorem inV_of {v : ValD} (h : B29 v) : inV v := ⟨inA_of h.1, fun a ha => inA_of (h.2.2.2 a ha)⟩
theorem law28 (vs : List ValD) (h0 : B60 vs) : Pure Tryd.prog 5 [.dat (.lst 5 (vs.map ValD.enc))] (bv true) := c_law28 vs (fun v hv => inV_of (h0.2.2 v hv))
end Go.Proofs.YtfeacmadnbajfaaDoor.AM
