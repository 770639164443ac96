/- Part 13 of the proof: words, contracts, plain laws. Laid by a program of this session (wip/tool/shake.py): what is needed of own and printed texts, in order. -/
import Derived.Test.YtfeacmadnbajfaaDoorZt0
import Derived.Test.YtfeacmadnbajfaaDoorZt1
import Derived.Test.YtfeacmadnbajfaaDoorZt2
import Derived.Test.YtfeacmadnbajfaaDoorZt3
import Derived.Test.YtfeacmadnbajfaaDoorZt4
import Derived.Test.YtfeacmadnbajfaaDoorZt5
import Derived.Test.YtfeacmadnbajfaaDoorZt6
import Derived.Test.YtfeacmadnbajfaaDoorZt7
import Derived.Test.YtfeacmadnbajfaaDoorZt8
import Derived.Test.YtfeacmadnbajfaaDoorZt9
import Derived.Test.YtfeacmadnbajfaaDoorZt10
import Derived.Test.YtfeacmadnbajfaaDoorZt11
import Derived.Test.YtfeacmadnbajfaaDoorZt12
import Derived.Calls
import Derived.Lib.ItoaNum
import Derived.Orders
import Derived.Tactics
import Derived.Below
import Derived.Laws.Rows
import Derived.Laws.World
import Derived.Laws.CopyRow
import Derived.Lib.FrozenHead
import Derived.Deep.AppendSrc
import Derived.Deep.Upon
import Derived.Laws.BytesArg
import Derived.IntWalk
import Derived.Laws.Externs
import Derived.LoopN
import Derived.Test.YtfeacmadnbajfaaDoorProg
import Derived.KernelRfl
import Derived.MapKept
import Derived.SizedLaws
import Derived.ChangeArms
import Derived.WideShapes
import Derived.Deep.Slices
import Derived.RegionTactic
import Derived.Lib.ItoaLen
import Derived.Lib.AppendIntMem
import Derived.Shelf.Strings.Builder1
import Derived.Shelf.Strings.Builder2
import Derived.Shelf.Strings.OnBuilder
import Derived.Shelf.Small.Wraps
import Derived.Shelf.Strings.BuilderF
import Derived.Shelf.Strings.BuilderK
import Derived.Shelf.Strings.Builder2Cap
import Derived.Shelf.Strconv.Itoa0
import Derived.Shelf.Strconv.Itoa1
import Derived.Shelf.LaysM
import Derived.Shelf.Strconv.Itoa2
import Derived.Shelf.Strconv.Itoa3
import Derived.Shelf.Strings.BuilderCap
import Derived.Shelf.Slices.Turned
import Derived.Ground.Names2Prog
import Derived.Shelf.Slices.SearchI
import Derived.Test.YtfeacmadnbajfaaDoorRows
import Derived.Lib.LaidTab
import Derived.MakeChecks
namespace Go.Proofs.YtfeacmadnbajfaaDoor.AM
open Go.RowKit
set_option linter.unusedVariables false
theorem i64_of {n : Int} (h : B3 n) : i64B n := by
  have h1 : (decide (IntKind.i64.min ≤ n) && decide (n ≤ IntKind.i64.max)) = true := h
  have e1 : IntKind.i64.min = -9223372036854775808 := by decide
  have e2 : IntKind.i64.max = 9223372036854775807 := by decide
  rw [e1, e2] at h1
  simpa [i64B] using h1
theorem term_of {t : TermD} (h : B31 t) : bT t := ⟨i64_of h.2.2.2.1.2.1, h.2.1, h.2.2.1⟩
theorem law21 (ts : List TermD) (ns : List ByteArray) (name : ByteArray) (h0 : B22 ts) (h1 : B23 ns) (h2 : B9 name) :
    Pure Tryd.prog 3 [.dat (.lst 8 (ts.map TermD.enc)), .dat (.lst 1 (sl ns)), sv name] (bv true) := c_law21 ts ns name (fun t ht => term_of (h0.2.2 t ht))
end Go.Proofs.YtfeacmadnbajfaaDoor.AM
