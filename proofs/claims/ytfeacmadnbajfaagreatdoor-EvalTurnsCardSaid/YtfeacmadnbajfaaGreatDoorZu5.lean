/- Part 5 of the proof: words, contracts, plain laws. Laid by a program of this session (wip/tool/shake.py): what is needed of own and printed texts, in order. -/
import Derived.Test.YtfeacmadnbajfaaGreatDoorZu0
import Derived.Test.YtfeacmadnbajfaaGreatDoorZu1
import Derived.Test.YtfeacmadnbajfaaGreatDoorZu2
import Derived.Test.YtfeacmadnbajfaaGreatDoorZu3
import Derived.Test.YtfeacmadnbajfaaGreatDoorZu4
import Derived.Test.YtfeacmadnbajfaaGreatDoorRows
import Derived.Lib.LaidTab
import Derived.MakeChecks
import Derived.KernelRfl
import Derived.Calls
import Derived.Lib.ItoaNum
import Derived.Orders
import Derived.Tactics
import Derived.Below
import Derived.Laws.Rows
import Derived.Laws.World
import Derived.Laws.CopyRow
import Derived.Lib.FrozenHead
import Derived.Deep.AppendSrc
import Derived.Deep.Upon
import Derived.Laws.BytesArg
import Derived.IntWalk
import Derived.Laws.Externs
import Derived.LoopN
import Derived.Test.YtfeacmadnbajfaaGreatDoorProg
import Derived.MapKept
import Derived.SizedLaws
import Derived.ChangeArms
import Derived.WideShapes
import Derived.Deep.Slices
import Derived.RegionTactic
namespace Go.Proofs.YtfeacmadnbajfaaGreatDoor.AM
open Go.RowKit Go.WideShapes
set_option linter.unusedVariables false
set_option maxRecDepth 100000
def B3 (n : Int) : Prop := (Lit.int .i64 n).wf = true
theorem op3 : OpensD Tryz.prog 3 1 (fun n : Int => [.lit (.int .i64 n)]) B3 := opens_int Tryz.underlying3 (by kernel_rfl)
end Go.Proofs.YtfeacmadnbajfaaGreatDoor.AM
