/- Part 4 of the proof: words, contracts, plain laws. Laid by a program of this session (wip/tool/shake.py): what is needed of own and printed texts, in order. -/
import Derived.Test.YtjihcldhjpdnmaaDoorZc0
import Derived.Test.YtjihcldhjpdnmaaDoorZc1
import Derived.Test.YtjihcldhjpdnmaaDoorZc2
import Derived.Test.YtjihcldhjpdnmaaDoorZc3
import Derived.Test.YtjihcldhjpdnmaaDoorRows
import Derived.Lib.LaidTab
import Derived.MakeChecks
import Derived.KernelRfl
import Derived.Calls
import Derived.Lib.ItoaNum
import Derived.Orders
import Derived.Tactics
import Derived.Below
import Derived.Laws.Rows
import Derived.Laws.World
import Derived.Laws.CopyRow
import Derived.Lib.FrozenHead
import Derived.Deep.AppendSrc
import Derived.Deep.Upon
import Derived.Laws.BytesArg
import Derived.IntWalk
import Derived.Laws.Externs
import Derived.LoopN
import Derived.Test.YtjihcldhjpdnmaaDoorProg
import Derived.MapKept
import Derived.SizedLaws
import Derived.ChangeArms
import Derived.WideShapes
import Derived.Deep.Slices
import Derived.RegionTactic
namespace Go.Proofs.YtjihcldhjpdnmaaDoor.AM
open Go.RowKit Go.WideShapes
set_option linter.unusedVariables false
set_option maxRecDepth 100000
def B9 (s : ByteArray) : Prop := s.size ≤ 140737488351232
theorem op9 : OpensD Tryd.prog 9 1 (fun s : ByteArray => [.lit (.string s)]) B9 := opens_string Tryd.underlying9 (by kernel_rfl)
end Go.Proofs.YtjihcldhjpdnmaaDoor.AM
