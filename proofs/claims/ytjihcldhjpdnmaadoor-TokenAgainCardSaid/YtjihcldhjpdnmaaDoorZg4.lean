/- Part 4 of the proof: words, contracts, plain laws. Laid by a program of this session (wip/tool/shake.py): what is needed of own and printed texts, in order. -/
import Derived.Test.YtjihcldhjpdnmaaDoorZg0
import Derived.Test.YtjihcldhjpdnmaaDoorZg1
import Derived.Test.YtjihcldhjpdnmaaDoorZg2
import Derived.Test.YtjihcldhjpdnmaaDoorZg3
import Derived.Test.YtjihcldhjpdnmaaDoorRows
import Derived.Lib.LaidTab
import Derived.MakeChecks
import Derived.KernelRfl
import Derived.Calls
import Derived.Lib.ItoaNum
import Derived.Orders
import Derived.Tactics
import Derived.Below
import Derived.Laws.Rows
import Derived.Laws.World
import Derived.Laws.CopyRow
import Derived.Lib.FrozenHead
import Derived.Deep.AppendSrc
import Derived.Deep.Upon
import Derived.Laws.BytesArg
import Derived.IntWalk
import Derived.Laws.Externs
import Derived.LoopN
import Derived.Scope
import Derived.Test.YtjihcldhjpdnmaaDoorProg
import Derived.MapKept
import Derived.SizedLaws
import Derived.ChangeArms
import Derived.WideShapes
import Derived.Deep.Slices
import Derived.RegionTactic
namespace Go.Proofs.YtjihcldhjpdnmaaDoor.AM
open Go.RowKit Go.WideShapes
set_option linter.unusedVariables false
set_option maxRecDepth 100000
def B9 (s : ByteArray) : Prop := s.size ≤ 140737488351232
theorem op9 : OpensD Tryd.prog 9 1 (fun s : ByteArray => [.lit (.string s)]) B9 := opens_string Tryd.underlying9 (by kernel_rfl)
def B3 (n : Int) : Prop := (Lit.int .i64 n).wf = true
def B22 (b : Nat) : Prop := b < 18446744073709551616
def B24 (x : AtomD) : Prop := B3 x.k ∧ B3 x.n ∧ B22 x.f ∧ B9 x.s
def B25 (xs : (List AtomD)) : Prop := xs.length * Tryd.prog.bytesOf 24 ≤ 140737488351232 ∧ xs.length ≤ maxLen ∧ ∀ x ∈ xs, B24 x
def B27 (x : ValD) : Prop := B24 x.a ∧ B25 x.l
def B155 (x : TermD) : Prop := B3 x.op ∧ B9 x.var ∧ B9 x.name ∧ B27 x.v
def B41 (xs : (List TermD)) : Prop := xs.length * Tryd.prog.bytesOf 155 ≤ 140737488351232 ∧ xs.length ≤ maxLen ∧ ∀ x ∈ xs, B155 x
def B52 (x : ItemD) : Prop := B3 x.fn ∧ B41 x.terms
end Go.Proofs.YtjihcldhjpdnmaaDoor.AM
