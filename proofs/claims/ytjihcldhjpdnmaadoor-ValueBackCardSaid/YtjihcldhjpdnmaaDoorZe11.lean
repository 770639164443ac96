/- Part 11 of the proof: words, contracts, plain laws. Laid by a program of this session (wip/tool/shake.py): what is needed of own and printed texts, in order. -/
import Derived.Test.YtjihcldhjpdnmaaDoorZe0
import Derived.Test.YtjihcldhjpdnmaaDoorZe1
import Derived.Test.YtjihcldhjpdnmaaDoorZe2
import Derived.Test.YtjihcldhjpdnmaaDoorZe3
import Derived.Test.YtjihcldhjpdnmaaDoorZe4
import Derived.Test.YtjihcldhjpdnmaaDoorZe5
import Derived.Test.YtjihcldhjpdnmaaDoorZe9
import Derived.Test.YtjihcldhjpdnmaaDoorZe10
import Derived.Calls
import Derived.Lib.ItoaNum
import Derived.Orders
import Derived.Tactics
import Derived.Below
import Derived.Laws.Rows
import Derived.Laws.World
import Derived.Laws.CopyRow
import Derived.Lib.FrozenHead
import Derived.Deep.AppendSrc
import Derived.Deep.Upon
import Derived.Laws.BytesArg
import Derived.IntWalk
import Derived.Laws.Externs
import Derived.LoopN
import Derived.Scope
import Derived.Test.YtjihcldhjpdnmaaDoorProg
import Derived.KernelRfl
import Derived.MapKept
import Derived.Laws.FloatBits
import Derived.SizedLaws
import Derived.ChangeArms
import Derived.WideShapes
import Derived.Deep.Slices
import Derived.Lib.ItoaMem
import Derived.Lib.ItoaLen
import Derived.Lib.Join
import Derived.RegionTactic
import Derived.Lib.AppendIntMem
import Derived.Shelf.Strings.Builder1
import Derived.Shelf.Strings.Builder2
import Derived.Shelf.Strings.OnBuilder
import Derived.Shelf.Small.Strs
import Derived.Shelf.Small.Wraps
import Derived.Shelf.Strings.BuilderF
import Derived.Shelf.Strings.BuilderK
import Derived.Shelf.Strings.Builder2Cap
import Derived.Shelf.Strconv.Atoi
import Derived.Shelf.Strconv.Itoa0
import Derived.Shelf.Strconv.Itoa1
import Derived.Shelf.LaysM
import Derived.Shelf.Strconv.Itoa2
import Derived.Shelf.Strconv.Itoa3
import Derived.Shelf.Strconv.AtoiErrFast
import Derived.Shelf.Strconv.ParseIntEmpty
import Derived.Shelf.Strconv.AtoiFail
import Derived.Shelf.Strconv.Clone
import Derived.Shelf.Strconv.SyntaxError
import Derived.Shelf.LaysC
import Derived.Shelf.Strconv.ToError
import Derived.Shelf.Strconv.Lower
import Derived.Shelf.Strconv.ParseUint10
import Derived.Shelf.Strconv.ParseUint10Empty
import Derived.Shelf.Strconv.ParseUint10Any
import Derived.Shelf.Strconv.ParseInt10
import Derived.Shelf.Strconv.AtoiLong
import Derived.Shelf.Strconv.AtoiInnerAll
import Derived.Shelf.Strconv.RangeError
import Derived.Shelf.Strconv.ToErrorRange
import Derived.Shelf.Strconv.AtoiAll
import Derived.Shelf.Strings.Search1
import Derived.Shelf.Strings.Prefix
import Derived.Shelf.Strings.BuilderCap
import Derived.Shelf.Slices.Turned
import Derived.Ground.Names2Prog
import Derived.Shelf.Slices.SearchI
import Derived.Test.YtjihcldhjpdnmaaDoorRows
import Derived.Lib.LaidTab
import Derived.MakeChecks
import Derived.Test.YtjihcldhjpdnmaaDoorZe6
import Derived.Test.YtjihcldhjpdnmaaDoorZe7
import Derived.Test.YtjihcldhjpdnmaaDoorZe8
import Derived.Recover
import Derived.WideLaws
namespace Go.Proofs.YtjihcldhjpdnmaaDoor.AM
open Go.RowKit
set_option linter.unusedVariables false
theorem i64_ofB {n : Int} (h : B3 n) : i64B n := by
  have h1 : (decide (IntKind.i64.min ≤ n) && decide (n ≤ IntKind.i64.max)) = true := h
  have e1 : IntKind.i64.min = -9223372036854775808 := by decide
  have e2 : IntKind.i64.max = 9223372036854775807 := by decide
  rw [e1, e2] at h1
  simpa [i64B] using h1
theorem kinA_of {a : AtomD} (h : B24 a) : kinA a := ⟨i64_ofB h.1, i64_ofB h.2.1, h.2.2.1⟩
theorem kinV_of {v : ValD} (h : B27 v) : kinV v := ⟨kinA_of h.1, fun a ha => kinA_of (h.2.2.2 a ha)⟩
theorem len_ofB {α : Type} {xs : List α} {b : Nat} (hb : 1 ≤ b) (h : xs.length * b ≤ 140737488351232) : xs.length ≤ 140737488351232 := Nat.le_trans (Nat.le_mul_of_pos_right _ hb) h
theorem bigV_of {v : ValD} (h : B27 v) : bigV v := ⟨h.1.2.2.2, len_ofB (by decide +kernel) h.2.1, fun a ha => (h.2.2.2 a ha).2.2.2⟩
end Go.Proofs.YtjihcldhjpdnmaaDoor.AM
namespace Go.Proofs.YtjihcldhjpdnmaaDoor.AM
open Go.RowKit
set_option linter.unusedVariables false
theorem lawBack (v : ValD) (m : ByteArray) (h0 : B27 v) (h1 : B9 m) : Pure Tryd.prog 5 [v.av, sv m] (bv true) := c_lawBack v m (kinV_of h0) (bigV_of h0) h1
end Go.Proofs.YtjihcldhjpdnmaaDoor.AM
