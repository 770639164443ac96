/- Part 4 of the proof: words, contracts, plain laws. Laid by a program of this session (wip/tool/shake.py): what is needed of own and printed texts, in order. -/
import Derived.Test.YtjihcldhjpdnmaaZb0
import Derived.Test.YtjihcldhjpdnmaaZb1
import Derived.Test.YtjihcldhjpdnmaaZb2
import Derived.Test.YtjihcldhjpdnmaaZb3
import Derived.Test.YtjihcldhjpdnmaaRows
import Derived.Lib.LaidTab
import Derived.MakeChecks
import Derived.KernelRfl
import Derived.Calls
import Derived.Lib.ItoaNum
import Derived.Orders
import Derived.Tactics
import Derived.Below
import Derived.Laws.Rows
import Derived.Laws.World
import Derived.Laws.CopyRow
import Derived.Lib.FrozenHead
import Derived.Deep.AppendSrc
import Derived.Deep.Upon
import Derived.Laws.BytesArg
import Derived.IntWalk
import Derived.Laws.Externs
import Derived.LoopN
import Derived.Test.YtjihcldhjpdnmaaProg
import Derived.MapKept
import Derived.SizedLaws
import Derived.ChangeArms
import Derived.WideShapes
import Derived.Deep.Slices
import Derived.RegionTactic
namespace Go.Proofs.Ytjihcldhjpdnmaa.AM
open Go.RowKit Go.WideShapes
set_option linter.unusedVariables false
set_option maxRecDepth 100000
def B3 (n : Int) : Prop := (Lit.int .i64 n).wf = true
theorem op3 : OpensD Try.prog 3 1 (fun n : Int => [.lit (.int .i64 n)]) B3 := opens_int Try.underlying3 (by kernel_rfl)
def B23 (b : Nat) : Prop := b < 18446744073709551616
theorem op23 : OpensD Try.prog 23 1 (fun b : Nat => [.lit (.float .f64 b)]) B23 := opens_float Try.underlying23 (by kernel_rfl)
def B9 (s : ByteArray) : Prop := s.size ≤ 140737488351232
theorem op9 : OpensD Try.prog 9 1 (fun s : ByteArray => [.lit (.string s)]) B9 := opens_string Try.underlying9 (by kernel_rfl)
def B25 (x : AtomD) : Prop := B3 x.k ∧ B3 x.n ∧ B23 x.f ∧ B9 x.s
theorem op25 : OpensD Try.prog 25 4 AtomD.enc B25 := opens_struct (en := fun (p : Int × Int × Nat × ByteArray) => (fun n : Int => [.lit (.int .i64 n)]) p.1 ++ ((fun n : Int => [.lit (.int .i64 n)]) p.2.1 ++ ((fun b : Nat => [.lit (.float .f64 b)]) p.2.2.1 ++ ((fun s : ByteArray => [.lit (.string s)]) p.2.2.2)))) (B := fun (p : Int × Int × Nat × ByteArray) => B3 p.1 ∧ (B3 p.2.1 ∧ (B23 p.2.2.1 ∧ (B9 p.2.2.2)))) (fun p => ⟨p.1, p.2.1, p.2.2.1, p.2.2.2⟩) (fun _ => rfl) (fun _ h => h) (fun _ => rfl) Try.underlying25 (by kernel_rfl) (opensF_cons (off := 0) (off' := 1) (sz := 1) (sz' := 3) (en := (fun n : Int => [.lit (.int .i64 n)])) (B := B3) (en' := fun (p : Int × Nat × ByteArray) => (fun n : Int => [.lit (.int .i64 n)]) p.1 ++ ((fun b : Nat => [.lit (.float .f64 b)]) p.2.1 ++ ((fun s : ByteArray => [.lit (.string s)]) p.2.2))) (B' := fun (p : Int × Nat × ByteArray) => B3 p.1 ∧ (B23 p.2.1 ∧ (B9 p.2.2))) rfl op3 rfl (opensF_cons (off := 1) (off' := 2) (sz := 1) (sz' := 2) (en := (fun n : Int => [.lit (.int .i64 n)])) (B := B3) (en' := fun (p : Nat × ByteArray) => (fun b : Nat => [.lit (.float .f64 b)]) p.1 ++ ((fun s : ByteArray => [.lit (.string s)]) p.2)) (B' := fun (p : Nat × ByteArray) => B23 p.1 ∧ (B9 p.2)) rfl op3 rfl (opensF_cons (off := 2) (off' := 3) (sz := 1) (sz' := 1) (en := (fun b : Nat => [.lit (.float .f64 b)])) (B := B23) (en' := fun (p : ByteArray) => (fun s : ByteArray => [.lit (.string s)]) p) (B' := fun (p : ByteArray) => B9 p) rfl op23 rfl (opensF_one rfl op9))))
def B22 (xs : (List AtomD)) : Prop := xs.length * Try.prog.bytesOf 25 ≤ 140737488351232 ∧ xs.length ≤ maxLen ∧ ∀ x ∈ xs, B25 x
theorem op22 : OpensD Try.prog 22 1 (fun xs : List AtomD => [.lst 4 (xs.map AtomD.enc)]) B22 := opens_slice Try.underlying22 (by kernel_rfl) op25 (by decide)
end Go.Proofs.Ytjihcldhjpdnmaa.AM
