/- Part 4 of the proof: words, contracts, plain laws. Laid by a program of this session (wip/tool/shake.py): what is needed of own and printed texts, in order. -/
import Derived.Test.YtjihcldhjpdnmaaDoorZe0
import Derived.Test.YtjihcldhjpdnmaaDoorZe1
import Derived.Test.YtjihcldhjpdnmaaDoorZe2
import Derived.Test.YtjihcldhjpdnmaaDoorZe3
import Derived.Test.YtjihcldhjpdnmaaDoorRows
import Derived.Lib.LaidTab
import Derived.MakeChecks
import Derived.KernelRfl
import Derived.Calls
import Derived.Lib.ItoaNum
import Derived.Orders
import Derived.Tactics
import Derived.Below
import Derived.Laws.Rows
import Derived.Laws.World
import Derived.Laws.CopyRow
import Derived.Lib.FrozenHead
import Derived.Deep.AppendSrc
import Derived.Deep.Upon
import Derived.Laws.BytesArg
import Derived.IntWalk
import Derived.Laws.Externs
import Derived.LoopN
import Derived.Scope
import Derived.Test.YtjihcldhjpdnmaaDoorProg
import Derived.MapKept
import Derived.SizedLaws
import Derived.ChangeArms
import Derived.WideShapes
import Derived.Deep.Slices
import Derived.RegionTactic
namespace Go.Proofs.YtjihcldhjpdnmaaDoor.AM
open Go.RowKit Go.WideShapes
set_option linter.unusedVariables false
set_option maxRecDepth 100000
def B9 (s : ByteArray) : Prop := s.size ≤ 140737488351232
theorem op9 : OpensD Tryd.prog 9 1 (fun s : ByteArray => [.lit (.string s)]) B9 := opens_string Tryd.underlying9 (by kernel_rfl)
def B3 (n : Int) : Prop := (Lit.int .i64 n).wf = true
theorem op3 : OpensD Tryd.prog 3 1 (fun n : Int => [.lit (.int .i64 n)]) B3 := opens_int Tryd.underlying3 (by kernel_rfl)
def B22 (b : Nat) : Prop := b < 18446744073709551616
theorem op22 : OpensD Tryd.prog 22 1 (fun b : Nat => [.lit (.float .f64 b)]) B22 := opens_float Tryd.underlying22 (by kernel_rfl)
def B24 (x : AtomD) : Prop := B3 x.k ∧ B3 x.n ∧ B22 x.f ∧ B9 x.s
theorem op24 : OpensD Tryd.prog 24 4 AtomD.enc B24 := opens_struct (en := fun (p : Int × Int × Nat × ByteArray) => (fun n : Int => [.lit (.int .i64 n)]) p.1 ++ ((fun n : Int => [.lit (.int .i64 n)]) p.2.1 ++ ((fun b : Nat => [.lit (.float .f64 b)]) p.2.2.1 ++ ((fun s : ByteArray => [.lit (.string s)]) p.2.2.2)))) (B := fun (p : Int × Int × Nat × ByteArray) => B3 p.1 ∧ (B3 p.2.1 ∧ (B22 p.2.2.1 ∧ (B9 p.2.2.2)))) (fun p => ⟨p.1, p.2.1, p.2.2.1, p.2.2.2⟩) (fun _ => rfl) (fun _ h => h) (fun _ => rfl) Tryd.underlying24 (by kernel_rfl) (opensF_cons (off := 0) (off' := 1) (sz := 1) (sz' := 3) (en := (fun n : Int => [.lit (.int .i64 n)])) (B := B3) (en' := fun (p : Int × Nat × ByteArray) => (fun n : Int => [.lit (.int .i64 n)]) p.1 ++ ((fun b : Nat => [.lit (.float .f64 b)]) p.2.1 ++ ((fun s : ByteArray => [.lit (.string s)]) p.2.2))) (B' := fun (p : Int × Nat × ByteArray) => B3 p.1 ∧ (B22 p.2.1 ∧ (B9 p.2.2))) rfl op3 rfl (opensF_cons (off := 1) (off' := 2) (sz := 1) (sz' := 2) (en := (fun n : Int => [.lit (.int .i64 n)])) (B := B3) (en' := fun (p : Nat × ByteArray) => (fun b : Nat => [.lit (.float .f64 b)]) p.1 ++ ((fun s : ByteArray => [.lit (.string s)]) p.2)) (B' := fun (p : Nat × ByteArray) => B22 p.1 ∧ (B9 p.2)) rfl op3 rfl (opensF_cons (off := 2) (off' := 3) (sz := 1) (sz' := 1) (en := (fun b : Nat => [.lit (.float .f64 b)])) (B := B22) (en' := fun (p : ByteArray) => (fun s : ByteArray => [.lit (.string s)]) p) (B' := fun (p : ByteArray) => B9 p) rfl op22 rfl (opensF_one rfl op9))))
def B25 (xs : (List AtomD)) : Prop := xs.length * Tryd.prog.bytesOf 24 ≤ 140737488351232 ∧ xs.length ≤ maxLen ∧ ∀ x ∈ xs, B24 x
theorem op25 : OpensD Tryd.prog 25 1 (fun xs : List AtomD => [.lst 4 (xs.map AtomD.enc)]) B25 := opens_slice Tryd.underlying25 (by kernel_rfl) op24 (by decide)
def B27 (x : ValD) : Prop := B24 x.a ∧ B25 x.l
theorem op27 : OpensD Tryd.prog 27 5 ValD.enc B27 := opens_struct (en := fun (p : AtomD × (List AtomD)) => AtomD.enc p.1 ++ ((fun xs : List AtomD => [.lst 4 (xs.map AtomD.enc)]) p.2)) (B := fun (p : AtomD × (List AtomD)) => B24 p.1 ∧ (B25 p.2)) (fun p => ⟨p.1, p.2⟩) (fun _ => rfl) (fun _ h => h) (fun _ => rfl) Tryd.underlying27 (by kernel_rfl) (opensF_cons (off := 0) (off' := 4) (sz := 4) (sz' := 1) (en := AtomD.enc) (B := B24) (en' := fun (p : (List AtomD)) => (fun xs : List AtomD => [.lst 4 (xs.map AtomD.enc)]) p) (B' := fun (p : (List AtomD)) => B25 p) rfl op24 rfl (opensF_one rfl op25))
def B155 (x : TermD) : Prop := B3 x.op ∧ B9 x.var ∧ B9 x.name ∧ B27 x.v
def B41 (xs : (List TermD)) : Prop := xs.length * Tryd.prog.bytesOf 155 ≤ 140737488351232 ∧ xs.length ≤ maxLen ∧ ∀ x ∈ xs, B155 x
def B52 (x : ItemD) : Prop := B3 x.fn ∧ B41 x.terms
end Go.Proofs.YtjihcldhjpdnmaaDoor.AM
