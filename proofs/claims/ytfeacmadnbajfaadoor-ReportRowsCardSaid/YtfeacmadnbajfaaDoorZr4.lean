/- Part 4 of the proof: words, contracts, plain laws. Laid by a program of this session (wip/tool/shake.py): what is needed of own and printed texts, in order. -/
import Derived.Test.YtfeacmadnbajfaaDoorZr0
import Derived.Test.YtfeacmadnbajfaaDoorZr1
import Derived.Test.YtfeacmadnbajfaaDoorZr2
import Derived.Test.YtfeacmadnbajfaaDoorZr3
import Derived.Test.YtfeacmadnbajfaaDoorRows
import Derived.Lib.LaidTab
import Derived.MakeChecks
import Derived.KernelRfl
import Derived.Calls
import Derived.Lib.ItoaNum
import Derived.Orders
import Derived.Tactics
import Derived.Below
import Derived.Laws.Rows
import Derived.Laws.World
import Derived.Laws.CopyRow
import Derived.Lib.FrozenHead
import Derived.Deep.AppendSrc
import Derived.Deep.Upon
import Derived.Laws.BytesArg
import Derived.IntWalk
import Derived.Laws.Externs
import Derived.LoopN
import Derived.Test.YtfeacmadnbajfaaDoorProg
import Derived.MapKept
import Derived.SizedLaws
import Derived.ChangeArms
import Derived.WideShapes
import Derived.Deep.Slices
import Derived.RegionTactic
namespace Go.Proofs.YtfeacmadnbajfaaDoor.AM
open Go.RowKit Go.WideShapes
set_option linter.unusedVariables false
set_option maxRecDepth 100000
def B3 (n : Int) : Prop := (Lit.int .i64 n).wf = true
theorem op3 : OpensD Tryd.prog 3 1 (fun n : Int => [.lit (.int .i64 n)]) B3 := opens_int Tryd.underlying3 (by kernel_rfl)
def B24 (b : Nat) : Prop := b < 18446744073709551616
theorem op24 : OpensD Tryd.prog 24 1 (fun b : Nat => [.lit (.float .f64 b)]) B24 := opens_float Tryd.underlying24 (by kernel_rfl)
def B9 (s : ByteArray) : Prop := s.size ≤ 140737488351232
theorem op9 : OpensD Tryd.prog 9 1 (fun s : ByteArray => [.lit (.string s)]) B9 := opens_string Tryd.underlying9 (by kernel_rfl)
def B26 (x : AtomD) : Prop := B3 x.k ∧ B3 x.n ∧ B24 x.f ∧ B9 x.s
theorem op26 : OpensD Tryd.prog 26 4 AtomD.enc B26 := opens_struct (en := fun (p : Int × Int × Nat × ByteArray) => (fun n : Int => [.lit (.int .i64 n)]) p.1 ++ ((fun n : Int => [.lit (.int .i64 n)]) p.2.1 ++ ((fun b : Nat => [.lit (.float .f64 b)]) p.2.2.1 ++ ((fun s : ByteArray => [.lit (.string s)]) p.2.2.2)))) (B := fun (p : Int × Int × Nat × ByteArray) => B3 p.1 ∧ (B3 p.2.1 ∧ (B24 p.2.2.1 ∧ (B9 p.2.2.2)))) (fun p => ⟨p.1, p.2.1, p.2.2.1, p.2.2.2⟩) (fun _ => rfl) (fun _ h => h) (fun _ => rfl) Tryd.underlying26 (by kernel_rfl) (opensF_cons (off := 0) (off' := 1) (sz := 1) (sz' := 3) (en := (fun n : Int => [.lit (.int .i64 n)])) (B := B3) (en' := fun (p : Int × Nat × ByteArray) => (fun n : Int => [.lit (.int .i64 n)]) p.1 ++ ((fun b : Nat => [.lit (.float .f64 b)]) p.2.1 ++ ((fun s : ByteArray => [.lit (.string s)]) p.2.2))) (B' := fun (p : Int × Nat × ByteArray) => B3 p.1 ∧ (B24 p.2.1 ∧ (B9 p.2.2))) rfl op3 rfl (opensF_cons (off := 1) (off' := 2) (sz := 1) (sz' := 2) (en := (fun n : Int => [.lit (.int .i64 n)])) (B := B3) (en' := fun (p : Nat × ByteArray) => (fun b : Nat => [.lit (.float .f64 b)]) p.1 ++ ((fun s : ByteArray => [.lit (.string s)]) p.2)) (B' := fun (p : Nat × ByteArray) => B24 p.1 ∧ (B9 p.2)) rfl op3 rfl (opensF_cons (off := 2) (off' := 3) (sz := 1) (sz' := 1) (en := (fun b : Nat => [.lit (.float .f64 b)])) (B := B24) (en' := fun (p : ByteArray) => (fun s : ByteArray => [.lit (.string s)]) p) (B' := fun (p : ByteArray) => B9 p) rfl op24 rfl (opensF_one rfl op9))))
def B27 (xs : (List AtomD)) : Prop := xs.length * Tryd.prog.bytesOf 26 ≤ 140737488351232 ∧ xs.length ≤ maxLen ∧ ∀ x ∈ xs, B26 x
theorem op27 : OpensD Tryd.prog 27 1 (fun xs : List AtomD => [.lst 4 (xs.map AtomD.enc)]) B27 := opens_slice Tryd.underlying27 (by kernel_rfl) op26 (by decide)
def B29 (x : ValD) : Prop := B26 x.a ∧ B27 x.l
theorem op29 : OpensD Tryd.prog 29 5 ValD.enc B29 := opens_struct (en := fun (p : AtomD × (List AtomD)) => AtomD.enc p.1 ++ ((fun xs : List AtomD => [.lst 4 (xs.map AtomD.enc)]) p.2)) (B := fun (p : AtomD × (List AtomD)) => B26 p.1 ∧ (B27 p.2)) (fun p => ⟨p.1, p.2⟩) (fun _ => rfl) (fun _ h => h) (fun _ => rfl) Tryd.underlying29 (by kernel_rfl) (opensF_cons (off := 0) (off' := 4) (sz := 4) (sz' := 1) (en := AtomD.enc) (B := B26) (en' := fun (p : (List AtomD)) => (fun xs : List AtomD => [.lst 4 (xs.map AtomD.enc)]) p) (B' := fun (p : (List AtomD)) => B27 p) rfl op26 rfl (opensF_one rfl op27))
def B60 (xs : (List ValD)) : Prop := xs.length * Tryd.prog.bytesOf 29 ≤ 140737488351232 ∧ xs.length ≤ maxLen ∧ ∀ x ∈ xs, B29 x
theorem op60 : OpensD Tryd.prog 60 1 (fun xs : List ValD => [.lst 5 (xs.map ValD.enc)]) B60 := opens_slice Tryd.underlying60 (by kernel_rfl) op29 (by decide)
end Go.Proofs.YtfeacmadnbajfaaDoor.AM
