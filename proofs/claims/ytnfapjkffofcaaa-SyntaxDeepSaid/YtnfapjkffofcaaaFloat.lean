/- Words on floats for the printed walks: a float64 by its bits, compared; a kind of cells. -/
import Derived.Test.YtnfapjkffofcaaaWMore
import Derived.Laws.FloatBits
import Derived.Laws.Externs
import Derived.Test.YtnfapjkffofcaaaProg
namespace Go.Proofs.Ytnfapjkffofcaaa.FW
open Go.RowKit
set_option linter.unusedVariables false
set_option linter.unusedSimpArgs false

def fOrd (a b : Nat) : Option Ordering := Ieee.double.order a b
def fEq (a b : Nat) : Bool := fOrd a b == some .eq
def fNe (a b : Nat) : Bool := fOrd a b != some .eq
def fLt (a b : Nat) : Bool := fOrd a b == some .lt
def fLe (a b : Nat) : Bool := fOrd a b == some .lt || fOrd a b == some .eq
def fGt (a b : Nat) : Bool := fOrd a b == some .gt
def fGe (a b : Nat) : Bool := fOrd a b == some .gt || fOrd a b == some .eq

@[go_sem] theorem binOp_f_eql (t : TypeId) (a b : Nat) : binOp .eql t (.float .f64 a) (.float .f64 b) = pure (.bool (fEq a b)) := by simp [binOp, Op.floatCmp, fEq, fOrd, FloatKind.format]
@[go_sem] theorem binOp_f_neq (t : TypeId) (a b : Nat) : binOp .neq t (.float .f64 a) (.float .f64 b) = pure (.bool (fNe a b)) := by simp [binOp, Op.floatCmp, fNe, fOrd, FloatKind.format]
@[go_sem] theorem binOp_f_lss (t : TypeId) (a b : Nat) : binOp .lss t (.float .f64 a) (.float .f64 b) = pure (.bool (fLt a b)) := by simp [binOp, Op.floatCmp, fLt, fOrd, FloatKind.format]
@[go_sem] theorem binOp_f_leq (t : TypeId) (a b : Nat) : binOp .leq t (.float .f64 a) (.float .f64 b) = pure (.bool (fLe a b)) := by simp [binOp, Op.floatCmp, fLe, fOrd, FloatKind.format]
@[go_sem] theorem binOp_f_gtr (t : TypeId) (a b : Nat) : binOp .gtr t (.float .f64 a) (.float .f64 b) = pure (.bool (fGt a b)) := by simp [binOp, Op.floatCmp, fGt, fOrd, FloatKind.format]
@[go_sem] theorem binOp_f_geq (t : TypeId) (a b : Nat) : binOp .geq t (.float .f64 a) (.float .f64 b) = pure (.bool (fGe a b)) := by simp [binOp, Op.floatCmp, fGe, fOrd, FloatKind.format]
theorem less_tri : ∀ x y : List UInt8, Op.bytesLess y x = !(Op.bytesLess x y || x == y)
  | [], [] => by simp [Op.bytesLess]
  | [], _ :: _ => by simp [Op.bytesLess]
  | _ :: _, [] => by simp [Op.bytesLess]
  | a :: x, b :: y => by
    have ih := less_tri x y
    simp only [Op.bytesLess, ih]
    rcases Nat.lt_trichotomy a.toNat b.toNat with h | h | h
    · have h1 : a < b := UInt8.lt_iff_toNat_lt.2 h
      have h2 : ¬ b < a := fun h' => by have := UInt8.lt_iff_toNat_lt.1 h'; omega
      have h3 : ¬ b = a := fun e => by subst e; omega
      have h4 : ¬ a = b := fun e => h3 e.symm
      simp [h1, h2, h3, h4]
    · obtain rfl : a = b := UInt8.toNat_inj.1 h
      have h2 : ¬ a < a := fun h' => by have := UInt8.lt_iff_toNat_lt.1 h'; omega
      simp [h2]
    · have h1 : b < a := UInt8.lt_iff_toNat_lt.2 h
      have h2 : ¬ a < b := fun h' => by have := UInt8.lt_iff_toNat_lt.1 h'; omega
      have h3 : ¬ a = b := fun e => by subst e; omega
      simp [h1, h2, h3]
@[go_sem] theorem binOp_str_gtr (t : TypeId) (a b : ByteArray) : binOp .gtr t (.string a) (.string b) = pure (.bool (Op.bytesLess b.toList a.toList)) := by
  rw [less_tri a.toList b.toList]; simp [binOp, Op.stringOp]
@[go_sem] theorem binOp_str_leq (t : TypeId) (a b : ByteArray) : binOp .leq t (.string a) (.string b) = pure (.bool (!(Op.bytesLess b.toList a.toList))) := by
  rw [less_tri a.toList b.toList]; simp [binOp, Op.stringOp]
@[go_sem] theorem binOp_str_geq (t : TypeId) (a b : ByteArray) : binOp .geq t (.string a) (.string b) = pure (.bool (!(Op.bytesLess a.toList b.toList))) := by
  simp [binOp, Op.stringOp]

/-- Is it no number? -/
def fNaN (a : Nat) : Bool := (Ieee.double.read a).isNaN
def fTrunc (a : Nat) : Nat := Ieee.double.write ((Ieee.double.read a).integral .zero)
/-- Is the float, cut to a whole number, an int? -/
def fIntOk (a : Nat) : Bool := match (Ieee.double.read a).toInt .zero with
  | some n => decide (-9223372036854775808 ≤ n ∧ n ≤ 9223372036854775807)
  | none => false
def fInt (a : Nat) : Int := ((Ieee.double.read a).toInt .zero).getD 0
def fOfInt (n : Int) : Nat := FloatKind.nearest .f64 n
def fNeg (a : Nat) : Nat := a ^^^ 9223372036854775808
@[go_sem] theorem unary_f_neg (b : Nat) : Op.unary .neg (.float .f64 b) = pure (.float .f64 (fNeg b)) := rfl
section
variable {P : Program} (w : World)
@[go_sem] theorem run_store_f64 (a : Addr) (m : Mode) (b : Nat) : (store a (.float .f64 b) m).run P w = stored P w a (.float .f64 b) m := run_store P w a _ m rfl
@[go_sem] theorem run_convert_f_int (src dst : TypeId) (a : Nat) (hs : P.underlying src = some (.float .f64)) (hd : P.underlying dst = some (.int .i64)) (ho : fIntOk a = true) :
    (convert src dst (.float .f64 a)).run P w = .ok (.int .i64 (fInt a)) w := by
  unfold fIntOk at ho
  unfold fInt
  cases h : (Ieee.double.read a).toInt .zero with
  | none => rw [h] at ho; simp at ho
  | some n =>
    rw [h] at ho
    simp only [decide_eq_true_eq] at ho
    have h1 : (FloatKind.f64.decode a).toInt .zero = some n := h
    have hmin : IntKind.i64.min = -9223372036854775808 := by rfl
    have hmax : IntKind.i64.max = 9223372036854775807 := by rfl
    simp [convert, run_underlying hs, run_underlying hd, Conv.floatToInt, h1, hmin, hmax, ho]
@[go_sem] theorem run_convert_int_f (src dst : TypeId) (n : Int) (hs : P.underlying src = some (.int .i64)) (hd : P.underlying dst = some (.float .f64)) :
    (convert src dst (.int .i64 n)).run P w = .ok (.float .f64 (fOfInt n)) w := by
  simp [convert, run_underlying hs, run_underlying hd, Conv.intToFloat, fOfInt]
def truncBody (x : Nat) : Sem Value :=
  match FloatKind.f64.decode x with
  | .nan s t =>
    if FloatKind.f64.format.quiet t = t then pure (.float .f64 x) else do
    let kept ← choose (.extern "math.Floor,Ceil,Trunc,RoundToEven.signallingNaN kept" 2)
    pure (.float .f64 (if kept == 1 then x else FloatKind.f64.encode (.nan s (FloatKind.f64.format.quiet t))))
  | d => pure (.float .f64 (FloatKind.f64.encode (d.integral .zero)))
theorem truncBody_of (x : Nat) : (Extern.MathFloor.toIntegral "math.archTrunc" .zero) #[.float .f64 x] = truncBody x := rfl
theorem run_trunc (a : Nat) (h : fNaN a = false) : ((Extern.MathFloor.toIntegral "math.archTrunc" .zero) #[.float .f64 a]).run P w = .ok (.float .f64 (fTrunc a)) w := by
  rw [truncBody_of]
  unfold fNaN at h
  unfold fTrunc truncBody
  have e : FloatKind.f64.decode a = Ieee.double.read a := rfl
  rw [e]
  cases hd : Ieee.double.read a with
  | nan s t => rw [hd] at h; simp [Ieee.Datum.isNaN] at h
  | number s m i => rfl
  | infinity s => rfl
end
theorem call50 : ∀ (a : Nat) (W : World), (callFunc 50 #[.float .f64 a]).run Try.prog W = .ok (.value (.int .u64 a)) W := fun a W =>
  (run_callFunc_extern Try.func50 (by kernel_rfl) (by kernel_rfl) (by kernel_rfl) (show Extern.find _ = some Extern.MathFloatBits.float64bits by rfl) _ W).trans rfl
theorem call56 : ∀ (a : Int) (W : World), (callFunc 56 #[.int .u64 a]).run Try.prog W = .ok (.value (.float .f64 a.toNat)) W := fun a W =>
  (run_callFunc_extern Try.func56 (by kernel_rfl) (by kernel_rfl) (by kernel_rfl) (show Extern.find _ = some Extern.MathFloatBits.float64frombits by rfl) _ W).trans rfl
theorem call60 : ∀ (a : Nat) (W : World), fNaN a = false → (callFunc 60 #[.float .f64 a]).run Try.prog W = .ok (.value (.float .f64 (fTrunc a))) W := fun a W h =>
  (run_callFunc_extern Try.func60 (by kernel_rfl) (by kernel_rfl) (by kernel_rfl) (show Extern.find _ = some (Extern.MathFloor.toIntegral "math.archTrunc" .zero) by rfl) _ W).trans (by rw [run_trunc W a h]; rfl)
end Go.Proofs.Ytnfapjkffofcaaa.FW

namespace Go.Proofs.YtnfapjkffofcaaaW.PrintWords.Kd
open Go.RowKit
def float : Kd Nat := scalar (Value.float .f64) (fun _ => rfl)
theorem heap_float : Heap Kd.float := ⟨fun _ h => h⟩
section
variable {w : World} {A : Option Addr} {n : Nat}
theorem at_float {xs : List Nat} (h : Kd.float.C w A n xs) (i : Int) (h0 : 0 ≤ i) (h1 : i < n) : ∃ ad, A = some ad ∧ w.cell? (ad.add i.toNat) = some (.float .f64 (rdOf (0 : Nat) xs i)) :=
  ReadsOf.at_ (reads_of_C (enc := Value.float .f64) (d := (0 : Nat)) (h1 := fun _ => rfl) h) i h0 h1
end
end Go.Proofs.YtnfapjkffofcaaaW.PrintWords.Kd
