/- Part 1 of the proof: words, contracts, plain laws. Laid by a program of this session (wip/tool/shake.py): what is needed of own and printed texts, in order. -/
import Derived.Test.YtnfapjkffofcaaaZb0
import Derived.Laws.FloatBits
import Derived.Laws.Externs
import Derived.Test.YtnfapjkffofcaaaProg
import Derived.OrdersHeld
import Derived.Deep.RegionHeld3
import Derived.Laws.BitsLemmas
import Derived.RowKit
import Derived.Below
import Derived.Deep.Draws
import Derived.Deep.AppendLies
import Derived.Maps.AppendAt
import Derived.OwnWalk
import Derived.Laws.BytesArg
import Derived.Laws.MakeOwn
import Derived.Laws.OwnMore
import Derived.Deep.OwnRows
import Derived.Tactics
import Derived.Lib.ConvBytes
import Derived.Laws.Slices
import Derived.WalkKit
import Derived.KernelRfl
import Derived.RowKit3
import Derived.Deep.LoopGhost
import Derived.Deep.QuietTactic
import Derived.BigQuiet
import Derived.WideLaws
import Derived.Deep.DeepCutAuto
import Derived.Deep.CutBlock
import Derived.Laws.Rows
import Derived.Lib.AppendStr
import Derived.ArgAppend
import Derived.Laws.IdiomCopy
import Derived.Laws.StructEq
namespace Go.Proofs.Ytnfapjkffofcaaa.FW
open Go.RowKit
set_option linter.unusedVariables false
set_option linter.unusedSimpArgs false
def fOrd (a b : Nat) : Option Ordering := Ieee.double.order a b
def fEq (a b : Nat) : Bool := fOrd a b == some .eq
def fNe (a b : Nat) : Bool := fOrd a b != some .eq
def fLt (a b : Nat) : Bool := fOrd a b == some .lt
def fLe (a b : Nat) : Bool := fOrd a b == some .lt || fOrd a b == some .eq
def fGt (a b : Nat) : Bool := fOrd a b == some .gt
def fGe (a b : Nat) : Bool := fOrd a b == some .gt || fOrd a b == some .eq
@[go_sem] theorem binOp_f_eql (t : TypeId) (a b : Nat) : binOp .eql t (.float .f64 a) (.float .f64 b) = pure (.bool (fEq a b)) := by simp [binOp, Op.floatCmp, fEq, fOrd, FloatKind.format]
@[go_sem] theorem binOp_f_neq (t : TypeId) (a b : Nat) : binOp .neq t (.float .f64 a) (.float .f64 b) = pure (.bool (fNe a b)) := by simp [binOp, Op.floatCmp, fNe, fOrd, FloatKind.format]
@[go_sem] theorem binOp_f_lss (t : TypeId) (a b : Nat) : binOp .lss t (.float .f64 a) (.float .f64 b) = pure (.bool (fLt a b)) := by simp [binOp, Op.floatCmp, fLt, fOrd, FloatKind.format]
@[go_sem] theorem binOp_f_leq (t : TypeId) (a b : Nat) : binOp .leq t (.float .f64 a) (.float .f64 b) = pure (.bool (fLe a b)) := by simp [binOp, Op.floatCmp, fLe, fOrd, FloatKind.format]
@[go_sem] theorem binOp_f_gtr (t : TypeId) (a b : Nat) : binOp .gtr t (.float .f64 a) (.float .f64 b) = pure (.bool (fGt a b)) := by simp [binOp, Op.floatCmp, fGt, fOrd, FloatKind.format]
@[go_sem] theorem binOp_f_geq (t : TypeId) (a b : Nat) : binOp .geq t (.float .f64 a) (.float .f64 b) = pure (.bool (fGe a b)) := by simp [binOp, Op.floatCmp, fGe, fOrd, FloatKind.format]
theorem less_tri : ∀ x y : List UInt8, Op.bytesLess y x = !(Op.bytesLess x y || x == y)
  | [], [] => by simp [Op.bytesLess]
  | [], _ :: _ => by simp [Op.bytesLess]
  | _ :: _, [] => by simp [Op.bytesLess]
  | a :: x, b :: y => by
    have ih := less_tri x y
    simp only [Op.bytesLess, ih]
    rcases Nat.lt_trichotomy a.toNat b.toNat with h | h | h
    · have h1 : a < b := UInt8.lt_iff_toNat_lt.2 h
      have h2 : ¬ b < a := fun h' => by have := UInt8.lt_iff_toNat_lt.1 h'; omega
      have h3 : ¬ b = a := fun e => by subst e; omega
      have h4 : ¬ a = b := fun e => h3 e.symm
      simp [h1, h2, h3, h4]
    · obtain rfl : a = b := UInt8.toNat_inj.1 h
      have h2 : ¬ a < a := fun h' => by have := UInt8.lt_iff_toNat_lt.1 h'; omega
      simp [h2]
    · have h1 : b < a := UInt8.lt_iff_toNat_lt.2 h
      have h2 : ¬ a < b := fun h' => by have := UInt8.lt_iff_toNat_lt.1 h'; omega
      have h3 : ¬ a = b := fun e => by subst e; omega
      simp [h1, h2, h3]
@[go_sem] theorem binOp_str_gtr (t : TypeId) (a b : ByteArray) : binOp .gtr t (.string a) (.string b) = pure (.bool (Op.bytesLess b.toList a.toList)) := by
  rw [less_tri a.toList b.toList]; simp [binOp, Op.stringOp]
@[go_sem] theorem binOp_str_leq (t : TypeId) (a b : ByteArray) : binOp .leq t (.string a) (.string b) = pure (.bool (!(Op.bytesLess b.toList a.toList))) := by
  rw [less_tri a.toList b.toList]; simp [binOp, Op.stringOp]
@[go_sem] theorem binOp_str_geq (t : TypeId) (a b : ByteArray) : binOp .geq t (.string a) (.string b) = pure (.bool (!(Op.bytesLess a.toList b.toList))) := by
  simp [binOp, Op.stringOp]
def fNaN (a : Nat) : Bool := (Ieee.double.read a).isNaN
def fTrunc (a : Nat) : Nat := Ieee.double.write ((Ieee.double.read a).integral .zero)
def fIntOk (a : Nat) : Bool := match (Ieee.double.read a).toInt .zero with
  | some n => decide (-9223372036854775808 ≤ n ∧ n ≤ 9223372036854775807)
  | none => false
def fInt (a : Nat) : Int := ((Ieee.double.read a).toInt .zero).getD 0
def fOfInt (n : Int) : Nat := FloatKind.nearest .f64 n
def fNeg (a : Nat) : Nat := a ^^^ 9223372036854775808
@[go_sem] theorem unary_f_neg (b : Nat) : Op.unary .neg (.float .f64 b) = pure (.float .f64 (fNeg b)) := rfl
section
variable {P : Program} (w : World)
@[go_sem] theorem run_store_f64 (a : Addr) (m : Mode) (b : Nat) : (store a (.float .f64 b) m).run P w = stored P w a (.float .f64 b) m := run_store P w a _ m rfl
@[go_sem] theorem run_convert_f_int (src dst : TypeId) (a : Nat) (hs : P.underlying src = some (.float .f64)) (hd : P.underlying dst = some (.int .i64)) (ho : fIntOk a = true) :
    (convert src dst (.float .f64 a)).run P w = .ok (.int .i64 (fInt a)) w := by
  unfold fIntOk at ho
  unfold fInt
  cases h : (Ieee.double.read a).toInt .zero with
  | none => rw [h] at ho; simp at ho
  | some n =>
    rw [h] at ho
    simp only [decide_eq_true_eq] at ho
    have h1 : (FloatKind.f64.decode a).toInt .zero = some n := h
    have hmin : IntKind.i64.min = -9223372036854775808 := by rfl
    have hmax : IntKind.i64.max = 9223372036854775807 := by rfl
    simp [convert, run_underlying hs, run_underlying hd, Conv.floatToInt, h1, hmin, hmax, ho]
@[go_sem] theorem run_convert_int_f (src dst : TypeId) (n : Int) (hs : P.underlying src = some (.int .i64)) (hd : P.underlying dst = some (.float .f64)) :
    (convert src dst (.int .i64 n)).run P w = .ok (.float .f64 (fOfInt n)) w := by
  simp [convert, run_underlying hs, run_underlying hd, Conv.intToFloat, fOfInt]
def truncBody (x : Nat) : Sem Value :=
  match FloatKind.f64.decode x with
  | .nan s t =>
    if FloatKind.f64.format.quiet t = t then pure (.float .f64 x) else do
    let kept ← choose (.extern "math.Floor,Ceil,Trunc,RoundToEven.signallingNaN kept" 2)
    pure (.float .f64 (if kept == 1 then x else FloatKind.f64.encode (.nan s (FloatKind.f64.format.quiet t))))
  | d => pure (.float .f64 (FloatKind.f64.encode (d.integral .zero)))
theorem truncBody_of (x : Nat) : (Extern.MathFloor.toIntegral "math.archTrunc" .zero) #[.float .f64 x] = truncBody x := rfl
theorem run_trunc (a : Nat) (h : fNaN a = false) : ((Extern.MathFloor.toIntegral "math.archTrunc" .zero) #[.float .f64 a]).run P w = .ok (.float .f64 (fTrunc a)) w := by
  rw [truncBody_of]
  unfold fNaN at h
  unfold fTrunc truncBody
  have e : FloatKind.f64.decode a = Ieee.double.read a := rfl
  rw [e]
  cases hd : Ieee.double.read a with
  | nan s t => rw [hd] at h; simp [Ieee.Datum.isNaN] at h
  | number s m i => rfl
  | infinity s => rfl
end
theorem call50 : ∀ (a : Nat) (W : World), (callFunc 50 #[.float .f64 a]).run Try.prog W = .ok (.value (.int .u64 a)) W := fun a W =>
  (run_callFunc_extern Try.func50 (by kernel_rfl) (by kernel_rfl) (by kernel_rfl) (show Extern.find _ = some Extern.MathFloatBits.float64bits by rfl) _ W).trans rfl
theorem call56 : ∀ (a : Int) (W : World), (callFunc 56 #[.int .u64 a]).run Try.prog W = .ok (.value (.float .f64 a.toNat)) W := fun a W =>
  (run_callFunc_extern Try.func56 (by kernel_rfl) (by kernel_rfl) (by kernel_rfl) (show Extern.find _ = some Extern.MathFloatBits.float64frombits by rfl) _ W).trans rfl
theorem call60 : ∀ (a : Nat) (W : World), fNaN a = false → (callFunc 60 #[.float .f64 a]).run Try.prog W = .ok (.value (.float .f64 (fTrunc a))) W := fun a W h =>
  (run_callFunc_extern Try.func60 (by kernel_rfl) (by kernel_rfl) (by kernel_rfl) (show Extern.find _ = some (Extern.MathFloor.toIntegral "math.archTrunc" .zero) by rfl) _ W).trans (by rw [run_trunc W a h]; rfl)
end Go.Proofs.Ytnfapjkffofcaaa.FW
namespace Go.Proofs.YtnfapjkffofcaaaW.PrintWords.Kd
open Go.RowKit
def float : Kd Nat := scalar (Value.float .f64) (fun _ => rfl)
section
end
end Go.Proofs.YtnfapjkffofcaaaW.PrintWords.Kd
namespace Go.Proofs.Ytnfapjkffofcaaa.PK
open Go.RowKit Go.Proofs.YtnfapjkffofcaaaW.PrintWords Go.Proofs.YtnfapjkffofcaaaW.PrintLast Go.Proofs.Ytnfapjkffofcaaa.FW
set_option linter.unusedVariables false
set_option linter.unusedSimpArgs false
def errW : Option Int → Value
  | none => .nilIface
  | some c => .iface 0 (.int .i64 c)
theorem errW_none : errW none = .nilIface := rfl
theorem errW_some (c : Int) : errW (some c) = .iface 0 (.int .i64 c) := rfl
structure S26 where
  f0 : Int
  f1 : Int
  f2 : Nat
  f3 : ByteArray
def z26 : S26 := ⟨(0 : Int), (0 : Int), (0 : Nat), (⟨#[]⟩ : ByteArray)⟩
def k26 : Kd S26 := Kd.iso (Kd.pair (Kd.int .i64) (Kd.pair (Kd.int .i64) (Kd.pair Kd.float Kd.string))) (fun x : S26 => (x.f0, x.f1, x.f2, x.f3))
theorem k26_open {w : World} {x : S26} {cs : List Value} (h : k26.K w x cs) : cs = [.int .i64 x.f0, .int .i64 x.f1, .float .f64 x.f2, .string x.f3] := by
  obtain ⟨_, _, rfl, rfl, ⟨_, _, rfl, rfl, ⟨_, _, rfl, rfl, rfl⟩⟩⟩ := h
  exact rfl
def rd_T26 (xs : List S26) (i : Int) : S26 := xs.getD i.toNat z26
theorem at_T26 {w : World} {A : Option Addr} {n : Nat} {xs : List S26} (h : Kd.C k26 w A n xs) (i : Int) (h0 : 0 ≤ i) (h1 : i < n) : ∃ ad , A = some ad ∧ w.cell? (ad.add (i.toNat * 4)) = some (.int .i64 (rd_T26 xs i).f0) ∧ w.cell? ⟨(ad.add (i.toNat * 4)).block, (ad.add (i.toNat * 4)).off + 1, none⟩ = some (.int .i64 (rd_T26 xs i).f1) ∧ w.cell? ⟨(ad.add (i.toNat * 4)).block, (ad.add (i.toNat * 4)).off + 2, none⟩ = some (.float .f64 (rd_T26 xs i).f2) ∧ w.cell? ⟨(ad.add (i.toNat * 4)).block, (ad.add (i.toNat * 4)).off + 3, none⟩ = some (.string (rd_T26 xs i).f3) := by
  obtain ⟨ad, c, e, _, hK, hc0⟩ := Kd.C_get h z26 i h0 h1
  have hc : ∀ j u, c[j]? = some u → w.cell? (ad.add (i.toNat * 4 + j)) = some u := hc0
  obtain rfl := k26_open hK
  exact ⟨ad, e, hc 0 _ rfl, by rw [← add_field _ _ 1 (by omega)]; exact hc 1 _ rfl, by rw [← add_field _ _ 2 (by omega)]; exact hc 2 _ rfl, by rw [← add_field _ _ 3 (by omega)]; exact hc 3 _ rfl⟩
structure S29 where
  f0 : S26
  f1 : (List S26)
structure S61 where
  f0 : ByteArray
  f1 : S29
structure S52 where
  f0 : ByteArray
  f1 : ByteArray
  f2 : (List S61)
structure S63 where
  f0 : ByteArray
  f1 : ByteArray
  f2 : Bool
  f3 : Bool
  f4 : Int
  f5 : Int
end Go.Proofs.Ytnfapjkffofcaaa.PK
namespace Go.Proofs.Ytnfapjkffofcaaa.PA3
open Go.RowKit Go.Proofs.YtnfapjkffofcaaaW.PrintWords Go.Proofs.YtnfapjkffofcaaaW.PrintLast Go.Proofs.Ytnfapjkffofcaaa.FW Go.Proofs.Ytnfapjkffofcaaa.PK
set_option linter.unusedVariables false
set_option linter.unusedSimpArgs false
def errW : Option Int → Value
  | none => .nilIface
  | some c => .iface 0 (.int .i64 c)
theorem errW_none : errW none = .nilIface := rfl
theorem errW_some (c : Int) : errW (some c) = .iface 0 (.int .i64 c) := rfl
end Go.Proofs.Ytnfapjkffofcaaa.PA3
namespace Go.Proofs.Ytnfapjkffofcaaa.FL
open Go.Proofs.Ytnfapjkffofcaaa.FW Ieee
set_option linter.unusedVariables false
set_option linter.unusedSimpArgs false
def B52 : Nat := 4503599627370496
def S63 : Nat := 9223372036854775808
def INF : Nat := 9218868437227405312
theorem signWeight_eq : double.signWeight = S63 := rfl
theorem binade_eq : double.binade = B52 := rfl
theorem infRung_eq : double.infRung = INF := rfl
theorem leastPlace_eq : double.leastPlace = -1074 := rfl
def rung (b : Nat) : Nat := b % S63
def neg (b : Nat) : Bool := b / S63 % 2 == 1
def mval (r : Nat) : Nat := if r < B52 then r else (B52 + r % B52) * 2 ^ (r / B52 - 1)
def nan (b : Nat) : Bool := decide (INF < rung b)
def sgn (s : Bool) (n : Nat) : Int := if s then -(n : Int) else n
def sv (b : Nat) : Int := sgn (neg b) (mval (rung b))
theorem mval_bounds (r : Nat) (h : B52 ≤ r) : B52 * 2 ^ (r / B52 - 1) ≤ mval r ∧ mval r < B52 * 2 ^ (r / B52) := by
  have hp : 0 < B52 := by decide
  have hm : r % B52 < B52 := Nat.mod_lt _ hp
  have hq : 1 ≤ r / B52 := (Nat.le_div_iff_mul_le hp).2 (by omega)
  unfold mval
  rw [if_neg (by omega)]
  refine ⟨Nat.mul_le_mul_right _ (by omega), ?_⟩
  obtain ⟨q, hq'⟩ : ∃ q, r / B52 = q + 1 := ⟨r / B52 - 1, by omega⟩
  rw [hq', Nat.add_sub_cancel, Nat.pow_succ, ← Nat.mul_assoc, Nat.mul_comm _ 2, ← Nat.mul_assoc]
  exact Nat.mul_lt_mul_of_pos_right (by omega) (Nat.two_pow_pos q)
theorem mval_lt {r s : Nat} (h : r < s) : mval r < mval s := by
  have hp : 0 < B52 := by decide
  by_cases hs : s < B52
  · unfold mval
    rw [if_pos (by omega), if_pos hs]
    exact h
  have hsb := mval_bounds s (by omega)
  have hq : 1 ≤ s / B52 := (Nat.le_div_iff_mul_le hp).2 (by omega)
  by_cases hr : r < B52
  · have : mval r = r := by unfold mval; rw [if_pos hr]
    rw [this]
    have : B52 * 1 ≤ B52 * 2 ^ (s / B52 - 1) := Nat.mul_le_mul_left _ (Nat.two_pow_pos _)
    omega
  have hrb := mval_bounds r (by omega)
  have hle : r / B52 ≤ s / B52 := Nat.div_le_div_right (by omega)
  by_cases e : r / B52 = s / B52
  · unfold mval
    rw [if_neg hr, if_neg hs, e]
    refine Nat.mul_lt_mul_of_pos_right ?_ (Nat.two_pow_pos _)
    have h1 := Nat.div_add_mod r B52
    have h2 := Nat.div_add_mod s B52
    rw [e] at h1
    omega
  · have : B52 * 2 ^ (r / B52) ≤ B52 * 2 ^ (s / B52 - 1) := Nat.mul_le_mul_left _ (Nat.pow_le_pow_right (by omega) (by omega))
    omega
theorem mval_zero : mval 0 = 0 := rfl
theorem mval_pos {r : Nat} (h : 0 < r) : 0 < mval r := by
  have := mval_lt h
  omega
theorem read_number (b : Nat) (h : rung b < INF) : ∃ (m e : Nat), double.read b = .number (neg b) m (-1074 + (e : Int)) ∧ m * 2 ^ e = mval (rung b) := by
  unfold Format.read mval
  rw [signWeight_eq, binade_eq, infRung_eq, leastPlace_eq]
  show ∃ m e, (if rung b < B52 then Datum.number (neg b) (rung b) (-1074) else if rung b < INF then .number (neg b) (B52 + rung b % B52) (-1074 + ((rung b / B52 - 1 : Nat) : Int)) else if rung b = INF then .infinity (neg b) else .nan (neg b) (rung b - INF)) = _ ∧ _
  by_cases h1 : rung b < B52
  · rw [if_pos h1, if_pos h1]
    exact ⟨rung b, 0, rfl, by simp⟩
  · rw [if_neg h1, if_neg h1, if_pos h]
    exact ⟨_, _, rfl, rfl⟩
theorem read_inf (b : Nat) (h : rung b = INF) : double.read b = .infinity (neg b) := by
  unfold Format.read
  rw [signWeight_eq, binade_eq, infRung_eq, leastPlace_eq]
  show (if rung b < B52 then Datum.number (neg b) (rung b) (-1074) else if rung b < INF then .number (neg b) (B52 + rung b % B52) (-1074 + ((rung b / B52 - 1 : Nat) : Int)) else if rung b = INF then .infinity (neg b) else .nan (neg b) (rung b - INF)) = _
  rw [if_neg (by rw [h]; decide), if_neg (by omega), if_pos h]
theorem read_nan (b : Nat) (h : INF < rung b) : double.read b = .nan (neg b) (rung b - INF) := by
  unfold Format.read
  rw [signWeight_eq, binade_eq, infRung_eq, leastPlace_eq]
  show (if rung b < B52 then Datum.number (neg b) (rung b) (-1074) else if rung b < INF then .number (neg b) (B52 + rung b % B52) (-1074 + ((rung b / B52 - 1 : Nat) : Int)) else if rung b = INF then .infinity (neg b) else .nan (neg b) (rung b - INF)) = _
  rw [if_neg (by have : B52 < INF := by decide
                 omega), if_neg (by omega), if_neg (by omega)]
theorem fNaN_eq (b : Nat) : fNaN b = nan b := by
  unfold fNaN nan
  rcases Nat.lt_trichotomy (rung b) INF with h | h | h
  · obtain ⟨m, e, hr, _⟩ := read_number b h
    rw [hr, decide_eq_false (by omega)]
    rfl
  · rw [read_inf b h, decide_eq_false (by omega)]
    rfl
  · rw [read_nan b h, decide_eq_true h]
    rfl
theorem cmp_scale (x y : Int) (c : Nat) (hc : 0 < c) : compare (x * c) (y * c) = compare x y := by
  have hc' : (0 : Int) < (c : Int) := by omega
  rcases Int.lt_trichotomy x y with h | h | h
  · rw [Int.compare_eq_lt.2 h, Int.compare_eq_lt.2 (Int.mul_lt_mul_of_pos_right h hc')]
  · rw [h]
    rw [Int.compare_eq_eq.2 rfl, Int.compare_eq_eq.2 rfl]
  · rw [Int.compare_eq_gt.2 h, Int.compare_eq_gt.2 (Int.mul_lt_mul_of_pos_right h hc')]
theorem signed_eq (s : Bool) (m u : Nat) : signed s m u = sgn s (m * 2 ^ u) := by
  unfold signed sgn
  rw [Nat.shiftLeft_eq]
theorem sgn_mul (s : Bool) (m c : Nat) : sgn s m * (c : Int) = sgn s (m * c) := by
  unfold sgn
  split
  · rw [Int.neg_mul, Int.natCast_mul]
  · rw [Int.natCast_mul]
theorem order_numbers (s t : Bool) (m n e f : Nat) : (Datum.number s m (-1074 + (e : Int))).order (.number t n (-1074 + (f : Int))) = some (compare (sgn s (m * 2 ^ e)) (sgn t (n * 2 ^ f))) := by
  show some (compare (signed s m ((-1074 + (e : Int)) - min (-1074 + (e : Int)) (-1074 + (f : Int))).toNat) (signed t n ((-1074 + (f : Int)) - min (-1074 + (e : Int)) (-1074 + (f : Int))).toNat)) = _
  obtain ⟨g, hg⟩ : ∃ g : Nat, g = min e f := ⟨_, rfl⟩
  have e1 : ((-1074 + (e : Int)) - min (-1074 + (e : Int)) (-1074 + (f : Int))).toNat = e - g := by omega
  have e2 : ((-1074 + (f : Int)) - min (-1074 + (e : Int)) (-1074 + (f : Int))).toNat = f - g := by omega
  rw [e1, e2, signed_eq, signed_eq, ← cmp_scale _ _ (2 ^ g) (Nat.two_pow_pos g), sgn_mul, sgn_mul, Nat.mul_assoc, Nat.mul_assoc, ← Nat.pow_add, ← Nat.pow_add,
    show e - g + g = e by omega, show f - g + g = f by omega]
theorem fOrd_eq (a b : Nat) : fOrd a b = if nan a = true ∨ nan b = true then none else some (compare (sv a) (sv b)) := by
  unfold fOrd Format.order
  by_cases ha : INF < rung a
  · rw [if_pos (.inl (by unfold nan; exact decide_eq_true ha)), read_nan a ha]
    rfl
  by_cases hb : INF < rung b
  · rw [if_pos (.inr (by unfold nan; exact decide_eq_true hb)), read_nan b hb]
    cases double.read a <;> rfl
  rw [if_neg (by unfold nan; simp [ha, hb])]
  rcases Nat.lt_or_ge (rung a) INF with h1 | h1
  · obtain ⟨m, e, hr, hv⟩ := read_number a h1
    rcases Nat.lt_or_ge (rung b) INF with h2 | h2
    · obtain ⟨n, f, hr', hv'⟩ := read_number b h2
      rw [hr, hr', order_numbers, hv, hv']
      rfl
    · have h2' : rung b = INF := by omega
      rw [hr, read_inf b h2']
      have hlt := mval_lt (show rung a < rung b by omega)
      show some (if neg b then Ordering.gt else .lt) = _
      unfold sv sgn
      cases neg a <;> cases neg b <;> simp only [Bool.false_eq_true, if_true, if_false] <;> first | rw [Int.compare_eq_lt.2 (by omega)] | rw [Int.compare_eq_gt.2 (by omega)]
  · have h1' : rung a = INF := by omega
    rcases Nat.lt_or_ge (rung b) INF with h2 | h2
    · obtain ⟨n, f, hr', hv'⟩ := read_number b h2
      rw [hr', read_inf a h1']
      have hlt := mval_lt (show rung b < rung a by omega)
      show some (if neg a then Ordering.lt else .gt) = _
      unfold sv sgn
      cases neg a <;> cases neg b <;> simp only [Bool.false_eq_true, if_true, if_false] <;> first | rw [Int.compare_eq_lt.2 (by omega)] | rw [Int.compare_eq_gt.2 (by omega)]
    · have h2' : rung b = INF := by omega
      rw [read_inf a h1', read_inf b h2']
      have hpos := mval_pos (r := INF) (by decide)
      show some (compare (neg b).toNat (neg a).toNat) = _
      unfold sv sgn
      rw [h1', h2']
      cases neg a <;> cases neg b <;> simp only [Bool.false_eq_true, if_true, if_false] <;> first | (rw [Int.compare_eq_eq.2 rfl]; rfl) | (rw [Int.compare_eq_gt.2 (by omega)]; rfl) | (rw [Int.compare_eq_lt.2 (by omega)]; rfl)
theorem ord_cases (x y : Int) : (compare x y = .lt ∧ x < y) ∨ (compare x y = .eq ∧ x = y) ∨ (compare x y = .gt ∧ y < x) := by
  rcases Int.lt_trichotomy x y with h | h | h
  · exact .inl ⟨Int.compare_eq_lt.2 h, h⟩
  · exact .inr (.inl ⟨Int.compare_eq_eq.2 h, h⟩)
  · exact .inr (.inr ⟨Int.compare_eq_gt.2 h, h⟩)
section
variable (a b : Nat)
theorem fLt_eq : fLt a b = (!nan a && !nan b && decide (sv a < sv b)) := by
  unfold fLt
  rw [fOrd_eq]
  cases nan a <;> cases nan b <;> simp
  rcases ord_cases (sv a) (sv b) with ⟨h, h'⟩ | ⟨h, h'⟩ | ⟨h, h'⟩ <;> rw [h] <;> simp <;> omega
theorem fGt_eq : fGt a b = (!nan a && !nan b && decide (sv b < sv a)) := by
  unfold fGt
  rw [fOrd_eq]
  cases nan a <;> cases nan b <;> simp
  rcases ord_cases (sv a) (sv b) with ⟨h, h'⟩ | ⟨h, h'⟩ | ⟨h, h'⟩ <;> rw [h] <;> simp <;> omega
theorem fEq_eq : fEq a b = (!nan a && !nan b && decide (sv a = sv b)) := by
  unfold fEq
  rw [fOrd_eq]
  cases nan a <;> cases nan b <;> simp
  rcases ord_cases (sv a) (sv b) with ⟨h, h'⟩ | ⟨h, h'⟩ | ⟨h, h'⟩ <;> rw [h] <;> simp <;> omega
theorem fNe_eq : fNe a b = !(!nan a && !nan b && decide (sv a = sv b)) := by
  rw [← fEq_eq]
  unfold fNe fEq
  cases fOrd a b <;> rfl
theorem fGe_eq : fGe a b = (!nan a && !nan b && decide (sv b ≤ sv a)) := by
  unfold fGe
  rw [fOrd_eq]
  cases nan a <;> cases nan b <;> simp
  rcases ord_cases (sv a) (sv b) with ⟨h, h'⟩ | ⟨h, h'⟩ | ⟨h, h'⟩ <;> rw [h] <;> simp <;> omega
end
theorem mod_sign (b : Nat) (h : b < S63) : rung b = b ∧ neg b = false := by
  have : S63 = 9223372036854775808 := rfl
  unfold rung neg
  rw [Nat.mod_eq_of_lt h, Nat.div_eq_of_lt h]
  exact ⟨rfl, rfl⟩
theorem mod_sign2 (b : Nat) (h : b < S63) : rung (S63 + b) = b ∧ neg (S63 + b) = true := by
  unfold rung neg
  rw [Nat.add_mod_left, Nat.mod_eq_of_lt h, Nat.add_div_left _ (by decide), Nat.div_eq_of_lt h]
  exact ⟨rfl, rfl⟩
theorem sv_pos (b : Nat) (h : b < S63) : sv b = mval b := by
  unfold sv sgn
  rw [(mod_sign b h).1, (mod_sign b h).2]
  rfl
theorem sv_neg (b : Nat) (h : b < S63) : sv (S63 + b) = -(mval b : Int) := by
  unfold sv sgn
  rw [(mod_sign2 b h).1, (mod_sign2 b h).2]
  rfl
def pl : Nat := 1074
def ONE : Nat := 2 ^ pl
theorem pl_eq : pl = 1074 := rfl
theorem pow_help (a b c d : Nat) (h : a + b = c + d) : 2 ^ a * 2 ^ b = 2 ^ c * 2 ^ d := by rw [← Nat.pow_add, ← Nat.pow_add, h]
theorem one_pos : 0 < ONE := Nat.two_pow_pos _
theorem mval_twoTo63 : mval 4890909195324358656 = 9223372036854775808 * ONE := by
  have h1 : ¬ 4890909195324358656 < B52 := by decide
  have h2 : 4890909195324358656 % B52 = 0 := by decide
  have h3 : 4890909195324358656 / B52 = 1086 := by decide
  have e1 : B52 = 2 ^ 52 := rfl
  have e2 : (9223372036854775808 : Nat) = 2 ^ 63 := by decide
  unfold mval ONE
  rw [if_neg h1, h2, h3, e1, e2, Nat.add_zero]
  have key := pow_help 52 1085 63 pl (by rw [pl_eq])
  rw [show (1086 - 1 : Nat) = 1085 from rfl]
  exact key
theorem sv_twoTo63 : sv 4890909195324358656 = 9223372036854775808 * (ONE : Int) := by
  rw [sv_pos _ (by decide), mval_twoTo63, Int.natCast_mul]
  rfl
theorem sv_minusTwoTo63 : sv 14114281232179134464 = -(9223372036854775808 * (ONE : Int)) := by
  have e : (14114281232179134464 : Nat) = S63 + 4890909195324358656 := by decide
  rw [e, sv_neg _ (by decide), mval_twoTo63, Int.natCast_mul]
  rfl
theorem nan_lit1 : nan 4890909195324358656 = false := by decide
theorem nan_lit2 : nan 14114281232179134464 = false := by decide
theorem nan_lit3 : nan 9218868437227405311 = false := by decide
theorem nan_lit0 : nan 0 = false := by decide
theorem sv_zero : sv 0 = 0 := by rw [sv_pos 0 (by decide), mval_zero]; rfl
theorem sv_max : sv 9218868437227405311 = mval (INF - 1) := sv_pos _ (by decide)
theorem cut_zero (s : Bool) (n d : Nat) : Toward.zero.cut s n d = n / 2 ^ d := by
  unfold Toward.cut
  simp only [Bool.toNat_false, Nat.add_zero]
  rw [Nat.shiftLeft_eq, Nat.one_mul]
  by_cases h : d ≤ n.log2 + 2
  · rw [Nat.min_eq_left h]
  · rw [Nat.min_eq_right (by omega)]
    have h1 : n < 2 ^ (n.log2 + 2) := Nat.lt_of_lt_of_le (Nat.lt_log2_self) (Nat.pow_le_pow_right (by omega) (by omega))
    rw [Nat.div_eq_of_lt h1, Nat.div_eq_of_lt (Nat.lt_of_lt_of_le h1 (Nat.pow_le_pow_right (by omega) (by omega)))]
def fl (b : Nat) : Nat := mval (rung b) / ONE
theorem integral_zero (b : Nat) (h : rung b < INF) : (double.read b).integral .zero = .number (neg b) (fl b) 0 := by
  obtain ⟨m, e, hr, hv⟩ := read_number b h
  rw [hr]
  show Datum.number (neg b) (Toward.zero.cut (neg b) (m <<< (-1074 + (e : Int)).toNat) (-(-1074 + (e : Int))).toNat) 0 = _
  rw [cut_zero, Nat.shiftLeft_eq]
  unfold fl ONE
  rw [← hv]
  congr 1
  by_cases he : e ≤ 1074
  · have e1 : (-1074 + (e : Int)).toNat = 0 := by omega
    have e2 : (-(-1074 + (e : Int))).toNat = 1074 - e := by omega
    rw [e1, e2, Nat.pow_zero, Nat.mul_one]
    have e3 : 2 ^ pl = 2 ^ (1074 - e) * 2 ^ e := by rw [← Nat.pow_add]; congr 1; rw [pl_eq]; omega
    rw [e3, Nat.mul_div_mul_right _ _ (Nat.two_pow_pos e)]
  · have e1 : (-1074 + (e : Int)).toNat = e - 1074 := by omega
    have e2 : (-(-1074 + (e : Int))).toNat = 0 := by omega
    have e3 : 2 ^ e = 2 ^ (e - 1074) * 2 ^ pl := by rw [← Nat.pow_add]; congr 1; rw [pl_eq]; omega
    rw [e1, e2, Nat.pow_zero, Nat.div_one, e3, ← Nat.mul_assoc, Nat.mul_div_cancel _ (Nat.two_pow_pos pl)]
theorem toInt_eq (b : Nat) (h : rung b < INF) : (double.read b).toInt .zero = some (sgn (neg b) (fl b)) := by
  unfold Datum.toInt
  rw [integral_zero b h]
  show some (signed (neg b) (fl b) 0) = _
  rw [signed_eq, Nat.pow_zero, Nat.mul_one]
theorem write_whole (s : Bool) (w : Nat) (hw : 0 < w) (h63 : w ≤ 9223372036854775808) (hd : ∀ d, w.log2 = 52 + d → 2 ^ d ∣ w) :
    ∃ r, double.write (.number s w 0) = double.word s r ∧ r < INF ∧ mval r = w * ONE := by
  have hl : 2 ^ w.log2 ≤ w := Nat.log2_self_le (by omega)
  have hu : w < 2 ^ (w.log2 + 1) := Nat.lt_log2_self
  have hlog : w.log2 ≤ 63 := by
    rcases Nat.lt_or_ge 63 w.log2 with h | h
    · have : 2 ^ 64 ≤ 2 ^ w.log2 := Nat.pow_le_pow_right (by omega) (by omega)
      omega
    · exact h
  have hword : ∀ (k : Nat) (lg : Int), double.leastPlace + (lg - double.leastPlace) = lg := fun _ _ => by omega
  show ∃ r, double.nearest s w 0 = _ ∧ _
  unfold Format.nearest
  rw [if_neg (by omega), leastPlace_eq, binade_eq, infRung_eq]
  have hf : (double.fractionBits : Int) = 52 := rfl
  rw [hf]
  have hmx : max (0 + (w.log2 : Int) - 52) (-1074) = (w.log2 : Int) - 52 := by omega
  rw [hmx]
  obtain ⟨kp, hk, hk1, hk2, hk3⟩ : ∃ kp, Toward.even.cut s (w <<< (0 - ((w.log2 : Int) - 52)).toNat) ((w.log2 : Int) - 52 - 0).toNat = kp ∧ B52 ≤ kp ∧ kp < 2 * B52 ∧ kp * 2 ^ (w.log2 + 1022) = w * ONE := by
    have hB : B52 = 2 ^ 52 := rfl
    rcases Nat.lt_or_ge 52 w.log2 with h | h
    · obtain ⟨d, hd'⟩ : ∃ d, w.log2 = 52 + d := ⟨w.log2 - 52, by omega⟩
      obtain ⟨c, hc⟩ := hd d hd'
      have e1 : (0 - ((w.log2 : Int) - 52)).toNat = 0 := by omega
      have e2 : ((w.log2 : Int) - 52 - 0).toNat = d := by omega
      have hp := Nat.two_pow_pos d
      refine ⟨c, ?_, ?_, ?_, ?_⟩
      · rw [e1, e2, Nat.shiftLeft_zero]
        unfold Toward.cut
        simp only []
        rw [Nat.min_eq_left (by omega), Nat.shiftLeft_eq, Nat.one_mul, hc, Nat.mul_mod_right, Nat.mul_div_cancel_left _ hp]
        simp [Nat.ne_of_gt hp]
      · have : 2 ^ d * B52 ≤ 2 ^ d * c := by rw [← hc, hB, ← Nat.pow_add, Nat.add_comm d, ← hd']; exact hl
        exact Nat.le_of_mul_le_mul_left this hp
      · have : 2 ^ d * c < 2 ^ d * (2 * B52) := by
          rw [← hc, hB, show 2 * 2 ^ 52 = 2 ^ 53 by rfl, ← Nat.pow_add, show d + 53 = w.log2 + 1 by omega]
          exact hu
        exact Nat.lt_of_mul_lt_mul_left this
      · conv => rhs; rw [hc]
        unfold ONE
        rw [show w.log2 + 1022 = d + pl by rw [pl_eq]; omega, Nat.pow_add, ← Nat.mul_assoc, Nat.mul_comm c]
    · have e1 : (0 - ((w.log2 : Int) - 52)).toNat = 52 - w.log2 := by omega
      have e2 : ((w.log2 : Int) - 52 - 0).toNat = 0 := by omega
      have hp := Nat.two_pow_pos (52 - w.log2)
      refine ⟨w * 2 ^ (52 - w.log2), ?_, ?_, ?_, ?_⟩
      · rw [e1, e2, Nat.shiftLeft_eq]
        unfold Toward.cut
        simp only []
        rw [Nat.min_eq_left (by omega), Nat.shiftLeft_eq, Nat.one_mul, Nat.pow_zero, Nat.mod_one, Nat.div_one]
        simp
      · rw [hB, show (2 : Nat) ^ 52 = 2 ^ w.log2 * 2 ^ (52 - w.log2) by rw [← Nat.pow_add]; congr 1; omega]
        exact Nat.mul_le_mul_right _ hl
      · rw [hB, show 2 * (2 : Nat) ^ 52 = 2 ^ (w.log2 + 1) * 2 ^ (52 - w.log2) by rw [← Nat.pow_add, show w.log2 + 1 + (52 - w.log2) = 53 by omega]]
        exact Nat.mul_lt_mul_of_pos_right hu hp
      · unfold ONE
        rw [Nat.mul_assoc, ← Nat.pow_add, show 52 - w.log2 + (w.log2 + 1022) = pl by rw [pl_eq]; omega]
  simp only []
  rw [hk]
  have e4 : ((w.log2 : Int) - 52 - -1074).toNat = w.log2 + 1022 := by omega
  rw [e4]
  have hB : B52 = 4503599627370496 := rfl
  have hI : INF = 9218868437227405312 := rfl
  have hlt : (w.log2 + 1022) * B52 + kp < INF := by rw [hB, hI]; rw [hB] at hk2; omega
  rw [Nat.min_eq_left (by omega)]
  refine ⟨_, rfl, hlt, ?_⟩
  have hq : ((w.log2 + 1022) * B52 + kp) / B52 = w.log2 + 1023 := by
    have h1 : kp / B52 = 1 := Nat.div_eq_of_lt_le (by omega) (by omega)
    rw [Nat.mul_comm, Nat.mul_add_div (by decide), h1]
  have hm : ((w.log2 + 1022) * B52 + kp) % B52 = kp - B52 := by
    rw [Nat.mul_comm, Nat.mul_add_mod, Nat.mod_eq_sub_mod hk1, Nat.mod_eq_of_lt (by omega)]
  unfold mval
  rw [if_neg (by omega), hq, hm, show B52 + (kp - B52) = kp by omega, show w.log2 + 1023 - 1 = w.log2 + 1022 by omega, ← hk3]
theorem fl_digits (b : Nat) (h : rung b < INF) : ∀ d, (fl b).log2 = 52 + d → fl b ≠ 0 → 2 ^ d ∣ fl b := by
  intro d hd h0
  by_cases hd0 : d = 0
  · rw [hd0]; exact ⟨_, (Nat.one_mul _).symm⟩
  have hl : 2 ^ (fl b).log2 ≤ fl b := Nat.log2_self_le h0
  have hB : B52 = 2 ^ 52 := rfl
  have hm : 2 ^ (52 + d) * ONE ≤ mval (rung b) := by
    rw [← hd]
    exact Nat.le_trans (Nat.mul_le_mul_right _ hl) (Nat.div_mul_le_self _ _)
  have hb : B52 ≤ rung b := by
    rcases Nat.lt_or_ge (rung b) B52 with h1 | h1
    · have h2 : mval (rung b) = rung b := by unfold mval; rw [if_pos h1]
      have h3 : 2 ^ 52 * 1 ≤ 2 ^ (52 + d) * ONE := Nat.mul_le_mul (Nat.pow_le_pow_right (by omega) (by omega)) one_pos
      omega
    · exact h1
  have h4 := (mval_bounds _ hb).2
  have h5 : 2 ^ (52 + d) * ONE < B52 * 2 ^ (rung b / B52) := Nat.lt_of_le_of_lt hm h4
  unfold ONE at h5
  rw [hB, ← Nat.pow_add, ← Nat.pow_add] at h5
  have h6 := (Nat.pow_lt_pow_iff_right (by omega : 1 < 2)).1 h5
  rw [pl_eq] at h6
  rw [← hB] at h6
  obtain ⟨g, hg⟩ : ∃ g, rung b / B52 - 1 = g + d + pl := ⟨rung b / B52 - 1 - d - 1074, by rw [pl_eq]; omega⟩
  have h7 : fl b = (B52 + rung b % B52) * 2 ^ g * 2 ^ d := by
    unfold fl mval ONE
    rw [if_neg (by omega), hg, Nat.pow_add, Nat.pow_add, ← Nat.mul_assoc, ← Nat.mul_assoc, Nat.mul_div_cancel _ (Nat.two_pow_pos pl)]
  exact ⟨_, by rw [h7, Nat.mul_comm]⟩
theorem word_parts (s : Bool) (r : Nat) (h : r < S63) : neg (double.word s r) = s ∧ rung (double.word s r) = r := by
  unfold Format.word
  rw [signWeight_eq]
  cases s
  · exact ⟨(mod_sign r h).2, (mod_sign r h).1⟩
  · exact ⟨(mod_sign2 r h).2, (mod_sign2 r h).1⟩
theorem trunc_eq (b : Nat) (h : rung b < INF) (hle : fl b ≤ 9223372036854775808) :
    rung (fTrunc b) < INF ∧ mval (rung (fTrunc b)) = fl b * ONE ∧ neg (fTrunc b) = neg b := by
  unfold fTrunc
  rw [integral_zero b h]
  by_cases h0 : fl b = 0
  · have e : double.write (.number (neg b) (fl b) 0) = double.word (neg b) 0 := by
      rw [h0]
      rfl
    obtain ⟨h1, h2⟩ := word_parts (neg b) 0 (by decide)
    rw [e, h1, h2, h0, Nat.zero_mul]
    exact ⟨by decide, rfl, rfl⟩
  · obtain ⟨r, e, h1, h2⟩ := write_whole (neg b) (fl b) (by omega) hle (fun d hd => fl_digits b h d hd h0)
    have hs : INF < S63 := by decide
    obtain ⟨h3, h4⟩ := word_parts (neg b) r (by omega)
    rw [e, h3, h4]
    exact ⟨h1, h2, rfl⟩
def cmp3 (x y : Int) : Int := if x < y then -1 else if y < x then 1 else 0
def TOP : Int := mval INF + 1
def fkey (b : Nat) : Int := if nan b then TOP else sv b
def ikey (n : Int) : Int := n * ONE
theorem sv_bound (b : Nat) (h : nan b = false) : -TOP < sv b ∧ sv b < TOP := by
  have h1 : ¬ INF < rung b := by simpa [nan] using h
  have h2 : mval (rung b) ≤ mval INF := by
    rcases Nat.lt_or_ge (rung b) INF with h3 | h3
    · exact Nat.le_of_lt (mval_lt h3)
    · rw [show rung b = INF by omega]; exact Nat.le_refl _
  unfold sv sgn TOP
  split <;> omega
theorem ikey_bound (n : Int) (h1 : -9223372036854775808 ≤ n) (h2 : n ≤ 9223372036854775807) : -TOP < ikey n ∧ ikey n < TOP := by
  have h : (9223372036854775808 * ONE : Nat) ≤ mval INF := by
    rw [← mval_twoTo63]
    exact Nat.le_of_lt (mval_lt (by decide))
  have ho : (0 : Int) < (ONE : Int) := by have := one_pos; omega
  have h3 : (9223372036854775808 : Int) * ONE ≤ mval INF := by
    have := Int.ofNat_le.2 h
    rw [Int.natCast_mul] at this
    exact this
  have h4 : n * ONE ≤ 9223372036854775808 * (ONE : Int) := Int.mul_le_mul_of_nonneg_right (by omega) (by omega)
  have h5 : -9223372036854775808 * (ONE : Int) ≤ n * ONE := Int.mul_le_mul_of_nonneg_right (by omega) (by omega)
  unfold ikey TOP
  omega
def compareN (a b : Nat) : Int := cmp3 (fkey a) (fkey b)
def compareIntN (n : Int) (b : Nat) : Int := cmp3 (ikey n) (fkey b)
def classN (b : Nat) : Int := if nan b then 0 else if rung b = INF then (if neg b then 1 else 5) else if rung b = 0 then 3 else if neg b then 2 else 4
def canonN (b : Nat) : Nat := if nan b then 9221120237041090560 else if rung b = 0 then 0 else b
def wholeN (b : Nat) : Int × Bool :=
  if nan b = true ∨ sv b < -(9223372036854775808 * (ONE : Int)) ∨ 9223372036854775808 * (ONE : Int) ≤ sv b ∨ sv b ≠ sgn (neg b) (fl b) * ONE then (0, false) else (sgn (neg b) (fl b), true)
end Go.Proofs.Ytnfapjkffofcaaa.FL
