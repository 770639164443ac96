/- Part 1 of the proof: words, contracts, plain laws. Laid by a program of this session (wip/tool/shake.py): what is needed of own and printed texts, in order. -/
import Derived.Test.YtnfapjkffofcaaaZc0
import Derived.Laws.FloatBits
import Derived.Laws.Externs
import Derived.Test.YtnfapjkffofcaaaProg
import Derived.OrdersHeld
import Derived.Deep.RegionHeld3
import Derived.Laws.BitsLemmas
import Derived.RowKit
import Derived.Below
import Derived.Deep.Draws
import Derived.Deep.AppendLies
import Derived.Maps.AppendAt
import Derived.OwnWalk
import Derived.Laws.BytesArg
import Derived.Laws.MakeOwn
import Derived.Laws.OwnMore
import Derived.Deep.OwnRows
import Derived.Tactics
import Derived.Lib.ConvBytes
import Derived.Laws.Slices
import Derived.WalkKit
import Derived.KernelRfl
import Derived.RowKit3
import Derived.Deep.LoopGhost
import Derived.Deep.QuietTactic
import Derived.BigQuiet
import Derived.WideLaws
import Derived.Deep.DeepCutAuto
import Derived.Deep.CutBlock
import Derived.Laws.Rows
import Derived.Lib.AppendStr
import Derived.ArgAppend
import Derived.Laws.IdiomCopy
import Derived.Laws.StructEq
namespace Go.Proofs.Ytnfapjkffofcaaa.FW
open Go.RowKit
set_option linter.unusedVariables false
set_option linter.unusedSimpArgs false
def fOrd (a b : Nat) : Option Ordering := Ieee.double.order a b
def fEq (a b : Nat) : Bool := fOrd a b == some .eq
def fNe (a b : Nat) : Bool := fOrd a b != some .eq
def fLt (a b : Nat) : Bool := fOrd a b == some .lt
def fLe (a b : Nat) : Bool := fOrd a b == some .lt || fOrd a b == some .eq
def fGt (a b : Nat) : Bool := fOrd a b == some .gt
def fGe (a b : Nat) : Bool := fOrd a b == some .gt || fOrd a b == some .eq
@[go_sem] theorem binOp_f_eql (t : TypeId) (a b : Nat) : binOp .eql t (.float .f64 a) (.float .f64 b) = pure (.bool (fEq a b)) := by simp [binOp, Op.floatCmp, fEq, fOrd, FloatKind.format]
@[go_sem] theorem binOp_f_neq (t : TypeId) (a b : Nat) : binOp .neq t (.float .f64 a) (.float .f64 b) = pure (.bool (fNe a b)) := by simp [binOp, Op.floatCmp, fNe, fOrd, FloatKind.format]
@[go_sem] theorem binOp_f_lss (t : TypeId) (a b : Nat) : binOp .lss t (.float .f64 a) (.float .f64 b) = pure (.bool (fLt a b)) := by simp [binOp, Op.floatCmp, fLt, fOrd, FloatKind.format]
@[go_sem] theorem binOp_f_leq (t : TypeId) (a b : Nat) : binOp .leq t (.float .f64 a) (.float .f64 b) = pure (.bool (fLe a b)) := by simp [binOp, Op.floatCmp, fLe, fOrd, FloatKind.format]
@[go_sem] theorem binOp_f_gtr (t : TypeId) (a b : Nat) : binOp .gtr t (.float .f64 a) (.float .f64 b) = pure (.bool (fGt a b)) := by simp [binOp, Op.floatCmp, fGt, fOrd, FloatKind.format]
@[go_sem] theorem binOp_f_geq (t : TypeId) (a b : Nat) : binOp .geq t (.float .f64 a) (.float .f64 b) = pure (.bool (fGe a b)) := by simp [binOp, Op.floatCmp, fGe, fOrd, FloatKind.format]
theorem less_tri : ∀ x y : List UInt8, Op.bytesLess y x = !(Op.bytesLess x y || x == y)
  | [], [] => by simp [Op.bytesLess]
  | [], _ :: _ => by simp [Op.bytesLess]
  | _ :: _, [] => by simp [Op.bytesLess]
  | a :: x, b :: y => by
    have ih := less_tri x y
    simp only [Op.bytesLess, ih]
    rcases Nat.lt_trichotomy a.toNat b.toNat with h | h | h
    · have h1 : a < b := UInt8.lt_iff_toNat_lt.2 h
      have h2 : ¬ b < a := fun h' => by have := UInt8.lt_iff_toNat_lt.1 h'; omega
      have h3 : ¬ b = a := fun e => by subst e; omega
      have h4 : ¬ a = b := fun e => h3 e.symm
      simp [h1, h2, h3, h4]
    · obtain rfl : a = b := UInt8.toNat_inj.1 h
      have h2 : ¬ a < a := fun h' => by have := UInt8.lt_iff_toNat_lt.1 h'; omega
      simp [h2]
    · have h1 : b < a := UInt8.lt_iff_toNat_lt.2 h
      have h2 : ¬ a < b := fun h' => by have := UInt8.lt_iff_toNat_lt.1 h'; omega
      have h3 : ¬ a = b := fun e => by subst e; omega
      simp [h1, h2, h3]
@[go_sem] theorem binOp_str_gtr (t : TypeId) (a b : ByteArray) : binOp .gtr t (.string a) (.string b) = pure (.bool (Op.bytesLess b.toList a.toList)) := by
  rw [less_tri a.toList b.toList]; simp [binOp, Op.stringOp]
@[go_sem] theorem binOp_str_leq (t : TypeId) (a b : ByteArray) : binOp .leq t (.string a) (.string b) = pure (.bool (!(Op.bytesLess b.toList a.toList))) := by
  rw [less_tri a.toList b.toList]; simp [binOp, Op.stringOp]
@[go_sem] theorem binOp_str_geq (t : TypeId) (a b : ByteArray) : binOp .geq t (.string a) (.string b) = pure (.bool (!(Op.bytesLess a.toList b.toList))) := by
  simp [binOp, Op.stringOp]
def fNaN (a : Nat) : Bool := (Ieee.double.read a).isNaN
def fTrunc (a : Nat) : Nat := Ieee.double.write ((Ieee.double.read a).integral .zero)
def fIntOk (a : Nat) : Bool := match (Ieee.double.read a).toInt .zero with
  | some n => decide (-9223372036854775808 ≤ n ∧ n ≤ 9223372036854775807)
  | none => false
def fInt (a : Nat) : Int := ((Ieee.double.read a).toInt .zero).getD 0
def fOfInt (n : Int) : Nat := FloatKind.nearest .f64 n
def fNeg (a : Nat) : Nat := a ^^^ 9223372036854775808
@[go_sem] theorem unary_f_neg (b : Nat) : Op.unary .neg (.float .f64 b) = pure (.float .f64 (fNeg b)) := rfl
section
variable {P : Program} (w : World)
@[go_sem] theorem run_store_f64 (a : Addr) (m : Mode) (b : Nat) : (store a (.float .f64 b) m).run P w = stored P w a (.float .f64 b) m := run_store P w a _ m rfl
@[go_sem] theorem run_convert_f_int (src dst : TypeId) (a : Nat) (hs : P.underlying src = some (.float .f64)) (hd : P.underlying dst = some (.int .i64)) (ho : fIntOk a = true) :
    (convert src dst (.float .f64 a)).run P w = .ok (.int .i64 (fInt a)) w := by
  unfold fIntOk at ho
  unfold fInt
  cases h : (Ieee.double.read a).toInt .zero with
  | none => rw [h] at ho; simp at ho
  | some n =>
    rw [h] at ho
    simp only [decide_eq_true_eq] at ho
    have h1 : (FloatKind.f64.decode a).toInt .zero = some n := h
    have hmin : IntKind.i64.min = -9223372036854775808 := by rfl
    have hmax : IntKind.i64.max = 9223372036854775807 := by rfl
    simp [convert, run_underlying hs, run_underlying hd, Conv.floatToInt, h1, hmin, hmax, ho]
@[go_sem] theorem run_convert_int_f (src dst : TypeId) (n : Int) (hs : P.underlying src = some (.int .i64)) (hd : P.underlying dst = some (.float .f64)) :
    (convert src dst (.int .i64 n)).run P w = .ok (.float .f64 (fOfInt n)) w := by
  simp [convert, run_underlying hs, run_underlying hd, Conv.intToFloat, fOfInt]
def truncBody (x : Nat) : Sem Value :=
  match FloatKind.f64.decode x with
  | .nan s t =>
    if FloatKind.f64.format.quiet t = t then pure (.float .f64 x) else do
    let kept ← choose (.extern "math.Floor,Ceil,Trunc,RoundToEven.signallingNaN kept" 2)
    pure (.float .f64 (if kept == 1 then x else FloatKind.f64.encode (.nan s (FloatKind.f64.format.quiet t))))
  | d => pure (.float .f64 (FloatKind.f64.encode (d.integral .zero)))
theorem truncBody_of (x : Nat) : (Extern.MathFloor.toIntegral "math.archTrunc" .zero) #[.float .f64 x] = truncBody x := rfl
theorem run_trunc (a : Nat) (h : fNaN a = false) : ((Extern.MathFloor.toIntegral "math.archTrunc" .zero) #[.float .f64 a]).run P w = .ok (.float .f64 (fTrunc a)) w := by
  rw [truncBody_of]
  unfold fNaN at h
  unfold fTrunc truncBody
  have e : FloatKind.f64.decode a = Ieee.double.read a := rfl
  rw [e]
  cases hd : Ieee.double.read a with
  | nan s t => rw [hd] at h; simp [Ieee.Datum.isNaN] at h
  | number s m i => rfl
  | infinity s => rfl
end
theorem call50 : ∀ (a : Nat) (W : World), (callFunc 50 #[.float .f64 a]).run Try.prog W = .ok (.value (.int .u64 a)) W := fun a W =>
  (run_callFunc_extern Try.func50 (by kernel_rfl) (by kernel_rfl) (by kernel_rfl) (show Extern.find _ = some Extern.MathFloatBits.float64bits by rfl) _ W).trans rfl
theorem call56 : ∀ (a : Int) (W : World), (callFunc 56 #[.int .u64 a]).run Try.prog W = .ok (.value (.float .f64 a.toNat)) W := fun a W =>
  (run_callFunc_extern Try.func56 (by kernel_rfl) (by kernel_rfl) (by kernel_rfl) (show Extern.find _ = some Extern.MathFloatBits.float64frombits by rfl) _ W).trans rfl
theorem call60 : ∀ (a : Nat) (W : World), fNaN a = false → (callFunc 60 #[.float .f64 a]).run Try.prog W = .ok (.value (.float .f64 (fTrunc a))) W := fun a W h =>
  (run_callFunc_extern Try.func60 (by kernel_rfl) (by kernel_rfl) (by kernel_rfl) (show Extern.find _ = some (Extern.MathFloor.toIntegral "math.archTrunc" .zero) by rfl) _ W).trans (by rw [run_trunc W a h]; rfl)
end Go.Proofs.Ytnfapjkffofcaaa.FW
namespace Go.Proofs.YtnfapjkffofcaaaW.PrintWords.Kd
open Go.RowKit
def float : Kd Nat := scalar (Value.float .f64) (fun _ => rfl)
theorem heap_float : Heap Kd.float := ⟨fun _ h => h⟩
section
end
end Go.Proofs.YtnfapjkffofcaaaW.PrintWords.Kd
namespace Go.Proofs.Ytnfapjkffofcaaa.PK
open Go.RowKit Go.Proofs.YtnfapjkffofcaaaW.PrintWords Go.Proofs.YtnfapjkffofcaaaW.PrintLast Go.Proofs.Ytnfapjkffofcaaa.FW
set_option linter.unusedVariables false
set_option linter.unusedSimpArgs false
def errW : Option Int → Value
  | none => .nilIface
  | some c => .iface 0 (.int .i64 c)
theorem errW_none : errW none = .nilIface := rfl
theorem errW_some (c : Int) : errW (some c) = .iface 0 (.int .i64 c) := rfl
structure S26 where
  f0 : Int
  f1 : Int
  f2 : Nat
  f3 : ByteArray
def z26 : S26 := ⟨(0 : Int), (0 : Int), (0 : Nat), (⟨#[]⟩ : ByteArray)⟩
def k26 : Kd S26 := Kd.iso (Kd.pair (Kd.int .i64) (Kd.pair (Kd.int .i64) (Kd.pair Kd.float Kd.string))) (fun x : S26 => (x.f0, x.f1, x.f2, x.f3))
theorem k26_open {w : World} {x : S26} {cs : List Value} (h : k26.K w x cs) : cs = [.int .i64 x.f0, .int .i64 x.f1, .float .f64 x.f2, .string x.f3] := by
  obtain ⟨_, _, rfl, rfl, ⟨_, _, rfl, rfl, ⟨_, _, rfl, rfl, rfl⟩⟩⟩ := h
  exact rfl
def rd_T26 (xs : List S26) (i : Int) : S26 := xs.getD i.toNat z26
theorem at_T26 {w : World} {A : Option Addr} {n : Nat} {xs : List S26} (h : Kd.C k26 w A n xs) (i : Int) (h0 : 0 ≤ i) (h1 : i < n) : ∃ ad , A = some ad ∧ w.cell? (ad.add (i.toNat * 4)) = some (.int .i64 (rd_T26 xs i).f0) ∧ w.cell? ⟨(ad.add (i.toNat * 4)).block, (ad.add (i.toNat * 4)).off + 1, none⟩ = some (.int .i64 (rd_T26 xs i).f1) ∧ w.cell? ⟨(ad.add (i.toNat * 4)).block, (ad.add (i.toNat * 4)).off + 2, none⟩ = some (.float .f64 (rd_T26 xs i).f2) ∧ w.cell? ⟨(ad.add (i.toNat * 4)).block, (ad.add (i.toNat * 4)).off + 3, none⟩ = some (.string (rd_T26 xs i).f3) := by
  obtain ⟨ad, c, e, _, hK, hc0⟩ := Kd.C_get h z26 i h0 h1
  have hc : ∀ j u, c[j]? = some u → w.cell? (ad.add (i.toNat * 4 + j)) = some u := hc0
  obtain rfl := k26_open hK
  exact ⟨ad, e, hc 0 _ rfl, by rw [← add_field _ _ 1 (by omega)]; exact hc 1 _ rfl, by rw [← add_field _ _ 2 (by omega)]; exact hc 2 _ rfl, by rw [← add_field _ _ 3 (by omega)]; exact hc 3 _ rfl⟩
structure S29 where
  f0 : S26
  f1 : (List S26)
def z29 : S29 := ⟨z26, ([] : List S26)⟩
def k29 : Kd S29 := Kd.iso (Kd.pair k26 (Kd.slice 26 k26)) (fun x : S29 => (x.f0, x.f1))
theorem k29_open {w : World} {x : S29} {cs : List Value} (h : k29.K w x cs) : ∃ A4 c4, cs = [.int .i64 x.f0.f0, .int .i64 x.f0.f1, .float .f64 x.f0.f2, .string x.f0.f3, .slice A4 x.f1.length c4] ∧ x.f1.length ≤ c4 ∧ k26.C w A4 x.f1.length x.f1 := by
  obtain ⟨_, _, rfl, s0, ⟨A4, c4, rfl, l4, g4⟩⟩ := h
  obtain rfl := k26_open s0
  exact ⟨A4, c4, rfl, l4, g4⟩
structure S61 where
  f0 : ByteArray
  f1 : S29
def z61 : S61 := ⟨(⟨#[]⟩ : ByteArray), z29⟩
def k61 : Kd S61 := Kd.iso (Kd.pair Kd.string k29) (fun x : S61 => (x.f0, x.f1))
theorem k61_open {w : World} {x : S61} {cs : List Value} (h : k61.K w x cs) : ∃ A5 c5, cs = [.string x.f0, .int .i64 x.f1.f0.f0, .int .i64 x.f1.f0.f1, .float .f64 x.f1.f0.f2, .string x.f1.f0.f3, .slice A5 x.f1.f1.length c5] ∧ x.f1.f1.length ≤ c5 ∧ k26.C w A5 x.f1.f1.length x.f1.f1 := by
  obtain ⟨_, _, rfl, rfl, s1⟩ := h
  obtain ⟨A5, c5, rfl, l5, g5⟩ := k29_open s1
  exact ⟨A5, c5, rfl, l5, g5⟩
theorem k61_openF {W : World} {ok : Nat → Prop} {x : S61} {cs : List Value} (h : Kd.FK k61 W ok x cs) : ∃ A5 c5, cs = [.string x.f0, .int .i64 x.f1.f0.f0, .int .i64 x.f1.f0.f1, .float .f64 x.f1.f0.f2, .string x.f1.f0.f3, .slice A5 x.f1.f1.length c5] ∧ x.f1.f1.length ≤ c5 ∧ Kd.F k26 W ok A5 x.f1.f1.length x.f1.f1 := by
  obtain ⟨A5, c5, rfl, l5, _⟩ := k61_open (Kd.FK_now h)
  exact ⟨A5, c5, rfl, l5, (fun W' hW => by obtain ⟨A5_, c5_, he, l5_, g5_⟩ := k61_open (h W' hW); injection (Option.some.inj (show some (Value.slice A5 x.f1.f1.length c5) = some (Value.slice A5_ x.f1.f1.length c5_) from congrArg (fun l => l[5]?) he)) with ha_ _ _; rw [ha_]; exact g5_)⟩
def rd_T61 (xs : List S61) (i : Int) : S61 := xs.getD i.toNat z61
theorem at_T61 {w : World} {A : Option Addr} {n : Nat} {xs : List S61} (h : Kd.C k61 w A n xs) (i : Int) (h0 : 0 ≤ i) (h1 : i < n) : ∃ ad A5 c5, A = some ad ∧ w.cell? (ad.add (i.toNat * 6)) = some (.string (rd_T61 xs i).f0) ∧ w.cell? ⟨(ad.add (i.toNat * 6)).block, (ad.add (i.toNat * 6)).off + 1, none⟩ = some (.int .i64 (rd_T61 xs i).f1.f0.f0) ∧ w.cell? ⟨(ad.add (i.toNat * 6)).block, (ad.add (i.toNat * 6)).off + 2, none⟩ = some (.int .i64 (rd_T61 xs i).f1.f0.f1) ∧ w.cell? ⟨(ad.add (i.toNat * 6)).block, (ad.add (i.toNat * 6)).off + 3, none⟩ = some (.float .f64 (rd_T61 xs i).f1.f0.f2) ∧ w.cell? ⟨(ad.add (i.toNat * 6)).block, (ad.add (i.toNat * 6)).off + 4, none⟩ = some (.string (rd_T61 xs i).f1.f0.f3) ∧ w.cell? ⟨(ad.add (i.toNat * 6)).block, (ad.add (i.toNat * 6)).off + 5, none⟩ = some (.slice A5 (rd_T61 xs i).f1.f1.length c5) ∧ (rd_T61 xs i).f1.f1.length ≤ c5 ∧ k26.C w A5 (rd_T61 xs i).f1.f1.length (rd_T61 xs i).f1.f1 := by
  obtain ⟨ad, c, e, _, hK, hc0⟩ := Kd.C_get h z61 i h0 h1
  have hc : ∀ j u, c[j]? = some u → w.cell? (ad.add (i.toNat * 6 + j)) = some u := hc0
  obtain ⟨A5, c5, rfl, l5, g5⟩ := k61_open hK
  exact ⟨ad, A5, c5, e, hc 0 _ rfl, by rw [← add_field _ _ 1 (by omega)]; exact hc 1 _ rfl, by rw [← add_field _ _ 2 (by omega)]; exact hc 2 _ rfl, by rw [← add_field _ _ 3 (by omega)]; exact hc 3 _ rfl, by rw [← add_field _ _ 4 (by omega)]; exact hc 4 _ rfl, by rw [← add_field _ _ 5 (by omega)]; exact hc 5 _ rfl, l5, g5⟩
structure S50 where
  f0 : Int
  f1 : (List ByteArray)
  f2 : (List S61)
def z50 : S50 := ⟨(0 : Int), ([] : List ByteArray), ([] : List S61)⟩
def k50 : Kd S50 := Kd.iso (Kd.pair (Kd.int .i64) (Kd.pair (Kd.slice 9 Kd.string) (Kd.slice 61 k61))) (fun x : S50 => (x.f0, x.f1, x.f2))
theorem k50_open {w : World} {x : S50} {cs : List Value} (h : k50.K w x cs) : ∃ A1 c1 A2 c2, cs = [.int .i64 x.f0, .slice A1 x.f1.length c1, .slice A2 x.f2.length c2] ∧ x.f1.length ≤ c1 ∧ Kd.string.C w A1 x.f1.length x.f1 ∧ x.f2.length ≤ c2 ∧ k61.C w A2 x.f2.length x.f2 := by
  obtain ⟨_, _, rfl, rfl, ⟨_, _, rfl, ⟨A1, c1, rfl, l1, g1⟩, ⟨A2, c2, rfl, l2, g2⟩⟩⟩ := h
  exact ⟨A1, c1, A2, c2, rfl, l1, g1, l2, g2⟩
theorem k50_mk (w : World) (x : S50) {A1 : Option Addr} {c1 : Nat} (l1 : x.f1.length ≤ c1) (g1 : Kd.string.C w A1 x.f1.length x.f1) {A2 : Option Addr} {c2 : Nat} (l2 : x.f2.length ≤ c2) (g2 : k61.C w A2 x.f2.length x.f2) : k50.K w x [.int .i64 x.f0, .slice A1 x.f1.length c1, .slice A2 x.f2.length c2] := ⟨[.int .i64 x.f0], [.slice A1 x.f1.length c1, .slice A2 x.f2.length c2], rfl, rfl, ⟨[.slice A1 x.f1.length c1], [.slice A2 x.f2.length c2], rfl, ⟨A1, c1, rfl, l1, g1⟩, ⟨A2, c2, rfl, l2, g2⟩⟩⟩
theorem k50_mkF (W : World) (ok : Nat → Prop) (x : S50) {A1 : Option Addr} {c1 : Nat} (l1 : x.f1.length ≤ c1) (g1 : Kd.F Kd.string W ok A1 x.f1.length x.f1) {A2 : Option Addr} {c2 : Nat} (l2 : x.f2.length ≤ c2) (g2 : Kd.F k61 W ok A2 x.f2.length x.f2) : Kd.FK k50 W ok x [.int .i64 x.f0, .slice A1 x.f1.length c1, .slice A2 x.f2.length c2] := fun W2 hW => k50_mk W2 x l1 (g1 W2 hW) l2 (g2 W2 hW)
def rd_T50 (xs : List S50) (i : Int) : S50 := xs.getD i.toNat z50
theorem at_T50 {w : World} {A : Option Addr} {n : Nat} {xs : List S50} (h : Kd.C k50 w A n xs) (i : Int) (h0 : 0 ≤ i) (h1 : i < n) : ∃ ad A1 c1 A2 c2, A = some ad ∧ w.cell? (ad.add (i.toNat * 3)) = some (.int .i64 (rd_T50 xs i).f0) ∧ w.cell? ⟨(ad.add (i.toNat * 3)).block, (ad.add (i.toNat * 3)).off + 1, none⟩ = some (.slice A1 (rd_T50 xs i).f1.length c1) ∧ w.cell? ⟨(ad.add (i.toNat * 3)).block, (ad.add (i.toNat * 3)).off + 2, none⟩ = some (.slice A2 (rd_T50 xs i).f2.length c2) ∧ (rd_T50 xs i).f1.length ≤ c1 ∧ Kd.string.C w A1 (rd_T50 xs i).f1.length (rd_T50 xs i).f1 ∧ (rd_T50 xs i).f2.length ≤ c2 ∧ k61.C w A2 (rd_T50 xs i).f2.length (rd_T50 xs i).f2 := by
  obtain ⟨ad, c, e, _, hK, hc0⟩ := Kd.C_get h z50 i h0 h1
  have hc : ∀ j u, c[j]? = some u → w.cell? (ad.add (i.toNat * 3 + j)) = some u := hc0
  obtain ⟨A1, c1, A2, c2, rfl, l1, g1, l2, g2⟩ := k50_open hK
  exact ⟨ad, A1, c1, A2, c2, e, hc 0 _ rfl, by rw [← add_field _ _ 1 (by omega)]; exact hc 1 _ rfl, by rw [← add_field _ _ 2 (by omega)]; exact hc 2 _ rfl, l1, g1, l2, g2⟩
structure S54 where
  f0 : Int
  f1 : ByteArray
  f2 : Int
  f3 : Int
  f4 : (List S61)
def z54 : S54 := ⟨(0 : Int), (⟨#[]⟩ : ByteArray), (0 : Int), (0 : Int), ([] : List S61)⟩
def k54 : Kd S54 := Kd.iso (Kd.pair (Kd.int .i64) (Kd.pair Kd.string (Kd.pair (Kd.int .i64) (Kd.pair (Kd.int .i64) (Kd.slice 61 k61))))) (fun x : S54 => (x.f0, x.f1, x.f2, x.f3, x.f4))
theorem k54_open {w : World} {x : S54} {cs : List Value} (h : k54.K w x cs) : ∃ A4 c4, cs = [.int .i64 x.f0, .string x.f1, .int .i64 x.f2, .int .i64 x.f3, .slice A4 x.f4.length c4] ∧ x.f4.length ≤ c4 ∧ k61.C w A4 x.f4.length x.f4 := by
  obtain ⟨_, _, rfl, rfl, ⟨_, _, rfl, rfl, ⟨_, _, rfl, rfl, ⟨_, _, rfl, rfl, ⟨A4, c4, rfl, l4, g4⟩⟩⟩⟩⟩ := h
  exact ⟨A4, c4, rfl, l4, g4⟩
def rd_T54 (xs : List S54) (i : Int) : S54 := xs.getD i.toNat z54
theorem at_T54 {w : World} {A : Option Addr} {n : Nat} {xs : List S54} (h : Kd.C k54 w A n xs) (i : Int) (h0 : 0 ≤ i) (h1 : i < n) : ∃ ad A4 c4, A = some ad ∧ w.cell? (ad.add (i.toNat * 5)) = some (.int .i64 (rd_T54 xs i).f0) ∧ w.cell? ⟨(ad.add (i.toNat * 5)).block, (ad.add (i.toNat * 5)).off + 1, none⟩ = some (.string (rd_T54 xs i).f1) ∧ w.cell? ⟨(ad.add (i.toNat * 5)).block, (ad.add (i.toNat * 5)).off + 2, none⟩ = some (.int .i64 (rd_T54 xs i).f2) ∧ w.cell? ⟨(ad.add (i.toNat * 5)).block, (ad.add (i.toNat * 5)).off + 3, none⟩ = some (.int .i64 (rd_T54 xs i).f3) ∧ w.cell? ⟨(ad.add (i.toNat * 5)).block, (ad.add (i.toNat * 5)).off + 4, none⟩ = some (.slice A4 (rd_T54 xs i).f4.length c4) ∧ (rd_T54 xs i).f4.length ≤ c4 ∧ k61.C w A4 (rd_T54 xs i).f4.length (rd_T54 xs i).f4 := by
  obtain ⟨ad, c, e, _, hK, hc0⟩ := Kd.C_get h z54 i h0 h1
  have hc : ∀ j u, c[j]? = some u → w.cell? (ad.add (i.toNat * 5 + j)) = some u := hc0
  obtain ⟨A4, c4, rfl, l4, g4⟩ := k54_open hK
  exact ⟨ad, A4, c4, e, hc 0 _ rfl, by rw [← add_field _ _ 1 (by omega)]; exact hc 1 _ rfl, by rw [← add_field _ _ 2 (by omega)]; exact hc 2 _ rfl, by rw [← add_field _ _ 3 (by omega)]; exact hc 3 _ rfl, by rw [← add_field _ _ 4 (by omega)]; exact hc 4 _ rfl, l4, g4⟩
structure S52 where
  f0 : ByteArray
  f1 : ByteArray
  f2 : (List S61)
def k52 : Kd S52 := Kd.iso (Kd.pair Kd.string (Kd.pair Kd.string (Kd.slice 61 k61))) (fun x : S52 => (x.f0, x.f1, x.f2))
theorem k52_open {w : World} {x : S52} {cs : List Value} (h : k52.K w x cs) : ∃ A2 c2, cs = [.string x.f0, .string x.f1, .slice A2 x.f2.length c2] ∧ x.f2.length ≤ c2 ∧ k61.C w A2 x.f2.length x.f2 := by
  obtain ⟨_, _, rfl, rfl, ⟨_, _, rfl, rfl, ⟨A2, c2, rfl, l2, g2⟩⟩⟩ := h
  exact ⟨A2, c2, rfl, l2, g2⟩
structure S63 where
  f0 : ByteArray
  f1 : ByteArray
  f2 : Bool
  f3 : Bool
  f4 : Int
  f5 : Int
end Go.Proofs.Ytnfapjkffofcaaa.PK
namespace Go.Proofs.Ytnfapjkffofcaaa.PM
open Go.RowKit Go.Proofs.YtnfapjkffofcaaaW.PrintWords Go.Proofs.YtnfapjkffofcaaaW.PrintLast Go.Proofs.Ytnfapjkffofcaaa.FW Go.Proofs.Ytnfapjkffofcaaa.PK
set_option linter.unusedVariables false
set_option linter.unusedSimpArgs false
def errW : Option Int → Value
  | none => .nilIface
  | some c => .iface 0 (.int .i64 c)
theorem errW_none : errW none = .nilIface := rfl
theorem errW_some (c : Int) : errW (some c) = .iface 0 (.int .i64 c) := rfl
end Go.Proofs.Ytnfapjkffofcaaa.PM
namespace Go.Proofs.Ytnfapjkffofcaaa.PM
open Go.RowKit Go.Proofs.YtnfapjkffofcaaaW.PrintWords Go.Proofs.YtnfapjkffofcaaaW.PrintLast Go.Proofs.Ytnfapjkffofcaaa.FW Go.Proofs.Ytnfapjkffofcaaa.PK
set_option linter.unusedVariables false
set_option linter.unusedSimpArgs false
mutual
def cobweblaw24_Few.l0 : Nat → Int → Int → List (S50) → List (S54) → Option (Int)
  | 0, _, _, _, _ => none
  | k + 1, x3, x4, x102000, x102001 => if x4 < (x102000.length : Int) then (cobweblaw24_Few.j1 k x3 x4 (decide (x3 < 300)) x102000 x102001) else (cobweblaw24_Few.j1 k x3 x4 false x102000 x102001)
def cobweblaw24_Few.j1 : Nat → Int → Int → Bool → List (S50) → List (S54) → Option (Int)
  | 0, _, _, _, _, _ => none
  | k + 1, x3, x4, x26, x102000, x102001 => if x26 = true then (if 0 ≤ x4 then (if x4 < (x102000.length : Int) then (cobweblaw24_Few.l1 k (wrap64 ((wrap64 (x3 + (((rd_T50 x102000 x4).f1).length : Int))) + (((rd_T50 x102000 x4).f2).length : Int))) x4 0 x102000 x102001) else (none)) else (none)) else (cobweblaw24_Few.l3 k x3 0 x102000 x102001)
def cobweblaw24_Few.j3 : Nat → Int → Int → List (S50) → List (S54) → Option (Int)
  | 0, _, _, _, _ => none
  | k + 1, x3, x4, x102000, x102001 => cobweblaw24_Few.l2 k x3 x4 0 x102000 x102001
def cobweblaw24_Few.l2 : Nat → Int → Int → Int → List (S50) → List (S54) → Option (Int)
  | 0, _, _, _, _, _ => none
  | k + 1, x3, x4, x6, x102000, x102001 => if 0 ≤ x4 then (if x4 < (x102000.length : Int) then (if x6 < (((rd_T50 x102000 x4).f1).length : Int) then (if x3 < 300 then (if 0 ≤ x6 then (cobweblaw24_Few.l2 k (wrap64 (x3 + (wrap64 (((rdOf ByteArray.empty ((rd_T50 x102000 x4).f1) x6).size : Int) / 10)))) x4 (wrap64 (x6 + 1)) x102000 x102001) else (none)) else (cobweblaw24_Few.l0 k x3 (wrap64 (x4 + 1)) x102000 x102001)) else (cobweblaw24_Few.l0 k x3 (wrap64 (x4 + 1)) x102000 x102001)) else (none)) else (none)
def cobweblaw24_Few.l1 : Nat → Int → Int → Int → List (S50) → List (S54) → Option (Int)
  | 0, _, _, _, _, _ => none
  | k + 1, x3, x4, x5, x102000, x102001 => if 0 ≤ x4 then (if x4 < (x102000.length : Int) then (if x5 < (((rd_T50 x102000 x4).f2).length : Int) then (if x3 < 300 then (if 0 ≤ x5 then (cobweblaw24_Few.l1 k (wrap64 ((wrap64 ((wrap64 (x3 + (((rd_T61 ((rd_T50 x102000 x4).f2) x5).f1.f1).length : Int))) + (wrap64 ((((rd_T61 ((rd_T50 x102000 x4).f2) x5).f1.f0.f3).size : Int) / 10)))) + (wrap64 ((((rd_T61 ((rd_T50 x102000 x4).f2) x5).f0).size : Int) / 10)))) x4 (wrap64 (x5 + 1)) x102000 x102001) else (none)) else (cobweblaw24_Few.j3 k x3 x4 x102000 x102001)) else (cobweblaw24_Few.j3 k x3 x4 x102000 x102001)) else (none)) else (none)
def cobweblaw24_Few.l3 : Nat → Int → Int → List (S50) → List (S54) → Option (Int)
  | 0, _, _, _, _ => none
  | k + 1, x3, x7, x102000, x102001 => if x7 < (x102001.length : Int) then (cobweblaw24_Few.j6 k x3 x7 (decide (x3 < 300)) x102000 x102001) else (cobweblaw24_Few.j6 k x3 x7 false x102000 x102001)
def cobweblaw24_Few.j6 : Nat → Int → Int → Bool → List (S50) → List (S54) → Option (Int)
  | 0, _, _, _, _, _ => none
  | k + 1, x3, x7, x139, x102000, x102001 => if x139 = true then (if 0 ≤ x7 then (if x7 < (x102001.length : Int) then (cobweblaw24_Few.l4 k (wrap64 ((wrap64 (x3 + (((rd_T54 x102001 x7).f4).length : Int))) + (wrap64 ((((rd_T54 x102001 x7).f1).size : Int) / 10)))) x7 0 x102000 x102001) else (none)) else (none)) else (if x3 < 300 then (some 1) else (some 0))
def cobweblaw24_Few.l4 : Nat → Int → Int → Int → List (S50) → List (S54) → Option (Int)
  | 0, _, _, _, _, _ => none
  | k + 1, x3, x7, x8, x102000, x102001 => if 0 ≤ x7 then (if x7 < (x102001.length : Int) then (if x8 < (((rd_T54 x102001 x7).f4).length : Int) then (if x3 < 300 then (if 0 ≤ x8 then (cobweblaw24_Few.l4 k (wrap64 ((wrap64 ((wrap64 (x3 + (((rd_T61 ((rd_T54 x102001 x7).f4) x8).f1.f1).length : Int))) + (wrap64 ((((rd_T61 ((rd_T54 x102001 x7).f4) x8).f1.f0.f3).size : Int) / 10)))) + (wrap64 ((((rd_T61 ((rd_T54 x102001 x7).f4) x8).f0).size : Int) / 10)))) x7 (wrap64 (x8 + 1)) x102000 x102001) else (none)) else (cobweblaw24_Few.l3 k x3 (wrap64 (x7 + 1)) x102000 x102001)) else (cobweblaw24_Few.l3 k x3 (wrap64 (x7 + 1)) x102000 x102001)) else (none)) else (none)
end
def cobweblaw24_Few.f (k : Nat) (l0_0 : List (S50)) (l0_1 : List (S54)) : Option (Int) := cobweblaw24_Few.l0 k (wrap64 ((wrap64 (10 * (l0_0.length : Int))) + (wrap64 (20 * (l0_1.length : Int))))) 0 l0_0 l0_1
theorem cobweblaw24_Few.mono_l : ∀ k, (∀ y0 y1 y2 y3, LeO (cobweblaw24_Few.l0 k y0 y1 y2 y3) (cobweblaw24_Few.l0 (k + 1) y0 y1 y2 y3)) ∧ (∀ y0 y1 y2 y3 y4, LeO (cobweblaw24_Few.j1 k y0 y1 y2 y3 y4) (cobweblaw24_Few.j1 (k + 1) y0 y1 y2 y3 y4)) ∧ (∀ y0 y1 y2 y3, LeO (cobweblaw24_Few.j3 k y0 y1 y2 y3) (cobweblaw24_Few.j3 (k + 1) y0 y1 y2 y3)) ∧ (∀ y0 y1 y2 y3 y4, LeO (cobweblaw24_Few.l2 k y0 y1 y2 y3 y4) (cobweblaw24_Few.l2 (k + 1) y0 y1 y2 y3 y4)) ∧ (∀ y0 y1 y2 y3 y4, LeO (cobweblaw24_Few.l1 k y0 y1 y2 y3 y4) (cobweblaw24_Few.l1 (k + 1) y0 y1 y2 y3 y4)) ∧ (∀ y0 y1 y2 y3, LeO (cobweblaw24_Few.l3 k y0 y1 y2 y3) (cobweblaw24_Few.l3 (k + 1) y0 y1 y2 y3)) ∧ (∀ y0 y1 y2 y3 y4, LeO (cobweblaw24_Few.j6 k y0 y1 y2 y3 y4) (cobweblaw24_Few.j6 (k + 1) y0 y1 y2 y3 y4)) ∧ (∀ y0 y1 y2 y3 y4, LeO (cobweblaw24_Few.l4 k y0 y1 y2 y3 y4) (cobweblaw24_Few.l4 (k + 1) y0 y1 y2 y3 y4))
  | 0 => ⟨fun _ _ _ _ r h => by simp [cobweblaw24_Few.l0] at h, fun _ _ _ _ _ r h => by simp [cobweblaw24_Few.j1] at h, fun _ _ _ _ r h => by simp [cobweblaw24_Few.j3] at h, fun _ _ _ _ _ r h => by simp [cobweblaw24_Few.l2] at h, fun _ _ _ _ _ r h => by simp [cobweblaw24_Few.l1] at h, fun _ _ _ _ r h => by simp [cobweblaw24_Few.l3] at h, fun _ _ _ _ _ r h => by simp [cobweblaw24_Few.j6] at h, fun _ _ _ _ _ r h => by simp [cobweblaw24_Few.l4] at h⟩
  | k + 1 => by
    obtain ⟨ih0, ih1, ih2, ih3, ih4, ih5, ih6, ih7⟩ := cobweblaw24_Few.mono_l k
    refine ⟨?_, ?_, ?_, ?_, ?_, ?_, ?_, ?_⟩
    · intro y0 y1 y2 y3
      unfold cobweblaw24_Few.l0
      repeat' first
      | (with_reducible exact ih0 _ _ _ _)
      | (with_reducible exact ih1 _ _ _ _ _)
      | (with_reducible exact ih2 _ _ _ _)
      | (with_reducible exact ih3 _ _ _ _ _)
      | (with_reducible exact ih4 _ _ _ _ _)
      | (with_reducible exact ih5 _ _ _ _)
      | (with_reducible exact ih6 _ _ _ _ _)
      | (with_reducible exact ih7 _ _ _ _ _)
      | (with_reducible exact LeO.refl _)
      | (with_reducible exact LeO.none _)
      | (with_reducible refine LeO.ite ?_ ?_)
      | (with_reducible refine LeO.bind ?_ (fun _ => ?_))
      | exact ih0 _ _ _ _
      | exact ih1 _ _ _ _ _
      | exact ih2 _ _ _ _
      | exact ih3 _ _ _ _ _
      | exact ih4 _ _ _ _ _
      | exact ih5 _ _ _ _
      | exact ih6 _ _ _ _ _
      | exact ih7 _ _ _ _ _
      | exact LeO.none _
      | refine LeO.ite ?_ ?_
      | refine LeO.bind ?_ (fun _ => ?_)
    · intro y0 y1 y2 y3 y4
      unfold cobweblaw24_Few.j1
      repeat' first
      | (with_reducible exact ih0 _ _ _ _)
      | (with_reducible exact ih1 _ _ _ _ _)
      | (with_reducible exact ih2 _ _ _ _)
      | (with_reducible exact ih3 _ _ _ _ _)
      | (with_reducible exact ih4 _ _ _ _ _)
      | (with_reducible exact ih5 _ _ _ _)
      | (with_reducible exact ih6 _ _ _ _ _)
      | (with_reducible exact ih7 _ _ _ _ _)
      | (with_reducible exact LeO.refl _)
      | (with_reducible exact LeO.none _)
      | (with_reducible refine LeO.ite ?_ ?_)
      | (with_reducible refine LeO.bind ?_ (fun _ => ?_))
      | exact ih0 _ _ _ _
      | exact ih1 _ _ _ _ _
      | exact ih2 _ _ _ _
      | exact ih3 _ _ _ _ _
      | exact ih4 _ _ _ _ _
      | exact ih5 _ _ _ _
      | exact ih6 _ _ _ _ _
      | exact ih7 _ _ _ _ _
      | exact LeO.none _
      | refine LeO.ite ?_ ?_
      | refine LeO.bind ?_ (fun _ => ?_)
    · intro y0 y1 y2 y3
      unfold cobweblaw24_Few.j3
      repeat' first
      | (with_reducible exact ih0 _ _ _ _)
      | (with_reducible exact ih1 _ _ _ _ _)
      | (with_reducible exact ih2 _ _ _ _)
      | (with_reducible exact ih3 _ _ _ _ _)
      | (with_reducible exact ih4 _ _ _ _ _)
      | (with_reducible exact ih5 _ _ _ _)
      | (with_reducible exact ih6 _ _ _ _ _)
      | (with_reducible exact ih7 _ _ _ _ _)
      | (with_reducible exact LeO.refl _)
      | (with_reducible exact LeO.none _)
      | (with_reducible refine LeO.ite ?_ ?_)
      | (with_reducible refine LeO.bind ?_ (fun _ => ?_))
      | exact ih0 _ _ _ _
      | exact ih1 _ _ _ _ _
      | exact ih2 _ _ _ _
      | exact ih3 _ _ _ _ _
      | exact ih4 _ _ _ _ _
      | exact ih5 _ _ _ _
      | exact ih6 _ _ _ _ _
      | exact ih7 _ _ _ _ _
      | exact LeO.none _
      | refine LeO.ite ?_ ?_
      | refine LeO.bind ?_ (fun _ => ?_)
    · intro y0 y1 y2 y3 y4
      unfold cobweblaw24_Few.l2
      repeat' first
      | (with_reducible exact ih0 _ _ _ _)
      | (with_reducible exact ih1 _ _ _ _ _)
      | (with_reducible exact ih2 _ _ _ _)
      | (with_reducible exact ih3 _ _ _ _ _)
      | (with_reducible exact ih4 _ _ _ _ _)
      | (with_reducible exact ih5 _ _ _ _)
      | (with_reducible exact ih6 _ _ _ _ _)
      | (with_reducible exact ih7 _ _ _ _ _)
      | (with_reducible exact LeO.refl _)
      | (with_reducible exact LeO.none _)
      | (with_reducible refine LeO.ite ?_ ?_)
      | (with_reducible refine LeO.bind ?_ (fun _ => ?_))
      | exact ih0 _ _ _ _
      | exact ih1 _ _ _ _ _
      | exact ih2 _ _ _ _
      | exact ih3 _ _ _ _ _
      | exact ih4 _ _ _ _ _
      | exact ih5 _ _ _ _
      | exact ih6 _ _ _ _ _
      | exact ih7 _ _ _ _ _
      | exact LeO.none _
      | refine LeO.ite ?_ ?_
      | refine LeO.bind ?_ (fun _ => ?_)
    · intro y0 y1 y2 y3 y4
      unfold cobweblaw24_Few.l1
      repeat' first
      | (with_reducible exact ih0 _ _ _ _)
      | (with_reducible exact ih1 _ _ _ _ _)
      | (with_reducible exact ih2 _ _ _ _)
      | (with_reducible exact ih3 _ _ _ _ _)
      | (with_reducible exact ih4 _ _ _ _ _)
      | (with_reducible exact ih5 _ _ _ _)
      | (with_reducible exact ih6 _ _ _ _ _)
      | (with_reducible exact ih7 _ _ _ _ _)
      | (with_reducible exact LeO.refl _)
      | (with_reducible exact LeO.none _)
      | (with_reducible refine LeO.ite ?_ ?_)
      | (with_reducible refine LeO.bind ?_ (fun _ => ?_))
      | exact ih0 _ _ _ _
      | exact ih1 _ _ _ _ _
      | exact ih2 _ _ _ _
      | exact ih3 _ _ _ _ _
      | exact ih4 _ _ _ _ _
      | exact ih5 _ _ _ _
      | exact ih6 _ _ _ _ _
      | exact ih7 _ _ _ _ _
      | exact LeO.none _
      | refine LeO.ite ?_ ?_
      | refine LeO.bind ?_ (fun _ => ?_)
    · intro y0 y1 y2 y3
      unfold cobweblaw24_Few.l3
      repeat' first
      | (with_reducible exact ih0 _ _ _ _)
      | (with_reducible exact ih1 _ _ _ _ _)
      | (with_reducible exact ih2 _ _ _ _)
      | (with_reducible exact ih3 _ _ _ _ _)
      | (with_reducible exact ih4 _ _ _ _ _)
      | (with_reducible exact ih5 _ _ _ _)
      | (with_reducible exact ih6 _ _ _ _ _)
      | (with_reducible exact ih7 _ _ _ _ _)
      | (with_reducible exact LeO.refl _)
      | (with_reducible exact LeO.none _)
      | (with_reducible refine LeO.ite ?_ ?_)
      | (with_reducible refine LeO.bind ?_ (fun _ => ?_))
      | exact ih0 _ _ _ _
      | exact ih1 _ _ _ _ _
      | exact ih2 _ _ _ _
      | exact ih3 _ _ _ _ _
      | exact ih4 _ _ _ _ _
      | exact ih5 _ _ _ _
      | exact ih6 _ _ _ _ _
      | exact ih7 _ _ _ _ _
      | exact LeO.none _
      | refine LeO.ite ?_ ?_
      | refine LeO.bind ?_ (fun _ => ?_)
    · intro y0 y1 y2 y3 y4
      unfold cobweblaw24_Few.j6
      repeat' first
      | (with_reducible exact ih0 _ _ _ _)
      | (with_reducible exact ih1 _ _ _ _ _)
      | (with_reducible exact ih2 _ _ _ _)
      | (with_reducible exact ih3 _ _ _ _ _)
      | (with_reducible exact ih4 _ _ _ _ _)
      | (with_reducible exact ih5 _ _ _ _)
      | (with_reducible exact ih6 _ _ _ _ _)
      | (with_reducible exact ih7 _ _ _ _ _)
      | (with_reducible exact LeO.refl _)
      | (with_reducible exact LeO.none _)
      | (with_reducible refine LeO.ite ?_ ?_)
      | (with_reducible refine LeO.bind ?_ (fun _ => ?_))
      | exact ih0 _ _ _ _
      | exact ih1 _ _ _ _ _
      | exact ih2 _ _ _ _
      | exact ih3 _ _ _ _ _
      | exact ih4 _ _ _ _ _
      | exact ih5 _ _ _ _
      | exact ih6 _ _ _ _ _
      | exact ih7 _ _ _ _ _
      | exact LeO.none _
      | refine LeO.ite ?_ ?_
      | refine LeO.bind ?_ (fun _ => ?_)
    · intro y0 y1 y2 y3 y4
      unfold cobweblaw24_Few.l4
      repeat' first
      | (with_reducible exact ih0 _ _ _ _)
      | (with_reducible exact ih1 _ _ _ _ _)
      | (with_reducible exact ih2 _ _ _ _)
      | (with_reducible exact ih3 _ _ _ _ _)
      | (with_reducible exact ih4 _ _ _ _ _)
      | (with_reducible exact ih5 _ _ _ _)
      | (with_reducible exact ih6 _ _ _ _ _)
      | (with_reducible exact ih7 _ _ _ _ _)
      | (with_reducible exact LeO.refl _)
      | (with_reducible exact LeO.none _)
      | (with_reducible refine LeO.ite ?_ ?_)
      | (with_reducible refine LeO.bind ?_ (fun _ => ?_))
      | exact ih0 _ _ _ _
      | exact ih1 _ _ _ _ _
      | exact ih2 _ _ _ _
      | exact ih3 _ _ _ _ _
      | exact ih4 _ _ _ _ _
      | exact ih5 _ _ _ _
      | exact ih6 _ _ _ _ _
      | exact ih7 _ _ _ _ _
      | exact LeO.none _
      | refine LeO.ite ?_ ?_
      | refine LeO.bind ?_ (fun _ => ?_)
theorem cobweblaw24_Few.mono : ∀ a0 a1 k, LeO (cobweblaw24_Few.f k a0 a1) (cobweblaw24_Few.f (k + 1) a0 a1) := by
  intro a0 a1 k
  obtain ⟨ih0, ih1, ih2, ih3, ih4, ih5, ih6, ih7⟩ := cobweblaw24_Few.mono_l k
  unfold cobweblaw24_Few.f
  repeat' first
      | (with_reducible exact ih0 _ _ _ _)
      | (with_reducible exact ih1 _ _ _ _ _)
      | (with_reducible exact ih2 _ _ _ _)
      | (with_reducible exact ih3 _ _ _ _ _)
      | (with_reducible exact ih4 _ _ _ _ _)
      | (with_reducible exact ih5 _ _ _ _)
      | (with_reducible exact ih6 _ _ _ _ _)
      | (with_reducible exact ih7 _ _ _ _ _)
      | (with_reducible exact LeO.refl _)
      | (with_reducible exact LeO.none _)
      | (with_reducible refine LeO.ite ?_ ?_)
      | (with_reducible refine LeO.bind ?_ (fun _ => ?_))
      | exact ih0 _ _ _ _
      | exact ih1 _ _ _ _ _
      | exact ih2 _ _ _ _
      | exact ih3 _ _ _ _ _
      | exact ih4 _ _ _ _ _
      | exact ih5 _ _ _ _
      | exact ih6 _ _ _ _ _
      | exact ih7 _ _ _ _ _
      | exact LeO.none _
      | refine LeO.ite ?_ ?_
      | refine LeO.bind ?_ (fun _ => ?_)
end Go.Proofs.Ytnfapjkffofcaaa.PM
