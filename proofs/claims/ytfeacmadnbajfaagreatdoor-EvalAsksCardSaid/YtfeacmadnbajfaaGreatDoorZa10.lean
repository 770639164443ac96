/- Part 10 of the proof: words, contracts, plain laws. Laid by a program of this session (wip/tool/shake.py): what is needed of own and printed texts, in order. -/
import Derived.Test.YtfeacmadnbajfaaGreatDoorZa0
import Derived.Test.YtfeacmadnbajfaaGreatDoorZa1
import Derived.Test.YtfeacmadnbajfaaGreatDoorZa2
import Derived.Test.YtfeacmadnbajfaaGreatDoorZa3
import Derived.Test.YtfeacmadnbajfaaGreatDoorZa4
import Derived.Test.YtfeacmadnbajfaaGreatDoorZa6
import Derived.Test.YtfeacmadnbajfaaGreatDoorZa7
import Derived.Test.YtfeacmadnbajfaaGreatDoorZa8
import Derived.Test.YtfeacmadnbajfaaGreatDoorZa9
import Derived.Calls
import Derived.Lib.ItoaNum
import Derived.Orders
import Derived.Tactics
import Derived.Below
import Derived.Laws.Rows
import Derived.Laws.World
import Derived.Laws.CopyRow
import Derived.Lib.FrozenHead
import Derived.Deep.AppendSrc
import Derived.Deep.Upon
import Derived.Laws.BytesArg
import Derived.IntWalk
import Derived.Laws.Externs
import Derived.LoopN
import Derived.Test.YtfeacmadnbajfaaGreatDoorProg
import Derived.KernelRfl
import Derived.MapKept
import Derived.Laws.FloatBits
import Derived.RegionTactic
import Derived.Lib.ItoaLen
import Derived.Lib.AppendIntMem
import Derived.Shelf.Strings.Builder1
import Derived.Shelf.Strings.Builder2
import Derived.Shelf.Strings.OnBuilder
import Derived.Shelf.Small.Bits
import Derived.Shelf.Small.Wraps
import Derived.Shelf.Strings.BuilderF
import Derived.Shelf.Strings.BuilderK
import Derived.Shelf.Strings.Builder2Cap
import Derived.Shelf.Strconv.Itoa0
import Derived.Shelf.Strconv.Itoa1
import Derived.Shelf.LaysM
import Derived.Shelf.Strconv.Itoa2
import Derived.Shelf.Strconv.Itoa3
import Derived.Shelf.Strings.BuilderCap
import Derived.Shelf.Slices.Turned
import Derived.Shelf.Slices.CompactS
import Derived.Ground.Names2Prog
import Derived.Shelf.Slices.SearchI
import Derived.Shelf.Slices.Cells
namespace Go.Proofs.YtfeacmadnbajfaaGreatDoor.AM
open Go.RowKit
set_option linter.unusedSimpArgs false
set_option linter.unusedVariables false
set_option maxRecDepth 10000
set_option maxHeartbeats 0
theorem six (x y : VX) (hu6 : x.a.k ≠ 6) (hv6 : y.a.k ≠ 6) (vx : validV x.v = true) (vy : validV y.v = true) : ∃ e l m : Int, Pure Tryz.prog 72 [x.av, y.av] (iv e) ∧ Pure Tryz.prog 73 [x.av, y.av] (iv l) ∧ Pure Tryz.prog 73 [y.av, x.av] (iv m) ∧
    ((x.a.k = 0 ∨ y.a.k = 0) → e = 2 ∧ l = 2 ∧ m = 2) ∧ (x.a.k ≠ 0 → y.a.k ≠ 0 → (e = 0 ∨ e = 1)) ∧ (x.a.k ≠ 0 → y.a.k ≠ 0 → numF x = true → numF y = true → (l = 0 ∨ l = 1) ∧ (m = 0 ∨ m = 1) ∧ l + e + m = 1) := by
  by_cases hu : x.a.k = 0 ∨ y.a.k = 0
  · have h1 : unkX x y = true := by unfold unkX; rcases hu with h | h <;> simp [h]
    have h2 : unkX y x = true := by unfold unkX; rcases hu with h | h <;> simp [h]
    exact ⟨2, 2, 2, c_EqualU x y h1, c_LessU x y h1, c_LessU y x h2, fun _ => ⟨rfl, rfl, rfl⟩, fun h h' => by omega, fun h h' => by omega⟩
  · have hu' : x.a.k ≠ 0 ∧ y.a.k ≠ 0 := by omega
    have h1 : unkX x y = false := by unfold unkX; simp [vx, vy, hu'.1, hu'.2]
    have h2 : unkX y x = false := by unfold unkX; simp [vx, vy, hu'.1, hu'.2]
    have hr : ∃ r, rng r ∧ (numA x.a = true → numA y.a = true → Pure Tryz.prog 114 [x.a.av, y.a.av] (iv r)) ∧ (numA y.a = true → numA x.a = true → Pure Tryz.prog 114 [y.a.av, x.a.av] (iv (-r))) := by
      by_cases hn : numA x.a = true ∧ numA y.a = true
      · obtain ⟨r, h, c1, c2⟩ := c_exactly x.a y.a hn.1 hn.2
        exact ⟨r, h, fun _ _ => c1, fun _ _ => c2⟩
      · exact ⟨0, .inr (.inl rfl), fun h h' => absurd ⟨h, h'⟩ hn, fun h h' => absurd ⟨h', h⟩ hn⟩
    obtain ⟨r, hrg, x1, x2⟩ := hr
    obtain ⟨e, ce, he⟩ := c_EqualK x y h1 hu6 r x1
    obtain ⟨l, hl, cl, el⟩ := c_LessK x y h1 hu6 r x1
    obtain ⟨m, hm, cm, em⟩ := c_LessK y x h2 hv6 (-r) x2
    refine ⟨if e = true then 1 else 0, l, m, ce, cl, cm, fun h => absurd h hu, fun _ _ => by cases e <;> simp, fun _ _ f1 f2 => ?_⟩
    obtain ⟨a1, a2⟩ := numF_num f1
    obtain ⟨b1, b2⟩ := numF_num f2
    have e1 := he a1 b1 a2 b2
    have l1 := el a1 b1 a2 b2
    have m1 := em b1 a1 b2 a2
    unfold rng at hrg
    rcases hrg with h | h | h <;> subst h <;> subst e1 <;> subst l1 <;> subst m1 <;> decide
end Go.Proofs.YtfeacmadnbajfaaGreatDoor.AM
namespace Go.Proofs.YtfeacmadnbajfaaGreatDoor.AM
open Go.RowKit
set_option linter.unusedSimpArgs false
set_option linter.unusedVariables false
set_option maxRecDepth 10000
set_option maxHeartbeats 0
theorem ask_kind : (kindV [] ([litX zeroX, opX 5].map TX.t)).2 = 0 := by
  show (kindV [] [litT zeroX.v, opT 5]).2 = 0
  have gz : goodV zeroX.v := ⟨by decide +kernel, by decide, by show i64B 0; unfold i64B; decide⟩
  have hr : rightV [litT zeroX.v, opT 5] = true := right_of (d := 2) rfl (by decide) (by decide) (fun t ht => by
    simp only [List.mem_cons, List.not_mem_nil, or_false] at ht
    rcases ht with rfl | rfl
    · exact lit_right _ gz.1 gz.2.1 gz.2.2
    · exact op_right 5 (by decide) (by decide))
  unfold kindV
  rw [if_pos hr]
  rfl
theorem ask_ev : evalX twoX [litX zeroX, opX 5] = (boolX true, 0) := by
  unfold evalX
  rw [if_pos ask_kind]
  rfl
theorem c_H0 : Pure Tryz.prog 11 [.dat (.lst 8 [(litX zeroX).row, (opX 5).row]), .lit (.map none)] (.tup [bv true, iv 0]) := by
  have gz : goodV zeroX.v := ⟨by decide +kernel, by decide, by show i64B 0; unfold i64B; decide⟩
  have he : Pure Tryz.prog 10 [.dat (.lst 8 ([litX zeroX, opX 5].map TX.row)), .lit (.map none)] (tupX (evalX twoX [litX zeroX, opX 5])) := by
    refine c_Eval twoX _ (by simp) (fun t ht => ?_) (fun t ht _ => ?_) (fun t ht => ?_) (fun t ht h5 a b => ?_)
    · simp only [List.mem_cons, List.not_mem_nil, or_false] at ht
      rcases ht with rfl | rfl <;> exact small_lit _ _
    · simp only [List.mem_cons, List.not_mem_nil, or_false] at ht
      rcases ht with rfl | rfl
      · exact okT_lit _ (by show (0 : Int) ≠ 6; decide) gz.2.2 gz.2.1
      · exact okT_op 5 (by decide)
    · simp only [List.mem_cons, List.not_mem_nil, or_false] at ht
      rcases ht with rfl | rfl
      · exact ⟨by show (1 : Int) ≠ 2; decide, by show (1 : Int) ≠ 3; decide⟩
      · exact ⟨by decide, by decide⟩
    · simp only [List.mem_cons, List.not_mem_nil, or_false] at ht
      rcases ht with rfl | rfl
      · exact absurd (show (1 : Int) ≤ 5 by decide) h5
      · exact absurd (show (5 : Int) ≤ 5 by decide) h5
  have h := c_Holds twoX [litX zeroX, opX 5] (by simp) he
  have e : holdsX twoX [litX zeroX, opX 5] = (true, 0) := by
    unfold holdsX
    rw [ask_ev]
    rfl
  rw [e] at h
  exact h
theorem hideA {P : Program} {nt : Nat} {Q : Exit → St → Prop} {st : St} {A B C R : Code} (h : ∀ R', R' = R → AWP P nt (.seq A (.seq B (.seq C R'))) Q st) : AWP P nt (.seq A (.seq B (.seq C R))) Q st := h R rfl
abbrev SK (a b : ValD) (e2 e3 T : Nat) : St := ⟨[(2, .ptr 2 e2 0 0), (3, .ptr 3 e3 0 0)], [(2, .box e2 (cellsX (xV a))), (3, .box e3 (cellsX (xV b)))], T⟩
theorem c_law22a (a b : ValD) (fa : flV a) (fb : flV b) (ia : i64B a.a.n) (ib : i64B b.a.n) : Pure Tryz.prog 5 [a.av, b.av] (bv true) := by
  have va := c_rValid a fa
  have vb := c_rValid b fb
  refine pure_of_awp Tryz.func5 rfl rfl (by simp [Tryz.f5]) ?_; simp only [go_sem, ↓reduceIte, Nat.reduceEqDiff, Nat.reduceAdd, Nat.reduceLeDiff, Nat.reduceBEq, Nat.reduceMul, reduceCtorEq, Int.reduceLE, Int.reduceLT, Int.reduceAdd, Int.reduceSub, Int.reduceNeg, Int.reduceToNat, Int.reduceBEq]
  refine hideA (fun R hR => ?_)
  have tail : validV a = true → validV b = true → a.a.k ≠ 6 → b.a.k ≠ 6 → a.a.s.size ≤ 256 → b.a.s.size ≤ 256 → ∀ e2 e3 T, AWP Tryz.prog Tryz.f5.ntmps R (fun ex st => (ex = .ret ∨ ex = .normal) ∧ retV Tryz.prog Tryz.f5.results.toList st = some (bv true)) (SK a b e2 e3 T) := by
    intro ha hb ka kb sa sb e2 e3 T
    subst hR
    have ga : goodV (xV a).v := ⟨by unfold plainV; show (validV a && (a.a.k != 6)) = true; rw [ha]; simpa using ka, by show a.a.s.size ≤ 300; omega, ia⟩
    have gb : goodV (xV b).v := ⟨by unfold plainV; show (validV b && (b.a.k != 6)) = true; rw [hb]; simpa using kb, by show b.a.s.size ≤ 300; omega, ib⟩
    obtain ⟨e, l, m, ce, cl, cm, h0, h1, h2⟩ := six (xV a) (xV b) ka kb ha hb
    have a8 := hold_ask (xV a) (xV b) 8 e l m ga gb ka kb (by decide) (by decide) ce cl cm
    have a9 := hold_ask (xV a) (xV b) 9 e l m ga gb ka kb (by decide) (by decide) ce cl cm
    have a10 := hold_ask (xV a) (xV b) 10 e l m ga gb ka kb (by decide) (by decide) ce cl cm
    have a11 := hold_ask (xV a) (xV b) 11 e l m ga gb ka kb (by decide) (by decide) ce cl cm
    have a12 := hold_ask (xV a) (xV b) 12 e l m ga gb ka kb (by decide) (by decide) ce cl cm
    have a13 := hold_ask (xV a) (xV b) 13 e l m ga gb ka kb (by decide) (by decide) ce cl cm
    have n1 := c_numF (xV a)
    have n2 := c_numF (xV b)
    have hnn : numF (xV a) = true → numF (xV b) = true → (nanA (xV a).a || nanA (xV b).a) = false := fun f1 f2 => by rw [(numF_num f1).2, (numF_num f2).2]; rfl
    have facts : ∃ x8 x9 x10 x11 x12 x13 : Int, (if askN 8 e l m (nanA (xV a).a || nanA (xV b).a) = 1 then (1 : Int) else 0) = x8 ∧ (if askN 9 e l m (nanA (xV a).a || nanA (xV b).a) = 1 then (1 : Int) else 0) = x9 ∧ (if askN 10 e l m (nanA (xV a).a || nanA (xV b).a) = 1 then (1 : Int) else 0) = x10 ∧
        (if askN 11 e l m (nanA (xV a).a || nanA (xV b).a) = 1 then (1 : Int) else 0) = x11 ∧ (if askN 12 e l m (nanA (xV a).a || nanA (xV b).a) = 1 then (1 : Int) else 0) = x12 ∧ (if askN 13 e l m (nanA (xV a).a || nanA (xV b).a) = 1 then (1 : Int) else 0) = x13 ∧
        (0 ≤ x8 ∧ x8 ≤ 1) ∧ (0 ≤ x9 ∧ x9 ≤ 1) ∧ (0 ≤ x10 ∧ x10 ≤ 1) ∧ (0 ≤ x11 ∧ x11 ≤ 1) ∧ (0 ≤ x12 ∧ x12 ≤ 1) ∧ (0 ≤ x13 ∧ x13 ≤ 1) ∧
        (a.a.k = 0 ∨ b.a.k = 0 → x8 = 0 ∧ x9 = 0 ∧ x10 = 0 ∧ x11 = 0 ∧ x12 = 0 ∧ x13 = 0) ∧ (a.a.k ≠ 0 → b.a.k ≠ 0 → x8 + x9 = 1) ∧
        (a.a.k ≠ 0 → b.a.k ≠ 0 → numF (xV a) = true → numF (xV b) = true → x10 + x8 + x12 = 1 ∧ x11 = x10 + x8 ∧ x13 = x12 + x8) := by
      refine ⟨_, _, _, _, _, _, rfl, rfl, rfl, rfl, rfl, rfl, ?_, ?_, ?_, ?_, ?_, ?_, fun h => ?_, fun k1 k2 => ?_, fun k1 k2 f1 f2 => ?_⟩
      · split <;> decide
      · split <;> decide
      · split <;> decide
      · split <;> decide
      · split <;> decide
      · split <;> decide
      · obtain ⟨q1, q2, q3⟩ := h0 h
        rw [q1, q2, q3]
        cases (nanA (xV a).a || nanA (xV b).a) <;> decide
      · rcases h1 k1 k2 with q | q <;> rw [q] <;> simp [askN, notX]
      · obtain ⟨q1, q2, q3⟩ := h2 k1 k2 f1 f2
        rw [hnn f1 f2]
        rcases q1 with q1 | q1 <;> rcases q2 with q2 | q2
        · have : e = 1 := by omega
          subst q1 q2 this; decide
        · have : e = 0 := by omega
          subst q1 q2 this; decide
        · have : e = 0 := by omega
          subst q1 q2 this; decide
        · rcases h1 k1 k2 with q | q <;> omega
    obtain ⟨x8, x9, x10, x11, x12, x13, w8, w9, w10, w11, w12, w13, b8, b9, b10, b11, b12, b13, g0, g1, g2⟩ := facts
    rw [w8] at a8
    rw [w9] at a9
    rw [w10] at a10
    rw [w11] at a11
    rw [w12] at a12
    rw [w13] at a13
    clear w8 w9 w10 w11 w12 w13 h0 h1 h2 hnn ce cl cm ga gb
    have wr : ∀ n : Int, -100 ≤ n → n ≤ 100 → IntKind.i64.wrap n = n := fun n h1 h2 => IntWalk.i64_in n ⟨by omega, by omega⟩
    have s1 := wr (x8 + x9) (by omega) (by omega)
    have s2 := wr (x8 + x9 + x10) (by omega) (by omega)
    have s3 := wr (x8 + x9 + x10 + x11) (by omega) (by omega)
    have s4 := wr (x8 + x9 + x10 + x11 + x12) (by omega) (by omega)
    have s5 := wr (x8 + x9 + x10 + x11 + x12 + x13) (by omega) (by omega)
    have s6 := wr (x10 + x8) (by omega) (by omega)
    have s7 := wr (x10 + x8 + x12) (by omega) (by omega)
    have s8 := wr (x12 + x8) (by omega) (by omega)
    repeat' (first | refine awp_seq ?_ | refine awp_block ?_ | refine awp_round ?_ | refine awp_text rfl ?_ | refine awp_any rfl mix (by kernel_rfl) ?_ | (refine RunTo.unguard rfl rfl (fun hg => ?_) (fun hg => ?_) <;> ((try simp only [Bool.not_true, Bool.not_false, Bool.not_eq_true', Bool.not_eq_false', Bool.not_eq_eq_eq_not] at hg); (first | (cases hg) | (simp only [hg]) | skip))) | ((first | refine RunTo.plain rfl ?_ | refine RunTo.skipped rfl ?_); simp only [go_sem, ↓reduceIte, Nat.reduceEqDiff, Nat.reduceAdd, Nat.reduceLeDiff, Nat.reduceBEq, Nat.reduceMul, reduceCtorEq, Int.reduceLE, Int.reduceLT, Int.reduceAdd, Int.reduceSub, Int.reduceNeg, Int.reduceToNat, Int.reduceBEq, VX.av, s1, s2, s3, s4, s5, s6, s7, s8]) | (refine RunTo.actsE (a8) Tryz.func14 rfl rfl rfl rfl rfl rfl ?_; simp only [go_sem, ↓reduceIte, Nat.reduceEqDiff, Nat.reduceAdd, Nat.reduceLeDiff, Nat.reduceBEq, Nat.reduceMul, reduceCtorEq, Int.reduceLE, Int.reduceLT, Int.reduceAdd, Int.reduceSub, Int.reduceNeg, Int.reduceToNat, Int.reduceBEq, VX.av, s1, s2, s3, s4, s5, s6, s7, s8]; (repeat' refine And.intro rfl ?_); with_reducible refine RunTo.this ?_) | (refine RunTo.actsE (a9) Tryz.func14 rfl rfl rfl rfl rfl rfl ?_; simp only [go_sem, ↓reduceIte, Nat.reduceEqDiff, Nat.reduceAdd, Nat.reduceLeDiff, Nat.reduceBEq, Nat.reduceMul, reduceCtorEq, Int.reduceLE, Int.reduceLT, Int.reduceAdd, Int.reduceSub, Int.reduceNeg, Int.reduceToNat, Int.reduceBEq, VX.av, s1, s2, s3, s4, s5, s6, s7, s8]; (repeat' refine And.intro rfl ?_); with_reducible refine RunTo.this ?_) | (refine RunTo.actsE (a10) Tryz.func14 rfl rfl rfl rfl rfl rfl ?_; simp only [go_sem, ↓reduceIte, Nat.reduceEqDiff, Nat.reduceAdd, Nat.reduceLeDiff, Nat.reduceBEq, Nat.reduceMul, reduceCtorEq, Int.reduceLE, Int.reduceLT, Int.reduceAdd, Int.reduceSub, Int.reduceNeg, Int.reduceToNat, Int.reduceBEq, VX.av, s1, s2, s3, s4, s5, s6, s7, s8]; (repeat' refine And.intro rfl ?_); with_reducible refine RunTo.this ?_) | (refine RunTo.actsE (a11) Tryz.func14 rfl rfl rfl rfl rfl rfl ?_; simp only [go_sem, ↓reduceIte, Nat.reduceEqDiff, Nat.reduceAdd, Nat.reduceLeDiff, Nat.reduceBEq, Nat.reduceMul, reduceCtorEq, Int.reduceLE, Int.reduceLT, Int.reduceAdd, Int.reduceSub, Int.reduceNeg, Int.reduceToNat, Int.reduceBEq, VX.av, s1, s2, s3, s4, s5, s6, s7, s8]; (repeat' refine And.intro rfl ?_); with_reducible refine RunTo.this ?_) | (refine RunTo.actsE (a12) Tryz.func14 rfl rfl rfl rfl rfl rfl ?_; simp only [go_sem, ↓reduceIte, Nat.reduceEqDiff, Nat.reduceAdd, Nat.reduceLeDiff, Nat.reduceBEq, Nat.reduceMul, reduceCtorEq, Int.reduceLE, Int.reduceLT, Int.reduceAdd, Int.reduceSub, Int.reduceNeg, Int.reduceToNat, Int.reduceBEq, VX.av, s1, s2, s3, s4, s5, s6, s7, s8]; (repeat' refine And.intro rfl ?_); with_reducible refine RunTo.this ?_) | (refine RunTo.actsE (a13) Tryz.func14 rfl rfl rfl rfl rfl rfl ?_; simp only [go_sem, ↓reduceIte, Nat.reduceEqDiff, Nat.reduceAdd, Nat.reduceLeDiff, Nat.reduceBEq, Nat.reduceMul, reduceCtorEq, Int.reduceLE, Int.reduceLT, Int.reduceAdd, Int.reduceSub, Int.reduceNeg, Int.reduceToNat, Int.reduceBEq, VX.av, s1, s2, s3, s4, s5, s6, s7, s8]; (repeat' refine And.intro rfl ?_); with_reducible refine RunTo.this ?_) | (refine RunTo.actsE (n1) Tryz.func15 rfl rfl rfl rfl rfl rfl ?_; simp only [go_sem, ↓reduceIte, Nat.reduceEqDiff, Nat.reduceAdd, Nat.reduceLeDiff, Nat.reduceBEq, Nat.reduceMul, reduceCtorEq, Int.reduceLE, Int.reduceLT, Int.reduceAdd, Int.reduceSub, Int.reduceNeg, Int.reduceToNat, Int.reduceBEq, VX.av, s1, s2, s3, s4, s5, s6, s7, s8]; (repeat' refine And.intro rfl ?_); with_reducible refine RunTo.this ?_) | (refine RunTo.actsE (n2) Tryz.func15 rfl rfl rfl rfl rfl rfl ?_; simp only [go_sem, ↓reduceIte, Nat.reduceEqDiff, Nat.reduceAdd, Nat.reduceLeDiff, Nat.reduceBEq, Nat.reduceMul, reduceCtorEq, Int.reduceLE, Int.reduceLT, Int.reduceAdd, Int.reduceSub, Int.reduceNeg, Int.reduceToNat, Int.reduceBEq, VX.av, s1, s2, s3, s4, s5, s6, s7, s8]; (repeat' refine And.intro rfl ?_); with_reducible refine RunTo.this ?_) | ((first | refine RunTo.nil ⟨by kernel_rfl, ?_⟩ | refine RunTo.nil ?_ | refine awp_skip ?_ | refine awp_exit ?_); simp only [go_sem, ↓reduceIte, Nat.reduceEqDiff, Nat.reduceAdd, Nat.reduceLeDiff, Nat.reduceBEq, Nat.reduceMul, reduceCtorEq, Int.reduceLE, Int.reduceLT, Int.reduceAdd, Int.reduceSub, Int.reduceNeg, Int.reduceToNat, Int.reduceBEq, VX.av, s1, s2, s3, s4, s5, s6, s7, s8]) | (refine awp_cond' rfl (of_decide_eq_true rfl) (fun hc => ?_) (fun hc => ?_) <;> ((try simp only [Bool.not_true, Bool.not_false, Bool.not_eq_true', Bool.not_eq_false', Bool.not_eq_eq_eq_not] at hc); (first | (cases hc) | (simp only [hc]) | skip))))
    all_goals
      (try simp only [decide_eq_true_eq, decide_eq_false_iff_not, beq_iff_eq, bne_iff_ne, ne_eq, beq_eq_false_iff_ne, bne_eq_false_iff_eq, Bool.and_eq_true, Bool.or_eq_true, Bool.or_eq_false_iff, Bool.and_eq_false_iff] at *)
      rcases Classical.em (a.a.k = 0 ∨ b.a.k = 0) with q0 | q0
      · obtain ⟨q8, q9, q10, q11, q12, q13⟩ := g0 q0
        subst q8 q9 q10 q11 q12 q13
        first
        | (exfalso; omega)
        | ((first | refine awp_ret ?_ | skip); refine ⟨(by first | exact .inl rfl | exact .inr rfl | exact .inr trivial | trivial), ?_⟩; simp only [go_sem, ↓reduceIte, Nat.reduceEqDiff, Nat.reduceAdd, Nat.reduceLeDiff, Nat.reduceBEq, Nat.reduceMul, reduceCtorEq, Int.reduceLE, Int.reduceLT, Int.reduceAdd, Int.reduceSub, Int.reduceNeg, Int.reduceToNat, Int.reduceBEq, retV, resL, resV, sealV, sealC, sealAll, Tryz.f5]
           done)
      · have k1 : ¬ a.a.k = 0 := fun h => q0 (.inl h)
        have k2 : ¬ b.a.k = 0 := fun h => q0 (.inr h)
        have p1 := g1 k1 k2
        rcases Classical.em (numF (xV a) = true ∧ numF (xV b) = true) with f | f
        · have p2 := g2 k1 k2 f.1 f.2
          have p3 : (x13 == x12 + x8) = true := beq_iff_eq.2 p2.2.2
          first
          | (exfalso; omega)
          | ((first | refine awp_ret ?_ | skip); refine ⟨(by first | exact .inl rfl | exact .inr rfl | exact .inr trivial | trivial), ?_⟩; simp only [go_sem, ↓reduceIte, Nat.reduceEqDiff, Nat.reduceAdd, Nat.reduceLeDiff, Nat.reduceBEq, Nat.reduceMul, reduceCtorEq, Int.reduceLE, Int.reduceLT, Int.reduceAdd, Int.reduceSub, Int.reduceNeg, Int.reduceToNat, Int.reduceBEq, retV, resL, resV, sealV, sealC, sealAll, Tryz.f5, p3]
             done)
        · first
          | (exfalso; omega)
          | (exfalso
             apply f
             constructor <;> assumption)
          | ((first | refine awp_ret ?_ | skip); refine ⟨(by first | exact .inl rfl | exact .inr rfl | exact .inr trivial | trivial), ?_⟩; simp only [go_sem, ↓reduceIte, Nat.reduceEqDiff, Nat.reduceAdd, Nat.reduceLeDiff, Nat.reduceBEq, Nat.reduceMul, reduceCtorEq, Int.reduceLE, Int.reduceLT, Int.reduceAdd, Int.reduceSub, Int.reduceNeg, Int.reduceToNat, Int.reduceBEq, retV, resL, resV, sealV, sealC, sealAll, Tryz.f5]
             done)
  repeat' (first | refine awp_seq ?_ | refine awp_block ?_ | refine awp_round ?_ | refine awp_text rfl ?_ | refine awp_any rfl mix (by kernel_rfl) ?_ | (refine RunTo.unguard rfl rfl (fun hg => ?_) (fun hg => ?_) <;> ((try simp only [Bool.not_true, Bool.not_false, Bool.not_eq_true', Bool.not_eq_false', Bool.not_eq_eq_eq_not] at hg); (first | (cases hg) | (simp only [hg]) | skip))) | ((first | refine RunTo.plain rfl ?_ | refine RunTo.skipped rfl ?_ | refine RunTo.call (c_litX zeroX) Tryz.func9 rfl rfl rfl rfl rfl rfl rfl rfl ?_ | refine RunTo.call (va) Tryz.func13 rfl rfl rfl rfl rfl rfl rfl rfl ?_ | refine RunTo.call (vb) Tryz.func13 rfl rfl rfl rfl rfl rfl rfl rfl ?_); simp only [go_sem, ↓reduceIte, Nat.reduceEqDiff, Nat.reduceAdd, Nat.reduceLeDiff, Nat.reduceBEq, Nat.reduceMul, reduceCtorEq, Int.reduceLE, Int.reduceLT, Int.reduceAdd, Int.reduceSub, Int.reduceNeg, Int.reduceToNat, Int.reduceBEq, ValD.av, List.size_toArray]) | (refine RunTo.lentE (c_H0) Tryz.func11 rfl rfl rfl rfl rfl rfl ?_; simp only [go_sem, ↓reduceIte, Nat.reduceEqDiff, Nat.reduceAdd, Nat.reduceLeDiff, Nat.reduceBEq, Nat.reduceMul, reduceCtorEq, Int.reduceLE, Int.reduceLT, Int.reduceAdd, Int.reduceSub, Int.reduceNeg, Int.reduceToNat, Int.reduceBEq, ValD.av, List.size_toArray, Option.some.injEq, List.cons.injEq]; (repeat' refine And.intro rfl ?_); with_reducible refine RunTo.this ?_) | ((first | refine RunTo.nil ⟨by kernel_rfl, ?_⟩ | refine RunTo.nil ?_ | refine awp_skip ?_ | refine awp_exit ?_); simp only [go_sem, ↓reduceIte, Nat.reduceEqDiff, Nat.reduceAdd, Nat.reduceLeDiff, Nat.reduceBEq, Nat.reduceMul, reduceCtorEq, Int.reduceLE, Int.reduceLT, Int.reduceAdd, Int.reduceSub, Int.reduceNeg, Int.reduceToNat, Int.reduceBEq, ValD.av, List.size_toArray]) | (refine awp_cond' rfl (of_decide_eq_true rfl) (fun hc => ?_) (fun hc => ?_) <;> ((try simp only [Bool.not_true, Bool.not_false, Bool.not_eq_true', Bool.not_eq_false', Bool.not_eq_eq_eq_not] at hc); (first | (cases hc) | (simp only [hc]) | skip))))
  all_goals
    (try simp only [decide_eq_true_eq, decide_eq_false_iff_not, beq_iff_eq, bne_iff_ne, ne_eq, beq_eq_false_iff_ne, bne_eq_false_iff_eq, Bool.and_eq_true, Bool.or_eq_true, Bool.or_eq_false_iff, Bool.and_eq_false_iff] at *)
    first
    | exact awp_weak (st' := SK a b _ _ _) (weak_keep ⟨rfl, rfl, trivial⟩ ⟨rfl, rfl, trivial⟩ (Nat.le_refl _)) (tail (by assumption) (by assumption) (by assumption) (by assumption) (by omega) (by omega) _ _ _)
    | ((first | refine awp_ret ?_ | skip); refine ⟨(by first | exact .inl rfl | exact .inr rfl | exact .inr trivial | trivial), ?_⟩; simp only [go_sem, ↓reduceIte, Nat.reduceEqDiff, Nat.reduceAdd, Nat.reduceLeDiff, Nat.reduceBEq, Nat.reduceMul, reduceCtorEq, Int.reduceLE, Int.reduceLT, Int.reduceAdd, Int.reduceSub, Int.reduceNeg, Int.reduceToNat, Int.reduceBEq, retV, resL, resV, sealV, sealC, sealAll, Tryz.f5]
       done)
    | trace_state
end Go.Proofs.YtfeacmadnbajfaaGreatDoor.AM
