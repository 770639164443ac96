/- Part 7 of the proof: words, contracts, plain laws. Laid by a program of this session (wip/tool/shake.py): what is needed of own and printed texts, in order. -/
import Derived.Test.YtjihcldhjpdnmaaDoorZg0
import Derived.Test.YtjihcldhjpdnmaaDoorZg1
import Derived.Test.YtjihcldhjpdnmaaDoorZg2
import Derived.Test.YtjihcldhjpdnmaaDoorZg3
import Derived.Test.YtjihcldhjpdnmaaDoorZg5
import Derived.Test.YtjihcldhjpdnmaaDoorZg6
import Derived.Calls
import Derived.Lib.ItoaNum
import Derived.Orders
import Derived.Tactics
import Derived.Below
import Derived.Laws.Rows
import Derived.Laws.World
import Derived.Laws.CopyRow
import Derived.Lib.FrozenHead
import Derived.Deep.AppendSrc
import Derived.Deep.Upon
import Derived.Laws.BytesArg
import Derived.IntWalk
import Derived.Laws.Externs
import Derived.LoopN
import Derived.Scope
import Derived.Test.YtjihcldhjpdnmaaDoorProg
import Derived.KernelRfl
import Derived.MapKept
import Derived.Recover
import Derived.RegionTactic
import Derived.Lib.AppendIntMem
import Derived.Lib.Join
import Derived.Shelf.Strings.Builder1
import Derived.Shelf.Strings.Builder2
import Derived.Shelf.Strings.OnBuilder
import Derived.Shelf.Small.Strs
import Derived.Shelf.Small.Wraps
import Derived.Shelf.Strings.BuilderF
import Derived.Shelf.Strings.BuilderK
import Derived.Shelf.Strings.Builder2Cap
import Derived.Shelf.Strconv.Atoi
import Derived.Shelf.Strconv.Itoa0
import Derived.Shelf.Strconv.Itoa1
import Derived.Shelf.LaysM
import Derived.Shelf.Strconv.Itoa2
import Derived.Shelf.Strconv.Itoa3
import Derived.Shelf.Strconv.AtoiErrFast
import Derived.Shelf.Strconv.ParseIntEmpty
import Derived.Shelf.Strconv.AtoiFail
import Derived.Shelf.Strconv.Clone
import Derived.Shelf.Strconv.SyntaxError
import Derived.Shelf.LaysC
import Derived.Shelf.Strconv.ToError
import Derived.Shelf.Strconv.Lower
import Derived.Shelf.Strconv.ParseUint10
import Derived.Shelf.Strconv.ParseUint10Empty
import Derived.Shelf.Strconv.ParseUint10Any
import Derived.Shelf.Strconv.ParseInt10
import Derived.Shelf.Strconv.AtoiLong
import Derived.Shelf.Strconv.AtoiInnerAll
import Derived.Shelf.Strconv.RangeError
import Derived.Shelf.Strconv.ToErrorRange
import Derived.Shelf.Strconv.AtoiAll
import Derived.Shelf.Strings.Search1
import Derived.Shelf.Strings.Prefix
import Derived.Shelf.Strings.BuilderCap
import Derived.Shelf.Slices.Turned
import Derived.Ground.Names2Prog
import Derived.Shelf.Slices.SearchI
import Derived.WideLaws
namespace Go.Proofs.YtjihcldhjpdnmaaDoor.AM
open Go.RowKit
set_option linter.unusedSimpArgs false
set_option linter.unusedVariables false
set_option maxRecDepth 10000
set_option maxHeartbeats 0
theorem c_HasPrefix (s p : ByteArray) : Pure Tryd.prog 97 [sv s, sv p] (bv (Lib.hasPrefix s.data.toList p.data.toList)) := fun W X us hX hG hus hargs => by
  obtain rfl : us = #[.string s, .string p] := us_lits (l := [.string s, .string p]) hus hargs
  refine (Tryd.strings_HasPrefix s p W).mono fun e W' h => ?_
  obtain ⟨rfl, rfl⟩ := h
  exact ⟨_, rfl, Below.refl _ _, .dat _ _ (.lit _)⟩
def preS (s : ByteArray) (k : Nat) (t : ByteArray) : Bool := Lib.hasPrefix (s.extract k s.size).data.toList t.data.toList
theorem c_skip (s : ByteArray) (k : Nat) (t : ByteArray) (hk : k ≤ s.size) (hs : s.size ≤ 1000000) (ht : t.size ≤ 1000000) : Acts Tryd.prog 54 [.ptr 1001 0 0 0, sv t] [(1001, .box 0 [sv s, iv k])] (bv (preS s k t)) [(1001, .box 0 [sv s, iv (if preS s k t = true then ((k + t.size : Nat) : Int) else k)])] := by
  have hp := c_HasPrefix (s.extract k s.size) t
  have hw : IntKind.i64.wrap ((k : Int) + (t.size : Int)) = ((k + t.size : Nat) : Int) := by rw [IntWalk.i64_in _ (by omega)]; omega
  have hk' : (k ≤ s.size) = True := eq_true hk
  change Pure _ _ _ (bv (preS s k t)) at hp
  generalize preS s k t = b at *
  refine acts_of_awp ([(1001, 1001)]) Tryd.func54 rfl rfl (by simp [Tryd.f54]) ?_; simp only [go_sem, ↓reduceIte, Nat.reduceEqDiff, Nat.reduceAdd, Nat.reduceLeDiff, Nat.reduceBEq, Nat.reduceMul, reduceCtorEq, Int.reduceLE, Int.reduceLT, Int.reduceAdd, Int.reduceSub, Int.reduceNeg, Int.reduceToNat, Int.reduceBEq]
  repeat' (first | refine awp_seq ?_ | refine awp_block ?_ | refine awp_round ?_ | refine awp_scope ?_ | refine awp_text rfl ?_ | refine awp_any rfl mix (by kernel_rfl) ?_ | (refine RunTo.unguard rfl rfl (fun hg => ?_) (fun hg => ?_) <;> ((try simp only [Bool.not_true, Bool.not_false, Bool.not_eq_true', Bool.not_eq_false', Bool.not_eq_eq_eq_not] at hg); (first | (cases hg) | (simp only [hg]) | skip))) | ((first | refine RunTo.plain rfl ?_ | refine RunTo.skipped rfl ?_ | refine RunTo.call (hp) Tryd.func97 rfl rfl rfl rfl rfl rfl rfl rfl ?_); simp only [go_sem, ↓reduceIte, Nat.reduceEqDiff, Nat.reduceAdd, Nat.reduceLeDiff, Nat.reduceBEq, Nat.reduceMul, reduceCtorEq, Int.reduceLE, Int.reduceLT, Int.reduceAdd, Int.reduceSub, Int.reduceNeg, Int.reduceToNat, Int.reduceBEq, hk', hw, Nat.le_refl]) | ((first | refine RunTo.nilA (by kernel_rfl) ?_ | refine RunTo.nilT ?_ | refine awp_skip ?_ | refine awp_exit ?_ | refine awp_label ?_); simp only [go_sem, ↓reduceIte, Nat.reduceEqDiff, Nat.reduceAdd, Nat.reduceLeDiff, Nat.reduceBEq, Nat.reduceMul, reduceCtorEq, Int.reduceLE, Int.reduceLT, Int.reduceAdd, Int.reduceSub, Int.reduceNeg, Int.reduceToNat, Int.reduceBEq, hk', hw, Nat.le_refl]) | (refine awp_cond' rfl (of_decide_eq_true rfl) (fun hc => ?_) (fun hc => ?_) <;> ((try simp only [Bool.not_true, Bool.not_false, Bool.not_eq_true', Bool.not_eq_false', Bool.not_eq_eq_eq_not] at hc); (first | (cases hc) | (simp only [hc]) | skip))))
  all_goals
    (first | refine awp_ret ?_ | skip); refine ⟨(by first | exact .inl rfl | exact .inr rfl | exact .inr trivial | trivial), _, rfl, rfl, rfl, ?_, ?_⟩ <;> (try simp only [go_sem, ↓reduceIte, Nat.reduceEqDiff, Nat.reduceAdd, Nat.reduceLeDiff, Nat.reduceBEq, Nat.reduceMul, reduceCtorEq, Int.reduceLE, Int.reduceLT, Int.reduceAdd, Int.reduceSub, Int.reduceNeg, Int.reduceToNat, Int.reduceBEq])
  all_goals trace_state
theorem skip_yes {s : ByteArray} {k : Nat} {t : ByteArray} (hk : k ≤ s.size) (hs : s.size ≤ 1000000) (ht : t.size ≤ 1000000) (h : preS s k t = true) : Acts Tryd.prog 54 [.ptr 1001 0 0 0, sv t] [(1001, .box 0 [sv s, iv k])] (bv true) [(1001, .box 0 [sv s, iv ((k + t.size : Nat) : Int)])] := by
  have := c_skip s k t hk hs ht
  rw [h, if_pos rfl] at this
  exact this
theorem skip_no {s : ByteArray} {k : Nat} {t : ByteArray} (hk : k ≤ s.size) (hs : s.size ≤ 1000000) (ht : t.size ≤ 1000000) (h : preS s k t = false) : Acts Tryd.prog 54 [.ptr 1001 0 0 0, sv t] [(1001, .box 0 [sv s, iv k])] (bv false) [(1001, .box 0 [sv s, iv k])] := by
  have := c_skip s k t hk hs ht
  rw [h, if_neg (by simp)] at this
  exact this
theorem d_Read0 (T : Nat) (h : List (Nat × Blk)) (x y z : AV) : DefC Tryd.prog 53 .returning [x, y, z] T h .returning h := by
  refine defc_of_awp (u' := .returning) (x := .lit .nilIface) Tryd.func53 rfl rfl rfl rfl rfl rfl rfl rfl rfl (of_decide_eq_true rfl) (of_decide_eq_true rfl) (.inr ⟨rfl, rfl, rfl⟩) ?_
  simp only [go_sem, ↓reduceIte, Nat.reduceEqDiff, Nat.reduceAdd, Nat.reduceLeDiff, Nat.reduceBEq, Nat.reduceMul, reduceCtorEq, Int.reduceLE, Int.reduceLT, Int.reduceAdd, Int.reduceSub, Int.reduceNeg, Int.reduceToNat, Int.reduceBEq]
  repeat' (first | refine awp_seq ?_ | refine awp_block ?_ | refine awp_round ?_ | refine awp_scope ?_ | refine awp_text rfl ?_ | refine awp_any rfl mix (by kernel_rfl) ?_ | (refine RunTo.asNil rfl (by kernel_rfl) zer_32 rfl rfl ?_; simp only [go_sem, ↓reduceIte, Nat.reduceEqDiff, Nat.reduceAdd, Nat.reduceLeDiff, Nat.reduceBEq, Nat.reduceMul, reduceCtorEq, Int.reduceLE, Int.reduceLT, Int.reduceAdd, Int.reduceSub, Int.reduceNeg, Int.reduceToNat, Int.reduceBEq]) | (refine RunTo.unguard rfl rfl (fun hg => ?_) (fun hg => ?_) <;> ((try simp only [Bool.not_true, Bool.not_false, Bool.not_eq_true', Bool.not_eq_false', Bool.not_eq_eq_eq_not] at hg); (first | (cases hg) | (simp only [hg]) | skip))) | ((first | refine RunTo.plain rfl ?_ | refine RunTo.skipped rfl ?_); simp only [go_sem, ↓reduceIte, Nat.reduceEqDiff, Nat.reduceAdd, Nat.reduceLeDiff, Nat.reduceBEq, Nat.reduceMul, reduceCtorEq, Int.reduceLE, Int.reduceLT, Int.reduceAdd, Int.reduceSub, Int.reduceNeg, Int.reduceToNat, Int.reduceBEq]) | ((first | refine RunTo.nilA (by kernel_rfl) ?_ | refine RunTo.nilT ?_ | refine awp_skip ?_ | refine awp_exit ?_ | refine awp_label ?_); simp only [go_sem, ↓reduceIte, Nat.reduceEqDiff, Nat.reduceAdd, Nat.reduceLeDiff, Nat.reduceBEq, Nat.reduceMul, reduceCtorEq, Int.reduceLE, Int.reduceLT, Int.reduceAdd, Int.reduceSub, Int.reduceNeg, Int.reduceToNat, Int.reduceBEq]) | (refine awp_cond' rfl (of_decide_eq_true rfl) (fun hc => ?_) (fun hc => ?_) <;> ((try simp only [Bool.not_true, Bool.not_false, Bool.not_eq_true', Bool.not_eq_false', Bool.not_eq_eq_eq_not] at hc); (first | (cases hc) | (simp only [hc]) | skip))))
  refine RunTo.nilR ?_
  simp only [go_sem, ↓reduceIte, Nat.reduceEqDiff, Nat.reduceAdd, Nat.reduceLeDiff, Nat.reduceBEq, Nat.reduceMul, reduceCtorEq, Int.reduceLE, Int.reduceLT, Int.reduceAdd, Int.reduceSub, Int.reduceNeg, Int.reduceToNat, Int.reduceBEq]
  repeat' (first | refine awp_seq ?_ | refine awp_block ?_ | refine awp_round ?_ | refine awp_scope ?_ | refine awp_text rfl ?_ | refine awp_any rfl mix (by kernel_rfl) ?_ | (refine RunTo.unguard rfl rfl (fun hg => ?_) (fun hg => ?_) <;> ((try simp only [Bool.not_true, Bool.not_false, Bool.not_eq_true', Bool.not_eq_false', Bool.not_eq_eq_eq_not] at hg); (first | (cases hg) | (simp only [hg]) | skip))) | ((first | refine RunTo.plain rfl ?_ | refine RunTo.skipped rfl ?_); simp only [go_sem, ↓reduceIte, Nat.reduceEqDiff, Nat.reduceAdd, Nat.reduceLeDiff, Nat.reduceBEq, Nat.reduceMul, reduceCtorEq, Int.reduceLE, Int.reduceLT, Int.reduceAdd, Int.reduceSub, Int.reduceNeg, Int.reduceToNat, Int.reduceBEq]) | ((first | refine RunTo.nilA (by kernel_rfl) ?_ | refine RunTo.nilT ?_ | refine awp_skip ?_ | refine awp_exit ?_ | refine awp_label ?_); simp only [go_sem, ↓reduceIte, Nat.reduceEqDiff, Nat.reduceAdd, Nat.reduceLeDiff, Nat.reduceBEq, Nat.reduceMul, reduceCtorEq, Int.reduceLE, Int.reduceLT, Int.reduceAdd, Int.reduceSub, Int.reduceNeg, Int.reduceToNat, Int.reduceBEq]) | (refine awp_cond' rfl (of_decide_eq_true rfl) (fun hc => ?_) (fun hc => ?_) <;> ((try simp only [Bool.not_true, Bool.not_false, Bool.not_eq_true', Bool.not_eq_false', Bool.not_eq_eq_eq_not] at hc); (first | (cases hc) | (simp only [hc]) | skip))))
  all_goals first | exact ⟨.inr rfl, rfl⟩ | exact .inr trivial
abbrev nilA : AV := .lit (.slice none 0 0)
theorem d_Read1 (n : Int) (T e2 e3 e4 : Nat) (c0 c1 c2 c3 c4 d0 d1 : AV) : DefC Tryd.prog 53 (.panicking (pch (.iface 32 (.int .i64 n)))) [.ptr 2 e2 0 0, .ptr 3 e3 0 0, .ptr 4 e4 0 0] T
    [(2, .box e2 [c0, c1, c2, c3, c4]), (3, .box e3 [d0]), (4, .box e4 [d1])] (.panicking [{ v := .iface 32 (.int .i64 n), recovered := true }])
    [(2, .box e2 [iv 0, iv 0, .lit (.float .f64 0), sv eE, nilA]), (3, .box e3 [iv 0]), (4, .box e4 [iv n])] := by
  refine defc_of_awp (x := .ifc 32 (iv n)) Tryd.func53 rfl rfl rfl rfl rfl rfl rfl rfl rfl (of_decide_eq_true rfl) (of_decide_eq_true rfl) (.inl ⟨_, rfl, rfl, rfl⟩) ?_
  simp only [go_sem, ↓reduceIte, Nat.reduceEqDiff, Nat.reduceAdd, Nat.reduceLeDiff, Nat.reduceBEq, Nat.reduceMul, reduceCtorEq, Int.reduceLE, Int.reduceLT, Int.reduceAdd, Int.reduceSub, Int.reduceNeg, Int.reduceToNat, Int.reduceBEq]
  repeat' (first | refine awp_seq ?_ | refine awp_block ?_ | refine awp_round ?_ | refine awp_scope ?_ | refine awp_text rfl ?_ | refine awp_any rfl mix (by kernel_rfl) ?_ | (refine RunTo.asYes rfl (by kernel_rfl) rfl rfl ?_; simp only [go_sem, ↓reduceIte, Nat.reduceEqDiff, Nat.reduceAdd, Nat.reduceLeDiff, Nat.reduceBEq, Nat.reduceMul, reduceCtorEq, Int.reduceLE, Int.reduceLT, Int.reduceAdd, Int.reduceSub, Int.reduceNeg, Int.reduceToNat, Int.reduceBEq]) | (refine RunTo.unguard rfl rfl (fun hg => ?_) (fun hg => ?_) <;> ((try simp only [Bool.not_true, Bool.not_false, Bool.not_eq_true', Bool.not_eq_false', Bool.not_eq_eq_eq_not] at hg); (first | (cases hg) | (simp only [hg]) | skip))) | ((first | refine RunTo.plain rfl ?_ | refine RunTo.skipped rfl ?_); simp only [go_sem, ↓reduceIte, Nat.reduceEqDiff, Nat.reduceAdd, Nat.reduceLeDiff, Nat.reduceBEq, Nat.reduceMul, reduceCtorEq, Int.reduceLE, Int.reduceLT, Int.reduceAdd, Int.reduceSub, Int.reduceNeg, Int.reduceToNat, Int.reduceBEq]) | ((first | refine RunTo.nilA (by kernel_rfl) ?_ | refine RunTo.nilT ?_ | refine awp_skip ?_ | refine awp_exit ?_ | refine awp_label ?_); simp only [go_sem, ↓reduceIte, Nat.reduceEqDiff, Nat.reduceAdd, Nat.reduceLeDiff, Nat.reduceBEq, Nat.reduceMul, reduceCtorEq, Int.reduceLE, Int.reduceLT, Int.reduceAdd, Int.reduceSub, Int.reduceNeg, Int.reduceToNat, Int.reduceBEq]) | (refine awp_cond' rfl (of_decide_eq_true rfl) (fun hc => ?_) (fun hc => ?_) <;> ((try simp only [Bool.not_true, Bool.not_false, Bool.not_eq_true', Bool.not_eq_false', Bool.not_eq_eq_eq_not] at hc); (first | (cases hc) | (simp only [hc]) | skip))))
  refine RunTo.nilR ?_
  simp only [go_sem, ↓reduceIte, Nat.reduceEqDiff, Nat.reduceAdd, Nat.reduceLeDiff, Nat.reduceBEq, Nat.reduceMul, reduceCtorEq, Int.reduceLE, Int.reduceLT, Int.reduceAdd, Int.reduceSub, Int.reduceNeg, Int.reduceToNat, Int.reduceBEq]
  repeat' (first | refine awp_seq ?_ | refine awp_block ?_ | refine awp_round ?_ | refine awp_scope ?_ | refine awp_text rfl ?_ | refine awp_any rfl mix (by kernel_rfl) ?_ | (refine RunTo.unguard rfl rfl (fun hg => ?_) (fun hg => ?_) <;> ((try simp only [Bool.not_true, Bool.not_false, Bool.not_eq_true', Bool.not_eq_false', Bool.not_eq_eq_eq_not] at hg); (first | (cases hg) | (simp only [hg]) | skip))) | ((first | refine RunTo.plain rfl ?_ | refine RunTo.skipped rfl ?_); simp only [go_sem, ↓reduceIte, Nat.reduceEqDiff, Nat.reduceAdd, Nat.reduceLeDiff, Nat.reduceBEq, Nat.reduceMul, reduceCtorEq, Int.reduceLE, Int.reduceLT, Int.reduceAdd, Int.reduceSub, Int.reduceNeg, Int.reduceToNat, Int.reduceBEq]) | ((first | refine RunTo.nilA (by kernel_rfl) ?_ | refine RunTo.nilT ?_ | refine awp_skip ?_ | refine awp_exit ?_ | refine awp_label ?_); simp only [go_sem, ↓reduceIte, Nat.reduceEqDiff, Nat.reduceAdd, Nat.reduceLeDiff, Nat.reduceBEq, Nat.reduceMul, reduceCtorEq, Int.reduceLE, Int.reduceLT, Int.reduceAdd, Int.reduceSub, Int.reduceNeg, Int.reduceToNat, Int.reduceBEq]) | (refine awp_cond' rfl (of_decide_eq_true rfl) (fun hc => ?_) (fun hc => ?_) <;> ((try simp only [Bool.not_true, Bool.not_false, Bool.not_eq_true', Bool.not_eq_false', Bool.not_eq_eq_eq_not] at hc); (first | (cases hc) | (simp only [hc]) | skip))))
  all_goals first | exact ⟨.inr rfl, rfl⟩ | exact .inr trivial
abbrev nullB : ByteArray := ⟨#[110, 117, 108, 108]⟩
abbrev trueB : ByteArray := ⟨#[116, 114, 117, 101]⟩
abbrev falseB : ByteArray := ⟨#[102, 97, 108, 115, 101]⟩
abbrev openB : ByteArray := ⟨#[91]⟩
end Go.Proofs.YtjihcldhjpdnmaaDoor.AM
namespace Go.Proofs.YtjihcldhjpdnmaaDoor.AM
open Go.RowKit
set_option linter.unusedSimpArgs false
set_option linter.unusedVariables false
set_option maxRecDepth 10000
set_option maxHeartbeats 0
theorem os_neNil {P : Program} {o : Oper} {ρ : Operand → AV} {h : List (Nat × Blk)} {E : Nat} {x : Operand} {w : Value} {t t' u : TypeId} {z : AV} (ho : o.op = .binOp .neq t x (.const .nilIface) t') (ht : P.underlying t = some (.interface (P.methodsAt t))) (hx : ρ x = .ifc u z) : OStep P o ρ h [] E (.lit (.bool true)) h :=
  ostep_value (fun c a ok hops _ => by
    have h1 := hops x (by rw [ho]; simp [Op.operands])
    rw [hx] at h1
    generalize hev : a.eval x = ux at h1
    cases h1 with
    | ifc _ _ y hy =>
      refine ⟨.bool true, ?_, .dat _ _ (.lit _)⟩
      have e2 : a.eval (.const .nilIface) = .nilIface := rfl
      simp only [execOp, ho, hev, e2, Sem.run_bind]
      have hg : (eqGuard .neq t x (.const .nilIface) (.iface u y) .nilIface).run P c.W = .ok () c.W := by simp [eqGuard]
      rw [hg, Result.andThen_ok, run_neq_held_nil c.W t u y ht]
      rfl)
theorem os_eqNil {P : Program} {o : Oper} {ρ : Operand → AV} {h : List (Nat × Blk)} {E : Nat} {x : Operand} {t t' : TypeId} (ho : o.op = .binOp .neq t x (.const .nilIface) t') (ht : P.underlying t = some (.interface (P.methodsAt t))) (hx : ρ x = .lit .nilIface) : OStep P o ρ h [] E (.lit (.bool false)) h :=
  ostep_value (fun c a ok hops _ => by
    have h1 := hops x (by rw [ho]; simp [Op.operands])
    rw [hx] at h1
    have hev := h1.lit_inv
    refine ⟨.bool false, ?_, .dat _ _ (.lit _)⟩
    have e2 : a.eval (.const .nilIface) = .nilIface := rfl
    simp only [execOp, ho, hev, e2, Sem.run_bind]
    have hg : (eqGuard .neq t x (.const .nilIface) .nilIface .nilIface).run P c.W = .ok () c.W := by simp [eqGuard]
    rw [hg, Result.andThen_ok, run_neq_nil_nil c.W t ht]
    rfl)
section
variable {P : Program} {ds : List (Option Tmp)} {T i : Nat} {o : Oper} {os : List Oper} {st : St} {acc : Log} {K : Kont} {x : Operand} {t t' : TypeId}
theorem RunTo.neNil {u : TypeId} {z : AV} (ho : o.op = .binOp .neq t x (.const .nilIface) t') (ht : P.underlying t = some (.interface (P.methodsAt t))) (hw : wantedA ds o st.env = some true) (hx : opv st.env x = .ifc u z)
    (h : RunTo P ds T (i + 1) os (st.put o.dst (.lit (.bool true))) (acc ++ [([], [])]) K) : RunTo P ds T i (o :: os) st acc K :=
  RunTo.cons ⟨.inr ⟨hw, _, st.heap, os_neNil (w := .nilIface) ho ht hx, by cases st; rfl⟩, fun b _ => by rw [heap_put], fun b hb => (by cases hb)⟩ h
theorem RunTo.eqNil (ho : o.op = .binOp .neq t x (.const .nilIface) t') (ht : P.underlying t = some (.interface (P.methodsAt t))) (hw : wantedA ds o st.env = some true) (hx : opv st.env x = .lit .nilIface)
    (h : RunTo P ds T (i + 1) os (st.put o.dst (.lit (.bool false))) (acc ++ [([], [])]) K) : RunTo P ds T i (o :: os) st acc K :=
  RunTo.cons ⟨.inr ⟨hw, _, st.heap, os_eqNil ho ht hx, by cases st; rfl⟩, fun b _ => by rw [heap_put], fun b hb => (by cases hb)⟩ h
end
theorem os_told {P : Program} {o : Oper} {ρ : Operand → AV} {h : List (Nat × Blk)} {E : Nat} {v : AV} {f : FuncId} {fn : Func} {c0 : Call} (ho : o.op = .call c0) (hcal : c0.callee = .value (.func f)) (hf : P.funcs[f]? = some fn) (hb : fn.body.isNone = false) (hng : (fn.name == "runtime.NumGoroutine") = false)
    {us : List Value} (hargs : c0.args.toList.map ρ = us.map AV.lit) (hvs : ∀ c c' u, VR c v u → VR c' v u) (hp : Pure P f (us.map AV.lit) v) : OStep P o ρ h [] E v h := by
  intro c a ok hops hblk hE K Q hK
  unfold Oper.wp
  have hng' : ¬ fn.name = "runtime.NumGoroutine" := by simpa using hng
  have hb' : ¬ fn.body = none := fun e => by rw [e] at hb; cases hb
  have hrun : (execOp a.eval o).run P c.W = .ok (.enter f (c0.args.map a.eval)) c.W := by
    simp [execOp, ho, resolve, hcal, Act.eval, Deferred.ofValue, invoke, callFunc, hf, hb', hng']
  rw [hrun]
  have hlen : c0.args.size = us.length := by have := congrArg List.length hargs; simpa using this
  refine (hp c.W (fun _ => False) (c0.args.map a.eval) (fun _ h => h.elim) (fun g o hg => ⟨(ok.glob g o hg).1, fun h => h⟩) (by simpa using hlen) (fun i x hx => ?_)).mono ?_
  · rw [← hargs, List.getElem?_map] at hx
    cases hy : c0.args.toList[i]? with
    | none => rw [hy] at hx; cases hx
    | some y =>
      rw [hy] at hx
      have e1 : ρ y = x := Option.some.inj hx
      have hm : y ∈ o.op.operands.toList := by
        rw [ho]
        have := List.mem_of_getElem? hy
        simp [Op.operands, Call.operands, hcal]
        exact .inr (Array.mem_toList_iff.1 this)
      have hvy := hops y hm
      have hl : ∃ u, x = AV.lit u := by
        have h9 : (us.map AV.lit)[i]? = some x := by rw [← hargs, List.getElem?_map, hy]; exact hx
        rw [List.getElem?_map] at h9
        cases hz : us[i]? with
        | none => rw [hz] at h9; cases h9
        | some z => rw [hz] at h9; exact ⟨z, (Option.some.inj h9).symm⟩
      obtain ⟨u, rfl⟩ := hl
      rw [e1] at hvy
      rw [Array.getElem?_toList] at hy
      have : (c0.args.map a.eval).getD i undef = a.eval y := by simp [Array.getD_eq_getD_getElem?, hy]
      rw [this, hvy.lit_inv]
      exact .dat _ _ (.lit _)
  · rintro e W' ⟨u, rfl, hbel, hv⟩
    have ev : Ev (· ∈ ([] : List Nat)) (· = E) c (c.wrote W') := ⟨hbel.os, hbel.tape, hbel.output, hbel.size, fun k hk _ => hbel.block k hk, fun _ h => .inl h, fun _ h _ => h, fun _ _ h _ => h, fun _ _ => rfl, fun b L r hF => by simp at hF, fun _ h => h, fun _ h => .inl h⟩
    exact hK u (c.wrote W') ⟨ok.inj, ok.sub, fun k hk => Nat.lt_of_lt_of_le (ok.bnd k hk) hbel.size, ok.used, glob_kept ok (fun k hk hs => ⟨hbel.block k hs, hk⟩)⟩ (ev.wide (fun b hb => by cases hb) (fun _ h => h)) (hvs _ _ _ hv) (fun b hb' => by cases hb')
theorem RunTo.told {P : Program} {ds : List (Option Tmp)} {T i : Nat} {o : Oper} {os : List Oper} {st : St} {acc : Log} {K : Kont} {v : AV} {f : FuncId} {us : List Value} (hp : Pure P f (us.map AV.lit) v) (hvs : ∀ c c' u, VR c v u → VR c' v u) {fn : Func} {c0 : Call}
    (hf : P.funcs[f]? = some fn) (ho : o.op = .call c0) (hcal : c0.callee = .value (.func f)) (hb : fn.body.isNone = false) (hng : (fn.name == "runtime.NumGoroutine") = false)
    (hw : wantedA ds o st.env = some true) (hargs : c0.args.toList.map (opv st.env) = us.map AV.lit)
    (h : RunTo P ds T (i + 1) os (st.put o.dst v) (acc ++ [([], [])]) K) : RunTo P ds T i (o :: os) st acc K :=
  RunTo.cons ⟨.inr ⟨hw, v, st.heap, os_told ho hcal hf hb hng hargs hvs hp, by cases st; rfl⟩, fun b _ => by rw [heap_put], fun b hb => by cases hb⟩ h
abbrev errA : AV := .ifc 191 .top
theorem err_shift (n : Int) : ∀ (c c' : Cx) (u : Value), VR c (.tup [iv n, errA]) u → VR c' (.tup [iv n, errA]) u := fun c c' u hv => by
  cases hv with
  | tup _ us h1 k1 =>
    refine .tup _ us h1 (fun i x hi => ?_)
    have h2 := k1 i x hi
    match i, hi with
    | 0, hi =>
      obtain rfl := Option.some.inj hi
      rw [h2.lit_inv]; exact .dat _ _ (.lit _)
    | 1, hi =>
      obtain rfl := Option.some.inj hi
      generalize us.getD 1 undef = w at h2
      cases h2 with
      | ifc _ _ y hy => exact .ifc _ _ _ (.top _)
    | i + 2, hi => simp at hi
theorem c_AtoiOk (s : ByteArray) (hs : s.size ≤ 1000000) (n : Int) (h : Lib.atoiAll s.data.toList = .ok n) : Pure Tryd.prog 138 [sv s] (.tup [iv n, .lit .nilIface]) := fun W X us hX hG hus hargs => by
  obtain rfl : us = #[.string s] := us_lits (l := [.string s]) hus hargs
  refine (Tryd.strconv_Atoi_ok s (by omega) n h W).mono fun e W' hh => ?_
  obtain ⟨rfl, hw⟩ := hh
  refine ⟨_, rfl, ?_, .tup _ _ rfl (fun i x hi => ?_)⟩
  · rcases hw with rfl | ⟨t, rfl⟩
    · exact Below.refl _ _
    · exact Lib.bytesWorld_below W _ _
  · match i, hi with
    | 0, hi => obtain rfl := Option.some.inj hi; exact .dat _ _ (.lit _)
    | 1, hi => obtain rfl := Option.some.inj hi; exact .dat _ _ (.lit _)
    | i + 2, hi => simp at hi
theorem c_AtoiBad (s : ByteArray) (hs : s.size ≤ 1000000) (h : ∀ n, Lib.atoiAll s.data.toList ≠ .ok n) : ∃ n, Pure Tryd.prog 138 [sv s] (.tup [iv n, errA]) := by
  have key : ∀ (W : World) (X : Nat → Prop) (g : Nat), Glob W X → G0 g = some isErr → ∃ ev, W.cell? ⟨g, 0, none⟩ = some ev ∧ (ev = .nilIface ∨ ∃ te pe, ev = .iface te pe) := fun W X g hG hg => by
    obtain ⟨⟨o, el, fz, h1, t, p, rfl⟩, _⟩ := hG g _ hg
    refine ⟨.iface t p, ?_, .inr ⟨t, p, rfl⟩⟩
    simp [World.cell?, h1]
  rcases ha : Lib.atoiAll s.data.toList with n | _ | _
  · exact absurd ha (h n)
  · refine ⟨0, fun W X us hX hG hus hargs => ?_⟩
    obtain rfl : us = #[.string s] := us_lits (l := [.string s]) hus hargs
    obtain ⟨ev, e1, e2⟩ := key W X 3 hG rfl
    refine (Tryd.strconv_Atoi_syntax s (by omega) ha ev W e1 e2).mono fun e W' hh => ?_
    obtain ⟨N, rfl, _, _, hbel⟩ := hh
    refine ⟨_, rfl, hbel, .tup _ _ rfl (fun i x hi => ?_)⟩
    match i, hi with
    | 0, hi => obtain rfl := Option.some.inj hi; exact .dat _ _ (.lit _)
    | 1, hi => obtain rfl := Option.some.inj hi; exact .ifc _ _ _ (.top _)
    | i + 2, hi => simp at hi
  · refine ⟨Lib.atoiSat s.data.toList, fun W X us hX hG hus hargs => ?_⟩
    obtain rfl : us = #[.string s] := us_lits (l := [.string s]) hus hargs
    obtain ⟨ev, e1, e2⟩ := key W X 4 hG rfl
    refine (Tryd.strconv_Atoi_range s (by omega) ha ev W e1 e2).mono fun e W' hh => ?_
    obtain ⟨N, rfl, _, _, hbel⟩ := hh
    refine ⟨_, rfl, hbel, .tup _ _ rfl (fun i x hi => ?_)⟩
    match i, hi with
    | 0, hi => obtain rfl := Option.some.inj hi; exact .dat _ _ (.lit _)
    | 1, hi => obtain rfl := Option.some.inj hi; exact .ifc _ _ _ (.top _)
    | i + 2, hi => simp at hi
end Go.Proofs.YtjihcldhjpdnmaaDoor.AM
namespace Go.Proofs.YtjihcldhjpdnmaaDoor.AM
open Go.RowKit
set_option linter.unusedSimpArgs false
set_option linter.unusedVariables false
set_option maxRecDepth 10000
set_option maxHeartbeats 0
abbrev errV (n : Int) : Value := .iface 32 (.int .i64 n)
abbrev rdB (s : ByteArray) (k : Nat) : List (Nat × Blk) := [(1001, .box 0 [sv s, iv k])]
theorem c_needOk (s : ByteArray) (k n : Nat) (h : k + n ≤ s.size) (hs : s.size ≤ 1000000) : Acts Tryd.prog 99 [.ptr 1001 0 0 0, iv n] (rdB s k) (sv (s.extract k (k + n))) (rdB s (k + n)) := by
  have w1 : IntKind.i64.wrap ((s.size : Int) - (k : Int)) = ((s.size - k : Nat) : Int) := by rw [IntWalk.i64_in _ (by omega)]; omega
  have d1 : decide (((s.size - k : Nat) : Int) < (n : Int)) = false := decide_eq_false (by omega)
  have w2 : IntKind.i64.wrap ((k : Int) + (n : Int)) = ((k + n : Nat) : Int) := by rw [IntWalk.i64_in _ (by omega)]; omega
  have w3 : IntKind.i64.wrap (((k + n : Nat) : Int) - (n : Int)) = (k : Int) := by rw [IntWalk.i64_in _ (by omega)]; omega
  have h1 : (k ≤ k + n) = True := eq_true (by omega)
  have h2 : (k + n ≤ s.size) = True := eq_true h
  refine acts_of_awp ([(1001, 1001)]) Tryd.func99 rfl rfl (by simp [Tryd.f99]) ?_; simp only [go_sem, ↓reduceIte, Nat.reduceEqDiff, Nat.reduceAdd, Nat.reduceLeDiff, Nat.reduceBEq, Nat.reduceMul, reduceCtorEq, Int.reduceLE, Int.reduceLT, Int.reduceAdd, Int.reduceSub, Int.reduceNeg, Int.reduceToNat, Int.reduceBEq]
  repeat' (first | refine awp_seq ?_ | refine awp_block ?_ | refine awp_round ?_ | refine awp_scope ?_ | refine awp_text rfl ?_ | refine awp_any rfl mix (by kernel_rfl) ?_ | (refine RunTo.unguard rfl rfl (fun hg => ?_) (fun hg => ?_) <;> ((try simp only [Bool.not_true, Bool.not_false, Bool.not_eq_true', Bool.not_eq_false', Bool.not_eq_eq_eq_not] at hg); (first | (cases hg) | (simp only [hg]) | skip))) | ((first | refine RunTo.plain rfl ?_ | refine RunTo.skipped rfl ?_); simp only [go_sem, ↓reduceIte, Nat.reduceEqDiff, Nat.reduceAdd, Nat.reduceLeDiff, Nat.reduceBEq, Nat.reduceMul, reduceCtorEq, Int.reduceLE, Int.reduceLT, Int.reduceAdd, Int.reduceSub, Int.reduceNeg, Int.reduceToNat, Int.reduceBEq, w1, d1, w2, w3, h1, h2]) | ((first | refine RunTo.nilA (by kernel_rfl) ?_ | refine RunTo.nilT ?_ | refine awp_skip ?_ | refine awp_exit ?_ | refine awp_label ?_); simp only [go_sem, ↓reduceIte, Nat.reduceEqDiff, Nat.reduceAdd, Nat.reduceLeDiff, Nat.reduceBEq, Nat.reduceMul, reduceCtorEq, Int.reduceLE, Int.reduceLT, Int.reduceAdd, Int.reduceSub, Int.reduceNeg, Int.reduceToNat, Int.reduceBEq, w1, d1, w2, w3, h1, h2]) | (refine awp_cond' rfl (of_decide_eq_true rfl) (fun hc => ?_) (fun hc => ?_) <;> ((try simp only [Bool.not_true, Bool.not_false, Bool.not_eq_true', Bool.not_eq_false', Bool.not_eq_eq_eq_not] at hc); (first | (cases hc) | (simp only [hc]) | skip))))
  all_goals
    (first | refine awp_ret ?_ | skip); refine ⟨(by first | exact .inl rfl | exact .inr rfl | exact .inr trivial | trivial), _, rfl, rfl, rfl, ?_, ?_⟩ <;> (try simp only [go_sem, ↓reduceIte, Nat.reduceEqDiff, Nat.reduceAdd, Nat.reduceLeDiff, Nat.reduceBEq, Nat.reduceMul, reduceCtorEq, Int.reduceLE, Int.reduceLT, Int.reduceAdd, Int.reduceSub, Int.reduceNeg, Int.reduceToNat, Int.reduceBEq])
theorem c_needBad (s : ByteArray) (k n : Nat) (hk : k ≤ s.size) (h : s.size < k + n) (hs : s.size ≤ 1000000) : Pans Tryd.prog 99 [.ptr 1001 0 0 0, iv n] (rdB s k) (errV 11) := by
  have w1 : IntKind.i64.wrap ((s.size : Int) - (k : Int)) = ((s.size - k : Nat) : Int) := by rw [IntWalk.i64_in _ (by omega)]; omega
  have d1 : decide (((s.size - k : Nat) : Int) < (n : Int)) = true := decide_eq_true (by omega)
  refine pans_of_awp Tryd.func99 rfl (by simp [Tryd.f99]) ?_; simp only [go_sem, ↓reduceIte, Nat.reduceEqDiff, Nat.reduceAdd, Nat.reduceLeDiff, Nat.reduceBEq, Nat.reduceMul, reduceCtorEq, Int.reduceLE, Int.reduceLT, Int.reduceAdd, Int.reduceSub, Int.reduceNeg, Int.reduceToNat, Int.reduceBEq]
  repeat' (first | refine awp_seq ?_ | refine awp_block ?_ | refine awp_round ?_ | refine awp_scope ?_ | refine awp_text rfl ?_ | refine awp_any rfl mix (by kernel_rfl) ?_ | (refine RunTo.panic rfl rfl rfl ?_; simp only [go_sem, ↓reduceIte, Nat.reduceEqDiff, Nat.reduceAdd, Nat.reduceLeDiff, Nat.reduceBEq, Nat.reduceMul, reduceCtorEq, Int.reduceLE, Int.reduceLT, Int.reduceAdd, Int.reduceSub, Int.reduceNeg, Int.reduceToNat, Int.reduceBEq, w1, d1]) | (refine RunTo.unguard rfl rfl (fun hg => ?_) (fun hg => ?_) <;> ((try simp only [Bool.not_true, Bool.not_false, Bool.not_eq_true', Bool.not_eq_false', Bool.not_eq_eq_eq_not] at hg); (first | (cases hg) | (simp only [hg]) | skip))) | ((first | refine RunTo.plain rfl ?_ | refine RunTo.skipped rfl ?_); simp only [go_sem, ↓reduceIte, Nat.reduceEqDiff, Nat.reduceAdd, Nat.reduceLeDiff, Nat.reduceBEq, Nat.reduceMul, reduceCtorEq, Int.reduceLE, Int.reduceLT, Int.reduceAdd, Int.reduceSub, Int.reduceNeg, Int.reduceToNat, Int.reduceBEq, w1, d1]) | ((first | refine RunTo.nilA (by kernel_rfl) ?_ | refine RunTo.nilT ?_ | refine awp_skip ?_ | refine awp_exit ?_ | refine awp_label ?_); simp only [go_sem, ↓reduceIte, Nat.reduceEqDiff, Nat.reduceAdd, Nat.reduceLeDiff, Nat.reduceBEq, Nat.reduceMul, reduceCtorEq, Int.reduceLE, Int.reduceLT, Int.reduceAdd, Int.reduceSub, Int.reduceNeg, Int.reduceToNat, Int.reduceBEq, w1, d1]) | (refine awp_cond' rfl (of_decide_eq_true rfl) (fun hc => ?_) (fun hc => ?_) <;> ((try simp only [Bool.not_true, Bool.not_false, Bool.not_eq_true', Bool.not_eq_false', Bool.not_eq_eq_eq_not] at hc); (first | (cases hc) | (simp only [hc]) | skip))))
abbrev hexDigs : ByteArray := ⟨#[48, 49, 50, 51, 52, 53, 54, 55, 56, 57, 97, 98, 99, 100, 101, 102]⟩
def hexI (c : UInt8) : Int := Lib.indexByte hexDigs.data.toList c
theorem c_IndexHex (c : UInt8) : Pure Tryd.prog 153 [sv hexDigs, .lit (.int .u8 c.toNat)] (iv (hexI c)) := fun W X us hX hG hus hargs => by
  obtain rfl : us = #[.string hexDigs, .int .u8 c.toNat] := us_lits (l := [.string hexDigs, .int .u8 c.toNat]) hus hargs
  refine (Tryd.strings_IndexByte hexDigs (c.toNat : Int) W).mono fun e W' h => ?_
  obtain ⟨rfl, rfl⟩ := h
  refine ⟨_, rfl, Below.refl _ _, ?_⟩
  have : ((c.toNat : Int).toNat.toUInt8) = c := by simp
  rw [this]
  exact .dat _ _ (.lit _)
def byteL : List UInt8 → Option (Option UInt8 × Nat)
  | [] => none
  | c :: l => if c.toNat = 34 then some (none, 1) else if c.toNat < 32 ∨ 126 < c.toNat then none else if c.toNat ≠ 92 then some (some c, 1) else
    match l with
    | [] => none
    | d :: l => if d.toNat = 34 ∨ d.toNat = 92 then some (some d, 2) else if d.toNat ≠ 120 then none else
      match l with
      | a :: b :: _ => if hexI a < 0 ∨ hexI b < 0 ∨ (32 ≤ 16 * hexI a + hexI b ∧ 16 * hexI a + hexI b ≤ 126) then none else some (some (16 * hexI a + hexI b).toNat.toUInt8, 4)
      | _ => none
theorem hexI_bd (c : UInt8) : -1 ≤ hexI c ∧ hexI c ≤ 15 := by
  have h : ∀ n, n < 256 → (decide (-1 ≤ Lib.indexByte hexDigs.data.toList n.toUInt8) && decide (Lib.indexByte hexDigs.data.toList n.toUInt8 ≤ 15)) = true := by decide +kernel
  have := h c.toNat c.toNat_lt
  simpa [hexI] using this
def orN (a b : Int) : Int := IntKind.i64.wrap ((BitVec.ofInt 64 (IntKind.i64.wrap (a * 2 ^ 4)) ||| BitVec.ofInt 64 b).toNat : Nat)
theorem orN_eq (a b : Int) (ha : 0 ≤ a ∧ a ≤ 15) (hb : 0 ≤ b ∧ b ≤ 15) : orN a b = 16 * a + b := by
  have h : ∀ n : Nat, n < 16 → ∀ m : Nat, m < 16 → orN (n : Int) (m : Int) = 16 * (n : Int) + m := by decide +kernel
  have := h a.toNat (by omega) b.toNat (by omega)
  rwa [Int.toNat_of_nonneg ha.1, Int.toNat_of_nonneg hb.1] at this
theorem or_fold (x y : Int) : IntKind.i64.wrap ((BitVec.ofInt IntKind.i64.bits (IntKind.i64.wrap (x * 2 ^ min 4 64)) ||| BitVec.ofInt IntKind.i64.bits y).toNat : Nat) = orN x y := rfl
theorem wrap8 (z : Int) (h : 0 ≤ z ∧ z ≤ 255) : IntKind.u8.wrap z = ((z.toNat.toUInt8).toNat : Int) := by
  have h2 : ∀ n : Nat, n < 256 → IntKind.u8.wrap (n : Int) = ((n.toUInt8).toNat : Int) := by decide +kernel
  have := h2 z.toNat (by omega)
  rwa [Int.toNat_of_nonneg h.1] at this
theorem at0 (s : ByteArray) (k n : Nat) (h : k < s.size) (hn : 0 < n) (hk : k + n ≤ s.size) : (s.extract k (k + n))[0]? = some s[k] := by
  rw [getElem?_pos (s.extract k (k + n)) 0 (by simp; omega), ByteArray.getElem_extract]
  simp
theorem at1 (s : ByteArray) (k : Nat) (hk : k + 2 ≤ s.size) : (s.extract k (k + 2))[1]? = some s[k + 1] := by
  rw [getElem?_pos (s.extract k (k + 2)) 1 (by simp; omega), ByteArray.getElem_extract]
theorem drop_cons (s : ByteArray) (k : Nat) (h : k < s.size) : s.data.toList.drop k = s[k] :: s.data.toList.drop (k + 1) := by
  rw [List.drop_eq_getElem_cons (show k < s.data.toList.length by rw [Array.length_toList]; exact h)]
  congr 1
theorem drop_end (s : ByteArray) (k : Nat) (h : s.size ≤ k) : s.data.toList.drop k = [] := List.drop_of_length_le (by rw [Array.length_toList]; exact h)
theorem byte_q (c : UInt8) (l : List UInt8) (h : c.toNat = 34) : byteL (c :: l) = some (none, 1) := by simp only [byteL]; rw [if_pos h]
theorem byte_r (c : UInt8) (l : List UInt8) (h : c.toNat ≠ 34) (h2 : c.toNat < 32 ∨ 126 < c.toNat) : byteL (c :: l) = none := by simp only [byteL]; rw [if_neg h, if_pos h2]
theorem byte_p (c : UInt8) (l : List UInt8) (h : c.toNat ≠ 34) (h2 : ¬ (c.toNat < 32 ∨ 126 < c.toNat)) (h3 : c.toNat ≠ 92) : byteL (c :: l) = some (some c, 1) := by simp only [byteL]; rw [if_neg h, if_neg h2, if_pos h3]
theorem byte_e0 (c : UInt8) (h : c.toNat = 92) : byteL [c] = none := by simp [byteL, h]
theorem byte_e1 (c d : UInt8) (l : List UInt8) (h : c.toNat = 92) (hd : d.toNat = 34 ∨ d.toNat = 92) : byteL (c :: d :: l) = some (some d, 2) := by simp [byteL, h, hd]
theorem byte_e2 (c d : UInt8) (l : List UInt8) (h : c.toNat = 92) (hd : ¬ (d.toNat = 34 ∨ d.toNat = 92)) (hx : d.toNat ≠ 120) : byteL (c :: d :: l) = none := by simp [byteL, h, hd, hx]
theorem byte_e3 (c d : UInt8) (l : List UInt8) (h : c.toNat = 92) (hx : d.toNat = 120) (hl : l.length < 2) : byteL (c :: d :: l) = none := by
  match l, hl with
  | [], _ => simp [byteL, h, hx]
  | [a], _ => simp [byteL, h, hx]
theorem byte_e4 (c d a b : UInt8) (l : List UInt8) (h : c.toNat = 92) (hx : d.toNat = 120) (hb : hexI a < 0 ∨ hexI b < 0 ∨ (32 ≤ 16 * hexI a + hexI b ∧ 16 * hexI a + hexI b ≤ 126)) : byteL (c :: d :: a :: b :: l) = none := by
  simp only [byteL, h, hx]; simp [hb]
theorem byte_e5 (c d a b : UInt8) (l : List UInt8) (h : c.toNat = 92) (hx : d.toNat = 120) (hb : ¬ (hexI a < 0 ∨ hexI b < 0 ∨ (32 ≤ 16 * hexI a + hexI b ∧ 16 * hexI a + hexI b ≤ 126))) : byteL (c :: d :: a :: b :: l) = some (some (16 * hexI a + hexI b).toNat.toUInt8, 4) := by
  simp only [byteL, h, hx]; rw [if_neg hb]; simp
def byteC (s : ByteArray) (k : Nat) (r : Option (Option UInt8 × Nat)) : Prop := match r with
  | some (some c, n) => Acts Tryd.prog 137 [.ptr 1001 0 0 0] (rdB s k) (.tup [.lit (.int .u8 c.toNat), bv true]) (rdB s (k + n))
  | some (none, n) => Acts Tryd.prog 137 [.ptr 1001 0 0 0] (rdB s k) (.tup [.lit (.int .u8 0), bv false]) (rdB s (k + n))
  | none => Pans Tryd.prog 137 [.ptr 1001 0 0 0] (rdB s k) (errV 11)
theorem beq_t {a b : Int} (h : a = b) : (a == b) = true := by rw [beq_iff_eq]; exact h
theorem beq_f {a b : Int} (h : a ≠ b) : (a == b) = false := by rw [beq_eq_false_iff_ne]; exact h
theorem c_byte (s : ByteArray) (k : Nat) (hk : k ≤ s.size) (hs : s.size ≤ 1000000) : byteC s k (byteL (s.data.toList.drop k)) := by
  by_cases h0 : k < s.size
  · rw [drop_cons s k h0]
    have n1 := c_needOk s k 1 (by omega) hs
    have a1 := at0 s k 1 h0 (by omega) (by omega)
    have hc := (s[k]).toNat_lt
    generalize hcc : s[k] = c at *
    by_cases e1 : c.toNat = 34
    · rw [byte_q _ _ e1]
      have q1 := beq_t (show (c.toNat : Int) = 34 by omega)
      show Acts _ _ _ _ _ _
      refine acts_of_awp ([(1001, 1001)]) Tryd.func137 rfl rfl (by simp [Tryd.f137]) ?_; simp only [go_sem, ↓reduceIte, Nat.reduceEqDiff, Nat.reduceAdd, Nat.reduceLeDiff, Nat.reduceBEq, Nat.reduceMul, reduceCtorEq, Int.reduceLE, Int.reduceLT, Int.reduceAdd, Int.reduceSub, Int.reduceNeg, Int.reduceToNat, Int.reduceBEq]
      repeat' (first | refine awp_seq ?_ | refine awp_block ?_ | refine awp_round ?_ | refine awp_scope ?_ | refine awp_text rfl ?_ | refine awp_any rfl mix (by kernel_rfl) ?_ | (refine RunTo.unguard rfl rfl (fun hg => ?_) (fun hg => ?_) <;> ((try simp only [Bool.not_true, Bool.not_false, Bool.not_eq_true', Bool.not_eq_false', Bool.not_eq_eq_eq_not] at hg); (first | (cases hg) | (simp only [hg]) | skip))) | ((first | refine RunTo.plain rfl ?_ | refine RunTo.skipped rfl ?_); simp only [go_sem, ↓reduceIte, Nat.reduceEqDiff, Nat.reduceAdd, Nat.reduceLeDiff, Nat.reduceBEq, Nat.reduceMul, reduceCtorEq, Int.reduceLE, Int.reduceLT, Int.reduceAdd, Int.reduceSub, Int.reduceNeg, Int.reduceToNat, Int.reduceBEq, rdB, a1, q1]) | (refine RunTo.actsE (n1) Tryd.func99 rfl rfl rfl rfl rfl rfl ?_; simp only [go_sem, ↓reduceIte, Nat.reduceEqDiff, Nat.reduceAdd, Nat.reduceLeDiff, Nat.reduceBEq, Nat.reduceMul, reduceCtorEq, Int.reduceLE, Int.reduceLT, Int.reduceAdd, Int.reduceSub, Int.reduceNeg, Int.reduceToNat, Int.reduceBEq, rdB, a1, q1]; (repeat' refine And.intro rfl ?_); with_reducible refine RunTo.this ?_) | ((first | refine RunTo.nilA (by kernel_rfl) ?_ | refine RunTo.nilT ?_ | refine awp_skip ?_ | refine awp_exit ?_ | refine awp_label ?_); simp only [go_sem, ↓reduceIte, Nat.reduceEqDiff, Nat.reduceAdd, Nat.reduceLeDiff, Nat.reduceBEq, Nat.reduceMul, reduceCtorEq, Int.reduceLE, Int.reduceLT, Int.reduceAdd, Int.reduceSub, Int.reduceNeg, Int.reduceToNat, Int.reduceBEq, rdB, a1, q1]) | (refine awp_cond' rfl (of_decide_eq_true rfl) (fun hc => ?_) (fun hc => ?_) <;> ((try simp only [Bool.not_true, Bool.not_false, Bool.not_eq_true', Bool.not_eq_false', Bool.not_eq_eq_eq_not] at hc); (first | (cases hc) | (simp only [hc]) | skip))))
      all_goals
        (first | refine awp_ret ?_ | skip); refine ⟨(by first | exact .inl rfl | exact .inr rfl | exact .inr trivial | trivial), _, rfl, rfl, rfl, ?_, ?_⟩ <;> (try simp only [go_sem, ↓reduceIte, Nat.reduceEqDiff, Nat.reduceAdd, Nat.reduceLeDiff, Nat.reduceBEq, Nat.reduceMul, reduceCtorEq, Int.reduceLE, Int.reduceLT, Int.reduceAdd, Int.reduceSub, Int.reduceNeg, Int.reduceToNat, Int.reduceBEq, rdB])
    · have q1 := beq_f (show (c.toNat : Int) ≠ 34 by omega)
      by_cases e2 : c.toNat < 32 ∨ 126 < c.toNat
      · rw [byte_r _ _ e1 e2]
        show Pans _ _ _ _ _
        refine pans_of_awp Tryd.func137 rfl (by simp [Tryd.f137]) ?_; simp only [go_sem, ↓reduceIte, Nat.reduceEqDiff, Nat.reduceAdd, Nat.reduceLeDiff, Nat.reduceBEq, Nat.reduceMul, reduceCtorEq, Int.reduceLE, Int.reduceLT, Int.reduceAdd, Int.reduceSub, Int.reduceNeg, Int.reduceToNat, Int.reduceBEq]
        repeat' (first | refine awp_seq ?_ | refine awp_block ?_ | refine awp_round ?_ | refine awp_scope ?_ | refine awp_text rfl ?_ | refine awp_any rfl mix (by kernel_rfl) ?_ | (refine RunTo.panic rfl rfl rfl ?_; simp only [go_sem, ↓reduceIte, Nat.reduceEqDiff, Nat.reduceAdd, Nat.reduceLeDiff, Nat.reduceBEq, Nat.reduceMul, reduceCtorEq, Int.reduceLE, Int.reduceLT, Int.reduceAdd, Int.reduceSub, Int.reduceNeg, Int.reduceToNat, Int.reduceBEq, rdB, a1, q1]) | (refine RunTo.unguard rfl rfl (fun hg => ?_) (fun hg => ?_) <;> ((try simp only [Bool.not_true, Bool.not_false, Bool.not_eq_true', Bool.not_eq_false', Bool.not_eq_eq_eq_not] at hg); (first | (cases hg) | (simp only [hg]) | skip))) | ((first | refine RunTo.plain rfl ?_ | refine RunTo.skipped rfl ?_); simp only [go_sem, ↓reduceIte, Nat.reduceEqDiff, Nat.reduceAdd, Nat.reduceLeDiff, Nat.reduceBEq, Nat.reduceMul, reduceCtorEq, Int.reduceLE, Int.reduceLT, Int.reduceAdd, Int.reduceSub, Int.reduceNeg, Int.reduceToNat, Int.reduceBEq, rdB, a1, q1]) | (refine RunTo.actsE (n1) Tryd.func99 rfl rfl rfl rfl rfl rfl ?_; simp only [go_sem, ↓reduceIte, Nat.reduceEqDiff, Nat.reduceAdd, Nat.reduceLeDiff, Nat.reduceBEq, Nat.reduceMul, reduceCtorEq, Int.reduceLE, Int.reduceLT, Int.reduceAdd, Int.reduceSub, Int.reduceNeg, Int.reduceToNat, Int.reduceBEq, rdB, a1, q1]; (repeat' refine And.intro rfl ?_); with_reducible refine RunTo.this ?_) | ((first | refine RunTo.nilA (by kernel_rfl) ?_ | refine RunTo.nilT ?_ | refine awp_skip ?_ | refine awp_exit ?_ | refine awp_label ?_); simp only [go_sem, ↓reduceIte, Nat.reduceEqDiff, Nat.reduceAdd, Nat.reduceLeDiff, Nat.reduceBEq, Nat.reduceMul, reduceCtorEq, Int.reduceLE, Int.reduceLT, Int.reduceAdd, Int.reduceSub, Int.reduceNeg, Int.reduceToNat, Int.reduceBEq, rdB, a1, q1]) | (refine awp_cond' rfl (of_decide_eq_true rfl) (fun hc => ?_) (fun hc => ?_) <;> ((try simp only [Bool.not_true, Bool.not_false, Bool.not_eq_true', Bool.not_eq_false', Bool.not_eq_eq_eq_not] at hc); (first | (cases hc) | (simp only [hc]) | skip))))
        all_goals (exfalso; (try simp only [decide_eq_true_eq, decide_eq_false_iff_not, beq_iff_eq, bne_iff_ne, ne_eq, beq_eq_false_iff_ne, bne_eq_false_iff_eq, Bool.and_eq_true, Bool.or_eq_true, Bool.or_eq_false_iff, Bool.and_eq_false_iff] at *); omega)
      · have q2 : decide ((c.toNat : Int) < 32) = false := decide_eq_false (by omega)
        have q3 : decide ((126 : Int) < (c.toNat : Int)) = false := decide_eq_false (by omega)
        by_cases e3 : c.toNat = 92
        · have q4 := beq_t (show (c.toNat : Int) = 92 by omega)
          by_cases h1 : k + 1 < s.size
          · rw [drop_cons s (k + 1) h1]
            have n2 := c_needOk s (k + 1) 1 (by omega) hs
            have a2 := at0 s (k + 1) 1 h1 (by omega) (by omega)
            have hd := (s[k + 1]).toNat_lt
            generalize hdd : s[k + 1] = d at *
            by_cases e4 : d.toNat = 34 ∨ d.toNat = 92
            · rw [byte_e1 _ _ _ e3 e4]
              show Acts _ _ _ _ _ _
              by_cases e5 : d.toNat = 34
              · have q5 := beq_t (show (d.toNat : Int) = 34 by omega)
                refine acts_of_awp ([(1001, 1001)]) Tryd.func137 rfl rfl (by simp [Tryd.f137]) ?_; simp only [go_sem, ↓reduceIte, Nat.reduceEqDiff, Nat.reduceAdd, Nat.reduceLeDiff, Nat.reduceBEq, Nat.reduceMul, reduceCtorEq, Int.reduceLE, Int.reduceLT, Int.reduceAdd, Int.reduceSub, Int.reduceNeg, Int.reduceToNat, Int.reduceBEq]
                repeat' (first | refine awp_seq ?_ | refine awp_block ?_ | refine awp_round ?_ | refine awp_scope ?_ | refine awp_text rfl ?_ | refine awp_any rfl mix (by kernel_rfl) ?_ | (refine RunTo.unguard rfl rfl (fun hg => ?_) (fun hg => ?_) <;> ((try simp only [Bool.not_true, Bool.not_false, Bool.not_eq_true', Bool.not_eq_false', Bool.not_eq_eq_eq_not] at hg); (first | (cases hg) | (simp only [hg]) | skip))) | ((first | refine RunTo.plain rfl ?_ | refine RunTo.skipped rfl ?_); simp only [go_sem, ↓reduceIte, Nat.reduceEqDiff, Nat.reduceAdd, Nat.reduceLeDiff, Nat.reduceBEq, Nat.reduceMul, reduceCtorEq, Int.reduceLE, Int.reduceLT, Int.reduceAdd, Int.reduceSub, Int.reduceNeg, Int.reduceToNat, Int.reduceBEq, rdB, bne, Bool.not_true, Bool.not_false, a1, a2, q1, q2, q3, q4, q5]) | (refine RunTo.actsE (n1) Tryd.func99 rfl rfl rfl rfl rfl rfl ?_; simp only [go_sem, ↓reduceIte, Nat.reduceEqDiff, Nat.reduceAdd, Nat.reduceLeDiff, Nat.reduceBEq, Nat.reduceMul, reduceCtorEq, Int.reduceLE, Int.reduceLT, Int.reduceAdd, Int.reduceSub, Int.reduceNeg, Int.reduceToNat, Int.reduceBEq, rdB, bne, Bool.not_true, Bool.not_false, a1, a2, q1, q2, q3, q4, q5]; (repeat' refine And.intro rfl ?_); with_reducible refine RunTo.this ?_) | (refine RunTo.actsE (n2) Tryd.func99 rfl rfl rfl rfl rfl rfl ?_; simp only [go_sem, ↓reduceIte, Nat.reduceEqDiff, Nat.reduceAdd, Nat.reduceLeDiff, Nat.reduceBEq, Nat.reduceMul, reduceCtorEq, Int.reduceLE, Int.reduceLT, Int.reduceAdd, Int.reduceSub, Int.reduceNeg, Int.reduceToNat, Int.reduceBEq, rdB, bne, Bool.not_true, Bool.not_false, a1, a2, q1, q2, q3, q4, q5]; (repeat' refine And.intro rfl ?_); with_reducible refine RunTo.this ?_) | ((first | refine RunTo.nilA (by kernel_rfl) ?_ | refine RunTo.nilT ?_ | refine awp_skip ?_ | refine awp_exit ?_ | refine awp_label ?_); simp only [go_sem, ↓reduceIte, Nat.reduceEqDiff, Nat.reduceAdd, Nat.reduceLeDiff, Nat.reduceBEq, Nat.reduceMul, reduceCtorEq, Int.reduceLE, Int.reduceLT, Int.reduceAdd, Int.reduceSub, Int.reduceNeg, Int.reduceToNat, Int.reduceBEq, rdB, bne, Bool.not_true, Bool.not_false, a1, a2, q1, q2, q3, q4, q5]) | (refine awp_cond' rfl (of_decide_eq_true rfl) (fun hc => ?_) (fun hc => ?_) <;> ((try simp only [Bool.not_true, Bool.not_false, Bool.not_eq_true', Bool.not_eq_false', Bool.not_eq_eq_eq_not] at hc); (first | (cases hc) | (simp only [hc]) | skip))))
                all_goals
                  (first | refine awp_ret ?_ | skip); refine ⟨(by first | exact .inl rfl | exact .inr rfl | exact .inr trivial | trivial), _, rfl, rfl, rfl, ?_, ?_⟩ <;> (try simp only [go_sem, ↓reduceIte, Nat.reduceEqDiff, Nat.reduceAdd, Nat.reduceLeDiff, Nat.reduceBEq, Nat.reduceMul, reduceCtorEq, Int.reduceLE, Int.reduceLT, Int.reduceAdd, Int.reduceSub, Int.reduceNeg, Int.reduceToNat, Int.reduceBEq, rdB])
              · have q5 := beq_f (show (d.toNat : Int) ≠ 34 by omega)
                have q6 := beq_t (show (d.toNat : Int) = 92 by omega)
                refine acts_of_awp ([(1001, 1001)]) Tryd.func137 rfl rfl (by simp [Tryd.f137]) ?_; simp only [go_sem, ↓reduceIte, Nat.reduceEqDiff, Nat.reduceAdd, Nat.reduceLeDiff, Nat.reduceBEq, Nat.reduceMul, reduceCtorEq, Int.reduceLE, Int.reduceLT, Int.reduceAdd, Int.reduceSub, Int.reduceNeg, Int.reduceToNat, Int.reduceBEq]
                repeat' (first | refine awp_seq ?_ | refine awp_block ?_ | refine awp_round ?_ | refine awp_scope ?_ | refine awp_text rfl ?_ | refine awp_any rfl mix (by kernel_rfl) ?_ | (refine RunTo.unguard rfl rfl (fun hg => ?_) (fun hg => ?_) <;> ((try simp only [Bool.not_true, Bool.not_false, Bool.not_eq_true', Bool.not_eq_false', Bool.not_eq_eq_eq_not] at hg); (first | (cases hg) | (simp only [hg]) | skip))) | ((first | refine RunTo.plain rfl ?_ | refine RunTo.skipped rfl ?_); simp only [go_sem, ↓reduceIte, Nat.reduceEqDiff, Nat.reduceAdd, Nat.reduceLeDiff, Nat.reduceBEq, Nat.reduceMul, reduceCtorEq, Int.reduceLE, Int.reduceLT, Int.reduceAdd, Int.reduceSub, Int.reduceNeg, Int.reduceToNat, Int.reduceBEq, rdB, bne, Bool.not_true, Bool.not_false, a1, a2, q1, q2, q3, q4, q5, q6]) | (refine RunTo.actsE (n1) Tryd.func99 rfl rfl rfl rfl rfl rfl ?_; simp only [go_sem, ↓reduceIte, Nat.reduceEqDiff, Nat.reduceAdd, Nat.reduceLeDiff, Nat.reduceBEq, Nat.reduceMul, reduceCtorEq, Int.reduceLE, Int.reduceLT, Int.reduceAdd, Int.reduceSub, Int.reduceNeg, Int.reduceToNat, Int.reduceBEq, rdB, bne, Bool.not_true, Bool.not_false, a1, a2, q1, q2, q3, q4, q5, q6]; (repeat' refine And.intro rfl ?_); with_reducible refine RunTo.this ?_) | (refine RunTo.actsE (n2) Tryd.func99 rfl rfl rfl rfl rfl rfl ?_; simp only [go_sem, ↓reduceIte, Nat.reduceEqDiff, Nat.reduceAdd, Nat.reduceLeDiff, Nat.reduceBEq, Nat.reduceMul, reduceCtorEq, Int.reduceLE, Int.reduceLT, Int.reduceAdd, Int.reduceSub, Int.reduceNeg, Int.reduceToNat, Int.reduceBEq, rdB, bne, Bool.not_true, Bool.not_false, a1, a2, q1, q2, q3, q4, q5, q6]; (repeat' refine And.intro rfl ?_); with_reducible refine RunTo.this ?_) | ((first | refine RunTo.nilA (by kernel_rfl) ?_ | refine RunTo.nilT ?_ | refine awp_skip ?_ | refine awp_exit ?_ | refine awp_label ?_); simp only [go_sem, ↓reduceIte, Nat.reduceEqDiff, Nat.reduceAdd, Nat.reduceLeDiff, Nat.reduceBEq, Nat.reduceMul, reduceCtorEq, Int.reduceLE, Int.reduceLT, Int.reduceAdd, Int.reduceSub, Int.reduceNeg, Int.reduceToNat, Int.reduceBEq, rdB, bne, Bool.not_true, Bool.not_false, a1, a2, q1, q2, q3, q4, q5, q6]) | (refine awp_cond' rfl (of_decide_eq_true rfl) (fun hc => ?_) (fun hc => ?_) <;> ((try simp only [Bool.not_true, Bool.not_false, Bool.not_eq_true', Bool.not_eq_false', Bool.not_eq_eq_eq_not] at hc); (first | (cases hc) | (simp only [hc]) | skip))))
                all_goals
                  (first | refine awp_ret ?_ | skip); refine ⟨(by first | exact .inl rfl | exact .inr rfl | exact .inr trivial | trivial), _, rfl, rfl, rfl, ?_, ?_⟩ <;> (try simp only [go_sem, ↓reduceIte, Nat.reduceEqDiff, Nat.reduceAdd, Nat.reduceLeDiff, Nat.reduceBEq, Nat.reduceMul, reduceCtorEq, Int.reduceLE, Int.reduceLT, Int.reduceAdd, Int.reduceSub, Int.reduceNeg, Int.reduceToNat, Int.reduceBEq, rdB])
            · have q5 := beq_f (show (d.toNat : Int) ≠ 34 by omega)
              have q6 := beq_f (show (d.toNat : Int) ≠ 92 by omega)
              by_cases e6 : d.toNat = 120
              · have q7 := beq_t (show (d.toNat : Int) = 120 by omega)
                by_cases h2 : k + 4 ≤ s.size
                · have h2a : k + 2 < s.size := by omega
                  have h2b : k + 3 < s.size := by omega
                  rw [drop_cons s (k + 1 + 1) h2a, drop_cons s (k + 1 + 1 + 1) h2b]
                  have n3 := c_needOk s (k + 1 + 1) 2 (by omega) hs
                  have a3 := at0 s (k + 1 + 1) 2 h2a (by omega) (by omega)
                  have a4 := at1 s (k + 1 + 1) (by omega)
                  generalize s[k + 1 + 1] = a at *
                  generalize s[k + 1 + 1 + 1] = b at *
                  have i1 := c_IndexHex a
                  have i2 := c_IndexHex b
                  have b1 := hexI_bd a
                  have b2 := hexI_bd b
                  by_cases e7 : hexI a < 0 ∨ hexI b < 0 ∨ (32 ≤ 16 * hexI a + hexI b ∧ 16 * hexI a + hexI b ≤ 126)
                  · rw [byte_e4 _ _ _ _ _ e3 e6 e7]
                    show Pans _ _ _ _ _
                    generalize hexI a = x at *
                    generalize hexI b = y at *
                    have ho : 0 ≤ x → 0 ≤ y → orN x y = 16 * x + y := fun h1 h2 => orN_eq x y ⟨h1, b1.2⟩ ⟨h2, b2.2⟩
                    have zf := or_fold x y
                    generalize orN x y = z at *
                    refine pans_of_awp Tryd.func137 rfl (by simp [Tryd.f137]) ?_; simp only [go_sem, ↓reduceIte, Nat.reduceEqDiff, Nat.reduceAdd, Nat.reduceLeDiff, Nat.reduceBEq, Nat.reduceMul, reduceCtorEq, Int.reduceLE, Int.reduceLT, Int.reduceAdd, Int.reduceSub, Int.reduceNeg, Int.reduceToNat, Int.reduceBEq]
                    repeat' (first | refine awp_seq ?_ | refine awp_block ?_ | refine awp_round ?_ | refine awp_scope ?_ | refine awp_text rfl ?_ | refine awp_any rfl mix (by kernel_rfl) ?_ | (refine RunTo.panic rfl rfl rfl ?_; simp only [go_sem, ↓reduceIte, Nat.reduceEqDiff, Nat.reduceAdd, Nat.reduceLeDiff, Nat.reduceBEq, Nat.reduceMul, reduceCtorEq, Int.reduceLE, Int.reduceLT, Int.reduceAdd, Int.reduceSub, Int.reduceNeg, Int.reduceToNat, Int.reduceBEq, rdB, bne, Bool.not_true, Bool.not_false, a1, a2, a3, a4, q1, q2, q3, q4, q5, q6, q7, ↓zf]) | (refine RunTo.unguard rfl rfl (fun hg => ?_) (fun hg => ?_) <;> ((try simp only [Bool.not_true, Bool.not_false, Bool.not_eq_true', Bool.not_eq_false', Bool.not_eq_eq_eq_not] at hg); (first | (cases hg) | (simp only [hg]) | skip))) | ((first | refine RunTo.plain rfl ?_ | refine RunTo.skipped rfl ?_ | refine RunTo.call (i1) Tryd.func153 rfl rfl rfl rfl rfl rfl rfl rfl ?_ | refine RunTo.call (i2) Tryd.func153 rfl rfl rfl rfl rfl rfl rfl rfl ?_); simp only [go_sem, ↓reduceIte, Nat.reduceEqDiff, Nat.reduceAdd, Nat.reduceLeDiff, Nat.reduceBEq, Nat.reduceMul, reduceCtorEq, Int.reduceLE, Int.reduceLT, Int.reduceAdd, Int.reduceSub, Int.reduceNeg, Int.reduceToNat, Int.reduceBEq, rdB, bne, Bool.not_true, Bool.not_false, a1, a2, a3, a4, q1, q2, q3, q4, q5, q6, q7, ↓zf]) | (refine RunTo.actsE (n1) Tryd.func99 rfl rfl rfl rfl rfl rfl ?_; simp only [go_sem, ↓reduceIte, Nat.reduceEqDiff, Nat.reduceAdd, Nat.reduceLeDiff, Nat.reduceBEq, Nat.reduceMul, reduceCtorEq, Int.reduceLE, Int.reduceLT, Int.reduceAdd, Int.reduceSub, Int.reduceNeg, Int.reduceToNat, Int.reduceBEq, rdB, bne, Bool.not_true, Bool.not_false, a1, a2, a3, a4, q1, q2, q3, q4, q5, q6, q7, ↓zf]; (repeat' refine And.intro rfl ?_); with_reducible refine RunTo.this ?_) | (refine RunTo.actsE (n2) Tryd.func99 rfl rfl rfl rfl rfl rfl ?_; simp only [go_sem, ↓reduceIte, Nat.reduceEqDiff, Nat.reduceAdd, Nat.reduceLeDiff, Nat.reduceBEq, Nat.reduceMul, reduceCtorEq, Int.reduceLE, Int.reduceLT, Int.reduceAdd, Int.reduceSub, Int.reduceNeg, Int.reduceToNat, Int.reduceBEq, rdB, bne, Bool.not_true, Bool.not_false, a1, a2, a3, a4, q1, q2, q3, q4, q5, q6, q7, ↓zf]; (repeat' refine And.intro rfl ?_); with_reducible refine RunTo.this ?_) | (refine RunTo.actsE (n3) Tryd.func99 rfl rfl rfl rfl rfl rfl ?_; simp only [go_sem, ↓reduceIte, Nat.reduceEqDiff, Nat.reduceAdd, Nat.reduceLeDiff, Nat.reduceBEq, Nat.reduceMul, reduceCtorEq, Int.reduceLE, Int.reduceLT, Int.reduceAdd, Int.reduceSub, Int.reduceNeg, Int.reduceToNat, Int.reduceBEq, rdB, bne, Bool.not_true, Bool.not_false, a1, a2, a3, a4, q1, q2, q3, q4, q5, q6, q7, ↓zf]; (repeat' refine And.intro rfl ?_); with_reducible refine RunTo.this ?_) | ((first | refine RunTo.nilA (by kernel_rfl) ?_ | refine RunTo.nilT ?_ | refine awp_skip ?_ | refine awp_exit ?_ | refine awp_label ?_); simp only [go_sem, ↓reduceIte, Nat.reduceEqDiff, Nat.reduceAdd, Nat.reduceLeDiff, Nat.reduceBEq, Nat.reduceMul, reduceCtorEq, Int.reduceLE, Int.reduceLT, Int.reduceAdd, Int.reduceSub, Int.reduceNeg, Int.reduceToNat, Int.reduceBEq, rdB, bne, Bool.not_true, Bool.not_false, a1, a2, a3, a4, q1, q2, q3, q4, q5, q6, q7, ↓zf]) | (refine awp_cond' rfl (of_decide_eq_true rfl) (fun hc => ?_) (fun hc => ?_) <;> ((try simp only [Bool.not_true, Bool.not_false, Bool.not_eq_true', Bool.not_eq_false', Bool.not_eq_eq_eq_not] at hc); (first | (cases hc) | (simp only [hc]) | skip))))
                    all_goals (exfalso; (try simp only [decide_eq_true_eq, decide_eq_false_iff_not, beq_iff_eq, bne_iff_ne, ne_eq, beq_eq_false_iff_ne, bne_eq_false_iff_eq, Bool.and_eq_true, Bool.or_eq_true, Bool.or_eq_false_iff, Bool.and_eq_false_iff] at *); have := ho (by omega) (by omega); omega)
                  · rw [byte_e5 _ _ _ _ _ e3 e6 e7]
                    show Acts _ _ _ _ _ _
                    have ho : orN (hexI a) (hexI b) = 16 * hexI a + hexI b := orN_eq _ _ (by omega) (by omega)
                    have hw8 := wrap8 (16 * hexI a + hexI b) (by omega)
                    rw [← hw8, ← ho]
                    have x1 : decide (hexI a < 0) = false := decide_eq_false (by omega)
                    have x2 : decide (hexI b < 0) = false := decide_eq_false (by omega)
                    have hz : ¬ (32 ≤ orN (hexI a) (hexI b) ∧ orN (hexI a) (hexI b) ≤ 126) := by rw [ho]; omega
                    generalize hexI a = x at *
                    generalize hexI b = y at *
                    refine acts_of_awp ([(1001, 1001)]) Tryd.func137 rfl rfl (by simp [Tryd.f137]) ?_; simp only [go_sem, ↓reduceIte, Nat.reduceEqDiff, Nat.reduceAdd, Nat.reduceLeDiff, Nat.reduceBEq, Nat.reduceMul, reduceCtorEq, Int.reduceLE, Int.reduceLT, Int.reduceAdd, Int.reduceSub, Int.reduceNeg, Int.reduceToNat, Int.reduceBEq]
                    repeat' (first | refine awp_seq ?_ | refine awp_block ?_ | refine awp_round ?_ | refine awp_scope ?_ | refine awp_text rfl ?_ | refine awp_any rfl mix (by kernel_rfl) ?_ | (refine RunTo.unguard rfl rfl (fun hg => ?_) (fun hg => ?_) <;> ((try simp only [Bool.not_true, Bool.not_false, Bool.not_eq_true', Bool.not_eq_false', Bool.not_eq_eq_eq_not] at hg); (first | (cases hg) | (simp only [hg]) | skip))) | ((first | refine RunTo.plain rfl ?_ | refine RunTo.skipped rfl ?_ | refine RunTo.call (i1) Tryd.func153 rfl rfl rfl rfl rfl rfl rfl rfl ?_ | refine RunTo.call (i2) Tryd.func153 rfl rfl rfl rfl rfl rfl rfl rfl ?_); simp only [go_sem, ↓reduceIte, Nat.reduceEqDiff, Nat.reduceAdd, Nat.reduceLeDiff, Nat.reduceBEq, Nat.reduceMul, reduceCtorEq, Int.reduceLE, Int.reduceLT, Int.reduceAdd, Int.reduceSub, Int.reduceNeg, Int.reduceToNat, Int.reduceBEq, rdB, bne, Bool.not_true, Bool.not_false, a1, a2, a3, a4, q1, q2, q3, q4, q5, q6, q7, ↓or_fold, x1, x2]) | (refine RunTo.actsE (n1) Tryd.func99 rfl rfl rfl rfl rfl rfl ?_; simp only [go_sem, ↓reduceIte, Nat.reduceEqDiff, Nat.reduceAdd, Nat.reduceLeDiff, Nat.reduceBEq, Nat.reduceMul, reduceCtorEq, Int.reduceLE, Int.reduceLT, Int.reduceAdd, Int.reduceSub, Int.reduceNeg, Int.reduceToNat, Int.reduceBEq, rdB, bne, Bool.not_true, Bool.not_false, a1, a2, a3, a4, q1, q2, q3, q4, q5, q6, q7, ↓or_fold, x1, x2]; (repeat' refine And.intro rfl ?_); with_reducible refine RunTo.this ?_) | (refine RunTo.actsE (n2) Tryd.func99 rfl rfl rfl rfl rfl rfl ?_; simp only [go_sem, ↓reduceIte, Nat.reduceEqDiff, Nat.reduceAdd, Nat.reduceLeDiff, Nat.reduceBEq, Nat.reduceMul, reduceCtorEq, Int.reduceLE, Int.reduceLT, Int.reduceAdd, Int.reduceSub, Int.reduceNeg, Int.reduceToNat, Int.reduceBEq, rdB, bne, Bool.not_true, Bool.not_false, a1, a2, a3, a4, q1, q2, q3, q4, q5, q6, q7, ↓or_fold, x1, x2]; (repeat' refine And.intro rfl ?_); with_reducible refine RunTo.this ?_) | (refine RunTo.actsE (n3) Tryd.func99 rfl rfl rfl rfl rfl rfl ?_; simp only [go_sem, ↓reduceIte, Nat.reduceEqDiff, Nat.reduceAdd, Nat.reduceLeDiff, Nat.reduceBEq, Nat.reduceMul, reduceCtorEq, Int.reduceLE, Int.reduceLT, Int.reduceAdd, Int.reduceSub, Int.reduceNeg, Int.reduceToNat, Int.reduceBEq, rdB, bne, Bool.not_true, Bool.not_false, a1, a2, a3, a4, q1, q2, q3, q4, q5, q6, q7, ↓or_fold, x1, x2]; (repeat' refine And.intro rfl ?_); with_reducible refine RunTo.this ?_) | ((first | refine RunTo.nilA (by kernel_rfl) ?_ | refine RunTo.nilT ?_ | refine awp_skip ?_ | refine awp_exit ?_ | refine awp_label ?_); simp only [go_sem, ↓reduceIte, Nat.reduceEqDiff, Nat.reduceAdd, Nat.reduceLeDiff, Nat.reduceBEq, Nat.reduceMul, reduceCtorEq, Int.reduceLE, Int.reduceLT, Int.reduceAdd, Int.reduceSub, Int.reduceNeg, Int.reduceToNat, Int.reduceBEq, rdB, bne, Bool.not_true, Bool.not_false, a1, a2, a3, a4, q1, q2, q3, q4, q5, q6, q7, ↓or_fold, x1, x2]) | (refine awp_cond' rfl (of_decide_eq_true rfl) (fun hc => ?_) (fun hc => ?_) <;> ((try simp only [Bool.not_true, Bool.not_false, Bool.not_eq_true', Bool.not_eq_false', Bool.not_eq_eq_eq_not] at hc); (first | (cases hc) | (simp only [hc]) | skip))))
                    all_goals first
                      | (exfalso; (try simp only [decide_eq_true_eq, decide_eq_false_iff_not, beq_iff_eq, bne_iff_ne, ne_eq, beq_eq_false_iff_ne, bne_eq_false_iff_eq, Bool.and_eq_true, Bool.or_eq_true, Bool.or_eq_false_iff, Bool.and_eq_false_iff] at *); omega)
                      | skip
                    all_goals
                      (first | refine awp_ret ?_ | skip); refine ⟨(by first | exact .inl rfl | exact .inr rfl | exact .inr trivial | trivial), _, rfl, rfl, rfl, ?_, ?_⟩ <;> (try simp only [go_sem, ↓reduceIte, Nat.reduceEqDiff, Nat.reduceAdd, Nat.reduceLeDiff, Nat.reduceBEq, Nat.reduceMul, reduceCtorEq, Int.reduceLE, Int.reduceLT, Int.reduceAdd, Int.reduceSub, Int.reduceNeg, Int.reduceToNat, Int.reduceBEq, rdB])
                    all_goals trace_state
                · have n3 := c_needBad s (k + 1 + 1) 2 (by omega) (by omega) hs
                  rw [byte_e3 _ _ _ e3 e6 (by rw [List.length_drop, Array.length_toList]; show s.size - _ < 2; omega)]
                  show Pans _ _ _ _ _
                  refine pans_of_awp Tryd.func137 rfl (by simp [Tryd.f137]) ?_; simp only [go_sem, ↓reduceIte, Nat.reduceEqDiff, Nat.reduceAdd, Nat.reduceLeDiff, Nat.reduceBEq, Nat.reduceMul, reduceCtorEq, Int.reduceLE, Int.reduceLT, Int.reduceAdd, Int.reduceSub, Int.reduceNeg, Int.reduceToNat, Int.reduceBEq]
                  repeat' (first | refine awp_seq ?_ | refine awp_block ?_ | refine awp_round ?_ | refine awp_scope ?_ | refine awp_text rfl ?_ | refine awp_any rfl mix (by kernel_rfl) ?_ | (refine RunTo.unguard rfl rfl (fun hg => ?_) (fun hg => ?_) <;> ((try simp only [Bool.not_true, Bool.not_false, Bool.not_eq_true', Bool.not_eq_false', Bool.not_eq_eq_eq_not] at hg); (first | (cases hg) | (simp only [hg]) | skip))) | ((first | refine RunTo.plain rfl ?_ | refine RunTo.skipped rfl ?_); simp only [go_sem, ↓reduceIte, Nat.reduceEqDiff, Nat.reduceAdd, Nat.reduceLeDiff, Nat.reduceBEq, Nat.reduceMul, reduceCtorEq, Int.reduceLE, Int.reduceLT, Int.reduceAdd, Int.reduceSub, Int.reduceNeg, Int.reduceToNat, Int.reduceBEq, rdB, bne, Bool.not_true, Bool.not_false, a1, a2, q1, q2, q3, q4, q5, q6, q7]) | (refine RunTo.actsE (n1) Tryd.func99 rfl rfl rfl rfl rfl rfl ?_; simp only [go_sem, ↓reduceIte, Nat.reduceEqDiff, Nat.reduceAdd, Nat.reduceLeDiff, Nat.reduceBEq, Nat.reduceMul, reduceCtorEq, Int.reduceLE, Int.reduceLT, Int.reduceAdd, Int.reduceSub, Int.reduceNeg, Int.reduceToNat, Int.reduceBEq, rdB, bne, Bool.not_true, Bool.not_false, a1, a2, q1, q2, q3, q4, q5, q6, q7]; (repeat' refine And.intro rfl ?_); with_reducible refine RunTo.this ?_) | (refine RunTo.actsE (n2) Tryd.func99 rfl rfl rfl rfl rfl rfl ?_; simp only [go_sem, ↓reduceIte, Nat.reduceEqDiff, Nat.reduceAdd, Nat.reduceLeDiff, Nat.reduceBEq, Nat.reduceMul, reduceCtorEq, Int.reduceLE, Int.reduceLT, Int.reduceAdd, Int.reduceSub, Int.reduceNeg, Int.reduceToNat, Int.reduceBEq, rdB, bne, Bool.not_true, Bool.not_false, a1, a2, q1, q2, q3, q4, q5, q6, q7]; (repeat' refine And.intro rfl ?_); with_reducible refine RunTo.this ?_) | (refine RunTo.pansE (n3) Tryd.func99 rfl rfl rfl rfl rfl rfl ?_; simp only [go_sem, ↓reduceIte, Nat.reduceEqDiff, Nat.reduceAdd, Nat.reduceLeDiff, Nat.reduceBEq, Nat.reduceMul, reduceCtorEq, Int.reduceLE, Int.reduceLT, Int.reduceAdd, Int.reduceSub, Int.reduceNeg, Int.reduceToNat, Int.reduceBEq, rdB, bne, Bool.not_true, Bool.not_false, a1, a2, q1, q2, q3, q4, q5, q6, q7]; (repeat' refine And.intro rfl ?_); (all_goals try (with_reducible refine ⟨by kernel_rfl, by kernel_rfl, ?_⟩)); (all_goals try (simp only [go_sem, ↓reduceIte, Nat.reduceEqDiff, Nat.reduceAdd, Nat.reduceLeDiff, Nat.reduceBEq, Nat.reduceMul, reduceCtorEq, Int.reduceLE, Int.reduceLT, Int.reduceAdd, Int.reduceSub, Int.reduceNeg, Int.reduceToNat, Int.reduceBEq, rdB, bne, Bool.not_true, Bool.not_false, a1, a2, q1, q2, q3, q4, q5, q6, q7]))) | ((first | refine RunTo.nilA (by kernel_rfl) ?_ | refine RunTo.nilT ?_ | refine awp_skip ?_ | refine awp_exit ?_ | refine awp_label ?_); simp only [go_sem, ↓reduceIte, Nat.reduceEqDiff, Nat.reduceAdd, Nat.reduceLeDiff, Nat.reduceBEq, Nat.reduceMul, reduceCtorEq, Int.reduceLE, Int.reduceLT, Int.reduceAdd, Int.reduceSub, Int.reduceNeg, Int.reduceToNat, Int.reduceBEq, rdB, bne, Bool.not_true, Bool.not_false, a1, a2, q1, q2, q3, q4, q5, q6, q7]) | (refine awp_cond' rfl (of_decide_eq_true rfl) (fun hc => ?_) (fun hc => ?_) <;> ((try simp only [Bool.not_true, Bool.not_false, Bool.not_eq_true', Bool.not_eq_false', Bool.not_eq_eq_eq_not] at hc); (first | (cases hc) | (simp only [hc]) | skip))))
              · have q7 := beq_f (show (d.toNat : Int) ≠ 120 by omega)
                rw [byte_e2 _ _ _ e3 e4 e6]
                show Pans _ _ _ _ _
                refine pans_of_awp Tryd.func137 rfl (by simp [Tryd.f137]) ?_; simp only [go_sem, ↓reduceIte, Nat.reduceEqDiff, Nat.reduceAdd, Nat.reduceLeDiff, Nat.reduceBEq, Nat.reduceMul, reduceCtorEq, Int.reduceLE, Int.reduceLT, Int.reduceAdd, Int.reduceSub, Int.reduceNeg, Int.reduceToNat, Int.reduceBEq]
                repeat' (first | refine awp_seq ?_ | refine awp_block ?_ | refine awp_round ?_ | refine awp_scope ?_ | refine awp_text rfl ?_ | refine awp_any rfl mix (by kernel_rfl) ?_ | (refine RunTo.panic rfl rfl rfl ?_; simp only [go_sem, ↓reduceIte, Nat.reduceEqDiff, Nat.reduceAdd, Nat.reduceLeDiff, Nat.reduceBEq, Nat.reduceMul, reduceCtorEq, Int.reduceLE, Int.reduceLT, Int.reduceAdd, Int.reduceSub, Int.reduceNeg, Int.reduceToNat, Int.reduceBEq, rdB, bne, Bool.not_true, Bool.not_false, a1, a2, q1, q2, q3, q4, q5, q6, q7]) | (refine RunTo.unguard rfl rfl (fun hg => ?_) (fun hg => ?_) <;> ((try simp only [Bool.not_true, Bool.not_false, Bool.not_eq_true', Bool.not_eq_false', Bool.not_eq_eq_eq_not] at hg); (first | (cases hg) | (simp only [hg]) | skip))) | ((first | refine RunTo.plain rfl ?_ | refine RunTo.skipped rfl ?_); simp only [go_sem, ↓reduceIte, Nat.reduceEqDiff, Nat.reduceAdd, Nat.reduceLeDiff, Nat.reduceBEq, Nat.reduceMul, reduceCtorEq, Int.reduceLE, Int.reduceLT, Int.reduceAdd, Int.reduceSub, Int.reduceNeg, Int.reduceToNat, Int.reduceBEq, rdB, bne, Bool.not_true, Bool.not_false, a1, a2, q1, q2, q3, q4, q5, q6, q7]) | (refine RunTo.actsE (n1) Tryd.func99 rfl rfl rfl rfl rfl rfl ?_; simp only [go_sem, ↓reduceIte, Nat.reduceEqDiff, Nat.reduceAdd, Nat.reduceLeDiff, Nat.reduceBEq, Nat.reduceMul, reduceCtorEq, Int.reduceLE, Int.reduceLT, Int.reduceAdd, Int.reduceSub, Int.reduceNeg, Int.reduceToNat, Int.reduceBEq, rdB, bne, Bool.not_true, Bool.not_false, a1, a2, q1, q2, q3, q4, q5, q6, q7]; (repeat' refine And.intro rfl ?_); with_reducible refine RunTo.this ?_) | (refine RunTo.actsE (n2) Tryd.func99 rfl rfl rfl rfl rfl rfl ?_; simp only [go_sem, ↓reduceIte, Nat.reduceEqDiff, Nat.reduceAdd, Nat.reduceLeDiff, Nat.reduceBEq, Nat.reduceMul, reduceCtorEq, Int.reduceLE, Int.reduceLT, Int.reduceAdd, Int.reduceSub, Int.reduceNeg, Int.reduceToNat, Int.reduceBEq, rdB, bne, Bool.not_true, Bool.not_false, a1, a2, q1, q2, q3, q4, q5, q6, q7]; (repeat' refine And.intro rfl ?_); with_reducible refine RunTo.this ?_) | ((first | refine RunTo.nilA (by kernel_rfl) ?_ | refine RunTo.nilT ?_ | refine awp_skip ?_ | refine awp_exit ?_ | refine awp_label ?_); simp only [go_sem, ↓reduceIte, Nat.reduceEqDiff, Nat.reduceAdd, Nat.reduceLeDiff, Nat.reduceBEq, Nat.reduceMul, reduceCtorEq, Int.reduceLE, Int.reduceLT, Int.reduceAdd, Int.reduceSub, Int.reduceNeg, Int.reduceToNat, Int.reduceBEq, rdB, bne, Bool.not_true, Bool.not_false, a1, a2, q1, q2, q3, q4, q5, q6, q7]) | (refine awp_cond' rfl (of_decide_eq_true rfl) (fun hc => ?_) (fun hc => ?_) <;> ((try simp only [Bool.not_true, Bool.not_false, Bool.not_eq_true', Bool.not_eq_false', Bool.not_eq_eq_eq_not] at hc); (first | (cases hc) | (simp only [hc]) | skip))))
          · have n2 := c_needBad s (k + 1) 1 (by omega) (by omega) hs
            rw [drop_end s (k + 1) (by omega), byte_e0 _ e3]
            show Pans _ _ _ _ _
            refine pans_of_awp Tryd.func137 rfl (by simp [Tryd.f137]) ?_; simp only [go_sem, ↓reduceIte, Nat.reduceEqDiff, Nat.reduceAdd, Nat.reduceLeDiff, Nat.reduceBEq, Nat.reduceMul, reduceCtorEq, Int.reduceLE, Int.reduceLT, Int.reduceAdd, Int.reduceSub, Int.reduceNeg, Int.reduceToNat, Int.reduceBEq]
            repeat' (first | refine awp_seq ?_ | refine awp_block ?_ | refine awp_round ?_ | refine awp_scope ?_ | refine awp_text rfl ?_ | refine awp_any rfl mix (by kernel_rfl) ?_ | (refine RunTo.unguard rfl rfl (fun hg => ?_) (fun hg => ?_) <;> ((try simp only [Bool.not_true, Bool.not_false, Bool.not_eq_true', Bool.not_eq_false', Bool.not_eq_eq_eq_not] at hg); (first | (cases hg) | (simp only [hg]) | skip))) | ((first | refine RunTo.plain rfl ?_ | refine RunTo.skipped rfl ?_); simp only [go_sem, ↓reduceIte, Nat.reduceEqDiff, Nat.reduceAdd, Nat.reduceLeDiff, Nat.reduceBEq, Nat.reduceMul, reduceCtorEq, Int.reduceLE, Int.reduceLT, Int.reduceAdd, Int.reduceSub, Int.reduceNeg, Int.reduceToNat, Int.reduceBEq, rdB, bne, Bool.not_true, Bool.not_false, a1, q1, q2, q3, q4]) | (refine RunTo.actsE (n1) Tryd.func99 rfl rfl rfl rfl rfl rfl ?_; simp only [go_sem, ↓reduceIte, Nat.reduceEqDiff, Nat.reduceAdd, Nat.reduceLeDiff, Nat.reduceBEq, Nat.reduceMul, reduceCtorEq, Int.reduceLE, Int.reduceLT, Int.reduceAdd, Int.reduceSub, Int.reduceNeg, Int.reduceToNat, Int.reduceBEq, rdB, bne, Bool.not_true, Bool.not_false, a1, q1, q2, q3, q4]; (repeat' refine And.intro rfl ?_); with_reducible refine RunTo.this ?_) | (refine RunTo.pansE (n2) Tryd.func99 rfl rfl rfl rfl rfl rfl ?_; simp only [go_sem, ↓reduceIte, Nat.reduceEqDiff, Nat.reduceAdd, Nat.reduceLeDiff, Nat.reduceBEq, Nat.reduceMul, reduceCtorEq, Int.reduceLE, Int.reduceLT, Int.reduceAdd, Int.reduceSub, Int.reduceNeg, Int.reduceToNat, Int.reduceBEq, rdB, bne, Bool.not_true, Bool.not_false, a1, q1, q2, q3, q4]; (repeat' refine And.intro rfl ?_); (all_goals try (with_reducible refine ⟨by kernel_rfl, by kernel_rfl, ?_⟩)); (all_goals try (simp only [go_sem, ↓reduceIte, Nat.reduceEqDiff, Nat.reduceAdd, Nat.reduceLeDiff, Nat.reduceBEq, Nat.reduceMul, reduceCtorEq, Int.reduceLE, Int.reduceLT, Int.reduceAdd, Int.reduceSub, Int.reduceNeg, Int.reduceToNat, Int.reduceBEq, rdB, bne, Bool.not_true, Bool.not_false, a1, q1, q2, q3, q4]))) | ((first | refine RunTo.nilA (by kernel_rfl) ?_ | refine RunTo.nilT ?_ | refine awp_skip ?_ | refine awp_exit ?_ | refine awp_label ?_); simp only [go_sem, ↓reduceIte, Nat.reduceEqDiff, Nat.reduceAdd, Nat.reduceLeDiff, Nat.reduceBEq, Nat.reduceMul, reduceCtorEq, Int.reduceLE, Int.reduceLT, Int.reduceAdd, Int.reduceSub, Int.reduceNeg, Int.reduceToNat, Int.reduceBEq, rdB, bne, Bool.not_true, Bool.not_false, a1, q1, q2, q3, q4]) | (refine awp_cond' rfl (of_decide_eq_true rfl) (fun hc => ?_) (fun hc => ?_) <;> ((try simp only [Bool.not_true, Bool.not_false, Bool.not_eq_true', Bool.not_eq_false', Bool.not_eq_eq_eq_not] at hc); (first | (cases hc) | (simp only [hc]) | skip))))
        · have q4 := beq_f (show (c.toNat : Int) ≠ 92 by omega)
          rw [byte_p _ _ e1 e2 e3]
          show Acts _ _ _ _ _ _
          refine acts_of_awp ([(1001, 1001)]) Tryd.func137 rfl rfl (by simp [Tryd.f137]) ?_; simp only [go_sem, ↓reduceIte, Nat.reduceEqDiff, Nat.reduceAdd, Nat.reduceLeDiff, Nat.reduceBEq, Nat.reduceMul, reduceCtorEq, Int.reduceLE, Int.reduceLT, Int.reduceAdd, Int.reduceSub, Int.reduceNeg, Int.reduceToNat, Int.reduceBEq]
          repeat' (first | refine awp_seq ?_ | refine awp_block ?_ | refine awp_round ?_ | refine awp_scope ?_ | refine awp_text rfl ?_ | refine awp_any rfl mix (by kernel_rfl) ?_ | (refine RunTo.unguard rfl rfl (fun hg => ?_) (fun hg => ?_) <;> ((try simp only [Bool.not_true, Bool.not_false, Bool.not_eq_true', Bool.not_eq_false', Bool.not_eq_eq_eq_not] at hg); (first | (cases hg) | (simp only [hg]) | skip))) | ((first | refine RunTo.plain rfl ?_ | refine RunTo.skipped rfl ?_); simp only [go_sem, ↓reduceIte, Nat.reduceEqDiff, Nat.reduceAdd, Nat.reduceLeDiff, Nat.reduceBEq, Nat.reduceMul, reduceCtorEq, Int.reduceLE, Int.reduceLT, Int.reduceAdd, Int.reduceSub, Int.reduceNeg, Int.reduceToNat, Int.reduceBEq, rdB, a1, q1, q2, q3, bne, q4]) | (refine RunTo.actsE (n1) Tryd.func99 rfl rfl rfl rfl rfl rfl ?_; simp only [go_sem, ↓reduceIte, Nat.reduceEqDiff, Nat.reduceAdd, Nat.reduceLeDiff, Nat.reduceBEq, Nat.reduceMul, reduceCtorEq, Int.reduceLE, Int.reduceLT, Int.reduceAdd, Int.reduceSub, Int.reduceNeg, Int.reduceToNat, Int.reduceBEq, rdB, a1, q1, q2, q3, bne, q4]; (repeat' refine And.intro rfl ?_); with_reducible refine RunTo.this ?_) | ((first | refine RunTo.nilA (by kernel_rfl) ?_ | refine RunTo.nilT ?_ | refine awp_skip ?_ | refine awp_exit ?_ | refine awp_label ?_); simp only [go_sem, ↓reduceIte, Nat.reduceEqDiff, Nat.reduceAdd, Nat.reduceLeDiff, Nat.reduceBEq, Nat.reduceMul, reduceCtorEq, Int.reduceLE, Int.reduceLT, Int.reduceAdd, Int.reduceSub, Int.reduceNeg, Int.reduceToNat, Int.reduceBEq, rdB, a1, q1, q2, q3, bne, q4]) | (refine awp_cond' rfl (of_decide_eq_true rfl) (fun hc => ?_) (fun hc => ?_) <;> ((try simp only [Bool.not_true, Bool.not_false, Bool.not_eq_true', Bool.not_eq_false', Bool.not_eq_eq_eq_not] at hc); (first | (cases hc) | (simp only [hc]) | skip))))
          all_goals
            (first | refine awp_ret ?_ | skip); refine ⟨(by first | exact .inl rfl | exact .inr rfl | exact .inr trivial | trivial), _, rfl, rfl, rfl, ?_, ?_⟩ <;> (try simp only [go_sem, ↓reduceIte, Nat.reduceEqDiff, Nat.reduceAdd, Nat.reduceLeDiff, Nat.reduceBEq, Nat.reduceMul, reduceCtorEq, Int.reduceLE, Int.reduceLT, Int.reduceAdd, Int.reduceSub, Int.reduceNeg, Int.reduceToNat, Int.reduceBEq, rdB])
  · rw [drop_end s k (by omega)]
    have n1 := c_needBad s k 1 hk (by omega) hs
    show Pans _ _ _ _ _
    refine pans_of_awp Tryd.func137 rfl (by simp [Tryd.f137]) ?_; simp only [go_sem, ↓reduceIte, Nat.reduceEqDiff, Nat.reduceAdd, Nat.reduceLeDiff, Nat.reduceBEq, Nat.reduceMul, reduceCtorEq, Int.reduceLE, Int.reduceLT, Int.reduceAdd, Int.reduceSub, Int.reduceNeg, Int.reduceToNat, Int.reduceBEq]
    repeat' (first | refine awp_seq ?_ | refine awp_block ?_ | refine awp_round ?_ | refine awp_scope ?_ | refine awp_text rfl ?_ | refine awp_any rfl mix (by kernel_rfl) ?_ | (refine RunTo.unguard rfl rfl (fun hg => ?_) (fun hg => ?_) <;> ((try simp only [Bool.not_true, Bool.not_false, Bool.not_eq_true', Bool.not_eq_false', Bool.not_eq_eq_eq_not] at hg); (first | (cases hg) | (simp only [hg]) | skip))) | ((first | refine RunTo.plain rfl ?_ | refine RunTo.skipped rfl ?_); simp only [go_sem, ↓reduceIte, Nat.reduceEqDiff, Nat.reduceAdd, Nat.reduceLeDiff, Nat.reduceBEq, Nat.reduceMul, reduceCtorEq, Int.reduceLE, Int.reduceLT, Int.reduceAdd, Int.reduceSub, Int.reduceNeg, Int.reduceToNat, Int.reduceBEq, rdB]) | (refine RunTo.pansE (n1) Tryd.func99 rfl rfl rfl rfl rfl rfl ?_; simp only [go_sem, ↓reduceIte, Nat.reduceEqDiff, Nat.reduceAdd, Nat.reduceLeDiff, Nat.reduceBEq, Nat.reduceMul, reduceCtorEq, Int.reduceLE, Int.reduceLT, Int.reduceAdd, Int.reduceSub, Int.reduceNeg, Int.reduceToNat, Int.reduceBEq, rdB]; (repeat' refine And.intro rfl ?_); (all_goals try (with_reducible refine ⟨by kernel_rfl, by kernel_rfl, ?_⟩)); (all_goals try (simp only [go_sem, ↓reduceIte, Nat.reduceEqDiff, Nat.reduceAdd, Nat.reduceLeDiff, Nat.reduceBEq, Nat.reduceMul, reduceCtorEq, Int.reduceLE, Int.reduceLT, Int.reduceAdd, Int.reduceSub, Int.reduceNeg, Int.reduceToNat, Int.reduceBEq, rdB]))) | ((first | refine RunTo.nilA (by kernel_rfl) ?_ | refine RunTo.nilT ?_ | refine awp_skip ?_ | refine awp_exit ?_ | refine awp_label ?_); simp only [go_sem, ↓reduceIte, Nat.reduceEqDiff, Nat.reduceAdd, Nat.reduceLeDiff, Nat.reduceBEq, Nat.reduceMul, reduceCtorEq, Int.reduceLE, Int.reduceLT, Int.reduceAdd, Int.reduceSub, Int.reduceNeg, Int.reduceToNat, Int.reduceBEq, rdB]) | (refine awp_cond' rfl (of_decide_eq_true rfl) (fun hc => ?_) (fun hc => ?_) <;> ((try simp only [Bool.not_true, Bool.not_false, Bool.not_eq_true', Bool.not_eq_false', Bool.not_eq_eq_eq_not] at hc); (first | (cases hc) | (simp only [hc]) | skip))))
end Go.Proofs.YtjihcldhjpdnmaaDoor.AM
namespace Go.Proofs.YtjihcldhjpdnmaaDoor.AM
open Go.RowKit
set_option linter.unusedSimpArgs false
set_option linter.unusedVariables false
set_option maxRecDepth 10000
set_option maxHeartbeats 0
inductive RT where
  | ok (t : List UInt8) (n : Nat)
  | bad (e : Int)
def RT.add (d : Nat) : RT → RT
  | .ok t n => .ok t (d + n)
  | .bad e => .bad e
def textL : Nat → List UInt8 → List UInt8 → RT
  | 0, _, _ => .bad 11
  | f + 1, acc, l => match byteL l with
    | none => .bad 11
    | some (none, n) => .ok acc n
    | some (some c, n) => if acc.length = 256 then .bad 3 else (textL f (acc ++ [c]) (l.drop n)).add n
theorem RT.add_add (a b : Nat) (r : RT) : (r.add b).add a = r.add (a + b) := by cases r <;> simp [RT.add, Nat.add_assoc]
theorem byteL_len {l : List UInt8} {o : Option UInt8} {n : Nat} (h : byteL l = some (o, n)) : 1 ≤ n ∧ n ≤ l.length := by
  cases l with
  | nil => simp [byteL] at h
  | cons c l =>
    simp only [byteL] at h
    split at h
    · simp only [Option.some.injEq, Prod.mk.injEq] at h; obtain ⟨_, rfl⟩ := h; simp
    · split at h
      · cases h
      · split at h
        · simp only [Option.some.injEq, Prod.mk.injEq] at h; obtain ⟨_, rfl⟩ := h; simp
        · cases l with
          | nil => cases h
          | cons d l =>
            simp only at h
            split at h
            · simp only [Option.some.injEq, Prod.mk.injEq] at h; obtain ⟨_, rfl⟩ := h; simp
            · split at h
              · cases h
              · match l, h with
                | [], h => cases h
                | [a], h => cases h
                | a :: b :: l, h =>
                  simp only at h
                  split at h
                  · cases h
                  · simp only [Option.some.injEq, Prod.mk.injEq] at h; obtain ⟨_, rfl⟩ := h; simp
abbrev ST7 (s : ByteArray) (k : Nat) (acc : List UInt8) (T e : Nat) : St := ⟨[(0, .ptr 1001 0 0 0), (3, .slc 22 e 0 acc.length)], [(1001, .box 0 [sv s, iv k]), (22, .arr e 1 (brows acc))], T⟩
def IT7 (s : ByteArray) (k0 : Nat) (r : RT) (n : Nat) (st : St) : Prop := ∃ k acc T e, k0 ≤ k ∧ k ≤ s.size ∧ acc.length ≤ 256 ∧ n = 257 - acc.length ∧ r = (textL (257 - acc.length) acc (s.data.toList.drop k)).add (k - k0) ∧ st = ST7 s k acc T e
def textC (s : ByteArray) (k : Nat) (r : RT) : Prop := match r with
  | .ok t n => Acts Tryd.prog 100 [.ptr 1001 0 0 0] (rdB s k) (sv (bs t)) (rdB s (k + n))
  | .bad e => Pans Tryd.prog 100 [.ptr 1001 0 0 0] (rdB s k) (errV e)
theorem c_text (s : ByteArray) (k0 : Nat) (hk0 : k0 ≤ s.size) (hs : s.size ≤ 1000000) : textC s k0 (textL 257 [] (s.data.toList.drop k0)) := by
  cases hr : textL 257 [] (s.data.toList.drop k0) with
  | ok t m =>
    show Acts _ _ _ _ _ _
    refine acts_of_awp ([(1001, 1001)]) Tryd.func100 rfl rfl (by simp [Tryd.f100]) ?_; simp only [go_sem, ↓reduceIte, Nat.reduceEqDiff, Nat.reduceAdd, Nat.reduceLeDiff, Nat.reduceBEq, Nat.reduceMul, reduceCtorEq, Int.reduceLE, Int.reduceLT, Int.reduceAdd, Int.reduceSub, Int.reduceNeg, Int.reduceToNat, Int.reduceBEq]
    repeat' (first | refine awp_seq ?_ | refine awp_block ?_ | refine awp_round ?_ | refine awp_scope ?_ | refine awp_text rfl ?_ | refine awp_any rfl mix (by kernel_rfl) ?_ | (refine RunTo.unguard rfl rfl (fun hg => ?_) (fun hg => ?_) <;> ((try simp only [Bool.not_true, Bool.not_false, Bool.not_eq_true', Bool.not_eq_false', Bool.not_eq_eq_eq_not] at hg); (first | (cases hg) | (simp only [hg]) | skip))) | ((first | refine RunTo.plain rfl ?_ | refine RunTo.skipped rfl ?_); simp only [go_sem, ↓reduceIte, Nat.reduceEqDiff, Nat.reduceAdd, Nat.reduceLeDiff, Nat.reduceBEq, Nat.reduceMul, reduceCtorEq, Int.reduceLE, Int.reduceLT, Int.reduceAdd, Int.reduceSub, Int.reduceNeg, Int.reduceToNat, Int.reduceBEq, rdB]) | ((first | refine RunTo.nilA (by kernel_rfl) ?_ | refine RunTo.nilT ?_ | refine awp_skip ?_ | refine awp_exit ?_ | refine awp_label ?_); simp only [go_sem, ↓reduceIte, Nat.reduceEqDiff, Nat.reduceAdd, Nat.reduceLeDiff, Nat.reduceBEq, Nat.reduceMul, reduceCtorEq, Int.reduceLE, Int.reduceLT, Int.reduceAdd, Int.reduceSub, Int.reduceNeg, Int.reduceToNat, Int.reduceBEq, rdB]) | (refine awp_cond' rfl (of_decide_eq_true rfl) (fun hc => ?_) (fun hc => ?_) <;> ((try simp only [Bool.not_true, Bool.not_false, Bool.not_eq_true', Bool.not_eq_false', Bool.not_eq_eq_eq_not] at hc); (first | (cases hc) | (simp only [hc]) | skip))))
    refine awp_weak (weak_nil (t := 3) (s := 22) (sz := 1) (of_decide_eq_true rfl) rfl) ?_
    simp only [go_sem, ↓reduceIte, Nat.reduceEqDiff, Nat.reduceAdd, Nat.reduceLeDiff, Nat.reduceBEq, Nat.reduceMul, reduceCtorEq, Int.reduceLE, Int.reduceLT, Int.reduceAdd, Int.reduceSub, Int.reduceNeg, Int.reduceToNat, Int.reduceBEq, rdB]
    repeat' (first | refine awp_seq ?_ | refine awp_block ?_ | refine awp_round ?_ | refine awp_scope ?_ | refine awp_text rfl ?_ | refine awp_any rfl mix (by kernel_rfl) ?_ | (refine RunTo.unguard rfl rfl (fun hg => ?_) (fun hg => ?_) <;> ((try simp only [Bool.not_true, Bool.not_false, Bool.not_eq_true', Bool.not_eq_false', Bool.not_eq_eq_eq_not] at hg); (first | (cases hg) | (simp only [hg]) | skip))) | ((first | refine RunTo.plain rfl ?_ | refine RunTo.skipped rfl ?_); simp only [go_sem, ↓reduceIte, Nat.reduceEqDiff, Nat.reduceAdd, Nat.reduceLeDiff, Nat.reduceBEq, Nat.reduceMul, reduceCtorEq, Int.reduceLE, Int.reduceLT, Int.reduceAdd, Int.reduceSub, Int.reduceNeg, Int.reduceToNat, Int.reduceBEq]) | ((first | refine RunTo.nilA (by kernel_rfl) ?_ | refine RunTo.nilT ?_ | refine awp_skip ?_ | refine awp_exit ?_ | refine awp_label ?_); simp only [go_sem, ↓reduceIte, Nat.reduceEqDiff, Nat.reduceAdd, Nat.reduceLeDiff, Nat.reduceBEq, Nat.reduceMul, reduceCtorEq, Int.reduceLE, Int.reduceLT, Int.reduceAdd, Int.reduceSub, Int.reduceNeg, Int.reduceToNat, Int.reduceBEq]) | (refine awp_cond' rfl (of_decide_eq_true rfl) (fun hc => ?_) (fun hc => ?_) <;> ((try simp only [Bool.not_true, Bool.not_false, Bool.not_eq_true', Bool.not_eq_false', Bool.not_eq_eq_eq_not] at hc); (first | (cases hc) | (simp only [hc]) | skip))))
    refine awp_loopw (IT7 s k0 (.ok t m)) 257 (ST7 s k0 [] _ _) (weak_keep ⟨rfl, rfl, trivial⟩ ⟨rfl, rfl, trivial⟩ (Nat.le_refl _)) ⟨k0, [], _, _, Nat.le_refl _, hk0, by simp, rfl, by simp only [List.length_nil, Nat.sub_zero, Nat.sub_self]; rw [hr]; simp [RT.add], rfl⟩ ?_
    rintro n st ⟨k, acc, T, e, h0k, hk, ha, rfl, hx, rfl⟩
    have cb := c_byte s k hk hs
    rw [show 257 - acc.length = (256 - acc.length) + 1 by omega] at hx
    unfold textL at hx
    have hbB : isB (brows acc) = true := isB_brows acc
    have hbS : strR (brows acc) = bs acc := strR_brows acc
    have htk := take_brows acc
    cases hb : byteL (s.data.toList.drop k) with
    | none =>
      rw [hb] at hx cb
      simp [RT.add] at hx
    | some p =>
      obtain ⟨o, j⟩ := p
      have hj := byteL_len hb
      rw [List.length_drop, Array.length_toList] at hj
      have hj2 : j ≤ s.size - k := hj.2
      cases o with
      | none =>
        rw [hb] at hx cb
        simp only [RT.add, RT.ok.injEq] at hx
        obtain ⟨rfl, rfl⟩ := hx
        have cb : Acts _ _ _ _ _ _ := cb
        rw [show k0 + (k - k0 + j) = k + j by omega]
        repeat' (first | refine awp_seq ?_ | refine awp_block ?_ | refine awp_round ?_ | refine awp_scope ?_ | refine awp_text rfl ?_ | refine awp_any rfl mix (by kernel_rfl) ?_ | (refine RunTo.unguard rfl rfl (fun hg => ?_) (fun hg => ?_) <;> ((try simp only [Bool.not_true, Bool.not_false, Bool.not_eq_true', Bool.not_eq_false', Bool.not_eq_eq_eq_not] at hg); (first | (cases hg) | (simp only [hg]) | skip))) | ((first | refine RunTo.plain rfl ?_ | refine RunTo.skipped rfl ?_); simp only [go_sem, ↓reduceIte, Nat.reduceEqDiff, Nat.reduceAdd, Nat.reduceLeDiff, Nat.reduceBEq, Nat.reduceMul, reduceCtorEq, Int.reduceLE, Int.reduceLT, Int.reduceAdd, Int.reduceSub, Int.reduceNeg, Int.reduceToNat, Int.reduceBEq, rdB, brows, htk, hbB, hbS, List.length_map]) | (refine RunTo.actsE (cb) Tryd.func137 rfl rfl rfl rfl rfl rfl ?_; simp only [go_sem, ↓reduceIte, Nat.reduceEqDiff, Nat.reduceAdd, Nat.reduceLeDiff, Nat.reduceBEq, Nat.reduceMul, reduceCtorEq, Int.reduceLE, Int.reduceLT, Int.reduceAdd, Int.reduceSub, Int.reduceNeg, Int.reduceToNat, Int.reduceBEq, rdB, brows, htk, hbB, hbS, List.length_map]; (repeat' refine And.intro rfl ?_); with_reducible refine RunTo.this ?_) | ((first | refine RunTo.nilA (by kernel_rfl) ?_ | refine RunTo.nilT ?_ | refine awp_skip ?_ | refine awp_exit ?_ | refine awp_label ?_); simp only [go_sem, ↓reduceIte, Nat.reduceEqDiff, Nat.reduceAdd, Nat.reduceLeDiff, Nat.reduceBEq, Nat.reduceMul, reduceCtorEq, Int.reduceLE, Int.reduceLT, Int.reduceAdd, Int.reduceSub, Int.reduceNeg, Int.reduceToNat, Int.reduceBEq, rdB, brows, htk, hbB, hbS, List.length_map]) | (refine awp_cond' rfl (of_decide_eq_true rfl) (fun hc => ?_) (fun hc => ?_) <;> ((try simp only [Bool.not_true, Bool.not_false, Bool.not_eq_true', Bool.not_eq_false', Bool.not_eq_eq_eq_not] at hc); (first | (cases hc) | (simp only [hc]) | skip))))
        all_goals (first | refine awp_ret ?_ | skip); refine ⟨(by first | exact .inl rfl | exact .inr rfl | exact .inr trivial | trivial), _, rfl, rfl, rfl, ?_, ?_⟩ <;> (try simp only [go_sem, ↓reduceIte, Nat.reduceEqDiff, Nat.reduceAdd, Nat.reduceLeDiff, Nat.reduceBEq, Nat.reduceMul, reduceCtorEq, Int.reduceLE, Int.reduceLT, Int.reduceAdd, Int.reduceSub, Int.reduceNeg, Int.reduceToNat, Int.reduceBEq, rdB, hbS])
        all_goals trace_state
      | some c =>
        rw [hb] at hx cb
        have cb : Acts _ _ _ _ _ _ := cb
        simp only at hx
        by_cases h256 : acc.length = 256
        · rw [if_pos h256] at hx
          simp [RT.add] at hx
        · rw [if_neg h256] at hx
          have q := beq_f (show (acc.length : Int) ≠ 256 by omega)
          have c1 : ((acc.length + 1) * 1 ≤ 140737488355328) = True := eq_true (by omega)
          have c2 : ((acc.length + 1) ≤ 140737488355328) = True := eq_true (by omega)
          repeat' (first | refine awp_seq ?_ | refine awp_block ?_ | refine awp_round ?_ | refine awp_scope ?_ | refine awp_text rfl ?_ | refine awp_any rfl mix (by kernel_rfl) ?_ | (refine RunTo.unguard rfl rfl (fun hg => ?_) (fun hg => ?_) <;> ((try simp only [Bool.not_true, Bool.not_false, Bool.not_eq_true', Bool.not_eq_false', Bool.not_eq_eq_eq_not] at hg); (first | (cases hg) | (simp only [hg]) | skip))) | ((first | refine RunTo.plain rfl ?_ | refine RunTo.skipped rfl ?_); simp only [go_sem, ↓reduceIte, Nat.reduceEqDiff, Nat.reduceAdd, Nat.reduceLeDiff, Nat.reduceBEq, Nat.reduceMul, reduceCtorEq, Int.reduceLE, Int.reduceLT, Int.reduceAdd, Int.reduceSub, Int.reduceNeg, Int.reduceToNat, Int.reduceBEq, rdB, q, htk, c1, c2, List.length_map, lenTy, implies_true]) | (refine RunTo.actsE (cb) Tryd.func137 rfl rfl rfl rfl rfl rfl ?_; simp only [go_sem, ↓reduceIte, Nat.reduceEqDiff, Nat.reduceAdd, Nat.reduceLeDiff, Nat.reduceBEq, Nat.reduceMul, reduceCtorEq, Int.reduceLE, Int.reduceLT, Int.reduceAdd, Int.reduceSub, Int.reduceNeg, Int.reduceToNat, Int.reduceBEq, rdB, q, htk, c1, c2, List.length_map, lenTy, implies_true]; (repeat' refine And.intro rfl ?_); with_reducible refine RunTo.this ?_) | ((first | refine RunTo.nilA (by kernel_rfl) ?_ | refine RunTo.nilT ?_ | refine awp_skip ?_ | refine awp_exit ?_ | refine awp_label ?_); simp only [go_sem, ↓reduceIte, Nat.reduceEqDiff, Nat.reduceAdd, Nat.reduceLeDiff, Nat.reduceBEq, Nat.reduceMul, reduceCtorEq, Int.reduceLE, Int.reduceLT, Int.reduceAdd, Int.reduceSub, Int.reduceNeg, Int.reduceToNat, Int.reduceBEq, rdB, q, htk, c1, c2, List.length_map, lenTy, implies_true]) | (refine awp_cond' rfl (of_decide_eq_true rfl) (fun hc => ?_) (fun hc => ?_) <;> ((try simp only [Bool.not_true, Bool.not_false, Bool.not_eq_true', Bool.not_eq_false', Bool.not_eq_eq_eq_not] at hc); (first | (cases hc) | (simp only [hc]) | skip))))
          have hlen : (acc ++ [c]).length = acc.length + 1 := by simp
          exact ⟨257 - (acc ++ [c]).length, by omega, ST7 s (k + j) (acc ++ [c]) _ _, weak_keep ⟨rfl, by rw [hlen]; rfl, trivial⟩ ⟨rfl, by rw [hexB_app]; rfl, trivial⟩ (Nat.le_refl _), k + j, acc ++ [c], _, _, by omega, by omega, by omega, rfl, by rw [hx, RT.add_add, List.drop_drop, hlen, show 257 - (acc.length + 1) = 256 - acc.length by omega, show k - k0 + j = k + j - k0 by omega], rfl⟩
  | bad e0 =>
    show Pans _ _ _ _ _
    refine pans_of_awp Tryd.func100 rfl (by simp [Tryd.f100]) ?_; simp only [go_sem, ↓reduceIte, Nat.reduceEqDiff, Nat.reduceAdd, Nat.reduceLeDiff, Nat.reduceBEq, Nat.reduceMul, reduceCtorEq, Int.reduceLE, Int.reduceLT, Int.reduceAdd, Int.reduceSub, Int.reduceNeg, Int.reduceToNat, Int.reduceBEq]
    repeat' (first | refine awp_seq ?_ | refine awp_block ?_ | refine awp_round ?_ | refine awp_scope ?_ | refine awp_text rfl ?_ | refine awp_any rfl mix (by kernel_rfl) ?_ | (refine RunTo.unguard rfl rfl (fun hg => ?_) (fun hg => ?_) <;> ((try simp only [Bool.not_true, Bool.not_false, Bool.not_eq_true', Bool.not_eq_false', Bool.not_eq_eq_eq_not] at hg); (first | (cases hg) | (simp only [hg]) | skip))) | ((first | refine RunTo.plain rfl ?_ | refine RunTo.skipped rfl ?_); simp only [go_sem, ↓reduceIte, Nat.reduceEqDiff, Nat.reduceAdd, Nat.reduceLeDiff, Nat.reduceBEq, Nat.reduceMul, reduceCtorEq, Int.reduceLE, Int.reduceLT, Int.reduceAdd, Int.reduceSub, Int.reduceNeg, Int.reduceToNat, Int.reduceBEq, rdB]) | ((first | refine RunTo.nilA (by kernel_rfl) ?_ | refine RunTo.nilT ?_ | refine awp_skip ?_ | refine awp_exit ?_ | refine awp_label ?_); simp only [go_sem, ↓reduceIte, Nat.reduceEqDiff, Nat.reduceAdd, Nat.reduceLeDiff, Nat.reduceBEq, Nat.reduceMul, reduceCtorEq, Int.reduceLE, Int.reduceLT, Int.reduceAdd, Int.reduceSub, Int.reduceNeg, Int.reduceToNat, Int.reduceBEq, rdB]) | (refine awp_cond' rfl (of_decide_eq_true rfl) (fun hc => ?_) (fun hc => ?_) <;> ((try simp only [Bool.not_true, Bool.not_false, Bool.not_eq_true', Bool.not_eq_false', Bool.not_eq_eq_eq_not] at hc); (first | (cases hc) | (simp only [hc]) | skip))))
    refine awp_weak (weak_nil (t := 3) (s := 22) (sz := 1) (of_decide_eq_true rfl) rfl) ?_
    simp only [go_sem, ↓reduceIte, Nat.reduceEqDiff, Nat.reduceAdd, Nat.reduceLeDiff, Nat.reduceBEq, Nat.reduceMul, reduceCtorEq, Int.reduceLE, Int.reduceLT, Int.reduceAdd, Int.reduceSub, Int.reduceNeg, Int.reduceToNat, Int.reduceBEq, rdB]
    repeat' (first | refine awp_seq ?_ | refine awp_block ?_ | refine awp_round ?_ | refine awp_scope ?_ | refine awp_text rfl ?_ | refine awp_any rfl mix (by kernel_rfl) ?_ | (refine RunTo.unguard rfl rfl (fun hg => ?_) (fun hg => ?_) <;> ((try simp only [Bool.not_true, Bool.not_false, Bool.not_eq_true', Bool.not_eq_false', Bool.not_eq_eq_eq_not] at hg); (first | (cases hg) | (simp only [hg]) | skip))) | ((first | refine RunTo.plain rfl ?_ | refine RunTo.skipped rfl ?_); simp only [go_sem, ↓reduceIte, Nat.reduceEqDiff, Nat.reduceAdd, Nat.reduceLeDiff, Nat.reduceBEq, Nat.reduceMul, reduceCtorEq, Int.reduceLE, Int.reduceLT, Int.reduceAdd, Int.reduceSub, Int.reduceNeg, Int.reduceToNat, Int.reduceBEq]) | ((first | refine RunTo.nilA (by kernel_rfl) ?_ | refine RunTo.nilT ?_ | refine awp_skip ?_ | refine awp_exit ?_ | refine awp_label ?_); simp only [go_sem, ↓reduceIte, Nat.reduceEqDiff, Nat.reduceAdd, Nat.reduceLeDiff, Nat.reduceBEq, Nat.reduceMul, reduceCtorEq, Int.reduceLE, Int.reduceLT, Int.reduceAdd, Int.reduceSub, Int.reduceNeg, Int.reduceToNat, Int.reduceBEq]) | (refine awp_cond' rfl (of_decide_eq_true rfl) (fun hc => ?_) (fun hc => ?_) <;> ((try simp only [Bool.not_true, Bool.not_false, Bool.not_eq_true', Bool.not_eq_false', Bool.not_eq_eq_eq_not] at hc); (first | (cases hc) | (simp only [hc]) | skip))))
    refine awp_loopw (IT7 s k0 (.bad e0)) 257 (ST7 s k0 [] _ _) (weak_keep ⟨rfl, rfl, trivial⟩ ⟨rfl, rfl, trivial⟩ (Nat.le_refl _)) ⟨k0, [], _, _, Nat.le_refl _, hk0, by simp, rfl, by simp only [List.length_nil, Nat.sub_zero, Nat.sub_self]; rw [hr]; simp [RT.add], rfl⟩ ?_
    rintro n st ⟨k, acc, T, e, h0k, hk, ha, rfl, hx, rfl⟩
    have cb := c_byte s k hk hs
    rw [show 257 - acc.length = (256 - acc.length) + 1 by omega] at hx
    unfold textL at hx
    have hbB : isB (brows acc) = true := isB_brows acc
    have hbS : strR (brows acc) = bs acc := strR_brows acc
    have htk := take_brows acc
    cases hb : byteL (s.data.toList.drop k) with
    | none =>
      rw [hb] at hx cb
      simp only [RT.add, RT.bad.injEq] at hx
      subst hx
      have cb : Pans _ _ _ _ _ := cb
      repeat' (first | refine awp_seq ?_ | refine awp_block ?_ | refine awp_round ?_ | refine awp_scope ?_ | refine awp_text rfl ?_ | refine awp_any rfl mix (by kernel_rfl) ?_ | (refine RunTo.unguard rfl rfl (fun hg => ?_) (fun hg => ?_) <;> ((try simp only [Bool.not_true, Bool.not_false, Bool.not_eq_true', Bool.not_eq_false', Bool.not_eq_eq_eq_not] at hg); (first | (cases hg) | (simp only [hg]) | skip))) | ((first | refine RunTo.plain rfl ?_ | refine RunTo.skipped rfl ?_); simp only [go_sem, ↓reduceIte, Nat.reduceEqDiff, Nat.reduceAdd, Nat.reduceLeDiff, Nat.reduceBEq, Nat.reduceMul, reduceCtorEq, Int.reduceLE, Int.reduceLT, Int.reduceAdd, Int.reduceSub, Int.reduceNeg, Int.reduceToNat, Int.reduceBEq, rdB]) | (refine RunTo.pansE (cb) Tryd.func137 rfl rfl rfl rfl rfl rfl ?_; simp only [go_sem, ↓reduceIte, Nat.reduceEqDiff, Nat.reduceAdd, Nat.reduceLeDiff, Nat.reduceBEq, Nat.reduceMul, reduceCtorEq, Int.reduceLE, Int.reduceLT, Int.reduceAdd, Int.reduceSub, Int.reduceNeg, Int.reduceToNat, Int.reduceBEq, rdB]; (repeat' refine And.intro rfl ?_); (all_goals try (with_reducible refine ⟨by kernel_rfl, by kernel_rfl, ?_⟩)); (all_goals try (simp only [go_sem, ↓reduceIte, Nat.reduceEqDiff, Nat.reduceAdd, Nat.reduceLeDiff, Nat.reduceBEq, Nat.reduceMul, reduceCtorEq, Int.reduceLE, Int.reduceLT, Int.reduceAdd, Int.reduceSub, Int.reduceNeg, Int.reduceToNat, Int.reduceBEq, rdB]))) | ((first | refine RunTo.nilA (by kernel_rfl) ?_ | refine RunTo.nilT ?_ | refine awp_skip ?_ | refine awp_exit ?_ | refine awp_label ?_); simp only [go_sem, ↓reduceIte, Nat.reduceEqDiff, Nat.reduceAdd, Nat.reduceLeDiff, Nat.reduceBEq, Nat.reduceMul, reduceCtorEq, Int.reduceLE, Int.reduceLT, Int.reduceAdd, Int.reduceSub, Int.reduceNeg, Int.reduceToNat, Int.reduceBEq, rdB]) | (refine awp_cond' rfl (of_decide_eq_true rfl) (fun hc => ?_) (fun hc => ?_) <;> ((try simp only [Bool.not_true, Bool.not_false, Bool.not_eq_true', Bool.not_eq_false', Bool.not_eq_eq_eq_not] at hc); (first | (cases hc) | (simp only [hc]) | skip))))
    | some p =>
      obtain ⟨o, j⟩ := p
      have hj := byteL_len hb
      rw [List.length_drop, Array.length_toList] at hj
      have hj2 : j ≤ s.size - k := hj.2
      cases o with
      | none =>
        rw [hb] at hx cb
        simp [RT.add] at hx
      | some c =>
        rw [hb] at hx cb
        have cb : Acts _ _ _ _ _ _ := cb
        simp only at hx
        by_cases h256 : acc.length = 256
        · rw [if_pos h256] at hx
          simp only [RT.add, RT.bad.injEq] at hx
          subst hx
          have q := beq_t (show (acc.length : Int) = 256 by omega)
          repeat' (first | refine awp_seq ?_ | refine awp_block ?_ | refine awp_round ?_ | refine awp_scope ?_ | refine awp_text rfl ?_ | refine awp_any rfl mix (by kernel_rfl) ?_ | (refine RunTo.panic rfl rfl rfl ?_; simp only [go_sem, ↓reduceIte, Nat.reduceEqDiff, Nat.reduceAdd, Nat.reduceLeDiff, Nat.reduceBEq, Nat.reduceMul, reduceCtorEq, Int.reduceLE, Int.reduceLT, Int.reduceAdd, Int.reduceSub, Int.reduceNeg, Int.reduceToNat, Int.reduceBEq, rdB, brows, q, List.length_map]) | (refine RunTo.unguard rfl rfl (fun hg => ?_) (fun hg => ?_) <;> ((try simp only [Bool.not_true, Bool.not_false, Bool.not_eq_true', Bool.not_eq_false', Bool.not_eq_eq_eq_not] at hg); (first | (cases hg) | (simp only [hg]) | skip))) | ((first | refine RunTo.plain rfl ?_ | refine RunTo.skipped rfl ?_); simp only [go_sem, ↓reduceIte, Nat.reduceEqDiff, Nat.reduceAdd, Nat.reduceLeDiff, Nat.reduceBEq, Nat.reduceMul, reduceCtorEq, Int.reduceLE, Int.reduceLT, Int.reduceAdd, Int.reduceSub, Int.reduceNeg, Int.reduceToNat, Int.reduceBEq, rdB, brows, q, List.length_map]) | (refine RunTo.actsE (cb) Tryd.func137 rfl rfl rfl rfl rfl rfl ?_; simp only [go_sem, ↓reduceIte, Nat.reduceEqDiff, Nat.reduceAdd, Nat.reduceLeDiff, Nat.reduceBEq, Nat.reduceMul, reduceCtorEq, Int.reduceLE, Int.reduceLT, Int.reduceAdd, Int.reduceSub, Int.reduceNeg, Int.reduceToNat, Int.reduceBEq, rdB, brows, q, List.length_map]; (repeat' refine And.intro rfl ?_); with_reducible refine RunTo.this ?_) | ((first | refine RunTo.nilA (by kernel_rfl) ?_ | refine RunTo.nilT ?_ | refine awp_skip ?_ | refine awp_exit ?_ | refine awp_label ?_); simp only [go_sem, ↓reduceIte, Nat.reduceEqDiff, Nat.reduceAdd, Nat.reduceLeDiff, Nat.reduceBEq, Nat.reduceMul, reduceCtorEq, Int.reduceLE, Int.reduceLT, Int.reduceAdd, Int.reduceSub, Int.reduceNeg, Int.reduceToNat, Int.reduceBEq, rdB, brows, q, List.length_map]) | (refine awp_cond' rfl (of_decide_eq_true rfl) (fun hc => ?_) (fun hc => ?_) <;> ((try simp only [Bool.not_true, Bool.not_false, Bool.not_eq_true', Bool.not_eq_false', Bool.not_eq_eq_eq_not] at hc); (first | (cases hc) | (simp only [hc]) | skip))))
        · rw [if_neg h256] at hx
          have q := beq_f (show (acc.length : Int) ≠ 256 by omega)
          have c1 : ((acc.length + 1) * 1 ≤ 140737488355328) = True := eq_true (by omega)
          have c2 : ((acc.length + 1) ≤ 140737488355328) = True := eq_true (by omega)
          repeat' (first | refine awp_seq ?_ | refine awp_block ?_ | refine awp_round ?_ | refine awp_scope ?_ | refine awp_text rfl ?_ | refine awp_any rfl mix (by kernel_rfl) ?_ | (refine RunTo.unguard rfl rfl (fun hg => ?_) (fun hg => ?_) <;> ((try simp only [Bool.not_true, Bool.not_false, Bool.not_eq_true', Bool.not_eq_false', Bool.not_eq_eq_eq_not] at hg); (first | (cases hg) | (simp only [hg]) | skip))) | ((first | refine RunTo.plain rfl ?_ | refine RunTo.skipped rfl ?_); simp only [go_sem, ↓reduceIte, Nat.reduceEqDiff, Nat.reduceAdd, Nat.reduceLeDiff, Nat.reduceBEq, Nat.reduceMul, reduceCtorEq, Int.reduceLE, Int.reduceLT, Int.reduceAdd, Int.reduceSub, Int.reduceNeg, Int.reduceToNat, Int.reduceBEq, rdB, q, htk, c1, c2, List.length_map, lenTy, implies_true]) | (refine RunTo.actsE (cb) Tryd.func137 rfl rfl rfl rfl rfl rfl ?_; simp only [go_sem, ↓reduceIte, Nat.reduceEqDiff, Nat.reduceAdd, Nat.reduceLeDiff, Nat.reduceBEq, Nat.reduceMul, reduceCtorEq, Int.reduceLE, Int.reduceLT, Int.reduceAdd, Int.reduceSub, Int.reduceNeg, Int.reduceToNat, Int.reduceBEq, rdB, q, htk, c1, c2, List.length_map, lenTy, implies_true]; (repeat' refine And.intro rfl ?_); with_reducible refine RunTo.this ?_) | ((first | refine RunTo.nilA (by kernel_rfl) ?_ | refine RunTo.nilT ?_ | refine awp_skip ?_ | refine awp_exit ?_ | refine awp_label ?_); simp only [go_sem, ↓reduceIte, Nat.reduceEqDiff, Nat.reduceAdd, Nat.reduceLeDiff, Nat.reduceBEq, Nat.reduceMul, reduceCtorEq, Int.reduceLE, Int.reduceLT, Int.reduceAdd, Int.reduceSub, Int.reduceNeg, Int.reduceToNat, Int.reduceBEq, rdB, q, htk, c1, c2, List.length_map, lenTy, implies_true]) | (refine awp_cond' rfl (of_decide_eq_true rfl) (fun hc => ?_) (fun hc => ?_) <;> ((try simp only [Bool.not_true, Bool.not_false, Bool.not_eq_true', Bool.not_eq_false', Bool.not_eq_eq_eq_not] at hc); (first | (cases hc) | (simp only [hc]) | skip))))
          have hlen : (acc ++ [c]).length = acc.length + 1 := by simp
          exact ⟨257 - (acc ++ [c]).length, by omega, ST7 s (k + j) (acc ++ [c]) _ _, weak_keep ⟨rfl, by rw [hlen]; rfl, trivial⟩ ⟨rfl, by rw [hexB_app]; rfl, trivial⟩ (Nat.le_refl _), k + j, acc ++ [c], _, _, by omega, by omega, by omega, rfl, by rw [hx, RT.add_add, List.drop_drop, hlen, show 257 - (acc.length + 1) = 256 - acc.length by omega, show k - k0 + j = k + j - k0 by omega], rfl⟩
end Go.Proofs.YtjihcldhjpdnmaaDoor.AM
namespace Go.Proofs.YtjihcldhjpdnmaaDoor.AM
open Go.RowKit
set_option linter.unusedSimpArgs false
set_option linter.unusedVariables false
set_option maxRecDepth 10000
set_option maxHeartbeats 0
abbrev b8 (c : UInt8) : AV := .lit (.int .u8 c.toNat)
def kdigB (c : UInt8) : Bool := decide (48 ≤ (c.toNat : Int)) && decide ((c.toNat : Int) ≤ 57)
theorem c_isDigit (c : UInt8) : Pure Tryd.prog 120 [b8 c] (bv (kdigB c)) := by
  refine pure_of_awp Tryd.func120 rfl rfl (by simp [Tryd.f120]) ?_; simp only [go_sem, ↓reduceIte, Nat.reduceEqDiff, Nat.reduceAdd, Nat.reduceLeDiff, Nat.reduceBEq, Nat.reduceMul, reduceCtorEq, Int.reduceLE, Int.reduceLT, Int.reduceAdd, Int.reduceSub, Int.reduceNeg, Int.reduceToNat, Int.reduceBEq]
  repeat' (first | refine awp_seq ?_ | refine awp_block ?_ | refine awp_round ?_ | refine awp_scope ?_ | refine awp_text rfl ?_ | refine awp_any rfl mix (by kernel_rfl) ?_ | (refine RunTo.unguard rfl rfl (fun hg => ?_) (fun hg => ?_) <;> ((try simp only [Bool.not_true, Bool.not_false, Bool.not_eq_true', Bool.not_eq_false', Bool.not_eq_eq_eq_not] at hg); (first | (cases hg) | (simp only [hg]) | skip))) | ((first | refine RunTo.plain rfl ?_ | refine RunTo.skipped rfl ?_); simp only [go_sem, ↓reduceIte, Nat.reduceEqDiff, Nat.reduceAdd, Nat.reduceLeDiff, Nat.reduceBEq, Nat.reduceMul, reduceCtorEq, Int.reduceLE, Int.reduceLT, Int.reduceAdd, Int.reduceSub, Int.reduceNeg, Int.reduceToNat, Int.reduceBEq]) | ((first | refine RunTo.nilA (by kernel_rfl) ?_ | refine RunTo.nilT ?_ | refine awp_skip ?_ | refine awp_exit ?_ | refine awp_label ?_); simp only [go_sem, ↓reduceIte, Nat.reduceEqDiff, Nat.reduceAdd, Nat.reduceLeDiff, Nat.reduceBEq, Nat.reduceMul, reduceCtorEq, Int.reduceLE, Int.reduceLT, Int.reduceAdd, Int.reduceSub, Int.reduceNeg, Int.reduceToNat, Int.reduceBEq]) | (refine awp_cond' rfl (of_decide_eq_true rfl) (fun hc => ?_) (fun hc => ?_) <;> ((try simp only [Bool.not_true, Bool.not_false, Bool.not_eq_true', Bool.not_eq_false', Bool.not_eq_eq_eq_not] at hc); (first | (cases hc) | (simp only [hc]) | skip))))
  all_goals
    (first | refine awp_ret ?_ | skip); refine ⟨(by first | exact .inl rfl | exact .inr rfl | exact .inr trivial | trivial), ?_⟩; simp only [go_sem, ↓reduceIte, Nat.reduceEqDiff, Nat.reduceAdd, Nat.reduceLeDiff, Nat.reduceBEq, Nat.reduceMul, reduceCtorEq, Int.reduceLE, Int.reduceLT, Int.reduceAdd, Int.reduceSub, Int.reduceNeg, Int.reduceToNat, Int.reduceBEq, retV, resL, resV, sealV, sealC, sealAll, Tryd.f120]
    simp [kdigB, *]
def lowN (n : Nat) : Int := IntKind.u8.wrap ((BitVec.ofInt 8 (n : Int) ||| BitVec.ofInt 8 32).toNat : Nat)
theorem low_iff (c : UInt8) : (97 ≤ lowN c.toNat ∧ lowN c.toNat ≤ 122) ↔ ((97 ≤ (c.toNat : Int) ∧ (c.toNat : Int) ≤ 122) ∨ (65 ≤ (c.toNat : Int) ∧ (c.toNat : Int) ≤ 90)) := by
  have h : ∀ n, n < 256 → (decide (97 ≤ lowN n ∧ lowN n ≤ 122) = decide ((97 ≤ (n : Int) ∧ (n : Int) ≤ 122) ∨ (65 ≤ (n : Int) ∧ (n : Int) ≤ 90))) := by decide +kernel
  exact decide_eq_decide.1 (h c.toNat c.toNat_lt)
theorem c_isPart (c : UInt8) : Pure Tryd.prog 122 [b8 c] (bv (okB false (c.toNat : Int))) := by
  have hd := c_isDigit c
  have hl := low_iff c
  have e1 : IntKind.u8.wrap ((BitVec.ofInt IntKind.u8.bits (c.toNat : Int) ||| BitVec.ofInt IntKind.u8.bits 32).toNat : Nat) = lowN c.toNat := rfl
  refine pure_of_awp Tryd.func122 rfl rfl (by simp [Tryd.f122]) ?_; simp only [go_sem, ↓reduceIte, Nat.reduceEqDiff, Nat.reduceAdd, Nat.reduceLeDiff, Nat.reduceBEq, Nat.reduceMul, reduceCtorEq, Int.reduceLE, Int.reduceLT, Int.reduceAdd, Int.reduceSub, Int.reduceNeg, Int.reduceToNat, Int.reduceBEq]
  repeat' (first | refine awp_seq ?_ | refine awp_block ?_ | refine awp_round ?_ | refine awp_scope ?_ | refine awp_text rfl ?_ | refine awp_any rfl mix (by kernel_rfl) ?_ | (refine RunTo.unguard rfl rfl (fun hg => ?_) (fun hg => ?_) <;> ((try simp only [Bool.not_true, Bool.not_false, Bool.not_eq_true', Bool.not_eq_false', Bool.not_eq_eq_eq_not] at hg); (first | (cases hg) | (simp only [hg]) | skip))) | ((first | refine RunTo.plain rfl ?_ | refine RunTo.skipped rfl ?_ | refine RunTo.call (hd) Tryd.func120 rfl rfl rfl rfl rfl rfl rfl rfl ?_); simp only [go_sem, ↓reduceIte, Nat.reduceEqDiff, Nat.reduceAdd, Nat.reduceLeDiff, Nat.reduceBEq, Nat.reduceMul, reduceCtorEq, Int.reduceLE, Int.reduceLT, Int.reduceAdd, Int.reduceSub, Int.reduceNeg, Int.reduceToNat, Int.reduceBEq, ↓e1]) | ((first | refine RunTo.nilA (by kernel_rfl) ?_ | refine RunTo.nilT ?_ | refine awp_skip ?_ | refine awp_exit ?_ | refine awp_label ?_); simp only [go_sem, ↓reduceIte, Nat.reduceEqDiff, Nat.reduceAdd, Nat.reduceLeDiff, Nat.reduceBEq, Nat.reduceMul, reduceCtorEq, Int.reduceLE, Int.reduceLT, Int.reduceAdd, Int.reduceSub, Int.reduceNeg, Int.reduceToNat, Int.reduceBEq, ↓e1]) | (refine awp_cond' rfl (of_decide_eq_true rfl) (fun hc => ?_) (fun hc => ?_) <;> ((try simp only [Bool.not_true, Bool.not_false, Bool.not_eq_true', Bool.not_eq_false', Bool.not_eq_eq_eq_not] at hc); (first | (cases hc) | (simp only [hc]) | skip))))
  all_goals
    (first | refine awp_ret ?_ | skip); refine ⟨(by first | exact .inl rfl | exact .inr rfl | exact .inr trivial | trivial), ?_⟩; simp only [go_sem, ↓reduceIte, Nat.reduceEqDiff, Nat.reduceAdd, Nat.reduceLeDiff, Nat.reduceBEq, Nat.reduceMul, reduceCtorEq, Int.reduceLE, Int.reduceLT, Int.reduceAdd, Int.reduceSub, Int.reduceNeg, Int.reduceToNat, Int.reduceBEq, retV, resL, resV, sealV, sealC, sealAll, Tryd.f122]
  all_goals
    refine congrArg (fun z => some (bv z)) ?_
    (try simp only [decide_eq_true_eq, decide_eq_false_iff_not, beq_iff_eq, bne_iff_ne, ne_eq, beq_eq_false_iff_ne, bne_eq_false_iff_eq, Bool.and_eq_true, Bool.or_eq_true, Bool.or_eq_false_iff, Bool.and_eq_false_iff] at *)
    rw [Bool.eq_iff_iff]
    simp only [okB, letB, kdigB, Bool.or_eq_true, Bool.and_eq_true, decide_eq_true_eq, beq_iff_eq, Bool.not_false, true_and, true_iff]
    omega
theorem c_second (s : ByteArray) (c : UInt8) (h : s[1]? = some c) (hs : s.size ≤ 1000000) : Pure Tryd.prog 119 [sv s] (b8 c) := by
  have hlt : 1 < s.size := by
    apply Decidable.byContradiction
    intro hn
    rw [getElem?_neg s 1 (by simpa using hn)] at h
    cases h
  have hd : decide ((s.size : Int) < 2) = false := decide_eq_false (by omega)
  refine pure_of_awp Tryd.func119 rfl rfl (by simp [Tryd.f119]) ?_; simp only [go_sem, ↓reduceIte, Nat.reduceEqDiff, Nat.reduceAdd, Nat.reduceLeDiff, Nat.reduceBEq, Nat.reduceMul, reduceCtorEq, Int.reduceLE, Int.reduceLT, Int.reduceAdd, Int.reduceSub, Int.reduceNeg, Int.reduceToNat, Int.reduceBEq]
  repeat' (first | refine awp_seq ?_ | refine awp_block ?_ | refine awp_round ?_ | refine awp_scope ?_ | refine awp_text rfl ?_ | refine awp_any rfl mix (by kernel_rfl) ?_ | (refine RunTo.unguard rfl rfl (fun hg => ?_) (fun hg => ?_) <;> ((try simp only [Bool.not_true, Bool.not_false, Bool.not_eq_true', Bool.not_eq_false', Bool.not_eq_eq_eq_not] at hg); (first | (cases hg) | (simp only [hg]) | skip))) | ((first | refine RunTo.plain rfl ?_ | refine RunTo.skipped rfl ?_); simp only [go_sem, ↓reduceIte, Nat.reduceEqDiff, Nat.reduceAdd, Nat.reduceLeDiff, Nat.reduceBEq, Nat.reduceMul, reduceCtorEq, Int.reduceLE, Int.reduceLT, Int.reduceAdd, Int.reduceSub, Int.reduceNeg, Int.reduceToNat, Int.reduceBEq, hd, h]) | ((first | refine RunTo.nilA (by kernel_rfl) ?_ | refine RunTo.nilT ?_ | refine awp_skip ?_ | refine awp_exit ?_ | refine awp_label ?_); simp only [go_sem, ↓reduceIte, Nat.reduceEqDiff, Nat.reduceAdd, Nat.reduceLeDiff, Nat.reduceBEq, Nat.reduceMul, reduceCtorEq, Int.reduceLE, Int.reduceLT, Int.reduceAdd, Int.reduceSub, Int.reduceNeg, Int.reduceToNat, Int.reduceBEq, hd, h]) | (refine awp_cond' rfl (of_decide_eq_true rfl) (fun hc => ?_) (fun hc => ?_) <;> ((try simp only [Bool.not_true, Bool.not_false, Bool.not_eq_true', Bool.not_eq_false', Bool.not_eq_eq_eq_not] at hc); (first | (cases hc) | (simp only [hc]) | skip))))
  all_goals
    (first | refine awp_ret ?_ | skip); refine ⟨(by first | exact .inl rfl | exact .inr rfl | exact .inr trivial | trivial), ?_⟩; simp only [go_sem, ↓reduceIte, Nat.reduceEqDiff, Nat.reduceAdd, Nat.reduceLeDiff, Nat.reduceBEq, Nat.reduceMul, reduceCtorEq, Int.reduceLE, Int.reduceLT, Int.reduceAdd, Int.reduceSub, Int.reduceNeg, Int.reduceToNat, Int.reduceBEq, retV, resL, resV, sealV, sealC, sealAll, Tryd.f119]
theorem c_second0 (s : ByteArray) (h : s.size < 2) : Pure Tryd.prog 119 [sv s] (.lit (.int .u8 0)) := by
  have hd : decide ((s.size : Int) < 2) = true := decide_eq_true (by omega)
  refine pure_of_awp Tryd.func119 rfl rfl (by simp [Tryd.f119]) ?_; simp only [go_sem, ↓reduceIte, Nat.reduceEqDiff, Nat.reduceAdd, Nat.reduceLeDiff, Nat.reduceBEq, Nat.reduceMul, reduceCtorEq, Int.reduceLE, Int.reduceLT, Int.reduceAdd, Int.reduceSub, Int.reduceNeg, Int.reduceToNat, Int.reduceBEq]
  repeat' (first | refine awp_seq ?_ | refine awp_block ?_ | refine awp_round ?_ | refine awp_scope ?_ | refine awp_text rfl ?_ | refine awp_any rfl mix (by kernel_rfl) ?_ | (refine RunTo.unguard rfl rfl (fun hg => ?_) (fun hg => ?_) <;> ((try simp only [Bool.not_true, Bool.not_false, Bool.not_eq_true', Bool.not_eq_false', Bool.not_eq_eq_eq_not] at hg); (first | (cases hg) | (simp only [hg]) | skip))) | ((first | refine RunTo.plain rfl ?_ | refine RunTo.skipped rfl ?_); simp only [go_sem, ↓reduceIte, Nat.reduceEqDiff, Nat.reduceAdd, Nat.reduceLeDiff, Nat.reduceBEq, Nat.reduceMul, reduceCtorEq, Int.reduceLE, Int.reduceLT, Int.reduceAdd, Int.reduceSub, Int.reduceNeg, Int.reduceToNat, Int.reduceBEq, hd]) | ((first | refine RunTo.nilA (by kernel_rfl) ?_ | refine RunTo.nilT ?_ | refine awp_skip ?_ | refine awp_exit ?_ | refine awp_label ?_); simp only [go_sem, ↓reduceIte, Nat.reduceEqDiff, Nat.reduceAdd, Nat.reduceLeDiff, Nat.reduceBEq, Nat.reduceMul, reduceCtorEq, Int.reduceLE, Int.reduceLT, Int.reduceAdd, Int.reduceSub, Int.reduceNeg, Int.reduceToNat, Int.reduceBEq, hd]) | (refine awp_cond' rfl (of_decide_eq_true rfl) (fun hc => ?_) (fun hc => ?_) <;> ((try simp only [Bool.not_true, Bool.not_false, Bool.not_eq_true', Bool.not_eq_false', Bool.not_eq_eq_eq_not] at hc); (first | (cases hc) | (simp only [hc]) | skip))))
  all_goals
    (first | refine awp_ret ?_ | skip); refine ⟨(by first | exact .inl rfl | exact .inr rfl | exact .inr trivial | trivial), ?_⟩; simp only [go_sem, ↓reduceIte, Nat.reduceEqDiff, Nat.reduceAdd, Nat.reduceLeDiff, Nat.reduceBEq, Nat.reduceMul, reduceCtorEq, Int.reduceLE, Int.reduceLT, Int.reduceAdd, Int.reduceSub, Int.reduceNeg, Int.reduceToNat, Int.reduceBEq, retV, resL, resV, sealV, sealC, sealAll, Tryd.f119]
abbrev zT : List AV := [iv 0, sv eE, iv 0, iv 0, .lit (.float .f64 0), sv eE, nilA, iv 0]
abbrev SWd (s : ByteArray) (k T e : Nat) : St := ⟨[(0, sv s), (4, iv k), (3, iv 0), (2, .ptr 2 e 0 0)], [(2, .box e zT)], T⟩
theorem strEq_f {a b : ByteArray} (h : a ≠ b) : (a.toList == b.toList) = false := by
  rw [beq_eq_false_iff_ne]
  intro e
  rw [ByteArray.toList_eq, ByteArray.toList_eq] at e
  exact h (ByteArray.ext (Array.ext' e))
theorem strEq_t {a b : ByteArray} (h : a = b) : (a.toList == b.toList) = true := by rw [h]; simp
end Go.Proofs.YtjihcldhjpdnmaaDoor.AM
namespace Go.Proofs.YtjihcldhjpdnmaaDoor.AM
open Go.RowKit
set_option linter.unusedSimpArgs false
set_option linter.unusedVariables false
set_option maxRecDepth 10000
set_option maxHeartbeats 0
def dgB (c : UInt8) : Bool := decide (48 ≤ (c.toNat : Int)) && decide ((c.toNat : Int) ≤ 57)
def takeW : List UInt8 → List UInt8
  | [] => []
  | c :: r => if c.toNat = 45 then c :: r.takeWhile dgB else (c :: r).takeWhile dgB
def wholeL (l : List UInt8) : Option (Int × Nat) := match Lib.atoiAll (takeW l) with
  | .ok n => if Lib.itoa n = takeW l then some (n, (takeW l).length) else none
  | _ => none
theorem ext_list (s : ByteArray) (i j : Nat) : (s.extract i j).data.toList = (s.data.toList.drop i).take (j - i) := by
  rw [ByteArray.data_extract, Array.toList_extract]
theorem ext_snoc (s : ByteArray) (i j : Nat) (hi : i ≤ j) (hj : j < s.size) : (s.data.toList.drop i).take (j + 1 - i) = (s.data.toList.drop i).take (j - i) ++ [s[j]] := by
  have hl : j - i < (s.data.toList.drop i).length := by rw [List.length_drop, Array.length_toList]; show j - i < s.size - i; omega
  rw [show j + 1 - i = (j - i) + 1 by omega, List.take_succ_eq_append_getElem hl]
  congr 1
  have : (s.data.toList.drop i)[j - i]? = some s[j] := by
    rw [List.getElem?_drop, show i + (j - i) = j by omega, Array.getElem?_toList]
    exact byte_at' s j hj
  rw [List.getElem?_eq_getElem hl] at this
  rw [Option.some.inj this]
abbrev SW8 (s : ByteArray) (k j T : Nat) : St := ⟨[(0, .ptr 1001 0 0 0), (3, iv j)], [(1001, .box 0 [sv s, iv k])], T⟩
def IW8 (s : ByteArray) (k k1 n : Nat) (st : St) : Prop := ∃ j T, k1 ≤ j ∧ j ≤ s.size ∧ n = s.size - j ∧ (s.data.toList.drop k1).takeWhile dgB = (s.data.toList.drop k1).take (j - k1) ++ (s.data.toList.drop j).takeWhile dgB ∧ st = SW8 s k j T
def wholeC (s : ByteArray) (k : Nat) (r : Option (Int × Nat)) : Prop := match r with
  | some (n, m) => Acts Tryd.prog 101 [.ptr 1001 0 0 0] (rdB s k) (iv n) (rdB s (k + m))
  | none => Pans Tryd.prog 101 [.ptr 1001 0 0 0] (rdB s k) (errV 11)
theorem take_w0 (s : ByteArray) (k : Nat) (h : k < s.size) (hc : (s[k]).toNat = 45) : takeW (s.data.toList.drop k) = s[k] :: (s.data.toList.drop (k + 1)).takeWhile dgB := by
  rw [drop_cons s k h]; simp only [takeW]; rw [if_pos hc]
theorem take_w1 (s : ByteArray) (k : Nat) (h : ¬ ∃ h : k < s.size, (s[k]).toNat = 45) : takeW (s.data.toList.drop k) = (s.data.toList.drop k).takeWhile dgB := by
  by_cases h0 : k < s.size
  · rw [drop_cons s k h0]; simp only [takeW]; rw [if_neg (fun hc => h ⟨h0, hc⟩)]
  · rw [drop_end s k (by omega)]; rfl
theorem hide_tail {P : Program} {nt : Nt} {Q : Exit → St → Prop} {st : St} {A B C D R : Code} (I : Nat → Prop) (S : Nat → Nat → St) (tail : ∀ j T, I j → AWP P nt R Q (S j T))
    (rest : ∀ R', (∀ j T, I j → AWP P nt R' Q (S j T)) → AWP P nt (.seq A (.seq B (.seq C (.seq D R')))) Q st) : AWP P nt (.seq A (.seq B (.seq C (.seq D R)))) Q st := rest R tail
end Go.Proofs.YtjihcldhjpdnmaaDoor.AM
