/- Part 10 of the proof: words, contracts, plain laws. Laid by a program of this session (wip/tool/shake.py): what is needed of own and printed texts, in order. -/
import Derived.Test.YtjihcldhjpdnmaaDoorZe0
import Derived.Test.YtjihcldhjpdnmaaDoorZe1
import Derived.Test.YtjihcldhjpdnmaaDoorZe2
import Derived.Test.YtjihcldhjpdnmaaDoorZe3
import Derived.Test.YtjihcldhjpdnmaaDoorZe5
import Derived.Test.YtjihcldhjpdnmaaDoorZe9
import Derived.Calls
import Derived.Lib.ItoaNum
import Derived.Orders
import Derived.Tactics
import Derived.Below
import Derived.Laws.Rows
import Derived.Laws.World
import Derived.Laws.CopyRow
import Derived.Lib.FrozenHead
import Derived.Deep.AppendSrc
import Derived.Deep.Upon
import Derived.Laws.BytesArg
import Derived.IntWalk
import Derived.Laws.Externs
import Derived.LoopN
import Derived.Scope
import Derived.Test.YtjihcldhjpdnmaaDoorProg
import Derived.KernelRfl
import Derived.MapKept
import Derived.Laws.FloatBits
import Derived.Lib.ItoaMem
import Derived.Lib.ItoaLen
import Derived.Lib.Join
import Derived.RegionTactic
import Derived.Lib.AppendIntMem
import Derived.Shelf.Strings.Builder1
import Derived.Shelf.Strings.Builder2
import Derived.Shelf.Strings.OnBuilder
import Derived.Shelf.Small.Strs
import Derived.Shelf.Small.Wraps
import Derived.Shelf.Strings.BuilderF
import Derived.Shelf.Strings.BuilderK
import Derived.Shelf.Strings.Builder2Cap
import Derived.Shelf.Strconv.Atoi
import Derived.Shelf.Strconv.Itoa0
import Derived.Shelf.Strconv.Itoa1
import Derived.Shelf.LaysM
import Derived.Shelf.Strconv.Itoa2
import Derived.Shelf.Strconv.Itoa3
import Derived.Shelf.Strconv.AtoiErrFast
import Derived.Shelf.Strconv.ParseIntEmpty
import Derived.Shelf.Strconv.AtoiFail
import Derived.Shelf.Strconv.Clone
import Derived.Shelf.Strconv.SyntaxError
import Derived.Shelf.LaysC
import Derived.Shelf.Strconv.ToError
import Derived.Shelf.Strconv.Lower
import Derived.Shelf.Strconv.ParseUint10
import Derived.Shelf.Strconv.ParseUint10Empty
import Derived.Shelf.Strconv.ParseUint10Any
import Derived.Shelf.Strconv.ParseInt10
import Derived.Shelf.Strconv.AtoiLong
import Derived.Shelf.Strconv.AtoiInnerAll
import Derived.Shelf.Strconv.RangeError
import Derived.Shelf.Strconv.ToErrorRange
import Derived.Shelf.Strconv.AtoiAll
import Derived.Shelf.Strings.Search1
import Derived.Shelf.Strings.Prefix
import Derived.Shelf.Strings.BuilderCap
import Derived.Shelf.Slices.Turned
import Derived.Ground.Names2Prog
import Derived.Shelf.Slices.SearchI
import Derived.Test.YtjihcldhjpdnmaaDoorZe6
import Derived.Test.YtjihcldhjpdnmaaDoorZe7
import Derived.Test.YtjihcldhjpdnmaaDoorZe8
import Derived.Recover
import Derived.WideLaws
namespace Go.Proofs.YtjihcldhjpdnmaaDoor.AM
open Go.RowKit
set_option linter.unusedSimpArgs false
set_option linter.unusedVariables false
set_option maxRecDepth 10000
set_option maxHeartbeats 0
theorem c_rValid (v : ValD) (hf : flV v) : Pure Tryd.prog 12 [v.av] (bv (validV v)) := by
  have ha := c_rAtom v.a hf.1
  have hb := c_rBits v.a.f
  by_cases h6 : v.a.k = 6
  · have hk6 : (v.a.k == 6) = true := by simpa using h6
    refine pure_of_awp Tryd.func12 rfl rfl (by simp [Tryd.f12]) ?_; simp only [go_sem, ↓reduceIte, Nat.reduceEqDiff, Nat.reduceAdd, Nat.reduceLeDiff, Nat.reduceBEq, Nat.reduceMul, reduceCtorEq, Int.reduceLE, Int.reduceLT, Int.reduceAdd, Int.reduceSub, Int.reduceNeg, Int.reduceToNat, Int.reduceBEq]
    repeat' (first | refine awp_seq ?_ | refine awp_block ?_ | refine awp_round ?_ | refine awp_scope ?_ | refine awp_text rfl ?_ | refine awp_any rfl mix (by kernel_rfl) ?_ | (refine RunTo.unguard rfl rfl (fun hg => ?_) (fun hg => ?_) <;> ((try simp only [Bool.not_true, Bool.not_false, Bool.not_eq_true', Bool.not_eq_false', Bool.not_eq_eq_eq_not] at hg); (first | (cases hg) | (simp only [hg]) | skip))) | ((first | refine RunTo.plain rfl ?_ | refine RunTo.skipped rfl ?_ | refine RunTo.call (hb) Tryd.func34 rfl rfl rfl rfl rfl rfl rfl rfl ?_); simp only [go_sem, ↓reduceIte, Nat.reduceEqDiff, Nat.reduceAdd, Nat.reduceLeDiff, Nat.reduceBEq, Nat.reduceMul, reduceCtorEq, Int.reduceLE, Int.reduceLT, Int.reduceAdd, Int.reduceSub, Int.reduceNeg, Int.reduceToNat, Int.reduceBEq, ValD.av, bne, hk6, List.length_map]) | ((first | refine RunTo.nilA (by kernel_rfl) ?_ | refine RunTo.nilT ?_ | refine awp_skip ?_ | refine awp_exit ?_ | refine awp_label ?_); simp only [go_sem, ↓reduceIte, Nat.reduceEqDiff, Nat.reduceAdd, Nat.reduceLeDiff, Nat.reduceBEq, Nat.reduceMul, reduceCtorEq, Int.reduceLE, Int.reduceLT, Int.reduceAdd, Int.reduceSub, Int.reduceNeg, Int.reduceToNat, Int.reduceBEq, ValD.av, bne, hk6, List.length_map]) | (refine awp_cond' rfl (of_decide_eq_true rfl) (fun hc => ?_) (fun hc => ?_) <;> ((try simp only [Bool.not_true, Bool.not_false, Bool.not_eq_true', Bool.not_eq_false', Bool.not_eq_eq_eq_not] at hc); (first | (cases hc) | (simp only [hc]) | skip))))
    · (first | refine awp_ret ?_ | skip); refine ⟨(by first | exact .inl rfl | exact .inr rfl | exact .inr trivial | trivial), ?_⟩; simp only [go_sem, ↓reduceIte, Nat.reduceEqDiff, Nat.reduceAdd, Nat.reduceLeDiff, Nat.reduceBEq, Nat.reduceMul, reduceCtorEq, Int.reduceLE, Int.reduceLT, Int.reduceAdd, Int.reduceSub, Int.reduceNeg, Int.reduceToNat, Int.reduceBEq, retV, resL, resV, sealV, sealC, sealAll, Tryd.f12]
      have hd : decide ((v.l.length : Int) ≤ 16) = false := by have := of_decide_eq_true hc; exact decide_eq_false (by omega)
      rw [validV_list h6, hd, Bool.and_false, Bool.false_and]
    · have hd : decide ((v.l.length : Int) ≤ 16) = true := by have := of_decide_eq_false hc; exact decide_eq_true (by omega)
      have hle : v.l.length ≤ 16 := by have := of_decide_eq_true hd; omega
      have hv : validV v = v.l.all validA := by
        rw [validV_list h6, hd, Bool.and_true]
        have : isA v.a false false false = true := by unfold isA; simp only [*, Bool.false_or, Bool.and_self]
        rw [this, Bool.true_and]
      refine awp_loopw (IW v) v.l.length (SW v 0 _ _) (weak_keep ⟨rfl, rfl, trivial⟩ ⟨rfl, trivial⟩ (Nat.le_refl _)) ⟨0, _, _, Nat.zero_le _, rfl, rfl, rfl⟩ ?_
      clear hg hc
      rintro n st ⟨k, T, e, hk, rfl, hall, rfl⟩
      by_cases hlt : k < v.l.length
      · have hdec := lt_t hlt
        have hget := row_at AtomD.enc v.l k hlt
        have hfa := hf.2 _ (List.getElem_mem hlt)
        have hmem := List.getElem_mem hlt
        have htk := all_take validA v.l k hlt
        have hwk : IntKind.i64.wrap ((k : Int) + 1) = ((k + 1 : Nat) : Int) := wrap_succ (by omega)
        generalize v.l[k] = a at *
        have hca := c_rAtom a hfa
        repeat' (first | refine awp_seq ?_ | refine awp_block ?_ | refine awp_round ?_ | refine awp_scope ?_ | refine awp_text rfl ?_ | refine awp_any rfl mix (by kernel_rfl) ?_ | (refine RunTo.unguard rfl rfl (fun hg => ?_) (fun hg => ?_) <;> ((try simp only [Bool.not_true, Bool.not_false, Bool.not_eq_true', Bool.not_eq_false', Bool.not_eq_eq_eq_not] at hg); (first | (cases hg) | (simp only [hg]) | skip))) | ((first | refine RunTo.plain rfl ?_ | refine RunTo.skipped rfl ?_ | refine RunTo.call (hca) Tryd.func33 rfl rfl rfl rfl rfl rfl rfl rfl ?_); simp only [go_sem, ↓reduceIte, Nat.reduceEqDiff, Nat.reduceAdd, Nat.reduceLeDiff, Nat.reduceBEq, Nat.reduceMul, reduceCtorEq, Int.reduceLE, Int.reduceLT, Int.reduceAdd, Int.reduceSub, Int.reduceNeg, Int.reduceToNat, Int.reduceBEq, hdec, hget, AtomD.enc, hwk, List.length_map]) | ((first | refine RunTo.nilA (by kernel_rfl) ?_ | refine RunTo.nilT ?_ | refine awp_skip ?_ | refine awp_exit ?_ | refine awp_label ?_); simp only [go_sem, ↓reduceIte, Nat.reduceEqDiff, Nat.reduceAdd, Nat.reduceLeDiff, Nat.reduceBEq, Nat.reduceMul, reduceCtorEq, Int.reduceLE, Int.reduceLT, Int.reduceAdd, Int.reduceSub, Int.reduceNeg, Int.reduceToNat, Int.reduceBEq, hdec, hget, AtomD.enc, hwk, List.length_map]) | (refine awp_cond' rfl (of_decide_eq_true rfl) (fun hc => ?_) (fun hc => ?_) <;> ((try simp only [Bool.not_true, Bool.not_false, Bool.not_eq_true', Bool.not_eq_false', Bool.not_eq_eq_eq_not] at hc); (first | (cases hc) | (simp only [hc]) | skip))))
        all_goals
          (try simp only [decide_eq_true_eq, decide_eq_false_iff_not, beq_iff_eq, bne_iff_ne, ne_eq, beq_eq_false_iff_ne, bne_eq_false_iff_eq, Bool.and_eq_true, Bool.or_eq_true, Bool.or_eq_false_iff, Bool.and_eq_false_iff] at *)
          first
          | exact ⟨v.l.length - (k + 1), by omega, SW v (k + 1) _ e, weak_keep ⟨rfl, rfl, trivial⟩ ⟨rfl, trivial⟩ (Nat.le_refl _), k + 1, _, _, by omega, rfl, by rw [htk, hall]; simp [*], rfl⟩
          | (have h2 : v.l.all validA = false := by
               cases hh : v.l.all validA with
               | false => rfl
               | true => have := List.all_eq_true.1 hh a hmem; simp_all
             rw [hv, h2]
             (first | refine awp_ret ?_ | skip); refine ⟨(by first | exact .inl rfl | exact .inr rfl | exact .inr trivial | trivial), ?_⟩; simp only [go_sem, ↓reduceIte, Nat.reduceEqDiff, Nat.reduceAdd, Nat.reduceLeDiff, Nat.reduceBEq, Nat.reduceMul, reduceCtorEq, Int.reduceLE, Int.reduceLT, Int.reduceAdd, Int.reduceSub, Int.reduceNeg, Int.reduceToNat, Int.reduceBEq, retV, resL, resV, sealV, sealC, sealAll, Tryd.f12])
      · have hdec := lt_f hlt
        rw [List.take_of_length_le (by omega)] at hall
        repeat' (first | refine awp_seq ?_ | refine awp_block ?_ | refine awp_round ?_ | refine awp_scope ?_ | refine awp_text rfl ?_ | refine awp_any rfl mix (by kernel_rfl) ?_ | (refine RunTo.unguard rfl rfl (fun hg => ?_) (fun hg => ?_) <;> ((try simp only [Bool.not_true, Bool.not_false, Bool.not_eq_true', Bool.not_eq_false', Bool.not_eq_eq_eq_not] at hg); (first | (cases hg) | (simp only [hg]) | skip))) | ((first | refine RunTo.plain rfl ?_ | refine RunTo.skipped rfl ?_); simp only [go_sem, ↓reduceIte, Nat.reduceEqDiff, Nat.reduceAdd, Nat.reduceLeDiff, Nat.reduceBEq, Nat.reduceMul, reduceCtorEq, Int.reduceLE, Int.reduceLT, Int.reduceAdd, Int.reduceSub, Int.reduceNeg, Int.reduceToNat, Int.reduceBEq, hdec, List.length_map]) | ((first | refine RunTo.nilA (by kernel_rfl) ?_ | refine RunTo.nilT ?_ | refine awp_skip ?_ | refine awp_exit ?_ | refine awp_label ?_); simp only [go_sem, ↓reduceIte, Nat.reduceEqDiff, Nat.reduceAdd, Nat.reduceLeDiff, Nat.reduceBEq, Nat.reduceMul, reduceCtorEq, Int.reduceLE, Int.reduceLT, Int.reduceAdd, Int.reduceSub, Int.reduceNeg, Int.reduceToNat, Int.reduceBEq, hdec, List.length_map]) | (refine awp_cond' rfl (of_decide_eq_true rfl) (fun hc => ?_) (fun hc => ?_) <;> ((try simp only [Bool.not_true, Bool.not_false, Bool.not_eq_true', Bool.not_eq_false', Bool.not_eq_eq_eq_not] at hc); (first | (cases hc) | (simp only [hc]) | skip))))
        all_goals
          (first | refine awp_ret ?_ | skip); refine ⟨(by first | exact .inl rfl | exact .inr rfl | exact .inr trivial | trivial), ?_⟩; simp only [go_sem, ↓reduceIte, Nat.reduceEqDiff, Nat.reduceAdd, Nat.reduceLeDiff, Nat.reduceBEq, Nat.reduceMul, reduceCtorEq, Int.reduceLE, Int.reduceLT, Int.reduceAdd, Int.reduceSub, Int.reduceNeg, Int.reduceToNat, Int.reduceBEq, retV, resL, resV, sealV, sealC, sealAll, Tryd.f12]
          rw [hv, hall]
    · (first | refine awp_ret ?_ | skip); refine ⟨(by first | exact .inl rfl | exact .inr rfl | exact .inr trivial | trivial), ?_⟩; simp only [go_sem, ↓reduceIte, Nat.reduceEqDiff, Nat.reduceAdd, Nat.reduceLeDiff, Nat.reduceBEq, Nat.reduceMul, reduceCtorEq, Int.reduceLE, Int.reduceLT, Int.reduceAdd, Int.reduceSub, Int.reduceNeg, Int.reduceToNat, Int.reduceBEq, retV, resL, resV, sealV, sealC, sealAll, Tryd.f12]
      rw [validV_list h6]
      unfold isA
      simp only [*, Bool.false_or, Bool.and_false, Bool.false_and, Bool.and_true]
    · (first | refine awp_ret ?_ | skip); refine ⟨(by first | exact .inl rfl | exact .inr rfl | exact .inr trivial | trivial), ?_⟩; simp only [go_sem, ↓reduceIte, Nat.reduceEqDiff, Nat.reduceAdd, Nat.reduceLeDiff, Nat.reduceBEq, Nat.reduceMul, reduceCtorEq, Int.reduceLE, Int.reduceLT, Int.reduceAdd, Int.reduceSub, Int.reduceNeg, Int.reduceToNat, Int.reduceBEq, retV, resL, resV, sealV, sealC, sealAll, Tryd.f12]
      rw [validV_list h6]
      unfold isA
      simp only [*, Bool.false_or, Bool.and_false, Bool.false_and, Bool.and_true]
    · (first | refine awp_ret ?_ | skip); refine ⟨(by first | exact .inl rfl | exact .inr rfl | exact .inr trivial | trivial), ?_⟩; simp only [go_sem, ↓reduceIte, Nat.reduceEqDiff, Nat.reduceAdd, Nat.reduceLeDiff, Nat.reduceBEq, Nat.reduceMul, reduceCtorEq, Int.reduceLE, Int.reduceLT, Int.reduceAdd, Int.reduceSub, Int.reduceNeg, Int.reduceToNat, Int.reduceBEq, retV, resL, resV, sealV, sealC, sealAll, Tryd.f12]
      rw [validV_list h6]
      unfold isA
      simp only [*, Bool.false_or, Bool.and_false, Bool.false_and, Bool.and_true]
  · have hk6 : (v.a.k == 6) = false := by simpa using h6
    refine pure_of_awp Tryd.func12 rfl rfl (by simp [Tryd.f12]) ?_; simp only [go_sem, ↓reduceIte, Nat.reduceEqDiff, Nat.reduceAdd, Nat.reduceLeDiff, Nat.reduceBEq, Nat.reduceMul, reduceCtorEq, Int.reduceLE, Int.reduceLT, Int.reduceAdd, Int.reduceSub, Int.reduceNeg, Int.reduceToNat, Int.reduceBEq]
    repeat' (first | refine awp_seq ?_ | refine awp_block ?_ | refine awp_round ?_ | refine awp_scope ?_ | refine awp_text rfl ?_ | refine awp_any rfl mix (by kernel_rfl) ?_ | (refine RunTo.unguard rfl rfl (fun hg => ?_) (fun hg => ?_) <;> ((try simp only [Bool.not_true, Bool.not_false, Bool.not_eq_true', Bool.not_eq_false', Bool.not_eq_eq_eq_not] at hg); (first | (cases hg) | (simp only [hg]) | skip))) | ((first | refine RunTo.plain rfl ?_ | refine RunTo.skipped rfl ?_ | refine RunTo.call (ha) Tryd.func33 rfl rfl rfl rfl rfl rfl rfl rfl ?_); simp only [go_sem, ↓reduceIte, Nat.reduceEqDiff, Nat.reduceAdd, Nat.reduceLeDiff, Nat.reduceBEq, Nat.reduceMul, reduceCtorEq, Int.reduceLE, Int.reduceLT, Int.reduceAdd, Int.reduceSub, Int.reduceNeg, Int.reduceToNat, Int.reduceBEq, ValD.av, bne, hk6, List.length_map]) | ((first | refine RunTo.nilA (by kernel_rfl) ?_ | refine RunTo.nilT ?_ | refine awp_skip ?_ | refine awp_exit ?_ | refine awp_label ?_); simp only [go_sem, ↓reduceIte, Nat.reduceEqDiff, Nat.reduceAdd, Nat.reduceLeDiff, Nat.reduceBEq, Nat.reduceMul, reduceCtorEq, Int.reduceLE, Int.reduceLT, Int.reduceAdd, Int.reduceSub, Int.reduceNeg, Int.reduceToNat, Int.reduceBEq, ValD.av, bne, hk6, List.length_map]) | (refine awp_cond' rfl (of_decide_eq_true rfl) (fun hc => ?_) (fun hc => ?_) <;> ((try simp only [Bool.not_true, Bool.not_false, Bool.not_eq_true', Bool.not_eq_false', Bool.not_eq_eq_eq_not] at hc); (first | (cases hc) | (simp only [hc]) | skip))))
    all_goals
      (first | refine awp_ret ?_ | skip); refine ⟨(by first | exact .inl rfl | exact .inr rfl | exact .inr trivial | trivial), ?_⟩; simp only [go_sem, ↓reduceIte, Nat.reduceEqDiff, Nat.reduceAdd, Nat.reduceLeDiff, Nat.reduceBEq, Nat.reduceMul, reduceCtorEq, Int.reduceLE, Int.reduceLT, Int.reduceAdd, Int.reduceSub, Int.reduceNeg, Int.reduceToNat, Int.reduceBEq, retV, resL, resV, sealV, sealC, sealAll, Tryd.f12]
      rw [validV_atom h6]
      simp [*]
end Go.Proofs.YtjihcldhjpdnmaaDoor.AM
namespace Go.Proofs.YtjihcldhjpdnmaaDoor.AM
open Go.RowKit FL
set_option linter.unusedSimpArgs false
set_option linter.unusedVariables false
set_option maxRecDepth 10000
set_option maxHeartbeats 0
def kinA (a : AtomD) : Prop := i64B a.k ∧ i64B a.n ∧ a.f < 18446744073709551616
def kinV (v : ValD) : Prop := kinA v.a ∧ ∀ a ∈ v.l, kinA a
def hA (a b : AtomD) : Prop := rankA a = rankA b → numA a = false → a.n = b.n ∨ a.s = b.s
end Go.Proofs.YtjihcldhjpdnmaaDoor.AM
namespace Go.Proofs.YtjihcldhjpdnmaaDoor.AM
open Go.RowKit FL
set_option linter.unusedSimpArgs false
set_option linter.unusedVariables false
set_option maxRecDepth 10000
set_option maxHeartbeats 0
theorem kin_fl {v : ValD} (h : kinV v) : flV v := ⟨h.1.2.2, fun a ha => (h.2 a ha).2.2⟩
end Go.Proofs.YtjihcldhjpdnmaaDoor.AM
namespace Go.Proofs.YtjihcldhjpdnmaaDoor.AM
open Go.RowKit FL
set_option linter.unusedSimpArgs false
set_option linter.unusedVariables false
set_option maxRecDepth 10000
set_option maxHeartbeats 0
def szV (v : ValD) (k : Nat) : Nat := v.a.s.size + 10 * v.l.length + ((v.l.take k).map (·.s.size)).sum
def shortV (v : ValD) : Bool := decide (szV v v.l.length < 6000)
def bigV (v : ValD) : Prop := v.a.s.size ≤ 140737488351232 ∧ v.l.length ≤ 140737488351232 ∧ ∀ a ∈ v.l, a.s.size ≤ 140737488351232
theorem szV_step (v : ValD) (k : Nat) (h : k < v.l.length) : szV v (k + 1) = szV v k + v.l[k].s.size := by
  unfold szV
  rw [List.take_succ_eq_append_getElem h, List.map_append, List.sum_append]
  simp
  omega
theorem szV_mono (v : ValD) {j k : Nat} (h : j ≤ k) : szV v j ≤ szV v k := by
  unfold szV
  have : ((v.l.take j).map (·.s.size)).sum ≤ ((v.l.take k).map (·.s.size)).sum := by
    have e : v.l.take j = (v.l.take k).take j := by rw [List.take_take, Nat.min_eq_left h]
    rw [e]
    generalize v.l.take k = l
    clear e h
    induction l generalizing j with
    | nil => simp
    | cons x l ih =>
      cases j with
      | zero => simp
      | succ j => simp only [List.take_succ_cons, List.map_cons, List.sum_cons]; have := ih (j := j); omega
  omega
abbrev SSh (v : ValD) (n k T e : Nat) : St := ⟨[(3, iv n), (4, iv k), (1, .ptr 1 e 0 0)], [(1, .box e (cellsV v))], T⟩
def ISh (v : ValD) (m : Nat) (st : St) : Prop := ∃ k T e, k ≤ v.l.length ∧ m = v.l.length - k ∧ st = SSh v (szV v k) k T e
theorem c_short (v : ValD) (hb : bigV v) : Pure Tryd.prog 10 [v.av] (bv (shortV v)) := by
  have w0 : IntKind.i64.wrap (10 * (v.l.length : Int)) = ((10 * v.l.length : Nat) : Int) := by rw [IntWalk.i64_in _ (by have := hb.2.1; omega)]; omega
  have w1 : IntKind.i64.wrap ((v.a.s.size : Int) + ((10 * v.l.length : Nat) : Int)) = ((szV v 0 : Nat) : Int) := by
    rw [IntWalk.i64_in _ (by have := hb.2.1; have := hb.1; omega)]; unfold szV; simp
  refine pure_of_awp Tryd.func10 rfl rfl (by simp [Tryd.f10]) ?_; simp only [go_sem, ↓reduceIte, Nat.reduceEqDiff, Nat.reduceAdd, Nat.reduceLeDiff, Nat.reduceBEq, Nat.reduceMul, reduceCtorEq, Int.reduceLE, Int.reduceLT, Int.reduceAdd, Int.reduceSub, Int.reduceNeg, Int.reduceToNat, Int.reduceBEq]
  repeat' (first | refine awp_seq ?_ | refine awp_block ?_ | refine awp_round ?_ | refine awp_scope ?_ | refine awp_text rfl ?_ | refine awp_any rfl mix (by kernel_rfl) ?_ | (refine RunTo.unguard rfl rfl (fun hg => ?_) (fun hg => ?_) <;> ((try simp only [Bool.not_true, Bool.not_false, Bool.not_eq_true', Bool.not_eq_false', Bool.not_eq_eq_eq_not] at hg); (first | (cases hg) | (simp only [hg]) | skip))) | ((first | refine RunTo.plain rfl ?_ | refine RunTo.skipped rfl ?_); simp only [go_sem, ↓reduceIte, Nat.reduceEqDiff, Nat.reduceAdd, Nat.reduceLeDiff, Nat.reduceBEq, Nat.reduceMul, reduceCtorEq, Int.reduceLE, Int.reduceLT, Int.reduceAdd, Int.reduceSub, Int.reduceNeg, Int.reduceToNat, Int.reduceBEq, ValD.av, AtomD.av, List.length_map, w0, w1]) | ((first | refine RunTo.nilA (by kernel_rfl) ?_ | refine RunTo.nilT ?_ | refine awp_skip ?_ | refine awp_exit ?_ | refine awp_label ?_); simp only [go_sem, ↓reduceIte, Nat.reduceEqDiff, Nat.reduceAdd, Nat.reduceLeDiff, Nat.reduceBEq, Nat.reduceMul, reduceCtorEq, Int.reduceLE, Int.reduceLT, Int.reduceAdd, Int.reduceSub, Int.reduceNeg, Int.reduceToNat, Int.reduceBEq, ValD.av, AtomD.av, List.length_map, w0, w1]) | (refine awp_cond' rfl (of_decide_eq_true rfl) (fun hc => ?_) (fun hc => ?_) <;> ((try simp only [Bool.not_true, Bool.not_false, Bool.not_eq_true', Bool.not_eq_false', Bool.not_eq_eq_eq_not] at hc); (first | (cases hc) | (simp only [hc]) | skip))))
  refine awp_loopw (ISh v) v.l.length (SSh v (szV v 0) 0 _ _) (weak_keep ⟨rfl, rfl, rfl, trivial⟩ ⟨rfl, trivial⟩ (Nat.le_refl _)) ⟨0, _, _, Nat.zero_le _, rfl, rfl⟩ ?_
  rintro m st ⟨k, T, e, hk, rfl, rfl⟩
  by_cases hlt : k < v.l.length
  · have hdec := lt_t hlt
    have hget := row_at AtomD.enc v.l k hlt
    have hsz := szV_step v k hlt
    have hbk := hb.2.2 _ (List.getElem_mem hlt)
    by_cases h6 : szV v k < 6000
    · have hd6 : decide ((szV v k : Int) < 6000) = true := decide_eq_true (by omega)
      have hwk : IntKind.i64.wrap ((k : Int) + 1) = ((k + 1 : Nat) : Int) := wrap_succ (by have := hb.2.1; omega)
      have hwn : IntKind.i64.wrap ((szV v k : Int) + (v.l[k].s.size : Int)) = ((szV v (k + 1) : Nat) : Int) := by rw [IntWalk.i64_in _ (by omega)]; omega
      generalize v.l[k] = x at *
      repeat' (first | refine awp_seq ?_ | refine awp_block ?_ | refine awp_round ?_ | refine awp_scope ?_ | refine awp_text rfl ?_ | refine awp_any rfl mix (by kernel_rfl) ?_ | (refine RunTo.unguard rfl rfl (fun hg => ?_) (fun hg => ?_) <;> ((try simp only [Bool.not_true, Bool.not_false, Bool.not_eq_true', Bool.not_eq_false', Bool.not_eq_eq_eq_not] at hg); (first | (cases hg) | (simp only [hg]) | skip))) | ((first | refine RunTo.plain rfl ?_ | refine RunTo.skipped rfl ?_); simp only [go_sem, ↓reduceIte, Nat.reduceEqDiff, Nat.reduceAdd, Nat.reduceLeDiff, Nat.reduceBEq, Nat.reduceMul, reduceCtorEq, Int.reduceLE, Int.reduceLT, Int.reduceAdd, Int.reduceSub, Int.reduceNeg, Int.reduceToNat, Int.reduceBEq, hdec, hd6, hget, AtomD.enc, hwk, hwn, List.length_map]) | ((first | refine RunTo.nilA (by kernel_rfl) ?_ | refine RunTo.nilT ?_ | refine awp_skip ?_ | refine awp_exit ?_ | refine awp_label ?_); simp only [go_sem, ↓reduceIte, Nat.reduceEqDiff, Nat.reduceAdd, Nat.reduceLeDiff, Nat.reduceBEq, Nat.reduceMul, reduceCtorEq, Int.reduceLE, Int.reduceLT, Int.reduceAdd, Int.reduceSub, Int.reduceNeg, Int.reduceToNat, Int.reduceBEq, hdec, hd6, hget, AtomD.enc, hwk, hwn, List.length_map]) | (refine awp_cond' rfl (of_decide_eq_true rfl) (fun hc => ?_) (fun hc => ?_) <;> ((try simp only [Bool.not_true, Bool.not_false, Bool.not_eq_true', Bool.not_eq_false', Bool.not_eq_eq_eq_not] at hc); (first | (cases hc) | (simp only [hc]) | skip))))
      all_goals exact ⟨v.l.length - (k + 1), by omega, SSh v (szV v (k + 1)) (k + 1) _ e, weak_keep ⟨rfl, rfl, rfl, trivial⟩ ⟨rfl, trivial⟩ (Nat.le_refl _), k + 1, _, _, by omega, rfl, rfl⟩
    · have hd6 : decide ((szV v k : Int) < 6000) = false := decide_eq_false (by omega)
      have hm := szV_mono v hk
      repeat' (first | refine awp_seq ?_ | refine awp_block ?_ | refine awp_round ?_ | refine awp_scope ?_ | refine awp_text rfl ?_ | refine awp_any rfl mix (by kernel_rfl) ?_ | (refine RunTo.unguard rfl rfl (fun hg => ?_) (fun hg => ?_) <;> ((try simp only [Bool.not_true, Bool.not_false, Bool.not_eq_true', Bool.not_eq_false', Bool.not_eq_eq_eq_not] at hg); (first | (cases hg) | (simp only [hg]) | skip))) | ((first | refine RunTo.plain rfl ?_ | refine RunTo.skipped rfl ?_); simp only [go_sem, ↓reduceIte, Nat.reduceEqDiff, Nat.reduceAdd, Nat.reduceLeDiff, Nat.reduceBEq, Nat.reduceMul, reduceCtorEq, Int.reduceLE, Int.reduceLT, Int.reduceAdd, Int.reduceSub, Int.reduceNeg, Int.reduceToNat, Int.reduceBEq, hdec, hd6, List.length_map]) | ((first | refine RunTo.nilA (by kernel_rfl) ?_ | refine RunTo.nilT ?_ | refine awp_skip ?_ | refine awp_exit ?_ | refine awp_label ?_); simp only [go_sem, ↓reduceIte, Nat.reduceEqDiff, Nat.reduceAdd, Nat.reduceLeDiff, Nat.reduceBEq, Nat.reduceMul, reduceCtorEq, Int.reduceLE, Int.reduceLT, Int.reduceAdd, Int.reduceSub, Int.reduceNeg, Int.reduceToNat, Int.reduceBEq, hdec, hd6, List.length_map]) | (refine awp_cond' rfl (of_decide_eq_true rfl) (fun hc => ?_) (fun hc => ?_) <;> ((try simp only [Bool.not_true, Bool.not_false, Bool.not_eq_true', Bool.not_eq_false', Bool.not_eq_eq_eq_not] at hc); (first | (cases hc) | (simp only [hc]) | skip))))
      all_goals
        (first | refine awp_ret ?_ | skip); refine ⟨(by first | exact .inl rfl | exact .inr rfl | exact .inr trivial | trivial), ?_⟩; simp only [go_sem, ↓reduceIte, Nat.reduceEqDiff, Nat.reduceAdd, Nat.reduceLeDiff, Nat.reduceBEq, Nat.reduceMul, reduceCtorEq, Int.reduceLE, Int.reduceLT, Int.reduceAdd, Int.reduceSub, Int.reduceNeg, Int.reduceToNat, Int.reduceBEq, retV, resL, resV, sealV, sealC, sealAll, Tryd.f10]
        rw [show shortV v = false from decide_eq_false (by omega)]
  · have hdec := lt_f hlt
    obtain rfl : k = v.l.length := by omega
    repeat' (first | refine awp_seq ?_ | refine awp_block ?_ | refine awp_round ?_ | refine awp_scope ?_ | refine awp_text rfl ?_ | refine awp_any rfl mix (by kernel_rfl) ?_ | (refine RunTo.unguard rfl rfl (fun hg => ?_) (fun hg => ?_) <;> ((try simp only [Bool.not_true, Bool.not_false, Bool.not_eq_true', Bool.not_eq_false', Bool.not_eq_eq_eq_not] at hg); (first | (cases hg) | (simp only [hg]) | skip))) | ((first | refine RunTo.plain rfl ?_ | refine RunTo.skipped rfl ?_); simp only [go_sem, ↓reduceIte, Nat.reduceEqDiff, Nat.reduceAdd, Nat.reduceLeDiff, Nat.reduceBEq, Nat.reduceMul, reduceCtorEq, Int.reduceLE, Int.reduceLT, Int.reduceAdd, Int.reduceSub, Int.reduceNeg, Int.reduceToNat, Int.reduceBEq, hdec, List.length_map]) | ((first | refine RunTo.nilA (by kernel_rfl) ?_ | refine RunTo.nilT ?_ | refine awp_skip ?_ | refine awp_exit ?_ | refine awp_label ?_); simp only [go_sem, ↓reduceIte, Nat.reduceEqDiff, Nat.reduceAdd, Nat.reduceLeDiff, Nat.reduceBEq, Nat.reduceMul, reduceCtorEq, Int.reduceLE, Int.reduceLT, Int.reduceAdd, Int.reduceSub, Int.reduceNeg, Int.reduceToNat, Int.reduceBEq, hdec, List.length_map]) | (refine awp_cond' rfl (of_decide_eq_true rfl) (fun hc => ?_) (fun hc => ?_) <;> ((try simp only [Bool.not_true, Bool.not_false, Bool.not_eq_true', Bool.not_eq_false', Bool.not_eq_eq_eq_not] at hc); (first | (cases hc) | (simp only [hc]) | skip))))
    all_goals
      (first | refine awp_ret ?_ | skip); refine ⟨(by first | exact .inl rfl | exact .inr rfl | exact .inr trivial | trivial), ?_⟩; simp only [go_sem, ↓reduceIte, Nat.reduceEqDiff, Nat.reduceAdd, Nat.reduceLeDiff, Nat.reduceBEq, Nat.reduceMul, reduceCtorEq, Int.reduceLE, Int.reduceLT, Int.reduceAdd, Int.reduceSub, Int.reduceNeg, Int.reduceToNat, Int.reduceBEq, retV, resL, resV, sealV, sealC, sealAll, Tryd.f10]
      simp [shortV]
      try omega
theorem short_ok {v : ValD} (h : shortV v = true) : v.a.s.size < 6000 ∧ v.l.length < 600 ∧ ∀ a ∈ v.l, a.s.size < 6000 := by
  have h1 : szV v v.l.length < 6000 := of_decide_eq_true h
  unfold szV at h1
  rw [List.take_length] at h1
  refine ⟨by omega, by omega, fun a ha => ?_⟩
  have key : ∀ (l : List AtomD), a ∈ l → a.s.size ≤ (l.map (·.s.size)).sum := by
    intro l
    induction l with
    | nil => intro h; cases h
    | cons x l ih =>
      intro h
      rw [List.map_cons, List.sum_cons]
      rcases List.mem_cons.1 h with rfl | h
      · omega
      · have := ih h; omega
  have := key _ ha
  omega
theorem ok_kin {v : ValD} (h : kinV v) (hs : shortV v = true) : okV v := by
  obtain ⟨h1, h2, h3⟩ := short_ok hs
  exact ⟨⟨h.1.2.1, by omega⟩, fun a ha => ⟨(h.2 a ha).2.1, by have := h3 a ha; omega⟩⟩
abbrev nulD : ValD := ⟨⟨0, 0, 0, eE⟩, []⟩
end Go.Proofs.YtjihcldhjpdnmaaDoor.AM
namespace Go.Proofs.YtjihcldhjpdnmaaDoor.AM
open Go.RowKit
set_option linter.unusedSimpArgs false
set_option linter.unusedVariables false
set_option maxRecDepth 10000
set_option maxHeartbeats 0
theorem printA_mid (a : AtomD) (hn : i64B a.n) (hs : a.s.size < 6000) : (printA a).size ≤ 24010 := by
  have hq := quoteS_size a.s
  have hi := Lib.itoa_length_le a.n hn.1 hn.2
  unfold printA
  split
  · cases (a.n == 1) <;> decide
  · split
    · simp only [ByteArray.size, List.size_toArray]; omega
    · split
      · rw [ByteArray.size_append, hexS_size]; show 2 + 16 ≤ _; omega
      · split
        · omega
        · split
          · rw [ByteArray.size_append]; show 1 + _ ≤ _; omega
          · show 4 ≤ _; omega
theorem printV_mid (v : ValD) (hi : i64B v.a.n) (hl : ∀ a ∈ v.l, i64B a.n) (hs : shortV v = true) : (printV v).size ≤ 500000 := by
  obtain ⟨h1, h2, h3⟩ := short_ok hs
  unfold printV
  split
  · rename_i hv
    split
    · rename_i h6
      rw [validV_list h6] at hv
      simp only [Bool.and_eq_true, decide_eq_true_eq] at hv
      have h16 := hv.1.2
      have hj := joinB_le (v.l.map printA) sepB 24010 (fun x hx => by
        obtain ⟨a, ha, rfl⟩ := List.mem_map.1 hx
        exact printA_mid a (hl a ha) (h3 a ha))
      rw [List.length_map, show sepB.size = 2 from rfl] at hj
      rw [ByteArray.size_append, ByteArray.size_append]
      show 1 + _ + 1 ≤ _
      omega
    · have := printA_mid v.a hi h1
      omega
  · decide
theorem c_ReadBack (v : ValD) (kv : kinV v) (hv : validV v = true) (hs : shortV v = true) (m : ByteArray) (hm : m.size ≤ 2000) (hr : m.data.toList.takeWhile dgB = []) (h0 : m.data.toList.head? ≠ some 102 ∨ (printV v).data.toList ≠ [48]) :
    Pure Tryd.prog 21 [sv (printV v ++ m)] (.tup [v.av, iv (printV v).size, iv 0]) ∧ 0 < (printV v).size := by
  have hb := printV_mid v kv.1.2.1 (fun a ha => (kv.2 a ha).2.1) hs
  have hk := readL_back v hv ⟨kv.1.2.1, kv.1.2.2⟩ (fun a ha => ⟨(kv.2 a ha).2.1, (kv.2 a ha).2.2⟩) m.data.toList hr h0
  have h := c_Read (printV v ++ m) (by rw [ByteArray.size_append]; omega)
  rw [ByteArray.data_append, Array.toList_append, hk.1] at h
  exact ⟨h, hk.2⟩
theorem c_PrintZ : Pure Tryd.prog 19 [.agg [iv 0, iv 0, fv 0, sv eE, .dat (.lit (.slice none 0 0))]] (sv nullB) := by
  have h := c_PrintV nulD ⟨⟨by show i64B 0; unfold i64B; decide, by decide⟩, fun a ha => by cases ha⟩
  rw [show printV nulD = nullB by decide +kernel] at h
  exact pure_le h (.cons (.agg (.cons (.refl _) (.cons (.refl _) (.cons (.refl _) (.cons (.refl _) (.cons (.dat (.nil 4)) .nil)))))) .nil)
abbrev spB : ByteArray := ⟨#[32]⟩
abbrev oB : ByteArray := ⟨#[48]⟩
theorem tw_no {m : ByteArray} (h : ∀ h : 0 < m.size, ¬ (48 ≤ (m[0]).toNat ∧ (m[0]).toNat ≤ 57)) : m.data.toList.takeWhile dgB = [] := by
  by_cases h0 : 0 < m.size
  · have e := drop_cons m 0 h0
    rw [List.drop_zero] at e
    rw [e, List.takeWhile_cons, if_neg]
    intro hd
    exact h h0 (dg_bd hd)
  · have e := drop_end m 0 (by omega)
    rw [List.drop_zero] at e
    rw [e]; rfl
theorem hd_no {m : ByteArray} (h : ∀ h : 0 < m.size, (m[0]).toNat ≠ 102) : m.data.toList.head? ≠ some 102 := by
  by_cases h0 : 0 < m.size
  · have e := drop_cons m 0 h0
    rw [List.drop_zero] at e
    rw [e, List.head?_cons]
    intro q
    exact h h0 (by rw [Option.some.inj q]; rfl)
  · have e := drop_end m 0 (by omega)
    rw [List.drop_zero] at e
    rw [e]; simp
theorem c_lawBack (v : ValD) (m : ByteArray) (kv : kinV v) (bv' : bigV v) (hm : m.size ≤ 140737488351232) : Pure Tryd.prog 5 [v.av, sv m] (bv true) := by
  have sa := c_short v bv'
  by_cases hs : shortV v = true
  · by_cases hm1 : 1000 < m.size
    · have d0 : decide ((1000 : Int) < (m.size : Int)) = true := decide_eq_true (by omega)
      rw [hs] at sa
      refine pure_of_awp Tryd.func5 rfl rfl (by simp [Tryd.f5]) ?_; simp only [go_sem, ↓reduceIte, Nat.reduceEqDiff, Nat.reduceAdd, Nat.reduceLeDiff, Nat.reduceBEq, Nat.reduceMul, reduceCtorEq, Int.reduceLE, Int.reduceLT, Int.reduceAdd, Int.reduceSub, Int.reduceNeg, Int.reduceToNat, Int.reduceBEq]
      repeat' (first | refine awp_seq ?_ | refine awp_block ?_ | refine awp_round ?_ | refine awp_scope ?_ | refine awp_text rfl ?_ | refine awp_any rfl mix (by kernel_rfl) ?_ | (refine RunTo.unguard rfl rfl (fun hg => ?_) (fun hg => ?_) <;> ((try simp only [Bool.not_true, Bool.not_false, Bool.not_eq_true', Bool.not_eq_false', Bool.not_eq_eq_eq_not] at hg); (first | (cases hg) | (simp only [hg]) | skip))) | ((first | refine RunTo.plain rfl ?_ | refine RunTo.skipped rfl ?_ | refine RunTo.call (sa) Tryd.func10 rfl rfl rfl rfl rfl rfl rfl rfl ?_); simp only [go_sem, ↓reduceIte, Nat.reduceEqDiff, Nat.reduceAdd, Nat.reduceLeDiff, Nat.reduceBEq, Nat.reduceMul, reduceCtorEq, Int.reduceLE, Int.reduceLT, Int.reduceAdd, Int.reduceSub, Int.reduceNeg, Int.reduceToNat, Int.reduceBEq, ValD.av, d0]) | ((first | refine RunTo.nilA (by kernel_rfl) ?_ | refine RunTo.nilT ?_ | refine awp_skip ?_ | refine awp_exit ?_ | refine awp_label ?_); simp only [go_sem, ↓reduceIte, Nat.reduceEqDiff, Nat.reduceAdd, Nat.reduceLeDiff, Nat.reduceBEq, Nat.reduceMul, reduceCtorEq, Int.reduceLE, Int.reduceLT, Int.reduceAdd, Int.reduceSub, Int.reduceNeg, Int.reduceToNat, Int.reduceBEq, ValD.av, d0]) | (refine awp_cond' rfl (of_decide_eq_true rfl) (fun hc => ?_) (fun hc => ?_) <;> ((try simp only [Bool.not_true, Bool.not_false, Bool.not_eq_true', Bool.not_eq_false', Bool.not_eq_eq_eq_not] at hc); (first | (cases hc) | (simp only [hc]) | skip))))
      all_goals (first | refine awp_ret ?_ | skip); refine ⟨(by first | exact .inl rfl | exact .inr rfl | exact .inr trivial | trivial), ?_⟩; simp only [go_sem, ↓reduceIte, Nat.reduceEqDiff, Nat.reduceAdd, Nat.reduceLeDiff, Nat.reduceBEq, Nat.reduceMul, reduceCtorEq, Int.reduceLE, Int.reduceLT, Int.reduceAdd, Int.reduceSub, Int.reduceNeg, Int.reduceToNat, Int.reduceBEq, retV, resL, resV, sealV, sealC, sealAll, Tryd.f5]
      all_goals rfl
    · have d0 : decide ((1000 : Int) < (m.size : Int)) = false := decide_eq_false (by omega)
      rw [hs] at sa
      have qp := c_PrintV v (ok_kin kv hs)
      have qv := c_rValid v (kin_fl kv)
      by_cases hv : validV v = true
      · rw [hv] at qv
        have hsv := c_SameV v (by have := (short_ok hs).2.1; omega)
        have hpm := printV_mid v kv.1.2.1 (fun a ha => (kv.2 a ha).2.1) hs
        have plain : (∀ h : 0 < m.size, ¬ (48 ≤ (m[0]).toNat ∧ (m[0]).toNat ≤ 57)) → ((∀ h : 0 < m.size, (m[0]).toNat ≠ 102) ∨ printV v ≠ oB) → Pure Tryd.prog 21 [sv (printV v ++ m)] (.tup [v.av, iv (printV v).size, iv 0]) ∧ 0 < (printV v).size := fun h1 h2 =>
          c_ReadBack v kv hv hs m (by omega) (tw_no h1) (h2.imp hd_no (fun h e => h (ByteArray.ext (Array.ext' e))))
        have spaced : Pure Tryd.prog 21 [sv (printV v ++ (spB ++ m))] (.tup [v.av, iv (printV v).size, iv 0]) ∧ 0 < (printV v).size := by
          have e : (spB ++ m).data.toList = 32 :: m.data.toList := by rw [ByteArray.data_append, Array.toList_append]; rfl
          exact c_ReadBack v kv hv hs (spB ++ m) (by rw [ByteArray.size_append]; show 1 + _ ≤ _; omega) (by rw [e, List.takeWhile_cons, if_neg (by decide +kernel)]) (.inl (by rw [e]; simp))
        have f1 : ((#[32] : Array UInt8).size + m.size ≤ 9223372036854775807) = True := eq_true (by show 1 + m.size ≤ _; omega)
        have f2 : ((printV v).size + m.size ≤ 9223372036854775807) = True := eq_true (by omega)
        have f3 : ((printV v).size + ((#[32] : Array UInt8).size + m.size) ≤ 9223372036854775807) = True := eq_true (by show _ + (1 + m.size) ≤ _; omega)
        by_cases h0 : 0 < m.size
        · have d1 : decide ((0 : Int) < (m.size : Int)) = true := decide_eq_true (by omega)
          have hb := byte_at' m 0 h0
          generalize hcc : m[0] = c at *
          by_cases hdg : 48 ≤ c.toNat ∧ c.toNat ≤ 57
          · have d2 : decide ((48 : Int) ≤ (c.toNat : Int)) = true := decide_eq_true (by omega)
            have d3 : decide ((c.toNat : Int) ≤ 57) = true := decide_eq_true (by omega)
            obtain ⟨qr, hp0⟩ := spaced
            have d5 : decide ((0 : Int) < ((printV v).size : Int)) = true := decide_eq_true (by omega)
            refine pure_of_awp Tryd.func5 rfl rfl (by simp [Tryd.f5]) ?_; simp only [go_sem, ↓reduceIte, Nat.reduceEqDiff, Nat.reduceAdd, Nat.reduceLeDiff, Nat.reduceBEq, Nat.reduceMul, reduceCtorEq, Int.reduceLE, Int.reduceLT, Int.reduceAdd, Int.reduceSub, Int.reduceNeg, Int.reduceToNat, Int.reduceBEq]
            repeat' (first | refine awp_seq ?_ | refine awp_block ?_ | refine awp_round ?_ | refine awp_scope ?_ | refine awp_text rfl ?_ | refine awp_any rfl mix (by kernel_rfl) ?_ | (refine RunTo.unguard rfl rfl (fun hg => ?_) (fun hg => ?_) <;> ((try simp only [Bool.not_true, Bool.not_false, Bool.not_eq_true', Bool.not_eq_false', Bool.not_eq_eq_eq_not] at hg); (first | (cases hg) | (simp only [hg]) | skip))) | ((first | refine RunTo.plain rfl ?_ | refine RunTo.skipped rfl ?_ | refine RunTo.call (sa) Tryd.func10 rfl rfl rfl rfl rfl rfl rfl rfl ?_ | refine RunTo.call (qp) Tryd.func19 rfl rfl rfl rfl rfl rfl rfl rfl ?_ | refine RunTo.call (qv) Tryd.func12 rfl rfl rfl rfl rfl rfl rfl rfl ?_ | refine RunTo.call (qr) Tryd.func21 rfl rfl rfl rfl rfl rfl rfl rfl ?_ | refine RunTo.call (hsv) Tryd.func23 rfl rfl rfl rfl rfl rfl rfl rfl ?_); simp only [go_sem, ↓reduceIte, Nat.reduceEqDiff, Nat.reduceAdd, Nat.reduceLeDiff, Nat.reduceBEq, Nat.reduceMul, reduceCtorEq, Int.reduceLE, Int.reduceLT, Int.reduceAdd, Int.reduceSub, Int.reduceNeg, Int.reduceToNat, Int.reduceBEq, ValD.av, Bool.not_true, Bool.not_false, d0, d1, d2, d3, hb, d5, f1, f2, f3, beq_self_eq_true]) | ((first | refine RunTo.nilA (by kernel_rfl) ?_ | refine RunTo.nilT ?_ | refine awp_skip ?_ | refine awp_exit ?_ | refine awp_label ?_); simp only [go_sem, ↓reduceIte, Nat.reduceEqDiff, Nat.reduceAdd, Nat.reduceLeDiff, Nat.reduceBEq, Nat.reduceMul, reduceCtorEq, Int.reduceLE, Int.reduceLT, Int.reduceAdd, Int.reduceSub, Int.reduceNeg, Int.reduceToNat, Int.reduceBEq, ValD.av, Bool.not_true, Bool.not_false, d0, d1, d2, d3, hb, d5, f1, f2, f3, beq_self_eq_true]) | (refine awp_cond' rfl (of_decide_eq_true rfl) (fun hc => ?_) (fun hc => ?_) <;> ((try simp only [Bool.not_true, Bool.not_false, Bool.not_eq_true', Bool.not_eq_false', Bool.not_eq_eq_eq_not] at hc); (first | (cases hc) | (simp only [hc]) | skip))))
            all_goals (first | refine awp_ret ?_ | skip); refine ⟨(by first | exact .inl rfl | exact .inr rfl | exact .inr trivial | trivial), ?_⟩; simp only [go_sem, ↓reduceIte, Nat.reduceEqDiff, Nat.reduceAdd, Nat.reduceLeDiff, Nat.reduceBEq, Nat.reduceMul, reduceCtorEq, Int.reduceLE, Int.reduceLT, Int.reduceAdd, Int.reduceSub, Int.reduceNeg, Int.reduceToNat, Int.reduceBEq, retV, resL, resV, sealV, sealC, sealAll, Tryd.f5]
            all_goals rfl
          · have hne : printV v ≠ oB → ((printV v).toList == oB.toList) = false := fun h => strEq_f h
            have heq : printV v = oB → ((printV v).toList == oB.toList) = true := fun h => strEq_t h
            by_cases hlo : c.toNat < 48
            · have d2 : decide ((48 : Int) ≤ (c.toNat : Int)) = false := decide_eq_false (by omega)
              have c1 := beq_f (show (c.toNat : Int) ≠ 102 by omega)
              by_cases hs0 : printV v = oB
              · have q := heq hs0
                obtain ⟨qr, hp0⟩ := plain (fun _ => by rw [hcc]; exact hdg) (.inl (fun _ => by rw [hcc]; omega))
                have d5 : decide ((0 : Int) < ((printV v).size : Int)) = true := decide_eq_true (by omega)
                refine pure_of_awp Tryd.func5 rfl rfl (by simp [Tryd.f5]) ?_; simp only [go_sem, ↓reduceIte, Nat.reduceEqDiff, Nat.reduceAdd, Nat.reduceLeDiff, Nat.reduceBEq, Nat.reduceMul, reduceCtorEq, Int.reduceLE, Int.reduceLT, Int.reduceAdd, Int.reduceSub, Int.reduceNeg, Int.reduceToNat, Int.reduceBEq]
                repeat' (first | refine awp_seq ?_ | refine awp_block ?_ | refine awp_round ?_ | refine awp_scope ?_ | refine awp_text rfl ?_ | refine awp_any rfl mix (by kernel_rfl) ?_ | (refine RunTo.unguard rfl rfl (fun hg => ?_) (fun hg => ?_) <;> ((try simp only [Bool.not_true, Bool.not_false, Bool.not_eq_true', Bool.not_eq_false', Bool.not_eq_eq_eq_not] at hg); (first | (cases hg) | (simp only [hg]) | skip))) | ((first | refine RunTo.plain rfl ?_ | refine RunTo.skipped rfl ?_ | refine RunTo.call (sa) Tryd.func10 rfl rfl rfl rfl rfl rfl rfl rfl ?_ | refine RunTo.call (qp) Tryd.func19 rfl rfl rfl rfl rfl rfl rfl rfl ?_ | refine RunTo.call (qv) Tryd.func12 rfl rfl rfl rfl rfl rfl rfl rfl ?_ | refine RunTo.call (qr) Tryd.func21 rfl rfl rfl rfl rfl rfl rfl rfl ?_ | refine RunTo.call (hsv) Tryd.func23 rfl rfl rfl rfl rfl rfl rfl rfl ?_); simp only [go_sem, ↓reduceIte, Nat.reduceEqDiff, Nat.reduceAdd, Nat.reduceLeDiff, Nat.reduceBEq, Nat.reduceMul, reduceCtorEq, Int.reduceLE, Int.reduceLT, Int.reduceAdd, Int.reduceSub, Int.reduceNeg, Int.reduceToNat, Int.reduceBEq, ValD.av, Bool.not_true, Bool.not_false, d0, d1, d2, hb, q, c1, d5, f1, f2, f3, beq_self_eq_true]) | ((first | refine RunTo.nilA (by kernel_rfl) ?_ | refine RunTo.nilT ?_ | refine awp_skip ?_ | refine awp_exit ?_ | refine awp_label ?_); simp only [go_sem, ↓reduceIte, Nat.reduceEqDiff, Nat.reduceAdd, Nat.reduceLeDiff, Nat.reduceBEq, Nat.reduceMul, reduceCtorEq, Int.reduceLE, Int.reduceLT, Int.reduceAdd, Int.reduceSub, Int.reduceNeg, Int.reduceToNat, Int.reduceBEq, ValD.av, Bool.not_true, Bool.not_false, d0, d1, d2, hb, q, c1, d5, f1, f2, f3, beq_self_eq_true]) | (refine awp_cond' rfl (of_decide_eq_true rfl) (fun hc => ?_) (fun hc => ?_) <;> ((try simp only [Bool.not_true, Bool.not_false, Bool.not_eq_true', Bool.not_eq_false', Bool.not_eq_eq_eq_not] at hc); (first | (cases hc) | (simp only [hc]) | skip))))
                all_goals (first | refine awp_ret ?_ | skip); refine ⟨(by first | exact .inl rfl | exact .inr rfl | exact .inr trivial | trivial), ?_⟩; simp only [go_sem, ↓reduceIte, Nat.reduceEqDiff, Nat.reduceAdd, Nat.reduceLeDiff, Nat.reduceBEq, Nat.reduceMul, reduceCtorEq, Int.reduceLE, Int.reduceLT, Int.reduceAdd, Int.reduceSub, Int.reduceNeg, Int.reduceToNat, Int.reduceBEq, retV, resL, resV, sealV, sealC, sealAll, Tryd.f5]
                all_goals rfl
              · have q := hne hs0
                obtain ⟨qr, hp0⟩ := plain (fun _ => by rw [hcc]; exact hdg) (.inr hs0)
                have d5 : decide ((0 : Int) < ((printV v).size : Int)) = true := decide_eq_true (by omega)
                refine pure_of_awp Tryd.func5 rfl rfl (by simp [Tryd.f5]) ?_; simp only [go_sem, ↓reduceIte, Nat.reduceEqDiff, Nat.reduceAdd, Nat.reduceLeDiff, Nat.reduceBEq, Nat.reduceMul, reduceCtorEq, Int.reduceLE, Int.reduceLT, Int.reduceAdd, Int.reduceSub, Int.reduceNeg, Int.reduceToNat, Int.reduceBEq]
                repeat' (first | refine awp_seq ?_ | refine awp_block ?_ | refine awp_round ?_ | refine awp_scope ?_ | refine awp_text rfl ?_ | refine awp_any rfl mix (by kernel_rfl) ?_ | (refine RunTo.unguard rfl rfl (fun hg => ?_) (fun hg => ?_) <;> ((try simp only [Bool.not_true, Bool.not_false, Bool.not_eq_true', Bool.not_eq_false', Bool.not_eq_eq_eq_not] at hg); (first | (cases hg) | (simp only [hg]) | skip))) | ((first | refine RunTo.plain rfl ?_ | refine RunTo.skipped rfl ?_ | refine RunTo.call (sa) Tryd.func10 rfl rfl rfl rfl rfl rfl rfl rfl ?_ | refine RunTo.call (qp) Tryd.func19 rfl rfl rfl rfl rfl rfl rfl rfl ?_ | refine RunTo.call (qv) Tryd.func12 rfl rfl rfl rfl rfl rfl rfl rfl ?_ | refine RunTo.call (qr) Tryd.func21 rfl rfl rfl rfl rfl rfl rfl rfl ?_ | refine RunTo.call (hsv) Tryd.func23 rfl rfl rfl rfl rfl rfl rfl rfl ?_); simp only [go_sem, ↓reduceIte, Nat.reduceEqDiff, Nat.reduceAdd, Nat.reduceLeDiff, Nat.reduceBEq, Nat.reduceMul, reduceCtorEq, Int.reduceLE, Int.reduceLT, Int.reduceAdd, Int.reduceSub, Int.reduceNeg, Int.reduceToNat, Int.reduceBEq, ValD.av, Bool.not_true, Bool.not_false, d0, d1, d2, hb, q, c1, d5, f1, f2, f3, beq_self_eq_true]) | ((first | refine RunTo.nilA (by kernel_rfl) ?_ | refine RunTo.nilT ?_ | refine awp_skip ?_ | refine awp_exit ?_ | refine awp_label ?_); simp only [go_sem, ↓reduceIte, Nat.reduceEqDiff, Nat.reduceAdd, Nat.reduceLeDiff, Nat.reduceBEq, Nat.reduceMul, reduceCtorEq, Int.reduceLE, Int.reduceLT, Int.reduceAdd, Int.reduceSub, Int.reduceNeg, Int.reduceToNat, Int.reduceBEq, ValD.av, Bool.not_true, Bool.not_false, d0, d1, d2, hb, q, c1, d5, f1, f2, f3, beq_self_eq_true]) | (refine awp_cond' rfl (of_decide_eq_true rfl) (fun hc => ?_) (fun hc => ?_) <;> ((try simp only [Bool.not_true, Bool.not_false, Bool.not_eq_true', Bool.not_eq_false', Bool.not_eq_eq_eq_not] at hc); (first | (cases hc) | (simp only [hc]) | skip))))
                all_goals (first | refine awp_ret ?_ | skip); refine ⟨(by first | exact .inl rfl | exact .inr rfl | exact .inr trivial | trivial), ?_⟩; simp only [go_sem, ↓reduceIte, Nat.reduceEqDiff, Nat.reduceAdd, Nat.reduceLeDiff, Nat.reduceBEq, Nat.reduceMul, reduceCtorEq, Int.reduceLE, Int.reduceLT, Int.reduceAdd, Int.reduceSub, Int.reduceNeg, Int.reduceToNat, Int.reduceBEq, retV, resL, resV, sealV, sealC, sealAll, Tryd.f5]
                all_goals rfl
            · have d2 : decide ((48 : Int) ≤ (c.toNat : Int)) = true := decide_eq_true (by omega)
              have d3 : decide ((c.toNat : Int) ≤ 57) = false := decide_eq_false (by omega)
              by_cases hs0 : printV v = oB
              · have q := heq hs0
                by_cases hf : c.toNat = 102
                · have c1 := beq_t (show (c.toNat : Int) = 102 by omega)
                  obtain ⟨qr, hp0⟩ := spaced
                  have d5 : decide ((0 : Int) < ((printV v).size : Int)) = true := decide_eq_true (by omega)
                  refine pure_of_awp Tryd.func5 rfl rfl (by simp [Tryd.f5]) ?_; simp only [go_sem, ↓reduceIte, Nat.reduceEqDiff, Nat.reduceAdd, Nat.reduceLeDiff, Nat.reduceBEq, Nat.reduceMul, reduceCtorEq, Int.reduceLE, Int.reduceLT, Int.reduceAdd, Int.reduceSub, Int.reduceNeg, Int.reduceToNat, Int.reduceBEq]
                  repeat' (first | refine awp_seq ?_ | refine awp_block ?_ | refine awp_round ?_ | refine awp_scope ?_ | refine awp_text rfl ?_ | refine awp_any rfl mix (by kernel_rfl) ?_ | (refine RunTo.unguard rfl rfl (fun hg => ?_) (fun hg => ?_) <;> ((try simp only [Bool.not_true, Bool.not_false, Bool.not_eq_true', Bool.not_eq_false', Bool.not_eq_eq_eq_not] at hg); (first | (cases hg) | (simp only [hg]) | skip))) | ((first | refine RunTo.plain rfl ?_ | refine RunTo.skipped rfl ?_ | refine RunTo.call (sa) Tryd.func10 rfl rfl rfl rfl rfl rfl rfl rfl ?_ | refine RunTo.call (qp) Tryd.func19 rfl rfl rfl rfl rfl rfl rfl rfl ?_ | refine RunTo.call (qv) Tryd.func12 rfl rfl rfl rfl rfl rfl rfl rfl ?_ | refine RunTo.call (qr) Tryd.func21 rfl rfl rfl rfl rfl rfl rfl rfl ?_ | refine RunTo.call (hsv) Tryd.func23 rfl rfl rfl rfl rfl rfl rfl rfl ?_); simp only [go_sem, ↓reduceIte, Nat.reduceEqDiff, Nat.reduceAdd, Nat.reduceLeDiff, Nat.reduceBEq, Nat.reduceMul, reduceCtorEq, Int.reduceLE, Int.reduceLT, Int.reduceAdd, Int.reduceSub, Int.reduceNeg, Int.reduceToNat, Int.reduceBEq, ValD.av, Bool.not_true, Bool.not_false, d0, d1, d2, d3, hb, q, c1, d5, f1, f2, f3, beq_self_eq_true]) | ((first | refine RunTo.nilA (by kernel_rfl) ?_ | refine RunTo.nilT ?_ | refine awp_skip ?_ | refine awp_exit ?_ | refine awp_label ?_); simp only [go_sem, ↓reduceIte, Nat.reduceEqDiff, Nat.reduceAdd, Nat.reduceLeDiff, Nat.reduceBEq, Nat.reduceMul, reduceCtorEq, Int.reduceLE, Int.reduceLT, Int.reduceAdd, Int.reduceSub, Int.reduceNeg, Int.reduceToNat, Int.reduceBEq, ValD.av, Bool.not_true, Bool.not_false, d0, d1, d2, d3, hb, q, c1, d5, f1, f2, f3, beq_self_eq_true]) | (refine awp_cond' rfl (of_decide_eq_true rfl) (fun hc => ?_) (fun hc => ?_) <;> ((try simp only [Bool.not_true, Bool.not_false, Bool.not_eq_true', Bool.not_eq_false', Bool.not_eq_eq_eq_not] at hc); (first | (cases hc) | (simp only [hc]) | skip))))
                  all_goals (first | refine awp_ret ?_ | skip); refine ⟨(by first | exact .inl rfl | exact .inr rfl | exact .inr trivial | trivial), ?_⟩; simp only [go_sem, ↓reduceIte, Nat.reduceEqDiff, Nat.reduceAdd, Nat.reduceLeDiff, Nat.reduceBEq, Nat.reduceMul, reduceCtorEq, Int.reduceLE, Int.reduceLT, Int.reduceAdd, Int.reduceSub, Int.reduceNeg, Int.reduceToNat, Int.reduceBEq, retV, resL, resV, sealV, sealC, sealAll, Tryd.f5]
                  all_goals rfl
                · have c1 := beq_f (show (c.toNat : Int) ≠ 102 by omega)
                  obtain ⟨qr, hp0⟩ := plain (fun _ => by rw [hcc]; exact hdg) (.inl (fun _ => by rw [hcc]; exact hf))
                  have d5 : decide ((0 : Int) < ((printV v).size : Int)) = true := decide_eq_true (by omega)
                  refine pure_of_awp Tryd.func5 rfl rfl (by simp [Tryd.f5]) ?_; simp only [go_sem, ↓reduceIte, Nat.reduceEqDiff, Nat.reduceAdd, Nat.reduceLeDiff, Nat.reduceBEq, Nat.reduceMul, reduceCtorEq, Int.reduceLE, Int.reduceLT, Int.reduceAdd, Int.reduceSub, Int.reduceNeg, Int.reduceToNat, Int.reduceBEq]
                  repeat' (first | refine awp_seq ?_ | refine awp_block ?_ | refine awp_round ?_ | refine awp_scope ?_ | refine awp_text rfl ?_ | refine awp_any rfl mix (by kernel_rfl) ?_ | (refine RunTo.unguard rfl rfl (fun hg => ?_) (fun hg => ?_) <;> ((try simp only [Bool.not_true, Bool.not_false, Bool.not_eq_true', Bool.not_eq_false', Bool.not_eq_eq_eq_not] at hg); (first | (cases hg) | (simp only [hg]) | skip))) | ((first | refine RunTo.plain rfl ?_ | refine RunTo.skipped rfl ?_ | refine RunTo.call (sa) Tryd.func10 rfl rfl rfl rfl rfl rfl rfl rfl ?_ | refine RunTo.call (qp) Tryd.func19 rfl rfl rfl rfl rfl rfl rfl rfl ?_ | refine RunTo.call (qv) Tryd.func12 rfl rfl rfl rfl rfl rfl rfl rfl ?_ | refine RunTo.call (qr) Tryd.func21 rfl rfl rfl rfl rfl rfl rfl rfl ?_ | refine RunTo.call (hsv) Tryd.func23 rfl rfl rfl rfl rfl rfl rfl rfl ?_); simp only [go_sem, ↓reduceIte, Nat.reduceEqDiff, Nat.reduceAdd, Nat.reduceLeDiff, Nat.reduceBEq, Nat.reduceMul, reduceCtorEq, Int.reduceLE, Int.reduceLT, Int.reduceAdd, Int.reduceSub, Int.reduceNeg, Int.reduceToNat, Int.reduceBEq, ValD.av, Bool.not_true, Bool.not_false, d0, d1, d2, d3, hb, q, c1, d5, f1, f2, f3, beq_self_eq_true]) | ((first | refine RunTo.nilA (by kernel_rfl) ?_ | refine RunTo.nilT ?_ | refine awp_skip ?_ | refine awp_exit ?_ | refine awp_label ?_); simp only [go_sem, ↓reduceIte, Nat.reduceEqDiff, Nat.reduceAdd, Nat.reduceLeDiff, Nat.reduceBEq, Nat.reduceMul, reduceCtorEq, Int.reduceLE, Int.reduceLT, Int.reduceAdd, Int.reduceSub, Int.reduceNeg, Int.reduceToNat, Int.reduceBEq, ValD.av, Bool.not_true, Bool.not_false, d0, d1, d2, d3, hb, q, c1, d5, f1, f2, f3, beq_self_eq_true]) | (refine awp_cond' rfl (of_decide_eq_true rfl) (fun hc => ?_) (fun hc => ?_) <;> ((try simp only [Bool.not_true, Bool.not_false, Bool.not_eq_true', Bool.not_eq_false', Bool.not_eq_eq_eq_not] at hc); (first | (cases hc) | (simp only [hc]) | skip))))
                  all_goals (first | refine awp_ret ?_ | skip); refine ⟨(by first | exact .inl rfl | exact .inr rfl | exact .inr trivial | trivial), ?_⟩; simp only [go_sem, ↓reduceIte, Nat.reduceEqDiff, Nat.reduceAdd, Nat.reduceLeDiff, Nat.reduceBEq, Nat.reduceMul, reduceCtorEq, Int.reduceLE, Int.reduceLT, Int.reduceAdd, Int.reduceSub, Int.reduceNeg, Int.reduceToNat, Int.reduceBEq, retV, resL, resV, sealV, sealC, sealAll, Tryd.f5]
                  all_goals rfl
              · have q := hne hs0
                obtain ⟨qr, hp0⟩ := plain (fun _ => by rw [hcc]; exact hdg) (.inr hs0)
                have d5 : decide ((0 : Int) < ((printV v).size : Int)) = true := decide_eq_true (by omega)
                refine pure_of_awp Tryd.func5 rfl rfl (by simp [Tryd.f5]) ?_; simp only [go_sem, ↓reduceIte, Nat.reduceEqDiff, Nat.reduceAdd, Nat.reduceLeDiff, Nat.reduceBEq, Nat.reduceMul, reduceCtorEq, Int.reduceLE, Int.reduceLT, Int.reduceAdd, Int.reduceSub, Int.reduceNeg, Int.reduceToNat, Int.reduceBEq]
                repeat' (first | refine awp_seq ?_ | refine awp_block ?_ | refine awp_round ?_ | refine awp_scope ?_ | refine awp_text rfl ?_ | refine awp_any rfl mix (by kernel_rfl) ?_ | (refine RunTo.unguard rfl rfl (fun hg => ?_) (fun hg => ?_) <;> ((try simp only [Bool.not_true, Bool.not_false, Bool.not_eq_true', Bool.not_eq_false', Bool.not_eq_eq_eq_not] at hg); (first | (cases hg) | (simp only [hg]) | skip))) | ((first | refine RunTo.plain rfl ?_ | refine RunTo.skipped rfl ?_ | refine RunTo.call (sa) Tryd.func10 rfl rfl rfl rfl rfl rfl rfl rfl ?_ | refine RunTo.call (qp) Tryd.func19 rfl rfl rfl rfl rfl rfl rfl rfl ?_ | refine RunTo.call (qv) Tryd.func12 rfl rfl rfl rfl rfl rfl rfl rfl ?_ | refine RunTo.call (qr) Tryd.func21 rfl rfl rfl rfl rfl rfl rfl rfl ?_ | refine RunTo.call (hsv) Tryd.func23 rfl rfl rfl rfl rfl rfl rfl rfl ?_); simp only [go_sem, ↓reduceIte, Nat.reduceEqDiff, Nat.reduceAdd, Nat.reduceLeDiff, Nat.reduceBEq, Nat.reduceMul, reduceCtorEq, Int.reduceLE, Int.reduceLT, Int.reduceAdd, Int.reduceSub, Int.reduceNeg, Int.reduceToNat, Int.reduceBEq, ValD.av, Bool.not_true, Bool.not_false, d0, d1, d2, d3, hb, q, d5, f1, f2, f3, beq_self_eq_true]) | ((first | refine RunTo.nilA (by kernel_rfl) ?_ | refine RunTo.nilT ?_ | refine awp_skip ?_ | refine awp_exit ?_ | refine awp_label ?_); simp only [go_sem, ↓reduceIte, Nat.reduceEqDiff, Nat.reduceAdd, Nat.reduceLeDiff, Nat.reduceBEq, Nat.reduceMul, reduceCtorEq, Int.reduceLE, Int.reduceLT, Int.reduceAdd, Int.reduceSub, Int.reduceNeg, Int.reduceToNat, Int.reduceBEq, ValD.av, Bool.not_true, Bool.not_false, d0, d1, d2, d3, hb, q, d5, f1, f2, f3, beq_self_eq_true]) | (refine awp_cond' rfl (of_decide_eq_true rfl) (fun hc => ?_) (fun hc => ?_) <;> ((try simp only [Bool.not_true, Bool.not_false, Bool.not_eq_true', Bool.not_eq_false', Bool.not_eq_eq_eq_not] at hc); (first | (cases hc) | (simp only [hc]) | skip))))
                all_goals (first | refine awp_ret ?_ | skip); refine ⟨(by first | exact .inl rfl | exact .inr rfl | exact .inr trivial | trivial), ?_⟩; simp only [go_sem, ↓reduceIte, Nat.reduceEqDiff, Nat.reduceAdd, Nat.reduceLeDiff, Nat.reduceBEq, Nat.reduceMul, reduceCtorEq, Int.reduceLE, Int.reduceLT, Int.reduceAdd, Int.reduceSub, Int.reduceNeg, Int.reduceToNat, Int.reduceBEq, retV, resL, resV, sealV, sealC, sealAll, Tryd.f5]
                all_goals rfl
        · have d1 : decide ((0 : Int) < (m.size : Int)) = false := decide_eq_false (by omega)
          obtain ⟨qr, hp0⟩ := plain (fun h => absurd h h0) (.inl (fun h => absurd h h0))
          have d5 : decide ((0 : Int) < ((printV v).size : Int)) = true := decide_eq_true (by omega)
          refine pure_of_awp Tryd.func5 rfl rfl (by simp [Tryd.f5]) ?_; simp only [go_sem, ↓reduceIte, Nat.reduceEqDiff, Nat.reduceAdd, Nat.reduceLeDiff, Nat.reduceBEq, Nat.reduceMul, reduceCtorEq, Int.reduceLE, Int.reduceLT, Int.reduceAdd, Int.reduceSub, Int.reduceNeg, Int.reduceToNat, Int.reduceBEq]
          repeat' (first | refine awp_seq ?_ | refine awp_block ?_ | refine awp_round ?_ | refine awp_scope ?_ | refine awp_text rfl ?_ | refine awp_any rfl mix (by kernel_rfl) ?_ | (refine RunTo.unguard rfl rfl (fun hg => ?_) (fun hg => ?_) <;> ((try simp only [Bool.not_true, Bool.not_false, Bool.not_eq_true', Bool.not_eq_false', Bool.not_eq_eq_eq_not] at hg); (first | (cases hg) | (simp only [hg]) | skip))) | ((first | refine RunTo.plain rfl ?_ | refine RunTo.skipped rfl ?_ | refine RunTo.call (sa) Tryd.func10 rfl rfl rfl rfl rfl rfl rfl rfl ?_ | refine RunTo.call (qp) Tryd.func19 rfl rfl rfl rfl rfl rfl rfl rfl ?_ | refine RunTo.call (qv) Tryd.func12 rfl rfl rfl rfl rfl rfl rfl rfl ?_ | refine RunTo.call (qr) Tryd.func21 rfl rfl rfl rfl rfl rfl rfl rfl ?_ | refine RunTo.call (hsv) Tryd.func23 rfl rfl rfl rfl rfl rfl rfl rfl ?_); simp only [go_sem, ↓reduceIte, Nat.reduceEqDiff, Nat.reduceAdd, Nat.reduceLeDiff, Nat.reduceBEq, Nat.reduceMul, reduceCtorEq, Int.reduceLE, Int.reduceLT, Int.reduceAdd, Int.reduceSub, Int.reduceNeg, Int.reduceToNat, Int.reduceBEq, ValD.av, Bool.not_true, Bool.not_false, d0, d1, d5, f1, f2, f3, beq_self_eq_true]) | ((first | refine RunTo.nilA (by kernel_rfl) ?_ | refine RunTo.nilT ?_ | refine awp_skip ?_ | refine awp_exit ?_ | refine awp_label ?_); simp only [go_sem, ↓reduceIte, Nat.reduceEqDiff, Nat.reduceAdd, Nat.reduceLeDiff, Nat.reduceBEq, Nat.reduceMul, reduceCtorEq, Int.reduceLE, Int.reduceLT, Int.reduceAdd, Int.reduceSub, Int.reduceNeg, Int.reduceToNat, Int.reduceBEq, ValD.av, Bool.not_true, Bool.not_false, d0, d1, d5, f1, f2, f3, beq_self_eq_true]) | (refine awp_cond' rfl (of_decide_eq_true rfl) (fun hc => ?_) (fun hc => ?_) <;> ((try simp only [Bool.not_true, Bool.not_false, Bool.not_eq_true', Bool.not_eq_false', Bool.not_eq_eq_eq_not] at hc); (first | (cases hc) | (simp only [hc]) | skip))))
          all_goals (first | refine awp_ret ?_ | skip); refine ⟨(by first | exact .inl rfl | exact .inr rfl | exact .inr trivial | trivial), ?_⟩; simp only [go_sem, ↓reduceIte, Nat.reduceEqDiff, Nat.reduceAdd, Nat.reduceLeDiff, Nat.reduceBEq, Nat.reduceMul, reduceCtorEq, Int.reduceLE, Int.reduceLT, Int.reduceAdd, Int.reduceSub, Int.reduceNeg, Int.reduceToNat, Int.reduceBEq, retV, resL, resV, sealV, sealC, sealAll, Tryd.f5]
          all_goals rfl
      · have hv2 : validV v = false := by simpa using hv
        rw [hv2] at qv
        have e : printV v = eE := by unfold printV; rw [if_neg hv]
        have q := strEq_t e
        have qz := c_PrintZ
        refine pure_of_awp Tryd.func5 rfl rfl (by simp [Tryd.f5]) ?_; simp only [go_sem, ↓reduceIte, Nat.reduceEqDiff, Nat.reduceAdd, Nat.reduceLeDiff, Nat.reduceBEq, Nat.reduceMul, reduceCtorEq, Int.reduceLE, Int.reduceLT, Int.reduceAdd, Int.reduceSub, Int.reduceNeg, Int.reduceToNat, Int.reduceBEq]
        repeat' (first | refine awp_seq ?_ | refine awp_block ?_ | refine awp_round ?_ | refine awp_scope ?_ | refine awp_text rfl ?_ | refine awp_any rfl mix (by kernel_rfl) ?_ | (refine RunTo.unguard rfl rfl (fun hg => ?_) (fun hg => ?_) <;> ((try simp only [Bool.not_true, Bool.not_false, Bool.not_eq_true', Bool.not_eq_false', Bool.not_eq_eq_eq_not] at hg); (first | (cases hg) | (simp only [hg]) | skip))) | ((first | refine RunTo.plain rfl ?_ | refine RunTo.skipped rfl ?_ | refine RunTo.call (sa) Tryd.func10 rfl rfl rfl rfl rfl rfl rfl rfl ?_ | refine RunTo.call (qp) Tryd.func19 rfl rfl rfl rfl rfl rfl rfl rfl ?_ | refine RunTo.call (qv) Tryd.func12 rfl rfl rfl rfl rfl rfl rfl rfl ?_ | refine RunTo.call (qz) Tryd.func19 rfl rfl rfl rfl rfl rfl rfl rfl ?_); simp only [go_sem, ↓reduceIte, Nat.reduceEqDiff, Nat.reduceAdd, Nat.reduceLeDiff, Nat.reduceBEq, Nat.reduceMul, reduceCtorEq, Int.reduceLE, Int.reduceLT, Int.reduceAdd, Int.reduceSub, Int.reduceNeg, Int.reduceToNat, Int.reduceBEq, ValD.av, Bool.not_true, Bool.not_false, d0, q, beq_self_eq_true]) | ((first | refine RunTo.nilA (by kernel_rfl) ?_ | refine RunTo.nilT ?_ | refine awp_skip ?_ | refine awp_exit ?_ | refine awp_label ?_); simp only [go_sem, ↓reduceIte, Nat.reduceEqDiff, Nat.reduceAdd, Nat.reduceLeDiff, Nat.reduceBEq, Nat.reduceMul, reduceCtorEq, Int.reduceLE, Int.reduceLT, Int.reduceAdd, Int.reduceSub, Int.reduceNeg, Int.reduceToNat, Int.reduceBEq, ValD.av, Bool.not_true, Bool.not_false, d0, q, beq_self_eq_true]) | (refine awp_cond' rfl (of_decide_eq_true rfl) (fun hc => ?_) (fun hc => ?_) <;> ((try simp only [Bool.not_true, Bool.not_false, Bool.not_eq_true', Bool.not_eq_false', Bool.not_eq_eq_eq_not] at hc); (first | (cases hc) | (simp only [hc]) | skip))))
        all_goals (first | refine awp_ret ?_ | skip); refine ⟨(by first | exact .inl rfl | exact .inr rfl | exact .inr trivial | trivial), ?_⟩; simp only [go_sem, ↓reduceIte, Nat.reduceEqDiff, Nat.reduceAdd, Nat.reduceLeDiff, Nat.reduceBEq, Nat.reduceMul, reduceCtorEq, Int.reduceLE, Int.reduceLT, Int.reduceAdd, Int.reduceSub, Int.reduceNeg, Int.reduceToNat, Int.reduceBEq, retV, resL, resV, sealV, sealC, sealAll, Tryd.f5]
        all_goals rfl
  · have hs2 : shortV v = false := by simpa using hs
    rw [hs2] at sa
    refine pure_of_awp Tryd.func5 rfl rfl (by simp [Tryd.f5]) ?_; simp only [go_sem, ↓reduceIte, Nat.reduceEqDiff, Nat.reduceAdd, Nat.reduceLeDiff, Nat.reduceBEq, Nat.reduceMul, reduceCtorEq, Int.reduceLE, Int.reduceLT, Int.reduceAdd, Int.reduceSub, Int.reduceNeg, Int.reduceToNat, Int.reduceBEq]
    repeat' (first | refine awp_seq ?_ | refine awp_block ?_ | refine awp_round ?_ | refine awp_scope ?_ | refine awp_text rfl ?_ | refine awp_any rfl mix (by kernel_rfl) ?_ | (refine RunTo.unguard rfl rfl (fun hg => ?_) (fun hg => ?_) <;> ((try simp only [Bool.not_true, Bool.not_false, Bool.not_eq_true', Bool.not_eq_false', Bool.not_eq_eq_eq_not] at hg); (first | (cases hg) | (simp only [hg]) | skip))) | ((first | refine RunTo.plain rfl ?_ | refine RunTo.skipped rfl ?_ | refine RunTo.call (sa) Tryd.func10 rfl rfl rfl rfl rfl rfl rfl rfl ?_); simp only [go_sem, ↓reduceIte, Nat.reduceEqDiff, Nat.reduceAdd, Nat.reduceLeDiff, Nat.reduceBEq, Nat.reduceMul, reduceCtorEq, Int.reduceLE, Int.reduceLT, Int.reduceAdd, Int.reduceSub, Int.reduceNeg, Int.reduceToNat, Int.reduceBEq, ValD.av]) | ((first | refine RunTo.nilA (by kernel_rfl) ?_ | refine RunTo.nilT ?_ | refine awp_skip ?_ | refine awp_exit ?_ | refine awp_label ?_); simp only [go_sem, ↓reduceIte, Nat.reduceEqDiff, Nat.reduceAdd, Nat.reduceLeDiff, Nat.reduceBEq, Nat.reduceMul, reduceCtorEq, Int.reduceLE, Int.reduceLT, Int.reduceAdd, Int.reduceSub, Int.reduceNeg, Int.reduceToNat, Int.reduceBEq, ValD.av]) | (refine awp_cond' rfl (of_decide_eq_true rfl) (fun hc => ?_) (fun hc => ?_) <;> ((try simp only [Bool.not_true, Bool.not_false, Bool.not_eq_true', Bool.not_eq_false', Bool.not_eq_eq_eq_not] at hc); (first | (cases hc) | (simp only [hc]) | skip))))
    all_goals (first | refine awp_ret ?_ | skip); refine ⟨(by first | exact .inl rfl | exact .inr rfl | exact .inr trivial | trivial), ?_⟩; simp only [go_sem, ↓reduceIte, Nat.reduceEqDiff, Nat.reduceAdd, Nat.reduceLeDiff, Nat.reduceBEq, Nat.reduceMul, reduceCtorEq, Int.reduceLE, Int.reduceLT, Int.reduceAdd, Int.reduceSub, Int.reduceNeg, Int.reduceToNat, Int.reduceBEq, retV, resL, resV, sealV, sealC, sealAll, Tryd.f5]
    all_goals rfl
end Go.Proofs.YtjihcldhjpdnmaaDoor.AM
