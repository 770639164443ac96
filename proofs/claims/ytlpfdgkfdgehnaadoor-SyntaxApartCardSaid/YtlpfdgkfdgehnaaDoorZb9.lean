/- Part 9 of the proof: words, contracts, plain laws. Laid by a program of this session (wip/tool/shake.py): what is needed of own and printed texts, in order. -/
import Derived.Test.YtlpfdgkfdgehnaaDoorZb0
import Derived.Test.YtlpfdgkfdgehnaaDoorZb1
import Derived.Test.YtlpfdgkfdgehnaaDoorZb2
import Derived.Test.YtlpfdgkfdgehnaaDoorZb3
import Derived.Test.YtlpfdgkfdgehnaaDoorZb5
import Derived.Test.YtlpfdgkfdgehnaaDoorZb6
import Derived.Test.YtlpfdgkfdgehnaaDoorZb7
import Derived.Test.YtlpfdgkfdgehnaaDoorZb8
import Derived.Calls
import Derived.Lib.ItoaNum
import Derived.Orders
import Derived.Tactics
import Derived.Below
import Derived.Laws.Rows
import Derived.Laws.World
import Derived.Laws.CopyRow
import Derived.Lib.FrozenHead
import Derived.Deep.AppendSrc
import Derived.Deep.Upon
import Derived.Laws.BytesArg
import Derived.IntWalk
import Derived.Laws.Externs
import Derived.LoopN
import Derived.Scope
import Derived.Test.YtlpfdgkfdgehnaaDoorProg
import Derived.KernelRfl
import Derived.MapKept
import Derived.Laws.StructEq
import Derived.Laws.FloatBits
import Derived.Lib.ItoaMem
import Derived.Lib.ItoaLen
import Derived.Lib.Join
import Derived.RegionTactic
import Derived.Lib.AppendIntMem
import Derived.Shelf.Strings.Builder1
import Derived.Shelf.Strings.Builder2
import Derived.Shelf.Strings.OnBuilder
import Derived.Shelf.Small.Wraps
import Derived.Shelf.Strings.BuilderF
import Derived.Shelf.Strings.BuilderK
import Derived.Shelf.Strings.Builder2Cap
import Derived.Shelf.Strconv.Itoa0
import Derived.Shelf.Strconv.Itoa1
import Derived.Shelf.LaysM
import Derived.Shelf.Strconv.Itoa2
import Derived.Shelf.Strconv.Itoa3
import Derived.Shelf.Strings.BuilderCap
import Derived.Shelf.Slices.Turned
namespace Go.Proofs.YtlpfdgkfdgehnaaDoor.AM
open Go.RowKit
set_option linter.unusedSimpArgs false
set_option linter.unusedVariables false
set_option maxRecDepth 10000
set_option maxHeartbeats 0
theorem c_SameQ (a b : QueryD) (h : LawQ a) (hv : ∀ s ∈ a.spots, ∀ p ∈ s.props, p.v.l.length ≤ 1000000) (hw : ∀ t ∈ a.wh, t.v.l.length ≤ 1000000) (hi : ∀ x ∈ a.items, ∀ t ∈ x.terms, t.v.l.length ≤ 1000000) : Pure Tryd.prog 7 [a.av, b.av] (bv (sameQ a b)) := by
  have l1 := h.nspots
  have l2 := h.nhops
  have l3 := h.nitems
  have l4 := h.nsorts
  have ht := c_sameTs a.wh b.wh h.wh.len hw
  unfold sameQ
  generalize c1 : ((a.spots.length : Int) == (b.spots.length : Int)) = z1 at *
  generalize c2 : ((a.hops.length : Int) == (b.hops.length : Int)) = z2 at *
  generalize c3 : ((a.items.length : Int) == (b.items.length : Int)) = z3 at *
  generalize c4 : ((a.sorts.length : Int) == (b.sorts.length : Int)) = z4 at *
  generalize c5 : (a.distinct == b.distinct) = z5 at *
  generalize c6 : (a.skip == b.skip) = z6 at *
  generalize c7 : (a.limit == b.limit) = z7 at *
  generalize sameL sameT a.wh b.wh = z8 at *
  cases z1 with
  | false =>
    simp only [Bool.false_and, Bool.true_and]
    refine pure_of_awp Tryd.func7 rfl rfl (by simp [Tryd.f7]) ?_; simp only [go_sem, ↓reduceIte, Nat.reduceEqDiff, Nat.reduceAdd, Nat.reduceLeDiff, Nat.reduceBEq, Nat.reduceMul, reduceCtorEq, Int.reduceLE, Int.reduceLT, Int.reduceAdd, Int.reduceSub, Int.reduceNeg, Int.reduceToNat, Int.reduceBEq]
    repeat' (first | refine awp_seq ?_ | refine awp_block ?_ | refine awp_round ?_ | refine awp_scope ?_ | refine awp_text rfl ?_ | refine awp_any rfl mix (by kernel_rfl) ?_ | (refine RunTo.unguard rfl rfl (fun hg => ?_) (fun hg => ?_) <;> ((try simp only [Bool.not_true, Bool.not_false, Bool.not_eq_true', Bool.not_eq_false', Bool.not_eq_eq_eq_not] at hg); (first | (cases hg) | (simp only [hg]) | skip))) | ((first | refine RunTo.plain rfl ?_ | refine RunTo.skipped rfl ?_ | refine RunTo.call (ht) Tryd.func19 rfl rfl rfl rfl rfl rfl rfl rfl ?_); simp only [go_sem, ↓reduceIte, Nat.reduceEqDiff, Nat.reduceAdd, Nat.reduceLeDiff, Nat.reduceBEq, Nat.reduceMul, reduceCtorEq, Int.reduceLE, Int.reduceLT, Int.reduceAdd, Int.reduceSub, Int.reduceNeg, Int.reduceToNat, Int.reduceBEq, QueryD.av, c1, c2, c3, c4, c5, c6, c7, List.length_map, bne, Bool.not_true, Bool.not_false]) | ((first | refine RunTo.nilA (by kernel_rfl) ?_ | refine RunTo.nilT ?_ | refine awp_skip ?_ | refine awp_exit ?_ | refine awp_label ?_); simp only [go_sem, ↓reduceIte, Nat.reduceEqDiff, Nat.reduceAdd, Nat.reduceLeDiff, Nat.reduceBEq, Nat.reduceMul, reduceCtorEq, Int.reduceLE, Int.reduceLT, Int.reduceAdd, Int.reduceSub, Int.reduceNeg, Int.reduceToNat, Int.reduceBEq, QueryD.av, c1, c2, c3, c4, c5, c6, c7, List.length_map, bne, Bool.not_true, Bool.not_false]) | (refine awp_cond' rfl (of_decide_eq_true rfl) (fun hc => ?_) (fun hc => ?_) <;> ((try simp only [Bool.not_true, Bool.not_false, Bool.not_eq_true', Bool.not_eq_false', Bool.not_eq_eq_eq_not] at hc); (first | (cases hc) | (simp only [hc]) | skip))))
    all_goals (first | refine awp_ret ?_ | skip); refine ⟨(by first | exact .inl rfl | exact .inr rfl | exact .inr trivial | trivial), ?_⟩; simp only [go_sem, ↓reduceIte, Nat.reduceEqDiff, Nat.reduceAdd, Nat.reduceLeDiff, Nat.reduceBEq, Nat.reduceMul, reduceCtorEq, Int.reduceLE, Int.reduceLT, Int.reduceAdd, Int.reduceSub, Int.reduceNeg, Int.reduceToNat, Int.reduceBEq, retV, resL, resV, sealV, sealC, sealAll, Tryd.f7]
    all_goals rfl
  | true =>
  cases z2 with
  | false =>
    simp only [Bool.false_and, Bool.true_and]
    refine pure_of_awp Tryd.func7 rfl rfl (by simp [Tryd.f7]) ?_; simp only [go_sem, ↓reduceIte, Nat.reduceEqDiff, Nat.reduceAdd, Nat.reduceLeDiff, Nat.reduceBEq, Nat.reduceMul, reduceCtorEq, Int.reduceLE, Int.reduceLT, Int.reduceAdd, Int.reduceSub, Int.reduceNeg, Int.reduceToNat, Int.reduceBEq]
    repeat' (first | refine awp_seq ?_ | refine awp_block ?_ | refine awp_round ?_ | refine awp_scope ?_ | refine awp_text rfl ?_ | refine awp_any rfl mix (by kernel_rfl) ?_ | (refine RunTo.unguard rfl rfl (fun hg => ?_) (fun hg => ?_) <;> ((try simp only [Bool.not_true, Bool.not_false, Bool.not_eq_true', Bool.not_eq_false', Bool.not_eq_eq_eq_not] at hg); (first | (cases hg) | (simp only [hg]) | skip))) | ((first | refine RunTo.plain rfl ?_ | refine RunTo.skipped rfl ?_ | refine RunTo.call (ht) Tryd.func19 rfl rfl rfl rfl rfl rfl rfl rfl ?_); simp only [go_sem, ↓reduceIte, Nat.reduceEqDiff, Nat.reduceAdd, Nat.reduceLeDiff, Nat.reduceBEq, Nat.reduceMul, reduceCtorEq, Int.reduceLE, Int.reduceLT, Int.reduceAdd, Int.reduceSub, Int.reduceNeg, Int.reduceToNat, Int.reduceBEq, QueryD.av, c1, c2, c3, c4, c5, c6, c7, List.length_map, bne, Bool.not_true, Bool.not_false]) | ((first | refine RunTo.nilA (by kernel_rfl) ?_ | refine RunTo.nilT ?_ | refine awp_skip ?_ | refine awp_exit ?_ | refine awp_label ?_); simp only [go_sem, ↓reduceIte, Nat.reduceEqDiff, Nat.reduceAdd, Nat.reduceLeDiff, Nat.reduceBEq, Nat.reduceMul, reduceCtorEq, Int.reduceLE, Int.reduceLT, Int.reduceAdd, Int.reduceSub, Int.reduceNeg, Int.reduceToNat, Int.reduceBEq, QueryD.av, c1, c2, c3, c4, c5, c6, c7, List.length_map, bne, Bool.not_true, Bool.not_false]) | (refine awp_cond' rfl (of_decide_eq_true rfl) (fun hc => ?_) (fun hc => ?_) <;> ((try simp only [Bool.not_true, Bool.not_false, Bool.not_eq_true', Bool.not_eq_false', Bool.not_eq_eq_eq_not] at hc); (first | (cases hc) | (simp only [hc]) | skip))))
    all_goals (first | refine awp_ret ?_ | skip); refine ⟨(by first | exact .inl rfl | exact .inr rfl | exact .inr trivial | trivial), ?_⟩; simp only [go_sem, ↓reduceIte, Nat.reduceEqDiff, Nat.reduceAdd, Nat.reduceLeDiff, Nat.reduceBEq, Nat.reduceMul, reduceCtorEq, Int.reduceLE, Int.reduceLT, Int.reduceAdd, Int.reduceSub, Int.reduceNeg, Int.reduceToNat, Int.reduceBEq, retV, resL, resV, sealV, sealC, sealAll, Tryd.f7]
    all_goals rfl
  | true =>
  cases z3 with
  | false =>
    simp only [Bool.false_and, Bool.true_and]
    refine pure_of_awp Tryd.func7 rfl rfl (by simp [Tryd.f7]) ?_; simp only [go_sem, ↓reduceIte, Nat.reduceEqDiff, Nat.reduceAdd, Nat.reduceLeDiff, Nat.reduceBEq, Nat.reduceMul, reduceCtorEq, Int.reduceLE, Int.reduceLT, Int.reduceAdd, Int.reduceSub, Int.reduceNeg, Int.reduceToNat, Int.reduceBEq]
    repeat' (first | refine awp_seq ?_ | refine awp_block ?_ | refine awp_round ?_ | refine awp_scope ?_ | refine awp_text rfl ?_ | refine awp_any rfl mix (by kernel_rfl) ?_ | (refine RunTo.unguard rfl rfl (fun hg => ?_) (fun hg => ?_) <;> ((try simp only [Bool.not_true, Bool.not_false, Bool.not_eq_true', Bool.not_eq_false', Bool.not_eq_eq_eq_not] at hg); (first | (cases hg) | (simp only [hg]) | skip))) | ((first | refine RunTo.plain rfl ?_ | refine RunTo.skipped rfl ?_ | refine RunTo.call (ht) Tryd.func19 rfl rfl rfl rfl rfl rfl rfl rfl ?_); simp only [go_sem, ↓reduceIte, Nat.reduceEqDiff, Nat.reduceAdd, Nat.reduceLeDiff, Nat.reduceBEq, Nat.reduceMul, reduceCtorEq, Int.reduceLE, Int.reduceLT, Int.reduceAdd, Int.reduceSub, Int.reduceNeg, Int.reduceToNat, Int.reduceBEq, QueryD.av, c1, c2, c3, c4, c5, c6, c7, List.length_map, bne, Bool.not_true, Bool.not_false]) | ((first | refine RunTo.nilA (by kernel_rfl) ?_ | refine RunTo.nilT ?_ | refine awp_skip ?_ | refine awp_exit ?_ | refine awp_label ?_); simp only [go_sem, ↓reduceIte, Nat.reduceEqDiff, Nat.reduceAdd, Nat.reduceLeDiff, Nat.reduceBEq, Nat.reduceMul, reduceCtorEq, Int.reduceLE, Int.reduceLT, Int.reduceAdd, Int.reduceSub, Int.reduceNeg, Int.reduceToNat, Int.reduceBEq, QueryD.av, c1, c2, c3, c4, c5, c6, c7, List.length_map, bne, Bool.not_true, Bool.not_false]) | (refine awp_cond' rfl (of_decide_eq_true rfl) (fun hc => ?_) (fun hc => ?_) <;> ((try simp only [Bool.not_true, Bool.not_false, Bool.not_eq_true', Bool.not_eq_false', Bool.not_eq_eq_eq_not] at hc); (first | (cases hc) | (simp only [hc]) | skip))))
    all_goals (first | refine awp_ret ?_ | skip); refine ⟨(by first | exact .inl rfl | exact .inr rfl | exact .inr trivial | trivial), ?_⟩; simp only [go_sem, ↓reduceIte, Nat.reduceEqDiff, Nat.reduceAdd, Nat.reduceLeDiff, Nat.reduceBEq, Nat.reduceMul, reduceCtorEq, Int.reduceLE, Int.reduceLT, Int.reduceAdd, Int.reduceSub, Int.reduceNeg, Int.reduceToNat, Int.reduceBEq, retV, resL, resV, sealV, sealC, sealAll, Tryd.f7]
    all_goals rfl
  | true =>
  cases z4 with
  | false =>
    simp only [Bool.false_and, Bool.true_and]
    refine pure_of_awp Tryd.func7 rfl rfl (by simp [Tryd.f7]) ?_; simp only [go_sem, ↓reduceIte, Nat.reduceEqDiff, Nat.reduceAdd, Nat.reduceLeDiff, Nat.reduceBEq, Nat.reduceMul, reduceCtorEq, Int.reduceLE, Int.reduceLT, Int.reduceAdd, Int.reduceSub, Int.reduceNeg, Int.reduceToNat, Int.reduceBEq]
    repeat' (first | refine awp_seq ?_ | refine awp_block ?_ | refine awp_round ?_ | refine awp_scope ?_ | refine awp_text rfl ?_ | refine awp_any rfl mix (by kernel_rfl) ?_ | (refine RunTo.unguard rfl rfl (fun hg => ?_) (fun hg => ?_) <;> ((try simp only [Bool.not_true, Bool.not_false, Bool.not_eq_true', Bool.not_eq_false', Bool.not_eq_eq_eq_not] at hg); (first | (cases hg) | (simp only [hg]) | skip))) | ((first | refine RunTo.plain rfl ?_ | refine RunTo.skipped rfl ?_ | refine RunTo.call (ht) Tryd.func19 rfl rfl rfl rfl rfl rfl rfl rfl ?_); simp only [go_sem, ↓reduceIte, Nat.reduceEqDiff, Nat.reduceAdd, Nat.reduceLeDiff, Nat.reduceBEq, Nat.reduceMul, reduceCtorEq, Int.reduceLE, Int.reduceLT, Int.reduceAdd, Int.reduceSub, Int.reduceNeg, Int.reduceToNat, Int.reduceBEq, QueryD.av, c1, c2, c3, c4, c5, c6, c7, List.length_map, bne, Bool.not_true, Bool.not_false]) | ((first | refine RunTo.nilA (by kernel_rfl) ?_ | refine RunTo.nilT ?_ | refine awp_skip ?_ | refine awp_exit ?_ | refine awp_label ?_); simp only [go_sem, ↓reduceIte, Nat.reduceEqDiff, Nat.reduceAdd, Nat.reduceLeDiff, Nat.reduceBEq, Nat.reduceMul, reduceCtorEq, Int.reduceLE, Int.reduceLT, Int.reduceAdd, Int.reduceSub, Int.reduceNeg, Int.reduceToNat, Int.reduceBEq, QueryD.av, c1, c2, c3, c4, c5, c6, c7, List.length_map, bne, Bool.not_true, Bool.not_false]) | (refine awp_cond' rfl (of_decide_eq_true rfl) (fun hc => ?_) (fun hc => ?_) <;> ((try simp only [Bool.not_true, Bool.not_false, Bool.not_eq_true', Bool.not_eq_false', Bool.not_eq_eq_eq_not] at hc); (first | (cases hc) | (simp only [hc]) | skip))))
    all_goals (first | refine awp_ret ?_ | skip); refine ⟨(by first | exact .inl rfl | exact .inr rfl | exact .inr trivial | trivial), ?_⟩; simp only [go_sem, ↓reduceIte, Nat.reduceEqDiff, Nat.reduceAdd, Nat.reduceLeDiff, Nat.reduceBEq, Nat.reduceMul, reduceCtorEq, Int.reduceLE, Int.reduceLT, Int.reduceAdd, Int.reduceSub, Int.reduceNeg, Int.reduceToNat, Int.reduceBEq, retV, resL, resV, sealV, sealC, sealAll, Tryd.f7]
    all_goals rfl
  | true =>
  cases z5 with
  | false =>
    simp only [Bool.false_and, Bool.true_and]
    refine pure_of_awp Tryd.func7 rfl rfl (by simp [Tryd.f7]) ?_; simp only [go_sem, ↓reduceIte, Nat.reduceEqDiff, Nat.reduceAdd, Nat.reduceLeDiff, Nat.reduceBEq, Nat.reduceMul, reduceCtorEq, Int.reduceLE, Int.reduceLT, Int.reduceAdd, Int.reduceSub, Int.reduceNeg, Int.reduceToNat, Int.reduceBEq]
    repeat' (first | refine awp_seq ?_ | refine awp_block ?_ | refine awp_round ?_ | refine awp_scope ?_ | refine awp_text rfl ?_ | refine awp_any rfl mix (by kernel_rfl) ?_ | (refine RunTo.unguard rfl rfl (fun hg => ?_) (fun hg => ?_) <;> ((try simp only [Bool.not_true, Bool.not_false, Bool.not_eq_true', Bool.not_eq_false', Bool.not_eq_eq_eq_not] at hg); (first | (cases hg) | (simp only [hg]) | skip))) | ((first | refine RunTo.plain rfl ?_ | refine RunTo.skipped rfl ?_ | refine RunTo.call (ht) Tryd.func19 rfl rfl rfl rfl rfl rfl rfl rfl ?_); simp only [go_sem, ↓reduceIte, Nat.reduceEqDiff, Nat.reduceAdd, Nat.reduceLeDiff, Nat.reduceBEq, Nat.reduceMul, reduceCtorEq, Int.reduceLE, Int.reduceLT, Int.reduceAdd, Int.reduceSub, Int.reduceNeg, Int.reduceToNat, Int.reduceBEq, QueryD.av, c1, c2, c3, c4, c5, c6, c7, List.length_map, bne, Bool.not_true, Bool.not_false]) | ((first | refine RunTo.nilA (by kernel_rfl) ?_ | refine RunTo.nilT ?_ | refine awp_skip ?_ | refine awp_exit ?_ | refine awp_label ?_); simp only [go_sem, ↓reduceIte, Nat.reduceEqDiff, Nat.reduceAdd, Nat.reduceLeDiff, Nat.reduceBEq, Nat.reduceMul, reduceCtorEq, Int.reduceLE, Int.reduceLT, Int.reduceAdd, Int.reduceSub, Int.reduceNeg, Int.reduceToNat, Int.reduceBEq, QueryD.av, c1, c2, c3, c4, c5, c6, c7, List.length_map, bne, Bool.not_true, Bool.not_false]) | (refine awp_cond' rfl (of_decide_eq_true rfl) (fun hc => ?_) (fun hc => ?_) <;> ((try simp only [Bool.not_true, Bool.not_false, Bool.not_eq_true', Bool.not_eq_false', Bool.not_eq_eq_eq_not] at hc); (first | (cases hc) | (simp only [hc]) | skip))))
    all_goals (first | refine awp_ret ?_ | skip); refine ⟨(by first | exact .inl rfl | exact .inr rfl | exact .inr trivial | trivial), ?_⟩; simp only [go_sem, ↓reduceIte, Nat.reduceEqDiff, Nat.reduceAdd, Nat.reduceLeDiff, Nat.reduceBEq, Nat.reduceMul, reduceCtorEq, Int.reduceLE, Int.reduceLT, Int.reduceAdd, Int.reduceSub, Int.reduceNeg, Int.reduceToNat, Int.reduceBEq, retV, resL, resV, sealV, sealC, sealAll, Tryd.f7]
    all_goals rfl
  | true =>
  cases z6 with
  | false =>
    simp only [Bool.false_and, Bool.true_and]
    refine pure_of_awp Tryd.func7 rfl rfl (by simp [Tryd.f7]) ?_; simp only [go_sem, ↓reduceIte, Nat.reduceEqDiff, Nat.reduceAdd, Nat.reduceLeDiff, Nat.reduceBEq, Nat.reduceMul, reduceCtorEq, Int.reduceLE, Int.reduceLT, Int.reduceAdd, Int.reduceSub, Int.reduceNeg, Int.reduceToNat, Int.reduceBEq]
    repeat' (first | refine awp_seq ?_ | refine awp_block ?_ | refine awp_round ?_ | refine awp_scope ?_ | refine awp_text rfl ?_ | refine awp_any rfl mix (by kernel_rfl) ?_ | (refine RunTo.unguard rfl rfl (fun hg => ?_) (fun hg => ?_) <;> ((try simp only [Bool.not_true, Bool.not_false, Bool.not_eq_true', Bool.not_eq_false', Bool.not_eq_eq_eq_not] at hg); (first | (cases hg) | (simp only [hg]) | skip))) | ((first | refine RunTo.plain rfl ?_ | refine RunTo.skipped rfl ?_ | refine RunTo.call (ht) Tryd.func19 rfl rfl rfl rfl rfl rfl rfl rfl ?_); simp only [go_sem, ↓reduceIte, Nat.reduceEqDiff, Nat.reduceAdd, Nat.reduceLeDiff, Nat.reduceBEq, Nat.reduceMul, reduceCtorEq, Int.reduceLE, Int.reduceLT, Int.reduceAdd, Int.reduceSub, Int.reduceNeg, Int.reduceToNat, Int.reduceBEq, QueryD.av, c1, c2, c3, c4, c5, c6, c7, List.length_map, bne, Bool.not_true, Bool.not_false]) | ((first | refine RunTo.nilA (by kernel_rfl) ?_ | refine RunTo.nilT ?_ | refine awp_skip ?_ | refine awp_exit ?_ | refine awp_label ?_); simp only [go_sem, ↓reduceIte, Nat.reduceEqDiff, Nat.reduceAdd, Nat.reduceLeDiff, Nat.reduceBEq, Nat.reduceMul, reduceCtorEq, Int.reduceLE, Int.reduceLT, Int.reduceAdd, Int.reduceSub, Int.reduceNeg, Int.reduceToNat, Int.reduceBEq, QueryD.av, c1, c2, c3, c4, c5, c6, c7, List.length_map, bne, Bool.not_true, Bool.not_false]) | (refine awp_cond' rfl (of_decide_eq_true rfl) (fun hc => ?_) (fun hc => ?_) <;> ((try simp only [Bool.not_true, Bool.not_false, Bool.not_eq_true', Bool.not_eq_false', Bool.not_eq_eq_eq_not] at hc); (first | (cases hc) | (simp only [hc]) | skip))))
    all_goals (first | refine awp_ret ?_ | skip); refine ⟨(by first | exact .inl rfl | exact .inr rfl | exact .inr trivial | trivial), ?_⟩; simp only [go_sem, ↓reduceIte, Nat.reduceEqDiff, Nat.reduceAdd, Nat.reduceLeDiff, Nat.reduceBEq, Nat.reduceMul, reduceCtorEq, Int.reduceLE, Int.reduceLT, Int.reduceAdd, Int.reduceSub, Int.reduceNeg, Int.reduceToNat, Int.reduceBEq, retV, resL, resV, sealV, sealC, sealAll, Tryd.f7]
    all_goals rfl
  | true =>
  cases z7 with
  | false =>
    simp only [Bool.false_and, Bool.true_and]
    refine pure_of_awp Tryd.func7 rfl rfl (by simp [Tryd.f7]) ?_; simp only [go_sem, ↓reduceIte, Nat.reduceEqDiff, Nat.reduceAdd, Nat.reduceLeDiff, Nat.reduceBEq, Nat.reduceMul, reduceCtorEq, Int.reduceLE, Int.reduceLT, Int.reduceAdd, Int.reduceSub, Int.reduceNeg, Int.reduceToNat, Int.reduceBEq]
    repeat' (first | refine awp_seq ?_ | refine awp_block ?_ | refine awp_round ?_ | refine awp_scope ?_ | refine awp_text rfl ?_ | refine awp_any rfl mix (by kernel_rfl) ?_ | (refine RunTo.unguard rfl rfl (fun hg => ?_) (fun hg => ?_) <;> ((try simp only [Bool.not_true, Bool.not_false, Bool.not_eq_true', Bool.not_eq_false', Bool.not_eq_eq_eq_not] at hg); (first | (cases hg) | (simp only [hg]) | skip))) | ((first | refine RunTo.plain rfl ?_ | refine RunTo.skipped rfl ?_ | refine RunTo.call (ht) Tryd.func19 rfl rfl rfl rfl rfl rfl rfl rfl ?_); simp only [go_sem, ↓reduceIte, Nat.reduceEqDiff, Nat.reduceAdd, Nat.reduceLeDiff, Nat.reduceBEq, Nat.reduceMul, reduceCtorEq, Int.reduceLE, Int.reduceLT, Int.reduceAdd, Int.reduceSub, Int.reduceNeg, Int.reduceToNat, Int.reduceBEq, QueryD.av, c1, c2, c3, c4, c5, c6, c7, List.length_map, bne, Bool.not_true, Bool.not_false]) | ((first | refine RunTo.nilA (by kernel_rfl) ?_ | refine RunTo.nilT ?_ | refine awp_skip ?_ | refine awp_exit ?_ | refine awp_label ?_); simp only [go_sem, ↓reduceIte, Nat.reduceEqDiff, Nat.reduceAdd, Nat.reduceLeDiff, Nat.reduceBEq, Nat.reduceMul, reduceCtorEq, Int.reduceLE, Int.reduceLT, Int.reduceAdd, Int.reduceSub, Int.reduceNeg, Int.reduceToNat, Int.reduceBEq, QueryD.av, c1, c2, c3, c4, c5, c6, c7, List.length_map, bne, Bool.not_true, Bool.not_false]) | (refine awp_cond' rfl (of_decide_eq_true rfl) (fun hc => ?_) (fun hc => ?_) <;> ((try simp only [Bool.not_true, Bool.not_false, Bool.not_eq_true', Bool.not_eq_false', Bool.not_eq_eq_eq_not] at hc); (first | (cases hc) | (simp only [hc]) | skip))))
    all_goals (first | refine awp_ret ?_ | skip); refine ⟨(by first | exact .inl rfl | exact .inr rfl | exact .inr trivial | trivial), ?_⟩; simp only [go_sem, ↓reduceIte, Nat.reduceEqDiff, Nat.reduceAdd, Nat.reduceLeDiff, Nat.reduceBEq, Nat.reduceMul, reduceCtorEq, Int.reduceLE, Int.reduceLT, Int.reduceAdd, Int.reduceSub, Int.reduceNeg, Int.reduceToNat, Int.reduceBEq, retV, resL, resV, sealV, sealC, sealAll, Tryd.f7]
    all_goals rfl
  | true =>
  cases z8 with
  | false =>
    simp only [Bool.false_and, Bool.true_and]
    refine pure_of_awp Tryd.func7 rfl rfl (by simp [Tryd.f7]) ?_; simp only [go_sem, ↓reduceIte, Nat.reduceEqDiff, Nat.reduceAdd, Nat.reduceLeDiff, Nat.reduceBEq, Nat.reduceMul, reduceCtorEq, Int.reduceLE, Int.reduceLT, Int.reduceAdd, Int.reduceSub, Int.reduceNeg, Int.reduceToNat, Int.reduceBEq]
    repeat' (first | refine awp_seq ?_ | refine awp_block ?_ | refine awp_round ?_ | refine awp_scope ?_ | refine awp_text rfl ?_ | refine awp_any rfl mix (by kernel_rfl) ?_ | (refine RunTo.unguard rfl rfl (fun hg => ?_) (fun hg => ?_) <;> ((try simp only [Bool.not_true, Bool.not_false, Bool.not_eq_true', Bool.not_eq_false', Bool.not_eq_eq_eq_not] at hg); (first | (cases hg) | (simp only [hg]) | skip))) | ((first | refine RunTo.plain rfl ?_ | refine RunTo.skipped rfl ?_ | refine RunTo.call (ht) Tryd.func19 rfl rfl rfl rfl rfl rfl rfl rfl ?_); simp only [go_sem, ↓reduceIte, Nat.reduceEqDiff, Nat.reduceAdd, Nat.reduceLeDiff, Nat.reduceBEq, Nat.reduceMul, reduceCtorEq, Int.reduceLE, Int.reduceLT, Int.reduceAdd, Int.reduceSub, Int.reduceNeg, Int.reduceToNat, Int.reduceBEq, QueryD.av, c1, c2, c3, c4, c5, c6, c7, List.length_map, bne, Bool.not_true, Bool.not_false]) | ((first | refine RunTo.nilA (by kernel_rfl) ?_ | refine RunTo.nilT ?_ | refine awp_skip ?_ | refine awp_exit ?_ | refine awp_label ?_); simp only [go_sem, ↓reduceIte, Nat.reduceEqDiff, Nat.reduceAdd, Nat.reduceLeDiff, Nat.reduceBEq, Nat.reduceMul, reduceCtorEq, Int.reduceLE, Int.reduceLT, Int.reduceAdd, Int.reduceSub, Int.reduceNeg, Int.reduceToNat, Int.reduceBEq, QueryD.av, c1, c2, c3, c4, c5, c6, c7, List.length_map, bne, Bool.not_true, Bool.not_false]) | (refine awp_cond' rfl (of_decide_eq_true rfl) (fun hc => ?_) (fun hc => ?_) <;> ((try simp only [Bool.not_true, Bool.not_false, Bool.not_eq_true', Bool.not_eq_false', Bool.not_eq_eq_eq_not] at hc); (first | (cases hc) | (simp only [hc]) | skip))))
    all_goals (first | refine awp_ret ?_ | skip); refine ⟨(by first | exact .inl rfl | exact .inr rfl | exact .inr trivial | trivial), ?_⟩; simp only [go_sem, ↓reduceIte, Nat.reduceEqDiff, Nat.reduceAdd, Nat.reduceLeDiff, Nat.reduceBEq, Nat.reduceMul, reduceCtorEq, Int.reduceLE, Int.reduceLT, Int.reduceAdd, Int.reduceSub, Int.reduceNeg, Int.reduceToNat, Int.reduceBEq, retV, resL, resV, sealV, sealC, sealAll, Tryd.f7]
    all_goals rfl
  | true =>
  simp only [Bool.true_and]
  have e1 : a.spots.length = b.spots.length := by have := beq_iff_eq.1 c1; omega
  have e2 : a.hops.length = b.hops.length := by have := beq_iff_eq.1 c2; omega
  have e3 : a.items.length = b.items.length := by have := beq_iff_eq.1 c3; omega
  have e4 : a.sorts.length = b.sorts.length := by have := beq_iff_eq.1 c4; omega
  obtain ⟨F, hF⟩ : ∃ F, F = ((List.range a.spots.length).all (at2 sameS a.spots b.spots) && ((List.range a.hops.length).all (at2 sameH a.hops b.hops) && ((List.range a.items.length).all (at2 sameI a.items b.items) && (List.range a.sorts.length).all (at2 sameO a.sorts b.sorts)))) := ⟨_, rfl⟩
  rw [← hF]
  refine pure_of_awp Tryd.func7 rfl rfl (by simp [Tryd.f7]) ?_; simp only [go_sem, ↓reduceIte, Nat.reduceEqDiff, Nat.reduceAdd, Nat.reduceLeDiff, Nat.reduceBEq, Nat.reduceMul, reduceCtorEq, Int.reduceLE, Int.reduceLT, Int.reduceAdd, Int.reduceSub, Int.reduceNeg, Int.reduceToNat, Int.reduceBEq]
  repeat' (first | refine awp_seq ?_ | refine awp_block ?_ | refine awp_round ?_ | refine awp_scope ?_ | refine awp_text rfl ?_ | refine awp_any rfl mix (by kernel_rfl) ?_ | (refine RunTo.unguard rfl rfl (fun hg => ?_) (fun hg => ?_) <;> ((try simp only [Bool.not_true, Bool.not_false, Bool.not_eq_true', Bool.not_eq_false', Bool.not_eq_eq_eq_not] at hg); (first | (cases hg) | (simp only [hg]) | skip))) | ((first | refine RunTo.plain rfl ?_ | refine RunTo.skipped rfl ?_ | refine RunTo.call (ht) Tryd.func19 rfl rfl rfl rfl rfl rfl rfl rfl ?_); simp only [go_sem, ↓reduceIte, Nat.reduceEqDiff, Nat.reduceAdd, Nat.reduceLeDiff, Nat.reduceBEq, Nat.reduceMul, reduceCtorEq, Int.reduceLE, Int.reduceLT, Int.reduceAdd, Int.reduceSub, Int.reduceNeg, Int.reduceToNat, Int.reduceBEq, QueryD.av, c1, c2, c3, c4, c5, c6, c7, List.length_map, bne, Bool.not_true, Bool.not_false]) | ((first | refine RunTo.nilA (by kernel_rfl) ?_ | refine RunTo.nilT ?_ | refine awp_skip ?_ | refine awp_exit ?_ | refine awp_label ?_); simp only [go_sem, ↓reduceIte, Nat.reduceEqDiff, Nat.reduceAdd, Nat.reduceLeDiff, Nat.reduceBEq, Nat.reduceMul, reduceCtorEq, Int.reduceLE, Int.reduceLT, Int.reduceAdd, Int.reduceSub, Int.reduceNeg, Int.reduceToNat, Int.reduceBEq, QueryD.av, c1, c2, c3, c4, c5, c6, c7, List.length_map, bne, Bool.not_true, Bool.not_false]) | (refine awp_cond' rfl (of_decide_eq_true rfl) (fun hc => ?_) (fun hc => ?_) <;> ((try simp only [Bool.not_true, Bool.not_false, Bool.not_eq_true', Bool.not_eq_false', Bool.not_eq_eq_eq_not] at hc); (first | (cases hc) | (simp only [hc]) | skip))))
  clear c1 c2 c3 c4 c5 c6 c7 ht
  refine awp_loopw (IWq8 a b 5 a.spots.length (at2 sameS a.spots b.spots)) a.spots.length (SWq8 a b 5 0 _) (weak_keep ⟨rfl, rfl, rfl, trivial⟩ ⟨rfl, rfl, trivial⟩ (Nat.le_refl _)) ⟨0, _, Nat.zero_le _, rfl, rfl, rfl⟩ ?_
  rintro m st ⟨k, T, hk, rfl, hall, rfl⟩
  by_cases hlt : k < a.spots.length
  · have hdec := lt_t hlt
    have hlt2 : k < b.spots.length := by omega
    have hget := row_at SpotD.enc a.spots k hlt
    have hget2 := row_at SpotD.enc b.spots k hlt2
    have hbk := at2_in sameS a.spots b.spots k hlt hlt2
    have hwk : IntKind.i64.wrap ((k : Int) + 1) = ((k + 1 : Nat) : Int) := wrap_succ (by omega)
    have hp := c_sameProps a.spots[k].props b.spots[k].props (h.spots _ (List.getElem_mem hlt)).len (hv _ (List.getElem_mem hlt))
    rw [show SpotD.enc a.spots[k] = [ds' a.spots[k].var, ds' a.spots[k].label, .lst 6 (a.spots[k].props.map PropD.enc)] from rfl] at hget
    rw [show SpotD.enc b.spots[k] = [ds' b.spots[k].var, ds' b.spots[k].label, .lst 6 (b.spots[k].props.map PropD.enc)] from rfl] at hget2
    generalize a.spots[k] = x at *
    generalize b.spots[k] = y at *
    rw [show sameS x y = ((x.var.toList == y.var.toList) && ((x.label.toList == y.label.toList) && sameL sameP x.props y.props)) from rfl] at hbk
    generalize d0 : (x.var.toList == y.var.toList) = w0 at *
    generalize d1 : (x.label.toList == y.label.toList) = w1 at *
    generalize sameL sameP x.props y.props = w2 at *
    cases hb : at2 sameS a.spots b.spots k with
    | false =>
      have hF2 : F = false := by rw [hF, range_no hlt hb]; try simp only [Bool.false_and, Bool.and_false]
      rw [hF2]
      rw [hb] at hbk
      cases w0 <;> cases w1 <;> cases w2
      all_goals try (simp at hbk; done)
      all_goals
        repeat' (first | refine awp_seq ?_ | refine awp_block ?_ | refine awp_round ?_ | refine awp_scope ?_ | refine awp_text rfl ?_ | refine awp_any rfl mix (by kernel_rfl) ?_ | (refine RunTo.unguard rfl rfl (fun hg => ?_) (fun hg => ?_) <;> ((try simp only [Bool.not_true, Bool.not_false, Bool.not_eq_true', Bool.not_eq_false', Bool.not_eq_eq_eq_not] at hg); (first | (cases hg) | (simp only [hg]) | skip))) | ((first | refine RunTo.plain rfl ?_ | refine RunTo.skipped rfl ?_ | refine RunTo.call (hp) Tryd.func20 rfl rfl rfl rfl rfl rfl rfl rfl ?_); simp only [go_sem, ↓reduceIte, Nat.reduceEqDiff, Nat.reduceAdd, Nat.reduceLeDiff, Nat.reduceBEq, Nat.reduceMul, reduceCtorEq, Int.reduceLE, Int.reduceLT, Int.reduceAdd, Int.reduceSub, Int.reduceNeg, Int.reduceToNat, Int.reduceBEq, hdec, hget, hget2, hwk, List.length_map, bne, Bool.not_true, Bool.not_false, d0, d1]) | ((first | refine RunTo.nilA (by kernel_rfl) ?_ | refine RunTo.nilT ?_ | refine awp_skip ?_ | refine awp_exit ?_ | refine awp_label ?_); simp only [go_sem, ↓reduceIte, Nat.reduceEqDiff, Nat.reduceAdd, Nat.reduceLeDiff, Nat.reduceBEq, Nat.reduceMul, reduceCtorEq, Int.reduceLE, Int.reduceLT, Int.reduceAdd, Int.reduceSub, Int.reduceNeg, Int.reduceToNat, Int.reduceBEq, hdec, hget, hget2, hwk, List.length_map, bne, Bool.not_true, Bool.not_false, d0, d1]) | (refine awp_cond' rfl (of_decide_eq_true rfl) (fun hc => ?_) (fun hc => ?_) <;> ((try simp only [Bool.not_true, Bool.not_false, Bool.not_eq_true', Bool.not_eq_false', Bool.not_eq_eq_eq_not] at hc); (first | (cases hc) | (simp only [hc]) | skip))))
        all_goals (first | refine awp_ret ?_ | skip); refine ⟨(by first | exact .inl rfl | exact .inr rfl | exact .inr trivial | trivial), ?_⟩; simp only [go_sem, ↓reduceIte, Nat.reduceEqDiff, Nat.reduceAdd, Nat.reduceLeDiff, Nat.reduceBEq, Nat.reduceMul, reduceCtorEq, Int.reduceLE, Int.reduceLT, Int.reduceAdd, Int.reduceSub, Int.reduceNeg, Int.reduceToNat, Int.reduceBEq, retV, resL, resV, sealV, sealC, sealAll, Tryd.f7]
        all_goals rfl
    | true =>
      rw [hb] at hbk
      cases w0 <;> cases w1 <;> cases w2
      all_goals try (simp at hbk; done)
      all_goals
        repeat' (first | refine awp_seq ?_ | refine awp_block ?_ | refine awp_round ?_ | refine awp_scope ?_ | refine awp_text rfl ?_ | refine awp_any rfl mix (by kernel_rfl) ?_ | (refine RunTo.unguard rfl rfl (fun hg => ?_) (fun hg => ?_) <;> ((try simp only [Bool.not_true, Bool.not_false, Bool.not_eq_true', Bool.not_eq_false', Bool.not_eq_eq_eq_not] at hg); (first | (cases hg) | (simp only [hg]) | skip))) | ((first | refine RunTo.plain rfl ?_ | refine RunTo.skipped rfl ?_ | refine RunTo.call (hp) Tryd.func20 rfl rfl rfl rfl rfl rfl rfl rfl ?_); simp only [go_sem, ↓reduceIte, Nat.reduceEqDiff, Nat.reduceAdd, Nat.reduceLeDiff, Nat.reduceBEq, Nat.reduceMul, reduceCtorEq, Int.reduceLE, Int.reduceLT, Int.reduceAdd, Int.reduceSub, Int.reduceNeg, Int.reduceToNat, Int.reduceBEq, hdec, hget, hget2, hwk, List.length_map, bne, Bool.not_true, Bool.not_false, d0, d1]) | ((first | refine RunTo.nilA (by kernel_rfl) ?_ | refine RunTo.nilT ?_ | refine awp_skip ?_ | refine awp_exit ?_ | refine awp_label ?_); simp only [go_sem, ↓reduceIte, Nat.reduceEqDiff, Nat.reduceAdd, Nat.reduceLeDiff, Nat.reduceBEq, Nat.reduceMul, reduceCtorEq, Int.reduceLE, Int.reduceLT, Int.reduceAdd, Int.reduceSub, Int.reduceNeg, Int.reduceToNat, Int.reduceBEq, hdec, hget, hget2, hwk, List.length_map, bne, Bool.not_true, Bool.not_false, d0, d1]) | (refine awp_cond' rfl (of_decide_eq_true rfl) (fun hc => ?_) (fun hc => ?_) <;> ((try simp only [Bool.not_true, Bool.not_false, Bool.not_eq_true', Bool.not_eq_false', Bool.not_eq_eq_eq_not] at hc); (first | (cases hc) | (simp only [hc]) | skip))))
        all_goals exact ⟨a.spots.length - (k + 1), by omega, SWq8 a b 5 (k + 1) _, weak_keep ⟨rfl, rfl, rfl, trivial⟩ ⟨rfl, rfl, trivial⟩ (Nat.le_refl _), k + 1, _, by omega, rfl, range_up hall hb, rfl⟩
  have hdec := lt_f hlt
  obtain rfl : k = a.spots.length := by omega
  rw [hall, Bool.true_and] at hF
  clear hall hk hlt
  repeat' (first | refine awp_seq ?_ | refine awp_block ?_ | refine awp_round ?_ | refine awp_scope ?_ | refine awp_text rfl ?_ | refine awp_any rfl mix (by kernel_rfl) ?_ | (refine RunTo.unguard rfl rfl (fun hg => ?_) (fun hg => ?_) <;> ((try simp only [Bool.not_true, Bool.not_false, Bool.not_eq_true', Bool.not_eq_false', Bool.not_eq_eq_eq_not] at hg); (first | (cases hg) | (simp only [hg]) | skip))) | ((first | refine RunTo.plain rfl ?_ | refine RunTo.skipped rfl ?_); simp only [go_sem, ↓reduceIte, Nat.reduceEqDiff, Nat.reduceAdd, Nat.reduceLeDiff, Nat.reduceBEq, Nat.reduceMul, reduceCtorEq, Int.reduceLE, Int.reduceLT, Int.reduceAdd, Int.reduceSub, Int.reduceNeg, Int.reduceToNat, Int.reduceBEq, hdec, List.length_map]) | ((first | refine RunTo.nilA (by kernel_rfl) ?_ | refine RunTo.nilT ?_ | refine awp_skip ?_ | refine awp_exit ?_ | refine awp_label ?_); simp only [go_sem, ↓reduceIte, Nat.reduceEqDiff, Nat.reduceAdd, Nat.reduceLeDiff, Nat.reduceBEq, Nat.reduceMul, reduceCtorEq, Int.reduceLE, Int.reduceLT, Int.reduceAdd, Int.reduceSub, Int.reduceNeg, Int.reduceToNat, Int.reduceBEq, hdec, List.length_map]) | (refine awp_cond' rfl (of_decide_eq_true rfl) (fun hc => ?_) (fun hc => ?_) <;> ((try simp only [Bool.not_true, Bool.not_false, Bool.not_eq_true', Bool.not_eq_false', Bool.not_eq_eq_eq_not] at hc); (first | (cases hc) | (simp only [hc]) | skip))))
  clear hdec
  refine awp_loopw (IWq8 a b 6 a.hops.length (at2 sameH a.hops b.hops)) a.hops.length (SWq8 a b 6 0 _) (weak_keep ⟨rfl, rfl, rfl, trivial⟩ ⟨rfl, rfl, trivial⟩ (Nat.le_refl _)) ⟨0, _, Nat.zero_le _, rfl, rfl, rfl⟩ ?_
  rintro m st ⟨k, T, hk, rfl, hall, rfl⟩
  by_cases hlt : k < a.hops.length
  · have hdec := lt_t hlt
    have hlt2 : k < b.hops.length := by omega
    have hget := row_at HopD.enc a.hops k hlt
    have hget2 := row_at HopD.enc b.hops k hlt2
    have hbk := at2_in sameH a.hops b.hops k hlt hlt2
    have hwk : IntKind.i64.wrap ((k : Int) + 1) = ((k + 1 : Nat) : Int) := wrap_succ (by omega)
    rw [show HopD.enc a.hops[k] = [ds' a.hops[k].var, ds' a.hops[k].type, db a.hops[k].back, db a.hops[k].many, di a.hops[k].least, di a.hops[k].most] from rfl] at hget
    rw [show HopD.enc b.hops[k] = [ds' b.hops[k].var, ds' b.hops[k].type, db b.hops[k].back, db b.hops[k].many, di b.hops[k].least, di b.hops[k].most] from rfl] at hget2
    generalize a.hops[k] = x at *
    generalize b.hops[k] = y at *
    have hq := eq_hop x y
    generalize sameH x y = w0 at *
    cases hb : at2 sameH a.hops b.hops k with
    | false =>
      have hF2 : F = false := by rw [hF, range_no hlt hb]; try simp only [Bool.false_and, Bool.and_false]
      rw [hF2]
      rw [hb] at hbk
      cases w0
      all_goals try (simp at hbk; done)
      all_goals
        repeat' (first | refine awp_seq ?_ | refine awp_block ?_ | refine awp_round ?_ | refine awp_scope ?_ | refine awp_text rfl ?_ | refine awp_any rfl mix (by kernel_rfl) ?_ | (refine RunTo.neqAgg (l1 := hopVs x) (l2 := hopVs y) hq rfl (by kernel_rfl) rfl rfl rfl ?_; simp only [go_sem, ↓reduceIte, Nat.reduceEqDiff, Nat.reduceAdd, Nat.reduceLeDiff, Nat.reduceBEq, Nat.reduceMul, reduceCtorEq, Int.reduceLE, Int.reduceLT, Int.reduceAdd, Int.reduceSub, Int.reduceNeg, Int.reduceToNat, Int.reduceBEq, hdec, hget, hget2, hwk, List.length_map, bne, Bool.not_true, Bool.not_false]) | (refine RunTo.unguard rfl rfl (fun hg => ?_) (fun hg => ?_) <;> ((try simp only [Bool.not_true, Bool.not_false, Bool.not_eq_true', Bool.not_eq_false', Bool.not_eq_eq_eq_not] at hg); (first | (cases hg) | (simp only [hg]) | skip))) | ((first | refine RunTo.plain rfl ?_ | refine RunTo.skipped rfl ?_); simp only [go_sem, ↓reduceIte, Nat.reduceEqDiff, Nat.reduceAdd, Nat.reduceLeDiff, Nat.reduceBEq, Nat.reduceMul, reduceCtorEq, Int.reduceLE, Int.reduceLT, Int.reduceAdd, Int.reduceSub, Int.reduceNeg, Int.reduceToNat, Int.reduceBEq, hdec, hget, hget2, hwk, List.length_map, bne, Bool.not_true, Bool.not_false]) | ((first | refine RunTo.nilA (by kernel_rfl) ?_ | refine RunTo.nilT ?_ | refine awp_skip ?_ | refine awp_exit ?_ | refine awp_label ?_); simp only [go_sem, ↓reduceIte, Nat.reduceEqDiff, Nat.reduceAdd, Nat.reduceLeDiff, Nat.reduceBEq, Nat.reduceMul, reduceCtorEq, Int.reduceLE, Int.reduceLT, Int.reduceAdd, Int.reduceSub, Int.reduceNeg, Int.reduceToNat, Int.reduceBEq, hdec, hget, hget2, hwk, List.length_map, bne, Bool.not_true, Bool.not_false]) | (refine awp_cond' rfl (of_decide_eq_true rfl) (fun hc => ?_) (fun hc => ?_) <;> ((try simp only [Bool.not_true, Bool.not_false, Bool.not_eq_true', Bool.not_eq_false', Bool.not_eq_eq_eq_not] at hc); (first | (cases hc) | (simp only [hc]) | skip))))
        all_goals (first | refine awp_ret ?_ | skip); refine ⟨(by first | exact .inl rfl | exact .inr rfl | exact .inr trivial | trivial), ?_⟩; simp only [go_sem, ↓reduceIte, Nat.reduceEqDiff, Nat.reduceAdd, Nat.reduceLeDiff, Nat.reduceBEq, Nat.reduceMul, reduceCtorEq, Int.reduceLE, Int.reduceLT, Int.reduceAdd, Int.reduceSub, Int.reduceNeg, Int.reduceToNat, Int.reduceBEq, retV, resL, resV, sealV, sealC, sealAll, Tryd.f7]
        all_goals rfl
    | true =>
      rw [hb] at hbk
      cases w0
      all_goals try (simp at hbk; done)
      all_goals
        repeat' (first | refine awp_seq ?_ | refine awp_block ?_ | refine awp_round ?_ | refine awp_scope ?_ | refine awp_text rfl ?_ | refine awp_any rfl mix (by kernel_rfl) ?_ | (refine RunTo.neqAgg (l1 := hopVs x) (l2 := hopVs y) hq rfl (by kernel_rfl) rfl rfl rfl ?_; simp only [go_sem, ↓reduceIte, Nat.reduceEqDiff, Nat.reduceAdd, Nat.reduceLeDiff, Nat.reduceBEq, Nat.reduceMul, reduceCtorEq, Int.reduceLE, Int.reduceLT, Int.reduceAdd, Int.reduceSub, Int.reduceNeg, Int.reduceToNat, Int.reduceBEq, hdec, hget, hget2, hwk, List.length_map, bne, Bool.not_true, Bool.not_false]) | (refine RunTo.unguard rfl rfl (fun hg => ?_) (fun hg => ?_) <;> ((try simp only [Bool.not_true, Bool.not_false, Bool.not_eq_true', Bool.not_eq_false', Bool.not_eq_eq_eq_not] at hg); (first | (cases hg) | (simp only [hg]) | skip))) | ((first | refine RunTo.plain rfl ?_ | refine RunTo.skipped rfl ?_); simp only [go_sem, ↓reduceIte, Nat.reduceEqDiff, Nat.reduceAdd, Nat.reduceLeDiff, Nat.reduceBEq, Nat.reduceMul, reduceCtorEq, Int.reduceLE, Int.reduceLT, Int.reduceAdd, Int.reduceSub, Int.reduceNeg, Int.reduceToNat, Int.reduceBEq, hdec, hget, hget2, hwk, List.length_map, bne, Bool.not_true, Bool.not_false]) | ((first | refine RunTo.nilA (by kernel_rfl) ?_ | refine RunTo.nilT ?_ | refine awp_skip ?_ | refine awp_exit ?_ | refine awp_label ?_); simp only [go_sem, ↓reduceIte, Nat.reduceEqDiff, Nat.reduceAdd, Nat.reduceLeDiff, Nat.reduceBEq, Nat.reduceMul, reduceCtorEq, Int.reduceLE, Int.reduceLT, Int.reduceAdd, Int.reduceSub, Int.reduceNeg, Int.reduceToNat, Int.reduceBEq, hdec, hget, hget2, hwk, List.length_map, bne, Bool.not_true, Bool.not_false]) | (refine awp_cond' rfl (of_decide_eq_true rfl) (fun hc => ?_) (fun hc => ?_) <;> ((try simp only [Bool.not_true, Bool.not_false, Bool.not_eq_true', Bool.not_eq_false', Bool.not_eq_eq_eq_not] at hc); (first | (cases hc) | (simp only [hc]) | skip))))
        all_goals exact ⟨a.hops.length - (k + 1), by omega, SWq8 a b 6 (k + 1) _, weak_keep ⟨rfl, rfl, rfl, trivial⟩ ⟨rfl, rfl, trivial⟩ (Nat.le_refl _), k + 1, _, by omega, rfl, range_up hall hb, rfl⟩
  have hdec := lt_f hlt
  obtain rfl : k = a.hops.length := by omega
  rw [hall, Bool.true_and] at hF
  clear hall hk hlt
  repeat' (first | refine awp_seq ?_ | refine awp_block ?_ | refine awp_round ?_ | refine awp_scope ?_ | refine awp_text rfl ?_ | refine awp_any rfl mix (by kernel_rfl) ?_ | (refine RunTo.unguard rfl rfl (fun hg => ?_) (fun hg => ?_) <;> ((try simp only [Bool.not_true, Bool.not_false, Bool.not_eq_true', Bool.not_eq_false', Bool.not_eq_eq_eq_not] at hg); (first | (cases hg) | (simp only [hg]) | skip))) | ((first | refine RunTo.plain rfl ?_ | refine RunTo.skipped rfl ?_); simp only [go_sem, ↓reduceIte, Nat.reduceEqDiff, Nat.reduceAdd, Nat.reduceLeDiff, Nat.reduceBEq, Nat.reduceMul, reduceCtorEq, Int.reduceLE, Int.reduceLT, Int.reduceAdd, Int.reduceSub, Int.reduceNeg, Int.reduceToNat, Int.reduceBEq, hdec, List.length_map]) | ((first | refine RunTo.nilA (by kernel_rfl) ?_ | refine RunTo.nilT ?_ | refine awp_skip ?_ | refine awp_exit ?_ | refine awp_label ?_); simp only [go_sem, ↓reduceIte, Nat.reduceEqDiff, Nat.reduceAdd, Nat.reduceLeDiff, Nat.reduceBEq, Nat.reduceMul, reduceCtorEq, Int.reduceLE, Int.reduceLT, Int.reduceAdd, Int.reduceSub, Int.reduceNeg, Int.reduceToNat, Int.reduceBEq, hdec, List.length_map]) | (refine awp_cond' rfl (of_decide_eq_true rfl) (fun hc => ?_) (fun hc => ?_) <;> ((try simp only [Bool.not_true, Bool.not_false, Bool.not_eq_true', Bool.not_eq_false', Bool.not_eq_eq_eq_not] at hc); (first | (cases hc) | (simp only [hc]) | skip))))
  clear hdec
  refine awp_loopw (IWq8 a b 7 a.items.length (at2 sameI a.items b.items)) a.items.length (SWq8 a b 7 0 _) (weak_keep ⟨rfl, rfl, rfl, trivial⟩ ⟨rfl, rfl, trivial⟩ (Nat.le_refl _)) ⟨0, _, Nat.zero_le _, rfl, rfl, rfl⟩ ?_
  rintro m st ⟨k, T, hk, rfl, hall, rfl⟩
  by_cases hlt : k < a.items.length
  · have hdec := lt_t hlt
    have hlt2 : k < b.items.length := by omega
    have hget := row_at ItemD.enc a.items k hlt
    have hget2 := row_at ItemD.enc b.items k hlt2
    have hbk := at2_in sameI a.items b.items k hlt hlt2
    have hwk : IntKind.i64.wrap ((k : Int) + 1) = ((k + 1 : Nat) : Int) := wrap_succ (by omega)
    have hp := c_sameTs a.items[k].terms b.items[k].terms (h.items _ (List.getElem_mem hlt)).len (hi _ (List.getElem_mem hlt))
    rw [show ItemD.enc a.items[k] = [di a.items[k].fn, .lst 8 (a.items[k].terms.map TermD.enc)] from rfl] at hget
    rw [show ItemD.enc b.items[k] = [di b.items[k].fn, .lst 8 (b.items[k].terms.map TermD.enc)] from rfl] at hget2
    generalize a.items[k] = x at *
    generalize b.items[k] = y at *
    rw [show sameI x y = ((x.fn == y.fn) && sameL sameT x.terms y.terms) from rfl] at hbk
    generalize d0 : (x.fn == y.fn) = w0 at *
    generalize sameL sameT x.terms y.terms = w2 at *
    cases hb : at2 sameI a.items b.items k with
    | false =>
      have hF2 : F = false := by rw [hF, range_no hlt hb]; try simp only [Bool.false_and, Bool.and_false]
      rw [hF2]
      rw [hb] at hbk
      cases w0 <;> cases w2
      all_goals try (simp at hbk; done)
      all_goals
        repeat' (first | refine awp_seq ?_ | refine awp_block ?_ | refine awp_round ?_ | refine awp_scope ?_ | refine awp_text rfl ?_ | refine awp_any rfl mix (by kernel_rfl) ?_ | (refine RunTo.unguard rfl rfl (fun hg => ?_) (fun hg => ?_) <;> ((try simp only [Bool.not_true, Bool.not_false, Bool.not_eq_true', Bool.not_eq_false', Bool.not_eq_eq_eq_not] at hg); (first | (cases hg) | (simp only [hg]) | skip))) | ((first | refine RunTo.plain rfl ?_ | refine RunTo.skipped rfl ?_ | refine RunTo.call (hp) Tryd.func19 rfl rfl rfl rfl rfl rfl rfl rfl ?_); simp only [go_sem, ↓reduceIte, Nat.reduceEqDiff, Nat.reduceAdd, Nat.reduceLeDiff, Nat.reduceBEq, Nat.reduceMul, reduceCtorEq, Int.reduceLE, Int.reduceLT, Int.reduceAdd, Int.reduceSub, Int.reduceNeg, Int.reduceToNat, Int.reduceBEq, hdec, hget, hget2, hwk, List.length_map, bne, Bool.not_true, Bool.not_false, d0]) | ((first | refine RunTo.nilA (by kernel_rfl) ?_ | refine RunTo.nilT ?_ | refine awp_skip ?_ | refine awp_exit ?_ | refine awp_label ?_); simp only [go_sem, ↓reduceIte, Nat.reduceEqDiff, Nat.reduceAdd, Nat.reduceLeDiff, Nat.reduceBEq, Nat.reduceMul, reduceCtorEq, Int.reduceLE, Int.reduceLT, Int.reduceAdd, Int.reduceSub, Int.reduceNeg, Int.reduceToNat, Int.reduceBEq, hdec, hget, hget2, hwk, List.length_map, bne, Bool.not_true, Bool.not_false, d0]) | (refine awp_cond' rfl (of_decide_eq_true rfl) (fun hc => ?_) (fun hc => ?_) <;> ((try simp only [Bool.not_true, Bool.not_false, Bool.not_eq_true', Bool.not_eq_false', Bool.not_eq_eq_eq_not] at hc); (first | (cases hc) | (simp only [hc]) | skip))))
        all_goals (first | refine awp_ret ?_ | skip); refine ⟨(by first | exact .inl rfl | exact .inr rfl | exact .inr trivial | trivial), ?_⟩; simp only [go_sem, ↓reduceIte, Nat.reduceEqDiff, Nat.reduceAdd, Nat.reduceLeDiff, Nat.reduceBEq, Nat.reduceMul, reduceCtorEq, Int.reduceLE, Int.reduceLT, Int.reduceAdd, Int.reduceSub, Int.reduceNeg, Int.reduceToNat, Int.reduceBEq, retV, resL, resV, sealV, sealC, sealAll, Tryd.f7]
        all_goals rfl
    | true =>
      rw [hb] at hbk
      cases w0 <;> cases w2
      all_goals try (simp at hbk; done)
      all_goals
        repeat' (first | refine awp_seq ?_ | refine awp_block ?_ | refine awp_round ?_ | refine awp_scope ?_ | refine awp_text rfl ?_ | refine awp_any rfl mix (by kernel_rfl) ?_ | (refine RunTo.unguard rfl rfl (fun hg => ?_) (fun hg => ?_) <;> ((try simp only [Bool.not_true, Bool.not_false, Bool.not_eq_true', Bool.not_eq_false', Bool.not_eq_eq_eq_not] at hg); (first | (cases hg) | (simp only [hg]) | skip))) | ((first | refine RunTo.plain rfl ?_ | refine RunTo.skipped rfl ?_ | refine RunTo.call (hp) Tryd.func19 rfl rfl rfl rfl rfl rfl rfl rfl ?_); simp only [go_sem, ↓reduceIte, Nat.reduceEqDiff, Nat.reduceAdd, Nat.reduceLeDiff, Nat.reduceBEq, Nat.reduceMul, reduceCtorEq, Int.reduceLE, Int.reduceLT, Int.reduceAdd, Int.reduceSub, Int.reduceNeg, Int.reduceToNat, Int.reduceBEq, hdec, hget, hget2, hwk, List.length_map, bne, Bool.not_true, Bool.not_false, d0]) | ((first | refine RunTo.nilA (by kernel_rfl) ?_ | refine RunTo.nilT ?_ | refine awp_skip ?_ | refine awp_exit ?_ | refine awp_label ?_); simp only [go_sem, ↓reduceIte, Nat.reduceEqDiff, Nat.reduceAdd, Nat.reduceLeDiff, Nat.reduceBEq, Nat.reduceMul, reduceCtorEq, Int.reduceLE, Int.reduceLT, Int.reduceAdd, Int.reduceSub, Int.reduceNeg, Int.reduceToNat, Int.reduceBEq, hdec, hget, hget2, hwk, List.length_map, bne, Bool.not_true, Bool.not_false, d0]) | (refine awp_cond' rfl (of_decide_eq_true rfl) (fun hc => ?_) (fun hc => ?_) <;> ((try simp only [Bool.not_true, Bool.not_false, Bool.not_eq_true', Bool.not_eq_false', Bool.not_eq_eq_eq_not] at hc); (first | (cases hc) | (simp only [hc]) | skip))))
        all_goals exact ⟨a.items.length - (k + 1), by omega, SWq8 a b 7 (k + 1) _, weak_keep ⟨rfl, rfl, rfl, trivial⟩ ⟨rfl, rfl, trivial⟩ (Nat.le_refl _), k + 1, _, by omega, rfl, range_up hall hb, rfl⟩
  have hdec := lt_f hlt
  obtain rfl : k = a.items.length := by omega
  rw [hall, Bool.true_and] at hF
  clear hall hk hlt
  repeat' (first | refine awp_seq ?_ | refine awp_block ?_ | refine awp_round ?_ | refine awp_scope ?_ | refine awp_text rfl ?_ | refine awp_any rfl mix (by kernel_rfl) ?_ | (refine RunTo.unguard rfl rfl (fun hg => ?_) (fun hg => ?_) <;> ((try simp only [Bool.not_true, Bool.not_false, Bool.not_eq_true', Bool.not_eq_false', Bool.not_eq_eq_eq_not] at hg); (first | (cases hg) | (simp only [hg]) | skip))) | ((first | refine RunTo.plain rfl ?_ | refine RunTo.skipped rfl ?_); simp only [go_sem, ↓reduceIte, Nat.reduceEqDiff, Nat.reduceAdd, Nat.reduceLeDiff, Nat.reduceBEq, Nat.reduceMul, reduceCtorEq, Int.reduceLE, Int.reduceLT, Int.reduceAdd, Int.reduceSub, Int.reduceNeg, Int.reduceToNat, Int.reduceBEq, hdec, List.length_map]) | ((first | refine RunTo.nilA (by kernel_rfl) ?_ | refine RunTo.nilT ?_ | refine awp_skip ?_ | refine awp_exit ?_ | refine awp_label ?_); simp only [go_sem, ↓reduceIte, Nat.reduceEqDiff, Nat.reduceAdd, Nat.reduceLeDiff, Nat.reduceBEq, Nat.reduceMul, reduceCtorEq, Int.reduceLE, Int.reduceLT, Int.reduceAdd, Int.reduceSub, Int.reduceNeg, Int.reduceToNat, Int.reduceBEq, hdec, List.length_map]) | (refine awp_cond' rfl (of_decide_eq_true rfl) (fun hc => ?_) (fun hc => ?_) <;> ((try simp only [Bool.not_true, Bool.not_false, Bool.not_eq_true', Bool.not_eq_false', Bool.not_eq_eq_eq_not] at hc); (first | (cases hc) | (simp only [hc]) | skip))))
  clear hdec
  refine awp_loopw (IWq8 a b 8 a.sorts.length (at2 sameO a.sorts b.sorts)) a.sorts.length (SWq8 a b 8 0 _) (weak_keep ⟨rfl, rfl, rfl, trivial⟩ ⟨rfl, rfl, trivial⟩ (Nat.le_refl _)) ⟨0, _, Nat.zero_le _, rfl, rfl, rfl⟩ ?_
  rintro m st ⟨k, T, hk, rfl, hall, rfl⟩
  by_cases hlt : k < a.sorts.length
  · have hdec := lt_t hlt
    have hlt2 : k < b.sorts.length := by omega
    have hget := row_at SortD.enc a.sorts k hlt
    have hget2 := row_at SortD.enc b.sorts k hlt2
    have hbk := at2_in sameO a.sorts b.sorts k hlt hlt2
    have hwk : IntKind.i64.wrap ((k : Int) + 1) = ((k + 1 : Nat) : Int) := wrap_succ (by omega)
    rw [show SortD.enc a.sorts[k] = [di a.sorts[k].item, db a.sorts[k].desc] from rfl] at hget
    rw [show SortD.enc b.sorts[k] = [di b.sorts[k].item, db b.sorts[k].desc] from rfl] at hget2
    generalize a.sorts[k] = x at *
    generalize b.sorts[k] = y at *
    have hq := eq_sort x y
    generalize sameO x y = w0 at *
    cases hb : at2 sameO a.sorts b.sorts k with
    | false =>
      have hF2 : F = false := by rw [hF, range_no hlt hb]; try simp only [Bool.false_and, Bool.and_false]
      rw [hF2]
      rw [hb] at hbk
      cases w0
      all_goals try (simp at hbk; done)
      all_goals
        repeat' (first | refine awp_seq ?_ | refine awp_block ?_ | refine awp_round ?_ | refine awp_scope ?_ | refine awp_text rfl ?_ | refine awp_any rfl mix (by kernel_rfl) ?_ | (refine RunTo.neqAgg (l1 := sortVs x) (l2 := sortVs y) hq rfl (by kernel_rfl) rfl rfl rfl ?_; simp only [go_sem, ↓reduceIte, Nat.reduceEqDiff, Nat.reduceAdd, Nat.reduceLeDiff, Nat.reduceBEq, Nat.reduceMul, reduceCtorEq, Int.reduceLE, Int.reduceLT, Int.reduceAdd, Int.reduceSub, Int.reduceNeg, Int.reduceToNat, Int.reduceBEq, hdec, hget, hget2, hwk, List.length_map, bne, Bool.not_true, Bool.not_false]) | (refine RunTo.unguard rfl rfl (fun hg => ?_) (fun hg => ?_) <;> ((try simp only [Bool.not_true, Bool.not_false, Bool.not_eq_true', Bool.not_eq_false', Bool.not_eq_eq_eq_not] at hg); (first | (cases hg) | (simp only [hg]) | skip))) | ((first | refine RunTo.plain rfl ?_ | refine RunTo.skipped rfl ?_); simp only [go_sem, ↓reduceIte, Nat.reduceEqDiff, Nat.reduceAdd, Nat.reduceLeDiff, Nat.reduceBEq, Nat.reduceMul, reduceCtorEq, Int.reduceLE, Int.reduceLT, Int.reduceAdd, Int.reduceSub, Int.reduceNeg, Int.reduceToNat, Int.reduceBEq, hdec, hget, hget2, hwk, List.length_map, bne, Bool.not_true, Bool.not_false]) | ((first | refine RunTo.nilA (by kernel_rfl) ?_ | refine RunTo.nilT ?_ | refine awp_skip ?_ | refine awp_exit ?_ | refine awp_label ?_); simp only [go_sem, ↓reduceIte, Nat.reduceEqDiff, Nat.reduceAdd, Nat.reduceLeDiff, Nat.reduceBEq, Nat.reduceMul, reduceCtorEq, Int.reduceLE, Int.reduceLT, Int.reduceAdd, Int.reduceSub, Int.reduceNeg, Int.reduceToNat, Int.reduceBEq, hdec, hget, hget2, hwk, List.length_map, bne, Bool.not_true, Bool.not_false]) | (refine awp_cond' rfl (of_decide_eq_true rfl) (fun hc => ?_) (fun hc => ?_) <;> ((try simp only [Bool.not_true, Bool.not_false, Bool.not_eq_true', Bool.not_eq_false', Bool.not_eq_eq_eq_not] at hc); (first | (cases hc) | (simp only [hc]) | skip))))
        all_goals (first | refine awp_ret ?_ | skip); refine ⟨(by first | exact .inl rfl | exact .inr rfl | exact .inr trivial | trivial), ?_⟩; simp only [go_sem, ↓reduceIte, Nat.reduceEqDiff, Nat.reduceAdd, Nat.reduceLeDiff, Nat.reduceBEq, Nat.reduceMul, reduceCtorEq, Int.reduceLE, Int.reduceLT, Int.reduceAdd, Int.reduceSub, Int.reduceNeg, Int.reduceToNat, Int.reduceBEq, retV, resL, resV, sealV, sealC, sealAll, Tryd.f7]
        all_goals rfl
    | true =>
      rw [hb] at hbk
      cases w0
      all_goals try (simp at hbk; done)
      all_goals
        repeat' (first | refine awp_seq ?_ | refine awp_block ?_ | refine awp_round ?_ | refine awp_scope ?_ | refine awp_text rfl ?_ | refine awp_any rfl mix (by kernel_rfl) ?_ | (refine RunTo.neqAgg (l1 := sortVs x) (l2 := sortVs y) hq rfl (by kernel_rfl) rfl rfl rfl ?_; simp only [go_sem, ↓reduceIte, Nat.reduceEqDiff, Nat.reduceAdd, Nat.reduceLeDiff, Nat.reduceBEq, Nat.reduceMul, reduceCtorEq, Int.reduceLE, Int.reduceLT, Int.reduceAdd, Int.reduceSub, Int.reduceNeg, Int.reduceToNat, Int.reduceBEq, hdec, hget, hget2, hwk, List.length_map, bne, Bool.not_true, Bool.not_false]) | (refine RunTo.unguard rfl rfl (fun hg => ?_) (fun hg => ?_) <;> ((try simp only [Bool.not_true, Bool.not_false, Bool.not_eq_true', Bool.not_eq_false', Bool.not_eq_eq_eq_not] at hg); (first | (cases hg) | (simp only [hg]) | skip))) | ((first | refine RunTo.plain rfl ?_ | refine RunTo.skipped rfl ?_); simp only [go_sem, ↓reduceIte, Nat.reduceEqDiff, Nat.reduceAdd, Nat.reduceLeDiff, Nat.reduceBEq, Nat.reduceMul, reduceCtorEq, Int.reduceLE, Int.reduceLT, Int.reduceAdd, Int.reduceSub, Int.reduceNeg, Int.reduceToNat, Int.reduceBEq, hdec, hget, hget2, hwk, List.length_map, bne, Bool.not_true, Bool.not_false]) | ((first | refine RunTo.nilA (by kernel_rfl) ?_ | refine RunTo.nilT ?_ | refine awp_skip ?_ | refine awp_exit ?_ | refine awp_label ?_); simp only [go_sem, ↓reduceIte, Nat.reduceEqDiff, Nat.reduceAdd, Nat.reduceLeDiff, Nat.reduceBEq, Nat.reduceMul, reduceCtorEq, Int.reduceLE, Int.reduceLT, Int.reduceAdd, Int.reduceSub, Int.reduceNeg, Int.reduceToNat, Int.reduceBEq, hdec, hget, hget2, hwk, List.length_map, bne, Bool.not_true, Bool.not_false]) | (refine awp_cond' rfl (of_decide_eq_true rfl) (fun hc => ?_) (fun hc => ?_) <;> ((try simp only [Bool.not_true, Bool.not_false, Bool.not_eq_true', Bool.not_eq_false', Bool.not_eq_eq_eq_not] at hc); (first | (cases hc) | (simp only [hc]) | skip))))
        all_goals exact ⟨a.sorts.length - (k + 1), by omega, SWq8 a b 8 (k + 1) _, weak_keep ⟨rfl, rfl, rfl, trivial⟩ ⟨rfl, rfl, trivial⟩ (Nat.le_refl _), k + 1, _, by omega, rfl, range_up hall hb, rfl⟩
  have hdec := lt_f hlt
  obtain rfl : k = a.sorts.length := by omega
  rw [hall] at hF
  clear hall hk hlt
  repeat' (first | refine awp_seq ?_ | refine awp_block ?_ | refine awp_round ?_ | refine awp_scope ?_ | refine awp_text rfl ?_ | refine awp_any rfl mix (by kernel_rfl) ?_ | (refine RunTo.unguard rfl rfl (fun hg => ?_) (fun hg => ?_) <;> ((try simp only [Bool.not_true, Bool.not_false, Bool.not_eq_true', Bool.not_eq_false', Bool.not_eq_eq_eq_not] at hg); (first | (cases hg) | (simp only [hg]) | skip))) | ((first | refine RunTo.plain rfl ?_ | refine RunTo.skipped rfl ?_); simp only [go_sem, ↓reduceIte, Nat.reduceEqDiff, Nat.reduceAdd, Nat.reduceLeDiff, Nat.reduceBEq, Nat.reduceMul, reduceCtorEq, Int.reduceLE, Int.reduceLT, Int.reduceAdd, Int.reduceSub, Int.reduceNeg, Int.reduceToNat, Int.reduceBEq, hdec, List.length_map]) | ((first | refine RunTo.nilA (by kernel_rfl) ?_ | refine RunTo.nilT ?_ | refine awp_skip ?_ | refine awp_exit ?_ | refine awp_label ?_); simp only [go_sem, ↓reduceIte, Nat.reduceEqDiff, Nat.reduceAdd, Nat.reduceLeDiff, Nat.reduceBEq, Nat.reduceMul, reduceCtorEq, Int.reduceLE, Int.reduceLT, Int.reduceAdd, Int.reduceSub, Int.reduceNeg, Int.reduceToNat, Int.reduceBEq, hdec, List.length_map]) | (refine awp_cond' rfl (of_decide_eq_true rfl) (fun hc => ?_) (fun hc => ?_) <;> ((try simp only [Bool.not_true, Bool.not_false, Bool.not_eq_true', Bool.not_eq_false', Bool.not_eq_eq_eq_not] at hc); (first | (cases hc) | (simp only [hc]) | skip))))
  rw [hF]
  all_goals (first | refine awp_ret ?_ | skip); refine ⟨(by first | exact .inl rfl | exact .inr rfl | exact .inr trivial | trivial), ?_⟩; simp only [go_sem, ↓reduceIte, Nat.reduceEqDiff, Nat.reduceAdd, Nat.reduceLeDiff, Nat.reduceBEq, Nat.reduceMul, reduceCtorEq, Int.reduceLE, Int.reduceLT, Int.reduceAdd, Int.reduceSub, Int.reduceNeg, Int.reduceToNat, Int.reduceBEq, retV, resL, resV, sealV, sealC, sealAll, Tryd.f7]
end Go.Proofs.YtlpfdgkfdgehnaaDoor.AM
