/- Part 6 of the proof: words, contracts, plain laws. Laid by a program of this session (wip/tool/shake.py): what is needed of own and printed texts, in order. -/
import Derived.Test.YtjihcldhjpdnmaaZb0
import Derived.Test.YtjihcldhjpdnmaaZb1
import Derived.Test.YtjihcldhjpdnmaaZb2
import Derived.Test.YtjihcldhjpdnmaaZb3
import Derived.Test.YtjihcldhjpdnmaaZb5
import Derived.Calls
import Derived.Lib.ItoaNum
import Derived.Orders
import Derived.Tactics
import Derived.Below
import Derived.Laws.Rows
import Derived.Laws.World
import Derived.Laws.CopyRow
import Derived.Lib.FrozenHead
import Derived.Deep.AppendSrc
import Derived.Deep.Upon
import Derived.Laws.BytesArg
import Derived.IntWalk
import Derived.Laws.Externs
import Derived.LoopN
import Derived.Test.YtjihcldhjpdnmaaProg
import Derived.KernelRfl
import Derived.MapKept
import Derived.Laws.FloatBits
import Derived.RegionTactic
import Derived.Lib.AppendIntMem
import Derived.Lib.Join
import Derived.Shelf.Small.Wraps
import Derived.Ground.Names2Prog
import Derived.Shelf.Slices.SearchI
namespace Go.Proofs.Ytjihcldhjpdnmaa.AM
open Go.RowKit
set_option linter.unusedSimpArgs false
set_option linter.unusedVariables false
set_option maxRecDepth 10000
set_option maxHeartbeats 0
theorem c_rCanon (u : Nat) (hu : u < 18446744073709551616) : Pure Try.prog 13 [uv u] (uv (canF u)) := by
  rw [can_ref u hu]
  refine pure_of_awp Try.func13 rfl rfl (by simp [Try.f13]) ?_; simp only [go_sem, ↓reduceIte, Nat.reduceEqDiff, Nat.reduceAdd, Nat.reduceLeDiff, Nat.reduceBEq, Nat.reduceMul, reduceCtorEq, Int.reduceLE, Int.reduceLT, Int.reduceAdd, Int.reduceSub, Int.reduceNeg, Int.reduceToNat, Int.reduceBEq]
  repeat' (first | refine awp_seq ?_ | refine awp_block ?_ | refine awp_round ?_ | refine awp_text rfl ?_ | refine awp_any rfl mix (by kernel_rfl) ?_ | (refine RunTo.unguard rfl rfl (fun hg => ?_) (fun hg => ?_) <;> ((try simp only [Bool.not_true, Bool.not_false, Bool.not_eq_true', Bool.not_eq_false', Bool.not_eq_eq_eq_not] at hg); (first | (cases hg) | (simp only [hg]) | skip))) | ((first | refine RunTo.plain rfl ?_ | refine RunTo.skipped rfl ?_); simp only [go_sem, ↓reduceIte, Nat.reduceEqDiff, Nat.reduceAdd, Nat.reduceLeDiff, Nat.reduceBEq, Nat.reduceMul, reduceCtorEq, Int.reduceLE, Int.reduceLT, Int.reduceAdd, Int.reduceSub, Int.reduceNeg, Int.reduceToNat, Int.reduceBEq, tmod63]) | ((first | refine RunTo.nilA (by kernel_rfl) ?_ | refine RunTo.nilT ?_ | refine awp_skip ?_ | refine awp_exit ?_); simp only [go_sem, ↓reduceIte, Nat.reduceEqDiff, Nat.reduceAdd, Nat.reduceLeDiff, Nat.reduceBEq, Nat.reduceMul, reduceCtorEq, Int.reduceLE, Int.reduceLT, Int.reduceAdd, Int.reduceSub, Int.reduceNeg, Int.reduceToNat, Int.reduceBEq, tmod63]) | (refine awp_cond' rfl (of_decide_eq_true rfl) (fun hc => ?_) (fun hc => ?_) <;> ((try simp only [Bool.not_true, Bool.not_false, Bool.not_eq_true', Bool.not_eq_false', Bool.not_eq_eq_eq_not] at hc); (first | (cases hc) | (simp only [hc]) | skip))))
  all_goals
    (first | refine awp_ret ?_ | skip); refine ⟨(by first | exact .inl rfl | exact .inr rfl | exact .inr trivial | trivial), ?_⟩; simp only [go_sem, ↓reduceIte, Nat.reduceEqDiff, Nat.reduceAdd, Nat.reduceLeDiff, Nat.reduceBEq, Nat.reduceMul, reduceCtorEq, Int.reduceLE, Int.reduceLT, Int.reduceAdd, Int.reduceSub, Int.reduceNeg, Int.reduceToNat, Int.reduceBEq, retV, resL, resV, sealV, sealC, sealAll, Try.f13]
    (try simp only [decide_eq_true_eq, decide_eq_false_iff_not, beq_iff_eq, bne_iff_ne, ne_eq, beq_eq_false_iff_ne, bne_eq_false_iff_eq, Bool.and_eq_true, Bool.or_eq_true, Bool.or_eq_false_iff, Bool.and_eq_false_iff] at *)
    (repeat' split) <;> first | rfl | (exfalso; omega)
theorem c_rBits (f : Nat) : Pure Try.prog 9 [fv f] (uv f) := by
  refine pure_of_awp Try.func9 rfl rfl (by simp [Try.f9]) ?_; simp only [go_sem, ↓reduceIte, Nat.reduceEqDiff, Nat.reduceAdd, Nat.reduceLeDiff, Nat.reduceBEq, Nat.reduceMul, reduceCtorEq, Int.reduceLE, Int.reduceLT, Int.reduceAdd, Int.reduceSub, Int.reduceNeg, Int.reduceToNat, Int.reduceBEq]
  repeat' (first | refine awp_seq ?_ | refine awp_block ?_ | refine awp_round ?_ | refine awp_text rfl ?_ | refine awp_any rfl mix (by kernel_rfl) ?_ | (refine RunTo.unguard rfl rfl (fun hg => ?_) (fun hg => ?_) <;> ((try simp only [Bool.not_true, Bool.not_false, Bool.not_eq_true', Bool.not_eq_false', Bool.not_eq_eq_eq_not] at hg); (first | (cases hg) | (simp only [hg]) | skip))) | ((first | refine RunTo.plain rfl ?_ | refine RunTo.skipped rfl ?_ | refine RunTo.ext (x_bits f) rfl rfl rfl rfl ?_); simp only [go_sem, ↓reduceIte, Nat.reduceEqDiff, Nat.reduceAdd, Nat.reduceLeDiff, Nat.reduceBEq, Nat.reduceMul, reduceCtorEq, Int.reduceLE, Int.reduceLT, Int.reduceAdd, Int.reduceSub, Int.reduceNeg, Int.reduceToNat, Int.reduceBEq]) | ((first | refine RunTo.nilA (by kernel_rfl) ?_ | refine RunTo.nilT ?_ | refine awp_skip ?_ | refine awp_exit ?_); simp only [go_sem, ↓reduceIte, Nat.reduceEqDiff, Nat.reduceAdd, Nat.reduceLeDiff, Nat.reduceBEq, Nat.reduceMul, reduceCtorEq, Int.reduceLE, Int.reduceLT, Int.reduceAdd, Int.reduceSub, Int.reduceNeg, Int.reduceToNat, Int.reduceBEq]) | (refine awp_cond' rfl (of_decide_eq_true rfl) (fun hc => ?_) (fun hc => ?_) <;> ((try simp only [Bool.not_true, Bool.not_false, Bool.not_eq_true', Bool.not_eq_false', Bool.not_eq_eq_eq_not] at hc); (first | (cases hc) | (simp only [hc]) | skip))))
  all_goals
    (first | refine awp_ret ?_ | skip); refine ⟨(by first | exact .inl rfl | exact .inr rfl | exact .inr trivial | trivial), ?_⟩; simp only [go_sem, ↓reduceIte, Nat.reduceEqDiff, Nat.reduceAdd, Nat.reduceLeDiff, Nat.reduceBEq, Nat.reduceMul, reduceCtorEq, Int.reduceLE, Int.reduceLT, Int.reduceAdd, Int.reduceSub, Int.reduceNeg, Int.reduceToNat, Int.reduceBEq, retV, resL, resV, sealV, sealC, sealAll, Try.f9]
theorem size_nil {s : ByteArray} (h : s.toList = eE.toList) : s.size = 0 := by
  have := congrArg List.length h
  rw [ByteArray.toList_eq, ByteArray.toList_eq] at this
  simpa [eE] using this
theorem c_rAtom (a : AtomD) (hf : a.f < 18446744073709551616) : Pure Try.prog 8 [a.av] (bv (validA a)) := by
  obtain ⟨k, n, f, s⟩ := a
  have hf' : f < 18446744073709551616 := hf
  have hk : k < 0 ∨ 5 < k ∨ k = 0 ∨ k = 1 ∨ k = 2 ∨ k = 3 ∨ k = 4 ∨ k = 5 := by omega
  rcases hk with hk | hk | hk | hk | hk | hk | hk | hk
  · have hd : decide (k < 0) = true := decide_eq_true hk
    refine pure_of_awp Try.func8 rfl rfl (by simp [Try.f8]) ?_; simp only [go_sem, ↓reduceIte, Nat.reduceEqDiff, Nat.reduceAdd, Nat.reduceLeDiff, Nat.reduceBEq, Nat.reduceMul, reduceCtorEq, Int.reduceLE, Int.reduceLT, Int.reduceAdd, Int.reduceSub, Int.reduceNeg, Int.reduceToNat, Int.reduceBEq]
    repeat' (first | refine awp_seq ?_ | refine awp_block ?_ | refine awp_round ?_ | refine awp_text rfl ?_ | refine awp_any rfl mix (by kernel_rfl) ?_ | (refine RunTo.unguard rfl rfl (fun hg => ?_) (fun hg => ?_) <;> ((try simp only [Bool.not_true, Bool.not_false, Bool.not_eq_true', Bool.not_eq_false', Bool.not_eq_eq_eq_not] at hg); (first | (cases hg) | (simp only [hg]) | skip))) | ((first | refine RunTo.plain rfl ?_ | refine RunTo.skipped rfl ?_); simp only [go_sem, ↓reduceIte, Nat.reduceEqDiff, Nat.reduceAdd, Nat.reduceLeDiff, Nat.reduceBEq, Nat.reduceMul, reduceCtorEq, Int.reduceLE, Int.reduceLT, Int.reduceAdd, Int.reduceSub, Int.reduceNeg, Int.reduceToNat, Int.reduceBEq, AtomD.av, hd]) | ((first | refine RunTo.nilA (by kernel_rfl) ?_ | refine RunTo.nilT ?_ | refine awp_skip ?_ | refine awp_exit ?_); simp only [go_sem, ↓reduceIte, Nat.reduceEqDiff, Nat.reduceAdd, Nat.reduceLeDiff, Nat.reduceBEq, Nat.reduceMul, reduceCtorEq, Int.reduceLE, Int.reduceLT, Int.reduceAdd, Int.reduceSub, Int.reduceNeg, Int.reduceToNat, Int.reduceBEq, AtomD.av, hd]) | (refine awp_cond' rfl (of_decide_eq_true rfl) (fun hc => ?_) (fun hc => ?_) <;> ((try simp only [Bool.not_true, Bool.not_false, Bool.not_eq_true', Bool.not_eq_false', Bool.not_eq_eq_eq_not] at hc); (first | (cases hc) | (simp only [hc]) | skip))))
    all_goals
      (first | refine awp_ret ?_ | skip); refine ⟨(by first | exact .inl rfl | exact .inr rfl | exact .inr trivial | trivial), ?_⟩; simp only [go_sem, ↓reduceIte, Nat.reduceEqDiff, Nat.reduceAdd, Nat.reduceLeDiff, Nat.reduceBEq, Nat.reduceMul, reduceCtorEq, Int.reduceLE, Int.reduceLT, Int.reduceAdd, Int.reduceSub, Int.reduceNeg, Int.reduceToNat, Int.reduceBEq, retV, resL, resV, sealV, sealC, sealAll, Try.f8]
      have h : validA ⟨k, n, f, s⟩ = false := by unfold validA; simp only []; rw [if_neg (by omega), if_neg (by omega), if_neg (by omega), if_neg (by omega), if_neg (by omega)]
      rw [h]
  · have hd : decide (k < 0) = false := decide_eq_false (by omega)
    have hd2 : decide (5 < k) = true := decide_eq_true hk
    refine pure_of_awp Try.func8 rfl rfl (by simp [Try.f8]) ?_; simp only [go_sem, ↓reduceIte, Nat.reduceEqDiff, Nat.reduceAdd, Nat.reduceLeDiff, Nat.reduceBEq, Nat.reduceMul, reduceCtorEq, Int.reduceLE, Int.reduceLT, Int.reduceAdd, Int.reduceSub, Int.reduceNeg, Int.reduceToNat, Int.reduceBEq]
    repeat' (first | refine awp_seq ?_ | refine awp_block ?_ | refine awp_round ?_ | refine awp_text rfl ?_ | refine awp_any rfl mix (by kernel_rfl) ?_ | (refine RunTo.unguard rfl rfl (fun hg => ?_) (fun hg => ?_) <;> ((try simp only [Bool.not_true, Bool.not_false, Bool.not_eq_true', Bool.not_eq_false', Bool.not_eq_eq_eq_not] at hg); (first | (cases hg) | (simp only [hg]) | skip))) | ((first | refine RunTo.plain rfl ?_ | refine RunTo.skipped rfl ?_); simp only [go_sem, ↓reduceIte, Nat.reduceEqDiff, Nat.reduceAdd, Nat.reduceLeDiff, Nat.reduceBEq, Nat.reduceMul, reduceCtorEq, Int.reduceLE, Int.reduceLT, Int.reduceAdd, Int.reduceSub, Int.reduceNeg, Int.reduceToNat, Int.reduceBEq, AtomD.av, hd, hd2]) | ((first | refine RunTo.nilA (by kernel_rfl) ?_ | refine RunTo.nilT ?_ | refine awp_skip ?_ | refine awp_exit ?_); simp only [go_sem, ↓reduceIte, Nat.reduceEqDiff, Nat.reduceAdd, Nat.reduceLeDiff, Nat.reduceBEq, Nat.reduceMul, reduceCtorEq, Int.reduceLE, Int.reduceLT, Int.reduceAdd, Int.reduceSub, Int.reduceNeg, Int.reduceToNat, Int.reduceBEq, AtomD.av, hd, hd2]) | (refine awp_cond' rfl (of_decide_eq_true rfl) (fun hc => ?_) (fun hc => ?_) <;> ((try simp only [Bool.not_true, Bool.not_false, Bool.not_eq_true', Bool.not_eq_false', Bool.not_eq_eq_eq_not] at hc); (first | (cases hc) | (simp only [hc]) | skip))))
    all_goals
      (first | refine awp_ret ?_ | skip); refine ⟨(by first | exact .inl rfl | exact .inr rfl | exact .inr trivial | trivial), ?_⟩; simp only [go_sem, ↓reduceIte, Nat.reduceEqDiff, Nat.reduceAdd, Nat.reduceLeDiff, Nat.reduceBEq, Nat.reduceMul, reduceCtorEq, Int.reduceLE, Int.reduceLT, Int.reduceAdd, Int.reduceSub, Int.reduceNeg, Int.reduceToNat, Int.reduceBEq, retV, resL, resV, sealV, sealC, sealAll, Try.f8]
      have h : validA ⟨k, n, f, s⟩ = false := by unfold validA; simp only []; rw [if_neg (by omega), if_neg (by omega), if_neg (by omega), if_neg (by omega), if_neg (by omega)]
      rw [h]
  all_goals
    subst hk
    by_cases hs : s.toList = eE.toList
    · have hz : (s.toList == eE.toList) = true := by rw [hs]; exact beq_self_eq_true _
      have hsz : (s.size : Int) ≤ 256 := by rw [size_nil hs]; decide
      clear hs
      refine pure_of_awp Try.func8 rfl rfl (by simp [Try.f8]) ?_; simp only [go_sem, ↓reduceIte, Nat.reduceEqDiff, Nat.reduceAdd, Nat.reduceLeDiff, Nat.reduceBEq, Nat.reduceMul, reduceCtorEq, Int.reduceLE, Int.reduceLT, Int.reduceAdd, Int.reduceSub, Int.reduceNeg, Int.reduceToNat, Int.reduceBEq]
      repeat' (first | refine awp_seq ?_ | refine awp_block ?_ | refine awp_round ?_ | refine awp_text rfl ?_ | refine awp_any rfl mix (by kernel_rfl) ?_ | (refine RunTo.unguard rfl rfl (fun hg => ?_) (fun hg => ?_) <;> ((try simp only [Bool.not_true, Bool.not_false, Bool.not_eq_true', Bool.not_eq_false', Bool.not_eq_eq_eq_not] at hg); (first | (cases hg) | (simp only [hg]) | skip))) | ((first | refine RunTo.plain rfl ?_ | refine RunTo.skipped rfl ?_ | refine RunTo.call (c_rBits f) Try.func9 rfl rfl rfl rfl rfl rfl rfl rfl ?_ | refine RunTo.call (c_rCanon f hf') Try.func13 rfl rfl rfl rfl rfl rfl rfl rfl ?_); simp only [go_sem, ↓reduceIte, Nat.reduceEqDiff, Nat.reduceAdd, Nat.reduceLeDiff, Nat.reduceBEq, Nat.reduceMul, reduceCtorEq, Int.reduceLE, Int.reduceLT, Int.reduceAdd, Int.reduceSub, Int.reduceNeg, Int.reduceToNat, Int.reduceBEq, AtomD.av, bne_self_eq_false, hz, bne]) | ((first | refine RunTo.nilA (by kernel_rfl) ?_ | refine RunTo.nilT ?_ | refine awp_skip ?_ | refine awp_exit ?_); simp only [go_sem, ↓reduceIte, Nat.reduceEqDiff, Nat.reduceAdd, Nat.reduceLeDiff, Nat.reduceBEq, Nat.reduceMul, reduceCtorEq, Int.reduceLE, Int.reduceLT, Int.reduceAdd, Int.reduceSub, Int.reduceNeg, Int.reduceToNat, Int.reduceBEq, AtomD.av, bne_self_eq_false, hz, bne]) | (refine awp_cond' rfl (of_decide_eq_true rfl) (fun hc => ?_) (fun hc => ?_) <;> ((try simp only [Bool.not_true, Bool.not_false, Bool.not_eq_true', Bool.not_eq_false', Bool.not_eq_eq_eq_not] at hc); (first | (cases hc) | (simp only [hc]) | skip))))
      all_goals
        (first | refine awp_ret ?_ | skip); refine ⟨(by first | exact .inl rfl | exact .inr rfl | exact .inr trivial | trivial), ?_⟩; simp only [go_sem, ↓reduceIte, Nat.reduceEqDiff, Nat.reduceAdd, Nat.reduceLeDiff, Nat.reduceBEq, Nat.reduceMul, reduceCtorEq, Int.reduceLE, Int.reduceLT, Int.reduceAdd, Int.reduceSub, Int.reduceNeg, Int.reduceToNat, Int.reduceBEq, retV, resL, resV, sealV, sealC, sealAll, Try.f8]
        (try simp only [decide_eq_true_eq, decide_eq_false_iff_not, beq_iff_eq, bne_iff_ne, ne_eq, beq_eq_false_iff_ne, bne_eq_false_iff_eq, Bool.and_eq_true, Bool.or_eq_true, Bool.or_eq_false_iff, Bool.and_eq_false_iff] at *)
        unfold validA isA
        simp only [hz]
        first
        | (simp [*]; done)
        | (simp [*]; omega)
        | trace_state
    · have hz : (s.toList == eE.toList) = false := beq_false_of_ne hs
      clear hs
      refine pure_of_awp Try.func8 rfl rfl (by simp [Try.f8]) ?_; simp only [go_sem, ↓reduceIte, Nat.reduceEqDiff, Nat.reduceAdd, Nat.reduceLeDiff, Nat.reduceBEq, Nat.reduceMul, reduceCtorEq, Int.reduceLE, Int.reduceLT, Int.reduceAdd, Int.reduceSub, Int.reduceNeg, Int.reduceToNat, Int.reduceBEq]
      repeat' (first | refine awp_seq ?_ | refine awp_block ?_ | refine awp_round ?_ | refine awp_text rfl ?_ | refine awp_any rfl mix (by kernel_rfl) ?_ | (refine RunTo.unguard rfl rfl (fun hg => ?_) (fun hg => ?_) <;> ((try simp only [Bool.not_true, Bool.not_false, Bool.not_eq_true', Bool.not_eq_false', Bool.not_eq_eq_eq_not] at hg); (first | (cases hg) | (simp only [hg]) | skip))) | ((first | refine RunTo.plain rfl ?_ | refine RunTo.skipped rfl ?_ | refine RunTo.call (c_rBits f) Try.func9 rfl rfl rfl rfl rfl rfl rfl rfl ?_ | refine RunTo.call (c_rCanon f hf') Try.func13 rfl rfl rfl rfl rfl rfl rfl rfl ?_); simp only [go_sem, ↓reduceIte, Nat.reduceEqDiff, Nat.reduceAdd, Nat.reduceLeDiff, Nat.reduceBEq, Nat.reduceMul, reduceCtorEq, Int.reduceLE, Int.reduceLT, Int.reduceAdd, Int.reduceSub, Int.reduceNeg, Int.reduceToNat, Int.reduceBEq, AtomD.av, bne_self_eq_false, hz, bne]) | ((first | refine RunTo.nilA (by kernel_rfl) ?_ | refine RunTo.nilT ?_ | refine awp_skip ?_ | refine awp_exit ?_); simp only [go_sem, ↓reduceIte, Nat.reduceEqDiff, Nat.reduceAdd, Nat.reduceLeDiff, Nat.reduceBEq, Nat.reduceMul, reduceCtorEq, Int.reduceLE, Int.reduceLT, Int.reduceAdd, Int.reduceSub, Int.reduceNeg, Int.reduceToNat, Int.reduceBEq, AtomD.av, bne_self_eq_false, hz, bne]) | (refine awp_cond' rfl (of_decide_eq_true rfl) (fun hc => ?_) (fun hc => ?_) <;> ((try simp only [Bool.not_true, Bool.not_false, Bool.not_eq_true', Bool.not_eq_false', Bool.not_eq_eq_eq_not] at hc); (first | (cases hc) | (simp only [hc]) | skip))))
      all_goals
        (first | refine awp_ret ?_ | skip); refine ⟨(by first | exact .inl rfl | exact .inr rfl | exact .inr trivial | trivial), ?_⟩; simp only [go_sem, ↓reduceIte, Nat.reduceEqDiff, Nat.reduceAdd, Nat.reduceLeDiff, Nat.reduceBEq, Nat.reduceMul, reduceCtorEq, Int.reduceLE, Int.reduceLT, Int.reduceAdd, Int.reduceSub, Int.reduceNeg, Int.reduceToNat, Int.reduceBEq, retV, resL, resV, sealV, sealC, sealAll, Try.f8]
        (try simp only [decide_eq_true_eq, decide_eq_false_iff_not, beq_iff_eq, bne_iff_ne, ne_eq, beq_eq_false_iff_ne, bne_eq_false_iff_eq, Bool.and_eq_true, Bool.or_eq_true, Bool.or_eq_false_iff, Bool.and_eq_false_iff] at *)
        have hz2 : (s.toList == eE.toList) = false := beq_false_of_ne hz
        unfold validA isA
        simp only [hz2]
        first
        | (simp [*]; done)
        | (simp [*]; omega)
        | trace_state
end Go.Proofs.Ytjihcldhjpdnmaa.AM
namespace Go.Proofs.Ytjihcldhjpdnmaa.AM
open Go.RowKit
set_option linter.unusedSimpArgs false
set_option linter.unusedVariables false
set_option maxRecDepth 10000
set_option maxHeartbeats 0
def flV (v : ValD) : Prop := v.a.f < 18446744073709551616 ∧ ∀ a ∈ v.l, a.f < 18446744073709551616
abbrev cellsV (v : ValD) : List AV := [iv v.a.k, iv v.a.n, fv v.a.f, sv v.a.s, .dat (.lst 4 (v.l.map AtomD.enc))]
abbrev SW (v : ValD) (k T e : Nat) : St := ⟨[(3, iv k), (1, .ptr 1 e 0 0)], [(1, .box e (cellsV v))], T⟩
def IW (v : ValD) (n : Nat) (st : St) : Prop := ∃ k T e, k ≤ v.l.length ∧ n = v.l.length - k ∧ (v.l.take k).all validA = true ∧ st = SW v k T e
theorem c_rValid (v : ValD) (hf : flV v) : Pure Try.prog 5 [v.av] (bv (validV v)) := by
  have ha := c_rAtom v.a hf.1
  have hb := c_rBits v.a.f
  by_cases h6 : v.a.k = 6
  · have hk6 : (v.a.k == 6) = true := by simpa using h6
    refine pure_of_awp Try.func5 rfl rfl (by simp [Try.f5]) ?_; simp only [go_sem, ↓reduceIte, Nat.reduceEqDiff, Nat.reduceAdd, Nat.reduceLeDiff, Nat.reduceBEq, Nat.reduceMul, reduceCtorEq, Int.reduceLE, Int.reduceLT, Int.reduceAdd, Int.reduceSub, Int.reduceNeg, Int.reduceToNat, Int.reduceBEq]
    repeat' (first | refine awp_seq ?_ | refine awp_block ?_ | refine awp_round ?_ | refine awp_text rfl ?_ | refine awp_any rfl mix (by kernel_rfl) ?_ | (refine RunTo.unguard rfl rfl (fun hg => ?_) (fun hg => ?_) <;> ((try simp only [Bool.not_true, Bool.not_false, Bool.not_eq_true', Bool.not_eq_false', Bool.not_eq_eq_eq_not] at hg); (first | (cases hg) | (simp only [hg]) | skip))) | ((first | refine RunTo.plain rfl ?_ | refine RunTo.skipped rfl ?_ | refine RunTo.call (hb) Try.func9 rfl rfl rfl rfl rfl rfl rfl rfl ?_); simp only [go_sem, ↓reduceIte, Nat.reduceEqDiff, Nat.reduceAdd, Nat.reduceLeDiff, Nat.reduceBEq, Nat.reduceMul, reduceCtorEq, Int.reduceLE, Int.reduceLT, Int.reduceAdd, Int.reduceSub, Int.reduceNeg, Int.reduceToNat, Int.reduceBEq, ValD.av, bne, hk6, List.length_map]) | ((first | refine RunTo.nilA (by kernel_rfl) ?_ | refine RunTo.nilT ?_ | refine awp_skip ?_ | refine awp_exit ?_); simp only [go_sem, ↓reduceIte, Nat.reduceEqDiff, Nat.reduceAdd, Nat.reduceLeDiff, Nat.reduceBEq, Nat.reduceMul, reduceCtorEq, Int.reduceLE, Int.reduceLT, Int.reduceAdd, Int.reduceSub, Int.reduceNeg, Int.reduceToNat, Int.reduceBEq, ValD.av, bne, hk6, List.length_map]) | (refine awp_cond' rfl (of_decide_eq_true rfl) (fun hc => ?_) (fun hc => ?_) <;> ((try simp only [Bool.not_true, Bool.not_false, Bool.not_eq_true', Bool.not_eq_false', Bool.not_eq_eq_eq_not] at hc); (first | (cases hc) | (simp only [hc]) | skip))))
    · (first | refine awp_ret ?_ | skip); refine ⟨(by first | exact .inl rfl | exact .inr rfl | exact .inr trivial | trivial), ?_⟩; simp only [go_sem, ↓reduceIte, Nat.reduceEqDiff, Nat.reduceAdd, Nat.reduceLeDiff, Nat.reduceBEq, Nat.reduceMul, reduceCtorEq, Int.reduceLE, Int.reduceLT, Int.reduceAdd, Int.reduceSub, Int.reduceNeg, Int.reduceToNat, Int.reduceBEq, retV, resL, resV, sealV, sealC, sealAll, Try.f5]
      have hd : decide ((v.l.length : Int) ≤ 16) = false := by have := of_decide_eq_true hc; exact decide_eq_false (by omega)
      rw [validV_list h6, hd, Bool.and_false, Bool.false_and]
    · have hd : decide ((v.l.length : Int) ≤ 16) = true := by have := of_decide_eq_false hc; exact decide_eq_true (by omega)
      have hle : v.l.length ≤ 16 := by have := of_decide_eq_true hd; omega
      have hv : validV v = v.l.all validA := by
        rw [validV_list h6, hd, Bool.and_true]
        have : isA v.a false false false = true := by unfold isA; simp only [*, Bool.false_or, Bool.and_self]
        rw [this, Bool.true_and]
      refine awp_loopw (IW v) v.l.length (SW v 0 _ _) (weak_keep ⟨rfl, rfl, trivial⟩ ⟨rfl, trivial⟩ (Nat.le_refl _)) ⟨0, _, _, Nat.zero_le _, rfl, rfl, rfl⟩ ?_
      clear hg hc
      rintro n st ⟨k, T, e, hk, rfl, hall, rfl⟩
      by_cases hlt : k < v.l.length
      · have hdec := lt_t hlt
        have hget := row_at AtomD.enc v.l k hlt
        have hfa := hf.2 _ (List.getElem_mem hlt)
        have hmem := List.getElem_mem hlt
        have htk := all_take validA v.l k hlt
        have hwk : IntKind.i64.wrap ((k : Int) + 1) = ((k + 1 : Nat) : Int) := wrap_succ (by omega)
        generalize v.l[k] = a at *
        have hca := c_rAtom a hfa
        repeat' (first | refine awp_seq ?_ | refine awp_block ?_ | refine awp_round ?_ | refine awp_text rfl ?_ | refine awp_any rfl mix (by kernel_rfl) ?_ | (refine RunTo.unguard rfl rfl (fun hg => ?_) (fun hg => ?_) <;> ((try simp only [Bool.not_true, Bool.not_false, Bool.not_eq_true', Bool.not_eq_false', Bool.not_eq_eq_eq_not] at hg); (first | (cases hg) | (simp only [hg]) | skip))) | ((first | refine RunTo.plain rfl ?_ | refine RunTo.skipped rfl ?_ | refine RunTo.call (hca) Try.func8 rfl rfl rfl rfl rfl rfl rfl rfl ?_); simp only [go_sem, ↓reduceIte, Nat.reduceEqDiff, Nat.reduceAdd, Nat.reduceLeDiff, Nat.reduceBEq, Nat.reduceMul, reduceCtorEq, Int.reduceLE, Int.reduceLT, Int.reduceAdd, Int.reduceSub, Int.reduceNeg, Int.reduceToNat, Int.reduceBEq, hdec, hget, AtomD.enc, hwk, List.length_map]) | ((first | refine RunTo.nilA (by kernel_rfl) ?_ | refine RunTo.nilT ?_ | refine awp_skip ?_ | refine awp_exit ?_); simp only [go_sem, ↓reduceIte, Nat.reduceEqDiff, Nat.reduceAdd, Nat.reduceLeDiff, Nat.reduceBEq, Nat.reduceMul, reduceCtorEq, Int.reduceLE, Int.reduceLT, Int.reduceAdd, Int.reduceSub, Int.reduceNeg, Int.reduceToNat, Int.reduceBEq, hdec, hget, AtomD.enc, hwk, List.length_map]) | (refine awp_cond' rfl (of_decide_eq_true rfl) (fun hc => ?_) (fun hc => ?_) <;> ((try simp only [Bool.not_true, Bool.not_false, Bool.not_eq_true', Bool.not_eq_false', Bool.not_eq_eq_eq_not] at hc); (first | (cases hc) | (simp only [hc]) | skip))))
        all_goals
          (try simp only [decide_eq_true_eq, decide_eq_false_iff_not, beq_iff_eq, bne_iff_ne, ne_eq, beq_eq_false_iff_ne, bne_eq_false_iff_eq, Bool.and_eq_true, Bool.or_eq_true, Bool.or_eq_false_iff, Bool.and_eq_false_iff] at *)
          first
          | exact ⟨v.l.length - (k + 1), by omega, SW v (k + 1) _ e, weak_keep ⟨rfl, rfl, trivial⟩ ⟨rfl, trivial⟩ (Nat.le_refl _), k + 1, _, _, by omega, rfl, by rw [htk, hall]; simp [*], rfl⟩
          | (have h2 : v.l.all validA = false := by
               cases hh : v.l.all validA with
               | false => rfl
               | true => have := List.all_eq_true.1 hh a hmem; simp_all
             rw [hv, h2]
             (first | refine awp_ret ?_ | skip); refine ⟨(by first | exact .inl rfl | exact .inr rfl | exact .inr trivial | trivial), ?_⟩; simp only [go_sem, ↓reduceIte, Nat.reduceEqDiff, Nat.reduceAdd, Nat.reduceLeDiff, Nat.reduceBEq, Nat.reduceMul, reduceCtorEq, Int.reduceLE, Int.reduceLT, Int.reduceAdd, Int.reduceSub, Int.reduceNeg, Int.reduceToNat, Int.reduceBEq, retV, resL, resV, sealV, sealC, sealAll, Try.f5])
      · have hdec := lt_f hlt
        rw [List.take_of_length_le (by omega)] at hall
        repeat' (first | refine awp_seq ?_ | refine awp_block ?_ | refine awp_round ?_ | refine awp_text rfl ?_ | refine awp_any rfl mix (by kernel_rfl) ?_ | (refine RunTo.unguard rfl rfl (fun hg => ?_) (fun hg => ?_) <;> ((try simp only [Bool.not_true, Bool.not_false, Bool.not_eq_true', Bool.not_eq_false', Bool.not_eq_eq_eq_not] at hg); (first | (cases hg) | (simp only [hg]) | skip))) | ((first | refine RunTo.plain rfl ?_ | refine RunTo.skipped rfl ?_); simp only [go_sem, ↓reduceIte, Nat.reduceEqDiff, Nat.reduceAdd, Nat.reduceLeDiff, Nat.reduceBEq, Nat.reduceMul, reduceCtorEq, Int.reduceLE, Int.reduceLT, Int.reduceAdd, Int.reduceSub, Int.reduceNeg, Int.reduceToNat, Int.reduceBEq, hdec, List.length_map]) | ((first | refine RunTo.nilA (by kernel_rfl) ?_ | refine RunTo.nilT ?_ | refine awp_skip ?_ | refine awp_exit ?_); simp only [go_sem, ↓reduceIte, Nat.reduceEqDiff, Nat.reduceAdd, Nat.reduceLeDiff, Nat.reduceBEq, Nat.reduceMul, reduceCtorEq, Int.reduceLE, Int.reduceLT, Int.reduceAdd, Int.reduceSub, Int.reduceNeg, Int.reduceToNat, Int.reduceBEq, hdec, List.length_map]) | (refine awp_cond' rfl (of_decide_eq_true rfl) (fun hc => ?_) (fun hc => ?_) <;> ((try simp only [Bool.not_true, Bool.not_false, Bool.not_eq_true', Bool.not_eq_false', Bool.not_eq_eq_eq_not] at hc); (first | (cases hc) | (simp only [hc]) | skip))))
        all_goals
          (first | refine awp_ret ?_ | skip); refine ⟨(by first | exact .inl rfl | exact .inr rfl | exact .inr trivial | trivial), ?_⟩; simp only [go_sem, ↓reduceIte, Nat.reduceEqDiff, Nat.reduceAdd, Nat.reduceLeDiff, Nat.reduceBEq, Nat.reduceMul, reduceCtorEq, Int.reduceLE, Int.reduceLT, Int.reduceAdd, Int.reduceSub, Int.reduceNeg, Int.reduceToNat, Int.reduceBEq, retV, resL, resV, sealV, sealC, sealAll, Try.f5]
          rw [hv, hall]
    · (first | refine awp_ret ?_ | skip); refine ⟨(by first | exact .inl rfl | exact .inr rfl | exact .inr trivial | trivial), ?_⟩; simp only [go_sem, ↓reduceIte, Nat.reduceEqDiff, Nat.reduceAdd, Nat.reduceLeDiff, Nat.reduceBEq, Nat.reduceMul, reduceCtorEq, Int.reduceLE, Int.reduceLT, Int.reduceAdd, Int.reduceSub, Int.reduceNeg, Int.reduceToNat, Int.reduceBEq, retV, resL, resV, sealV, sealC, sealAll, Try.f5]
      rw [validV_list h6]
      unfold isA
      simp only [*, Bool.false_or, Bool.and_false, Bool.false_and, Bool.and_true]
    · (first | refine awp_ret ?_ | skip); refine ⟨(by first | exact .inl rfl | exact .inr rfl | exact .inr trivial | trivial), ?_⟩; simp only [go_sem, ↓reduceIte, Nat.reduceEqDiff, Nat.reduceAdd, Nat.reduceLeDiff, Nat.reduceBEq, Nat.reduceMul, reduceCtorEq, Int.reduceLE, Int.reduceLT, Int.reduceAdd, Int.reduceSub, Int.reduceNeg, Int.reduceToNat, Int.reduceBEq, retV, resL, resV, sealV, sealC, sealAll, Try.f5]
      rw [validV_list h6]
      unfold isA
      simp only [*, Bool.false_or, Bool.and_false, Bool.false_and, Bool.and_true]
    · (first | refine awp_ret ?_ | skip); refine ⟨(by first | exact .inl rfl | exact .inr rfl | exact .inr trivial | trivial), ?_⟩; simp only [go_sem, ↓reduceIte, Nat.reduceEqDiff, Nat.reduceAdd, Nat.reduceLeDiff, Nat.reduceBEq, Nat.reduceMul, reduceCtorEq, Int.reduceLE, Int.reduceLT, Int.reduceAdd, Int.reduceSub, Int.reduceNeg, Int.reduceToNat, Int.reduceBEq, retV, resL, resV, sealV, sealC, sealAll, Try.f5]
      rw [validV_list h6]
      unfold isA
      simp only [*, Bool.false_or, Bool.and_false, Bool.false_and, Bool.and_true]
  · have hk6 : (v.a.k == 6) = false := by simpa using h6
    refine pure_of_awp Try.func5 rfl rfl (by simp [Try.f5]) ?_; simp only [go_sem, ↓reduceIte, Nat.reduceEqDiff, Nat.reduceAdd, Nat.reduceLeDiff, Nat.reduceBEq, Nat.reduceMul, reduceCtorEq, Int.reduceLE, Int.reduceLT, Int.reduceAdd, Int.reduceSub, Int.reduceNeg, Int.reduceToNat, Int.reduceBEq]
    repeat' (first | refine awp_seq ?_ | refine awp_block ?_ | refine awp_round ?_ | refine awp_text rfl ?_ | refine awp_any rfl mix (by kernel_rfl) ?_ | (refine RunTo.unguard rfl rfl (fun hg => ?_) (fun hg => ?_) <;> ((try simp only [Bool.not_true, Bool.not_false, Bool.not_eq_true', Bool.not_eq_false', Bool.not_eq_eq_eq_not] at hg); (first | (cases hg) | (simp only [hg]) | skip))) | ((first | refine RunTo.plain rfl ?_ | refine RunTo.skipped rfl ?_ | refine RunTo.call (ha) Try.func8 rfl rfl rfl rfl rfl rfl rfl rfl ?_); simp only [go_sem, ↓reduceIte, Nat.reduceEqDiff, Nat.reduceAdd, Nat.reduceLeDiff, Nat.reduceBEq, Nat.reduceMul, reduceCtorEq, Int.reduceLE, Int.reduceLT, Int.reduceAdd, Int.reduceSub, Int.reduceNeg, Int.reduceToNat, Int.reduceBEq, ValD.av, bne, hk6, List.length_map]) | ((first | refine RunTo.nilA (by kernel_rfl) ?_ | refine RunTo.nilT ?_ | refine awp_skip ?_ | refine awp_exit ?_); simp only [go_sem, ↓reduceIte, Nat.reduceEqDiff, Nat.reduceAdd, Nat.reduceLeDiff, Nat.reduceBEq, Nat.reduceMul, reduceCtorEq, Int.reduceLE, Int.reduceLT, Int.reduceAdd, Int.reduceSub, Int.reduceNeg, Int.reduceToNat, Int.reduceBEq, ValD.av, bne, hk6, List.length_map]) | (refine awp_cond' rfl (of_decide_eq_true rfl) (fun hc => ?_) (fun hc => ?_) <;> ((try simp only [Bool.not_true, Bool.not_false, Bool.not_eq_true', Bool.not_eq_false', Bool.not_eq_eq_eq_not] at hc); (first | (cases hc) | (simp only [hc]) | skip))))
    all_goals
      (first | refine awp_ret ?_ | skip); refine ⟨(by first | exact .inl rfl | exact .inr rfl | exact .inr trivial | trivial), ?_⟩; simp only [go_sem, ↓reduceIte, Nat.reduceEqDiff, Nat.reduceAdd, Nat.reduceLeDiff, Nat.reduceBEq, Nat.reduceMul, reduceCtorEq, Int.reduceLE, Int.reduceLT, Int.reduceAdd, Int.reduceSub, Int.reduceNeg, Int.reduceToNat, Int.reduceBEq, retV, resL, resV, sealV, sealC, sealAll, Try.f5]
      rw [validV_atom h6]
      simp [*]
end Go.Proofs.Ytjihcldhjpdnmaa.AM
namespace Go.Proofs.Ytjihcldhjpdnmaa.AM
open Go.RowKit FL
set_option linter.unusedSimpArgs false
set_option linter.unusedVariables false
set_option maxRecDepth 10000
set_option maxHeartbeats 0
def lexA : List AtomD → List AtomD → Int
  | x :: xs, y :: ys => if atomsS x y = 0 then lexA xs ys else atomsS x y
  | xs, ys => cmp3 xs.length ys.length
def compareS (a b : ValD) : Int := if validV a = true ∧ validV b = true then (if atomsS a.a b.a = 0 then lexA a.l b.l else atomsS a.a b.a) else 0
def i64V (v : ValD) : Prop := i64B v.a.n ∧ ∀ a ∈ v.l, i64B a.n
theorem cmp3_sub (x y k : Nat) (hx : k ≤ x) (hy : k ≤ y) : cmp3 ((x - k : Nat) : Int) ((y - k : Nat) : Int) = cmp3 x y := by
  unfold cmp3
  (repeat' split) <;> omega
theorem lex_step (a b : List AtomD) (k : Nat) (ha : k < a.length) (hb : k < b.length) : lexA (a.drop k) (b.drop k) = if atomsS a[k] b[k] = 0 then lexA (a.drop (k + 1)) (b.drop (k + 1)) else atomsS a[k] b[k] := by
  rw [List.drop_eq_getElem_cons ha, List.drop_eq_getElem_cons hb]
  rfl
theorem lex_nil (x y : List AtomD) (h : x = [] ∨ y = []) : lexA x y = cmp3 x.length y.length := by
  cases x <;> cases y <;> first | rfl | simp at h
theorem lex_end (a b : List AtomD) (k : Nat) (ha : k ≤ a.length) (hb : k ≤ b.length) (h : k = a.length ∨ k = b.length) : lexA (a.drop k) (b.drop k) = cmp3 a.length b.length := by
  rw [lex_nil _ _ (by rcases h with h | h <;> simp [h]), List.length_drop, List.length_drop, cmp3_sub _ _ _ ha hb]
theorem min_len (x y : Nat) : (if (y : Int) < (x : Int) then (y : Int) else (x : Int)) = ((min x y : Nat) : Int) := by split <;> omega
abbrev SC (a b : ValD) (k T e f : Nat) : St := ⟨[(33, iv k), (32, iv ((min a.l.length b.l.length : Nat) : Int)), (2, .ptr 2 e 0 0), (3, .ptr 3 f 0 0)], [(2, .box e (cellsV a)), (3, .box f (cellsV b))], T⟩
def IC (a b : ValD) (n : Nat) (st : St) : Prop := ∃ k T e f, k ≤ min a.l.length b.l.length ∧ n = min a.l.length b.l.length - k ∧ lexA a.l b.l = lexA (a.l.drop k) (b.l.drop k) ∧ st = SC a b k T e f
theorem c_CompareS (a b : ValD) (ia : i64V a) (ib : i64V b) (la : a.l.length ≤ 1000000) (lb : b.l.length ≤ 1000000) : Pure Try.prog 6 [a.av, b.av] (iv (compareS a b)) := by
  have va := c_Valid a
  have vb := c_Valid b
  have ca := c_atomsS a.a b.a ia.1 ib.1
  have cl := c_cmpI a.l.length b.l.length
  unfold compareS
  by_cases hv : validV a = true ∧ validV b = true
  · rw [if_pos hv]
    rw [hv.1] at va
    rw [hv.2] at vb
    by_cases h0 : atomsS a.a b.a = 0
    · rw [if_pos h0]
      rw [h0] at ca
      refine pure_of_awp Try.func6 rfl rfl (by simp [Try.f6]) ?_; simp only [go_sem, ↓reduceIte, Nat.reduceEqDiff, Nat.reduceAdd, Nat.reduceLeDiff, Nat.reduceBEq, Nat.reduceMul, reduceCtorEq, Int.reduceLE, Int.reduceLT, Int.reduceAdd, Int.reduceSub, Int.reduceNeg, Int.reduceToNat, Int.reduceBEq]
      repeat' (first | refine awp_seq ?_ | refine awp_block ?_ | refine awp_round ?_ | refine awp_text rfl ?_ | refine awp_any rfl mix (by kernel_rfl) ?_ | (refine RunTo.unguard rfl rfl (fun hg => ?_) (fun hg => ?_) <;> ((try simp only [Bool.not_true, Bool.not_false, Bool.not_eq_true', Bool.not_eq_false', Bool.not_eq_eq_eq_not] at hg); (first | (cases hg) | (simp only [hg]) | skip))) | ((first | refine RunTo.plain rfl ?_ | refine RunTo.skipped rfl ?_ | refine RunTo.call (va) Try.func10 rfl rfl rfl rfl rfl rfl rfl rfl ?_ | refine RunTo.call (vb) Try.func10 rfl rfl rfl rfl rfl rfl rfl rfl ?_ | refine RunTo.call (ca) Try.func11 rfl rfl rfl rfl rfl rfl rfl rfl ?_); simp only [go_sem, ↓reduceIte, Nat.reduceEqDiff, Nat.reduceAdd, Nat.reduceLeDiff, Nat.reduceBEq, Nat.reduceMul, reduceCtorEq, Int.reduceLE, Int.reduceLT, Int.reduceAdd, Int.reduceSub, Int.reduceNeg, Int.reduceToNat, Int.reduceBEq, ValD.av, AtomD.av, List.length_map]) | ((first | refine RunTo.nilA (by kernel_rfl) ?_ | refine RunTo.nilT ?_ | refine awp_skip ?_ | refine awp_exit ?_); simp only [go_sem, ↓reduceIte, Nat.reduceEqDiff, Nat.reduceAdd, Nat.reduceLeDiff, Nat.reduceBEq, Nat.reduceMul, reduceCtorEq, Int.reduceLE, Int.reduceLT, Int.reduceAdd, Int.reduceSub, Int.reduceNeg, Int.reduceToNat, Int.reduceBEq, ValD.av, AtomD.av, List.length_map]) | (refine awp_cond' rfl (of_decide_eq_true rfl) (fun hc => ?_) (fun hc => ?_) <;> ((try simp only [Bool.not_true, Bool.not_false, Bool.not_eq_true', Bool.not_eq_false', Bool.not_eq_eq_eq_not] at hc); (first | (cases hc) | (simp only [hc]) | skip))))
      simp only [min_len]
      refine awp_loopw (IC a b) (min a.l.length b.l.length) (SC a b 0 _ _ _) (weak_keep ⟨rfl, rfl, rfl, rfl, trivial⟩ ⟨rfl, rfl, trivial⟩ (Nat.le_refl _)) ⟨0, _, _, _, Nat.zero_le _, rfl, rfl, rfl⟩ ?_
      rintro n st ⟨k, T, e, f, hk, rfl, hx, rfl⟩
      by_cases hlt : k < min a.l.length b.l.length
      · have hdec := lt_t hlt
        have hla : k < a.l.length := by omega
        have hlb : k < b.l.length := by omega
        have hget := row_at AtomD.enc a.l k hla
        have hgetb := row_at AtomD.enc b.l k hlb
        have hia := ia.2 _ (List.getElem_mem hla)
        have hib := ib.2 _ (List.getElem_mem hlb)
        rw [lex_step _ _ _ hla hlb] at hx
        have hwk : IntKind.i64.wrap ((k : Int) + 1) = ((k + 1 : Nat) : Int) := wrap_succ (by omega)
        generalize a.l[k] = x at *
        generalize b.l[k] = y at *
        have cx := c_atomsS x y hia hib
        by_cases h1 : atomsS x y = 0
        · rw [if_pos h1] at hx
          rw [h1] at cx
          repeat' (first | refine awp_seq ?_ | refine awp_block ?_ | refine awp_round ?_ | refine awp_text rfl ?_ | refine awp_any rfl mix (by kernel_rfl) ?_ | (refine RunTo.unguard rfl rfl (fun hg => ?_) (fun hg => ?_) <;> ((try simp only [Bool.not_true, Bool.not_false, Bool.not_eq_true', Bool.not_eq_false', Bool.not_eq_eq_eq_not] at hg); (first | (cases hg) | (simp only [hg]) | skip))) | ((first | refine RunTo.plain rfl ?_ | refine RunTo.skipped rfl ?_ | refine RunTo.call (cx) Try.func11 rfl rfl rfl rfl rfl rfl rfl rfl ?_); simp only [go_sem, ↓reduceIte, Nat.reduceEqDiff, Nat.reduceAdd, Nat.reduceLeDiff, Nat.reduceBEq, Nat.reduceMul, reduceCtorEq, Int.reduceLE, Int.reduceLT, Int.reduceAdd, Int.reduceSub, Int.reduceNeg, Int.reduceToNat, Int.reduceBEq, hdec, hget, hgetb, AtomD.enc, AtomD.av, hwk, List.length_map]) | ((first | refine RunTo.nilA (by kernel_rfl) ?_ | refine RunTo.nilT ?_ | refine awp_skip ?_ | refine awp_exit ?_); simp only [go_sem, ↓reduceIte, Nat.reduceEqDiff, Nat.reduceAdd, Nat.reduceLeDiff, Nat.reduceBEq, Nat.reduceMul, reduceCtorEq, Int.reduceLE, Int.reduceLT, Int.reduceAdd, Int.reduceSub, Int.reduceNeg, Int.reduceToNat, Int.reduceBEq, hdec, hget, hgetb, AtomD.enc, AtomD.av, hwk, List.length_map]) | (refine awp_cond' rfl (of_decide_eq_true rfl) (fun hc => ?_) (fun hc => ?_) <;> ((try simp only [Bool.not_true, Bool.not_false, Bool.not_eq_true', Bool.not_eq_false', Bool.not_eq_eq_eq_not] at hc); (first | (cases hc) | (simp only [hc]) | skip))))
          all_goals exact ⟨min a.l.length b.l.length - (k + 1), by omega, SC a b (k + 1) _ e f, weak_keep ⟨rfl, rfl, rfl, rfl, trivial⟩ ⟨rfl, rfl, trivial⟩ (Nat.le_refl _), k + 1, _, _, _, by omega, rfl, hx, rfl⟩
        · rw [if_neg h1] at hx
          have hd : (atomsS x y != 0) = true := by simpa using h1
          repeat' (first | refine awp_seq ?_ | refine awp_block ?_ | refine awp_round ?_ | refine awp_text rfl ?_ | refine awp_any rfl mix (by kernel_rfl) ?_ | (refine RunTo.unguard rfl rfl (fun hg => ?_) (fun hg => ?_) <;> ((try simp only [Bool.not_true, Bool.not_false, Bool.not_eq_true', Bool.not_eq_false', Bool.not_eq_eq_eq_not] at hg); (first | (cases hg) | (simp only [hg]) | skip))) | ((first | refine RunTo.plain rfl ?_ | refine RunTo.skipped rfl ?_ | refine RunTo.call (cx) Try.func11 rfl rfl rfl rfl rfl rfl rfl rfl ?_); simp only [go_sem, ↓reduceIte, Nat.reduceEqDiff, Nat.reduceAdd, Nat.reduceLeDiff, Nat.reduceBEq, Nat.reduceMul, reduceCtorEq, Int.reduceLE, Int.reduceLT, Int.reduceAdd, Int.reduceSub, Int.reduceNeg, Int.reduceToNat, Int.reduceBEq, hdec, hget, hgetb, AtomD.enc, AtomD.av, hwk, hd, List.length_map]) | ((first | refine RunTo.nilA (by kernel_rfl) ?_ | refine RunTo.nilT ?_ | refine awp_skip ?_ | refine awp_exit ?_); simp only [go_sem, ↓reduceIte, Nat.reduceEqDiff, Nat.reduceAdd, Nat.reduceLeDiff, Nat.reduceBEq, Nat.reduceMul, reduceCtorEq, Int.reduceLE, Int.reduceLT, Int.reduceAdd, Int.reduceSub, Int.reduceNeg, Int.reduceToNat, Int.reduceBEq, hdec, hget, hgetb, AtomD.enc, AtomD.av, hwk, hd, List.length_map]) | (refine awp_cond' rfl (of_decide_eq_true rfl) (fun hc => ?_) (fun hc => ?_) <;> ((try simp only [Bool.not_true, Bool.not_false, Bool.not_eq_true', Bool.not_eq_false', Bool.not_eq_eq_eq_not] at hc); (first | (cases hc) | (simp only [hc]) | skip))))
          all_goals (first | refine awp_ret ?_ | skip); refine ⟨(by first | exact .inl rfl | exact .inr rfl | exact .inr trivial | trivial), ?_⟩; simp only [go_sem, ↓reduceIte, Nat.reduceEqDiff, Nat.reduceAdd, Nat.reduceLeDiff, Nat.reduceBEq, Nat.reduceMul, reduceCtorEq, Int.reduceLE, Int.reduceLT, Int.reduceAdd, Int.reduceSub, Int.reduceNeg, Int.reduceToNat, Int.reduceBEq, retV, resL, resV, sealV, sealC, sealAll, Try.f6]
          all_goals rw [hx]
      · have hdec := lt_f hlt
        rw [lex_end _ _ _ (by omega) (by omega) (by omega)] at hx
        rw [hx]
        repeat' (first | refine awp_seq ?_ | refine awp_block ?_ | refine awp_round ?_ | refine awp_text rfl ?_ | refine awp_any rfl mix (by kernel_rfl) ?_ | (refine RunTo.unguard rfl rfl (fun hg => ?_) (fun hg => ?_) <;> ((try simp only [Bool.not_true, Bool.not_false, Bool.not_eq_true', Bool.not_eq_false', Bool.not_eq_eq_eq_not] at hg); (first | (cases hg) | (simp only [hg]) | skip))) | ((first | refine RunTo.plain rfl ?_ | refine RunTo.skipped rfl ?_ | refine RunTo.call (cl) Try.func12 rfl rfl rfl rfl rfl rfl rfl rfl ?_); simp only [go_sem, ↓reduceIte, Nat.reduceEqDiff, Nat.reduceAdd, Nat.reduceLeDiff, Nat.reduceBEq, Nat.reduceMul, reduceCtorEq, Int.reduceLE, Int.reduceLT, Int.reduceAdd, Int.reduceSub, Int.reduceNeg, Int.reduceToNat, Int.reduceBEq, hdec, List.length_map]) | ((first | refine RunTo.nilA (by kernel_rfl) ?_ | refine RunTo.nilT ?_ | refine awp_skip ?_ | refine awp_exit ?_); simp only [go_sem, ↓reduceIte, Nat.reduceEqDiff, Nat.reduceAdd, Nat.reduceLeDiff, Nat.reduceBEq, Nat.reduceMul, reduceCtorEq, Int.reduceLE, Int.reduceLT, Int.reduceAdd, Int.reduceSub, Int.reduceNeg, Int.reduceToNat, Int.reduceBEq, hdec, List.length_map]) | (refine awp_cond' rfl (of_decide_eq_true rfl) (fun hc => ?_) (fun hc => ?_) <;> ((try simp only [Bool.not_true, Bool.not_false, Bool.not_eq_true', Bool.not_eq_false', Bool.not_eq_eq_eq_not] at hc); (first | (cases hc) | (simp only [hc]) | skip))))
        all_goals (first | refine awp_ret ?_ | skip); refine ⟨(by first | exact .inl rfl | exact .inr rfl | exact .inr trivial | trivial), ?_⟩; simp only [go_sem, ↓reduceIte, Nat.reduceEqDiff, Nat.reduceAdd, Nat.reduceLeDiff, Nat.reduceBEq, Nat.reduceMul, reduceCtorEq, Int.reduceLE, Int.reduceLT, Int.reduceAdd, Int.reduceSub, Int.reduceNeg, Int.reduceToNat, Int.reduceBEq, retV, resL, resV, sealV, sealC, sealAll, Try.f6]
    · rw [if_neg h0]
      have hd : (atomsS a.a b.a != 0) = true := by simpa using h0
      refine pure_of_awp Try.func6 rfl rfl (by simp [Try.f6]) ?_; simp only [go_sem, ↓reduceIte, Nat.reduceEqDiff, Nat.reduceAdd, Nat.reduceLeDiff, Nat.reduceBEq, Nat.reduceMul, reduceCtorEq, Int.reduceLE, Int.reduceLT, Int.reduceAdd, Int.reduceSub, Int.reduceNeg, Int.reduceToNat, Int.reduceBEq]
      repeat' (first | refine awp_seq ?_ | refine awp_block ?_ | refine awp_round ?_ | refine awp_text rfl ?_ | refine awp_any rfl mix (by kernel_rfl) ?_ | (refine RunTo.unguard rfl rfl (fun hg => ?_) (fun hg => ?_) <;> ((try simp only [Bool.not_true, Bool.not_false, Bool.not_eq_true', Bool.not_eq_false', Bool.not_eq_eq_eq_not] at hg); (first | (cases hg) | (simp only [hg]) | skip))) | ((first | refine RunTo.plain rfl ?_ | refine RunTo.skipped rfl ?_ | refine RunTo.call (va) Try.func10 rfl rfl rfl rfl rfl rfl rfl rfl ?_ | refine RunTo.call (vb) Try.func10 rfl rfl rfl rfl rfl rfl rfl rfl ?_ | refine RunTo.call (ca) Try.func11 rfl rfl rfl rfl rfl rfl rfl rfl ?_); simp only [go_sem, ↓reduceIte, Nat.reduceEqDiff, Nat.reduceAdd, Nat.reduceLeDiff, Nat.reduceBEq, Nat.reduceMul, reduceCtorEq, Int.reduceLE, Int.reduceLT, Int.reduceAdd, Int.reduceSub, Int.reduceNeg, Int.reduceToNat, Int.reduceBEq, ValD.av, AtomD.av, hd]) | ((first | refine RunTo.nilA (by kernel_rfl) ?_ | refine RunTo.nilT ?_ | refine awp_skip ?_ | refine awp_exit ?_); simp only [go_sem, ↓reduceIte, Nat.reduceEqDiff, Nat.reduceAdd, Nat.reduceLeDiff, Nat.reduceBEq, Nat.reduceMul, reduceCtorEq, Int.reduceLE, Int.reduceLT, Int.reduceAdd, Int.reduceSub, Int.reduceNeg, Int.reduceToNat, Int.reduceBEq, ValD.av, AtomD.av, hd]) | (refine awp_cond' rfl (of_decide_eq_true rfl) (fun hc => ?_) (fun hc => ?_) <;> ((try simp only [Bool.not_true, Bool.not_false, Bool.not_eq_true', Bool.not_eq_false', Bool.not_eq_eq_eq_not] at hc); (first | (cases hc) | (simp only [hc]) | skip))))
      all_goals (first | refine awp_ret ?_ | skip); refine ⟨(by first | exact .inl rfl | exact .inr rfl | exact .inr trivial | trivial), ?_⟩; simp only [go_sem, ↓reduceIte, Nat.reduceEqDiff, Nat.reduceAdd, Nat.reduceLeDiff, Nat.reduceBEq, Nat.reduceMul, reduceCtorEq, Int.reduceLE, Int.reduceLT, Int.reduceAdd, Int.reduceSub, Int.reduceNeg, Int.reduceToNat, Int.reduceBEq, retV, resL, resV, sealV, sealC, sealAll, Try.f6]
  · rw [if_neg hv]
    generalize validV a = p at *
    generalize validV b = q at *
    refine pure_of_awp Try.func6 rfl rfl (by simp [Try.f6]) ?_; simp only [go_sem, ↓reduceIte, Nat.reduceEqDiff, Nat.reduceAdd, Nat.reduceLeDiff, Nat.reduceBEq, Nat.reduceMul, reduceCtorEq, Int.reduceLE, Int.reduceLT, Int.reduceAdd, Int.reduceSub, Int.reduceNeg, Int.reduceToNat, Int.reduceBEq]
    repeat' (first | refine awp_seq ?_ | refine awp_block ?_ | refine awp_round ?_ | refine awp_text rfl ?_ | refine awp_any rfl mix (by kernel_rfl) ?_ | (refine RunTo.unguard rfl rfl (fun hg => ?_) (fun hg => ?_) <;> ((try simp only [Bool.not_true, Bool.not_false, Bool.not_eq_true', Bool.not_eq_false', Bool.not_eq_eq_eq_not] at hg); (first | (cases hg) | (simp only [hg]) | skip))) | ((first | refine RunTo.plain rfl ?_ | refine RunTo.skipped rfl ?_ | refine RunTo.call (va) Try.func10 rfl rfl rfl rfl rfl rfl rfl rfl ?_ | refine RunTo.call (vb) Try.func10 rfl rfl rfl rfl rfl rfl rfl rfl ?_); simp only [go_sem, ↓reduceIte, Nat.reduceEqDiff, Nat.reduceAdd, Nat.reduceLeDiff, Nat.reduceBEq, Nat.reduceMul, reduceCtorEq, Int.reduceLE, Int.reduceLT, Int.reduceAdd, Int.reduceSub, Int.reduceNeg, Int.reduceToNat, Int.reduceBEq, ValD.av]) | ((first | refine RunTo.nilA (by kernel_rfl) ?_ | refine RunTo.nilT ?_ | refine awp_skip ?_ | refine awp_exit ?_); simp only [go_sem, ↓reduceIte, Nat.reduceEqDiff, Nat.reduceAdd, Nat.reduceLeDiff, Nat.reduceBEq, Nat.reduceMul, reduceCtorEq, Int.reduceLE, Int.reduceLT, Int.reduceAdd, Int.reduceSub, Int.reduceNeg, Int.reduceToNat, Int.reduceBEq, ValD.av]) | (refine awp_cond' rfl (of_decide_eq_true rfl) (fun hc => ?_) (fun hc => ?_) <;> ((try simp only [Bool.not_true, Bool.not_false, Bool.not_eq_true', Bool.not_eq_false', Bool.not_eq_eq_eq_not] at hc); (first | (cases hc) | (simp only [hc]) | skip))))
    all_goals first
      | ((first | refine awp_ret ?_ | skip); refine ⟨(by first | exact .inl rfl | exact .inr rfl | exact .inr trivial | trivial), ?_⟩; simp only [go_sem, ↓reduceIte, Nat.reduceEqDiff, Nat.reduceAdd, Nat.reduceLeDiff, Nat.reduceBEq, Nat.reduceMul, reduceCtorEq, Int.reduceLE, Int.reduceLT, Int.reduceAdd, Int.reduceSub, Int.reduceNeg, Int.reduceToNat, Int.reduceBEq, retV, resL, resV, sealV, sealC, sealAll, Try.f6]; done)
      | (exfalso; apply hv; constructor <;> assumption)
      | (exfalso; simp_all; done)
      | trace_state
end Go.Proofs.Ytjihcldhjpdnmaa.AM
namespace Go.Proofs.Ytjihcldhjpdnmaa.AM
open Go.RowKit FL
set_option linter.unusedSimpArgs false
set_option linter.unusedVariables false
set_option maxRecDepth 10000
set_option maxHeartbeats 0
theorem c_list0 (a : List AtomD) (hl : a.length ≤ 14) : Acts Try.prog 4 [.lit (.slice none 0 0), .ptr 1001 0 0 0] [(1001, .box 0 [.dat (.lst 4 (a.map AtomD.enc))])] (.agg [iv 6, iv 0, fv 0, sv eE, .slc 1002 1 0 a.length]) [(1001, .box 0 [.dat (.lst 4 (a.map AtomD.enc))]), (1002, .arr 1 4 (a.map AtomD.enc))] := by
  have hcap : (a.length * 40 ≤ 140737488355328) = True := eq_true (by omega)
  have htr : List.take a.length (a.map AtomD.enc) = a.map AtomD.enc := List.take_of_length_le (by simp)
  refine acts_of_awp ([(1001, 1001), (9, 1002)]) Try.func4 rfl rfl (by simp [Try.f4]) ?_; simp only [go_sem, ↓reduceIte, Nat.reduceEqDiff, Nat.reduceAdd, Nat.reduceLeDiff, Nat.reduceBEq, Nat.reduceMul, reduceCtorEq, Int.reduceLE, Int.reduceLT, Int.reduceAdd, Int.reduceSub, Int.reduceNeg, Int.reduceToNat, Int.reduceBEq]
  repeat' (first | refine awp_seq ?_ | refine awp_block ?_ | refine awp_round ?_ | refine awp_text rfl ?_ | refine awp_any rfl mix (by kernel_rfl) ?_ | (refine RunTo.unguard rfl rfl (fun hg => ?_) (fun hg => ?_) <;> ((try simp only [Bool.not_true, Bool.not_false, Bool.not_eq_true', Bool.not_eq_false', Bool.not_eq_eq_eq_not] at hg); (first | (cases hg) | (simp only [hg]) | skip))) | ((first | refine RunTo.plain rfl ?_ | refine RunTo.skipped rfl ?_); simp only [go_sem, ↓reduceIte, Nat.reduceEqDiff, Nat.reduceAdd, Nat.reduceLeDiff, Nat.reduceBEq, Nat.reduceMul, reduceCtorEq, Int.reduceLE, Int.reduceLT, Int.reduceAdd, Int.reduceSub, Int.reduceNeg, Int.reduceToNat, Int.reduceBEq, List.length_map, hcap, htr, lenTy, implies_true]) | ((first | refine RunTo.nilA (by kernel_rfl) ?_ | refine RunTo.nilT ?_ | refine awp_skip ?_ | refine awp_exit ?_); simp only [go_sem, ↓reduceIte, Nat.reduceEqDiff, Nat.reduceAdd, Nat.reduceLeDiff, Nat.reduceBEq, Nat.reduceMul, reduceCtorEq, Int.reduceLE, Int.reduceLT, Int.reduceAdd, Int.reduceSub, Int.reduceNeg, Int.reduceToNat, Int.reduceBEq, List.length_map, hcap, htr, lenTy, implies_true]) | (refine awp_cond' rfl (of_decide_eq_true rfl) (fun hc => ?_) (fun hc => ?_) <;> ((try simp only [Bool.not_true, Bool.not_false, Bool.not_eq_true', Bool.not_eq_false', Bool.not_eq_eq_eq_not] at hc); (first | (cases hc) | (simp only [hc]) | skip))))
  all_goals
    (first | refine awp_ret ?_ | skip); refine ⟨(by first | exact .inl rfl | exact .inr rfl | exact .inr trivial | trivial), _, rfl, rfl, rfl, ?_, ?_⟩ <;> (try simp only [go_sem, ↓reduceIte, Nat.reduceEqDiff, Nat.reduceAdd, Nat.reduceLeDiff, Nat.reduceBEq, Nat.reduceMul, reduceCtorEq, Int.reduceLE, Int.reduceLT, Int.reduceAdd, Int.reduceSub, Int.reduceNeg, Int.reduceToNat, Int.reduceBEq])
  all_goals rfl
theorem c_list1 (a l : List AtomD) (hl : a.length ≤ 14) (hk : l.length ≤ 2) : Acts Try.prog 4 [.slc 1001 0 0 l.length, .ptr 1002 0 0 0] [(1001, .arr 0 4 (l.map AtomD.enc)), (1002, .box 0 [.dat (.lst 4 (a.map AtomD.enc))])] (.agg [iv 6, iv 0, fv 0, sv eE, .slc 1003 1 0 (a.length + l.length)]) [(1002, .box 0 [.dat (.lst 4 (a.map AtomD.enc))]), (1003, .arr 1 4 (a.map AtomD.enc ++ l.map AtomD.enc))] := by
  have hcap : (a.length * 40 ≤ 140737488355328) = True := eq_true (by omega)
  have htr : List.take a.length (a.map AtomD.enc) = a.map AtomD.enc := List.take_of_length_le (by simp)
  have hcap2 : ((a.length + l.length) * 40 ≤ 140737488355328) = True := eq_true (by omega)
  have htl : List.take l.length (l.map AtomD.enc) = l.map AtomD.enc := List.take_of_length_le (by simp)
  refine acts_of_awp ([(1002, 1002), (9, 1003)]) Try.func4 rfl rfl (by simp [Try.f4]) ?_; simp only [go_sem, ↓reduceIte, Nat.reduceEqDiff, Nat.reduceAdd, Nat.reduceLeDiff, Nat.reduceBEq, Nat.reduceMul, reduceCtorEq, Int.reduceLE, Int.reduceLT, Int.reduceAdd, Int.reduceSub, Int.reduceNeg, Int.reduceToNat, Int.reduceBEq]
  repeat' (first | refine awp_seq ?_ | refine awp_block ?_ | refine awp_round ?_ | refine awp_text rfl ?_ | refine awp_any rfl mix (by kernel_rfl) ?_ | (refine RunTo.unguard rfl rfl (fun hg => ?_) (fun hg => ?_) <;> ((try simp only [Bool.not_true, Bool.not_false, Bool.not_eq_true', Bool.not_eq_false', Bool.not_eq_eq_eq_not] at hg); (first | (cases hg) | (simp only [hg]) | skip))) | ((first | refine RunTo.plain rfl ?_ | refine RunTo.skipped rfl ?_); simp only [go_sem, ↓reduceIte, Nat.reduceEqDiff, Nat.reduceAdd, Nat.reduceLeDiff, Nat.reduceBEq, Nat.reduceMul, reduceCtorEq, Int.reduceLE, Int.reduceLT, Int.reduceAdd, Int.reduceSub, Int.reduceNeg, Int.reduceToNat, Int.reduceBEq, List.length_map, hcap, htr, hcap2, htl, lenTy, implies_true]) | ((first | refine RunTo.nilA (by kernel_rfl) ?_ | refine RunTo.nilT ?_ | refine awp_skip ?_ | refine awp_exit ?_); simp only [go_sem, ↓reduceIte, Nat.reduceEqDiff, Nat.reduceAdd, Nat.reduceLeDiff, Nat.reduceBEq, Nat.reduceMul, reduceCtorEq, Int.reduceLE, Int.reduceLT, Int.reduceAdd, Int.reduceSub, Int.reduceNeg, Int.reduceToNat, Int.reduceBEq, List.length_map, hcap, htr, hcap2, htl, lenTy, implies_true]) | (refine awp_cond' rfl (of_decide_eq_true rfl) (fun hc => ?_) (fun hc => ?_) <;> ((try simp only [Bool.not_true, Bool.not_false, Bool.not_eq_true', Bool.not_eq_false', Bool.not_eq_eq_eq_not] at hc); (first | (cases hc) | (simp only [hc]) | skip))))
  all_goals
    (first | refine awp_ret ?_ | skip); refine ⟨(by first | exact .inl rfl | exact .inr rfl | exact .inr trivial | trivial), _, rfl, rfl, rfl, ?_, ?_⟩ <;> (try simp only [go_sem, ↓reduceIte, Nat.reduceEqDiff, Nat.reduceAdd, Nat.reduceLeDiff, Nat.reduceBEq, Nat.reduceMul, reduceCtorEq, Int.reduceLE, Int.reduceLT, Int.reduceAdd, Int.reduceSub, Int.reduceNeg, Int.reduceToNat, Int.reduceBEq])
  all_goals rfl
end Go.Proofs.Ytjihcldhjpdnmaa.AM
namespace Go.Proofs.Ytjihcldhjpdnmaa.AM
open Go.RowKit FL
set_option linter.unusedSimpArgs false
set_option linter.unusedVariables false
set_option maxRecDepth 10000
set_option maxHeartbeats 0
theorem hide2L {P : Program} {nt : Nt} {Q : Exit → St → Prop} {st : St} {A B R : Code} (h : ∀ R', R' = R → AWP P nt (.seq A (.seq B R')) Q st) : AWP P nt (.seq A (.seq B R)) Q st := h R rfl
abbrev nilS : AV := .lit (.slice none 0 0)
theorem c_OfInt (n : Int) : Pure Try.prog 7 [iv n] (.agg [iv 2, iv n, fv 0, sv eE, nilS]) := by
  refine pure_of_awp Try.func7 rfl rfl (by simp [Try.f7]) ?_; simp only [go_sem, ↓reduceIte, Nat.reduceEqDiff, Nat.reduceAdd, Nat.reduceLeDiff, Nat.reduceBEq, Nat.reduceMul, reduceCtorEq, Int.reduceLE, Int.reduceLT, Int.reduceAdd, Int.reduceSub, Int.reduceNeg, Int.reduceToNat, Int.reduceBEq]
  repeat' (first | refine awp_seq ?_ | refine awp_block ?_ | refine awp_round ?_ | refine awp_text rfl ?_ | refine awp_any rfl mix (by kernel_rfl) ?_ | (refine RunTo.unguard rfl rfl (fun hg => ?_) (fun hg => ?_) <;> ((try simp only [Bool.not_true, Bool.not_false, Bool.not_eq_true', Bool.not_eq_false', Bool.not_eq_eq_eq_not] at hg); (first | (cases hg) | (simp only [hg]) | skip))) | ((first | refine RunTo.plain rfl ?_ | refine RunTo.skipped rfl ?_); simp only [go_sem, ↓reduceIte, Nat.reduceEqDiff, Nat.reduceAdd, Nat.reduceLeDiff, Nat.reduceBEq, Nat.reduceMul, reduceCtorEq, Int.reduceLE, Int.reduceLT, Int.reduceAdd, Int.reduceSub, Int.reduceNeg, Int.reduceToNat, Int.reduceBEq]) | ((first | refine RunTo.nilA (by kernel_rfl) ?_ | refine RunTo.nilT ?_ | refine awp_skip ?_ | refine awp_exit ?_); simp only [go_sem, ↓reduceIte, Nat.reduceEqDiff, Nat.reduceAdd, Nat.reduceLeDiff, Nat.reduceBEq, Nat.reduceMul, reduceCtorEq, Int.reduceLE, Int.reduceLT, Int.reduceAdd, Int.reduceSub, Int.reduceNeg, Int.reduceToNat, Int.reduceBEq]) | (refine awp_cond' rfl (of_decide_eq_true rfl) (fun hc => ?_) (fun hc => ?_) <;> ((try simp only [Bool.not_true, Bool.not_false, Bool.not_eq_true', Bool.not_eq_false', Bool.not_eq_eq_eq_not] at hc); (first | (cases hc) | (simp only [hc]) | skip))))
  all_goals (first | refine awp_ret ?_ | skip); refine ⟨(by first | exact .inl rfl | exact .inr rfl | exact .inr trivial | trivial), ?_⟩; simp only [go_sem, ↓reduceIte, Nat.reduceEqDiff, Nat.reduceAdd, Nat.reduceLeDiff, Nat.reduceBEq, Nat.reduceMul, reduceCtorEq, Int.reduceLE, Int.reduceLT, Int.reduceAdd, Int.reduceSub, Int.reduceNeg, Int.reduceToNat, Int.reduceBEq, retV, resL, resV, sealV, sealC, sealAll, Try.f7]
  all_goals trace_state
abbrev eL (a : AtomD) : List AV := [iv a.k, iv a.n, fv a.f, sv a.s]
abbrev SL0 (a : List AtomD) (b c : AtomD) (T : Nat) : St := ⟨[(3, .ptr 3 0 0 0), (4, .ptr 4 1 0 0), (5, .ptr 5 2 0 0)], [(3, .box 0 [.dat (.lst 4 (a.map AtomD.enc))]), (4, .box 1 (eL b)), (5, .box 2 (eL c))], T⟩
theorem cmpT_selfL (x : ByteArray) : cmpT x x = 0 := by
  have h : ∀ l : List UInt8, Op.bytesLess l l = false := by
    intro l
    induction l with
    | nil => rfl
    | cons x l ih =>
      unfold Op.bytesLess
      simp [ih]
  unfold cmpT
  rw [h]
  simp
theorem cmp3_selfL (x : Int) : cmp3 x x = 0 := by unfold cmp3; simp
theorem atoms_selfL (x : AtomD) : atomsS x x = 0 := by
  unfold atomsS
  rw [if_neg (fun h => h rfl)]
  split
  · rw [cmp3_selfL, cmp3_selfL]; rfl
  · rw [cmp3_selfL, cmpT_selfL]; rfl
theorem lexA_app (s t : List AtomD) : ∀ a : List AtomD, lexA (a ++ s) (a ++ t) = lexA s t
  | [] => rfl
  | x :: a => by
    rw [List.cons_append, List.cons_append]
    show (if atomsS x x = 0 then lexA (a ++ s) (a ++ t) else atomsS x x) = _
    rw [if_pos (atoms_selfL x)]
    exact lexA_app s t a
theorem kind6 {a : AtomD} (h : validA a = true) : a.k ≠ 6 := by
  intro h6
  unfold validA at h
  rw [h6] at h
  simp at h
def LD (l : List AtomD) : ValD := ⟨⟨6, 0, 0, eE⟩, l⟩
theorem compare_LD {l m : List AtomD} (h1 : validV (LD l) = true) (h2 : validV (LD m) = true) : compareS (LD l) (LD m) = lexA l m := by
  unfold compareS
  rw [if_pos ⟨h1, h2⟩]
  show (if atomsS ⟨6, 0, 0, eE⟩ ⟨6, 0, 0, eE⟩ = 0 then lexA l m else _) = _
  rw [if_pos (atoms_selfL _)]
theorem valid_LD {l : List AtomD} (h : validV (LD l) = true) : ∀ a ∈ l, validA a = true := by
  rw [validV_list rfl] at h
  simp only [Bool.and_eq_true, List.all_eq_true] at h
  exact h.2
theorem valid_one {b : AtomD} (h : validA b = true) : validV ⟨b, []⟩ = true := by
  rw [validV_atom (kind6 h)]
  show (validA b && _) = true
  rw [h]; rfl
theorem compare_one {b c : AtomD} (h1 : validA b = true) (h2 : validA c = true) : compareS ⟨b, []⟩ ⟨c, []⟩ = atomsS b c := by
  unfold compareS
  rw [if_pos ⟨valid_one h1, valid_one h2⟩]
  split
  · rename_i h; rw [h]; rfl
  · rfl
theorem one_le (b : AtomD) : Ale (.agg [iv b.k, iv b.n, fv b.f, sv b.s, nilS]) (ValD.av ⟨b, []⟩) := .agg (.cons (.refl _) (.cons (.refl _) (.cons (.refl _) (.cons (.refl _) (.cons (.dat (.nil 4)) .nil)))))
def inL (a : AtomD) : Prop := i64B a.n ∧ a.f < 18446744073709551616
theorem i64_LD {l : List AtomD} (h : ∀ a ∈ l, inL a) : i64V (LD l) := ⟨by show i64B 0; unfold i64B; decide, fun a ha => (h a ha).1⟩
theorem fl_LD {l : List AtomD} (h : ∀ a ∈ l, inL a) : flV (LD l) := ⟨by show (0 : Nat) < _; decide, fun a ha => (h a ha).2⟩
theorem c_cmp12 : Pure Try.prog 6 [.agg [iv 2, iv 1, fv 0, sv eE, nilS], .agg [iv 2, iv 2, fv 0, sv eE, nilS]] (iv (-1)) := by
  have h := c_CompareS ⟨⟨2, 1, 0, eE⟩, []⟩ ⟨⟨2, 2, 0, eE⟩, []⟩ ⟨by show i64B 1; unfold i64B; decide, fun a ha => by cases ha⟩ ⟨by show i64B 2; unfold i64B; decide, fun a ha => by cases ha⟩ (by simp) (by simp)
  rw [show compareS ⟨⟨2, 1, 0, eE⟩, []⟩ ⟨⟨2, 2, 0, eE⟩, []⟩ = -1 by decide +kernel] at h
  exact pure_le h (.cons (one_le ⟨2, 1, 0, eE⟩) (.cons (one_le ⟨2, 2, 0, eE⟩) .nil))
abbrev cL (e : Nat) (s n : Nat) : List AV := [iv 6, iv 0, fv 0, sv eE, .slc s e 0 n]
abbrev SL1 (a : List AtomD) (b c : AtomD) (e k T : Nat) : St := ⟨[(11, iv k), (10, .ptr 10 (e + 13) 0 0), (9, .ptr 9 (e + 12) 0 0), (8, .ptr 8 (e + 11) 0 0), (3, .ptr 3 0 0 0), (4, .ptr 4 1 0 0), (5, .ptr 5 2 0 0)],
  [(4, .box 1 (eL b)), (5, .box 2 (eL c)), (21002, .arr (e + 1) 4 (a.map AtomD.enc)), (25003, .arr (e + 5) 4 (a.map AtomD.enc ++ [[di b.k, di b.n, df b.f, ds' b.s]])),
   (30003, .arr (e + 10) 4 (a.map AtomD.enc ++ [[di c.k, di c.n, df c.f, ds' c.s], [di b.k, di b.n, df b.f, ds' b.s]])), (3, .box 0 [.dat (.lst 4 (a.map AtomD.enc))]),
   (8, .box (e + 11) (cL (e + 1) 21002 a.length)), (9, .box (e + 12) (cL (e + 5) 25003 (a.length + 1))), (10, .box (e + 13) (cL (e + 10) 30003 (a.length + 2)))], T⟩
def IL1 (a : List AtomD) (b c : AtomD) (e n : Nat) (st : St) : Prop := ∃ k T, k ≤ a.length ∧ n = a.length - k ∧ st = SL1 a b c e k T
theorem c_lawL (a0 : List AtomD) (b c : AtomD) (ha : ∀ x ∈ a0, inL x) (hb : inL b) (hc : inL c) : Pure Try.prog 3 [.dat (.lst 4 (a0.map AtomD.enc)), b.av, c.av] (bv true) := by
  refine pure_of_awp Try.func3 rfl rfl (by simp [Try.f3]) ?_; simp only [go_sem, ↓reduceIte, Nat.reduceEqDiff, Nat.reduceAdd, Nat.reduceLeDiff, Nat.reduceBEq, Nat.reduceMul, reduceCtorEq, Int.reduceLE, Int.reduceLT, Int.reduceAdd, Int.reduceSub, Int.reduceNeg, Int.reduceToNat, Int.reduceBEq]
  refine hide2L (fun R hR => ?_)
  have main : ∀ (a : List AtomD) (T : Nat), a.length ≤ 14 → (∀ x ∈ a, inL x) → AWP Try.prog Try.f3.ntmps R (fun ex st => (ex = .ret ∨ ex = .normal) ∧ retV Try.prog Try.f3.results.toList st = some (bv true)) (SL0 a b c T) := by
    intro a T hl ha
    subst hR
    have l0 := c_list0 a hl
    have l1 := c_list1 a [b] hl (by simp)
    have l2 := c_list1 a [c, b] hl (by simp)
    simp only [List.map_cons, List.map_nil, AtomD.enc, List.length_cons, List.length_nil, Nat.zero_add, Nat.reduceAdd] at l1 l2
    repeat' (first | refine awp_seq ?_ | refine awp_block ?_ | refine awp_round ?_ | refine awp_text rfl ?_ | refine awp_any rfl mix (by kernel_rfl) ?_ | (refine RunTo.unguard rfl rfl (fun hg => ?_) (fun hg => ?_) <;> ((try simp only [Bool.not_true, Bool.not_false, Bool.not_eq_true', Bool.not_eq_false', Bool.not_eq_eq_eq_not] at hg); (first | (cases hg) | (simp only [hg]) | skip))) | ((first | refine RunTo.plain rfl ?_ | refine RunTo.skipped rfl ?_); simp only [go_sem, ↓reduceIte, Nat.reduceEqDiff, Nat.reduceAdd, Nat.reduceLeDiff, Nat.reduceBEq, Nat.reduceMul, reduceCtorEq, Int.reduceLE, Int.reduceLT, Int.reduceAdd, Int.reduceSub, Int.reduceNeg, Int.reduceToNat, Int.reduceBEq, List.length_map, AtomD.enc, Option.getD_some, List.size_toArray]) | (refine RunTo.actsE (l0) Try.func4 rfl rfl rfl rfl rfl rfl ?_; simp only [go_sem, ↓reduceIte, Nat.reduceEqDiff, Nat.reduceAdd, Nat.reduceLeDiff, Nat.reduceBEq, Nat.reduceMul, reduceCtorEq, Int.reduceLE, Int.reduceLT, Int.reduceAdd, Int.reduceSub, Int.reduceNeg, Int.reduceToNat, Int.reduceBEq, List.length_map, AtomD.enc, Option.getD_some, List.size_toArray]; (repeat' refine And.intro rfl ?_); with_reducible refine RunTo.this ?_) | (refine RunTo.actsE (l1) Try.func4 rfl rfl rfl rfl rfl rfl ?_; simp only [go_sem, ↓reduceIte, Nat.reduceEqDiff, Nat.reduceAdd, Nat.reduceLeDiff, Nat.reduceBEq, Nat.reduceMul, reduceCtorEq, Int.reduceLE, Int.reduceLT, Int.reduceAdd, Int.reduceSub, Int.reduceNeg, Int.reduceToNat, Int.reduceBEq, List.length_map, AtomD.enc, Option.getD_some, List.size_toArray]; (repeat' refine And.intro rfl ?_); with_reducible refine RunTo.this ?_) | (refine RunTo.actsE (l2) Try.func4 rfl rfl rfl rfl rfl rfl ?_; simp only [go_sem, ↓reduceIte, Nat.reduceEqDiff, Nat.reduceAdd, Nat.reduceLeDiff, Nat.reduceBEq, Nat.reduceMul, reduceCtorEq, Int.reduceLE, Int.reduceLT, Int.reduceAdd, Int.reduceSub, Int.reduceNeg, Int.reduceToNat, Int.reduceBEq, List.length_map, AtomD.enc, Option.getD_some, List.size_toArray]; (repeat' refine And.intro rfl ?_); with_reducible refine RunTo.this ?_) | ((first | refine RunTo.nilA (by kernel_rfl) ?_ | refine RunTo.nilT ?_ | refine awp_skip ?_ | refine awp_exit ?_); simp only [go_sem, ↓reduceIte, Nat.reduceEqDiff, Nat.reduceAdd, Nat.reduceLeDiff, Nat.reduceBEq, Nat.reduceMul, reduceCtorEq, Int.reduceLE, Int.reduceLT, Int.reduceAdd, Int.reduceSub, Int.reduceNeg, Int.reduceToNat, Int.reduceBEq, List.length_map, AtomD.enc, Option.getD_some, List.size_toArray]) | (refine awp_cond' rfl (of_decide_eq_true rfl) (fun hc => ?_) (fun hc => ?_) <;> ((try simp only [Bool.not_true, Bool.not_false, Bool.not_eq_true', Bool.not_eq_false', Bool.not_eq_eq_eq_not] at hc); (first | (cases hc) | (simp only [hc]) | skip))))
    refine awp_loopw (IL1 a b c (T + 2)) a.length (SL1 a b c (T + 2) 0 _) (weak_keep ⟨rfl, rfl, rfl, rfl, rfl, rfl, rfl, trivial⟩ ⟨rfl, rfl, rfl, rfl, rfl, rfl, rfl, rfl, rfl, trivial⟩ (Nat.le_refl _)) ⟨0, _, Nat.zero_le _, rfl, rfl⟩ ?_
    rintro n st ⟨k, T', hk, rfl, rfl⟩
    by_cases hlt : k < a.length
    · have hdec := lt_t hlt
      have hget := row_at AtomD.enc a k hlt
      have hwk : IntKind.i64.wrap ((k : Int) + 1) = ((k + 1 : Nat) : Int) := wrap_succ (by omega)
      generalize a[k] = x at *
      repeat' (first | refine awp_seq ?_ | refine awp_block ?_ | refine awp_round ?_ | refine awp_text rfl ?_ | refine awp_any rfl mix (by kernel_rfl) ?_ | (refine RunTo.unguard rfl rfl (fun hg => ?_) (fun hg => ?_) <;> ((try simp only [Bool.not_true, Bool.not_false, Bool.not_eq_true', Bool.not_eq_false', Bool.not_eq_eq_eq_not] at hg); (first | (cases hg) | (simp only [hg]) | skip))) | ((first | refine RunTo.plain rfl ?_ | refine RunTo.skipped rfl ?_); simp only [go_sem, ↓reduceIte, Nat.reduceEqDiff, Nat.reduceAdd, Nat.reduceLeDiff, Nat.reduceBEq, Nat.reduceMul, reduceCtorEq, Int.reduceLE, Int.reduceLT, Int.reduceAdd, Int.reduceSub, Int.reduceNeg, Int.reduceToNat, Int.reduceBEq, hdec, hget, AtomD.enc, hwk, List.length_map]) | ((first | refine RunTo.nilA (by kernel_rfl) ?_ | refine RunTo.nilT ?_ | refine awp_skip ?_ | refine awp_exit ?_); simp only [go_sem, ↓reduceIte, Nat.reduceEqDiff, Nat.reduceAdd, Nat.reduceLeDiff, Nat.reduceBEq, Nat.reduceMul, reduceCtorEq, Int.reduceLE, Int.reduceLT, Int.reduceAdd, Int.reduceSub, Int.reduceNeg, Int.reduceToNat, Int.reduceBEq, hdec, hget, AtomD.enc, hwk, List.length_map]) | (refine awp_cond' rfl (of_decide_eq_true rfl) (fun hc => ?_) (fun hc => ?_) <;> ((try simp only [Bool.not_true, Bool.not_false, Bool.not_eq_true', Bool.not_eq_false', Bool.not_eq_eq_eq_not] at hc); (first | (cases hc) | (simp only [hc]) | skip))))
      · (first | refine awp_ret ?_ | skip); refine ⟨(by first | exact .inl rfl | exact .inr rfl | exact .inr trivial | trivial), ?_⟩; simp only [go_sem, ↓reduceIte, Nat.reduceEqDiff, Nat.reduceAdd, Nat.reduceLeDiff, Nat.reduceBEq, Nat.reduceMul, reduceCtorEq, Int.reduceLE, Int.reduceLT, Int.reduceAdd, Int.reduceSub, Int.reduceNeg, Int.reduceToNat, Int.reduceBEq, retV, resL, resV, sealV, sealC, sealAll, Try.f3]
      · exact ⟨a.length - (k + 1), by omega, SL1 a b c (T + 2) (k + 1) _, weak_keep ⟨rfl, rfl, rfl, rfl, rfl, rfl, rfl, trivial⟩ ⟨rfl, rfl, rfl, rfl, rfl, rfl, rfl, rfl, rfl, trivial⟩ (Nat.le_refl _), k + 1, _, by omega, rfl, rfl⟩
    · have hdec := lt_f hlt
      have iX : ∀ x ∈ a ++ [b], inL x := fun x hx => by
        rcases List.mem_append.1 hx with h | h
        · exact ha x h
        · rw [show x = b by simpa using h]; exact hb
      have iZ : ∀ x ∈ a ++ [c, b], inL x := fun x hx => by
        rcases List.mem_append.1 hx with h | h
        · exact ha x h
        · rcases List.mem_cons.1 h with rfl | h
          · exact hc
          · rw [show x = b by simpa using h]; exact hb
      have q1 := c_rValid (LD a) (fl_LD ha)
      have q2 := c_rValid (LD (a ++ [b])) (fl_LD iX)
      have q3 := c_rValid (LD (a ++ [c, b])) (fl_LD iZ)
      have t1 : List.take a.length (a.map AtomD.enc) = a.map AtomD.enc := List.take_of_length_le (by simp)
      have t2 : List.take (a.length + 1) (a.map AtomD.enc ++ [[di b.k, di b.n, df b.f, ds' b.s]]) = a.map AtomD.enc ++ [[di b.k, di b.n, df b.f, ds' b.s]] := List.take_of_length_le (by simp)
      have t3 : List.take (a.length + 2) (a.map AtomD.enc ++ [[di c.k, di c.n, df c.f, ds' c.s], [di b.k, di b.n, df b.f, ds' b.s]]) = a.map AtomD.enc ++ [[di c.k, di c.n, df c.f, ds' c.s], [di b.k, di b.n, df b.f, ds' b.s]] := List.take_of_length_le (by simp)
      by_cases hv : (b.s.size ≤ 256 ∧ c.s.size ≤ 256) ∧ validV (LD a) = true ∧ validV (LD (a ++ [b])) = true ∧ validV (LD (a ++ [c, b])) = true
      · obtain ⟨⟨hs1, hs2⟩, v1, v2, v3⟩ := hv
        rw [v1] at q1
        rw [v2] at q2
        rw [v3] at q3
        have d1 : decide ((256 : Int) < (b.s.size : Int)) = false := decide_eq_false (by omega)
        have d2 : decide ((256 : Int) < (c.s.size : Int)) = false := decide_eq_false (by omega)
        have wb := valid_LD v2 b (by simp)
        have wc := valid_LD v3 c (by simp)
        have r1 := pure_le (c_CompareS ⟨b, []⟩ ⟨c, []⟩ ⟨hb.1, fun a ha => by cases ha⟩ ⟨hc.1, fun a ha => by cases ha⟩ (by simp) (by simp)) (.cons (one_le b) (.cons (one_le c) .nil))
        have r2 := c_CompareS (LD a) (LD (a ++ [b])) (i64_LD ha) (i64_LD iX) (by show a.length ≤ _; omega) (by show (a ++ [b]).length ≤ _; simp; omega)
        have r3 := c_CompareS (LD a) (LD a) (i64_LD ha) (i64_LD ha) (by show a.length ≤ _; omega) (by show a.length ≤ _; omega)
        have r4 := c_CompareS (LD (a ++ [b])) (LD (a ++ [c, b])) (i64_LD iX) (i64_LD iZ) (by show (a ++ [b]).length ≤ _; simp; omega) (by show (a ++ [c, b]).length ≤ _; simp; omega)
        rw [compare_one wb wc] at r1
        rw [compare_LD v1 v2, show lexA a (a ++ [b]) = -1 by have := lexA_app [] [b] a; rw [List.append_nil] at this; rw [this]; rfl] at r2
        rw [compare_LD v1 v1, show lexA a a = 0 by have := lexA_app [] [] a; rw [List.append_nil] at this; rw [this]; rfl] at r3
        rw [compare_LD v2 v3, lexA_app, show lexA [b] [c, b] = if atomsS b c = 0 then -1 else atomsS b c from rfl] at r4
        simp only [LD, ValD.av, List.map_append, List.map_cons, List.map_nil, AtomD.enc] at q1 q2 q3 r2 r3 r4
        generalize atomsS b c = z at *
        repeat' (first | refine awp_seq ?_ | refine awp_block ?_ | refine awp_round ?_ | refine awp_text rfl ?_ | refine awp_any rfl mix (by kernel_rfl) ?_ | (refine RunTo.unguard rfl rfl (fun hg => ?_) (fun hg => ?_) <;> ((try simp only [Bool.not_true, Bool.not_false, Bool.not_eq_true', Bool.not_eq_false', Bool.not_eq_eq_eq_not] at hg); (first | (cases hg) | (simp only [hg]) | skip))) | ((first | refine RunTo.plain rfl ?_ | refine RunTo.skipped rfl ?_ | refine RunTo.call (r1) Try.func6 rfl rfl rfl rfl rfl rfl rfl rfl ?_); simp only [go_sem, ↓reduceIte, Nat.reduceEqDiff, Nat.reduceAdd, Nat.reduceLeDiff, Nat.reduceBEq, Nat.reduceMul, reduceCtorEq, Int.reduceLE, Int.reduceLT, Int.reduceAdd, Int.reduceSub, Int.reduceNeg, Int.reduceToNat, Int.reduceBEq, hdec, d1, d2, t1, t2, t3, AtomD.enc, List.length_map, List.length_append, List.size_toArray]) | (refine RunTo.lentE (q1) Try.func5 rfl rfl rfl rfl rfl rfl ?_; simp only [go_sem, ↓reduceIte, Nat.reduceEqDiff, Nat.reduceAdd, Nat.reduceLeDiff, Nat.reduceBEq, Nat.reduceMul, reduceCtorEq, Int.reduceLE, Int.reduceLT, Int.reduceAdd, Int.reduceSub, Int.reduceNeg, Int.reduceToNat, Int.reduceBEq, hdec, d1, d2, t1, t2, t3, AtomD.enc, List.length_map, List.length_append, List.size_toArray, Option.some.injEq, List.cons.injEq]; (repeat' refine And.intro rfl ?_); with_reducible refine RunTo.this ?_) | (refine RunTo.lentE (q2) Try.func5 rfl rfl rfl rfl rfl rfl ?_; simp only [go_sem, ↓reduceIte, Nat.reduceEqDiff, Nat.reduceAdd, Nat.reduceLeDiff, Nat.reduceBEq, Nat.reduceMul, reduceCtorEq, Int.reduceLE, Int.reduceLT, Int.reduceAdd, Int.reduceSub, Int.reduceNeg, Int.reduceToNat, Int.reduceBEq, hdec, d1, d2, t1, t2, t3, AtomD.enc, List.length_map, List.length_append, List.size_toArray, Option.some.injEq, List.cons.injEq]; (repeat' refine And.intro rfl ?_); with_reducible refine RunTo.this ?_) | (refine RunTo.lentE (q3) Try.func5 rfl rfl rfl rfl rfl rfl ?_; simp only [go_sem, ↓reduceIte, Nat.reduceEqDiff, Nat.reduceAdd, Nat.reduceLeDiff, Nat.reduceBEq, Nat.reduceMul, reduceCtorEq, Int.reduceLE, Int.reduceLT, Int.reduceAdd, Int.reduceSub, Int.reduceNeg, Int.reduceToNat, Int.reduceBEq, hdec, d1, d2, t1, t2, t3, AtomD.enc, List.length_map, List.length_append, List.size_toArray, Option.some.injEq, List.cons.injEq]; (repeat' refine And.intro rfl ?_); with_reducible refine RunTo.this ?_) | (refine RunTo.lentE (r2) Try.func6 rfl rfl rfl rfl rfl rfl ?_; simp only [go_sem, ↓reduceIte, Nat.reduceEqDiff, Nat.reduceAdd, Nat.reduceLeDiff, Nat.reduceBEq, Nat.reduceMul, reduceCtorEq, Int.reduceLE, Int.reduceLT, Int.reduceAdd, Int.reduceSub, Int.reduceNeg, Int.reduceToNat, Int.reduceBEq, hdec, d1, d2, t1, t2, t3, AtomD.enc, List.length_map, List.length_append, List.size_toArray, Option.some.injEq, List.cons.injEq]; (repeat' refine And.intro rfl ?_); with_reducible refine RunTo.this ?_) | (refine RunTo.lentE (r3) Try.func6 rfl rfl rfl rfl rfl rfl ?_; simp only [go_sem, ↓reduceIte, Nat.reduceEqDiff, Nat.reduceAdd, Nat.reduceLeDiff, Nat.reduceBEq, Nat.reduceMul, reduceCtorEq, Int.reduceLE, Int.reduceLT, Int.reduceAdd, Int.reduceSub, Int.reduceNeg, Int.reduceToNat, Int.reduceBEq, hdec, d1, d2, t1, t2, t3, AtomD.enc, List.length_map, List.length_append, List.size_toArray, Option.some.injEq, List.cons.injEq]; (repeat' refine And.intro rfl ?_); with_reducible refine RunTo.this ?_) | (refine RunTo.lentE (r4) Try.func6 rfl rfl rfl rfl rfl rfl ?_; simp only [go_sem, ↓reduceIte, Nat.reduceEqDiff, Nat.reduceAdd, Nat.reduceLeDiff, Nat.reduceBEq, Nat.reduceMul, reduceCtorEq, Int.reduceLE, Int.reduceLT, Int.reduceAdd, Int.reduceSub, Int.reduceNeg, Int.reduceToNat, Int.reduceBEq, hdec, d1, d2, t1, t2, t3, AtomD.enc, List.length_map, List.length_append, List.size_toArray, Option.some.injEq, List.cons.injEq]; (repeat' refine And.intro rfl ?_); with_reducible refine RunTo.this ?_) | ((first | refine RunTo.nilA (by kernel_rfl) ?_ | refine RunTo.nilT ?_ | refine awp_skip ?_ | refine awp_exit ?_); simp only [go_sem, ↓reduceIte, Nat.reduceEqDiff, Nat.reduceAdd, Nat.reduceLeDiff, Nat.reduceBEq, Nat.reduceMul, reduceCtorEq, Int.reduceLE, Int.reduceLT, Int.reduceAdd, Int.reduceSub, Int.reduceNeg, Int.reduceToNat, Int.reduceBEq, hdec, d1, d2, t1, t2, t3, AtomD.enc, List.length_map, List.length_append, List.size_toArray]) | (refine awp_cond' rfl (of_decide_eq_true rfl) (fun hc => ?_) (fun hc => ?_) <;> ((try simp only [Bool.not_true, Bool.not_false, Bool.not_eq_true', Bool.not_eq_false', Bool.not_eq_eq_eq_not] at hc); (first | (cases hc) | (simp only [hc]) | skip))))
        all_goals (first | refine awp_ret ?_ | skip); refine ⟨(by first | exact .inl rfl | exact .inr rfl | exact .inr trivial | trivial), ?_⟩; simp only [go_sem, ↓reduceIte, Nat.reduceEqDiff, Nat.reduceAdd, Nat.reduceLeDiff, Nat.reduceBEq, Nat.reduceMul, reduceCtorEq, Int.reduceLE, Int.reduceLT, Int.reduceAdd, Int.reduceSub, Int.reduceNeg, Int.reduceToNat, Int.reduceBEq, retV, resL, resV, sealV, sealC, sealAll, Try.f3]
        all_goals
          (try simp only [decide_eq_true_eq, decide_eq_false_iff_not, beq_iff_eq, bne_iff_ne, ne_eq, beq_eq_false_iff_ne, bne_eq_false_iff_eq, Bool.and_eq_true, Bool.or_eq_true, Bool.or_eq_false_iff, Bool.and_eq_false_iff] at *)
          simp [*]
      · have r0 := c_cmp12
        have o1 := c_OfInt 1
        have o2 := c_OfInt 2
        generalize validV (LD a) = p1 at *
        generalize validV (LD (a ++ [b])) = p2 at *
        generalize validV (LD (a ++ [c, b])) = p3 at *
        simp only [LD, ValD.av, List.map_append, List.map_cons, List.map_nil, AtomD.enc] at q1 q2 q3
        repeat' (first | refine awp_seq ?_ | refine awp_block ?_ | refine awp_round ?_ | refine awp_text rfl ?_ | refine awp_any rfl mix (by kernel_rfl) ?_ | (refine RunTo.unguard rfl rfl (fun hg => ?_) (fun hg => ?_) <;> ((try simp only [Bool.not_true, Bool.not_false, Bool.not_eq_true', Bool.not_eq_false', Bool.not_eq_eq_eq_not] at hg); (first | (cases hg) | (simp only [hg]) | skip))) | ((first | refine RunTo.plain rfl ?_ | refine RunTo.skipped rfl ?_ | refine RunTo.call (r0) Try.func6 rfl rfl rfl rfl rfl rfl rfl rfl ?_ | refine RunTo.call (o1) Try.func7 rfl rfl rfl rfl rfl rfl rfl rfl ?_ | refine RunTo.call (o2) Try.func7 rfl rfl rfl rfl rfl rfl rfl rfl ?_); simp only [go_sem, ↓reduceIte, Nat.reduceEqDiff, Nat.reduceAdd, Nat.reduceLeDiff, Nat.reduceBEq, Nat.reduceMul, reduceCtorEq, Int.reduceLE, Int.reduceLT, Int.reduceAdd, Int.reduceSub, Int.reduceNeg, Int.reduceToNat, Int.reduceBEq, hdec, t1, t2, t3, AtomD.enc, List.length_map, List.length_append, List.size_toArray]) | (refine RunTo.lentE (q1) Try.func5 rfl rfl rfl rfl rfl rfl ?_; simp only [go_sem, ↓reduceIte, Nat.reduceEqDiff, Nat.reduceAdd, Nat.reduceLeDiff, Nat.reduceBEq, Nat.reduceMul, reduceCtorEq, Int.reduceLE, Int.reduceLT, Int.reduceAdd, Int.reduceSub, Int.reduceNeg, Int.reduceToNat, Int.reduceBEq, hdec, t1, t2, t3, AtomD.enc, List.length_map, List.length_append, List.size_toArray, Option.some.injEq, List.cons.injEq]; (repeat' refine And.intro rfl ?_); with_reducible refine RunTo.this ?_) | (refine RunTo.lentE (q2) Try.func5 rfl rfl rfl rfl rfl rfl ?_; simp only [go_sem, ↓reduceIte, Nat.reduceEqDiff, Nat.reduceAdd, Nat.reduceLeDiff, Nat.reduceBEq, Nat.reduceMul, reduceCtorEq, Int.reduceLE, Int.reduceLT, Int.reduceAdd, Int.reduceSub, Int.reduceNeg, Int.reduceToNat, Int.reduceBEq, hdec, t1, t2, t3, AtomD.enc, List.length_map, List.length_append, List.size_toArray, Option.some.injEq, List.cons.injEq]; (repeat' refine And.intro rfl ?_); with_reducible refine RunTo.this ?_) | (refine RunTo.lentE (q3) Try.func5 rfl rfl rfl rfl rfl rfl ?_; simp only [go_sem, ↓reduceIte, Nat.reduceEqDiff, Nat.reduceAdd, Nat.reduceLeDiff, Nat.reduceBEq, Nat.reduceMul, reduceCtorEq, Int.reduceLE, Int.reduceLT, Int.reduceAdd, Int.reduceSub, Int.reduceNeg, Int.reduceToNat, Int.reduceBEq, hdec, t1, t2, t3, AtomD.enc, List.length_map, List.length_append, List.size_toArray, Option.some.injEq, List.cons.injEq]; (repeat' refine And.intro rfl ?_); with_reducible refine RunTo.this ?_) | ((first | refine RunTo.nilA (by kernel_rfl) ?_ | refine RunTo.nilT ?_ | refine awp_skip ?_ | refine awp_exit ?_); simp only [go_sem, ↓reduceIte, Nat.reduceEqDiff, Nat.reduceAdd, Nat.reduceLeDiff, Nat.reduceBEq, Nat.reduceMul, reduceCtorEq, Int.reduceLE, Int.reduceLT, Int.reduceAdd, Int.reduceSub, Int.reduceNeg, Int.reduceToNat, Int.reduceBEq, hdec, t1, t2, t3, AtomD.enc, List.length_map, List.length_append, List.size_toArray]) | (refine awp_cond' rfl (of_decide_eq_true rfl) (fun hc => ?_) (fun hc => ?_) <;> ((try simp only [Bool.not_true, Bool.not_false, Bool.not_eq_true', Bool.not_eq_false', Bool.not_eq_eq_eq_not] at hc); (first | (cases hc) | (simp only [hc]) | skip))))
        all_goals first
          | ((first | refine awp_ret ?_ | skip); refine ⟨(by first | exact .inl rfl | exact .inr rfl | exact .inr trivial | trivial), ?_⟩; simp only [go_sem, ↓reduceIte, Nat.reduceEqDiff, Nat.reduceAdd, Nat.reduceLeDiff, Nat.reduceBEq, Nat.reduceMul, reduceCtorEq, Int.reduceLE, Int.reduceLT, Int.reduceAdd, Int.reduceSub, Int.reduceNeg, Int.reduceToNat, Int.reduceBEq, retV, resL, resV, sealV, sealC, sealAll, Try.f3]; done)
          | ((first | refine awp_ret ?_ | skip); refine ⟨(by first | exact .inl rfl | exact .inr rfl | exact .inr trivial | trivial), ?_⟩; simp only [go_sem, ↓reduceIte, Nat.reduceEqDiff, Nat.reduceAdd, Nat.reduceLeDiff, Nat.reduceBEq, Nat.reduceMul, reduceCtorEq, Int.reduceLE, Int.reduceLT, Int.reduceAdd, Int.reduceSub, Int.reduceNeg, Int.reduceToNat, Int.reduceBEq, retV, resL, resV, sealV, sealC, sealAll, Try.f3]; simp; done)
          | (exfalso; (try simp only [decide_eq_true_eq, decide_eq_false_iff_not, beq_iff_eq, bne_iff_ne, ne_eq, beq_eq_false_iff_ne, bne_eq_false_iff_eq, Bool.and_eq_true, Bool.or_eq_true, Bool.or_eq_false_iff, Bool.and_eq_false_iff] at *); apply hv; refine ⟨⟨by omega, by omega⟩, ?_⟩; simp_all; done)
          | trace_state
  by_cases hl : 14 < a0.length
  · have hd : decide ((14 : Int) < (a0.length : Int)) = true := decide_eq_true (by omega)
    have hle : (14 ≤ a0.length) = True := eq_true (by omega)
    have hmt : List.take 14 (a0.map AtomD.enc) = (a0.take 14).map AtomD.enc := List.map_take.symm
    repeat' (first | refine awp_seq ?_ | refine awp_block ?_ | refine awp_round ?_ | refine awp_text rfl ?_ | refine awp_any rfl mix (by kernel_rfl) ?_ | (refine RunTo.unguard rfl rfl (fun hg => ?_) (fun hg => ?_) <;> ((try simp only [Bool.not_true, Bool.not_false, Bool.not_eq_true', Bool.not_eq_false', Bool.not_eq_eq_eq_not] at hg); (first | (cases hg) | (simp only [hg]) | skip))) | ((first | refine RunTo.plain rfl ?_ | refine RunTo.skipped rfl ?_); simp only [go_sem, ↓reduceIte, Nat.reduceEqDiff, Nat.reduceAdd, Nat.reduceLeDiff, Nat.reduceBEq, Nat.reduceMul, reduceCtorEq, Int.reduceLE, Int.reduceLT, Int.reduceAdd, Int.reduceSub, Int.reduceNeg, Int.reduceToNat, Int.reduceBEq, hd, hle, hmt, AtomD.av, List.length_map]) | ((first | refine RunTo.nilA (by kernel_rfl) ?_ | refine RunTo.nilT ?_ | refine awp_skip ?_ | refine awp_exit ?_); simp only [go_sem, ↓reduceIte, Nat.reduceEqDiff, Nat.reduceAdd, Nat.reduceLeDiff, Nat.reduceBEq, Nat.reduceMul, reduceCtorEq, Int.reduceLE, Int.reduceLT, Int.reduceAdd, Int.reduceSub, Int.reduceNeg, Int.reduceToNat, Int.reduceBEq, hd, hle, hmt, AtomD.av, List.length_map]) | (refine awp_cond' rfl (of_decide_eq_true rfl) (fun hc => ?_) (fun hc => ?_) <;> ((try simp only [Bool.not_true, Bool.not_false, Bool.not_eq_true', Bool.not_eq_false', Bool.not_eq_eq_eq_not] at hc); (first | (cases hc) | (simp only [hc]) | skip))))
    all_goals exact awp_weak (st' := SL0 (a0.take 14) b c _) (weak_keep ⟨rfl, rfl, rfl, trivial⟩ ⟨rfl, rfl, rfl, trivial⟩ (Nat.le_refl _)) (main _ _ (by simp; omega) (fun x hx => ha x (List.mem_of_mem_take hx)))
  · have hd : decide ((14 : Int) < (a0.length : Int)) = false := decide_eq_false (by omega)
    repeat' (first | refine awp_seq ?_ | refine awp_block ?_ | refine awp_round ?_ | refine awp_text rfl ?_ | refine awp_any rfl mix (by kernel_rfl) ?_ | (refine RunTo.unguard rfl rfl (fun hg => ?_) (fun hg => ?_) <;> ((try simp only [Bool.not_true, Bool.not_false, Bool.not_eq_true', Bool.not_eq_false', Bool.not_eq_eq_eq_not] at hg); (first | (cases hg) | (simp only [hg]) | skip))) | ((first | refine RunTo.plain rfl ?_ | refine RunTo.skipped rfl ?_); simp only [go_sem, ↓reduceIte, Nat.reduceEqDiff, Nat.reduceAdd, Nat.reduceLeDiff, Nat.reduceBEq, Nat.reduceMul, reduceCtorEq, Int.reduceLE, Int.reduceLT, Int.reduceAdd, Int.reduceSub, Int.reduceNeg, Int.reduceToNat, Int.reduceBEq, hd, AtomD.av, List.length_map]) | ((first | refine RunTo.nilA (by kernel_rfl) ?_ | refine RunTo.nilT ?_ | refine awp_skip ?_ | refine awp_exit ?_); simp only [go_sem, ↓reduceIte, Nat.reduceEqDiff, Nat.reduceAdd, Nat.reduceLeDiff, Nat.reduceBEq, Nat.reduceMul, reduceCtorEq, Int.reduceLE, Int.reduceLT, Int.reduceAdd, Int.reduceSub, Int.reduceNeg, Int.reduceToNat, Int.reduceBEq, hd, AtomD.av, List.length_map]) | (refine awp_cond' rfl (of_decide_eq_true rfl) (fun hc => ?_) (fun hc => ?_) <;> ((try simp only [Bool.not_true, Bool.not_false, Bool.not_eq_true', Bool.not_eq_false', Bool.not_eq_eq_eq_not] at hc); (first | (cases hc) | (simp only [hc]) | skip))))
    all_goals exact awp_weak (st' := SL0 a0 b c _) (weak_keep ⟨rfl, rfl, rfl, trivial⟩ ⟨rfl, rfl, rfl, trivial⟩ (Nat.le_refl _)) (main _ _ (by omega) ha)
end Go.Proofs.Ytjihcldhjpdnmaa.AM
