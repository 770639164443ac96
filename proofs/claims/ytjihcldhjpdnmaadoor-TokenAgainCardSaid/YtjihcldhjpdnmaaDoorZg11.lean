/- Part 11 of the proof: words, contracts, plain laws. Laid by a program of this session (wip/tool/shake.py): what is needed of own and printed texts, in order. -/
import Derived.Test.YtjihcldhjpdnmaaDoorZg0
import Derived.Test.YtjihcldhjpdnmaaDoorZg1
import Derived.Test.YtjihcldhjpdnmaaDoorZg2
import Derived.Test.YtjihcldhjpdnmaaDoorZg3
import Derived.Test.YtjihcldhjpdnmaaDoorZg5
import Derived.Test.YtjihcldhjpdnmaaDoorZg6
import Derived.Test.YtjihcldhjpdnmaaDoorZg7
import Derived.Test.YtjihcldhjpdnmaaDoorZg8
import Derived.Test.YtjihcldhjpdnmaaDoorZg9
import Derived.Test.YtjihcldhjpdnmaaDoorZg10
import Derived.Calls
import Derived.Lib.ItoaNum
import Derived.Orders
import Derived.Tactics
import Derived.Below
import Derived.Laws.Rows
import Derived.Laws.World
import Derived.Laws.CopyRow
import Derived.Lib.FrozenHead
import Derived.Deep.AppendSrc
import Derived.Deep.Upon
import Derived.Laws.BytesArg
import Derived.IntWalk
import Derived.Laws.Externs
import Derived.LoopN
import Derived.Scope
import Derived.Test.YtjihcldhjpdnmaaDoorProg
import Derived.KernelRfl
import Derived.MapKept
import Derived.Recover
import Derived.Laws.FloatBits
import Derived.WideLaws
import Derived.Lib.ItoaMem
import Derived.Lib.ItoaLen
import Derived.Lib.Join
import Derived.RegionTactic
import Derived.Lib.AppendIntMem
import Derived.Shelf.Strings.Builder1
import Derived.Shelf.Strings.Builder2
import Derived.Shelf.Strings.OnBuilder
import Derived.Shelf.Small.Strs
import Derived.Shelf.Small.Wraps
import Derived.Shelf.Strings.BuilderF
import Derived.Shelf.Strings.BuilderK
import Derived.Shelf.Strings.Builder2Cap
import Derived.Shelf.Strconv.Atoi
import Derived.Shelf.Strconv.Itoa0
import Derived.Shelf.Strconv.Itoa1
import Derived.Shelf.LaysM
import Derived.Shelf.Strconv.Itoa2
import Derived.Shelf.Strconv.Itoa3
import Derived.Shelf.Strconv.AtoiErrFast
import Derived.Shelf.Strconv.ParseIntEmpty
import Derived.Shelf.Strconv.AtoiFail
import Derived.Shelf.Strconv.Clone
import Derived.Shelf.Strconv.SyntaxError
import Derived.Shelf.LaysC
import Derived.Shelf.Strconv.ToError
import Derived.Shelf.Strconv.Lower
import Derived.Shelf.Strconv.ParseUint10
import Derived.Shelf.Strconv.ParseUint10Empty
import Derived.Shelf.Strconv.ParseUint10Any
import Derived.Shelf.Strconv.ParseInt10
import Derived.Shelf.Strconv.AtoiLong
import Derived.Shelf.Strconv.AtoiInnerAll
import Derived.Shelf.Strconv.RangeError
import Derived.Shelf.Strconv.ToErrorRange
import Derived.Shelf.Strconv.AtoiAll
import Derived.Shelf.Strings.Search1
import Derived.Shelf.Strings.Prefix
import Derived.Shelf.Strings.BuilderCap
import Derived.Shelf.Slices.Turned
import Derived.Ground.Names2Prog
import Derived.Shelf.Slices.SearchI
namespace Go.Proofs.YtjihcldhjpdnmaaDoor.AM
open Go.RowKit
set_option linter.unusedSimpArgs false
set_option linter.unusedVariables false
set_option maxRecDepth 10000
set_option maxHeartbeats 0
theorem c_LexT (s : ByteArray) (hs : s.size ≤ 4096) : Pure Tryd.prog 29 [sv s] (lexU (lexR s)) := by
  have hbig : decide ((4096 : Int) < (s.size : Int)) = false := decide_eq_false (by omega)
  refine pure_res ?_ (lexV_le s)
  generalize hr : lexR s = R at *
  refine pure_of_awp Tryd.func29 rfl rfl (by simp [Tryd.f29]) ?_; simp only [go_sem, ↓reduceIte, Nat.reduceEqDiff, Nat.reduceAdd, Nat.reduceLeDiff, Nat.reduceBEq, Nat.reduceMul, reduceCtorEq, Int.reduceLE, Int.reduceLT, Int.reduceAdd, Int.reduceSub, Int.reduceNeg, Int.reduceToNat, Int.reduceBEq]
  repeat' (first | refine awp_seq ?_ | refine awp_block ?_ | refine awp_round ?_ | refine awp_scope ?_ | refine awp_text rfl ?_ | refine awp_any rfl mix (by kernel_rfl) ?_ | (refine RunTo.unguard rfl rfl (fun hg => ?_) (fun hg => ?_) <;> ((try simp only [Bool.not_true, Bool.not_false, Bool.not_eq_true', Bool.not_eq_false', Bool.not_eq_eq_eq_not] at hg); (first | (cases hg) | (simp only [hg]) | skip))) | ((first | refine RunTo.plain rfl ?_ | refine RunTo.skipped rfl ?_); simp only [go_sem, ↓reduceIte, Nat.reduceEqDiff, Nat.reduceAdd, Nat.reduceLeDiff, Nat.reduceBEq, Nat.reduceMul, reduceCtorEq, Int.reduceLE, Int.reduceLT, Int.reduceAdd, Int.reduceSub, Int.reduceNeg, Int.reduceToNat, Int.reduceBEq, hbig]) | ((first | refine RunTo.nilA (by kernel_rfl) ?_ | refine RunTo.nilT ?_ | refine awp_skip ?_ | refine awp_exit ?_ | refine awp_label ?_); simp only [go_sem, ↓reduceIte, Nat.reduceEqDiff, Nat.reduceAdd, Nat.reduceLeDiff, Nat.reduceBEq, Nat.reduceMul, reduceCtorEq, Int.reduceLE, Int.reduceLT, Int.reduceAdd, Int.reduceSub, Int.reduceNeg, Int.reduceToNat, Int.reduceBEq, hbig]) | (refine awp_cond' rfl (of_decide_eq_true rfl) (fun hc => ?_) (fun hc => ?_) <;> ((try simp only [Bool.not_true, Bool.not_false, Bool.not_eq_true', Bool.not_eq_false', Bool.not_eq_eq_eq_not] at hc); (first | (cases hc) | (simp only [hc]) | skip))))
  refine awp_weak (weak_nil (t := 5) (s := 41) (sz := 8) (of_decide_eq_true rfl) rfl) ?_
  simp only [go_sem, ↓reduceIte, Nat.reduceEqDiff, Nat.reduceAdd, Nat.reduceLeDiff, Nat.reduceBEq, Nat.reduceMul, reduceCtorEq, Int.reduceLE, Int.reduceLT, Int.reduceAdd, Int.reduceSub, Int.reduceNeg, Int.reduceToNat, Int.reduceBEq]
  repeat' (first | refine awp_seq ?_ | refine awp_block ?_ | refine awp_round ?_ | refine awp_scope ?_ | refine awp_text rfl ?_ | refine awp_any rfl mix (by kernel_rfl) ?_ | (refine RunTo.unguard rfl rfl (fun hg => ?_) (fun hg => ?_) <;> ((try simp only [Bool.not_true, Bool.not_false, Bool.not_eq_true', Bool.not_eq_false', Bool.not_eq_eq_eq_not] at hg); (first | (cases hg) | (simp only [hg]) | skip))) | ((first | refine RunTo.plain rfl ?_ | refine RunTo.skipped rfl ?_); simp only [go_sem, ↓reduceIte, Nat.reduceEqDiff, Nat.reduceAdd, Nat.reduceLeDiff, Nat.reduceBEq, Nat.reduceMul, reduceCtorEq, Int.reduceLE, Int.reduceLT, Int.reduceAdd, Int.reduceSub, Int.reduceNeg, Int.reduceToNat, Int.reduceBEq]) | ((first | refine RunTo.nilA (by kernel_rfl) ?_ | refine RunTo.nilT ?_ | refine awp_skip ?_ | refine awp_exit ?_ | refine awp_label ?_); simp only [go_sem, ↓reduceIte, Nat.reduceEqDiff, Nat.reduceAdd, Nat.reduceLeDiff, Nat.reduceBEq, Nat.reduceMul, reduceCtorEq, Int.reduceLE, Int.reduceLT, Int.reduceAdd, Int.reduceSub, Int.reduceNeg, Int.reduceToNat, Int.reduceBEq]) | (refine awp_cond' rfl (of_decide_eq_true rfl) (fun hc => ?_) (fun hc => ?_) <;> ((try simp only [Bool.not_true, Bool.not_false, Bool.not_eq_true', Bool.not_eq_false', Bool.not_eq_eq_eq_not] at hc); (first | (cases hc) | (simp only [hc]) | skip))))
  refine awp_loopw (IX4 s R) s.size (SX4 s 0 [] _ _) (weak_keep ⟨rfl, rfl, rfl, trivial⟩ ⟨rfl, trivial⟩ (Nat.le_refl _)) ⟨0, [], _, _, s.size + 1, Nat.zero_le _, rfl, by omega, Nat.le_refl _, by rw [app_nil, List.drop_zero, ← hr]; rfl, rfl⟩ ?_
  rintro nn st ⟨p, acc, T, e, f, hp, rfl, hf, hacc, hx, rfl⟩
  obtain ⟨f, rfl⟩ : ∃ g, f = g + 1 := ⟨f - 1, by omega⟩
  have htk : List.take acc.length (acc.map TokD.enc) = acc.map TokD.enc := List.take_of_length_le (by simp)
  have c1 : ((acc.length + 1) * 96 ≤ 140737488355328) = True := eq_true (by omega)
  have hp' : (p ≤ s.size) = True := eq_true hp
  by_cases hlt : p < s.size
  · have hdec := lt_t hlt
    have hb := byte_at' s p hlt
    have hwk : IntKind.i64.wrap ((p : Int) + 1) = ((p + 1 : Nat) : Int) := wrap_succ (by omega)
    have hfst := c_firstT (s.extract p s.size) (by simp only [ByteArray.size_extract]; omega) (by simp only [ByteArray.size_extract]; omega)
    rw [ext_endH] at hfst
    have hdl : (s.data.toList.drop p).length = s.size - p := by rw [List.length_drop, Array.length_toList]; rfl
    have hdc := drop_cons s p hlt
    rw [hdc, lex_cons, ← hdc] at hx
    generalize s[p] = c at *
    by_cases hbl : blkB c = true
    · rw [if_pos hbl] at hx
      have key : ∃ q1 q2 q3 q4 : Bool, ((c.toNat : Int) == 32) = q1 ∧ ((c.toNat : Int) == 9) = q2 ∧ ((c.toNat : Int) == 10) = q3 ∧ ((c.toNat : Int) == 13) = q4 ∧ (q1 || q2 || q3 || q4) = true := by
        refine ⟨_, _, _, _, rfl, rfl, rfl, rfl, ?_⟩
        simp only [blkB, Bool.or_eq_true, decide_eq_true_eq] at hbl
        simp only [Bool.or_eq_true, beq_iff_eq]
        omega
      obtain ⟨q1, q2, q3, q4, k1, k2, k3, k4, kq⟩ := key
      cases q1 with
      | true =>
        repeat' (first | refine awp_seq ?_ | refine awp_block ?_ | refine awp_round ?_ | refine awp_scope ?_ | refine awp_text rfl ?_ | refine awp_any rfl mix (by kernel_rfl) ?_ | (refine RunTo.unguard rfl rfl (fun hg => ?_) (fun hg => ?_) <;> ((try simp only [Bool.not_true, Bool.not_false, Bool.not_eq_true', Bool.not_eq_false', Bool.not_eq_eq_eq_not] at hg); (first | (cases hg) | (simp only [hg]) | skip))) | ((first | refine RunTo.plain rfl ?_ | refine RunTo.skipped rfl ?_); simp only [go_sem, ↓reduceIte, Nat.reduceEqDiff, Nat.reduceAdd, Nat.reduceLeDiff, Nat.reduceBEq, Nat.reduceMul, reduceCtorEq, Int.reduceLE, Int.reduceLT, Int.reduceAdd, Int.reduceSub, Int.reduceNeg, Int.reduceToNat, Int.reduceBEq, hdec, hb, hwk, k1, k2, k3, k4]) | ((first | refine RunTo.nilA (by kernel_rfl) ?_ | refine RunTo.nilT ?_ | refine awp_skip ?_ | refine awp_exit ?_ | refine awp_label ?_); simp only [go_sem, ↓reduceIte, Nat.reduceEqDiff, Nat.reduceAdd, Nat.reduceLeDiff, Nat.reduceBEq, Nat.reduceMul, reduceCtorEq, Int.reduceLE, Int.reduceLT, Int.reduceAdd, Int.reduceSub, Int.reduceNeg, Int.reduceToNat, Int.reduceBEq, hdec, hb, hwk, k1, k2, k3, k4]) | (refine awp_cond' rfl (of_decide_eq_true rfl) (fun hc => ?_) (fun hc => ?_) <;> ((try simp only [Bool.not_true, Bool.not_false, Bool.not_eq_true', Bool.not_eq_false', Bool.not_eq_eq_eq_not] at hc); (first | (cases hc) | (simp only [hc]) | skip))))
        all_goals exact ⟨s.size - (p + 1), by omega, SX4 s (p + 1) acc _ _, weak_keep ⟨rfl, rfl, rfl, trivial⟩ ⟨rfl, trivial⟩ (Nat.le_refl _), p + 1, acc, _, _, f, by omega, rfl, by omega, by omega, hx, rfl⟩
      | false =>
        cases q2 with
        | true =>
          repeat' (first | refine awp_seq ?_ | refine awp_block ?_ | refine awp_round ?_ | refine awp_scope ?_ | refine awp_text rfl ?_ | refine awp_any rfl mix (by kernel_rfl) ?_ | (refine RunTo.unguard rfl rfl (fun hg => ?_) (fun hg => ?_) <;> ((try simp only [Bool.not_true, Bool.not_false, Bool.not_eq_true', Bool.not_eq_false', Bool.not_eq_eq_eq_not] at hg); (first | (cases hg) | (simp only [hg]) | skip))) | ((first | refine RunTo.plain rfl ?_ | refine RunTo.skipped rfl ?_); simp only [go_sem, ↓reduceIte, Nat.reduceEqDiff, Nat.reduceAdd, Nat.reduceLeDiff, Nat.reduceBEq, Nat.reduceMul, reduceCtorEq, Int.reduceLE, Int.reduceLT, Int.reduceAdd, Int.reduceSub, Int.reduceNeg, Int.reduceToNat, Int.reduceBEq, hdec, hb, hwk, k1, k2, k3, k4]) | ((first | refine RunTo.nilA (by kernel_rfl) ?_ | refine RunTo.nilT ?_ | refine awp_skip ?_ | refine awp_exit ?_ | refine awp_label ?_); simp only [go_sem, ↓reduceIte, Nat.reduceEqDiff, Nat.reduceAdd, Nat.reduceLeDiff, Nat.reduceBEq, Nat.reduceMul, reduceCtorEq, Int.reduceLE, Int.reduceLT, Int.reduceAdd, Int.reduceSub, Int.reduceNeg, Int.reduceToNat, Int.reduceBEq, hdec, hb, hwk, k1, k2, k3, k4]) | (refine awp_cond' rfl (of_decide_eq_true rfl) (fun hc => ?_) (fun hc => ?_) <;> ((try simp only [Bool.not_true, Bool.not_false, Bool.not_eq_true', Bool.not_eq_false', Bool.not_eq_eq_eq_not] at hc); (first | (cases hc) | (simp only [hc]) | skip))))
          all_goals exact ⟨s.size - (p + 1), by omega, SX4 s (p + 1) acc _ _, weak_keep ⟨rfl, rfl, rfl, trivial⟩ ⟨rfl, trivial⟩ (Nat.le_refl _), p + 1, acc, _, _, f, by omega, rfl, by omega, by omega, hx, rfl⟩
        | false =>
          cases q3 with
          | true =>
            repeat' (first | refine awp_seq ?_ | refine awp_block ?_ | refine awp_round ?_ | refine awp_scope ?_ | refine awp_text rfl ?_ | refine awp_any rfl mix (by kernel_rfl) ?_ | (refine RunTo.unguard rfl rfl (fun hg => ?_) (fun hg => ?_) <;> ((try simp only [Bool.not_true, Bool.not_false, Bool.not_eq_true', Bool.not_eq_false', Bool.not_eq_eq_eq_not] at hg); (first | (cases hg) | (simp only [hg]) | skip))) | ((first | refine RunTo.plain rfl ?_ | refine RunTo.skipped rfl ?_); simp only [go_sem, ↓reduceIte, Nat.reduceEqDiff, Nat.reduceAdd, Nat.reduceLeDiff, Nat.reduceBEq, Nat.reduceMul, reduceCtorEq, Int.reduceLE, Int.reduceLT, Int.reduceAdd, Int.reduceSub, Int.reduceNeg, Int.reduceToNat, Int.reduceBEq, hdec, hb, hwk, k1, k2, k3, k4]) | ((first | refine RunTo.nilA (by kernel_rfl) ?_ | refine RunTo.nilT ?_ | refine awp_skip ?_ | refine awp_exit ?_ | refine awp_label ?_); simp only [go_sem, ↓reduceIte, Nat.reduceEqDiff, Nat.reduceAdd, Nat.reduceLeDiff, Nat.reduceBEq, Nat.reduceMul, reduceCtorEq, Int.reduceLE, Int.reduceLT, Int.reduceAdd, Int.reduceSub, Int.reduceNeg, Int.reduceToNat, Int.reduceBEq, hdec, hb, hwk, k1, k2, k3, k4]) | (refine awp_cond' rfl (of_decide_eq_true rfl) (fun hc => ?_) (fun hc => ?_) <;> ((try simp only [Bool.not_true, Bool.not_false, Bool.not_eq_true', Bool.not_eq_false', Bool.not_eq_eq_eq_not] at hc); (first | (cases hc) | (simp only [hc]) | skip))))
            all_goals exact ⟨s.size - (p + 1), by omega, SX4 s (p + 1) acc _ _, weak_keep ⟨rfl, rfl, rfl, trivial⟩ ⟨rfl, trivial⟩ (Nat.le_refl _), p + 1, acc, _, _, f, by omega, rfl, by omega, by omega, hx, rfl⟩
          | false =>
            obtain rfl : q4 = true := by simpa using kq
            repeat' (first | refine awp_seq ?_ | refine awp_block ?_ | refine awp_round ?_ | refine awp_scope ?_ | refine awp_text rfl ?_ | refine awp_any rfl mix (by kernel_rfl) ?_ | (refine RunTo.unguard rfl rfl (fun hg => ?_) (fun hg => ?_) <;> ((try simp only [Bool.not_true, Bool.not_false, Bool.not_eq_true', Bool.not_eq_false', Bool.not_eq_eq_eq_not] at hg); (first | (cases hg) | (simp only [hg]) | skip))) | ((first | refine RunTo.plain rfl ?_ | refine RunTo.skipped rfl ?_); simp only [go_sem, ↓reduceIte, Nat.reduceEqDiff, Nat.reduceAdd, Nat.reduceLeDiff, Nat.reduceBEq, Nat.reduceMul, reduceCtorEq, Int.reduceLE, Int.reduceLT, Int.reduceAdd, Int.reduceSub, Int.reduceNeg, Int.reduceToNat, Int.reduceBEq, hdec, hb, hwk, k1, k2, k3, k4]) | ((first | refine RunTo.nilA (by kernel_rfl) ?_ | refine RunTo.nilT ?_ | refine awp_skip ?_ | refine awp_exit ?_ | refine awp_label ?_); simp only [go_sem, ↓reduceIte, Nat.reduceEqDiff, Nat.reduceAdd, Nat.reduceLeDiff, Nat.reduceBEq, Nat.reduceMul, reduceCtorEq, Int.reduceLE, Int.reduceLT, Int.reduceAdd, Int.reduceSub, Int.reduceNeg, Int.reduceToNat, Int.reduceBEq, hdec, hb, hwk, k1, k2, k3, k4]) | (refine awp_cond' rfl (of_decide_eq_true rfl) (fun hc => ?_) (fun hc => ?_) <;> ((try simp only [Bool.not_true, Bool.not_false, Bool.not_eq_true', Bool.not_eq_false', Bool.not_eq_eq_eq_not] at hc); (first | (cases hc) | (simp only [hc]) | skip))))
            all_goals exact ⟨s.size - (p + 1), by omega, SX4 s (p + 1) acc _ _, weak_keep ⟨rfl, rfl, rfl, trivial⟩ ⟨rfl, trivial⟩ (Nat.le_refl _), p + 1, acc, _, _, f, by omega, rfl, by omega, by omega, hx, rfl⟩
    · rw [if_neg hbl] at hx
      simp only [blkB, Bool.or_eq_true, decide_eq_true_eq, not_or] at hbl
      have k1 := beq_f (show (c.toNat : Int) ≠ 32 by omega)
      have k2 := beq_f (show (c.toNat : Int) ≠ 9 by omega)
      have k3 := beq_f (show (c.toNat : Int) ≠ 10 by omega)
      have k4 := beq_f (show (c.toNat : Int) ≠ 13 by omega)
      cases hfr : firstT (s.data.toList.drop p) with
      | none =>
        rw [hfr] at hx hfst
        have hfst : Pure _ _ _ (.tup [tokZ.av, iv 0]) := hfst
        simp only [LX.app] at hx
        subst hx
        repeat' (first | refine awp_seq ?_ | refine awp_block ?_ | refine awp_round ?_ | refine awp_scope ?_ | refine awp_text rfl ?_ | refine awp_any rfl mix (by kernel_rfl) ?_ | (refine RunTo.unguard rfl rfl (fun hg => ?_) (fun hg => ?_) <;> ((try simp only [Bool.not_true, Bool.not_false, Bool.not_eq_true', Bool.not_eq_false', Bool.not_eq_eq_eq_not] at hg); (first | (cases hg) | (simp only [hg]) | skip))) | ((first | refine RunTo.plain rfl ?_ | refine RunTo.skipped rfl ?_ | refine RunTo.call (hfst) Tryd.func72 rfl rfl rfl rfl rfl rfl rfl rfl ?_); simp only [go_sem, ↓reduceIte, Nat.reduceEqDiff, Nat.reduceAdd, Nat.reduceLeDiff, Nat.reduceBEq, Nat.reduceMul, reduceCtorEq, Int.reduceLE, Int.reduceLT, Int.reduceAdd, Int.reduceSub, Int.reduceNeg, Int.reduceToNat, Int.reduceBEq, hdec, hb, hwk, hp', k1, k2, k3, k4, Nat.le_refl, TokD.av]) | ((first | refine RunTo.nilA (by kernel_rfl) ?_ | refine RunTo.nilT ?_ | refine awp_skip ?_ | refine awp_exit ?_ | refine awp_label ?_); simp only [go_sem, ↓reduceIte, Nat.reduceEqDiff, Nat.reduceAdd, Nat.reduceLeDiff, Nat.reduceBEq, Nat.reduceMul, reduceCtorEq, Int.reduceLE, Int.reduceLT, Int.reduceAdd, Int.reduceSub, Int.reduceNeg, Int.reduceToNat, Int.reduceBEq, hdec, hb, hwk, hp', k1, k2, k3, k4, Nat.le_refl, TokD.av]) | (refine awp_cond' rfl (of_decide_eq_true rfl) (fun hc => ?_) (fun hc => ?_) <;> ((try simp only [Bool.not_true, Bool.not_false, Bool.not_eq_true', Bool.not_eq_false', Bool.not_eq_eq_eq_not] at hc); (first | (cases hc) | (simp only [hc]) | skip))))
        all_goals (first | refine awp_ret ?_ | skip); refine ⟨(by first | exact .inl rfl | exact .inr rfl | exact .inr trivial | trivial), ?_⟩; simp only [go_sem, ↓reduceIte, Nat.reduceEqDiff, Nat.reduceAdd, Nat.reduceLeDiff, Nat.reduceBEq, Nat.reduceMul, reduceCtorEq, Int.reduceLE, Int.reduceLT, Int.reduceAdd, Int.reduceSub, Int.reduceNeg, Int.reduceToNat, Int.reduceBEq, retV, resL, resV, sealV, sealC, sealAll, Tryd.f29]
        all_goals rfl
      | some z =>
        obtain ⟨t, n⟩ := z
        have hF := first_again hfr
        have hle := hF.le
        rw [hdl] at hle
        have hpos := hF.pos
        have qn := beq_f (show (n : Int) ≠ 0 by omega)
        have hwn : IntKind.i64.wrap ((p : Int) + (n : Int)) = ((p + n : Nat) : Int) := by rw [IntWalk.i64_in _ (by omega)]; omega
        rw [hfr] at hx hfst
        have hfst : Pure _ _ _ (.tup [t.av, iv n]) := hfst
        simp only at hx
        rw [app_app, List.drop_drop] at hx
        repeat' (first | refine awp_seq ?_ | refine awp_block ?_ | refine awp_round ?_ | refine awp_scope ?_ | refine awp_text rfl ?_ | refine awp_any rfl mix (by kernel_rfl) ?_ | (refine RunTo.unguard rfl rfl (fun hg => ?_) (fun hg => ?_) <;> ((try simp only [Bool.not_true, Bool.not_false, Bool.not_eq_true', Bool.not_eq_false', Bool.not_eq_eq_eq_not] at hg); (first | (cases hg) | (simp only [hg]) | skip))) | ((first | refine RunTo.plain rfl ?_ | refine RunTo.skipped rfl ?_ | refine RunTo.call (hfst) Tryd.func72 rfl rfl rfl rfl rfl rfl rfl rfl ?_); simp only [go_sem, ↓reduceIte, Nat.reduceEqDiff, Nat.reduceAdd, Nat.reduceLeDiff, Nat.reduceBEq, Nat.reduceMul, reduceCtorEq, Int.reduceLE, Int.reduceLT, Int.reduceAdd, Int.reduceSub, Int.reduceNeg, Int.reduceToNat, Int.reduceBEq, hdec, hb, hwn, hp', k1, k2, k3, k4, qn, htk, c1, Nat.le_refl, TokD.av, List.length_map, lenTy, implies_true]) | ((first | refine RunTo.nilA (by kernel_rfl) ?_ | refine RunTo.nilT ?_ | refine awp_skip ?_ | refine awp_exit ?_ | refine awp_label ?_); simp only [go_sem, ↓reduceIte, Nat.reduceEqDiff, Nat.reduceAdd, Nat.reduceLeDiff, Nat.reduceBEq, Nat.reduceMul, reduceCtorEq, Int.reduceLE, Int.reduceLT, Int.reduceAdd, Int.reduceSub, Int.reduceNeg, Int.reduceToNat, Int.reduceBEq, hdec, hb, hwn, hp', k1, k2, k3, k4, qn, htk, c1, Nat.le_refl, TokD.av, List.length_map, lenTy, implies_true]) | (refine awp_cond' rfl (of_decide_eq_true rfl) (fun hc => ?_) (fun hc => ?_) <;> ((try simp only [Bool.not_true, Bool.not_false, Bool.not_eq_true', Bool.not_eq_false', Bool.not_eq_eq_eq_not] at hc); (first | (cases hc) | (simp only [hc]) | skip))))
        have hlen : (acc ++ [{ t with p := (p : Int) }]).length = acc.length + 1 := by simp
        all_goals exact ⟨s.size - (p + n), by omega, SX4 s (p + n) (acc ++ [{ t with p := (p : Int) }]) _ _, weak_keep ⟨rfl, by rw [hlen]; rfl, rfl, trivial⟩ ⟨by rw [List.map_append]; rfl, trivial⟩ (Nat.le_refl _), p + n, acc ++ [{ t with p := (p : Int) }], _, _, f, by omega, rfl, by omega, by omega, hx, rfl⟩
  · have hdec := lt_f hlt
    obtain rfl : p = s.size := by omega
    rw [drop_end s s.size (Nat.le_refl _), lex_nil] at hx
    simp only [LX.app] at hx
    subst hx
    have htk2 : List.take (acc.length + 1) (acc.map TokD.enc ++ [endN s.size]) = acc.map TokD.enc ++ [endN s.size] := List.take_of_length_le (by simp)
    rw [lexV_ok]
    repeat' (first | refine awp_seq ?_ | refine awp_block ?_ | refine awp_round ?_ | refine awp_scope ?_ | refine awp_text rfl ?_ | refine awp_any rfl mix (by kernel_rfl) ?_ | (refine RunTo.unguard rfl rfl (fun hg => ?_) (fun hg => ?_) <;> ((try simp only [Bool.not_true, Bool.not_false, Bool.not_eq_true', Bool.not_eq_false', Bool.not_eq_eq_eq_not] at hg); (first | (cases hg) | (simp only [hg]) | skip))) | ((first | refine RunTo.plain rfl ?_ | refine RunTo.skipped rfl ?_); simp only [go_sem, ↓reduceIte, Nat.reduceEqDiff, Nat.reduceAdd, Nat.reduceLeDiff, Nat.reduceBEq, Nat.reduceMul, reduceCtorEq, Int.reduceLE, Int.reduceLT, Int.reduceAdd, Int.reduceSub, Int.reduceNeg, Int.reduceToNat, Int.reduceBEq, hdec, htk, c1, Nat.le_refl, List.length_map, lenTy, implies_true]) | ((first | refine RunTo.nilA (by kernel_rfl) ?_ | refine RunTo.nilT ?_ | refine awp_skip ?_ | refine awp_exit ?_ | refine awp_label ?_); simp only [go_sem, ↓reduceIte, Nat.reduceEqDiff, Nat.reduceAdd, Nat.reduceLeDiff, Nat.reduceBEq, Nat.reduceMul, reduceCtorEq, Int.reduceLE, Int.reduceLT, Int.reduceAdd, Int.reduceSub, Int.reduceNeg, Int.reduceToNat, Int.reduceBEq, hdec, htk, c1, Nat.le_refl, List.length_map, lenTy, implies_true]) | (refine awp_cond' rfl (of_decide_eq_true rfl) (fun hc => ?_) (fun hc => ?_) <;> ((try simp only [Bool.not_true, Bool.not_false, Bool.not_eq_true', Bool.not_eq_false', Bool.not_eq_eq_eq_not] at hc); (first | (cases hc) | (simp only [hc]) | skip))))
    all_goals (first | refine awp_ret ?_ | skip); refine ⟨(by first | exact .inl rfl | exact .inr rfl | exact .inr trivial | trivial), ?_⟩; simp only [go_sem, ↓reduceIte, Nat.reduceEqDiff, Nat.reduceAdd, Nat.reduceLeDiff, Nat.reduceBEq, Nat.reduceMul, reduceCtorEq, Int.reduceLE, Int.reduceLT, Int.reduceAdd, Int.reduceSub, Int.reduceNeg, Int.reduceToNat, Int.reduceBEq, retV, resL, resV, sealV, sealC, sealAll, Tryd.f29, htk2, List.length_append, List.length_map]
    all_goals rfl
end Go.Proofs.YtjihcldhjpdnmaaDoor.AM
namespace Go.Proofs.YtjihcldhjpdnmaaDoor.AM
open Go.RowKit
set_option linter.unusedSimpArgs false
set_option linter.unusedVariables false
set_option maxRecDepth 10000
set_option maxHeartbeats 0
theorem hideOne {P : Program} {nt : Nt} {Q : Exit → St → Prop} {st : St} {A B R : Code} (h : ∀ R', R' = R → AWP P nt (.seq A (.seq B R')) Q st) : AWP P nt (.seq A (.seq B R)) Q st := h R rfl
end Go.Proofs.YtjihcldhjpdnmaaDoor.AM
namespace Go.Proofs.YtjihcldhjpdnmaaDoor.AM
open Go.RowKit
set_option linter.unusedSimpArgs false
set_option linter.unusedVariables false
set_option maxRecDepth 10000
set_option maxHeartbeats 0
theorem c_sameAtomA (a : AtomD) : Pure Tryd.prog 59 [a.av, a.av] (bv true) := by
  have b0 := c_rBits a.f
  refine pure_of_awp Tryd.func59 rfl rfl (by simp [Tryd.f59]) ?_; simp only [go_sem, ↓reduceIte, Nat.reduceEqDiff, Nat.reduceAdd, Nat.reduceLeDiff, Nat.reduceBEq, Nat.reduceMul, reduceCtorEq, Int.reduceLE, Int.reduceLT, Int.reduceAdd, Int.reduceSub, Int.reduceNeg, Int.reduceToNat, Int.reduceBEq]
  repeat' (first | refine awp_seq ?_ | refine awp_block ?_ | refine awp_round ?_ | refine awp_scope ?_ | refine awp_text rfl ?_ | refine awp_any rfl mix (by kernel_rfl) ?_ | (refine RunTo.unguard rfl rfl (fun hg => ?_) (fun hg => ?_) <;> ((try simp only [Bool.not_true, Bool.not_false, Bool.not_eq_true', Bool.not_eq_false', Bool.not_eq_eq_eq_not] at hg); (first | (cases hg) | (simp only [hg]) | skip))) | ((first | refine RunTo.plain rfl ?_ | refine RunTo.skipped rfl ?_ | refine RunTo.call (b0) Tryd.func34 rfl rfl rfl rfl rfl rfl rfl rfl ?_); simp only [go_sem, ↓reduceIte, Nat.reduceEqDiff, Nat.reduceAdd, Nat.reduceLeDiff, Nat.reduceBEq, Nat.reduceMul, reduceCtorEq, Int.reduceLE, Int.reduceLT, Int.reduceAdd, Int.reduceSub, Int.reduceNeg, Int.reduceToNat, Int.reduceBEq, AtomD.av, beq_self_eq_true]) | ((first | refine RunTo.nilA (by kernel_rfl) ?_ | refine RunTo.nilT ?_ | refine awp_skip ?_ | refine awp_exit ?_ | refine awp_label ?_); simp only [go_sem, ↓reduceIte, Nat.reduceEqDiff, Nat.reduceAdd, Nat.reduceLeDiff, Nat.reduceBEq, Nat.reduceMul, reduceCtorEq, Int.reduceLE, Int.reduceLT, Int.reduceAdd, Int.reduceSub, Int.reduceNeg, Int.reduceToNat, Int.reduceBEq, AtomD.av, beq_self_eq_true]) | (refine awp_cond' rfl (of_decide_eq_true rfl) (fun hc => ?_) (fun hc => ?_) <;> ((try simp only [Bool.not_true, Bool.not_false, Bool.not_eq_true', Bool.not_eq_false', Bool.not_eq_eq_eq_not] at hc); (first | (cases hc) | (simp only [hc]) | skip))))
  all_goals (first | refine awp_ret ?_ | skip); refine ⟨(by first | exact .inl rfl | exact .inr rfl | exact .inr trivial | trivial), ?_⟩; simp only [go_sem, ↓reduceIte, Nat.reduceEqDiff, Nat.reduceAdd, Nat.reduceLeDiff, Nat.reduceBEq, Nat.reduceMul, reduceCtorEq, Int.reduceLE, Int.reduceLT, Int.reduceAdd, Int.reduceSub, Int.reduceNeg, Int.reduceToNat, Int.reduceBEq, retV, resL, resV, sealV, sealC, sealAll, Tryd.f59]
abbrev cellsK (v : ValD) : List AV := [iv v.a.k, iv v.a.n, fv v.a.f, sv v.a.s, .dat (.lst 4 (v.l.map AtomD.enc))]
abbrev SKK (v : ValD) (k T : Nat) : St := ⟨[(5, iv k), (2, .ptr 2 0 0 0), (3, .ptr 3 1 0 0)], [(2, .box 0 (cellsK v)), (3, .box 1 (cellsK v))], T⟩
def IKK (v : ValD) (m : Nat) (st : St) : Prop := ∃ k T, k ≤ v.l.length ∧ m = v.l.length - k ∧ st = SKK v k T
theorem c_SameV (v : ValD) (hl : v.l.length ≤ 1000000) : Pure Tryd.prog 23 [v.av, v.av] (bv true) := by
  have s0 := c_sameAtomA v.a
  refine pure_of_awp Tryd.func23 rfl rfl (by simp [Tryd.f23]) ?_; simp only [go_sem, ↓reduceIte, Nat.reduceEqDiff, Nat.reduceAdd, Nat.reduceLeDiff, Nat.reduceBEq, Nat.reduceMul, reduceCtorEq, Int.reduceLE, Int.reduceLT, Int.reduceAdd, Int.reduceSub, Int.reduceNeg, Int.reduceToNat, Int.reduceBEq]
  repeat' (first | refine awp_seq ?_ | refine awp_block ?_ | refine awp_round ?_ | refine awp_scope ?_ | refine awp_text rfl ?_ | refine awp_any rfl mix (by kernel_rfl) ?_ | (refine RunTo.unguard rfl rfl (fun hg => ?_) (fun hg => ?_) <;> ((try simp only [Bool.not_true, Bool.not_false, Bool.not_eq_true', Bool.not_eq_false', Bool.not_eq_eq_eq_not] at hg); (first | (cases hg) | (simp only [hg]) | skip))) | ((first | refine RunTo.plain rfl ?_ | refine RunTo.skipped rfl ?_ | refine RunTo.call (s0) Tryd.func59 rfl rfl rfl rfl rfl rfl rfl rfl ?_); simp only [go_sem, ↓reduceIte, Nat.reduceEqDiff, Nat.reduceAdd, Nat.reduceLeDiff, Nat.reduceBEq, Nat.reduceMul, reduceCtorEq, Int.reduceLE, Int.reduceLT, Int.reduceAdd, Int.reduceSub, Int.reduceNeg, Int.reduceToNat, Int.reduceBEq, ValD.av, AtomD.av, beq_self_eq_true, List.length_map, bne, Bool.not_true, Bool.not_false]) | ((first | refine RunTo.nilA (by kernel_rfl) ?_ | refine RunTo.nilT ?_ | refine awp_skip ?_ | refine awp_exit ?_ | refine awp_label ?_); simp only [go_sem, ↓reduceIte, Nat.reduceEqDiff, Nat.reduceAdd, Nat.reduceLeDiff, Nat.reduceBEq, Nat.reduceMul, reduceCtorEq, Int.reduceLE, Int.reduceLT, Int.reduceAdd, Int.reduceSub, Int.reduceNeg, Int.reduceToNat, Int.reduceBEq, ValD.av, AtomD.av, beq_self_eq_true, List.length_map, bne, Bool.not_true, Bool.not_false]) | (refine awp_cond' rfl (of_decide_eq_true rfl) (fun hc => ?_) (fun hc => ?_) <;> ((try simp only [Bool.not_true, Bool.not_false, Bool.not_eq_true', Bool.not_eq_false', Bool.not_eq_eq_eq_not] at hc); (first | (cases hc) | (simp only [hc]) | skip))))
  all_goals
    refine awp_loopw (IKK v) v.l.length (SKK v 0 _) (weak_keep ⟨rfl, rfl, rfl, trivial⟩ ⟨rfl, rfl, trivial⟩ (Nat.le_refl _)) ⟨0, _, Nat.zero_le _, rfl, rfl⟩ ?_
    rintro m st ⟨k, T, hk, rfl, rfl⟩
    by_cases hlt : k < v.l.length
    · have hdec := lt_t hlt
      have hget := row_at AtomD.enc v.l k hlt
      have sk := c_sameAtomA v.l[k]
      have hwk : IntKind.i64.wrap ((k : Int) + 1) = ((k + 1 : Nat) : Int) := wrap_succ (by omega)
      generalize v.l[k] = x at *
      repeat' (first | refine awp_seq ?_ | refine awp_block ?_ | refine awp_round ?_ | refine awp_scope ?_ | refine awp_text rfl ?_ | refine awp_any rfl mix (by kernel_rfl) ?_ | (refine RunTo.unguard rfl rfl (fun hg => ?_) (fun hg => ?_) <;> ((try simp only [Bool.not_true, Bool.not_false, Bool.not_eq_true', Bool.not_eq_false', Bool.not_eq_eq_eq_not] at hg); (first | (cases hg) | (simp only [hg]) | skip))) | ((first | refine RunTo.plain rfl ?_ | refine RunTo.skipped rfl ?_ | refine RunTo.call (sk) Tryd.func59 rfl rfl rfl rfl rfl rfl rfl rfl ?_); simp only [go_sem, ↓reduceIte, Nat.reduceEqDiff, Nat.reduceAdd, Nat.reduceLeDiff, Nat.reduceBEq, Nat.reduceMul, reduceCtorEq, Int.reduceLE, Int.reduceLT, Int.reduceAdd, Int.reduceSub, Int.reduceNeg, Int.reduceToNat, Int.reduceBEq, hdec, hget, AtomD.enc, AtomD.av, hwk, List.length_map, beq_self_eq_true, bne, Bool.not_true, Bool.not_false]) | ((first | refine RunTo.nilA (by kernel_rfl) ?_ | refine RunTo.nilT ?_ | refine awp_skip ?_ | refine awp_exit ?_ | refine awp_label ?_); simp only [go_sem, ↓reduceIte, Nat.reduceEqDiff, Nat.reduceAdd, Nat.reduceLeDiff, Nat.reduceBEq, Nat.reduceMul, reduceCtorEq, Int.reduceLE, Int.reduceLT, Int.reduceAdd, Int.reduceSub, Int.reduceNeg, Int.reduceToNat, Int.reduceBEq, hdec, hget, AtomD.enc, AtomD.av, hwk, List.length_map, beq_self_eq_true, bne, Bool.not_true, Bool.not_false]) | (refine awp_cond' rfl (of_decide_eq_true rfl) (fun hc => ?_) (fun hc => ?_) <;> ((try simp only [Bool.not_true, Bool.not_false, Bool.not_eq_true', Bool.not_eq_false', Bool.not_eq_eq_eq_not] at hc); (first | (cases hc) | (simp only [hc]) | skip))))
      all_goals exact ⟨v.l.length - (k + 1), by omega, SKK v (k + 1) _, weak_keep ⟨rfl, rfl, rfl, trivial⟩ ⟨rfl, rfl, trivial⟩ (Nat.le_refl _), k + 1, _, by omega, rfl, rfl⟩
    · have hdec := lt_f hlt
      repeat' (first | refine awp_seq ?_ | refine awp_block ?_ | refine awp_round ?_ | refine awp_scope ?_ | refine awp_text rfl ?_ | refine awp_any rfl mix (by kernel_rfl) ?_ | (refine RunTo.unguard rfl rfl (fun hg => ?_) (fun hg => ?_) <;> ((try simp only [Bool.not_true, Bool.not_false, Bool.not_eq_true', Bool.not_eq_false', Bool.not_eq_eq_eq_not] at hg); (first | (cases hg) | (simp only [hg]) | skip))) | ((first | refine RunTo.plain rfl ?_ | refine RunTo.skipped rfl ?_); simp only [go_sem, ↓reduceIte, Nat.reduceEqDiff, Nat.reduceAdd, Nat.reduceLeDiff, Nat.reduceBEq, Nat.reduceMul, reduceCtorEq, Int.reduceLE, Int.reduceLT, Int.reduceAdd, Int.reduceSub, Int.reduceNeg, Int.reduceToNat, Int.reduceBEq, hdec, List.length_map]) | ((first | refine RunTo.nilA (by kernel_rfl) ?_ | refine RunTo.nilT ?_ | refine awp_skip ?_ | refine awp_exit ?_ | refine awp_label ?_); simp only [go_sem, ↓reduceIte, Nat.reduceEqDiff, Nat.reduceAdd, Nat.reduceLeDiff, Nat.reduceBEq, Nat.reduceMul, reduceCtorEq, Int.reduceLE, Int.reduceLT, Int.reduceAdd, Int.reduceSub, Int.reduceNeg, Int.reduceToNat, Int.reduceBEq, hdec, List.length_map]) | (refine awp_cond' rfl (of_decide_eq_true rfl) (fun hc => ?_) (fun hc => ?_) <;> ((try simp only [Bool.not_true, Bool.not_false, Bool.not_eq_true', Bool.not_eq_false', Bool.not_eq_eq_eq_not] at hc); (first | (cases hc) | (simp only [hc]) | skip))))
      all_goals (first | refine awp_ret ?_ | skip); refine ⟨(by first | exact .inl rfl | exact .inr rfl | exact .inr trivial | trivial), ?_⟩; simp only [go_sem, ↓reduceIte, Nat.reduceEqDiff, Nat.reduceAdd, Nat.reduceLeDiff, Nat.reduceBEq, Nat.reduceMul, reduceCtorEq, Int.reduceLE, Int.reduceLT, Int.reduceAdd, Int.reduceSub, Int.reduceNeg, Int.reduceToNat, Int.reduceBEq, retV, resL, resV, sealV, sealC, sealAll, Tryd.f23]
end Go.Proofs.YtjihcldhjpdnmaaDoor.AM
namespace Go.Proofs.YtjihcldhjpdnmaaDoor.AM
open Go.RowKit
set_option linter.unusedSimpArgs false
set_option linter.unusedVariables false
set_option maxRecDepth 10000
set_option maxHeartbeats 0
abbrev ltB : ByteArray := ⟨#[60, 62]⟩
theorem c_LexLt : Pure Tryd.prog 29 [sv ltB] (.tup [.dat (.lst 8 [[di 3, ds' ltB, di 0, di 0, df 0, ds' eE, .lst 4 [], di 0], [di 4, ds' eE, di 0, di 0, df 0, ds' eE, .lst 4 [], di 2]]), iv 0, iv 0]) := c_LexT ltB (by decide)
theorem txt_snoc (us : List TokD) (k : Nat) (h : k < us.length) : txt (us.take (k + 1)) = txt (us.take k) ++ (own us[k] ++ [32]) := by
  unfold txt
  rw [List.take_succ_eq_append_getElem h, List.flatMap_append]
  simp
theorem txt_le (us : List TokD) (k : Nat) : (txt (us.take k)).length ≤ (txt us).length := by
  have : txt us = txt (us.take k) ++ txt (us.drop k) := by
    unfold txt
    rw [← List.flatMap_append, List.take_append_drop]
  rw [this, List.length_append]
  omega
theorem bs_app (a b : List UInt8) : bs a ++ bs b = bs (a ++ b) := by
  apply ByteArray.ext
  simp
def ownB (t : TokD) : ByteArray := if t.k = 2 then printV t.v else t.t
theorem ownB_eq (t : TokD) : ownB t = bs (own t) := by
  unfold ownB own
  split <;> exact (bs_back _).symm
theorem core_at {us us' : List TokD} (h : us'.map TokD.core = us.map TokD.core) (k : Nat) (hk : k < us.length) : ∃ p' : Int, us'[k]? = some { us[k] with p := p' } := by
  have hl : us'.length = us.length := by simpa using congrArg List.length h
  have h1 : (us'.map TokD.core)[k]? = (us.map TokD.core)[k]? := by rw [h]
  rw [List.getElem?_map, List.getElem?_map, List.getElem?_eq_getElem (by omega), List.getElem?_eq_getElem hk] at h1
  simp only [Option.map_some, Option.some.injEq] at h1
  refine ⟨(us'[k]'(by omega)).p, ?_⟩
  rw [List.getElem?_eq_getElem (by omega)]
  congr 1
  generalize us'[k]'(by omega) = a at *
  generalize us[k] = b at *
  cases a
  cases b
  simp only [TokD.core, TokD.mk.injEq] at h1
  simp [h1.1, h1.2.1, h1.2.2]
abbrev SA5 (rows : List (List Dat)) (us : List TokD) (k T : Nat) : St := ⟨[(3, .dat (.lst 8 rows)), (9, sv (bs (txt (us.take k)))), (10, iv k)], [], T⟩
def IA5 (rows : List (List Dat)) (us : List TokD) (n : Nat) (st : St) : Prop := ∃ k T, k ≤ us.length ∧ n = us.length - k ∧ st = SA5 rows us k T
abbrev SB5 (rows rows' : List (List Dat)) (k T : Nat) : St := ⟨[(3, .dat (.lst 8 rows)), (12, .dat (.lst 8 rows')), (14, iv k)], [], T⟩
def IB5 (rows rows' : List (List Dat)) (us : List TokD) (n : Nat) (st : St) : Prop := ∃ k T, k ≤ us.length + 1 ∧ n = us.length + 1 - k ∧ st = SB5 rows rows' k T
theorem c_lawAgain (s0 : ByteArray) (h0 : s0.size ≤ 140737488351232) : Pure Tryd.prog 8 [sv s0] (bv true) := by
  have h2 := c_LexLt
  refine pure_of_awp Tryd.func8 rfl rfl (by simp [Tryd.f8]) ?_; simp only [go_sem, ↓reduceIte, Nat.reduceEqDiff, Nat.reduceAdd, Nat.reduceLeDiff, Nat.reduceBEq, Nat.reduceMul, reduceCtorEq, Int.reduceLE, Int.reduceLT, Int.reduceAdd, Int.reduceSub, Int.reduceNeg, Int.reduceToNat, Int.reduceBEq]
  refine hideOne (fun R hR => ?_)
  have main : ∀ (s : ByteArray) (T : Nat), s.size ≤ 4096 → AWP Tryd.prog Tryd.f8.ntmps R (fun ex st => (ex = .ret ∨ ex = .normal) ∧ retV Tryd.prog Tryd.f8.results.toList st = some (bv true)) ⟨[(0, sv s)], [], T⟩ := by
    intro s T hs
    subst hR
    have hl := c_LexT s hs
    cases hr : lexR s with
    | bad p =>
      obtain ⟨_, hp⟩ := lex_bad _ _ _ _ (by rw [Array.length_toList]; exact Nat.lt_succ_self _) hr
      rw [Array.length_toList] at hp
      have hp : 0 + s.size > p := hp
      rw [hr] at hl
      have hl : Pure _ _ _ (.tup [.dat (.lst 8 []), iv p, iv 23]) := hl
      have d1 := lt_t (show p < s.size by omega)
      have q1 := strEq_t (a := ltB) (b := ltB) rfl
      repeat' (first | refine awp_seq ?_ | refine awp_block ?_ | refine awp_round ?_ | refine awp_scope ?_ | refine awp_text rfl ?_ | refine awp_any rfl mix (by kernel_rfl) ?_ | (refine RunTo.unguard rfl rfl (fun hg => ?_) (fun hg => ?_) <;> ((try simp only [Bool.not_true, Bool.not_false, Bool.not_eq_true', Bool.not_eq_false', Bool.not_eq_eq_eq_not] at hg); (first | (cases hg) | (simp only [hg]) | skip))) | ((first | refine RunTo.plain rfl ?_ | refine RunTo.skipped rfl ?_ | refine RunTo.call (hl) Tryd.func29 rfl rfl rfl rfl rfl rfl rfl rfl ?_ | refine RunTo.call (h2) Tryd.func29 rfl rfl rfl rfl rfl rfl rfl rfl ?_); simp only [go_sem, ↓reduceIte, Nat.reduceEqDiff, Nat.reduceAdd, Nat.reduceLeDiff, Nat.reduceBEq, Nat.reduceMul, reduceCtorEq, Int.reduceLE, Int.reduceLT, Int.reduceAdd, Int.reduceSub, Int.reduceNeg, Int.reduceToNat, Int.reduceBEq, bne, d1, q1, Bool.not_true, Bool.not_false]) | ((first | refine RunTo.nilA (by kernel_rfl) ?_ | refine RunTo.nilT ?_ | refine awp_skip ?_ | refine awp_exit ?_ | refine awp_label ?_); simp only [go_sem, ↓reduceIte, Nat.reduceEqDiff, Nat.reduceAdd, Nat.reduceLeDiff, Nat.reduceBEq, Nat.reduceMul, reduceCtorEq, Int.reduceLE, Int.reduceLT, Int.reduceAdd, Int.reduceSub, Int.reduceNeg, Int.reduceToNat, Int.reduceBEq, bne, d1, q1, Bool.not_true, Bool.not_false]) | (refine awp_cond' rfl (of_decide_eq_true rfl) (fun hc => ?_) (fun hc => ?_) <;> ((try simp only [Bool.not_true, Bool.not_false, Bool.not_eq_true', Bool.not_eq_false', Bool.not_eq_eq_eq_not] at hc); (first | (cases hc) | (simp only [hc]) | skip))))
      all_goals (first | refine awp_ret ?_ | skip); refine ⟨(by first | exact .inl rfl | exact .inr rfl | exact .inr trivial | trivial), ?_⟩; simp only [go_sem, ↓reduceIte, Nat.reduceEqDiff, Nat.reduceAdd, Nat.reduceLeDiff, Nat.reduceBEq, Nat.reduceMul, reduceCtorEq, Int.reduceLE, Int.reduceLT, Int.reduceAdd, Int.reduceSub, Int.reduceNeg, Int.reduceToNat, Int.reduceBEq, retV, resL, resV, sealV, sealC, sealAll, Tryd.f8]
      all_goals rfl
    | ok ts =>
      obtain ⟨us, rfl, hL⟩ := lex_form _ _ _ _ hr
      rw [show 0 + s.data.toList.length = s.size from by rw [Array.length_toList, Nat.zero_add]; rfl] at hr
      rw [hr] at hl
      have hl : Pure _ _ _ (.tup [.dat (.lst 8 ((us ++ [endT s.size]).map TokD.enc)), iv 0, iv 0]) := hl
      have hlen : ((us ++ [endT s.size]).map TokD.enc).length = us.length + 1 := by simp
      have hend : ((us ++ [endT s.size]).map TokD.enc)[us.length]? = some (endT s.size).enc := by simp
      have hrow : ∀ (k : Nat) (h : k < us.length), ((us ++ [endT s.size]).map TokD.enc)[k]? = some (us[k]).enc := fun k h => by
        rw [List.map_append, List.getElem?_append_left (by simpa using h)]
        exact row_at TokD.enc us k h
      have hlt := hL.len
      rw [Array.length_toList] at hlt
      have hlt : (txt us).length + us.length ≤ 3 * s.size := hlt
      generalize (us ++ [endT s.size]).map TokD.enc = rows at *
      have z0 := beq_f (show ((us.length + 1 : Nat) : Int) ≠ 0 by omega)
      have w0 : IntKind.i64.wrap (((us.length + 1 : Nat) : Int) - 1) = (us.length : Int) := by rw [IntWalk.i64_in _ (by omega)]; omega
      repeat' (first | refine awp_seq ?_ | refine awp_block ?_ | refine awp_round ?_ | refine awp_scope ?_ | refine awp_text rfl ?_ | refine awp_any rfl mix (by kernel_rfl) ?_ | (refine RunTo.unguard rfl rfl (fun hg => ?_) (fun hg => ?_) <;> ((try simp only [Bool.not_true, Bool.not_false, Bool.not_eq_true', Bool.not_eq_false', Bool.not_eq_eq_eq_not] at hg); (first | (cases hg) | (simp only [hg]) | skip))) | ((first | refine RunTo.plain rfl ?_ | refine RunTo.skipped rfl ?_ | refine RunTo.call (hl) Tryd.func29 rfl rfl rfl rfl rfl rfl rfl rfl ?_); simp only [go_sem, ↓reduceIte, Nat.reduceEqDiff, Nat.reduceAdd, Nat.reduceLeDiff, Nat.reduceBEq, Nat.reduceMul, reduceCtorEq, Int.reduceLE, Int.reduceLT, Int.reduceAdd, Int.reduceSub, Int.reduceNeg, Int.reduceToNat, Int.reduceBEq, bne, z0, w0, hlen, hend, endT, TokD.enc, Bool.not_true, Bool.not_false, beq_self_eq_true]) | ((first | refine RunTo.nilA (by kernel_rfl) ?_ | refine RunTo.nilT ?_ | refine awp_skip ?_ | refine awp_exit ?_ | refine awp_label ?_); simp only [go_sem, ↓reduceIte, Nat.reduceEqDiff, Nat.reduceAdd, Nat.reduceLeDiff, Nat.reduceBEq, Nat.reduceMul, reduceCtorEq, Int.reduceLE, Int.reduceLT, Int.reduceAdd, Int.reduceSub, Int.reduceNeg, Int.reduceToNat, Int.reduceBEq, bne, z0, w0, hlen, hend, endT, TokD.enc, Bool.not_true, Bool.not_false, beq_self_eq_true]) | (refine awp_cond' rfl (of_decide_eq_true rfl) (fun hc => ?_) (fun hc => ?_) <;> ((try simp only [Bool.not_true, Bool.not_false, Bool.not_eq_true', Bool.not_eq_false', Bool.not_eq_eq_eq_not] at hc); (first | (cases hc) | (simp only [hc]) | skip))))
      refine awp_loopw (IA5 rows us) us.length (SA5 rows us 0 _) (weak_keep ⟨rfl, rfl, rfl, trivial⟩ trivial (Nat.le_refl _)) ⟨0, _, Nat.zero_le _, rfl, rfl⟩ ?_
      rintro n st ⟨k, T, hk, rfl, rfl⟩
      have htl := txt_le us k
      have w1 : IntKind.i64.wrap (((us.length + 1 : Nat) : Int) - 1) = (us.length : Int) := w0
      by_cases hlk : k < us.length
      · have hdec := lt_t hlk
        have hget := hrow k hlk
        have hwk : IntKind.i64.wrap ((k : Int) + 1) = ((k + 1 : Nat) : Int) := wrap_succ (by omega)
        obtain ⟨hg, hk4, _⟩ := hL.good us[k] (List.getElem_mem hlk)
        have hts := txt_snoc us k hlk
        have htl2 := txt_le us (k + 1)
        rw [hts, List.length_append, List.length_append, List.length_cons, List.length_nil] at htl2
        have hob : ownB us[k] = bs (own us[k]) := ownB_eq _
        have hos : (ownB us[k]).size = (own us[k]).length := by rw [hob]; exact List.size_toArray
        have hpr := c_rPrint us[k].v hg.fl hg.ok
        have hT : bs (txt (us.take (k + 1))) = bs (txt (us.take k)) ++ ownB us[k] ++ bs [32] := by rw [hts, hob, bs_app, bs_app, List.append_assoc]
        have hS : SA5 rows us (k + 1) = fun T => ⟨[(3, .dat (.lst 8 rows)), (9, sv (bs (txt (us.take k)) ++ ownB us[k] ++ bs [32])), (10, iv ((k + 1 : Nat) : Int))], [], T⟩ := by funext T; unfold SA5; rw [hT]
        have hsz : (bs (txt (us.take k))).size = (txt (us.take k)).length := List.size_toArray
        have s1 : ((txt (us.take k)).length + (ownB us[k]).size ≤ 9223372036854775807) = True := eq_true (by omega)
        have s2 : ((txt (us.take k)).length + (ownB us[k]).size + 1 ≤ 9223372036854775807) = True := eq_true (by omega)
        have hen : TokD.enc us[k] = [di us[k].k, ds' us[k].t, di us[k].v.a.k, di us[k].v.a.n, df us[k].v.a.f, ds' us[k].v.a.s, .lst 4 (us[k].v.l.map AtomD.enc), di us[k].p] := rfl
        rw [hen] at hget
        by_cases h2k : us[k].k = 2
        · have q := beq_t h2k
          have ho : ownB us[k] = printV us[k].v := if_pos h2k
          rw [ho] at s1 s2 hS
          repeat' (first | refine awp_seq ?_ | refine awp_block ?_ | refine awp_round ?_ | refine awp_scope ?_ | refine awp_text rfl ?_ | refine awp_any rfl mix (by kernel_rfl) ?_ | (refine RunTo.unguard rfl rfl (fun hg => ?_) (fun hg => ?_) <;> ((try simp only [Bool.not_true, Bool.not_false, Bool.not_eq_true', Bool.not_eq_false', Bool.not_eq_eq_eq_not] at hg); (first | (cases hg) | (simp only [hg]) | skip))) | ((first | refine RunTo.plain rfl ?_ | refine RunTo.skipped rfl ?_ | refine RunTo.call (hpr) Tryd.func20 rfl rfl rfl rfl rfl rfl rfl rfl ?_); simp only [go_sem, ↓reduceIte, Nat.reduceEqDiff, Nat.reduceAdd, Nat.reduceLeDiff, Nat.reduceBEq, Nat.reduceMul, reduceCtorEq, Int.reduceLE, Int.reduceLT, Int.reduceAdd, Int.reduceSub, Int.reduceNeg, Int.reduceToNat, Int.reduceBEq, hdec, hget, hlen, w1, hwk, q, s1, s2, ByteArray.size_append, List.size_toArray]) | ((first | refine RunTo.nilA (by kernel_rfl) ?_ | refine RunTo.nilT ?_ | refine awp_skip ?_ | refine awp_exit ?_ | refine awp_label ?_); simp only [go_sem, ↓reduceIte, Nat.reduceEqDiff, Nat.reduceAdd, Nat.reduceLeDiff, Nat.reduceBEq, Nat.reduceMul, reduceCtorEq, Int.reduceLE, Int.reduceLT, Int.reduceAdd, Int.reduceSub, Int.reduceNeg, Int.reduceToNat, Int.reduceBEq, hdec, hget, hlen, w1, hwk, q, s1, s2, ByteArray.size_append, List.size_toArray]) | (refine awp_cond' rfl (of_decide_eq_true rfl) (fun hc => ?_) (fun hc => ?_) <;> ((try simp only [Bool.not_true, Bool.not_false, Bool.not_eq_true', Bool.not_eq_false', Bool.not_eq_eq_eq_not] at hc); (first | (cases hc) | (simp only [hc]) | skip))))
          all_goals exact ⟨us.length - (k + 1), by omega, SA5 rows us (k + 1) _, by rw [hS]; exact weak_keep ⟨rfl, rfl, rfl, trivial⟩ trivial (Nat.le_refl _), k + 1, _, by omega, rfl, rfl⟩
        · have q := beq_f h2k
          have ho : ownB us[k] = us[k].t := if_neg h2k
          rw [ho] at s1 s2 hS
          repeat' (first | refine awp_seq ?_ | refine awp_block ?_ | refine awp_round ?_ | refine awp_scope ?_ | refine awp_text rfl ?_ | refine awp_any rfl mix (by kernel_rfl) ?_ | (refine RunTo.unguard rfl rfl (fun hg => ?_) (fun hg => ?_) <;> ((try simp only [Bool.not_true, Bool.not_false, Bool.not_eq_true', Bool.not_eq_false', Bool.not_eq_eq_eq_not] at hg); (first | (cases hg) | (simp only [hg]) | skip))) | ((first | refine RunTo.plain rfl ?_ | refine RunTo.skipped rfl ?_); simp only [go_sem, ↓reduceIte, Nat.reduceEqDiff, Nat.reduceAdd, Nat.reduceLeDiff, Nat.reduceBEq, Nat.reduceMul, reduceCtorEq, Int.reduceLE, Int.reduceLT, Int.reduceAdd, Int.reduceSub, Int.reduceNeg, Int.reduceToNat, Int.reduceBEq, hdec, hget, hlen, w1, hwk, q, s1, s2, ByteArray.size_append, List.size_toArray]) | ((first | refine RunTo.nilA (by kernel_rfl) ?_ | refine RunTo.nilT ?_ | refine awp_skip ?_ | refine awp_exit ?_ | refine awp_label ?_); simp only [go_sem, ↓reduceIte, Nat.reduceEqDiff, Nat.reduceAdd, Nat.reduceLeDiff, Nat.reduceBEq, Nat.reduceMul, reduceCtorEq, Int.reduceLE, Int.reduceLT, Int.reduceAdd, Int.reduceSub, Int.reduceNeg, Int.reduceToNat, Int.reduceBEq, hdec, hget, hlen, w1, hwk, q, s1, s2, ByteArray.size_append, List.size_toArray]) | (refine awp_cond' rfl (of_decide_eq_true rfl) (fun hc => ?_) (fun hc => ?_) <;> ((try simp only [Bool.not_true, Bool.not_false, Bool.not_eq_true', Bool.not_eq_false', Bool.not_eq_eq_eq_not] at hc); (first | (cases hc) | (simp only [hc]) | skip))))
          all_goals exact ⟨us.length - (k + 1), by omega, SA5 rows us (k + 1) _, by rw [hS]; exact weak_keep ⟨rfl, rfl, rfl, trivial⟩ trivial (Nat.le_refl _), k + 1, _, by omega, rfl, rfl⟩
      · have hdec := lt_f hlk
        obtain rfl : k = us.length := by omega
        obtain ⟨tx, htx⟩ : ∃ tx : ByteArray, tx = bs (txt us) := ⟨_, rfl⟩
        have hsz : tx.size = (txt us).length := by rw [htx]; exact List.size_toArray
        have hbg : (bs (txt (us.take us.length))) = tx := by rw [List.take_length, htx]
        by_cases hb4 : 4096 < (txt us).length
        · have e4 : decide ((4096 : Int) < (tx.size : Int)) = true := decide_eq_true (by omega)
          unfold SA5
          rw [hbg]
          repeat' (first | refine awp_seq ?_ | refine awp_block ?_ | refine awp_round ?_ | refine awp_scope ?_ | refine awp_text rfl ?_ | refine awp_any rfl mix (by kernel_rfl) ?_ | (refine RunTo.unguard rfl rfl (fun hg => ?_) (fun hg => ?_) <;> ((try simp only [Bool.not_true, Bool.not_false, Bool.not_eq_true', Bool.not_eq_false', Bool.not_eq_eq_eq_not] at hg); (first | (cases hg) | (simp only [hg]) | skip))) | ((first | refine RunTo.plain rfl ?_ | refine RunTo.skipped rfl ?_); simp only [go_sem, ↓reduceIte, Nat.reduceEqDiff, Nat.reduceAdd, Nat.reduceLeDiff, Nat.reduceBEq, Nat.reduceMul, reduceCtorEq, Int.reduceLE, Int.reduceLT, Int.reduceAdd, Int.reduceSub, Int.reduceNeg, Int.reduceToNat, Int.reduceBEq, hdec, hlen, w1, e4]) | ((first | refine RunTo.nilA (by kernel_rfl) ?_ | refine RunTo.nilT ?_ | refine awp_skip ?_ | refine awp_exit ?_ | refine awp_label ?_); simp only [go_sem, ↓reduceIte, Nat.reduceEqDiff, Nat.reduceAdd, Nat.reduceLeDiff, Nat.reduceBEq, Nat.reduceMul, reduceCtorEq, Int.reduceLE, Int.reduceLT, Int.reduceAdd, Int.reduceSub, Int.reduceNeg, Int.reduceToNat, Int.reduceBEq, hdec, hlen, w1, e4]) | (refine awp_cond' rfl (of_decide_eq_true rfl) (fun hc => ?_) (fun hc => ?_) <;> ((try simp only [Bool.not_true, Bool.not_false, Bool.not_eq_true', Bool.not_eq_false', Bool.not_eq_eq_eq_not] at hc); (first | (cases hc) | (simp only [hc]) | skip))))
          all_goals (first | refine awp_ret ?_ | skip); refine ⟨(by first | exact .inl rfl | exact .inr rfl | exact .inr trivial | trivial), ?_⟩; simp only [go_sem, ↓reduceIte, Nat.reduceEqDiff, Nat.reduceAdd, Nat.reduceLeDiff, Nat.reduceBEq, Nat.reduceMul, reduceCtorEq, Int.reduceLE, Int.reduceLT, Int.reduceAdd, Int.reduceSub, Int.reduceNeg, Int.reduceToNat, Int.reduceBEq, retV, resL, resV, sealV, sealC, sealAll, Tryd.f8]
          all_goals rfl
        · have e4 : decide ((4096 : Int) < (tx.size : Int)) = false := decide_eq_false (by omega)
          have hl2 := c_LexT tx (by omega)
          obtain ⟨us', hA, hcore⟩ := hL.again (tx.size + 1) 0 (by omega)
          rw [show lexR tx = lexT (tx.size + 1) 0 (txt us) from by rw [htx]; rfl, hA] at hl2
          have hlu : us'.length = us.length := by simpa using congrArg List.length hcore
          have hl2 : Pure _ _ _ (.tup [.dat (.lst 8 ((us' ++ [endT (0 + (txt us).length)]).map TokD.enc)), iv 0, iv 0]) := hl2
          have hlen' : ((us' ++ [endT (0 + (txt us).length)]).map TokD.enc).length = us.length + 1 := by simp [hlu]
          have hend' : ((us' ++ [endT (0 + (txt us).length)]).map TokD.enc)[us.length]? = some (endT (0 + (txt us).length)).enc := by rw [← hlu]; simp
          have hrow' : ∀ (k : Nat) (h : k < us.length), ∃ p' : Int, ((us' ++ [endT (0 + (txt us).length)]).map TokD.enc)[k]? = some (TokD.enc { us[k] with p := p' }) := fun k h => by
            obtain ⟨p', hp'⟩ := core_at hcore k h
            refine ⟨p', ?_⟩
            rw [List.map_append, List.getElem?_append_left (by rw [List.length_map]; omega), List.getElem?_map, hp']
            rfl
          generalize (us' ++ [endT (0 + (txt us).length)]).map TokD.enc = rows' at *
          unfold SA5
          rw [hbg]
          have z1 : (((us.length + 1 : Nat) : Int) == ((us.length + 1 : Nat) : Int)) = true := beq_self_eq_true _
          repeat' (first | refine awp_seq ?_ | refine awp_block ?_ | refine awp_round ?_ | refine awp_scope ?_ | refine awp_text rfl ?_ | refine awp_any rfl mix (by kernel_rfl) ?_ | (refine RunTo.unguard rfl rfl (fun hg => ?_) (fun hg => ?_) <;> ((try simp only [Bool.not_true, Bool.not_false, Bool.not_eq_true', Bool.not_eq_false', Bool.not_eq_eq_eq_not] at hg); (first | (cases hg) | (simp only [hg]) | skip))) | ((first | refine RunTo.plain rfl ?_ | refine RunTo.skipped rfl ?_ | refine RunTo.call (hl2) Tryd.func29 rfl rfl rfl rfl rfl rfl rfl rfl ?_); simp only [go_sem, ↓reduceIte, Nat.reduceEqDiff, Nat.reduceAdd, Nat.reduceLeDiff, Nat.reduceBEq, Nat.reduceMul, reduceCtorEq, Int.reduceLE, Int.reduceLT, Int.reduceAdd, Int.reduceSub, Int.reduceNeg, Int.reduceToNat, Int.reduceBEq, bne, hdec, hlen, hlen', w1, e4, z1, Bool.not_true, Bool.not_false]) | ((first | refine RunTo.nilA (by kernel_rfl) ?_ | refine RunTo.nilT ?_ | refine awp_skip ?_ | refine awp_exit ?_ | refine awp_label ?_); simp only [go_sem, ↓reduceIte, Nat.reduceEqDiff, Nat.reduceAdd, Nat.reduceLeDiff, Nat.reduceBEq, Nat.reduceMul, reduceCtorEq, Int.reduceLE, Int.reduceLT, Int.reduceAdd, Int.reduceSub, Int.reduceNeg, Int.reduceToNat, Int.reduceBEq, bne, hdec, hlen, hlen', w1, e4, z1, Bool.not_true, Bool.not_false]) | (refine awp_cond' rfl (of_decide_eq_true rfl) (fun hc => ?_) (fun hc => ?_) <;> ((try simp only [Bool.not_true, Bool.not_false, Bool.not_eq_true', Bool.not_eq_false', Bool.not_eq_eq_eq_not] at hc); (first | (cases hc) | (simp only [hc]) | skip))))
          refine awp_loopw (IB5 rows rows' us) (us.length + 1) (SB5 rows rows' 0 _) (weak_keep ⟨rfl, rfl, rfl, trivial⟩ trivial (Nat.le_refl _)) ⟨0, _, Nat.zero_le _, rfl, rfl⟩ ?_
          rintro n st ⟨k, T, hk, rfl, rfl⟩
          by_cases hkl : k < us.length
          · have hdec : decide ((k : Int) < ((us.length + 1 : Nat) : Int)) = true := decide_eq_true (by omega)
            have hdl := lt_t hkl
            have hwk : IntKind.i64.wrap ((k : Int) + 1) = ((k + 1 : Nat) : Int) := wrap_succ (by omega)
            have hget := hrow k hkl
            obtain ⟨p', hget'⟩ := hrow' k hkl
            obtain ⟨hg, _, _⟩ := hL.good us[k] (List.getElem_mem hkl)
            have hsm := c_SameV us[k].v (by have := hg.ln; omega)
            have hwp : 0 < k → IntKind.i64.wrap ((k : Int) - 1) = ((k - 1 : Nat) : Int) := fun h => by rw [IntWalk.i64_in _ (by omega)]; omega
            have hpr : ∀ h : 0 < k, rows[k - 1]? = some (us[k - 1]).enc ∧ (us[k - 1]).p < (us[k]).p := fun h => ⟨hrow (k - 1) (by omega), List.pairwise_iff_getElem.1 hL.rise (k - 1) k (by omega) hkl (by omega)⟩
            have hen : ∀ u : TokD, TokD.enc u = [di u.k, ds' u.t, di u.v.a.k, di u.v.a.n, df u.v.a.f, ds' u.v.a.s, .lst 4 (u.v.l.map AtomD.enc), di u.p] := fun u => rfl
            rw [hen] at hget hget'
            dsimp only at hget'
            have qt := strEq_t (a := us[k].t) (b := us[k].t) rfl
            by_cases hk0 : 0 < k
            · have d0 : decide ((0 : Int) < (k : Int)) = true := decide_eq_true (by omega)
              obtain ⟨hgp, hlt3⟩ := hpr hk0
              have hwp := hwp hk0
              rw [hen] at hgp
              have dl : decide (us[k].p ≤ us[k - 1].p) = false := decide_eq_false (by omega)
              clear hpr
              generalize us[k] = u at *
              generalize us[k - 1] = v at *
              repeat' (first | refine awp_seq ?_ | refine awp_block ?_ | refine awp_round ?_ | refine awp_scope ?_ | refine awp_text rfl ?_ | refine awp_any rfl mix (by kernel_rfl) ?_ | (refine RunTo.unguard rfl rfl (fun hg => ?_) (fun hg => ?_) <;> ((try simp only [Bool.not_true, Bool.not_false, Bool.not_eq_true', Bool.not_eq_false', Bool.not_eq_eq_eq_not] at hg); (first | (cases hg) | (simp only [hg]) | skip))) | ((first | refine RunTo.plain rfl ?_ | refine RunTo.skipped rfl ?_ | refine RunTo.call (hsm) Tryd.func23 rfl rfl rfl rfl rfl rfl rfl rfl ?_); simp only [go_sem, ↓reduceIte, Nat.reduceEqDiff, Nat.reduceAdd, Nat.reduceLeDiff, Nat.reduceBEq, Nat.reduceMul, reduceCtorEq, Int.reduceLE, Int.reduceLT, Int.reduceAdd, Int.reduceSub, Int.reduceNeg, Int.reduceToNat, Int.reduceBEq, bne, hdec, hget, hget', hlen, w1, hwk, hwp, hgp, d0, dl, hdl, qt, beq_self_eq_true, Bool.not_true, Bool.not_false]) | ((first | refine RunTo.nilA (by kernel_rfl) ?_ | refine RunTo.nilT ?_ | refine awp_skip ?_ | refine awp_exit ?_ | refine awp_label ?_); simp only [go_sem, ↓reduceIte, Nat.reduceEqDiff, Nat.reduceAdd, Nat.reduceLeDiff, Nat.reduceBEq, Nat.reduceMul, reduceCtorEq, Int.reduceLE, Int.reduceLT, Int.reduceAdd, Int.reduceSub, Int.reduceNeg, Int.reduceToNat, Int.reduceBEq, bne, hdec, hget, hget', hlen, w1, hwk, hwp, hgp, d0, dl, hdl, qt, beq_self_eq_true, Bool.not_true, Bool.not_false]) | (refine awp_cond' rfl (of_decide_eq_true rfl) (fun hc => ?_) (fun hc => ?_) <;> ((try simp only [Bool.not_true, Bool.not_false, Bool.not_eq_true', Bool.not_eq_false', Bool.not_eq_eq_eq_not] at hc); (first | (cases hc) | (simp only [hc]) | skip))))
              all_goals exact ⟨us.length + 1 - (k + 1), by omega, SB5 rows rows' (k + 1) _, weak_keep ⟨rfl, rfl, rfl, trivial⟩ trivial (Nat.le_refl _), k + 1, _, by omega, rfl, rfl⟩
            · have d0 : decide ((0 : Int) < (k : Int)) = false := decide_eq_false (by omega)
              clear hpr hwp
              generalize us[k] = u at *
              repeat' (first | refine awp_seq ?_ | refine awp_block ?_ | refine awp_round ?_ | refine awp_scope ?_ | refine awp_text rfl ?_ | refine awp_any rfl mix (by kernel_rfl) ?_ | (refine RunTo.unguard rfl rfl (fun hg => ?_) (fun hg => ?_) <;> ((try simp only [Bool.not_true, Bool.not_false, Bool.not_eq_true', Bool.not_eq_false', Bool.not_eq_eq_eq_not] at hg); (first | (cases hg) | (simp only [hg]) | skip))) | ((first | refine RunTo.plain rfl ?_ | refine RunTo.skipped rfl ?_ | refine RunTo.call (hsm) Tryd.func23 rfl rfl rfl rfl rfl rfl rfl rfl ?_); simp only [go_sem, ↓reduceIte, Nat.reduceEqDiff, Nat.reduceAdd, Nat.reduceLeDiff, Nat.reduceBEq, Nat.reduceMul, reduceCtorEq, Int.reduceLE, Int.reduceLT, Int.reduceAdd, Int.reduceSub, Int.reduceNeg, Int.reduceToNat, Int.reduceBEq, bne, hdec, hget, hget', hlen, w1, hwk, d0, qt, beq_self_eq_true, Bool.not_true, Bool.not_false]) | ((first | refine RunTo.nilA (by kernel_rfl) ?_ | refine RunTo.nilT ?_ | refine awp_skip ?_ | refine awp_exit ?_ | refine awp_label ?_); simp only [go_sem, ↓reduceIte, Nat.reduceEqDiff, Nat.reduceAdd, Nat.reduceLeDiff, Nat.reduceBEq, Nat.reduceMul, reduceCtorEq, Int.reduceLE, Int.reduceLT, Int.reduceAdd, Int.reduceSub, Int.reduceNeg, Int.reduceToNat, Int.reduceBEq, bne, hdec, hget, hget', hlen, w1, hwk, d0, qt, beq_self_eq_true, Bool.not_true, Bool.not_false]) | (refine awp_cond' rfl (of_decide_eq_true rfl) (fun hc => ?_) (fun hc => ?_) <;> ((try simp only [Bool.not_true, Bool.not_false, Bool.not_eq_true', Bool.not_eq_false', Bool.not_eq_eq_eq_not] at hc); (first | (cases hc) | (simp only [hc]) | skip))))
              all_goals exact ⟨us.length + 1 - (k + 1), by omega, SB5 rows rows' (k + 1) _, weak_keep ⟨rfl, rfl, rfl, trivial⟩ trivial (Nat.le_refl _), k + 1, _, by omega, rfl, rfl⟩
          · by_cases hke : k = us.length
            · subst hke
              have hdec : decide ((us.length : Int) < ((us.length + 1 : Nat) : Int)) = true := decide_eq_true (by omega)
              have hdl : decide ((us.length : Int) < (us.length : Int)) = false := decide_eq_false (by omega)
              have hwk : IntKind.i64.wrap ((us.length : Int) + 1) = ((us.length + 1 : Nat) : Int) := wrap_succ (by omega)
              have hsm := c_SameV nulV (by decide)
              have hen : ∀ p : Nat, (endT p).enc = [di 4, ds' eE, di 0, di 0, df 0, ds' eE, .lst 4 [], di p] := fun p => rfl
              rw [hen] at hend hend'
              have qt := strEq_t (a := eE) (b := eE) rfl
              by_cases hk0 : 0 < us.length
              · have d0 : decide ((0 : Int) < (us.length : Int)) = true := decide_eq_true (by omega)
                have hwp : IntKind.i64.wrap ((us.length : Int) - 1) = ((us.length - 1 : Nat) : Int) := by rw [IntWalk.i64_in _ (by omega)]; omega
                have hgp := hrow (us.length - 1) (by omega)
                rw [show ∀ u : TokD, TokD.enc u = [di u.k, ds' u.t, di u.v.a.k, di u.v.a.n, df u.v.a.f, ds' u.v.a.s, .lst 4 (u.v.l.map AtomD.enc), di u.p] from fun u => rfl] at hgp
                generalize us[us.length - 1] = v at *
                cases dl : decide ((s.size : Int) ≤ v.p) with
                | true =>
                  repeat' (first | refine awp_seq ?_ | refine awp_block ?_ | refine awp_round ?_ | refine awp_scope ?_ | refine awp_text rfl ?_ | refine awp_any rfl mix (by kernel_rfl) ?_ | (refine RunTo.unguard rfl rfl (fun hg => ?_) (fun hg => ?_) <;> ((try simp only [Bool.not_true, Bool.not_false, Bool.not_eq_true', Bool.not_eq_false', Bool.not_eq_eq_eq_not] at hg); (first | (cases hg) | (simp only [hg]) | skip))) | ((first | refine RunTo.plain rfl ?_ | refine RunTo.skipped rfl ?_ | refine RunTo.call (hsm) Tryd.func23 rfl rfl rfl rfl rfl rfl rfl rfl ?_); simp only [go_sem, ↓reduceIte, Nat.reduceEqDiff, Nat.reduceAdd, Nat.reduceLeDiff, Nat.reduceBEq, Nat.reduceMul, reduceCtorEq, Int.reduceLE, Int.reduceLT, Int.reduceAdd, Int.reduceSub, Int.reduceNeg, Int.reduceToNat, Int.reduceBEq, bne, hdec, hend, hend', hlen, w1, hwk, hwp, hgp, d0, dl, hdl, qt, beq_self_eq_true, Bool.not_true, Bool.not_false]) | ((first | refine RunTo.nilA (by kernel_rfl) ?_ | refine RunTo.nilT ?_ | refine awp_skip ?_ | refine awp_exit ?_ | refine awp_label ?_); simp only [go_sem, ↓reduceIte, Nat.reduceEqDiff, Nat.reduceAdd, Nat.reduceLeDiff, Nat.reduceBEq, Nat.reduceMul, reduceCtorEq, Int.reduceLE, Int.reduceLT, Int.reduceAdd, Int.reduceSub, Int.reduceNeg, Int.reduceToNat, Int.reduceBEq, bne, hdec, hend, hend', hlen, w1, hwk, hwp, hgp, d0, dl, hdl, qt, beq_self_eq_true, Bool.not_true, Bool.not_false]) | (refine awp_cond' rfl (of_decide_eq_true rfl) (fun hc => ?_) (fun hc => ?_) <;> ((try simp only [Bool.not_true, Bool.not_false, Bool.not_eq_true', Bool.not_eq_false', Bool.not_eq_eq_eq_not] at hc); (first | (cases hc) | (simp only [hc]) | skip))))
                  all_goals exact ⟨us.length + 1 - (us.length + 1), by omega, SB5 rows rows' (us.length + 1) _, weak_keep ⟨rfl, rfl, rfl, trivial⟩ trivial (Nat.le_refl _), us.length + 1, _, by omega, rfl, rfl⟩
                | false =>
                  repeat' (first | refine awp_seq ?_ | refine awp_block ?_ | refine awp_round ?_ | refine awp_scope ?_ | refine awp_text rfl ?_ | refine awp_any rfl mix (by kernel_rfl) ?_ | (refine RunTo.unguard rfl rfl (fun hg => ?_) (fun hg => ?_) <;> ((try simp only [Bool.not_true, Bool.not_false, Bool.not_eq_true', Bool.not_eq_false', Bool.not_eq_eq_eq_not] at hg); (first | (cases hg) | (simp only [hg]) | skip))) | ((first | refine RunTo.plain rfl ?_ | refine RunTo.skipped rfl ?_ | refine RunTo.call (hsm) Tryd.func23 rfl rfl rfl rfl rfl rfl rfl rfl ?_); simp only [go_sem, ↓reduceIte, Nat.reduceEqDiff, Nat.reduceAdd, Nat.reduceLeDiff, Nat.reduceBEq, Nat.reduceMul, reduceCtorEq, Int.reduceLE, Int.reduceLT, Int.reduceAdd, Int.reduceSub, Int.reduceNeg, Int.reduceToNat, Int.reduceBEq, bne, hdec, hend, hend', hlen, w1, hwk, hwp, hgp, d0, dl, hdl, qt, beq_self_eq_true, Bool.not_true, Bool.not_false]) | ((first | refine RunTo.nilA (by kernel_rfl) ?_ | refine RunTo.nilT ?_ | refine awp_skip ?_ | refine awp_exit ?_ | refine awp_label ?_); simp only [go_sem, ↓reduceIte, Nat.reduceEqDiff, Nat.reduceAdd, Nat.reduceLeDiff, Nat.reduceBEq, Nat.reduceMul, reduceCtorEq, Int.reduceLE, Int.reduceLT, Int.reduceAdd, Int.reduceSub, Int.reduceNeg, Int.reduceToNat, Int.reduceBEq, bne, hdec, hend, hend', hlen, w1, hwk, hwp, hgp, d0, dl, hdl, qt, beq_self_eq_true, Bool.not_true, Bool.not_false]) | (refine awp_cond' rfl (of_decide_eq_true rfl) (fun hc => ?_) (fun hc => ?_) <;> ((try simp only [Bool.not_true, Bool.not_false, Bool.not_eq_true', Bool.not_eq_false', Bool.not_eq_eq_eq_not] at hc); (first | (cases hc) | (simp only [hc]) | skip))))
                  all_goals exact ⟨us.length + 1 - (us.length + 1), by omega, SB5 rows rows' (us.length + 1) _, weak_keep ⟨rfl, rfl, rfl, trivial⟩ trivial (Nat.le_refl _), us.length + 1, _, by omega, rfl, rfl⟩
              · have d0 : decide ((0 : Int) < (us.length : Int)) = false := decide_eq_false (by omega)
                repeat' (first | refine awp_seq ?_ | refine awp_block ?_ | refine awp_round ?_ | refine awp_scope ?_ | refine awp_text rfl ?_ | refine awp_any rfl mix (by kernel_rfl) ?_ | (refine RunTo.unguard rfl rfl (fun hg => ?_) (fun hg => ?_) <;> ((try simp only [Bool.not_true, Bool.not_false, Bool.not_eq_true', Bool.not_eq_false', Bool.not_eq_eq_eq_not] at hg); (first | (cases hg) | (simp only [hg]) | skip))) | ((first | refine RunTo.plain rfl ?_ | refine RunTo.skipped rfl ?_ | refine RunTo.call (hsm) Tryd.func23 rfl rfl rfl rfl rfl rfl rfl rfl ?_); simp only [go_sem, ↓reduceIte, Nat.reduceEqDiff, Nat.reduceAdd, Nat.reduceLeDiff, Nat.reduceBEq, Nat.reduceMul, reduceCtorEq, Int.reduceLE, Int.reduceLT, Int.reduceAdd, Int.reduceSub, Int.reduceNeg, Int.reduceToNat, Int.reduceBEq, bne, hdec, hend, hend', hlen, w1, hwk, d0, qt, beq_self_eq_true, Bool.not_true, Bool.not_false]) | ((first | refine RunTo.nilA (by kernel_rfl) ?_ | refine RunTo.nilT ?_ | refine awp_skip ?_ | refine awp_exit ?_ | refine awp_label ?_); simp only [go_sem, ↓reduceIte, Nat.reduceEqDiff, Nat.reduceAdd, Nat.reduceLeDiff, Nat.reduceBEq, Nat.reduceMul, reduceCtorEq, Int.reduceLE, Int.reduceLT, Int.reduceAdd, Int.reduceSub, Int.reduceNeg, Int.reduceToNat, Int.reduceBEq, bne, hdec, hend, hend', hlen, w1, hwk, d0, qt, beq_self_eq_true, Bool.not_true, Bool.not_false]) | (refine awp_cond' rfl (of_decide_eq_true rfl) (fun hc => ?_) (fun hc => ?_) <;> ((try simp only [Bool.not_true, Bool.not_false, Bool.not_eq_true', Bool.not_eq_false', Bool.not_eq_eq_eq_not] at hc); (first | (cases hc) | (simp only [hc]) | skip))))
                all_goals exact ⟨us.length + 1 - (us.length + 1), by omega, SB5 rows rows' (us.length + 1) _, weak_keep ⟨rfl, rfl, rfl, trivial⟩ trivial (Nat.le_refl _), us.length + 1, _, by omega, rfl, rfl⟩
            · have hdec : decide ((k : Int) < ((us.length + 1 : Nat) : Int)) = false := decide_eq_false (by omega)
              repeat' (first | refine awp_seq ?_ | refine awp_block ?_ | refine awp_round ?_ | refine awp_scope ?_ | refine awp_text rfl ?_ | refine awp_any rfl mix (by kernel_rfl) ?_ | (refine RunTo.unguard rfl rfl (fun hg => ?_) (fun hg => ?_) <;> ((try simp only [Bool.not_true, Bool.not_false, Bool.not_eq_true', Bool.not_eq_false', Bool.not_eq_eq_eq_not] at hg); (first | (cases hg) | (simp only [hg]) | skip))) | ((first | refine RunTo.plain rfl ?_ | refine RunTo.skipped rfl ?_); simp only [go_sem, ↓reduceIte, Nat.reduceEqDiff, Nat.reduceAdd, Nat.reduceLeDiff, Nat.reduceBEq, Nat.reduceMul, reduceCtorEq, Int.reduceLE, Int.reduceLT, Int.reduceAdd, Int.reduceSub, Int.reduceNeg, Int.reduceToNat, Int.reduceBEq, hdec, hlen]) | ((first | refine RunTo.nilA (by kernel_rfl) ?_ | refine RunTo.nilT ?_ | refine awp_skip ?_ | refine awp_exit ?_ | refine awp_label ?_); simp only [go_sem, ↓reduceIte, Nat.reduceEqDiff, Nat.reduceAdd, Nat.reduceLeDiff, Nat.reduceBEq, Nat.reduceMul, reduceCtorEq, Int.reduceLE, Int.reduceLT, Int.reduceAdd, Int.reduceSub, Int.reduceNeg, Int.reduceToNat, Int.reduceBEq, hdec, hlen]) | (refine awp_cond' rfl (of_decide_eq_true rfl) (fun hc => ?_) (fun hc => ?_) <;> ((try simp only [Bool.not_true, Bool.not_false, Bool.not_eq_true', Bool.not_eq_false', Bool.not_eq_eq_eq_not] at hc); (first | (cases hc) | (simp only [hc]) | skip))))
              all_goals (first | refine awp_ret ?_ | skip); refine ⟨(by first | exact .inl rfl | exact .inr rfl | exact .inr trivial | trivial), ?_⟩; simp only [go_sem, ↓reduceIte, Nat.reduceEqDiff, Nat.reduceAdd, Nat.reduceLeDiff, Nat.reduceBEq, Nat.reduceMul, reduceCtorEq, Int.reduceLE, Int.reduceLT, Int.reduceAdd, Int.reduceSub, Int.reduceNeg, Int.reduceToNat, Int.reduceBEq, retV, resL, resV, sealV, sealC, sealAll, Tryd.f8]
              all_goals rfl
  by_cases hl : 4096 < s0.size
  · have hd : decide ((4096 : Int) < (s0.size : Int)) = true := decide_eq_true (by omega)
    have hle : (4096 ≤ s0.size) = True := eq_true (by omega)
    repeat' (first | refine awp_seq ?_ | refine awp_block ?_ | refine awp_round ?_ | refine awp_scope ?_ | refine awp_text rfl ?_ | refine awp_any rfl mix (by kernel_rfl) ?_ | (refine RunTo.unguard rfl rfl (fun hg => ?_) (fun hg => ?_) <;> ((try simp only [Bool.not_true, Bool.not_false, Bool.not_eq_true', Bool.not_eq_false', Bool.not_eq_eq_eq_not] at hg); (first | (cases hg) | (simp only [hg]) | skip))) | ((first | refine RunTo.plain rfl ?_ | refine RunTo.skipped rfl ?_); simp only [go_sem, ↓reduceIte, Nat.reduceEqDiff, Nat.reduceAdd, Nat.reduceLeDiff, Nat.reduceBEq, Nat.reduceMul, reduceCtorEq, Int.reduceLE, Int.reduceLT, Int.reduceAdd, Int.reduceSub, Int.reduceNeg, Int.reduceToNat, Int.reduceBEq, hd, hle]) | ((first | refine RunTo.nilA (by kernel_rfl) ?_ | refine RunTo.nilT ?_ | refine awp_skip ?_ | refine awp_exit ?_ | refine awp_label ?_); simp only [go_sem, ↓reduceIte, Nat.reduceEqDiff, Nat.reduceAdd, Nat.reduceLeDiff, Nat.reduceBEq, Nat.reduceMul, reduceCtorEq, Int.reduceLE, Int.reduceLT, Int.reduceAdd, Int.reduceSub, Int.reduceNeg, Int.reduceToNat, Int.reduceBEq, hd, hle]) | (refine awp_cond' rfl (of_decide_eq_true rfl) (fun hc => ?_) (fun hc => ?_) <;> ((try simp only [Bool.not_true, Bool.not_false, Bool.not_eq_true', Bool.not_eq_false', Bool.not_eq_eq_eq_not] at hc); (first | (cases hc) | (simp only [hc]) | skip))))
    all_goals exact awp_weak (st' := ⟨[(0, sv (s0.extract 0 4096))], [], _⟩) (weak_keep ⟨rfl, trivial⟩ trivial (Nat.le_refl _)) (main _ _ (by simp; omega))
  · have hd : decide ((4096 : Int) < (s0.size : Int)) = false := decide_eq_false (by omega)
    repeat' (first | refine awp_seq ?_ | refine awp_block ?_ | refine awp_round ?_ | refine awp_scope ?_ | refine awp_text rfl ?_ | refine awp_any rfl mix (by kernel_rfl) ?_ | (refine RunTo.unguard rfl rfl (fun hg => ?_) (fun hg => ?_) <;> ((try simp only [Bool.not_true, Bool.not_false, Bool.not_eq_true', Bool.not_eq_false', Bool.not_eq_eq_eq_not] at hg); (first | (cases hg) | (simp only [hg]) | skip))) | ((first | refine RunTo.plain rfl ?_ | refine RunTo.skipped rfl ?_); simp only [go_sem, ↓reduceIte, Nat.reduceEqDiff, Nat.reduceAdd, Nat.reduceLeDiff, Nat.reduceBEq, Nat.reduceMul, reduceCtorEq, Int.reduceLE, Int.reduceLT, Int.reduceAdd, Int.reduceSub, Int.reduceNeg, Int.reduceToNat, Int.reduceBEq, hd]) | ((first | refine RunTo.nilA (by kernel_rfl) ?_ | refine RunTo.nilT ?_ | refine awp_skip ?_ | refine awp_exit ?_ | refine awp_label ?_); simp only [go_sem, ↓reduceIte, Nat.reduceEqDiff, Nat.reduceAdd, Nat.reduceLeDiff, Nat.reduceBEq, Nat.reduceMul, reduceCtorEq, Int.reduceLE, Int.reduceLT, Int.reduceAdd, Int.reduceSub, Int.reduceNeg, Int.reduceToNat, Int.reduceBEq, hd]) | (refine awp_cond' rfl (of_decide_eq_true rfl) (fun hc => ?_) (fun hc => ?_) <;> ((try simp only [Bool.not_true, Bool.not_false, Bool.not_eq_true', Bool.not_eq_false', Bool.not_eq_eq_eq_not] at hc); (first | (cases hc) | (simp only [hc]) | skip))))
    all_goals exact awp_weak (st' := ⟨[(0, sv s0)], [], _⟩) (weak_keep ⟨rfl, trivial⟩ trivial (Nat.le_refl _)) (main _ _ (by omega))
end Go.Proofs.YtjihcldhjpdnmaaDoor.AM
