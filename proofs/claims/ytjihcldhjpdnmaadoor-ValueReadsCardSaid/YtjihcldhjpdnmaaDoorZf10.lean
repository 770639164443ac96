/- Part 10 of the proof: words, contracts, plain laws. Laid by a program of this session (wip/tool/shake.py): what is needed of own and printed texts, in order. -/
import Derived.Test.YtjihcldhjpdnmaaDoorZf0
import Derived.Test.YtjihcldhjpdnmaaDoorZf1
import Derived.Test.YtjihcldhjpdnmaaDoorZf2
import Derived.Test.YtjihcldhjpdnmaaDoorZf3
import Derived.Test.YtjihcldhjpdnmaaDoorZf5
import Derived.Test.YtjihcldhjpdnmaaDoorZf6
import Derived.Test.YtjihcldhjpdnmaaDoorZf7
import Derived.Test.YtjihcldhjpdnmaaDoorZf8
import Derived.Test.YtjihcldhjpdnmaaDoorZf9
import Derived.Calls
import Derived.Lib.ItoaNum
import Derived.Orders
import Derived.Tactics
import Derived.Below
import Derived.Laws.Rows
import Derived.Laws.World
import Derived.Laws.CopyRow
import Derived.Lib.FrozenHead
import Derived.Deep.AppendSrc
import Derived.Deep.Upon
import Derived.Laws.BytesArg
import Derived.IntWalk
import Derived.Laws.Externs
import Derived.LoopN
import Derived.Scope
import Derived.Test.YtjihcldhjpdnmaaDoorProg
import Derived.KernelRfl
import Derived.MapKept
import Derived.Recover
import Derived.Laws.FloatBits
import Derived.WideLaws
import Derived.RegionTactic
import Derived.Lib.AppendIntMem
import Derived.Lib.Join
import Derived.Shelf.Strings.Builder1
import Derived.Shelf.Strings.Builder2
import Derived.Shelf.Strings.OnBuilder
import Derived.Shelf.Small.Strs
import Derived.Shelf.Small.Wraps
import Derived.Shelf.Strings.BuilderF
import Derived.Shelf.Strings.BuilderK
import Derived.Shelf.Strings.Builder2Cap
import Derived.Shelf.Strconv.Atoi
import Derived.Shelf.Strconv.Itoa0
import Derived.Shelf.Strconv.Itoa1
import Derived.Shelf.LaysM
import Derived.Shelf.Strconv.Itoa2
import Derived.Shelf.Strconv.Itoa3
import Derived.Shelf.Strconv.AtoiErrFast
import Derived.Shelf.Strconv.ParseIntEmpty
import Derived.Shelf.Strconv.AtoiFail
import Derived.Shelf.Strconv.Clone
import Derived.Shelf.Strconv.SyntaxError
import Derived.Shelf.LaysC
import Derived.Shelf.Strconv.ToError
import Derived.Shelf.Strconv.Lower
import Derived.Shelf.Strconv.ParseUint10
import Derived.Shelf.Strconv.ParseUint10Empty
import Derived.Shelf.Strconv.ParseUint10Any
import Derived.Shelf.Strconv.ParseInt10
import Derived.Shelf.Strconv.AtoiLong
import Derived.Shelf.Strconv.AtoiInnerAll
import Derived.Shelf.Strconv.RangeError
import Derived.Shelf.Strconv.ToErrorRange
import Derived.Shelf.Strconv.AtoiAll
import Derived.Shelf.Strings.Search1
import Derived.Shelf.Strings.Prefix
import Derived.Shelf.Strings.BuilderCap
import Derived.Shelf.Slices.Turned
import Derived.Ground.Names2Prog
import Derived.Shelf.Slices.SearchI
import Derived.Lib.ItoaLen
namespace Go.Proofs.YtjihcldhjpdnmaaDoor.AM
open Go.RowKit
set_option linter.unusedSimpArgs false
set_option linter.unusedVariables false
set_option maxRecDepth 10000
set_option maxHeartbeats 0
theorem c_rText (s : ByteArray) (h1 : 1 ≤ s.size) (hs : s.size ≤ 1000000) : Pure Tryd.prog 104 [sv s] (textU (textL 257 [] (s.data.toList.drop 1))) := by
  generalize hr : textL 257 [] (s.data.toList.drop 1) = r
  refine pure_of_awp Tryd.func104 rfl rfl (by simp [Tryd.f104]) ?_; simp only [go_sem, ↓reduceIte, Nat.reduceEqDiff, Nat.reduceAdd, Nat.reduceLeDiff, Nat.reduceBEq, Nat.reduceMul, reduceCtorEq, Int.reduceLE, Int.reduceLT, Int.reduceAdd, Int.reduceSub, Int.reduceNeg, Int.reduceToNat, Int.reduceBEq]
  repeat' (first | refine awp_seq ?_ | refine awp_block ?_ | refine awp_round ?_ | refine awp_scope ?_ | refine awp_text rfl ?_ | refine awp_any rfl mix (by kernel_rfl) ?_ | (refine RunTo.unguard rfl rfl (fun hg => ?_) (fun hg => ?_) <;> ((try simp only [Bool.not_true, Bool.not_false, Bool.not_eq_true', Bool.not_eq_false', Bool.not_eq_eq_eq_not] at hg); (first | (cases hg) | (simp only [hg]) | skip))) | ((first | refine RunTo.plain rfl ?_ | refine RunTo.skipped rfl ?_); simp only [go_sem, ↓reduceIte, Nat.reduceEqDiff, Nat.reduceAdd, Nat.reduceLeDiff, Nat.reduceBEq, Nat.reduceMul, reduceCtorEq, Int.reduceLE, Int.reduceLT, Int.reduceAdd, Int.reduceSub, Int.reduceNeg, Int.reduceToNat, Int.reduceBEq]) | ((first | refine RunTo.nilA (by kernel_rfl) ?_ | refine RunTo.nilT ?_ | refine awp_skip ?_ | refine awp_exit ?_ | refine awp_label ?_); simp only [go_sem, ↓reduceIte, Nat.reduceEqDiff, Nat.reduceAdd, Nat.reduceLeDiff, Nat.reduceBEq, Nat.reduceMul, reduceCtorEq, Int.reduceLE, Int.reduceLT, Int.reduceAdd, Int.reduceSub, Int.reduceNeg, Int.reduceToNat, Int.reduceBEq]) | (refine awp_cond' rfl (of_decide_eq_true rfl) (fun hc => ?_) (fun hc => ?_) <;> ((try simp only [Bool.not_true, Bool.not_false, Bool.not_eq_true', Bool.not_eq_false', Bool.not_eq_eq_eq_not] at hc); (first | (cases hc) | (simp only [hc]) | skip))))
  refine awp_weak (weak_nil (t := 5) (s := 106) (sz := 1) (of_decide_eq_true rfl) rfl) ?_
  simp only [go_sem, ↓reduceIte, Nat.reduceEqDiff, Nat.reduceAdd, Nat.reduceLeDiff, Nat.reduceBEq, Nat.reduceMul, reduceCtorEq, Int.reduceLE, Int.reduceLT, Int.reduceAdd, Int.reduceSub, Int.reduceNeg, Int.reduceToNat, Int.reduceBEq]
  refine awp_loopw (IN2 s r) 257 (SN2 s 1 [] _ _) (weak_keep ⟨rfl, rfl, rfl, trivial⟩ ⟨rfl, trivial⟩ (Nat.le_refl _)) ⟨1, [], _, _, Nat.le_refl _, h1, by simp, rfl, by simp only [List.length_nil, Nat.sub_zero, Nat.sub_self]; rw [hr]; cases r <;> simp [RT.add], rfl⟩ ?_
  rintro n st ⟨k, acc, T, e, hk1, hk, ha, rfl, hx, rfl⟩
  clear hr
  rw [show 257 - acc.length = (256 - acc.length) + 1 by omega] at hx
  unfold textL at hx
  have hbB : isB (brows acc) = true := isB_brows acc
  have hbS : strR (brows acc) = bs acc := strR_brows acc
  have htk := take_brows acc
  have c1 : ((acc.length + 1) * 1 ≤ 140737488355328) = True := eq_true (by omega)
  have c2 : ((acc.length + 1) ≤ 140737488355328) = True := eq_true (by omega)
  have wk1 : IntKind.i64.wrap ((k : Int) + 1) = ((k + 1 : Nat) : Int) := wrap_succ (by omega)
  have wk2 : IntKind.i64.wrap ((k : Int) + 2) = ((k + 2 : Nat) : Int) := by rw [IntWalk.i64_in _ (by omega)]; omega
  have wk3 : IntKind.i64.wrap ((k : Int) + 3) = ((k + 3 : Nat) : Int) := by rw [IntWalk.i64_in _ (by omega)]; omega
  have wk4 : IntKind.i64.wrap ((k : Int) + 4) = ((k + 4 : Nat) : Int) := by rw [IntWalk.i64_in _ (by omega)]; omega
  by_cases h0 : k < s.size
  · have d0 := lt_t h0
    have b0 := byte_at' s k h0
    rw [drop_cons s k h0] at hx
    generalize hc0 : s[k] = c at *
    have hcb := c.toNat_lt
    by_cases e1 : c.toNat = 34
    · have q1 := beq_t (show (c.toNat : Int) = 34 by omega)
      rw [byte_q _ _ e1] at hx
      simp only [RT.add] at hx
      rw [hx]
      repeat' (first | refine awp_seq ?_ | refine awp_block ?_ | refine awp_round ?_ | refine awp_scope ?_ | refine awp_text rfl ?_ | refine awp_any rfl mix (by kernel_rfl) ?_ | (refine RunTo.unguard rfl rfl (fun hg => ?_) (fun hg => ?_) <;> ((try simp only [Bool.not_true, Bool.not_false, Bool.not_eq_true', Bool.not_eq_false', Bool.not_eq_eq_eq_not] at hg); (first | (cases hg) | (simp only [hg]) | skip))) | ((first | refine RunTo.plain rfl ?_ | refine RunTo.skipped rfl ?_); simp only [go_sem, ↓reduceIte, Nat.reduceEqDiff, Nat.reduceAdd, Nat.reduceLeDiff, Nat.reduceBEq, Nat.reduceMul, reduceCtorEq, Int.reduceLE, Int.reduceLT, Int.reduceAdd, Int.reduceSub, Int.reduceNeg, Int.reduceToNat, Int.reduceBEq, bne, Bool.not_true, Bool.not_false, htk, hbB, hbS, List.length_map, lenTy, implies_true, wk1, wk2, wk3, wk4, d0, b0, q1]) | ((first | refine RunTo.nilA (by kernel_rfl) ?_ | refine RunTo.nilT ?_ | refine awp_skip ?_ | refine awp_exit ?_ | refine awp_label ?_); simp only [go_sem, ↓reduceIte, Nat.reduceEqDiff, Nat.reduceAdd, Nat.reduceLeDiff, Nat.reduceBEq, Nat.reduceMul, reduceCtorEq, Int.reduceLE, Int.reduceLT, Int.reduceAdd, Int.reduceSub, Int.reduceNeg, Int.reduceToNat, Int.reduceBEq, bne, Bool.not_true, Bool.not_false, htk, hbB, hbS, List.length_map, lenTy, implies_true, wk1, wk2, wk3, wk4, d0, b0, q1]) | (refine awp_cond' rfl (of_decide_eq_true rfl) (fun hc => ?_) (fun hc => ?_) <;> ((try simp only [Bool.not_true, Bool.not_false, Bool.not_eq_true', Bool.not_eq_false', Bool.not_eq_eq_eq_not] at hc); (first | (cases hc) | (simp only [hc]) | skip))))
      all_goals (first | refine awp_ret ?_ | skip); refine ⟨(by first | exact .inl rfl | exact .inr rfl | exact .inr trivial | trivial), ?_⟩; simp only [go_sem, ↓reduceIte, Nat.reduceEqDiff, Nat.reduceAdd, Nat.reduceLeDiff, Nat.reduceBEq, Nat.reduceMul, reduceCtorEq, Int.reduceLE, Int.reduceLT, Int.reduceAdd, Int.reduceSub, Int.reduceNeg, Int.reduceToNat, Int.reduceBEq, retV, resL, resV, sealV, sealC, sealAll, Tryd.f104]
      all_goals (simp only [textU]; rw [show 1 + (k - 1 + 1) = k + 1 by omega])
    · have q1 := beq_f (show (c.toNat : Int) ≠ 34 by omega)
      by_cases e3 : c.toNat = 92
      · have q4 := beq_t (show (c.toNat : Int) = 92 by omega)
        by_cases g1 : k + 1 < s.size
        · have d1 : decide (((k + 1 : Nat) : Int) < (s.size : Int)) = true := decide_eq_true (by omega)
          have b1 := byte_at' s (k + 1) g1
          have hx0 := hx
          rw [drop_cons s (k + 1) g1] at hx
          generalize hc1 : s[k + 1] = d at *
          have hdb := d.toNat_lt
          by_cases e4 : d.toNat = 34 ∨ d.toNat = 92
          · rw [byte_e1 _ _ _ e3 e4, ← hc0, ← hc1, ← drop_cons s (k + 1) g1, ← drop_cons s k h0, hc1] at hx
            clear hx0
            by_cases e5 : d.toNat = 34
            · have q5 := beq_t (show (d.toNat : Int) = 34 by omega)
              simp only at hx
              by_cases h256 : acc.length = 256
              · rw [if_pos h256] at hx
                have q := beq_t (show (acc.length : Int) = 256 by omega)
                simp only [RT.add] at hx
                rw [hx]
                repeat' (first | refine awp_seq ?_ | refine awp_block ?_ | refine awp_round ?_ | refine awp_scope ?_ | refine awp_text rfl ?_ | refine awp_any rfl mix (by kernel_rfl) ?_ | (refine RunTo.unguard rfl rfl (fun hg => ?_) (fun hg => ?_) <;> ((try simp only [Bool.not_true, Bool.not_false, Bool.not_eq_true', Bool.not_eq_false', Bool.not_eq_eq_eq_not] at hg); (first | (cases hg) | (simp only [hg]) | skip))) | ((first | refine RunTo.plain rfl ?_ | refine RunTo.skipped rfl ?_); simp only [go_sem, ↓reduceIte, Nat.reduceEqDiff, Nat.reduceAdd, Nat.reduceLeDiff, Nat.reduceBEq, Nat.reduceMul, reduceCtorEq, Int.reduceLE, Int.reduceLT, Int.reduceAdd, Int.reduceSub, Int.reduceNeg, Int.reduceToNat, Int.reduceBEq, bne, Bool.not_true, Bool.not_false, htk, hbB, hbS, List.length_map, lenTy, implies_true, wk1, wk2, wk3, wk4, d0, b0, q1, q4, d1, b1, q5, q]) | ((first | refine RunTo.nilA (by kernel_rfl) ?_ | refine RunTo.nilT ?_ | refine awp_skip ?_ | refine awp_exit ?_ | refine awp_label ?_); simp only [go_sem, ↓reduceIte, Nat.reduceEqDiff, Nat.reduceAdd, Nat.reduceLeDiff, Nat.reduceBEq, Nat.reduceMul, reduceCtorEq, Int.reduceLE, Int.reduceLT, Int.reduceAdd, Int.reduceSub, Int.reduceNeg, Int.reduceToNat, Int.reduceBEq, bne, Bool.not_true, Bool.not_false, htk, hbB, hbS, List.length_map, lenTy, implies_true, wk1, wk2, wk3, wk4, d0, b0, q1, q4, d1, b1, q5, q]) | (refine awp_cond' rfl (of_decide_eq_true rfl) (fun hc => ?_) (fun hc => ?_) <;> ((try simp only [Bool.not_true, Bool.not_false, Bool.not_eq_true', Bool.not_eq_false', Bool.not_eq_eq_eq_not] at hc); (first | (cases hc) | (simp only [hc]) | skip))))
                all_goals (first | refine awp_ret ?_ | skip); refine ⟨(by first | exact .inl rfl | exact .inr rfl | exact .inr trivial | trivial), ?_⟩; simp only [go_sem, ↓reduceIte, Nat.reduceEqDiff, Nat.reduceAdd, Nat.reduceLeDiff, Nat.reduceBEq, Nat.reduceMul, reduceCtorEq, Int.reduceLE, Int.reduceLT, Int.reduceAdd, Int.reduceSub, Int.reduceNeg, Int.reduceToNat, Int.reduceBEq, retV, resL, resV, sealV, sealC, sealAll, Tryd.f104]
                all_goals rfl
              · rw [if_neg h256] at hx
                have q := beq_f (show (acc.length : Int) ≠ 256 by omega)
                have hlen : (acc ++ [d]).length = acc.length + 1 := by simp
                repeat' (first | refine awp_seq ?_ | refine awp_block ?_ | refine awp_round ?_ | refine awp_scope ?_ | refine awp_text rfl ?_ | refine awp_any rfl mix (by kernel_rfl) ?_ | (refine RunTo.unguard rfl rfl (fun hg => ?_) (fun hg => ?_) <;> ((try simp only [Bool.not_true, Bool.not_false, Bool.not_eq_true', Bool.not_eq_false', Bool.not_eq_eq_eq_not] at hg); (first | (cases hg) | (simp only [hg]) | skip))) | ((first | refine RunTo.plain rfl ?_ | refine RunTo.skipped rfl ?_); simp only [go_sem, ↓reduceIte, Nat.reduceEqDiff, Nat.reduceAdd, Nat.reduceLeDiff, Nat.reduceBEq, Nat.reduceMul, reduceCtorEq, Int.reduceLE, Int.reduceLT, Int.reduceAdd, Int.reduceSub, Int.reduceNeg, Int.reduceToNat, Int.reduceBEq, bne, Bool.not_true, Bool.not_false, htk, hbB, hbS, List.length_map, lenTy, implies_true, wk1, wk2, wk3, wk4, q, c1, c2, d0, b0, q1, q4, d1, b1, q5]) | ((first | refine RunTo.nilA (by kernel_rfl) ?_ | refine RunTo.nilT ?_ | refine awp_skip ?_ | refine awp_exit ?_ | refine awp_label ?_); simp only [go_sem, ↓reduceIte, Nat.reduceEqDiff, Nat.reduceAdd, Nat.reduceLeDiff, Nat.reduceBEq, Nat.reduceMul, reduceCtorEq, Int.reduceLE, Int.reduceLT, Int.reduceAdd, Int.reduceSub, Int.reduceNeg, Int.reduceToNat, Int.reduceBEq, bne, Bool.not_true, Bool.not_false, htk, hbB, hbS, List.length_map, lenTy, implies_true, wk1, wk2, wk3, wk4, q, c1, c2, d0, b0, q1, q4, d1, b1, q5]) | (refine awp_cond' rfl (of_decide_eq_true rfl) (fun hc => ?_) (fun hc => ?_) <;> ((try simp only [Bool.not_true, Bool.not_false, Bool.not_eq_true', Bool.not_eq_false', Bool.not_eq_eq_eq_not] at hc); (first | (cases hc) | (simp only [hc]) | skip))))
                all_goals exact ⟨257 - (acc ++ [d]).length, by omega, SN2 s (k + 2) (acc ++ [d]) _ _, weak_keep ⟨rfl, rfl, by rw [hlen]; rfl, trivial⟩ ⟨by rw [hexB_app]; rfl, trivial⟩ (Nat.le_refl _), k + 2, acc ++ [d], _, _, by omega, by omega, by omega, rfl, by rw [hx, RT.add_add, List.drop_drop, hlen, show 257 - (acc.length + 1) = 256 - acc.length by omega, show k - 1 + 2 = k + 2 - 1 by omega], rfl⟩
            · have q5 := beq_f (show (d.toNat : Int) ≠ 34 by omega)
              have q6 := beq_t (show (d.toNat : Int) = 92 by omega)
              simp only at hx
              by_cases h256 : acc.length = 256
              · rw [if_pos h256] at hx
                have q := beq_t (show (acc.length : Int) = 256 by omega)
                simp only [RT.add] at hx
                rw [hx]
                repeat' (first | refine awp_seq ?_ | refine awp_block ?_ | refine awp_round ?_ | refine awp_scope ?_ | refine awp_text rfl ?_ | refine awp_any rfl mix (by kernel_rfl) ?_ | (refine RunTo.unguard rfl rfl (fun hg => ?_) (fun hg => ?_) <;> ((try simp only [Bool.not_true, Bool.not_false, Bool.not_eq_true', Bool.not_eq_false', Bool.not_eq_eq_eq_not] at hg); (first | (cases hg) | (simp only [hg]) | skip))) | ((first | refine RunTo.plain rfl ?_ | refine RunTo.skipped rfl ?_); simp only [go_sem, ↓reduceIte, Nat.reduceEqDiff, Nat.reduceAdd, Nat.reduceLeDiff, Nat.reduceBEq, Nat.reduceMul, reduceCtorEq, Int.reduceLE, Int.reduceLT, Int.reduceAdd, Int.reduceSub, Int.reduceNeg, Int.reduceToNat, Int.reduceBEq, bne, Bool.not_true, Bool.not_false, htk, hbB, hbS, List.length_map, lenTy, implies_true, wk1, wk2, wk3, wk4, d0, b0, q1, q4, d1, b1, q5, q6, q]) | ((first | refine RunTo.nilA (by kernel_rfl) ?_ | refine RunTo.nilT ?_ | refine awp_skip ?_ | refine awp_exit ?_ | refine awp_label ?_); simp only [go_sem, ↓reduceIte, Nat.reduceEqDiff, Nat.reduceAdd, Nat.reduceLeDiff, Nat.reduceBEq, Nat.reduceMul, reduceCtorEq, Int.reduceLE, Int.reduceLT, Int.reduceAdd, Int.reduceSub, Int.reduceNeg, Int.reduceToNat, Int.reduceBEq, bne, Bool.not_true, Bool.not_false, htk, hbB, hbS, List.length_map, lenTy, implies_true, wk1, wk2, wk3, wk4, d0, b0, q1, q4, d1, b1, q5, q6, q]) | (refine awp_cond' rfl (of_decide_eq_true rfl) (fun hc => ?_) (fun hc => ?_) <;> ((try simp only [Bool.not_true, Bool.not_false, Bool.not_eq_true', Bool.not_eq_false', Bool.not_eq_eq_eq_not] at hc); (first | (cases hc) | (simp only [hc]) | skip))))
                all_goals (first | refine awp_ret ?_ | skip); refine ⟨(by first | exact .inl rfl | exact .inr rfl | exact .inr trivial | trivial), ?_⟩; simp only [go_sem, ↓reduceIte, Nat.reduceEqDiff, Nat.reduceAdd, Nat.reduceLeDiff, Nat.reduceBEq, Nat.reduceMul, reduceCtorEq, Int.reduceLE, Int.reduceLT, Int.reduceAdd, Int.reduceSub, Int.reduceNeg, Int.reduceToNat, Int.reduceBEq, retV, resL, resV, sealV, sealC, sealAll, Tryd.f104]
                all_goals rfl
              · rw [if_neg h256] at hx
                have q := beq_f (show (acc.length : Int) ≠ 256 by omega)
                have hlen : (acc ++ [d]).length = acc.length + 1 := by simp
                repeat' (first | refine awp_seq ?_ | refine awp_block ?_ | refine awp_round ?_ | refine awp_scope ?_ | refine awp_text rfl ?_ | refine awp_any rfl mix (by kernel_rfl) ?_ | (refine RunTo.unguard rfl rfl (fun hg => ?_) (fun hg => ?_) <;> ((try simp only [Bool.not_true, Bool.not_false, Bool.not_eq_true', Bool.not_eq_false', Bool.not_eq_eq_eq_not] at hg); (first | (cases hg) | (simp only [hg]) | skip))) | ((first | refine RunTo.plain rfl ?_ | refine RunTo.skipped rfl ?_); simp only [go_sem, ↓reduceIte, Nat.reduceEqDiff, Nat.reduceAdd, Nat.reduceLeDiff, Nat.reduceBEq, Nat.reduceMul, reduceCtorEq, Int.reduceLE, Int.reduceLT, Int.reduceAdd, Int.reduceSub, Int.reduceNeg, Int.reduceToNat, Int.reduceBEq, bne, Bool.not_true, Bool.not_false, htk, hbB, hbS, List.length_map, lenTy, implies_true, wk1, wk2, wk3, wk4, q, c1, c2, d0, b0, q1, q4, d1, b1, q5, q6]) | ((first | refine RunTo.nilA (by kernel_rfl) ?_ | refine RunTo.nilT ?_ | refine awp_skip ?_ | refine awp_exit ?_ | refine awp_label ?_); simp only [go_sem, ↓reduceIte, Nat.reduceEqDiff, Nat.reduceAdd, Nat.reduceLeDiff, Nat.reduceBEq, Nat.reduceMul, reduceCtorEq, Int.reduceLE, Int.reduceLT, Int.reduceAdd, Int.reduceSub, Int.reduceNeg, Int.reduceToNat, Int.reduceBEq, bne, Bool.not_true, Bool.not_false, htk, hbB, hbS, List.length_map, lenTy, implies_true, wk1, wk2, wk3, wk4, q, c1, c2, d0, b0, q1, q4, d1, b1, q5, q6]) | (refine awp_cond' rfl (of_decide_eq_true rfl) (fun hc => ?_) (fun hc => ?_) <;> ((try simp only [Bool.not_true, Bool.not_false, Bool.not_eq_true', Bool.not_eq_false', Bool.not_eq_eq_eq_not] at hc); (first | (cases hc) | (simp only [hc]) | skip))))
                all_goals exact ⟨257 - (acc ++ [d]).length, by omega, SN2 s (k + 2) (acc ++ [d]) _ _, weak_keep ⟨rfl, rfl, by rw [hlen]; rfl, trivial⟩ ⟨by rw [hexB_app]; rfl, trivial⟩ (Nat.le_refl _), k + 2, acc ++ [d], _, _, by omega, by omega, by omega, rfl, by rw [hx, RT.add_add, List.drop_drop, hlen, show 257 - (acc.length + 1) = 256 - acc.length by omega, show k - 1 + 2 = k + 2 - 1 by omega], rfl⟩
          · have q5 := beq_f (show (d.toNat : Int) ≠ 34 by omega)
            have q6 := beq_f (show (d.toNat : Int) ≠ 92 by omega)
            by_cases g2 : k + 3 < s.size
            · have d3 : decide (((k + 3 : Nat) : Int) < (s.size : Int)) = true := decide_eq_true (by omega)
              by_cases e6 : d.toNat = 120
              · have q7 := beq_t (show (d.toNat : Int) = 120 by omega)
                have g3 : k + 2 < s.size := by omega
                have b2 := byte_at' s (k + 2) g3
                have b3 := byte_at' s (k + 3) g2
                rw [drop_cons s (k + 1 + 1) g3, drop_cons s (k + 1 + 1 + 1) g2] at hx
                have hc2 : s[k + 1 + 1] = s[k + 2] := rfl
                have hc3 : s[k + 1 + 1 + 1] = s[k + 3] := rfl
                rw [hc2, hc3] at hx
                have i1 := c_rhex s[k + 2]
                have i2 := c_rhex s[k + 3]
                have bd1 := hexI_bd s[k + 2]
                have bd2 := hexI_bd s[k + 3]
                by_cases e7 : hexI s[k + 2] < 0 ∨ hexI s[k + 3] < 0 ∨ (32 ≤ 16 * hexI s[k + 2] + hexI s[k + 3] ∧ 16 * hexI s[k + 2] + hexI s[k + 3] ≤ 126)
                · rw [byte_e4 _ _ _ _ _ e3 e6 e7] at hx
                  clear hx0
                  simp only [RT.add] at hx
                  rw [hx]
                  generalize s[k + 2] = a at *
                  generalize s[k + 3] = b at *
                  generalize hexI a = x at *
                  generalize hexI b = y at *
                  by_cases x1 : x < 0
                  · have dx : decide ((0 : Int) ≤ x) = false := decide_eq_false (by omega)
                    repeat' (first | refine awp_seq ?_ | refine awp_block ?_ | refine awp_round ?_ | refine awp_scope ?_ | refine awp_text rfl ?_ | refine awp_any rfl mix (by kernel_rfl) ?_ | (refine RunTo.unguard rfl rfl (fun hg => ?_) (fun hg => ?_) <;> ((try simp only [Bool.not_true, Bool.not_false, Bool.not_eq_true', Bool.not_eq_false', Bool.not_eq_eq_eq_not] at hg); (first | (cases hg) | (simp only [hg]) | skip))) | ((first | refine RunTo.plain rfl ?_ | refine RunTo.skipped rfl ?_ | refine RunTo.call (i1) Tryd.func139 rfl rfl rfl rfl rfl rfl rfl rfl ?_ | refine RunTo.call (i2) Tryd.func139 rfl rfl rfl rfl rfl rfl rfl rfl ?_); simp only [go_sem, ↓reduceIte, Nat.reduceEqDiff, Nat.reduceAdd, Nat.reduceLeDiff, Nat.reduceBEq, Nat.reduceMul, reduceCtorEq, Int.reduceLE, Int.reduceLT, Int.reduceAdd, Int.reduceSub, Int.reduceNeg, Int.reduceToNat, Int.reduceBEq, bne, Bool.not_true, Bool.not_false, htk, hbB, hbS, List.length_map, lenTy, implies_true, wk1, wk2, wk3, wk4, d0, b0, q1, q4, d1, b1, q5, q6, d3, q7, b2, b3, dx]) | ((first | refine RunTo.nilA (by kernel_rfl) ?_ | refine RunTo.nilT ?_ | refine awp_skip ?_ | refine awp_exit ?_ | refine awp_label ?_); simp only [go_sem, ↓reduceIte, Nat.reduceEqDiff, Nat.reduceAdd, Nat.reduceLeDiff, Nat.reduceBEq, Nat.reduceMul, reduceCtorEq, Int.reduceLE, Int.reduceLT, Int.reduceAdd, Int.reduceSub, Int.reduceNeg, Int.reduceToNat, Int.reduceBEq, bne, Bool.not_true, Bool.not_false, htk, hbB, hbS, List.length_map, lenTy, implies_true, wk1, wk2, wk3, wk4, d0, b0, q1, q4, d1, b1, q5, q6, d3, q7, b2, b3, dx]) | (refine awp_cond' rfl (of_decide_eq_true rfl) (fun hc => ?_) (fun hc => ?_) <;> ((try simp only [Bool.not_true, Bool.not_false, Bool.not_eq_true', Bool.not_eq_false', Bool.not_eq_eq_eq_not] at hc); (first | (cases hc) | (simp only [hc]) | skip))))
                    all_goals (first | refine awp_ret ?_ | skip); refine ⟨(by first | exact .inl rfl | exact .inr rfl | exact .inr trivial | trivial), ?_⟩; simp only [go_sem, ↓reduceIte, Nat.reduceEqDiff, Nat.reduceAdd, Nat.reduceLeDiff, Nat.reduceBEq, Nat.reduceMul, reduceCtorEq, Int.reduceLE, Int.reduceLT, Int.reduceAdd, Int.reduceSub, Int.reduceNeg, Int.reduceToNat, Int.reduceBEq, retV, resL, resV, sealV, sealC, sealAll, Tryd.f104]
                    all_goals rfl
                  · have dx : decide ((0 : Int) ≤ x) = true := decide_eq_true (by omega)
                    by_cases y1 : y < 0
                    · have dy : decide ((0 : Int) ≤ y) = false := decide_eq_false (by omega)
                      repeat' (first | refine awp_seq ?_ | refine awp_block ?_ | refine awp_round ?_ | refine awp_scope ?_ | refine awp_text rfl ?_ | refine awp_any rfl mix (by kernel_rfl) ?_ | (refine RunTo.unguard rfl rfl (fun hg => ?_) (fun hg => ?_) <;> ((try simp only [Bool.not_true, Bool.not_false, Bool.not_eq_true', Bool.not_eq_false', Bool.not_eq_eq_eq_not] at hg); (first | (cases hg) | (simp only [hg]) | skip))) | ((first | refine RunTo.plain rfl ?_ | refine RunTo.skipped rfl ?_ | refine RunTo.call (i1) Tryd.func139 rfl rfl rfl rfl rfl rfl rfl rfl ?_ | refine RunTo.call (i2) Tryd.func139 rfl rfl rfl rfl rfl rfl rfl rfl ?_); simp only [go_sem, ↓reduceIte, Nat.reduceEqDiff, Nat.reduceAdd, Nat.reduceLeDiff, Nat.reduceBEq, Nat.reduceMul, reduceCtorEq, Int.reduceLE, Int.reduceLT, Int.reduceAdd, Int.reduceSub, Int.reduceNeg, Int.reduceToNat, Int.reduceBEq, bne, Bool.not_true, Bool.not_false, htk, hbB, hbS, List.length_map, lenTy, implies_true, wk1, wk2, wk3, wk4, d0, b0, q1, q4, d1, b1, q5, q6, d3, q7, b2, b3, dx, dy]) | ((first | refine RunTo.nilA (by kernel_rfl) ?_ | refine RunTo.nilT ?_ | refine awp_skip ?_ | refine awp_exit ?_ | refine awp_label ?_); simp only [go_sem, ↓reduceIte, Nat.reduceEqDiff, Nat.reduceAdd, Nat.reduceLeDiff, Nat.reduceBEq, Nat.reduceMul, reduceCtorEq, Int.reduceLE, Int.reduceLT, Int.reduceAdd, Int.reduceSub, Int.reduceNeg, Int.reduceToNat, Int.reduceBEq, bne, Bool.not_true, Bool.not_false, htk, hbB, hbS, List.length_map, lenTy, implies_true, wk1, wk2, wk3, wk4, d0, b0, q1, q4, d1, b1, q5, q6, d3, q7, b2, b3, dx, dy]) | (refine awp_cond' rfl (of_decide_eq_true rfl) (fun hc => ?_) (fun hc => ?_) <;> ((try simp only [Bool.not_true, Bool.not_false, Bool.not_eq_true', Bool.not_eq_false', Bool.not_eq_eq_eq_not] at hc); (first | (cases hc) | (simp only [hc]) | skip))))
                      all_goals (first | refine awp_ret ?_ | skip); refine ⟨(by first | exact .inl rfl | exact .inr rfl | exact .inr trivial | trivial), ?_⟩; simp only [go_sem, ↓reduceIte, Nat.reduceEqDiff, Nat.reduceAdd, Nat.reduceLeDiff, Nat.reduceBEq, Nat.reduceMul, reduceCtorEq, Int.reduceLE, Int.reduceLT, Int.reduceAdd, Int.reduceSub, Int.reduceNeg, Int.reduceToNat, Int.reduceBEq, retV, resL, resV, sealV, sealC, sealAll, Tryd.f104]
                      all_goals rfl
                    · have dy : decide ((0 : Int) ≤ y) = true := decide_eq_true (by omega)
                      have wA : IntKind.i64.wrap (x * 16) = x * 16 := IntWalk.i64_in _ (by omega)
                      have wB : IntKind.i64.wrap (x * 16 + y) = 16 * x + y := by rw [IntWalk.i64_in _ (by omega)]; omega
                      have wC : IntKind.u8.wrap (16 * x + y) = 16 * x + y := by show (16 * x + y) % 256 = _; omega
                      have dz1 : decide ((32 : Int) ≤ 16 * x + y) = true := decide_eq_true (by omega)
                      have dz2 : decide (16 * x + y ≤ (126 : Int)) = true := decide_eq_true (by omega)
                      repeat' (first | refine awp_seq ?_ | refine awp_block ?_ | refine awp_round ?_ | refine awp_scope ?_ | refine awp_text rfl ?_ | refine awp_any rfl mix (by kernel_rfl) ?_ | (refine RunTo.unguard rfl rfl (fun hg => ?_) (fun hg => ?_) <;> ((try simp only [Bool.not_true, Bool.not_false, Bool.not_eq_true', Bool.not_eq_false', Bool.not_eq_eq_eq_not] at hg); (first | (cases hg) | (simp only [hg]) | skip))) | ((first | refine RunTo.plain rfl ?_ | refine RunTo.skipped rfl ?_ | refine RunTo.call (i1) Tryd.func139 rfl rfl rfl rfl rfl rfl rfl rfl ?_ | refine RunTo.call (i2) Tryd.func139 rfl rfl rfl rfl rfl rfl rfl rfl ?_); simp only [go_sem, ↓reduceIte, Nat.reduceEqDiff, Nat.reduceAdd, Nat.reduceLeDiff, Nat.reduceBEq, Nat.reduceMul, reduceCtorEq, Int.reduceLE, Int.reduceLT, Int.reduceAdd, Int.reduceSub, Int.reduceNeg, Int.reduceToNat, Int.reduceBEq, bne, Bool.not_true, Bool.not_false, htk, hbB, hbS, List.length_map, lenTy, implies_true, wk1, wk2, wk3, wk4, d0, b0, q1, q4, d1, b1, q5, q6, d3, q7, b2, b3, dx, dy, ↓wA, ↓wB, ↓wC, dz1, dz2]) | ((first | refine RunTo.nilA (by kernel_rfl) ?_ | refine RunTo.nilT ?_ | refine awp_skip ?_ | refine awp_exit ?_ | refine awp_label ?_); simp only [go_sem, ↓reduceIte, Nat.reduceEqDiff, Nat.reduceAdd, Nat.reduceLeDiff, Nat.reduceBEq, Nat.reduceMul, reduceCtorEq, Int.reduceLE, Int.reduceLT, Int.reduceAdd, Int.reduceSub, Int.reduceNeg, Int.reduceToNat, Int.reduceBEq, bne, Bool.not_true, Bool.not_false, htk, hbB, hbS, List.length_map, lenTy, implies_true, wk1, wk2, wk3, wk4, d0, b0, q1, q4, d1, b1, q5, q6, d3, q7, b2, b3, dx, dy, ↓wA, ↓wB, ↓wC, dz1, dz2]) | (refine awp_cond' rfl (of_decide_eq_true rfl) (fun hc => ?_) (fun hc => ?_) <;> ((try simp only [Bool.not_true, Bool.not_false, Bool.not_eq_true', Bool.not_eq_false', Bool.not_eq_eq_eq_not] at hc); (first | (cases hc) | (simp only [hc]) | skip))))
                      all_goals (first | refine awp_ret ?_ | skip); refine ⟨(by first | exact .inl rfl | exact .inr rfl | exact .inr trivial | trivial), ?_⟩; simp only [go_sem, ↓reduceIte, Nat.reduceEqDiff, Nat.reduceAdd, Nat.reduceLeDiff, Nat.reduceBEq, Nat.reduceMul, reduceCtorEq, Int.reduceLE, Int.reduceLT, Int.reduceAdd, Int.reduceSub, Int.reduceNeg, Int.reduceToNat, Int.reduceBEq, retV, resL, resV, sealV, sealC, sealAll, Tryd.f104]
                      all_goals rfl
                · rw [byte_e5 _ _ _ _ _ e3 e6 e7, ← hc0, ← hc1, ← hc2, ← hc3, ← drop_cons s (k + 1 + 1 + 1) g2, ← drop_cons s (k + 1 + 1) g3, ← drop_cons s (k + 1) g1, ← drop_cons s k h0, hc2, hc3] at hx
                  clear hx0
                  generalize s[k + 2] = a at *
                  generalize s[k + 3] = b at *
                  generalize hexI a = x at *
                  generalize hexI b = y at *
                  have dx : decide ((0 : Int) ≤ x) = true := decide_eq_true (by omega)
                  have dy : decide ((0 : Int) ≤ y) = true := decide_eq_true (by omega)
                  have wA : IntKind.i64.wrap (x * 16) = x * 16 := IntWalk.i64_in _ (by omega)
                  have wB : IntKind.i64.wrap (x * 16 + y) = 16 * x + y := by rw [IntWalk.i64_in _ (by omega)]; omega
                  have wC := wrap8 (16 * x + y) (by omega)
                  have hcc : ((16 * x + y).toNat.toUInt8).toNat = (16 * x + y).toNat := by simp only [Nat.toUInt8, UInt8.toNat_ofNat']; omega
                  generalize (16 * x + y).toNat.toUInt8 = c' at *
                  have hn : ¬ (32 ≤ c'.toNat ∧ c'.toNat ≤ 126) := by omega
                  by_cases z1 : 32 ≤ c'.toNat
                  · have dz1 : decide ((32 : Int) ≤ (c'.toNat : Int)) = true := decide_eq_true (by omega)
                    have dz2 : decide ((c'.toNat : Int) ≤ 126) = false := decide_eq_false (by omega)
                    simp only at hx
                    by_cases h256 : acc.length = 256
                    · rw [if_pos h256] at hx
                      have q := beq_t (show (acc.length : Int) = 256 by omega)
                      simp only [RT.add] at hx
                      rw [hx]
                      repeat' (first | refine awp_seq ?_ | refine awp_block ?_ | refine awp_round ?_ | refine awp_scope ?_ | refine awp_text rfl ?_ | refine awp_any rfl mix (by kernel_rfl) ?_ | (refine RunTo.unguard rfl rfl (fun hg => ?_) (fun hg => ?_) <;> ((try simp only [Bool.not_true, Bool.not_false, Bool.not_eq_true', Bool.not_eq_false', Bool.not_eq_eq_eq_not] at hg); (first | (cases hg) | (simp only [hg]) | skip))) | ((first | refine RunTo.plain rfl ?_ | refine RunTo.skipped rfl ?_ | refine RunTo.call (i1) Tryd.func139 rfl rfl rfl rfl rfl rfl rfl rfl ?_ | refine RunTo.call (i2) Tryd.func139 rfl rfl rfl rfl rfl rfl rfl rfl ?_); simp only [go_sem, ↓reduceIte, Nat.reduceEqDiff, Nat.reduceAdd, Nat.reduceLeDiff, Nat.reduceBEq, Nat.reduceMul, reduceCtorEq, Int.reduceLE, Int.reduceLT, Int.reduceAdd, Int.reduceSub, Int.reduceNeg, Int.reduceToNat, Int.reduceBEq, bne, Bool.not_true, Bool.not_false, htk, hbB, hbS, List.length_map, lenTy, implies_true, wk1, wk2, wk3, wk4, d0, b0, q1, q4, d1, b1, q5, q6, d3, q7, b2, b3, dx, dy, ↓wA, ↓wB, ↓wC, dz1, dz2, q]) | ((first | refine RunTo.nilA (by kernel_rfl) ?_ | refine RunTo.nilT ?_ | refine awp_skip ?_ | refine awp_exit ?_ | refine awp_label ?_); simp only [go_sem, ↓reduceIte, Nat.reduceEqDiff, Nat.reduceAdd, Nat.reduceLeDiff, Nat.reduceBEq, Nat.reduceMul, reduceCtorEq, Int.reduceLE, Int.reduceLT, Int.reduceAdd, Int.reduceSub, Int.reduceNeg, Int.reduceToNat, Int.reduceBEq, bne, Bool.not_true, Bool.not_false, htk, hbB, hbS, List.length_map, lenTy, implies_true, wk1, wk2, wk3, wk4, d0, b0, q1, q4, d1, b1, q5, q6, d3, q7, b2, b3, dx, dy, ↓wA, ↓wB, ↓wC, dz1, dz2, q]) | (refine awp_cond' rfl (of_decide_eq_true rfl) (fun hc => ?_) (fun hc => ?_) <;> ((try simp only [Bool.not_true, Bool.not_false, Bool.not_eq_true', Bool.not_eq_false', Bool.not_eq_eq_eq_not] at hc); (first | (cases hc) | (simp only [hc]) | skip))))
                      all_goals (first | refine awp_ret ?_ | skip); refine ⟨(by first | exact .inl rfl | exact .inr rfl | exact .inr trivial | trivial), ?_⟩; simp only [go_sem, ↓reduceIte, Nat.reduceEqDiff, Nat.reduceAdd, Nat.reduceLeDiff, Nat.reduceBEq, Nat.reduceMul, reduceCtorEq, Int.reduceLE, Int.reduceLT, Int.reduceAdd, Int.reduceSub, Int.reduceNeg, Int.reduceToNat, Int.reduceBEq, retV, resL, resV, sealV, sealC, sealAll, Tryd.f104]
                      all_goals rfl
                    · rw [if_neg h256] at hx
                      have q := beq_f (show (acc.length : Int) ≠ 256 by omega)
                      have hlen : (acc ++ [c']).length = acc.length + 1 := by simp
                      repeat' (first | refine awp_seq ?_ | refine awp_block ?_ | refine awp_round ?_ | refine awp_scope ?_ | refine awp_text rfl ?_ | refine awp_any rfl mix (by kernel_rfl) ?_ | (refine RunTo.unguard rfl rfl (fun hg => ?_) (fun hg => ?_) <;> ((try simp only [Bool.not_true, Bool.not_false, Bool.not_eq_true', Bool.not_eq_false', Bool.not_eq_eq_eq_not] at hg); (first | (cases hg) | (simp only [hg]) | skip))) | ((first | refine RunTo.plain rfl ?_ | refine RunTo.skipped rfl ?_ | refine RunTo.call (i1) Tryd.func139 rfl rfl rfl rfl rfl rfl rfl rfl ?_ | refine RunTo.call (i2) Tryd.func139 rfl rfl rfl rfl rfl rfl rfl rfl ?_); simp only [go_sem, ↓reduceIte, Nat.reduceEqDiff, Nat.reduceAdd, Nat.reduceLeDiff, Nat.reduceBEq, Nat.reduceMul, reduceCtorEq, Int.reduceLE, Int.reduceLT, Int.reduceAdd, Int.reduceSub, Int.reduceNeg, Int.reduceToNat, Int.reduceBEq, bne, Bool.not_true, Bool.not_false, htk, hbB, hbS, List.length_map, lenTy, implies_true, wk1, wk2, wk3, wk4, q, c1, c2, d0, b0, q1, q4, d1, b1, q5, q6, d3, q7, b2, b3, dx, dy, ↓wA, ↓wB, ↓wC, dz1, dz2]) | ((first | refine RunTo.nilA (by kernel_rfl) ?_ | refine RunTo.nilT ?_ | refine awp_skip ?_ | refine awp_exit ?_ | refine awp_label ?_); simp only [go_sem, ↓reduceIte, Nat.reduceEqDiff, Nat.reduceAdd, Nat.reduceLeDiff, Nat.reduceBEq, Nat.reduceMul, reduceCtorEq, Int.reduceLE, Int.reduceLT, Int.reduceAdd, Int.reduceSub, Int.reduceNeg, Int.reduceToNat, Int.reduceBEq, bne, Bool.not_true, Bool.not_false, htk, hbB, hbS, List.length_map, lenTy, implies_true, wk1, wk2, wk3, wk4, q, c1, c2, d0, b0, q1, q4, d1, b1, q5, q6, d3, q7, b2, b3, dx, dy, ↓wA, ↓wB, ↓wC, dz1, dz2]) | (refine awp_cond' rfl (of_decide_eq_true rfl) (fun hc => ?_) (fun hc => ?_) <;> ((try simp only [Bool.not_true, Bool.not_false, Bool.not_eq_true', Bool.not_eq_false', Bool.not_eq_eq_eq_not] at hc); (first | (cases hc) | (simp only [hc]) | skip))))
                      all_goals exact ⟨257 - (acc ++ [c']).length, by omega, SN2 s (k + 4) (acc ++ [c']) _ _, weak_keep ⟨rfl, rfl, by rw [hlen]; rfl, trivial⟩ ⟨by rw [hexB_app]; rfl, trivial⟩ (Nat.le_refl _), k + 4, acc ++ [c'], _, _, by omega, by omega, by omega, rfl, by rw [hx, RT.add_add, List.drop_drop, hlen, show 257 - (acc.length + 1) = 256 - acc.length by omega, show k - 1 + 4 = k + 4 - 1 by omega], rfl⟩
                  · have dz1 : decide ((32 : Int) ≤ (c'.toNat : Int)) = false := decide_eq_false (by omega)
                    simp only at hx
                    by_cases h256 : acc.length = 256
                    · rw [if_pos h256] at hx
                      have q := beq_t (show (acc.length : Int) = 256 by omega)
                      simp only [RT.add] at hx
                      rw [hx]
                      repeat' (first | refine awp_seq ?_ | refine awp_block ?_ | refine awp_round ?_ | refine awp_scope ?_ | refine awp_text rfl ?_ | refine awp_any rfl mix (by kernel_rfl) ?_ | (refine RunTo.unguard rfl rfl (fun hg => ?_) (fun hg => ?_) <;> ((try simp only [Bool.not_true, Bool.not_false, Bool.not_eq_true', Bool.not_eq_false', Bool.not_eq_eq_eq_not] at hg); (first | (cases hg) | (simp only [hg]) | skip))) | ((first | refine RunTo.plain rfl ?_ | refine RunTo.skipped rfl ?_ | refine RunTo.call (i1) Tryd.func139 rfl rfl rfl rfl rfl rfl rfl rfl ?_ | refine RunTo.call (i2) Tryd.func139 rfl rfl rfl rfl rfl rfl rfl rfl ?_); simp only [go_sem, ↓reduceIte, Nat.reduceEqDiff, Nat.reduceAdd, Nat.reduceLeDiff, Nat.reduceBEq, Nat.reduceMul, reduceCtorEq, Int.reduceLE, Int.reduceLT, Int.reduceAdd, Int.reduceSub, Int.reduceNeg, Int.reduceToNat, Int.reduceBEq, bne, Bool.not_true, Bool.not_false, htk, hbB, hbS, List.length_map, lenTy, implies_true, wk1, wk2, wk3, wk4, d0, b0, q1, q4, d1, b1, q5, q6, d3, q7, b2, b3, dx, dy, ↓wA, ↓wB, ↓wC, dz1, q]) | ((first | refine RunTo.nilA (by kernel_rfl) ?_ | refine RunTo.nilT ?_ | refine awp_skip ?_ | refine awp_exit ?_ | refine awp_label ?_); simp only [go_sem, ↓reduceIte, Nat.reduceEqDiff, Nat.reduceAdd, Nat.reduceLeDiff, Nat.reduceBEq, Nat.reduceMul, reduceCtorEq, Int.reduceLE, Int.reduceLT, Int.reduceAdd, Int.reduceSub, Int.reduceNeg, Int.reduceToNat, Int.reduceBEq, bne, Bool.not_true, Bool.not_false, htk, hbB, hbS, List.length_map, lenTy, implies_true, wk1, wk2, wk3, wk4, d0, b0, q1, q4, d1, b1, q5, q6, d3, q7, b2, b3, dx, dy, ↓wA, ↓wB, ↓wC, dz1, q]) | (refine awp_cond' rfl (of_decide_eq_true rfl) (fun hc => ?_) (fun hc => ?_) <;> ((try simp only [Bool.not_true, Bool.not_false, Bool.not_eq_true', Bool.not_eq_false', Bool.not_eq_eq_eq_not] at hc); (first | (cases hc) | (simp only [hc]) | skip))))
                      all_goals (first | refine awp_ret ?_ | skip); refine ⟨(by first | exact .inl rfl | exact .inr rfl | exact .inr trivial | trivial), ?_⟩; simp only [go_sem, ↓reduceIte, Nat.reduceEqDiff, Nat.reduceAdd, Nat.reduceLeDiff, Nat.reduceBEq, Nat.reduceMul, reduceCtorEq, Int.reduceLE, Int.reduceLT, Int.reduceAdd, Int.reduceSub, Int.reduceNeg, Int.reduceToNat, Int.reduceBEq, retV, resL, resV, sealV, sealC, sealAll, Tryd.f104]
                      all_goals rfl
                    · rw [if_neg h256] at hx
                      have q := beq_f (show (acc.length : Int) ≠ 256 by omega)
                      have hlen : (acc ++ [c']).length = acc.length + 1 := by simp
                      repeat' (first | refine awp_seq ?_ | refine awp_block ?_ | refine awp_round ?_ | refine awp_scope ?_ | refine awp_text rfl ?_ | refine awp_any rfl mix (by kernel_rfl) ?_ | (refine RunTo.unguard rfl rfl (fun hg => ?_) (fun hg => ?_) <;> ((try simp only [Bool.not_true, Bool.not_false, Bool.not_eq_true', Bool.not_eq_false', Bool.not_eq_eq_eq_not] at hg); (first | (cases hg) | (simp only [hg]) | skip))) | ((first | refine RunTo.plain rfl ?_ | refine RunTo.skipped rfl ?_ | refine RunTo.call (i1) Tryd.func139 rfl rfl rfl rfl rfl rfl rfl rfl ?_ | refine RunTo.call (i2) Tryd.func139 rfl rfl rfl rfl rfl rfl rfl rfl ?_); simp only [go_sem, ↓reduceIte, Nat.reduceEqDiff, Nat.reduceAdd, Nat.reduceLeDiff, Nat.reduceBEq, Nat.reduceMul, reduceCtorEq, Int.reduceLE, Int.reduceLT, Int.reduceAdd, Int.reduceSub, Int.reduceNeg, Int.reduceToNat, Int.reduceBEq, bne, Bool.not_true, Bool.not_false, htk, hbB, hbS, List.length_map, lenTy, implies_true, wk1, wk2, wk3, wk4, q, c1, c2, d0, b0, q1, q4, d1, b1, q5, q6, d3, q7, b2, b3, dx, dy, ↓wA, ↓wB, ↓wC, dz1]) | ((first | refine RunTo.nilA (by kernel_rfl) ?_ | refine RunTo.nilT ?_ | refine awp_skip ?_ | refine awp_exit ?_ | refine awp_label ?_); simp only [go_sem, ↓reduceIte, Nat.reduceEqDiff, Nat.reduceAdd, Nat.reduceLeDiff, Nat.reduceBEq, Nat.reduceMul, reduceCtorEq, Int.reduceLE, Int.reduceLT, Int.reduceAdd, Int.reduceSub, Int.reduceNeg, Int.reduceToNat, Int.reduceBEq, bne, Bool.not_true, Bool.not_false, htk, hbB, hbS, List.length_map, lenTy, implies_true, wk1, wk2, wk3, wk4, q, c1, c2, d0, b0, q1, q4, d1, b1, q5, q6, d3, q7, b2, b3, dx, dy, ↓wA, ↓wB, ↓wC, dz1]) | (refine awp_cond' rfl (of_decide_eq_true rfl) (fun hc => ?_) (fun hc => ?_) <;> ((try simp only [Bool.not_true, Bool.not_false, Bool.not_eq_true', Bool.not_eq_false', Bool.not_eq_eq_eq_not] at hc); (first | (cases hc) | (simp only [hc]) | skip))))
                      all_goals exact ⟨257 - (acc ++ [c']).length, by omega, SN2 s (k + 4) (acc ++ [c']) _ _, weak_keep ⟨rfl, rfl, by rw [hlen]; rfl, trivial⟩ ⟨by rw [hexB_app]; rfl, trivial⟩ (Nat.le_refl _), k + 4, acc ++ [c'], _, _, by omega, by omega, by omega, rfl, by rw [hx, RT.add_add, List.drop_drop, hlen, show 257 - (acc.length + 1) = 256 - acc.length by omega, show k - 1 + 4 = k + 4 - 1 by omega], rfl⟩
              · have q7 := beq_f (show (d.toNat : Int) ≠ 120 by omega)
                rw [byte_e2 _ _ _ e3 e4 e6] at hx
                simp only [RT.add] at hx
                rw [hx]
                repeat' (first | refine awp_seq ?_ | refine awp_block ?_ | refine awp_round ?_ | refine awp_scope ?_ | refine awp_text rfl ?_ | refine awp_any rfl mix (by kernel_rfl) ?_ | (refine RunTo.unguard rfl rfl (fun hg => ?_) (fun hg => ?_) <;> ((try simp only [Bool.not_true, Bool.not_false, Bool.not_eq_true', Bool.not_eq_false', Bool.not_eq_eq_eq_not] at hg); (first | (cases hg) | (simp only [hg]) | skip))) | ((first | refine RunTo.plain rfl ?_ | refine RunTo.skipped rfl ?_); simp only [go_sem, ↓reduceIte, Nat.reduceEqDiff, Nat.reduceAdd, Nat.reduceLeDiff, Nat.reduceBEq, Nat.reduceMul, reduceCtorEq, Int.reduceLE, Int.reduceLT, Int.reduceAdd, Int.reduceSub, Int.reduceNeg, Int.reduceToNat, Int.reduceBEq, bne, Bool.not_true, Bool.not_false, htk, hbB, hbS, List.length_map, lenTy, implies_true, wk1, wk2, wk3, wk4, d0, b0, q1, q4, d1, b1, q5, q6, d3, q7]) | ((first | refine RunTo.nilA (by kernel_rfl) ?_ | refine RunTo.nilT ?_ | refine awp_skip ?_ | refine awp_exit ?_ | refine awp_label ?_); simp only [go_sem, ↓reduceIte, Nat.reduceEqDiff, Nat.reduceAdd, Nat.reduceLeDiff, Nat.reduceBEq, Nat.reduceMul, reduceCtorEq, Int.reduceLE, Int.reduceLT, Int.reduceAdd, Int.reduceSub, Int.reduceNeg, Int.reduceToNat, Int.reduceBEq, bne, Bool.not_true, Bool.not_false, htk, hbB, hbS, List.length_map, lenTy, implies_true, wk1, wk2, wk3, wk4, d0, b0, q1, q4, d1, b1, q5, q6, d3, q7]) | (refine awp_cond' rfl (of_decide_eq_true rfl) (fun hc => ?_) (fun hc => ?_) <;> ((try simp only [Bool.not_true, Bool.not_false, Bool.not_eq_true', Bool.not_eq_false', Bool.not_eq_eq_eq_not] at hc); (first | (cases hc) | (simp only [hc]) | skip))))
                all_goals (first | refine awp_ret ?_ | skip); refine ⟨(by first | exact .inl rfl | exact .inr rfl | exact .inr trivial | trivial), ?_⟩; simp only [go_sem, ↓reduceIte, Nat.reduceEqDiff, Nat.reduceAdd, Nat.reduceLeDiff, Nat.reduceBEq, Nat.reduceMul, reduceCtorEq, Int.reduceLE, Int.reduceLT, Int.reduceAdd, Int.reduceSub, Int.reduceNeg, Int.reduceToNat, Int.reduceBEq, retV, resL, resV, sealV, sealC, sealAll, Tryd.f104]
                all_goals rfl
            · have d3 : decide (((k + 3 : Nat) : Int) < (s.size : Int)) = false := decide_eq_false (by omega)
              have hn : byteL (c :: d :: s.data.toList.drop (k + 1 + 1)) = none := by
                by_cases e6 : d.toNat = 120
                · exact byte_e3 _ _ _ e3 e6 (by rw [List.length_drop, Array.length_toList]; show s.size - _ < 2; omega)
                · exact byte_e2 _ _ _ e3 e4 e6
              rw [hn] at hx
              simp only [RT.add] at hx
              rw [hx]
              repeat' (first | refine awp_seq ?_ | refine awp_block ?_ | refine awp_round ?_ | refine awp_scope ?_ | refine awp_text rfl ?_ | refine awp_any rfl mix (by kernel_rfl) ?_ | (refine RunTo.unguard rfl rfl (fun hg => ?_) (fun hg => ?_) <;> ((try simp only [Bool.not_true, Bool.not_false, Bool.not_eq_true', Bool.not_eq_false', Bool.not_eq_eq_eq_not] at hg); (first | (cases hg) | (simp only [hg]) | skip))) | ((first | refine RunTo.plain rfl ?_ | refine RunTo.skipped rfl ?_); simp only [go_sem, ↓reduceIte, Nat.reduceEqDiff, Nat.reduceAdd, Nat.reduceLeDiff, Nat.reduceBEq, Nat.reduceMul, reduceCtorEq, Int.reduceLE, Int.reduceLT, Int.reduceAdd, Int.reduceSub, Int.reduceNeg, Int.reduceToNat, Int.reduceBEq, bne, Bool.not_true, Bool.not_false, htk, hbB, hbS, List.length_map, lenTy, implies_true, wk1, wk2, wk3, wk4, d0, b0, q1, q4, d1, b1, q5, q6, d3]) | ((first | refine RunTo.nilA (by kernel_rfl) ?_ | refine RunTo.nilT ?_ | refine awp_skip ?_ | refine awp_exit ?_ | refine awp_label ?_); simp only [go_sem, ↓reduceIte, Nat.reduceEqDiff, Nat.reduceAdd, Nat.reduceLeDiff, Nat.reduceBEq, Nat.reduceMul, reduceCtorEq, Int.reduceLE, Int.reduceLT, Int.reduceAdd, Int.reduceSub, Int.reduceNeg, Int.reduceToNat, Int.reduceBEq, bne, Bool.not_true, Bool.not_false, htk, hbB, hbS, List.length_map, lenTy, implies_true, wk1, wk2, wk3, wk4, d0, b0, q1, q4, d1, b1, q5, q6, d3]) | (refine awp_cond' rfl (of_decide_eq_true rfl) (fun hc => ?_) (fun hc => ?_) <;> ((try simp only [Bool.not_true, Bool.not_false, Bool.not_eq_true', Bool.not_eq_false', Bool.not_eq_eq_eq_not] at hc); (first | (cases hc) | (simp only [hc]) | skip))))
              all_goals (first | refine awp_ret ?_ | skip); refine ⟨(by first | exact .inl rfl | exact .inr rfl | exact .inr trivial | trivial), ?_⟩; simp only [go_sem, ↓reduceIte, Nat.reduceEqDiff, Nat.reduceAdd, Nat.reduceLeDiff, Nat.reduceBEq, Nat.reduceMul, reduceCtorEq, Int.reduceLE, Int.reduceLT, Int.reduceAdd, Int.reduceSub, Int.reduceNeg, Int.reduceToNat, Int.reduceBEq, retV, resL, resV, sealV, sealC, sealAll, Tryd.f104]
              all_goals rfl
        · have d1 : decide (((k + 1 : Nat) : Int) < (s.size : Int)) = false := decide_eq_false (by omega)
          have d3 : decide (((k + 3 : Nat) : Int) < (s.size : Int)) = false := decide_eq_false (by omega)
          rw [drop_end s (k + 1) (by omega), byte_e0 _ e3] at hx
          simp only [RT.add] at hx
          rw [hx]
          repeat' (first | refine awp_seq ?_ | refine awp_block ?_ | refine awp_round ?_ | refine awp_scope ?_ | refine awp_text rfl ?_ | refine awp_any rfl mix (by kernel_rfl) ?_ | (refine RunTo.unguard rfl rfl (fun hg => ?_) (fun hg => ?_) <;> ((try simp only [Bool.not_true, Bool.not_false, Bool.not_eq_true', Bool.not_eq_false', Bool.not_eq_eq_eq_not] at hg); (first | (cases hg) | (simp only [hg]) | skip))) | ((first | refine RunTo.plain rfl ?_ | refine RunTo.skipped rfl ?_); simp only [go_sem, ↓reduceIte, Nat.reduceEqDiff, Nat.reduceAdd, Nat.reduceLeDiff, Nat.reduceBEq, Nat.reduceMul, reduceCtorEq, Int.reduceLE, Int.reduceLT, Int.reduceAdd, Int.reduceSub, Int.reduceNeg, Int.reduceToNat, Int.reduceBEq, bne, Bool.not_true, Bool.not_false, htk, hbB, hbS, List.length_map, lenTy, implies_true, wk1, wk2, wk3, wk4, d0, b0, q1, q4, d1, d3]) | ((first | refine RunTo.nilA (by kernel_rfl) ?_ | refine RunTo.nilT ?_ | refine awp_skip ?_ | refine awp_exit ?_ | refine awp_label ?_); simp only [go_sem, ↓reduceIte, Nat.reduceEqDiff, Nat.reduceAdd, Nat.reduceLeDiff, Nat.reduceBEq, Nat.reduceMul, reduceCtorEq, Int.reduceLE, Int.reduceLT, Int.reduceAdd, Int.reduceSub, Int.reduceNeg, Int.reduceToNat, Int.reduceBEq, bne, Bool.not_true, Bool.not_false, htk, hbB, hbS, List.length_map, lenTy, implies_true, wk1, wk2, wk3, wk4, d0, b0, q1, q4, d1, d3]) | (refine awp_cond' rfl (of_decide_eq_true rfl) (fun hc => ?_) (fun hc => ?_) <;> ((try simp only [Bool.not_true, Bool.not_false, Bool.not_eq_true', Bool.not_eq_false', Bool.not_eq_eq_eq_not] at hc); (first | (cases hc) | (simp only [hc]) | skip))))
          all_goals (first | refine awp_ret ?_ | skip); refine ⟨(by first | exact .inl rfl | exact .inr rfl | exact .inr trivial | trivial), ?_⟩; simp only [go_sem, ↓reduceIte, Nat.reduceEqDiff, Nat.reduceAdd, Nat.reduceLeDiff, Nat.reduceBEq, Nat.reduceMul, reduceCtorEq, Int.reduceLE, Int.reduceLT, Int.reduceAdd, Int.reduceSub, Int.reduceNeg, Int.reduceToNat, Int.reduceBEq, retV, resL, resV, sealV, sealC, sealAll, Tryd.f104]
          all_goals rfl
      · have q4 := beq_f (show (c.toNat : Int) ≠ 92 by omega)
        by_cases e2 : c.toNat < 32
        · have d2 : decide ((c.toNat : Int) < 32) = true := decide_eq_true (by omega)
          rw [byte_r _ _ e1 (.inl e2)] at hx
          simp only [RT.add] at hx
          rw [hx]
          repeat' (first | refine awp_seq ?_ | refine awp_block ?_ | refine awp_round ?_ | refine awp_scope ?_ | refine awp_text rfl ?_ | refine awp_any rfl mix (by kernel_rfl) ?_ | (refine RunTo.unguard rfl rfl (fun hg => ?_) (fun hg => ?_) <;> ((try simp only [Bool.not_true, Bool.not_false, Bool.not_eq_true', Bool.not_eq_false', Bool.not_eq_eq_eq_not] at hg); (first | (cases hg) | (simp only [hg]) | skip))) | ((first | refine RunTo.plain rfl ?_ | refine RunTo.skipped rfl ?_); simp only [go_sem, ↓reduceIte, Nat.reduceEqDiff, Nat.reduceAdd, Nat.reduceLeDiff, Nat.reduceBEq, Nat.reduceMul, reduceCtorEq, Int.reduceLE, Int.reduceLT, Int.reduceAdd, Int.reduceSub, Int.reduceNeg, Int.reduceToNat, Int.reduceBEq, bne, Bool.not_true, Bool.not_false, htk, hbB, hbS, List.length_map, lenTy, implies_true, wk1, wk2, wk3, wk4, d0, b0, q1, q4, d2]) | ((first | refine RunTo.nilA (by kernel_rfl) ?_ | refine RunTo.nilT ?_ | refine awp_skip ?_ | refine awp_exit ?_ | refine awp_label ?_); simp only [go_sem, ↓reduceIte, Nat.reduceEqDiff, Nat.reduceAdd, Nat.reduceLeDiff, Nat.reduceBEq, Nat.reduceMul, reduceCtorEq, Int.reduceLE, Int.reduceLT, Int.reduceAdd, Int.reduceSub, Int.reduceNeg, Int.reduceToNat, Int.reduceBEq, bne, Bool.not_true, Bool.not_false, htk, hbB, hbS, List.length_map, lenTy, implies_true, wk1, wk2, wk3, wk4, d0, b0, q1, q4, d2]) | (refine awp_cond' rfl (of_decide_eq_true rfl) (fun hc => ?_) (fun hc => ?_) <;> ((try simp only [Bool.not_true, Bool.not_false, Bool.not_eq_true', Bool.not_eq_false', Bool.not_eq_eq_eq_not] at hc); (first | (cases hc) | (simp only [hc]) | skip))))
          all_goals (first | refine awp_ret ?_ | skip); refine ⟨(by first | exact .inl rfl | exact .inr rfl | exact .inr trivial | trivial), ?_⟩; simp only [go_sem, ↓reduceIte, Nat.reduceEqDiff, Nat.reduceAdd, Nat.reduceLeDiff, Nat.reduceBEq, Nat.reduceMul, reduceCtorEq, Int.reduceLE, Int.reduceLT, Int.reduceAdd, Int.reduceSub, Int.reduceNeg, Int.reduceToNat, Int.reduceBEq, retV, resL, resV, sealV, sealC, sealAll, Tryd.f104]
          all_goals rfl
        · have d2 : decide ((c.toNat : Int) < 32) = false := decide_eq_false (by omega)
          by_cases e5 : 126 < c.toNat
          · have d5 : decide ((126 : Int) < (c.toNat : Int)) = true := decide_eq_true (by omega)
            rw [byte_r _ _ e1 (.inr e5)] at hx
            simp only [RT.add] at hx
            rw [hx]
            repeat' (first | refine awp_seq ?_ | refine awp_block ?_ | refine awp_round ?_ | refine awp_scope ?_ | refine awp_text rfl ?_ | refine awp_any rfl mix (by kernel_rfl) ?_ | (refine RunTo.unguard rfl rfl (fun hg => ?_) (fun hg => ?_) <;> ((try simp only [Bool.not_true, Bool.not_false, Bool.not_eq_true', Bool.not_eq_false', Bool.not_eq_eq_eq_not] at hg); (first | (cases hg) | (simp only [hg]) | skip))) | ((first | refine RunTo.plain rfl ?_ | refine RunTo.skipped rfl ?_); simp only [go_sem, ↓reduceIte, Nat.reduceEqDiff, Nat.reduceAdd, Nat.reduceLeDiff, Nat.reduceBEq, Nat.reduceMul, reduceCtorEq, Int.reduceLE, Int.reduceLT, Int.reduceAdd, Int.reduceSub, Int.reduceNeg, Int.reduceToNat, Int.reduceBEq, bne, Bool.not_true, Bool.not_false, htk, hbB, hbS, List.length_map, lenTy, implies_true, wk1, wk2, wk3, wk4, d0, b0, q1, q4, d2, d5]) | ((first | refine RunTo.nilA (by kernel_rfl) ?_ | refine RunTo.nilT ?_ | refine awp_skip ?_ | refine awp_exit ?_ | refine awp_label ?_); simp only [go_sem, ↓reduceIte, Nat.reduceEqDiff, Nat.reduceAdd, Nat.reduceLeDiff, Nat.reduceBEq, Nat.reduceMul, reduceCtorEq, Int.reduceLE, Int.reduceLT, Int.reduceAdd, Int.reduceSub, Int.reduceNeg, Int.reduceToNat, Int.reduceBEq, bne, Bool.not_true, Bool.not_false, htk, hbB, hbS, List.length_map, lenTy, implies_true, wk1, wk2, wk3, wk4, d0, b0, q1, q4, d2, d5]) | (refine awp_cond' rfl (of_decide_eq_true rfl) (fun hc => ?_) (fun hc => ?_) <;> ((try simp only [Bool.not_true, Bool.not_false, Bool.not_eq_true', Bool.not_eq_false', Bool.not_eq_eq_eq_not] at hc); (first | (cases hc) | (simp only [hc]) | skip))))
            all_goals (first | refine awp_ret ?_ | skip); refine ⟨(by first | exact .inl rfl | exact .inr rfl | exact .inr trivial | trivial), ?_⟩; simp only [go_sem, ↓reduceIte, Nat.reduceEqDiff, Nat.reduceAdd, Nat.reduceLeDiff, Nat.reduceBEq, Nat.reduceMul, reduceCtorEq, Int.reduceLE, Int.reduceLT, Int.reduceAdd, Int.reduceSub, Int.reduceNeg, Int.reduceToNat, Int.reduceBEq, retV, resL, resV, sealV, sealC, sealAll, Tryd.f104]
            all_goals rfl
          · have d5 : decide ((126 : Int) < (c.toNat : Int)) = false := decide_eq_false (by omega)
            rw [byte_p _ _ e1 (by omega) e3, ← hc0, ← drop_cons s k h0, hc0] at hx
            simp only at hx
            by_cases h256 : acc.length = 256
            · rw [if_pos h256] at hx
              have q := beq_t (show (acc.length : Int) = 256 by omega)
              simp only [RT.add] at hx
              rw [hx]
              repeat' (first | refine awp_seq ?_ | refine awp_block ?_ | refine awp_round ?_ | refine awp_scope ?_ | refine awp_text rfl ?_ | refine awp_any rfl mix (by kernel_rfl) ?_ | (refine RunTo.unguard rfl rfl (fun hg => ?_) (fun hg => ?_) <;> ((try simp only [Bool.not_true, Bool.not_false, Bool.not_eq_true', Bool.not_eq_false', Bool.not_eq_eq_eq_not] at hg); (first | (cases hg) | (simp only [hg]) | skip))) | ((first | refine RunTo.plain rfl ?_ | refine RunTo.skipped rfl ?_); simp only [go_sem, ↓reduceIte, Nat.reduceEqDiff, Nat.reduceAdd, Nat.reduceLeDiff, Nat.reduceBEq, Nat.reduceMul, reduceCtorEq, Int.reduceLE, Int.reduceLT, Int.reduceAdd, Int.reduceSub, Int.reduceNeg, Int.reduceToNat, Int.reduceBEq, bne, Bool.not_true, Bool.not_false, htk, hbB, hbS, List.length_map, lenTy, implies_true, wk1, wk2, wk3, wk4, d0, b0, q1, q4, d2, d5, q]) | ((first | refine RunTo.nilA (by kernel_rfl) ?_ | refine RunTo.nilT ?_ | refine awp_skip ?_ | refine awp_exit ?_ | refine awp_label ?_); simp only [go_sem, ↓reduceIte, Nat.reduceEqDiff, Nat.reduceAdd, Nat.reduceLeDiff, Nat.reduceBEq, Nat.reduceMul, reduceCtorEq, Int.reduceLE, Int.reduceLT, Int.reduceAdd, Int.reduceSub, Int.reduceNeg, Int.reduceToNat, Int.reduceBEq, bne, Bool.not_true, Bool.not_false, htk, hbB, hbS, List.length_map, lenTy, implies_true, wk1, wk2, wk3, wk4, d0, b0, q1, q4, d2, d5, q]) | (refine awp_cond' rfl (of_decide_eq_true rfl) (fun hc => ?_) (fun hc => ?_) <;> ((try simp only [Bool.not_true, Bool.not_false, Bool.not_eq_true', Bool.not_eq_false', Bool.not_eq_eq_eq_not] at hc); (first | (cases hc) | (simp only [hc]) | skip))))
              all_goals (first | refine awp_ret ?_ | skip); refine ⟨(by first | exact .inl rfl | exact .inr rfl | exact .inr trivial | trivial), ?_⟩; simp only [go_sem, ↓reduceIte, Nat.reduceEqDiff, Nat.reduceAdd, Nat.reduceLeDiff, Nat.reduceBEq, Nat.reduceMul, reduceCtorEq, Int.reduceLE, Int.reduceLT, Int.reduceAdd, Int.reduceSub, Int.reduceNeg, Int.reduceToNat, Int.reduceBEq, retV, resL, resV, sealV, sealC, sealAll, Tryd.f104]
              all_goals rfl
            · rw [if_neg h256] at hx
              have q := beq_f (show (acc.length : Int) ≠ 256 by omega)
              have hlen : (acc ++ [c]).length = acc.length + 1 := by simp
              repeat' (first | refine awp_seq ?_ | refine awp_block ?_ | refine awp_round ?_ | refine awp_scope ?_ | refine awp_text rfl ?_ | refine awp_any rfl mix (by kernel_rfl) ?_ | (refine RunTo.unguard rfl rfl (fun hg => ?_) (fun hg => ?_) <;> ((try simp only [Bool.not_true, Bool.not_false, Bool.not_eq_true', Bool.not_eq_false', Bool.not_eq_eq_eq_not] at hg); (first | (cases hg) | (simp only [hg]) | skip))) | ((first | refine RunTo.plain rfl ?_ | refine RunTo.skipped rfl ?_); simp only [go_sem, ↓reduceIte, Nat.reduceEqDiff, Nat.reduceAdd, Nat.reduceLeDiff, Nat.reduceBEq, Nat.reduceMul, reduceCtorEq, Int.reduceLE, Int.reduceLT, Int.reduceAdd, Int.reduceSub, Int.reduceNeg, Int.reduceToNat, Int.reduceBEq, bne, Bool.not_true, Bool.not_false, htk, hbB, hbS, List.length_map, lenTy, implies_true, wk1, wk2, wk3, wk4, q, c1, c2, d0, b0, q1, q4, d2, d5]) | ((first | refine RunTo.nilA (by kernel_rfl) ?_ | refine RunTo.nilT ?_ | refine awp_skip ?_ | refine awp_exit ?_ | refine awp_label ?_); simp only [go_sem, ↓reduceIte, Nat.reduceEqDiff, Nat.reduceAdd, Nat.reduceLeDiff, Nat.reduceBEq, Nat.reduceMul, reduceCtorEq, Int.reduceLE, Int.reduceLT, Int.reduceAdd, Int.reduceSub, Int.reduceNeg, Int.reduceToNat, Int.reduceBEq, bne, Bool.not_true, Bool.not_false, htk, hbB, hbS, List.length_map, lenTy, implies_true, wk1, wk2, wk3, wk4, q, c1, c2, d0, b0, q1, q4, d2, d5]) | (refine awp_cond' rfl (of_decide_eq_true rfl) (fun hc => ?_) (fun hc => ?_) <;> ((try simp only [Bool.not_true, Bool.not_false, Bool.not_eq_true', Bool.not_eq_false', Bool.not_eq_eq_eq_not] at hc); (first | (cases hc) | (simp only [hc]) | skip))))
              all_goals exact ⟨257 - (acc ++ [c]).length, by omega, SN2 s (k + 1) (acc ++ [c]) _ _, weak_keep ⟨rfl, rfl, by rw [hlen]; rfl, trivial⟩ ⟨by rw [hexB_app]; rfl, trivial⟩ (Nat.le_refl _), k + 1, acc ++ [c], _, _, by omega, by omega, by omega, rfl, by rw [hx, RT.add_add, List.drop_drop, hlen, show 257 - (acc.length + 1) = 256 - acc.length by omega, show k - 1 + 1 = k + 1 - 1 by omega], rfl⟩
  · have d0 := lt_f h0
    rw [drop_end s k (by omega)] at hx
    simp only [byteL] at hx
    simp only [RT.add] at hx
    rw [hx]
    repeat' (first | refine awp_seq ?_ | refine awp_block ?_ | refine awp_round ?_ | refine awp_scope ?_ | refine awp_text rfl ?_ | refine awp_any rfl mix (by kernel_rfl) ?_ | (refine RunTo.unguard rfl rfl (fun hg => ?_) (fun hg => ?_) <;> ((try simp only [Bool.not_true, Bool.not_false, Bool.not_eq_true', Bool.not_eq_false', Bool.not_eq_eq_eq_not] at hg); (first | (cases hg) | (simp only [hg]) | skip))) | ((first | refine RunTo.plain rfl ?_ | refine RunTo.skipped rfl ?_); simp only [go_sem, ↓reduceIte, Nat.reduceEqDiff, Nat.reduceAdd, Nat.reduceLeDiff, Nat.reduceBEq, Nat.reduceMul, reduceCtorEq, Int.reduceLE, Int.reduceLT, Int.reduceAdd, Int.reduceSub, Int.reduceNeg, Int.reduceToNat, Int.reduceBEq, bne, Bool.not_true, Bool.not_false, htk, hbB, hbS, List.length_map, lenTy, implies_true, wk1, wk2, wk3, wk4, d0]) | ((first | refine RunTo.nilA (by kernel_rfl) ?_ | refine RunTo.nilT ?_ | refine awp_skip ?_ | refine awp_exit ?_ | refine awp_label ?_); simp only [go_sem, ↓reduceIte, Nat.reduceEqDiff, Nat.reduceAdd, Nat.reduceLeDiff, Nat.reduceBEq, Nat.reduceMul, reduceCtorEq, Int.reduceLE, Int.reduceLT, Int.reduceAdd, Int.reduceSub, Int.reduceNeg, Int.reduceToNat, Int.reduceBEq, bne, Bool.not_true, Bool.not_false, htk, hbB, hbS, List.length_map, lenTy, implies_true, wk1, wk2, wk3, wk4, d0]) | (refine awp_cond' rfl (of_decide_eq_true rfl) (fun hc => ?_) (fun hc => ?_) <;> ((try simp only [Bool.not_true, Bool.not_false, Bool.not_eq_true', Bool.not_eq_false', Bool.not_eq_eq_eq_not] at hc); (first | (cases hc) | (simp only [hc]) | skip))))
    all_goals (first | refine awp_ret ?_ | skip); refine ⟨(by first | exact .inl rfl | exact .inr rfl | exact .inr trivial | trivial), ?_⟩; simp only [go_sem, ↓reduceIte, Nat.reduceEqDiff, Nat.reduceAdd, Nat.reduceLeDiff, Nat.reduceBEq, Nat.reduceMul, reduceCtorEq, Int.reduceLE, Int.reduceLT, Int.reduceAdd, Int.reduceSub, Int.reduceNeg, Int.reduceToNat, Int.reduceBEq, retV, resL, resV, sealV, sealC, sealAll, Tryd.f104]
    all_goals rfl
end Go.Proofs.YtjihcldhjpdnmaaDoor.AM
namespace Go.Proofs.YtjihcldhjpdnmaaDoor.AM
open Go.RowKit
set_option linter.unusedSimpArgs false
set_option linter.unusedVariables false
set_option maxRecDepth 10000
set_option maxHeartbeats 0
abbrev sepB : ByteArray := ⟨#[44, 32]⟩
def printV (v : ValD) : ByteArray := if validV v = true then (if v.a.k = 6 then (⟨#[91]⟩ : ByteArray) ++ joinB (v.l.map printA) sepB ++ ⟨#[93]⟩ else printA v.a) else eE
def okA (a : AtomD) : Prop := i64B a.n ∧ a.s.size ≤ 1000000
def okV (v : ValD) : Prop := okA v.a ∧ ∀ a ∈ v.l, okA a
end Go.Proofs.YtjihcldhjpdnmaaDoor.AM
namespace Go.Proofs.YtjihcldhjpdnmaaDoor.AM
open Go.RowKit
set_option linter.unusedSimpArgs false
set_option linter.unusedVariables false
set_option maxRecDepth 10000
set_option maxHeartbeats 0
theorem hexB_hexI (c : UInt8) (h : 0 ≤ hexI c) : hexB (hexI c).toNat = c := by
  have k : ∀ n : Nat, n < 256 → (decide (0 ≤ Lib.indexByte hexDigs.data.toList n.toUInt8) = false ∨ hexB (Lib.indexByte hexDigs.data.toList n.toUInt8).toNat = n.toUInt8) := by decide +kernel
  have := k c.toNat c.toNat_lt
  have e : c.toNat.toUInt8 = c := by simp
  rw [e] at this
  rcases this with h2 | h2
  · have := of_decide_eq_false h2; exact absurd h this
  · exact h2
theorem u8_of {c : UInt8} {n : Nat} (hn : n < 256) (h : c.toNat = n) : c = UInt8.ofNat n := by
  apply UInt8.toNat_inj.1
  rw [h]; simp; omega
theorem byteL_esc {l : List UInt8} {c : UInt8} {n : Nat} (h : byteL l = some (some c, n)) : l.take n = escB c := by
  cases l with
  | nil => simp [byteL] at h
  | cons b l =>
    have hb := b.toNat_lt
    by_cases e1 : b.toNat = 34
    · rw [byte_q _ _ e1] at h; simp at h
    · by_cases e2 : b.toNat < 32 ∨ 126 < b.toNat
      · rw [byte_r _ _ e1 e2] at h; cases h
      · by_cases e3 : b.toNat = 92
        · have hb92 : b = 92 := u8_of (by decide) e3
          cases l with
          | nil => rw [byte_e0 _ e3] at h; cases h
          | cons d l =>
            by_cases e4 : d.toNat = 34 ∨ d.toNat = 92
            · rw [byte_e1 _ _ _ e3 e4] at h
              simp only [Option.some.injEq, Prod.mk.injEq] at h
              obtain ⟨rfl, rfl⟩ := h
              unfold escB
              rw [if_pos (by omega), hb92]; rfl
            · by_cases e5 : d.toNat = 120
              · have hd120 : d = 120 := u8_of (by decide) e5
                match l, h with
                | [], h => rw [byte_e3 _ _ _ e3 e5 (by simp)] at h; cases h
                | [a], h => rw [byte_e3 _ _ _ e3 e5 (by simp)] at h; cases h
                | a :: a' :: l, h =>
                  by_cases e6 : hexI a < 0 ∨ hexI a' < 0 ∨ (32 ≤ 16 * hexI a + hexI a' ∧ 16 * hexI a + hexI a' ≤ 126)
                  · rw [byte_e4 _ _ _ _ _ e3 e5 e6] at h; cases h
                  · rw [byte_e5 _ _ _ _ _ e3 e5 e6] at h
                    simp only [Option.some.injEq, Prod.mk.injEq] at h
                    obtain ⟨hc, rfl⟩ := h
                    have b1 := hexI_bd a
                    have b2 := hexI_bd a'
                    have hcn : c.toNat = (16 * hexI a + hexI a').toNat := by
                      rw [← hc]
                      simp only [Nat.toUInt8, UInt8.toNat_ofNat']
                      omega
                    unfold escB
                    rw [if_neg (by omega), if_pos (by omega), hb92, hd120]
                    have q1 : c.toNat / 16 = (hexI a).toNat := by omega
                    have q2 : c.toNat % 16 = (hexI a').toNat := by omega
                    rw [q1, q2, hexB_hexI a (by omega), hexB_hexI a' (by omega)]
                    rfl
              · rw [byte_e2 _ _ _ e3 e4 e5] at h; cases h
        · rw [byte_p _ _ e1 e2 e3] at h
          simp only [Option.some.injEq, Prod.mk.injEq] at h
          obtain ⟨rfl, rfl⟩ := h
          unfold escB
          rw [if_neg (by omega), if_neg (by omega)]
          rfl
theorem byteL_end {l : List UInt8} {n : Nat} (h : byteL l = some (none, n)) : l.take n = [34] ∧ n = 1 := by
  cases l with
  | nil => simp [byteL] at h
  | cons b l =>
    by_cases e1 : b.toNat = 34
    · rw [byte_q _ _ e1] at h
      simp only [Option.some.injEq, Prod.mk.injEq, true_and] at h
      subst h
      have : b = 34 := u8_of (by decide) e1
      rw [this]
      exact ⟨rfl, rfl⟩
    · exfalso
      by_cases e2 : b.toNat < 32 ∨ 126 < b.toNat
      · rw [byte_r _ _ e1 e2] at h; cases h
      · by_cases e3 : b.toNat = 92
        · cases l with
          | nil => rw [byte_e0 _ e3] at h; cases h
          | cons d l =>
            by_cases e4 : d.toNat = 34 ∨ d.toNat = 92
            · rw [byte_e1 _ _ _ e3 e4] at h; simp at h
            · by_cases e5 : d.toNat = 120
              · match l, h with
                | [], h => rw [byte_e3 _ _ _ e3 e5 (by simp)] at h; cases h
                | [a], h => rw [byte_e3 _ _ _ e3 e5 (by simp)] at h; cases h
                | a :: a' :: l, h =>
                  by_cases e6 : hexI a < 0 ∨ hexI a' < 0 ∨ (32 ≤ 16 * hexI a + hexI a' ∧ 16 * hexI a + hexI a' ≤ 126)
                  · rw [byte_e4 _ _ _ _ _ e3 e5 e6] at h; cases h
                  · rw [byte_e5 _ _ _ _ _ e3 e5 e6] at h; simp at h
              · rw [byte_e2 _ _ _ e3 e4 e5] at h; cases h
        · rw [byte_p _ _ e1 e2 e3] at h; simp at h
theorem take_split {α : Type} (l : List α) (a b : Nat) : l.take (a + b) = l.take a ++ (l.drop a).take b := by rw [List.take_add]
theorem textL_quote : ∀ (f : Nat) (acc l t : List UInt8) (n : Nat), acc.length ≤ 256 → textL f acc l = .ok t n → ∃ t', t = acc ++ t' ∧ l.take n = t'.flatMap escB ++ [34] ∧ t.length ≤ 256 ∧ 1 ≤ n
  | 0, _, _, _, _, _, h => by cases h
  | f + 1, acc, l, t, n, ha, h => by
    unfold textL at h
    cases hb : byteL l with
    | none => rw [hb] at h; cases h
    | some p =>
      obtain ⟨o, j⟩ := p
      have hj := byteL_len hb
      rw [hb] at h
      cases o with
      | none =>
        simp only [RT.ok.injEq] at h
        obtain ⟨rfl, rfl⟩ := h
        exact ⟨[], by simp, by simpa using (byteL_end hb).1, ha, hj.1⟩
      | some c =>
        simp only at h
        split at h
        · cases h
        · rename_i h256
          cases hr : textL f (acc ++ [c]) (l.drop j) with
          | bad e => rw [hr] at h; cases h
          | ok t2 m =>
            rw [hr] at h
            simp only [RT.add, RT.ok.injEq] at h
            obtain ⟨rfl, rfl⟩ := h
            obtain ⟨t', q1, q2, q3, q4⟩ := textL_quote f _ _ _ m (by simp; omega) hr
            refine ⟨c :: t', by rw [q1]; simp, ?_, q3, by omega⟩
            rw [take_split, byteL_esc hb, q2, List.flatMap_cons, List.append_assoc]
theorem text_print {l t : List UInt8} {n : Nat} (h : textL 257 [] l = .ok t n) : (34 : UInt8) :: l.take n = quoteL t ∧ t.length ≤ 256 := by
  obtain ⟨t', q1, q2, q3, q4⟩ := textL_quote 257 [] l t n (by simp) h
  rw [List.nil_append] at q1
  subst q1
  refine ⟨?_, q3⟩
  rw [q2]; rfl
abbrev rowC (c : UInt8) : List Dat := [.lit (.int .u8 (hexD (hexI c).toNat))]
theorem hexRows_of : ∀ (l : List UInt8) (u0 u k : Nat) (acc : List (List Dat)), hexU u0 l = some u → hexRows (k + l.length) u acc = hexRows k u0 (l.map rowC ++ acc) ∧ ∀ c ∈ l, 0 ≤ hexI c
  | [], u0, u, k, acc, h => by
    obtain rfl := Option.some.inj h
    exact ⟨rfl, fun c hc => by cases hc⟩
  | c :: l, u0, u, k, acc, h => by
    simp only [hexU] at h
    split at h
    · cases h
    · rename_i hc
      have hb := hexI_bd c
      obtain ⟨ih, ih2⟩ := hexRows_of l (16 * u0 + (hexI c).toNat) u (k + 1) acc h
      refine ⟨?_, fun x hx => ?_⟩
      · rw [List.length_cons, show k + (l.length + 1) = k + 1 + l.length by omega, ih]
        show hexRows k ((16 * u0 + (hexI c).toNat) / 16) _ = _
        rw [show (16 * u0 + (hexI c).toNat) / 16 = u0 by omega, show (16 * u0 + (hexI c).toNat) % 16 = (hexI c).toNat by omega]
        rfl
      · rcases List.mem_cons.1 hx with rfl | hx
        · omega
        · exact ih2 x hx
theorem hexS_of {l : List UInt8} {u : Nat} (h : parseF l = some u) : (hexS u).data.toList = l ∧ canF u = u ∧ l.length = 16 := by
  unfold parseF at h
  split at h
  · rename_i h16
    cases hx : hexU 0 l with
    | none => rw [hx] at h; cases h
    | some w =>
      rw [hx] at h
      simp only at h
      split at h
      · rename_i hc
        obtain rfl := Option.some.inj h
        refine ⟨?_, hc, h16⟩
        obtain ⟨k1, k2⟩ := hexRows_of l 0 w 0 [] hx
        unfold hexS
        rw [hc]
        rw [Nat.zero_add, h16] at k1
        rw [k1]
        show (strR (l.map rowC ++ [])).data.toList = l
        rw [List.append_nil]
        unfold strR
        rw [List.map_map]
        show (List.map (fun c => hexB (hexI c).toNat) l) = l
        conv => rhs; rw [← List.map_id l]
        exact List.map_congr_left (fun c hc => hexB_hexI c (k2 c hc))
      · cases h
  · cases h
theorem takeW_take (l : List UInt8) : l.take (takeW l).length = takeW l := by
  have tw : ∀ r : List UInt8, r.take (r.takeWhile dgB).length = r.takeWhile dgB := fun r => by
    conv => lhs; arg 2; rw [← List.takeWhile_append_dropWhile (p := dgB) (l := r)]
    rw [List.take_left']
    rfl
  cases l with
  | nil => rfl
  | cons c r =>
    simp only [takeW]
    split
    · rw [List.length_cons, List.take_succ_cons, tw]
    · exact tw (c :: r)
theorem wholeL_print {l : List UInt8} {n : Int} {m : Nat} (h : wholeL l = some (n, m)) : Lib.itoa n = l.take m ∧ i64B n ∧ 0 < m := by
  unfold wholeL at h
  split at h
  · rename_i v ha
    split at h
    · rename_i hi
      simp only [Option.some.injEq, Prod.mk.injEq] at h
      obtain ⟨rfl, rfl⟩ := h
      refine ⟨by rw [hi, takeW_take], Lib.atoiAll_bounds ha, ?_⟩
      apply Nat.pos_of_ne_zero
      intro h0
      rw [List.length_eq_zero_iff.1 h0] at ha
      simp [Lib.atoiAll] at ha
    · cases h
  · cases h
theorem pre_take {l : List UInt8} {t : ByteArray} (h : preL l t = true) : l.take t.size = t.data.toList := by
  unfold preL Lib.hasPrefix at h
  obtain ⟨r, hr⟩ := List.isPrefixOf_iff_prefix.1 h
  rw [← hr]
  exact List.take_left' Array.length_toList
theorem atom_print {l : List UInt8} {a : AtomD} {n : Nat} (h : atomL l = .ok a n) : (printA a).data.toList = l.take n ∧ validA a = true ∧ 0 < n ∧ okA a := by
  unfold atomL at h
  split at h
  · rename_i hp
    have ht := pre_take hp
    simp only [RA.ok.injEq] at h
    obtain ⟨rfl, rfl⟩ := h
    exact ⟨ht.symm, by decide +kernel, by decide, ⟨by show i64B 0; unfold i64B; decide, by decide⟩⟩
  · split at h
    · rename_i hp
      have ht := pre_take hp
      simp only [RA.ok.injEq] at h
      obtain ⟨rfl, rfl⟩ := h
      exact ⟨ht.symm, by decide +kernel, by decide, ⟨by show i64B 1; unfold i64B; decide, by decide⟩⟩
    · split at h
      · rename_i hp
        have ht := pre_take hp
        simp only [RA.ok.injEq] at h
        obtain ⟨rfl, rfl⟩ := h
        exact ⟨ht.symm, by decide +kernel, by decide, ⟨by show i64B 0; unfold i64B; decide, by decide⟩⟩
      · split at h
        · rename_i hp
          have ht := pre_take hp
          split at h
          · cases h
          · cases hf : parseF ((l.drop 2).take 16) with
            | none => rw [hf] at h; cases h
            | some u =>
              rw [hf] at h
              simp only [RA.ok.injEq] at h
              obtain ⟨rfl, rfl⟩ := h
              obtain ⟨q1, q2, q3⟩ := hexS_of hf
              refine ⟨?_, ?_, by decide, ⟨by show i64B 0; unfold i64B; decide, by show eE.size ≤ _; decide⟩⟩
              · show ((⟨#[48, 102]⟩ : ByteArray) ++ hexS u).data.toList = _
                rw [ByteArray.data_append, Array.toList_append, q1, show (18 : Nat) = 2 + 16 from rfl, take_split, show (2 : Nat) = zfB.size from rfl, ht]
              · show (isA ⟨3, 0, u, eE⟩ false true false && ((u : Int) == (canF u : Int))) = true
                rw [q2]
                simp [isA]
        · split at h
          · rename_i hp
            have ht := pre_take hp
            cases hr : textL 257 [] (l.drop 1) with
            | bad e => rw [hr] at h; cases h
            | ok t m =>
              rw [hr] at h
              simp only [textA, RA.ok.injEq] at h
              obtain ⟨rfl, rfl⟩ := h
              obtain ⟨q1, q2⟩ := text_print hr
              have hsz : (bs t).size = t.length := by simp [bs, ByteArray.size]
              refine ⟨?_, ?_, by omega, ⟨by show i64B 0; unfold i64B; decide, by show (bs t).size ≤ _; omega⟩⟩
              · show (quoteS (bs t)).data.toList = _
                show quoteL t = _
                rw [← q1, take_split, show (1 : Nat) = quB.size from rfl, ht]
                rfl
              · show (isA ⟨4, 0, 0, bs t⟩ false false true && decide (((bs t).size : Int) ≤ 256)) = true
                rw [decide_eq_true (by omega)]
                simp [isA]
          · split at h
            · rename_i hp
              have ht := pre_take hp
              cases hr : textL 257 [] (l.drop 2) with
              | bad e => rw [hr] at h; cases h
              | ok t m =>
                rw [hr] at h
                simp only [textA, RA.ok.injEq] at h
                obtain ⟨rfl, rfl⟩ := h
                obtain ⟨q1, q2⟩ := text_print hr
                have hsz : (bs t).size = t.length := by simp [bs, ByteArray.size]
                refine ⟨?_, ?_, by omega, ⟨by show i64B 0; unfold i64B; decide, by show (bs t).size ≤ _; omega⟩⟩
                · show ((⟨#[120]⟩ : ByteArray) ++ quoteS (bs t)).data.toList = _
                  rw [ByteArray.data_append, Array.toList_append]
                  show [120] ++ quoteL t = _
                  rw [← q1, take_split, show (2 : Nat) = xqB.size from rfl, ht]
                  rfl
                · show (isA ⟨5, 0, 0, bs t⟩ false false true && decide (((bs t).size : Int) ≤ 256)) = true
                  rw [decide_eq_true (by omega)]
                  simp [isA]
            · cases hw : wholeL l with
              | none => rw [hw] at h; cases h
              | some p =>
                obtain ⟨v, m⟩ := p
                rw [hw] at h
                simp only [RA.ok.injEq] at h
                obtain ⟨rfl, rfl⟩ := h
                obtain ⟨q1, q2, q3⟩ := wholeL_print hw
                exact ⟨q1, by show isA ⟨2, v, 0, eE⟩ true false false = true; simp [isA], q3, ⟨q2, by show eE.size ≤ _; decide⟩⟩
end Go.Proofs.YtjihcldhjpdnmaaDoor.AM
namespace Go.Proofs.YtjihcldhjpdnmaaDoor.AM
open Go.RowKit
set_option linter.unusedSimpArgs false
set_option linter.unusedVariables false
set_option maxRecDepth 10000
set_option maxHeartbeats 0
theorem join_two (x y : List UInt8) (r : List (List UInt8)) (sep : List UInt8) : Lib.join (x :: y :: r) sep = x ++ (sep ++ Lib.join (y :: r) sep) := by
  rw [Lib.join_cons, Lib.join_cons]
  simp [Lib.joinTail]
abbrev pAL (a : AtomD) : List UInt8 := (printA a).data.toList
theorem listL_print : ∀ (f : Nat) (acc : List AtomD) (l : List UInt8) (res : List AtomD) (n : Nat), acc.length ≤ 16 → listL f acc l = .ok res n →
    ∃ new, new ≠ [] ∧ res = acc ++ new ∧ l.take n = Lib.join (new.map pAL) [44, 32] ++ [93] ∧ (∀ a ∈ new, validA a = true ∧ okA a) ∧ res.length ≤ 16 ∧ 0 < n ∧ n ≤ l.length
  | 0, _, _, _, _, _, h => by cases h
  | f + 1, acc, l, res, n, ha, h => by
    unfold listL at h
    split at h
    · cases h
    · rename_i h16
      cases hr : atomL l with
      | bad e => rw [hr] at h; cases h
      | ok a j =>
        rw [hr] at h
        obtain ⟨q1, q2, q3, q4⟩ := atom_print hr
        have hj := atomL_len hr
        simp only [listN] at h
        split at h
        · rename_i g1
          have g3 := preL_len g1
          rw [List.length_drop, show clB.size = 1 from rfl] at g3
          have g4 := pre_take g1
          rw [show clB.size = 1 from rfl] at g4
          simp only [RL.ok.injEq] at h
          obtain ⟨rfl, rfl⟩ := h
          refine ⟨[a], by simp, rfl, ?_, fun x hx => by rw [show x = a by simpa using hx]; exact ⟨q2, q4⟩, by simp; omega, by omega, by omega⟩
          rw [take_split, g4, List.map_cons, List.map_nil, Lib.join_one, ← q1]
        · split at h
          · rename_i g2
            have g3 := preL_len g2
            rw [List.length_drop, show cmB.size = 2 from rfl] at g3
            have g4 := pre_take g2
            rw [show cmB.size = 2 from rfl] at g4
            cases hr2 : listL f (acc ++ [a]) ((l.drop j).drop 2) with
            | bad e => rw [hr2] at h; cases h
            | ok res2 m =>
              rw [hr2] at h
              simp only [RL.add, RL.ok.injEq] at h
              obtain ⟨rfl, rfl⟩ := h
              obtain ⟨new, k1, k2, k3, k4, k5, k6, k7⟩ := listL_print f _ _ _ m (by simp; omega) hr2
              rw [List.length_drop, List.length_drop] at k7
              refine ⟨a :: new, by simp, by rw [k2]; simp, ?_, fun x hx => ?_, k5, by omega, by omega⟩
              · rw [show j + 2 + m = j + (2 + m) by omega, take_split, take_split, g4, k3, ← q1]
                cases new with
                | nil => exact absurd rfl k1
                | cons b r =>
                  show pAL a ++ (cmB.data.toList ++ (Lib.join (pAL b :: r.map pAL) [44, 32] ++ [93])) = Lib.join (pAL a :: pAL b :: r.map pAL) [44, 32] ++ [93]
                  rw [join_two]
                  simp [List.append_assoc]
              · rcases List.mem_cons.1 hx with rfl | hx
                · exact ⟨q2, q4⟩
                · exact k4 x hx
          · cases h
theorem read_print {l : List UInt8} {v : ValD} {n : Nat} (h : readL l = .ok v n) : (printV v).data.toList = l.take n ∧ validV v = true ∧ 0 < n ∧ n ≤ l.length ∧ okV v := by
  unfold readL at h
  split at h
  · rename_i h1
    have p1 := pre_take h1
    have p2 := preL_len h1
    rw [show openB.size = 1 from rfl] at p1 p2
    split at h
    · rename_i h2
      have p3 := pre_take h2
      have p4 := preL_len h2
      rw [show clB.size = 1 from rfl] at p3 p4
      rw [List.length_drop] at p4
      simp only [RV.ok.injEq] at h
      obtain ⟨rfl, rfl⟩ := h
      refine ⟨?_, by decide +kernel, by decide, by omega, ⟨⟨by show i64B 0; unfold i64B; decide, by show eE.size ≤ _; decide⟩, fun a ha => by cases ha⟩⟩
      rw [show (2 : Nat) = 1 + 1 from rfl, take_split, p1, p3]
      decide +kernel
    · rename_i h2
      cases hr : listL 17 [] (l.drop 1) with
      | bad e => rw [hr] at h; cases h
      | ok res m =>
        rw [hr] at h
        simp only [listV, RV.ok.injEq] at h
        obtain ⟨rfl, rfl⟩ := h
        obtain ⟨new, k1, k2, k3, k4, k5, k6, k7⟩ := listL_print 17 [] _ res m (by simp) hr
        rw [List.nil_append] at k2
        subst k2
        rw [List.length_drop] at k7
        have hv : validV ⟨⟨6, 0, 0, eE⟩, res⟩ = true := by
          rw [validV_list rfl]
          have : res.all validA = true := List.all_eq_true.2 (fun a ha => (k4 a ha).1)
          show (isA ⟨6, 0, 0, eE⟩ false false false && decide ((res.length : Int) ≤ 16) && res.all validA) = true
          rw [this, decide_eq_true (by omega)]
          decide +kernel
        refine ⟨?_, hv, by omega, by omega, ⟨⟨by show i64B 0; unfold i64B; decide, by show eE.size ≤ _; decide⟩, fun a ha => (k4 a ha).2⟩⟩
        unfold printV
        rw [if_pos hv, if_pos rfl, ByteArray.data_append, ByteArray.data_append, Array.toList_append, Array.toList_append, take_split, p1, k3]
        show [91] ++ Lib.join ((res.map printA).map (·.data.toList)) [44, 32] ++ [93] = [91] ++ _
        rw [List.map_map, List.append_assoc]
        rfl
  · cases hr : atomL l with
    | bad e => rw [hr] at h; cases h
    | ok a m =>
      rw [hr] at h
      simp only [atomV, RV.ok.injEq] at h
      obtain ⟨rfl, rfl⟩ := h
      obtain ⟨q1, q2, q3, q4⟩ := atom_print hr
      have hk : a.k ≠ 6 := by
        intro h6
        unfold validA at q2
        rw [h6] at q2
        simp at q2
      have hv : validV ⟨a, []⟩ = true := by
        rw [validV_atom hk]
        show (validA a && _) = true
        rw [q2]; rfl
      refine ⟨?_, hv, q3, atomL_len hr, ⟨q4, fun a ha => by cases ha⟩⟩
      unfold printV
      rw [if_pos hv, if_neg hk]
      exact q1
theorem textL_bad : ∀ (f : Nat) (acc l : List UInt8) (e : Int), textL f acc l = .bad e → e = 3 ∨ e = 11
  | 0, _, _, e, h => by simp only [textL, RT.bad.injEq] at h; omega
  | f + 1, acc, l, e, h => by
    unfold textL at h
    split at h
    · simp only [RT.bad.injEq] at h; omega
    · cases h
    · split at h
      · simp only [RT.bad.injEq] at h; omega
      · rename_i c n _ _
        cases hr : textL f (acc ++ [c]) (l.drop n) with
        | ok t m => rw [hr] at h; cases h
        | bad e2 =>
          rw [hr] at h
          simp only [RT.add, RT.bad.injEq] at h
          have := textL_bad f _ _ _ hr
          omega
theorem atomL_bad {l : List UInt8} {e : Int} (h : atomL l = .bad e) : e = 3 ∨ e = 11 := by
  unfold atomL at h
  repeat' split at h
  all_goals first
    | (cases h; done)
    | (simp only [RA.bad.injEq] at h; omega)
    | skip
  all_goals
    first
    | (cases hr : textL 257 [] (l.drop 1) with
       | ok t m => rw [hr] at h; cases h
       | bad e2 =>
         rw [hr] at h
         simp only [textA, RA.bad.injEq] at h
         have := textL_bad _ _ _ _ hr
         omega)
    | (cases hr : textL 257 [] (l.drop 2) with
       | ok t m => rw [hr] at h; cases h
       | bad e2 =>
         rw [hr] at h
         simp only [textA, RA.bad.injEq] at h
         have := textL_bad _ _ _ _ hr
         omega)
theorem listL_bad : ∀ (f : Nat) (acc : List AtomD) (l : List UInt8) (e : Int), listL f acc l = .bad e → e = 3 ∨ e = 11
  | 0, _, _, e, h => by simp only [listL, RL.bad.injEq] at h; omega
  | f + 1, acc, l, e, h => by
    unfold listL at h
    split at h
    · simp only [RL.bad.injEq] at h; omega
    · cases hr : atomL l with
      | bad e2 =>
        rw [hr] at h
        simp only [listN, RL.bad.injEq] at h
        have := atomL_bad hr
        omega
      | ok a j =>
        rw [hr] at h
        simp only [listN] at h
        split at h
        · cases h
        · split at h
          · cases hr2 : listL f (acc ++ [a]) ((l.drop j).drop 2) with
            | ok t m => rw [hr2] at h; cases h
            | bad e2 =>
              rw [hr2] at h
              simp only [RL.add, RL.bad.injEq] at h
              have := listL_bad f _ _ _ hr2
              omega
          · simp only [RL.bad.injEq] at h; omega
theorem readL_bad {l : List UInt8} {e : Int} (h : readL l = .bad e) : e = 3 ∨ e = 11 := by
  unfold readL at h
  split at h
  · split at h
    · cases h
    · cases hr : listL 17 [] (l.drop 1) with
      | ok t m => rw [hr] at h; cases h
      | bad e2 =>
        rw [hr] at h
        simp only [listV, RV.bad.injEq] at h
        have := listL_bad _ _ _ _ hr
        omega
  · cases hr : atomL l with
    | ok t m => rw [hr] at h; cases h
    | bad e2 =>
      rw [hr] at h
      simp only [atomV, RV.bad.injEq] at h
      have := atomL_bad hr
      omega
end Go.Proofs.YtjihcldhjpdnmaaDoor.AM
namespace Go.Proofs.YtjihcldhjpdnmaaDoor.AM
open Go.RowKit
set_option linter.unusedSimpArgs false
set_option linter.unusedVariables false
set_option maxRecDepth 10000
set_option maxHeartbeats 0
theorem hexI_hexB (k : Nat) (h : k < 16) : hexI (hexB k) = (k : Int) := by
  have : ∀ n : Nat, n < 16 → hexI (hexB n) = (n : Int) := by decide +kernel
  exact this k h
theorem byteL_of (c : UInt8) (r : List UInt8) : byteL (escB c ++ r) = some (some c, (escB c).length) := by
  have hb := c.toNat_lt
  unfold escB
  split
  · rename_i h
    show byteL (92 :: c :: r) = _
    rw [byte_e1 92 c r rfl (by omega)]; rfl
  · rename_i h
    split
    · rename_i h2
      show byteL (92 :: 120 :: hexB (c.toNat / 16) :: hexB (c.toNat % 16) :: r) = _
      have x1 := hexI_hexB (c.toNat / 16) (by omega)
      have x2 := hexI_hexB (c.toNat % 16) (by omega)
      rw [byte_e5 92 120 _ _ r rfl rfl (by rw [x1, x2]; omega), x1, x2]
      have e : (16 * ((c.toNat / 16 : Nat) : Int) + ((c.toNat % 16 : Nat) : Int)).toNat = c.toNat := by omega
      rw [e]
      simp
    · rename_i h2
      show byteL (c :: r) = _
      rw [byte_p c r (by omega) (by omega) (by omega)]; rfl
theorem textL_back : ∀ (t : List UInt8) (f : Nat) (acc r : List UInt8), t.length < f → acc.length + t.length ≤ 256 → textL f acc (t.flatMap escB ++ 34 :: r) = .ok (acc ++ t) ((t.flatMap escB).length + 1)
  | _, 0, _, _, h, _ => by omega
  | [], f + 1, acc, r, _, _ => by
    unfold textL
    rw [List.flatMap_nil, List.nil_append, byte_q 34 r rfl]
    simp
  | c :: t, f + 1, acc, r, hf, h => by
    rw [List.length_cons] at hf h
    unfold textL
    rw [List.flatMap_cons, List.append_assoc, byteL_of]
    simp only
    rw [if_neg (by omega), List.drop_left' rfl, textL_back t f _ r (by omega) (by simp; omega)]
    simp [RT.add]
    omega
def mapR (rs : List (List Dat)) : List UInt8 := rs.map fun r => UInt8.ofNat (unB r).toNat
theorem hexU_rows : ∀ (k u : Nat) (acc : List (List Dat)), hexU 0 (mapR (hexRows k u acc)) = hexU (u % 16 ^ k) (mapR acc)
  | 0, u, acc => by rw [Nat.pow_zero, Nat.mod_one]; rfl
  | k + 1, u, acc => by
    rw [hexRows, hexU_rows k]
    show hexU (u / 16 % 16 ^ k) (hexB (u % 16) :: mapR acc) = _
    simp only [hexU]
    rw [hexI_hexB _ (by omega), if_neg (by omega)]
    congr 1
    rw [Nat.pow_succ, Nat.mul_comm (16 ^ k) 16, Nat.mod_mul]
    omega
theorem parseF_back (u : Nat) (h : u < 18446744073709551616) (hc : canF u = u) : parseF (hexS u).data.toList = some u := by
  have hl : (hexS u).data.toList.length = 16 := by rw [Array.length_toList]; exact hexS_size u
  unfold parseF
  rw [if_pos hl]
  have e : (hexS u).data.toList = mapR (hexRows 16 (canF u) []) := by unfold hexS strR mapR; simp
  have hx : hexU 0 (hexS u).data.toList = some u := by
    rw [e, hexU_rows, hc, Nat.mod_eq_of_lt (by omega)]
    rfl
  rw [hx]
  simp [hc]
theorem dgB_of (k : Nat) (h : k < 10) : dgB (UInt8.ofNat (48 + k)) = true ∧ (UInt8.ofNat (48 + k)).toNat = 48 + k := by
  have : ∀ n : Nat, n < 10 → dgB (UInt8.ofNat (48 + n)) = true ∧ (UInt8.ofNat (48 + n)).toNat = 48 + n := by decide +kernel
  exact this k h
theorem dec_all (u : Nat) : ∀ c ∈ Lib.decDigits u, dgB c = true := by
  induction u using Nat.strongRecOn with
  | _ u ih =>
    intro c hc
    rw [Lib.decDigits] at hc
    split at hc
    · rename_i h
      rw [List.mem_singleton.1 hc]
      exact (dgB_of u h).1
    · rename_i h
      rcases List.mem_append.1 hc with hc | hc
      · exact ih (u / 10) (by omega) c hc
      · rw [List.mem_singleton.1 hc]
        exact (dgB_of (u % 10) (by omega)).1
theorem dec_ne (u : Nat) : Lib.decDigits u ≠ [] := by
  rw [Lib.decDigits]
  split
  · simp
  · simp
theorem pu_snoc : ∀ (l : List UInt8) (acc v : Nat) (c : UInt8), Lib.parseUint10 acc l = .ok v → (48 ≤ c.toNat ∧ c.toNat ≤ 57) → v * 10 + (c.toNat - 48) < 18446744073709551616 → Lib.parseUint10 acc (l ++ [c]) = .ok (v * 10 + (c.toNat - 48))
  | [], acc, v, c, h, hc, hv => by
    simp only [Lib.parseUint10] at h
    injection h with h
    subst h
    rw [List.nil_append]
    simp only [Lib.parseUint10]
    rw [if_pos hc, if_neg (by omega), if_neg (by omega)]
  | d :: l, acc, v, c, h, hc, hv => by
    rw [List.cons_append]
    simp only [Lib.parseUint10] at h ⊢
    split at h
    · rename_i h1
      split at h
      · cases h
      · rename_i h2
        split at h
        · cases h
        · rename_i h3
          rw [if_pos h1, if_neg h2, if_neg h3]
          exact pu_snoc l _ v c h hc hv
    · cases h
theorem dec_parse (u : Nat) (hu : u < 18446744073709551616) : Lib.parseUint10 0 (Lib.decDigits u) = .ok u := by
  induction u using Nat.strongRecOn with
  | _ u ih =>
    rw [Lib.decDigits]
    split
    · rename_i h
      have hd := (dgB_of u h).2
      have := pu_snoc [] 0 0 (UInt8.ofNat (48 + u)) rfl (by omega) (by omega)
      rw [List.nil_append] at this
      rw [this, hd]
      congr 1
      omega
    · rename_i h
      have hd := (dgB_of (u % 10) (by omega)).2
      rw [pu_snoc _ 0 (u / 10) (UInt8.ofNat (48 + u % 10)) (ih (u / 10) (by omega) (by omega)) (by omega) (by omega), hd]
      congr 1
      omega
theorem dec_mag (u : Nat) (hu : u < 18446744073709551616) : Lib.parseMag (Lib.decDigits u) = .ok u := by
  unfold Lib.parseMag
  rw [if_neg (dec_ne u)]
  exact dec_parse u hu
theorem dg_bd {c : UInt8} (h : dgB c = true) : 48 ≤ c.toNat ∧ c.toNat ≤ 57 := by
  unfold dgB at h
  simp only [Bool.and_eq_true, decide_eq_true_eq] at h
  omega
theorem itoa_of_neg {n : Int} (h : n < 0) : Lib.itoa n = 45 :: Lib.decDigits n.natAbs := by unfold Lib.itoa; rw [if_pos h]
theorem itoa_of_pos {n : Int} (h : ¬ n < 0) : Lib.itoa n = Lib.decDigits n.toNat := by unfold Lib.itoa; rw [if_neg h]
theorem atoi_itoa {n : Int} (h : i64B n) : Lib.atoiAll (Lib.itoa n) = .ok n := by
  unfold i64B at h
  by_cases hn : n < 0
  · rw [itoa_of_neg hn, Lib.atoiAll_minus, dec_mag _ (by omega)]
    simp only [Lib.signed]
    rw [if_neg (by omega)]
    congr 1
    omega
  · rw [itoa_of_pos hn]
    cases hd : Lib.decDigits n.toNat with
    | nil => exact absurd hd (dec_ne _)
    | cons c r =>
      have hc := dg_bd (dec_all n.toNat c (by rw [hd]; exact List.mem_cons_self))
      rw [Lib.atoiAll_plain c r (by omega) (by omega), ← hd, dec_mag _ (by omega)]
      simp only [Lib.signless]
      rw [if_neg (by omega)]
      congr 1
      omega
theorem takeW_itoa (n : Int) (r : List UInt8) (hr : r.takeWhile dgB = []) : takeW (Lib.itoa n ++ r) = Lib.itoa n := by
  by_cases hn : n < 0
  · rw [itoa_of_neg hn, List.cons_append]
    simp only [takeW]
    rw [if_pos (show UInt8.toNat 45 = 45 from rfl), List.takeWhile_append_of_pos (dec_all _), hr, List.append_nil]
  · rw [itoa_of_pos hn]
    cases hd : Lib.decDigits n.toNat with
    | nil => exact absurd hd (dec_ne _)
    | cons c t =>
      have hc := dg_bd (dec_all n.toNat c (by rw [hd]; exact List.mem_cons_self))
      rw [List.cons_append]
      simp only [takeW]
      rw [if_neg (by omega), ← List.cons_append, ← hd, List.takeWhile_append_of_pos (dec_all _), hr, List.append_nil]
theorem wholeL_back {n : Int} (h : i64B n) (r : List UInt8) (hr : r.takeWhile dgB = []) : wholeL (Lib.itoa n ++ r) = some (n, (Lib.itoa n).length) := by
  unfold wholeL
  rw [takeW_itoa n r hr, atoi_itoa h]
  simp
theorem preL_no {c : UInt8} {l : List UInt8} {t : ByteArray} (ht : ∃ d ds, t.data.toList = d :: ds ∧ d ≠ c) : preL (c :: l) t = false := by
  obtain ⟨d, ds, e, hne⟩ := ht
  unfold preL Lib.hasPrefix
  rw [e]
  simp [List.isPrefixOf, hne]
theorem preL_no2 {b c : UInt8} {l : List UInt8} {t : ByteArray} (ht : ∃ d ds, t.data.toList = b :: d :: ds ∧ d ≠ c) : preL (b :: c :: l) t = false := by
  obtain ⟨d, ds, e, hne⟩ := ht
  unfold preL Lib.hasPrefix
  rw [e]
  simp [List.isPrefixOf, hne]
theorem preL_yes (t : ByteArray) (r : List UInt8) : preL (t.data.toList ++ r) t = true := by
  unfold preL Lib.hasPrefix
  rw [List.isPrefixOf_iff_prefix]
  exact List.prefix_append _ _
end Go.Proofs.YtjihcldhjpdnmaaDoor.AM
namespace Go.Proofs.YtjihcldhjpdnmaaDoor.AM
open Go.RowKit
set_option linter.unusedSimpArgs false
set_option linter.unusedVariables false
set_option maxRecDepth 10000
set_option maxHeartbeats 0
def dgV (u : Nat) (c : UInt8) : Nat := u * 10 + (c.toNat - 48)
def decV (u : Nat) (l : List UInt8) : Nat := l.foldl dgV u
theorem decV_nil (u : Nat) : decV u [] = u := rfl
theorem decV_cons (u : Nat) (c : UInt8) (l : List UInt8) : decV u (c :: l) = decV (dgV u c) l := List.foldl_cons ..
theorem decV_snoc (l : List UInt8) (c : UInt8) (u : Nat) : decV u (l ++ [c]) = dgV (decV u l) c := by
  unfold decV
  rw [List.foldl_append, List.foldl_cons, List.foldl_nil]
theorem dgV_eq (u : Nat) (c : UInt8) : dgV u c = u * 10 + (c.toNat - 48) := by rw [dgV]
theorem decV_le (l : List UInt8) : ∀ u : Nat, u ≤ decV u l := by
  induction l with
  | nil => intro u; exact Nat.le_refl _
  | cons c l ih =>
    intro u
    rw [decV_cons]
    exact Nat.le_trans (by rw [dgV_eq]; omega) (ih (dgV u c))
theorem ifY (p : Prop) [Decidable p] {α : Type} {x y : α} (h : p) : x = if p then x else y := (if_pos h).symm
theorem ifN (p : Prop) [Decidable p] {α : Type} {x y : α} (h : ¬ p) : y = if p then x else y := (if_neg h).symm
theorem pu_step (c : UInt8) (l : List UInt8) (u : Nat) : Lib.parseUint10 u (c :: l) = if 48 ≤ c.toNat ∧ c.toNat ≤ 57 then (if 1844674407370955162 ≤ u then .range else if 18446744073709551616 ≤ u * 10 + (c.toNat - 48) then .range else Lib.parseUint10 (u * 10 + (c.toNat - 48)) l) else .syntax := by
  rw [Lib.parseUint10]
theorem pu_dec (l : List UInt8) : ∀ (u : Nat), (∀ c ∈ l, dgB c = true) → u < 18446744073709551616 → Lib.parseUint10 u l = if decV u l < 18446744073709551616 then .ok (decV u l) else .range := by
  induction l with
  | nil => intro u _ hu; exact ifY _ hu
  | cons c l ih =>
    intro u h hu
    have hc := dg_bd (h c List.mem_cons_self)
    have hle := decV_le l (u * 10 + (c.toNat - 48))
    have e : decV u (c :: l) = decV (u * 10 + (c.toNat - 48)) l := by rw [decV_cons, dgV_eq]
    rw [pu_step, e, if_pos hc]
    have hi := ih (u * 10 + (c.toNat - 48)) (fun x hx => h x (List.mem_cons_of_mem _ hx))
    generalize decV (u * 10 + (c.toNat - 48)) l = w at *
    by_cases h1 : 1844674407370955162 ≤ u
    · rw [if_pos h1]
      exact ifN _ (by omega)
    · rw [if_neg h1]
      by_cases h2 : 18446744073709551616 ≤ u * 10 + (c.toNat - 48)
      · rw [if_pos h2]
        exact ifN _ (by omega)
      · rw [if_neg h2]
        exact hi (by omega)
theorem dec_small {u : Nat} (h : u < 10) : Lib.decDigits u = [UInt8.ofNat (48 + u)] := by rw [Lib.decDigits, dif_pos h]
theorem dec_big {u : Nat} (h : ¬ u < 10) : Lib.decDigits u = Lib.decDigits (u / 10) ++ [UInt8.ofNat (48 + u % 10)] := by rw [Lib.decDigits, dif_neg h]
theorem u8_back (c : UInt8) (h : dgB c = true) : UInt8.ofNat (48 + (c.toNat - 48)) = c := by
  have := dg_bd h
  rw [show 48 + (c.toNat - 48) = c.toNat by omega]
  simp
theorem dec_decV (n : Nat) : ∀ (l : List UInt8), l.length = n → (∀ c ∈ l, dgB c = true) → (∀ c, l.head? = some c → c.toNat ≠ 48) → l ≠ [] → Lib.decDigits (decV 0 l) = l ∧ 1 ≤ decV 0 l := by
  induction n with
  | zero => intro l hl _ _ hne; exact absurd (List.length_eq_zero_iff.1 hl) hne
  | succ n ih =>
    intro l hl hd hh hne
    rcases List.eq_nil_or_concat l with rfl | ⟨t, c, rfl⟩
    · exact absurd rfl hne
    · rw [List.concat_eq_append] at *
      have hc := hd c (by simp)
      have hcb := dg_bd hc
      rw [decV_snoc, dgV_eq]
      cases t with
      | nil =>
        have h48 := hh c (by simp)
        simp only [decV_nil, Nat.zero_mul, Nat.zero_add, List.nil_append]
        rw [dec_small (by omega), u8_back c hc]
        exact ⟨rfl, by omega⟩
      | cons a t =>
        obtain ⟨h1, h2⟩ := ih (a :: t) (by simp at hl ⊢; omega) (fun x hx => hd x (List.mem_append_left _ hx)) (fun x hx => hh x (by simpa using hx)) (by simp)
        have e1 : (decV 0 (a :: t) * 10 + (c.toNat - 48)) / 10 = decV 0 (a :: t) := by omega
        have e2 : (decV 0 (a :: t) * 10 + (c.toNat - 48)) % 10 = c.toNat - 48 := by omega
        rw [dec_big (by omega), e1, e2, h1, u8_back c hc]
        exact ⟨rfl, by omega⟩
theorem dec_head (u : Nat) : 1 ≤ u → ∀ c, (Lib.decDigits u).head? = some c → c.toNat ≠ 48 := by
  induction u using Nat.strongRecOn with
  | _ u ih =>
    intro hu c hc
    by_cases h : u < 10
    · rw [dec_small h] at hc
      have := (dgB_of u h).2
      obtain rfl := Option.some.inj hc
      omega
    · rw [dec_big h] at hc
      have hi := ih (u / 10) (by omega) (by omega) c
      cases hd : Lib.decDigits (u / 10) with
      | nil => exact absurd hd (dec_ne (u / 10))
      | cons a t =>
        rw [hd] at hc hi
        exact hi hc
def refW (neg : Bool) (ds : List UInt8) : Option (Int × Nat) :=
  if ds = [] ∨ (ds.head? = some 48 ∧ (1 < ds.length ∨ neg = true)) then none
  else if neg = true then (if decV 0 ds ≤ 9223372036854775808 then some (-(decV 0 ds : Int), ds.length + 1) else none)
  else if decV 0 ds < 9223372036854775808 then some ((decV 0 ds : Int), ds.length) else none
theorem atoi_neg (ds : List UInt8) (hd : ∀ c ∈ ds, dgB c = true) (hne : ds ≠ []) : Lib.atoiAll (45 :: ds) = if decV 0 ds ≤ 9223372036854775808 then .ok (-(decV 0 ds : Int)) else .range := by
  rw [Lib.atoiAll_minus]
  unfold Lib.parseMag
  rw [if_neg hne, pu_dec ds 0 hd (by omega)]
  by_cases h : decV 0 ds < 18446744073709551616
  · rw [if_pos h]
    simp only [Lib.signed]
    by_cases h2 : decV 0 ds ≤ 9223372036854775808
    · rw [if_neg (by omega), if_pos h2]
    · rw [if_pos (by omega), if_neg h2]
  · rw [if_neg h, if_neg (by omega)]
    rfl
theorem atoi_pos (ds : List UInt8) (hd : ∀ c ∈ ds, dgB c = true) (hne : ds ≠ []) : Lib.atoiAll ds = if decV 0 ds < 9223372036854775808 then .ok (decV 0 ds : Int) else .range := by
  cases ds with
  | nil => exact absurd rfl hne
  | cons c r =>
    have hc := dg_bd (hd c List.mem_cons_self)
    rw [Lib.atoiAll_plain c r (by omega) (by omega)]
    unfold Lib.parseMag
    rw [if_neg hne, pu_dec (c :: r) 0 hd (by omega)]
    generalize decV 0 (c :: r) = v at *
    by_cases h : v < 18446744073709551616
    · rw [if_pos h]
      simp only [Lib.signless]
      by_cases h2 : v < 9223372036854775808
      · rw [if_neg (by omega), if_pos h2]
      · rw [if_pos (by omega), if_neg h2]
    · rw [if_neg h, if_neg (by omega)]
      rfl
theorem itoa_zero_dec (u : Nat) : Lib.itoa (u : Int) = Lib.decDigits u := by rw [itoa_of_pos (by omega)]; rfl
theorem itoa_neg_dec (u : Nat) (h : 1 ≤ u) : Lib.itoa (-(u : Int)) = 45 :: Lib.decDigits u := by rw [itoa_of_neg (by omega)]; congr 2; omega
theorem dec_zero_lead {ds : List UInt8} (u : Nat) (h48 : ds.head? = some 48) (h : Lib.decDigits u = ds) : ds.length = 1 ∧ u = 0 := by
  by_cases hu : 1 ≤ u
  · exact absurd rfl (dec_head u hu 48 (by rw [h]; exact h48))
  · have : u = 0 := by omega
    subst this
    rw [dec_small (by omega)] at h
    rw [← h]
    exact ⟨rfl, rfl⟩
theorem whole_neg (ds : List UInt8) (hd : ∀ c ∈ ds, dgB c = true) : (match Lib.atoiAll (45 :: ds) with | .ok n => if Lib.itoa n = 45 :: ds then some (n, (45 :: ds).length) else none | _ => none) = refW true ds := by
  by_cases hne : ds = []
  · subst hne
    rw [show refW true [] = none from by unfold refW; rw [if_pos (Or.inl rfl)]]
    rfl
  · have ha := atoi_neg ds hd hne
    by_cases h48 : ds.head? = some 48
    · have r : refW true ds = none := by unfold refW; rw [if_pos (Or.inr ⟨h48, Or.inr rfl⟩)]
      rw [r, ha]
      by_cases hb : decV 0 ds ≤ 9223372036854775808
      · rw [if_pos hb]
        simp only
        rw [if_neg]
        intro h
        by_cases hu : 1 ≤ decV 0 ds
        · rw [itoa_neg_dec _ hu] at h
          have := (dec_zero_lead _ h48 (List.cons.inj h).2).2
          omega
        · have : decV 0 ds = 0 := by omega
          rw [this] at h
          revert h
          rw [show Lib.itoa (-((0 : Nat) : Int)) = [48] by decide +kernel]
          simp
      · rw [if_neg hb]
    · have r : refW true ds = if decV 0 ds ≤ 9223372036854775808 then some (-(decV 0 ds : Int), ds.length + 1) else none := by
        unfold refW
        rw [if_neg (by rintro (h | h); exact hne h; exact h48 h.1), if_pos rfl]
      rw [r, ha]
      obtain ⟨h1, h2⟩ := dec_decV ds.length ds rfl hd (fun c hc h => h48 (by rw [hc]; congr 1; apply UInt8.toNat_inj.1; rw [h]; rfl)) hne
      by_cases hb : decV 0 ds ≤ 9223372036854775808
      · rw [if_pos hb, if_pos hb]
        simp only
        rw [itoa_neg_dec _ h2, h1, if_pos rfl]
        rfl
      · rw [if_neg hb, if_neg hb]
theorem whole_pos (ds : List UInt8) (hd : ∀ c ∈ ds, dgB c = true) : (match Lib.atoiAll ds with | .ok n => if Lib.itoa n = ds then some (n, ds.length) else none | _ => none) = refW false ds := by
  by_cases hne : ds = []
  · subst hne
    rw [show refW false [] = none from by unfold refW; rw [if_pos (Or.inl rfl)]]
    rfl
  · have ha := atoi_pos ds hd hne
    by_cases h48 : ds.head? = some 48 ∧ 1 < ds.length
    · have r : refW false ds = none := by unfold refW; rw [if_pos (Or.inr ⟨h48.1, Or.inl h48.2⟩)]
      rw [r, ha]
      by_cases hb : decV 0 ds < 9223372036854775808
      · rw [if_pos hb]
        simp only
        rw [if_neg]
        intro h
        rw [itoa_zero_dec] at h
        have := (dec_zero_lead _ h48.1 h).1
        omega
      · rw [if_neg hb]
    · have r : refW false ds = if decV 0 ds < 9223372036854775808 then some ((decV 0 ds : Int), ds.length) else none := by
        unfold refW
        rw [if_neg (by rintro (h | ⟨h, h2 | h2⟩); exact hne h; exact h48 ⟨h, h2⟩; cases h2), if_neg (by simp)]
      rw [r, ha]
      have h1 : Lib.decDigits (decV 0 ds) = ds := by
        by_cases h : ds.head? = some 48
        · cases ds with
          | nil => exact absurd rfl hne
          | cons c t =>
            obtain rfl := Option.some.inj h
            clear r ha
            cases t with
            | nil => decide +kernel
            | cons d t => exact absurd ⟨h, by simp⟩ h48
        · exact (dec_decV ds.length ds rfl hd (fun c hc h2 => h (by rw [hc]; congr 1; apply UInt8.toNat_inj.1; rw [h2]; rfl)) hne).1
      by_cases hb : decV 0 ds < 9223372036854775808
      · rw [if_pos hb, if_pos hb]
        simp only
        rw [itoa_zero_dec, h1, if_pos rfl]
      · rw [if_neg hb, if_neg hb]
end Go.Proofs.YtjihcldhjpdnmaaDoor.AM
namespace Go.Proofs.YtjihcldhjpdnmaaDoor.AM
open Go.RowKit
set_option linter.unusedSimpArgs false
set_option linter.unusedVariables false
set_option maxRecDepth 10000
set_option maxHeartbeats 0
theorem tw_mem {p : UInt8 → Bool} : ∀ {l : List UInt8}, ∀ c ∈ l.takeWhile p, p c = true
  | [], c, h => by cases h
  | x :: l, c, h => by
    rw [List.takeWhile_cons] at h
    split at h
    · rename_i hx
      rcases List.mem_cons.1 h with rfl | h
      · exact hx
      · exact tw_mem c h
    · cases h
theorem whole_ref (l : List UInt8) : wholeL l = if preL l ⟨#[45]⟩ = true then refW true ((l.drop 1).takeWhile dgB) else refW false (l.takeWhile dgB) := by
  have hd : ∀ (m : List UInt8), ∀ c ∈ m.takeWhile dgB, dgB c = true := fun m c hc => tw_mem c hc
  cases l with
  | nil => exact whole_pos [] (fun c hc => by cases hc)
  | cons c r =>
    by_cases h : c.toNat = 45
    · obtain rfl : c = 45 := UInt8.toNat_inj.1 h
      rw [if_pos (by rfl)]
      have := whole_neg (r.takeWhile dgB) (hd r)
      unfold wholeL
      rw [show takeW (45 :: r) = 45 :: r.takeWhile dgB from by simp [takeW]]
      exact this
    · rw [if_neg (by rw [preL_no (t := ⟨#[45]⟩) ⟨45, [], rfl, fun e => h (by rw [← e]; rfl)⟩]; simp)]
      have := whole_pos ((c :: r).takeWhile dgB) (hd _)
      unfold wholeL
      rw [show takeW (c :: r) = (c :: r).takeWhile dgB from by simp only [takeW]; rw [if_neg h]]
      exact this
def wholeU : Option (Int × Nat) → AV
  | some (n, m) => .tup [iv n, iv m, iv 0]
  | none => .tup [iv 0, iv 0, iv 11]
theorem decV_app (u : Nat) (a b : List UInt8) : decV u (a ++ b) = decV (decV u a) b := by
  unfold decV
  rw [List.foldl_append]
theorem refW_big {b : Bool} {ds : List UInt8} (h : 9223372036854775808 < decV 0 ds) : refW b ds = none := by
  unfold refW
  split
  · rfl
  · split
    · rw [if_neg (by omega)]
    · rw [if_neg (by omega)]
theorem refW_nil {b : Bool} {ds : List UInt8} (h : ds = []) : refW b ds = none := by unfold refW; rw [if_pos (.inl h)]
theorem refW_zero {b : Bool} {ds : List UInt8} (h : ds.head? = some 48) (h2 : 1 < ds.length ∨ b = true) : refW b ds = none := by unfold refW; rw [if_pos (.inr ⟨h, h2⟩)]
theorem refW_neg {ds : List UInt8} (h : ¬ (ds = [] ∨ (ds.head? = some 48 ∧ (1 < ds.length ∨ true = true)))) : refW true ds = if decV 0 ds ≤ 9223372036854775808 then some (-(decV 0 ds : Int), ds.length + 1) else none := by unfold refW; rw [if_neg h, if_pos rfl]
theorem refW_pos {ds : List UInt8} (h : ¬ (ds = [] ∨ (ds.head? = some 48 ∧ (1 < ds.length ∨ false = true)))) : refW false ds = if decV 0 ds < 9223372036854775808 then some ((decV 0 ds : Int), ds.length) else none := by unfold refW; rw [if_neg h, if_neg (by simp)]
theorem i64_u (u : Nat) (h : u < 9223372036854775808) : IntKind.i64.wrap (u : Int) = (u : Int) := IntWalk.i64_in _ (by omega)
theorem i64_negu (u : Nat) (h : u ≤ 9223372036854775808) : IntKind.i64.wrap (IntKind.u64.wrap ((0 : Int) - (u : Int))) = -(u : Int) := by
  have e1 : IntKind.u64.wrap ((0 : Int) - (u : Int)) = ((0 : Int) - u) % 18446744073709551616 := rfl
  rw [e1, IntKind.wrap_i64]
  omega
abbrev SN4 (s : ByteArray) (a j u T : Nat) : St := ⟨[(0, sv s), (5, iv j), (6, iv a), (7, uv u)], [], T⟩
def IN4 (s : ByteArray) (a : Nat) (ds : List UInt8) (n : Nat) (st : St) : Prop := ∃ j u T, a ≤ j ∧ j ≤ s.size ∧ n = s.size - j ∧ u ≤ 9223372036854775808 ∧ ds = (s.data.toList.drop a).take (j - a) ++ (s.data.toList.drop j).takeWhile dgB ∧ u = decV 0 ((s.data.toList.drop a).take (j - a)) ∧ st = SN4 s a j u T
end Go.Proofs.YtjihcldhjpdnmaaDoor.AM
