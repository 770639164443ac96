/- Part 9 of the proof: words, contracts, plain laws. Laid by a program of this session (wip/tool/shake.py): what is needed of own and printed texts, in order. -/
import Derived.Test.YtjihcldhjpdnmaaDoorZd0
import Derived.Test.YtjihcldhjpdnmaaDoorZd1
import Derived.Test.YtjihcldhjpdnmaaDoorZd2
import Derived.Test.YtjihcldhjpdnmaaDoorZd3
import Derived.Test.YtjihcldhjpdnmaaDoorZd5
import Derived.Test.YtjihcldhjpdnmaaDoorZd6
import Derived.Test.YtjihcldhjpdnmaaDoorZd7
import Derived.Test.YtjihcldhjpdnmaaDoorZd8
import Derived.Calls
import Derived.Lib.ItoaNum
import Derived.Orders
import Derived.Tactics
import Derived.Below
import Derived.Laws.Rows
import Derived.Laws.World
import Derived.Laws.CopyRow
import Derived.Lib.FrozenHead
import Derived.Deep.AppendSrc
import Derived.Deep.Upon
import Derived.Laws.BytesArg
import Derived.IntWalk
import Derived.Laws.Externs
import Derived.LoopN
import Derived.Scope
import Derived.Test.YtjihcldhjpdnmaaDoorProg
import Derived.KernelRfl
import Derived.MapKept
import Derived.Recover
import Derived.WideLaws
import Derived.RegionTactic
import Derived.Lib.AppendIntMem
import Derived.Lib.Join
import Derived.Shelf.Strings.Builder1
import Derived.Shelf.Strings.Builder2
import Derived.Shelf.Strings.OnBuilder
import Derived.Shelf.Small.Strs
import Derived.Shelf.Small.Wraps
import Derived.Shelf.Strings.BuilderF
import Derived.Shelf.Strings.BuilderK
import Derived.Shelf.Strings.Builder2Cap
import Derived.Shelf.Strconv.Atoi
import Derived.Shelf.Strconv.Itoa0
import Derived.Shelf.Strconv.Itoa1
import Derived.Shelf.LaysM
import Derived.Shelf.Strconv.Itoa2
import Derived.Shelf.Strconv.Itoa3
import Derived.Shelf.Strconv.AtoiErrFast
import Derived.Shelf.Strconv.ParseIntEmpty
import Derived.Shelf.Strconv.AtoiFail
import Derived.Shelf.Strconv.Clone
import Derived.Shelf.Strconv.SyntaxError
import Derived.Shelf.LaysC
import Derived.Shelf.Strconv.ToError
import Derived.Shelf.Strconv.Lower
import Derived.Shelf.Strconv.ParseUint10
import Derived.Shelf.Strconv.ParseUint10Empty
import Derived.Shelf.Strconv.ParseUint10Any
import Derived.Shelf.Strconv.ParseInt10
import Derived.Shelf.Strconv.AtoiLong
import Derived.Shelf.Strconv.AtoiInnerAll
import Derived.Shelf.Strconv.RangeError
import Derived.Shelf.Strconv.ToErrorRange
import Derived.Shelf.Strconv.AtoiAll
import Derived.Shelf.Strings.Search1
import Derived.Shelf.Strings.Prefix
import Derived.Shelf.Strings.BuilderCap
import Derived.Shelf.Slices.Turned
import Derived.Ground.Names2Prog
import Derived.Shelf.Slices.SearchI
import Derived.Lib.ItoaLen
import Derived.Laws.FloatBits
namespace Go.Proofs.YtjihcldhjpdnmaaDoor.AM
open Go.RowKit
set_option linter.unusedSimpArgs false
set_option linter.unusedVariables false
set_option maxRecDepth 10000
set_option maxHeartbeats 0
theorem c_list (s : ByteArray) (k0 : Nat) (hk0 : k0 ≤ s.size) (hs : s.size ≤ 1000000) (hno : preL (s.data.toList.drop k0) clB = false) : listC s k0 (listL 17 [] (s.data.toList.drop k0)) := by
  have kn := skip_no (s := s) (k := k0) (t := clB) hk0 hs (by decide) (by rw [preS_eq]; exact hno)
  cases hr : listL 17 [] (s.data.toList.drop k0) with
  | bad e0 =>
    show Pans _ _ _ _ _
    refine pans_of_awp Tryd.func55 rfl (by simp [Tryd.f55]) ?_; simp only [go_sem, ↓reduceIte, Nat.reduceEqDiff, Nat.reduceAdd, Nat.reduceLeDiff, Nat.reduceBEq, Nat.reduceMul, reduceCtorEq, Int.reduceLE, Int.reduceLT, Int.reduceAdd, Int.reduceSub, Int.reduceNeg, Int.reduceToNat, Int.reduceBEq]
    repeat' (first | refine awp_seq ?_ | refine awp_block ?_ | refine awp_round ?_ | refine awp_scope ?_ | refine awp_text rfl ?_ | refine awp_any rfl mix (by kernel_rfl) ?_ | (refine RunTo.unguard rfl rfl (fun hg => ?_) (fun hg => ?_) <;> ((try simp only [Bool.not_true, Bool.not_false, Bool.not_eq_true', Bool.not_eq_false', Bool.not_eq_eq_eq_not] at hg); (first | (cases hg) | (simp only [hg]) | skip))) | ((first | refine RunTo.plain rfl ?_ | refine RunTo.skipped rfl ?_); simp only [go_sem, ↓reduceIte, Nat.reduceEqDiff, Nat.reduceAdd, Nat.reduceLeDiff, Nat.reduceBEq, Nat.reduceMul, reduceCtorEq, Int.reduceLE, Int.reduceLT, Int.reduceAdd, Int.reduceSub, Int.reduceNeg, Int.reduceToNat, Int.reduceBEq, rdB]) | (refine RunTo.actsE (kn) Tryd.func54 rfl rfl rfl rfl rfl rfl ?_; simp only [go_sem, ↓reduceIte, Nat.reduceEqDiff, Nat.reduceAdd, Nat.reduceLeDiff, Nat.reduceBEq, Nat.reduceMul, reduceCtorEq, Int.reduceLE, Int.reduceLT, Int.reduceAdd, Int.reduceSub, Int.reduceNeg, Int.reduceToNat, Int.reduceBEq, rdB]; (repeat' refine And.intro rfl ?_); with_reducible refine RunTo.this ?_) | ((first | refine RunTo.nilA (by kernel_rfl) ?_ | refine RunTo.nilT ?_ | refine awp_skip ?_ | refine awp_exit ?_ | refine awp_label ?_); simp only [go_sem, ↓reduceIte, Nat.reduceEqDiff, Nat.reduceAdd, Nat.reduceLeDiff, Nat.reduceBEq, Nat.reduceMul, reduceCtorEq, Int.reduceLE, Int.reduceLT, Int.reduceAdd, Int.reduceSub, Int.reduceNeg, Int.reduceToNat, Int.reduceBEq, rdB]) | (refine awp_cond' rfl (of_decide_eq_true rfl) (fun hc => ?_) (fun hc => ?_) <;> ((try simp only [Bool.not_true, Bool.not_false, Bool.not_eq_true', Bool.not_eq_false', Bool.not_eq_eq_eq_not] at hc); (first | (cases hc) | (simp only [hc]) | skip))))
    refine awp_weak (weak_nilbox (b := 3) (j := 4) (s := 19) (sz := 4) rfl rfl rfl) ?_
    simp only [go_sem, ↓reduceIte, Nat.reduceEqDiff, Nat.reduceAdd, Nat.reduceLeDiff, Nat.reduceBEq, Nat.reduceMul, reduceCtorEq, Int.reduceLE, Int.reduceLT, Int.reduceAdd, Int.reduceSub, Int.reduceNeg, Int.reduceToNat, Int.reduceBEq, List.set_cons_succ, List.set_cons_zero]
    refine awp_loopw (ICl s k0 (.bad e0)) 17 (SCk s k0 [] _ _) (weak_keep ⟨rfl, rfl, rfl, trivial⟩ ⟨rfl, rfl, rfl, rfl, trivial⟩ (Nat.le_refl _)) ⟨k0, [], _, _, Nat.le_refl _, hk0, by simp, rfl, by simp only [List.length_nil, Nat.sub_zero, Nat.sub_self]; rw [hr]; simp [RL.add], rfl⟩ ?_
    rintro n st ⟨k, acc, T, e, h0k, hk, ha, rfl, hx, rfl⟩
    have ca := c_atom s k hk hs
    rw [show 17 - acc.length = (16 - acc.length) + 1 by omega] at hx
    unfold listL at hx
    have htk : List.take acc.length (acc.map AtomD.enc) = acc.map AtomD.enc := List.take_of_length_le (by simp)
    by_cases h16 : acc.length = 16
    · rw [if_pos h16] at hx
      simp only [RL.add, RL.bad.injEq] at hx
      subst hx
      have q := beq_t (show (acc.length : Int) = 16 by omega)
      repeat' (first | refine awp_seq ?_ | refine awp_block ?_ | refine awp_round ?_ | refine awp_scope ?_ | refine awp_text rfl ?_ | refine awp_any rfl mix (by kernel_rfl) ?_ | (refine RunTo.panic rfl rfl rfl ?_; simp only [go_sem, ↓reduceIte, Nat.reduceEqDiff, Nat.reduceAdd, Nat.reduceLeDiff, Nat.reduceBEq, Nat.reduceMul, reduceCtorEq, Int.reduceLE, Int.reduceLT, Int.reduceAdd, Int.reduceSub, Int.reduceNeg, Int.reduceToNat, Int.reduceBEq, q, List.length_map]) | (refine RunTo.unguard rfl rfl (fun hg => ?_) (fun hg => ?_) <;> ((try simp only [Bool.not_true, Bool.not_false, Bool.not_eq_true', Bool.not_eq_false', Bool.not_eq_eq_eq_not] at hg); (first | (cases hg) | (simp only [hg]) | skip))) | ((first | refine RunTo.plain rfl ?_ | refine RunTo.skipped rfl ?_); simp only [go_sem, ↓reduceIte, Nat.reduceEqDiff, Nat.reduceAdd, Nat.reduceLeDiff, Nat.reduceBEq, Nat.reduceMul, reduceCtorEq, Int.reduceLE, Int.reduceLT, Int.reduceAdd, Int.reduceSub, Int.reduceNeg, Int.reduceToNat, Int.reduceBEq, q, List.length_map]) | ((first | refine RunTo.nilA (by kernel_rfl) ?_ | refine RunTo.nilT ?_ | refine awp_skip ?_ | refine awp_exit ?_ | refine awp_label ?_); simp only [go_sem, ↓reduceIte, Nat.reduceEqDiff, Nat.reduceAdd, Nat.reduceLeDiff, Nat.reduceBEq, Nat.reduceMul, reduceCtorEq, Int.reduceLE, Int.reduceLT, Int.reduceAdd, Int.reduceSub, Int.reduceNeg, Int.reduceToNat, Int.reduceBEq, q, List.length_map]) | (refine awp_cond' rfl (of_decide_eq_true rfl) (fun hc => ?_) (fun hc => ?_) <;> ((try simp only [Bool.not_true, Bool.not_false, Bool.not_eq_true', Bool.not_eq_false', Bool.not_eq_eq_eq_not] at hc); (first | (cases hc) | (simp only [hc]) | skip))))
    · rw [if_neg h16] at hx
      have q := beq_f (show (acc.length : Int) ≠ 16 by omega)
      have c1 : ((acc.length + 1) * 40 ≤ 140737488355328) = True := eq_true (by omega)
      cases hr2 : atomL (s.data.toList.drop k) with
      | bad e1 =>
        rw [hr2] at hx ca
        simp only [RL.add, listN, RL.bad.injEq] at hx
        subst hx
        have ca : Pans _ _ _ _ _ := ca
        repeat' (first | refine awp_seq ?_ | refine awp_block ?_ | refine awp_round ?_ | refine awp_scope ?_ | refine awp_text rfl ?_ | refine awp_any rfl mix (by kernel_rfl) ?_ | (refine RunTo.unguard rfl rfl (fun hg => ?_) (fun hg => ?_) <;> ((try simp only [Bool.not_true, Bool.not_false, Bool.not_eq_true', Bool.not_eq_false', Bool.not_eq_eq_eq_not] at hg); (first | (cases hg) | (simp only [hg]) | skip))) | ((first | refine RunTo.plain rfl ?_ | refine RunTo.skipped rfl ?_); simp only [go_sem, ↓reduceIte, Nat.reduceEqDiff, Nat.reduceAdd, Nat.reduceLeDiff, Nat.reduceBEq, Nat.reduceMul, reduceCtorEq, Int.reduceLE, Int.reduceLT, Int.reduceAdd, Int.reduceSub, Int.reduceNeg, Int.reduceToNat, Int.reduceBEq, rdB, q, List.length_map]) | (refine RunTo.pansE (ca) Tryd.func56 rfl rfl rfl rfl rfl rfl ?_; simp only [go_sem, ↓reduceIte, Nat.reduceEqDiff, Nat.reduceAdd, Nat.reduceLeDiff, Nat.reduceBEq, Nat.reduceMul, reduceCtorEq, Int.reduceLE, Int.reduceLT, Int.reduceAdd, Int.reduceSub, Int.reduceNeg, Int.reduceToNat, Int.reduceBEq, rdB, q, List.length_map]; (repeat' refine And.intro rfl ?_); (all_goals try (with_reducible refine ⟨by kernel_rfl, by kernel_rfl, ?_⟩)); (all_goals try (simp only [go_sem, ↓reduceIte, Nat.reduceEqDiff, Nat.reduceAdd, Nat.reduceLeDiff, Nat.reduceBEq, Nat.reduceMul, reduceCtorEq, Int.reduceLE, Int.reduceLT, Int.reduceAdd, Int.reduceSub, Int.reduceNeg, Int.reduceToNat, Int.reduceBEq, rdB, q, List.length_map]))) | ((first | refine RunTo.nilA (by kernel_rfl) ?_ | refine RunTo.nilT ?_ | refine awp_skip ?_ | refine awp_exit ?_ | refine awp_label ?_); simp only [go_sem, ↓reduceIte, Nat.reduceEqDiff, Nat.reduceAdd, Nat.reduceLeDiff, Nat.reduceBEq, Nat.reduceMul, reduceCtorEq, Int.reduceLE, Int.reduceLT, Int.reduceAdd, Int.reduceSub, Int.reduceNeg, Int.reduceToNat, Int.reduceBEq, rdB, q, List.length_map]) | (refine awp_cond' rfl (of_decide_eq_true rfl) (fun hc => ?_) (fun hc => ?_) <;> ((try simp only [Bool.not_true, Bool.not_false, Bool.not_eq_true', Bool.not_eq_false', Bool.not_eq_eq_eq_not] at hc); (first | (cases hc) | (simp only [hc]) | skip))))
      | ok a j =>
        have hj := atomL_len hr2
        rw [List.length_drop, Array.length_toList] at hj
        have hj2 : j ≤ s.size - k := hj
        rw [hr2] at hx ca
        have ca : Acts _ _ _ _ _ _ := ca
        simp only [listN, List.drop_drop] at hx
        by_cases g1 : preL (s.data.toList.drop (k + j)) clB = true
        · rw [if_pos g1] at hx
          simp [RL.add] at hx
        · rw [if_neg g1] at hx
          have k1 := skip_no (s := s) (k := k + j) (t := clB) (by omega) hs (by decide) (by rw [preS_eq]; simpa using g1)
          by_cases g2 : preL (s.data.toList.drop (k + j)) cmB = true
          · rw [if_pos g2] at hx
            have g3 := preL_len g2
            rw [List.length_drop, Array.length_toList, show cmB.size = 2 from rfl] at g3
            have g4 : 2 ≤ s.size - (k + j) := g3
            have k2 := skip_yes (s := s) (k := k + j) (t := cmB) (by omega) hs (by decide) (by rw [preS_eq]; exact g2)
            rw [show cmB.size = 2 from rfl] at k2
            repeat' (first | refine awp_seq ?_ | refine awp_block ?_ | refine awp_round ?_ | refine awp_scope ?_ | refine awp_text rfl ?_ | refine awp_any rfl mix (by kernel_rfl) ?_ | (refine RunTo.unguard rfl rfl (fun hg => ?_) (fun hg => ?_) <;> ((try simp only [Bool.not_true, Bool.not_false, Bool.not_eq_true', Bool.not_eq_false', Bool.not_eq_eq_eq_not] at hg); (first | (cases hg) | (simp only [hg]) | skip))) | ((first | refine RunTo.plain rfl ?_ | refine RunTo.skipped rfl ?_); simp only [go_sem, ↓reduceIte, Nat.reduceEqDiff, Nat.reduceAdd, Nat.reduceLeDiff, Nat.reduceBEq, Nat.reduceMul, reduceCtorEq, Int.reduceLE, Int.reduceLT, Int.reduceAdd, Int.reduceSub, Int.reduceNeg, Int.reduceToNat, Int.reduceBEq, rdB, q, htk, c1, AtomD.av, List.length_map, lenTy, implies_true]) | (refine RunTo.actsE (ca) Tryd.func56 rfl rfl rfl rfl rfl rfl ?_; simp only [go_sem, ↓reduceIte, Nat.reduceEqDiff, Nat.reduceAdd, Nat.reduceLeDiff, Nat.reduceBEq, Nat.reduceMul, reduceCtorEq, Int.reduceLE, Int.reduceLT, Int.reduceAdd, Int.reduceSub, Int.reduceNeg, Int.reduceToNat, Int.reduceBEq, rdB, q, htk, c1, AtomD.av, List.length_map, lenTy, implies_true]; (repeat' refine And.intro rfl ?_); with_reducible refine RunTo.this ?_) | (refine RunTo.actsE (k1) Tryd.func54 rfl rfl rfl rfl rfl rfl ?_; simp only [go_sem, ↓reduceIte, Nat.reduceEqDiff, Nat.reduceAdd, Nat.reduceLeDiff, Nat.reduceBEq, Nat.reduceMul, reduceCtorEq, Int.reduceLE, Int.reduceLT, Int.reduceAdd, Int.reduceSub, Int.reduceNeg, Int.reduceToNat, Int.reduceBEq, rdB, q, htk, c1, AtomD.av, List.length_map, lenTy, implies_true]; (repeat' refine And.intro rfl ?_); with_reducible refine RunTo.this ?_) | (refine RunTo.actsE (k2) Tryd.func54 rfl rfl rfl rfl rfl rfl ?_; simp only [go_sem, ↓reduceIte, Nat.reduceEqDiff, Nat.reduceAdd, Nat.reduceLeDiff, Nat.reduceBEq, Nat.reduceMul, reduceCtorEq, Int.reduceLE, Int.reduceLT, Int.reduceAdd, Int.reduceSub, Int.reduceNeg, Int.reduceToNat, Int.reduceBEq, rdB, q, htk, c1, AtomD.av, List.length_map, lenTy, implies_true]; (repeat' refine And.intro rfl ?_); with_reducible refine RunTo.this ?_) | ((first | refine RunTo.nilA (by kernel_rfl) ?_ | refine RunTo.nilT ?_ | refine awp_skip ?_ | refine awp_exit ?_ | refine awp_label ?_); simp only [go_sem, ↓reduceIte, Nat.reduceEqDiff, Nat.reduceAdd, Nat.reduceLeDiff, Nat.reduceBEq, Nat.reduceMul, reduceCtorEq, Int.reduceLE, Int.reduceLT, Int.reduceAdd, Int.reduceSub, Int.reduceNeg, Int.reduceToNat, Int.reduceBEq, rdB, q, htk, c1, AtomD.av, List.length_map, lenTy, implies_true]) | (refine awp_cond' rfl (of_decide_eq_true rfl) (fun hc => ?_) (fun hc => ?_) <;> ((try simp only [Bool.not_true, Bool.not_false, Bool.not_eq_true', Bool.not_eq_false', Bool.not_eq_eq_eq_not] at hc); (first | (cases hc) | (simp only [hc]) | skip))))
            have hlen : (acc ++ [a]).length = acc.length + 1 := by simp
            exact ⟨17 - (acc ++ [a]).length, by omega, SCk s (k + j + 2) (acc ++ [a]) _ _, weak_keep ⟨rfl, rfl, rfl, trivial⟩ ⟨rfl, rfl, by rw [hlen]; rfl, by rw [List.map_append]; rfl, trivial⟩ (Nat.le_refl _), k + j + 2, acc ++ [a], _, _, by omega, by omega, by omega, rfl, by rw [hx, RL.add_add, hlen, show 17 - (acc.length + 1) = 16 - acc.length by omega, show k - k0 + (j + 2) = k + j + 2 - k0 by omega], rfl⟩
          · rw [if_neg g2] at hx
            simp only [RL.add, RL.bad.injEq] at hx
            subst hx
            have k2 := skip_no (s := s) (k := k + j) (t := cmB) (by omega) hs (by decide) (by rw [preS_eq]; simpa using g2)
            repeat' (first | refine awp_seq ?_ | refine awp_block ?_ | refine awp_round ?_ | refine awp_scope ?_ | refine awp_text rfl ?_ | refine awp_any rfl mix (by kernel_rfl) ?_ | (refine RunTo.panic rfl rfl rfl ?_; simp only [go_sem, ↓reduceIte, Nat.reduceEqDiff, Nat.reduceAdd, Nat.reduceLeDiff, Nat.reduceBEq, Nat.reduceMul, reduceCtorEq, Int.reduceLE, Int.reduceLT, Int.reduceAdd, Int.reduceSub, Int.reduceNeg, Int.reduceToNat, Int.reduceBEq, rdB, q, htk, c1, AtomD.av, List.length_map, lenTy, implies_true]) | (refine RunTo.unguard rfl rfl (fun hg => ?_) (fun hg => ?_) <;> ((try simp only [Bool.not_true, Bool.not_false, Bool.not_eq_true', Bool.not_eq_false', Bool.not_eq_eq_eq_not] at hg); (first | (cases hg) | (simp only [hg]) | skip))) | ((first | refine RunTo.plain rfl ?_ | refine RunTo.skipped rfl ?_); simp only [go_sem, ↓reduceIte, Nat.reduceEqDiff, Nat.reduceAdd, Nat.reduceLeDiff, Nat.reduceBEq, Nat.reduceMul, reduceCtorEq, Int.reduceLE, Int.reduceLT, Int.reduceAdd, Int.reduceSub, Int.reduceNeg, Int.reduceToNat, Int.reduceBEq, rdB, q, htk, c1, AtomD.av, List.length_map, lenTy, implies_true]) | (refine RunTo.actsE (ca) Tryd.func56 rfl rfl rfl rfl rfl rfl ?_; simp only [go_sem, ↓reduceIte, Nat.reduceEqDiff, Nat.reduceAdd, Nat.reduceLeDiff, Nat.reduceBEq, Nat.reduceMul, reduceCtorEq, Int.reduceLE, Int.reduceLT, Int.reduceAdd, Int.reduceSub, Int.reduceNeg, Int.reduceToNat, Int.reduceBEq, rdB, q, htk, c1, AtomD.av, List.length_map, lenTy, implies_true]; (repeat' refine And.intro rfl ?_); with_reducible refine RunTo.this ?_) | (refine RunTo.actsE (k1) Tryd.func54 rfl rfl rfl rfl rfl rfl ?_; simp only [go_sem, ↓reduceIte, Nat.reduceEqDiff, Nat.reduceAdd, Nat.reduceLeDiff, Nat.reduceBEq, Nat.reduceMul, reduceCtorEq, Int.reduceLE, Int.reduceLT, Int.reduceAdd, Int.reduceSub, Int.reduceNeg, Int.reduceToNat, Int.reduceBEq, rdB, q, htk, c1, AtomD.av, List.length_map, lenTy, implies_true]; (repeat' refine And.intro rfl ?_); with_reducible refine RunTo.this ?_) | (refine RunTo.actsE (k2) Tryd.func54 rfl rfl rfl rfl rfl rfl ?_; simp only [go_sem, ↓reduceIte, Nat.reduceEqDiff, Nat.reduceAdd, Nat.reduceLeDiff, Nat.reduceBEq, Nat.reduceMul, reduceCtorEq, Int.reduceLE, Int.reduceLT, Int.reduceAdd, Int.reduceSub, Int.reduceNeg, Int.reduceToNat, Int.reduceBEq, rdB, q, htk, c1, AtomD.av, List.length_map, lenTy, implies_true]; (repeat' refine And.intro rfl ?_); with_reducible refine RunTo.this ?_) | ((first | refine RunTo.nilA (by kernel_rfl) ?_ | refine RunTo.nilT ?_ | refine awp_skip ?_ | refine awp_exit ?_ | refine awp_label ?_); simp only [go_sem, ↓reduceIte, Nat.reduceEqDiff, Nat.reduceAdd, Nat.reduceLeDiff, Nat.reduceBEq, Nat.reduceMul, reduceCtorEq, Int.reduceLE, Int.reduceLT, Int.reduceAdd, Int.reduceSub, Int.reduceNeg, Int.reduceToNat, Int.reduceBEq, rdB, q, htk, c1, AtomD.av, List.length_map, lenTy, implies_true]) | (refine awp_cond' rfl (of_decide_eq_true rfl) (fun hc => ?_) (fun hc => ?_) <;> ((try simp only [Bool.not_true, Bool.not_false, Bool.not_eq_true', Bool.not_eq_false', Bool.not_eq_eq_eq_not] at hc); (first | (cases hc) | (simp only [hc]) | skip))))
  | ok res m =>
    show Acts _ _ _ _ _ _
    refine acts_of_awp ([(1001, 1001), (19, 1002)]) Tryd.func55 rfl rfl (by simp [Tryd.f55]) ?_; simp only [go_sem, ↓reduceIte, Nat.reduceEqDiff, Nat.reduceAdd, Nat.reduceLeDiff, Nat.reduceBEq, Nat.reduceMul, reduceCtorEq, Int.reduceLE, Int.reduceLT, Int.reduceAdd, Int.reduceSub, Int.reduceNeg, Int.reduceToNat, Int.reduceBEq]
    repeat' (first | refine awp_seq ?_ | refine awp_block ?_ | refine awp_round ?_ | refine awp_scope ?_ | refine awp_text rfl ?_ | refine awp_any rfl mix (by kernel_rfl) ?_ | (refine RunTo.unguard rfl rfl (fun hg => ?_) (fun hg => ?_) <;> ((try simp only [Bool.not_true, Bool.not_false, Bool.not_eq_true', Bool.not_eq_false', Bool.not_eq_eq_eq_not] at hg); (first | (cases hg) | (simp only [hg]) | skip))) | ((first | refine RunTo.plain rfl ?_ | refine RunTo.skipped rfl ?_); simp only [go_sem, ↓reduceIte, Nat.reduceEqDiff, Nat.reduceAdd, Nat.reduceLeDiff, Nat.reduceBEq, Nat.reduceMul, reduceCtorEq, Int.reduceLE, Int.reduceLT, Int.reduceAdd, Int.reduceSub, Int.reduceNeg, Int.reduceToNat, Int.reduceBEq, rdB]) | (refine RunTo.actsE (kn) Tryd.func54 rfl rfl rfl rfl rfl rfl ?_; simp only [go_sem, ↓reduceIte, Nat.reduceEqDiff, Nat.reduceAdd, Nat.reduceLeDiff, Nat.reduceBEq, Nat.reduceMul, reduceCtorEq, Int.reduceLE, Int.reduceLT, Int.reduceAdd, Int.reduceSub, Int.reduceNeg, Int.reduceToNat, Int.reduceBEq, rdB]; (repeat' refine And.intro rfl ?_); with_reducible refine RunTo.this ?_) | ((first | refine RunTo.nilA (by kernel_rfl) ?_ | refine RunTo.nilT ?_ | refine awp_skip ?_ | refine awp_exit ?_ | refine awp_label ?_); simp only [go_sem, ↓reduceIte, Nat.reduceEqDiff, Nat.reduceAdd, Nat.reduceLeDiff, Nat.reduceBEq, Nat.reduceMul, reduceCtorEq, Int.reduceLE, Int.reduceLT, Int.reduceAdd, Int.reduceSub, Int.reduceNeg, Int.reduceToNat, Int.reduceBEq, rdB]) | (refine awp_cond' rfl (of_decide_eq_true rfl) (fun hc => ?_) (fun hc => ?_) <;> ((try simp only [Bool.not_true, Bool.not_false, Bool.not_eq_true', Bool.not_eq_false', Bool.not_eq_eq_eq_not] at hc); (first | (cases hc) | (simp only [hc]) | skip))))
    refine awp_weak (weak_nilbox (b := 3) (j := 4) (s := 19) (sz := 4) rfl rfl rfl) ?_
    simp only [go_sem, ↓reduceIte, Nat.reduceEqDiff, Nat.reduceAdd, Nat.reduceLeDiff, Nat.reduceBEq, Nat.reduceMul, reduceCtorEq, Int.reduceLE, Int.reduceLT, Int.reduceAdd, Int.reduceSub, Int.reduceNeg, Int.reduceToNat, Int.reduceBEq, List.set_cons_succ, List.set_cons_zero]
    refine awp_loopw (ICl s k0 (.ok res m)) 17 (SCk s k0 [] _ _) (weak_keep ⟨rfl, rfl, rfl, trivial⟩ ⟨rfl, rfl, rfl, rfl, trivial⟩ (Nat.le_refl _)) ⟨k0, [], _, _, Nat.le_refl _, hk0, by simp, rfl, by simp only [List.length_nil, Nat.sub_zero, Nat.sub_self]; rw [hr]; simp [RL.add], rfl⟩ ?_
    rintro n st ⟨k, acc, T, e, h0k, hk, ha, rfl, hx, rfl⟩
    have ca := c_atom s k hk hs
    rw [show 17 - acc.length = (16 - acc.length) + 1 by omega] at hx
    unfold listL at hx
    have htk : List.take acc.length (acc.map AtomD.enc) = acc.map AtomD.enc := List.take_of_length_le (by simp)
    by_cases h16 : acc.length = 16
    · rw [if_pos h16] at hx
      simp [RL.add] at hx
    · rw [if_neg h16] at hx
      have q := beq_f (show (acc.length : Int) ≠ 16 by omega)
      have c1 : ((acc.length + 1) * 40 ≤ 140737488355328) = True := eq_true (by omega)
      cases hr2 : atomL (s.data.toList.drop k) with
      | bad e1 =>
        rw [hr2] at hx ca
        simp [RL.add, listN] at hx
      | ok a j =>
        have hj := atomL_len hr2
        rw [List.length_drop, Array.length_toList] at hj
        have hj2 : j ≤ s.size - k := hj
        rw [hr2] at hx ca
        have ca : Acts _ _ _ _ _ _ := ca
        simp only [listN, List.drop_drop] at hx
        by_cases g1 : preL (s.data.toList.drop (k + j)) clB = true
        · rw [if_pos g1] at hx
          simp only [RL.add, RL.ok.injEq] at hx
          obtain ⟨rfl, rfl⟩ := hx
          have k1 := skip_yes (s := s) (k := k + j) (t := clB) (by omega) hs (by decide) (by rw [preS_eq]; exact g1)
          rw [show clB.size = 1 from rfl] at k1
          rw [show k0 + (k - k0 + (j + 1)) = k + j + 1 by omega, List.map_append, List.length_append]
          repeat' (first | refine awp_seq ?_ | refine awp_block ?_ | refine awp_round ?_ | refine awp_scope ?_ | refine awp_text rfl ?_ | refine awp_any rfl mix (by kernel_rfl) ?_ | (refine RunTo.unguard rfl rfl (fun hg => ?_) (fun hg => ?_) <;> ((try simp only [Bool.not_true, Bool.not_false, Bool.not_eq_true', Bool.not_eq_false', Bool.not_eq_eq_eq_not] at hg); (first | (cases hg) | (simp only [hg]) | skip))) | ((first | refine RunTo.plain rfl ?_ | refine RunTo.skipped rfl ?_); simp only [go_sem, ↓reduceIte, Nat.reduceEqDiff, Nat.reduceAdd, Nat.reduceLeDiff, Nat.reduceBEq, Nat.reduceMul, reduceCtorEq, Int.reduceLE, Int.reduceLT, Int.reduceAdd, Int.reduceSub, Int.reduceNeg, Int.reduceToNat, Int.reduceBEq, rdB, q, htk, c1, AtomD.av, List.length_map, lenTy, implies_true]) | (refine RunTo.actsE (ca) Tryd.func56 rfl rfl rfl rfl rfl rfl ?_; simp only [go_sem, ↓reduceIte, Nat.reduceEqDiff, Nat.reduceAdd, Nat.reduceLeDiff, Nat.reduceBEq, Nat.reduceMul, reduceCtorEq, Int.reduceLE, Int.reduceLT, Int.reduceAdd, Int.reduceSub, Int.reduceNeg, Int.reduceToNat, Int.reduceBEq, rdB, q, htk, c1, AtomD.av, List.length_map, lenTy, implies_true]; (repeat' refine And.intro rfl ?_); with_reducible refine RunTo.this ?_) | (refine RunTo.actsE (k1) Tryd.func54 rfl rfl rfl rfl rfl rfl ?_; simp only [go_sem, ↓reduceIte, Nat.reduceEqDiff, Nat.reduceAdd, Nat.reduceLeDiff, Nat.reduceBEq, Nat.reduceMul, reduceCtorEq, Int.reduceLE, Int.reduceLT, Int.reduceAdd, Int.reduceSub, Int.reduceNeg, Int.reduceToNat, Int.reduceBEq, rdB, q, htk, c1, AtomD.av, List.length_map, lenTy, implies_true]; (repeat' refine And.intro rfl ?_); with_reducible refine RunTo.this ?_) | ((first | refine RunTo.nilA (by kernel_rfl) ?_ | refine RunTo.nilT ?_ | refine awp_skip ?_ | refine awp_exit ?_ | refine awp_label ?_); simp only [go_sem, ↓reduceIte, Nat.reduceEqDiff, Nat.reduceAdd, Nat.reduceLeDiff, Nat.reduceBEq, Nat.reduceMul, reduceCtorEq, Int.reduceLE, Int.reduceLT, Int.reduceAdd, Int.reduceSub, Int.reduceNeg, Int.reduceToNat, Int.reduceBEq, rdB, q, htk, c1, AtomD.av, List.length_map, lenTy, implies_true]) | (refine awp_cond' rfl (of_decide_eq_true rfl) (fun hc => ?_) (fun hc => ?_) <;> ((try simp only [Bool.not_true, Bool.not_false, Bool.not_eq_true', Bool.not_eq_false', Bool.not_eq_eq_eq_not] at hc); (first | (cases hc) | (simp only [hc]) | skip))))
          all_goals (first | refine awp_ret ?_ | skip); refine ⟨(by first | exact .inl rfl | exact .inr rfl | exact .inr trivial | trivial), _, rfl, rfl, rfl, ?_, ?_⟩ <;> (try simp only [go_sem, ↓reduceIte, Nat.reduceEqDiff, Nat.reduceAdd, Nat.reduceLeDiff, Nat.reduceBEq, Nat.reduceMul, reduceCtorEq, Int.reduceLE, Int.reduceLT, Int.reduceAdd, Int.reduceSub, Int.reduceNeg, Int.reduceToNat, Int.reduceBEq, rdB])
          all_goals first | rfl | (show AV.agg (renL _ [_, _, _, _, _]) = _; simp only [go_sem, ↓reduceIte, Nat.reduceEqDiff, Nat.reduceAdd, Nat.reduceLeDiff, Nat.reduceBEq, Nat.reduceMul, reduceCtorEq, Int.reduceLE, Int.reduceLT, Int.reduceAdd, Int.reduceSub, Int.reduceNeg, Int.reduceToNat, Int.reduceBEq])
        · rw [if_neg g1] at hx
          have k1 := skip_no (s := s) (k := k + j) (t := clB) (by omega) hs (by decide) (by rw [preS_eq]; simpa using g1)
          by_cases g2 : preL (s.data.toList.drop (k + j)) cmB = true
          · rw [if_pos g2] at hx
            have g3 := preL_len g2
            rw [List.length_drop, Array.length_toList, show cmB.size = 2 from rfl] at g3
            have g4 : 2 ≤ s.size - (k + j) := g3
            have k2 := skip_yes (s := s) (k := k + j) (t := cmB) (by omega) hs (by decide) (by rw [preS_eq]; exact g2)
            rw [show cmB.size = 2 from rfl] at k2
            repeat' (first | refine awp_seq ?_ | refine awp_block ?_ | refine awp_round ?_ | refine awp_scope ?_ | refine awp_text rfl ?_ | refine awp_any rfl mix (by kernel_rfl) ?_ | (refine RunTo.unguard rfl rfl (fun hg => ?_) (fun hg => ?_) <;> ((try simp only [Bool.not_true, Bool.not_false, Bool.not_eq_true', Bool.not_eq_false', Bool.not_eq_eq_eq_not] at hg); (first | (cases hg) | (simp only [hg]) | skip))) | ((first | refine RunTo.plain rfl ?_ | refine RunTo.skipped rfl ?_); simp only [go_sem, ↓reduceIte, Nat.reduceEqDiff, Nat.reduceAdd, Nat.reduceLeDiff, Nat.reduceBEq, Nat.reduceMul, reduceCtorEq, Int.reduceLE, Int.reduceLT, Int.reduceAdd, Int.reduceSub, Int.reduceNeg, Int.reduceToNat, Int.reduceBEq, rdB, q, htk, c1, AtomD.av, List.length_map, lenTy, implies_true]) | (refine RunTo.actsE (ca) Tryd.func56 rfl rfl rfl rfl rfl rfl ?_; simp only [go_sem, ↓reduceIte, Nat.reduceEqDiff, Nat.reduceAdd, Nat.reduceLeDiff, Nat.reduceBEq, Nat.reduceMul, reduceCtorEq, Int.reduceLE, Int.reduceLT, Int.reduceAdd, Int.reduceSub, Int.reduceNeg, Int.reduceToNat, Int.reduceBEq, rdB, q, htk, c1, AtomD.av, List.length_map, lenTy, implies_true]; (repeat' refine And.intro rfl ?_); with_reducible refine RunTo.this ?_) | (refine RunTo.actsE (k1) Tryd.func54 rfl rfl rfl rfl rfl rfl ?_; simp only [go_sem, ↓reduceIte, Nat.reduceEqDiff, Nat.reduceAdd, Nat.reduceLeDiff, Nat.reduceBEq, Nat.reduceMul, reduceCtorEq, Int.reduceLE, Int.reduceLT, Int.reduceAdd, Int.reduceSub, Int.reduceNeg, Int.reduceToNat, Int.reduceBEq, rdB, q, htk, c1, AtomD.av, List.length_map, lenTy, implies_true]; (repeat' refine And.intro rfl ?_); with_reducible refine RunTo.this ?_) | (refine RunTo.actsE (k2) Tryd.func54 rfl rfl rfl rfl rfl rfl ?_; simp only [go_sem, ↓reduceIte, Nat.reduceEqDiff, Nat.reduceAdd, Nat.reduceLeDiff, Nat.reduceBEq, Nat.reduceMul, reduceCtorEq, Int.reduceLE, Int.reduceLT, Int.reduceAdd, Int.reduceSub, Int.reduceNeg, Int.reduceToNat, Int.reduceBEq, rdB, q, htk, c1, AtomD.av, List.length_map, lenTy, implies_true]; (repeat' refine And.intro rfl ?_); with_reducible refine RunTo.this ?_) | ((first | refine RunTo.nilA (by kernel_rfl) ?_ | refine RunTo.nilT ?_ | refine awp_skip ?_ | refine awp_exit ?_ | refine awp_label ?_); simp only [go_sem, ↓reduceIte, Nat.reduceEqDiff, Nat.reduceAdd, Nat.reduceLeDiff, Nat.reduceBEq, Nat.reduceMul, reduceCtorEq, Int.reduceLE, Int.reduceLT, Int.reduceAdd, Int.reduceSub, Int.reduceNeg, Int.reduceToNat, Int.reduceBEq, rdB, q, htk, c1, AtomD.av, List.length_map, lenTy, implies_true]) | (refine awp_cond' rfl (of_decide_eq_true rfl) (fun hc => ?_) (fun hc => ?_) <;> ((try simp only [Bool.not_true, Bool.not_false, Bool.not_eq_true', Bool.not_eq_false', Bool.not_eq_eq_eq_not] at hc); (first | (cases hc) | (simp only [hc]) | skip))))
            have hlen : (acc ++ [a]).length = acc.length + 1 := by simp
            exact ⟨17 - (acc ++ [a]).length, by omega, SCk s (k + j + 2) (acc ++ [a]) _ _, weak_keep ⟨rfl, rfl, rfl, trivial⟩ ⟨rfl, rfl, by rw [hlen]; rfl, by rw [List.map_append]; rfl, trivial⟩ (Nat.le_refl _), k + j + 2, acc ++ [a], _, _, by omega, by omega, by omega, rfl, by rw [hx, RL.add_add, hlen, show 17 - (acc.length + 1) = 16 - acc.length by omega, show k - k0 + (j + 2) = k + j + 2 - k0 by omega], rfl⟩
          · rw [if_neg g2] at hx
            simp [RL.add] at hx
end Go.Proofs.YtjihcldhjpdnmaaDoor.AM
namespace Go.Proofs.YtjihcldhjpdnmaaDoor.AM
open Go.RowKit
set_option linter.unusedSimpArgs false
set_option linter.unusedVariables false
set_option maxRecDepth 10000
set_option maxHeartbeats 0
theorem pure_res {P : Program} {f : FuncId} {args : List AV} {v v' : AV} (hp : Pure P f args v) (h : Ale v v') : Pure P f args v' := fun W X us hX hG hus hargs =>
  (hp W X us hX hG hus hargs).mono fun e W' hh => by
    obtain ⟨u, h1, h2, h3⟩ := hh
    exact ⟨u, h1, h2, h _ _ h3⟩
theorem Ale.tup {l m : List AV} (h : AleL l m) : Ale (.tup l) (.tup m) := fun c u hv => by
  cases hv with
  | tup _ us h1 k1 =>
    refine .tup _ us (by rw [h1, h.1]) (fun i x hi => ?_)
    obtain ⟨y, hy⟩ := get_of_len h.1 hi
    exact h.2 i y x hy hi _ _ (k1 i y hy)
inductive RV where
  | ok (v : ValD) (n : Nat)
  | bad (e : Int)
def listV : RL → RV
  | .ok l m => .ok ⟨⟨6, 0, 0, eE⟩, l⟩ (1 + m)
  | .bad e => .bad e
def atomV : RA → RV
  | .ok a n => .ok ⟨a, []⟩ n
  | .bad e => .bad e
def readL (l : List UInt8) : RV := if preL l openB = true then (if preL (l.drop 1) clB = true then .ok ⟨⟨6, 0, 0, eE⟩, []⟩ 2 else listV (listL 17 [] (l.drop 1))) else atomV (atomL l)
abbrev nulV : ValD := ⟨⟨0, 0, 0, eE⟩, []⟩
def readV : RV → AV
  | .ok v n => .tup [v.av, iv n, iv 0]
  | .bad e => .tup [nulV.av, iv 0, iv e]
abbrev aNil (a : AtomD) : AV := .agg [iv a.k, iv a.n, .lit (.float .f64 a.f), sv a.s, nilA]
theorem aNil_le (a : AtomD) (n e : Int) : Ale (.tup [aNil a, iv n, iv e]) (.tup [ValD.av ⟨a, []⟩, iv n, iv e]) :=
  .tup (.cons (.agg (.cons (.refl _) (.cons (.refl _) (.cons (.refl _) (.cons (.refl _) (.cons (.dat (.nil 4)) .nil)))))) (.cons (.refl _) (.cons (.refl _) .nil)))
theorem c_Read (s : ByteArray) (hs : s.size ≤ 1000000) : Pure Tryd.prog 21 [sv s] (readV (readL s.data.toList)) := by
  have hd0 : s.data.toList.drop 0 = s.data.toList := List.drop_zero
  unfold readL
  by_cases h1 : preL s.data.toList openB = true
  · rw [if_pos h1]
    have k1 := skip_yes (s := s) (k := 0) (t := openB) (Nat.zero_le _) hs (by decide) (by rw [preS_eq, hd0]; exact h1)
    have p1 := preL_len h1
    rw [Array.length_toList, show openB.size = 1 from rfl] at p1
    have p1 : 1 ≤ s.size := p1
    rw [show openB.size = 1 from rfl] at k1
    by_cases h2 : preL (s.data.toList.drop 1) clB = true
    · rw [if_pos h2]
      have k2 := c_list0 s 1 p1 hs h2
      refine pure_res ?_ (aNil_le ⟨6, 0, 0, eE⟩ 2 0)
      refine pure_of_awpd Tryd.func21 rfl rfl (by simp [Tryd.f21]) ?_
      simp only [go_sem, ↓reduceIte, Nat.reduceEqDiff, Nat.reduceAdd, Nat.reduceLeDiff, Nat.reduceBEq, Nat.reduceMul, reduceCtorEq, Int.reduceLE, Int.reduceLT, Int.reduceAdd, Int.reduceSub, Int.reduceNeg, Int.reduceToNat, Int.reduceBEq]
      refine awpd_seqA (fun D => ?_)
      repeat' (first | refine awp_seq ?_ | refine awp_block ?_ | refine awp_round ?_ | refine awp_scope ?_ | refine awp_text rfl ?_ | refine awp_any rfl mix (by kernel_rfl) ?_ | (refine RunTo.unguard rfl rfl (fun hg => ?_) (fun hg => ?_) <;> ((try simp only [Bool.not_true, Bool.not_false, Bool.not_eq_true', Bool.not_eq_false', Bool.not_eq_eq_eq_not] at hg); (first | (cases hg) | (simp only [hg]) | skip))) | ((first | refine RunTo.plain rfl ?_ | refine RunTo.skipped rfl ?_); simp only [go_sem, ↓reduceIte, Nat.reduceEqDiff, Nat.reduceAdd, Nat.reduceLeDiff, Nat.reduceBEq, Nat.reduceMul, reduceCtorEq, Int.reduceLE, Int.reduceLT, Int.reduceAdd, Int.reduceSub, Int.reduceNeg, Int.reduceToNat, Int.reduceBEq]) | ((first | refine RunTo.nilA (by kernel_rfl) ?_ | refine RunTo.nilT ?_ | refine awp_skip ?_ | refine awp_exit ?_ | refine awp_label ?_); simp only [go_sem, ↓reduceIte, Nat.reduceEqDiff, Nat.reduceAdd, Nat.reduceLeDiff, Nat.reduceBEq, Nat.reduceMul, reduceCtorEq, Int.reduceLE, Int.reduceLT, Int.reduceAdd, Int.reduceSub, Int.reduceNeg, Int.reduceToNat, Int.reduceBEq]) | (refine awp_cond' rfl (of_decide_eq_true rfl) (fun hc => ?_) (fun hc => ?_) <;> ((try simp only [Bool.not_true, Bool.not_false, Bool.not_eq_true', Bool.not_eq_false', Bool.not_eq_eq_eq_not] at hc); (first | (cases hc) | (simp only [hc]) | skip))))
      refine awpd_seq (awpd_defer rfl rfl rfl rfl rfl rfl rfl rfl rfl (of_decide_eq_true rfl) rfl ?_)
      show AWPD _ _ _ _ _ _
      simp only [go_sem, ↓reduceIte, Nat.reduceEqDiff, Nat.reduceAdd, Nat.reduceLeDiff, Nat.reduceBEq, Nat.reduceMul, reduceCtorEq, Int.reduceLE, Int.reduceLT, Int.reduceAdd, Int.reduceSub, Int.reduceNeg, Int.reduceToNat, Int.reduceBEq]
      refine awpd_of (fun D => ?_)
      repeat' (first | refine awp_seq ?_ | refine awp_block ?_ | refine awp_round ?_ | refine awp_scope ?_ | refine awp_text rfl ?_ | refine awp_any rfl mix (by kernel_rfl) ?_ | (refine RunTo.unguard rfl rfl (fun hg => ?_) (fun hg => ?_) <;> ((try simp only [Bool.not_true, Bool.not_false, Bool.not_eq_true', Bool.not_eq_false', Bool.not_eq_eq_eq_not] at hg); (first | (cases hg) | (simp only [hg]) | skip))) | ((first | refine RunTo.plain rfl ?_ | refine RunTo.skipped rfl ?_); simp only [go_sem, ↓reduceIte, Nat.reduceEqDiff, Nat.reduceAdd, Nat.reduceLeDiff, Nat.reduceBEq, Nat.reduceMul, reduceCtorEq, Int.reduceLE, Int.reduceLT, Int.reduceAdd, Int.reduceSub, Int.reduceNeg, Int.reduceToNat, Int.reduceBEq, rdB]) | (refine RunTo.actsE (k1) Tryd.func54 rfl rfl rfl rfl rfl rfl ?_; simp only [go_sem, ↓reduceIte, Nat.reduceEqDiff, Nat.reduceAdd, Nat.reduceLeDiff, Nat.reduceBEq, Nat.reduceMul, reduceCtorEq, Int.reduceLE, Int.reduceLT, Int.reduceAdd, Int.reduceSub, Int.reduceNeg, Int.reduceToNat, Int.reduceBEq, rdB]; (repeat' refine And.intro rfl ?_); with_reducible refine RunTo.this ?_) | (refine RunTo.actsE (k2) Tryd.func55 rfl rfl rfl rfl rfl rfl ?_; simp only [go_sem, ↓reduceIte, Nat.reduceEqDiff, Nat.reduceAdd, Nat.reduceLeDiff, Nat.reduceBEq, Nat.reduceMul, reduceCtorEq, Int.reduceLE, Int.reduceLT, Int.reduceAdd, Int.reduceSub, Int.reduceNeg, Int.reduceToNat, Int.reduceBEq, rdB]; (repeat' refine And.intro rfl ?_); with_reducible refine RunTo.this ?_) | ((first | refine RunTo.nilA (by kernel_rfl) ?_ | refine RunTo.nilT ?_ | refine awp_skip ?_ | refine awp_exit ?_ | refine awp_label ?_); simp only [go_sem, ↓reduceIte, Nat.reduceEqDiff, Nat.reduceAdd, Nat.reduceLeDiff, Nat.reduceBEq, Nat.reduceMul, reduceCtorEq, Int.reduceLE, Int.reduceLT, Int.reduceAdd, Int.reduceSub, Int.reduceNeg, Int.reduceToNat, Int.reduceBEq, rdB]) | (refine awp_cond' rfl (of_decide_eq_true rfl) (fun hc => ?_) (fun hc => ?_) <;> ((try simp only [Bool.not_true, Bool.not_false, Bool.not_eq_true', Bool.not_eq_false', Bool.not_eq_eq_eq_not] at hc); (first | (cases hc) | (simp only [hc]) | skip))))
      all_goals
        refine awp_ret ?_
        refine .inr ⟨_, _, .returning, .returning, _, rfl, .inl ⟨.inl rfl, rfl⟩, d_Read0 _ _ _ _ _, rfl, fun T' => ?_⟩
        simp only [go_sem, ↓reduceIte, Nat.reduceEqDiff, Nat.reduceAdd, Nat.reduceLeDiff, Nat.reduceBEq, Nat.reduceMul, reduceCtorEq, Int.reduceLE, Int.reduceLT, Int.reduceAdd, Int.reduceSub, Int.reduceNeg, Int.reduceToNat, Int.reduceBEq, retV, resL, resV, sealV, sealC, sealAll, Tryd.f21]
      all_goals rfl
    · rw [if_neg h2]
      have cl := c_list s 1 p1 hs (by simpa using h2)
      cases hr : listL 17 [] (s.data.toList.drop 1) with
      | ok l m =>
        rw [hr] at cl
        have cl : Acts _ _ _ _ _ _ := cl
        have htk : List.take l.length (l.map AtomD.enc) = l.map AtomD.enc := List.take_of_length_le (by simp)
        refine pure_of_awpd Tryd.func21 rfl rfl (by simp [Tryd.f21]) ?_
        simp only [go_sem, ↓reduceIte, Nat.reduceEqDiff, Nat.reduceAdd, Nat.reduceLeDiff, Nat.reduceBEq, Nat.reduceMul, reduceCtorEq, Int.reduceLE, Int.reduceLT, Int.reduceAdd, Int.reduceSub, Int.reduceNeg, Int.reduceToNat, Int.reduceBEq]
        refine awpd_seqA (fun D => ?_)
        repeat' (first | refine awp_seq ?_ | refine awp_block ?_ | refine awp_round ?_ | refine awp_scope ?_ | refine awp_text rfl ?_ | refine awp_any rfl mix (by kernel_rfl) ?_ | (refine RunTo.unguard rfl rfl (fun hg => ?_) (fun hg => ?_) <;> ((try simp only [Bool.not_true, Bool.not_false, Bool.not_eq_true', Bool.not_eq_false', Bool.not_eq_eq_eq_not] at hg); (first | (cases hg) | (simp only [hg]) | skip))) | ((first | refine RunTo.plain rfl ?_ | refine RunTo.skipped rfl ?_); simp only [go_sem, ↓reduceIte, Nat.reduceEqDiff, Nat.reduceAdd, Nat.reduceLeDiff, Nat.reduceBEq, Nat.reduceMul, reduceCtorEq, Int.reduceLE, Int.reduceLT, Int.reduceAdd, Int.reduceSub, Int.reduceNeg, Int.reduceToNat, Int.reduceBEq]) | ((first | refine RunTo.nilA (by kernel_rfl) ?_ | refine RunTo.nilT ?_ | refine awp_skip ?_ | refine awp_exit ?_ | refine awp_label ?_); simp only [go_sem, ↓reduceIte, Nat.reduceEqDiff, Nat.reduceAdd, Nat.reduceLeDiff, Nat.reduceBEq, Nat.reduceMul, reduceCtorEq, Int.reduceLE, Int.reduceLT, Int.reduceAdd, Int.reduceSub, Int.reduceNeg, Int.reduceToNat, Int.reduceBEq]) | (refine awp_cond' rfl (of_decide_eq_true rfl) (fun hc => ?_) (fun hc => ?_) <;> ((try simp only [Bool.not_true, Bool.not_false, Bool.not_eq_true', Bool.not_eq_false', Bool.not_eq_eq_eq_not] at hc); (first | (cases hc) | (simp only [hc]) | skip))))
        refine awpd_seq (awpd_defer rfl rfl rfl rfl rfl rfl rfl rfl rfl (of_decide_eq_true rfl) rfl ?_)
        show AWPD _ _ _ _ _ _
        simp only [go_sem, ↓reduceIte, Nat.reduceEqDiff, Nat.reduceAdd, Nat.reduceLeDiff, Nat.reduceBEq, Nat.reduceMul, reduceCtorEq, Int.reduceLE, Int.reduceLT, Int.reduceAdd, Int.reduceSub, Int.reduceNeg, Int.reduceToNat, Int.reduceBEq]
        refine awpd_of (fun D => ?_)
        repeat' (first | refine awp_seq ?_ | refine awp_block ?_ | refine awp_round ?_ | refine awp_scope ?_ | refine awp_text rfl ?_ | refine awp_any rfl mix (by kernel_rfl) ?_ | (refine RunTo.unguard rfl rfl (fun hg => ?_) (fun hg => ?_) <;> ((try simp only [Bool.not_true, Bool.not_false, Bool.not_eq_true', Bool.not_eq_false', Bool.not_eq_eq_eq_not] at hg); (first | (cases hg) | (simp only [hg]) | skip))) | ((first | refine RunTo.plain rfl ?_ | refine RunTo.skipped rfl ?_); simp only [go_sem, ↓reduceIte, Nat.reduceEqDiff, Nat.reduceAdd, Nat.reduceLeDiff, Nat.reduceBEq, Nat.reduceMul, reduceCtorEq, Int.reduceLE, Int.reduceLT, Int.reduceAdd, Int.reduceSub, Int.reduceNeg, Int.reduceToNat, Int.reduceBEq, rdB, Option.getD_some]) | (refine RunTo.actsE (k1) Tryd.func54 rfl rfl rfl rfl rfl rfl ?_; simp only [go_sem, ↓reduceIte, Nat.reduceEqDiff, Nat.reduceAdd, Nat.reduceLeDiff, Nat.reduceBEq, Nat.reduceMul, reduceCtorEq, Int.reduceLE, Int.reduceLT, Int.reduceAdd, Int.reduceSub, Int.reduceNeg, Int.reduceToNat, Int.reduceBEq, rdB, Option.getD_some]; (repeat' refine And.intro rfl ?_); with_reducible refine RunTo.this ?_) | (refine RunTo.actsE (cl) Tryd.func55 rfl rfl rfl rfl rfl rfl ?_; simp only [go_sem, ↓reduceIte, Nat.reduceEqDiff, Nat.reduceAdd, Nat.reduceLeDiff, Nat.reduceBEq, Nat.reduceMul, reduceCtorEq, Int.reduceLE, Int.reduceLT, Int.reduceAdd, Int.reduceSub, Int.reduceNeg, Int.reduceToNat, Int.reduceBEq, rdB, Option.getD_some]; (repeat' refine And.intro rfl ?_); with_reducible refine RunTo.this ?_) | ((first | refine RunTo.nilA (by kernel_rfl) ?_ | refine RunTo.nilT ?_ | refine awp_skip ?_ | refine awp_exit ?_ | refine awp_label ?_); simp only [go_sem, ↓reduceIte, Nat.reduceEqDiff, Nat.reduceAdd, Nat.reduceLeDiff, Nat.reduceBEq, Nat.reduceMul, reduceCtorEq, Int.reduceLE, Int.reduceLT, Int.reduceAdd, Int.reduceSub, Int.reduceNeg, Int.reduceToNat, Int.reduceBEq, rdB, Option.getD_some]) | (refine awp_cond' rfl (of_decide_eq_true rfl) (fun hc => ?_) (fun hc => ?_) <;> ((try simp only [Bool.not_true, Bool.not_false, Bool.not_eq_true', Bool.not_eq_false', Bool.not_eq_eq_eq_not] at hc); (first | (cases hc) | (simp only [hc]) | skip))))
        all_goals
          refine awp_ret ?_
          refine .inr ⟨_, _, .returning, .returning, _, rfl, .inl ⟨.inl rfl, rfl⟩, d_Read0 _ _ _ _ _, rfl, fun T' => ?_⟩
          simp only [go_sem, ↓reduceIte, Nat.reduceEqDiff, Nat.reduceAdd, Nat.reduceLeDiff, Nat.reduceBEq, Nat.reduceMul, reduceCtorEq, Int.reduceLE, Int.reduceLT, Int.reduceAdd, Int.reduceSub, Int.reduceNeg, Int.reduceToNat, Int.reduceBEq, retV, resL, resV, sealV, sealC, sealAll, htk, List.length_map, Nat.le_refl, Tryd.f21]
        all_goals rfl
      | bad e =>
        rw [hr] at cl
        have cl : Pans _ _ _ _ _ := cl
        refine pure_res ?_ (aNil_le ⟨0, 0, 0, eE⟩ 0 e)
        refine pure_of_awpd Tryd.func21 rfl rfl (by simp [Tryd.f21]) ?_
        simp only [go_sem, ↓reduceIte, Nat.reduceEqDiff, Nat.reduceAdd, Nat.reduceLeDiff, Nat.reduceBEq, Nat.reduceMul, reduceCtorEq, Int.reduceLE, Int.reduceLT, Int.reduceAdd, Int.reduceSub, Int.reduceNeg, Int.reduceToNat, Int.reduceBEq]
        refine awpd_seqA (fun D => ?_)
        repeat' (first | refine awp_seq ?_ | refine awp_block ?_ | refine awp_round ?_ | refine awp_scope ?_ | refine awp_text rfl ?_ | refine awp_any rfl mix (by kernel_rfl) ?_ | (refine RunTo.unguard rfl rfl (fun hg => ?_) (fun hg => ?_) <;> ((try simp only [Bool.not_true, Bool.not_false, Bool.not_eq_true', Bool.not_eq_false', Bool.not_eq_eq_eq_not] at hg); (first | (cases hg) | (simp only [hg]) | skip))) | ((first | refine RunTo.plain rfl ?_ | refine RunTo.skipped rfl ?_); simp only [go_sem, ↓reduceIte, Nat.reduceEqDiff, Nat.reduceAdd, Nat.reduceLeDiff, Nat.reduceBEq, Nat.reduceMul, reduceCtorEq, Int.reduceLE, Int.reduceLT, Int.reduceAdd, Int.reduceSub, Int.reduceNeg, Int.reduceToNat, Int.reduceBEq]) | ((first | refine RunTo.nilA (by kernel_rfl) ?_ | refine RunTo.nilT ?_ | refine awp_skip ?_ | refine awp_exit ?_ | refine awp_label ?_); simp only [go_sem, ↓reduceIte, Nat.reduceEqDiff, Nat.reduceAdd, Nat.reduceLeDiff, Nat.reduceBEq, Nat.reduceMul, reduceCtorEq, Int.reduceLE, Int.reduceLT, Int.reduceAdd, Int.reduceSub, Int.reduceNeg, Int.reduceToNat, Int.reduceBEq]) | (refine awp_cond' rfl (of_decide_eq_true rfl) (fun hc => ?_) (fun hc => ?_) <;> ((try simp only [Bool.not_true, Bool.not_false, Bool.not_eq_true', Bool.not_eq_false', Bool.not_eq_eq_eq_not] at hc); (first | (cases hc) | (simp only [hc]) | skip))))
        refine awpd_seq (awpd_defer rfl rfl rfl rfl rfl rfl rfl rfl rfl (of_decide_eq_true rfl) rfl ?_)
        show AWPD _ _ _ _ _ _
        simp only [go_sem, ↓reduceIte, Nat.reduceEqDiff, Nat.reduceAdd, Nat.reduceLeDiff, Nat.reduceBEq, Nat.reduceMul, reduceCtorEq, Int.reduceLE, Int.reduceLT, Int.reduceAdd, Int.reduceSub, Int.reduceNeg, Int.reduceToNat, Int.reduceBEq]
        refine awpd_of (fun D => ?_)
        repeat' (first | refine awp_seq ?_ | refine awp_block ?_ | refine awp_round ?_ | refine awp_scope ?_ | refine awp_text rfl ?_ | refine awp_any rfl mix (by kernel_rfl) ?_ | (refine RunTo.unguard rfl rfl (fun hg => ?_) (fun hg => ?_) <;> ((try simp only [Bool.not_true, Bool.not_false, Bool.not_eq_true', Bool.not_eq_false', Bool.not_eq_eq_eq_not] at hg); (first | (cases hg) | (simp only [hg]) | skip))) | ((first | refine RunTo.plain rfl ?_ | refine RunTo.skipped rfl ?_); simp only [go_sem, ↓reduceIte, Nat.reduceEqDiff, Nat.reduceAdd, Nat.reduceLeDiff, Nat.reduceBEq, Nat.reduceMul, reduceCtorEq, Int.reduceLE, Int.reduceLT, Int.reduceAdd, Int.reduceSub, Int.reduceNeg, Int.reduceToNat, Int.reduceBEq, rdB]) | (refine RunTo.actsE (k1) Tryd.func54 rfl rfl rfl rfl rfl rfl ?_; simp only [go_sem, ↓reduceIte, Nat.reduceEqDiff, Nat.reduceAdd, Nat.reduceLeDiff, Nat.reduceBEq, Nat.reduceMul, reduceCtorEq, Int.reduceLE, Int.reduceLT, Int.reduceAdd, Int.reduceSub, Int.reduceNeg, Int.reduceToNat, Int.reduceBEq, rdB]; (repeat' refine And.intro rfl ?_); with_reducible refine RunTo.this ?_) | (refine RunTo.pansE (cl) Tryd.func55 rfl rfl rfl rfl rfl rfl ?_; simp only [go_sem, ↓reduceIte, Nat.reduceEqDiff, Nat.reduceAdd, Nat.reduceLeDiff, Nat.reduceBEq, Nat.reduceMul, reduceCtorEq, Int.reduceLE, Int.reduceLT, Int.reduceAdd, Int.reduceSub, Int.reduceNeg, Int.reduceToNat, Int.reduceBEq, rdB]; (repeat' refine And.intro rfl ?_); (all_goals try (with_reducible refine ⟨by kernel_rfl, by kernel_rfl, ?_⟩)); (all_goals try (simp only [go_sem, ↓reduceIte, Nat.reduceEqDiff, Nat.reduceAdd, Nat.reduceLeDiff, Nat.reduceBEq, Nat.reduceMul, reduceCtorEq, Int.reduceLE, Int.reduceLT, Int.reduceAdd, Int.reduceSub, Int.reduceNeg, Int.reduceToNat, Int.reduceBEq, rdB]))) | ((first | refine RunTo.nilA (by kernel_rfl) ?_ | refine RunTo.nilT ?_ | refine awp_skip ?_ | refine awp_exit ?_ | refine awp_label ?_); simp only [go_sem, ↓reduceIte, Nat.reduceEqDiff, Nat.reduceAdd, Nat.reduceLeDiff, Nat.reduceBEq, Nat.reduceMul, reduceCtorEq, Int.reduceLE, Int.reduceLT, Int.reduceAdd, Int.reduceSub, Int.reduceNeg, Int.reduceToNat, Int.reduceBEq, rdB]) | (refine awp_cond' rfl (of_decide_eq_true rfl) (fun hc => ?_) (fun hc => ?_) <;> ((try simp only [Bool.not_true, Bool.not_false, Bool.not_eq_true', Bool.not_eq_false', Bool.not_eq_eq_eq_not] at hc); (first | (cases hc) | (simp only [hc]) | skip))))
        all_goals exact .inr ⟨_, _, .panicking _, _, _, rfl, .inr ⟨_, rfl, rfl⟩, d_Read1 e _ _ _ _ _ _ _ _ _ _ _, rfl, fun T' => rfl⟩
  · rw [if_neg h1]
    have k1 := skip_no (s := s) (k := 0) (t := openB) (Nat.zero_le _) hs (by decide) (by rw [preS_eq, hd0]; simpa using h1)
    have ca := c_atom s 0 (Nat.zero_le _) hs
    rw [hd0] at ca
    cases hr : atomL s.data.toList with
    | ok a m =>
      rw [hr] at ca
      have ca : Acts _ _ _ _ _ _ := ca
      rw [Nat.zero_add] at ca
      refine pure_res ?_ (aNil_le a m 0)
      refine pure_of_awpd Tryd.func21 rfl rfl (by simp [Tryd.f21]) ?_
      simp only [go_sem, ↓reduceIte, Nat.reduceEqDiff, Nat.reduceAdd, Nat.reduceLeDiff, Nat.reduceBEq, Nat.reduceMul, reduceCtorEq, Int.reduceLE, Int.reduceLT, Int.reduceAdd, Int.reduceSub, Int.reduceNeg, Int.reduceToNat, Int.reduceBEq]
      refine awpd_seqA (fun D => ?_)
      repeat' (first | refine awp_seq ?_ | refine awp_block ?_ | refine awp_round ?_ | refine awp_scope ?_ | refine awp_text rfl ?_ | refine awp_any rfl mix (by kernel_rfl) ?_ | (refine RunTo.unguard rfl rfl (fun hg => ?_) (fun hg => ?_) <;> ((try simp only [Bool.not_true, Bool.not_false, Bool.not_eq_true', Bool.not_eq_false', Bool.not_eq_eq_eq_not] at hg); (first | (cases hg) | (simp only [hg]) | skip))) | ((first | refine RunTo.plain rfl ?_ | refine RunTo.skipped rfl ?_); simp only [go_sem, ↓reduceIte, Nat.reduceEqDiff, Nat.reduceAdd, Nat.reduceLeDiff, Nat.reduceBEq, Nat.reduceMul, reduceCtorEq, Int.reduceLE, Int.reduceLT, Int.reduceAdd, Int.reduceSub, Int.reduceNeg, Int.reduceToNat, Int.reduceBEq]) | ((first | refine RunTo.nilA (by kernel_rfl) ?_ | refine RunTo.nilT ?_ | refine awp_skip ?_ | refine awp_exit ?_ | refine awp_label ?_); simp only [go_sem, ↓reduceIte, Nat.reduceEqDiff, Nat.reduceAdd, Nat.reduceLeDiff, Nat.reduceBEq, Nat.reduceMul, reduceCtorEq, Int.reduceLE, Int.reduceLT, Int.reduceAdd, Int.reduceSub, Int.reduceNeg, Int.reduceToNat, Int.reduceBEq]) | (refine awp_cond' rfl (of_decide_eq_true rfl) (fun hc => ?_) (fun hc => ?_) <;> ((try simp only [Bool.not_true, Bool.not_false, Bool.not_eq_true', Bool.not_eq_false', Bool.not_eq_eq_eq_not] at hc); (first | (cases hc) | (simp only [hc]) | skip))))
      refine awpd_seq (awpd_defer rfl rfl rfl rfl rfl rfl rfl rfl rfl (of_decide_eq_true rfl) rfl ?_)
      show AWPD _ _ _ _ _ _
      simp only [go_sem, ↓reduceIte, Nat.reduceEqDiff, Nat.reduceAdd, Nat.reduceLeDiff, Nat.reduceBEq, Nat.reduceMul, reduceCtorEq, Int.reduceLE, Int.reduceLT, Int.reduceAdd, Int.reduceSub, Int.reduceNeg, Int.reduceToNat, Int.reduceBEq]
      refine awpd_of (fun D => ?_)
      repeat' (first | refine awp_seq ?_ | refine awp_block ?_ | refine awp_round ?_ | refine awp_scope ?_ | refine awp_text rfl ?_ | refine awp_any rfl mix (by kernel_rfl) ?_ | (refine RunTo.unguard rfl rfl (fun hg => ?_) (fun hg => ?_) <;> ((try simp only [Bool.not_true, Bool.not_false, Bool.not_eq_true', Bool.not_eq_false', Bool.not_eq_eq_eq_not] at hg); (first | (cases hg) | (simp only [hg]) | skip))) | ((first | refine RunTo.plain rfl ?_ | refine RunTo.skipped rfl ?_); simp only [go_sem, ↓reduceIte, Nat.reduceEqDiff, Nat.reduceAdd, Nat.reduceLeDiff, Nat.reduceBEq, Nat.reduceMul, reduceCtorEq, Int.reduceLE, Int.reduceLT, Int.reduceAdd, Int.reduceSub, Int.reduceNeg, Int.reduceToNat, Int.reduceBEq, rdB, AtomD.av]) | (refine RunTo.actsE (k1) Tryd.func54 rfl rfl rfl rfl rfl rfl ?_; simp only [go_sem, ↓reduceIte, Nat.reduceEqDiff, Nat.reduceAdd, Nat.reduceLeDiff, Nat.reduceBEq, Nat.reduceMul, reduceCtorEq, Int.reduceLE, Int.reduceLT, Int.reduceAdd, Int.reduceSub, Int.reduceNeg, Int.reduceToNat, Int.reduceBEq, rdB, AtomD.av]; (repeat' refine And.intro rfl ?_); with_reducible refine RunTo.this ?_) | (refine RunTo.actsE (ca) Tryd.func56 rfl rfl rfl rfl rfl rfl ?_; simp only [go_sem, ↓reduceIte, Nat.reduceEqDiff, Nat.reduceAdd, Nat.reduceLeDiff, Nat.reduceBEq, Nat.reduceMul, reduceCtorEq, Int.reduceLE, Int.reduceLT, Int.reduceAdd, Int.reduceSub, Int.reduceNeg, Int.reduceToNat, Int.reduceBEq, rdB, AtomD.av]; (repeat' refine And.intro rfl ?_); with_reducible refine RunTo.this ?_) | ((first | refine RunTo.nilA (by kernel_rfl) ?_ | refine RunTo.nilT ?_ | refine awp_skip ?_ | refine awp_exit ?_ | refine awp_label ?_); simp only [go_sem, ↓reduceIte, Nat.reduceEqDiff, Nat.reduceAdd, Nat.reduceLeDiff, Nat.reduceBEq, Nat.reduceMul, reduceCtorEq, Int.reduceLE, Int.reduceLT, Int.reduceAdd, Int.reduceSub, Int.reduceNeg, Int.reduceToNat, Int.reduceBEq, rdB, AtomD.av]) | (refine awp_cond' rfl (of_decide_eq_true rfl) (fun hc => ?_) (fun hc => ?_) <;> ((try simp only [Bool.not_true, Bool.not_false, Bool.not_eq_true', Bool.not_eq_false', Bool.not_eq_eq_eq_not] at hc); (first | (cases hc) | (simp only [hc]) | skip))))
      all_goals
        refine awp_ret ?_
        refine .inr ⟨_, _, .returning, .returning, _, rfl, .inl ⟨.inl rfl, rfl⟩, d_Read0 _ _ _ _ _, rfl, fun T' => ?_⟩
        simp only [go_sem, ↓reduceIte, Nat.reduceEqDiff, Nat.reduceAdd, Nat.reduceLeDiff, Nat.reduceBEq, Nat.reduceMul, reduceCtorEq, Int.reduceLE, Int.reduceLT, Int.reduceAdd, Int.reduceSub, Int.reduceNeg, Int.reduceToNat, Int.reduceBEq, retV, resL, resV, sealV, sealC, sealAll, Tryd.f21]
      all_goals rfl
    | bad e =>
      rw [hr] at ca
      have ca : Pans _ _ _ _ _ := ca
      refine pure_res ?_ (aNil_le ⟨0, 0, 0, eE⟩ 0 e)
      refine pure_of_awpd Tryd.func21 rfl rfl (by simp [Tryd.f21]) ?_
      simp only [go_sem, ↓reduceIte, Nat.reduceEqDiff, Nat.reduceAdd, Nat.reduceLeDiff, Nat.reduceBEq, Nat.reduceMul, reduceCtorEq, Int.reduceLE, Int.reduceLT, Int.reduceAdd, Int.reduceSub, Int.reduceNeg, Int.reduceToNat, Int.reduceBEq]
      refine awpd_seqA (fun D => ?_)
      repeat' (first | refine awp_seq ?_ | refine awp_block ?_ | refine awp_round ?_ | refine awp_scope ?_ | refine awp_text rfl ?_ | refine awp_any rfl mix (by kernel_rfl) ?_ | (refine RunTo.unguard rfl rfl (fun hg => ?_) (fun hg => ?_) <;> ((try simp only [Bool.not_true, Bool.not_false, Bool.not_eq_true', Bool.not_eq_false', Bool.not_eq_eq_eq_not] at hg); (first | (cases hg) | (simp only [hg]) | skip))) | ((first | refine RunTo.plain rfl ?_ | refine RunTo.skipped rfl ?_); simp only [go_sem, ↓reduceIte, Nat.reduceEqDiff, Nat.reduceAdd, Nat.reduceLeDiff, Nat.reduceBEq, Nat.reduceMul, reduceCtorEq, Int.reduceLE, Int.reduceLT, Int.reduceAdd, Int.reduceSub, Int.reduceNeg, Int.reduceToNat, Int.reduceBEq]) | ((first | refine RunTo.nilA (by kernel_rfl) ?_ | refine RunTo.nilT ?_ | refine awp_skip ?_ | refine awp_exit ?_ | refine awp_label ?_); simp only [go_sem, ↓reduceIte, Nat.reduceEqDiff, Nat.reduceAdd, Nat.reduceLeDiff, Nat.reduceBEq, Nat.reduceMul, reduceCtorEq, Int.reduceLE, Int.reduceLT, Int.reduceAdd, Int.reduceSub, Int.reduceNeg, Int.reduceToNat, Int.reduceBEq]) | (refine awp_cond' rfl (of_decide_eq_true rfl) (fun hc => ?_) (fun hc => ?_) <;> ((try simp only [Bool.not_true, Bool.not_false, Bool.not_eq_true', Bool.not_eq_false', Bool.not_eq_eq_eq_not] at hc); (first | (cases hc) | (simp only [hc]) | skip))))
      refine awpd_seq (awpd_defer rfl rfl rfl rfl rfl rfl rfl rfl rfl (of_decide_eq_true rfl) rfl ?_)
      show AWPD _ _ _ _ _ _
      simp only [go_sem, ↓reduceIte, Nat.reduceEqDiff, Nat.reduceAdd, Nat.reduceLeDiff, Nat.reduceBEq, Nat.reduceMul, reduceCtorEq, Int.reduceLE, Int.reduceLT, Int.reduceAdd, Int.reduceSub, Int.reduceNeg, Int.reduceToNat, Int.reduceBEq]
      refine awpd_of (fun D => ?_)
      repeat' (first | refine awp_seq ?_ | refine awp_block ?_ | refine awp_round ?_ | refine awp_scope ?_ | refine awp_text rfl ?_ | refine awp_any rfl mix (by kernel_rfl) ?_ | (refine RunTo.unguard rfl rfl (fun hg => ?_) (fun hg => ?_) <;> ((try simp only [Bool.not_true, Bool.not_false, Bool.not_eq_true', Bool.not_eq_false', Bool.not_eq_eq_eq_not] at hg); (first | (cases hg) | (simp only [hg]) | skip))) | ((first | refine RunTo.plain rfl ?_ | refine RunTo.skipped rfl ?_); simp only [go_sem, ↓reduceIte, Nat.reduceEqDiff, Nat.reduceAdd, Nat.reduceLeDiff, Nat.reduceBEq, Nat.reduceMul, reduceCtorEq, Int.reduceLE, Int.reduceLT, Int.reduceAdd, Int.reduceSub, Int.reduceNeg, Int.reduceToNat, Int.reduceBEq, rdB]) | (refine RunTo.actsE (k1) Tryd.func54 rfl rfl rfl rfl rfl rfl ?_; simp only [go_sem, ↓reduceIte, Nat.reduceEqDiff, Nat.reduceAdd, Nat.reduceLeDiff, Nat.reduceBEq, Nat.reduceMul, reduceCtorEq, Int.reduceLE, Int.reduceLT, Int.reduceAdd, Int.reduceSub, Int.reduceNeg, Int.reduceToNat, Int.reduceBEq, rdB]; (repeat' refine And.intro rfl ?_); with_reducible refine RunTo.this ?_) | (refine RunTo.pansE (ca) Tryd.func56 rfl rfl rfl rfl rfl rfl ?_; simp only [go_sem, ↓reduceIte, Nat.reduceEqDiff, Nat.reduceAdd, Nat.reduceLeDiff, Nat.reduceBEq, Nat.reduceMul, reduceCtorEq, Int.reduceLE, Int.reduceLT, Int.reduceAdd, Int.reduceSub, Int.reduceNeg, Int.reduceToNat, Int.reduceBEq, rdB]; (repeat' refine And.intro rfl ?_); (all_goals try (with_reducible refine ⟨by kernel_rfl, by kernel_rfl, ?_⟩)); (all_goals try (simp only [go_sem, ↓reduceIte, Nat.reduceEqDiff, Nat.reduceAdd, Nat.reduceLeDiff, Nat.reduceBEq, Nat.reduceMul, reduceCtorEq, Int.reduceLE, Int.reduceLT, Int.reduceAdd, Int.reduceSub, Int.reduceNeg, Int.reduceToNat, Int.reduceBEq, rdB]))) | ((first | refine RunTo.nilA (by kernel_rfl) ?_ | refine RunTo.nilT ?_ | refine awp_skip ?_ | refine awp_exit ?_ | refine awp_label ?_); simp only [go_sem, ↓reduceIte, Nat.reduceEqDiff, Nat.reduceAdd, Nat.reduceLeDiff, Nat.reduceBEq, Nat.reduceMul, reduceCtorEq, Int.reduceLE, Int.reduceLT, Int.reduceAdd, Int.reduceSub, Int.reduceNeg, Int.reduceToNat, Int.reduceBEq, rdB]) | (refine awp_cond' rfl (of_decide_eq_true rfl) (fun hc => ?_) (fun hc => ?_) <;> ((try simp only [Bool.not_true, Bool.not_false, Bool.not_eq_true', Bool.not_eq_false', Bool.not_eq_eq_eq_not] at hc); (first | (cases hc) | (simp only [hc]) | skip))))
      all_goals exact .inr ⟨_, _, .panicking _, _, _, rfl, .inr ⟨_, rfl, rfl⟩, d_Read1 e _ _ _ _ _ _ _ _ _ _ _, rfl, fun T' => rfl⟩
end Go.Proofs.YtjihcldhjpdnmaaDoor.AM
namespace Go.Proofs.YtjihcldhjpdnmaaDoor.AM
open Go.RowKit
set_option linter.unusedSimpArgs false
set_option linter.unusedVariables false
set_option maxRecDepth 10000
set_option maxHeartbeats 0
abbrev sepB : ByteArray := ⟨#[44, 32]⟩
def printV (v : ValD) : ByteArray := if validV v = true then (if v.a.k = 6 then (⟨#[91]⟩ : ByteArray) ++ joinB (v.l.map printA) sepB ++ ⟨#[93]⟩ else printA v.a) else eE
def okA (a : AtomD) : Prop := i64B a.n ∧ a.s.size ≤ 1000000
def okV (v : ValD) : Prop := okA v.a ∧ ∀ a ∈ v.l, okA a
theorem join_len (sep : List UInt8) : ∀ xs : List (List UInt8), (Lib.join xs sep).length ≤ (xs.map List.length).sum + xs.length * sep.length
  | [] => by simp [Lib.join_nil]
  | [x] => by rw [Lib.join_one]; simp
  | x :: y :: r => by
    have ih := join_len sep (y :: r)
    have e : Lib.join (x :: y :: r) sep = x ++ (sep ++ Lib.join (y :: r) sep) := by
      rw [Lib.join_cons, Lib.join_cons]
      simp [Lib.joinTail]
    rw [e]
    simp only [List.length_append, List.map_cons, List.sum_cons, List.length_cons] at *
    have : (r.length + 1 + 1) * sep.length = (r.length + 1) * sep.length + sep.length := by rw [Nat.add_mul, Nat.one_mul]
    omega
theorem joinB_size (xs : List ByteArray) (sep : ByteArray) : (joinB xs sep).size ≤ (xs.map (·.size)).sum + xs.length * sep.size := by
  have h := join_len sep.data.toList (xs.map (·.data.toList))
  rw [List.map_map, List.length_map] at h
  have e : (xs.map (List.length ∘ fun x : ByteArray => x.data.toList)) = xs.map (·.size) := List.map_congr_left (fun x _ => Array.length_toList)
  rw [e] at h
  have e2 : (joinB xs sep).size = (Lib.join (xs.map (·.data.toList)) sep.data.toList).length := List.size_toArray
  have e3 : sep.data.toList.length = sep.size := Array.length_toList
  rw [e2, ← e3]; exact h
theorem sum_le {α : Type} (f : α → Nat) (b : Nat) : ∀ l : List α, (∀ x ∈ l, f x ≤ b) → (l.map f).sum ≤ l.length * b
  | [], _ => by simp
  | x :: l, h => by
    have ih := sum_le f b l (fun y hy => h y (List.mem_cons_of_mem _ hy))
    have := h x List.mem_cons_self
    rw [List.map_cons, List.sum_cons, List.length_cons, Nat.add_mul, Nat.one_mul]; omega
theorem joinB_le (xs : List ByteArray) (sep : ByteArray) (b : Nat) (h : ∀ x ∈ xs, x.size ≤ b) : (joinB xs sep).size ≤ xs.length * b + xs.length * sep.size :=
  Nat.le_trans (joinB_size xs sep) (Nat.add_le_add_right (sum_le _ b xs h) _)
theorem printA_big (a : AtomD) (h : okA a) : (printA a).size ≤ 10000000 := by
  obtain ⟨hn, hs⟩ := h
  have hq := quoteS_size a.s
  have hi := Lib.itoa_length_le a.n hn.1 hn.2
  unfold printA
  split
  · cases (a.n == 1) <;> decide
  · split
    · simp only [ByteArray.size, List.size_toArray]; omega
    · split
      · rw [ByteArray.size_append, hexS_size]; show 2 + 16 ≤ _; omega
      · split
        · omega
        · split
          · rw [ByteArray.size_append]; show 1 + _ ≤ _; omega
          · show 4 ≤ _; omega
abbrev SP5 (v : ValD) (k T e m : Nat) (rows : List (List Dat)) : St := ⟨[(20, .dat (.lst 4 (v.l.map AtomD.enc))), (21, iv v.l.length), (22, iv k), (3, .slc 31 e 0 m)], [(31, .arr e 1 rows)], T⟩
def IP5 (v : ValD) (n : Nat) (st : St) : Prop := ∃ k T e m rows, k ≤ v.l.length ∧ n = v.l.length - k ∧ m = ((v.l.take k).map printA).length ∧ rows = sl ((v.l.take k).map printA) ∧ st = SP5 v k T e m rows
theorem c_PrintV (v : ValD) (ho : okV v) : Pure Tryd.prog 19 [v.av] (sv (printV v)) := by
  by_cases h6 : v.a.k = 6
  · by_cases hv : validV v = true
    · have hvc := c_Valid v
      rw [hv] at hvc
      have hl16 : v.l.length ≤ 16 := by
        rw [validV_list h6] at hv
        simp only [Bool.and_eq_true, decide_eq_true_eq] at hv
        have := hv.1.2; omega
      have hk6 : (v.a.k == 6) = true := by simpa using h6
      refine pure_of_awp Tryd.func19 rfl rfl (by simp [Tryd.f19]) ?_; simp only [go_sem, ↓reduceIte, Nat.reduceEqDiff, Nat.reduceAdd, Nat.reduceLeDiff, Nat.reduceBEq, Nat.reduceMul, reduceCtorEq, Int.reduceLE, Int.reduceLT, Int.reduceAdd, Int.reduceSub, Int.reduceNeg, Int.reduceToNat, Int.reduceBEq]
      repeat' (first | refine awp_seq ?_ | refine awp_block ?_ | refine awp_round ?_ | refine awp_scope ?_ | refine awp_text rfl ?_ | refine awp_any rfl mix (by kernel_rfl) ?_ | (refine RunTo.unguard rfl rfl (fun hg => ?_) (fun hg => ?_) <;> ((try simp only [Bool.not_true, Bool.not_false, Bool.not_eq_true', Bool.not_eq_false', Bool.not_eq_eq_eq_not] at hg); (first | (cases hg) | (simp only [hg]) | skip))) | ((first | refine RunTo.plain rfl ?_ | refine RunTo.skipped rfl ?_ | refine RunTo.call (hvc) Tryd.func11 rfl rfl rfl rfl rfl rfl rfl rfl ?_); simp only [go_sem, ↓reduceIte, Nat.reduceEqDiff, Nat.reduceAdd, Nat.reduceLeDiff, Nat.reduceBEq, Nat.reduceMul, reduceCtorEq, Int.reduceLE, Int.reduceLT, Int.reduceAdd, Int.reduceSub, Int.reduceNeg, Int.reduceToNat, Int.reduceBEq, ValD.av, bne, hk6, List.length_map]) | ((first | refine RunTo.nilA (by kernel_rfl) ?_ | refine RunTo.nilT ?_ | refine awp_skip ?_ | refine awp_exit ?_ | refine awp_label ?_); simp only [go_sem, ↓reduceIte, Nat.reduceEqDiff, Nat.reduceAdd, Nat.reduceLeDiff, Nat.reduceBEq, Nat.reduceMul, reduceCtorEq, Int.reduceLE, Int.reduceLT, Int.reduceAdd, Int.reduceSub, Int.reduceNeg, Int.reduceToNat, Int.reduceBEq, ValD.av, bne, hk6, List.length_map]) | (refine awp_cond' rfl (of_decide_eq_true rfl) (fun hc => ?_) (fun hc => ?_) <;> ((try simp only [Bool.not_true, Bool.not_false, Bool.not_eq_true', Bool.not_eq_false', Bool.not_eq_eq_eq_not] at hc); (first | (cases hc) | (simp only [hc]) | skip))))
      refine awp_weak (weak_nil (t := 3) (s := 31) (sz := 1) (of_decide_eq_true rfl) rfl) ?_
      simp only [go_sem, ↓reduceIte, Nat.reduceEqDiff, Nat.reduceAdd, Nat.reduceLeDiff, Nat.reduceBEq, Nat.reduceMul, reduceCtorEq, Int.reduceLE, Int.reduceLT, Int.reduceAdd, Int.reduceSub, Int.reduceNeg, Int.reduceToNat, Int.reduceBEq]
      refine awp_loopw (IP5 v) v.l.length (SP5 v 0 _ _ _ []) (weak_keep ⟨rfl, rfl, rfl, rfl, trivial⟩ ⟨rfl, trivial⟩ (Nat.le_refl _)) ⟨0, _, _, _, _, Nat.zero_le _, rfl, rfl, rfl, rfl⟩ ?_
      rintro n st ⟨k, T, e, m, rows, hk, rfl, hm, hrows, rfl⟩
      have hml : m = k := by rw [hm]; simp; omega
      by_cases hlt : k < v.l.length
      · have hdec := lt_t hlt
        have hget := row_at AtomD.enc v.l k hlt
        have hoa := ho.2 _ (List.getElem_mem hlt)
        have htk : (v.l.take (k + 1)).map printA = (v.l.take k).map printA ++ [printA v.l[k]] := by rw [List.take_succ_eq_append_getElem hlt, List.map_append]; rfl
        have hwk : IntKind.i64.wrap ((k : Int) + 1) = ((k + 1 : Nat) : Int) := wrap_succ (by omega)
        generalize v.l[k] = a at *
        have hp := c_print a hoa.1 hoa.2
        have hrl : rows.length = m := by rw [hrows, List.length_map, hm]
        have c1 : ((m + 1) * 16 ≤ 140737488355328) = True := eq_true (by omega)
        have htr : List.take m rows = rows := List.take_of_length_le (by omega)
        have hle : (m ≤ rows.length) = True := eq_true (by omega)
        repeat' (first | refine awp_seq ?_ | refine awp_block ?_ | refine awp_round ?_ | refine awp_scope ?_ | refine awp_text rfl ?_ | refine awp_any rfl mix (by kernel_rfl) ?_ | (refine RunTo.unguard rfl rfl (fun hg => ?_) (fun hg => ?_) <;> ((try simp only [Bool.not_true, Bool.not_false, Bool.not_eq_true', Bool.not_eq_false', Bool.not_eq_eq_eq_not] at hg); (first | (cases hg) | (simp only [hg]) | skip))) | ((first | refine RunTo.plain rfl ?_ | refine RunTo.skipped rfl ?_ | refine RunTo.call (hp) Tryd.func50 rfl rfl rfl rfl rfl rfl rfl rfl ?_); simp only [go_sem, ↓reduceIte, Nat.reduceEqDiff, Nat.reduceAdd, Nat.reduceLeDiff, Nat.reduceBEq, Nat.reduceMul, reduceCtorEq, Int.reduceLE, Int.reduceLT, Int.reduceAdd, Int.reduceSub, Int.reduceNeg, Int.reduceToNat, Int.reduceBEq, hdec, hget, AtomD.enc, hwk, c1, htr, hrl, lenTy, implies_true]) | ((first | refine RunTo.nilA (by kernel_rfl) ?_ | refine RunTo.nilT ?_ | refine awp_skip ?_ | refine awp_exit ?_ | refine awp_label ?_); simp only [go_sem, ↓reduceIte, Nat.reduceEqDiff, Nat.reduceAdd, Nat.reduceLeDiff, Nat.reduceBEq, Nat.reduceMul, reduceCtorEq, Int.reduceLE, Int.reduceLT, Int.reduceAdd, Int.reduceSub, Int.reduceNeg, Int.reduceToNat, Int.reduceBEq, hdec, hget, AtomD.enc, hwk, c1, htr, hrl, lenTy, implies_true]) | (refine awp_cond' rfl (of_decide_eq_true rfl) (fun hc => ?_) (fun hc => ?_) <;> ((try simp only [Bool.not_true, Bool.not_false, Bool.not_eq_true', Bool.not_eq_false', Bool.not_eq_eq_eq_not] at hc); (first | (cases hc) | (simp only [hc]) | skip))))
        exact ⟨v.l.length - (k + 1), by omega, SP5 v (k + 1) _ _ (m + 1) (rows ++ [[ds' (printA a)]]), weak_keep ⟨rfl, rfl, rfl, rfl, trivial⟩ ⟨rfl, trivial⟩ (Nat.le_refl _), k + 1, _, _, _, _, by omega, rfl, by rw [htk, List.length_append, ← hm]; rfl, by rw [htk, hrows]; simp, rfl⟩
      · have hdec := lt_f hlt
        have hall : v.l.take k = v.l := List.take_of_length_le (by omega)
        rw [hall] at hm hrows
        have hbig := joinB_le (v.l.map printA) sepB 10000000 (fun x hx => by obtain ⟨a, ha, rfl⟩ := List.mem_map.1 hx; exact printA_big a (ho.2 a ha))
        rw [List.length_map] at hbig
        have hs2 : sepB.size = 2 := rfl
        rw [hs2] at hbig
        have hj := c_Join (v.l.map printA) sepB (by simp; omega) (by omega)
        have hrows' : rows = sl (v.l.map printA) := hrows
        have hrl : rows.length = m := by rw [hrows, List.length_map, hm]
        have htr : List.take m rows = rows := List.take_of_length_le (by omega)
        rw [← hrows'] at hj
        have z1 : (1 + (joinB (v.l.map printA) sepB).size ≤ 9223372036854775807) = True := eq_true (by omega)
        have z2 : (1 + (joinB (v.l.map printA) sepB).size + 1 ≤ 9223372036854775807) = True := eq_true (by omega)
        repeat' (first | refine awp_seq ?_ | refine awp_block ?_ | refine awp_round ?_ | refine awp_scope ?_ | refine awp_text rfl ?_ | refine awp_any rfl mix (by kernel_rfl) ?_ | (refine RunTo.unguard rfl rfl (fun hg => ?_) (fun hg => ?_) <;> ((try simp only [Bool.not_true, Bool.not_false, Bool.not_eq_true', Bool.not_eq_false', Bool.not_eq_eq_eq_not] at hg); (first | (cases hg) | (simp only [hg]) | skip))) | ((first | refine RunTo.plain rfl ?_ | refine RunTo.skipped rfl ?_); simp only [go_sem, ↓reduceIte, Nat.reduceEqDiff, Nat.reduceAdd, Nat.reduceLeDiff, Nat.reduceBEq, Nat.reduceMul, reduceCtorEq, Int.reduceLE, Int.reduceLT, Int.reduceAdd, Int.reduceSub, Int.reduceNeg, Int.reduceToNat, Int.reduceBEq, hdec, htr, hrl, z1, z2, ByteArray.size_append, List.size_toArray, Nat.le_refl]) | (refine RunTo.lentE (hj) Tryd.func51 rfl rfl rfl rfl rfl rfl ?_; simp only [go_sem, ↓reduceIte, Nat.reduceEqDiff, Nat.reduceAdd, Nat.reduceLeDiff, Nat.reduceBEq, Nat.reduceMul, reduceCtorEq, Int.reduceLE, Int.reduceLT, Int.reduceAdd, Int.reduceSub, Int.reduceNeg, Int.reduceToNat, Int.reduceBEq, hdec, htr, hrl, z1, z2, ByteArray.size_append, List.size_toArray, Nat.le_refl, Option.some.injEq, List.cons.injEq]; (repeat' refine And.intro rfl ?_); with_reducible refine RunTo.this ?_) | ((first | refine RunTo.nilA (by kernel_rfl) ?_ | refine RunTo.nilT ?_ | refine awp_skip ?_ | refine awp_exit ?_ | refine awp_label ?_); simp only [go_sem, ↓reduceIte, Nat.reduceEqDiff, Nat.reduceAdd, Nat.reduceLeDiff, Nat.reduceBEq, Nat.reduceMul, reduceCtorEq, Int.reduceLE, Int.reduceLT, Int.reduceAdd, Int.reduceSub, Int.reduceNeg, Int.reduceToNat, Int.reduceBEq, hdec, htr, hrl, z1, z2, ByteArray.size_append, List.size_toArray, Nat.le_refl]) | (refine awp_cond' rfl (of_decide_eq_true rfl) (fun hc => ?_) (fun hc => ?_) <;> ((try simp only [Bool.not_true, Bool.not_false, Bool.not_eq_true', Bool.not_eq_false', Bool.not_eq_eq_eq_not] at hc); (first | (cases hc) | (simp only [hc]) | skip))))
        all_goals (first | refine awp_ret ?_ | skip); refine ⟨(by first | exact .inl rfl | exact .inr rfl | exact .inr trivial | trivial), ?_⟩; simp only [go_sem, ↓reduceIte, Nat.reduceEqDiff, Nat.reduceAdd, Nat.reduceLeDiff, Nat.reduceBEq, Nat.reduceMul, reduceCtorEq, Int.reduceLE, Int.reduceLT, Int.reduceAdd, Int.reduceSub, Int.reduceNeg, Int.reduceToNat, Int.reduceBEq, retV, resL, resV, sealV, sealC, sealAll, Tryd.f19]
        all_goals rw [printV, if_pos hv, if_pos h6]
    · have hv' : validV v = false := by simpa using hv
      have hvc := c_Valid v
      rw [hv'] at hvc
      rw [printV, if_neg hv]
      refine pure_of_awp Tryd.func19 rfl rfl (by simp [Tryd.f19]) ?_; simp only [go_sem, ↓reduceIte, Nat.reduceEqDiff, Nat.reduceAdd, Nat.reduceLeDiff, Nat.reduceBEq, Nat.reduceMul, reduceCtorEq, Int.reduceLE, Int.reduceLT, Int.reduceAdd, Int.reduceSub, Int.reduceNeg, Int.reduceToNat, Int.reduceBEq]
      repeat' (first | refine awp_seq ?_ | refine awp_block ?_ | refine awp_round ?_ | refine awp_scope ?_ | refine awp_text rfl ?_ | refine awp_any rfl mix (by kernel_rfl) ?_ | (refine RunTo.unguard rfl rfl (fun hg => ?_) (fun hg => ?_) <;> ((try simp only [Bool.not_true, Bool.not_false, Bool.not_eq_true', Bool.not_eq_false', Bool.not_eq_eq_eq_not] at hg); (first | (cases hg) | (simp only [hg]) | skip))) | ((first | refine RunTo.plain rfl ?_ | refine RunTo.skipped rfl ?_ | refine RunTo.call (hvc) Tryd.func11 rfl rfl rfl rfl rfl rfl rfl rfl ?_); simp only [go_sem, ↓reduceIte, Nat.reduceEqDiff, Nat.reduceAdd, Nat.reduceLeDiff, Nat.reduceBEq, Nat.reduceMul, reduceCtorEq, Int.reduceLE, Int.reduceLT, Int.reduceAdd, Int.reduceSub, Int.reduceNeg, Int.reduceToNat, Int.reduceBEq, ValD.av]) | ((first | refine RunTo.nilA (by kernel_rfl) ?_ | refine RunTo.nilT ?_ | refine awp_skip ?_ | refine awp_exit ?_ | refine awp_label ?_); simp only [go_sem, ↓reduceIte, Nat.reduceEqDiff, Nat.reduceAdd, Nat.reduceLeDiff, Nat.reduceBEq, Nat.reduceMul, reduceCtorEq, Int.reduceLE, Int.reduceLT, Int.reduceAdd, Int.reduceSub, Int.reduceNeg, Int.reduceToNat, Int.reduceBEq, ValD.av]) | (refine awp_cond' rfl (of_decide_eq_true rfl) (fun hc => ?_) (fun hc => ?_) <;> ((try simp only [Bool.not_true, Bool.not_false, Bool.not_eq_true', Bool.not_eq_false', Bool.not_eq_eq_eq_not] at hc); (first | (cases hc) | (simp only [hc]) | skip))))
      all_goals (first | refine awp_ret ?_ | skip); refine ⟨(by first | exact .inl rfl | exact .inr rfl | exact .inr trivial | trivial), ?_⟩; simp only [go_sem, ↓reduceIte, Nat.reduceEqDiff, Nat.reduceAdd, Nat.reduceLeDiff, Nat.reduceBEq, Nat.reduceMul, reduceCtorEq, Int.reduceLE, Int.reduceLT, Int.reduceAdd, Int.reduceSub, Int.reduceNeg, Int.reduceToNat, Int.reduceBEq, retV, resL, resV, sealV, sealC, sealAll, Tryd.f19]
  · have h := c_Print1 v h6 ho.1.1 ho.1.2
    have e : printV1 v = printV v := by unfold printV1 printV; rw [if_neg h6]
    rw [← e]; exact h
end Go.Proofs.YtjihcldhjpdnmaaDoor.AM
namespace Go.Proofs.YtjihcldhjpdnmaaDoor.AM
open Go.RowKit
set_option linter.unusedSimpArgs false
set_option linter.unusedVariables false
set_option maxRecDepth 10000
set_option maxHeartbeats 0
theorem hexB_hexI (c : UInt8) (h : 0 ≤ hexI c) : hexB (hexI c).toNat = c := by
  have k : ∀ n : Nat, n < 256 → (decide (0 ≤ Lib.indexByte hexDigs.data.toList n.toUInt8) = false ∨ hexB (Lib.indexByte hexDigs.data.toList n.toUInt8).toNat = n.toUInt8) := by decide +kernel
  have := k c.toNat c.toNat_lt
  have e : c.toNat.toUInt8 = c := by simp
  rw [e] at this
  rcases this with h2 | h2
  · have := of_decide_eq_false h2; exact absurd h this
  · exact h2
theorem u8_of {c : UInt8} {n : Nat} (hn : n < 256) (h : c.toNat = n) : c = UInt8.ofNat n := by
  apply UInt8.toNat_inj.1
  rw [h]; simp; omega
theorem byteL_esc {l : List UInt8} {c : UInt8} {n : Nat} (h : byteL l = some (some c, n)) : l.take n = escB c := by
  cases l with
  | nil => simp [byteL] at h
  | cons b l =>
    have hb := b.toNat_lt
    by_cases e1 : b.toNat = 34
    · rw [byte_q _ _ e1] at h; simp at h
    · by_cases e2 : b.toNat < 32 ∨ 126 < b.toNat
      · rw [byte_r _ _ e1 e2] at h; cases h
      · by_cases e3 : b.toNat = 92
        · have hb92 : b = 92 := u8_of (by decide) e3
          cases l with
          | nil => rw [byte_e0 _ e3] at h; cases h
          | cons d l =>
            by_cases e4 : d.toNat = 34 ∨ d.toNat = 92
            · rw [byte_e1 _ _ _ e3 e4] at h
              simp only [Option.some.injEq, Prod.mk.injEq] at h
              obtain ⟨rfl, rfl⟩ := h
              unfold escB
              rw [if_pos (by omega), hb92]; rfl
            · by_cases e5 : d.toNat = 120
              · have hd120 : d = 120 := u8_of (by decide) e5
                match l, h with
                | [], h => rw [byte_e3 _ _ _ e3 e5 (by simp)] at h; cases h
                | [a], h => rw [byte_e3 _ _ _ e3 e5 (by simp)] at h; cases h
                | a :: a' :: l, h =>
                  by_cases e6 : hexI a < 0 ∨ hexI a' < 0 ∨ (32 ≤ 16 * hexI a + hexI a' ∧ 16 * hexI a + hexI a' ≤ 126)
                  · rw [byte_e4 _ _ _ _ _ e3 e5 e6] at h; cases h
                  · rw [byte_e5 _ _ _ _ _ e3 e5 e6] at h
                    simp only [Option.some.injEq, Prod.mk.injEq] at h
                    obtain ⟨hc, rfl⟩ := h
                    have b1 := hexI_bd a
                    have b2 := hexI_bd a'
                    have hcn : c.toNat = (16 * hexI a + hexI a').toNat := by
                      rw [← hc]
                      simp only [Nat.toUInt8, UInt8.toNat_ofNat']
                      omega
                    unfold escB
                    rw [if_neg (by omega), if_pos (by omega), hb92, hd120]
                    have q1 : c.toNat / 16 = (hexI a).toNat := by omega
                    have q2 : c.toNat % 16 = (hexI a').toNat := by omega
                    rw [q1, q2, hexB_hexI a (by omega), hexB_hexI a' (by omega)]
                    rfl
              · rw [byte_e2 _ _ _ e3 e4 e5] at h; cases h
        · rw [byte_p _ _ e1 e2 e3] at h
          simp only [Option.some.injEq, Prod.mk.injEq] at h
          obtain ⟨rfl, rfl⟩ := h
          unfold escB
          rw [if_neg (by omega), if_neg (by omega)]
          rfl
theorem byteL_end {l : List UInt8} {n : Nat} (h : byteL l = some (none, n)) : l.take n = [34] ∧ n = 1 := by
  cases l with
  | nil => simp [byteL] at h
  | cons b l =>
    by_cases e1 : b.toNat = 34
    · rw [byte_q _ _ e1] at h
      simp only [Option.some.injEq, Prod.mk.injEq, true_and] at h
      subst h
      have : b = 34 := u8_of (by decide) e1
      rw [this]
      exact ⟨rfl, rfl⟩
    · exfalso
      by_cases e2 : b.toNat < 32 ∨ 126 < b.toNat
      · rw [byte_r _ _ e1 e2] at h; cases h
      · by_cases e3 : b.toNat = 92
        · cases l with
          | nil => rw [byte_e0 _ e3] at h; cases h
          | cons d l =>
            by_cases e4 : d.toNat = 34 ∨ d.toNat = 92
            · rw [byte_e1 _ _ _ e3 e4] at h; simp at h
            · by_cases e5 : d.toNat = 120
              · match l, h with
                | [], h => rw [byte_e3 _ _ _ e3 e5 (by simp)] at h; cases h
                | [a], h => rw [byte_e3 _ _ _ e3 e5 (by simp)] at h; cases h
                | a :: a' :: l, h =>
                  by_cases e6 : hexI a < 0 ∨ hexI a' < 0 ∨ (32 ≤ 16 * hexI a + hexI a' ∧ 16 * hexI a + hexI a' ≤ 126)
                  · rw [byte_e4 _ _ _ _ _ e3 e5 e6] at h; cases h
                  · rw [byte_e5 _ _ _ _ _ e3 e5 e6] at h; simp at h
              · rw [byte_e2 _ _ _ e3 e4 e5] at h; cases h
        · rw [byte_p _ _ e1 e2 e3] at h; simp at h
theorem take_split {α : Type} (l : List α) (a b : Nat) : l.take (a + b) = l.take a ++ (l.drop a).take b := by rw [List.take_add]
theorem textL_quote : ∀ (f : Nat) (acc l t : List UInt8) (n : Nat), acc.length ≤ 256 → textL f acc l = .ok t n → ∃ t', t = acc ++ t' ∧ l.take n = t'.flatMap escB ++ [34] ∧ t.length ≤ 256 ∧ 1 ≤ n
  | 0, _, _, _, _, _, h => by cases h
  | f + 1, acc, l, t, n, ha, h => by
    unfold textL at h
    cases hb : byteL l with
    | none => rw [hb] at h; cases h
    | some p =>
      obtain ⟨o, j⟩ := p
      have hj := byteL_len hb
      rw [hb] at h
      cases o with
      | none =>
        simp only [RT.ok.injEq] at h
        obtain ⟨rfl, rfl⟩ := h
        exact ⟨[], by simp, by simpa using (byteL_end hb).1, ha, hj.1⟩
      | some c =>
        simp only at h
        split at h
        · cases h
        · rename_i h256
          cases hr : textL f (acc ++ [c]) (l.drop j) with
          | bad e => rw [hr] at h; cases h
          | ok t2 m =>
            rw [hr] at h
            simp only [RT.add, RT.ok.injEq] at h
            obtain ⟨rfl, rfl⟩ := h
            obtain ⟨t', q1, q2, q3, q4⟩ := textL_quote f _ _ _ m (by simp; omega) hr
            refine ⟨c :: t', by rw [q1]; simp, ?_, q3, by omega⟩
            rw [take_split, byteL_esc hb, q2, List.flatMap_cons, List.append_assoc]
theorem text_print {l t : List UInt8} {n : Nat} (h : textL 257 [] l = .ok t n) : (34 : UInt8) :: l.take n = quoteL t ∧ t.length ≤ 256 := by
  obtain ⟨t', q1, q2, q3, q4⟩ := textL_quote 257 [] l t n (by simp) h
  rw [List.nil_append] at q1
  subst q1
  refine ⟨?_, q3⟩
  rw [q2]; rfl
abbrev rowC (c : UInt8) : List Dat := [.lit (.int .u8 (hexD (hexI c).toNat))]
theorem hexRows_of : ∀ (l : List UInt8) (u0 u k : Nat) (acc : List (List Dat)), hexU u0 l = some u → hexRows (k + l.length) u acc = hexRows k u0 (l.map rowC ++ acc) ∧ ∀ c ∈ l, 0 ≤ hexI c
  | [], u0, u, k, acc, h => by
    obtain rfl := Option.some.inj h
    exact ⟨rfl, fun c hc => by cases hc⟩
  | c :: l, u0, u, k, acc, h => by
    simp only [hexU] at h
    split at h
    · cases h
    · rename_i hc
      have hb := hexI_bd c
      obtain ⟨ih, ih2⟩ := hexRows_of l (16 * u0 + (hexI c).toNat) u (k + 1) acc h
      refine ⟨?_, fun x hx => ?_⟩
      · rw [List.length_cons, show k + (l.length + 1) = k + 1 + l.length by omega, ih]
        show hexRows k ((16 * u0 + (hexI c).toNat) / 16) _ = _
        rw [show (16 * u0 + (hexI c).toNat) / 16 = u0 by omega, show (16 * u0 + (hexI c).toNat) % 16 = (hexI c).toNat by omega]
        rfl
      · rcases List.mem_cons.1 hx with rfl | hx
        · omega
        · exact ih2 x hx
theorem hexS_of {l : List UInt8} {u : Nat} (h : parseF l = some u) : (hexS u).data.toList = l ∧ canF u = u ∧ l.length = 16 := by
  unfold parseF at h
  split at h
  · rename_i h16
    cases hx : hexU 0 l with
    | none => rw [hx] at h; cases h
    | some w =>
      rw [hx] at h
      simp only at h
      split at h
      · rename_i hc
        obtain rfl := Option.some.inj h
        refine ⟨?_, hc, h16⟩
        obtain ⟨k1, k2⟩ := hexRows_of l 0 w 0 [] hx
        unfold hexS
        rw [hc]
        rw [Nat.zero_add, h16] at k1
        rw [k1]
        show (strR (l.map rowC ++ [])).data.toList = l
        rw [List.append_nil]
        unfold strR
        rw [List.map_map]
        show (List.map (fun c => hexB (hexI c).toNat) l) = l
        conv => rhs; rw [← List.map_id l]
        exact List.map_congr_left (fun c hc => hexB_hexI c (k2 c hc))
      · cases h
  · cases h
theorem takeW_take (l : List UInt8) : l.take (takeW l).length = takeW l := by
  have tw : ∀ r : List UInt8, r.take (r.takeWhile dgB).length = r.takeWhile dgB := fun r => by
    conv => lhs; arg 2; rw [← List.takeWhile_append_dropWhile (p := dgB) (l := r)]
    rw [List.take_left']
    rfl
  cases l with
  | nil => rfl
  | cons c r =>
    simp only [takeW]
    split
    · rw [List.length_cons, List.take_succ_cons, tw]
    · exact tw (c :: r)
theorem wholeL_print {l : List UInt8} {n : Int} {m : Nat} (h : wholeL l = some (n, m)) : Lib.itoa n = l.take m ∧ i64B n ∧ 0 < m := by
  unfold wholeL at h
  split at h
  · rename_i v ha
    split at h
    · rename_i hi
      simp only [Option.some.injEq, Prod.mk.injEq] at h
      obtain ⟨rfl, rfl⟩ := h
      refine ⟨by rw [hi, takeW_take], Lib.atoiAll_bounds ha, ?_⟩
      apply Nat.pos_of_ne_zero
      intro h0
      rw [List.length_eq_zero_iff.1 h0] at ha
      simp [Lib.atoiAll] at ha
    · cases h
  · cases h
theorem pre_take {l : List UInt8} {t : ByteArray} (h : preL l t = true) : l.take t.size = t.data.toList := by
  unfold preL Lib.hasPrefix at h
  obtain ⟨r, hr⟩ := List.isPrefixOf_iff_prefix.1 h
  rw [← hr]
  exact List.take_left' Array.length_toList
theorem atom_print {l : List UInt8} {a : AtomD} {n : Nat} (h : atomL l = .ok a n) : (printA a).data.toList = l.take n ∧ validA a = true ∧ 0 < n ∧ okA a := by
  unfold atomL at h
  split at h
  · rename_i hp
    have ht := pre_take hp
    simp only [RA.ok.injEq] at h
    obtain ⟨rfl, rfl⟩ := h
    exact ⟨ht.symm, by decide +kernel, by decide, ⟨by show i64B 0; unfold i64B; decide, by decide⟩⟩
  · split at h
    · rename_i hp
      have ht := pre_take hp
      simp only [RA.ok.injEq] at h
      obtain ⟨rfl, rfl⟩ := h
      exact ⟨ht.symm, by decide +kernel, by decide, ⟨by show i64B 1; unfold i64B; decide, by decide⟩⟩
    · split at h
      · rename_i hp
        have ht := pre_take hp
        simp only [RA.ok.injEq] at h
        obtain ⟨rfl, rfl⟩ := h
        exact ⟨ht.symm, by decide +kernel, by decide, ⟨by show i64B 0; unfold i64B; decide, by decide⟩⟩
      · split at h
        · rename_i hp
          have ht := pre_take hp
          split at h
          · cases h
          · cases hf : parseF ((l.drop 2).take 16) with
            | none => rw [hf] at h; cases h
            | some u =>
              rw [hf] at h
              simp only [RA.ok.injEq] at h
              obtain ⟨rfl, rfl⟩ := h
              obtain ⟨q1, q2, q3⟩ := hexS_of hf
              refine ⟨?_, ?_, by decide, ⟨by show i64B 0; unfold i64B; decide, by show eE.size ≤ _; decide⟩⟩
              · show ((⟨#[48, 102]⟩ : ByteArray) ++ hexS u).data.toList = _
                rw [ByteArray.data_append, Array.toList_append, q1, show (18 : Nat) = 2 + 16 from rfl, take_split, show (2 : Nat) = zfB.size from rfl, ht]
              · show (isA ⟨3, 0, u, eE⟩ false true false && ((u : Int) == (canF u : Int))) = true
                rw [q2]
                simp [isA]
        · split at h
          · rename_i hp
            have ht := pre_take hp
            cases hr : textL 257 [] (l.drop 1) with
            | bad e => rw [hr] at h; cases h
            | ok t m =>
              rw [hr] at h
              simp only [textA, RA.ok.injEq] at h
              obtain ⟨rfl, rfl⟩ := h
              obtain ⟨q1, q2⟩ := text_print hr
              have hsz : (bs t).size = t.length := by simp [bs, ByteArray.size]
              refine ⟨?_, ?_, by omega, ⟨by show i64B 0; unfold i64B; decide, by show (bs t).size ≤ _; omega⟩⟩
              · show (quoteS (bs t)).data.toList = _
                show quoteL t = _
                rw [← q1, take_split, show (1 : Nat) = quB.size from rfl, ht]
                rfl
              · show (isA ⟨4, 0, 0, bs t⟩ false false true && decide (((bs t).size : Int) ≤ 256)) = true
                rw [decide_eq_true (by omega)]
                simp [isA]
          · split at h
            · rename_i hp
              have ht := pre_take hp
              cases hr : textL 257 [] (l.drop 2) with
              | bad e => rw [hr] at h; cases h
              | ok t m =>
                rw [hr] at h
                simp only [textA, RA.ok.injEq] at h
                obtain ⟨rfl, rfl⟩ := h
                obtain ⟨q1, q2⟩ := text_print hr
                have hsz : (bs t).size = t.length := by simp [bs, ByteArray.size]
                refine ⟨?_, ?_, by omega, ⟨by show i64B 0; unfold i64B; decide, by show (bs t).size ≤ _; omega⟩⟩
                · show ((⟨#[120]⟩ : ByteArray) ++ quoteS (bs t)).data.toList = _
                  rw [ByteArray.data_append, Array.toList_append]
                  show [120] ++ quoteL t = _
                  rw [← q1, take_split, show (2 : Nat) = xqB.size from rfl, ht]
                  rfl
                · show (isA ⟨5, 0, 0, bs t⟩ false false true && decide (((bs t).size : Int) ≤ 256)) = true
                  rw [decide_eq_true (by omega)]
                  simp [isA]
            · cases hw : wholeL l with
              | none => rw [hw] at h; cases h
              | some p =>
                obtain ⟨v, m⟩ := p
                rw [hw] at h
                simp only [RA.ok.injEq] at h
                obtain ⟨rfl, rfl⟩ := h
                obtain ⟨q1, q2, q3⟩ := wholeL_print hw
                exact ⟨q1, by show isA ⟨2, v, 0, eE⟩ true false false = true; simp [isA], q3, ⟨q2, by show eE.size ≤ _; decide⟩⟩
end Go.Proofs.YtjihcldhjpdnmaaDoor.AM
namespace Go.Proofs.YtjihcldhjpdnmaaDoor.FL
open Go.RowKit Ieee
set_option linter.unusedVariables false
set_option linter.unusedSimpArgs false
def B52 : Nat := 4503599627370496
def S63 : Nat := 9223372036854775808
def rung (b : Nat) : Nat := b % S63
def neg (b : Nat) : Bool := b / S63 % 2 == 1
def mval (r : Nat) : Nat := if r < B52 then r else (B52 + r % B52) * 2 ^ (r / B52 - 1)
def sgn (s : Bool) (n : Nat) : Int := if s then -(n : Int) else n
def sv (b : Nat) : Int := sgn (neg b) (mval (rung b))
section
end
def pl : Nat := 1074
def ONE : Nat := 2 ^ pl
def fl (b : Nat) : Nat := mval (rung b) / ONE
end Go.Proofs.YtjihcldhjpdnmaaDoor.FL
namespace Go.Proofs.YtjihcldhjpdnmaaDoor.AM
open Go.RowKit
set_option linter.unusedSimpArgs false
set_option linter.unusedVariables false
set_option maxRecDepth 10000
set_option maxHeartbeats 0
abbrev uv (n : Nat) : AV := .lit (.int .u64 n)
theorem c_rBits (f : Nat) : Pure Tryd.prog 34 [fv f] (uv f) := by
  refine pure_of_awp Tryd.func34 rfl rfl (by simp [Tryd.f34]) ?_; simp only [go_sem, ↓reduceIte, Nat.reduceEqDiff, Nat.reduceAdd, Nat.reduceLeDiff, Nat.reduceBEq, Nat.reduceMul, reduceCtorEq, Int.reduceLE, Int.reduceLT, Int.reduceAdd, Int.reduceSub, Int.reduceNeg, Int.reduceToNat, Int.reduceBEq]
  repeat' (first | refine awp_seq ?_ | refine awp_block ?_ | refine awp_round ?_ | refine awp_scope ?_ | refine awp_text rfl ?_ | refine awp_any rfl mix (by kernel_rfl) ?_ | (refine RunTo.unguard rfl rfl (fun hg => ?_) (fun hg => ?_) <;> ((try simp only [Bool.not_true, Bool.not_false, Bool.not_eq_true', Bool.not_eq_false', Bool.not_eq_eq_eq_not] at hg); (first | (cases hg) | (simp only [hg]) | skip))) | ((first | refine RunTo.plain rfl ?_ | refine RunTo.skipped rfl ?_ | refine RunTo.ext (x_bits f) rfl rfl rfl rfl ?_); simp only [go_sem, ↓reduceIte, Nat.reduceEqDiff, Nat.reduceAdd, Nat.reduceLeDiff, Nat.reduceBEq, Nat.reduceMul, reduceCtorEq, Int.reduceLE, Int.reduceLT, Int.reduceAdd, Int.reduceSub, Int.reduceNeg, Int.reduceToNat, Int.reduceBEq]) | ((first | refine RunTo.nilA (by kernel_rfl) ?_ | refine RunTo.nilT ?_ | refine awp_skip ?_ | refine awp_exit ?_ | refine awp_label ?_); simp only [go_sem, ↓reduceIte, Nat.reduceEqDiff, Nat.reduceAdd, Nat.reduceLeDiff, Nat.reduceBEq, Nat.reduceMul, reduceCtorEq, Int.reduceLE, Int.reduceLT, Int.reduceAdd, Int.reduceSub, Int.reduceNeg, Int.reduceToNat, Int.reduceBEq]) | (refine awp_cond' rfl (of_decide_eq_true rfl) (fun hc => ?_) (fun hc => ?_) <;> ((try simp only [Bool.not_true, Bool.not_false, Bool.not_eq_true', Bool.not_eq_false', Bool.not_eq_eq_eq_not] at hc); (first | (cases hc) | (simp only [hc]) | skip))))
  all_goals
    (first | refine awp_ret ?_ | skip); refine ⟨(by first | exact .inl rfl | exact .inr rfl | exact .inr trivial | trivial), ?_⟩; simp only [go_sem, ↓reduceIte, Nat.reduceEqDiff, Nat.reduceAdd, Nat.reduceLeDiff, Nat.reduceBEq, Nat.reduceMul, reduceCtorEq, Int.reduceLE, Int.reduceLT, Int.reduceAdd, Int.reduceSub, Int.reduceNeg, Int.reduceToNat, Int.reduceBEq, retV, resL, resV, sealV, sealC, sealAll, Tryd.f34]
end Go.Proofs.YtjihcldhjpdnmaaDoor.AM
namespace Go.Proofs.YtjihcldhjpdnmaaDoor.AM
open Go.RowKit
set_option linter.unusedSimpArgs false
set_option linter.unusedVariables false
set_option maxRecDepth 10000
set_option maxHeartbeats 0
theorem join_two (x y : List UInt8) (r : List (List UInt8)) (sep : List UInt8) : Lib.join (x :: y :: r) sep = x ++ (sep ++ Lib.join (y :: r) sep) := by
  rw [Lib.join_cons, Lib.join_cons]
  simp [Lib.joinTail]
abbrev pAL (a : AtomD) : List UInt8 := (printA a).data.toList
theorem listL_print : ∀ (f : Nat) (acc : List AtomD) (l : List UInt8) (res : List AtomD) (n : Nat), acc.length ≤ 16 → listL f acc l = .ok res n →
    ∃ new, new ≠ [] ∧ res = acc ++ new ∧ l.take n = Lib.join (new.map pAL) [44, 32] ++ [93] ∧ (∀ a ∈ new, validA a = true ∧ okA a) ∧ res.length ≤ 16 ∧ 0 < n ∧ n ≤ l.length
  | 0, _, _, _, _, _, h => by cases h
  | f + 1, acc, l, res, n, ha, h => by
    unfold listL at h
    split at h
    · cases h
    · rename_i h16
      cases hr : atomL l with
      | bad e => rw [hr] at h; cases h
      | ok a j =>
        rw [hr] at h
        obtain ⟨q1, q2, q3, q4⟩ := atom_print hr
        have hj := atomL_len hr
        simp only [listN] at h
        split at h
        · rename_i g1
          have g3 := preL_len g1
          rw [List.length_drop, show clB.size = 1 from rfl] at g3
          have g4 := pre_take g1
          rw [show clB.size = 1 from rfl] at g4
          simp only [RL.ok.injEq] at h
          obtain ⟨rfl, rfl⟩ := h
          refine ⟨[a], by simp, rfl, ?_, fun x hx => by rw [show x = a by simpa using hx]; exact ⟨q2, q4⟩, by simp; omega, by omega, by omega⟩
          rw [take_split, g4, List.map_cons, List.map_nil, Lib.join_one, ← q1]
        · split at h
          · rename_i g2
            have g3 := preL_len g2
            rw [List.length_drop, show cmB.size = 2 from rfl] at g3
            have g4 := pre_take g2
            rw [show cmB.size = 2 from rfl] at g4
            cases hr2 : listL f (acc ++ [a]) ((l.drop j).drop 2) with
            | bad e => rw [hr2] at h; cases h
            | ok res2 m =>
              rw [hr2] at h
              simp only [RL.add, RL.ok.injEq] at h
              obtain ⟨rfl, rfl⟩ := h
              obtain ⟨new, k1, k2, k3, k4, k5, k6, k7⟩ := listL_print f _ _ _ m (by simp; omega) hr2
              rw [List.length_drop, List.length_drop] at k7
              refine ⟨a :: new, by simp, by rw [k2]; simp, ?_, fun x hx => ?_, k5, by omega, by omega⟩
              · rw [show j + 2 + m = j + (2 + m) by omega, take_split, take_split, g4, k3, ← q1]
                cases new with
                | nil => exact absurd rfl k1
                | cons b r =>
                  show pAL a ++ (cmB.data.toList ++ (Lib.join (pAL b :: r.map pAL) [44, 32] ++ [93])) = Lib.join (pAL a :: pAL b :: r.map pAL) [44, 32] ++ [93]
                  rw [join_two]
                  simp [List.append_assoc]
              · rcases List.mem_cons.1 hx with rfl | hx
                · exact ⟨q2, q4⟩
                · exact k4 x hx
          · cases h
theorem read_print {l : List UInt8} {v : ValD} {n : Nat} (h : readL l = .ok v n) : (printV v).data.toList = l.take n ∧ validV v = true ∧ 0 < n ∧ n ≤ l.length ∧ okV v := by
  unfold readL at h
  split at h
  · rename_i h1
    have p1 := pre_take h1
    have p2 := preL_len h1
    rw [show openB.size = 1 from rfl] at p1 p2
    split at h
    · rename_i h2
      have p3 := pre_take h2
      have p4 := preL_len h2
      rw [show clB.size = 1 from rfl] at p3 p4
      rw [List.length_drop] at p4
      simp only [RV.ok.injEq] at h
      obtain ⟨rfl, rfl⟩ := h
      refine ⟨?_, by decide +kernel, by decide, by omega, ⟨⟨by show i64B 0; unfold i64B; decide, by show eE.size ≤ _; decide⟩, fun a ha => by cases ha⟩⟩
      rw [show (2 : Nat) = 1 + 1 from rfl, take_split, p1, p3]
      decide +kernel
    · rename_i h2
      cases hr : listL 17 [] (l.drop 1) with
      | bad e => rw [hr] at h; cases h
      | ok res m =>
        rw [hr] at h
        simp only [listV, RV.ok.injEq] at h
        obtain ⟨rfl, rfl⟩ := h
        obtain ⟨new, k1, k2, k3, k4, k5, k6, k7⟩ := listL_print 17 [] _ res m (by simp) hr
        rw [List.nil_append] at k2
        subst k2
        rw [List.length_drop] at k7
        have hv : validV ⟨⟨6, 0, 0, eE⟩, res⟩ = true := by
          rw [validV_list rfl]
          have : res.all validA = true := List.all_eq_true.2 (fun a ha => (k4 a ha).1)
          show (isA ⟨6, 0, 0, eE⟩ false false false && decide ((res.length : Int) ≤ 16) && res.all validA) = true
          rw [this, decide_eq_true (by omega)]
          decide +kernel
        refine ⟨?_, hv, by omega, by omega, ⟨⟨by show i64B 0; unfold i64B; decide, by show eE.size ≤ _; decide⟩, fun a ha => (k4 a ha).2⟩⟩
        unfold printV
        rw [if_pos hv, if_pos rfl, ByteArray.data_append, ByteArray.data_append, Array.toList_append, Array.toList_append, take_split, p1, k3]
        show [91] ++ Lib.join ((res.map printA).map (·.data.toList)) [44, 32] ++ [93] = [91] ++ _
        rw [List.map_map, List.append_assoc]
        rfl
  · cases hr : atomL l with
    | bad e => rw [hr] at h; cases h
    | ok a m =>
      rw [hr] at h
      simp only [atomV, RV.ok.injEq] at h
      obtain ⟨rfl, rfl⟩ := h
      obtain ⟨q1, q2, q3, q4⟩ := atom_print hr
      have hk : a.k ≠ 6 := by
        intro h6
        unfold validA at q2
        rw [h6] at q2
        simp at q2
      have hv : validV ⟨a, []⟩ = true := by
        rw [validV_atom hk]
        show (validA a && _) = true
        rw [q2]; rfl
      refine ⟨?_, hv, q3, atomL_len hr, ⟨q4, fun a ha => by cases ha⟩⟩
      unfold printV
      rw [if_pos hv, if_neg hk]
      exact q1
theorem textL_bad : ∀ (f : Nat) (acc l : List UInt8) (e : Int), textL f acc l = .bad e → e = 3 ∨ e = 11
  | 0, _, _, e, h => by simp only [textL, RT.bad.injEq] at h; omega
  | f + 1, acc, l, e, h => by
    unfold textL at h
    split at h
    · simp only [RT.bad.injEq] at h; omega
    · cases h
    · split at h
      · simp only [RT.bad.injEq] at h; omega
      · rename_i c n _ _
        cases hr : textL f (acc ++ [c]) (l.drop n) with
        | ok t m => rw [hr] at h; cases h
        | bad e2 =>
          rw [hr] at h
          simp only [RT.add, RT.bad.injEq] at h
          have := textL_bad f _ _ _ hr
          omega
theorem atomL_bad {l : List UInt8} {e : Int} (h : atomL l = .bad e) : e = 3 ∨ e = 11 := by
  unfold atomL at h
  repeat' split at h
  all_goals first
    | (cases h; done)
    | (simp only [RA.bad.injEq] at h; omega)
    | skip
  all_goals
    first
    | (cases hr : textL 257 [] (l.drop 1) with
       | ok t m => rw [hr] at h; cases h
       | bad e2 =>
         rw [hr] at h
         simp only [textA, RA.bad.injEq] at h
         have := textL_bad _ _ _ _ hr
         omega)
    | (cases hr : textL 257 [] (l.drop 2) with
       | ok t m => rw [hr] at h; cases h
       | bad e2 =>
         rw [hr] at h
         simp only [textA, RA.bad.injEq] at h
         have := textL_bad _ _ _ _ hr
         omega)
theorem listL_bad : ∀ (f : Nat) (acc : List AtomD) (l : List UInt8) (e : Int), listL f acc l = .bad e → e = 3 ∨ e = 11
  | 0, _, _, e, h => by simp only [listL, RL.bad.injEq] at h; omega
  | f + 1, acc, l, e, h => by
    unfold listL at h
    split at h
    · simp only [RL.bad.injEq] at h; omega
    · cases hr : atomL l with
      | bad e2 =>
        rw [hr] at h
        simp only [listN, RL.bad.injEq] at h
        have := atomL_bad hr
        omega
      | ok a j =>
        rw [hr] at h
        simp only [listN] at h
        split at h
        · cases h
        · split at h
          · cases hr2 : listL f (acc ++ [a]) ((l.drop j).drop 2) with
            | ok t m => rw [hr2] at h; cases h
            | bad e2 =>
              rw [hr2] at h
              simp only [RL.add, RL.bad.injEq] at h
              have := listL_bad f _ _ _ hr2
              omega
          · simp only [RL.bad.injEq] at h; omega
theorem readL_bad {l : List UInt8} {e : Int} (h : readL l = .bad e) : e = 3 ∨ e = 11 := by
  unfold readL at h
  split at h
  · split at h
    · cases h
    · cases hr : listL 17 [] (l.drop 1) with
      | ok t m => rw [hr] at h; cases h
      | bad e2 =>
        rw [hr] at h
        simp only [listV, RV.bad.injEq] at h
        have := listL_bad _ _ _ _ hr
        omega
  · cases hr : atomL l with
    | ok t m => rw [hr] at h; cases h
    | bad e2 =>
      rw [hr] at h
      simp only [atomV, RV.bad.injEq] at h
      have := atomL_bad hr
      omega
end Go.Proofs.YtjihcldhjpdnmaaDoor.AM
namespace Go.Proofs.YtjihcldhjpdnmaaDoor.AM
open Go.RowKit
set_option linter.unusedSimpArgs false
set_option linter.unusedVariables false
set_option maxRecDepth 10000
set_option maxHeartbeats 0
theorem c_sameAtom0 : Pure Tryd.prog 59 [.agg [iv 0, iv 0, fv 0, sv eE], .agg [iv 0, iv 0, fv 0, sv eE]] (bv true) := by
  have b0 := c_rBits 0
  refine pure_of_awp Tryd.func59 rfl rfl (by simp [Tryd.f59]) ?_; simp only [go_sem, ↓reduceIte, Nat.reduceEqDiff, Nat.reduceAdd, Nat.reduceLeDiff, Nat.reduceBEq, Nat.reduceMul, reduceCtorEq, Int.reduceLE, Int.reduceLT, Int.reduceAdd, Int.reduceSub, Int.reduceNeg, Int.reduceToNat, Int.reduceBEq]
  repeat' (first | refine awp_seq ?_ | refine awp_block ?_ | refine awp_round ?_ | refine awp_scope ?_ | refine awp_text rfl ?_ | refine awp_any rfl mix (by kernel_rfl) ?_ | (refine RunTo.unguard rfl rfl (fun hg => ?_) (fun hg => ?_) <;> ((try simp only [Bool.not_true, Bool.not_false, Bool.not_eq_true', Bool.not_eq_false', Bool.not_eq_eq_eq_not] at hg); (first | (cases hg) | (simp only [hg]) | skip))) | ((first | refine RunTo.plain rfl ?_ | refine RunTo.skipped rfl ?_ | refine RunTo.call (b0) Tryd.func34 rfl rfl rfl rfl rfl rfl rfl rfl ?_); simp only [go_sem, ↓reduceIte, Nat.reduceEqDiff, Nat.reduceAdd, Nat.reduceLeDiff, Nat.reduceBEq, Nat.reduceMul, reduceCtorEq, Int.reduceLE, Int.reduceLT, Int.reduceAdd, Int.reduceSub, Int.reduceNeg, Int.reduceToNat, Int.reduceBEq]) | ((first | refine RunTo.nilA (by kernel_rfl) ?_ | refine RunTo.nilT ?_ | refine awp_skip ?_ | refine awp_exit ?_ | refine awp_label ?_); simp only [go_sem, ↓reduceIte, Nat.reduceEqDiff, Nat.reduceAdd, Nat.reduceLeDiff, Nat.reduceBEq, Nat.reduceMul, reduceCtorEq, Int.reduceLE, Int.reduceLT, Int.reduceAdd, Int.reduceSub, Int.reduceNeg, Int.reduceToNat, Int.reduceBEq]) | (refine awp_cond' rfl (of_decide_eq_true rfl) (fun hc => ?_) (fun hc => ?_) <;> ((try simp only [Bool.not_true, Bool.not_false, Bool.not_eq_true', Bool.not_eq_false', Bool.not_eq_eq_eq_not] at hc); (first | (cases hc) | (simp only [hc]) | skip))))
  all_goals (first | refine awp_ret ?_ | skip); refine ⟨(by first | exact .inl rfl | exact .inr rfl | exact .inr trivial | trivial), ?_⟩; simp only [go_sem, ↓reduceIte, Nat.reduceEqDiff, Nat.reduceAdd, Nat.reduceLeDiff, Nat.reduceBEq, Nat.reduceMul, reduceCtorEq, Int.reduceLE, Int.reduceLT, Int.reduceAdd, Int.reduceSub, Int.reduceNeg, Int.reduceToNat, Int.reduceBEq, retV, resL, resV, sealV, sealC, sealAll, Tryd.f59]
  all_goals rfl
theorem c_Same0 : Pure Tryd.prog 23 [nulV.av, .agg [iv 0, iv 0, fv 0, sv eE, nilA]] (bv true) := by
  have s0 := c_sameAtom0
  refine pure_of_awp Tryd.func23 rfl rfl (by simp [Tryd.f23]) ?_; simp only [go_sem, ↓reduceIte, Nat.reduceEqDiff, Nat.reduceAdd, Nat.reduceLeDiff, Nat.reduceBEq, Nat.reduceMul, reduceCtorEq, Int.reduceLE, Int.reduceLT, Int.reduceAdd, Int.reduceSub, Int.reduceNeg, Int.reduceToNat, Int.reduceBEq]
  repeat' (first | refine awp_seq ?_ | refine awp_block ?_ | refine awp_round ?_ | refine awp_scope ?_ | refine awp_text rfl ?_ | refine awp_any rfl mix (by kernel_rfl) ?_ | (refine RunTo.unguard rfl rfl (fun hg => ?_) (fun hg => ?_) <;> ((try simp only [Bool.not_true, Bool.not_false, Bool.not_eq_true', Bool.not_eq_false', Bool.not_eq_eq_eq_not] at hg); (first | (cases hg) | (simp only [hg]) | skip))) | ((first | refine RunTo.plain rfl ?_ | refine RunTo.skipped rfl ?_ | refine RunTo.call (s0) Tryd.func59 rfl rfl rfl rfl rfl rfl rfl rfl ?_); simp only [go_sem, ↓reduceIte, Nat.reduceEqDiff, Nat.reduceAdd, Nat.reduceLeDiff, Nat.reduceBEq, Nat.reduceMul, reduceCtorEq, Int.reduceLE, Int.reduceLT, Int.reduceAdd, Int.reduceSub, Int.reduceNeg, Int.reduceToNat, Int.reduceBEq, ValD.av]) | ((first | refine RunTo.nilA (by kernel_rfl) ?_ | refine RunTo.nilT ?_ | refine awp_skip ?_ | refine awp_exit ?_ | refine awp_label ?_); simp only [go_sem, ↓reduceIte, Nat.reduceEqDiff, Nat.reduceAdd, Nat.reduceLeDiff, Nat.reduceBEq, Nat.reduceMul, reduceCtorEq, Int.reduceLE, Int.reduceLT, Int.reduceAdd, Int.reduceSub, Int.reduceNeg, Int.reduceToNat, Int.reduceBEq, ValD.av]) | (refine awp_cond' rfl (of_decide_eq_true rfl) (fun hc => ?_) (fun hc => ?_) <;> ((try simp only [Bool.not_true, Bool.not_false, Bool.not_eq_true', Bool.not_eq_false', Bool.not_eq_eq_eq_not] at hc); (first | (cases hc) | (simp only [hc]) | skip))))
  refine awp_rounds 1 ?_
  repeat' (first | refine awp_seq ?_ | refine awp_block ?_ | refine awp_round ?_ | refine awp_scope ?_ | refine awp_text rfl ?_ | refine awp_any rfl mix (by kernel_rfl) ?_ | (refine RunTo.unguard rfl rfl (fun hg => ?_) (fun hg => ?_) <;> ((try simp only [Bool.not_true, Bool.not_false, Bool.not_eq_true', Bool.not_eq_false', Bool.not_eq_eq_eq_not] at hg); (first | (cases hg) | (simp only [hg]) | skip))) | ((first | refine RunTo.plain rfl ?_ | refine RunTo.skipped rfl ?_); simp only [go_sem, ↓reduceIte, Nat.reduceEqDiff, Nat.reduceAdd, Nat.reduceLeDiff, Nat.reduceBEq, Nat.reduceMul, reduceCtorEq, Int.reduceLE, Int.reduceLT, Int.reduceAdd, Int.reduceSub, Int.reduceNeg, Int.reduceToNat, Int.reduceBEq]) | ((first | refine RunTo.nilA (by kernel_rfl) ?_ | refine RunTo.nilT ?_ | refine awp_skip ?_ | refine awp_exit ?_ | refine awp_label ?_); simp only [go_sem, ↓reduceIte, Nat.reduceEqDiff, Nat.reduceAdd, Nat.reduceLeDiff, Nat.reduceBEq, Nat.reduceMul, reduceCtorEq, Int.reduceLE, Int.reduceLT, Int.reduceAdd, Int.reduceSub, Int.reduceNeg, Int.reduceToNat, Int.reduceBEq]) | (refine awp_cond' rfl (of_decide_eq_true rfl) (fun hc => ?_) (fun hc => ?_) <;> ((try simp only [Bool.not_true, Bool.not_false, Bool.not_eq_true', Bool.not_eq_false', Bool.not_eq_eq_eq_not] at hc); (first | (cases hc) | (simp only [hc]) | skip))))
  all_goals (first | refine awp_ret ?_ | skip); refine ⟨(by first | exact .inl rfl | exact .inr rfl | exact .inr trivial | trivial), ?_⟩; simp only [go_sem, ↓reduceIte, Nat.reduceEqDiff, Nat.reduceAdd, Nat.reduceLeDiff, Nat.reduceBEq, Nat.reduceMul, reduceCtorEq, Int.reduceLE, Int.reduceLT, Int.reduceAdd, Int.reduceSub, Int.reduceNeg, Int.reduceToNat, Int.reduceBEq, retV, resL, resV, sealV, sealC, sealAll, Tryd.f23]
abbrev aqB : ByteArray := ⟨#[34, 97, 34]⟩
theorem c_ReadA : Pure Tryd.prog 21 [sv aqB] (.tup [ValD.av ⟨⟨4, 0, 0, ⟨#[97]⟩⟩, []⟩, iv 3, iv 0]) := by
  have h := c_Read aqB (by decide)
  rw [show readL aqB.data.toList = .ok ⟨⟨4, 0, 0, ⟨#[97]⟩⟩, []⟩ 3 from by rfl] at h
  exact h
theorem hideOne {P : Program} {nt : Nt} {Q : Exit → St → Prop} {st : St} {A B R : Code} (h : ∀ R', R' = R → AWP P nt (.seq A (.seq B R')) Q st) : AWP P nt (.seq A (.seq B R)) Q st := h R rfl
theorem c_lawOne (s0 : ByteArray) (h0 : s0.size ≤ 140737488351232) : Pure Tryd.prog 6 [sv s0] (bv true) := by
  refine pure_of_awp Tryd.func6 rfl rfl (by simp [Tryd.f6]) ?_; simp only [go_sem, ↓reduceIte, Nat.reduceEqDiff, Nat.reduceAdd, Nat.reduceLeDiff, Nat.reduceBEq, Nat.reduceMul, reduceCtorEq, Int.reduceLE, Int.reduceLT, Int.reduceAdd, Int.reduceSub, Int.reduceNeg, Int.reduceToNat, Int.reduceBEq]
  refine hideOne (fun R hR => ?_)
  have main : ∀ (s : ByteArray) (T : Nat), s.size ≤ 5000 → AWP Tryd.prog Tryd.f6.ntmps R (fun ex st => (ex = .ret ∨ ex = .normal) ∧ retV Tryd.prog Tryd.f6.results.toList st = some (bv true)) ⟨[(0, sv s)], [], T⟩ := by
    intro s T hs
    subst hR
    have hr := c_Read s (by omega)
    cases he : readL s.data.toList with
    | ok v n =>
      rw [he] at hr
      have hr : Pure _ _ _ (.tup [v.av, iv n, iv 0]) := hr
      obtain ⟨q1, q2, q3, q4, q5⟩ := read_print he
      rw [Array.length_toList] at q4
      have q4 : n ≤ s.size := q4
      have hv := c_Valid v
      rw [q2] at hv
      have hp := c_PrintV v q5
      have e : printV v = s.extract 0 n := by
        apply ByteArray.ext
        apply Array.ext'
        rw [q1, ext_list]
        simp
      have qe := strEq_t e
      have d1 : decide ((n : Int) ≤ (s.size : Int)) = true := decide_eq_true (by omega)
      have d2 : decide ((0 : Int) < (n : Int)) = true := decide_eq_true (by omega)
      repeat' (first | refine awp_seq ?_ | refine awp_block ?_ | refine awp_round ?_ | refine awp_scope ?_ | refine awp_text rfl ?_ | refine awp_any rfl mix (by kernel_rfl) ?_ | (refine RunTo.unguard rfl rfl (fun hg => ?_) (fun hg => ?_) <;> ((try simp only [Bool.not_true, Bool.not_false, Bool.not_eq_true', Bool.not_eq_false', Bool.not_eq_eq_eq_not] at hg); (first | (cases hg) | (simp only [hg]) | skip))) | ((first | refine RunTo.plain rfl ?_ | refine RunTo.skipped rfl ?_ | refine RunTo.call (hr) Tryd.func21 rfl rfl rfl rfl rfl rfl rfl rfl ?_ | refine RunTo.call (hv) Tryd.func11 rfl rfl rfl rfl rfl rfl rfl rfl ?_ | refine RunTo.call (hp) Tryd.func19 rfl rfl rfl rfl rfl rfl rfl rfl ?_); simp only [go_sem, ↓reduceIte, Nat.reduceEqDiff, Nat.reduceAdd, Nat.reduceLeDiff, Nat.reduceBEq, Nat.reduceMul, reduceCtorEq, Int.reduceLE, Int.reduceLT, Int.reduceAdd, Int.reduceSub, Int.reduceNeg, Int.reduceToNat, Int.reduceBEq, ValD.av, d1, d2, q4, qe]) | ((first | refine RunTo.nilA (by kernel_rfl) ?_ | refine RunTo.nilT ?_ | refine awp_skip ?_ | refine awp_exit ?_ | refine awp_label ?_); simp only [go_sem, ↓reduceIte, Nat.reduceEqDiff, Nat.reduceAdd, Nat.reduceLeDiff, Nat.reduceBEq, Nat.reduceMul, reduceCtorEq, Int.reduceLE, Int.reduceLT, Int.reduceAdd, Int.reduceSub, Int.reduceNeg, Int.reduceToNat, Int.reduceBEq, ValD.av, d1, d2, q4, qe]) | (refine awp_cond' rfl (of_decide_eq_true rfl) (fun hc => ?_) (fun hc => ?_) <;> ((try simp only [Bool.not_true, Bool.not_false, Bool.not_eq_true', Bool.not_eq_false', Bool.not_eq_eq_eq_not] at hc); (first | (cases hc) | (simp only [hc]) | skip))))
      all_goals (first | refine awp_ret ?_ | skip); refine ⟨(by first | exact .inl rfl | exact .inr rfl | exact .inr trivial | trivial), ?_⟩; simp only [go_sem, ↓reduceIte, Nat.reduceEqDiff, Nat.reduceAdd, Nat.reduceLeDiff, Nat.reduceBEq, Nat.reduceMul, reduceCtorEq, Int.reduceLE, Int.reduceLT, Int.reduceAdd, Int.reduceSub, Int.reduceNeg, Int.reduceToNat, Int.reduceBEq, retV, resL, resV, sealV, sealC, sealAll, Tryd.f6]
      all_goals rfl
    | bad e =>
      rw [he] at hr
      have hr : Pure _ _ _ (.tup [nulV.av, iv 0, iv e]) := hr
      have hb := readL_bad he
      have hne := beq_f (show e ≠ 0 by omega)
      have ra := c_ReadA
      have s0 := c_Same0
      repeat' (first | refine awp_seq ?_ | refine awp_block ?_ | refine awp_round ?_ | refine awp_scope ?_ | refine awp_text rfl ?_ | refine awp_any rfl mix (by kernel_rfl) ?_ | (refine RunTo.unguard rfl rfl (fun hg => ?_) (fun hg => ?_) <;> ((try simp only [Bool.not_true, Bool.not_false, Bool.not_eq_true', Bool.not_eq_false', Bool.not_eq_eq_eq_not] at hg); (first | (cases hg) | (simp only [hg]) | skip))) | ((first | refine RunTo.plain rfl ?_ | refine RunTo.skipped rfl ?_ | refine RunTo.call (hr) Tryd.func21 rfl rfl rfl rfl rfl rfl rfl rfl ?_ | refine RunTo.call (ra) Tryd.func21 rfl rfl rfl rfl rfl rfl rfl rfl ?_ | refine RunTo.call (s0) Tryd.func23 rfl rfl rfl rfl rfl rfl rfl rfl ?_); simp only [go_sem, ↓reduceIte, Nat.reduceEqDiff, Nat.reduceAdd, Nat.reduceLeDiff, Nat.reduceBEq, Nat.reduceMul, reduceCtorEq, Int.reduceLE, Int.reduceLT, Int.reduceAdd, Int.reduceSub, Int.reduceNeg, Int.reduceToNat, Int.reduceBEq, ValD.av, bne, hne, Bool.not_true, Bool.not_false]) | ((first | refine RunTo.nilA (by kernel_rfl) ?_ | refine RunTo.nilT ?_ | refine awp_skip ?_ | refine awp_exit ?_ | refine awp_label ?_); simp only [go_sem, ↓reduceIte, Nat.reduceEqDiff, Nat.reduceAdd, Nat.reduceLeDiff, Nat.reduceBEq, Nat.reduceMul, reduceCtorEq, Int.reduceLE, Int.reduceLT, Int.reduceAdd, Int.reduceSub, Int.reduceNeg, Int.reduceToNat, Int.reduceBEq, ValD.av, bne, hne, Bool.not_true, Bool.not_false]) | (refine awp_cond' rfl (of_decide_eq_true rfl) (fun hc => ?_) (fun hc => ?_) <;> ((try simp only [Bool.not_true, Bool.not_false, Bool.not_eq_true', Bool.not_eq_false', Bool.not_eq_eq_eq_not] at hc); (first | (cases hc) | (simp only [hc]) | skip))))
      all_goals (first | refine awp_ret ?_ | skip); refine ⟨(by first | exact .inl rfl | exact .inr rfl | exact .inr trivial | trivial), ?_⟩; simp only [go_sem, ↓reduceIte, Nat.reduceEqDiff, Nat.reduceAdd, Nat.reduceLeDiff, Nat.reduceBEq, Nat.reduceMul, reduceCtorEq, Int.reduceLE, Int.reduceLT, Int.reduceAdd, Int.reduceSub, Int.reduceNeg, Int.reduceToNat, Int.reduceBEq, retV, resL, resV, sealV, sealC, sealAll, Tryd.f6]
      all_goals rfl
  by_cases hl : 5000 < s0.size
  · have hd : decide ((5000 : Int) < (s0.size : Int)) = true := decide_eq_true (by omega)
    have hle : (5000 ≤ s0.size) = True := eq_true (by omega)
    repeat' (first | refine awp_seq ?_ | refine awp_block ?_ | refine awp_round ?_ | refine awp_scope ?_ | refine awp_text rfl ?_ | refine awp_any rfl mix (by kernel_rfl) ?_ | (refine RunTo.unguard rfl rfl (fun hg => ?_) (fun hg => ?_) <;> ((try simp only [Bool.not_true, Bool.not_false, Bool.not_eq_true', Bool.not_eq_false', Bool.not_eq_eq_eq_not] at hg); (first | (cases hg) | (simp only [hg]) | skip))) | ((first | refine RunTo.plain rfl ?_ | refine RunTo.skipped rfl ?_); simp only [go_sem, ↓reduceIte, Nat.reduceEqDiff, Nat.reduceAdd, Nat.reduceLeDiff, Nat.reduceBEq, Nat.reduceMul, reduceCtorEq, Int.reduceLE, Int.reduceLT, Int.reduceAdd, Int.reduceSub, Int.reduceNeg, Int.reduceToNat, Int.reduceBEq, hd, hle]) | ((first | refine RunTo.nilA (by kernel_rfl) ?_ | refine RunTo.nilT ?_ | refine awp_skip ?_ | refine awp_exit ?_ | refine awp_label ?_); simp only [go_sem, ↓reduceIte, Nat.reduceEqDiff, Nat.reduceAdd, Nat.reduceLeDiff, Nat.reduceBEq, Nat.reduceMul, reduceCtorEq, Int.reduceLE, Int.reduceLT, Int.reduceAdd, Int.reduceSub, Int.reduceNeg, Int.reduceToNat, Int.reduceBEq, hd, hle]) | (refine awp_cond' rfl (of_decide_eq_true rfl) (fun hc => ?_) (fun hc => ?_) <;> ((try simp only [Bool.not_true, Bool.not_false, Bool.not_eq_true', Bool.not_eq_false', Bool.not_eq_eq_eq_not] at hc); (first | (cases hc) | (simp only [hc]) | skip))))
    all_goals exact awp_weak (st' := ⟨[(0, sv (s0.extract 0 5000))], [], _⟩) (weak_keep ⟨rfl, trivial⟩ trivial (Nat.le_refl _)) (main _ _ (by simp; omega))
  · have hd : decide ((5000 : Int) < (s0.size : Int)) = false := decide_eq_false (by omega)
    repeat' (first | refine awp_seq ?_ | refine awp_block ?_ | refine awp_round ?_ | refine awp_scope ?_ | refine awp_text rfl ?_ | refine awp_any rfl mix (by kernel_rfl) ?_ | (refine RunTo.unguard rfl rfl (fun hg => ?_) (fun hg => ?_) <;> ((try simp only [Bool.not_true, Bool.not_false, Bool.not_eq_true', Bool.not_eq_false', Bool.not_eq_eq_eq_not] at hg); (first | (cases hg) | (simp only [hg]) | skip))) | ((first | refine RunTo.plain rfl ?_ | refine RunTo.skipped rfl ?_); simp only [go_sem, ↓reduceIte, Nat.reduceEqDiff, Nat.reduceAdd, Nat.reduceLeDiff, Nat.reduceBEq, Nat.reduceMul, reduceCtorEq, Int.reduceLE, Int.reduceLT, Int.reduceAdd, Int.reduceSub, Int.reduceNeg, Int.reduceToNat, Int.reduceBEq, hd]) | ((first | refine RunTo.nilA (by kernel_rfl) ?_ | refine RunTo.nilT ?_ | refine awp_skip ?_ | refine awp_exit ?_ | refine awp_label ?_); simp only [go_sem, ↓reduceIte, Nat.reduceEqDiff, Nat.reduceAdd, Nat.reduceLeDiff, Nat.reduceBEq, Nat.reduceMul, reduceCtorEq, Int.reduceLE, Int.reduceLT, Int.reduceAdd, Int.reduceSub, Int.reduceNeg, Int.reduceToNat, Int.reduceBEq, hd]) | (refine awp_cond' rfl (of_decide_eq_true rfl) (fun hc => ?_) (fun hc => ?_) <;> ((try simp only [Bool.not_true, Bool.not_false, Bool.not_eq_true', Bool.not_eq_false', Bool.not_eq_eq_eq_not] at hc); (first | (cases hc) | (simp only [hc]) | skip))))
    all_goals exact awp_weak (st' := ⟨[(0, sv s0)], [], _⟩) (weak_keep ⟨rfl, trivial⟩ trivial (Nat.le_refl _)) (main _ _ (by omega))
end Go.Proofs.YtjihcldhjpdnmaaDoor.AM
