/- Part 9 of the proof: words, contracts, plain laws. Laid by a program of this session (wip/tool/shake.py): what is needed of own and printed texts, in order. -/
import Derived.Test.YtjihcldhjpdnmaaDoorZg0
import Derived.Test.YtjihcldhjpdnmaaDoorZg1
import Derived.Test.YtjihcldhjpdnmaaDoorZg2
import Derived.Test.YtjihcldhjpdnmaaDoorZg3
import Derived.Test.YtjihcldhjpdnmaaDoorZg5
import Derived.Test.YtjihcldhjpdnmaaDoorZg6
import Derived.Test.YtjihcldhjpdnmaaDoorZg7
import Derived.Test.YtjihcldhjpdnmaaDoorZg8
import Derived.Calls
import Derived.Lib.ItoaNum
import Derived.Orders
import Derived.Tactics
import Derived.Below
import Derived.Laws.Rows
import Derived.Laws.World
import Derived.Laws.CopyRow
import Derived.Lib.FrozenHead
import Derived.Deep.AppendSrc
import Derived.Deep.Upon
import Derived.Laws.BytesArg
import Derived.IntWalk
import Derived.Laws.Externs
import Derived.LoopN
import Derived.Scope
import Derived.Test.YtjihcldhjpdnmaaDoorProg
import Derived.KernelRfl
import Derived.MapKept
import Derived.Recover
import Derived.WideLaws
import Derived.RegionTactic
import Derived.Lib.AppendIntMem
import Derived.Lib.Join
import Derived.Shelf.Strings.Builder1
import Derived.Shelf.Strings.Builder2
import Derived.Shelf.Strings.OnBuilder
import Derived.Shelf.Small.Strs
import Derived.Shelf.Small.Wraps
import Derived.Shelf.Strings.BuilderF
import Derived.Shelf.Strings.BuilderK
import Derived.Shelf.Strings.Builder2Cap
import Derived.Shelf.Strconv.Atoi
import Derived.Shelf.Strconv.Itoa0
import Derived.Shelf.Strconv.Itoa1
import Derived.Shelf.LaysM
import Derived.Shelf.Strconv.Itoa2
import Derived.Shelf.Strconv.Itoa3
import Derived.Shelf.Strconv.AtoiErrFast
import Derived.Shelf.Strconv.ParseIntEmpty
import Derived.Shelf.Strconv.AtoiFail
import Derived.Shelf.Strconv.Clone
import Derived.Shelf.Strconv.SyntaxError
import Derived.Shelf.LaysC
import Derived.Shelf.Strconv.ToError
import Derived.Shelf.Strconv.Lower
import Derived.Shelf.Strconv.ParseUint10
import Derived.Shelf.Strconv.ParseUint10Empty
import Derived.Shelf.Strconv.ParseUint10Any
import Derived.Shelf.Strconv.ParseInt10
import Derived.Shelf.Strconv.AtoiLong
import Derived.Shelf.Strconv.AtoiInnerAll
import Derived.Shelf.Strconv.RangeError
import Derived.Shelf.Strconv.ToErrorRange
import Derived.Shelf.Strconv.AtoiAll
import Derived.Shelf.Strings.Search1
import Derived.Shelf.Strings.Prefix
import Derived.Shelf.Strings.BuilderCap
import Derived.Shelf.Slices.Turned
import Derived.Ground.Names2Prog
import Derived.Shelf.Slices.SearchI
import Derived.Lib.ItoaLen
import Derived.Laws.FloatBits
import Derived.Lib.ItoaMem
namespace Go.Proofs.YtjihcldhjpdnmaaDoor.AM
open Go.RowKit
set_option linter.unusedSimpArgs false
set_option linter.unusedVariables false
set_option maxRecDepth 10000
set_option maxHeartbeats 0
theorem c_list (s : ByteArray) (k0 : Nat) (hk0 : k0 ≤ s.size) (hs : s.size ≤ 1000000) (hno : preL (s.data.toList.drop k0) clB = false) : listC s k0 (listL 17 [] (s.data.toList.drop k0)) := by
  have kn := skip_no (s := s) (k := k0) (t := clB) hk0 hs (by decide) (by rw [preS_eq]; exact hno)
  cases hr : listL 17 [] (s.data.toList.drop k0) with
  | bad e0 =>
    show Pans _ _ _ _ _
    refine pans_of_awp Tryd.func55 rfl (by simp [Tryd.f55]) ?_; simp only [go_sem, ↓reduceIte, Nat.reduceEqDiff, Nat.reduceAdd, Nat.reduceLeDiff, Nat.reduceBEq, Nat.reduceMul, reduceCtorEq, Int.reduceLE, Int.reduceLT, Int.reduceAdd, Int.reduceSub, Int.reduceNeg, Int.reduceToNat, Int.reduceBEq]
    repeat' (first | refine awp_seq ?_ | refine awp_block ?_ | refine awp_round ?_ | refine awp_scope ?_ | refine awp_text rfl ?_ | refine awp_any rfl mix (by kernel_rfl) ?_ | (refine RunTo.unguard rfl rfl (fun hg => ?_) (fun hg => ?_) <;> ((try simp only [Bool.not_true, Bool.not_false, Bool.not_eq_true', Bool.not_eq_false', Bool.not_eq_eq_eq_not] at hg); (first | (cases hg) | (simp only [hg]) | skip))) | ((first | refine RunTo.plain rfl ?_ | refine RunTo.skipped rfl ?_); simp only [go_sem, ↓reduceIte, Nat.reduceEqDiff, Nat.reduceAdd, Nat.reduceLeDiff, Nat.reduceBEq, Nat.reduceMul, reduceCtorEq, Int.reduceLE, Int.reduceLT, Int.reduceAdd, Int.reduceSub, Int.reduceNeg, Int.reduceToNat, Int.reduceBEq, rdB]) | (refine RunTo.actsE (kn) Tryd.func54 rfl rfl rfl rfl rfl rfl ?_; simp only [go_sem, ↓reduceIte, Nat.reduceEqDiff, Nat.reduceAdd, Nat.reduceLeDiff, Nat.reduceBEq, Nat.reduceMul, reduceCtorEq, Int.reduceLE, Int.reduceLT, Int.reduceAdd, Int.reduceSub, Int.reduceNeg, Int.reduceToNat, Int.reduceBEq, rdB]; (repeat' refine And.intro rfl ?_); with_reducible refine RunTo.this ?_) | ((first | refine RunTo.nilA (by kernel_rfl) ?_ | refine RunTo.nilT ?_ | refine awp_skip ?_ | refine awp_exit ?_ | refine awp_label ?_); simp only [go_sem, ↓reduceIte, Nat.reduceEqDiff, Nat.reduceAdd, Nat.reduceLeDiff, Nat.reduceBEq, Nat.reduceMul, reduceCtorEq, Int.reduceLE, Int.reduceLT, Int.reduceAdd, Int.reduceSub, Int.reduceNeg, Int.reduceToNat, Int.reduceBEq, rdB]) | (refine awp_cond' rfl (of_decide_eq_true rfl) (fun hc => ?_) (fun hc => ?_) <;> ((try simp only [Bool.not_true, Bool.not_false, Bool.not_eq_true', Bool.not_eq_false', Bool.not_eq_eq_eq_not] at hc); (first | (cases hc) | (simp only [hc]) | skip))))
    refine awp_weak (weak_nilbox (b := 3) (j := 4) (s := 19) (sz := 4) rfl rfl rfl) ?_
    simp only [go_sem, ↓reduceIte, Nat.reduceEqDiff, Nat.reduceAdd, Nat.reduceLeDiff, Nat.reduceBEq, Nat.reduceMul, reduceCtorEq, Int.reduceLE, Int.reduceLT, Int.reduceAdd, Int.reduceSub, Int.reduceNeg, Int.reduceToNat, Int.reduceBEq, List.set_cons_succ, List.set_cons_zero]
    refine awp_loopw (ICl s k0 (.bad e0)) 17 (SCk s k0 [] _ _) (weak_keep ⟨rfl, rfl, rfl, trivial⟩ ⟨rfl, rfl, rfl, rfl, trivial⟩ (Nat.le_refl _)) ⟨k0, [], _, _, Nat.le_refl _, hk0, by simp, rfl, by simp only [List.length_nil, Nat.sub_zero, Nat.sub_self]; rw [hr]; simp [RL.add], rfl⟩ ?_
    rintro n st ⟨k, acc, T, e, h0k, hk, ha, rfl, hx, rfl⟩
    have ca := c_atom s k hk hs
    rw [show 17 - acc.length = (16 - acc.length) + 1 by omega] at hx
    unfold listL at hx
    have htk : List.take acc.length (acc.map AtomD.enc) = acc.map AtomD.enc := List.take_of_length_le (by simp)
    by_cases h16 : acc.length = 16
    · rw [if_pos h16] at hx
      simp only [RL.add, RL.bad.injEq] at hx
      subst hx
      have q := beq_t (show (acc.length : Int) = 16 by omega)
      repeat' (first | refine awp_seq ?_ | refine awp_block ?_ | refine awp_round ?_ | refine awp_scope ?_ | refine awp_text rfl ?_ | refine awp_any rfl mix (by kernel_rfl) ?_ | (refine RunTo.panic rfl rfl rfl ?_; simp only [go_sem, ↓reduceIte, Nat.reduceEqDiff, Nat.reduceAdd, Nat.reduceLeDiff, Nat.reduceBEq, Nat.reduceMul, reduceCtorEq, Int.reduceLE, Int.reduceLT, Int.reduceAdd, Int.reduceSub, Int.reduceNeg, Int.reduceToNat, Int.reduceBEq, q, List.length_map]) | (refine RunTo.unguard rfl rfl (fun hg => ?_) (fun hg => ?_) <;> ((try simp only [Bool.not_true, Bool.not_false, Bool.not_eq_true', Bool.not_eq_false', Bool.not_eq_eq_eq_not] at hg); (first | (cases hg) | (simp only [hg]) | skip))) | ((first | refine RunTo.plain rfl ?_ | refine RunTo.skipped rfl ?_); simp only [go_sem, ↓reduceIte, Nat.reduceEqDiff, Nat.reduceAdd, Nat.reduceLeDiff, Nat.reduceBEq, Nat.reduceMul, reduceCtorEq, Int.reduceLE, Int.reduceLT, Int.reduceAdd, Int.reduceSub, Int.reduceNeg, Int.reduceToNat, Int.reduceBEq, q, List.length_map]) | ((first | refine RunTo.nilA (by kernel_rfl) ?_ | refine RunTo.nilT ?_ | refine awp_skip ?_ | refine awp_exit ?_ | refine awp_label ?_); simp only [go_sem, ↓reduceIte, Nat.reduceEqDiff, Nat.reduceAdd, Nat.reduceLeDiff, Nat.reduceBEq, Nat.reduceMul, reduceCtorEq, Int.reduceLE, Int.reduceLT, Int.reduceAdd, Int.reduceSub, Int.reduceNeg, Int.reduceToNat, Int.reduceBEq, q, List.length_map]) | (refine awp_cond' rfl (of_decide_eq_true rfl) (fun hc => ?_) (fun hc => ?_) <;> ((try simp only [Bool.not_true, Bool.not_false, Bool.not_eq_true', Bool.not_eq_false', Bool.not_eq_eq_eq_not] at hc); (first | (cases hc) | (simp only [hc]) | skip))))
    · rw [if_neg h16] at hx
      have q := beq_f (show (acc.length : Int) ≠ 16 by omega)
      have c1 : ((acc.length + 1) * 40 ≤ 140737488355328) = True := eq_true (by omega)
      cases hr2 : atomL (s.data.toList.drop k) with
      | bad e1 =>
        rw [hr2] at hx ca
        simp only [RL.add, listN, RL.bad.injEq] at hx
        subst hx
        have ca : Pans _ _ _ _ _ := ca
        repeat' (first | refine awp_seq ?_ | refine awp_block ?_ | refine awp_round ?_ | refine awp_scope ?_ | refine awp_text rfl ?_ | refine awp_any rfl mix (by kernel_rfl) ?_ | (refine RunTo.unguard rfl rfl (fun hg => ?_) (fun hg => ?_) <;> ((try simp only [Bool.not_true, Bool.not_false, Bool.not_eq_true', Bool.not_eq_false', Bool.not_eq_eq_eq_not] at hg); (first | (cases hg) | (simp only [hg]) | skip))) | ((first | refine RunTo.plain rfl ?_ | refine RunTo.skipped rfl ?_); simp only [go_sem, ↓reduceIte, Nat.reduceEqDiff, Nat.reduceAdd, Nat.reduceLeDiff, Nat.reduceBEq, Nat.reduceMul, reduceCtorEq, Int.reduceLE, Int.reduceLT, Int.reduceAdd, Int.reduceSub, Int.reduceNeg, Int.reduceToNat, Int.reduceBEq, rdB, q, List.length_map]) | (refine RunTo.pansE (ca) Tryd.func56 rfl rfl rfl rfl rfl rfl ?_; simp only [go_sem, ↓reduceIte, Nat.reduceEqDiff, Nat.reduceAdd, Nat.reduceLeDiff, Nat.reduceBEq, Nat.reduceMul, reduceCtorEq, Int.reduceLE, Int.reduceLT, Int.reduceAdd, Int.reduceSub, Int.reduceNeg, Int.reduceToNat, Int.reduceBEq, rdB, q, List.length_map]; (repeat' refine And.intro rfl ?_); (all_goals try (with_reducible refine ⟨by kernel_rfl, by kernel_rfl, ?_⟩)); (all_goals try (simp only [go_sem, ↓reduceIte, Nat.reduceEqDiff, Nat.reduceAdd, Nat.reduceLeDiff, Nat.reduceBEq, Nat.reduceMul, reduceCtorEq, Int.reduceLE, Int.reduceLT, Int.reduceAdd, Int.reduceSub, Int.reduceNeg, Int.reduceToNat, Int.reduceBEq, rdB, q, List.length_map]))) | ((first | refine RunTo.nilA (by kernel_rfl) ?_ | refine RunTo.nilT ?_ | refine awp_skip ?_ | refine awp_exit ?_ | refine awp_label ?_); simp only [go_sem, ↓reduceIte, Nat.reduceEqDiff, Nat.reduceAdd, Nat.reduceLeDiff, Nat.reduceBEq, Nat.reduceMul, reduceCtorEq, Int.reduceLE, Int.reduceLT, Int.reduceAdd, Int.reduceSub, Int.reduceNeg, Int.reduceToNat, Int.reduceBEq, rdB, q, List.length_map]) | (refine awp_cond' rfl (of_decide_eq_true rfl) (fun hc => ?_) (fun hc => ?_) <;> ((try simp only [Bool.not_true, Bool.not_false, Bool.not_eq_true', Bool.not_eq_false', Bool.not_eq_eq_eq_not] at hc); (first | (cases hc) | (simp only [hc]) | skip))))
      | ok a j =>
        have hj := atomL_len hr2
        rw [List.length_drop, Array.length_toList] at hj
        have hj2 : j ≤ s.size - k := hj
        rw [hr2] at hx ca
        have ca : Acts _ _ _ _ _ _ := ca
        simp only [listN, List.drop_drop] at hx
        by_cases g1 : preL (s.data.toList.drop (k + j)) clB = true
        · rw [if_pos g1] at hx
          simp [RL.add] at hx
        · rw [if_neg g1] at hx
          have k1 := skip_no (s := s) (k := k + j) (t := clB) (by omega) hs (by decide) (by rw [preS_eq]; simpa using g1)
          by_cases g2 : preL (s.data.toList.drop (k + j)) cmB = true
          · rw [if_pos g2] at hx
            have g3 := preL_len g2
            rw [List.length_drop, Array.length_toList, show cmB.size = 2 from rfl] at g3
            have g4 : 2 ≤ s.size - (k + j) := g3
            have k2 := skip_yes (s := s) (k := k + j) (t := cmB) (by omega) hs (by decide) (by rw [preS_eq]; exact g2)
            rw [show cmB.size = 2 from rfl] at k2
            repeat' (first | refine awp_seq ?_ | refine awp_block ?_ | refine awp_round ?_ | refine awp_scope ?_ | refine awp_text rfl ?_ | refine awp_any rfl mix (by kernel_rfl) ?_ | (refine RunTo.unguard rfl rfl (fun hg => ?_) (fun hg => ?_) <;> ((try simp only [Bool.not_true, Bool.not_false, Bool.not_eq_true', Bool.not_eq_false', Bool.not_eq_eq_eq_not] at hg); (first | (cases hg) | (simp only [hg]) | skip))) | ((first | refine RunTo.plain rfl ?_ | refine RunTo.skipped rfl ?_); simp only [go_sem, ↓reduceIte, Nat.reduceEqDiff, Nat.reduceAdd, Nat.reduceLeDiff, Nat.reduceBEq, Nat.reduceMul, reduceCtorEq, Int.reduceLE, Int.reduceLT, Int.reduceAdd, Int.reduceSub, Int.reduceNeg, Int.reduceToNat, Int.reduceBEq, rdB, q, htk, c1, AtomD.av, List.length_map, lenTy, implies_true]) | (refine RunTo.actsE (ca) Tryd.func56 rfl rfl rfl rfl rfl rfl ?_; simp only [go_sem, ↓reduceIte, Nat.reduceEqDiff, Nat.reduceAdd, Nat.reduceLeDiff, Nat.reduceBEq, Nat.reduceMul, reduceCtorEq, Int.reduceLE, Int.reduceLT, Int.reduceAdd, Int.reduceSub, Int.reduceNeg, Int.reduceToNat, Int.reduceBEq, rdB, q, htk, c1, AtomD.av, List.length_map, lenTy, implies_true]; (repeat' refine And.intro rfl ?_); with_reducible refine RunTo.this ?_) | (refine RunTo.actsE (k1) Tryd.func54 rfl rfl rfl rfl rfl rfl ?_; simp only [go_sem, ↓reduceIte, Nat.reduceEqDiff, Nat.reduceAdd, Nat.reduceLeDiff, Nat.reduceBEq, Nat.reduceMul, reduceCtorEq, Int.reduceLE, Int.reduceLT, Int.reduceAdd, Int.reduceSub, Int.reduceNeg, Int.reduceToNat, Int.reduceBEq, rdB, q, htk, c1, AtomD.av, List.length_map, lenTy, implies_true]; (repeat' refine And.intro rfl ?_); with_reducible refine RunTo.this ?_) | (refine RunTo.actsE (k2) Tryd.func54 rfl rfl rfl rfl rfl rfl ?_; simp only [go_sem, ↓reduceIte, Nat.reduceEqDiff, Nat.reduceAdd, Nat.reduceLeDiff, Nat.reduceBEq, Nat.reduceMul, reduceCtorEq, Int.reduceLE, Int.reduceLT, Int.reduceAdd, Int.reduceSub, Int.reduceNeg, Int.reduceToNat, Int.reduceBEq, rdB, q, htk, c1, AtomD.av, List.length_map, lenTy, implies_true]; (repeat' refine And.intro rfl ?_); with_reducible refine RunTo.this ?_) | ((first | refine RunTo.nilA (by kernel_rfl) ?_ | refine RunTo.nilT ?_ | refine awp_skip ?_ | refine awp_exit ?_ | refine awp_label ?_); simp only [go_sem, ↓reduceIte, Nat.reduceEqDiff, Nat.reduceAdd, Nat.reduceLeDiff, Nat.reduceBEq, Nat.reduceMul, reduceCtorEq, Int.reduceLE, Int.reduceLT, Int.reduceAdd, Int.reduceSub, Int.reduceNeg, Int.reduceToNat, Int.reduceBEq, rdB, q, htk, c1, AtomD.av, List.length_map, lenTy, implies_true]) | (refine awp_cond' rfl (of_decide_eq_true rfl) (fun hc => ?_) (fun hc => ?_) <;> ((try simp only [Bool.not_true, Bool.not_false, Bool.not_eq_true', Bool.not_eq_false', Bool.not_eq_eq_eq_not] at hc); (first | (cases hc) | (simp only [hc]) | skip))))
            have hlen : (acc ++ [a]).length = acc.length + 1 := by simp
            exact ⟨17 - (acc ++ [a]).length, by omega, SCk s (k + j + 2) (acc ++ [a]) _ _, weak_keep ⟨rfl, rfl, rfl, trivial⟩ ⟨rfl, rfl, by rw [hlen]; rfl, by rw [List.map_append]; rfl, trivial⟩ (Nat.le_refl _), k + j + 2, acc ++ [a], _, _, by omega, by omega, by omega, rfl, by rw [hx, RL.add_add, hlen, show 17 - (acc.length + 1) = 16 - acc.length by omega, show k - k0 + (j + 2) = k + j + 2 - k0 by omega], rfl⟩
          · rw [if_neg g2] at hx
            simp only [RL.add, RL.bad.injEq] at hx
            subst hx
            have k2 := skip_no (s := s) (k := k + j) (t := cmB) (by omega) hs (by decide) (by rw [preS_eq]; simpa using g2)
            repeat' (first | refine awp_seq ?_ | refine awp_block ?_ | refine awp_round ?_ | refine awp_scope ?_ | refine awp_text rfl ?_ | refine awp_any rfl mix (by kernel_rfl) ?_ | (refine RunTo.panic rfl rfl rfl ?_; simp only [go_sem, ↓reduceIte, Nat.reduceEqDiff, Nat.reduceAdd, Nat.reduceLeDiff, Nat.reduceBEq, Nat.reduceMul, reduceCtorEq, Int.reduceLE, Int.reduceLT, Int.reduceAdd, Int.reduceSub, Int.reduceNeg, Int.reduceToNat, Int.reduceBEq, rdB, q, htk, c1, AtomD.av, List.length_map, lenTy, implies_true]) | (refine RunTo.unguard rfl rfl (fun hg => ?_) (fun hg => ?_) <;> ((try simp only [Bool.not_true, Bool.not_false, Bool.not_eq_true', Bool.not_eq_false', Bool.not_eq_eq_eq_not] at hg); (first | (cases hg) | (simp only [hg]) | skip))) | ((first | refine RunTo.plain rfl ?_ | refine RunTo.skipped rfl ?_); simp only [go_sem, ↓reduceIte, Nat.reduceEqDiff, Nat.reduceAdd, Nat.reduceLeDiff, Nat.reduceBEq, Nat.reduceMul, reduceCtorEq, Int.reduceLE, Int.reduceLT, Int.reduceAdd, Int.reduceSub, Int.reduceNeg, Int.reduceToNat, Int.reduceBEq, rdB, q, htk, c1, AtomD.av, List.length_map, lenTy, implies_true]) | (refine RunTo.actsE (ca) Tryd.func56 rfl rfl rfl rfl rfl rfl ?_; simp only [go_sem, ↓reduceIte, Nat.reduceEqDiff, Nat.reduceAdd, Nat.reduceLeDiff, Nat.reduceBEq, Nat.reduceMul, reduceCtorEq, Int.reduceLE, Int.reduceLT, Int.reduceAdd, Int.reduceSub, Int.reduceNeg, Int.reduceToNat, Int.reduceBEq, rdB, q, htk, c1, AtomD.av, List.length_map, lenTy, implies_true]; (repeat' refine And.intro rfl ?_); with_reducible refine RunTo.this ?_) | (refine RunTo.actsE (k1) Tryd.func54 rfl rfl rfl rfl rfl rfl ?_; simp only [go_sem, ↓reduceIte, Nat.reduceEqDiff, Nat.reduceAdd, Nat.reduceLeDiff, Nat.reduceBEq, Nat.reduceMul, reduceCtorEq, Int.reduceLE, Int.reduceLT, Int.reduceAdd, Int.reduceSub, Int.reduceNeg, Int.reduceToNat, Int.reduceBEq, rdB, q, htk, c1, AtomD.av, List.length_map, lenTy, implies_true]; (repeat' refine And.intro rfl ?_); with_reducible refine RunTo.this ?_) | (refine RunTo.actsE (k2) Tryd.func54 rfl rfl rfl rfl rfl rfl ?_; simp only [go_sem, ↓reduceIte, Nat.reduceEqDiff, Nat.reduceAdd, Nat.reduceLeDiff, Nat.reduceBEq, Nat.reduceMul, reduceCtorEq, Int.reduceLE, Int.reduceLT, Int.reduceAdd, Int.reduceSub, Int.reduceNeg, Int.reduceToNat, Int.reduceBEq, rdB, q, htk, c1, AtomD.av, List.length_map, lenTy, implies_true]; (repeat' refine And.intro rfl ?_); with_reducible refine RunTo.this ?_) | ((first | refine RunTo.nilA (by kernel_rfl) ?_ | refine RunTo.nilT ?_ | refine awp_skip ?_ | refine awp_exit ?_ | refine awp_label ?_); simp only [go_sem, ↓reduceIte, Nat.reduceEqDiff, Nat.reduceAdd, Nat.reduceLeDiff, Nat.reduceBEq, Nat.reduceMul, reduceCtorEq, Int.reduceLE, Int.reduceLT, Int.reduceAdd, Int.reduceSub, Int.reduceNeg, Int.reduceToNat, Int.reduceBEq, rdB, q, htk, c1, AtomD.av, List.length_map, lenTy, implies_true]) | (refine awp_cond' rfl (of_decide_eq_true rfl) (fun hc => ?_) (fun hc => ?_) <;> ((try simp only [Bool.not_true, Bool.not_false, Bool.not_eq_true', Bool.not_eq_false', Bool.not_eq_eq_eq_not] at hc); (first | (cases hc) | (simp only [hc]) | skip))))
  | ok res m =>
    show Acts _ _ _ _ _ _
    refine acts_of_awp ([(1001, 1001), (19, 1002)]) Tryd.func55 rfl rfl (by simp [Tryd.f55]) ?_; simp only [go_sem, ↓reduceIte, Nat.reduceEqDiff, Nat.reduceAdd, Nat.reduceLeDiff, Nat.reduceBEq, Nat.reduceMul, reduceCtorEq, Int.reduceLE, Int.reduceLT, Int.reduceAdd, Int.reduceSub, Int.reduceNeg, Int.reduceToNat, Int.reduceBEq]
    repeat' (first | refine awp_seq ?_ | refine awp_block ?_ | refine awp_round ?_ | refine awp_scope ?_ | refine awp_text rfl ?_ | refine awp_any rfl mix (by kernel_rfl) ?_ | (refine RunTo.unguard rfl rfl (fun hg => ?_) (fun hg => ?_) <;> ((try simp only [Bool.not_true, Bool.not_false, Bool.not_eq_true', Bool.not_eq_false', Bool.not_eq_eq_eq_not] at hg); (first | (cases hg) | (simp only [hg]) | skip))) | ((first | refine RunTo.plain rfl ?_ | refine RunTo.skipped rfl ?_); simp only [go_sem, ↓reduceIte, Nat.reduceEqDiff, Nat.reduceAdd, Nat.reduceLeDiff, Nat.reduceBEq, Nat.reduceMul, reduceCtorEq, Int.reduceLE, Int.reduceLT, Int.reduceAdd, Int.reduceSub, Int.reduceNeg, Int.reduceToNat, Int.reduceBEq, rdB]) | (refine RunTo.actsE (kn) Tryd.func54 rfl rfl rfl rfl rfl rfl ?_; simp only [go_sem, ↓reduceIte, Nat.reduceEqDiff, Nat.reduceAdd, Nat.reduceLeDiff, Nat.reduceBEq, Nat.reduceMul, reduceCtorEq, Int.reduceLE, Int.reduceLT, Int.reduceAdd, Int.reduceSub, Int.reduceNeg, Int.reduceToNat, Int.reduceBEq, rdB]; (repeat' refine And.intro rfl ?_); with_reducible refine RunTo.this ?_) | ((first | refine RunTo.nilA (by kernel_rfl) ?_ | refine RunTo.nilT ?_ | refine awp_skip ?_ | refine awp_exit ?_ | refine awp_label ?_); simp only [go_sem, ↓reduceIte, Nat.reduceEqDiff, Nat.reduceAdd, Nat.reduceLeDiff, Nat.reduceBEq, Nat.reduceMul, reduceCtorEq, Int.reduceLE, Int.reduceLT, Int.reduceAdd, Int.reduceSub, Int.reduceNeg, Int.reduceToNat, Int.reduceBEq, rdB]) | (refine awp_cond' rfl (of_decide_eq_true rfl) (fun hc => ?_) (fun hc => ?_) <;> ((try simp only [Bool.not_true, Bool.not_false, Bool.not_eq_true', Bool.not_eq_false', Bool.not_eq_eq_eq_not] at hc); (first | (cases hc) | (simp only [hc]) | skip))))
    refine awp_weak (weak_nilbox (b := 3) (j := 4) (s := 19) (sz := 4) rfl rfl rfl) ?_
    simp only [go_sem, ↓reduceIte, Nat.reduceEqDiff, Nat.reduceAdd, Nat.reduceLeDiff, Nat.reduceBEq, Nat.reduceMul, reduceCtorEq, Int.reduceLE, Int.reduceLT, Int.reduceAdd, Int.reduceSub, Int.reduceNeg, Int.reduceToNat, Int.reduceBEq, List.set_cons_succ, List.set_cons_zero]
    refine awp_loopw (ICl s k0 (.ok res m)) 17 (SCk s k0 [] _ _) (weak_keep ⟨rfl, rfl, rfl, trivial⟩ ⟨rfl, rfl, rfl, rfl, trivial⟩ (Nat.le_refl _)) ⟨k0, [], _, _, Nat.le_refl _, hk0, by simp, rfl, by simp only [List.length_nil, Nat.sub_zero, Nat.sub_self]; rw [hr]; simp [RL.add], rfl⟩ ?_
    rintro n st ⟨k, acc, T, e, h0k, hk, ha, rfl, hx, rfl⟩
    have ca := c_atom s k hk hs
    rw [show 17 - acc.length = (16 - acc.length) + 1 by omega] at hx
    unfold listL at hx
    have htk : List.take acc.length (acc.map AtomD.enc) = acc.map AtomD.enc := List.take_of_length_le (by simp)
    by_cases h16 : acc.length = 16
    · rw [if_pos h16] at hx
      simp [RL.add] at hx
    · rw [if_neg h16] at hx
      have q := beq_f (show (acc.length : Int) ≠ 16 by omega)
      have c1 : ((acc.length + 1) * 40 ≤ 140737488355328) = True := eq_true (by omega)
      cases hr2 : atomL (s.data.toList.drop k) with
      | bad e1 =>
        rw [hr2] at hx ca
        simp [RL.add, listN] at hx
      | ok a j =>
        have hj := atomL_len hr2
        rw [List.length_drop, Array.length_toList] at hj
        have hj2 : j ≤ s.size - k := hj
        rw [hr2] at hx ca
        have ca : Acts _ _ _ _ _ _ := ca
        simp only [listN, List.drop_drop] at hx
        by_cases g1 : preL (s.data.toList.drop (k + j)) clB = true
        · rw [if_pos g1] at hx
          simp only [RL.add, RL.ok.injEq] at hx
          obtain ⟨rfl, rfl⟩ := hx
          have k1 := skip_yes (s := s) (k := k + j) (t := clB) (by omega) hs (by decide) (by rw [preS_eq]; exact g1)
          rw [show clB.size = 1 from rfl] at k1
          rw [show k0 + (k - k0 + (j + 1)) = k + j + 1 by omega, List.map_append, List.length_append]
          repeat' (first | refine awp_seq ?_ | refine awp_block ?_ | refine awp_round ?_ | refine awp_scope ?_ | refine awp_text rfl ?_ | refine awp_any rfl mix (by kernel_rfl) ?_ | (refine RunTo.unguard rfl rfl (fun hg => ?_) (fun hg => ?_) <;> ((try simp only [Bool.not_true, Bool.not_false, Bool.not_eq_true', Bool.not_eq_false', Bool.not_eq_eq_eq_not] at hg); (first | (cases hg) | (simp only [hg]) | skip))) | ((first | refine RunTo.plain rfl ?_ | refine RunTo.skipped rfl ?_); simp only [go_sem, ↓reduceIte, Nat.reduceEqDiff, Nat.reduceAdd, Nat.reduceLeDiff, Nat.reduceBEq, Nat.reduceMul, reduceCtorEq, Int.reduceLE, Int.reduceLT, Int.reduceAdd, Int.reduceSub, Int.reduceNeg, Int.reduceToNat, Int.reduceBEq, rdB, q, htk, c1, AtomD.av, List.length_map, lenTy, implies_true]) | (refine RunTo.actsE (ca) Tryd.func56 rfl rfl rfl rfl rfl rfl ?_; simp only [go_sem, ↓reduceIte, Nat.reduceEqDiff, Nat.reduceAdd, Nat.reduceLeDiff, Nat.reduceBEq, Nat.reduceMul, reduceCtorEq, Int.reduceLE, Int.reduceLT, Int.reduceAdd, Int.reduceSub, Int.reduceNeg, Int.reduceToNat, Int.reduceBEq, rdB, q, htk, c1, AtomD.av, List.length_map, lenTy, implies_true]; (repeat' refine And.intro rfl ?_); with_reducible refine RunTo.this ?_) | (refine RunTo.actsE (k1) Tryd.func54 rfl rfl rfl rfl rfl rfl ?_; simp only [go_sem, ↓reduceIte, Nat.reduceEqDiff, Nat.reduceAdd, Nat.reduceLeDiff, Nat.reduceBEq, Nat.reduceMul, reduceCtorEq, Int.reduceLE, Int.reduceLT, Int.reduceAdd, Int.reduceSub, Int.reduceNeg, Int.reduceToNat, Int.reduceBEq, rdB, q, htk, c1, AtomD.av, List.length_map, lenTy, implies_true]; (repeat' refine And.intro rfl ?_); with_reducible refine RunTo.this ?_) | ((first | refine RunTo.nilA (by kernel_rfl) ?_ | refine RunTo.nilT ?_ | refine awp_skip ?_ | refine awp_exit ?_ | refine awp_label ?_); simp only [go_sem, ↓reduceIte, Nat.reduceEqDiff, Nat.reduceAdd, Nat.reduceLeDiff, Nat.reduceBEq, Nat.reduceMul, reduceCtorEq, Int.reduceLE, Int.reduceLT, Int.reduceAdd, Int.reduceSub, Int.reduceNeg, Int.reduceToNat, Int.reduceBEq, rdB, q, htk, c1, AtomD.av, List.length_map, lenTy, implies_true]) | (refine awp_cond' rfl (of_decide_eq_true rfl) (fun hc => ?_) (fun hc => ?_) <;> ((try simp only [Bool.not_true, Bool.not_false, Bool.not_eq_true', Bool.not_eq_false', Bool.not_eq_eq_eq_not] at hc); (first | (cases hc) | (simp only [hc]) | skip))))
          all_goals (first | refine awp_ret ?_ | skip); refine ⟨(by first | exact .inl rfl | exact .inr rfl | exact .inr trivial | trivial), _, rfl, rfl, rfl, ?_, ?_⟩ <;> (try simp only [go_sem, ↓reduceIte, Nat.reduceEqDiff, Nat.reduceAdd, Nat.reduceLeDiff, Nat.reduceBEq, Nat.reduceMul, reduceCtorEq, Int.reduceLE, Int.reduceLT, Int.reduceAdd, Int.reduceSub, Int.reduceNeg, Int.reduceToNat, Int.reduceBEq, rdB])
          all_goals first | rfl | (show AV.agg (renL _ [_, _, _, _, _]) = _; simp only [go_sem, ↓reduceIte, Nat.reduceEqDiff, Nat.reduceAdd, Nat.reduceLeDiff, Nat.reduceBEq, Nat.reduceMul, reduceCtorEq, Int.reduceLE, Int.reduceLT, Int.reduceAdd, Int.reduceSub, Int.reduceNeg, Int.reduceToNat, Int.reduceBEq])
        · rw [if_neg g1] at hx
          have k1 := skip_no (s := s) (k := k + j) (t := clB) (by omega) hs (by decide) (by rw [preS_eq]; simpa using g1)
          by_cases g2 : preL (s.data.toList.drop (k + j)) cmB = true
          · rw [if_pos g2] at hx
            have g3 := preL_len g2
            rw [List.length_drop, Array.length_toList, show cmB.size = 2 from rfl] at g3
            have g4 : 2 ≤ s.size - (k + j) := g3
            have k2 := skip_yes (s := s) (k := k + j) (t := cmB) (by omega) hs (by decide) (by rw [preS_eq]; exact g2)
            rw [show cmB.size = 2 from rfl] at k2
            repeat' (first | refine awp_seq ?_ | refine awp_block ?_ | refine awp_round ?_ | refine awp_scope ?_ | refine awp_text rfl ?_ | refine awp_any rfl mix (by kernel_rfl) ?_ | (refine RunTo.unguard rfl rfl (fun hg => ?_) (fun hg => ?_) <;> ((try simp only [Bool.not_true, Bool.not_false, Bool.not_eq_true', Bool.not_eq_false', Bool.not_eq_eq_eq_not] at hg); (first | (cases hg) | (simp only [hg]) | skip))) | ((first | refine RunTo.plain rfl ?_ | refine RunTo.skipped rfl ?_); simp only [go_sem, ↓reduceIte, Nat.reduceEqDiff, Nat.reduceAdd, Nat.reduceLeDiff, Nat.reduceBEq, Nat.reduceMul, reduceCtorEq, Int.reduceLE, Int.reduceLT, Int.reduceAdd, Int.reduceSub, Int.reduceNeg, Int.reduceToNat, Int.reduceBEq, rdB, q, htk, c1, AtomD.av, List.length_map, lenTy, implies_true]) | (refine RunTo.actsE (ca) Tryd.func56 rfl rfl rfl rfl rfl rfl ?_; simp only [go_sem, ↓reduceIte, Nat.reduceEqDiff, Nat.reduceAdd, Nat.reduceLeDiff, Nat.reduceBEq, Nat.reduceMul, reduceCtorEq, Int.reduceLE, Int.reduceLT, Int.reduceAdd, Int.reduceSub, Int.reduceNeg, Int.reduceToNat, Int.reduceBEq, rdB, q, htk, c1, AtomD.av, List.length_map, lenTy, implies_true]; (repeat' refine And.intro rfl ?_); with_reducible refine RunTo.this ?_) | (refine RunTo.actsE (k1) Tryd.func54 rfl rfl rfl rfl rfl rfl ?_; simp only [go_sem, ↓reduceIte, Nat.reduceEqDiff, Nat.reduceAdd, Nat.reduceLeDiff, Nat.reduceBEq, Nat.reduceMul, reduceCtorEq, Int.reduceLE, Int.reduceLT, Int.reduceAdd, Int.reduceSub, Int.reduceNeg, Int.reduceToNat, Int.reduceBEq, rdB, q, htk, c1, AtomD.av, List.length_map, lenTy, implies_true]; (repeat' refine And.intro rfl ?_); with_reducible refine RunTo.this ?_) | (refine RunTo.actsE (k2) Tryd.func54 rfl rfl rfl rfl rfl rfl ?_; simp only [go_sem, ↓reduceIte, Nat.reduceEqDiff, Nat.reduceAdd, Nat.reduceLeDiff, Nat.reduceBEq, Nat.reduceMul, reduceCtorEq, Int.reduceLE, Int.reduceLT, Int.reduceAdd, Int.reduceSub, Int.reduceNeg, Int.reduceToNat, Int.reduceBEq, rdB, q, htk, c1, AtomD.av, List.length_map, lenTy, implies_true]; (repeat' refine And.intro rfl ?_); with_reducible refine RunTo.this ?_) | ((first | refine RunTo.nilA (by kernel_rfl) ?_ | refine RunTo.nilT ?_ | refine awp_skip ?_ | refine awp_exit ?_ | refine awp_label ?_); simp only [go_sem, ↓reduceIte, Nat.reduceEqDiff, Nat.reduceAdd, Nat.reduceLeDiff, Nat.reduceBEq, Nat.reduceMul, reduceCtorEq, Int.reduceLE, Int.reduceLT, Int.reduceAdd, Int.reduceSub, Int.reduceNeg, Int.reduceToNat, Int.reduceBEq, rdB, q, htk, c1, AtomD.av, List.length_map, lenTy, implies_true]) | (refine awp_cond' rfl (of_decide_eq_true rfl) (fun hc => ?_) (fun hc => ?_) <;> ((try simp only [Bool.not_true, Bool.not_false, Bool.not_eq_true', Bool.not_eq_false', Bool.not_eq_eq_eq_not] at hc); (first | (cases hc) | (simp only [hc]) | skip))))
            have hlen : (acc ++ [a]).length = acc.length + 1 := by simp
            exact ⟨17 - (acc ++ [a]).length, by omega, SCk s (k + j + 2) (acc ++ [a]) _ _, weak_keep ⟨rfl, rfl, rfl, trivial⟩ ⟨rfl, rfl, by rw [hlen]; rfl, by rw [List.map_append]; rfl, trivial⟩ (Nat.le_refl _), k + j + 2, acc ++ [a], _, _, by omega, by omega, by omega, rfl, by rw [hx, RL.add_add, hlen, show 17 - (acc.length + 1) = 16 - acc.length by omega, show k - k0 + (j + 2) = k + j + 2 - k0 by omega], rfl⟩
          · rw [if_neg g2] at hx
            simp [RL.add] at hx
end Go.Proofs.YtjihcldhjpdnmaaDoor.AM
namespace Go.Proofs.YtjihcldhjpdnmaaDoor.AM
open Go.RowKit
set_option linter.unusedSimpArgs false
set_option linter.unusedVariables false
set_option maxRecDepth 10000
set_option maxHeartbeats 0
theorem pure_res {P : Program} {f : FuncId} {args : List AV} {v v' : AV} (hp : Pure P f args v) (h : Ale v v') : Pure P f args v' := fun W X us hX hG hus hargs =>
  (hp W X us hX hG hus hargs).mono fun e W' hh => by
    obtain ⟨u, h1, h2, h3⟩ := hh
    exact ⟨u, h1, h2, h _ _ h3⟩
theorem Ale.tup {l m : List AV} (h : AleL l m) : Ale (.tup l) (.tup m) := fun c u hv => by
  cases hv with
  | tup _ us h1 k1 =>
    refine .tup _ us (by rw [h1, h.1]) (fun i x hi => ?_)
    obtain ⟨y, hy⟩ := get_of_len h.1 hi
    exact h.2 i y x hy hi _ _ (k1 i y hy)
inductive RV where
  | ok (v : ValD) (n : Nat)
  | bad (e : Int)
def listV : RL → RV
  | .ok l m => .ok ⟨⟨6, 0, 0, eE⟩, l⟩ (1 + m)
  | .bad e => .bad e
def atomV : RA → RV
  | .ok a n => .ok ⟨a, []⟩ n
  | .bad e => .bad e
def readL (l : List UInt8) : RV := if preL l openB = true then (if preL (l.drop 1) clB = true then .ok ⟨⟨6, 0, 0, eE⟩, []⟩ 2 else listV (listL 17 [] (l.drop 1))) else atomV (atomL l)
abbrev nulV : ValD := ⟨⟨0, 0, 0, eE⟩, []⟩
def readV : RV → AV
  | .ok v n => .tup [v.av, iv n, iv 0]
  | .bad e => .tup [nulV.av, iv 0, iv e]
abbrev aNil (a : AtomD) : AV := .agg [iv a.k, iv a.n, .lit (.float .f64 a.f), sv a.s, nilA]
theorem aNil_le (a : AtomD) (n e : Int) : Ale (.tup [aNil a, iv n, iv e]) (.tup [ValD.av ⟨a, []⟩, iv n, iv e]) :=
  .tup (.cons (.agg (.cons (.refl _) (.cons (.refl _) (.cons (.refl _) (.cons (.refl _) (.cons (.dat (.nil 4)) .nil)))))) (.cons (.refl _) (.cons (.refl _) .nil)))
theorem c_Read (s : ByteArray) (hs : s.size ≤ 1000000) : Pure Tryd.prog 21 [sv s] (readV (readL s.data.toList)) := by
  have hd0 : s.data.toList.drop 0 = s.data.toList := List.drop_zero
  unfold readL
  by_cases h1 : preL s.data.toList openB = true
  · rw [if_pos h1]
    have k1 := skip_yes (s := s) (k := 0) (t := openB) (Nat.zero_le _) hs (by decide) (by rw [preS_eq, hd0]; exact h1)
    have p1 := preL_len h1
    rw [Array.length_toList, show openB.size = 1 from rfl] at p1
    have p1 : 1 ≤ s.size := p1
    rw [show openB.size = 1 from rfl] at k1
    by_cases h2 : preL (s.data.toList.drop 1) clB = true
    · rw [if_pos h2]
      have k2 := c_list0 s 1 p1 hs h2
      refine pure_res ?_ (aNil_le ⟨6, 0, 0, eE⟩ 2 0)
      refine pure_of_awpd Tryd.func21 rfl rfl (by simp [Tryd.f21]) ?_
      simp only [go_sem, ↓reduceIte, Nat.reduceEqDiff, Nat.reduceAdd, Nat.reduceLeDiff, Nat.reduceBEq, Nat.reduceMul, reduceCtorEq, Int.reduceLE, Int.reduceLT, Int.reduceAdd, Int.reduceSub, Int.reduceNeg, Int.reduceToNat, Int.reduceBEq]
      refine awpd_seqA (fun D => ?_)
      repeat' (first | refine awp_seq ?_ | refine awp_block ?_ | refine awp_round ?_ | refine awp_scope ?_ | refine awp_text rfl ?_ | refine awp_any rfl mix (by kernel_rfl) ?_ | (refine RunTo.unguard rfl rfl (fun hg => ?_) (fun hg => ?_) <;> ((try simp only [Bool.not_true, Bool.not_false, Bool.not_eq_true', Bool.not_eq_false', Bool.not_eq_eq_eq_not] at hg); (first | (cases hg) | (simp only [hg]) | skip))) | ((first | refine RunTo.plain rfl ?_ | refine RunTo.skipped rfl ?_); simp only [go_sem, ↓reduceIte, Nat.reduceEqDiff, Nat.reduceAdd, Nat.reduceLeDiff, Nat.reduceBEq, Nat.reduceMul, reduceCtorEq, Int.reduceLE, Int.reduceLT, Int.reduceAdd, Int.reduceSub, Int.reduceNeg, Int.reduceToNat, Int.reduceBEq]) | ((first | refine RunTo.nilA (by kernel_rfl) ?_ | refine RunTo.nilT ?_ | refine awp_skip ?_ | refine awp_exit ?_ | refine awp_label ?_); simp only [go_sem, ↓reduceIte, Nat.reduceEqDiff, Nat.reduceAdd, Nat.reduceLeDiff, Nat.reduceBEq, Nat.reduceMul, reduceCtorEq, Int.reduceLE, Int.reduceLT, Int.reduceAdd, Int.reduceSub, Int.reduceNeg, Int.reduceToNat, Int.reduceBEq]) | (refine awp_cond' rfl (of_decide_eq_true rfl) (fun hc => ?_) (fun hc => ?_) <;> ((try simp only [Bool.not_true, Bool.not_false, Bool.not_eq_true', Bool.not_eq_false', Bool.not_eq_eq_eq_not] at hc); (first | (cases hc) | (simp only [hc]) | skip))))
      refine awpd_seq (awpd_defer rfl rfl rfl rfl rfl rfl rfl rfl rfl (of_decide_eq_true rfl) rfl ?_)
      show AWPD _ _ _ _ _ _
      simp only [go_sem, ↓reduceIte, Nat.reduceEqDiff, Nat.reduceAdd, Nat.reduceLeDiff, Nat.reduceBEq, Nat.reduceMul, reduceCtorEq, Int.reduceLE, Int.reduceLT, Int.reduceAdd, Int.reduceSub, Int.reduceNeg, Int.reduceToNat, Int.reduceBEq]
      refine awpd_of (fun D => ?_)
      repeat' (first | refine awp_seq ?_ | refine awp_block ?_ | refine awp_round ?_ | refine awp_scope ?_ | refine awp_text rfl ?_ | refine awp_any rfl mix (by kernel_rfl) ?_ | (refine RunTo.unguard rfl rfl (fun hg => ?_) (fun hg => ?_) <;> ((try simp only [Bool.not_true, Bool.not_false, Bool.not_eq_true', Bool.not_eq_false', Bool.not_eq_eq_eq_not] at hg); (first | (cases hg) | (simp only [hg]) | skip))) | ((first | refine RunTo.plain rfl ?_ | refine RunTo.skipped rfl ?_); simp only [go_sem, ↓reduceIte, Nat.reduceEqDiff, Nat.reduceAdd, Nat.reduceLeDiff, Nat.reduceBEq, Nat.reduceMul, reduceCtorEq, Int.reduceLE, Int.reduceLT, Int.reduceAdd, Int.reduceSub, Int.reduceNeg, Int.reduceToNat, Int.reduceBEq, rdB]) | (refine RunTo.actsE (k1) Tryd.func54 rfl rfl rfl rfl rfl rfl ?_; simp only [go_sem, ↓reduceIte, Nat.reduceEqDiff, Nat.reduceAdd, Nat.reduceLeDiff, Nat.reduceBEq, Nat.reduceMul, reduceCtorEq, Int.reduceLE, Int.reduceLT, Int.reduceAdd, Int.reduceSub, Int.reduceNeg, Int.reduceToNat, Int.reduceBEq, rdB]; (repeat' refine And.intro rfl ?_); with_reducible refine RunTo.this ?_) | (refine RunTo.actsE (k2) Tryd.func55 rfl rfl rfl rfl rfl rfl ?_; simp only [go_sem, ↓reduceIte, Nat.reduceEqDiff, Nat.reduceAdd, Nat.reduceLeDiff, Nat.reduceBEq, Nat.reduceMul, reduceCtorEq, Int.reduceLE, Int.reduceLT, Int.reduceAdd, Int.reduceSub, Int.reduceNeg, Int.reduceToNat, Int.reduceBEq, rdB]; (repeat' refine And.intro rfl ?_); with_reducible refine RunTo.this ?_) | ((first | refine RunTo.nilA (by kernel_rfl) ?_ | refine RunTo.nilT ?_ | refine awp_skip ?_ | refine awp_exit ?_ | refine awp_label ?_); simp only [go_sem, ↓reduceIte, Nat.reduceEqDiff, Nat.reduceAdd, Nat.reduceLeDiff, Nat.reduceBEq, Nat.reduceMul, reduceCtorEq, Int.reduceLE, Int.reduceLT, Int.reduceAdd, Int.reduceSub, Int.reduceNeg, Int.reduceToNat, Int.reduceBEq, rdB]) | (refine awp_cond' rfl (of_decide_eq_true rfl) (fun hc => ?_) (fun hc => ?_) <;> ((try simp only [Bool.not_true, Bool.not_false, Bool.not_eq_true', Bool.not_eq_false', Bool.not_eq_eq_eq_not] at hc); (first | (cases hc) | (simp only [hc]) | skip))))
      all_goals
        refine awp_ret ?_
        refine .inr ⟨_, _, .returning, .returning, _, rfl, .inl ⟨.inl rfl, rfl⟩, d_Read0 _ _ _ _ _, rfl, fun T' => ?_⟩
        simp only [go_sem, ↓reduceIte, Nat.reduceEqDiff, Nat.reduceAdd, Nat.reduceLeDiff, Nat.reduceBEq, Nat.reduceMul, reduceCtorEq, Int.reduceLE, Int.reduceLT, Int.reduceAdd, Int.reduceSub, Int.reduceNeg, Int.reduceToNat, Int.reduceBEq, retV, resL, resV, sealV, sealC, sealAll, Tryd.f21]
      all_goals rfl
    · rw [if_neg h2]
      have cl := c_list s 1 p1 hs (by simpa using h2)
      cases hr : listL 17 [] (s.data.toList.drop 1) with
      | ok l m =>
        rw [hr] at cl
        have cl : Acts _ _ _ _ _ _ := cl
        have htk : List.take l.length (l.map AtomD.enc) = l.map AtomD.enc := List.take_of_length_le (by simp)
        refine pure_of_awpd Tryd.func21 rfl rfl (by simp [Tryd.f21]) ?_
        simp only [go_sem, ↓reduceIte, Nat.reduceEqDiff, Nat.reduceAdd, Nat.reduceLeDiff, Nat.reduceBEq, Nat.reduceMul, reduceCtorEq, Int.reduceLE, Int.reduceLT, Int.reduceAdd, Int.reduceSub, Int.reduceNeg, Int.reduceToNat, Int.reduceBEq]
        refine awpd_seqA (fun D => ?_)
        repeat' (first | refine awp_seq ?_ | refine awp_block ?_ | refine awp_round ?_ | refine awp_scope ?_ | refine awp_text rfl ?_ | refine awp_any rfl mix (by kernel_rfl) ?_ | (refine RunTo.unguard rfl rfl (fun hg => ?_) (fun hg => ?_) <;> ((try simp only [Bool.not_true, Bool.not_false, Bool.not_eq_true', Bool.not_eq_false', Bool.not_eq_eq_eq_not] at hg); (first | (cases hg) | (simp only [hg]) | skip))) | ((first | refine RunTo.plain rfl ?_ | refine RunTo.skipped rfl ?_); simp only [go_sem, ↓reduceIte, Nat.reduceEqDiff, Nat.reduceAdd, Nat.reduceLeDiff, Nat.reduceBEq, Nat.reduceMul, reduceCtorEq, Int.reduceLE, Int.reduceLT, Int.reduceAdd, Int.reduceSub, Int.reduceNeg, Int.reduceToNat, Int.reduceBEq]) | ((first | refine RunTo.nilA (by kernel_rfl) ?_ | refine RunTo.nilT ?_ | refine awp_skip ?_ | refine awp_exit ?_ | refine awp_label ?_); simp only [go_sem, ↓reduceIte, Nat.reduceEqDiff, Nat.reduceAdd, Nat.reduceLeDiff, Nat.reduceBEq, Nat.reduceMul, reduceCtorEq, Int.reduceLE, Int.reduceLT, Int.reduceAdd, Int.reduceSub, Int.reduceNeg, Int.reduceToNat, Int.reduceBEq]) | (refine awp_cond' rfl (of_decide_eq_true rfl) (fun hc => ?_) (fun hc => ?_) <;> ((try simp only [Bool.not_true, Bool.not_false, Bool.not_eq_true', Bool.not_eq_false', Bool.not_eq_eq_eq_not] at hc); (first | (cases hc) | (simp only [hc]) | skip))))
        refine awpd_seq (awpd_defer rfl rfl rfl rfl rfl rfl rfl rfl rfl (of_decide_eq_true rfl) rfl ?_)
        show AWPD _ _ _ _ _ _
        simp only [go_sem, ↓reduceIte, Nat.reduceEqDiff, Nat.reduceAdd, Nat.reduceLeDiff, Nat.reduceBEq, Nat.reduceMul, reduceCtorEq, Int.reduceLE, Int.reduceLT, Int.reduceAdd, Int.reduceSub, Int.reduceNeg, Int.reduceToNat, Int.reduceBEq]
        refine awpd_of (fun D => ?_)
        repeat' (first | refine awp_seq ?_ | refine awp_block ?_ | refine awp_round ?_ | refine awp_scope ?_ | refine awp_text rfl ?_ | refine awp_any rfl mix (by kernel_rfl) ?_ | (refine RunTo.unguard rfl rfl (fun hg => ?_) (fun hg => ?_) <;> ((try simp only [Bool.not_true, Bool.not_false, Bool.not_eq_true', Bool.not_eq_false', Bool.not_eq_eq_eq_not] at hg); (first | (cases hg) | (simp only [hg]) | skip))) | ((first | refine RunTo.plain rfl ?_ | refine RunTo.skipped rfl ?_); simp only [go_sem, ↓reduceIte, Nat.reduceEqDiff, Nat.reduceAdd, Nat.reduceLeDiff, Nat.reduceBEq, Nat.reduceMul, reduceCtorEq, Int.reduceLE, Int.reduceLT, Int.reduceAdd, Int.reduceSub, Int.reduceNeg, Int.reduceToNat, Int.reduceBEq, rdB, Option.getD_some]) | (refine RunTo.actsE (k1) Tryd.func54 rfl rfl rfl rfl rfl rfl ?_; simp only [go_sem, ↓reduceIte, Nat.reduceEqDiff, Nat.reduceAdd, Nat.reduceLeDiff, Nat.reduceBEq, Nat.reduceMul, reduceCtorEq, Int.reduceLE, Int.reduceLT, Int.reduceAdd, Int.reduceSub, Int.reduceNeg, Int.reduceToNat, Int.reduceBEq, rdB, Option.getD_some]; (repeat' refine And.intro rfl ?_); with_reducible refine RunTo.this ?_) | (refine RunTo.actsE (cl) Tryd.func55 rfl rfl rfl rfl rfl rfl ?_; simp only [go_sem, ↓reduceIte, Nat.reduceEqDiff, Nat.reduceAdd, Nat.reduceLeDiff, Nat.reduceBEq, Nat.reduceMul, reduceCtorEq, Int.reduceLE, Int.reduceLT, Int.reduceAdd, Int.reduceSub, Int.reduceNeg, Int.reduceToNat, Int.reduceBEq, rdB, Option.getD_some]; (repeat' refine And.intro rfl ?_); with_reducible refine RunTo.this ?_) | ((first | refine RunTo.nilA (by kernel_rfl) ?_ | refine RunTo.nilT ?_ | refine awp_skip ?_ | refine awp_exit ?_ | refine awp_label ?_); simp only [go_sem, ↓reduceIte, Nat.reduceEqDiff, Nat.reduceAdd, Nat.reduceLeDiff, Nat.reduceBEq, Nat.reduceMul, reduceCtorEq, Int.reduceLE, Int.reduceLT, Int.reduceAdd, Int.reduceSub, Int.reduceNeg, Int.reduceToNat, Int.reduceBEq, rdB, Option.getD_some]) | (refine awp_cond' rfl (of_decide_eq_true rfl) (fun hc => ?_) (fun hc => ?_) <;> ((try simp only [Bool.not_true, Bool.not_false, Bool.not_eq_true', Bool.not_eq_false', Bool.not_eq_eq_eq_not] at hc); (first | (cases hc) | (simp only [hc]) | skip))))
        all_goals
          refine awp_ret ?_
          refine .inr ⟨_, _, .returning, .returning, _, rfl, .inl ⟨.inl rfl, rfl⟩, d_Read0 _ _ _ _ _, rfl, fun T' => ?_⟩
          simp only [go_sem, ↓reduceIte, Nat.reduceEqDiff, Nat.reduceAdd, Nat.reduceLeDiff, Nat.reduceBEq, Nat.reduceMul, reduceCtorEq, Int.reduceLE, Int.reduceLT, Int.reduceAdd, Int.reduceSub, Int.reduceNeg, Int.reduceToNat, Int.reduceBEq, retV, resL, resV, sealV, sealC, sealAll, htk, List.length_map, Nat.le_refl, Tryd.f21]
        all_goals rfl
      | bad e =>
        rw [hr] at cl
        have cl : Pans _ _ _ _ _ := cl
        refine pure_res ?_ (aNil_le ⟨0, 0, 0, eE⟩ 0 e)
        refine pure_of_awpd Tryd.func21 rfl rfl (by simp [Tryd.f21]) ?_
        simp only [go_sem, ↓reduceIte, Nat.reduceEqDiff, Nat.reduceAdd, Nat.reduceLeDiff, Nat.reduceBEq, Nat.reduceMul, reduceCtorEq, Int.reduceLE, Int.reduceLT, Int.reduceAdd, Int.reduceSub, Int.reduceNeg, Int.reduceToNat, Int.reduceBEq]
        refine awpd_seqA (fun D => ?_)
        repeat' (first | refine awp_seq ?_ | refine awp_block ?_ | refine awp_round ?_ | refine awp_scope ?_ | refine awp_text rfl ?_ | refine awp_any rfl mix (by kernel_rfl) ?_ | (refine RunTo.unguard rfl rfl (fun hg => ?_) (fun hg => ?_) <;> ((try simp only [Bool.not_true, Bool.not_false, Bool.not_eq_true', Bool.not_eq_false', Bool.not_eq_eq_eq_not] at hg); (first | (cases hg) | (simp only [hg]) | skip))) | ((first | refine RunTo.plain rfl ?_ | refine RunTo.skipped rfl ?_); simp only [go_sem, ↓reduceIte, Nat.reduceEqDiff, Nat.reduceAdd, Nat.reduceLeDiff, Nat.reduceBEq, Nat.reduceMul, reduceCtorEq, Int.reduceLE, Int.reduceLT, Int.reduceAdd, Int.reduceSub, Int.reduceNeg, Int.reduceToNat, Int.reduceBEq]) | ((first | refine RunTo.nilA (by kernel_rfl) ?_ | refine RunTo.nilT ?_ | refine awp_skip ?_ | refine awp_exit ?_ | refine awp_label ?_); simp only [go_sem, ↓reduceIte, Nat.reduceEqDiff, Nat.reduceAdd, Nat.reduceLeDiff, Nat.reduceBEq, Nat.reduceMul, reduceCtorEq, Int.reduceLE, Int.reduceLT, Int.reduceAdd, Int.reduceSub, Int.reduceNeg, Int.reduceToNat, Int.reduceBEq]) | (refine awp_cond' rfl (of_decide_eq_true rfl) (fun hc => ?_) (fun hc => ?_) <;> ((try simp only [Bool.not_true, Bool.not_false, Bool.not_eq_true', Bool.not_eq_false', Bool.not_eq_eq_eq_not] at hc); (first | (cases hc) | (simp only [hc]) | skip))))
        refine awpd_seq (awpd_defer rfl rfl rfl rfl rfl rfl rfl rfl rfl (of_decide_eq_true rfl) rfl ?_)
        show AWPD _ _ _ _ _ _
        simp only [go_sem, ↓reduceIte, Nat.reduceEqDiff, Nat.reduceAdd, Nat.reduceLeDiff, Nat.reduceBEq, Nat.reduceMul, reduceCtorEq, Int.reduceLE, Int.reduceLT, Int.reduceAdd, Int.reduceSub, Int.reduceNeg, Int.reduceToNat, Int.reduceBEq]
        refine awpd_of (fun D => ?_)
        repeat' (first | refine awp_seq ?_ | refine awp_block ?_ | refine awp_round ?_ | refine awp_scope ?_ | refine awp_text rfl ?_ | refine awp_any rfl mix (by kernel_rfl) ?_ | (refine RunTo.unguard rfl rfl (fun hg => ?_) (fun hg => ?_) <;> ((try simp only [Bool.not_true, Bool.not_false, Bool.not_eq_true', Bool.not_eq_false', Bool.not_eq_eq_eq_not] at hg); (first | (cases hg) | (simp only [hg]) | skip))) | ((first | refine RunTo.plain rfl ?_ | refine RunTo.skipped rfl ?_); simp only [go_sem, ↓reduceIte, Nat.reduceEqDiff, Nat.reduceAdd, Nat.reduceLeDiff, Nat.reduceBEq, Nat.reduceMul, reduceCtorEq, Int.reduceLE, Int.reduceLT, Int.reduceAdd, Int.reduceSub, Int.reduceNeg, Int.reduceToNat, Int.reduceBEq, rdB]) | (refine RunTo.actsE (k1) Tryd.func54 rfl rfl rfl rfl rfl rfl ?_; simp only [go_sem, ↓reduceIte, Nat.reduceEqDiff, Nat.reduceAdd, Nat.reduceLeDiff, Nat.reduceBEq, Nat.reduceMul, reduceCtorEq, Int.reduceLE, Int.reduceLT, Int.reduceAdd, Int.reduceSub, Int.reduceNeg, Int.reduceToNat, Int.reduceBEq, rdB]; (repeat' refine And.intro rfl ?_); with_reducible refine RunTo.this ?_) | (refine RunTo.pansE (cl) Tryd.func55 rfl rfl rfl rfl rfl rfl ?_; simp only [go_sem, ↓reduceIte, Nat.reduceEqDiff, Nat.reduceAdd, Nat.reduceLeDiff, Nat.reduceBEq, Nat.reduceMul, reduceCtorEq, Int.reduceLE, Int.reduceLT, Int.reduceAdd, Int.reduceSub, Int.reduceNeg, Int.reduceToNat, Int.reduceBEq, rdB]; (repeat' refine And.intro rfl ?_); (all_goals try (with_reducible refine ⟨by kernel_rfl, by kernel_rfl, ?_⟩)); (all_goals try (simp only [go_sem, ↓reduceIte, Nat.reduceEqDiff, Nat.reduceAdd, Nat.reduceLeDiff, Nat.reduceBEq, Nat.reduceMul, reduceCtorEq, Int.reduceLE, Int.reduceLT, Int.reduceAdd, Int.reduceSub, Int.reduceNeg, Int.reduceToNat, Int.reduceBEq, rdB]))) | ((first | refine RunTo.nilA (by kernel_rfl) ?_ | refine RunTo.nilT ?_ | refine awp_skip ?_ | refine awp_exit ?_ | refine awp_label ?_); simp only [go_sem, ↓reduceIte, Nat.reduceEqDiff, Nat.reduceAdd, Nat.reduceLeDiff, Nat.reduceBEq, Nat.reduceMul, reduceCtorEq, Int.reduceLE, Int.reduceLT, Int.reduceAdd, Int.reduceSub, Int.reduceNeg, Int.reduceToNat, Int.reduceBEq, rdB]) | (refine awp_cond' rfl (of_decide_eq_true rfl) (fun hc => ?_) (fun hc => ?_) <;> ((try simp only [Bool.not_true, Bool.not_false, Bool.not_eq_true', Bool.not_eq_false', Bool.not_eq_eq_eq_not] at hc); (first | (cases hc) | (simp only [hc]) | skip))))
        all_goals exact .inr ⟨_, _, .panicking _, _, _, rfl, .inr ⟨_, rfl, rfl⟩, d_Read1 e _ _ _ _ _ _ _ _ _ _ _, rfl, fun T' => rfl⟩
  · rw [if_neg h1]
    have k1 := skip_no (s := s) (k := 0) (t := openB) (Nat.zero_le _) hs (by decide) (by rw [preS_eq, hd0]; simpa using h1)
    have ca := c_atom s 0 (Nat.zero_le _) hs
    rw [hd0] at ca
    cases hr : atomL s.data.toList with
    | ok a m =>
      rw [hr] at ca
      have ca : Acts _ _ _ _ _ _ := ca
      rw [Nat.zero_add] at ca
      refine pure_res ?_ (aNil_le a m 0)
      refine pure_of_awpd Tryd.func21 rfl rfl (by simp [Tryd.f21]) ?_
      simp only [go_sem, ↓reduceIte, Nat.reduceEqDiff, Nat.reduceAdd, Nat.reduceLeDiff, Nat.reduceBEq, Nat.reduceMul, reduceCtorEq, Int.reduceLE, Int.reduceLT, Int.reduceAdd, Int.reduceSub, Int.reduceNeg, Int.reduceToNat, Int.reduceBEq]
      refine awpd_seqA (fun D => ?_)
      repeat' (first | refine awp_seq ?_ | refine awp_block ?_ | refine awp_round ?_ | refine awp_scope ?_ | refine awp_text rfl ?_ | refine awp_any rfl mix (by kernel_rfl) ?_ | (refine RunTo.unguard rfl rfl (fun hg => ?_) (fun hg => ?_) <;> ((try simp only [Bool.not_true, Bool.not_false, Bool.not_eq_true', Bool.not_eq_false', Bool.not_eq_eq_eq_not] at hg); (first | (cases hg) | (simp only [hg]) | skip))) | ((first | refine RunTo.plain rfl ?_ | refine RunTo.skipped rfl ?_); simp only [go_sem, ↓reduceIte, Nat.reduceEqDiff, Nat.reduceAdd, Nat.reduceLeDiff, Nat.reduceBEq, Nat.reduceMul, reduceCtorEq, Int.reduceLE, Int.reduceLT, Int.reduceAdd, Int.reduceSub, Int.reduceNeg, Int.reduceToNat, Int.reduceBEq]) | ((first | refine RunTo.nilA (by kernel_rfl) ?_ | refine RunTo.nilT ?_ | refine awp_skip ?_ | refine awp_exit ?_ | refine awp_label ?_); simp only [go_sem, ↓reduceIte, Nat.reduceEqDiff, Nat.reduceAdd, Nat.reduceLeDiff, Nat.reduceBEq, Nat.reduceMul, reduceCtorEq, Int.reduceLE, Int.reduceLT, Int.reduceAdd, Int.reduceSub, Int.reduceNeg, Int.reduceToNat, Int.reduceBEq]) | (refine awp_cond' rfl (of_decide_eq_true rfl) (fun hc => ?_) (fun hc => ?_) <;> ((try simp only [Bool.not_true, Bool.not_false, Bool.not_eq_true', Bool.not_eq_false', Bool.not_eq_eq_eq_not] at hc); (first | (cases hc) | (simp only [hc]) | skip))))
      refine awpd_seq (awpd_defer rfl rfl rfl rfl rfl rfl rfl rfl rfl (of_decide_eq_true rfl) rfl ?_)
      show AWPD _ _ _ _ _ _
      simp only [go_sem, ↓reduceIte, Nat.reduceEqDiff, Nat.reduceAdd, Nat.reduceLeDiff, Nat.reduceBEq, Nat.reduceMul, reduceCtorEq, Int.reduceLE, Int.reduceLT, Int.reduceAdd, Int.reduceSub, Int.reduceNeg, Int.reduceToNat, Int.reduceBEq]
      refine awpd_of (fun D => ?_)
      repeat' (first | refine awp_seq ?_ | refine awp_block ?_ | refine awp_round ?_ | refine awp_scope ?_ | refine awp_text rfl ?_ | refine awp_any rfl mix (by kernel_rfl) ?_ | (refine RunTo.unguard rfl rfl (fun hg => ?_) (fun hg => ?_) <;> ((try simp only [Bool.not_true, Bool.not_false, Bool.not_eq_true', Bool.not_eq_false', Bool.not_eq_eq_eq_not] at hg); (first | (cases hg) | (simp only [hg]) | skip))) | ((first | refine RunTo.plain rfl ?_ | refine RunTo.skipped rfl ?_); simp only [go_sem, ↓reduceIte, Nat.reduceEqDiff, Nat.reduceAdd, Nat.reduceLeDiff, Nat.reduceBEq, Nat.reduceMul, reduceCtorEq, Int.reduceLE, Int.reduceLT, Int.reduceAdd, Int.reduceSub, Int.reduceNeg, Int.reduceToNat, Int.reduceBEq, rdB, AtomD.av]) | (refine RunTo.actsE (k1) Tryd.func54 rfl rfl rfl rfl rfl rfl ?_; simp only [go_sem, ↓reduceIte, Nat.reduceEqDiff, Nat.reduceAdd, Nat.reduceLeDiff, Nat.reduceBEq, Nat.reduceMul, reduceCtorEq, Int.reduceLE, Int.reduceLT, Int.reduceAdd, Int.reduceSub, Int.reduceNeg, Int.reduceToNat, Int.reduceBEq, rdB, AtomD.av]; (repeat' refine And.intro rfl ?_); with_reducible refine RunTo.this ?_) | (refine RunTo.actsE (ca) Tryd.func56 rfl rfl rfl rfl rfl rfl ?_; simp only [go_sem, ↓reduceIte, Nat.reduceEqDiff, Nat.reduceAdd, Nat.reduceLeDiff, Nat.reduceBEq, Nat.reduceMul, reduceCtorEq, Int.reduceLE, Int.reduceLT, Int.reduceAdd, Int.reduceSub, Int.reduceNeg, Int.reduceToNat, Int.reduceBEq, rdB, AtomD.av]; (repeat' refine And.intro rfl ?_); with_reducible refine RunTo.this ?_) | ((first | refine RunTo.nilA (by kernel_rfl) ?_ | refine RunTo.nilT ?_ | refine awp_skip ?_ | refine awp_exit ?_ | refine awp_label ?_); simp only [go_sem, ↓reduceIte, Nat.reduceEqDiff, Nat.reduceAdd, Nat.reduceLeDiff, Nat.reduceBEq, Nat.reduceMul, reduceCtorEq, Int.reduceLE, Int.reduceLT, Int.reduceAdd, Int.reduceSub, Int.reduceNeg, Int.reduceToNat, Int.reduceBEq, rdB, AtomD.av]) | (refine awp_cond' rfl (of_decide_eq_true rfl) (fun hc => ?_) (fun hc => ?_) <;> ((try simp only [Bool.not_true, Bool.not_false, Bool.not_eq_true', Bool.not_eq_false', Bool.not_eq_eq_eq_not] at hc); (first | (cases hc) | (simp only [hc]) | skip))))
      all_goals
        refine awp_ret ?_
        refine .inr ⟨_, _, .returning, .returning, _, rfl, .inl ⟨.inl rfl, rfl⟩, d_Read0 _ _ _ _ _, rfl, fun T' => ?_⟩
        simp only [go_sem, ↓reduceIte, Nat.reduceEqDiff, Nat.reduceAdd, Nat.reduceLeDiff, Nat.reduceBEq, Nat.reduceMul, reduceCtorEq, Int.reduceLE, Int.reduceLT, Int.reduceAdd, Int.reduceSub, Int.reduceNeg, Int.reduceToNat, Int.reduceBEq, retV, resL, resV, sealV, sealC, sealAll, Tryd.f21]
      all_goals rfl
    | bad e =>
      rw [hr] at ca
      have ca : Pans _ _ _ _ _ := ca
      refine pure_res ?_ (aNil_le ⟨0, 0, 0, eE⟩ 0 e)
      refine pure_of_awpd Tryd.func21 rfl rfl (by simp [Tryd.f21]) ?_
      simp only [go_sem, ↓reduceIte, Nat.reduceEqDiff, Nat.reduceAdd, Nat.reduceLeDiff, Nat.reduceBEq, Nat.reduceMul, reduceCtorEq, Int.reduceLE, Int.reduceLT, Int.reduceAdd, Int.reduceSub, Int.reduceNeg, Int.reduceToNat, Int.reduceBEq]
      refine awpd_seqA (fun D => ?_)
      repeat' (first | refine awp_seq ?_ | refine awp_block ?_ | refine awp_round ?_ | refine awp_scope ?_ | refine awp_text rfl ?_ | refine awp_any rfl mix (by kernel_rfl) ?_ | (refine RunTo.unguard rfl rfl (fun hg => ?_) (fun hg => ?_) <;> ((try simp only [Bool.not_true, Bool.not_false, Bool.not_eq_true', Bool.not_eq_false', Bool.not_eq_eq_eq_not] at hg); (first | (cases hg) | (simp only [hg]) | skip))) | ((first | refine RunTo.plain rfl ?_ | refine RunTo.skipped rfl ?_); simp only [go_sem, ↓reduceIte, Nat.reduceEqDiff, Nat.reduceAdd, Nat.reduceLeDiff, Nat.reduceBEq, Nat.reduceMul, reduceCtorEq, Int.reduceLE, Int.reduceLT, Int.reduceAdd, Int.reduceSub, Int.reduceNeg, Int.reduceToNat, Int.reduceBEq]) | ((first | refine RunTo.nilA (by kernel_rfl) ?_ | refine RunTo.nilT ?_ | refine awp_skip ?_ | refine awp_exit ?_ | refine awp_label ?_); simp only [go_sem, ↓reduceIte, Nat.reduceEqDiff, Nat.reduceAdd, Nat.reduceLeDiff, Nat.reduceBEq, Nat.reduceMul, reduceCtorEq, Int.reduceLE, Int.reduceLT, Int.reduceAdd, Int.reduceSub, Int.reduceNeg, Int.reduceToNat, Int.reduceBEq]) | (refine awp_cond' rfl (of_decide_eq_true rfl) (fun hc => ?_) (fun hc => ?_) <;> ((try simp only [Bool.not_true, Bool.not_false, Bool.not_eq_true', Bool.not_eq_false', Bool.not_eq_eq_eq_not] at hc); (first | (cases hc) | (simp only [hc]) | skip))))
      refine awpd_seq (awpd_defer rfl rfl rfl rfl rfl rfl rfl rfl rfl (of_decide_eq_true rfl) rfl ?_)
      show AWPD _ _ _ _ _ _
      simp only [go_sem, ↓reduceIte, Nat.reduceEqDiff, Nat.reduceAdd, Nat.reduceLeDiff, Nat.reduceBEq, Nat.reduceMul, reduceCtorEq, Int.reduceLE, Int.reduceLT, Int.reduceAdd, Int.reduceSub, Int.reduceNeg, Int.reduceToNat, Int.reduceBEq]
      refine awpd_of (fun D => ?_)
      repeat' (first | refine awp_seq ?_ | refine awp_block ?_ | refine awp_round ?_ | refine awp_scope ?_ | refine awp_text rfl ?_ | refine awp_any rfl mix (by kernel_rfl) ?_ | (refine RunTo.unguard rfl rfl (fun hg => ?_) (fun hg => ?_) <;> ((try simp only [Bool.not_true, Bool.not_false, Bool.not_eq_true', Bool.not_eq_false', Bool.not_eq_eq_eq_not] at hg); (first | (cases hg) | (simp only [hg]) | skip))) | ((first | refine RunTo.plain rfl ?_ | refine RunTo.skipped rfl ?_); simp only [go_sem, ↓reduceIte, Nat.reduceEqDiff, Nat.reduceAdd, Nat.reduceLeDiff, Nat.reduceBEq, Nat.reduceMul, reduceCtorEq, Int.reduceLE, Int.reduceLT, Int.reduceAdd, Int.reduceSub, Int.reduceNeg, Int.reduceToNat, Int.reduceBEq, rdB]) | (refine RunTo.actsE (k1) Tryd.func54 rfl rfl rfl rfl rfl rfl ?_; simp only [go_sem, ↓reduceIte, Nat.reduceEqDiff, Nat.reduceAdd, Nat.reduceLeDiff, Nat.reduceBEq, Nat.reduceMul, reduceCtorEq, Int.reduceLE, Int.reduceLT, Int.reduceAdd, Int.reduceSub, Int.reduceNeg, Int.reduceToNat, Int.reduceBEq, rdB]; (repeat' refine And.intro rfl ?_); with_reducible refine RunTo.this ?_) | (refine RunTo.pansE (ca) Tryd.func56 rfl rfl rfl rfl rfl rfl ?_; simp only [go_sem, ↓reduceIte, Nat.reduceEqDiff, Nat.reduceAdd, Nat.reduceLeDiff, Nat.reduceBEq, Nat.reduceMul, reduceCtorEq, Int.reduceLE, Int.reduceLT, Int.reduceAdd, Int.reduceSub, Int.reduceNeg, Int.reduceToNat, Int.reduceBEq, rdB]; (repeat' refine And.intro rfl ?_); (all_goals try (with_reducible refine ⟨by kernel_rfl, by kernel_rfl, ?_⟩)); (all_goals try (simp only [go_sem, ↓reduceIte, Nat.reduceEqDiff, Nat.reduceAdd, Nat.reduceLeDiff, Nat.reduceBEq, Nat.reduceMul, reduceCtorEq, Int.reduceLE, Int.reduceLT, Int.reduceAdd, Int.reduceSub, Int.reduceNeg, Int.reduceToNat, Int.reduceBEq, rdB]))) | ((first | refine RunTo.nilA (by kernel_rfl) ?_ | refine RunTo.nilT ?_ | refine awp_skip ?_ | refine awp_exit ?_ | refine awp_label ?_); simp only [go_sem, ↓reduceIte, Nat.reduceEqDiff, Nat.reduceAdd, Nat.reduceLeDiff, Nat.reduceBEq, Nat.reduceMul, reduceCtorEq, Int.reduceLE, Int.reduceLT, Int.reduceAdd, Int.reduceSub, Int.reduceNeg, Int.reduceToNat, Int.reduceBEq, rdB]) | (refine awp_cond' rfl (of_decide_eq_true rfl) (fun hc => ?_) (fun hc => ?_) <;> ((try simp only [Bool.not_true, Bool.not_false, Bool.not_eq_true', Bool.not_eq_false', Bool.not_eq_eq_eq_not] at hc); (first | (cases hc) | (simp only [hc]) | skip))))
      all_goals exact .inr ⟨_, _, .panicking _, _, _, rfl, .inr ⟨_, rfl, rfl⟩, d_Read1 e _ _ _ _ _ _ _ _ _ _ _, rfl, fun T' => rfl⟩
end Go.Proofs.YtjihcldhjpdnmaaDoor.AM
namespace Go.Proofs.YtjihcldhjpdnmaaDoor.AM
open Go.RowKit
set_option linter.unusedSimpArgs false
set_option linter.unusedVariables false
set_option maxRecDepth 10000
set_option maxHeartbeats 0
abbrev sepB : ByteArray := ⟨#[44, 32]⟩
def printV (v : ValD) : ByteArray := if validV v = true then (if v.a.k = 6 then (⟨#[91]⟩ : ByteArray) ++ joinB (v.l.map printA) sepB ++ ⟨#[93]⟩ else printA v.a) else eE
def okA (a : AtomD) : Prop := i64B a.n ∧ a.s.size ≤ 1000000
def okV (v : ValD) : Prop := okA v.a ∧ ∀ a ∈ v.l, okA a
theorem join_len (sep : List UInt8) : ∀ xs : List (List UInt8), (Lib.join xs sep).length ≤ (xs.map List.length).sum + xs.length * sep.length
  | [] => by simp [Lib.join_nil]
  | [x] => by rw [Lib.join_one]; simp
  | x :: y :: r => by
    have ih := join_len sep (y :: r)
    have e : Lib.join (x :: y :: r) sep = x ++ (sep ++ Lib.join (y :: r) sep) := by
      rw [Lib.join_cons, Lib.join_cons]
      simp [Lib.joinTail]
    rw [e]
    simp only [List.length_append, List.map_cons, List.sum_cons, List.length_cons] at *
    have : (r.length + 1 + 1) * sep.length = (r.length + 1) * sep.length + sep.length := by rw [Nat.add_mul, Nat.one_mul]
    omega
theorem joinB_size (xs : List ByteArray) (sep : ByteArray) : (joinB xs sep).size ≤ (xs.map (·.size)).sum + xs.length * sep.size := by
  have h := join_len sep.data.toList (xs.map (·.data.toList))
  rw [List.map_map, List.length_map] at h
  have e : (xs.map (List.length ∘ fun x : ByteArray => x.data.toList)) = xs.map (·.size) := List.map_congr_left (fun x _ => Array.length_toList)
  rw [e] at h
  have e2 : (joinB xs sep).size = (Lib.join (xs.map (·.data.toList)) sep.data.toList).length := List.size_toArray
  have e3 : sep.data.toList.length = sep.size := Array.length_toList
  rw [e2, ← e3]; exact h
theorem sum_le {α : Type} (f : α → Nat) (b : Nat) : ∀ l : List α, (∀ x ∈ l, f x ≤ b) → (l.map f).sum ≤ l.length * b
  | [], _ => by simp
  | x :: l, h => by
    have ih := sum_le f b l (fun y hy => h y (List.mem_cons_of_mem _ hy))
    have := h x List.mem_cons_self
    rw [List.map_cons, List.sum_cons, List.length_cons, Nat.add_mul, Nat.one_mul]; omega
theorem joinB_le (xs : List ByteArray) (sep : ByteArray) (b : Nat) (h : ∀ x ∈ xs, x.size ≤ b) : (joinB xs sep).size ≤ xs.length * b + xs.length * sep.size :=
  Nat.le_trans (joinB_size xs sep) (Nat.add_le_add_right (sum_le _ b xs h) _)
theorem printA_big (a : AtomD) (h : okA a) : (printA a).size ≤ 10000000 := by
  obtain ⟨hn, hs⟩ := h
  have hq := quoteS_size a.s
  have hi := Lib.itoa_length_le a.n hn.1 hn.2
  unfold printA
  split
  · cases (a.n == 1) <;> decide
  · split
    · simp only [ByteArray.size, List.size_toArray]; omega
    · split
      · rw [ByteArray.size_append, hexS_size]; show 2 + 16 ≤ _; omega
      · split
        · omega
        · split
          · rw [ByteArray.size_append]; show 1 + _ ≤ _; omega
          · show 4 ≤ _; omega
end Go.Proofs.YtjihcldhjpdnmaaDoor.AM
namespace Go.Proofs.YtjihcldhjpdnmaaDoor.AM
open Go.RowKit
set_option linter.unusedSimpArgs false
set_option linter.unusedVariables false
set_option maxRecDepth 10000
set_option maxHeartbeats 0
theorem hexB_hexI (c : UInt8) (h : 0 ≤ hexI c) : hexB (hexI c).toNat = c := by
  have k : ∀ n : Nat, n < 256 → (decide (0 ≤ Lib.indexByte hexDigs.data.toList n.toUInt8) = false ∨ hexB (Lib.indexByte hexDigs.data.toList n.toUInt8).toNat = n.toUInt8) := by decide +kernel
  have := k c.toNat c.toNat_lt
  have e : c.toNat.toUInt8 = c := by simp
  rw [e] at this
  rcases this with h2 | h2
  · have := of_decide_eq_false h2; exact absurd h this
  · exact h2
theorem u8_of {c : UInt8} {n : Nat} (hn : n < 256) (h : c.toNat = n) : c = UInt8.ofNat n := by
  apply UInt8.toNat_inj.1
  rw [h]; simp; omega
theorem byteL_esc {l : List UInt8} {c : UInt8} {n : Nat} (h : byteL l = some (some c, n)) : l.take n = escB c := by
  cases l with
  | nil => simp [byteL] at h
  | cons b l =>
    have hb := b.toNat_lt
    by_cases e1 : b.toNat = 34
    · rw [byte_q _ _ e1] at h; simp at h
    · by_cases e2 : b.toNat < 32 ∨ 126 < b.toNat
      · rw [byte_r _ _ e1 e2] at h; cases h
      · by_cases e3 : b.toNat = 92
        · have hb92 : b = 92 := u8_of (by decide) e3
          cases l with
          | nil => rw [byte_e0 _ e3] at h; cases h
          | cons d l =>
            by_cases e4 : d.toNat = 34 ∨ d.toNat = 92
            · rw [byte_e1 _ _ _ e3 e4] at h
              simp only [Option.some.injEq, Prod.mk.injEq] at h
              obtain ⟨rfl, rfl⟩ := h
              unfold escB
              rw [if_pos (by omega), hb92]; rfl
            · by_cases e5 : d.toNat = 120
              · have hd120 : d = 120 := u8_of (by decide) e5
                match l, h with
                | [], h => rw [byte_e3 _ _ _ e3 e5 (by simp)] at h; cases h
                | [a], h => rw [byte_e3 _ _ _ e3 e5 (by simp)] at h; cases h
                | a :: a' :: l, h =>
                  by_cases e6 : hexI a < 0 ∨ hexI a' < 0 ∨ (32 ≤ 16 * hexI a + hexI a' ∧ 16 * hexI a + hexI a' ≤ 126)
                  · rw [byte_e4 _ _ _ _ _ e3 e5 e6] at h; cases h
                  · rw [byte_e5 _ _ _ _ _ e3 e5 e6] at h
                    simp only [Option.some.injEq, Prod.mk.injEq] at h
                    obtain ⟨hc, rfl⟩ := h
                    have b1 := hexI_bd a
                    have b2 := hexI_bd a'
                    have hcn : c.toNat = (16 * hexI a + hexI a').toNat := by
                      rw [← hc]
                      simp only [Nat.toUInt8, UInt8.toNat_ofNat']
                      omega
                    unfold escB
                    rw [if_neg (by omega), if_pos (by omega), hb92, hd120]
                    have q1 : c.toNat / 16 = (hexI a).toNat := by omega
                    have q2 : c.toNat % 16 = (hexI a').toNat := by omega
                    rw [q1, q2, hexB_hexI a (by omega), hexB_hexI a' (by omega)]
                    rfl
              · rw [byte_e2 _ _ _ e3 e4 e5] at h; cases h
        · rw [byte_p _ _ e1 e2 e3] at h
          simp only [Option.some.injEq, Prod.mk.injEq] at h
          obtain ⟨rfl, rfl⟩ := h
          unfold escB
          rw [if_neg (by omega), if_neg (by omega)]
          rfl
theorem byteL_end {l : List UInt8} {n : Nat} (h : byteL l = some (none, n)) : l.take n = [34] ∧ n = 1 := by
  cases l with
  | nil => simp [byteL] at h
  | cons b l =>
    by_cases e1 : b.toNat = 34
    · rw [byte_q _ _ e1] at h
      simp only [Option.some.injEq, Prod.mk.injEq, true_and] at h
      subst h
      have : b = 34 := u8_of (by decide) e1
      rw [this]
      exact ⟨rfl, rfl⟩
    · exfalso
      by_cases e2 : b.toNat < 32 ∨ 126 < b.toNat
      · rw [byte_r _ _ e1 e2] at h; cases h
      · by_cases e3 : b.toNat = 92
        · cases l with
          | nil => rw [byte_e0 _ e3] at h; cases h
          | cons d l =>
            by_cases e4 : d.toNat = 34 ∨ d.toNat = 92
            · rw [byte_e1 _ _ _ e3 e4] at h; simp at h
            · by_cases e5 : d.toNat = 120
              · match l, h with
                | [], h => rw [byte_e3 _ _ _ e3 e5 (by simp)] at h; cases h
                | [a], h => rw [byte_e3 _ _ _ e3 e5 (by simp)] at h; cases h
                | a :: a' :: l, h =>
                  by_cases e6 : hexI a < 0 ∨ hexI a' < 0 ∨ (32 ≤ 16 * hexI a + hexI a' ∧ 16 * hexI a + hexI a' ≤ 126)
                  · rw [byte_e4 _ _ _ _ _ e3 e5 e6] at h; cases h
                  · rw [byte_e5 _ _ _ _ _ e3 e5 e6] at h; simp at h
              · rw [byte_e2 _ _ _ e3 e4 e5] at h; cases h
        · rw [byte_p _ _ e1 e2 e3] at h; simp at h
theorem take_split {α : Type} (l : List α) (a b : Nat) : l.take (a + b) = l.take a ++ (l.drop a).take b := by rw [List.take_add]
theorem textL_quote : ∀ (f : Nat) (acc l t : List UInt8) (n : Nat), acc.length ≤ 256 → textL f acc l = .ok t n → ∃ t', t = acc ++ t' ∧ l.take n = t'.flatMap escB ++ [34] ∧ t.length ≤ 256 ∧ 1 ≤ n
  | 0, _, _, _, _, _, h => by cases h
  | f + 1, acc, l, t, n, ha, h => by
    unfold textL at h
    cases hb : byteL l with
    | none => rw [hb] at h; cases h
    | some p =>
      obtain ⟨o, j⟩ := p
      have hj := byteL_len hb
      rw [hb] at h
      cases o with
      | none =>
        simp only [RT.ok.injEq] at h
        obtain ⟨rfl, rfl⟩ := h
        exact ⟨[], by simp, by simpa using (byteL_end hb).1, ha, hj.1⟩
      | some c =>
        simp only at h
        split at h
        · cases h
        · rename_i h256
          cases hr : textL f (acc ++ [c]) (l.drop j) with
          | bad e => rw [hr] at h; cases h
          | ok t2 m =>
            rw [hr] at h
            simp only [RT.add, RT.ok.injEq] at h
            obtain ⟨rfl, rfl⟩ := h
            obtain ⟨t', q1, q2, q3, q4⟩ := textL_quote f _ _ _ m (by simp; omega) hr
            refine ⟨c :: t', by rw [q1]; simp, ?_, q3, by omega⟩
            rw [take_split, byteL_esc hb, q2, List.flatMap_cons, List.append_assoc]
theorem text_print {l t : List UInt8} {n : Nat} (h : textL 257 [] l = .ok t n) : (34 : UInt8) :: l.take n = quoteL t ∧ t.length ≤ 256 := by
  obtain ⟨t', q1, q2, q3, q4⟩ := textL_quote 257 [] l t n (by simp) h
  rw [List.nil_append] at q1
  subst q1
  refine ⟨?_, q3⟩
  rw [q2]; rfl
abbrev rowC (c : UInt8) : List Dat := [.lit (.int .u8 (hexD (hexI c).toNat))]
theorem hexRows_of : ∀ (l : List UInt8) (u0 u k : Nat) (acc : List (List Dat)), hexU u0 l = some u → hexRows (k + l.length) u acc = hexRows k u0 (l.map rowC ++ acc) ∧ ∀ c ∈ l, 0 ≤ hexI c
  | [], u0, u, k, acc, h => by
    obtain rfl := Option.some.inj h
    exact ⟨rfl, fun c hc => by cases hc⟩
  | c :: l, u0, u, k, acc, h => by
    simp only [hexU] at h
    split at h
    · cases h
    · rename_i hc
      have hb := hexI_bd c
      obtain ⟨ih, ih2⟩ := hexRows_of l (16 * u0 + (hexI c).toNat) u (k + 1) acc h
      refine ⟨?_, fun x hx => ?_⟩
      · rw [List.length_cons, show k + (l.length + 1) = k + 1 + l.length by omega, ih]
        show hexRows k ((16 * u0 + (hexI c).toNat) / 16) _ = _
        rw [show (16 * u0 + (hexI c).toNat) / 16 = u0 by omega, show (16 * u0 + (hexI c).toNat) % 16 = (hexI c).toNat by omega]
        rfl
      · rcases List.mem_cons.1 hx with rfl | hx
        · omega
        · exact ih2 x hx
theorem hexS_of {l : List UInt8} {u : Nat} (h : parseF l = some u) : (hexS u).data.toList = l ∧ canF u = u ∧ l.length = 16 := by
  unfold parseF at h
  split at h
  · rename_i h16
    cases hx : hexU 0 l with
    | none => rw [hx] at h; cases h
    | some w =>
      rw [hx] at h
      simp only at h
      split at h
      · rename_i hc
        obtain rfl := Option.some.inj h
        refine ⟨?_, hc, h16⟩
        obtain ⟨k1, k2⟩ := hexRows_of l 0 w 0 [] hx
        unfold hexS
        rw [hc]
        rw [Nat.zero_add, h16] at k1
        rw [k1]
        show (strR (l.map rowC ++ [])).data.toList = l
        rw [List.append_nil]
        unfold strR
        rw [List.map_map]
        show (List.map (fun c => hexB (hexI c).toNat) l) = l
        conv => rhs; rw [← List.map_id l]
        exact List.map_congr_left (fun c hc => hexB_hexI c (k2 c hc))
      · cases h
  · cases h
theorem takeW_take (l : List UInt8) : l.take (takeW l).length = takeW l := by
  have tw : ∀ r : List UInt8, r.take (r.takeWhile dgB).length = r.takeWhile dgB := fun r => by
    conv => lhs; arg 2; rw [← List.takeWhile_append_dropWhile (p := dgB) (l := r)]
    rw [List.take_left']
    rfl
  cases l with
  | nil => rfl
  | cons c r =>
    simp only [takeW]
    split
    · rw [List.length_cons, List.take_succ_cons, tw]
    · exact tw (c :: r)
theorem wholeL_print {l : List UInt8} {n : Int} {m : Nat} (h : wholeL l = some (n, m)) : Lib.itoa n = l.take m ∧ i64B n ∧ 0 < m := by
  unfold wholeL at h
  split at h
  · rename_i v ha
    split at h
    · rename_i hi
      simp only [Option.some.injEq, Prod.mk.injEq] at h
      obtain ⟨rfl, rfl⟩ := h
      refine ⟨by rw [hi, takeW_take], Lib.atoiAll_bounds ha, ?_⟩
      apply Nat.pos_of_ne_zero
      intro h0
      rw [List.length_eq_zero_iff.1 h0] at ha
      simp [Lib.atoiAll] at ha
    · cases h
  · cases h
theorem pre_take {l : List UInt8} {t : ByteArray} (h : preL l t = true) : l.take t.size = t.data.toList := by
  unfold preL Lib.hasPrefix at h
  obtain ⟨r, hr⟩ := List.isPrefixOf_iff_prefix.1 h
  rw [← hr]
  exact List.take_left' Array.length_toList
theorem atom_print {l : List UInt8} {a : AtomD} {n : Nat} (h : atomL l = .ok a n) : (printA a).data.toList = l.take n ∧ validA a = true ∧ 0 < n ∧ okA a := by
  unfold atomL at h
  split at h
  · rename_i hp
    have ht := pre_take hp
    simp only [RA.ok.injEq] at h
    obtain ⟨rfl, rfl⟩ := h
    exact ⟨ht.symm, by decide +kernel, by decide, ⟨by show i64B 0; unfold i64B; decide, by decide⟩⟩
  · split at h
    · rename_i hp
      have ht := pre_take hp
      simp only [RA.ok.injEq] at h
      obtain ⟨rfl, rfl⟩ := h
      exact ⟨ht.symm, by decide +kernel, by decide, ⟨by show i64B 1; unfold i64B; decide, by decide⟩⟩
    · split at h
      · rename_i hp
        have ht := pre_take hp
        simp only [RA.ok.injEq] at h
        obtain ⟨rfl, rfl⟩ := h
        exact ⟨ht.symm, by decide +kernel, by decide, ⟨by show i64B 0; unfold i64B; decide, by decide⟩⟩
      · split at h
        · rename_i hp
          have ht := pre_take hp
          split at h
          · cases h
          · cases hf : parseF ((l.drop 2).take 16) with
            | none => rw [hf] at h; cases h
            | some u =>
              rw [hf] at h
              simp only [RA.ok.injEq] at h
              obtain ⟨rfl, rfl⟩ := h
              obtain ⟨q1, q2, q3⟩ := hexS_of hf
              refine ⟨?_, ?_, by decide, ⟨by show i64B 0; unfold i64B; decide, by show eE.size ≤ _; decide⟩⟩
              · show ((⟨#[48, 102]⟩ : ByteArray) ++ hexS u).data.toList = _
                rw [ByteArray.data_append, Array.toList_append, q1, show (18 : Nat) = 2 + 16 from rfl, take_split, show (2 : Nat) = zfB.size from rfl, ht]
              · show (isA ⟨3, 0, u, eE⟩ false true false && ((u : Int) == (canF u : Int))) = true
                rw [q2]
                simp [isA]
        · split at h
          · rename_i hp
            have ht := pre_take hp
            cases hr : textL 257 [] (l.drop 1) with
            | bad e => rw [hr] at h; cases h
            | ok t m =>
              rw [hr] at h
              simp only [textA, RA.ok.injEq] at h
              obtain ⟨rfl, rfl⟩ := h
              obtain ⟨q1, q2⟩ := text_print hr
              have hsz : (bs t).size = t.length := by simp [bs, ByteArray.size]
              refine ⟨?_, ?_, by omega, ⟨by show i64B 0; unfold i64B; decide, by show (bs t).size ≤ _; omega⟩⟩
              · show (quoteS (bs t)).data.toList = _
                show quoteL t = _
                rw [← q1, take_split, show (1 : Nat) = quB.size from rfl, ht]
                rfl
              · show (isA ⟨4, 0, 0, bs t⟩ false false true && decide (((bs t).size : Int) ≤ 256)) = true
                rw [decide_eq_true (by omega)]
                simp [isA]
          · split at h
            · rename_i hp
              have ht := pre_take hp
              cases hr : textL 257 [] (l.drop 2) with
              | bad e => rw [hr] at h; cases h
              | ok t m =>
                rw [hr] at h
                simp only [textA, RA.ok.injEq] at h
                obtain ⟨rfl, rfl⟩ := h
                obtain ⟨q1, q2⟩ := text_print hr
                have hsz : (bs t).size = t.length := by simp [bs, ByteArray.size]
                refine ⟨?_, ?_, by omega, ⟨by show i64B 0; unfold i64B; decide, by show (bs t).size ≤ _; omega⟩⟩
                · show ((⟨#[120]⟩ : ByteArray) ++ quoteS (bs t)).data.toList = _
                  rw [ByteArray.data_append, Array.toList_append]
                  show [120] ++ quoteL t = _
                  rw [← q1, take_split, show (2 : Nat) = xqB.size from rfl, ht]
                  rfl
                · show (isA ⟨5, 0, 0, bs t⟩ false false true && decide (((bs t).size : Int) ≤ 256)) = true
                  rw [decide_eq_true (by omega)]
                  simp [isA]
            · cases hw : wholeL l with
              | none => rw [hw] at h; cases h
              | some p =>
                obtain ⟨v, m⟩ := p
                rw [hw] at h
                simp only [RA.ok.injEq] at h
                obtain ⟨rfl, rfl⟩ := h
                obtain ⟨q1, q2, q3⟩ := wholeL_print hw
                exact ⟨q1, by show isA ⟨2, v, 0, eE⟩ true false false = true; simp [isA], q3, ⟨q2, by show eE.size ≤ _; decide⟩⟩
end Go.Proofs.YtjihcldhjpdnmaaDoor.AM
namespace Go.Proofs.YtjihcldhjpdnmaaDoor.FL
open Go.RowKit Ieee
set_option linter.unusedVariables false
set_option linter.unusedSimpArgs false
def fOrd (a b : Nat) : Option Ordering := Ieee.double.order a b
def fEq (a b : Nat) : Bool := fOrd a b == some .eq
def fNe (a b : Nat) : Bool := fOrd a b != some .eq
def fLt (a b : Nat) : Bool := fOrd a b == some .lt
def fGt (a b : Nat) : Bool := fOrd a b == some .gt
def fNeg (a : Nat) : Nat := a ^^^ 9223372036854775808
def B52 : Nat := 4503599627370496
def S63 : Nat := 9223372036854775808
def INF : Nat := 9218868437227405312
theorem signWeight_eq : double.signWeight = S63 := rfl
theorem binade_eq : double.binade = B52 := rfl
theorem infRung_eq : double.infRung = INF := rfl
theorem leastPlace_eq : double.leastPlace = -1074 := rfl
def rung (b : Nat) : Nat := b % S63
def neg (b : Nat) : Bool := b / S63 % 2 == 1
def mval (r : Nat) : Nat := if r < B52 then r else (B52 + r % B52) * 2 ^ (r / B52 - 1)
def nan (b : Nat) : Bool := decide (INF < rung b)
def sgn (s : Bool) (n : Nat) : Int := if s then -(n : Int) else n
def sv (b : Nat) : Int := sgn (neg b) (mval (rung b))
theorem mval_bounds (r : Nat) (h : B52 ≤ r) : B52 * 2 ^ (r / B52 - 1) ≤ mval r ∧ mval r < B52 * 2 ^ (r / B52) := by
  have hp : 0 < B52 := by decide
  have hm : r % B52 < B52 := Nat.mod_lt _ hp
  have hq : 1 ≤ r / B52 := (Nat.le_div_iff_mul_le hp).2 (by omega)
  unfold mval
  rw [if_neg (by omega)]
  refine ⟨Nat.mul_le_mul_right _ (by omega), ?_⟩
  obtain ⟨q, hq'⟩ : ∃ q, r / B52 = q + 1 := ⟨r / B52 - 1, by omega⟩
  rw [hq', Nat.add_sub_cancel, Nat.pow_succ, ← Nat.mul_assoc, Nat.mul_comm _ 2, ← Nat.mul_assoc]
  exact Nat.mul_lt_mul_of_pos_right (by omega) (Nat.two_pow_pos q)
theorem mval_lt {r s : Nat} (h : r < s) : mval r < mval s := by
  have hp : 0 < B52 := by decide
  by_cases hs : s < B52
  · unfold mval
    rw [if_pos (by omega), if_pos hs]
    exact h
  have hsb := mval_bounds s (by omega)
  have hq : 1 ≤ s / B52 := (Nat.le_div_iff_mul_le hp).2 (by omega)
  by_cases hr : r < B52
  · have : mval r = r := by unfold mval; rw [if_pos hr]
    rw [this]
    have : B52 * 1 ≤ B52 * 2 ^ (s / B52 - 1) := Nat.mul_le_mul_left _ (Nat.two_pow_pos _)
    omega
  have hrb := mval_bounds r (by omega)
  have hle : r / B52 ≤ s / B52 := Nat.div_le_div_right (by omega)
  by_cases e : r / B52 = s / B52
  · unfold mval
    rw [if_neg hr, if_neg hs, e]
    refine Nat.mul_lt_mul_of_pos_right ?_ (Nat.two_pow_pos _)
    have h1 := Nat.div_add_mod r B52
    have h2 := Nat.div_add_mod s B52
    rw [e] at h1
    omega
  · have : B52 * 2 ^ (r / B52) ≤ B52 * 2 ^ (s / B52 - 1) := Nat.mul_le_mul_left _ (Nat.pow_le_pow_right (by omega) (by omega))
    omega
theorem mval_zero : mval 0 = 0 := rfl
theorem mval_pos {r : Nat} (h : 0 < r) : 0 < mval r := by
  have := mval_lt h
  omega
theorem read_number (b : Nat) (h : rung b < INF) : ∃ (m e : Nat), double.read b = .number (neg b) m (-1074 + (e : Int)) ∧ m * 2 ^ e = mval (rung b) := by
  unfold Format.read mval
  rw [signWeight_eq, binade_eq, infRung_eq, leastPlace_eq]
  show ∃ m e, (if rung b < B52 then Datum.number (neg b) (rung b) (-1074) else if rung b < INF then .number (neg b) (B52 + rung b % B52) (-1074 + ((rung b / B52 - 1 : Nat) : Int)) else if rung b = INF then .infinity (neg b) else .nan (neg b) (rung b - INF)) = _ ∧ _
  by_cases h1 : rung b < B52
  · rw [if_pos h1, if_pos h1]
    exact ⟨rung b, 0, rfl, by simp⟩
  · rw [if_neg h1, if_neg h1, if_pos h]
    exact ⟨_, _, rfl, rfl⟩
theorem read_inf (b : Nat) (h : rung b = INF) : double.read b = .infinity (neg b) := by
  unfold Format.read
  rw [signWeight_eq, binade_eq, infRung_eq, leastPlace_eq]
  show (if rung b < B52 then Datum.number (neg b) (rung b) (-1074) else if rung b < INF then .number (neg b) (B52 + rung b % B52) (-1074 + ((rung b / B52 - 1 : Nat) : Int)) else if rung b = INF then .infinity (neg b) else .nan (neg b) (rung b - INF)) = _
  rw [if_neg (by rw [h]; decide), if_neg (by omega), if_pos h]
theorem read_nan (b : Nat) (h : INF < rung b) : double.read b = .nan (neg b) (rung b - INF) := by
  unfold Format.read
  rw [signWeight_eq, binade_eq, infRung_eq, leastPlace_eq]
  show (if rung b < B52 then Datum.number (neg b) (rung b) (-1074) else if rung b < INF then .number (neg b) (B52 + rung b % B52) (-1074 + ((rung b / B52 - 1 : Nat) : Int)) else if rung b = INF then .infinity (neg b) else .nan (neg b) (rung b - INF)) = _
  rw [if_neg (by have : B52 < INF := by decide
                 omega), if_neg (by omega), if_neg (by omega)]
theorem cmp_scale (x y : Int) (c : Nat) (hc : 0 < c) : compare (x * c) (y * c) = compare x y := by
  have hc' : (0 : Int) < (c : Int) := by omega
  rcases Int.lt_trichotomy x y with h | h | h
  · rw [Int.compare_eq_lt.2 h, Int.compare_eq_lt.2 (Int.mul_lt_mul_of_pos_right h hc')]
  · rw [h]
    rw [Int.compare_eq_eq.2 rfl, Int.compare_eq_eq.2 rfl]
  · rw [Int.compare_eq_gt.2 h, Int.compare_eq_gt.2 (Int.mul_lt_mul_of_pos_right h hc')]
theorem signed_eq (s : Bool) (m u : Nat) : signed s m u = sgn s (m * 2 ^ u) := by
  unfold signed sgn
  rw [Nat.shiftLeft_eq]
theorem sgn_mul (s : Bool) (m c : Nat) : sgn s m * (c : Int) = sgn s (m * c) := by
  unfold sgn
  split
  · rw [Int.neg_mul, Int.natCast_mul]
  · rw [Int.natCast_mul]
theorem order_numbers (s t : Bool) (m n e f : Nat) : (Datum.number s m (-1074 + (e : Int))).order (.number t n (-1074 + (f : Int))) = some (compare (sgn s (m * 2 ^ e)) (sgn t (n * 2 ^ f))) := by
  show some (compare (signed s m ((-1074 + (e : Int)) - min (-1074 + (e : Int)) (-1074 + (f : Int))).toNat) (signed t n ((-1074 + (f : Int)) - min (-1074 + (e : Int)) (-1074 + (f : Int))).toNat)) = _
  obtain ⟨g, hg⟩ : ∃ g : Nat, g = min e f := ⟨_, rfl⟩
  have e1 : ((-1074 + (e : Int)) - min (-1074 + (e : Int)) (-1074 + (f : Int))).toNat = e - g := by omega
  have e2 : ((-1074 + (f : Int)) - min (-1074 + (e : Int)) (-1074 + (f : Int))).toNat = f - g := by omega
  rw [e1, e2, signed_eq, signed_eq, ← cmp_scale _ _ (2 ^ g) (Nat.two_pow_pos g), sgn_mul, sgn_mul, Nat.mul_assoc, Nat.mul_assoc, ← Nat.pow_add, ← Nat.pow_add,
    show e - g + g = e by omega, show f - g + g = f by omega]
theorem fOrd_eq (a b : Nat) : fOrd a b = if nan a = true ∨ nan b = true then none else some (compare (sv a) (sv b)) := by
  unfold fOrd Format.order
  by_cases ha : INF < rung a
  · rw [if_pos (.inl (by unfold nan; exact decide_eq_true ha)), read_nan a ha]
    rfl
  by_cases hb : INF < rung b
  · rw [if_pos (.inr (by unfold nan; exact decide_eq_true hb)), read_nan b hb]
    cases double.read a <;> rfl
  rw [if_neg (by unfold nan; simp [ha, hb])]
  rcases Nat.lt_or_ge (rung a) INF with h1 | h1
  · obtain ⟨m, e, hr, hv⟩ := read_number a h1
    rcases Nat.lt_or_ge (rung b) INF with h2 | h2
    · obtain ⟨n, f, hr', hv'⟩ := read_number b h2
      rw [hr, hr', order_numbers, hv, hv']
      rfl
    · have h2' : rung b = INF := by omega
      rw [hr, read_inf b h2']
      have hlt := mval_lt (show rung a < rung b by omega)
      show some (if neg b then Ordering.gt else .lt) = _
      unfold sv sgn
      cases neg a <;> cases neg b <;> simp only [Bool.false_eq_true, if_true, if_false] <;> first | rw [Int.compare_eq_lt.2 (by omega)] | rw [Int.compare_eq_gt.2 (by omega)]
  · have h1' : rung a = INF := by omega
    rcases Nat.lt_or_ge (rung b) INF with h2 | h2
    · obtain ⟨n, f, hr', hv'⟩ := read_number b h2
      rw [hr', read_inf a h1']
      have hlt := mval_lt (show rung b < rung a by omega)
      show some (if neg a then Ordering.lt else .gt) = _
      unfold sv sgn
      cases neg a <;> cases neg b <;> simp only [Bool.false_eq_true, if_true, if_false] <;> first | rw [Int.compare_eq_lt.2 (by omega)] | rw [Int.compare_eq_gt.2 (by omega)]
    · have h2' : rung b = INF := by omega
      rw [read_inf a h1', read_inf b h2']
      have hpos := mval_pos (r := INF) (by decide)
      show some (compare (neg b).toNat (neg a).toNat) = _
      unfold sv sgn
      rw [h1', h2']
      cases neg a <;> cases neg b <;> simp only [Bool.false_eq_true, if_true, if_false] <;> first | (rw [Int.compare_eq_eq.2 rfl]; rfl) | (rw [Int.compare_eq_gt.2 (by omega)]; rfl) | (rw [Int.compare_eq_lt.2 (by omega)]; rfl)
theorem ord_cases (x y : Int) : (compare x y = .lt ∧ x < y) ∨ (compare x y = .eq ∧ x = y) ∨ (compare x y = .gt ∧ y < x) := by
  rcases Int.lt_trichotomy x y with h | h | h
  · exact .inl ⟨Int.compare_eq_lt.2 h, h⟩
  · exact .inr (.inl ⟨Int.compare_eq_eq.2 h, h⟩)
  · exact .inr (.inr ⟨Int.compare_eq_gt.2 h, h⟩)
section
variable (a b : Nat)
theorem fLt_eq : fLt a b = (!nan a && !nan b && decide (sv a < sv b)) := by
  unfold fLt
  rw [fOrd_eq]
  cases nan a <;> cases nan b <;> simp
  rcases ord_cases (sv a) (sv b) with ⟨h, h'⟩ | ⟨h, h'⟩ | ⟨h, h'⟩ <;> rw [h] <;> simp <;> omega
theorem fGt_eq : fGt a b = (!nan a && !nan b && decide (sv b < sv a)) := by
  unfold fGt
  rw [fOrd_eq]
  cases nan a <;> cases nan b <;> simp
  rcases ord_cases (sv a) (sv b) with ⟨h, h'⟩ | ⟨h, h'⟩ | ⟨h, h'⟩ <;> rw [h] <;> simp <;> omega
theorem fEq_eq : fEq a b = (!nan a && !nan b && decide (sv a = sv b)) := by
  unfold fEq
  rw [fOrd_eq]
  cases nan a <;> cases nan b <;> simp
  rcases ord_cases (sv a) (sv b) with ⟨h, h'⟩ | ⟨h, h'⟩ | ⟨h, h'⟩ <;> rw [h] <;> simp <;> omega
theorem fNe_eq : fNe a b = !(!nan a && !nan b && decide (sv a = sv b)) := by
  rw [← fEq_eq]
  unfold fNe fEq
  cases fOrd a b <;> rfl
end
theorem mod_sign (b : Nat) (h : b < S63) : rung b = b ∧ neg b = false := by
  have : S63 = 9223372036854775808 := rfl
  unfold rung neg
  rw [Nat.mod_eq_of_lt h, Nat.div_eq_of_lt h]
  exact ⟨rfl, rfl⟩
theorem mod_sign2 (b : Nat) (h : b < S63) : rung (S63 + b) = b ∧ neg (S63 + b) = true := by
  unfold rung neg
  rw [Nat.add_mod_left, Nat.mod_eq_of_lt h, Nat.add_div_left _ (by decide), Nat.div_eq_of_lt h]
  exact ⟨rfl, rfl⟩
theorem sv_pos (b : Nat) (h : b < S63) : sv b = mval b := by
  unfold sv sgn
  rw [(mod_sign b h).1, (mod_sign b h).2]
  rfl
theorem word_cases (b : Nat) (h : b < 18446744073709551616) : (b < S63 ∧ neg b = false ∧ b = rung b) ∨ (S63 ≤ b ∧ neg b = true ∧ b = S63 + rung b) := by
  have hs : S63 = 9223372036854775808 := rfl
  rcases Nat.lt_or_ge b S63 with h1 | h1
  · exact .inl ⟨h1, (mod_sign b h1).2, (mod_sign b h1).1.symm⟩
  · obtain ⟨c, rfl⟩ : ∃ c, b = S63 + c := ⟨b - S63, by omega⟩
    have hc : c < S63 := by omega
    exact .inr ⟨h1, (mod_sign2 c hc).2, by rw [(mod_sign2 c hc).1]⟩
def pl : Nat := 1074
def ONE : Nat := 2 ^ pl
theorem nan_lit3 : nan 9218868437227405311 = false := by decide
theorem nan_lit0 : nan 0 = false := by decide
theorem sv_zero : sv 0 = 0 := by rw [sv_pos 0 (by decide), mval_zero]; rfl
theorem sv_max : sv 9218868437227405311 = mval (INF - 1) := sv_pos _ (by decide)
def fl (b : Nat) : Nat := mval (rung b) / ONE
def classN (b : Nat) : Int := if nan b then 0 else if rung b = INF then (if neg b then 1 else 5) else if rung b = 0 then 3 else if neg b then 2 else 4
def canonN (b : Nat) : Nat := if nan b then 9221120237041090560 else if rung b = 0 then 0 else b
theorem S63_pow : S63 = 2 ^ 63 := rfl
theorem neg_bit (b : Nat) : neg b = b.testBit 63 := by
  rw [Nat.testBit_eq_decide_div_mod_eq]
  unfold neg
  rw [S63_pow]
  cases h : decide (b / 2 ^ 63 % 2 = 1) <;> simp_all
theorem rung_fNeg (b : Nat) : rung (fNeg b) = rung b := by
  unfold rung fNeg
  rw [S63_pow, show (9223372036854775808 : Nat) = 2 ^ 63 from rfl, Nat.xor_mod_two_pow, Nat.mod_self, Nat.xor_zero]
theorem neg_fNeg (b : Nat) : neg (fNeg b) = !neg b := by
  rw [neg_bit, neg_bit]
  unfold fNeg
  rw [Nat.testBit_xor, show (9223372036854775808 : Nat) = 2 ^ 63 from rfl, Nat.testBit_two_pow_self]
  simp
theorem nan_fNeg (b : Nat) : nan (fNeg b) = nan b := by unfold nan; rw [rung_fNeg]
theorem max_lt (b : Nat) (h : nan b = false) : decide ((mval (INF - 1) : Int) < sv b) = decide (rung b = INF ∧ neg b = false) := by
  have h1 : ¬ INF < rung b := by simpa [nan] using h
  have hi : (0 : Nat) < INF := by decide
  have hp : 0 < mval (INF - 1) := mval_pos (by decide)
  unfold sv sgn
  cases hn : neg b
  · simp only [Bool.false_eq_true, if_false, and_true]
    rw [decide_eq_decide]
    constructor
    · intro h2
      rcases Nat.lt_or_ge (rung b) INF with h3 | h3
      · exfalso
        rcases Nat.lt_or_ge (rung b) (INF - 1) with h4 | h4
        · have := mval_lt h4; omega
        · rw [show rung b = INF - 1 by omega] at h2; omega
      · omega
    · intro h2
      have := mval_lt (show INF - 1 < INF by omega)
      rw [h2]
      omega
  · simp only [if_true, Bool.true_eq_false, and_false, decide_false, decide_eq_false_iff_not]
    omega
theorem sv_lt_zero (b : Nat) : decide (sv b < 0) = (neg b && decide (rung b ≠ 0)) := by
  unfold sv sgn
  cases neg b
  · simp only [Bool.false_eq_true, if_false, Bool.false_and, decide_eq_false_iff_not]; omega
  · simp only [if_true, Bool.true_and, decide_eq_decide]
    constructor
    · intro h e
      rw [e, mval_zero] at h
      omega
    · intro h
      have := mval_pos (show 0 < rung b by omega)
      omega
theorem sv_gt_zero (b : Nat) : decide (0 < sv b) = (!neg b && decide (rung b ≠ 0)) := by
  unfold sv sgn
  cases neg b
  · simp only [Bool.false_eq_true, if_false, Bool.not_false, Bool.true_and, decide_eq_decide]
    constructor
    · intro h e
      rw [e, mval_zero] at h
      omega
    · intro h
      have := mval_pos (show 0 < rung b by omega)
      omega
  · simp only [if_true, Bool.not_true, Bool.false_and, decide_eq_false_iff_not]; omega
theorem cls_eq (b : Nat) : AM.clsF b = classN b := by
  have e1 : (AM.ordF b b != some .eq) = fNe b b := rfl
  have e2 : (AM.ordF (Op.negFloat .f64 b) 9218868437227405311 == some .gt) = fGt (fNeg b) 9218868437227405311 := rfl
  have e3 : (AM.ordF b 9218868437227405311 == some .gt) = fGt b 9218868437227405311 := rfl
  have e4 : (AM.ordF b 0 == some .lt) = fLt b 0 := rfl
  have e5 : (AM.ordF b 0 == some .gt) = fGt b 0 := rfl
  unfold AM.clsF classN
  rw [e1, e2, e3, e4, e5, fNe_eq]
  cases hn : nan b
  · simp only [Bool.not_false, Bool.and_self, decide_true, Bool.not_true, Bool.false_eq_true, if_false]
    rw [fGt_eq, fGt_eq, fLt_eq, fGt_eq, nan_fNeg, hn, nan_lit3, nan_lit0, sv_max, sv_zero]
    simp only [Bool.not_false, Bool.true_and]
    rw [max_lt _ (by rw [nan_fNeg]; exact hn), max_lt _ hn, sv_lt_zero, sv_gt_zero, rung_fNeg, neg_fNeg]
    cases neg b <;> simp <;> (repeat' split) <;> simp_all
  · simp
theorem can_eq (b : Nat) : AM.canF b = canonN b := by
  unfold AM.canF canonN
  rw [cls_eq]
  have hi : INF ≠ 0 := by decide
  unfold classN
  cases nan b
  · simp only [Bool.false_eq_true, if_false]
    by_cases h1 : rung b = INF
    · rw [if_pos h1, if_neg (show ¬ rung b = 0 by omega)]
      cases neg b <;> simp
    · rw [if_neg h1]
      by_cases h2 : rung b = 0
      · rw [if_pos h2, if_pos h2]; simp
      · rw [if_neg h2, if_neg h2]
        cases neg b <;> simp
  · simp
theorem S63_lit : S63 = 9223372036854775808 := rfl
theorem INF_lit : INF = 9218868437227405312 := rfl
theorem nan_iff (b : Nat) : nan b = true ↔ INF < rung b := by unfold nan; simp
theorem canon_ref (b : Nat) (hb : b < 18446744073709551616) : canonN b = if 9218868437227405312 < b % 9223372036854775808 then 9221120237041090560 else if b = 9223372036854775808 then 0 else b := by
  unfold canonN
  have er : b % 9223372036854775808 = rung b := rfl
  rw [er]
  have hI := INF_lit
  have hS := S63_lit
  by_cases h : INF < rung b
  · rw [if_pos ((nan_iff b).2 h), if_pos (by omega)]
  · rw [if_neg (fun h2 => h ((nan_iff b).1 h2)), if_neg (show ¬ 9218868437227405312 < rung b by omega)]
    rcases word_cases b hb with ⟨h1, _, h3⟩ | ⟨h1, _, h3⟩
    · rw [if_neg (show ¬ b = 9223372036854775808 by omega)]
      by_cases h4 : rung b = 0
      · rw [if_pos h4]; omega
      · rw [if_neg h4]
    · by_cases h4 : rung b = 0
      · rw [if_pos h4, if_pos (by omega)]
      · rw [if_neg h4, if_neg (by omega)]
end Go.Proofs.YtjihcldhjpdnmaaDoor.FL
namespace Go.Proofs.YtjihcldhjpdnmaaDoor.AM
open Go.RowKit
set_option linter.unusedSimpArgs false
set_option linter.unusedVariables false
set_option maxRecDepth 10000
set_option maxHeartbeats 0
abbrev uv (n : Nat) : AV := .lit (.int .u64 n)
theorem can_ref (b : Nat) (hb : b < 18446744073709551616) : canF b = if 9218868437227405312 < b % 9223372036854775808 then 9221120237041090560 else if b = 9223372036854775808 then 0 else b := by
  rw [FL.can_eq, FL.canon_ref b hb]
theorem tmod63 (u : Nat) : (u : Int).tmod 9223372036854775808 = ((u % 9223372036854775808 : Nat) : Int) := by rw [Int.tmod_eq_emod_of_nonneg (Int.natCast_nonneg _)]; omega
theorem c_rCanon (u : Nat) (hu : u < 18446744073709551616) : Pure Tryd.prog 78 [uv u] (uv (canF u)) := by
  rw [can_ref u hu]
  refine pure_of_awp Tryd.func78 rfl rfl (by simp [Tryd.f78]) ?_; simp only [go_sem, ↓reduceIte, Nat.reduceEqDiff, Nat.reduceAdd, Nat.reduceLeDiff, Nat.reduceBEq, Nat.reduceMul, reduceCtorEq, Int.reduceLE, Int.reduceLT, Int.reduceAdd, Int.reduceSub, Int.reduceNeg, Int.reduceToNat, Int.reduceBEq]
  repeat' (first | refine awp_seq ?_ | refine awp_block ?_ | refine awp_round ?_ | refine awp_scope ?_ | refine awp_text rfl ?_ | refine awp_any rfl mix (by kernel_rfl) ?_ | (refine RunTo.unguard rfl rfl (fun hg => ?_) (fun hg => ?_) <;> ((try simp only [Bool.not_true, Bool.not_false, Bool.not_eq_true', Bool.not_eq_false', Bool.not_eq_eq_eq_not] at hg); (first | (cases hg) | (simp only [hg]) | skip))) | ((first | refine RunTo.plain rfl ?_ | refine RunTo.skipped rfl ?_); simp only [go_sem, ↓reduceIte, Nat.reduceEqDiff, Nat.reduceAdd, Nat.reduceLeDiff, Nat.reduceBEq, Nat.reduceMul, reduceCtorEq, Int.reduceLE, Int.reduceLT, Int.reduceAdd, Int.reduceSub, Int.reduceNeg, Int.reduceToNat, Int.reduceBEq, tmod63]) | ((first | refine RunTo.nilA (by kernel_rfl) ?_ | refine RunTo.nilT ?_ | refine awp_skip ?_ | refine awp_exit ?_ | refine awp_label ?_); simp only [go_sem, ↓reduceIte, Nat.reduceEqDiff, Nat.reduceAdd, Nat.reduceLeDiff, Nat.reduceBEq, Nat.reduceMul, reduceCtorEq, Int.reduceLE, Int.reduceLT, Int.reduceAdd, Int.reduceSub, Int.reduceNeg, Int.reduceToNat, Int.reduceBEq, tmod63]) | (refine awp_cond' rfl (of_decide_eq_true rfl) (fun hc => ?_) (fun hc => ?_) <;> ((try simp only [Bool.not_true, Bool.not_false, Bool.not_eq_true', Bool.not_eq_false', Bool.not_eq_eq_eq_not] at hc); (first | (cases hc) | (simp only [hc]) | skip))))
  all_goals
    (first | refine awp_ret ?_ | skip); refine ⟨(by first | exact .inl rfl | exact .inr rfl | exact .inr trivial | trivial), ?_⟩; simp only [go_sem, ↓reduceIte, Nat.reduceEqDiff, Nat.reduceAdd, Nat.reduceLeDiff, Nat.reduceBEq, Nat.reduceMul, reduceCtorEq, Int.reduceLE, Int.reduceLT, Int.reduceAdd, Int.reduceSub, Int.reduceNeg, Int.reduceToNat, Int.reduceBEq, retV, resL, resV, sealV, sealC, sealAll, Tryd.f78]
    (try simp only [decide_eq_true_eq, decide_eq_false_iff_not, beq_iff_eq, bne_iff_ne, ne_eq, beq_eq_false_iff_ne, bne_eq_false_iff_eq, Bool.and_eq_true, Bool.or_eq_true, Bool.or_eq_false_iff, Bool.and_eq_false_iff] at *)
    (repeat' split) <;> first | rfl | (exfalso; omega)
theorem c_rBits (f : Nat) : Pure Tryd.prog 34 [fv f] (uv f) := by
  refine pure_of_awp Tryd.func34 rfl rfl (by simp [Tryd.f34]) ?_; simp only [go_sem, ↓reduceIte, Nat.reduceEqDiff, Nat.reduceAdd, Nat.reduceLeDiff, Nat.reduceBEq, Nat.reduceMul, reduceCtorEq, Int.reduceLE, Int.reduceLT, Int.reduceAdd, Int.reduceSub, Int.reduceNeg, Int.reduceToNat, Int.reduceBEq]
  repeat' (first | refine awp_seq ?_ | refine awp_block ?_ | refine awp_round ?_ | refine awp_scope ?_ | refine awp_text rfl ?_ | refine awp_any rfl mix (by kernel_rfl) ?_ | (refine RunTo.unguard rfl rfl (fun hg => ?_) (fun hg => ?_) <;> ((try simp only [Bool.not_true, Bool.not_false, Bool.not_eq_true', Bool.not_eq_false', Bool.not_eq_eq_eq_not] at hg); (first | (cases hg) | (simp only [hg]) | skip))) | ((first | refine RunTo.plain rfl ?_ | refine RunTo.skipped rfl ?_ | refine RunTo.ext (x_bits f) rfl rfl rfl rfl ?_); simp only [go_sem, ↓reduceIte, Nat.reduceEqDiff, Nat.reduceAdd, Nat.reduceLeDiff, Nat.reduceBEq, Nat.reduceMul, reduceCtorEq, Int.reduceLE, Int.reduceLT, Int.reduceAdd, Int.reduceSub, Int.reduceNeg, Int.reduceToNat, Int.reduceBEq]) | ((first | refine RunTo.nilA (by kernel_rfl) ?_ | refine RunTo.nilT ?_ | refine awp_skip ?_ | refine awp_exit ?_ | refine awp_label ?_); simp only [go_sem, ↓reduceIte, Nat.reduceEqDiff, Nat.reduceAdd, Nat.reduceLeDiff, Nat.reduceBEq, Nat.reduceMul, reduceCtorEq, Int.reduceLE, Int.reduceLT, Int.reduceAdd, Int.reduceSub, Int.reduceNeg, Int.reduceToNat, Int.reduceBEq]) | (refine awp_cond' rfl (of_decide_eq_true rfl) (fun hc => ?_) (fun hc => ?_) <;> ((try simp only [Bool.not_true, Bool.not_false, Bool.not_eq_true', Bool.not_eq_false', Bool.not_eq_eq_eq_not] at hc); (first | (cases hc) | (simp only [hc]) | skip))))
  all_goals
    (first | refine awp_ret ?_ | skip); refine ⟨(by first | exact .inl rfl | exact .inr rfl | exact .inr trivial | trivial), ?_⟩; simp only [go_sem, ↓reduceIte, Nat.reduceEqDiff, Nat.reduceAdd, Nat.reduceLeDiff, Nat.reduceBEq, Nat.reduceMul, reduceCtorEq, Int.reduceLE, Int.reduceLT, Int.reduceAdd, Int.reduceSub, Int.reduceNeg, Int.reduceToNat, Int.reduceBEq, retV, resL, resV, sealV, sealC, sealAll, Tryd.f34]
theorem size_nil {s : ByteArray} (h : s.toList = eE.toList) : s.size = 0 := by
  have := congrArg List.length h
  rw [ByteArray.toList_eq, ByteArray.toList_eq] at this
  simpa [eE] using this
theorem c_rAtom (a : AtomD) (hf : a.f < 18446744073709551616) : Pure Tryd.prog 33 [a.av] (bv (validA a)) := by
  obtain ⟨k, n, f, s⟩ := a
  have hf' : f < 18446744073709551616 := hf
  have hk : k < 0 ∨ 5 < k ∨ k = 0 ∨ k = 1 ∨ k = 2 ∨ k = 3 ∨ k = 4 ∨ k = 5 := by omega
  rcases hk with hk | hk | hk | hk | hk | hk | hk | hk
  · have hd : decide (k < 0) = true := decide_eq_true hk
    refine pure_of_awp Tryd.func33 rfl rfl (by simp [Tryd.f33]) ?_; simp only [go_sem, ↓reduceIte, Nat.reduceEqDiff, Nat.reduceAdd, Nat.reduceLeDiff, Nat.reduceBEq, Nat.reduceMul, reduceCtorEq, Int.reduceLE, Int.reduceLT, Int.reduceAdd, Int.reduceSub, Int.reduceNeg, Int.reduceToNat, Int.reduceBEq]
    repeat' (first | refine awp_seq ?_ | refine awp_block ?_ | refine awp_round ?_ | refine awp_scope ?_ | refine awp_text rfl ?_ | refine awp_any rfl mix (by kernel_rfl) ?_ | (refine RunTo.unguard rfl rfl (fun hg => ?_) (fun hg => ?_) <;> ((try simp only [Bool.not_true, Bool.not_false, Bool.not_eq_true', Bool.not_eq_false', Bool.not_eq_eq_eq_not] at hg); (first | (cases hg) | (simp only [hg]) | skip))) | ((first | refine RunTo.plain rfl ?_ | refine RunTo.skipped rfl ?_); simp only [go_sem, ↓reduceIte, Nat.reduceEqDiff, Nat.reduceAdd, Nat.reduceLeDiff, Nat.reduceBEq, Nat.reduceMul, reduceCtorEq, Int.reduceLE, Int.reduceLT, Int.reduceAdd, Int.reduceSub, Int.reduceNeg, Int.reduceToNat, Int.reduceBEq, AtomD.av, hd]) | ((first | refine RunTo.nilA (by kernel_rfl) ?_ | refine RunTo.nilT ?_ | refine awp_skip ?_ | refine awp_exit ?_ | refine awp_label ?_); simp only [go_sem, ↓reduceIte, Nat.reduceEqDiff, Nat.reduceAdd, Nat.reduceLeDiff, Nat.reduceBEq, Nat.reduceMul, reduceCtorEq, Int.reduceLE, Int.reduceLT, Int.reduceAdd, Int.reduceSub, Int.reduceNeg, Int.reduceToNat, Int.reduceBEq, AtomD.av, hd]) | (refine awp_cond' rfl (of_decide_eq_true rfl) (fun hc => ?_) (fun hc => ?_) <;> ((try simp only [Bool.not_true, Bool.not_false, Bool.not_eq_true', Bool.not_eq_false', Bool.not_eq_eq_eq_not] at hc); (first | (cases hc) | (simp only [hc]) | skip))))
    all_goals
      (first | refine awp_ret ?_ | skip); refine ⟨(by first | exact .inl rfl | exact .inr rfl | exact .inr trivial | trivial), ?_⟩; simp only [go_sem, ↓reduceIte, Nat.reduceEqDiff, Nat.reduceAdd, Nat.reduceLeDiff, Nat.reduceBEq, Nat.reduceMul, reduceCtorEq, Int.reduceLE, Int.reduceLT, Int.reduceAdd, Int.reduceSub, Int.reduceNeg, Int.reduceToNat, Int.reduceBEq, retV, resL, resV, sealV, sealC, sealAll, Tryd.f33]
      have h : validA ⟨k, n, f, s⟩ = false := by unfold validA; simp only []; rw [if_neg (by omega), if_neg (by omega), if_neg (by omega), if_neg (by omega), if_neg (by omega)]
      rw [h]
  · have hd : decide (k < 0) = false := decide_eq_false (by omega)
    have hd2 : decide (5 < k) = true := decide_eq_true hk
    refine pure_of_awp Tryd.func33 rfl rfl (by simp [Tryd.f33]) ?_; simp only [go_sem, ↓reduceIte, Nat.reduceEqDiff, Nat.reduceAdd, Nat.reduceLeDiff, Nat.reduceBEq, Nat.reduceMul, reduceCtorEq, Int.reduceLE, Int.reduceLT, Int.reduceAdd, Int.reduceSub, Int.reduceNeg, Int.reduceToNat, Int.reduceBEq]
    repeat' (first | refine awp_seq ?_ | refine awp_block ?_ | refine awp_round ?_ | refine awp_scope ?_ | refine awp_text rfl ?_ | refine awp_any rfl mix (by kernel_rfl) ?_ | (refine RunTo.unguard rfl rfl (fun hg => ?_) (fun hg => ?_) <;> ((try simp only [Bool.not_true, Bool.not_false, Bool.not_eq_true', Bool.not_eq_false', Bool.not_eq_eq_eq_not] at hg); (first | (cases hg) | (simp only [hg]) | skip))) | ((first | refine RunTo.plain rfl ?_ | refine RunTo.skipped rfl ?_); simp only [go_sem, ↓reduceIte, Nat.reduceEqDiff, Nat.reduceAdd, Nat.reduceLeDiff, Nat.reduceBEq, Nat.reduceMul, reduceCtorEq, Int.reduceLE, Int.reduceLT, Int.reduceAdd, Int.reduceSub, Int.reduceNeg, Int.reduceToNat, Int.reduceBEq, AtomD.av, hd, hd2]) | ((first | refine RunTo.nilA (by kernel_rfl) ?_ | refine RunTo.nilT ?_ | refine awp_skip ?_ | refine awp_exit ?_ | refine awp_label ?_); simp only [go_sem, ↓reduceIte, Nat.reduceEqDiff, Nat.reduceAdd, Nat.reduceLeDiff, Nat.reduceBEq, Nat.reduceMul, reduceCtorEq, Int.reduceLE, Int.reduceLT, Int.reduceAdd, Int.reduceSub, Int.reduceNeg, Int.reduceToNat, Int.reduceBEq, AtomD.av, hd, hd2]) | (refine awp_cond' rfl (of_decide_eq_true rfl) (fun hc => ?_) (fun hc => ?_) <;> ((try simp only [Bool.not_true, Bool.not_false, Bool.not_eq_true', Bool.not_eq_false', Bool.not_eq_eq_eq_not] at hc); (first | (cases hc) | (simp only [hc]) | skip))))
    all_goals
      (first | refine awp_ret ?_ | skip); refine ⟨(by first | exact .inl rfl | exact .inr rfl | exact .inr trivial | trivial), ?_⟩; simp only [go_sem, ↓reduceIte, Nat.reduceEqDiff, Nat.reduceAdd, Nat.reduceLeDiff, Nat.reduceBEq, Nat.reduceMul, reduceCtorEq, Int.reduceLE, Int.reduceLT, Int.reduceAdd, Int.reduceSub, Int.reduceNeg, Int.reduceToNat, Int.reduceBEq, retV, resL, resV, sealV, sealC, sealAll, Tryd.f33]
      have h : validA ⟨k, n, f, s⟩ = false := by unfold validA; simp only []; rw [if_neg (by omega), if_neg (by omega), if_neg (by omega), if_neg (by omega), if_neg (by omega)]
      rw [h]
  all_goals
    subst hk
    by_cases hs : s.toList = eE.toList
    · have hz : (s.toList == eE.toList) = true := by rw [hs]; exact beq_self_eq_true _
      have hsz : (s.size : Int) ≤ 256 := by rw [size_nil hs]; decide
      clear hs
      refine pure_of_awp Tryd.func33 rfl rfl (by simp [Tryd.f33]) ?_; simp only [go_sem, ↓reduceIte, Nat.reduceEqDiff, Nat.reduceAdd, Nat.reduceLeDiff, Nat.reduceBEq, Nat.reduceMul, reduceCtorEq, Int.reduceLE, Int.reduceLT, Int.reduceAdd, Int.reduceSub, Int.reduceNeg, Int.reduceToNat, Int.reduceBEq]
      repeat' (first | refine awp_seq ?_ | refine awp_block ?_ | refine awp_round ?_ | refine awp_scope ?_ | refine awp_text rfl ?_ | refine awp_any rfl mix (by kernel_rfl) ?_ | (refine RunTo.unguard rfl rfl (fun hg => ?_) (fun hg => ?_) <;> ((try simp only [Bool.not_true, Bool.not_false, Bool.not_eq_true', Bool.not_eq_false', Bool.not_eq_eq_eq_not] at hg); (first | (cases hg) | (simp only [hg]) | skip))) | ((first | refine RunTo.plain rfl ?_ | refine RunTo.skipped rfl ?_ | refine RunTo.call (c_rBits f) Tryd.func34 rfl rfl rfl rfl rfl rfl rfl rfl ?_ | refine RunTo.call (c_rCanon f hf') Tryd.func78 rfl rfl rfl rfl rfl rfl rfl rfl ?_); simp only [go_sem, ↓reduceIte, Nat.reduceEqDiff, Nat.reduceAdd, Nat.reduceLeDiff, Nat.reduceBEq, Nat.reduceMul, reduceCtorEq, Int.reduceLE, Int.reduceLT, Int.reduceAdd, Int.reduceSub, Int.reduceNeg, Int.reduceToNat, Int.reduceBEq, AtomD.av, bne_self_eq_false, hz, bne]) | ((first | refine RunTo.nilA (by kernel_rfl) ?_ | refine RunTo.nilT ?_ | refine awp_skip ?_ | refine awp_exit ?_ | refine awp_label ?_); simp only [go_sem, ↓reduceIte, Nat.reduceEqDiff, Nat.reduceAdd, Nat.reduceLeDiff, Nat.reduceBEq, Nat.reduceMul, reduceCtorEq, Int.reduceLE, Int.reduceLT, Int.reduceAdd, Int.reduceSub, Int.reduceNeg, Int.reduceToNat, Int.reduceBEq, AtomD.av, bne_self_eq_false, hz, bne]) | (refine awp_cond' rfl (of_decide_eq_true rfl) (fun hc => ?_) (fun hc => ?_) <;> ((try simp only [Bool.not_true, Bool.not_false, Bool.not_eq_true', Bool.not_eq_false', Bool.not_eq_eq_eq_not] at hc); (first | (cases hc) | (simp only [hc]) | skip))))
      all_goals
        (first | refine awp_ret ?_ | skip); refine ⟨(by first | exact .inl rfl | exact .inr rfl | exact .inr trivial | trivial), ?_⟩; simp only [go_sem, ↓reduceIte, Nat.reduceEqDiff, Nat.reduceAdd, Nat.reduceLeDiff, Nat.reduceBEq, Nat.reduceMul, reduceCtorEq, Int.reduceLE, Int.reduceLT, Int.reduceAdd, Int.reduceSub, Int.reduceNeg, Int.reduceToNat, Int.reduceBEq, retV, resL, resV, sealV, sealC, sealAll, Tryd.f33]
        (try simp only [decide_eq_true_eq, decide_eq_false_iff_not, beq_iff_eq, bne_iff_ne, ne_eq, beq_eq_false_iff_ne, bne_eq_false_iff_eq, Bool.and_eq_true, Bool.or_eq_true, Bool.or_eq_false_iff, Bool.and_eq_false_iff] at *)
        unfold validA isA
        simp only [hz]
        first
        | (simp [*]; done)
        | (simp [*]; omega)
        | trace_state
    · have hz : (s.toList == eE.toList) = false := beq_false_of_ne hs
      clear hs
      refine pure_of_awp Tryd.func33 rfl rfl (by simp [Tryd.f33]) ?_; simp only [go_sem, ↓reduceIte, Nat.reduceEqDiff, Nat.reduceAdd, Nat.reduceLeDiff, Nat.reduceBEq, Nat.reduceMul, reduceCtorEq, Int.reduceLE, Int.reduceLT, Int.reduceAdd, Int.reduceSub, Int.reduceNeg, Int.reduceToNat, Int.reduceBEq]
      repeat' (first | refine awp_seq ?_ | refine awp_block ?_ | refine awp_round ?_ | refine awp_scope ?_ | refine awp_text rfl ?_ | refine awp_any rfl mix (by kernel_rfl) ?_ | (refine RunTo.unguard rfl rfl (fun hg => ?_) (fun hg => ?_) <;> ((try simp only [Bool.not_true, Bool.not_false, Bool.not_eq_true', Bool.not_eq_false', Bool.not_eq_eq_eq_not] at hg); (first | (cases hg) | (simp only [hg]) | skip))) | ((first | refine RunTo.plain rfl ?_ | refine RunTo.skipped rfl ?_ | refine RunTo.call (c_rBits f) Tryd.func34 rfl rfl rfl rfl rfl rfl rfl rfl ?_ | refine RunTo.call (c_rCanon f hf') Tryd.func78 rfl rfl rfl rfl rfl rfl rfl rfl ?_); simp only [go_sem, ↓reduceIte, Nat.reduceEqDiff, Nat.reduceAdd, Nat.reduceLeDiff, Nat.reduceBEq, Nat.reduceMul, reduceCtorEq, Int.reduceLE, Int.reduceLT, Int.reduceAdd, Int.reduceSub, Int.reduceNeg, Int.reduceToNat, Int.reduceBEq, AtomD.av, bne_self_eq_false, hz, bne]) | ((first | refine RunTo.nilA (by kernel_rfl) ?_ | refine RunTo.nilT ?_ | refine awp_skip ?_ | refine awp_exit ?_ | refine awp_label ?_); simp only [go_sem, ↓reduceIte, Nat.reduceEqDiff, Nat.reduceAdd, Nat.reduceLeDiff, Nat.reduceBEq, Nat.reduceMul, reduceCtorEq, Int.reduceLE, Int.reduceLT, Int.reduceAdd, Int.reduceSub, Int.reduceNeg, Int.reduceToNat, Int.reduceBEq, AtomD.av, bne_self_eq_false, hz, bne]) | (refine awp_cond' rfl (of_decide_eq_true rfl) (fun hc => ?_) (fun hc => ?_) <;> ((try simp only [Bool.not_true, Bool.not_false, Bool.not_eq_true', Bool.not_eq_false', Bool.not_eq_eq_eq_not] at hc); (first | (cases hc) | (simp only [hc]) | skip))))
      all_goals
        (first | refine awp_ret ?_ | skip); refine ⟨(by first | exact .inl rfl | exact .inr rfl | exact .inr trivial | trivial), ?_⟩; simp only [go_sem, ↓reduceIte, Nat.reduceEqDiff, Nat.reduceAdd, Nat.reduceLeDiff, Nat.reduceBEq, Nat.reduceMul, reduceCtorEq, Int.reduceLE, Int.reduceLT, Int.reduceAdd, Int.reduceSub, Int.reduceNeg, Int.reduceToNat, Int.reduceBEq, retV, resL, resV, sealV, sealC, sealAll, Tryd.f33]
        (try simp only [decide_eq_true_eq, decide_eq_false_iff_not, beq_iff_eq, bne_iff_ne, ne_eq, beq_eq_false_iff_ne, bne_eq_false_iff_eq, Bool.and_eq_true, Bool.or_eq_true, Bool.or_eq_false_iff, Bool.and_eq_false_iff] at *)
        have hz2 : (s.toList == eE.toList) = false := beq_false_of_ne hz
        unfold validA isA
        simp only [hz2]
        first
        | (simp [*]; done)
        | (simp [*]; omega)
        | trace_state
end Go.Proofs.YtjihcldhjpdnmaaDoor.AM
namespace Go.Proofs.YtjihcldhjpdnmaaDoor.AM
open Go.RowKit
set_option linter.unusedSimpArgs false
set_option linter.unusedVariables false
set_option maxRecDepth 10000
set_option maxHeartbeats 0
theorem join_two (x y : List UInt8) (r : List (List UInt8)) (sep : List UInt8) : Lib.join (x :: y :: r) sep = x ++ (sep ++ Lib.join (y :: r) sep) := by
  rw [Lib.join_cons, Lib.join_cons]
  simp [Lib.joinTail]
abbrev pAL (a : AtomD) : List UInt8 := (printA a).data.toList
theorem listL_print : ∀ (f : Nat) (acc : List AtomD) (l : List UInt8) (res : List AtomD) (n : Nat), acc.length ≤ 16 → listL f acc l = .ok res n →
    ∃ new, new ≠ [] ∧ res = acc ++ new ∧ l.take n = Lib.join (new.map pAL) [44, 32] ++ [93] ∧ (∀ a ∈ new, validA a = true ∧ okA a) ∧ res.length ≤ 16 ∧ 0 < n ∧ n ≤ l.length
  | 0, _, _, _, _, _, h => by cases h
  | f + 1, acc, l, res, n, ha, h => by
    unfold listL at h
    split at h
    · cases h
    · rename_i h16
      cases hr : atomL l with
      | bad e => rw [hr] at h; cases h
      | ok a j =>
        rw [hr] at h
        obtain ⟨q1, q2, q3, q4⟩ := atom_print hr
        have hj := atomL_len hr
        simp only [listN] at h
        split at h
        · rename_i g1
          have g3 := preL_len g1
          rw [List.length_drop, show clB.size = 1 from rfl] at g3
          have g4 := pre_take g1
          rw [show clB.size = 1 from rfl] at g4
          simp only [RL.ok.injEq] at h
          obtain ⟨rfl, rfl⟩ := h
          refine ⟨[a], by simp, rfl, ?_, fun x hx => by rw [show x = a by simpa using hx]; exact ⟨q2, q4⟩, by simp; omega, by omega, by omega⟩
          rw [take_split, g4, List.map_cons, List.map_nil, Lib.join_one, ← q1]
        · split at h
          · rename_i g2
            have g3 := preL_len g2
            rw [List.length_drop, show cmB.size = 2 from rfl] at g3
            have g4 := pre_take g2
            rw [show cmB.size = 2 from rfl] at g4
            cases hr2 : listL f (acc ++ [a]) ((l.drop j).drop 2) with
            | bad e => rw [hr2] at h; cases h
            | ok res2 m =>
              rw [hr2] at h
              simp only [RL.add, RL.ok.injEq] at h
              obtain ⟨rfl, rfl⟩ := h
              obtain ⟨new, k1, k2, k3, k4, k5, k6, k7⟩ := listL_print f _ _ _ m (by simp; omega) hr2
              rw [List.length_drop, List.length_drop] at k7
              refine ⟨a :: new, by simp, by rw [k2]; simp, ?_, fun x hx => ?_, k5, by omega, by omega⟩
              · rw [show j + 2 + m = j + (2 + m) by omega, take_split, take_split, g4, k3, ← q1]
                cases new with
                | nil => exact absurd rfl k1
                | cons b r =>
                  show pAL a ++ (cmB.data.toList ++ (Lib.join (pAL b :: r.map pAL) [44, 32] ++ [93])) = Lib.join (pAL a :: pAL b :: r.map pAL) [44, 32] ++ [93]
                  rw [join_two]
                  simp [List.append_assoc]
              · rcases List.mem_cons.1 hx with rfl | hx
                · exact ⟨q2, q4⟩
                · exact k4 x hx
          · cases h
theorem read_print {l : List UInt8} {v : ValD} {n : Nat} (h : readL l = .ok v n) : (printV v).data.toList = l.take n ∧ validV v = true ∧ 0 < n ∧ n ≤ l.length ∧ okV v := by
  unfold readL at h
  split at h
  · rename_i h1
    have p1 := pre_take h1
    have p2 := preL_len h1
    rw [show openB.size = 1 from rfl] at p1 p2
    split at h
    · rename_i h2
      have p3 := pre_take h2
      have p4 := preL_len h2
      rw [show clB.size = 1 from rfl] at p3 p4
      rw [List.length_drop] at p4
      simp only [RV.ok.injEq] at h
      obtain ⟨rfl, rfl⟩ := h
      refine ⟨?_, by decide +kernel, by decide, by omega, ⟨⟨by show i64B 0; unfold i64B; decide, by show eE.size ≤ _; decide⟩, fun a ha => by cases ha⟩⟩
      rw [show (2 : Nat) = 1 + 1 from rfl, take_split, p1, p3]
      decide +kernel
    · rename_i h2
      cases hr : listL 17 [] (l.drop 1) with
      | bad e => rw [hr] at h; cases h
      | ok res m =>
        rw [hr] at h
        simp only [listV, RV.ok.injEq] at h
        obtain ⟨rfl, rfl⟩ := h
        obtain ⟨new, k1, k2, k3, k4, k5, k6, k7⟩ := listL_print 17 [] _ res m (by simp) hr
        rw [List.nil_append] at k2
        subst k2
        rw [List.length_drop] at k7
        have hv : validV ⟨⟨6, 0, 0, eE⟩, res⟩ = true := by
          rw [validV_list rfl]
          have : res.all validA = true := List.all_eq_true.2 (fun a ha => (k4 a ha).1)
          show (isA ⟨6, 0, 0, eE⟩ false false false && decide ((res.length : Int) ≤ 16) && res.all validA) = true
          rw [this, decide_eq_true (by omega)]
          decide +kernel
        refine ⟨?_, hv, by omega, by omega, ⟨⟨by show i64B 0; unfold i64B; decide, by show eE.size ≤ _; decide⟩, fun a ha => (k4 a ha).2⟩⟩
        unfold printV
        rw [if_pos hv, if_pos rfl, ByteArray.data_append, ByteArray.data_append, Array.toList_append, Array.toList_append, take_split, p1, k3]
        show [91] ++ Lib.join ((res.map printA).map (·.data.toList)) [44, 32] ++ [93] = [91] ++ _
        rw [List.map_map, List.append_assoc]
        rfl
  · cases hr : atomL l with
    | bad e => rw [hr] at h; cases h
    | ok a m =>
      rw [hr] at h
      simp only [atomV, RV.ok.injEq] at h
      obtain ⟨rfl, rfl⟩ := h
      obtain ⟨q1, q2, q3, q4⟩ := atom_print hr
      have hk : a.k ≠ 6 := by
        intro h6
        unfold validA at q2
        rw [h6] at q2
        simp at q2
      have hv : validV ⟨a, []⟩ = true := by
        rw [validV_atom hk]
        show (validA a && _) = true
        rw [q2]; rfl
      refine ⟨?_, hv, q3, atomL_len hr, ⟨q4, fun a ha => by cases ha⟩⟩
      unfold printV
      rw [if_pos hv, if_neg hk]
      exact q1
theorem textL_bad : ∀ (f : Nat) (acc l : List UInt8) (e : Int), textL f acc l = .bad e → e = 3 ∨ e = 11
  | 0, _, _, e, h => by simp only [textL, RT.bad.injEq] at h; omega
  | f + 1, acc, l, e, h => by
    unfold textL at h
    split at h
    · simp only [RT.bad.injEq] at h; omega
    · cases h
    · split at h
      · simp only [RT.bad.injEq] at h; omega
      · rename_i c n _ _
        cases hr : textL f (acc ++ [c]) (l.drop n) with
        | ok t m => rw [hr] at h; cases h
        | bad e2 =>
          rw [hr] at h
          simp only [RT.add, RT.bad.injEq] at h
          have := textL_bad f _ _ _ hr
          omega
theorem atomL_bad {l : List UInt8} {e : Int} (h : atomL l = .bad e) : e = 3 ∨ e = 11 := by
  unfold atomL at h
  repeat' split at h
  all_goals first
    | (cases h; done)
    | (simp only [RA.bad.injEq] at h; omega)
    | skip
  all_goals
    first
    | (cases hr : textL 257 [] (l.drop 1) with
       | ok t m => rw [hr] at h; cases h
       | bad e2 =>
         rw [hr] at h
         simp only [textA, RA.bad.injEq] at h
         have := textL_bad _ _ _ _ hr
         omega)
    | (cases hr : textL 257 [] (l.drop 2) with
       | ok t m => rw [hr] at h; cases h
       | bad e2 =>
         rw [hr] at h
         simp only [textA, RA.bad.injEq] at h
         have := textL_bad _ _ _ _ hr
         omega)
theorem listL_bad : ∀ (f : Nat) (acc : List AtomD) (l : List UInt8) (e : Int), listL f acc l = .bad e → e = 3 ∨ e = 11
  | 0, _, _, e, h => by simp only [listL, RL.bad.injEq] at h; omega
  | f + 1, acc, l, e, h => by
    unfold listL at h
    split at h
    · simp only [RL.bad.injEq] at h; omega
    · cases hr : atomL l with
      | bad e2 =>
        rw [hr] at h
        simp only [listN, RL.bad.injEq] at h
        have := atomL_bad hr
        omega
      | ok a j =>
        rw [hr] at h
        simp only [listN] at h
        split at h
        · cases h
        · split at h
          · cases hr2 : listL f (acc ++ [a]) ((l.drop j).drop 2) with
            | ok t m => rw [hr2] at h; cases h
            | bad e2 =>
              rw [hr2] at h
              simp only [RL.add, RL.bad.injEq] at h
              have := listL_bad f _ _ _ hr2
              omega
          · simp only [RL.bad.injEq] at h; omega
theorem readL_bad {l : List UInt8} {e : Int} (h : readL l = .bad e) : e = 3 ∨ e = 11 := by
  unfold readL at h
  split at h
  · split at h
    · cases h
    · cases hr : listL 17 [] (l.drop 1) with
      | ok t m => rw [hr] at h; cases h
      | bad e2 =>
        rw [hr] at h
        simp only [listV, RV.bad.injEq] at h
        have := listL_bad _ _ _ _ hr
        omega
  · cases hr : atomL l with
    | ok t m => rw [hr] at h; cases h
    | bad e2 =>
      rw [hr] at h
      simp only [atomV, RV.bad.injEq] at h
      have := atomL_bad hr
      omega
end Go.Proofs.YtjihcldhjpdnmaaDoor.AM
namespace Go.Proofs.YtjihcldhjpdnmaaDoor.AM
open Go.RowKit
set_option linter.unusedSimpArgs false
set_option linter.unusedVariables false
set_option maxRecDepth 10000
set_option maxHeartbeats 0
theorem hexI_hexB (k : Nat) (h : k < 16) : hexI (hexB k) = (k : Int) := by
  have : ∀ n : Nat, n < 16 → hexI (hexB n) = (n : Int) := by decide +kernel
  exact this k h
theorem byteL_of (c : UInt8) (r : List UInt8) : byteL (escB c ++ r) = some (some c, (escB c).length) := by
  have hb := c.toNat_lt
  unfold escB
  split
  · rename_i h
    show byteL (92 :: c :: r) = _
    rw [byte_e1 92 c r rfl (by omega)]; rfl
  · rename_i h
    split
    · rename_i h2
      show byteL (92 :: 120 :: hexB (c.toNat / 16) :: hexB (c.toNat % 16) :: r) = _
      have x1 := hexI_hexB (c.toNat / 16) (by omega)
      have x2 := hexI_hexB (c.toNat % 16) (by omega)
      rw [byte_e5 92 120 _ _ r rfl rfl (by rw [x1, x2]; omega), x1, x2]
      have e : (16 * ((c.toNat / 16 : Nat) : Int) + ((c.toNat % 16 : Nat) : Int)).toNat = c.toNat := by omega
      rw [e]
      simp
    · rename_i h2
      show byteL (c :: r) = _
      rw [byte_p c r (by omega) (by omega) (by omega)]; rfl
theorem textL_back : ∀ (t : List UInt8) (f : Nat) (acc r : List UInt8), t.length < f → acc.length + t.length ≤ 256 → textL f acc (t.flatMap escB ++ 34 :: r) = .ok (acc ++ t) ((t.flatMap escB).length + 1)
  | _, 0, _, _, h, _ => by omega
  | [], f + 1, acc, r, _, _ => by
    unfold textL
    rw [List.flatMap_nil, List.nil_append, byte_q 34 r rfl]
    simp
  | c :: t, f + 1, acc, r, hf, h => by
    rw [List.length_cons] at hf h
    unfold textL
    rw [List.flatMap_cons, List.append_assoc, byteL_of]
    simp only
    rw [if_neg (by omega), List.drop_left' rfl, textL_back t f _ r (by omega) (by simp; omega)]
    simp [RT.add]
    omega
def mapR (rs : List (List Dat)) : List UInt8 := rs.map fun r => UInt8.ofNat (unB r).toNat
theorem hexU_rows : ∀ (k u : Nat) (acc : List (List Dat)), hexU 0 (mapR (hexRows k u acc)) = hexU (u % 16 ^ k) (mapR acc)
  | 0, u, acc => by rw [Nat.pow_zero, Nat.mod_one]; rfl
  | k + 1, u, acc => by
    rw [hexRows, hexU_rows k]
    show hexU (u / 16 % 16 ^ k) (hexB (u % 16) :: mapR acc) = _
    simp only [hexU]
    rw [hexI_hexB _ (by omega), if_neg (by omega)]
    congr 1
    rw [Nat.pow_succ, Nat.mul_comm (16 ^ k) 16, Nat.mod_mul]
    omega
theorem parseF_back (u : Nat) (h : u < 18446744073709551616) (hc : canF u = u) : parseF (hexS u).data.toList = some u := by
  have hl : (hexS u).data.toList.length = 16 := by rw [Array.length_toList]; exact hexS_size u
  unfold parseF
  rw [if_pos hl]
  have e : (hexS u).data.toList = mapR (hexRows 16 (canF u) []) := by unfold hexS strR mapR; simp
  have hx : hexU 0 (hexS u).data.toList = some u := by
    rw [e, hexU_rows, hc, Nat.mod_eq_of_lt (by omega)]
    rfl
  rw [hx]
  simp [hc]
theorem dgB_of (k : Nat) (h : k < 10) : dgB (UInt8.ofNat (48 + k)) = true ∧ (UInt8.ofNat (48 + k)).toNat = 48 + k := by
  have : ∀ n : Nat, n < 10 → dgB (UInt8.ofNat (48 + n)) = true ∧ (UInt8.ofNat (48 + n)).toNat = 48 + n := by decide +kernel
  exact this k h
theorem dec_all (u : Nat) : ∀ c ∈ Lib.decDigits u, dgB c = true := by
  induction u using Nat.strongRecOn with
  | _ u ih =>
    intro c hc
    rw [Lib.decDigits] at hc
    split at hc
    · rename_i h
      rw [List.mem_singleton.1 hc]
      exact (dgB_of u h).1
    · rename_i h
      rcases List.mem_append.1 hc with hc | hc
      · exact ih (u / 10) (by omega) c hc
      · rw [List.mem_singleton.1 hc]
        exact (dgB_of (u % 10) (by omega)).1
theorem dec_ne (u : Nat) : Lib.decDigits u ≠ [] := by
  rw [Lib.decDigits]
  split
  · simp
  · simp
theorem pu_snoc : ∀ (l : List UInt8) (acc v : Nat) (c : UInt8), Lib.parseUint10 acc l = .ok v → (48 ≤ c.toNat ∧ c.toNat ≤ 57) → v * 10 + (c.toNat - 48) < 18446744073709551616 → Lib.parseUint10 acc (l ++ [c]) = .ok (v * 10 + (c.toNat - 48))
  | [], acc, v, c, h, hc, hv => by
    simp only [Lib.parseUint10] at h
    injection h with h
    subst h
    rw [List.nil_append]
    simp only [Lib.parseUint10]
    rw [if_pos hc, if_neg (by omega), if_neg (by omega)]
  | d :: l, acc, v, c, h, hc, hv => by
    rw [List.cons_append]
    simp only [Lib.parseUint10] at h ⊢
    split at h
    · rename_i h1
      split at h
      · cases h
      · rename_i h2
        split at h
        · cases h
        · rename_i h3
          rw [if_pos h1, if_neg h2, if_neg h3]
          exact pu_snoc l _ v c h hc hv
    · cases h
theorem dec_parse (u : Nat) (hu : u < 18446744073709551616) : Lib.parseUint10 0 (Lib.decDigits u) = .ok u := by
  induction u using Nat.strongRecOn with
  | _ u ih =>
    rw [Lib.decDigits]
    split
    · rename_i h
      have hd := (dgB_of u h).2
      have := pu_snoc [] 0 0 (UInt8.ofNat (48 + u)) rfl (by omega) (by omega)
      rw [List.nil_append] at this
      rw [this, hd]
      congr 1
      omega
    · rename_i h
      have hd := (dgB_of (u % 10) (by omega)).2
      rw [pu_snoc _ 0 (u / 10) (UInt8.ofNat (48 + u % 10)) (ih (u / 10) (by omega) (by omega)) (by omega) (by omega), hd]
      congr 1
      omega
theorem dec_mag (u : Nat) (hu : u < 18446744073709551616) : Lib.parseMag (Lib.decDigits u) = .ok u := by
  unfold Lib.parseMag
  rw [if_neg (dec_ne u)]
  exact dec_parse u hu
theorem dg_bd {c : UInt8} (h : dgB c = true) : 48 ≤ c.toNat ∧ c.toNat ≤ 57 := by
  unfold dgB at h
  simp only [Bool.and_eq_true, decide_eq_true_eq] at h
  omega
theorem itoa_of_neg {n : Int} (h : n < 0) : Lib.itoa n = 45 :: Lib.decDigits n.natAbs := by unfold Lib.itoa; rw [if_pos h]
theorem itoa_of_pos {n : Int} (h : ¬ n < 0) : Lib.itoa n = Lib.decDigits n.toNat := by unfold Lib.itoa; rw [if_neg h]
theorem atoi_itoa {n : Int} (h : i64B n) : Lib.atoiAll (Lib.itoa n) = .ok n := by
  unfold i64B at h
  by_cases hn : n < 0
  · rw [itoa_of_neg hn, Lib.atoiAll_minus, dec_mag _ (by omega)]
    simp only [Lib.signed]
    rw [if_neg (by omega)]
    congr 1
    omega
  · rw [itoa_of_pos hn]
    cases hd : Lib.decDigits n.toNat with
    | nil => exact absurd hd (dec_ne _)
    | cons c r =>
      have hc := dg_bd (dec_all n.toNat c (by rw [hd]; exact List.mem_cons_self))
      rw [Lib.atoiAll_plain c r (by omega) (by omega), ← hd, dec_mag _ (by omega)]
      simp only [Lib.signless]
      rw [if_neg (by omega)]
      congr 1
      omega
theorem takeW_itoa (n : Int) (r : List UInt8) (hr : r.takeWhile dgB = []) : takeW (Lib.itoa n ++ r) = Lib.itoa n := by
  by_cases hn : n < 0
  · rw [itoa_of_neg hn, List.cons_append]
    simp only [takeW]
    rw [if_pos (show UInt8.toNat 45 = 45 from rfl), List.takeWhile_append_of_pos (dec_all _), hr, List.append_nil]
  · rw [itoa_of_pos hn]
    cases hd : Lib.decDigits n.toNat with
    | nil => exact absurd hd (dec_ne _)
    | cons c t =>
      have hc := dg_bd (dec_all n.toNat c (by rw [hd]; exact List.mem_cons_self))
      rw [List.cons_append]
      simp only [takeW]
      rw [if_neg (by omega), ← List.cons_append, ← hd, List.takeWhile_append_of_pos (dec_all _), hr, List.append_nil]
theorem wholeL_back {n : Int} (h : i64B n) (r : List UInt8) (hr : r.takeWhile dgB = []) : wholeL (Lib.itoa n ++ r) = some (n, (Lib.itoa n).length) := by
  unfold wholeL
  rw [takeW_itoa n r hr, atoi_itoa h]
  simp
theorem preL_no {c : UInt8} {l : List UInt8} {t : ByteArray} (ht : ∃ d ds, t.data.toList = d :: ds ∧ d ≠ c) : preL (c :: l) t = false := by
  obtain ⟨d, ds, e, hne⟩ := ht
  unfold preL Lib.hasPrefix
  rw [e]
  simp [List.isPrefixOf, hne]
theorem preL_no2 {b c : UInt8} {l : List UInt8} {t : ByteArray} (ht : ∃ d ds, t.data.toList = b :: d :: ds ∧ d ≠ c) : preL (b :: c :: l) t = false := by
  obtain ⟨d, ds, e, hne⟩ := ht
  unfold preL Lib.hasPrefix
  rw [e]
  simp [List.isPrefixOf, hne]
theorem preL_yes (t : ByteArray) (r : List UInt8) : preL (t.data.toList ++ r) t = true := by
  unfold preL Lib.hasPrefix
  rw [List.isPrefixOf_iff_prefix]
  exact List.prefix_append _ _
end Go.Proofs.YtjihcldhjpdnmaaDoor.AM
namespace Go.Proofs.YtjihcldhjpdnmaaDoor.AM
open Go.RowKit
set_option linter.unusedSimpArgs false
set_option linter.unusedVariables false
set_option maxRecDepth 10000
set_option maxHeartbeats 0
theorem isA_n {a : AtomD} {c d : Bool} (h : isA a false c d = true) : a.n = 0 := by
  unfold isA at h
  simp only [Bool.and_eq_true, Bool.false_or, beq_iff_eq] at h
  exact h.1.1
theorem isA_f {a : AtomD} {b d : Bool} (h : isA a b false d = true) : a.f = 0 := by
  unfold isA at h
  simp only [Bool.and_eq_true, Bool.false_or, beq_iff_eq] at h
  have := h.1.2
  omega
theorem isA_s {a : AtomD} {b c : Bool} (h : isA a b c false = true) : a.s = eE := by
  unfold isA at h
  simp only [Bool.and_eq_true, Bool.false_or] at h
  by_cases e : a.s = eE
  · exact e
  · rw [strEq_f e] at h
    exact absurd h.2 (by simp)
theorem validA_inv {k n : Int} {f : Nat} {s : ByteArray} (h : validA ⟨k, n, f, s⟩ = true) :
    (k = 0 ∧ n = 0 ∧ f = 0 ∧ s = eE) ∨ (k = 1 ∧ n = 0 ∧ f = 0 ∧ s = eE) ∨ (k = 1 ∧ n = 1 ∧ f = 0 ∧ s = eE) ∨ (k = 2 ∧ f = 0 ∧ s = eE) ∨ (k = 3 ∧ n = 0 ∧ s = eE ∧ canF f = f) ∨ (k = 4 ∧ n = 0 ∧ f = 0 ∧ s.size ≤ 256) ∨ (k = 5 ∧ n = 0 ∧ f = 0 ∧ s.size ≤ 256) := by
  unfold validA at h
  simp only at h
  split at h
  · exact .inl ⟨by assumption, isA_n h, isA_f h, isA_s h⟩
  · split at h
    · simp only [Bool.and_eq_true, Bool.or_eq_true, beq_iff_eq] at h
      rcases h.2 with h2 | h2
      · exact .inr (.inl ⟨by assumption, h2, isA_f h.1, isA_s h.1⟩)
      · exact .inr (.inr (.inl ⟨by assumption, h2, isA_f h.1, isA_s h.1⟩))
    · split at h
      · exact .inr (.inr (.inr (.inl ⟨by assumption, isA_f h, isA_s h⟩)))
      · split at h
        · simp only [Bool.and_eq_true, beq_iff_eq] at h
          exact .inr (.inr (.inr (.inr (.inl ⟨by assumption, isA_n h.1, isA_s h.1, by omega⟩))))
        · split at h
          · rename_i hk
            simp only [Bool.and_eq_true, decide_eq_true_eq] at h
            rcases hk with hk | hk
            · exact .inr (.inr (.inr (.inr (.inr (.inl ⟨hk, isA_n h.1, isA_f h.1, by omega⟩)))))
            · exact .inr (.inr (.inr (.inr (.inr (.inr ⟨hk, isA_n h.1, isA_f h.1, by omega⟩)))))
          · cases h
theorem npre {l : List UInt8} {t : ByteArray} (h : preL l t = false) : ¬ preL l t = true := by rw [h]; simp
theorem preL_no' (x : ByteArray) (r : List UInt8) (t : ByteArray) (c : UInt8) (l : List UInt8) (hx : x.data.toList = c :: l) (ht : ∃ d ds, t.data.toList = d :: ds ∧ d ≠ c) : preL (x.data.toList ++ r) t = false := by rw [hx, List.cons_append]; exact preL_no ht
theorem itoa_head (n : Int) : ∃ c l, Lib.itoa n = c :: l ∧ (c.toNat = 45 ∨ ∀ x ∈ c :: l, dgB x = true) := by
  by_cases hn : n < 0
  · exact ⟨45, _, itoa_of_neg hn, .inl rfl⟩
  · rw [itoa_of_pos hn]
    cases hd : Lib.decDigits n.toNat with
    | nil => exact absurd hd (dec_ne _)
    | cons c t => exact ⟨c, t, rfl, .inr (fun x hx => dec_all n.toNat x (by rw [hd]; exact hx))⟩
theorem bs_back (s : ByteArray) : bs s.data.toList = s := by
  apply ByteArray.ext
  show s.data.toList.toArray = s.data
  exact Array.toArray_toList
theorem atomL_back : ∀ (a : AtomD), validA a = true → i64B a.n → a.f < 18446744073709551616 → ∀ (r : List UInt8), r.takeWhile dgB = [] → (r.head? ≠ some 102 ∨ pAL a ≠ [48]) →
    atomL (pAL a ++ r) = .ok a (pAL a).length ∧ ∃ c l, pAL a = c :: l ∧ c ≠ 91 ∧ c ≠ 93 := by
  rintro ⟨k, n, f, s⟩ h hn hf r hr h0
  rcases validA_inv h with ⟨rfl, rfl, rfl, rfl⟩ | ⟨rfl, rfl, rfl, rfl⟩ | ⟨rfl, rfl, rfl, rfl⟩ | ⟨rfl, rfl, rfl⟩ | ⟨rfl, rfl, rfl, hc⟩ | ⟨rfl, rfl, rfl, hs⟩ | ⟨rfl, rfl, rfl, hs⟩
  · have e : pAL ⟨0, 0, 0, eE⟩ = nullB.data.toList := by decide +kernel
    rw [e]
    refine ⟨?_, 110, [117, 108, 108], rfl, by decide, by decide⟩
    unfold atomL
    rw [if_pos (preL_yes nullB r)]
    rfl
  · have e : pAL ⟨1, 0, 0, eE⟩ = falseB.data.toList := by decide +kernel
    rw [e]
    refine ⟨?_, 102, [97, 108, 115, 101], rfl, by decide, by decide⟩
    unfold atomL
    rw [if_neg (npre (preL_no' falseB r nullB 102 [97, 108, 115, 101] rfl ⟨110, _, rfl, by decide⟩)), if_neg (npre (preL_no' falseB r trueB 102 [97, 108, 115, 101] rfl ⟨116, _, rfl, by decide⟩)), if_pos (preL_yes falseB r)]
    rfl
  · have e : pAL ⟨1, 1, 0, eE⟩ = trueB.data.toList := by decide +kernel
    rw [e]
    refine ⟨?_, 116, [114, 117, 101], rfl, by decide, by decide⟩
    unfold atomL
    rw [if_neg (npre (preL_no' trueB r nullB 116 [114, 117, 101] rfl ⟨110, _, rfl, by decide⟩)), if_pos (preL_yes trueB r)]
    rfl
  · have e : pAL ⟨2, n, 0, eE⟩ = Lib.itoa n := rfl
    rw [e] at h0 ⊢
    have hw := wholeL_back hn r hr
    obtain ⟨c, l, hi, hc⟩ := itoa_head n
    rw [hi] at h0 hw ⊢
    have hc' : c.toNat = 45 ∨ (48 ≤ c.toNat ∧ c.toNat ≤ 57) := by
      rcases hc with hc | hc
      · exact .inl hc
      · exact .inr (dg_bd (hc c List.mem_cons_self))
    refine ⟨?_, c, l, rfl, fun q => by subst q; revert hc'; decide, fun q => by subst q; revert hc'; decide⟩
    rw [List.cons_append] at hw ⊢
    unfold atomL
    rw [if_neg (npre (preL_no ⟨110, _, rfl, fun q => by subst q; revert hc'; decide⟩)), if_neg (npre (preL_no ⟨116, _, rfl, fun q => by subst q; revert hc'; decide⟩)), if_neg (npre (preL_no ⟨102, _, rfl, fun q => by subst q; revert hc'; decide⟩))]
    have hz : preL (c :: (l ++ r)) zfB = false := by
      by_cases h48 : c = 48
      · subst h48
        cases l with
        | nil =>
          cases r with
          | nil => decide +kernel
          | cons d r =>
            rw [List.nil_append]
            refine preL_no2 ⟨102, [], rfl, fun q => ?_⟩
            subst q
            rcases h0 with h0 | h0
            · exact h0 rfl
            · exact h0 rfl
        | cons d l =>
          rw [List.cons_append]
          refine preL_no2 ⟨102, [], rfl, fun q => ?_⟩
          subst q
          rcases hc with hc | hc
          · exact absurd hc (by decide)
          · have := hc 102 (by simp)
            exact absurd this (by decide +kernel)
      · exact preL_no ⟨48, [102], rfl, fun q => h48 q.symm⟩
    rw [if_neg (npre hz), if_neg (npre (preL_no ⟨34, _, rfl, fun q => by subst q; revert hc'; decide⟩)), if_neg (npre (preL_no ⟨120, _, rfl, fun q => by subst q; revert hc'; decide⟩)), hw]
  · have e : pAL ⟨3, 0, f, eE⟩ = 48 :: 102 :: (hexS f).data.toList := by
      show ((⟨#[48, 102]⟩ : ByteArray) ++ hexS f).data.toList = _
      rw [ByteArray.data_append, Array.toList_append]
      rfl
    have hl : (hexS f).data.toList.length = 16 := by rw [Array.length_toList]; exact hexS_size f
    have hp := parseF_back f hf hc
    rw [e]
    generalize (hexS f).data.toList = H at *
    refine ⟨?_, 48, _, rfl, by decide, by decide⟩
    rw [List.cons_append, List.cons_append]
    unfold atomL
    rw [if_neg (npre (preL_no ⟨110, _, rfl, by decide⟩)), if_neg (npre (preL_no ⟨116, _, rfl, by decide⟩)), if_neg (npre (preL_no ⟨102, _, rfl, by decide⟩)), if_pos (show preL (48 :: 102 :: (H ++ r)) zfB = true from preL_yes zfB (H ++ r)), if_neg (by simp; omega)]
    rw [show ((48 :: 102 :: (H ++ r)).drop 2).take 16 = H from List.take_left' hl, hp]
    simp [hl]
  · have e : pAL ⟨4, 0, 0, s⟩ = 34 :: (s.data.toList.flatMap escB ++ [34]) := by
      show quoteL s.data.toList = _
      simp [quoteL]
    have hlen : s.data.toList.length = s.size := Array.length_toList
    have ht := textL_back s.data.toList 257 [] r (by omega) (by simp; omega)
    rw [e]
    refine ⟨?_, 34, _, rfl, by decide, by decide⟩
    rw [List.cons_append, List.append_assoc, List.singleton_append]
    unfold atomL
    rw [if_neg (npre (preL_no ⟨110, _, rfl, by decide⟩)), if_neg (npre (preL_no ⟨116, _, rfl, by decide⟩)), if_neg (npre (preL_no ⟨102, _, rfl, by decide⟩)), if_neg (npre (preL_no ⟨48, _, rfl, by decide⟩)), if_pos (show preL (34 :: (s.data.toList.flatMap escB ++ 34 :: r)) quB = true from preL_yes quB _), List.drop_succ_cons, List.drop_zero, ht]
    simp only [textA, List.nil_append, bs_back, List.length_cons, List.length_append, List.length_nil]
    congr 1
    omega
  · have e : pAL ⟨5, 0, 0, s⟩ = 120 :: 34 :: (s.data.toList.flatMap escB ++ [34]) := by
      show ((⟨#[120]⟩ : ByteArray) ++ quoteS s).data.toList = _
      rw [ByteArray.data_append, Array.toList_append]
      show [120] ++ quoteL s.data.toList = _
      simp [quoteL]
    have hlen : s.data.toList.length = s.size := Array.length_toList
    have ht := textL_back s.data.toList 257 [] r (by omega) (by simp; omega)
    rw [e]
    refine ⟨?_, 120, _, rfl, by decide, by decide⟩
    rw [List.cons_append, List.cons_append, List.append_assoc, List.singleton_append]
    unfold atomL
    rw [if_neg (npre (preL_no ⟨110, _, rfl, by decide⟩)), if_neg (npre (preL_no ⟨116, _, rfl, by decide⟩)), if_neg (npre (preL_no ⟨102, _, rfl, by decide⟩)), if_neg (npre (preL_no ⟨48, _, rfl, by decide⟩)), if_neg (npre (preL_no ⟨34, _, rfl, by decide⟩)), if_pos (show preL (120 :: 34 :: (s.data.toList.flatMap escB ++ 34 :: r)) xqB = true from preL_yes xqB _), List.drop_succ_cons, List.drop_succ_cons, List.drop_zero, ht]
    simp only [textA, List.nil_append, bs_back, List.length_cons, List.length_append, List.length_nil]
    congr 1
    omega
theorem listL_back : ∀ (xs : List AtomD) (f : Nat) (acc : List AtomD) (r : List UInt8), xs ≠ [] → acc.length + xs.length ≤ 16 → xs.length < f → (∀ a ∈ xs, validA a = true ∧ i64B a.n ∧ a.f < 18446744073709551616) →
    listL f acc (Lib.join (xs.map pAL) [44, 32] ++ 93 :: r) = .ok (acc ++ xs) ((Lib.join (xs.map pAL) [44, 32]).length + 1)
  | [], _, _, _, h, _, _, _ => absurd rfl h
  | _, 0, _, _, _, _, h, _ => by omega
  | [a], f + 1, acc, r, _, h16, hf, ha => by
    obtain ⟨h1, h2, h3⟩ := ha a (by simp)
    have hb := (atomL_back a h1 h2 h3 (93 :: r) (by rw [List.takeWhile_cons, if_neg (by decide +kernel)]) (.inl (by simp))).1
    simp only [List.length_cons, List.length_nil] at h16
    unfold listL
    rw [if_neg (by omega), List.map_cons, List.map_nil, Lib.join_one, hb]
    simp only [listN]
    rw [List.drop_left' rfl, if_pos (show preL (93 :: r) clB = true from preL_yes clB r)]
  | a :: b :: xs, f + 1, acc, r, _, h16, hf, ha => by
    obtain ⟨h1, h2, h3⟩ := ha a (by simp)
    simp only [List.length_cons] at h16 hf
    have ih := listL_back (b :: xs) f (acc ++ [a]) r (by simp) (by simp; omega) (by simp; omega) (fun x hx => ha x (List.mem_cons_of_mem _ hx))
    rw [List.map_cons] at ih
    have hb := (atomL_back a h1 h2 h3 ([44, 32] ++ (Lib.join (pAL b :: xs.map pAL) [44, 32] ++ 93 :: r)) (by rw [List.cons_append, List.takeWhile_cons, if_neg (by decide +kernel)]) (.inl (by simp))).1
    unfold listL
    rw [if_neg (by omega), List.map_cons, List.map_cons, join_two, List.append_assoc, List.append_assoc, hb]
    simp only [listN]
    generalize Lib.join (pAL b :: xs.map pAL) [44, 32] = J at *
    rw [List.drop_left' rfl, if_neg (npre (preL_no' ⟨#[44, 32]⟩ (J ++ 93 :: r) clB 44 [32] rfl ⟨93, _, rfl, by decide⟩)), if_pos (show preL ([44, 32] ++ (J ++ 93 :: r)) cmB = true from preL_yes cmB _), show List.drop 2 ([44, 32] ++ (J ++ 93 :: r)) = J ++ 93 :: r from rfl, ih]
    simp [RL.add]
    omega
theorem readL_back (v : ValD) (hv : validV v = true) (hk : i64B v.a.n ∧ v.a.f < 18446744073709551616) (hl : ∀ a ∈ v.l, i64B a.n ∧ a.f < 18446744073709551616) (r : List UInt8) (hr : r.takeWhile dgB = []) (h0 : r.head? ≠ some 102 ∨ (printV v).data.toList ≠ [48]) :
    readL ((printV v).data.toList ++ r) = .ok v (printV v).size ∧ 0 < (printV v).size := by
  have hsz : (printV v).size = (printV v).data.toList.length := Array.length_toList.symm
  rw [hsz]
  by_cases h6 : v.a.k = 6
  · have hp : (printV v).data.toList = 91 :: (Lib.join (v.l.map pAL) [44, 32] ++ [93]) := by
      unfold printV
      rw [if_pos hv, if_pos h6, ByteArray.data_append, ByteArray.data_append, Array.toList_append, Array.toList_append]
      show [91] ++ Lib.join ((v.l.map printA).map (·.data.toList)) [44, 32] ++ [93] = _
      rw [List.map_map]
      rfl
    rw [validV_list h6] at hv
    simp only [Bool.and_eq_true, decide_eq_true_eq] at hv
    have hn := isA_n hv.1.1
    have hf := isA_f hv.1.1
    have hs := isA_s hv.1.1
    have ha := List.all_eq_true.1 hv.2
    have h16 := hv.1.2
    clear h0 hk hsz
    obtain ⟨⟨k, n, f, s⟩, l⟩ := v
    simp only at *
    subst h6 hn hf hs
    rw [hp]
    refine ⟨?_, by simp⟩
    rw [List.cons_append, List.append_assoc, List.singleton_append]
    unfold readL
    rw [if_pos (show preL (91 :: (Lib.join (l.map pAL) [44, 32] ++ 93 :: r)) openB = true from preL_yes openB _), List.drop_succ_cons, List.drop_zero]
    cases l with
    | nil =>
      rw [List.map_nil, Lib.join_nil, List.nil_append, if_pos (show preL (93 :: r) clB = true from preL_yes clB r)]
      rfl
    | cons b xs =>
      have hb := listL_back (b :: xs) 17 [] r (by simp) (by simp at h16 ⊢; omega) (by simp at h16 ⊢; omega) (fun x hx => ⟨ha x hx, hl x hx⟩)
      obtain ⟨c, t, hc, c1, c2⟩ := (atomL_back b (ha b (by simp)) (hl b (by simp)).1 (hl b (by simp)).2 [] rfl (.inl (by simp))).2
      have hno : preL (Lib.join ((b :: xs).map pAL) [44, 32] ++ 93 :: r) clB = false := by
        rw [List.map_cons, hc]
        cases xs with
        | nil =>
          rw [List.map_nil, Lib.join_one, List.cons_append]
          exact preL_no ⟨93, [], rfl, fun q => c2 q.symm⟩
        | cons y ys =>
          rw [List.map_cons, join_two, List.cons_append, List.cons_append]
          exact preL_no ⟨93, [], rfl, fun q => c2 q.symm⟩
      rw [if_neg (npre hno), hb]
      simp only [listV, List.nil_append, List.length_cons, List.length_append, List.length_nil]
      congr 1
      omega
  · have hp : (printV v).data.toList = pAL v.a := by
      unfold printV
      rw [if_pos hv, if_neg h6]
    rw [validV_atom h6] at hv
    simp only [Bool.and_eq_true, beq_iff_eq] at hv
    have hnil : v.l = [] := List.length_eq_zero_iff.1 (by have := hv.2; omega)
    rw [hp] at h0 ⊢
    obtain ⟨h1, c, t, hc, c1, c2⟩ := atomL_back v.a hv.1 hk.1 hk.2 r hr h0
    refine ⟨?_, by rw [hc]; simp⟩
    unfold readL
    have hno : preL (pAL v.a ++ r) openB = false := by
      rw [hc, List.cons_append]
      exact preL_no ⟨91, [], rfl, fun q => c1 q.symm⟩
    rw [if_neg (npre hno), h1]
    obtain ⟨a, l⟩ := v
    simp only at hnil
    subst hnil
    rfl
end Go.Proofs.YtjihcldhjpdnmaaDoor.AM
namespace Go.Proofs.YtjihcldhjpdnmaaDoor.AM
open Go.RowKit
set_option linter.unusedSimpArgs false
set_option linter.unusedVariables false
set_option maxRecDepth 10000
set_option maxHeartbeats 0
abbrev uw (n : Nat) : AV := .lit (.int .u64 n)
def digB : ByteArray := ⟨#[48, 49, 50, 51, 52, 53, 54, 55, 56, 57]⟩
theorem dig_at (m : Nat) (h : m < 10) : digB.extract m (m + 1) = ⟨#[UInt8.ofNat (48 + m)]⟩ := by
  rcases (show m = 0 ∨ m = 1 ∨ m = 2 ∨ m = 3 ∨ m = 4 ∨ m = 5 ∨ m = 6 ∨ m = 7 ∨ m = 8 ∨ m = 9 by omega) with h | h | h | h | h | h | h | h | h | h <;> subst h <;> rfl
theorem tm10 (u : Nat) : (u : Int).tmod 10 = ((u % 10 : Nat) : Int) := by rw [Int.tmod_eq_emod_of_nonneg (Int.natCast_nonneg _)]; omega
theorem td10 (u : Nat) : (u : Int).tdiv 10 = ((u / 10 : Nat) : Int) := by rw [Int.tdiv_eq_ediv_of_nonneg (Int.natCast_nonneg _)]; omega
theorem u64_in (n : Int) (h0 : 0 ≤ n) (h1 : n < 18446744073709551616) : IntKind.u64.wrap n = n := by
  rw [IntKind.wrap_u64]; omega
abbrev SD (u : Nat) (s : ByteArray) (T : Nat) : St := ⟨[(0, uw u), (3, sv s)], [], T⟩
def ID (u0 : Nat) (n : Nat) (st : St) : Prop := ∃ u s T, n = u ∧ s.size * 9 + u ≤ u0 ∧ Lib.decDigits u ++ s.data.toList = Lib.decDigits u0 ∧ st = SD u s T
theorem one_size (x : UInt8) : (⟨#[x]⟩ : ByteArray).size = 1 := rfl
end Go.Proofs.YtjihcldhjpdnmaaDoor.AM
