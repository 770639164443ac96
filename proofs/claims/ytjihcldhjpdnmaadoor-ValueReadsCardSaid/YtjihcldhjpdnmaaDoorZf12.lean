/- Part 12 of the proof: words, contracts, plain laws. Laid by a program of this session (wip/tool/shake.py): what is needed of own and printed texts, in order. -/
import Derived.Test.YtjihcldhjpdnmaaDoorZf0
import Derived.Test.YtjihcldhjpdnmaaDoorZf1
import Derived.Test.YtjihcldhjpdnmaaDoorZf2
import Derived.Test.YtjihcldhjpdnmaaDoorZf3
import Derived.Test.YtjihcldhjpdnmaaDoorZf5
import Derived.Test.YtjihcldhjpdnmaaDoorZf6
import Derived.Test.YtjihcldhjpdnmaaDoorZf7
import Derived.Test.YtjihcldhjpdnmaaDoorZf8
import Derived.Test.YtjihcldhjpdnmaaDoorZf9
import Derived.Test.YtjihcldhjpdnmaaDoorZf10
import Derived.Test.YtjihcldhjpdnmaaDoorZf11
import Derived.Calls
import Derived.Lib.ItoaNum
import Derived.Orders
import Derived.Tactics
import Derived.Below
import Derived.Laws.Rows
import Derived.Laws.World
import Derived.Laws.CopyRow
import Derived.Lib.FrozenHead
import Derived.Deep.AppendSrc
import Derived.Deep.Upon
import Derived.Laws.BytesArg
import Derived.IntWalk
import Derived.Laws.Externs
import Derived.LoopN
import Derived.Scope
import Derived.Test.YtjihcldhjpdnmaaDoorProg
import Derived.KernelRfl
import Derived.MapKept
import Derived.Recover
import Derived.Laws.FloatBits
import Derived.WideLaws
import Derived.Lib.ItoaLen
import Derived.Lib.Join
import Derived.RegionTactic
import Derived.Lib.AppendIntMem
import Derived.Shelf.Strings.Builder1
import Derived.Shelf.Strings.Builder2
import Derived.Shelf.Strings.OnBuilder
import Derived.Shelf.Small.Strs
import Derived.Shelf.Small.Wraps
import Derived.Shelf.Strings.BuilderF
import Derived.Shelf.Strings.BuilderK
import Derived.Shelf.Strings.Builder2Cap
import Derived.Shelf.Strconv.Atoi
import Derived.Shelf.Strconv.Itoa0
import Derived.Shelf.Strconv.Itoa1
import Derived.Shelf.LaysM
import Derived.Shelf.Strconv.Itoa2
import Derived.Shelf.Strconv.Itoa3
import Derived.Shelf.Strconv.AtoiErrFast
import Derived.Shelf.Strconv.ParseIntEmpty
import Derived.Shelf.Strconv.AtoiFail
import Derived.Shelf.Strconv.Clone
import Derived.Shelf.Strconv.SyntaxError
import Derived.Shelf.LaysC
import Derived.Shelf.Strconv.ToError
import Derived.Shelf.Strconv.Lower
import Derived.Shelf.Strconv.ParseUint10
import Derived.Shelf.Strconv.ParseUint10Empty
import Derived.Shelf.Strconv.ParseUint10Any
import Derived.Shelf.Strconv.ParseInt10
import Derived.Shelf.Strconv.AtoiLong
import Derived.Shelf.Strconv.AtoiInnerAll
import Derived.Shelf.Strconv.RangeError
import Derived.Shelf.Strconv.ToErrorRange
import Derived.Shelf.Strconv.AtoiAll
import Derived.Shelf.Strings.Search1
import Derived.Shelf.Strings.Prefix
import Derived.Shelf.Strings.BuilderCap
import Derived.Shelf.Slices.Turned
import Derived.Ground.Names2Prog
import Derived.Shelf.Slices.SearchI
namespace Go.Proofs.YtjihcldhjpdnmaaDoor.AM
open Go.RowKit
set_option linter.unusedSimpArgs false
set_option linter.unusedVariables false
set_option maxRecDepth 10000
set_option maxHeartbeats 0
theorem c_rRead (s : ByteArray) (hs : s.size ≤ 1000000) : Pure Tryd.prog 22 [sv s] (readV (readL s.data.toList)) := by
  have b0 := c_begins s openB hs (by decide)
  have b1 := c_begins s opcB hs (by decide)
  have hA := c_rReadAtom s hs
  unfold readL
  by_cases h1 : preL s.data.toList openB = true
  · rw [if_pos h1]
    rw [h1] at b0
    rw [pre_two h1] at b1
    have p1 := preL_len h1
    rw [Array.length_toList, show openB.size = 1 from rfl] at p1
    have p1 : 1 ≤ s.size := p1
    by_cases h2 : preL (s.data.toList.drop 1) clB = true
    · rw [if_pos h2]
      rw [h2] at b1
      refine pure_res ?_ (aNil_le ⟨6, 0, 0, eE⟩ 2 0)
      refine pure_of_awp Tryd.func22 rfl rfl (by simp [Tryd.f22]) ?_; simp only [go_sem, ↓reduceIte, Nat.reduceEqDiff, Nat.reduceAdd, Nat.reduceLeDiff, Nat.reduceBEq, Nat.reduceMul, reduceCtorEq, Int.reduceLE, Int.reduceLT, Int.reduceAdd, Int.reduceSub, Int.reduceNeg, Int.reduceToNat, Int.reduceBEq]
      repeat' (first | refine awp_seq ?_ | refine awp_block ?_ | refine awp_round ?_ | refine awp_scope ?_ | refine awp_text rfl ?_ | refine awp_any rfl mix (by kernel_rfl) ?_ | (refine RunTo.unguard rfl rfl (fun hg => ?_) (fun hg => ?_) <;> ((try simp only [Bool.not_true, Bool.not_false, Bool.not_eq_true', Bool.not_eq_false', Bool.not_eq_eq_eq_not] at hg); (first | (cases hg) | (simp only [hg]) | skip))) | ((first | refine RunTo.plain rfl ?_ | refine RunTo.skipped rfl ?_ | refine RunTo.call (b0) Tryd.func57 rfl rfl rfl rfl rfl rfl rfl rfl ?_ | refine RunTo.call (b1) Tryd.func57 rfl rfl rfl rfl rfl rfl rfl rfl ?_); simp only [go_sem, ↓reduceIte, Nat.reduceEqDiff, Nat.reduceAdd, Nat.reduceLeDiff, Nat.reduceBEq, Nat.reduceMul, reduceCtorEq, Int.reduceLE, Int.reduceLT, Int.reduceAdd, Int.reduceSub, Int.reduceNeg, Int.reduceToNat, Int.reduceBEq]) | ((first | refine RunTo.nilA (by kernel_rfl) ?_ | refine RunTo.nilT ?_ | refine awp_skip ?_ | refine awp_exit ?_ | refine awp_label ?_); simp only [go_sem, ↓reduceIte, Nat.reduceEqDiff, Nat.reduceAdd, Nat.reduceLeDiff, Nat.reduceBEq, Nat.reduceMul, reduceCtorEq, Int.reduceLE, Int.reduceLT, Int.reduceAdd, Int.reduceSub, Int.reduceNeg, Int.reduceToNat, Int.reduceBEq]) | (refine awp_cond' rfl (of_decide_eq_true rfl) (fun hc => ?_) (fun hc => ?_) <;> ((try simp only [Bool.not_true, Bool.not_false, Bool.not_eq_true', Bool.not_eq_false', Bool.not_eq_eq_eq_not] at hc); (first | (cases hc) | (simp only [hc]) | skip))))
      all_goals (first | refine awp_ret ?_ | skip); refine ⟨(by first | exact .inl rfl | exact .inr rfl | exact .inr trivial | trivial), ?_⟩; simp only [go_sem, ↓reduceIte, Nat.reduceEqDiff, Nat.reduceAdd, Nat.reduceLeDiff, Nat.reduceBEq, Nat.reduceMul, reduceCtorEq, Int.reduceLE, Int.reduceLT, Int.reduceAdd, Int.reduceSub, Int.reduceNeg, Int.reduceToNat, Int.reduceBEq, retV, resL, resV, sealV, sealC, sealAll, Tryd.f22]
      all_goals rfl
    · rw [if_neg h2]
      rw [show preL (s.data.toList.drop 1) clB = false by simpa using h2] at b1
      cases hr : listL 17 [] (s.data.toList.drop 1) with
      | bad e =>
        refine pure_res ?_ (aNil_le ⟨0, 0, 0, eE⟩ 0 e)
        refine pure_of_awp Tryd.func22 rfl rfl (by simp [Tryd.f22]) ?_; simp only [go_sem, ↓reduceIte, Nat.reduceEqDiff, Nat.reduceAdd, Nat.reduceLeDiff, Nat.reduceBEq, Nat.reduceMul, reduceCtorEq, Int.reduceLE, Int.reduceLT, Int.reduceAdd, Int.reduceSub, Int.reduceNeg, Int.reduceToNat, Int.reduceBEq]
        repeat' (first | refine awp_seq ?_ | refine awp_block ?_ | refine awp_round ?_ | refine awp_scope ?_ | refine awp_text rfl ?_ | refine awp_any rfl mix (by kernel_rfl) ?_ | (refine RunTo.unguard rfl rfl (fun hg => ?_) (fun hg => ?_) <;> ((try simp only [Bool.not_true, Bool.not_false, Bool.not_eq_true', Bool.not_eq_false', Bool.not_eq_eq_eq_not] at hg); (first | (cases hg) | (simp only [hg]) | skip))) | ((first | refine RunTo.plain rfl ?_ | refine RunTo.skipped rfl ?_ | refine RunTo.call (b0) Tryd.func57 rfl rfl rfl rfl rfl rfl rfl rfl ?_ | refine RunTo.call (b1) Tryd.func57 rfl rfl rfl rfl rfl rfl rfl rfl ?_); simp only [go_sem, ↓reduceIte, Nat.reduceEqDiff, Nat.reduceAdd, Nat.reduceLeDiff, Nat.reduceBEq, Nat.reduceMul, reduceCtorEq, Int.reduceLE, Int.reduceLT, Int.reduceAdd, Int.reduceSub, Int.reduceNeg, Int.reduceToNat, Int.reduceBEq]) | ((first | refine RunTo.nilA (by kernel_rfl) ?_ | refine RunTo.nilT ?_ | refine awp_skip ?_ | refine awp_exit ?_ | refine awp_label ?_); simp only [go_sem, ↓reduceIte, Nat.reduceEqDiff, Nat.reduceAdd, Nat.reduceLeDiff, Nat.reduceBEq, Nat.reduceMul, reduceCtorEq, Int.reduceLE, Int.reduceLT, Int.reduceAdd, Int.reduceSub, Int.reduceNeg, Int.reduceToNat, Int.reduceBEq]) | (refine awp_cond' rfl (of_decide_eq_true rfl) (fun hc => ?_) (fun hc => ?_) <;> ((try simp only [Bool.not_true, Bool.not_false, Bool.not_eq_true', Bool.not_eq_false', Bool.not_eq_eq_eq_not] at hc); (first | (cases hc) | (simp only [hc]) | skip))))
        refine awp_weak (weak_nilbox (b := 8) (j := 4) (s := 55) (sz := 4) rfl rfl rfl) ?_
        simp only [go_sem, ↓reduceIte, Nat.reduceEqDiff, Nat.reduceAdd, Nat.reduceLeDiff, Nat.reduceBEq, Nat.reduceMul, reduceCtorEq, Int.reduceLE, Int.reduceLT, Int.reduceAdd, Int.reduceSub, Int.reduceNeg, Int.reduceToNat, Int.reduceBEq, List.set_cons_succ, List.set_cons_zero]
        refine awp_loopw (IN6 s (.bad e)) 17 (SN6 s 1 [] _ _) (weak_keep ⟨rfl, rfl, rfl, rfl, trivial⟩ ⟨rfl, rfl, rfl, trivial⟩ (Nat.le_refl _)) ⟨1, [], _, _, Nat.le_refl _, p1, by simp, rfl, by simp only [List.length_nil, Nat.sub_zero, Nat.sub_self]; rw [hr]; simp [RL.add], rfl⟩ ?_
        rintro n st ⟨k, acc, T, e8, h0k, hk, ha, rfl, hx, rfl⟩
        have ca := c_rReadAtom (s.extract k s.size) (by simp only [ByteArray.size_extract]; omega)
        rw [ext_end] at ca
        rw [show 17 - acc.length = (16 - acc.length) + 1 by omega] at hx
        unfold listL at hx
        have htk : List.take acc.length (acc.map AtomD.enc) = acc.map AtomD.enc := List.take_of_length_le (by simp)
        have hk' : (k ≤ s.size) = True := eq_true hk
        by_cases h16 : acc.length = 16
        · rw [if_pos h16] at hx
          simp only [RL.add, RL.bad.injEq] at hx
          subst hx
          have q := beq_t (show (acc.length : Int) = 16 by omega)
          repeat' (first | refine awp_seq ?_ | refine awp_block ?_ | refine awp_round ?_ | refine awp_scope ?_ | refine awp_text rfl ?_ | refine awp_any rfl mix (by kernel_rfl) ?_ | (refine RunTo.unguard rfl rfl (fun hg => ?_) (fun hg => ?_) <;> ((try simp only [Bool.not_true, Bool.not_false, Bool.not_eq_true', Bool.not_eq_false', Bool.not_eq_eq_eq_not] at hg); (first | (cases hg) | (simp only [hg]) | skip))) | ((first | refine RunTo.plain rfl ?_ | refine RunTo.skipped rfl ?_); simp only [go_sem, ↓reduceIte, Nat.reduceEqDiff, Nat.reduceAdd, Nat.reduceLeDiff, Nat.reduceBEq, Nat.reduceMul, reduceCtorEq, Int.reduceLE, Int.reduceLT, Int.reduceAdd, Int.reduceSub, Int.reduceNeg, Int.reduceToNat, Int.reduceBEq, q, List.length_map]) | ((first | refine RunTo.nilA (by kernel_rfl) ?_ | refine RunTo.nilT ?_ | refine awp_skip ?_ | refine awp_exit ?_ | refine awp_label ?_); simp only [go_sem, ↓reduceIte, Nat.reduceEqDiff, Nat.reduceAdd, Nat.reduceLeDiff, Nat.reduceBEq, Nat.reduceMul, reduceCtorEq, Int.reduceLE, Int.reduceLT, Int.reduceAdd, Int.reduceSub, Int.reduceNeg, Int.reduceToNat, Int.reduceBEq, q, List.length_map]) | (refine awp_cond' rfl (of_decide_eq_true rfl) (fun hc => ?_) (fun hc => ?_) <;> ((try simp only [Bool.not_true, Bool.not_false, Bool.not_eq_true', Bool.not_eq_false', Bool.not_eq_eq_eq_not] at hc); (first | (cases hc) | (simp only [hc]) | skip))))
          all_goals (first | refine awp_ret ?_ | skip); refine ⟨(by first | exact .inl rfl | exact .inr rfl | exact .inr trivial | trivial), ?_⟩; simp only [go_sem, ↓reduceIte, Nat.reduceEqDiff, Nat.reduceAdd, Nat.reduceLeDiff, Nat.reduceBEq, Nat.reduceMul, reduceCtorEq, Int.reduceLE, Int.reduceLT, Int.reduceAdd, Int.reduceSub, Int.reduceNeg, Int.reduceToNat, Int.reduceBEq, retV, resL, resV, sealV, sealC, sealAll, Tryd.f22]
          all_goals rfl
        · rw [if_neg h16] at hx
          have q := beq_f (show (acc.length : Int) ≠ 16 by omega)
          have c1 : ((acc.length + 1) * 40 ≤ 140737488355328) = True := eq_true (by omega)
          cases hr2 : atomL (s.data.toList.drop k) with
          | bad e1 =>
            rw [hr2] at hx ca
            simp only [RL.add, listN, RL.bad.injEq] at hx
            subst hx
            obtain ⟨a, z, ca⟩ := ca
            have hb := atomL_bad hr2
            have hne := beq_f (show e ≠ 0 by omega)
            repeat' (first | refine awp_seq ?_ | refine awp_block ?_ | refine awp_round ?_ | refine awp_scope ?_ | refine awp_text rfl ?_ | refine awp_any rfl mix (by kernel_rfl) ?_ | (refine RunTo.unguard rfl rfl (fun hg => ?_) (fun hg => ?_) <;> ((try simp only [Bool.not_true, Bool.not_false, Bool.not_eq_true', Bool.not_eq_false', Bool.not_eq_eq_eq_not] at hg); (first | (cases hg) | (simp only [hg]) | skip))) | ((first | refine RunTo.plain rfl ?_ | refine RunTo.skipped rfl ?_ | refine RunTo.call (ca) Tryd.func58 rfl rfl rfl rfl rfl rfl rfl rfl ?_); simp only [go_sem, ↓reduceIte, Nat.reduceEqDiff, Nat.reduceAdd, Nat.reduceLeDiff, Nat.reduceBEq, Nat.reduceMul, reduceCtorEq, Int.reduceLE, Int.reduceLT, Int.reduceAdd, Int.reduceSub, Int.reduceNeg, Int.reduceToNat, Int.reduceBEq, q, hk', Nat.le_refl, AtomD.av, bne, hne, Bool.not_true, Bool.not_false, List.length_map]) | ((first | refine RunTo.nilA (by kernel_rfl) ?_ | refine RunTo.nilT ?_ | refine awp_skip ?_ | refine awp_exit ?_ | refine awp_label ?_); simp only [go_sem, ↓reduceIte, Nat.reduceEqDiff, Nat.reduceAdd, Nat.reduceLeDiff, Nat.reduceBEq, Nat.reduceMul, reduceCtorEq, Int.reduceLE, Int.reduceLT, Int.reduceAdd, Int.reduceSub, Int.reduceNeg, Int.reduceToNat, Int.reduceBEq, q, hk', Nat.le_refl, AtomD.av, bne, hne, Bool.not_true, Bool.not_false, List.length_map]) | (refine awp_cond' rfl (of_decide_eq_true rfl) (fun hc => ?_) (fun hc => ?_) <;> ((try simp only [Bool.not_true, Bool.not_false, Bool.not_eq_true', Bool.not_eq_false', Bool.not_eq_eq_eq_not] at hc); (first | (cases hc) | (simp only [hc]) | skip))))
            all_goals (first | refine awp_ret ?_ | skip); refine ⟨(by first | exact .inl rfl | exact .inr rfl | exact .inr trivial | trivial), ?_⟩; simp only [go_sem, ↓reduceIte, Nat.reduceEqDiff, Nat.reduceAdd, Nat.reduceLeDiff, Nat.reduceBEq, Nat.reduceMul, reduceCtorEq, Int.reduceLE, Int.reduceLT, Int.reduceAdd, Int.reduceSub, Int.reduceNeg, Int.reduceToNat, Int.reduceBEq, retV, resL, resV, sealV, sealC, sealAll, Tryd.f22]
            all_goals rfl
          | ok a j =>
            have hj := atomL_len hr2
            rw [List.length_drop, Array.length_toList] at hj
            have hj2 : j ≤ s.size - k := hj
            rw [hr2] at hx ca
            have ca : Pure _ _ _ (.tup [a.av, iv j, iv 0]) := ca
            simp only [listN, List.drop_drop] at hx
            have hkj : (k + j ≤ s.size) = True := eq_true (by omega)
            have wkj : IntKind.i64.wrap ((k : Int) + (j : Int)) = ((k + j : Nat) : Int) := by rw [IntWalk.i64_in _ (by omega)]; omega
            have wk1 : IntKind.i64.wrap (((k + j : Nat) : Int) + 1) = ((k + j + 1 : Nat) : Int) := wrap_succ (by omega)
            have wk2 : IntKind.i64.wrap (((k + j : Nat) : Int) + 2) = ((k + j + 2 : Nat) : Int) := by rw [IntWalk.i64_in _ (by omega)]; omega
            have g1 := c_begins (s.extract (k + j) s.size) clB (by simp only [ByteArray.size_extract]; omega) (by decide)
            have g2 := c_begins (s.extract (k + j) s.size) cmB (by simp only [ByteArray.size_extract]; omega) (by decide)
            rw [ext_end] at g1 g2
            by_cases f1 : preL (s.data.toList.drop (k + j)) clB = true
            · rw [if_pos f1] at hx
              simp [RL.add] at hx
            · rw [if_neg f1] at hx
              rw [show preL (s.data.toList.drop (k + j)) clB = false by simpa using f1] at g1
              by_cases f2 : preL (s.data.toList.drop (k + j)) cmB = true
              · rw [if_pos f2] at hx
                rw [f2] at g2
                have g3 := preL_len f2
                rw [List.length_drop, Array.length_toList, show cmB.size = 2 from rfl] at g3
                have g4 : 2 ≤ s.size - (k + j) := g3
                repeat' (first | refine awp_seq ?_ | refine awp_block ?_ | refine awp_round ?_ | refine awp_scope ?_ | refine awp_text rfl ?_ | refine awp_any rfl mix (by kernel_rfl) ?_ | (refine RunTo.unguard rfl rfl (fun hg => ?_) (fun hg => ?_) <;> ((try simp only [Bool.not_true, Bool.not_false, Bool.not_eq_true', Bool.not_eq_false', Bool.not_eq_eq_eq_not] at hg); (first | (cases hg) | (simp only [hg]) | skip))) | ((first | refine RunTo.plain rfl ?_ | refine RunTo.skipped rfl ?_ | refine RunTo.call (ca) Tryd.func58 rfl rfl rfl rfl rfl rfl rfl rfl ?_ | refine RunTo.call (g1) Tryd.func57 rfl rfl rfl rfl rfl rfl rfl rfl ?_ | refine RunTo.call (g2) Tryd.func57 rfl rfl rfl rfl rfl rfl rfl rfl ?_); simp only [go_sem, ↓reduceIte, Nat.reduceEqDiff, Nat.reduceAdd, Nat.reduceLeDiff, Nat.reduceBEq, Nat.reduceMul, reduceCtorEq, Int.reduceLE, Int.reduceLT, Int.reduceAdd, Int.reduceSub, Int.reduceNeg, Int.reduceToNat, Int.reduceBEq, q, htk, c1, hk', hkj, wkj, wk1, wk2, Nat.le_refl, AtomD.av, bne, Bool.not_true, Bool.not_false, List.length_map, lenTy, implies_true]) | ((first | refine RunTo.nilA (by kernel_rfl) ?_ | refine RunTo.nilT ?_ | refine awp_skip ?_ | refine awp_exit ?_ | refine awp_label ?_); simp only [go_sem, ↓reduceIte, Nat.reduceEqDiff, Nat.reduceAdd, Nat.reduceLeDiff, Nat.reduceBEq, Nat.reduceMul, reduceCtorEq, Int.reduceLE, Int.reduceLT, Int.reduceAdd, Int.reduceSub, Int.reduceNeg, Int.reduceToNat, Int.reduceBEq, q, htk, c1, hk', hkj, wkj, wk1, wk2, Nat.le_refl, AtomD.av, bne, Bool.not_true, Bool.not_false, List.length_map, lenTy, implies_true]) | (refine awp_cond' rfl (of_decide_eq_true rfl) (fun hc => ?_) (fun hc => ?_) <;> ((try simp only [Bool.not_true, Bool.not_false, Bool.not_eq_true', Bool.not_eq_false', Bool.not_eq_eq_eq_not] at hc); (first | (cases hc) | (simp only [hc]) | skip))))
                have hlen : (acc ++ [a]).length = acc.length + 1 := by simp
                all_goals exact ⟨17 - (acc ++ [a]).length, by omega, SN6 s (k + j + 2) (acc ++ [a]) _ _, weak_keep ⟨rfl, rfl, rfl, rfl, trivial⟩ ⟨rfl, by rw [hlen]; rfl, by rw [List.map_append]; rfl, trivial⟩ (Nat.le_refl _), k + j + 2, acc ++ [a], _, _, by omega, by omega, by omega, rfl, by rw [hx, RL.add_add, hlen, show 17 - (acc.length + 1) = 16 - acc.length by omega, show k - 1 + (j + 2) = k + j + 2 - 1 by omega], rfl⟩
              · rw [if_neg f2] at hx
                rw [show preL (s.data.toList.drop (k + j)) cmB = false by simpa using f2] at g2
                simp only [RL.add, RL.bad.injEq] at hx
                subst hx
                repeat' (first | refine awp_seq ?_ | refine awp_block ?_ | refine awp_round ?_ | refine awp_scope ?_ | refine awp_text rfl ?_ | refine awp_any rfl mix (by kernel_rfl) ?_ | (refine RunTo.unguard rfl rfl (fun hg => ?_) (fun hg => ?_) <;> ((try simp only [Bool.not_true, Bool.not_false, Bool.not_eq_true', Bool.not_eq_false', Bool.not_eq_eq_eq_not] at hg); (first | (cases hg) | (simp only [hg]) | skip))) | ((first | refine RunTo.plain rfl ?_ | refine RunTo.skipped rfl ?_ | refine RunTo.call (ca) Tryd.func58 rfl rfl rfl rfl rfl rfl rfl rfl ?_ | refine RunTo.call (g1) Tryd.func57 rfl rfl rfl rfl rfl rfl rfl rfl ?_ | refine RunTo.call (g2) Tryd.func57 rfl rfl rfl rfl rfl rfl rfl rfl ?_); simp only [go_sem, ↓reduceIte, Nat.reduceEqDiff, Nat.reduceAdd, Nat.reduceLeDiff, Nat.reduceBEq, Nat.reduceMul, reduceCtorEq, Int.reduceLE, Int.reduceLT, Int.reduceAdd, Int.reduceSub, Int.reduceNeg, Int.reduceToNat, Int.reduceBEq, q, htk, c1, hk', hkj, wkj, wk1, wk2, Nat.le_refl, AtomD.av, bne, Bool.not_true, Bool.not_false, List.length_map, lenTy, implies_true]) | ((first | refine RunTo.nilA (by kernel_rfl) ?_ | refine RunTo.nilT ?_ | refine awp_skip ?_ | refine awp_exit ?_ | refine awp_label ?_); simp only [go_sem, ↓reduceIte, Nat.reduceEqDiff, Nat.reduceAdd, Nat.reduceLeDiff, Nat.reduceBEq, Nat.reduceMul, reduceCtorEq, Int.reduceLE, Int.reduceLT, Int.reduceAdd, Int.reduceSub, Int.reduceNeg, Int.reduceToNat, Int.reduceBEq, q, htk, c1, hk', hkj, wkj, wk1, wk2, Nat.le_refl, AtomD.av, bne, Bool.not_true, Bool.not_false, List.length_map, lenTy, implies_true]) | (refine awp_cond' rfl (of_decide_eq_true rfl) (fun hc => ?_) (fun hc => ?_) <;> ((try simp only [Bool.not_true, Bool.not_false, Bool.not_eq_true', Bool.not_eq_false', Bool.not_eq_eq_eq_not] at hc); (first | (cases hc) | (simp only [hc]) | skip))))
                all_goals (first | refine awp_ret ?_ | skip); refine ⟨(by first | exact .inl rfl | exact .inr rfl | exact .inr trivial | trivial), ?_⟩; simp only [go_sem, ↓reduceIte, Nat.reduceEqDiff, Nat.reduceAdd, Nat.reduceLeDiff, Nat.reduceBEq, Nat.reduceMul, reduceCtorEq, Int.reduceLE, Int.reduceLT, Int.reduceAdd, Int.reduceSub, Int.reduceNeg, Int.reduceToNat, Int.reduceBEq, retV, resL, resV, sealV, sealC, sealAll, Tryd.f22]
                all_goals rfl
      | ok res m =>
        refine pure_of_awp Tryd.func22 rfl rfl (by simp [Tryd.f22]) ?_; simp only [go_sem, ↓reduceIte, Nat.reduceEqDiff, Nat.reduceAdd, Nat.reduceLeDiff, Nat.reduceBEq, Nat.reduceMul, reduceCtorEq, Int.reduceLE, Int.reduceLT, Int.reduceAdd, Int.reduceSub, Int.reduceNeg, Int.reduceToNat, Int.reduceBEq]
        repeat' (first | refine awp_seq ?_ | refine awp_block ?_ | refine awp_round ?_ | refine awp_scope ?_ | refine awp_text rfl ?_ | refine awp_any rfl mix (by kernel_rfl) ?_ | (refine RunTo.unguard rfl rfl (fun hg => ?_) (fun hg => ?_) <;> ((try simp only [Bool.not_true, Bool.not_false, Bool.not_eq_true', Bool.not_eq_false', Bool.not_eq_eq_eq_not] at hg); (first | (cases hg) | (simp only [hg]) | skip))) | ((first | refine RunTo.plain rfl ?_ | refine RunTo.skipped rfl ?_ | refine RunTo.call (b0) Tryd.func57 rfl rfl rfl rfl rfl rfl rfl rfl ?_ | refine RunTo.call (b1) Tryd.func57 rfl rfl rfl rfl rfl rfl rfl rfl ?_); simp only [go_sem, ↓reduceIte, Nat.reduceEqDiff, Nat.reduceAdd, Nat.reduceLeDiff, Nat.reduceBEq, Nat.reduceMul, reduceCtorEq, Int.reduceLE, Int.reduceLT, Int.reduceAdd, Int.reduceSub, Int.reduceNeg, Int.reduceToNat, Int.reduceBEq]) | ((first | refine RunTo.nilA (by kernel_rfl) ?_ | refine RunTo.nilT ?_ | refine awp_skip ?_ | refine awp_exit ?_ | refine awp_label ?_); simp only [go_sem, ↓reduceIte, Nat.reduceEqDiff, Nat.reduceAdd, Nat.reduceLeDiff, Nat.reduceBEq, Nat.reduceMul, reduceCtorEq, Int.reduceLE, Int.reduceLT, Int.reduceAdd, Int.reduceSub, Int.reduceNeg, Int.reduceToNat, Int.reduceBEq]) | (refine awp_cond' rfl (of_decide_eq_true rfl) (fun hc => ?_) (fun hc => ?_) <;> ((try simp only [Bool.not_true, Bool.not_false, Bool.not_eq_true', Bool.not_eq_false', Bool.not_eq_eq_eq_not] at hc); (first | (cases hc) | (simp only [hc]) | skip))))
        refine awp_weak (weak_nilbox (b := 8) (j := 4) (s := 55) (sz := 4) rfl rfl rfl) ?_
        simp only [go_sem, ↓reduceIte, Nat.reduceEqDiff, Nat.reduceAdd, Nat.reduceLeDiff, Nat.reduceBEq, Nat.reduceMul, reduceCtorEq, Int.reduceLE, Int.reduceLT, Int.reduceAdd, Int.reduceSub, Int.reduceNeg, Int.reduceToNat, Int.reduceBEq, List.set_cons_succ, List.set_cons_zero]
        refine awp_loopw (IN6 s (.ok res m)) 17 (SN6 s 1 [] _ _) (weak_keep ⟨rfl, rfl, rfl, rfl, trivial⟩ ⟨rfl, rfl, rfl, trivial⟩ (Nat.le_refl _)) ⟨1, [], _, _, Nat.le_refl _, p1, by simp, rfl, by simp only [List.length_nil, Nat.sub_zero, Nat.sub_self]; rw [hr]; simp [RL.add], rfl⟩ ?_
        rintro n st ⟨k, acc, T, e8, h0k, hk, ha, rfl, hx, rfl⟩
        have ca := c_rReadAtom (s.extract k s.size) (by simp only [ByteArray.size_extract]; omega)
        rw [ext_end] at ca
        rw [show 17 - acc.length = (16 - acc.length) + 1 by omega] at hx
        unfold listL at hx
        have htk : List.take acc.length (acc.map AtomD.enc) = acc.map AtomD.enc := List.take_of_length_le (by simp)
        have hk' : (k ≤ s.size) = True := eq_true hk
        by_cases h16 : acc.length = 16
        · rw [if_pos h16] at hx
          simp [RL.add] at hx
        · rw [if_neg h16] at hx
          have q := beq_f (show (acc.length : Int) ≠ 16 by omega)
          have c1 : ((acc.length + 1) * 40 ≤ 140737488355328) = True := eq_true (by omega)
          cases hr2 : atomL (s.data.toList.drop k) with
          | bad e1 =>
            rw [hr2] at hx ca
            simp [RL.add, listN] at hx
          | ok a j =>
            have hj := atomL_len hr2
            rw [List.length_drop, Array.length_toList] at hj
            have hj2 : j ≤ s.size - k := hj
            rw [hr2] at hx ca
            have ca : Pure _ _ _ (.tup [a.av, iv j, iv 0]) := ca
            simp only [listN, List.drop_drop] at hx
            have hkj : (k + j ≤ s.size) = True := eq_true (by omega)
            have wkj : IntKind.i64.wrap ((k : Int) + (j : Int)) = ((k + j : Nat) : Int) := by rw [IntWalk.i64_in _ (by omega)]; omega
            have wk1 : IntKind.i64.wrap (((k + j : Nat) : Int) + 1) = ((k + j + 1 : Nat) : Int) := wrap_succ (by omega)
            have wk2 : IntKind.i64.wrap (((k + j : Nat) : Int) + 2) = ((k + j + 2 : Nat) : Int) := by rw [IntWalk.i64_in _ (by omega)]; omega
            have g1 := c_begins (s.extract (k + j) s.size) clB (by simp only [ByteArray.size_extract]; omega) (by decide)
            have g2 := c_begins (s.extract (k + j) s.size) cmB (by simp only [ByteArray.size_extract]; omega) (by decide)
            rw [ext_end] at g1 g2
            by_cases f1 : preL (s.data.toList.drop (k + j)) clB = true
            · rw [if_pos f1] at hx
              rw [f1] at g1
              simp only [RL.add, RL.ok.injEq] at hx
              obtain ⟨rfl, rfl⟩ := hx
              have htk2 : List.take (acc.length + 1) (acc.map AtomD.enc ++ [[di a.k, di a.n, df a.f, ds' a.s]]) = acc.map AtomD.enc ++ [[di a.k, di a.n, df a.f, ds' a.s]] := List.take_of_length_le (by simp)
              repeat' (first | refine awp_seq ?_ | refine awp_block ?_ | refine awp_round ?_ | refine awp_scope ?_ | refine awp_text rfl ?_ | refine awp_any rfl mix (by kernel_rfl) ?_ | (refine RunTo.unguard rfl rfl (fun hg => ?_) (fun hg => ?_) <;> ((try simp only [Bool.not_true, Bool.not_false, Bool.not_eq_true', Bool.not_eq_false', Bool.not_eq_eq_eq_not] at hg); (first | (cases hg) | (simp only [hg]) | skip))) | ((first | refine RunTo.plain rfl ?_ | refine RunTo.skipped rfl ?_ | refine RunTo.call (ca) Tryd.func58 rfl rfl rfl rfl rfl rfl rfl rfl ?_ | refine RunTo.call (g1) Tryd.func57 rfl rfl rfl rfl rfl rfl rfl rfl ?_ | refine RunTo.call (g2) Tryd.func57 rfl rfl rfl rfl rfl rfl rfl rfl ?_); simp only [go_sem, ↓reduceIte, Nat.reduceEqDiff, Nat.reduceAdd, Nat.reduceLeDiff, Nat.reduceBEq, Nat.reduceMul, reduceCtorEq, Int.reduceLE, Int.reduceLT, Int.reduceAdd, Int.reduceSub, Int.reduceNeg, Int.reduceToNat, Int.reduceBEq, q, htk, c1, hk', hkj, wkj, wk1, wk2, Nat.le_refl, AtomD.av, bne, Bool.not_true, Bool.not_false, List.length_map, lenTy, implies_true]) | ((first | refine RunTo.nilA (by kernel_rfl) ?_ | refine RunTo.nilT ?_ | refine awp_skip ?_ | refine awp_exit ?_ | refine awp_label ?_); simp only [go_sem, ↓reduceIte, Nat.reduceEqDiff, Nat.reduceAdd, Nat.reduceLeDiff, Nat.reduceBEq, Nat.reduceMul, reduceCtorEq, Int.reduceLE, Int.reduceLT, Int.reduceAdd, Int.reduceSub, Int.reduceNeg, Int.reduceToNat, Int.reduceBEq, q, htk, c1, hk', hkj, wkj, wk1, wk2, Nat.le_refl, AtomD.av, bne, Bool.not_true, Bool.not_false, List.length_map, lenTy, implies_true]) | (refine awp_cond' rfl (of_decide_eq_true rfl) (fun hc => ?_) (fun hc => ?_) <;> ((try simp only [Bool.not_true, Bool.not_false, Bool.not_eq_true', Bool.not_eq_false', Bool.not_eq_eq_eq_not] at hc); (first | (cases hc) | (simp only [hc]) | skip))))
              all_goals (first | refine awp_ret ?_ | skip); refine ⟨(by first | exact .inl rfl | exact .inr rfl | exact .inr trivial | trivial), ?_⟩; simp only [go_sem, ↓reduceIte, Nat.reduceEqDiff, Nat.reduceAdd, Nat.reduceLeDiff, Nat.reduceBEq, Nat.reduceMul, reduceCtorEq, Int.reduceLE, Int.reduceLT, Int.reduceAdd, Int.reduceSub, Int.reduceNeg, Int.reduceToNat, Int.reduceBEq, retV, resL, resV, sealV, sealC, sealAll, Tryd.f22, htk2, List.length_append, List.length_map]
              all_goals (rw [show k - 1 + (j + 1) = k + j by omega, show readV (listV (RL.ok (acc ++ [a]) (k + j))) = .tup [.agg [iv 6, iv 0, fv 0, sv eE, .dat (.lst 4 (acc.map AtomD.enc ++ [[di a.k, di a.n, df a.f, ds' a.s]]))], iv ((1 + (k + j) : Nat) : Int), iv 0] by simp only [listV, readV, ValD.av, List.map_append, List.map_cons, List.map_nil, AtomD.enc], show 1 + (k + j) = k + j + 1 by omega])
              all_goals trace_state
            · rw [if_neg f1] at hx
              rw [show preL (s.data.toList.drop (k + j)) clB = false by simpa using f1] at g1
              by_cases f2 : preL (s.data.toList.drop (k + j)) cmB = true
              · rw [if_pos f2] at hx
                rw [f2] at g2
                have g3 := preL_len f2
                rw [List.length_drop, Array.length_toList, show cmB.size = 2 from rfl] at g3
                have g4 : 2 ≤ s.size - (k + j) := g3
                repeat' (first | refine awp_seq ?_ | refine awp_block ?_ | refine awp_round ?_ | refine awp_scope ?_ | refine awp_text rfl ?_ | refine awp_any rfl mix (by kernel_rfl) ?_ | (refine RunTo.unguard rfl rfl (fun hg => ?_) (fun hg => ?_) <;> ((try simp only [Bool.not_true, Bool.not_false, Bool.not_eq_true', Bool.not_eq_false', Bool.not_eq_eq_eq_not] at hg); (first | (cases hg) | (simp only [hg]) | skip))) | ((first | refine RunTo.plain rfl ?_ | refine RunTo.skipped rfl ?_ | refine RunTo.call (ca) Tryd.func58 rfl rfl rfl rfl rfl rfl rfl rfl ?_ | refine RunTo.call (g1) Tryd.func57 rfl rfl rfl rfl rfl rfl rfl rfl ?_ | refine RunTo.call (g2) Tryd.func57 rfl rfl rfl rfl rfl rfl rfl rfl ?_); simp only [go_sem, ↓reduceIte, Nat.reduceEqDiff, Nat.reduceAdd, Nat.reduceLeDiff, Nat.reduceBEq, Nat.reduceMul, reduceCtorEq, Int.reduceLE, Int.reduceLT, Int.reduceAdd, Int.reduceSub, Int.reduceNeg, Int.reduceToNat, Int.reduceBEq, q, htk, c1, hk', hkj, wkj, wk1, wk2, Nat.le_refl, AtomD.av, bne, Bool.not_true, Bool.not_false, List.length_map, lenTy, implies_true]) | ((first | refine RunTo.nilA (by kernel_rfl) ?_ | refine RunTo.nilT ?_ | refine awp_skip ?_ | refine awp_exit ?_ | refine awp_label ?_); simp only [go_sem, ↓reduceIte, Nat.reduceEqDiff, Nat.reduceAdd, Nat.reduceLeDiff, Nat.reduceBEq, Nat.reduceMul, reduceCtorEq, Int.reduceLE, Int.reduceLT, Int.reduceAdd, Int.reduceSub, Int.reduceNeg, Int.reduceToNat, Int.reduceBEq, q, htk, c1, hk', hkj, wkj, wk1, wk2, Nat.le_refl, AtomD.av, bne, Bool.not_true, Bool.not_false, List.length_map, lenTy, implies_true]) | (refine awp_cond' rfl (of_decide_eq_true rfl) (fun hc => ?_) (fun hc => ?_) <;> ((try simp only [Bool.not_true, Bool.not_false, Bool.not_eq_true', Bool.not_eq_false', Bool.not_eq_eq_eq_not] at hc); (first | (cases hc) | (simp only [hc]) | skip))))
                have hlen : (acc ++ [a]).length = acc.length + 1 := by simp
                all_goals exact ⟨17 - (acc ++ [a]).length, by omega, SN6 s (k + j + 2) (acc ++ [a]) _ _, weak_keep ⟨rfl, rfl, rfl, rfl, trivial⟩ ⟨rfl, by rw [hlen]; rfl, by rw [List.map_append]; rfl, trivial⟩ (Nat.le_refl _), k + j + 2, acc ++ [a], _, _, by omega, by omega, by omega, rfl, by rw [hx, RL.add_add, hlen, show 17 - (acc.length + 1) = 16 - acc.length by omega, show k - 1 + (j + 2) = k + j + 2 - 1 by omega], rfl⟩
              · rw [if_neg f2] at hx
                rw [show preL (s.data.toList.drop (k + j)) cmB = false by simpa using f2] at g2
                simp [RL.add] at hx
  · rw [if_neg h1]
    rw [show preL s.data.toList openB = false by simpa using h1] at b0
    cases hr : atomL s.data.toList with
    | ok a n =>
      rw [hr] at hA
      have hA : Pure _ _ _ (.tup [a.av, iv n, iv 0]) := hA
      refine pure_res ?_ (aNil_le a n 0)
      refine pure_of_awp Tryd.func22 rfl rfl (by simp [Tryd.f22]) ?_; simp only [go_sem, ↓reduceIte, Nat.reduceEqDiff, Nat.reduceAdd, Nat.reduceLeDiff, Nat.reduceBEq, Nat.reduceMul, reduceCtorEq, Int.reduceLE, Int.reduceLT, Int.reduceAdd, Int.reduceSub, Int.reduceNeg, Int.reduceToNat, Int.reduceBEq]
      repeat' (first | refine awp_seq ?_ | refine awp_block ?_ | refine awp_round ?_ | refine awp_scope ?_ | refine awp_text rfl ?_ | refine awp_any rfl mix (by kernel_rfl) ?_ | (refine RunTo.unguard rfl rfl (fun hg => ?_) (fun hg => ?_) <;> ((try simp only [Bool.not_true, Bool.not_false, Bool.not_eq_true', Bool.not_eq_false', Bool.not_eq_eq_eq_not] at hg); (first | (cases hg) | (simp only [hg]) | skip))) | ((first | refine RunTo.plain rfl ?_ | refine RunTo.skipped rfl ?_ | refine RunTo.call (b0) Tryd.func57 rfl rfl rfl rfl rfl rfl rfl rfl ?_ | refine RunTo.call (hA) Tryd.func58 rfl rfl rfl rfl rfl rfl rfl rfl ?_); simp only [go_sem, ↓reduceIte, Nat.reduceEqDiff, Nat.reduceAdd, Nat.reduceLeDiff, Nat.reduceBEq, Nat.reduceMul, reduceCtorEq, Int.reduceLE, Int.reduceLT, Int.reduceAdd, Int.reduceSub, Int.reduceNeg, Int.reduceToNat, Int.reduceBEq, AtomD.av, bne, Bool.not_true, Bool.not_false]) | ((first | refine RunTo.nilA (by kernel_rfl) ?_ | refine RunTo.nilT ?_ | refine awp_skip ?_ | refine awp_exit ?_ | refine awp_label ?_); simp only [go_sem, ↓reduceIte, Nat.reduceEqDiff, Nat.reduceAdd, Nat.reduceLeDiff, Nat.reduceBEq, Nat.reduceMul, reduceCtorEq, Int.reduceLE, Int.reduceLT, Int.reduceAdd, Int.reduceSub, Int.reduceNeg, Int.reduceToNat, Int.reduceBEq, AtomD.av, bne, Bool.not_true, Bool.not_false]) | (refine awp_cond' rfl (of_decide_eq_true rfl) (fun hc => ?_) (fun hc => ?_) <;> ((try simp only [Bool.not_true, Bool.not_false, Bool.not_eq_true', Bool.not_eq_false', Bool.not_eq_eq_eq_not] at hc); (first | (cases hc) | (simp only [hc]) | skip))))
      all_goals (first | refine awp_ret ?_ | skip); refine ⟨(by first | exact .inl rfl | exact .inr rfl | exact .inr trivial | trivial), ?_⟩; simp only [go_sem, ↓reduceIte, Nat.reduceEqDiff, Nat.reduceAdd, Nat.reduceLeDiff, Nat.reduceBEq, Nat.reduceMul, reduceCtorEq, Int.reduceLE, Int.reduceLT, Int.reduceAdd, Int.reduceSub, Int.reduceNeg, Int.reduceToNat, Int.reduceBEq, retV, resL, resV, sealV, sealC, sealAll, Tryd.f22]
      all_goals rfl
    | bad e =>
      rw [hr] at hA
      obtain ⟨a, n, hA⟩ := hA
      have hb := atomL_bad hr
      have hne := beq_f (show e ≠ 0 by omega)
      refine pure_res ?_ (aNil_le ⟨0, 0, 0, eE⟩ 0 e)
      refine pure_of_awp Tryd.func22 rfl rfl (by simp [Tryd.f22]) ?_; simp only [go_sem, ↓reduceIte, Nat.reduceEqDiff, Nat.reduceAdd, Nat.reduceLeDiff, Nat.reduceBEq, Nat.reduceMul, reduceCtorEq, Int.reduceLE, Int.reduceLT, Int.reduceAdd, Int.reduceSub, Int.reduceNeg, Int.reduceToNat, Int.reduceBEq]
      repeat' (first | refine awp_seq ?_ | refine awp_block ?_ | refine awp_round ?_ | refine awp_scope ?_ | refine awp_text rfl ?_ | refine awp_any rfl mix (by kernel_rfl) ?_ | (refine RunTo.unguard rfl rfl (fun hg => ?_) (fun hg => ?_) <;> ((try simp only [Bool.not_true, Bool.not_false, Bool.not_eq_true', Bool.not_eq_false', Bool.not_eq_eq_eq_not] at hg); (first | (cases hg) | (simp only [hg]) | skip))) | ((first | refine RunTo.plain rfl ?_ | refine RunTo.skipped rfl ?_ | refine RunTo.call (b0) Tryd.func57 rfl rfl rfl rfl rfl rfl rfl rfl ?_ | refine RunTo.call (hA) Tryd.func58 rfl rfl rfl rfl rfl rfl rfl rfl ?_); simp only [go_sem, ↓reduceIte, Nat.reduceEqDiff, Nat.reduceAdd, Nat.reduceLeDiff, Nat.reduceBEq, Nat.reduceMul, reduceCtorEq, Int.reduceLE, Int.reduceLT, Int.reduceAdd, Int.reduceSub, Int.reduceNeg, Int.reduceToNat, Int.reduceBEq, AtomD.av, bne, hne, Bool.not_true, Bool.not_false]) | ((first | refine RunTo.nilA (by kernel_rfl) ?_ | refine RunTo.nilT ?_ | refine awp_skip ?_ | refine awp_exit ?_ | refine awp_label ?_); simp only [go_sem, ↓reduceIte, Nat.reduceEqDiff, Nat.reduceAdd, Nat.reduceLeDiff, Nat.reduceBEq, Nat.reduceMul, reduceCtorEq, Int.reduceLE, Int.reduceLT, Int.reduceAdd, Int.reduceSub, Int.reduceNeg, Int.reduceToNat, Int.reduceBEq, AtomD.av, bne, hne, Bool.not_true, Bool.not_false]) | (refine awp_cond' rfl (of_decide_eq_true rfl) (fun hc => ?_) (fun hc => ?_) <;> ((try simp only [Bool.not_true, Bool.not_false, Bool.not_eq_true', Bool.not_eq_false', Bool.not_eq_eq_eq_not] at hc); (first | (cases hc) | (simp only [hc]) | skip))))
      all_goals (first | refine awp_ret ?_ | skip); refine ⟨(by first | exact .inl rfl | exact .inr rfl | exact .inr trivial | trivial), ?_⟩; simp only [go_sem, ↓reduceIte, Nat.reduceEqDiff, Nat.reduceAdd, Nat.reduceLeDiff, Nat.reduceBEq, Nat.reduceMul, reduceCtorEq, Int.reduceLE, Int.reduceLT, Int.reduceAdd, Int.reduceSub, Int.reduceNeg, Int.reduceToNat, Int.reduceBEq, retV, resL, resV, sealV, sealC, sealAll, Tryd.f22]
      all_goals rfl
end Go.Proofs.YtjihcldhjpdnmaaDoor.AM
namespace Go.Proofs.YtjihcldhjpdnmaaDoor.AM
open Go.RowKit
set_option linter.unusedSimpArgs false
set_option linter.unusedVariables false
set_option maxRecDepth 10000
set_option maxHeartbeats 0
theorem hideOne {P : Program} {nt : Nt} {Q : Exit → St → Prop} {st : St} {A B R : Code} (h : ∀ R', R' = R → AWP P nt (.seq A (.seq B R')) Q st) : AWP P nt (.seq A (.seq B R)) Q st := h R rfl
end Go.Proofs.YtjihcldhjpdnmaaDoor.AM
namespace Go.Proofs.YtjihcldhjpdnmaaDoor.AM
open Go.RowKit
set_option linter.unusedSimpArgs false
set_option linter.unusedVariables false
set_option maxRecDepth 10000
set_option maxHeartbeats 0
theorem isA_n {a : AtomD} {c d : Bool} (h : isA a false c d = true) : a.n = 0 := by
  unfold isA at h
  simp only [Bool.and_eq_true, Bool.false_or, beq_iff_eq] at h
  exact h.1.1
theorem isA_f {a : AtomD} {b d : Bool} (h : isA a b false d = true) : a.f = 0 := by
  unfold isA at h
  simp only [Bool.and_eq_true, Bool.false_or, beq_iff_eq] at h
  have := h.1.2
  omega
theorem isA_s {a : AtomD} {b c : Bool} (h : isA a b c false = true) : a.s = eE := by
  unfold isA at h
  simp only [Bool.and_eq_true, Bool.false_or] at h
  by_cases e : a.s = eE
  · exact e
  · rw [strEq_f e] at h
    exact absurd h.2 (by simp)
theorem validA_inv {k n : Int} {f : Nat} {s : ByteArray} (h : validA ⟨k, n, f, s⟩ = true) :
    (k = 0 ∧ n = 0 ∧ f = 0 ∧ s = eE) ∨ (k = 1 ∧ n = 0 ∧ f = 0 ∧ s = eE) ∨ (k = 1 ∧ n = 1 ∧ f = 0 ∧ s = eE) ∨ (k = 2 ∧ f = 0 ∧ s = eE) ∨ (k = 3 ∧ n = 0 ∧ s = eE ∧ canF f = f) ∨ (k = 4 ∧ n = 0 ∧ f = 0 ∧ s.size ≤ 256) ∨ (k = 5 ∧ n = 0 ∧ f = 0 ∧ s.size ≤ 256) := by
  unfold validA at h
  simp only at h
  split at h
  · exact .inl ⟨by assumption, isA_n h, isA_f h, isA_s h⟩
  · split at h
    · simp only [Bool.and_eq_true, Bool.or_eq_true, beq_iff_eq] at h
      rcases h.2 with h2 | h2
      · exact .inr (.inl ⟨by assumption, h2, isA_f h.1, isA_s h.1⟩)
      · exact .inr (.inr (.inl ⟨by assumption, h2, isA_f h.1, isA_s h.1⟩))
    · split at h
      · exact .inr (.inr (.inr (.inl ⟨by assumption, isA_f h, isA_s h⟩)))
      · split at h
        · simp only [Bool.and_eq_true, beq_iff_eq] at h
          exact .inr (.inr (.inr (.inr (.inl ⟨by assumption, isA_n h.1, isA_s h.1, by omega⟩))))
        · split at h
          · rename_i hk
            simp only [Bool.and_eq_true, decide_eq_true_eq] at h
            rcases hk with hk | hk
            · exact .inr (.inr (.inr (.inr (.inr (.inl ⟨hk, isA_n h.1, isA_f h.1, by omega⟩)))))
            · exact .inr (.inr (.inr (.inr (.inr (.inr ⟨hk, isA_n h.1, isA_f h.1, by omega⟩)))))
          · cases h
theorem npre {l : List UInt8} {t : ByteArray} (h : preL l t = false) : ¬ preL l t = true := by rw [h]; simp
theorem preL_no' (x : ByteArray) (r : List UInt8) (t : ByteArray) (c : UInt8) (l : List UInt8) (hx : x.data.toList = c :: l) (ht : ∃ d ds, t.data.toList = d :: ds ∧ d ≠ c) : preL (x.data.toList ++ r) t = false := by rw [hx, List.cons_append]; exact preL_no ht
theorem itoa_head (n : Int) : ∃ c l, Lib.itoa n = c :: l ∧ (c.toNat = 45 ∨ ∀ x ∈ c :: l, dgB x = true) := by
  by_cases hn : n < 0
  · exact ⟨45, _, itoa_of_neg hn, .inl rfl⟩
  · rw [itoa_of_pos hn]
    cases hd : Lib.decDigits n.toNat with
    | nil => exact absurd hd (dec_ne _)
    | cons c t => exact ⟨c, t, rfl, .inr (fun x hx => dec_all n.toNat x (by rw [hd]; exact hx))⟩
theorem bs_back (s : ByteArray) : bs s.data.toList = s := by
  apply ByteArray.ext
  show s.data.toList.toArray = s.data
  exact Array.toArray_toList
theorem atomL_back : ∀ (a : AtomD), validA a = true → i64B a.n → a.f < 18446744073709551616 → ∀ (r : List UInt8), r.takeWhile dgB = [] → (r.head? ≠ some 102 ∨ pAL a ≠ [48]) →
    atomL (pAL a ++ r) = .ok a (pAL a).length ∧ ∃ c l, pAL a = c :: l ∧ c ≠ 91 ∧ c ≠ 93 := by
  rintro ⟨k, n, f, s⟩ h hn hf r hr h0
  rcases validA_inv h with ⟨rfl, rfl, rfl, rfl⟩ | ⟨rfl, rfl, rfl, rfl⟩ | ⟨rfl, rfl, rfl, rfl⟩ | ⟨rfl, rfl, rfl⟩ | ⟨rfl, rfl, rfl, hc⟩ | ⟨rfl, rfl, rfl, hs⟩ | ⟨rfl, rfl, rfl, hs⟩
  · have e : pAL ⟨0, 0, 0, eE⟩ = nullB.data.toList := by decide +kernel
    rw [e]
    refine ⟨?_, 110, [117, 108, 108], rfl, by decide, by decide⟩
    unfold atomL
    rw [if_pos (preL_yes nullB r)]
    rfl
  · have e : pAL ⟨1, 0, 0, eE⟩ = falseB.data.toList := by decide +kernel
    rw [e]
    refine ⟨?_, 102, [97, 108, 115, 101], rfl, by decide, by decide⟩
    unfold atomL
    rw [if_neg (npre (preL_no' falseB r nullB 102 [97, 108, 115, 101] rfl ⟨110, _, rfl, by decide⟩)), if_neg (npre (preL_no' falseB r trueB 102 [97, 108, 115, 101] rfl ⟨116, _, rfl, by decide⟩)), if_pos (preL_yes falseB r)]
    rfl
  · have e : pAL ⟨1, 1, 0, eE⟩ = trueB.data.toList := by decide +kernel
    rw [e]
    refine ⟨?_, 116, [114, 117, 101], rfl, by decide, by decide⟩
    unfold atomL
    rw [if_neg (npre (preL_no' trueB r nullB 116 [114, 117, 101] rfl ⟨110, _, rfl, by decide⟩)), if_pos (preL_yes trueB r)]
    rfl
  · have e : pAL ⟨2, n, 0, eE⟩ = Lib.itoa n := rfl
    rw [e] at h0 ⊢
    have hw := wholeL_back hn r hr
    obtain ⟨c, l, hi, hc⟩ := itoa_head n
    rw [hi] at h0 hw ⊢
    have hc' : c.toNat = 45 ∨ (48 ≤ c.toNat ∧ c.toNat ≤ 57) := by
      rcases hc with hc | hc
      · exact .inl hc
      · exact .inr (dg_bd (hc c List.mem_cons_self))
    refine ⟨?_, c, l, rfl, fun q => by subst q; revert hc'; decide, fun q => by subst q; revert hc'; decide⟩
    rw [List.cons_append] at hw ⊢
    unfold atomL
    rw [if_neg (npre (preL_no ⟨110, _, rfl, fun q => by subst q; revert hc'; decide⟩)), if_neg (npre (preL_no ⟨116, _, rfl, fun q => by subst q; revert hc'; decide⟩)), if_neg (npre (preL_no ⟨102, _, rfl, fun q => by subst q; revert hc'; decide⟩))]
    have hz : preL (c :: (l ++ r)) zfB = false := by
      by_cases h48 : c = 48
      · subst h48
        cases l with
        | nil =>
          cases r with
          | nil => decide +kernel
          | cons d r =>
            rw [List.nil_append]
            refine preL_no2 ⟨102, [], rfl, fun q => ?_⟩
            subst q
            rcases h0 with h0 | h0
            · exact h0 rfl
            · exact h0 rfl
        | cons d l =>
          rw [List.cons_append]
          refine preL_no2 ⟨102, [], rfl, fun q => ?_⟩
          subst q
          rcases hc with hc | hc
          · exact absurd hc (by decide)
          · have := hc 102 (by simp)
            exact absurd this (by decide +kernel)
      · exact preL_no ⟨48, [102], rfl, fun q => h48 q.symm⟩
    rw [if_neg (npre hz), if_neg (npre (preL_no ⟨34, _, rfl, fun q => by subst q; revert hc'; decide⟩)), if_neg (npre (preL_no ⟨120, _, rfl, fun q => by subst q; revert hc'; decide⟩)), hw]
  · have e : pAL ⟨3, 0, f, eE⟩ = 48 :: 102 :: (hexS f).data.toList := by
      show ((⟨#[48, 102]⟩ : ByteArray) ++ hexS f).data.toList = _
      rw [ByteArray.data_append, Array.toList_append]
      rfl
    have hl : (hexS f).data.toList.length = 16 := by rw [Array.length_toList]; exact hexS_size f
    have hp := parseF_back f hf hc
    rw [e]
    generalize (hexS f).data.toList = H at *
    refine ⟨?_, 48, _, rfl, by decide, by decide⟩
    rw [List.cons_append, List.cons_append]
    unfold atomL
    rw [if_neg (npre (preL_no ⟨110, _, rfl, by decide⟩)), if_neg (npre (preL_no ⟨116, _, rfl, by decide⟩)), if_neg (npre (preL_no ⟨102, _, rfl, by decide⟩)), if_pos (show preL (48 :: 102 :: (H ++ r)) zfB = true from preL_yes zfB (H ++ r)), if_neg (by simp; omega)]
    rw [show ((48 :: 102 :: (H ++ r)).drop 2).take 16 = H from List.take_left' hl, hp]
    simp [hl]
  · have e : pAL ⟨4, 0, 0, s⟩ = 34 :: (s.data.toList.flatMap escB ++ [34]) := by
      show quoteL s.data.toList = _
      simp [quoteL]
    have hlen : s.data.toList.length = s.size := Array.length_toList
    have ht := textL_back s.data.toList 257 [] r (by omega) (by simp; omega)
    rw [e]
    refine ⟨?_, 34, _, rfl, by decide, by decide⟩
    rw [List.cons_append, List.append_assoc, List.singleton_append]
    unfold atomL
    rw [if_neg (npre (preL_no ⟨110, _, rfl, by decide⟩)), if_neg (npre (preL_no ⟨116, _, rfl, by decide⟩)), if_neg (npre (preL_no ⟨102, _, rfl, by decide⟩)), if_neg (npre (preL_no ⟨48, _, rfl, by decide⟩)), if_pos (show preL (34 :: (s.data.toList.flatMap escB ++ 34 :: r)) quB = true from preL_yes quB _), List.drop_succ_cons, List.drop_zero, ht]
    simp only [textA, List.nil_append, bs_back, List.length_cons, List.length_append, List.length_nil]
    congr 1
    omega
  · have e : pAL ⟨5, 0, 0, s⟩ = 120 :: 34 :: (s.data.toList.flatMap escB ++ [34]) := by
      show ((⟨#[120]⟩ : ByteArray) ++ quoteS s).data.toList = _
      rw [ByteArray.data_append, Array.toList_append]
      show [120] ++ quoteL s.data.toList = _
      simp [quoteL]
    have hlen : s.data.toList.length = s.size := Array.length_toList
    have ht := textL_back s.data.toList 257 [] r (by omega) (by simp; omega)
    rw [e]
    refine ⟨?_, 120, _, rfl, by decide, by decide⟩
    rw [List.cons_append, List.cons_append, List.append_assoc, List.singleton_append]
    unfold atomL
    rw [if_neg (npre (preL_no ⟨110, _, rfl, by decide⟩)), if_neg (npre (preL_no ⟨116, _, rfl, by decide⟩)), if_neg (npre (preL_no ⟨102, _, rfl, by decide⟩)), if_neg (npre (preL_no ⟨48, _, rfl, by decide⟩)), if_neg (npre (preL_no ⟨34, _, rfl, by decide⟩)), if_pos (show preL (120 :: 34 :: (s.data.toList.flatMap escB ++ 34 :: r)) xqB = true from preL_yes xqB _), List.drop_succ_cons, List.drop_succ_cons, List.drop_zero, ht]
    simp only [textA, List.nil_append, bs_back, List.length_cons, List.length_append, List.length_nil]
    congr 1
    omega
theorem listL_back : ∀ (xs : List AtomD) (f : Nat) (acc : List AtomD) (r : List UInt8), xs ≠ [] → acc.length + xs.length ≤ 16 → xs.length < f → (∀ a ∈ xs, validA a = true ∧ i64B a.n ∧ a.f < 18446744073709551616) →
    listL f acc (Lib.join (xs.map pAL) [44, 32] ++ 93 :: r) = .ok (acc ++ xs) ((Lib.join (xs.map pAL) [44, 32]).length + 1)
  | [], _, _, _, h, _, _, _ => absurd rfl h
  | _, 0, _, _, _, _, h, _ => by omega
  | [a], f + 1, acc, r, _, h16, hf, ha => by
    obtain ⟨h1, h2, h3⟩ := ha a (by simp)
    have hb := (atomL_back a h1 h2 h3 (93 :: r) (by rw [List.takeWhile_cons, if_neg (by decide +kernel)]) (.inl (by simp))).1
    simp only [List.length_cons, List.length_nil] at h16
    unfold listL
    rw [if_neg (by omega), List.map_cons, List.map_nil, Lib.join_one, hb]
    simp only [listN]
    rw [List.drop_left' rfl, if_pos (show preL (93 :: r) clB = true from preL_yes clB r)]
  | a :: b :: xs, f + 1, acc, r, _, h16, hf, ha => by
    obtain ⟨h1, h2, h3⟩ := ha a (by simp)
    simp only [List.length_cons] at h16 hf
    have ih := listL_back (b :: xs) f (acc ++ [a]) r (by simp) (by simp; omega) (by simp; omega) (fun x hx => ha x (List.mem_cons_of_mem _ hx))
    rw [List.map_cons] at ih
    have hb := (atomL_back a h1 h2 h3 ([44, 32] ++ (Lib.join (pAL b :: xs.map pAL) [44, 32] ++ 93 :: r)) (by rw [List.cons_append, List.takeWhile_cons, if_neg (by decide +kernel)]) (.inl (by simp))).1
    unfold listL
    rw [if_neg (by omega), List.map_cons, List.map_cons, join_two, List.append_assoc, List.append_assoc, hb]
    simp only [listN]
    generalize Lib.join (pAL b :: xs.map pAL) [44, 32] = J at *
    rw [List.drop_left' rfl, if_neg (npre (preL_no' ⟨#[44, 32]⟩ (J ++ 93 :: r) clB 44 [32] rfl ⟨93, _, rfl, by decide⟩)), if_pos (show preL ([44, 32] ++ (J ++ 93 :: r)) cmB = true from preL_yes cmB _), show List.drop 2 ([44, 32] ++ (J ++ 93 :: r)) = J ++ 93 :: r from rfl, ih]
    simp [RL.add]
    omega
theorem readL_back (v : ValD) (hv : validV v = true) (hk : i64B v.a.n ∧ v.a.f < 18446744073709551616) (hl : ∀ a ∈ v.l, i64B a.n ∧ a.f < 18446744073709551616) (r : List UInt8) (hr : r.takeWhile dgB = []) (h0 : r.head? ≠ some 102 ∨ (printV v).data.toList ≠ [48]) :
    readL ((printV v).data.toList ++ r) = .ok v (printV v).size ∧ 0 < (printV v).size := by
  have hsz : (printV v).size = (printV v).data.toList.length := Array.length_toList.symm
  rw [hsz]
  by_cases h6 : v.a.k = 6
  · have hp : (printV v).data.toList = 91 :: (Lib.join (v.l.map pAL) [44, 32] ++ [93]) := by
      unfold printV
      rw [if_pos hv, if_pos h6, ByteArray.data_append, ByteArray.data_append, Array.toList_append, Array.toList_append]
      show [91] ++ Lib.join ((v.l.map printA).map (·.data.toList)) [44, 32] ++ [93] = _
      rw [List.map_map]
      rfl
    rw [validV_list h6] at hv
    simp only [Bool.and_eq_true, decide_eq_true_eq] at hv
    have hn := isA_n hv.1.1
    have hf := isA_f hv.1.1
    have hs := isA_s hv.1.1
    have ha := List.all_eq_true.1 hv.2
    have h16 := hv.1.2
    clear h0 hk hsz
    obtain ⟨⟨k, n, f, s⟩, l⟩ := v
    simp only at *
    subst h6 hn hf hs
    rw [hp]
    refine ⟨?_, by simp⟩
    rw [List.cons_append, List.append_assoc, List.singleton_append]
    unfold readL
    rw [if_pos (show preL (91 :: (Lib.join (l.map pAL) [44, 32] ++ 93 :: r)) openB = true from preL_yes openB _), List.drop_succ_cons, List.drop_zero]
    cases l with
    | nil =>
      rw [List.map_nil, Lib.join_nil, List.nil_append, if_pos (show preL (93 :: r) clB = true from preL_yes clB r)]
      rfl
    | cons b xs =>
      have hb := listL_back (b :: xs) 17 [] r (by simp) (by simp at h16 ⊢; omega) (by simp at h16 ⊢; omega) (fun x hx => ⟨ha x hx, hl x hx⟩)
      obtain ⟨c, t, hc, c1, c2⟩ := (atomL_back b (ha b (by simp)) (hl b (by simp)).1 (hl b (by simp)).2 [] rfl (.inl (by simp))).2
      have hno : preL (Lib.join ((b :: xs).map pAL) [44, 32] ++ 93 :: r) clB = false := by
        rw [List.map_cons, hc]
        cases xs with
        | nil =>
          rw [List.map_nil, Lib.join_one, List.cons_append]
          exact preL_no ⟨93, [], rfl, fun q => c2 q.symm⟩
        | cons y ys =>
          rw [List.map_cons, join_two, List.cons_append, List.cons_append]
          exact preL_no ⟨93, [], rfl, fun q => c2 q.symm⟩
      rw [if_neg (npre hno), hb]
      simp only [listV, List.nil_append, List.length_cons, List.length_append, List.length_nil]
      congr 1
      omega
  · have hp : (printV v).data.toList = pAL v.a := by
      unfold printV
      rw [if_pos hv, if_neg h6]
    rw [validV_atom h6] at hv
    simp only [Bool.and_eq_true, beq_iff_eq] at hv
    have hnil : v.l = [] := List.length_eq_zero_iff.1 (by have := hv.2; omega)
    rw [hp] at h0 ⊢
    obtain ⟨h1, c, t, hc, c1, c2⟩ := atomL_back v.a hv.1 hk.1 hk.2 r hr h0
    refine ⟨?_, by rw [hc]; simp⟩
    unfold readL
    have hno : preL (pAL v.a ++ r) openB = false := by
      rw [hc, List.cons_append]
      exact preL_no ⟨91, [], rfl, fun q => c1 q.symm⟩
    rw [if_neg (npre hno), h1]
    obtain ⟨a, l⟩ := v
    simp only at hnil
    subst hnil
    rfl
end Go.Proofs.YtjihcldhjpdnmaaDoor.AM
namespace Go.Proofs.YtjihcldhjpdnmaaDoor.AM
open Go.RowKit
set_option linter.unusedSimpArgs false
set_option linter.unusedVariables false
set_option maxRecDepth 10000
set_option maxHeartbeats 0
theorem c_sameAtomA (a : AtomD) : Pure Tryd.prog 59 [a.av, a.av] (bv true) := by
  have b0 := c_rBits a.f
  refine pure_of_awp Tryd.func59 rfl rfl (by simp [Tryd.f59]) ?_; simp only [go_sem, ↓reduceIte, Nat.reduceEqDiff, Nat.reduceAdd, Nat.reduceLeDiff, Nat.reduceBEq, Nat.reduceMul, reduceCtorEq, Int.reduceLE, Int.reduceLT, Int.reduceAdd, Int.reduceSub, Int.reduceNeg, Int.reduceToNat, Int.reduceBEq]
  repeat' (first | refine awp_seq ?_ | refine awp_block ?_ | refine awp_round ?_ | refine awp_scope ?_ | refine awp_text rfl ?_ | refine awp_any rfl mix (by kernel_rfl) ?_ | (refine RunTo.unguard rfl rfl (fun hg => ?_) (fun hg => ?_) <;> ((try simp only [Bool.not_true, Bool.not_false, Bool.not_eq_true', Bool.not_eq_false', Bool.not_eq_eq_eq_not] at hg); (first | (cases hg) | (simp only [hg]) | skip))) | ((first | refine RunTo.plain rfl ?_ | refine RunTo.skipped rfl ?_ | refine RunTo.call (b0) Tryd.func34 rfl rfl rfl rfl rfl rfl rfl rfl ?_); simp only [go_sem, ↓reduceIte, Nat.reduceEqDiff, Nat.reduceAdd, Nat.reduceLeDiff, Nat.reduceBEq, Nat.reduceMul, reduceCtorEq, Int.reduceLE, Int.reduceLT, Int.reduceAdd, Int.reduceSub, Int.reduceNeg, Int.reduceToNat, Int.reduceBEq, AtomD.av, beq_self_eq_true]) | ((first | refine RunTo.nilA (by kernel_rfl) ?_ | refine RunTo.nilT ?_ | refine awp_skip ?_ | refine awp_exit ?_ | refine awp_label ?_); simp only [go_sem, ↓reduceIte, Nat.reduceEqDiff, Nat.reduceAdd, Nat.reduceLeDiff, Nat.reduceBEq, Nat.reduceMul, reduceCtorEq, Int.reduceLE, Int.reduceLT, Int.reduceAdd, Int.reduceSub, Int.reduceNeg, Int.reduceToNat, Int.reduceBEq, AtomD.av, beq_self_eq_true]) | (refine awp_cond' rfl (of_decide_eq_true rfl) (fun hc => ?_) (fun hc => ?_) <;> ((try simp only [Bool.not_true, Bool.not_false, Bool.not_eq_true', Bool.not_eq_false', Bool.not_eq_eq_eq_not] at hc); (first | (cases hc) | (simp only [hc]) | skip))))
  all_goals (first | refine awp_ret ?_ | skip); refine ⟨(by first | exact .inl rfl | exact .inr rfl | exact .inr trivial | trivial), ?_⟩; simp only [go_sem, ↓reduceIte, Nat.reduceEqDiff, Nat.reduceAdd, Nat.reduceLeDiff, Nat.reduceBEq, Nat.reduceMul, reduceCtorEq, Int.reduceLE, Int.reduceLT, Int.reduceAdd, Int.reduceSub, Int.reduceNeg, Int.reduceToNat, Int.reduceBEq, retV, resL, resV, sealV, sealC, sealAll, Tryd.f59]
abbrev cellsK (v : ValD) : List AV := [iv v.a.k, iv v.a.n, fv v.a.f, sv v.a.s, .dat (.lst 4 (v.l.map AtomD.enc))]
abbrev SKK (v : ValD) (k T : Nat) : St := ⟨[(5, iv k), (2, .ptr 2 0 0 0), (3, .ptr 3 1 0 0)], [(2, .box 0 (cellsK v)), (3, .box 1 (cellsK v))], T⟩
def IKK (v : ValD) (m : Nat) (st : St) : Prop := ∃ k T, k ≤ v.l.length ∧ m = v.l.length - k ∧ st = SKK v k T
theorem c_SameV (v : ValD) (hl : v.l.length ≤ 1000000) : Pure Tryd.prog 23 [v.av, v.av] (bv true) := by
  have s0 := c_sameAtomA v.a
  refine pure_of_awp Tryd.func23 rfl rfl (by simp [Tryd.f23]) ?_; simp only [go_sem, ↓reduceIte, Nat.reduceEqDiff, Nat.reduceAdd, Nat.reduceLeDiff, Nat.reduceBEq, Nat.reduceMul, reduceCtorEq, Int.reduceLE, Int.reduceLT, Int.reduceAdd, Int.reduceSub, Int.reduceNeg, Int.reduceToNat, Int.reduceBEq]
  repeat' (first | refine awp_seq ?_ | refine awp_block ?_ | refine awp_round ?_ | refine awp_scope ?_ | refine awp_text rfl ?_ | refine awp_any rfl mix (by kernel_rfl) ?_ | (refine RunTo.unguard rfl rfl (fun hg => ?_) (fun hg => ?_) <;> ((try simp only [Bool.not_true, Bool.not_false, Bool.not_eq_true', Bool.not_eq_false', Bool.not_eq_eq_eq_not] at hg); (first | (cases hg) | (simp only [hg]) | skip))) | ((first | refine RunTo.plain rfl ?_ | refine RunTo.skipped rfl ?_ | refine RunTo.call (s0) Tryd.func59 rfl rfl rfl rfl rfl rfl rfl rfl ?_); simp only [go_sem, ↓reduceIte, Nat.reduceEqDiff, Nat.reduceAdd, Nat.reduceLeDiff, Nat.reduceBEq, Nat.reduceMul, reduceCtorEq, Int.reduceLE, Int.reduceLT, Int.reduceAdd, Int.reduceSub, Int.reduceNeg, Int.reduceToNat, Int.reduceBEq, ValD.av, AtomD.av, beq_self_eq_true, List.length_map, bne, Bool.not_true, Bool.not_false]) | ((first | refine RunTo.nilA (by kernel_rfl) ?_ | refine RunTo.nilT ?_ | refine awp_skip ?_ | refine awp_exit ?_ | refine awp_label ?_); simp only [go_sem, ↓reduceIte, Nat.reduceEqDiff, Nat.reduceAdd, Nat.reduceLeDiff, Nat.reduceBEq, Nat.reduceMul, reduceCtorEq, Int.reduceLE, Int.reduceLT, Int.reduceAdd, Int.reduceSub, Int.reduceNeg, Int.reduceToNat, Int.reduceBEq, ValD.av, AtomD.av, beq_self_eq_true, List.length_map, bne, Bool.not_true, Bool.not_false]) | (refine awp_cond' rfl (of_decide_eq_true rfl) (fun hc => ?_) (fun hc => ?_) <;> ((try simp only [Bool.not_true, Bool.not_false, Bool.not_eq_true', Bool.not_eq_false', Bool.not_eq_eq_eq_not] at hc); (first | (cases hc) | (simp only [hc]) | skip))))
  all_goals
    refine awp_loopw (IKK v) v.l.length (SKK v 0 _) (weak_keep ⟨rfl, rfl, rfl, trivial⟩ ⟨rfl, rfl, trivial⟩ (Nat.le_refl _)) ⟨0, _, Nat.zero_le _, rfl, rfl⟩ ?_
    rintro m st ⟨k, T, hk, rfl, rfl⟩
    by_cases hlt : k < v.l.length
    · have hdec := lt_t hlt
      have hget := row_at AtomD.enc v.l k hlt
      have sk := c_sameAtomA v.l[k]
      have hwk : IntKind.i64.wrap ((k : Int) + 1) = ((k + 1 : Nat) : Int) := wrap_succ (by omega)
      generalize v.l[k] = x at *
      repeat' (first | refine awp_seq ?_ | refine awp_block ?_ | refine awp_round ?_ | refine awp_scope ?_ | refine awp_text rfl ?_ | refine awp_any rfl mix (by kernel_rfl) ?_ | (refine RunTo.unguard rfl rfl (fun hg => ?_) (fun hg => ?_) <;> ((try simp only [Bool.not_true, Bool.not_false, Bool.not_eq_true', Bool.not_eq_false', Bool.not_eq_eq_eq_not] at hg); (first | (cases hg) | (simp only [hg]) | skip))) | ((first | refine RunTo.plain rfl ?_ | refine RunTo.skipped rfl ?_ | refine RunTo.call (sk) Tryd.func59 rfl rfl rfl rfl rfl rfl rfl rfl ?_); simp only [go_sem, ↓reduceIte, Nat.reduceEqDiff, Nat.reduceAdd, Nat.reduceLeDiff, Nat.reduceBEq, Nat.reduceMul, reduceCtorEq, Int.reduceLE, Int.reduceLT, Int.reduceAdd, Int.reduceSub, Int.reduceNeg, Int.reduceToNat, Int.reduceBEq, hdec, hget, AtomD.enc, AtomD.av, hwk, List.length_map, beq_self_eq_true, bne, Bool.not_true, Bool.not_false]) | ((first | refine RunTo.nilA (by kernel_rfl) ?_ | refine RunTo.nilT ?_ | refine awp_skip ?_ | refine awp_exit ?_ | refine awp_label ?_); simp only [go_sem, ↓reduceIte, Nat.reduceEqDiff, Nat.reduceAdd, Nat.reduceLeDiff, Nat.reduceBEq, Nat.reduceMul, reduceCtorEq, Int.reduceLE, Int.reduceLT, Int.reduceAdd, Int.reduceSub, Int.reduceNeg, Int.reduceToNat, Int.reduceBEq, hdec, hget, AtomD.enc, AtomD.av, hwk, List.length_map, beq_self_eq_true, bne, Bool.not_true, Bool.not_false]) | (refine awp_cond' rfl (of_decide_eq_true rfl) (fun hc => ?_) (fun hc => ?_) <;> ((try simp only [Bool.not_true, Bool.not_false, Bool.not_eq_true', Bool.not_eq_false', Bool.not_eq_eq_eq_not] at hc); (first | (cases hc) | (simp only [hc]) | skip))))
      all_goals exact ⟨v.l.length - (k + 1), by omega, SKK v (k + 1) _, weak_keep ⟨rfl, rfl, rfl, trivial⟩ ⟨rfl, rfl, trivial⟩ (Nat.le_refl _), k + 1, _, by omega, rfl, rfl⟩
    · have hdec := lt_f hlt
      repeat' (first | refine awp_seq ?_ | refine awp_block ?_ | refine awp_round ?_ | refine awp_scope ?_ | refine awp_text rfl ?_ | refine awp_any rfl mix (by kernel_rfl) ?_ | (refine RunTo.unguard rfl rfl (fun hg => ?_) (fun hg => ?_) <;> ((try simp only [Bool.not_true, Bool.not_false, Bool.not_eq_true', Bool.not_eq_false', Bool.not_eq_eq_eq_not] at hg); (first | (cases hg) | (simp only [hg]) | skip))) | ((first | refine RunTo.plain rfl ?_ | refine RunTo.skipped rfl ?_); simp only [go_sem, ↓reduceIte, Nat.reduceEqDiff, Nat.reduceAdd, Nat.reduceLeDiff, Nat.reduceBEq, Nat.reduceMul, reduceCtorEq, Int.reduceLE, Int.reduceLT, Int.reduceAdd, Int.reduceSub, Int.reduceNeg, Int.reduceToNat, Int.reduceBEq, hdec, List.length_map]) | ((first | refine RunTo.nilA (by kernel_rfl) ?_ | refine RunTo.nilT ?_ | refine awp_skip ?_ | refine awp_exit ?_ | refine awp_label ?_); simp only [go_sem, ↓reduceIte, Nat.reduceEqDiff, Nat.reduceAdd, Nat.reduceLeDiff, Nat.reduceBEq, Nat.reduceMul, reduceCtorEq, Int.reduceLE, Int.reduceLT, Int.reduceAdd, Int.reduceSub, Int.reduceNeg, Int.reduceToNat, Int.reduceBEq, hdec, List.length_map]) | (refine awp_cond' rfl (of_decide_eq_true rfl) (fun hc => ?_) (fun hc => ?_) <;> ((try simp only [Bool.not_true, Bool.not_false, Bool.not_eq_true', Bool.not_eq_false', Bool.not_eq_eq_eq_not] at hc); (first | (cases hc) | (simp only [hc]) | skip))))
      all_goals (first | refine awp_ret ?_ | skip); refine ⟨(by first | exact .inl rfl | exact .inr rfl | exact .inr trivial | trivial), ?_⟩; simp only [go_sem, ↓reduceIte, Nat.reduceEqDiff, Nat.reduceAdd, Nat.reduceLeDiff, Nat.reduceBEq, Nat.reduceMul, reduceCtorEq, Int.reduceLE, Int.reduceLT, Int.reduceAdd, Int.reduceSub, Int.reduceNeg, Int.reduceToNat, Int.reduceBEq, retV, resL, resV, sealV, sealC, sealAll, Tryd.f23]
end Go.Proofs.YtjihcldhjpdnmaaDoor.AM
namespace Go.Proofs.YtjihcldhjpdnmaaDoor.AM
open Go.RowKit
set_option linter.unusedSimpArgs false
set_option linter.unusedVariables false
set_option maxRecDepth 10000
set_option maxHeartbeats 0
abbrev twB : ByteArray := ⟨#[49, 50, 93]⟩
abbrev twV : ValD := ⟨⟨2, 12, 0, eE⟩, []⟩
theorem tw_print : (printV twV).data.toList = [49, 50] := by decide +kernel
theorem c_ReadTw : Pure Tryd.prog 21 [sv twB] (.tup [twV.av, iv 2, iv 0]) := by
  have h := c_Read twB (by decide)
  have hb := (readL_back twV (by decide +kernel) ⟨⟨by decide, by decide⟩, by decide⟩ (fun a ha => (by cases ha)) [93] (by rfl) (.inl (by simp))).1
  have hs : (printV twV).size = 2 := by
    have : (printV twV).data.toList.length = (printV twV).size := Array.length_toList
    rw [← this, tw_print]
    rfl
  rw [tw_print, hs] at hb
  rw [show twB.data.toList = [49, 50] ++ [93] from rfl, hb] at h
  exact h
theorem valid_short {v : ValD} (h : validV v = true) : v.l.length ≤ 16 := by
  by_cases h6 : v.a.k = 6
  · rw [validV_list h6] at h
    simp only [Bool.and_eq_true, decide_eq_true_eq] at h
    omega
  · rw [validV_atom h6] at h
    simp only [Bool.and_eq_true, beq_iff_eq] at h
    omega
theorem c_lawReads (s0 : ByteArray) (h0 : s0.size ≤ 140737488351232) : Pure Tryd.prog 4 [sv s0] (bv true) := by
  refine pure_of_awp Tryd.func4 rfl rfl (by simp [Tryd.f4]) ?_; simp only [go_sem, ↓reduceIte, Nat.reduceEqDiff, Nat.reduceAdd, Nat.reduceLeDiff, Nat.reduceBEq, Nat.reduceMul, reduceCtorEq, Int.reduceLE, Int.reduceLT, Int.reduceAdd, Int.reduceSub, Int.reduceNeg, Int.reduceToNat, Int.reduceBEq]
  refine hideOne (fun R hR => ?_)
  have main : ∀ (s : ByteArray) (T : Nat), s.size ≤ 5000 → AWP Tryd.prog Tryd.f4.ntmps R (fun ex st => (ex = .ret ∨ ex = .normal) ∧ retV Tryd.prog Tryd.f4.results.toList st = some (bv true)) ⟨[(0, sv s)], [], T⟩ := by
    intro s T hs
    subst hR
    have hr := c_Read s (by omega)
    have hq := c_rRead s (by omega)
    have ht := c_ReadTw
    cases he : readL s.data.toList with
    | ok v n =>
      rw [he] at hr hq
      have hr : Pure _ _ _ (.tup [v.av, iv n, iv 0]) := hr
      have hq : Pure _ _ _ (.tup [v.av, iv n, iv 0]) := hq
      have q2 := (read_print he).2.1
      have hs := c_SameV v (by have := valid_short q2; omega)
      repeat' (first | refine awp_seq ?_ | refine awp_block ?_ | refine awp_round ?_ | refine awp_scope ?_ | refine awp_text rfl ?_ | refine awp_any rfl mix (by kernel_rfl) ?_ | (refine RunTo.unguard rfl rfl (fun hg => ?_) (fun hg => ?_) <;> ((try simp only [Bool.not_true, Bool.not_false, Bool.not_eq_true', Bool.not_eq_false', Bool.not_eq_eq_eq_not] at hg); (first | (cases hg) | (simp only [hg]) | skip))) | ((first | refine RunTo.plain rfl ?_ | refine RunTo.skipped rfl ?_ | refine RunTo.call (hr) Tryd.func21 rfl rfl rfl rfl rfl rfl rfl rfl ?_ | refine RunTo.call (ht) Tryd.func21 rfl rfl rfl rfl rfl rfl rfl rfl ?_ | refine RunTo.call (hq) Tryd.func22 rfl rfl rfl rfl rfl rfl rfl rfl ?_ | refine RunTo.call (hs) Tryd.func23 rfl rfl rfl rfl rfl rfl rfl rfl ?_); simp only [go_sem, ↓reduceIte, Nat.reduceEqDiff, Nat.reduceAdd, Nat.reduceLeDiff, Nat.reduceBEq, Nat.reduceMul, reduceCtorEq, Int.reduceLE, Int.reduceLT, Int.reduceAdd, Int.reduceSub, Int.reduceNeg, Int.reduceToNat, Int.reduceBEq, ValD.av]) | ((first | refine RunTo.nilA (by kernel_rfl) ?_ | refine RunTo.nilT ?_ | refine awp_skip ?_ | refine awp_exit ?_ | refine awp_label ?_); simp only [go_sem, ↓reduceIte, Nat.reduceEqDiff, Nat.reduceAdd, Nat.reduceLeDiff, Nat.reduceBEq, Nat.reduceMul, reduceCtorEq, Int.reduceLE, Int.reduceLT, Int.reduceAdd, Int.reduceSub, Int.reduceNeg, Int.reduceToNat, Int.reduceBEq, ValD.av]) | (refine awp_cond' rfl (of_decide_eq_true rfl) (fun hc => ?_) (fun hc => ?_) <;> ((try simp only [Bool.not_true, Bool.not_false, Bool.not_eq_true', Bool.not_eq_false', Bool.not_eq_eq_eq_not] at hc); (first | (cases hc) | (simp only [hc]) | skip))))
      all_goals (first | refine awp_ret ?_ | skip); refine ⟨(by first | exact .inl rfl | exact .inr rfl | exact .inr trivial | trivial), ?_⟩; simp only [go_sem, ↓reduceIte, Nat.reduceEqDiff, Nat.reduceAdd, Nat.reduceLeDiff, Nat.reduceBEq, Nat.reduceMul, reduceCtorEq, Int.reduceLE, Int.reduceLT, Int.reduceAdd, Int.reduceSub, Int.reduceNeg, Int.reduceToNat, Int.reduceBEq, retV, resL, resV, sealV, sealC, sealAll, Tryd.f4]
      all_goals rfl
    | bad e =>
      rw [he] at hr hq
      have hr : Pure _ _ _ (.tup [nulV.av, iv 0, iv e]) := hr
      have hq : Pure _ _ _ (.tup [nulV.av, iv 0, iv e]) := hq
      have hb := readL_bad he
      have we : IntKind.i64.wrap e = e := IntWalk.i64_in _ (by omega)
      have hs := c_SameV nulV (by decide)
      repeat' (first | refine awp_seq ?_ | refine awp_block ?_ | refine awp_round ?_ | refine awp_scope ?_ | refine awp_text rfl ?_ | refine awp_any rfl mix (by kernel_rfl) ?_ | (refine RunTo.unguard rfl rfl (fun hg => ?_) (fun hg => ?_) <;> ((try simp only [Bool.not_true, Bool.not_false, Bool.not_eq_true', Bool.not_eq_false', Bool.not_eq_eq_eq_not] at hg); (first | (cases hg) | (simp only [hg]) | skip))) | ((first | refine RunTo.plain rfl ?_ | refine RunTo.skipped rfl ?_ | refine RunTo.call (hr) Tryd.func21 rfl rfl rfl rfl rfl rfl rfl rfl ?_ | refine RunTo.call (ht) Tryd.func21 rfl rfl rfl rfl rfl rfl rfl rfl ?_ | refine RunTo.call (hq) Tryd.func22 rfl rfl rfl rfl rfl rfl rfl rfl ?_ | refine RunTo.call (hs) Tryd.func23 rfl rfl rfl rfl rfl rfl rfl rfl ?_); simp only [go_sem, ↓reduceIte, Nat.reduceEqDiff, Nat.reduceAdd, Nat.reduceLeDiff, Nat.reduceBEq, Nat.reduceMul, reduceCtorEq, Int.reduceLE, Int.reduceLT, Int.reduceAdd, Int.reduceSub, Int.reduceNeg, Int.reduceToNat, Int.reduceBEq, ValD.av, ↓we]) | ((first | refine RunTo.nilA (by kernel_rfl) ?_ | refine RunTo.nilT ?_ | refine awp_skip ?_ | refine awp_exit ?_ | refine awp_label ?_); simp only [go_sem, ↓reduceIte, Nat.reduceEqDiff, Nat.reduceAdd, Nat.reduceLeDiff, Nat.reduceBEq, Nat.reduceMul, reduceCtorEq, Int.reduceLE, Int.reduceLT, Int.reduceAdd, Int.reduceSub, Int.reduceNeg, Int.reduceToNat, Int.reduceBEq, ValD.av, ↓we]) | (refine awp_cond' rfl (of_decide_eq_true rfl) (fun hc => ?_) (fun hc => ?_) <;> ((try simp only [Bool.not_true, Bool.not_false, Bool.not_eq_true', Bool.not_eq_false', Bool.not_eq_eq_eq_not] at hc); (first | (cases hc) | (simp only [hc]) | skip))))
      all_goals (first | refine awp_ret ?_ | skip); refine ⟨(by first | exact .inl rfl | exact .inr rfl | exact .inr trivial | trivial), ?_⟩; simp only [go_sem, ↓reduceIte, Nat.reduceEqDiff, Nat.reduceAdd, Nat.reduceLeDiff, Nat.reduceBEq, Nat.reduceMul, reduceCtorEq, Int.reduceLE, Int.reduceLT, Int.reduceAdd, Int.reduceSub, Int.reduceNeg, Int.reduceToNat, Int.reduceBEq, retV, resL, resV, sealV, sealC, sealAll, Tryd.f4]
      all_goals rfl
  by_cases hl : 5000 < s0.size
  · have hd : decide ((5000 : Int) < (s0.size : Int)) = true := decide_eq_true (by omega)
    have hle : (5000 ≤ s0.size) = True := eq_true (by omega)
    repeat' (first | refine awp_seq ?_ | refine awp_block ?_ | refine awp_round ?_ | refine awp_scope ?_ | refine awp_text rfl ?_ | refine awp_any rfl mix (by kernel_rfl) ?_ | (refine RunTo.unguard rfl rfl (fun hg => ?_) (fun hg => ?_) <;> ((try simp only [Bool.not_true, Bool.not_false, Bool.not_eq_true', Bool.not_eq_false', Bool.not_eq_eq_eq_not] at hg); (first | (cases hg) | (simp only [hg]) | skip))) | ((first | refine RunTo.plain rfl ?_ | refine RunTo.skipped rfl ?_); simp only [go_sem, ↓reduceIte, Nat.reduceEqDiff, Nat.reduceAdd, Nat.reduceLeDiff, Nat.reduceBEq, Nat.reduceMul, reduceCtorEq, Int.reduceLE, Int.reduceLT, Int.reduceAdd, Int.reduceSub, Int.reduceNeg, Int.reduceToNat, Int.reduceBEq, hd, hle]) | ((first | refine RunTo.nilA (by kernel_rfl) ?_ | refine RunTo.nilT ?_ | refine awp_skip ?_ | refine awp_exit ?_ | refine awp_label ?_); simp only [go_sem, ↓reduceIte, Nat.reduceEqDiff, Nat.reduceAdd, Nat.reduceLeDiff, Nat.reduceBEq, Nat.reduceMul, reduceCtorEq, Int.reduceLE, Int.reduceLT, Int.reduceAdd, Int.reduceSub, Int.reduceNeg, Int.reduceToNat, Int.reduceBEq, hd, hle]) | (refine awp_cond' rfl (of_decide_eq_true rfl) (fun hc => ?_) (fun hc => ?_) <;> ((try simp only [Bool.not_true, Bool.not_false, Bool.not_eq_true', Bool.not_eq_false', Bool.not_eq_eq_eq_not] at hc); (first | (cases hc) | (simp only [hc]) | skip))))
    all_goals exact awp_weak (st' := ⟨[(0, sv (s0.extract 0 5000))], [], _⟩) (weak_keep ⟨rfl, trivial⟩ trivial (Nat.le_refl _)) (main _ _ (by simp; omega))
  · have hd : decide ((5000 : Int) < (s0.size : Int)) = false := decide_eq_false (by omega)
    repeat' (first | refine awp_seq ?_ | refine awp_block ?_ | refine awp_round ?_ | refine awp_scope ?_ | refine awp_text rfl ?_ | refine awp_any rfl mix (by kernel_rfl) ?_ | (refine RunTo.unguard rfl rfl (fun hg => ?_) (fun hg => ?_) <;> ((try simp only [Bool.not_true, Bool.not_false, Bool.not_eq_true', Bool.not_eq_false', Bool.not_eq_eq_eq_not] at hg); (first | (cases hg) | (simp only [hg]) | skip))) | ((first | refine RunTo.plain rfl ?_ | refine RunTo.skipped rfl ?_); simp only [go_sem, ↓reduceIte, Nat.reduceEqDiff, Nat.reduceAdd, Nat.reduceLeDiff, Nat.reduceBEq, Nat.reduceMul, reduceCtorEq, Int.reduceLE, Int.reduceLT, Int.reduceAdd, Int.reduceSub, Int.reduceNeg, Int.reduceToNat, Int.reduceBEq, hd]) | ((first | refine RunTo.nilA (by kernel_rfl) ?_ | refine RunTo.nilT ?_ | refine awp_skip ?_ | refine awp_exit ?_ | refine awp_label ?_); simp only [go_sem, ↓reduceIte, Nat.reduceEqDiff, Nat.reduceAdd, Nat.reduceLeDiff, Nat.reduceBEq, Nat.reduceMul, reduceCtorEq, Int.reduceLE, Int.reduceLT, Int.reduceAdd, Int.reduceSub, Int.reduceNeg, Int.reduceToNat, Int.reduceBEq, hd]) | (refine awp_cond' rfl (of_decide_eq_true rfl) (fun hc => ?_) (fun hc => ?_) <;> ((try simp only [Bool.not_true, Bool.not_false, Bool.not_eq_true', Bool.not_eq_false', Bool.not_eq_eq_eq_not] at hc); (first | (cases hc) | (simp only [hc]) | skip))))
    all_goals exact awp_weak (st' := ⟨[(0, sv s0)], [], _⟩) (weak_keep ⟨rfl, trivial⟩ trivial (Nat.le_refl _)) (main _ _ (by omega))
end Go.Proofs.YtjihcldhjpdnmaaDoor.AM
