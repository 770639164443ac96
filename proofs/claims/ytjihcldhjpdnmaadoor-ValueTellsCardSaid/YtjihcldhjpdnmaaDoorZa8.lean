/- Part 8 of the proof: words, contracts, plain laws. Laid by a program of this session (wip/tool/shake.py): what is needed of own and printed texts, in order. -/
import Derived.Test.YtjihcldhjpdnmaaDoorZa0
import Derived.Test.YtjihcldhjpdnmaaDoorZa1
import Derived.Test.YtjihcldhjpdnmaaDoorZa2
import Derived.Test.YtjihcldhjpdnmaaDoorZa3
import Derived.Test.YtjihcldhjpdnmaaDoorZa5
import Derived.Test.YtjihcldhjpdnmaaDoorZa6
import Derived.Test.YtjihcldhjpdnmaaDoorZa7
import Derived.Calls
import Derived.Lib.ItoaNum
import Derived.Orders
import Derived.Tactics
import Derived.Below
import Derived.Laws.Rows
import Derived.Laws.World
import Derived.Laws.CopyRow
import Derived.Lib.FrozenHead
import Derived.Deep.AppendSrc
import Derived.Deep.Upon
import Derived.Laws.BytesArg
import Derived.IntWalk
import Derived.Laws.Externs
import Derived.LoopN
import Derived.Test.YtjihcldhjpdnmaaDoorProg
import Derived.KernelRfl
import Derived.MapKept
import Derived.Laws.FloatBits
import Derived.Lib.ItoaMem
import Derived.Lib.ItoaLen
import Derived.Lib.Join
import Derived.RegionTactic
import Derived.Lib.AppendIntMem
import Derived.Shelf.Strings.Builder1
import Derived.Shelf.Strings.Builder2
import Derived.Shelf.Strings.OnBuilder
import Derived.Shelf.Small.Strs
import Derived.Shelf.Small.Wraps
import Derived.Shelf.Strings.BuilderF
import Derived.Shelf.Strings.BuilderK
import Derived.Shelf.Strings.Builder2Cap
import Derived.Shelf.Strconv.Itoa0
import Derived.Shelf.Strconv.Itoa1
import Derived.Shelf.LaysM
import Derived.Shelf.Strconv.Itoa2
import Derived.Shelf.Strconv.Itoa3
import Derived.Shelf.Strings.Search1
import Derived.Shelf.Strings.Prefix
import Derived.Shelf.Strings.BuilderCap
import Derived.Shelf.Slices.Turned
import Derived.Ground.Names2Prog
import Derived.Shelf.Slices.SearchI
namespace Go.Proofs.YtjihcldhjpdnmaaDoor.AM
open Go.RowKit FL
set_option linter.unusedSimpArgs false
set_option linter.unusedVariables false
set_option maxRecDepth 10000
set_option maxHeartbeats 0
theorem c_rNumbers (a b : AtomD) (ha : numA a = true) (hb : numA b = true) (ia : i64B a.n) (ib : i64B b.n) (fa : a.f < 18446744073709551616) (fb : b.f < 18446744073709551616) : Pure Tryd.prog 49 [a.av, b.av] (iv (cmp3 (nkeyA a) (nkeyA b))) := by
  obtain ⟨k, n, f, s⟩ := a
  obtain ⟨k', n', f', s'⟩ := b
  simp only [numA, Bool.or_eq_true, beq_iff_eq] at ha hb
  have hw : ∀ r, rng r → IntKind.i64.wrap (0 - r) = -r := fun r h => by rw [IntWalk.i64_in _ (by unfold rng at h; omega)]; omega
  have b1 := c_rBits f
  have b2 := c_rBits f'
  rcases ha with ha | ha <;> rcases hb with hb | hb <;> subst ha <;> subst hb
  · have e : cmp3 (nkeyA ⟨2, n, f, s⟩) (nkeyA ⟨2, n', f', s'⟩) = cmp3 n n' := by
      show cmp3 (ikey n) (ikey n') = _
      have ho := one_posI
      unfold ikey cmp3
      by_cases h1 : n < n'
      · rw [if_pos (Int.mul_lt_mul_of_pos_right h1 ho), if_pos h1]
      · rw [if_neg h1, if_neg (fun h => h1 (Int.lt_of_mul_lt_mul_right h (Int.le_of_lt ho)))]
        by_cases h2 : n' < n
        · rw [if_pos (Int.mul_lt_mul_of_pos_right h2 ho), if_pos h2]
        · rw [if_neg h2, if_neg (fun h => h2 (Int.lt_of_mul_lt_mul_right h (Int.le_of_lt ho)))]
    rw [e]
    refine pure_of_awp Tryd.func49 rfl rfl (by simp [Tryd.f49]) ?_; simp only [go_sem, ↓reduceIte, Nat.reduceEqDiff, Nat.reduceAdd, Nat.reduceLeDiff, Nat.reduceBEq, Nat.reduceMul, reduceCtorEq, Int.reduceLE, Int.reduceLT, Int.reduceAdd, Int.reduceSub, Int.reduceNeg, Int.reduceToNat, Int.reduceBEq]
    repeat' (first | refine awp_seq ?_ | refine awp_block ?_ | refine awp_round ?_ | refine awp_text rfl ?_ | refine awp_any rfl mix (by kernel_rfl) ?_ | (refine RunTo.unguard rfl rfl (fun hg => ?_) (fun hg => ?_) <;> ((try simp only [Bool.not_true, Bool.not_false, Bool.not_eq_true', Bool.not_eq_false', Bool.not_eq_eq_eq_not] at hg); (first | (cases hg) | (simp only [hg]) | skip))) | ((first | refine RunTo.plain rfl ?_ | refine RunTo.skipped rfl ?_); simp only [go_sem, ↓reduceIte, Nat.reduceEqDiff, Nat.reduceAdd, Nat.reduceLeDiff, Nat.reduceBEq, Nat.reduceMul, reduceCtorEq, Int.reduceLE, Int.reduceLT, Int.reduceAdd, Int.reduceSub, Int.reduceNeg, Int.reduceToNat, Int.reduceBEq, AtomD.av]) | ((first | refine RunTo.nil ⟨by kernel_rfl, ?_⟩ | refine RunTo.nil ?_ | refine awp_skip ?_ | refine awp_exit ?_); simp only [go_sem, ↓reduceIte, Nat.reduceEqDiff, Nat.reduceAdd, Nat.reduceLeDiff, Nat.reduceBEq, Nat.reduceMul, reduceCtorEq, Int.reduceLE, Int.reduceLT, Int.reduceAdd, Int.reduceSub, Int.reduceNeg, Int.reduceToNat, Int.reduceBEq, AtomD.av]) | (refine awp_cond' rfl (of_decide_eq_true rfl) (fun hc => ?_) (fun hc => ?_) <;> ((try simp only [Bool.not_true, Bool.not_false, Bool.not_eq_true', Bool.not_eq_false', Bool.not_eq_eq_eq_not] at hc); (first | (cases hc) | (simp only [hc]) | skip))))
    all_goals
      (first | refine awp_ret ?_ | skip); refine ⟨(by first | exact .inl rfl | exact .inr rfl | exact .inr trivial | trivial), ?_⟩; simp only [go_sem, ↓reduceIte, Nat.reduceEqDiff, Nat.reduceAdd, Nat.reduceLeDiff, Nat.reduceBEq, Nat.reduceMul, reduceCtorEq, Int.reduceLE, Int.reduceLT, Int.reduceAdd, Int.reduceSub, Int.reduceNeg, Int.reduceToNat, Int.reduceBEq, retV, resL, resV, sealV, sealC, sealAll, Tryd.f49]
      (try simp only [decide_eq_true_eq, decide_eq_false_iff_not, beq_iff_eq, bne_iff_ne, ne_eq, beq_eq_false_iff_ne, bne_eq_false_iff_eq, Bool.and_eq_true, Bool.or_eq_true, Bool.or_eq_false_iff, Bool.and_eq_false_iff] at *)
      unfold cmp3
      (repeat' split) <;> first | rfl | omega
  · have c := c_rCompareInt n f' ia fb
    have e : cmp3 (nkeyA ⟨2, n, f, s⟩) (nkeyA ⟨3, n', f', s'⟩) = compareIntN n f' := rfl
    rw [e]
    refine pure_of_awp Tryd.func49 rfl rfl (by simp [Tryd.f49]) ?_; simp only [go_sem, ↓reduceIte, Nat.reduceEqDiff, Nat.reduceAdd, Nat.reduceLeDiff, Nat.reduceBEq, Nat.reduceMul, reduceCtorEq, Int.reduceLE, Int.reduceLT, Int.reduceAdd, Int.reduceSub, Int.reduceNeg, Int.reduceToNat, Int.reduceBEq]
    repeat' (first | refine awp_seq ?_ | refine awp_block ?_ | refine awp_round ?_ | refine awp_text rfl ?_ | refine awp_any rfl mix (by kernel_rfl) ?_ | (refine RunTo.unguard rfl rfl (fun hg => ?_) (fun hg => ?_) <;> ((try simp only [Bool.not_true, Bool.not_false, Bool.not_eq_true', Bool.not_eq_false', Bool.not_eq_eq_eq_not] at hg); (first | (cases hg) | (simp only [hg]) | skip))) | ((first | refine RunTo.plain rfl ?_ | refine RunTo.skipped rfl ?_ | refine RunTo.call (c) Tryd.func86 rfl rfl rfl rfl rfl rfl rfl rfl ?_ | refine RunTo.call (b2) Tryd.func34 rfl rfl rfl rfl rfl rfl rfl rfl ?_); simp only [go_sem, ↓reduceIte, Nat.reduceEqDiff, Nat.reduceAdd, Nat.reduceLeDiff, Nat.reduceBEq, Nat.reduceMul, reduceCtorEq, Int.reduceLE, Int.reduceLT, Int.reduceAdd, Int.reduceSub, Int.reduceNeg, Int.reduceToNat, Int.reduceBEq, AtomD.av]) | ((first | refine RunTo.nil ⟨by kernel_rfl, ?_⟩ | refine RunTo.nil ?_ | refine awp_skip ?_ | refine awp_exit ?_); simp only [go_sem, ↓reduceIte, Nat.reduceEqDiff, Nat.reduceAdd, Nat.reduceLeDiff, Nat.reduceBEq, Nat.reduceMul, reduceCtorEq, Int.reduceLE, Int.reduceLT, Int.reduceAdd, Int.reduceSub, Int.reduceNeg, Int.reduceToNat, Int.reduceBEq, AtomD.av]) | (refine awp_cond' rfl (of_decide_eq_true rfl) (fun hc => ?_) (fun hc => ?_) <;> ((try simp only [Bool.not_true, Bool.not_false, Bool.not_eq_true', Bool.not_eq_false', Bool.not_eq_eq_eq_not] at hc); (first | (cases hc) | (simp only [hc]) | skip))))
    all_goals (first | refine awp_ret ?_ | skip); refine ⟨(by first | exact .inl rfl | exact .inr rfl | exact .inr trivial | trivial), ?_⟩; simp only [go_sem, ↓reduceIte, Nat.reduceEqDiff, Nat.reduceAdd, Nat.reduceLeDiff, Nat.reduceBEq, Nat.reduceMul, reduceCtorEq, Int.reduceLE, Int.reduceLT, Int.reduceAdd, Int.reduceSub, Int.reduceNeg, Int.reduceToNat, Int.reduceBEq, retV, resL, resV, sealV, sealC, sealAll, Tryd.f49]
  · have c := c_rCompareInt n' f ib fa
    have e : cmp3 (nkeyA ⟨3, n, f, s⟩) (nkeyA ⟨2, n', f', s'⟩) = -compareIntN n' f := (cmp3_neg _ _).symm
    rw [e]
    have hwr := hw _ (cmp3_rng (ikey n') (fkey f))
    have hwr2 : IntKind.i64.wrap (0 - compareIntN n' f) = -compareIntN n' f := hwr
    refine pure_of_awp Tryd.func49 rfl rfl (by simp [Tryd.f49]) ?_; simp only [go_sem, ↓reduceIte, Nat.reduceEqDiff, Nat.reduceAdd, Nat.reduceLeDiff, Nat.reduceBEq, Nat.reduceMul, reduceCtorEq, Int.reduceLE, Int.reduceLT, Int.reduceAdd, Int.reduceSub, Int.reduceNeg, Int.reduceToNat, Int.reduceBEq]
    repeat' (first | refine awp_seq ?_ | refine awp_block ?_ | refine awp_round ?_ | refine awp_text rfl ?_ | refine awp_any rfl mix (by kernel_rfl) ?_ | (refine RunTo.unguard rfl rfl (fun hg => ?_) (fun hg => ?_) <;> ((try simp only [Bool.not_true, Bool.not_false, Bool.not_eq_true', Bool.not_eq_false', Bool.not_eq_eq_eq_not] at hg); (first | (cases hg) | (simp only [hg]) | skip))) | ((first | refine RunTo.plain rfl ?_ | refine RunTo.skipped rfl ?_ | refine RunTo.call (c) Tryd.func86 rfl rfl rfl rfl rfl rfl rfl rfl ?_ | refine RunTo.call (b1) Tryd.func34 rfl rfl rfl rfl rfl rfl rfl rfl ?_); simp only [go_sem, ↓reduceIte, Nat.reduceEqDiff, Nat.reduceAdd, Nat.reduceLeDiff, Nat.reduceBEq, Nat.reduceMul, reduceCtorEq, Int.reduceLE, Int.reduceLT, Int.reduceAdd, Int.reduceSub, Int.reduceNeg, Int.reduceToNat, Int.reduceBEq, AtomD.av, hwr2]) | ((first | refine RunTo.nil ⟨by kernel_rfl, ?_⟩ | refine RunTo.nil ?_ | refine awp_skip ?_ | refine awp_exit ?_); simp only [go_sem, ↓reduceIte, Nat.reduceEqDiff, Nat.reduceAdd, Nat.reduceLeDiff, Nat.reduceBEq, Nat.reduceMul, reduceCtorEq, Int.reduceLE, Int.reduceLT, Int.reduceAdd, Int.reduceSub, Int.reduceNeg, Int.reduceToNat, Int.reduceBEq, AtomD.av, hwr2]) | (refine awp_cond' rfl (of_decide_eq_true rfl) (fun hc => ?_) (fun hc => ?_) <;> ((try simp only [Bool.not_true, Bool.not_false, Bool.not_eq_true', Bool.not_eq_false', Bool.not_eq_eq_eq_not] at hc); (first | (cases hc) | (simp only [hc]) | skip))))
    all_goals (first | refine awp_ret ?_ | skip); refine ⟨(by first | exact .inl rfl | exact .inr rfl | exact .inr trivial | trivial), ?_⟩; simp only [go_sem, ↓reduceIte, Nat.reduceEqDiff, Nat.reduceAdd, Nat.reduceLeDiff, Nat.reduceBEq, Nat.reduceMul, reduceCtorEq, Int.reduceLE, Int.reduceLT, Int.reduceAdd, Int.reduceSub, Int.reduceNeg, Int.reduceToNat, Int.reduceBEq, retV, resL, resV, sealV, sealC, sealAll, Tryd.f49]
  · have c := c_rCompareF f f' fa fb
    have e : cmp3 (nkeyA ⟨3, n, f, s⟩) (nkeyA ⟨3, n', f', s'⟩) = compareN f f' := rfl
    rw [e]
    refine pure_of_awp Tryd.func49 rfl rfl (by simp [Tryd.f49]) ?_; simp only [go_sem, ↓reduceIte, Nat.reduceEqDiff, Nat.reduceAdd, Nat.reduceLeDiff, Nat.reduceBEq, Nat.reduceMul, reduceCtorEq, Int.reduceLE, Int.reduceLT, Int.reduceAdd, Int.reduceSub, Int.reduceNeg, Int.reduceToNat, Int.reduceBEq]
    repeat' (first | refine awp_seq ?_ | refine awp_block ?_ | refine awp_round ?_ | refine awp_text rfl ?_ | refine awp_any rfl mix (by kernel_rfl) ?_ | (refine RunTo.unguard rfl rfl (fun hg => ?_) (fun hg => ?_) <;> ((try simp only [Bool.not_true, Bool.not_false, Bool.not_eq_true', Bool.not_eq_false', Bool.not_eq_eq_eq_not] at hg); (first | (cases hg) | (simp only [hg]) | skip))) | ((first | refine RunTo.plain rfl ?_ | refine RunTo.skipped rfl ?_ | refine RunTo.call (c) Tryd.func87 rfl rfl rfl rfl rfl rfl rfl rfl ?_ | refine RunTo.call (b1) Tryd.func34 rfl rfl rfl rfl rfl rfl rfl rfl ?_ | refine RunTo.call (b2) Tryd.func34 rfl rfl rfl rfl rfl rfl rfl rfl ?_); simp only [go_sem, ↓reduceIte, Nat.reduceEqDiff, Nat.reduceAdd, Nat.reduceLeDiff, Nat.reduceBEq, Nat.reduceMul, reduceCtorEq, Int.reduceLE, Int.reduceLT, Int.reduceAdd, Int.reduceSub, Int.reduceNeg, Int.reduceToNat, Int.reduceBEq, AtomD.av]) | ((first | refine RunTo.nil ⟨by kernel_rfl, ?_⟩ | refine RunTo.nil ?_ | refine awp_skip ?_ | refine awp_exit ?_); simp only [go_sem, ↓reduceIte, Nat.reduceEqDiff, Nat.reduceAdd, Nat.reduceLeDiff, Nat.reduceBEq, Nat.reduceMul, reduceCtorEq, Int.reduceLE, Int.reduceLT, Int.reduceAdd, Int.reduceSub, Int.reduceNeg, Int.reduceToNat, Int.reduceBEq, AtomD.av]) | (refine awp_cond' rfl (of_decide_eq_true rfl) (fun hc => ?_) (fun hc => ?_) <;> ((try simp only [Bool.not_true, Bool.not_false, Bool.not_eq_true', Bool.not_eq_false', Bool.not_eq_eq_eq_not] at hc); (first | (cases hc) | (simp only [hc]) | skip))))
    all_goals (first | refine awp_ret ?_ | skip); refine ⟨(by first | exact .inl rfl | exact .inr rfl | exact .inr trivial | trivial), ?_⟩; simp only [go_sem, ↓reduceIte, Nat.reduceEqDiff, Nat.reduceAdd, Nat.reduceLeDiff, Nat.reduceBEq, Nat.reduceMul, reduceCtorEq, Int.reduceLE, Int.reduceLT, Int.reduceAdd, Int.reduceSub, Int.reduceNeg, Int.reduceToNat, Int.reduceBEq, retV, resL, resV, sealV, sealC, sealAll, Tryd.f49]
theorem less_irr : ∀ x : List UInt8, Op.bytesLess x x = false
  | [] => rfl
  | a :: x => by
    unfold Op.bytesLess
    rw [less_irr x]
    simp
theorem cmpT_self (x : ByteArray) : cmpT x x = 0 := by unfold cmpT; rw [less_irr]; simp
theorem c_rAtomsS (a b : AtomD) (h : rankA a = rankA b → numA a = false → a.n = b.n ∨ a.s = b.s) (ka : i64B a.k) (kb : i64B b.k) (ia : i64B a.n) (ib : i64B b.n) (fa : a.f < 18446744073709551616) (fb : b.f < 18446744073709551616) : Pure Tryd.prog 37 [a.av, b.av] (iv (atomsS a b)) := by
  have r1 := c_rRank a.k ka
  have r2 := c_rRank b.k kb
  have l1 := rank_lt a b
  have l2 := rank_lt b a
  have t2 := rank_two a
  unfold atomsS
  by_cases hr : rankA a = rankA b
  · rw [if_neg (fun h => h hr)]
    have he : rankR a.k = rankR b.k := by omega
    rw [← he] at r2
    by_cases hn : numA a = true
    · rw [if_pos hn]
      have hnb : numA b = true := rank_num'.2 (by rw [← hr]; exact rank_num'.1 hn)
      have cx := c_rNumbers a b hn hnb ia ib fa fb
      rw [hn] at t2
      have hkk : cmp3 (a.k : Int) b.k = a.k - b.k ∧ IntKind.i64.wrap (a.k - b.k) = a.k - b.k := by
        simp only [numA, Bool.or_eq_true, beq_iff_eq] at hn hnb
        refine ⟨?_, IntWalk.i64_in _ (by omega)⟩
        unfold cmp3
        (repeat' split) <;> omega
      have hd : decide (rankR a.k < rankR a.k) = false := decide_eq_false (by omega)
      generalize cmp3 (nkeyA a) (nkeyA b) = c at *
      rw [hkk.1]
      have hk2 := hkk.2
      refine pure_of_awp Tryd.func37 rfl rfl (by simp [Tryd.f37]) ?_; simp only [go_sem, ↓reduceIte, Nat.reduceEqDiff, Nat.reduceAdd, Nat.reduceLeDiff, Nat.reduceBEq, Nat.reduceMul, reduceCtorEq, Int.reduceLE, Int.reduceLT, Int.reduceAdd, Int.reduceSub, Int.reduceNeg, Int.reduceToNat, Int.reduceBEq]
      repeat' (first | refine awp_seq ?_ | refine awp_block ?_ | refine awp_round ?_ | refine awp_text rfl ?_ | refine awp_any rfl mix (by kernel_rfl) ?_ | (refine RunTo.unguard rfl rfl (fun hg => ?_) (fun hg => ?_) <;> ((try simp only [Bool.not_true, Bool.not_false, Bool.not_eq_true', Bool.not_eq_false', Bool.not_eq_eq_eq_not] at hg); (first | (cases hg) | (simp only [hg]) | skip))) | ((first | refine RunTo.plain rfl ?_ | refine RunTo.skipped rfl ?_ | refine RunTo.call (r1) Tryd.func46 rfl rfl rfl rfl rfl rfl rfl rfl ?_ | refine RunTo.call (r2) Tryd.func46 rfl rfl rfl rfl rfl rfl rfl rfl ?_ | refine RunTo.call (cx) Tryd.func49 rfl rfl rfl rfl rfl rfl rfl rfl ?_); simp only [go_sem, ↓reduceIte, Nat.reduceEqDiff, Nat.reduceAdd, Nat.reduceLeDiff, Nat.reduceBEq, Nat.reduceMul, reduceCtorEq, Int.reduceLE, Int.reduceLT, Int.reduceAdd, Int.reduceSub, Int.reduceNeg, Int.reduceToNat, Int.reduceBEq, AtomD.av, hd, t2, hk2]) | ((first | refine RunTo.nil ⟨by kernel_rfl, ?_⟩ | refine RunTo.nil ?_ | refine awp_skip ?_ | refine awp_exit ?_); simp only [go_sem, ↓reduceIte, Nat.reduceEqDiff, Nat.reduceAdd, Nat.reduceLeDiff, Nat.reduceBEq, Nat.reduceMul, reduceCtorEq, Int.reduceLE, Int.reduceLT, Int.reduceAdd, Int.reduceSub, Int.reduceNeg, Int.reduceToNat, Int.reduceBEq, AtomD.av, hd, t2, hk2]) | (refine awp_cond' rfl (of_decide_eq_true rfl) (fun hc => ?_) (fun hc => ?_) <;> ((try simp only [Bool.not_true, Bool.not_false, Bool.not_eq_true', Bool.not_eq_false', Bool.not_eq_eq_eq_not] at hc); (first | (cases hc) | (simp only [hc]) | skip))))
      all_goals
        (first | refine awp_ret ?_ | skip); refine ⟨(by first | exact .inl rfl | exact .inr rfl | exact .inr trivial | trivial), ?_⟩; simp only [go_sem, ↓reduceIte, Nat.reduceEqDiff, Nat.reduceAdd, Nat.reduceLeDiff, Nat.reduceBEq, Nat.reduceMul, reduceCtorEq, Int.reduceLE, Int.reduceLT, Int.reduceAdd, Int.reduceSub, Int.reduceNeg, Int.reduceToNat, Int.reduceBEq, retV, resL, resV, sealV, sealC, sealAll, Tryd.f37]
        (try simp only [decide_eq_true_eq, decide_eq_false_iff_not, beq_iff_eq, bne_iff_ne, ne_eq, beq_eq_false_iff_ne, bne_eq_false_iff_eq, Bool.and_eq_true, Bool.or_eq_true, Bool.or_eq_false_iff, Bool.and_eq_false_iff] at *)
        unfold or2
        (repeat' split) <;> first | rfl | omega | (exfalso; omega) | (simp_all; done) | (simp_all; omega)
    · rw [if_neg hn]
      have hn' : numA a = false := by simpa using hn
      rw [hn'] at t2
      have hd : decide (rankR a.k < rankR a.k) = false := decide_eq_false (by omega)
      rcases h hr hn' with h | h
      · rw [h]
        have hd1 : decide (b.n < b.n) = false := decide_eq_false (by omega)
        have e : or2 (cmp3 b.n b.n) (cmpT a.s b.s) = cmpT a.s b.s := by unfold or2 cmp3; simp
        rw [e]
        cases h1 : Op.bytesLess a.s.toList b.s.toList <;> cases h2 : (a.s.toList == b.s.toList)
        all_goals
          have e : cmpT a.s b.s = if Op.bytesLess a.s.toList b.s.toList = true then -1 else if (a.s.toList == b.s.toList) = true then 0 else 1 := rfl
          rw [e]
          simp only [h1, h2, if_true, if_false, Bool.false_eq_true]
          refine pure_of_awp Tryd.func37 rfl rfl (by simp [Tryd.f37]) ?_; simp only [go_sem, ↓reduceIte, Nat.reduceEqDiff, Nat.reduceAdd, Nat.reduceLeDiff, Nat.reduceBEq, Nat.reduceMul, reduceCtorEq, Int.reduceLE, Int.reduceLT, Int.reduceAdd, Int.reduceSub, Int.reduceNeg, Int.reduceToNat, Int.reduceBEq]
          repeat' (first | refine awp_seq ?_ | refine awp_block ?_ | refine awp_round ?_ | refine awp_text rfl ?_ | refine awp_any rfl mix (by kernel_rfl) ?_ | (refine RunTo.unguard rfl rfl (fun hg => ?_) (fun hg => ?_) <;> ((try simp only [Bool.not_true, Bool.not_false, Bool.not_eq_true', Bool.not_eq_false', Bool.not_eq_eq_eq_not] at hg); (first | (cases hg) | (simp only [hg]) | skip))) | ((first | refine RunTo.plain rfl ?_ | refine RunTo.skipped rfl ?_ | refine RunTo.call (r1) Tryd.func46 rfl rfl rfl rfl rfl rfl rfl rfl ?_ | refine RunTo.call (r2) Tryd.func46 rfl rfl rfl rfl rfl rfl rfl rfl ?_); simp only [go_sem, ↓reduceIte, Nat.reduceEqDiff, Nat.reduceAdd, Nat.reduceLeDiff, Nat.reduceBEq, Nat.reduceMul, reduceCtorEq, Int.reduceLE, Int.reduceLT, Int.reduceAdd, Int.reduceSub, Int.reduceNeg, Int.reduceToNat, Int.reduceBEq, AtomD.av, hd, t2, h, hd1, h1, h2, Bool.or_self, Bool.or_true, Bool.or_false, Bool.not_false, Bool.not_true]) | ((first | refine RunTo.nil ⟨by kernel_rfl, ?_⟩ | refine RunTo.nil ?_ | refine awp_skip ?_ | refine awp_exit ?_); simp only [go_sem, ↓reduceIte, Nat.reduceEqDiff, Nat.reduceAdd, Nat.reduceLeDiff, Nat.reduceBEq, Nat.reduceMul, reduceCtorEq, Int.reduceLE, Int.reduceLT, Int.reduceAdd, Int.reduceSub, Int.reduceNeg, Int.reduceToNat, Int.reduceBEq, AtomD.av, hd, t2, h, hd1, h1, h2, Bool.or_self, Bool.or_true, Bool.or_false, Bool.not_false, Bool.not_true]) | (refine awp_cond' rfl (of_decide_eq_true rfl) (fun hc => ?_) (fun hc => ?_) <;> ((try simp only [Bool.not_true, Bool.not_false, Bool.not_eq_true', Bool.not_eq_false', Bool.not_eq_eq_eq_not] at hc); (first | (cases hc) | (simp only [hc]) | skip))))
          all_goals (first | refine awp_ret ?_ | skip); refine ⟨(by first | exact .inl rfl | exact .inr rfl | exact .inr trivial | trivial), ?_⟩; simp only [go_sem, ↓reduceIte, Nat.reduceEqDiff, Nat.reduceAdd, Nat.reduceLeDiff, Nat.reduceBEq, Nat.reduceMul, reduceCtorEq, Int.reduceLE, Int.reduceLT, Int.reduceAdd, Int.reduceSub, Int.reduceNeg, Int.reduceToNat, Int.reduceBEq, retV, resL, resV, sealV, sealC, sealAll, Tryd.f37]
      · rw [h, cmpT_self]
        have e : or2 (cmp3 a.n b.n) 0 = cmp3 a.n b.n := by unfold or2; split <;> simp_all
        rw [e]
        have hl := less_irr b.s.toList
        refine pure_of_awp Tryd.func37 rfl rfl (by simp [Tryd.f37]) ?_; simp only [go_sem, ↓reduceIte, Nat.reduceEqDiff, Nat.reduceAdd, Nat.reduceLeDiff, Nat.reduceBEq, Nat.reduceMul, reduceCtorEq, Int.reduceLE, Int.reduceLT, Int.reduceAdd, Int.reduceSub, Int.reduceNeg, Int.reduceToNat, Int.reduceBEq]
        repeat' (first | refine awp_seq ?_ | refine awp_block ?_ | refine awp_round ?_ | refine awp_text rfl ?_ | refine awp_any rfl mix (by kernel_rfl) ?_ | (refine RunTo.unguard rfl rfl (fun hg => ?_) (fun hg => ?_) <;> ((try simp only [Bool.not_true, Bool.not_false, Bool.not_eq_true', Bool.not_eq_false', Bool.not_eq_eq_eq_not] at hg); (first | (cases hg) | (simp only [hg]) | skip))) | ((first | refine RunTo.plain rfl ?_ | refine RunTo.skipped rfl ?_ | refine RunTo.call (r1) Tryd.func46 rfl rfl rfl rfl rfl rfl rfl rfl ?_ | refine RunTo.call (r2) Tryd.func46 rfl rfl rfl rfl rfl rfl rfl rfl ?_); simp only [go_sem, ↓reduceIte, Nat.reduceEqDiff, Nat.reduceAdd, Nat.reduceLeDiff, Nat.reduceBEq, Nat.reduceMul, reduceCtorEq, Int.reduceLE, Int.reduceLT, Int.reduceAdd, Int.reduceSub, Int.reduceNeg, Int.reduceToNat, Int.reduceBEq, AtomD.av, hd, t2, h, hl, beq_self_eq_true, Bool.or_true, Bool.not_true]) | ((first | refine RunTo.nil ⟨by kernel_rfl, ?_⟩ | refine RunTo.nil ?_ | refine awp_skip ?_ | refine awp_exit ?_); simp only [go_sem, ↓reduceIte, Nat.reduceEqDiff, Nat.reduceAdd, Nat.reduceLeDiff, Nat.reduceBEq, Nat.reduceMul, reduceCtorEq, Int.reduceLE, Int.reduceLT, Int.reduceAdd, Int.reduceSub, Int.reduceNeg, Int.reduceToNat, Int.reduceBEq, AtomD.av, hd, t2, h, hl, beq_self_eq_true, Bool.or_true, Bool.not_true]) | (refine awp_cond' rfl (of_decide_eq_true rfl) (fun hc => ?_) (fun hc => ?_) <;> ((try simp only [Bool.not_true, Bool.not_false, Bool.not_eq_true', Bool.not_eq_false', Bool.not_eq_eq_eq_not] at hc); (first | (cases hc) | (simp only [hc]) | skip))))
        all_goals
          (first | refine awp_ret ?_ | skip); refine ⟨(by first | exact .inl rfl | exact .inr rfl | exact .inr trivial | trivial), ?_⟩; simp only [go_sem, ↓reduceIte, Nat.reduceEqDiff, Nat.reduceAdd, Nat.reduceLeDiff, Nat.reduceBEq, Nat.reduceMul, reduceCtorEq, Int.reduceLE, Int.reduceLT, Int.reduceAdd, Int.reduceSub, Int.reduceNeg, Int.reduceToNat, Int.reduceBEq, retV, resL, resV, sealV, sealC, sealAll, Tryd.f37]
          (try simp only [decide_eq_true_eq, decide_eq_false_iff_not, beq_iff_eq, bne_iff_ne, ne_eq, beq_eq_false_iff_ne, bne_eq_false_iff_eq, Bool.and_eq_true, Bool.or_eq_true, Bool.or_eq_false_iff, Bool.and_eq_false_iff] at *)
          unfold cmp3
          (repeat' split) <;> first | rfl | omega
  · rw [if_pos hr]
    generalize rankR a.k = x at *
    generalize rankR b.k = y at *
    refine pure_of_awp Tryd.func37 rfl rfl (by simp [Tryd.f37]) ?_; simp only [go_sem, ↓reduceIte, Nat.reduceEqDiff, Nat.reduceAdd, Nat.reduceLeDiff, Nat.reduceBEq, Nat.reduceMul, reduceCtorEq, Int.reduceLE, Int.reduceLT, Int.reduceAdd, Int.reduceSub, Int.reduceNeg, Int.reduceToNat, Int.reduceBEq]
    repeat' (first | refine awp_seq ?_ | refine awp_block ?_ | refine awp_round ?_ | refine awp_text rfl ?_ | refine awp_any rfl mix (by kernel_rfl) ?_ | (refine RunTo.unguard rfl rfl (fun hg => ?_) (fun hg => ?_) <;> ((try simp only [Bool.not_true, Bool.not_false, Bool.not_eq_true', Bool.not_eq_false', Bool.not_eq_eq_eq_not] at hg); (first | (cases hg) | (simp only [hg]) | skip))) | ((first | refine RunTo.plain rfl ?_ | refine RunTo.skipped rfl ?_ | refine RunTo.call (r1) Tryd.func46 rfl rfl rfl rfl rfl rfl rfl rfl ?_ | refine RunTo.call (r2) Tryd.func46 rfl rfl rfl rfl rfl rfl rfl rfl ?_); simp only [go_sem, ↓reduceIte, Nat.reduceEqDiff, Nat.reduceAdd, Nat.reduceLeDiff, Nat.reduceBEq, Nat.reduceMul, reduceCtorEq, Int.reduceLE, Int.reduceLT, Int.reduceAdd, Int.reduceSub, Int.reduceNeg, Int.reduceToNat, Int.reduceBEq, AtomD.av]) | ((first | refine RunTo.nil ⟨by kernel_rfl, ?_⟩ | refine RunTo.nil ?_ | refine awp_skip ?_ | refine awp_exit ?_); simp only [go_sem, ↓reduceIte, Nat.reduceEqDiff, Nat.reduceAdd, Nat.reduceLeDiff, Nat.reduceBEq, Nat.reduceMul, reduceCtorEq, Int.reduceLE, Int.reduceLT, Int.reduceAdd, Int.reduceSub, Int.reduceNeg, Int.reduceToNat, Int.reduceBEq, AtomD.av]) | (refine awp_cond' rfl (of_decide_eq_true rfl) (fun hc => ?_) (fun hc => ?_) <;> ((try simp only [Bool.not_true, Bool.not_false, Bool.not_eq_true', Bool.not_eq_false', Bool.not_eq_eq_eq_not] at hc); (first | (cases hc) | (simp only [hc]) | skip))))
    all_goals
      first
      | ((first | refine awp_ret ?_ | skip); refine ⟨(by first | exact .inl rfl | exact .inr rfl | exact .inr trivial | trivial), ?_⟩; simp only [go_sem, ↓reduceIte, Nat.reduceEqDiff, Nat.reduceAdd, Nat.reduceLeDiff, Nat.reduceBEq, Nat.reduceMul, reduceCtorEq, Int.reduceLE, Int.reduceLT, Int.reduceAdd, Int.reduceSub, Int.reduceNeg, Int.reduceToNat, Int.reduceBEq, retV, resL, resV, sealV, sealC, sealAll, Tryd.f37]
         (try simp only [decide_eq_true_eq, decide_eq_false_iff_not, beq_iff_eq, bne_iff_ne, ne_eq, beq_eq_false_iff_ne, bne_eq_false_iff_eq, Bool.and_eq_true, Bool.or_eq_true, Bool.or_eq_false_iff, Bool.and_eq_false_iff] at *)
         unfold cmp3
         (repeat' split) <;> first | rfl | omega)
      | ((try simp only [decide_eq_true_eq, decide_eq_false_iff_not, beq_iff_eq, bne_iff_ne, ne_eq, beq_eq_false_iff_ne, bne_eq_false_iff_eq, Bool.and_eq_true, Bool.or_eq_true, Bool.or_eq_false_iff, Bool.and_eq_false_iff] at *); exfalso; omega)
      | trace_state
end Go.Proofs.YtjihcldhjpdnmaaDoor.AM
namespace Go.Proofs.YtjihcldhjpdnmaaDoor.AM
open Go.RowKit FL
set_option linter.unusedSimpArgs false
set_option linter.unusedVariables false
set_option maxRecDepth 10000
set_option maxHeartbeats 0
def kinA (a : AtomD) : Prop := i64B a.k ∧ i64B a.n ∧ a.f < 18446744073709551616
def kinV (v : ValD) : Prop := kinA v.a ∧ ∀ a ∈ v.l, kinA a
def hA (a b : AtomD) : Prop := rankA a = rankA b → numA a = false → a.n = b.n ∨ a.s = b.s
theorem c_rNumber (a : AtomD) : Pure Tryd.prog 48 [a.av] (bv (numA a)) := by
  refine pure_of_awp Tryd.func48 rfl rfl (by simp [Tryd.f48]) ?_; simp only [go_sem, ↓reduceIte, Nat.reduceEqDiff, Nat.reduceAdd, Nat.reduceLeDiff, Nat.reduceBEq, Nat.reduceMul, reduceCtorEq, Int.reduceLE, Int.reduceLT, Int.reduceAdd, Int.reduceSub, Int.reduceNeg, Int.reduceToNat, Int.reduceBEq]
  repeat' (first | refine awp_seq ?_ | refine awp_block ?_ | refine awp_round ?_ | refine awp_text rfl ?_ | refine awp_any rfl mix (by kernel_rfl) ?_ | (refine RunTo.unguard rfl rfl (fun hg => ?_) (fun hg => ?_) <;> ((try simp only [Bool.not_true, Bool.not_false, Bool.not_eq_true', Bool.not_eq_false', Bool.not_eq_eq_eq_not] at hg); (first | (cases hg) | (simp only [hg]) | skip))) | ((first | refine RunTo.plain rfl ?_ | refine RunTo.skipped rfl ?_); simp only [go_sem, ↓reduceIte, Nat.reduceEqDiff, Nat.reduceAdd, Nat.reduceLeDiff, Nat.reduceBEq, Nat.reduceMul, reduceCtorEq, Int.reduceLE, Int.reduceLT, Int.reduceAdd, Int.reduceSub, Int.reduceNeg, Int.reduceToNat, Int.reduceBEq, AtomD.av]) | ((first | refine RunTo.nil ⟨by kernel_rfl, ?_⟩ | refine RunTo.nil ?_ | refine awp_skip ?_ | refine awp_exit ?_); simp only [go_sem, ↓reduceIte, Nat.reduceEqDiff, Nat.reduceAdd, Nat.reduceLeDiff, Nat.reduceBEq, Nat.reduceMul, reduceCtorEq, Int.reduceLE, Int.reduceLT, Int.reduceAdd, Int.reduceSub, Int.reduceNeg, Int.reduceToNat, Int.reduceBEq, AtomD.av]) | (refine awp_cond' rfl (of_decide_eq_true rfl) (fun hc => ?_) (fun hc => ?_) <;> ((try simp only [Bool.not_true, Bool.not_false, Bool.not_eq_true', Bool.not_eq_false', Bool.not_eq_eq_eq_not] at hc); (first | (cases hc) | (simp only [hc]) | skip))))
  all_goals
    (first | refine awp_ret ?_ | skip); refine ⟨(by first | exact .inl rfl | exact .inr rfl | exact .inr trivial | trivial), ?_⟩; simp only [go_sem, ↓reduceIte, Nat.reduceEqDiff, Nat.reduceAdd, Nat.reduceLeDiff, Nat.reduceBEq, Nat.reduceMul, reduceCtorEq, Int.reduceLE, Int.reduceLT, Int.reduceAdd, Int.reduceSub, Int.reduceNeg, Int.reduceToNat, Int.reduceBEq, retV, resL, resV, sealV, sealC, sealAll, Tryd.f48]
    simp only [numA, *, Bool.true_or, Bool.false_or]
theorem c_rNan (a : AtomD) (fa : a.f < 18446744073709551616) : Pure Tryd.prog 47 [a.av] (bv (nanD a)) := by
  have c1 := c_rBits a.f
  have c2 := c_rClass a.f fa
  rw [← cls_eq] at c2
  refine pure_of_awp Tryd.func47 rfl rfl (by simp [Tryd.f47]) ?_; simp only [go_sem, ↓reduceIte, Nat.reduceEqDiff, Nat.reduceAdd, Nat.reduceLeDiff, Nat.reduceBEq, Nat.reduceMul, reduceCtorEq, Int.reduceLE, Int.reduceLT, Int.reduceAdd, Int.reduceSub, Int.reduceNeg, Int.reduceToNat, Int.reduceBEq]
  repeat' (first | refine awp_seq ?_ | refine awp_block ?_ | refine awp_round ?_ | refine awp_text rfl ?_ | refine awp_any rfl mix (by kernel_rfl) ?_ | (refine RunTo.unguard rfl rfl (fun hg => ?_) (fun hg => ?_) <;> ((try simp only [Bool.not_true, Bool.not_false, Bool.not_eq_true', Bool.not_eq_false', Bool.not_eq_eq_eq_not] at hg); (first | (cases hg) | (simp only [hg]) | skip))) | ((first | refine RunTo.plain rfl ?_ | refine RunTo.skipped rfl ?_ | refine RunTo.call (c1) Tryd.func34 rfl rfl rfl rfl rfl rfl rfl rfl ?_ | refine RunTo.call (c2) Tryd.func85 rfl rfl rfl rfl rfl rfl rfl rfl ?_); simp only [go_sem, ↓reduceIte, Nat.reduceEqDiff, Nat.reduceAdd, Nat.reduceLeDiff, Nat.reduceBEq, Nat.reduceMul, reduceCtorEq, Int.reduceLE, Int.reduceLT, Int.reduceAdd, Int.reduceSub, Int.reduceNeg, Int.reduceToNat, Int.reduceBEq, AtomD.av]) | ((first | refine RunTo.nil ⟨by kernel_rfl, ?_⟩ | refine RunTo.nil ?_ | refine awp_skip ?_ | refine awp_exit ?_); simp only [go_sem, ↓reduceIte, Nat.reduceEqDiff, Nat.reduceAdd, Nat.reduceLeDiff, Nat.reduceBEq, Nat.reduceMul, reduceCtorEq, Int.reduceLE, Int.reduceLT, Int.reduceAdd, Int.reduceSub, Int.reduceNeg, Int.reduceToNat, Int.reduceBEq, AtomD.av]) | (refine awp_cond' rfl (of_decide_eq_true rfl) (fun hc => ?_) (fun hc => ?_) <;> ((try simp only [Bool.not_true, Bool.not_false, Bool.not_eq_true', Bool.not_eq_false', Bool.not_eq_eq_eq_not] at hc); (first | (cases hc) | (simp only [hc]) | skip))))
  all_goals
    (first | refine awp_ret ?_ | skip); refine ⟨(by first | exact .inl rfl | exact .inr rfl | exact .inr trivial | trivial), ?_⟩; simp only [go_sem, ↓reduceIte, Nat.reduceEqDiff, Nat.reduceAdd, Nat.reduceLeDiff, Nat.reduceBEq, Nat.reduceMul, reduceCtorEq, Int.reduceLE, Int.reduceLT, Int.reduceAdd, Int.reduceSub, Int.reduceNeg, Int.reduceToNat, Int.reduceBEq, retV, resL, resV, sealV, sealC, sealAll, Tryd.f47]
    simp only [nanD, *, Bool.true_and, Bool.false_and]
def sameS (a b : AtomD) : Bool := !(nanD a) && !(nanD b) && (if (numA a && numA b) = true then cmp3 (nkeyA a) (nkeyA b) == 0 else atomsS a b == 0)
theorem alike_same (a b : AtomD) : alikeS a b = (!(a.k == 0) && !(b.k == 0) && sameS a b) := by
  unfold alikeS sameS
  cases nanD a <;> cases nanD b <;> cases (a.k == 0) <;> cases (b.k == 0) <;> rfl
theorem c_rSame (a b : AtomD) (h : hA a b) (ka : kinA a) (kb : kinA b) : Pure Tryd.prog 41 [a.av, b.av] (bv (sameS a b)) := by
  have a1 := c_rNan a ka.2.2
  have a2 := c_rNan b kb.2.2
  have n1 := c_rNumber a
  have n2 := c_rNumber b
  have ca := c_rAtomsS a b h ka.1 kb.1 ka.2.1 kb.2.1 ka.2.2 kb.2.2
  by_cases hn : numA a = true ∧ numA b = true
  · have cx := c_rNumbers a b hn.1 hn.2 ka.2.1 kb.2.1 ka.2.2 kb.2.2
    unfold sameS
    rw [hn.1, hn.2]
    rw [hn.1] at n1
    rw [hn.2] at n2
    generalize nanD a = p at *
    generalize nanD b = q at *
    refine pure_of_awp Tryd.func41 rfl rfl (by simp [Tryd.f41]) ?_; simp only [go_sem, ↓reduceIte, Nat.reduceEqDiff, Nat.reduceAdd, Nat.reduceLeDiff, Nat.reduceBEq, Nat.reduceMul, reduceCtorEq, Int.reduceLE, Int.reduceLT, Int.reduceAdd, Int.reduceSub, Int.reduceNeg, Int.reduceToNat, Int.reduceBEq]
    repeat' (first | refine awp_seq ?_ | refine awp_block ?_ | refine awp_round ?_ | refine awp_text rfl ?_ | refine awp_any rfl mix (by kernel_rfl) ?_ | (refine RunTo.unguard rfl rfl (fun hg => ?_) (fun hg => ?_) <;> ((try simp only [Bool.not_true, Bool.not_false, Bool.not_eq_true', Bool.not_eq_false', Bool.not_eq_eq_eq_not] at hg); (first | (cases hg) | (simp only [hg]) | skip))) | ((first | refine RunTo.plain rfl ?_ | refine RunTo.skipped rfl ?_ | refine RunTo.call (a1) Tryd.func47 rfl rfl rfl rfl rfl rfl rfl rfl ?_ | refine RunTo.call (a2) Tryd.func47 rfl rfl rfl rfl rfl rfl rfl rfl ?_ | refine RunTo.call (n1) Tryd.func48 rfl rfl rfl rfl rfl rfl rfl rfl ?_ | refine RunTo.call (n2) Tryd.func48 rfl rfl rfl rfl rfl rfl rfl rfl ?_ | refine RunTo.call (cx) Tryd.func49 rfl rfl rfl rfl rfl rfl rfl rfl ?_); simp only [go_sem, ↓reduceIte, Nat.reduceEqDiff, Nat.reduceAdd, Nat.reduceLeDiff, Nat.reduceBEq, Nat.reduceMul, reduceCtorEq, Int.reduceLE, Int.reduceLT, Int.reduceAdd, Int.reduceSub, Int.reduceNeg, Int.reduceToNat, Int.reduceBEq, AtomD.av]) | ((first | refine RunTo.nil ⟨by kernel_rfl, ?_⟩ | refine RunTo.nil ?_ | refine awp_skip ?_ | refine awp_exit ?_); simp only [go_sem, ↓reduceIte, Nat.reduceEqDiff, Nat.reduceAdd, Nat.reduceLeDiff, Nat.reduceBEq, Nat.reduceMul, reduceCtorEq, Int.reduceLE, Int.reduceLT, Int.reduceAdd, Int.reduceSub, Int.reduceNeg, Int.reduceToNat, Int.reduceBEq, AtomD.av]) | (refine awp_cond' rfl (of_decide_eq_true rfl) (fun hc => ?_) (fun hc => ?_) <;> ((try simp only [Bool.not_true, Bool.not_false, Bool.not_eq_true', Bool.not_eq_false', Bool.not_eq_eq_eq_not] at hc); (first | (cases hc) | (simp only [hc]) | skip))))
    all_goals
      (first | refine awp_ret ?_ | skip); refine ⟨(by first | exact .inl rfl | exact .inr rfl | exact .inr trivial | trivial), ?_⟩; simp only [go_sem, ↓reduceIte, Nat.reduceEqDiff, Nat.reduceAdd, Nat.reduceLeDiff, Nat.reduceBEq, Nat.reduceMul, reduceCtorEq, Int.reduceLE, Int.reduceLT, Int.reduceAdd, Int.reduceSub, Int.reduceNeg, Int.reduceToNat, Int.reduceBEq, retV, resL, resV, sealV, sealC, sealAll, Tryd.f41]
      simp [*]
  · unfold sameS
    rw [show (numA a && numA b) = false by cases h1 : numA a <;> cases h2 : numA b <;> simp_all]
    generalize nanD a = p at *
    generalize nanD b = q at *
    generalize numA a = r at *
    generalize numA b = s at *
    refine pure_of_awp Tryd.func41 rfl rfl (by simp [Tryd.f41]) ?_; simp only [go_sem, ↓reduceIte, Nat.reduceEqDiff, Nat.reduceAdd, Nat.reduceLeDiff, Nat.reduceBEq, Nat.reduceMul, reduceCtorEq, Int.reduceLE, Int.reduceLT, Int.reduceAdd, Int.reduceSub, Int.reduceNeg, Int.reduceToNat, Int.reduceBEq]
    repeat' (first | refine awp_seq ?_ | refine awp_block ?_ | refine awp_round ?_ | refine awp_text rfl ?_ | refine awp_any rfl mix (by kernel_rfl) ?_ | (refine RunTo.unguard rfl rfl (fun hg => ?_) (fun hg => ?_) <;> ((try simp only [Bool.not_true, Bool.not_false, Bool.not_eq_true', Bool.not_eq_false', Bool.not_eq_eq_eq_not] at hg); (first | (cases hg) | (simp only [hg]) | skip))) | ((first | refine RunTo.plain rfl ?_ | refine RunTo.skipped rfl ?_ | refine RunTo.call (a1) Tryd.func47 rfl rfl rfl rfl rfl rfl rfl rfl ?_ | refine RunTo.call (a2) Tryd.func47 rfl rfl rfl rfl rfl rfl rfl rfl ?_ | refine RunTo.call (n1) Tryd.func48 rfl rfl rfl rfl rfl rfl rfl rfl ?_ | refine RunTo.call (n2) Tryd.func48 rfl rfl rfl rfl rfl rfl rfl rfl ?_ | refine RunTo.call (ca) Tryd.func37 rfl rfl rfl rfl rfl rfl rfl rfl ?_); simp only [go_sem, ↓reduceIte, Nat.reduceEqDiff, Nat.reduceAdd, Nat.reduceLeDiff, Nat.reduceBEq, Nat.reduceMul, reduceCtorEq, Int.reduceLE, Int.reduceLT, Int.reduceAdd, Int.reduceSub, Int.reduceNeg, Int.reduceToNat, Int.reduceBEq, AtomD.av]) | ((first | refine RunTo.nil ⟨by kernel_rfl, ?_⟩ | refine RunTo.nil ?_ | refine awp_skip ?_ | refine awp_exit ?_); simp only [go_sem, ↓reduceIte, Nat.reduceEqDiff, Nat.reduceAdd, Nat.reduceLeDiff, Nat.reduceBEq, Nat.reduceMul, reduceCtorEq, Int.reduceLE, Int.reduceLT, Int.reduceAdd, Int.reduceSub, Int.reduceNeg, Int.reduceToNat, Int.reduceBEq, AtomD.av]) | (refine awp_cond' rfl (of_decide_eq_true rfl) (fun hc => ?_) (fun hc => ?_) <;> ((try simp only [Bool.not_true, Bool.not_false, Bool.not_eq_true', Bool.not_eq_false', Bool.not_eq_eq_eq_not] at hc); (first | (cases hc) | (simp only [hc]) | skip))))
    all_goals
      first
      | (exfalso; exact hn ⟨by assumption, by assumption⟩)
      | (exfalso; simp_all; done)
      | ((first | refine awp_ret ?_ | skip); refine ⟨(by first | exact .inl rfl | exact .inr rfl | exact .inr trivial | trivial), ?_⟩; simp only [go_sem, ↓reduceIte, Nat.reduceEqDiff, Nat.reduceAdd, Nat.reduceLeDiff, Nat.reduceBEq, Nat.reduceMul, reduceCtorEq, Int.reduceLE, Int.reduceLT, Int.reduceAdd, Int.reduceSub, Int.reduceNeg, Int.reduceToNat, Int.reduceBEq, retV, resL, resV, sealV, sealC, sealAll, Tryd.f41]
         simp [*]; done)
      | trace_state
end Go.Proofs.YtjihcldhjpdnmaaDoor.AM
namespace Go.Proofs.YtjihcldhjpdnmaaDoor.AM
open Go.RowKit FL
set_option linter.unusedSimpArgs false
set_option linter.unusedVariables false
set_option maxRecDepth 10000
set_option maxHeartbeats 0
theorem str_nil {s : ByteArray} (h : (s.toList == eE.toList) = true) : s = eE := by
  have h1 := eq_of_beq h
  rw [ByteArray.toList_eq, ByteArray.toList_eq] at h1
  exact ByteArray.ext (Array.ext' h1)
def plainA (a : AtomD) : Prop := (a.k ≠ 1 → a.k ≠ 2 → a.n = 0) ∧ (a.k = 1 → a.s = eE)
theorem plain_of {a : AtomD} (h : validA a = true ∨ isA a false false false = true) : plainA a := by
  rcases h with h | h
  · unfold validA isA at h
    refine ⟨fun h1 h2 => ?_, fun h1 => ?_⟩
    · rw [if_neg h1, if_neg h2] at h
      (repeat' split at h) <;> first | (cases h; done) | (simp only [Bool.false_or, Bool.and_eq_true, beq_iff_eq] at h; exact h.1.1) | (simp only [Bool.false_or, Bool.and_eq_true, beq_iff_eq] at h; exact h.1.1.1)
    · rw [if_neg (by omega), if_pos h1] at h
      simp only [Bool.false_or, Bool.and_eq_true] at h
      exact str_nil h.1.2
  · unfold isA at h
    simp only [Bool.false_or, Bool.and_eq_true] at h
    exact ⟨fun _ _ => eq_of_beq h.1.1, fun _ => str_nil h.2⟩
theorem hA_of {a b : AtomD} (ha : plainA a) (hb : plainA b) : hA a b := fun hr hn => by
  have hk : a.k = b.k := by
    unfold rankA at hr
    simp only [numA, Bool.or_eq_false_iff, beq_eq_false_iff_ne] at hn
    (repeat' split at hr) <;> omega
  simp only [numA, Bool.or_eq_false_iff, beq_eq_false_iff_ne] at hn
  by_cases h1 : a.k = 1
  · right; rw [ha.2 h1, hb.2 (by omega)]
  · left; rw [ha.1 h1 hn.1, hb.1 (by omega) (by omega)]
theorem plain_v {v : ValD} (h : validV v = true) : plainA v.a ∧ ∀ a ∈ v.l, plainA a := by
  by_cases h6 : v.a.k = 6
  · rw [validV_list h6] at h
    simp only [Bool.and_eq_true, List.all_eq_true] at h
    exact ⟨plain_of (.inr h.1.1), fun a ha => plain_of (.inl (h.2 a ha))⟩
  · rw [validV_atom h6] at h
    simp only [Bool.and_eq_true, beq_iff_eq] at h
    have hl : v.l = [] := List.length_eq_zero_iff.1 (by omega)
    exact ⟨plain_of (.inl h.1), fun a ha => by rw [hl] at ha; cases ha⟩
theorem kin_fl {v : ValD} (h : kinV v) : flV v := ⟨h.1.2.2, fun a ha => (h.2 a ha).2.2⟩
theorem list_nil {v : ValD} (h : validV v = true) (h6 : v.a.k ≠ 6) : v.l = [] := by
  rw [validV_atom h6] at h
  simp only [Bool.and_eq_true, beq_iff_eq] at h
  exact List.length_eq_zero_iff.1 (by omega)
theorem c_rLess (a b : ValD) (ka : kinV a) (kb : kinV b) : Pure Tryd.prog 18 [a.av, b.av] (iv (lessS a b)) := by
  have va := c_rValid a (kin_fl ka)
  have vb := c_rValid b (kin_fl kb)
  have a1 := c_rNan a.a ka.1.2.2
  have a2 := c_rNan b.a kb.1.2.2
  have n1 := c_rNumber a.a
  have r1 := c_rRank a.a.k ka.1.1
  have r2 := c_rRank b.a.k kb.1.1
  unfold lessS unkS
  by_cases hv : validV a = true ∧ validV b = true
  · have pa := plain_v hv.1
    have pb := plain_v hv.2
    have ca := c_rAtomsS a.a b.a (hA_of pa.1 pb.1) ka.1.1 kb.1.1 ka.1.2.1 kb.1.2.1 ka.1.2.2 kb.1.2.2
    rw [hv.1, hv.2]
    rw [hv.1] at va
    rw [hv.2] at vb
    by_cases hk : a.a.k = 0 ∨ b.a.k = 0 ∨ a.a.k = 6 ∨ rankA a.a ≠ rankA b.a
    · rw [if_pos (by rcases hk with h | h | h | h <;> simp [h])]
      have hne : rankA a.a ≠ rankA b.a → (rankR a.a.k == rankR b.a.k) = false := fun h => by
        have l1 := rank_lt a.a b.a
        have l2 := rank_lt b.a a.a
        rw [beq_eq_false_iff_ne]; omega
      generalize rankR a.a.k = x at *
      generalize rankR b.a.k = y at *
      refine pure_of_awp Tryd.func18 rfl rfl (by simp [Tryd.f18]) ?_; simp only [go_sem, ↓reduceIte, Nat.reduceEqDiff, Nat.reduceAdd, Nat.reduceLeDiff, Nat.reduceBEq, Nat.reduceMul, reduceCtorEq, Int.reduceLE, Int.reduceLT, Int.reduceAdd, Int.reduceSub, Int.reduceNeg, Int.reduceToNat, Int.reduceBEq]
      repeat' (first | refine awp_seq ?_ | refine awp_block ?_ | refine awp_round ?_ | refine awp_text rfl ?_ | refine awp_any rfl mix (by kernel_rfl) ?_ | (refine RunTo.unguard rfl rfl (fun hg => ?_) (fun hg => ?_) <;> ((try simp only [Bool.not_true, Bool.not_false, Bool.not_eq_true', Bool.not_eq_false', Bool.not_eq_eq_eq_not] at hg); (first | (cases hg) | (simp only [hg]) | skip))) | ((first | refine RunTo.plain rfl ?_ | refine RunTo.skipped rfl ?_ | refine RunTo.call (va) Tryd.func12 rfl rfl rfl rfl rfl rfl rfl rfl ?_ | refine RunTo.call (vb) Tryd.func12 rfl rfl rfl rfl rfl rfl rfl rfl ?_ | refine RunTo.call (r1) Tryd.func46 rfl rfl rfl rfl rfl rfl rfl rfl ?_ | refine RunTo.call (r2) Tryd.func46 rfl rfl rfl rfl rfl rfl rfl rfl ?_ | refine RunTo.call (a1) Tryd.func47 rfl rfl rfl rfl rfl rfl rfl rfl ?_); simp only [go_sem, ↓reduceIte, Nat.reduceEqDiff, Nat.reduceAdd, Nat.reduceLeDiff, Nat.reduceBEq, Nat.reduceMul, reduceCtorEq, Int.reduceLE, Int.reduceLT, Int.reduceAdd, Int.reduceSub, Int.reduceNeg, Int.reduceToNat, Int.reduceBEq, ValD.av, bne]) | ((first | refine RunTo.nil ⟨by kernel_rfl, ?_⟩ | refine RunTo.nil ?_ | refine awp_skip ?_ | refine awp_exit ?_); simp only [go_sem, ↓reduceIte, Nat.reduceEqDiff, Nat.reduceAdd, Nat.reduceLeDiff, Nat.reduceBEq, Nat.reduceMul, reduceCtorEq, Int.reduceLE, Int.reduceLT, Int.reduceAdd, Int.reduceSub, Int.reduceNeg, Int.reduceToNat, Int.reduceBEq, ValD.av, bne]) | (refine awp_cond' rfl (of_decide_eq_true rfl) (fun hc => ?_) (fun hc => ?_) <;> ((try simp only [Bool.not_true, Bool.not_false, Bool.not_eq_true', Bool.not_eq_false', Bool.not_eq_eq_eq_not] at hc); (first | (cases hc) | (simp only [hc]) | skip))))
      all_goals
        first
        | ((first | refine awp_ret ?_ | skip); refine ⟨(by first | exact .inl rfl | exact .inr rfl | exact .inr trivial | trivial), ?_⟩; simp only [go_sem, ↓reduceIte, Nat.reduceEqDiff, Nat.reduceAdd, Nat.reduceLeDiff, Nat.reduceBEq, Nat.reduceMul, reduceCtorEq, Int.reduceLE, Int.reduceLT, Int.reduceAdd, Int.reduceSub, Int.reduceNeg, Int.reduceToNat, Int.reduceBEq, retV, resL, resV, sealV, sealC, sealAll, Tryd.f18]; done)
        | (exfalso; simp_all; done)
        | trace_state
    · rw [if_neg (by simp only [not_or] at hk; simp [hk])]
      simp only [not_or, Decidable.not_not] at hk
      have l1 := rank_lt a.a b.a
      have l2 := rank_lt b.a a.a
      have he : rankR a.a.k = rankR b.a.k := by omega
      rw [← he] at r2
      have k1 : (a.a.k == 0) = false := by simpa using hk.1
      have k2 : (b.a.k == 0) = false := by simpa using hk.2.1
      have k3 : (a.a.k == 6) = false := by simpa using hk.2.2.1
      by_cases hn : nanD a.a = true ∨ nanD b.a = true
      · rw [if_pos hn]
        generalize nanD a.a = p at *
        generalize nanD b.a = q at *
        refine pure_of_awp Tryd.func18 rfl rfl (by simp [Tryd.f18]) ?_; simp only [go_sem, ↓reduceIte, Nat.reduceEqDiff, Nat.reduceAdd, Nat.reduceLeDiff, Nat.reduceBEq, Nat.reduceMul, reduceCtorEq, Int.reduceLE, Int.reduceLT, Int.reduceAdd, Int.reduceSub, Int.reduceNeg, Int.reduceToNat, Int.reduceBEq]
        repeat' (first | refine awp_seq ?_ | refine awp_block ?_ | refine awp_round ?_ | refine awp_text rfl ?_ | refine awp_any rfl mix (by kernel_rfl) ?_ | (refine RunTo.unguard rfl rfl (fun hg => ?_) (fun hg => ?_) <;> ((try simp only [Bool.not_true, Bool.not_false, Bool.not_eq_true', Bool.not_eq_false', Bool.not_eq_eq_eq_not] at hg); (first | (cases hg) | (simp only [hg]) | skip))) | ((first | refine RunTo.plain rfl ?_ | refine RunTo.skipped rfl ?_ | refine RunTo.call (va) Tryd.func12 rfl rfl rfl rfl rfl rfl rfl rfl ?_ | refine RunTo.call (vb) Tryd.func12 rfl rfl rfl rfl rfl rfl rfl rfl ?_ | refine RunTo.call (r1) Tryd.func46 rfl rfl rfl rfl rfl rfl rfl rfl ?_ | refine RunTo.call (r2) Tryd.func46 rfl rfl rfl rfl rfl rfl rfl rfl ?_ | refine RunTo.call (a1) Tryd.func47 rfl rfl rfl rfl rfl rfl rfl rfl ?_ | refine RunTo.call (a2) Tryd.func47 rfl rfl rfl rfl rfl rfl rfl rfl ?_ | refine RunTo.call (ca) Tryd.func37 rfl rfl rfl rfl rfl rfl rfl rfl ?_); simp only [go_sem, ↓reduceIte, Nat.reduceEqDiff, Nat.reduceAdd, Nat.reduceLeDiff, Nat.reduceBEq, Nat.reduceMul, reduceCtorEq, Int.reduceLE, Int.reduceLT, Int.reduceAdd, Int.reduceSub, Int.reduceNeg, Int.reduceToNat, Int.reduceBEq, ValD.av, AtomD.av, bne, k1, k2, k3, beq_self_eq_true, Bool.not_true]) | ((first | refine RunTo.nil ⟨by kernel_rfl, ?_⟩ | refine RunTo.nil ?_ | refine awp_skip ?_ | refine awp_exit ?_); simp only [go_sem, ↓reduceIte, Nat.reduceEqDiff, Nat.reduceAdd, Nat.reduceLeDiff, Nat.reduceBEq, Nat.reduceMul, reduceCtorEq, Int.reduceLE, Int.reduceLT, Int.reduceAdd, Int.reduceSub, Int.reduceNeg, Int.reduceToNat, Int.reduceBEq, ValD.av, AtomD.av, bne, k1, k2, k3, beq_self_eq_true, Bool.not_true]) | (refine awp_cond' rfl (of_decide_eq_true rfl) (fun hc => ?_) (fun hc => ?_) <;> ((try simp only [Bool.not_true, Bool.not_false, Bool.not_eq_true', Bool.not_eq_false', Bool.not_eq_eq_eq_not] at hc); (first | (cases hc) | (simp only [hc]) | skip))))
        all_goals
          first
          | ((first | refine awp_ret ?_ | skip); refine ⟨(by first | exact .inl rfl | exact .inr rfl | exact .inr trivial | trivial), ?_⟩; simp only [go_sem, ↓reduceIte, Nat.reduceEqDiff, Nat.reduceAdd, Nat.reduceLeDiff, Nat.reduceBEq, Nat.reduceMul, reduceCtorEq, Int.reduceLE, Int.reduceLT, Int.reduceAdd, Int.reduceSub, Int.reduceNeg, Int.reduceToNat, Int.reduceBEq, retV, resL, resV, sealV, sealC, sealAll, Tryd.f18]; done)
          | (exfalso; simp_all; done)
          | trace_state
      · have hn' : nanD a.a = false ∧ nanD b.a = false := by simpa using hn
        rw [if_neg hn]
        rw [hn'.1] at a1
        rw [hn'.2] at a2
        by_cases m1 : numA a.a = true
        · rw [m1] at n1
          rw [if_pos m1]
          have m2 : numA b.a = true := rank_num'.2 (by rw [← hk.2.2.2]; exact rank_num'.1 m1)
          have cx := c_rNumbers a.a b.a m1 m2 ka.1.2.1 kb.1.2.1 ka.1.2.2 kb.1.2.2
          generalize cmp3 (nkeyA a.a) (nkeyA b.a) = c at *
          refine pure_of_awp Tryd.func18 rfl rfl (by simp [Tryd.f18]) ?_; simp only [go_sem, ↓reduceIte, Nat.reduceEqDiff, Nat.reduceAdd, Nat.reduceLeDiff, Nat.reduceBEq, Nat.reduceMul, reduceCtorEq, Int.reduceLE, Int.reduceLT, Int.reduceAdd, Int.reduceSub, Int.reduceNeg, Int.reduceToNat, Int.reduceBEq]
          repeat' (first | refine awp_seq ?_ | refine awp_block ?_ | refine awp_round ?_ | refine awp_text rfl ?_ | refine awp_any rfl mix (by kernel_rfl) ?_ | (refine RunTo.unguard rfl rfl (fun hg => ?_) (fun hg => ?_) <;> ((try simp only [Bool.not_true, Bool.not_false, Bool.not_eq_true', Bool.not_eq_false', Bool.not_eq_eq_eq_not] at hg); (first | (cases hg) | (simp only [hg]) | skip))) | ((first | refine RunTo.plain rfl ?_ | refine RunTo.skipped rfl ?_ | refine RunTo.call (va) Tryd.func12 rfl rfl rfl rfl rfl rfl rfl rfl ?_ | refine RunTo.call (vb) Tryd.func12 rfl rfl rfl rfl rfl rfl rfl rfl ?_ | refine RunTo.call (r1) Tryd.func46 rfl rfl rfl rfl rfl rfl rfl rfl ?_ | refine RunTo.call (r2) Tryd.func46 rfl rfl rfl rfl rfl rfl rfl rfl ?_ | refine RunTo.call (a1) Tryd.func47 rfl rfl rfl rfl rfl rfl rfl rfl ?_ | refine RunTo.call (a2) Tryd.func47 rfl rfl rfl rfl rfl rfl rfl rfl ?_ | refine RunTo.call (ca) Tryd.func37 rfl rfl rfl rfl rfl rfl rfl rfl ?_ | refine RunTo.call (n1) Tryd.func48 rfl rfl rfl rfl rfl rfl rfl rfl ?_ | refine RunTo.call (cx) Tryd.func49 rfl rfl rfl rfl rfl rfl rfl rfl ?_); simp only [go_sem, ↓reduceIte, Nat.reduceEqDiff, Nat.reduceAdd, Nat.reduceLeDiff, Nat.reduceBEq, Nat.reduceMul, reduceCtorEq, Int.reduceLE, Int.reduceLT, Int.reduceAdd, Int.reduceSub, Int.reduceNeg, Int.reduceToNat, Int.reduceBEq, ValD.av, AtomD.av, bne, k1, k2, k3, beq_self_eq_true, Bool.not_true]) | ((first | refine RunTo.nil ⟨by kernel_rfl, ?_⟩ | refine RunTo.nil ?_ | refine awp_skip ?_ | refine awp_exit ?_); simp only [go_sem, ↓reduceIte, Nat.reduceEqDiff, Nat.reduceAdd, Nat.reduceLeDiff, Nat.reduceBEq, Nat.reduceMul, reduceCtorEq, Int.reduceLE, Int.reduceLT, Int.reduceAdd, Int.reduceSub, Int.reduceNeg, Int.reduceToNat, Int.reduceBEq, ValD.av, AtomD.av, bne, k1, k2, k3, beq_self_eq_true, Bool.not_true]) | (refine awp_cond' rfl (of_decide_eq_true rfl) (fun hc => ?_) (fun hc => ?_) <;> ((try simp only [Bool.not_true, Bool.not_false, Bool.not_eq_true', Bool.not_eq_false', Bool.not_eq_eq_eq_not] at hc); (first | (cases hc) | (simp only [hc]) | skip))))
          all_goals
            (first | refine awp_ret ?_ | skip); refine ⟨(by first | exact .inl rfl | exact .inr rfl | exact .inr trivial | trivial), ?_⟩; simp only [go_sem, ↓reduceIte, Nat.reduceEqDiff, Nat.reduceAdd, Nat.reduceLeDiff, Nat.reduceBEq, Nat.reduceMul, reduceCtorEq, Int.reduceLE, Int.reduceLT, Int.reduceAdd, Int.reduceSub, Int.reduceNeg, Int.reduceToNat, Int.reduceBEq, retV, resL, resV, sealV, sealC, sealAll, Tryd.f18]
            (try simp only [decide_eq_true_eq, decide_eq_false_iff_not, beq_iff_eq, bne_iff_ne, ne_eq, beq_eq_false_iff_ne, bne_eq_false_iff_eq, Bool.and_eq_true, Bool.or_eq_true, Bool.or_eq_false_iff, Bool.and_eq_false_iff] at *)
            (repeat' split) <;> first | rfl | omega
        · have m1' : numA a.a = false := by simpa using m1
          rw [m1'] at n1
          rw [if_neg m1]
          generalize atomsS a.a b.a = c at *
          refine pure_of_awp Tryd.func18 rfl rfl (by simp [Tryd.f18]) ?_; simp only [go_sem, ↓reduceIte, Nat.reduceEqDiff, Nat.reduceAdd, Nat.reduceLeDiff, Nat.reduceBEq, Nat.reduceMul, reduceCtorEq, Int.reduceLE, Int.reduceLT, Int.reduceAdd, Int.reduceSub, Int.reduceNeg, Int.reduceToNat, Int.reduceBEq]
          repeat' (first | refine awp_seq ?_ | refine awp_block ?_ | refine awp_round ?_ | refine awp_text rfl ?_ | refine awp_any rfl mix (by kernel_rfl) ?_ | (refine RunTo.unguard rfl rfl (fun hg => ?_) (fun hg => ?_) <;> ((try simp only [Bool.not_true, Bool.not_false, Bool.not_eq_true', Bool.not_eq_false', Bool.not_eq_eq_eq_not] at hg); (first | (cases hg) | (simp only [hg]) | skip))) | ((first | refine RunTo.plain rfl ?_ | refine RunTo.skipped rfl ?_ | refine RunTo.call (va) Tryd.func12 rfl rfl rfl rfl rfl rfl rfl rfl ?_ | refine RunTo.call (vb) Tryd.func12 rfl rfl rfl rfl rfl rfl rfl rfl ?_ | refine RunTo.call (r1) Tryd.func46 rfl rfl rfl rfl rfl rfl rfl rfl ?_ | refine RunTo.call (r2) Tryd.func46 rfl rfl rfl rfl rfl rfl rfl rfl ?_ | refine RunTo.call (a1) Tryd.func47 rfl rfl rfl rfl rfl rfl rfl rfl ?_ | refine RunTo.call (a2) Tryd.func47 rfl rfl rfl rfl rfl rfl rfl rfl ?_ | refine RunTo.call (ca) Tryd.func37 rfl rfl rfl rfl rfl rfl rfl rfl ?_ | refine RunTo.call (n1) Tryd.func48 rfl rfl rfl rfl rfl rfl rfl rfl ?_); simp only [go_sem, ↓reduceIte, Nat.reduceEqDiff, Nat.reduceAdd, Nat.reduceLeDiff, Nat.reduceBEq, Nat.reduceMul, reduceCtorEq, Int.reduceLE, Int.reduceLT, Int.reduceAdd, Int.reduceSub, Int.reduceNeg, Int.reduceToNat, Int.reduceBEq, ValD.av, AtomD.av, bne, k1, k2, k3, beq_self_eq_true, Bool.not_true]) | ((first | refine RunTo.nil ⟨by kernel_rfl, ?_⟩ | refine RunTo.nil ?_ | refine awp_skip ?_ | refine awp_exit ?_); simp only [go_sem, ↓reduceIte, Nat.reduceEqDiff, Nat.reduceAdd, Nat.reduceLeDiff, Nat.reduceBEq, Nat.reduceMul, reduceCtorEq, Int.reduceLE, Int.reduceLT, Int.reduceAdd, Int.reduceSub, Int.reduceNeg, Int.reduceToNat, Int.reduceBEq, ValD.av, AtomD.av, bne, k1, k2, k3, beq_self_eq_true, Bool.not_true]) | (refine awp_cond' rfl (of_decide_eq_true rfl) (fun hc => ?_) (fun hc => ?_) <;> ((try simp only [Bool.not_true, Bool.not_false, Bool.not_eq_true', Bool.not_eq_false', Bool.not_eq_eq_eq_not] at hc); (first | (cases hc) | (simp only [hc]) | skip))))
          all_goals
            (first | refine awp_ret ?_ | skip); refine ⟨(by first | exact .inl rfl | exact .inr rfl | exact .inr trivial | trivial), ?_⟩; simp only [go_sem, ↓reduceIte, Nat.reduceEqDiff, Nat.reduceAdd, Nat.reduceLeDiff, Nat.reduceBEq, Nat.reduceMul, reduceCtorEq, Int.reduceLE, Int.reduceLT, Int.reduceAdd, Int.reduceSub, Int.reduceNeg, Int.reduceToNat, Int.reduceBEq, retV, resL, resV, sealV, sealC, sealAll, Tryd.f18]
            (try simp only [decide_eq_true_eq, decide_eq_false_iff_not, beq_iff_eq, bne_iff_ne, ne_eq, beq_eq_false_iff_ne, bne_eq_false_iff_eq, Bool.and_eq_true, Bool.or_eq_true, Bool.or_eq_false_iff, Bool.and_eq_false_iff] at *)
            (repeat' split) <;> first | rfl | omega
  · rw [if_pos (by rcases Decidable.not_and_iff_or_not.1 hv with h | h <;> simp [h])]
    generalize validV a = p at *
    generalize validV b = q at *
    refine pure_of_awp Tryd.func18 rfl rfl (by simp [Tryd.f18]) ?_; simp only [go_sem, ↓reduceIte, Nat.reduceEqDiff, Nat.reduceAdd, Nat.reduceLeDiff, Nat.reduceBEq, Nat.reduceMul, reduceCtorEq, Int.reduceLE, Int.reduceLT, Int.reduceAdd, Int.reduceSub, Int.reduceNeg, Int.reduceToNat, Int.reduceBEq]
    repeat' (first | refine awp_seq ?_ | refine awp_block ?_ | refine awp_round ?_ | refine awp_text rfl ?_ | refine awp_any rfl mix (by kernel_rfl) ?_ | (refine RunTo.unguard rfl rfl (fun hg => ?_) (fun hg => ?_) <;> ((try simp only [Bool.not_true, Bool.not_false, Bool.not_eq_true', Bool.not_eq_false', Bool.not_eq_eq_eq_not] at hg); (first | (cases hg) | (simp only [hg]) | skip))) | ((first | refine RunTo.plain rfl ?_ | refine RunTo.skipped rfl ?_ | refine RunTo.call (va) Tryd.func12 rfl rfl rfl rfl rfl rfl rfl rfl ?_ | refine RunTo.call (vb) Tryd.func12 rfl rfl rfl rfl rfl rfl rfl rfl ?_); simp only [go_sem, ↓reduceIte, Nat.reduceEqDiff, Nat.reduceAdd, Nat.reduceLeDiff, Nat.reduceBEq, Nat.reduceMul, reduceCtorEq, Int.reduceLE, Int.reduceLT, Int.reduceAdd, Int.reduceSub, Int.reduceNeg, Int.reduceToNat, Int.reduceBEq, ValD.av, bne]) | ((first | refine RunTo.nil ⟨by kernel_rfl, ?_⟩ | refine RunTo.nil ?_ | refine awp_skip ?_ | refine awp_exit ?_); simp only [go_sem, ↓reduceIte, Nat.reduceEqDiff, Nat.reduceAdd, Nat.reduceLeDiff, Nat.reduceBEq, Nat.reduceMul, reduceCtorEq, Int.reduceLE, Int.reduceLT, Int.reduceAdd, Int.reduceSub, Int.reduceNeg, Int.reduceToNat, Int.reduceBEq, ValD.av, bne]) | (refine awp_cond' rfl (of_decide_eq_true rfl) (fun hc => ?_) (fun hc => ?_) <;> ((try simp only [Bool.not_true, Bool.not_false, Bool.not_eq_true', Bool.not_eq_false', Bool.not_eq_eq_eq_not] at hc); (first | (cases hc) | (simp only [hc]) | skip))))
    all_goals
      first
      | ((first | refine awp_ret ?_ | skip); refine ⟨(by first | exact .inl rfl | exact .inr rfl | exact .inr trivial | trivial), ?_⟩; simp only [go_sem, ↓reduceIte, Nat.reduceEqDiff, Nat.reduceAdd, Nat.reduceLeDiff, Nat.reduceBEq, Nat.reduceMul, reduceCtorEq, Int.reduceLE, Int.reduceLT, Int.reduceAdd, Int.reduceSub, Int.reduceNeg, Int.reduceToNat, Int.reduceBEq, retV, resL, resV, sealV, sealC, sealAll, Tryd.f18]; done)
      | (exfalso; apply hv; constructor <;> assumption)
      | (exfalso; simp_all; done)
      | trace_state
end Go.Proofs.YtjihcldhjpdnmaaDoor.AM
namespace Go.Proofs.YtjihcldhjpdnmaaDoor.AM
open Go.RowKit FL
set_option linter.unusedSimpArgs false
set_option linter.unusedVariables false
set_option maxRecDepth 10000
set_option maxHeartbeats 0
theorem atoms_six {a b : AtomD} (ha : a.k = 6) (hb : b.k = 6) (pa : isA a false false false = true) (pb : isA b false false false = true) : atomsS a b = 0 := by
  simp only [isA, Bool.false_or, Bool.and_eq_true, beq_iff_eq] at pa pb
  have n1 := pa.1.1
  have n2 := pb.1.1
  have s1 := str_nil (beq_iff_eq.2 pa.2)
  have s2 := str_nil (beq_iff_eq.2 pb.2)
  unfold atomsS
  rw [if_neg (by unfold rankA; rw [ha, hb]; simp), if_neg (by unfold numA; rw [ha]; decide), n1, n2, s1, s2, cmpT_self]
  rfl
theorem isA_of {v : ValD} (h : validV v = true) (h6 : v.a.k = 6) : isA v.a false false false = true := by
  rw [validV_list h6] at h
  simp only [Bool.and_eq_true] at h
  exact h.1.1
theorem rank_six {a b : AtomD} (h : atomsS a b = 0) : a.k = 6 ↔ b.k = 6 := by
  have hr : rankA a = rankA b := by
    apply Decidable.byContradiction
    intro hne
    unfold atomsS at h
    rw [if_pos hne] at h
    rcases cmp3_cases (rankA a) (rankA b) with ⟨h1, h2⟩ | ⟨h1, h2⟩ | ⟨h1, h2⟩ <;> omega
  unfold rankA at hr
  (repeat' split at hr) <;> omega
theorem compare_atoms {a b : ValD} (va : validV a = true) (vb : validV b = true) (h : ¬(a.a.k = 6 ∧ b.a.k = 6)) : compareS a b = atomsS a.a b.a := by
  unfold compareS
  rw [if_pos ⟨va, vb⟩]
  by_cases h0 : atomsS a.a b.a = 0
  · have h6 := rank_six h0
    rw [if_pos h0, h0, list_nil va (by omega), list_nil vb (by omega)]
    rfl
  · rw [if_neg h0]
theorem compare_lists {a b : ValD} (va : validV a = true) (vb : validV b = true) (h1 : a.a.k = 6) (h2 : b.a.k = 6) : compareS a b = lexA a.l b.l := by
  unfold compareS
  rw [if_pos ⟨va, vb⟩, if_pos (atoms_six h1 h2 (isA_of va h1) (isA_of vb h2))]
theorem len_of {v : ValD} (h : validV v = true) (h6 : v.a.k = 6) : v.l.length ≤ 16 := by
  rw [validV_list h6] at h
  simp only [Bool.and_eq_true, decide_eq_true_eq] at h
  have := h.1.2; omega
abbrev SRc (a b : ValD) (k T e f : Nat) : St := ⟨[(5, iv k), (2, .ptr 2 e 0 0), (3, .ptr 3 f 0 0)], [(2, .box e (cellsV a)), (3, .box f (cellsV b))], T⟩
def IRc (a b : ValD) (n : Nat) (st : St) : Prop := ∃ k T e f, k ≤ min a.l.length b.l.length ∧ n = min a.l.length b.l.length - k ∧ lexA a.l b.l = lexA (a.l.drop k) (b.l.drop k) ∧ st = SRc a b k T e f
def IRe (a b : ValD) (n : Nat) (st : St) : Prop := ∃ k T e f, k ≤ a.l.length ∧ n = a.l.length - k ∧ allS a.l b.l = allS (a.l.drop k) (b.l.drop k) ∧ st = SRc a b k T e f
theorem c_rCompare (a b : ValD) (ka : kinV a) (kb : kinV b) : Pure Tryd.prog 14 [a.av, b.av] (iv (compareS a b)) := by
  have va := c_rValid a (kin_fl ka)
  have vb := c_rValid b (kin_fl kb)
  by_cases hv : validV a = true ∧ validV b = true
  · have pa := plain_v hv.1
    have pb := plain_v hv.2
    have ca := c_rAtomsS a.a b.a (hA_of pa.1 pb.1) ka.1.1 kb.1.1 ka.1.2.1 kb.1.2.1 ka.1.2.2 kb.1.2.2
    have va2 := hv.1
    have vb2 := hv.2
    rw [hv.1] at va
    rw [hv.2] at vb
    by_cases h6 : a.a.k = 6 ∧ b.a.k = 6
    · rw [compare_lists va2 vb2 h6.1 h6.2]
      have k1 : (a.a.k == 6) = true := by simpa using h6.1
      have k2 : (b.a.k == 6) = true := by simpa using h6.2
      refine pure_of_awp Tryd.func14 rfl rfl (by simp [Tryd.f14]) ?_; simp only [go_sem, ↓reduceIte, Nat.reduceEqDiff, Nat.reduceAdd, Nat.reduceLeDiff, Nat.reduceBEq, Nat.reduceMul, reduceCtorEq, Int.reduceLE, Int.reduceLT, Int.reduceAdd, Int.reduceSub, Int.reduceNeg, Int.reduceToNat, Int.reduceBEq]
      repeat' (first | refine awp_seq ?_ | refine awp_block ?_ | refine awp_round ?_ | refine awp_text rfl ?_ | refine awp_any rfl mix (by kernel_rfl) ?_ | (refine RunTo.unguard rfl rfl (fun hg => ?_) (fun hg => ?_) <;> ((try simp only [Bool.not_true, Bool.not_false, Bool.not_eq_true', Bool.not_eq_false', Bool.not_eq_eq_eq_not] at hg); (first | (cases hg) | (simp only [hg]) | skip))) | ((first | refine RunTo.plain rfl ?_ | refine RunTo.skipped rfl ?_ | refine RunTo.call (va) Tryd.func12 rfl rfl rfl rfl rfl rfl rfl rfl ?_ | refine RunTo.call (vb) Tryd.func12 rfl rfl rfl rfl rfl rfl rfl rfl ?_ | refine RunTo.call (ca) Tryd.func37 rfl rfl rfl rfl rfl rfl rfl rfl ?_); simp only [go_sem, ↓reduceIte, Nat.reduceEqDiff, Nat.reduceAdd, Nat.reduceLeDiff, Nat.reduceBEq, Nat.reduceMul, reduceCtorEq, Int.reduceLE, Int.reduceLT, Int.reduceAdd, Int.reduceSub, Int.reduceNeg, Int.reduceToNat, Int.reduceBEq, ValD.av, AtomD.av, bne, k1, k2, List.length_map]) | ((first | refine RunTo.nil ⟨by kernel_rfl, ?_⟩ | refine RunTo.nil ?_ | refine awp_skip ?_ | refine awp_exit ?_); simp only [go_sem, ↓reduceIte, Nat.reduceEqDiff, Nat.reduceAdd, Nat.reduceLeDiff, Nat.reduceBEq, Nat.reduceMul, reduceCtorEq, Int.reduceLE, Int.reduceLT, Int.reduceAdd, Int.reduceSub, Int.reduceNeg, Int.reduceToNat, Int.reduceBEq, ValD.av, AtomD.av, bne, k1, k2, List.length_map]) | (refine awp_cond' rfl (of_decide_eq_true rfl) (fun hc => ?_) (fun hc => ?_) <;> ((try simp only [Bool.not_true, Bool.not_false, Bool.not_eq_true', Bool.not_eq_false', Bool.not_eq_eq_eq_not] at hc); (first | (cases hc) | (simp only [hc]) | skip))))
      have l16 := len_of va2 h6.1
      refine awp_loopw (IRc a b) (min a.l.length b.l.length) (SRc a b 0 _ _ _) (weak_keep ⟨rfl, rfl, rfl, trivial⟩ ⟨rfl, rfl, trivial⟩ (Nat.le_refl _)) ⟨0, _, _, _, Nat.zero_le _, rfl, rfl, rfl⟩ ?_
      rintro n st ⟨k, T, e, f, hk, rfl, hx, rfl⟩
      by_cases hlt : k < min a.l.length b.l.length
      · have hla : k < a.l.length := by omega
        have hlb : k < b.l.length := by omega
        have hda := lt_t hla
        have hdb := lt_t hlb
        have hget := row_at AtomD.enc a.l k hla
        have hgetb := row_at AtomD.enc b.l k hlb
        have q1 := pa.2 _ (List.getElem_mem hla)
        have q2 := pb.2 _ (List.getElem_mem hlb)
        have r1 := ka.2 _ (List.getElem_mem hla)
        have r2 := kb.2 _ (List.getElem_mem hlb)
        rw [lex_step _ _ _ hla hlb] at hx
        have hwk : IntKind.i64.wrap ((k : Int) + 1) = ((k + 1 : Nat) : Int) := wrap_succ (by omega)
        generalize a.l[k] = x at *
        generalize b.l[k] = y at *
        have cx := c_rAtomsS x y (hA_of q1 q2) r1.1 r2.1 r1.2.1 r2.2.1 r1.2.2 r2.2.2
        by_cases h1 : atomsS x y = 0
        · rw [if_pos h1] at hx
          rw [h1] at cx
          repeat' (first | refine awp_seq ?_ | refine awp_block ?_ | refine awp_round ?_ | refine awp_text rfl ?_ | refine awp_any rfl mix (by kernel_rfl) ?_ | (refine RunTo.unguard rfl rfl (fun hg => ?_) (fun hg => ?_) <;> ((try simp only [Bool.not_true, Bool.not_false, Bool.not_eq_true', Bool.not_eq_false', Bool.not_eq_eq_eq_not] at hg); (first | (cases hg) | (simp only [hg]) | skip))) | ((first | refine RunTo.plain rfl ?_ | refine RunTo.skipped rfl ?_ | refine RunTo.call (cx) Tryd.func37 rfl rfl rfl rfl rfl rfl rfl rfl ?_); simp only [go_sem, ↓reduceIte, Nat.reduceEqDiff, Nat.reduceAdd, Nat.reduceLeDiff, Nat.reduceBEq, Nat.reduceMul, reduceCtorEq, Int.reduceLE, Int.reduceLT, Int.reduceAdd, Int.reduceSub, Int.reduceNeg, Int.reduceToNat, Int.reduceBEq, hda, hdb, hget, hgetb, AtomD.enc, AtomD.av, hwk, List.length_map]) | ((first | refine RunTo.nil ⟨by kernel_rfl, ?_⟩ | refine RunTo.nil ?_ | refine awp_skip ?_ | refine awp_exit ?_); simp only [go_sem, ↓reduceIte, Nat.reduceEqDiff, Nat.reduceAdd, Nat.reduceLeDiff, Nat.reduceBEq, Nat.reduceMul, reduceCtorEq, Int.reduceLE, Int.reduceLT, Int.reduceAdd, Int.reduceSub, Int.reduceNeg, Int.reduceToNat, Int.reduceBEq, hda, hdb, hget, hgetb, AtomD.enc, AtomD.av, hwk, List.length_map]) | (refine awp_cond' rfl (of_decide_eq_true rfl) (fun hc => ?_) (fun hc => ?_) <;> ((try simp only [Bool.not_true, Bool.not_false, Bool.not_eq_true', Bool.not_eq_false', Bool.not_eq_eq_eq_not] at hc); (first | (cases hc) | (simp only [hc]) | skip))))
          all_goals exact ⟨min a.l.length b.l.length - (k + 1), by omega, SRc a b (k + 1) _ e f, weak_keep ⟨rfl, rfl, rfl, trivial⟩ ⟨rfl, rfl, trivial⟩ (Nat.le_refl _), k + 1, _, _, _, by omega, rfl, hx, rfl⟩
        · rw [if_neg h1] at hx
          have hd : (atomsS x y == 0) = false := by simpa using h1
          repeat' (first | refine awp_seq ?_ | refine awp_block ?_ | refine awp_round ?_ | refine awp_text rfl ?_ | refine awp_any rfl mix (by kernel_rfl) ?_ | (refine RunTo.unguard rfl rfl (fun hg => ?_) (fun hg => ?_) <;> ((try simp only [Bool.not_true, Bool.not_false, Bool.not_eq_true', Bool.not_eq_false', Bool.not_eq_eq_eq_not] at hg); (first | (cases hg) | (simp only [hg]) | skip))) | ((first | refine RunTo.plain rfl ?_ | refine RunTo.skipped rfl ?_ | refine RunTo.call (cx) Tryd.func37 rfl rfl rfl rfl rfl rfl rfl rfl ?_); simp only [go_sem, ↓reduceIte, Nat.reduceEqDiff, Nat.reduceAdd, Nat.reduceLeDiff, Nat.reduceBEq, Nat.reduceMul, reduceCtorEq, Int.reduceLE, Int.reduceLT, Int.reduceAdd, Int.reduceSub, Int.reduceNeg, Int.reduceToNat, Int.reduceBEq, hda, hdb, hget, hgetb, AtomD.enc, AtomD.av, hwk, bne, hd, List.length_map]) | ((first | refine RunTo.nil ⟨by kernel_rfl, ?_⟩ | refine RunTo.nil ?_ | refine awp_skip ?_ | refine awp_exit ?_); simp only [go_sem, ↓reduceIte, Nat.reduceEqDiff, Nat.reduceAdd, Nat.reduceLeDiff, Nat.reduceBEq, Nat.reduceMul, reduceCtorEq, Int.reduceLE, Int.reduceLT, Int.reduceAdd, Int.reduceSub, Int.reduceNeg, Int.reduceToNat, Int.reduceBEq, hda, hdb, hget, hgetb, AtomD.enc, AtomD.av, hwk, bne, hd, List.length_map]) | (refine awp_cond' rfl (of_decide_eq_true rfl) (fun hc => ?_) (fun hc => ?_) <;> ((try simp only [Bool.not_true, Bool.not_false, Bool.not_eq_true', Bool.not_eq_false', Bool.not_eq_eq_eq_not] at hc); (first | (cases hc) | (simp only [hc]) | skip))))
          all_goals (first | refine awp_ret ?_ | skip); refine ⟨(by first | exact .inl rfl | exact .inr rfl | exact .inr trivial | trivial), ?_⟩; simp only [go_sem, ↓reduceIte, Nat.reduceEqDiff, Nat.reduceAdd, Nat.reduceLeDiff, Nat.reduceBEq, Nat.reduceMul, reduceCtorEq, Int.reduceLE, Int.reduceLT, Int.reduceAdd, Int.reduceSub, Int.reduceNeg, Int.reduceToNat, Int.reduceBEq, retV, resL, resV, sealV, sealC, sealAll, Tryd.f14]
          all_goals rw [hx]
      · rw [lex_end _ _ _ (by omega) (by omega) (by omega)] at hx
        rw [hx]
        by_cases hla : k < a.l.length
        · have hda := lt_t hla
          have hdb := lt_f (show ¬ k < b.l.length by omega)
          repeat' (first | refine awp_seq ?_ | refine awp_block ?_ | refine awp_round ?_ | refine awp_text rfl ?_ | refine awp_any rfl mix (by kernel_rfl) ?_ | (refine RunTo.unguard rfl rfl (fun hg => ?_) (fun hg => ?_) <;> ((try simp only [Bool.not_true, Bool.not_false, Bool.not_eq_true', Bool.not_eq_false', Bool.not_eq_eq_eq_not] at hg); (first | (cases hg) | (simp only [hg]) | skip))) | ((first | refine RunTo.plain rfl ?_ | refine RunTo.skipped rfl ?_); simp only [go_sem, ↓reduceIte, Nat.reduceEqDiff, Nat.reduceAdd, Nat.reduceLeDiff, Nat.reduceBEq, Nat.reduceMul, reduceCtorEq, Int.reduceLE, Int.reduceLT, Int.reduceAdd, Int.reduceSub, Int.reduceNeg, Int.reduceToNat, Int.reduceBEq, hda, hdb, List.length_map]) | ((first | refine RunTo.nil ⟨by kernel_rfl, ?_⟩ | refine RunTo.nil ?_ | refine awp_skip ?_ | refine awp_exit ?_); simp only [go_sem, ↓reduceIte, Nat.reduceEqDiff, Nat.reduceAdd, Nat.reduceLeDiff, Nat.reduceBEq, Nat.reduceMul, reduceCtorEq, Int.reduceLE, Int.reduceLT, Int.reduceAdd, Int.reduceSub, Int.reduceNeg, Int.reduceToNat, Int.reduceBEq, hda, hdb, List.length_map]) | (refine awp_cond' rfl (of_decide_eq_true rfl) (fun hc => ?_) (fun hc => ?_) <;> ((try simp only [Bool.not_true, Bool.not_false, Bool.not_eq_true', Bool.not_eq_false', Bool.not_eq_eq_eq_not] at hc); (first | (cases hc) | (simp only [hc]) | skip))))
          all_goals
            (first | refine awp_ret ?_ | skip); refine ⟨(by first | exact .inl rfl | exact .inr rfl | exact .inr trivial | trivial), ?_⟩; simp only [go_sem, ↓reduceIte, Nat.reduceEqDiff, Nat.reduceAdd, Nat.reduceLeDiff, Nat.reduceBEq, Nat.reduceMul, reduceCtorEq, Int.reduceLE, Int.reduceLT, Int.reduceAdd, Int.reduceSub, Int.reduceNeg, Int.reduceToNat, Int.reduceBEq, retV, resL, resV, sealV, sealC, sealAll, Tryd.f14]
            (try simp only [decide_eq_true_eq, decide_eq_false_iff_not, beq_iff_eq, bne_iff_ne, ne_eq, beq_eq_false_iff_ne, bne_eq_false_iff_eq, Bool.and_eq_true, Bool.or_eq_true, Bool.or_eq_false_iff, Bool.and_eq_false_iff] at *)
            unfold cmp3
            (repeat' split) <;> first | rfl | omega
        · have hda := lt_f hla
          repeat' (first | refine awp_seq ?_ | refine awp_block ?_ | refine awp_round ?_ | refine awp_text rfl ?_ | refine awp_any rfl mix (by kernel_rfl) ?_ | (refine RunTo.unguard rfl rfl (fun hg => ?_) (fun hg => ?_) <;> ((try simp only [Bool.not_true, Bool.not_false, Bool.not_eq_true', Bool.not_eq_false', Bool.not_eq_eq_eq_not] at hg); (first | (cases hg) | (simp only [hg]) | skip))) | ((first | refine RunTo.plain rfl ?_ | refine RunTo.skipped rfl ?_); simp only [go_sem, ↓reduceIte, Nat.reduceEqDiff, Nat.reduceAdd, Nat.reduceLeDiff, Nat.reduceBEq, Nat.reduceMul, reduceCtorEq, Int.reduceLE, Int.reduceLT, Int.reduceAdd, Int.reduceSub, Int.reduceNeg, Int.reduceToNat, Int.reduceBEq, hda, List.length_map]) | ((first | refine RunTo.nil ⟨by kernel_rfl, ?_⟩ | refine RunTo.nil ?_ | refine awp_skip ?_ | refine awp_exit ?_); simp only [go_sem, ↓reduceIte, Nat.reduceEqDiff, Nat.reduceAdd, Nat.reduceLeDiff, Nat.reduceBEq, Nat.reduceMul, reduceCtorEq, Int.reduceLE, Int.reduceLT, Int.reduceAdd, Int.reduceSub, Int.reduceNeg, Int.reduceToNat, Int.reduceBEq, hda, List.length_map]) | (refine awp_cond' rfl (of_decide_eq_true rfl) (fun hc => ?_) (fun hc => ?_) <;> ((try simp only [Bool.not_true, Bool.not_false, Bool.not_eq_true', Bool.not_eq_false', Bool.not_eq_eq_eq_not] at hc); (first | (cases hc) | (simp only [hc]) | skip))))
          all_goals
            (first | refine awp_ret ?_ | skip); refine ⟨(by first | exact .inl rfl | exact .inr rfl | exact .inr trivial | trivial), ?_⟩; simp only [go_sem, ↓reduceIte, Nat.reduceEqDiff, Nat.reduceAdd, Nat.reduceLeDiff, Nat.reduceBEq, Nat.reduceMul, reduceCtorEq, Int.reduceLE, Int.reduceLT, Int.reduceAdd, Int.reduceSub, Int.reduceNeg, Int.reduceToNat, Int.reduceBEq, retV, resL, resV, sealV, sealC, sealAll, Tryd.f14]
            (try simp only [decide_eq_true_eq, decide_eq_false_iff_not, beq_iff_eq, bne_iff_ne, ne_eq, beq_eq_false_iff_ne, bne_eq_false_iff_eq, Bool.and_eq_true, Bool.or_eq_true, Bool.or_eq_false_iff, Bool.and_eq_false_iff] at *)
            unfold cmp3
            (repeat' split) <;> first | rfl | omega
    · rw [compare_atoms va2 vb2 h6]
      refine pure_of_awp Tryd.func14 rfl rfl (by simp [Tryd.f14]) ?_; simp only [go_sem, ↓reduceIte, Nat.reduceEqDiff, Nat.reduceAdd, Nat.reduceLeDiff, Nat.reduceBEq, Nat.reduceMul, reduceCtorEq, Int.reduceLE, Int.reduceLT, Int.reduceAdd, Int.reduceSub, Int.reduceNeg, Int.reduceToNat, Int.reduceBEq]
      repeat' (first | refine awp_seq ?_ | refine awp_block ?_ | refine awp_round ?_ | refine awp_text rfl ?_ | refine awp_any rfl mix (by kernel_rfl) ?_ | (refine RunTo.unguard rfl rfl (fun hg => ?_) (fun hg => ?_) <;> ((try simp only [Bool.not_true, Bool.not_false, Bool.not_eq_true', Bool.not_eq_false', Bool.not_eq_eq_eq_not] at hg); (first | (cases hg) | (simp only [hg]) | skip))) | ((first | refine RunTo.plain rfl ?_ | refine RunTo.skipped rfl ?_ | refine RunTo.call (va) Tryd.func12 rfl rfl rfl rfl rfl rfl rfl rfl ?_ | refine RunTo.call (vb) Tryd.func12 rfl rfl rfl rfl rfl rfl rfl rfl ?_ | refine RunTo.call (ca) Tryd.func37 rfl rfl rfl rfl rfl rfl rfl rfl ?_); simp only [go_sem, ↓reduceIte, Nat.reduceEqDiff, Nat.reduceAdd, Nat.reduceLeDiff, Nat.reduceBEq, Nat.reduceMul, reduceCtorEq, Int.reduceLE, Int.reduceLT, Int.reduceAdd, Int.reduceSub, Int.reduceNeg, Int.reduceToNat, Int.reduceBEq, ValD.av, AtomD.av, bne]) | ((first | refine RunTo.nil ⟨by kernel_rfl, ?_⟩ | refine RunTo.nil ?_ | refine awp_skip ?_ | refine awp_exit ?_); simp only [go_sem, ↓reduceIte, Nat.reduceEqDiff, Nat.reduceAdd, Nat.reduceLeDiff, Nat.reduceBEq, Nat.reduceMul, reduceCtorEq, Int.reduceLE, Int.reduceLT, Int.reduceAdd, Int.reduceSub, Int.reduceNeg, Int.reduceToNat, Int.reduceBEq, ValD.av, AtomD.av, bne]) | (refine awp_cond' rfl (of_decide_eq_true rfl) (fun hc => ?_) (fun hc => ?_) <;> ((try simp only [Bool.not_true, Bool.not_false, Bool.not_eq_true', Bool.not_eq_false', Bool.not_eq_eq_eq_not] at hc); (first | (cases hc) | (simp only [hc]) | skip))))
      all_goals
        first
        | ((first | refine awp_ret ?_ | skip); refine ⟨(by first | exact .inl rfl | exact .inr rfl | exact .inr trivial | trivial), ?_⟩; simp only [go_sem, ↓reduceIte, Nat.reduceEqDiff, Nat.reduceAdd, Nat.reduceLeDiff, Nat.reduceBEq, Nat.reduceMul, reduceCtorEq, Int.reduceLE, Int.reduceLT, Int.reduceAdd, Int.reduceSub, Int.reduceNeg, Int.reduceToNat, Int.reduceBEq, retV, resL, resV, sealV, sealC, sealAll, Tryd.f14]; done)
        | ((try simp only [decide_eq_true_eq, decide_eq_false_iff_not, beq_iff_eq, bne_iff_ne, ne_eq, beq_eq_false_iff_ne, bne_eq_false_iff_eq, Bool.and_eq_true, Bool.or_eq_true, Bool.or_eq_false_iff, Bool.and_eq_false_iff] at *); exfalso; exact h6 ⟨by assumption, by assumption⟩)
        | (exfalso; simp_all; done)
        | trace_state
  · unfold compareS
    rw [if_neg hv]
    generalize validV a = p at *
    generalize validV b = q at *
    refine pure_of_awp Tryd.func14 rfl rfl (by simp [Tryd.f14]) ?_; simp only [go_sem, ↓reduceIte, Nat.reduceEqDiff, Nat.reduceAdd, Nat.reduceLeDiff, Nat.reduceBEq, Nat.reduceMul, reduceCtorEq, Int.reduceLE, Int.reduceLT, Int.reduceAdd, Int.reduceSub, Int.reduceNeg, Int.reduceToNat, Int.reduceBEq]
    repeat' (first | refine awp_seq ?_ | refine awp_block ?_ | refine awp_round ?_ | refine awp_text rfl ?_ | refine awp_any rfl mix (by kernel_rfl) ?_ | (refine RunTo.unguard rfl rfl (fun hg => ?_) (fun hg => ?_) <;> ((try simp only [Bool.not_true, Bool.not_false, Bool.not_eq_true', Bool.not_eq_false', Bool.not_eq_eq_eq_not] at hg); (first | (cases hg) | (simp only [hg]) | skip))) | ((first | refine RunTo.plain rfl ?_ | refine RunTo.skipped rfl ?_ | refine RunTo.call (va) Tryd.func12 rfl rfl rfl rfl rfl rfl rfl rfl ?_ | refine RunTo.call (vb) Tryd.func12 rfl rfl rfl rfl rfl rfl rfl rfl ?_); simp only [go_sem, ↓reduceIte, Nat.reduceEqDiff, Nat.reduceAdd, Nat.reduceLeDiff, Nat.reduceBEq, Nat.reduceMul, reduceCtorEq, Int.reduceLE, Int.reduceLT, Int.reduceAdd, Int.reduceSub, Int.reduceNeg, Int.reduceToNat, Int.reduceBEq, ValD.av, bne]) | ((first | refine RunTo.nil ⟨by kernel_rfl, ?_⟩ | refine RunTo.nil ?_ | refine awp_skip ?_ | refine awp_exit ?_); simp only [go_sem, ↓reduceIte, Nat.reduceEqDiff, Nat.reduceAdd, Nat.reduceLeDiff, Nat.reduceBEq, Nat.reduceMul, reduceCtorEq, Int.reduceLE, Int.reduceLT, Int.reduceAdd, Int.reduceSub, Int.reduceNeg, Int.reduceToNat, Int.reduceBEq, ValD.av, bne]) | (refine awp_cond' rfl (of_decide_eq_true rfl) (fun hc => ?_) (fun hc => ?_) <;> ((try simp only [Bool.not_true, Bool.not_false, Bool.not_eq_true', Bool.not_eq_false', Bool.not_eq_eq_eq_not] at hc); (first | (cases hc) | (simp only [hc]) | skip))))
    all_goals
      first
      | ((first | refine awp_ret ?_ | skip); refine ⟨(by first | exact .inl rfl | exact .inr rfl | exact .inr trivial | trivial), ?_⟩; simp only [go_sem, ↓reduceIte, Nat.reduceEqDiff, Nat.reduceAdd, Nat.reduceLeDiff, Nat.reduceBEq, Nat.reduceMul, reduceCtorEq, Int.reduceLE, Int.reduceLT, Int.reduceAdd, Int.reduceSub, Int.reduceNeg, Int.reduceToNat, Int.reduceBEq, retV, resL, resV, sealV, sealC, sealAll, Tryd.f14]; done)
      | (exfalso; apply hv; constructor <;> assumption)
      | (exfalso; simp_all; done)
      | trace_state
theorem c_rEqual (a b : ValD) (ka : kinV a) (kb : kinV b) : Pure Tryd.prog 16 [a.av, b.av] (iv (equalS a b)) := by
  have va := c_rValid a (kin_fl ka)
  have vb := c_rValid b (kin_fl kb)
  unfold equalS unkS
  by_cases hv : (validV a = true ∧ validV b = true) ∧ a.a.k ≠ 0 ∧ b.a.k ≠ 0
  · have pa := plain_v hv.1.1
    have pb := plain_v hv.1.2
    have ca := c_rSame a.a b.a (hA_of pa.1 pb.1) ka.1 kb.1
    have va2 := hv.1.1
    have vb2 := hv.1.2
    rw [va2] at va
    rw [vb2] at vb
    have z1 : (a.a.k == 0) = false := by simpa using hv.2.1
    have z2 : (b.a.k == 0) = false := by simpa using hv.2.2
    rw [va2, vb2, z1, z2, if_neg (by decide)]
    by_cases h6 : a.a.k = 6 ∧ b.a.k = 6
    · have k1 : (a.a.k == 6) = true := by simpa using h6.1
      have k2 : (b.a.k == 6) = true := by simpa using h6.2
      rw [if_neg (by simp [h6])]
      refine pure_of_awp Tryd.func16 rfl rfl (by simp [Tryd.f16]) ?_; simp only [go_sem, ↓reduceIte, Nat.reduceEqDiff, Nat.reduceAdd, Nat.reduceLeDiff, Nat.reduceBEq, Nat.reduceMul, reduceCtorEq, Int.reduceLE, Int.reduceLT, Int.reduceAdd, Int.reduceSub, Int.reduceNeg, Int.reduceToNat, Int.reduceBEq]
      repeat' (first | refine awp_seq ?_ | refine awp_block ?_ | refine awp_round ?_ | refine awp_text rfl ?_ | refine awp_any rfl mix (by kernel_rfl) ?_ | (refine RunTo.unguard rfl rfl (fun hg => ?_) (fun hg => ?_) <;> ((try simp only [Bool.not_true, Bool.not_false, Bool.not_eq_true', Bool.not_eq_false', Bool.not_eq_eq_eq_not] at hg); (first | (cases hg) | (simp only [hg]) | skip))) | ((first | refine RunTo.plain rfl ?_ | refine RunTo.skipped rfl ?_ | refine RunTo.call (va) Tryd.func12 rfl rfl rfl rfl rfl rfl rfl rfl ?_ | refine RunTo.call (vb) Tryd.func12 rfl rfl rfl rfl rfl rfl rfl rfl ?_ | refine RunTo.call (ca) Tryd.func41 rfl rfl rfl rfl rfl rfl rfl rfl ?_); simp only [go_sem, ↓reduceIte, Nat.reduceEqDiff, Nat.reduceAdd, Nat.reduceLeDiff, Nat.reduceBEq, Nat.reduceMul, reduceCtorEq, Int.reduceLE, Int.reduceLT, Int.reduceAdd, Int.reduceSub, Int.reduceNeg, Int.reduceToNat, Int.reduceBEq, ValD.av, AtomD.av, bne, k1, k2, z1, z2, List.length_map]) | ((first | refine RunTo.nil ⟨by kernel_rfl, ?_⟩ | refine RunTo.nil ?_ | refine awp_skip ?_ | refine awp_exit ?_); simp only [go_sem, ↓reduceIte, Nat.reduceEqDiff, Nat.reduceAdd, Nat.reduceLeDiff, Nat.reduceBEq, Nat.reduceMul, reduceCtorEq, Int.reduceLE, Int.reduceLT, Int.reduceAdd, Int.reduceSub, Int.reduceNeg, Int.reduceToNat, Int.reduceBEq, ValD.av, AtomD.av, bne, k1, k2, z1, z2, List.length_map]) | (refine awp_cond' rfl (of_decide_eq_true rfl) (fun hc => ?_) (fun hc => ?_) <;> ((try simp only [Bool.not_true, Bool.not_false, Bool.not_eq_true', Bool.not_eq_false', Bool.not_eq_eq_eq_not] at hc); (first | (cases hc) | (simp only [hc]) | skip))))
      · (first | refine awp_ret ?_ | skip); refine ⟨(by first | exact .inl rfl | exact .inr rfl | exact .inr trivial | trivial), ?_⟩; simp only [go_sem, ↓reduceIte, Nat.reduceEqDiff, Nat.reduceAdd, Nat.reduceLeDiff, Nat.reduceBEq, Nat.reduceMul, reduceCtorEq, Int.reduceLE, Int.reduceLT, Int.reduceAdd, Int.reduceSub, Int.reduceNeg, Int.reduceToNat, Int.reduceBEq, retV, resL, resV, sealV, sealC, sealAll, Tryd.f16]
        have hne : a.l.length ≠ b.l.length := fun h => by rw [h] at hc; simp at hc
        rw [if_neg (by simp [hne])]
      · have hll : a.l.length = b.l.length := by have := eq_of_beq hc; omega
        have l16 := len_of va2 h6.1
        refine awp_loopw (IRe a b) a.l.length (SRc a b 0 _ _ _) (weak_keep ⟨rfl, rfl, rfl, trivial⟩ ⟨rfl, rfl, trivial⟩ (Nat.le_refl _)) ⟨0, _, _, _, Nat.zero_le _, rfl, rfl, rfl⟩ ?_
        rintro n st ⟨k, T, e, f, hk, rfl, hx, rfl⟩
        rw [decide_eq_true hll, Bool.true_and, hx]
        by_cases hlt : k < a.l.length
        · have hdec := lt_t hlt
          have hlb : k < b.l.length := by omega
          have hget := row_at AtomD.enc a.l k hlt
          have hgetb := row_at AtomD.enc b.l k hlb
          have q1 := pa.2 _ (List.getElem_mem hlt)
          have q2 := pb.2 _ (List.getElem_mem hlb)
          have r1 := ka.2 _ (List.getElem_mem hlt)
          have r2 := kb.2 _ (List.getElem_mem hlb)
          rw [all_step _ _ _ hlt hlb] at hx
          rw [all_step _ _ _ hlt hlb]
          have hwk : IntKind.i64.wrap ((k : Int) + 1) = ((k + 1 : Nat) : Int) := wrap_succ (by omega)
          generalize a.l[k] = x at *
          generalize b.l[k] = y at *
          have cx := c_rSame x y (hA_of q1 q2) r1 r2
          rw [alike_same] at hx
          rw [alike_same]
          generalize sameS x y = p at *
          repeat' (first | refine awp_seq ?_ | refine awp_block ?_ | refine awp_round ?_ | refine awp_text rfl ?_ | refine awp_any rfl mix (by kernel_rfl) ?_ | (refine RunTo.unguard rfl rfl (fun hg => ?_) (fun hg => ?_) <;> ((try simp only [Bool.not_true, Bool.not_false, Bool.not_eq_true', Bool.not_eq_false', Bool.not_eq_eq_eq_not] at hg); (first | (cases hg) | (simp only [hg]) | skip))) | ((first | refine RunTo.plain rfl ?_ | refine RunTo.skipped rfl ?_ | refine RunTo.call (cx) Tryd.func41 rfl rfl rfl rfl rfl rfl rfl rfl ?_); simp only [go_sem, ↓reduceIte, Nat.reduceEqDiff, Nat.reduceAdd, Nat.reduceLeDiff, Nat.reduceBEq, Nat.reduceMul, reduceCtorEq, Int.reduceLE, Int.reduceLT, Int.reduceAdd, Int.reduceSub, Int.reduceNeg, Int.reduceToNat, Int.reduceBEq, hdec, hget, hgetb, AtomD.enc, AtomD.av, hwk, List.length_map]) | ((first | refine RunTo.nil ⟨by kernel_rfl, ?_⟩ | refine RunTo.nil ?_ | refine awp_skip ?_ | refine awp_exit ?_); simp only [go_sem, ↓reduceIte, Nat.reduceEqDiff, Nat.reduceAdd, Nat.reduceLeDiff, Nat.reduceBEq, Nat.reduceMul, reduceCtorEq, Int.reduceLE, Int.reduceLT, Int.reduceAdd, Int.reduceSub, Int.reduceNeg, Int.reduceToNat, Int.reduceBEq, hdec, hget, hgetb, AtomD.enc, AtomD.av, hwk, List.length_map]) | (refine awp_cond' rfl (of_decide_eq_true rfl) (fun hc => ?_) (fun hc => ?_) <;> ((try simp only [Bool.not_true, Bool.not_false, Bool.not_eq_true', Bool.not_eq_false', Bool.not_eq_eq_eq_not] at hc); (first | (cases hc) | (simp only [hc]) | skip))))
          all_goals
            first
            | ((first | refine awp_ret ?_ | skip); refine ⟨(by first | exact .inl rfl | exact .inr rfl | exact .inr trivial | trivial), ?_⟩; simp only [go_sem, ↓reduceIte, Nat.reduceEqDiff, Nat.reduceAdd, Nat.reduceLeDiff, Nat.reduceBEq, Nat.reduceMul, reduceCtorEq, Int.reduceLE, Int.reduceLT, Int.reduceAdd, Int.reduceSub, Int.reduceNeg, Int.reduceToNat, Int.reduceBEq, retV, resL, resV, sealV, sealC, sealAll, Tryd.f16]; simp [*]; done)
            | exact ⟨a.l.length - (k + 1), by omega, SRc a b (k + 1) _ e f, weak_keep ⟨rfl, rfl, rfl, trivial⟩ ⟨rfl, rfl, trivial⟩ (Nat.le_refl _), k + 1, _, _, _, by omega, rfl, by rw [hx]; simp [*], rfl⟩
            | trace_state
        · have hdec := lt_f hlt
          rw [all_nil _ _ (List.drop_of_length_le (by omega))]
          repeat' (first | refine awp_seq ?_ | refine awp_block ?_ | refine awp_round ?_ | refine awp_text rfl ?_ | refine awp_any rfl mix (by kernel_rfl) ?_ | (refine RunTo.unguard rfl rfl (fun hg => ?_) (fun hg => ?_) <;> ((try simp only [Bool.not_true, Bool.not_false, Bool.not_eq_true', Bool.not_eq_false', Bool.not_eq_eq_eq_not] at hg); (first | (cases hg) | (simp only [hg]) | skip))) | ((first | refine RunTo.plain rfl ?_ | refine RunTo.skipped rfl ?_); simp only [go_sem, ↓reduceIte, Nat.reduceEqDiff, Nat.reduceAdd, Nat.reduceLeDiff, Nat.reduceBEq, Nat.reduceMul, reduceCtorEq, Int.reduceLE, Int.reduceLT, Int.reduceAdd, Int.reduceSub, Int.reduceNeg, Int.reduceToNat, Int.reduceBEq, hdec, List.length_map]) | ((first | refine RunTo.nil ⟨by kernel_rfl, ?_⟩ | refine RunTo.nil ?_ | refine awp_skip ?_ | refine awp_exit ?_); simp only [go_sem, ↓reduceIte, Nat.reduceEqDiff, Nat.reduceAdd, Nat.reduceLeDiff, Nat.reduceBEq, Nat.reduceMul, reduceCtorEq, Int.reduceLE, Int.reduceLT, Int.reduceAdd, Int.reduceSub, Int.reduceNeg, Int.reduceToNat, Int.reduceBEq, hdec, List.length_map]) | (refine awp_cond' rfl (of_decide_eq_true rfl) (fun hc => ?_) (fun hc => ?_) <;> ((try simp only [Bool.not_true, Bool.not_false, Bool.not_eq_true', Bool.not_eq_false', Bool.not_eq_eq_eq_not] at hc); (first | (cases hc) | (simp only [hc]) | skip))))
          all_goals (first | refine awp_ret ?_ | skip); refine ⟨(by first | exact .inl rfl | exact .inr rfl | exact .inr trivial | trivial), ?_⟩; simp only [go_sem, ↓reduceIte, Nat.reduceEqDiff, Nat.reduceAdd, Nat.reduceLeDiff, Nat.reduceBEq, Nat.reduceMul, reduceCtorEq, Int.reduceLE, Int.reduceLT, Int.reduceAdd, Int.reduceSub, Int.reduceNeg, Int.reduceToNat, Int.reduceBEq, retV, resL, resV, sealV, sealC, sealAll, Tryd.f16]
          all_goals simp
    · rw [if_pos (by rcases Decidable.not_and_iff_or_not.1 h6 with h | h <;> simp [h]), alike_same, z1, z2]
      generalize sameS a.a b.a = p at *
      refine pure_of_awp Tryd.func16 rfl rfl (by simp [Tryd.f16]) ?_; simp only [go_sem, ↓reduceIte, Nat.reduceEqDiff, Nat.reduceAdd, Nat.reduceLeDiff, Nat.reduceBEq, Nat.reduceMul, reduceCtorEq, Int.reduceLE, Int.reduceLT, Int.reduceAdd, Int.reduceSub, Int.reduceNeg, Int.reduceToNat, Int.reduceBEq]
      repeat' (first | refine awp_seq ?_ | refine awp_block ?_ | refine awp_round ?_ | refine awp_text rfl ?_ | refine awp_any rfl mix (by kernel_rfl) ?_ | (refine RunTo.unguard rfl rfl (fun hg => ?_) (fun hg => ?_) <;> ((try simp only [Bool.not_true, Bool.not_false, Bool.not_eq_true', Bool.not_eq_false', Bool.not_eq_eq_eq_not] at hg); (first | (cases hg) | (simp only [hg]) | skip))) | ((first | refine RunTo.plain rfl ?_ | refine RunTo.skipped rfl ?_ | refine RunTo.call (va) Tryd.func12 rfl rfl rfl rfl rfl rfl rfl rfl ?_ | refine RunTo.call (vb) Tryd.func12 rfl rfl rfl rfl rfl rfl rfl rfl ?_ | refine RunTo.call (ca) Tryd.func41 rfl rfl rfl rfl rfl rfl rfl rfl ?_); simp only [go_sem, ↓reduceIte, Nat.reduceEqDiff, Nat.reduceAdd, Nat.reduceLeDiff, Nat.reduceBEq, Nat.reduceMul, reduceCtorEq, Int.reduceLE, Int.reduceLT, Int.reduceAdd, Int.reduceSub, Int.reduceNeg, Int.reduceToNat, Int.reduceBEq, ValD.av, AtomD.av, bne, z1, z2]) | ((first | refine RunTo.nil ⟨by kernel_rfl, ?_⟩ | refine RunTo.nil ?_ | refine awp_skip ?_ | refine awp_exit ?_); simp only [go_sem, ↓reduceIte, Nat.reduceEqDiff, Nat.reduceAdd, Nat.reduceLeDiff, Nat.reduceBEq, Nat.reduceMul, reduceCtorEq, Int.reduceLE, Int.reduceLT, Int.reduceAdd, Int.reduceSub, Int.reduceNeg, Int.reduceToNat, Int.reduceBEq, ValD.av, AtomD.av, bne, z1, z2]) | (refine awp_cond' rfl (of_decide_eq_true rfl) (fun hc => ?_) (fun hc => ?_) <;> ((try simp only [Bool.not_true, Bool.not_false, Bool.not_eq_true', Bool.not_eq_false', Bool.not_eq_eq_eq_not] at hc); (first | (cases hc) | (simp only [hc]) | skip))))
      all_goals
        first
        | ((first | refine awp_ret ?_ | skip); refine ⟨(by first | exact .inl rfl | exact .inr rfl | exact .inr trivial | trivial), ?_⟩; simp only [go_sem, ↓reduceIte, Nat.reduceEqDiff, Nat.reduceAdd, Nat.reduceLeDiff, Nat.reduceBEq, Nat.reduceMul, reduceCtorEq, Int.reduceLE, Int.reduceLT, Int.reduceAdd, Int.reduceSub, Int.reduceNeg, Int.reduceToNat, Int.reduceBEq, retV, resL, resV, sealV, sealC, sealAll, Tryd.f16]; done)
        | ((first | refine awp_ret ?_ | skip); refine ⟨(by first | exact .inl rfl | exact .inr rfl | exact .inr trivial | trivial), ?_⟩; simp only [go_sem, ↓reduceIte, Nat.reduceEqDiff, Nat.reduceAdd, Nat.reduceLeDiff, Nat.reduceBEq, Nat.reduceMul, reduceCtorEq, Int.reduceLE, Int.reduceLT, Int.reduceAdd, Int.reduceSub, Int.reduceNeg, Int.reduceToNat, Int.reduceBEq, retV, resL, resV, sealV, sealC, sealAll, Tryd.f16]; simp [*]; done)
        | ((try simp only [decide_eq_true_eq, decide_eq_false_iff_not, beq_iff_eq, bne_iff_ne, ne_eq, beq_eq_false_iff_ne, bne_eq_false_iff_eq, Bool.and_eq_true, Bool.or_eq_true, Bool.or_eq_false_iff, Bool.and_eq_false_iff] at *); exfalso; exact h6 ⟨by assumption, by assumption⟩)
        | (exfalso; simp_all; done)
        | trace_state
  · rw [if_pos (by
      simp only [Bool.or_eq_true, Bool.not_eq_true', beq_iff_eq]
      by_cases q1 : validV a = true <;> by_cases q2 : validV b = true <;> by_cases q3 : a.a.k = 0 <;> by_cases q4 : b.a.k = 0 <;> simp_all)]
    generalize validV a = p at *
    generalize validV b = q at *
    refine pure_of_awp Tryd.func16 rfl rfl (by simp [Tryd.f16]) ?_; simp only [go_sem, ↓reduceIte, Nat.reduceEqDiff, Nat.reduceAdd, Nat.reduceLeDiff, Nat.reduceBEq, Nat.reduceMul, reduceCtorEq, Int.reduceLE, Int.reduceLT, Int.reduceAdd, Int.reduceSub, Int.reduceNeg, Int.reduceToNat, Int.reduceBEq]
    repeat' (first | refine awp_seq ?_ | refine awp_block ?_ | refine awp_round ?_ | refine awp_text rfl ?_ | refine awp_any rfl mix (by kernel_rfl) ?_ | (refine RunTo.unguard rfl rfl (fun hg => ?_) (fun hg => ?_) <;> ((try simp only [Bool.not_true, Bool.not_false, Bool.not_eq_true', Bool.not_eq_false', Bool.not_eq_eq_eq_not] at hg); (first | (cases hg) | (simp only [hg]) | skip))) | ((first | refine RunTo.plain rfl ?_ | refine RunTo.skipped rfl ?_ | refine RunTo.call (va) Tryd.func12 rfl rfl rfl rfl rfl rfl rfl rfl ?_ | refine RunTo.call (vb) Tryd.func12 rfl rfl rfl rfl rfl rfl rfl rfl ?_); simp only [go_sem, ↓reduceIte, Nat.reduceEqDiff, Nat.reduceAdd, Nat.reduceLeDiff, Nat.reduceBEq, Nat.reduceMul, reduceCtorEq, Int.reduceLE, Int.reduceLT, Int.reduceAdd, Int.reduceSub, Int.reduceNeg, Int.reduceToNat, Int.reduceBEq, ValD.av, bne]) | ((first | refine RunTo.nil ⟨by kernel_rfl, ?_⟩ | refine RunTo.nil ?_ | refine awp_skip ?_ | refine awp_exit ?_); simp only [go_sem, ↓reduceIte, Nat.reduceEqDiff, Nat.reduceAdd, Nat.reduceLeDiff, Nat.reduceBEq, Nat.reduceMul, reduceCtorEq, Int.reduceLE, Int.reduceLT, Int.reduceAdd, Int.reduceSub, Int.reduceNeg, Int.reduceToNat, Int.reduceBEq, ValD.av, bne]) | (refine awp_cond' rfl (of_decide_eq_true rfl) (fun hc => ?_) (fun hc => ?_) <;> ((try simp only [Bool.not_true, Bool.not_false, Bool.not_eq_true', Bool.not_eq_false', Bool.not_eq_eq_eq_not] at hc); (first | (cases hc) | (simp only [hc]) | skip))))
    all_goals
      first
      | ((first | refine awp_ret ?_ | skip); refine ⟨(by first | exact .inl rfl | exact .inr rfl | exact .inr trivial | trivial), ?_⟩; simp only [go_sem, ↓reduceIte, Nat.reduceEqDiff, Nat.reduceAdd, Nat.reduceLeDiff, Nat.reduceBEq, Nat.reduceMul, reduceCtorEq, Int.reduceLE, Int.reduceLT, Int.reduceAdd, Int.reduceSub, Int.reduceNeg, Int.reduceToNat, Int.reduceBEq, retV, resL, resV, sealV, sealC, sealAll, Tryd.f16]; done)
      | (exfalso; simp_all; done)
      | trace_state
end Go.Proofs.YtjihcldhjpdnmaaDoor.AM
namespace Go.Proofs.YtjihcldhjpdnmaaDoor.AM
open Go.RowKit FL
set_option linter.unusedSimpArgs false
set_option linter.unusedVariables false
set_option maxRecDepth 10000
set_option maxHeartbeats 0
def szV (v : ValD) (k : Nat) : Nat := v.a.s.size + 10 * v.l.length + ((v.l.take k).map (·.s.size)).sum
def shortV (v : ValD) : Bool := decide (szV v v.l.length < 6000)
def bigV (v : ValD) : Prop := v.a.s.size ≤ 140737488351232 ∧ v.l.length ≤ 140737488351232 ∧ ∀ a ∈ v.l, a.s.size ≤ 140737488351232
theorem szV_step (v : ValD) (k : Nat) (h : k < v.l.length) : szV v (k + 1) = szV v k + v.l[k].s.size := by
  unfold szV
  rw [List.take_succ_eq_append_getElem h, List.map_append, List.sum_append]
  simp
  omega
theorem szV_mono (v : ValD) {j k : Nat} (h : j ≤ k) : szV v j ≤ szV v k := by
  unfold szV
  have : ((v.l.take j).map (·.s.size)).sum ≤ ((v.l.take k).map (·.s.size)).sum := by
    have e : v.l.take j = (v.l.take k).take j := by rw [List.take_take, Nat.min_eq_left h]
    rw [e]
    generalize v.l.take k = l
    clear e h
    induction l generalizing j with
    | nil => simp
    | cons x l ih =>
      cases j with
      | zero => simp
      | succ j => simp only [List.take_succ_cons, List.map_cons, List.sum_cons]; have := ih (j := j); omega
  omega
abbrev SSh (v : ValD) (n k T e : Nat) : St := ⟨[(3, iv n), (4, iv k), (1, .ptr 1 e 0 0)], [(1, .box e (cellsV v))], T⟩
def ISh (v : ValD) (m : Nat) (st : St) : Prop := ∃ k T e, k ≤ v.l.length ∧ m = v.l.length - k ∧ st = SSh v (szV v k) k T e
theorem c_short (v : ValD) (hb : bigV v) : Pure Tryd.prog 10 [v.av] (bv (shortV v)) := by
  have w0 : IntKind.i64.wrap (10 * (v.l.length : Int)) = ((10 * v.l.length : Nat) : Int) := by rw [IntWalk.i64_in _ (by have := hb.2.1; omega)]; omega
  have w1 : IntKind.i64.wrap ((v.a.s.size : Int) + ((10 * v.l.length : Nat) : Int)) = ((szV v 0 : Nat) : Int) := by
    rw [IntWalk.i64_in _ (by have := hb.2.1; have := hb.1; omega)]; unfold szV; simp
  refine pure_of_awp Tryd.func10 rfl rfl (by simp [Tryd.f10]) ?_; simp only [go_sem, ↓reduceIte, Nat.reduceEqDiff, Nat.reduceAdd, Nat.reduceLeDiff, Nat.reduceBEq, Nat.reduceMul, reduceCtorEq, Int.reduceLE, Int.reduceLT, Int.reduceAdd, Int.reduceSub, Int.reduceNeg, Int.reduceToNat, Int.reduceBEq]
  repeat' (first | refine awp_seq ?_ | refine awp_block ?_ | refine awp_round ?_ | refine awp_text rfl ?_ | refine awp_any rfl mix (by kernel_rfl) ?_ | (refine RunTo.unguard rfl rfl (fun hg => ?_) (fun hg => ?_) <;> ((try simp only [Bool.not_true, Bool.not_false, Bool.not_eq_true', Bool.not_eq_false', Bool.not_eq_eq_eq_not] at hg); (first | (cases hg) | (simp only [hg]) | skip))) | ((first | refine RunTo.plain rfl ?_ | refine RunTo.skipped rfl ?_); simp only [go_sem, ↓reduceIte, Nat.reduceEqDiff, Nat.reduceAdd, Nat.reduceLeDiff, Nat.reduceBEq, Nat.reduceMul, reduceCtorEq, Int.reduceLE, Int.reduceLT, Int.reduceAdd, Int.reduceSub, Int.reduceNeg, Int.reduceToNat, Int.reduceBEq, ValD.av, AtomD.av, List.length_map, w0, w1]) | ((first | refine RunTo.nil ⟨by kernel_rfl, ?_⟩ | refine RunTo.nil ?_ | refine awp_skip ?_ | refine awp_exit ?_); simp only [go_sem, ↓reduceIte, Nat.reduceEqDiff, Nat.reduceAdd, Nat.reduceLeDiff, Nat.reduceBEq, Nat.reduceMul, reduceCtorEq, Int.reduceLE, Int.reduceLT, Int.reduceAdd, Int.reduceSub, Int.reduceNeg, Int.reduceToNat, Int.reduceBEq, ValD.av, AtomD.av, List.length_map, w0, w1]) | (refine awp_cond' rfl (of_decide_eq_true rfl) (fun hc => ?_) (fun hc => ?_) <;> ((try simp only [Bool.not_true, Bool.not_false, Bool.not_eq_true', Bool.not_eq_false', Bool.not_eq_eq_eq_not] at hc); (first | (cases hc) | (simp only [hc]) | skip))))
  refine awp_loopw (ISh v) v.l.length (SSh v (szV v 0) 0 _ _) (weak_keep ⟨rfl, rfl, rfl, trivial⟩ ⟨rfl, trivial⟩ (Nat.le_refl _)) ⟨0, _, _, Nat.zero_le _, rfl, rfl⟩ ?_
  rintro m st ⟨k, T, e, hk, rfl, rfl⟩
  by_cases hlt : k < v.l.length
  · have hdec := lt_t hlt
    have hget := row_at AtomD.enc v.l k hlt
    have hsz := szV_step v k hlt
    have hbk := hb.2.2 _ (List.getElem_mem hlt)
    by_cases h6 : szV v k < 6000
    · have hd6 : decide ((szV v k : Int) < 6000) = true := decide_eq_true (by omega)
      have hwk : IntKind.i64.wrap ((k : Int) + 1) = ((k + 1 : Nat) : Int) := wrap_succ (by have := hb.2.1; omega)
      have hwn : IntKind.i64.wrap ((szV v k : Int) + (v.l[k].s.size : Int)) = ((szV v (k + 1) : Nat) : Int) := by rw [IntWalk.i64_in _ (by omega)]; omega
      generalize v.l[k] = x at *
      repeat' (first | refine awp_seq ?_ | refine awp_block ?_ | refine awp_round ?_ | refine awp_text rfl ?_ | refine awp_any rfl mix (by kernel_rfl) ?_ | (refine RunTo.unguard rfl rfl (fun hg => ?_) (fun hg => ?_) <;> ((try simp only [Bool.not_true, Bool.not_false, Bool.not_eq_true', Bool.not_eq_false', Bool.not_eq_eq_eq_not] at hg); (first | (cases hg) | (simp only [hg]) | skip))) | ((first | refine RunTo.plain rfl ?_ | refine RunTo.skipped rfl ?_); simp only [go_sem, ↓reduceIte, Nat.reduceEqDiff, Nat.reduceAdd, Nat.reduceLeDiff, Nat.reduceBEq, Nat.reduceMul, reduceCtorEq, Int.reduceLE, Int.reduceLT, Int.reduceAdd, Int.reduceSub, Int.reduceNeg, Int.reduceToNat, Int.reduceBEq, hdec, hd6, hget, AtomD.enc, hwk, hwn, List.length_map]) | ((first | refine RunTo.nil ⟨by kernel_rfl, ?_⟩ | refine RunTo.nil ?_ | refine awp_skip ?_ | refine awp_exit ?_); simp only [go_sem, ↓reduceIte, Nat.reduceEqDiff, Nat.reduceAdd, Nat.reduceLeDiff, Nat.reduceBEq, Nat.reduceMul, reduceCtorEq, Int.reduceLE, Int.reduceLT, Int.reduceAdd, Int.reduceSub, Int.reduceNeg, Int.reduceToNat, Int.reduceBEq, hdec, hd6, hget, AtomD.enc, hwk, hwn, List.length_map]) | (refine awp_cond' rfl (of_decide_eq_true rfl) (fun hc => ?_) (fun hc => ?_) <;> ((try simp only [Bool.not_true, Bool.not_false, Bool.not_eq_true', Bool.not_eq_false', Bool.not_eq_eq_eq_not] at hc); (first | (cases hc) | (simp only [hc]) | skip))))
      all_goals exact ⟨v.l.length - (k + 1), by omega, SSh v (szV v (k + 1)) (k + 1) _ e, weak_keep ⟨rfl, rfl, rfl, trivial⟩ ⟨rfl, trivial⟩ (Nat.le_refl _), k + 1, _, _, by omega, rfl, rfl⟩
    · have hd6 : decide ((szV v k : Int) < 6000) = false := decide_eq_false (by omega)
      have hm := szV_mono v hk
      repeat' (first | refine awp_seq ?_ | refine awp_block ?_ | refine awp_round ?_ | refine awp_text rfl ?_ | refine awp_any rfl mix (by kernel_rfl) ?_ | (refine RunTo.unguard rfl rfl (fun hg => ?_) (fun hg => ?_) <;> ((try simp only [Bool.not_true, Bool.not_false, Bool.not_eq_true', Bool.not_eq_false', Bool.not_eq_eq_eq_not] at hg); (first | (cases hg) | (simp only [hg]) | skip))) | ((first | refine RunTo.plain rfl ?_ | refine RunTo.skipped rfl ?_); simp only [go_sem, ↓reduceIte, Nat.reduceEqDiff, Nat.reduceAdd, Nat.reduceLeDiff, Nat.reduceBEq, Nat.reduceMul, reduceCtorEq, Int.reduceLE, Int.reduceLT, Int.reduceAdd, Int.reduceSub, Int.reduceNeg, Int.reduceToNat, Int.reduceBEq, hdec, hd6, List.length_map]) | ((first | refine RunTo.nil ⟨by kernel_rfl, ?_⟩ | refine RunTo.nil ?_ | refine awp_skip ?_ | refine awp_exit ?_); simp only [go_sem, ↓reduceIte, Nat.reduceEqDiff, Nat.reduceAdd, Nat.reduceLeDiff, Nat.reduceBEq, Nat.reduceMul, reduceCtorEq, Int.reduceLE, Int.reduceLT, Int.reduceAdd, Int.reduceSub, Int.reduceNeg, Int.reduceToNat, Int.reduceBEq, hdec, hd6, List.length_map]) | (refine awp_cond' rfl (of_decide_eq_true rfl) (fun hc => ?_) (fun hc => ?_) <;> ((try simp only [Bool.not_true, Bool.not_false, Bool.not_eq_true', Bool.not_eq_false', Bool.not_eq_eq_eq_not] at hc); (first | (cases hc) | (simp only [hc]) | skip))))
      all_goals
        (first | refine awp_ret ?_ | skip); refine ⟨(by first | exact .inl rfl | exact .inr rfl | exact .inr trivial | trivial), ?_⟩; simp only [go_sem, ↓reduceIte, Nat.reduceEqDiff, Nat.reduceAdd, Nat.reduceLeDiff, Nat.reduceBEq, Nat.reduceMul, reduceCtorEq, Int.reduceLE, Int.reduceLT, Int.reduceAdd, Int.reduceSub, Int.reduceNeg, Int.reduceToNat, Int.reduceBEq, retV, resL, resV, sealV, sealC, sealAll, Tryd.f10]
        rw [show shortV v = false from decide_eq_false (by omega)]
  · have hdec := lt_f hlt
    obtain rfl : k = v.l.length := by omega
    repeat' (first | refine awp_seq ?_ | refine awp_block ?_ | refine awp_round ?_ | refine awp_text rfl ?_ | refine awp_any rfl mix (by kernel_rfl) ?_ | (refine RunTo.unguard rfl rfl (fun hg => ?_) (fun hg => ?_) <;> ((try simp only [Bool.not_true, Bool.not_false, Bool.not_eq_true', Bool.not_eq_false', Bool.not_eq_eq_eq_not] at hg); (first | (cases hg) | (simp only [hg]) | skip))) | ((first | refine RunTo.plain rfl ?_ | refine RunTo.skipped rfl ?_); simp only [go_sem, ↓reduceIte, Nat.reduceEqDiff, Nat.reduceAdd, Nat.reduceLeDiff, Nat.reduceBEq, Nat.reduceMul, reduceCtorEq, Int.reduceLE, Int.reduceLT, Int.reduceAdd, Int.reduceSub, Int.reduceNeg, Int.reduceToNat, Int.reduceBEq, hdec, List.length_map]) | ((first | refine RunTo.nil ⟨by kernel_rfl, ?_⟩ | refine RunTo.nil ?_ | refine awp_skip ?_ | refine awp_exit ?_); simp only [go_sem, ↓reduceIte, Nat.reduceEqDiff, Nat.reduceAdd, Nat.reduceLeDiff, Nat.reduceBEq, Nat.reduceMul, reduceCtorEq, Int.reduceLE, Int.reduceLT, Int.reduceAdd, Int.reduceSub, Int.reduceNeg, Int.reduceToNat, Int.reduceBEq, hdec, List.length_map]) | (refine awp_cond' rfl (of_decide_eq_true rfl) (fun hc => ?_) (fun hc => ?_) <;> ((try simp only [Bool.not_true, Bool.not_false, Bool.not_eq_true', Bool.not_eq_false', Bool.not_eq_eq_eq_not] at hc); (first | (cases hc) | (simp only [hc]) | skip))))
    all_goals
      (first | refine awp_ret ?_ | skip); refine ⟨(by first | exact .inl rfl | exact .inr rfl | exact .inr trivial | trivial), ?_⟩; simp only [go_sem, ↓reduceIte, Nat.reduceEqDiff, Nat.reduceAdd, Nat.reduceLeDiff, Nat.reduceBEq, Nat.reduceMul, reduceCtorEq, Int.reduceLE, Int.reduceLT, Int.reduceAdd, Int.reduceSub, Int.reduceNeg, Int.reduceToNat, Int.reduceBEq, retV, resL, resV, sealV, sealC, sealAll, Tryd.f10]
      simp [shortV]
      try omega
theorem short_ok {v : ValD} (h : shortV v = true) : v.a.s.size < 6000 ∧ v.l.length < 600 ∧ ∀ a ∈ v.l, a.s.size < 6000 := by
  have h1 : szV v v.l.length < 6000 := of_decide_eq_true h
  unfold szV at h1
  rw [List.take_length] at h1
  refine ⟨by omega, by omega, fun a ha => ?_⟩
  have key : ∀ (l : List AtomD), a ∈ l → a.s.size ≤ (l.map (·.s.size)).sum := by
    intro l
    induction l with
    | nil => intro h; cases h
    | cons x l ih =>
      intro h
      rw [List.map_cons, List.sum_cons]
      rcases List.mem_cons.1 h with rfl | h
      · omega
      · have := ih h; omega
  have := key _ ha
  omega
theorem i64_kin {v : ValD} (h : kinV v) : i64V v := ⟨h.1.2.1, fun a ha => (h.2 a ha).2.1⟩
theorem ok_kin {v : ValD} (h : kinV v) (hs : shortV v = true) : okV v := by
  obtain ⟨h1, h2, h3⟩ := short_ok hs
  exact ⟨⟨h.1.2.1, by omega⟩, fun a ha => ⟨(h.2 a ha).2.1, by have := h3 a ha; omega⟩⟩
abbrev nulD : ValD := ⟨⟨0, 0, 0, eE⟩, []⟩
theorem c_ValidZ : Pure Tryd.prog 11 [.agg [iv 0, iv 0, fv 0, sv eE, .dat (.lit (.slice none 0 0))]] (bv true) := by
  have h := c_Valid nulD
  rw [show validV nulD = true by decide +kernel] at h
  exact pure_le h (.cons (.agg (.cons (.refl _) (.cons (.refl _) (.cons (.refl _) (.cons (.refl _) (.cons (.dat (.nil 4)) .nil)))))) .nil)
theorem c_law03 (a b : ValD) (ka : kinV a) (kb : kinV b) (ba : bigV a) (bb : bigV b) : Pure Tryd.prog 3 [a.av, b.av] (bv true) := by
  have sa := c_short a ba
  have sb := c_short b bb
  by_cases hs : shortV a = true ∧ shortV b = true
  · obtain ⟨a1, a2, a3⟩ := short_ok hs.1
    obtain ⟨b1, b2, b3⟩ := short_ok hs.2
    have o1 := ok_kin ka hs.1
    rw [hs.1] at sa
    rw [hs.2] at sb
    have q1 := c_Valid a
    have q2 := c_rValid a (kin_fl ka)
    have q3 := c_CompareS a b (i64_kin ka) (i64_kin kb) (by omega) (by omega)
    have q4 := c_rCompare a b ka kb
    have q5 := c_EqualS a b (i64_kin ka) (i64_kin kb) (by omega) (by omega)
    have q6 := c_rEqual a b ka kb
    have q7 := c_LessS a b (i64_kin ka) (i64_kin kb)
    have q8 := c_rLess a b ka kb
    have q9 := c_PrintV a o1
    have q0 := c_rPrint a (kin_fl ka) o1
    refine pure_of_awp Tryd.func3 rfl rfl (by simp [Tryd.f3]) ?_; simp only [go_sem, ↓reduceIte, Nat.reduceEqDiff, Nat.reduceAdd, Nat.reduceLeDiff, Nat.reduceBEq, Nat.reduceMul, reduceCtorEq, Int.reduceLE, Int.reduceLT, Int.reduceAdd, Int.reduceSub, Int.reduceNeg, Int.reduceToNat, Int.reduceBEq]
    repeat' (first | refine awp_seq ?_ | refine awp_block ?_ | refine awp_round ?_ | refine awp_text rfl ?_ | refine awp_any rfl mix (by kernel_rfl) ?_ | (refine RunTo.unguard rfl rfl (fun hg => ?_) (fun hg => ?_) <;> ((try simp only [Bool.not_true, Bool.not_false, Bool.not_eq_true', Bool.not_eq_false', Bool.not_eq_eq_eq_not] at hg); (first | (cases hg) | (simp only [hg]) | skip))) | ((first | refine RunTo.plain rfl ?_ | refine RunTo.skipped rfl ?_ | refine RunTo.call (sa) Tryd.func10 rfl rfl rfl rfl rfl rfl rfl rfl ?_ | refine RunTo.call (sb) Tryd.func10 rfl rfl rfl rfl rfl rfl rfl rfl ?_ | refine RunTo.call (c_ValidZ) Tryd.func11 rfl rfl rfl rfl rfl rfl rfl rfl ?_ | refine RunTo.call (q1) Tryd.func11 rfl rfl rfl rfl rfl rfl rfl rfl ?_ | refine RunTo.call (q2) Tryd.func12 rfl rfl rfl rfl rfl rfl rfl rfl ?_ | refine RunTo.call (q3) Tryd.func13 rfl rfl rfl rfl rfl rfl rfl rfl ?_ | refine RunTo.call (q4) Tryd.func14 rfl rfl rfl rfl rfl rfl rfl rfl ?_ | refine RunTo.call (q5) Tryd.func15 rfl rfl rfl rfl rfl rfl rfl rfl ?_ | refine RunTo.call (q6) Tryd.func16 rfl rfl rfl rfl rfl rfl rfl rfl ?_ | refine RunTo.call (q7) Tryd.func17 rfl rfl rfl rfl rfl rfl rfl rfl ?_ | refine RunTo.call (q8) Tryd.func18 rfl rfl rfl rfl rfl rfl rfl rfl ?_ | refine RunTo.call (q9) Tryd.func19 rfl rfl rfl rfl rfl rfl rfl rfl ?_ | refine RunTo.call (q0) Tryd.func20 rfl rfl rfl rfl rfl rfl rfl rfl ?_); simp only [go_sem, ↓reduceIte, Nat.reduceEqDiff, Nat.reduceAdd, Nat.reduceLeDiff, Nat.reduceBEq, Nat.reduceMul, reduceCtorEq, Int.reduceLE, Int.reduceLT, Int.reduceAdd, Int.reduceSub, Int.reduceNeg, Int.reduceToNat, Int.reduceBEq, ValD.av, beq_self_eq_true]) | ((first | refine RunTo.nil ⟨by kernel_rfl, ?_⟩ | refine RunTo.nil ?_ | refine awp_skip ?_ | refine awp_exit ?_); simp only [go_sem, ↓reduceIte, Nat.reduceEqDiff, Nat.reduceAdd, Nat.reduceLeDiff, Nat.reduceBEq, Nat.reduceMul, reduceCtorEq, Int.reduceLE, Int.reduceLT, Int.reduceAdd, Int.reduceSub, Int.reduceNeg, Int.reduceToNat, Int.reduceBEq, ValD.av, beq_self_eq_true]) | (refine awp_cond' rfl (of_decide_eq_true rfl) (fun hc => ?_) (fun hc => ?_) <;> ((try simp only [Bool.not_true, Bool.not_false, Bool.not_eq_true', Bool.not_eq_false', Bool.not_eq_eq_eq_not] at hc); (first | (cases hc) | (simp only [hc]) | skip))))
    all_goals (first | refine awp_ret ?_ | skip); refine ⟨(by first | exact .inl rfl | exact .inr rfl | exact .inr trivial | trivial), ?_⟩; simp only [go_sem, ↓reduceIte, Nat.reduceEqDiff, Nat.reduceAdd, Nat.reduceLeDiff, Nat.reduceBEq, Nat.reduceMul, reduceCtorEq, Int.reduceLE, Int.reduceLT, Int.reduceAdd, Int.reduceSub, Int.reduceNeg, Int.reduceToNat, Int.reduceBEq, retV, resL, resV, sealV, sealC, sealAll, Tryd.f3]
  · generalize shortV a = p at *
    generalize shortV b = q at *
    refine pure_of_awp Tryd.func3 rfl rfl (by simp [Tryd.f3]) ?_; simp only [go_sem, ↓reduceIte, Nat.reduceEqDiff, Nat.reduceAdd, Nat.reduceLeDiff, Nat.reduceBEq, Nat.reduceMul, reduceCtorEq, Int.reduceLE, Int.reduceLT, Int.reduceAdd, Int.reduceSub, Int.reduceNeg, Int.reduceToNat, Int.reduceBEq]
    repeat' (first | refine awp_seq ?_ | refine awp_block ?_ | refine awp_round ?_ | refine awp_text rfl ?_ | refine awp_any rfl mix (by kernel_rfl) ?_ | (refine RunTo.unguard rfl rfl (fun hg => ?_) (fun hg => ?_) <;> ((try simp only [Bool.not_true, Bool.not_false, Bool.not_eq_true', Bool.not_eq_false', Bool.not_eq_eq_eq_not] at hg); (first | (cases hg) | (simp only [hg]) | skip))) | ((first | refine RunTo.plain rfl ?_ | refine RunTo.skipped rfl ?_ | refine RunTo.call (sa) Tryd.func10 rfl rfl rfl rfl rfl rfl rfl rfl ?_ | refine RunTo.call (sb) Tryd.func10 rfl rfl rfl rfl rfl rfl rfl rfl ?_); simp only [go_sem, ↓reduceIte, Nat.reduceEqDiff, Nat.reduceAdd, Nat.reduceLeDiff, Nat.reduceBEq, Nat.reduceMul, reduceCtorEq, Int.reduceLE, Int.reduceLT, Int.reduceAdd, Int.reduceSub, Int.reduceNeg, Int.reduceToNat, Int.reduceBEq, ValD.av]) | ((first | refine RunTo.nil ⟨by kernel_rfl, ?_⟩ | refine RunTo.nil ?_ | refine awp_skip ?_ | refine awp_exit ?_); simp only [go_sem, ↓reduceIte, Nat.reduceEqDiff, Nat.reduceAdd, Nat.reduceLeDiff, Nat.reduceBEq, Nat.reduceMul, reduceCtorEq, Int.reduceLE, Int.reduceLT, Int.reduceAdd, Int.reduceSub, Int.reduceNeg, Int.reduceToNat, Int.reduceBEq, ValD.av]) | (refine awp_cond' rfl (of_decide_eq_true rfl) (fun hc => ?_) (fun hc => ?_) <;> ((try simp only [Bool.not_true, Bool.not_false, Bool.not_eq_true', Bool.not_eq_false', Bool.not_eq_eq_eq_not] at hc); (first | (cases hc) | (simp only [hc]) | skip))))
    all_goals first
      | ((first | refine awp_ret ?_ | skip); refine ⟨(by first | exact .inl rfl | exact .inr rfl | exact .inr trivial | trivial), ?_⟩; simp only [go_sem, ↓reduceIte, Nat.reduceEqDiff, Nat.reduceAdd, Nat.reduceLeDiff, Nat.reduceBEq, Nat.reduceMul, reduceCtorEq, Int.reduceLE, Int.reduceLT, Int.reduceAdd, Int.reduceSub, Int.reduceNeg, Int.reduceToNat, Int.reduceBEq, retV, resL, resV, sealV, sealC, sealAll, Tryd.f3]; done)
      | (exfalso; simp_all; done)
      | trace_state
end Go.Proofs.YtjihcldhjpdnmaaDoor.AM
