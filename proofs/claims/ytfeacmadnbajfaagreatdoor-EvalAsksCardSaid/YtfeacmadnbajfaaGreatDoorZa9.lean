/- Part 9 of the proof: words, contracts, plain laws. Laid by a program of this session (wip/tool/shake.py): what is needed of own and printed texts, in order. -/
import Derived.Test.YtfeacmadnbajfaaGreatDoorZa0
import Derived.Test.YtfeacmadnbajfaaGreatDoorZa1
import Derived.Test.YtfeacmadnbajfaaGreatDoorZa2
import Derived.Test.YtfeacmadnbajfaaGreatDoorZa3
import Derived.Test.YtfeacmadnbajfaaGreatDoorZa4
import Derived.Test.YtfeacmadnbajfaaGreatDoorZa6
import Derived.Test.YtfeacmadnbajfaaGreatDoorZa7
import Derived.Test.YtfeacmadnbajfaaGreatDoorZa8
import Derived.Calls
import Derived.Lib.ItoaNum
import Derived.Orders
import Derived.Tactics
import Derived.Below
import Derived.Laws.Rows
import Derived.Laws.World
import Derived.Laws.CopyRow
import Derived.Lib.FrozenHead
import Derived.Deep.AppendSrc
import Derived.Deep.Upon
import Derived.Laws.BytesArg
import Derived.IntWalk
import Derived.Laws.Externs
import Derived.LoopN
import Derived.Test.YtfeacmadnbajfaaGreatDoorProg
import Derived.KernelRfl
import Derived.MapKept
import Derived.RegionTactic
import Derived.Lib.AppendIntMem
import Derived.Shelf.Strings.Builder1
import Derived.Shelf.Strings.Builder2
import Derived.Shelf.Strings.OnBuilder
import Derived.Shelf.Small.Bits
import Derived.Shelf.Small.Wraps
import Derived.Shelf.Strings.BuilderF
import Derived.Shelf.Strings.BuilderK
import Derived.Shelf.Strings.Builder2Cap
import Derived.Shelf.Strconv.Itoa0
import Derived.Shelf.Strconv.Itoa1
import Derived.Shelf.LaysM
import Derived.Shelf.Strconv.Itoa2
import Derived.Shelf.Strconv.Itoa3
import Derived.Shelf.Strings.BuilderCap
import Derived.Shelf.Slices.Turned
import Derived.Shelf.Slices.CompactS
import Derived.Ground.Names2Prog
import Derived.Shelf.Slices.SearchI
import Derived.Shelf.Slices.Cells
import Derived.Lib.ItoaLen
import Derived.Laws.FloatBits
namespace Go.Proofs.YtfeacmadnbajfaaGreatDoor.AM
open Go.RowKit
set_option linter.unusedSimpArgs false
set_option linter.unusedVariables false
set_option maxRecDepth 10000
set_option maxHeartbeats 0
theorem c_tright (ts : List TermD) (hl : ts.length ≤ 1000000) (hs : ∀ t ∈ ts, smallT t) (hok : ∀ t ∈ ts, rightT t = true → okT t) : Pure Tryz.prog 49 [.dat (.lst 8 (ts.map TermD.enc))] (bv (rightV ts)) := by
  have hd := c_Deep ts hl
  refine pure_of_awp Tryz.func49 rfl rfl (by simp [Tryz.f49]) ?_; simp only [go_sem, ↓reduceIte, Nat.reduceEqDiff, Nat.reduceAdd, Nat.reduceLeDiff, Nat.reduceBEq, Nat.reduceMul, reduceCtorEq, Int.reduceLE, Int.reduceLT, Int.reduceAdd, Int.reduceSub, Int.reduceNeg, Int.reduceToNat, Int.reduceBEq]
  repeat' (first | refine awp_seq ?_ | refine awp_block ?_ | refine awp_round ?_ | refine awp_text rfl ?_ | refine awp_any rfl mix (by kernel_rfl) ?_ | (refine RunTo.unguard rfl rfl (fun hg => ?_) (fun hg => ?_) <;> ((try simp only [Bool.not_true, Bool.not_false, Bool.not_eq_true', Bool.not_eq_false', Bool.not_eq_eq_eq_not] at hg); (first | (cases hg) | (simp only [hg]) | skip))) | ((first | refine RunTo.plain rfl ?_ | refine RunTo.skipped rfl ?_ | refine RunTo.call (hd) Tryz.func18 rfl rfl rfl rfl rfl rfl rfl rfl ?_); simp only [go_sem, ↓reduceIte, Nat.reduceEqDiff, Nat.reduceAdd, Nat.reduceLeDiff, Nat.reduceBEq, Nat.reduceMul, reduceCtorEq, Int.reduceLE, Int.reduceLT, Int.reduceAdd, Int.reduceSub, Int.reduceNeg, Int.reduceToNat, Int.reduceBEq, List.length_map]) | ((first | refine RunTo.nil ⟨by kernel_rfl, ?_⟩ | refine RunTo.nil ?_ | refine awp_skip ?_ | refine awp_exit ?_); simp only [go_sem, ↓reduceIte, Nat.reduceEqDiff, Nat.reduceAdd, Nat.reduceLeDiff, Nat.reduceBEq, Nat.reduceMul, reduceCtorEq, Int.reduceLE, Int.reduceLT, Int.reduceAdd, Int.reduceSub, Int.reduceNeg, Int.reduceToNat, Int.reduceBEq, List.length_map]) | (refine awp_cond' rfl (of_decide_eq_true rfl) (fun hc => ?_) (fun hc => ?_) <;> ((try simp only [Bool.not_true, Bool.not_false, Bool.not_eq_true', Bool.not_eq_false', Bool.not_eq_eq_eq_not] at hc); (first | (cases hc) | (simp only [hc]) | skip))))
  · (first | refine awp_ret ?_ | skip); refine ⟨(by first | exact .inl rfl | exact .inr rfl | exact .inr trivial | trivial), ?_⟩; simp only [go_sem, ↓reduceIte, Nat.reduceEqDiff, Nat.reduceAdd, Nat.reduceLeDiff, Nat.reduceBEq, Nat.reduceMul, reduceCtorEq, Int.reduceLE, Int.reduceLT, Int.reduceAdd, Int.reduceSub, Int.reduceNeg, Int.reduceToNat, Int.reduceBEq, retV, resL, resV, sealV, sealC, sealAll, Tryz.f49]
    (try simp only [decide_eq_true_eq, decide_eq_false_iff_not, beq_iff_eq, bne_iff_ne, ne_eq, beq_eq_false_iff_ne, bne_eq_false_iff_eq, Bool.and_eq_true, Bool.or_eq_true, Bool.or_eq_false_iff, Bool.and_eq_false_iff] at *)
    rw [rightV, decide_eq_false (p := deepV ts ≤ 64) (by omega)]; simp
  · (try simp only [decide_eq_true_eq, decide_eq_false_iff_not, beq_iff_eq, bne_iff_ne, ne_eq, beq_eq_false_iff_ne, bne_eq_false_iff_eq, Bool.and_eq_true, Bool.or_eq_true, Bool.or_eq_false_iff, Bool.and_eq_false_iff] at *)
    refine awp_loopw (IR ts) ts.length (SR ts 0 _) (weak_keep ⟨rfl, rfl, rfl, trivial⟩ trivial (Nat.le_refl _)) ⟨0, _, Nat.zero_le _, rfl, rfl, rfl⟩ ?_
    rintro n st ⟨k, T, hk, rfl, hall, rfl⟩
    by_cases hlt : k < ts.length
    · have hdec := lt_t hlt
      have hget := row_at TermD.enc ts k hlt
      have hst := hs _ (List.getElem_mem hlt)
      have htk := all_take (fun t => rightQ (padT t)) ts k hlt
      have hwk : IntKind.i64.wrap ((k : Int) + 1) = ((k + 1 : Nat) : Int) := wrap_succ (by omega)
      have hmem := List.getElem_mem hlt
      have hot := hok _ hmem
      generalize ts[k] = t at *
      have d1 := c_Deep [t] (by simp)
      have d2 := pure_le (c_Deep [c0T, t] (by simp)) (.cons (.dat (o2_le t)) .nil)
      have d3 := pure_le (c_Deep [c0T, c0T, t] (by simp)) (.cons (.dat (o3_le t)) .nil)
      have m1 : ∀ x ∈ [t], smallT x ∧ (rightT x = true → okT x) := fun x hx => by simp at hx; subst hx; exact ⟨hst, hot⟩
      have m2 : ∀ x ∈ [c0T, t], smallT x ∧ (rightT x = true → okT x) := fun x hx => by
        rcases List.mem_cons.1 hx with rfl | hx
        · exact ⟨c0_small, fun _ => c0_ok⟩
        · exact m1 x hx
      have m3 : ∀ x ∈ [c0T, c0T, t], smallT x ∧ (rightT x = true → okT x) := fun x hx => by
        rcases List.mem_cons.1 hx with rfl | hx
        · exact ⟨c0_small, fun _ => c0_ok⟩
        · exact m2 x hx
      have r1 := r_of [t] (by simp) (by simp) (fun x hx => (m1 x hx).1) (fun x hx => (m1 x hx).2)
      have r2 := pure_le (r_of [c0T, t] (by simp) (by simp) (fun x hx => (m2 x hx).1) (fun x hx => (m2 x hx).2)) (q_le (o2_le t))
      have r3 := pure_le (r_of [c0T, c0T, t] (by simp) (by simp) (fun x hx => (m3 x hx).1) (fun x hx => (m3 x hx).2)) (q_le (o3_le t))
      repeat' (first | refine awp_seq ?_ | refine awp_block ?_ | refine awp_round ?_ | refine awp_text rfl ?_ | refine awp_any rfl mix (by kernel_rfl) ?_ | (refine RunTo.unguard rfl rfl (fun hg => ?_) (fun hg => ?_) <;> ((try simp only [Bool.not_true, Bool.not_false, Bool.not_eq_true', Bool.not_eq_false', Bool.not_eq_eq_eq_not] at hg); (first | (cases hg) | (simp only [hg]) | skip))) | ((first | refine RunTo.plain rfl ?_ | refine RunTo.skipped rfl ?_); simp only [go_sem, ↓reduceIte, Nat.reduceEqDiff, Nat.reduceAdd, Nat.reduceLeDiff, Nat.reduceBEq, Nat.reduceMul, reduceCtorEq, Int.reduceLE, Int.reduceLT, Int.reduceAdd, Int.reduceSub, Int.reduceNeg, Int.reduceToNat, Int.reduceBEq, hdec, hget, TermD.enc, hwk]) | ((first | refine RunTo.nil ⟨by kernel_rfl, ?_⟩ | refine RunTo.nil ?_ | refine awp_skip ?_ | refine awp_exit ?_); simp only [go_sem, ↓reduceIte, Nat.reduceEqDiff, Nat.reduceAdd, Nat.reduceLeDiff, Nat.reduceBEq, Nat.reduceMul, reduceCtorEq, Int.reduceLE, Int.reduceLT, Int.reduceAdd, Int.reduceSub, Int.reduceNeg, Int.reduceToNat, Int.reduceBEq, hdec, hget, TermD.enc, hwk]) | (refine awp_cond' rfl (of_decide_eq_true rfl) (fun hc => ?_) (fun hc => ?_) <;> ((try simp only [Bool.not_true, Bool.not_false, Bool.not_eq_true', Bool.not_eq_false', Bool.not_eq_eq_eq_not] at hc); (first | (cases hc) | (simp only [hc]) | skip))))
      refine awp_rounds 4 ?_
      repeat' (first | refine awp_seq ?_ | refine awp_block ?_ | refine awp_round ?_ | refine awp_text rfl ?_ | refine awp_any rfl mix (by kernel_rfl) ?_ | (refine RunTo.unguard rfl rfl (fun hg => ?_) (fun hg => ?_) <;> ((try simp only [Bool.not_true, Bool.not_false, Bool.not_eq_true', Bool.not_eq_false', Bool.not_eq_eq_eq_not] at hg); (first | (cases hg) | (simp only [hg]) | skip))) | ((first | refine RunTo.plain rfl ?_ | refine RunTo.skipped rfl ?_); simp only [go_sem, ↓reduceIte, Nat.reduceEqDiff, Nat.reduceAdd, Nat.reduceLeDiff, Nat.reduceBEq, Nat.reduceMul, reduceCtorEq, Int.reduceLE, Int.reduceLT, Int.reduceAdd, Int.reduceSub, Int.reduceNeg, Int.reduceToNat, Int.reduceBEq, hdec, hget, TermD.enc, hwk]) | (refine RunTo.lentE (d1) Tryz.func18 rfl rfl rfl rfl rfl rfl ?_; simp only [go_sem, ↓reduceIte, Nat.reduceEqDiff, Nat.reduceAdd, Nat.reduceLeDiff, Nat.reduceBEq, Nat.reduceMul, reduceCtorEq, Int.reduceLE, Int.reduceLT, Int.reduceAdd, Int.reduceSub, Int.reduceNeg, Int.reduceToNat, Int.reduceBEq, hdec, hget, TermD.enc, hwk, Option.some.injEq, List.cons.injEq]; (repeat' refine And.intro rfl ?_); with_reducible refine RunTo.this ?_) | (refine RunTo.lentE (d2) Tryz.func18 rfl rfl rfl rfl rfl rfl ?_; simp only [go_sem, ↓reduceIte, Nat.reduceEqDiff, Nat.reduceAdd, Nat.reduceLeDiff, Nat.reduceBEq, Nat.reduceMul, reduceCtorEq, Int.reduceLE, Int.reduceLT, Int.reduceAdd, Int.reduceSub, Int.reduceNeg, Int.reduceToNat, Int.reduceBEq, hdec, hget, TermD.enc, hwk, Option.some.injEq, List.cons.injEq]; (repeat' refine And.intro rfl ?_); with_reducible refine RunTo.this ?_) | (refine RunTo.lentE (d3) Tryz.func18 rfl rfl rfl rfl rfl rfl ?_; simp only [go_sem, ↓reduceIte, Nat.reduceEqDiff, Nat.reduceAdd, Nat.reduceLeDiff, Nat.reduceBEq, Nat.reduceMul, reduceCtorEq, Int.reduceLE, Int.reduceLT, Int.reduceAdd, Int.reduceSub, Int.reduceNeg, Int.reduceToNat, Int.reduceBEq, hdec, hget, TermD.enc, hwk, Option.some.injEq, List.cons.injEq]; (repeat' refine And.intro rfl ?_); with_reducible refine RunTo.this ?_) | (refine RunTo.lentE (r1) Tryz.func23 rfl rfl rfl rfl rfl rfl ?_; simp only [go_sem, ↓reduceIte, Nat.reduceEqDiff, Nat.reduceAdd, Nat.reduceLeDiff, Nat.reduceBEq, Nat.reduceMul, reduceCtorEq, Int.reduceLE, Int.reduceLT, Int.reduceAdd, Int.reduceSub, Int.reduceNeg, Int.reduceToNat, Int.reduceBEq, hdec, hget, TermD.enc, hwk, Option.some.injEq, List.cons.injEq]; (repeat' refine And.intro rfl ?_); with_reducible refine RunTo.this ?_) | (refine RunTo.lentE (r2) Tryz.func23 rfl rfl rfl rfl rfl rfl ?_; simp only [go_sem, ↓reduceIte, Nat.reduceEqDiff, Nat.reduceAdd, Nat.reduceLeDiff, Nat.reduceBEq, Nat.reduceMul, reduceCtorEq, Int.reduceLE, Int.reduceLT, Int.reduceAdd, Int.reduceSub, Int.reduceNeg, Int.reduceToNat, Int.reduceBEq, hdec, hget, TermD.enc, hwk, Option.some.injEq, List.cons.injEq]; (repeat' refine And.intro rfl ?_); with_reducible refine RunTo.this ?_) | (refine RunTo.lentE (r3) Tryz.func23 rfl rfl rfl rfl rfl rfl ?_; simp only [go_sem, ↓reduceIte, Nat.reduceEqDiff, Nat.reduceAdd, Nat.reduceLeDiff, Nat.reduceBEq, Nat.reduceMul, reduceCtorEq, Int.reduceLE, Int.reduceLT, Int.reduceAdd, Int.reduceSub, Int.reduceNeg, Int.reduceToNat, Int.reduceBEq, hdec, hget, TermD.enc, hwk, Option.some.injEq, List.cons.injEq]; (repeat' refine And.intro rfl ?_); with_reducible refine RunTo.this ?_) | ((first | refine RunTo.nil ⟨by kernel_rfl, ?_⟩ | refine RunTo.nil ?_ | refine awp_skip ?_ | refine awp_exit ?_); simp only [go_sem, ↓reduceIte, Nat.reduceEqDiff, Nat.reduceAdd, Nat.reduceLeDiff, Nat.reduceBEq, Nat.reduceMul, reduceCtorEq, Int.reduceLE, Int.reduceLT, Int.reduceAdd, Int.reduceSub, Int.reduceNeg, Int.reduceToNat, Int.reduceBEq, hdec, hget, TermD.enc, hwk]) | (refine awp_cond' rfl (of_decide_eq_true rfl) (fun hc => ?_) (fun hc => ?_) <;> ((try simp only [Bool.not_true, Bool.not_false, Bool.not_eq_true', Bool.not_eq_false', Bool.not_eq_eq_eq_not] at hc); (first | (cases hc) | (simp only [hc]) | skip))))
      all_goals
        (try simp only [decide_eq_true_eq, decide_eq_false_iff_not, beq_iff_eq, bne_iff_ne, ne_eq, beq_eq_false_iff_ne, bne_eq_false_iff_eq, Bool.and_eq_true, Bool.or_eq_true, Bool.or_eq_false_iff, Bool.and_eq_false_iff] at *)
        have hpad : rightQ (padT t) = rightQ (padT t) := rfl
        conv at hpad => lhs; unfold padT
        simp only [*, if_true, if_false, ne_eq, not_true_eq_false, not_false_eq_true, ↓reduceIte] at hpad
        first
        | exact ⟨ts.length - (k + 1), by omega, SR ts (k + 1) _, weak_keep ⟨rfl, rfl, rfl, trivial⟩ trivial (Nat.le_refl _), k + 1, _, by omega, rfl, by rw [htk, hall, ← hpad]; rfl, rfl⟩
        | (have hf : rightV ts = false := by
             have : (ts.all fun t => rightQ (padT t)) = false := by
               cases hh : (ts.all fun t => rightQ (padT t)) with
               | false => rfl
               | true =>
                 have h9 := List.all_eq_true.1 hh t hmem
                 rw [← hpad] at h9
                 cases h9
             rw [rightV, this, Bool.and_false, Bool.and_false]
           rw [hf]
           (first | refine awp_ret ?_ | skip); refine ⟨(by first | exact .inl rfl | exact .inr rfl | exact .inr trivial | trivial), ?_⟩; simp only [go_sem, ↓reduceIte, Nat.reduceEqDiff, Nat.reduceAdd, Nat.reduceLeDiff, Nat.reduceBEq, Nat.reduceMul, reduceCtorEq, Int.reduceLE, Int.reduceLT, Int.reduceAdd, Int.reduceSub, Int.reduceNeg, Int.reduceToNat, Int.reduceBEq, retV, resL, resV, sealV, sealC, sealAll, Tryz.f49])
      all_goals trace_state
    · have hdec := lt_f hlt
      have hall' : (ts.all fun t => rightQ (padT t)) = true := by rw [List.take_of_length_le (by omega)] at hall; exact hall
      repeat' (first | refine awp_seq ?_ | refine awp_block ?_ | refine awp_round ?_ | refine awp_text rfl ?_ | refine awp_any rfl mix (by kernel_rfl) ?_ | (refine RunTo.unguard rfl rfl (fun hg => ?_) (fun hg => ?_) <;> ((try simp only [Bool.not_true, Bool.not_false, Bool.not_eq_true', Bool.not_eq_false', Bool.not_eq_eq_eq_not] at hg); (first | (cases hg) | (simp only [hg]) | skip))) | ((first | refine RunTo.plain rfl ?_ | refine RunTo.skipped rfl ?_); simp only [go_sem, ↓reduceIte, Nat.reduceEqDiff, Nat.reduceAdd, Nat.reduceLeDiff, Nat.reduceBEq, Nat.reduceMul, reduceCtorEq, Int.reduceLE, Int.reduceLT, Int.reduceAdd, Int.reduceSub, Int.reduceNeg, Int.reduceToNat, Int.reduceBEq, hdec]) | ((first | refine RunTo.nil ⟨by kernel_rfl, ?_⟩ | refine RunTo.nil ?_ | refine awp_skip ?_ | refine awp_exit ?_); simp only [go_sem, ↓reduceIte, Nat.reduceEqDiff, Nat.reduceAdd, Nat.reduceLeDiff, Nat.reduceBEq, Nat.reduceMul, reduceCtorEq, Int.reduceLE, Int.reduceLT, Int.reduceAdd, Int.reduceSub, Int.reduceNeg, Int.reduceToNat, Int.reduceBEq, hdec]) | (refine awp_cond' rfl (of_decide_eq_true rfl) (fun hc => ?_) (fun hc => ?_) <;> ((try simp only [Bool.not_true, Bool.not_false, Bool.not_eq_true', Bool.not_eq_false', Bool.not_eq_eq_eq_not] at hc); (first | (cases hc) | (simp only [hc]) | skip))))
      all_goals
        (first | refine awp_ret ?_ | skip); refine ⟨(by first | exact .inl rfl | exact .inr rfl | exact .inr trivial | trivial), ?_⟩; simp only [go_sem, ↓reduceIte, Nat.reduceEqDiff, Nat.reduceAdd, Nat.reduceLeDiff, Nat.reduceBEq, Nat.reduceMul, reduceCtorEq, Int.reduceLE, Int.reduceLT, Int.reduceAdd, Int.reduceSub, Int.reduceNeg, Int.reduceToNat, Int.reduceBEq, retV, resL, resV, sealV, sealC, sealAll, Tryz.f49]
        rw [rightV, hall', decide_eq_true (p := 1 ≤ deepV ts) (by omega), decide_eq_true (p := deepV ts ≤ 64) (by omega)]; rfl
  · (first | refine awp_ret ?_ | skip); refine ⟨(by first | exact .inl rfl | exact .inr rfl | exact .inr trivial | trivial), ?_⟩; simp only [go_sem, ↓reduceIte, Nat.reduceEqDiff, Nat.reduceAdd, Nat.reduceLeDiff, Nat.reduceBEq, Nat.reduceMul, reduceCtorEq, Int.reduceLE, Int.reduceLT, Int.reduceAdd, Int.reduceSub, Int.reduceNeg, Int.reduceToNat, Int.reduceBEq, retV, resL, resV, sealV, sealC, sealAll, Tryz.f49]
    (try simp only [decide_eq_true_eq, decide_eq_false_iff_not, beq_iff_eq, bne_iff_ne, ne_eq, beq_eq_false_iff_ne, bne_eq_false_iff_eq, Bool.and_eq_true, Bool.or_eq_true, Bool.or_eq_false_iff, Bool.and_eq_false_iff] at *)
    rw [rightV, decide_eq_false (p := 1 ≤ deepV ts) (by omega)]; rfl
end Go.Proofs.YtfeacmadnbajfaaGreatDoor.AM
namespace Go.Proofs.YtfeacmadnbajfaaGreatDoor.AM
open Go.RowKit
set_option linter.unusedSimpArgs false
set_option linter.unusedVariables false
set_option maxRecDepth 10000
set_option maxHeartbeats 0
def mval : List (Value × AV) → ByteArray → Option AV
  | [], _ => none
  | (.string s, x) :: l, k => if s = k then some x else mval l k
  | (_, _) :: l, k => mval l k
theorem mfind_mval (k : ByteArray) : ∀ (kv : List (Value × AV)) (i : Nat), strKeys kv = true → (mfind kv k i).map (·.2) = mval kv k
  | [], i, _ => rfl
  | (q, x) :: kv, i, hs => by
    simp only [strKeys, List.all_cons, Bool.and_eq_true] at hs
    have ih := mfind_mval k kv (i + 1) hs.2
    cases q with
    | string s =>
      simp only [mfind, mval]
      split
      · rfl
      · exact ih
    | _ => simp at hs
theorem mval_set (k k' : ByteArray) (v : AV) : ∀ (kv : List (Value × AV)) (i j : Nat) (x : AV), strKeys kv = true → mfind kv k i = some (j, x) →
    i ≤ j ∧ mval (kv.set (j - i) (.string k, v)) k' = (if k = k' then some v else mval kv k') ∧ strKeys (kv.set (j - i) (.string k, v)) = true
  | [], i, j, x, _, h => by simp [mfind] at h
  | (q, y) :: kv, i, j, x, hs, h => by
    have hs0 := hs
    simp only [strKeys, List.all_cons, Bool.and_eq_true] at hs
    cases q with
    | string s =>
      simp only [mfind] at h
      split at h
      · rename_i hsk
        simp only [Option.some.injEq, Prod.mk.injEq] at h
        obtain ⟨rfl, rfl⟩ := h
        refine ⟨Nat.le_refl _, ?_, ?_⟩
        · rw [Nat.sub_self, List.set_cons_zero]
          simp only [mval]
          rw [hsk]
          split <;> rfl
        · rw [Nat.sub_self, List.set_cons_zero]
          simp only [strKeys, List.all_cons, Bool.true_and]
          exact hs.2
      · rename_i hsk
        obtain ⟨h1, h2, h3⟩ := mval_set k k' v kv (i + 1) j x hs.2 h
        have hj : j - i = (j - (i + 1)) + 1 := by omega
        refine ⟨by omega, ?_, ?_⟩
        · rw [hj, List.set_cons_succ]
          simp only [mval]
          rw [h2]
          by_cases hk : k = k'
          · rw [if_pos hk, if_neg (by rw [← hk]; exact hsk)]
            rw [if_pos hk]
          · rw [if_neg hk, if_neg hk]
        · rw [hj, List.set_cons_succ]
          simp only [strKeys, List.all_cons, Bool.true_and]
          exact h3
    | _ => simp at hs
theorem mval_app (k : ByteArray) : ∀ (a b : List (Value × AV)), strKeys a = true → mval (a ++ b) k = match mval a k with | some x => some x | none => mval b k
  | [], b, _ => rfl
  | (q, y) :: a, b, hs => by
    simp only [strKeys, List.all_cons, Bool.and_eq_true] at hs
    have ih := mval_app k a b hs.2
    cases q with
    | string s =>
      simp only [List.cons_append, mval]
      split
      · rfl
      · exact ih
    | _ => simp at hs
theorem mval_put (kv : List (Value × AV)) (k k' : ByteArray) (v : AV) (hs : strKeys kv = true) : mval (mput kv k v) k' = (if k = k' then some v else mval kv k') ∧ strKeys (mput kv k v) = true := by
  unfold mput
  cases hf : mfind kv k 0 with
  | some p =>
    obtain ⟨j, x⟩ := p
    obtain ⟨_, h2, h3⟩ := mval_set k k' v kv 0 j x hs hf
    exact ⟨h2, h3⟩
  | none =>
    have hm := mfind_mval k kv 0 hs
    rw [hf] at hm
    refine ⟨?_, by simp only [strKeys, List.all_append, Bool.and_eq_true]; exact ⟨hs, rfl⟩⟩
    show mval (kv ++ [(.string k, v)]) k' = _
    rw [mval_app _ _ _ hs]
    by_cases hk : k = k'
    · subst hk
      rw [if_pos rfl, ← hm]
      simp [mval]
    · rw [if_neg hk]
      simp only [mval, if_neg hk]
      split <;> simp_all
def knownB (names : List ByteArray) (v : ByteArray) : Bool := decide (v = eE) || names.any fun n => decide (n = v)
def KnowsM (names : List ByteArray) (kv : List (Value × AV)) : Prop := strKeys kv = true ∧ ∀ v, mval kv v = if knownB names v = true then some (bv true) else none
theorem KnowsM.one : KnowsM [] (mput [] eE (bv true)) := ⟨rfl, fun v => by
  rw [(mval_put [] eE v (bv true) rfl).1]
  by_cases h : v = eE
  · subst h; rw [if_pos rfl, if_pos (by simp [knownB])]
  · rw [if_neg (Ne.symm h), if_neg (by simp [knownB, h])]; rfl⟩
theorem KnowsM.put {names : List ByteArray} {kv : List (Value × AV)} (h : KnowsM names kv) (s : ByteArray) : KnowsM (names ++ [s]) (mput kv s (bv true)) := ⟨(mval_put kv s s _ h.1).2, fun v => by
  rw [(mval_put kv s v (bv true) h.1).1, h.2]
  by_cases hs : s = v
  · rw [if_pos hs, if_pos (by simp [knownB, hs])]
  · rw [if_neg hs]
    have : knownB (names ++ [s]) v = knownB names v := by simp [knownB, hs]
    rw [this]⟩
theorem KnowsM.got {names : List ByteArray} {kv : List (Value × AV)} (h : KnowsM names kv) (v : ByteArray) : mgot kv v (.bool false) false = bv (knownB names v) := by
  have hm := mfind_mval v kv 0 h.1
  rw [h.2] at hm
  unfold mgot
  cases hk : knownB names v with
  | true =>
    rw [hk, if_pos rfl] at hm
    cases hf : mfind kv v 0 with
    | none => rw [hf] at hm; cases hm
    | some p =>
      rw [hf] at hm
      obtain ⟨j, x⟩ := p
      exact Option.some.inj hm
  | false =>
    rw [hk, if_neg (by simp)] at hm
    cases hf : mfind kv v 0 with
    | none => rfl
    | some p => rw [hf] at hm; cases hm
def okK (want x : Int) : Bool := !(!(want == 1) && (!(x == want) && !(x == 1)))
def ofK (t : TermD) : Nat := (shapeK t).1.toNat
def kindL (names : List ByteArray) : List Int → List TermD → Int × Int
  | s, [] => (s.headD 0, 0)
  | s, t :: ts => if knownB names t.var = true then
      (if (s.drop (s.length - ofK t)).all (okK (shapeK t).2.1) = true then kindL names (s.take (s.length - ofK t) ++ [(shapeK t).2.2]) ts else (0, 22))
    else (0, 25)
def kindV (names : List ByteArray) (ts : List TermD) : Int × Int := if rightV ts = true then kindL names [] ts else (0, 23)
theorem ofK_of {t : TermD} (h1 : ¬ t.op ≤ 0) (h2 : ¬ 16 ≤ t.op) : ofK t = ofN t.op := by
  unfold ofK shapeK ofN
  (repeat' split) <;> first | rfl | omega
theorem shapeK_nn (t : TermD) : 0 ≤ (shapeK t).1 ∧ (shapeK t).1 ≤ 2 := by
  unfold shapeK
  (repeat' split) <;> simp
end Go.Proofs.YtfeacmadnbajfaaGreatDoor.AM
namespace Go.Proofs.YtfeacmadnbajfaaGreatDoor.AM
open Go.RowKit
set_option linter.unusedSimpArgs false
set_option linter.unusedVariables false
set_option maxRecDepth 10000
set_option maxHeartbeats 0
theorem sk0 : (strKeys ([] : List (Value × AV)) = true) = True := eq_true rfl
theorem sk1 {kv : List (Value × AV)} (h : strKeys kv = true) : (strKeys kv = true) = True := eq_true h
abbrev K1 (ts : List TermD) (names : List ByteArray) (k T e : Nat) (kv : List (Value × AV)) : St := ⟨[(24, iv k), (23, iv names.length), (22, .dat (.lst 1 (sl names))), (6, .mp 20 e), (0, .dat (.lst 8 (ts.map TermD.enc)))], [(20, .maps e kv)], T⟩
def J1 (ts : List TermD) (names : List ByteArray) (n : Nat) (st : St) : Prop := ∃ k T e kv, k ≤ names.length ∧ n = names.length - k ∧ KnowsM (names.take k) kv ∧ st = K1 ts names k T e kv
abbrev K2 (ts : List TermD) (kv : List (Value × AV)) (k T e e6 : Nat) (s : List Int) : St := ⟨[(31, .dat (.lst 8 (ts.map TermD.enc))), (32, iv ts.length), (33, iv k), (9, .slc 79 e 0 s.length), (6, .mp 20 e6)], [(79, .arr e 1 (s.map fun x => [di x])), (20, .maps e6 kv)], T⟩
def J2 (ts : List TermD) (names : List ByteArray) (kv : List (Value × AV)) (d : Int) (n : Nat) (st : St) : Prop := ∃ (k T e e6 : Nat) (s sd : List Int), k ≤ ts.length ∧ n = ts.length - k ∧ deepS sd (ts.drop k) = some [d] ∧ s.length = sd.length ∧ s.length ≤ k ∧ kindL names s (ts.drop k) = kindL names [] ts ∧ st = K2 ts kv k T e e6 s
abbrev K3 (ts : List TermD) (kv : List (Value × AV)) (k T e e6 : Nat) (s : List Int) (own want : Int) (o n j : Nat) : St := ⟨[(31, .dat (.lst 8 (ts.map TermD.enc))), (32, iv ts.length), (33, iv k), (9, .slc 79 e 0 s.length), (6, .mp 20 e6), (12, iv o), (13, iv want), (14, iv own), (53, .slc 79 e n (s.length - n)), (54, iv (s.length - n : Nat)), (55, iv j)], [(79, .arr e 1 (s.map fun x => [di x])), (20, .maps e6 kv)], T⟩
def J3 (ts : List TermD) (kv : List (Value × AV)) (k e e6 : Nat) (s : List Int) (own want : Int) (o n m : Nat) (st : St) : Prop := ∃ (j T : Nat), j ≤ s.length - n ∧ m = s.length - n - j ∧ ((s.drop n).take j).all (okK want) = true ∧ st = K3 ts kv k T e e6 s own want o n j
theorem kindL_cons (names : List ByteArray) (s : List Int) (t : TermD) (ts : List TermD) : kindL names s (t :: ts) = if knownB names t.var = true then
      (if (s.drop (s.length - ofK t)).all (okK (shapeK t).2.1) = true then kindL names (s.take (s.length - ofK t) ++ [(shapeK t).2.2]) ts else (0, 22))
    else (0, 25) := rfl
theorem right_deep {ts : List TermD} (h : rightV ts = true) : ts.length ≤ 1000 ∧ ∃ d, deepS [] ts = some [d] := by
  simp only [rightV, Bool.and_eq_true, decide_eq_true_eq] at h
  obtain ⟨h1, _⟩ := h
  unfold deepV at h1
  split at h1
  · omega
  · rename_i hl
    refine ⟨by omega, ?_⟩
    split at h1
    · rename_i d hd; exact ⟨d, hd⟩
    · omega
theorem c_Kind (ts : List TermD) (names : List ByteArray) (hl : ts.length ≤ 1000000) (hn : names.length ≤ 1000000) (hs : ∀ t ∈ ts, smallT t) (hok : ∀ t ∈ ts, rightT t = true → okT t) :
    Pure Tryz.prog 22 [.dat (.lst 8 (ts.map TermD.enc)), .dat (.lst 1 (sl names))] (.tup [iv (kindV names ts).1, iv (kindV names ts).2]) := by
  have hr := c_tright ts hl hs hok
  refine pure_of_awp Tryz.func22 rfl rfl (by simp [Tryz.f22]) ?_; simp only [go_sem, ↓reduceIte, Nat.reduceEqDiff, Nat.reduceAdd, Nat.reduceLeDiff, Nat.reduceBEq, Nat.reduceMul, reduceCtorEq, Int.reduceLE, Int.reduceLT, Int.reduceAdd, Int.reduceSub, Int.reduceNeg, Int.reduceToNat, Int.reduceBEq]
  repeat' (first | refine awp_seq ?_ | refine awp_block ?_ | refine awp_round ?_ | refine awp_text rfl ?_ | refine awp_any rfl mix (by kernel_rfl) ?_ | (refine RunTo.unguard rfl rfl (fun hg => ?_) (fun hg => ?_) <;> ((try simp only [Bool.not_true, Bool.not_false, Bool.not_eq_true', Bool.not_eq_false', Bool.not_eq_eq_eq_not] at hg); (first | (cases hg) | (simp only [hg]) | skip))) | ((first | refine RunTo.plain rfl ?_ | refine RunTo.skipped rfl ?_ | refine RunTo.call (hr) Tryz.func49 rfl rfl rfl rfl rfl rfl rfl rfl ?_); simp only [go_sem, ↓reduceIte, Nat.reduceEqDiff, Nat.reduceAdd, Nat.reduceLeDiff, Nat.reduceBEq, Nat.reduceMul, reduceCtorEq, Int.reduceLE, Int.reduceLT, Int.reduceAdd, Int.reduceSub, Int.reduceNeg, Int.reduceToNat, Int.reduceBEq, List.length_map, sk0]) | ((first | refine RunTo.nil ⟨by kernel_rfl, ?_⟩ | refine RunTo.nil ?_ | refine awp_skip ?_ | refine awp_exit ?_); simp only [go_sem, ↓reduceIte, Nat.reduceEqDiff, Nat.reduceAdd, Nat.reduceLeDiff, Nat.reduceBEq, Nat.reduceMul, reduceCtorEq, Int.reduceLE, Int.reduceLT, Int.reduceAdd, Int.reduceSub, Int.reduceNeg, Int.reduceToNat, Int.reduceBEq, List.length_map, sk0]) | (refine awp_cond' rfl (of_decide_eq_true rfl) (fun hc => ?_) (fun hc => ?_) <;> ((try simp only [Bool.not_true, Bool.not_false, Bool.not_eq_true', Bool.not_eq_false', Bool.not_eq_eq_eq_not] at hc); (first | (cases hc) | (simp only [hc]) | skip))))
  · (first | refine awp_ret ?_ | skip); refine ⟨(by first | exact .inl rfl | exact .inr rfl | exact .inr trivial | trivial), ?_⟩; simp only [go_sem, ↓reduceIte, Nat.reduceEqDiff, Nat.reduceAdd, Nat.reduceLeDiff, Nat.reduceBEq, Nat.reduceMul, reduceCtorEq, Int.reduceLE, Int.reduceLT, Int.reduceAdd, Int.reduceSub, Int.reduceNeg, Int.reduceToNat, Int.reduceBEq, retV, resL, resV, sealV, sealC, sealAll, Tryz.f22]
    rw [kindV, if_neg (by simp [hc])]
  · have hkv0 : kindV names ts = kindL names [] ts := if_pos hc
    obtain ⟨hl1, d, hd⟩ := right_deep hc
    refine awp_loopw (J1 ts names) names.length (K1 ts names 0 _ _ _) (weak_keep ⟨rfl, rfl, rfl, rfl, rfl, trivial⟩ ⟨rfl, trivial⟩ (Nat.le_refl _)) ⟨0, _, _, _, Nat.zero_le _, rfl, KnowsM.one, rfl⟩ ?_
    rintro n st ⟨k, T, e, kv, hk, rfl, hkm, rfl⟩
    by_cases hlt : k < names.length
    · have hdec := lt_t hlt
      have hget := row_at (fun x => [ds' x]) names k hlt
      have hwk : IntKind.i64.wrap ((k : Int) + 1) = ((k + 1 : Nat) : Int) := wrap_succ (by omega)
      have htk : names.take (k + 1) = names.take k ++ [names[k]] := List.take_succ_eq_append_getElem hlt
      generalize names[k] = x at *
      have hsk := sk1 hkm.1
      repeat' (first | refine awp_seq ?_ | refine awp_block ?_ | refine awp_round ?_ | refine awp_text rfl ?_ | refine awp_any rfl mix (by kernel_rfl) ?_ | (refine RunTo.unguard rfl rfl (fun hg => ?_) (fun hg => ?_) <;> ((try simp only [Bool.not_true, Bool.not_false, Bool.not_eq_true', Bool.not_eq_false', Bool.not_eq_eq_eq_not] at hg); (first | (cases hg) | (simp only [hg]) | skip))) | ((first | refine RunTo.plain rfl ?_ | refine RunTo.skipped rfl ?_); simp only [go_sem, ↓reduceIte, Nat.reduceEqDiff, Nat.reduceAdd, Nat.reduceLeDiff, Nat.reduceBEq, Nat.reduceMul, reduceCtorEq, Int.reduceLE, Int.reduceLT, Int.reduceAdd, Int.reduceSub, Int.reduceNeg, Int.reduceToNat, Int.reduceBEq, hdec, hget, hwk, hsk]) | ((first | refine RunTo.nil ⟨by kernel_rfl, ?_⟩ | refine RunTo.nil ?_ | refine awp_skip ?_ | refine awp_exit ?_); simp only [go_sem, ↓reduceIte, Nat.reduceEqDiff, Nat.reduceAdd, Nat.reduceLeDiff, Nat.reduceBEq, Nat.reduceMul, reduceCtorEq, Int.reduceLE, Int.reduceLT, Int.reduceAdd, Int.reduceSub, Int.reduceNeg, Int.reduceToNat, Int.reduceBEq, hdec, hget, hwk, hsk]) | (refine awp_cond' rfl (of_decide_eq_true rfl) (fun hc => ?_) (fun hc => ?_) <;> ((try simp only [Bool.not_true, Bool.not_false, Bool.not_eq_true', Bool.not_eq_false', Bool.not_eq_eq_eq_not] at hc); (first | (cases hc) | (simp only [hc]) | skip))))
      exact ⟨names.length - (k + 1), by omega, K1 ts names (k + 1) _ e (mput kv x (bv true)), weak_keep ⟨rfl, rfl, rfl, rfl, rfl, trivial⟩ ⟨rfl, trivial⟩ (Nat.le_refl _), k + 1, _, _, _, by omega, rfl, by rw [htk]; exact hkm.put x, rfl⟩
    · have hdec := lt_f hlt
      rw [List.take_of_length_le (by omega)] at hkm
      have hsk := sk1 hkm.1
      repeat' (first | refine awp_seq ?_ | refine awp_block ?_ | refine awp_round ?_ | refine awp_text rfl ?_ | refine awp_any rfl mix (by kernel_rfl) ?_ | (refine RunTo.unguard rfl rfl (fun hg => ?_) (fun hg => ?_) <;> ((try simp only [Bool.not_true, Bool.not_false, Bool.not_eq_true', Bool.not_eq_false', Bool.not_eq_eq_eq_not] at hg); (first | (cases hg) | (simp only [hg]) | skip))) | ((first | refine RunTo.plain rfl ?_ | refine RunTo.skipped rfl ?_); simp only [go_sem, ↓reduceIte, Nat.reduceEqDiff, Nat.reduceAdd, Nat.reduceLeDiff, Nat.reduceBEq, Nat.reduceMul, reduceCtorEq, Int.reduceLE, Int.reduceLT, Int.reduceAdd, Int.reduceSub, Int.reduceNeg, Int.reduceToNat, Int.reduceBEq, hdec, List.length_map]) | ((first | refine RunTo.nil ⟨by kernel_rfl, ?_⟩ | refine RunTo.nil ?_ | refine awp_skip ?_ | refine awp_exit ?_); simp only [go_sem, ↓reduceIte, Nat.reduceEqDiff, Nat.reduceAdd, Nat.reduceLeDiff, Nat.reduceBEq, Nat.reduceMul, reduceCtorEq, Int.reduceLE, Int.reduceLT, Int.reduceAdd, Int.reduceSub, Int.reduceNeg, Int.reduceToNat, Int.reduceBEq, hdec, List.length_map]) | (refine awp_cond' rfl (of_decide_eq_true rfl) (fun hc => ?_) (fun hc => ?_) <;> ((try simp only [Bool.not_true, Bool.not_false, Bool.not_eq_true', Bool.not_eq_false', Bool.not_eq_eq_eq_not] at hc); (first | (cases hc) | (simp only [hc]) | skip))))
      refine awp_weak (weak_nil (t := 9) (s := 79) (sz := 1) (of_decide_eq_true rfl) rfl) ?_
      simp only [go_sem, ↓reduceIte, Nat.reduceEqDiff, Nat.reduceAdd, Nat.reduceLeDiff, Nat.reduceBEq, Nat.reduceMul, reduceCtorEq, Int.reduceLE, Int.reduceLT, Int.reduceAdd, Int.reduceSub, Int.reduceNeg, Int.reduceToNat, Int.reduceBEq]
      refine awp_loopw (J2 ts names kv d) ts.length (K2 ts kv 0 _ _ e []) (weak_keep ⟨rfl, rfl, rfl, rfl, rfl, trivial⟩ ⟨rfl, rfl, trivial⟩ (Nat.le_refl _)) ⟨0, _, _, _, [], [], Nat.zero_le _, rfl, hd, rfl, Nat.zero_le _, rfl, rfl⟩ ?_
      clear hd hdec
      rintro n st ⟨k, T, e, e6, s, sd, hk, rfl, hd, hsd, hsk2, hkl, rfl⟩
      by_cases hlt : k < ts.length
      · have hdec := lt_t hlt
        have hget := row_at TermD.enc ts k hlt
        rw [List.drop_eq_getElem_cons hlt] at hd hkl
        generalize ts[k] = t at *
        rw [deepS_cons] at hd
        rw [kindL_cons] at hkl
        have hgot := hkm.got t.var
        by_cases hbad : t.op ≤ 0 ∨ 16 ≤ t.op ∨ sd.length < ofN t.op
        · rw [stepD, if_pos hbad] at hd; cases hd
        rw [stepD, if_neg hbad] at hd
        simp only [not_or] at hbad
        obtain ⟨hb1, hb2, hb3⟩ := hbad
        have hok1 := ofK_of hb1 hb2
        have hnn := shapeK_nn t
        have hofI : (shapeK t).1 = ((ofK t : Nat) : Int) := (Int.toNat_of_nonneg hnn.1).symm
        have hof2 : ofK t ≤ 2 := by omega
        have hos : ofK t ≤ s.length := by omega
        rw [← hok1] at hd
        have hw : IntKind.i64.wrap ((s.length : Int) - (ofK t : Int)) = ((s.length - ofK t : Nat) : Int) := by rw [IntWalk.i64_in _ (by omega)]; omega
        have hwk : IntKind.i64.wrap ((k : Int) + 1) = ((k + 1 : Nat) : Int) := wrap_succ (by omega)
        have hcs := c_shape t
        rw [hofI] at hcs
        generalize (shapeK t).2.1 = want at *
        generalize (shapeK t).2.2 = own at *
        by_cases hkn : knownB names t.var = true
        · rw [hkn] at hgot
          rw [if_pos hkn] at hkl
          repeat' (first | refine awp_seq ?_ | refine awp_block ?_ | refine awp_round ?_ | refine awp_text rfl ?_ | refine awp_any rfl mix (by kernel_rfl) ?_ | (refine RunTo.unguard rfl rfl (fun hg => ?_) (fun hg => ?_) <;> ((try simp only [Bool.not_true, Bool.not_false, Bool.not_eq_true', Bool.not_eq_false', Bool.not_eq_eq_eq_not] at hg); (first | (cases hg) | (simp only [hg]) | skip))) | ((first | refine RunTo.plain rfl ?_ | refine RunTo.skipped rfl ?_ | refine RunTo.call (hcs) Tryz.func50 rfl rfl rfl rfl rfl rfl rfl rfl ?_); simp only [go_sem, ↓reduceIte, Nat.reduceEqDiff, Nat.reduceAdd, Nat.reduceLeDiff, Nat.reduceBEq, Nat.reduceMul, reduceCtorEq, Int.reduceLE, Int.reduceLT, Int.reduceAdd, Int.reduceSub, Int.reduceNeg, Int.reduceToNat, Int.reduceBEq, hdec, hget, TermD.enc, hw, Nat.sub_le, hsk, hgot]) | ((first | refine RunTo.nil ⟨by kernel_rfl, ?_⟩ | refine RunTo.nil ?_ | refine awp_skip ?_ | refine awp_exit ?_); simp only [go_sem, ↓reduceIte, Nat.reduceEqDiff, Nat.reduceAdd, Nat.reduceLeDiff, Nat.reduceBEq, Nat.reduceMul, reduceCtorEq, Int.reduceLE, Int.reduceLT, Int.reduceAdd, Int.reduceSub, Int.reduceNeg, Int.reduceToNat, Int.reduceBEq, hdec, hget, TermD.enc, hw, Nat.sub_le, hsk, hgot]) | (refine awp_cond' rfl (of_decide_eq_true rfl) (fun hc => ?_) (fun hc => ?_) <;> ((try simp only [Bool.not_true, Bool.not_false, Bool.not_eq_true', Bool.not_eq_false', Bool.not_eq_eq_eq_not] at hc); (first | (cases hc) | (simp only [hc]) | skip))))
          replace hd : deepS (sd.take (sd.length - ofK t) ++ [maxL (sd.drop (sd.length - ofK t)) + 1]) (ts.drop (k + 1)) = some [d] := hd
          have hsdn : sd.length - ofK t = s.length - ofK t := by rw [hsd]
          rw [hsdn] at hd
          clear hsdn hget hcs hgot
          generalize hno : s.length - ofK t = n at *
          have hns : n ≤ s.length := by omega
          generalize ofK t = o at *
          clear hok1 hofI hw hnn hb3
          refine awp_loopw (J3 ts kv k e e6 s own want o n) (s.length - n) (K3 ts kv k _ e e6 s own want o n 0) (weak_keep ⟨rfl, rfl, rfl, rfl, rfl, rfl, rfl, rfl, rfl, rfl, rfl, trivial⟩ ⟨rfl, rfl, trivial⟩ (Nat.le_refl _)) ⟨0, _, Nat.zero_le _, rfl, by rw [List.take_zero]; rfl, rfl⟩ ?_
          rintro m st ⟨j, T', hj, rfl, hall, rfl⟩
          by_cases hjl : j < s.length - n
          · have hdj := lt_t hjl
            have hlen : j < (s.drop n).length := by rw [List.length_drop]; exact hjl
            have hgj : (s.map fun x => [di x])[n + j]? = some [di (s.drop n)[j]] := by
              rw [List.getElem?_map, List.getElem?_eq_getElem (by omega), List.getElem_drop]; rfl
            have htk := all_take (okK want) (s.drop n) j hlen
            have hmem := List.getElem_mem hlen
            generalize (s.drop n)[j] = x at *
            have hwj : IntKind.i64.wrap ((j : Int) + 1) = ((j + 1 : Nat) : Int) := wrap_succ (by omega)
            repeat' (first | refine awp_seq ?_ | refine awp_block ?_ | refine awp_round ?_ | refine awp_text rfl ?_ | refine awp_any rfl mix (by kernel_rfl) ?_ | (refine RunTo.unguard rfl rfl (fun hg => ?_) (fun hg => ?_) <;> ((try simp only [Bool.not_true, Bool.not_false, Bool.not_eq_true', Bool.not_eq_false', Bool.not_eq_eq_eq_not] at hg); (first | (cases hg) | (simp only [hg]) | skip))) | ((first | refine RunTo.plain rfl ?_ | refine RunTo.skipped rfl ?_); simp only [go_sem, ↓reduceIte, Nat.reduceEqDiff, Nat.reduceAdd, Nat.reduceLeDiff, Nat.reduceBEq, Nat.reduceMul, reduceCtorEq, Int.reduceLE, Int.reduceLT, Int.reduceAdd, Int.reduceSub, Int.reduceNeg, Int.reduceToNat, Int.reduceBEq, hdj, ilt hjl, hgj, hwj]) | ((first | refine RunTo.nil ⟨by kernel_rfl, ?_⟩ | refine RunTo.nil ?_ | refine awp_skip ?_ | refine awp_exit ?_); simp only [go_sem, ↓reduceIte, Nat.reduceEqDiff, Nat.reduceAdd, Nat.reduceLeDiff, Nat.reduceBEq, Nat.reduceMul, reduceCtorEq, Int.reduceLE, Int.reduceLT, Int.reduceAdd, Int.reduceSub, Int.reduceNeg, Int.reduceToNat, Int.reduceBEq, hdj, ilt hjl, hgj, hwj]) | (refine awp_cond' rfl (of_decide_eq_true rfl) (fun hc => ?_) (fun hc => ?_) <;> ((try simp only [Bool.not_true, Bool.not_false, Bool.not_eq_true', Bool.not_eq_false', Bool.not_eq_eq_eq_not] at hc); (first | (cases hc) | (simp only [hc]) | skip))))
            all_goals (try simp only [decide_eq_true_eq, decide_eq_false_iff_not, beq_iff_eq, bne_iff_ne, ne_eq, beq_eq_false_iff_ne, bne_eq_false_iff_eq, Bool.and_eq_true, Bool.or_eq_true, Bool.or_eq_false_iff, Bool.and_eq_false_iff] at *)
            all_goals first
              | (have hx : okK want x = true := by simp [okK, *]
                 exact ⟨s.length - n - (j + 1), by omega, K3 ts kv k _ e e6 s own want o n (j + 1), weak_keep ⟨rfl, rfl, rfl, rfl, rfl, rfl, rfl, rfl, rfl, rfl, rfl, trivial⟩ ⟨rfl, rfl, trivial⟩ (Nat.le_refl _), j + 1, _, by omega, rfl, by rw [htk, hall, hx]; rfl, rfl⟩)
              | (have hx : okK want x = false := by simp [okK, *]
                 have hf : (s.drop n).all (okK want) = false := by
                   cases hh : (s.drop n).all (okK want) with
                   | false => rfl
                   | true => have := List.all_eq_true.1 hh x hmem; rw [hx] at this; cases this
                 rw [hf, if_neg (by simp)] at hkl
                 (first | refine awp_ret ?_ | skip); refine ⟨(by first | exact .inl rfl | exact .inr rfl | exact .inr trivial | trivial), ?_⟩; simp only [go_sem, ↓reduceIte, Nat.reduceEqDiff, Nat.reduceAdd, Nat.reduceLeDiff, Nat.reduceBEq, Nat.reduceMul, reduceCtorEq, Int.reduceLE, Int.reduceLT, Int.reduceAdd, Int.reduceSub, Int.reduceNeg, Int.reduceToNat, Int.reduceBEq, retV, resL, resV, sealV, sealC, sealAll, Tryz.f22]
                 rw [hkv0, ← hkl])
          · have hdj := lt_f hjl
            have hjj : (s.drop n).take j = s.drop n := List.take_of_length_le (by rw [List.length_drop]; omega)
            rw [hjj] at hall
            rw [if_pos hall] at hkl
            have hw : IntKind.i64.wrap ((s.length : Int) - (o : Int)) = (n : Int) := by rw [IntWalk.i64_in _ (by omega)]; omega
            have hcap : ((n + 1) * 8 ≤ 140737488355328) = True := eq_true (by omega)
            repeat' (first | refine awp_seq ?_ | refine awp_block ?_ | refine awp_round ?_ | refine awp_text rfl ?_ | refine awp_any rfl mix (by kernel_rfl) ?_ | (refine RunTo.unguard rfl rfl (fun hg => ?_) (fun hg => ?_) <;> ((try simp only [Bool.not_true, Bool.not_false, Bool.not_eq_true', Bool.not_eq_false', Bool.not_eq_eq_eq_not] at hg); (first | (cases hg) | (simp only [hg]) | skip))) | ((first | refine RunTo.plain rfl ?_ | refine RunTo.skipped rfl ?_); simp only [go_sem, ↓reduceIte, Nat.reduceEqDiff, Nat.reduceAdd, Nat.reduceLeDiff, Nat.reduceBEq, Nat.reduceMul, reduceCtorEq, Int.reduceLE, Int.reduceLT, Int.reduceAdd, Int.reduceSub, Int.reduceNeg, Int.reduceToNat, Int.reduceBEq, hdj, hns, hw, List.length_take, List.length_map, Nat.min_eq_left hns, hcap, hwk]) | ((first | refine RunTo.nil ⟨by kernel_rfl, ?_⟩ | refine RunTo.nil ?_ | refine awp_skip ?_ | refine awp_exit ?_); simp only [go_sem, ↓reduceIte, Nat.reduceEqDiff, Nat.reduceAdd, Nat.reduceLeDiff, Nat.reduceBEq, Nat.reduceMul, reduceCtorEq, Int.reduceLE, Int.reduceLT, Int.reduceAdd, Int.reduceSub, Int.reduceNeg, Int.reduceToNat, Int.reduceBEq, hdj, hns, hw, List.length_take, List.length_map, Nat.min_eq_left hns, hcap, hwk]) | (refine awp_cond' rfl (of_decide_eq_true rfl) (fun hc => ?_) (fun hc => ?_) <;> ((try simp only [Bool.not_true, Bool.not_false, Bool.not_eq_true', Bool.not_eq_false', Bool.not_eq_eq_eq_not] at hc); (first | (cases hc) | (simp only [hc]) | skip))))
            have hlen : (s.take n ++ [own]).length = n + 1 := by simp [Nat.min_eq_left hns]
            refine ⟨ts.length - (k + 1), by omega, K2 ts kv (k + 1) _ _ e6 (s.take n ++ [own]), weak_keep ⟨rfl, rfl, rfl, by rw [hlen]; rfl, rfl, trivial⟩ ⟨by rw [List.map_append, List.map_take]; rfl, rfl, trivial⟩ (Nat.le_refl _), k + 1, _, _, _, _, _, by omega, rfl, hd, by simp [hsd], by omega, hkl, rfl⟩
        · have hkn' : knownB names t.var = false := by simpa using hkn
          rw [hkn'] at hgot
          rw [if_neg hkn] at hkl
          repeat' (first | refine awp_seq ?_ | refine awp_block ?_ | refine awp_round ?_ | refine awp_text rfl ?_ | refine awp_any rfl mix (by kernel_rfl) ?_ | (refine RunTo.unguard rfl rfl (fun hg => ?_) (fun hg => ?_) <;> ((try simp only [Bool.not_true, Bool.not_false, Bool.not_eq_true', Bool.not_eq_false', Bool.not_eq_eq_eq_not] at hg); (first | (cases hg) | (simp only [hg]) | skip))) | ((first | refine RunTo.plain rfl ?_ | refine RunTo.skipped rfl ?_); simp only [go_sem, ↓reduceIte, Nat.reduceEqDiff, Nat.reduceAdd, Nat.reduceLeDiff, Nat.reduceBEq, Nat.reduceMul, reduceCtorEq, Int.reduceLE, Int.reduceLT, Int.reduceAdd, Int.reduceSub, Int.reduceNeg, Int.reduceToNat, Int.reduceBEq, hdec, hget, TermD.enc, hw, Nat.sub_le, hsk, hgot]) | ((first | refine RunTo.nil ⟨by kernel_rfl, ?_⟩ | refine RunTo.nil ?_ | refine awp_skip ?_ | refine awp_exit ?_); simp only [go_sem, ↓reduceIte, Nat.reduceEqDiff, Nat.reduceAdd, Nat.reduceLeDiff, Nat.reduceBEq, Nat.reduceMul, reduceCtorEq, Int.reduceLE, Int.reduceLT, Int.reduceAdd, Int.reduceSub, Int.reduceNeg, Int.reduceToNat, Int.reduceBEq, hdec, hget, TermD.enc, hw, Nat.sub_le, hsk, hgot]) | (refine awp_cond' rfl (of_decide_eq_true rfl) (fun hc => ?_) (fun hc => ?_) <;> ((try simp only [Bool.not_true, Bool.not_false, Bool.not_eq_true', Bool.not_eq_false', Bool.not_eq_eq_eq_not] at hc); (first | (cases hc) | (simp only [hc]) | skip))))
          all_goals
            (first | refine awp_ret ?_ | skip); refine ⟨(by first | exact .inl rfl | exact .inr rfl | exact .inr trivial | trivial), ?_⟩; simp only [go_sem, ↓reduceIte, Nat.reduceEqDiff, Nat.reduceAdd, Nat.reduceLeDiff, Nat.reduceBEq, Nat.reduceMul, reduceCtorEq, Int.reduceLE, Int.reduceLT, Int.reduceAdd, Int.reduceSub, Int.reduceNeg, Int.reduceToNat, Int.reduceBEq, retV, resL, resV, sealV, sealC, sealAll, Tryz.f22]
            rw [hkv0, ← hkl]
      · have hdec := lt_f hlt
        have hk' : ts.drop k = [] := List.drop_of_length_le (by omega)
        rw [hk'] at hd hkl
        have hsd1 : sd = [d] := Option.some.inj hd
        match s, hsd, hkl with
        | [x], _, hkl =>
          repeat' (first | refine awp_seq ?_ | refine awp_block ?_ | refine awp_round ?_ | refine awp_text rfl ?_ | refine awp_any rfl mix (by kernel_rfl) ?_ | (refine RunTo.unguard rfl rfl (fun hg => ?_) (fun hg => ?_) <;> ((try simp only [Bool.not_true, Bool.not_false, Bool.not_eq_true', Bool.not_eq_false', Bool.not_eq_eq_eq_not] at hg); (first | (cases hg) | (simp only [hg]) | skip))) | ((first | refine RunTo.plain rfl ?_ | refine RunTo.skipped rfl ?_); simp only [go_sem, ↓reduceIte, Nat.reduceEqDiff, Nat.reduceAdd, Nat.reduceLeDiff, Nat.reduceBEq, Nat.reduceMul, reduceCtorEq, Int.reduceLE, Int.reduceLT, Int.reduceAdd, Int.reduceSub, Int.reduceNeg, Int.reduceToNat, Int.reduceBEq, hdec]) | ((first | refine RunTo.nil ⟨by kernel_rfl, ?_⟩ | refine RunTo.nil ?_ | refine awp_skip ?_ | refine awp_exit ?_); simp only [go_sem, ↓reduceIte, Nat.reduceEqDiff, Nat.reduceAdd, Nat.reduceLeDiff, Nat.reduceBEq, Nat.reduceMul, reduceCtorEq, Int.reduceLE, Int.reduceLT, Int.reduceAdd, Int.reduceSub, Int.reduceNeg, Int.reduceToNat, Int.reduceBEq, hdec]) | (refine awp_cond' rfl (of_decide_eq_true rfl) (fun hc => ?_) (fun hc => ?_) <;> ((try simp only [Bool.not_true, Bool.not_false, Bool.not_eq_true', Bool.not_eq_false', Bool.not_eq_eq_eq_not] at hc); (first | (cases hc) | (simp only [hc]) | skip))))
          all_goals
            (first | refine awp_ret ?_ | skip); refine ⟨(by first | exact .inl rfl | exact .inr rfl | exact .inr trivial | trivial), ?_⟩; simp only [go_sem, ↓reduceIte, Nat.reduceEqDiff, Nat.reduceAdd, Nat.reduceLeDiff, Nat.reduceBEq, Nat.reduceMul, reduceCtorEq, Int.reduceLE, Int.reduceLT, Int.reduceAdd, Int.reduceSub, Int.reduceNeg, Int.reduceToNat, Int.reduceBEq, retV, resL, resV, sealV, sealC, sealAll, Tryz.f22]
            rw [hkv0, ← hkl]
            rfl
        | [], hsd, _ => rw [hsd1] at hsd; cases hsd
        | _ :: _ :: _, hsd, _ => rw [hsd1] at hsd; simp at hsd
end Go.Proofs.YtfeacmadnbajfaaGreatDoor.AM
namespace Go.Proofs.YtfeacmadnbajfaaGreatDoor.AM
open Go.RowKit
set_option linter.unusedSimpArgs false
set_option linter.unusedVariables false
set_option maxRecDepth 10000
set_option maxHeartbeats 0
structure TX where
  op : Int
  var : ByteArray
  name : ByteArray
  v : VX
def TX.row (t : TX) : List Dat := [di t.op, ds' t.var, ds' t.name, di t.v.a.k, di t.v.a.n, df t.v.a.f, ds' t.v.a.s, t.v.d]
def TX.t (t : TX) : TermD := ⟨t.op, t.var, t.name, t.v.v⟩
theorem TX.le (t : TX) : DleL t.row t.t.enc := .cons (.refl _) (.cons (.refl _) (.cons (.refl _) (.cons (.refl _) (.cons (.refl _) (.cons (.refl _) (.cons (.refl _) (.cons t.v.le .nil)))))))
theorem rows_le : ∀ ts : List TX, DleR (ts.map TX.row) ((ts.map TX.t).map TermD.enc)
  | [] => .nil
  | t :: ts => .cons t.le (rows_le ts)
abbrev TwoF := Int → VX → VX → VX × Int
def evalL (two : TwoF) : List VX → List TX → VX × Int
  | s, [] => (s.getLastD zeroX, 0)
  | s, t :: ts => if t.op = 1 then evalL two (s ++ [t.v]) ts else if t.op = 4 then evalL two (s.dropLast ++ [toldX (notX (truthX (s.getLastD zeroX)))]) ts
    else if t.op = 5 then evalL two (s.dropLast ++ [boolX ((s.getLastD zeroX).a.k == 0)]) ts
    else if (two t.op (s.dropLast.getLastD zeroX) (s.getLastD zeroX)).2 = 0 then evalL two (s.dropLast.dropLast ++ [(two t.op (s.dropLast.getLastD zeroX) (s.getLastD zeroX)).1]) ts
    else (zeroX, (two t.op (s.dropLast.getLastD zeroX) (s.getLastD zeroX)).2)
def evalX (two : TwoF) (ts : List TX) : VX × Int := if (kindV [] (ts.map TX.t)).2 = 0 then evalL two [] ts else (zeroX, (kindV [] (ts.map TX.t)).2)
theorem evalL_cons (two : TwoF) (s : List VX) (t : TX) (ts : List TX) : evalL two s (t :: ts) = if t.op = 1 then evalL two (s ++ [t.v]) ts else if t.op = 4 then evalL two (s.dropLast ++ [toldX (notX (truthX (s.getLastD zeroX)))]) ts
    else if t.op = 5 then evalL two (s.dropLast ++ [boolX ((s.getLastD zeroX).a.k == 0)]) ts
    else if (two t.op (s.dropLast.getLastD zeroX) (s.getLastD zeroX)).2 = 0 then evalL two (s.dropLast.dropLast ++ [(two t.op (s.dropLast.getLastD zeroX) (s.getLastD zeroX)).1]) ts
    else (zeroX, (two t.op (s.dropLast.getLastD zeroX) (s.getLastD zeroX)).2) := rfl
abbrev z5 : List AV := [iv 0, iv 0, fv 0, sv eE, .dat nilD]
abbrev SE (ts : List TX) (k T e4 e38 e2 n : Nat) (rows : List (List Dat)) : St := ⟨[(39, .dat (.lst 8 (ts.map TX.row))), (40, iv ts.length), (41, iv k), (10, .ptr 38 e38 0 0), (1, .lit (.map none)), (4, .ptr 4 e4 0 0)], [(38, .box e38 [.slc 2000 e2 0 n]), (2000, .arr e2 5 rows), (4, .box e4 z5)], T⟩
def IE (two : TwoF) (ts : List TX) (d : Int) (m : Nat) (st : St) : Prop := ∃ k T e4 e38 e2 n rows s sd, k ≤ ts.length ∧ m = ts.length - k ∧ deepS sd ((ts.drop k).map TX.t) = some [d] ∧ s.length = sd.length ∧ s.length ≤ k ∧ evalL two s (ts.drop k) = evalL two [] ts ∧ n = s.length ∧ rows = s.map VX.row ∧ st = SE ts k T e4 e38 e2 n rows
theorem kind_ok {ns : List ByteArray} {ts : List TermD} (h : (kindV ns ts).2 = 0) : rightV ts = true := by
  unfold kindV at h
  split at h
  · assumption
  · cases h
theorem c_Eval (two : TwoF) (ts : List TX) (hl : ts.length ≤ 1000000) (hs : ∀ t ∈ ts, smallT t.t) (hok : ∀ t ∈ ts, rightT t.t = true → okT t.t) (h23 : ∀ t ∈ ts, t.op ≠ 2 ∧ t.op ≠ 3)
    (htwo : ∀ t ∈ ts, ¬ t.op ≤ 5 → ∀ a b, Pure Tryz.prog 38 [iv t.op, a.av, b.av] (tupX (two t.op a b))) :
    Pure Tryz.prog 10 [.dat (.lst 8 (ts.map TX.row)), .lit (.map none)] (tupX (evalX two ts)) := by
  have hk := pure_le (c_Kind (ts.map TX.t) [] (by simpa using hl) (by simp) (fun t ht => by obtain ⟨x, hx, rfl⟩ := List.mem_map.1 ht; exact hs x hx) (fun t ht => by obtain ⟨x, hx, rfl⟩ := List.mem_map.1 ht; exact hok x hx)) (.cons (.dat (rows_le ts).dat) (.cons (.dat (.nil 1)) .nil))
  generalize hkv : kindV [] (ts.map TX.t) = kv at hk
  refine pure_of_awp Tryz.func10 rfl rfl (by simp [Tryz.f10]) ?_; simp only [go_sem, ↓reduceIte, Nat.reduceEqDiff, Nat.reduceAdd, Nat.reduceLeDiff, Nat.reduceBEq, Nat.reduceMul, reduceCtorEq, Int.reduceLE, Int.reduceLT, Int.reduceAdd, Int.reduceSub, Int.reduceNeg, Int.reduceToNat, Int.reduceBEq]
  repeat' (first | refine awp_seq ?_ | refine awp_block ?_ | refine awp_round ?_ | refine awp_text rfl ?_ | refine awp_any rfl mix (by kernel_rfl) ?_ | (refine RunTo.unguard rfl rfl (fun hg => ?_) (fun hg => ?_) <;> ((try simp only [Bool.not_true, Bool.not_false, Bool.not_eq_true', Bool.not_eq_false', Bool.not_eq_eq_eq_not] at hg); (first | (cases hg) | (simp only [hg]) | skip))) | ((first | refine RunTo.plain rfl ?_ | refine RunTo.skipped rfl ?_ | refine RunTo.call (c_known) Tryz.func29 rfl rfl rfl rfl rfl rfl rfl rfl ?_ | refine RunTo.call (hk) Tryz.func22 rfl rfl rfl rfl rfl rfl rfl rfl ?_); simp only [go_sem, ↓reduceIte, Nat.reduceEqDiff, Nat.reduceAdd, Nat.reduceLeDiff, Nat.reduceBEq, Nat.reduceMul, reduceCtorEq, Int.reduceLE, Int.reduceLT, Int.reduceAdd, Int.reduceSub, Int.reduceNeg, Int.reduceToNat, Int.reduceBEq, List.length_map]) | ((first | refine RunTo.nil ⟨by kernel_rfl, ?_⟩ | refine RunTo.nil ?_ | refine awp_skip ?_ | refine awp_exit ?_); simp only [go_sem, ↓reduceIte, Nat.reduceEqDiff, Nat.reduceAdd, Nat.reduceLeDiff, Nat.reduceBEq, Nat.reduceMul, reduceCtorEq, Int.reduceLE, Int.reduceLT, Int.reduceAdd, Int.reduceSub, Int.reduceNeg, Int.reduceToNat, Int.reduceBEq, List.length_map]) | (refine awp_cond' rfl (of_decide_eq_true rfl) (fun hc => ?_) (fun hc => ?_) <;> ((try simp only [Bool.not_true, Bool.not_false, Bool.not_eq_true', Bool.not_eq_false', Bool.not_eq_eq_eq_not] at hc); (first | (cases hc) | (simp only [hc]) | skip))))
  · (first | refine awp_ret ?_ | skip); refine ⟨(by first | exact .inl rfl | exact .inr rfl | exact .inr trivial | trivial), ?_⟩; simp only [go_sem, ↓reduceIte, Nat.reduceEqDiff, Nat.reduceAdd, Nat.reduceLeDiff, Nat.reduceBEq, Nat.reduceMul, reduceCtorEq, Int.reduceLE, Int.reduceLT, Int.reduceAdd, Int.reduceSub, Int.reduceNeg, Int.reduceToNat, Int.reduceBEq, retV, resL, resV, sealV, sealC, sealAll, Tryz.f10]
    (try simp only [decide_eq_true_eq, decide_eq_false_iff_not, beq_iff_eq, bne_iff_ne, ne_eq, beq_eq_false_iff_ne, bne_eq_false_iff_eq, Bool.and_eq_true, Bool.or_eq_true, Bool.or_eq_false_iff, Bool.and_eq_false_iff] at *)
    rw [evalX, hkv, if_neg hc]; rfl
  · (try simp only [decide_eq_true_eq, decide_eq_false_iff_not, beq_iff_eq, bne_iff_ne, ne_eq, beq_eq_false_iff_ne, bne_eq_false_iff_eq, Bool.and_eq_true, Bool.or_eq_true, Bool.or_eq_false_iff, Bool.and_eq_false_iff] at *)
    have hev : evalX two ts = evalL two [] ts := by rw [evalX, hkv, if_pos hc]
    have hr := kind_ok (show (kindV [] (ts.map TX.t)).2 = 0 by rw [hkv]; exact hc)
    obtain ⟨hl1, d, hd⟩ := right_deep hr
    rw [List.length_map] at hl1
    clear hk hkv hr
    refine awp_weak (weak_nilbox (b := 38) (j := 0) (s := 2000) (sz := 5) rfl rfl rfl) ?_
    simp only [go_sem, ↓reduceIte, Nat.reduceEqDiff, Nat.reduceAdd, Nat.reduceLeDiff, Nat.reduceBEq, Nat.reduceMul, reduceCtorEq, Int.reduceLE, Int.reduceLT, Int.reduceAdd, Int.reduceSub, Int.reduceNeg, Int.reduceToNat, Int.reduceBEq, List.set_cons_zero]
    refine awp_loopw (IE two ts d) ts.length (SE ts 0 _ _ _ _ _ _) (weak_keep ⟨rfl, rfl, rfl, rfl, rfl, rfl, trivial⟩ ⟨rfl, rfl, rfl, trivial⟩ (Nat.le_refl _)) ⟨0, _, _, _, _, _, _, [], [], Nat.zero_le _, rfl, hd, rfl, Nat.zero_le _, rfl, rfl, rfl, rfl⟩ ?_
    clear hd
    rintro m st ⟨k, T, e4, e38, e2, n, rows, s, sd, hk, rfl, hd, hsd, hsk, hel, hn, hrows, rfl⟩
    have hrl : rows.length = s.length := by rw [hrows, List.length_map]
    by_cases hlt : k < ts.length
    · have hdec := lt_t hlt
      have hget := row_at TX.row ts k hlt
      have hop := h23 _ (List.getElem_mem hlt)
      have htw := htwo _ (List.getElem_mem hlt)
      rw [List.drop_eq_getElem_cons hlt] at hd hel
      have hwk : IntKind.i64.wrap ((k : Int) + 1) = ((k + 1 : Nat) : Int) := wrap_succ (by omega)
      generalize ts[k] = t at *
      rw [List.map_cons, deepS_cons] at hd
      rw [evalL_cons] at hel
      by_cases hbad : t.t.op ≤ 0 ∨ 16 ≤ t.t.op ∨ sd.length < ofN t.t.op
      · rw [stepD, if_pos hbad] at hd; cases hd
      rw [stepD, if_neg hbad] at hd
      simp only [not_or] at hbad
      obtain ⟨hb1, hb2, hb3⟩ := hbad
      have hto : t.t.op = t.op := rfl
      rw [hto] at hb1 hb2 hb3 hd
      replace hd : deepS (sd.take (sd.length - ofN t.op) ++ [maxL (sd.drop (sd.length - ofN t.op)) + 1]) ((ts.drop (k + 1)).map TX.t) = some [d] := hd
      obtain ⟨hop2, hop3⟩ := hop
      have hz2 : (t.op == 2) = false := by simpa using hop2
      have hz3 : (t.op == 3) = false := by simpa using hop3
      by_cases h1 : t.op = 1
      · have hz1 : (t.op == 1) = true := by simpa using h1
        rw [if_pos h1] at hel
        have ho : ofN t.op = 0 := by rw [h1]; rfl
        have hp := c_push rows n t.v (by omega) (by omega)
        rw [List.take_of_length_le (by omega), hrows] at hp
        subst hn hrows
        repeat' (first | refine awp_seq ?_ | refine awp_block ?_ | refine awp_round ?_ | refine awp_text rfl ?_ | refine awp_any rfl mix (by kernel_rfl) ?_ | (refine RunTo.unguard rfl rfl (fun hg => ?_) (fun hg => ?_) <;> ((try simp only [Bool.not_true, Bool.not_false, Bool.not_eq_true', Bool.not_eq_false', Bool.not_eq_eq_eq_not] at hg); (first | (cases hg) | (simp only [hg]) | skip))) | ((first | refine RunTo.plain rfl ?_ | refine RunTo.skipped rfl ?_); simp only [go_sem, ↓reduceIte, Nat.reduceEqDiff, Nat.reduceAdd, Nat.reduceLeDiff, Nat.reduceBEq, Nat.reduceMul, reduceCtorEq, Int.reduceLE, Int.reduceLT, Int.reduceAdd, Int.reduceSub, Int.reduceNeg, Int.reduceToNat, Int.reduceBEq, hdec, hget, TX.row, hwk, hz1, ↓VX.cb, VX.av]) | (refine RunTo.actsE (hp) Tryz.func30 rfl rfl rfl rfl rfl rfl ?_; simp only [go_sem, ↓reduceIte, Nat.reduceEqDiff, Nat.reduceAdd, Nat.reduceLeDiff, Nat.reduceBEq, Nat.reduceMul, reduceCtorEq, Int.reduceLE, Int.reduceLT, Int.reduceAdd, Int.reduceSub, Int.reduceNeg, Int.reduceToNat, Int.reduceBEq, hdec, hget, TX.row, hwk, hz1, ↓VX.cb, VX.av]; (repeat' refine And.intro rfl ?_); with_reducible refine RunTo.this ?_) | ((first | refine RunTo.nil ⟨by kernel_rfl, ?_⟩ | refine RunTo.nil ?_ | refine awp_skip ?_ | refine awp_exit ?_); simp only [go_sem, ↓reduceIte, Nat.reduceEqDiff, Nat.reduceAdd, Nat.reduceLeDiff, Nat.reduceBEq, Nat.reduceMul, reduceCtorEq, Int.reduceLE, Int.reduceLT, Int.reduceAdd, Int.reduceSub, Int.reduceNeg, Int.reduceToNat, Int.reduceBEq, hdec, hget, TX.row, hwk, hz1, ↓VX.cb, VX.av]) | (refine awp_cond' rfl (of_decide_eq_true rfl) (fun hc => ?_) (fun hc => ?_) <;> ((try simp only [Bool.not_true, Bool.not_false, Bool.not_eq_true', Bool.not_eq_false', Bool.not_eq_eq_eq_not] at hc); (first | (cases hc) | (simp only [hc]) | skip))))
        exact ⟨ts.length - (k + 1), by omega, SE ts (k + 1) _ e4 e38 _ (s.length + 1) (s.map VX.row ++ [t.v.row]), weak_keep ⟨rfl, rfl, rfl, rfl, rfl, rfl, trivial⟩ ⟨rfl, rfl, rfl, trivial⟩ (Nat.le_refl _), k + 1, _, _, _, _, _, _, s ++ [t.v], _, by omega, rfl, hd, by simp [ho, hsd], by simp; omega, hel, by simp, by simp, rfl⟩
      · have hz1 : (t.op == 1) = false := by simpa using h1
        rw [if_neg h1] at hel
        by_cases h45 : t.op = 4 ∨ t.op = 5
        · have ho : ofN t.op = 1 := by rcases h45 with h | h <;> rw [h] <;> rfl
          rcases List.eq_nil_or_concat s with hnil | ⟨p, x, hps⟩
          · subst hnil; simp at hsd; omega
          rw [List.concat_eq_append] at hps
          subst hps
          have hn' : n = p.length + 1 := by rw [hn]; simp
          subst hn'
          have hr1 : rows[p.length]? = some x.row := by rw [hrows]; simp
          have hr2 : rows.take p.length = p.map VX.row := by rw [hrows]; simp
          have hpl : p.length + 1 = sd.length := by simpa using hsd
          have hpk : p.length + 1 ≤ k := by simpa using hsk
          have hrl2 : rows.length = p.length + 1 := by rw [hrl]; simp
          have hpop := c_pop rows p.length x hr1 (by omega)
          simp only [List.dropLast_concat, List.getLastD_concat] at hel
          have hsum : (p.length + 1 : Nat) = (sd.take (sd.length - ofN t.op) ++ [maxL (sd.drop (sd.length - ofN t.op)) + 1]).length := by rw [List.length_append, List.length_take, ho]; simp; omega
          clear hn hrows
          rcases h45 with h4 | h5
          · have hz4 : (t.op == 4) = true := by simpa using h4
            rw [if_pos h4] at hel
            have hp := c_push rows p.length (toldX (notX (truthX x))) (by omega) (by omega)
            rw [hr2] at hp
            repeat' (first | refine awp_seq ?_ | refine awp_block ?_ | refine awp_round ?_ | refine awp_text rfl ?_ | refine awp_any rfl mix (by kernel_rfl) ?_ | (refine RunTo.unguard rfl rfl (fun hg => ?_) (fun hg => ?_) <;> ((try simp only [Bool.not_true, Bool.not_false, Bool.not_eq_true', Bool.not_eq_false', Bool.not_eq_eq_eq_not] at hg); (first | (cases hg) | (simp only [hg]) | skip))) | ((first | refine RunTo.plain rfl ?_ | refine RunTo.skipped rfl ?_ | refine RunTo.call (c_truth x) Tryz.func35 rfl rfl rfl rfl rfl rfl rfl rfl ?_ | refine RunTo.call (c_not (truthX x)) Tryz.func34 rfl rfl rfl rfl rfl rfl rfl rfl ?_ | refine RunTo.call (c_told (notX (truthX x))) Tryz.func33 rfl rfl rfl rfl rfl rfl rfl rfl ?_); simp only [go_sem, ↓reduceIte, Nat.reduceEqDiff, Nat.reduceAdd, Nat.reduceLeDiff, Nat.reduceBEq, Nat.reduceMul, reduceCtorEq, Int.reduceLE, Int.reduceLT, Int.reduceAdd, Int.reduceSub, Int.reduceNeg, Int.reduceToNat, Int.reduceBEq, hdec, hget, TX.row, hwk, hz1, hz2, hz3, hz4, ↓VX.cb, VX.av]) | (refine RunTo.actsE (hpop) Tryz.func36 rfl rfl rfl rfl rfl rfl ?_; simp only [go_sem, ↓reduceIte, Nat.reduceEqDiff, Nat.reduceAdd, Nat.reduceLeDiff, Nat.reduceBEq, Nat.reduceMul, reduceCtorEq, Int.reduceLE, Int.reduceLT, Int.reduceAdd, Int.reduceSub, Int.reduceNeg, Int.reduceToNat, Int.reduceBEq, hdec, hget, TX.row, hwk, hz1, hz2, hz3, hz4, ↓VX.cb, VX.av]; (repeat' refine And.intro rfl ?_); with_reducible refine RunTo.this ?_) | (refine RunTo.actsE (hp) Tryz.func30 rfl rfl rfl rfl rfl rfl ?_; simp only [go_sem, ↓reduceIte, Nat.reduceEqDiff, Nat.reduceAdd, Nat.reduceLeDiff, Nat.reduceBEq, Nat.reduceMul, reduceCtorEq, Int.reduceLE, Int.reduceLT, Int.reduceAdd, Int.reduceSub, Int.reduceNeg, Int.reduceToNat, Int.reduceBEq, hdec, hget, TX.row, hwk, hz1, hz2, hz3, hz4, ↓VX.cb, VX.av]; (repeat' refine And.intro rfl ?_); with_reducible refine RunTo.this ?_) | ((first | refine RunTo.nil ⟨by kernel_rfl, ?_⟩ | refine RunTo.nil ?_ | refine awp_skip ?_ | refine awp_exit ?_); simp only [go_sem, ↓reduceIte, Nat.reduceEqDiff, Nat.reduceAdd, Nat.reduceLeDiff, Nat.reduceBEq, Nat.reduceMul, reduceCtorEq, Int.reduceLE, Int.reduceLT, Int.reduceAdd, Int.reduceSub, Int.reduceNeg, Int.reduceToNat, Int.reduceBEq, hdec, hget, TX.row, hwk, hz1, hz2, hz3, hz4, ↓VX.cb, VX.av]) | (refine awp_cond' rfl (of_decide_eq_true rfl) (fun hc => ?_) (fun hc => ?_) <;> ((try simp only [Bool.not_true, Bool.not_false, Bool.not_eq_true', Bool.not_eq_false', Bool.not_eq_eq_eq_not] at hc); (first | (cases hc) | (simp only [hc]) | skip))))
            exact ⟨ts.length - (k + 1), by omega, SE ts (k + 1) _ e4 e38 _ (p.length + 1) (p.map VX.row ++ [(toldX (notX (truthX x))).row]), weak_keep ⟨rfl, rfl, rfl, rfl, rfl, rfl, trivial⟩ ⟨rfl, rfl, rfl, trivial⟩ (Nat.le_refl _), k + 1, _, _, _, _, _, _, p ++ [toldX (notX (truthX x))], _, by omega, rfl, hd, by rw [← hsum]; simp, by simp; omega, hel, by simp, by simp, rfl⟩
          · have hz4 : (t.op == 4) = false := by simp; omega
            have hz5 : (t.op == 5) = true := by simpa using h5
            rw [if_neg (by omega), if_pos h5] at hel
            have hp := c_push rows p.length (boolX (x.a.k == 0)) (by omega) (by omega)
            rw [hr2] at hp
            repeat' (first | refine awp_seq ?_ | refine awp_block ?_ | refine awp_round ?_ | refine awp_text rfl ?_ | refine awp_any rfl mix (by kernel_rfl) ?_ | (refine RunTo.unguard rfl rfl (fun hg => ?_) (fun hg => ?_) <;> ((try simp only [Bool.not_true, Bool.not_false, Bool.not_eq_true', Bool.not_eq_false', Bool.not_eq_eq_eq_not] at hg); (first | (cases hg) | (simp only [hg]) | skip))) | ((first | refine RunTo.plain rfl ?_ | refine RunTo.skipped rfl ?_ | refine RunTo.call (c_OfBool (x.a.k == 0)) Tryz.func37 rfl rfl rfl rfl rfl rfl rfl rfl ?_); simp only [go_sem, ↓reduceIte, Nat.reduceEqDiff, Nat.reduceAdd, Nat.reduceLeDiff, Nat.reduceBEq, Nat.reduceMul, reduceCtorEq, Int.reduceLE, Int.reduceLT, Int.reduceAdd, Int.reduceSub, Int.reduceNeg, Int.reduceToNat, Int.reduceBEq, hdec, hget, TX.row, hwk, hz1, hz2, hz3, hz4, hz5, ↓VX.cb, VX.av]) | (refine RunTo.actsE (hpop) Tryz.func36 rfl rfl rfl rfl rfl rfl ?_; simp only [go_sem, ↓reduceIte, Nat.reduceEqDiff, Nat.reduceAdd, Nat.reduceLeDiff, Nat.reduceBEq, Nat.reduceMul, reduceCtorEq, Int.reduceLE, Int.reduceLT, Int.reduceAdd, Int.reduceSub, Int.reduceNeg, Int.reduceToNat, Int.reduceBEq, hdec, hget, TX.row, hwk, hz1, hz2, hz3, hz4, hz5, ↓VX.cb, VX.av]; (repeat' refine And.intro rfl ?_); with_reducible refine RunTo.this ?_) | (refine RunTo.actsE (hp) Tryz.func30 rfl rfl rfl rfl rfl rfl ?_; simp only [go_sem, ↓reduceIte, Nat.reduceEqDiff, Nat.reduceAdd, Nat.reduceLeDiff, Nat.reduceBEq, Nat.reduceMul, reduceCtorEq, Int.reduceLE, Int.reduceLT, Int.reduceAdd, Int.reduceSub, Int.reduceNeg, Int.reduceToNat, Int.reduceBEq, hdec, hget, TX.row, hwk, hz1, hz2, hz3, hz4, hz5, ↓VX.cb, VX.av]; (repeat' refine And.intro rfl ?_); with_reducible refine RunTo.this ?_) | ((first | refine RunTo.nil ⟨by kernel_rfl, ?_⟩ | refine RunTo.nil ?_ | refine awp_skip ?_ | refine awp_exit ?_); simp only [go_sem, ↓reduceIte, Nat.reduceEqDiff, Nat.reduceAdd, Nat.reduceLeDiff, Nat.reduceBEq, Nat.reduceMul, reduceCtorEq, Int.reduceLE, Int.reduceLT, Int.reduceAdd, Int.reduceSub, Int.reduceNeg, Int.reduceToNat, Int.reduceBEq, hdec, hget, TX.row, hwk, hz1, hz2, hz3, hz4, hz5, ↓VX.cb, VX.av]) | (refine awp_cond' rfl (of_decide_eq_true rfl) (fun hc => ?_) (fun hc => ?_) <;> ((try simp only [Bool.not_true, Bool.not_false, Bool.not_eq_true', Bool.not_eq_false', Bool.not_eq_eq_eq_not] at hc); (first | (cases hc) | (simp only [hc]) | skip))))
            exact ⟨ts.length - (k + 1), by omega, SE ts (k + 1) _ e4 e38 _ (p.length + 1) (p.map VX.row ++ [(boolX (x.a.k == 0)).row]), weak_keep ⟨rfl, rfl, rfl, rfl, rfl, rfl, trivial⟩ ⟨rfl, rfl, rfl, trivial⟩ (Nat.le_refl _), k + 1, _, _, _, _, _, _, p ++ [boolX (x.a.k == 0)], _, by omega, rfl, hd, by rw [← hsum]; simp, by simp; omega, hel, by simp, by simp, rfl⟩
        · have h4 : ¬ t.op = 4 := fun h => h45 (.inl h)
          have h5 : ¬ t.op = 5 := fun h => h45 (.inr h)
          have hz4 : (t.op == 4) = false := by simpa using h4
          have hz5 : (t.op == 5) = false := by simpa using h5
          rw [if_neg h4, if_neg h5] at hel
          have ho : ofN t.op = 2 := by unfold ofN; rw [if_neg (by omega), if_neg (by omega)]
          have htw2 := htw (by omega)
          rcases List.eq_nil_or_concat s with hnil | ⟨q, b, hps⟩
          · subst hnil; simp at hsd; omega
          rw [List.concat_eq_append] at hps
          subst hps
          rcases List.eq_nil_or_concat q with hnil | ⟨p, a, hps⟩
          · subst hnil; simp at hsd; omega
          rw [List.concat_eq_append] at hps
          subst hps
          have hn' : n = p.length + 1 + 1 := by rw [hn]; simp
          subst hn'
          have hr1 : rows[p.length + 1]? = some b.row := by rw [hrows]; simp
          have hr1' : rows[p.length]? = some a.row := by rw [hrows]; simp
          have hr2 : rows.take p.length = p.map VX.row := by rw [hrows]; simp
          have hpl : p.length + 1 + 1 = sd.length := by simpa using hsd
          have hpk : p.length + 1 + 1 ≤ k := by simpa using hsk
          have hrl2 : rows.length = p.length + 1 + 1 := by rw [hrl]; simp
          have pop1 := c_pop rows (p.length + 1) b hr1 (by omega)
          have pop2 := c_pop rows p.length a hr1' (by omega)
          simp only [List.dropLast_concat, List.getLastD_concat] at hel
          have hsum : (p.length + 1 : Nat) = (sd.take (sd.length - ofN t.op) ++ [maxL (sd.drop (sd.length - ofN t.op)) + 1]).length := by rw [List.length_append, List.length_take, ho]; simp; omega
          clear hn hrows
          have hp := c_push rows p.length (two t.op a b).1 (by omega) (by omega)
          rw [hr2] at hp
          have ht2 := htw2 a b
          generalize hr : two t.op a b = r at *
          repeat' (first | refine awp_seq ?_ | refine awp_block ?_ | refine awp_round ?_ | refine awp_text rfl ?_ | refine awp_any rfl mix (by kernel_rfl) ?_ | (refine RunTo.unguard rfl rfl (fun hg => ?_) (fun hg => ?_) <;> ((try simp only [Bool.not_true, Bool.not_false, Bool.not_eq_true', Bool.not_eq_false', Bool.not_eq_eq_eq_not] at hg); (first | (cases hg) | (simp only [hg]) | skip))) | ((first | refine RunTo.plain rfl ?_ | refine RunTo.skipped rfl ?_ | refine RunTo.call (ht2) Tryz.func38 rfl rfl rfl rfl rfl rfl rfl rfl ?_); simp only [go_sem, ↓reduceIte, Nat.reduceEqDiff, Nat.reduceAdd, Nat.reduceLeDiff, Nat.reduceBEq, Nat.reduceMul, reduceCtorEq, Int.reduceLE, Int.reduceLT, Int.reduceAdd, Int.reduceSub, Int.reduceNeg, Int.reduceToNat, Int.reduceBEq, hdec, hget, TX.row, hwk, hz1, hz2, hz3, hz4, hz5, ↓VX.cb, VX.av]) | (refine RunTo.actsE (pop1) Tryz.func36 rfl rfl rfl rfl rfl rfl ?_; simp only [go_sem, ↓reduceIte, Nat.reduceEqDiff, Nat.reduceAdd, Nat.reduceLeDiff, Nat.reduceBEq, Nat.reduceMul, reduceCtorEq, Int.reduceLE, Int.reduceLT, Int.reduceAdd, Int.reduceSub, Int.reduceNeg, Int.reduceToNat, Int.reduceBEq, hdec, hget, TX.row, hwk, hz1, hz2, hz3, hz4, hz5, ↓VX.cb, VX.av]; (repeat' refine And.intro rfl ?_); with_reducible refine RunTo.this ?_) | (refine RunTo.actsE (pop2) Tryz.func36 rfl rfl rfl rfl rfl rfl ?_; simp only [go_sem, ↓reduceIte, Nat.reduceEqDiff, Nat.reduceAdd, Nat.reduceLeDiff, Nat.reduceBEq, Nat.reduceMul, reduceCtorEq, Int.reduceLE, Int.reduceLT, Int.reduceAdd, Int.reduceSub, Int.reduceNeg, Int.reduceToNat, Int.reduceBEq, hdec, hget, TX.row, hwk, hz1, hz2, hz3, hz4, hz5, ↓VX.cb, VX.av]; (repeat' refine And.intro rfl ?_); with_reducible refine RunTo.this ?_) | (refine RunTo.actsE (hp) Tryz.func30 rfl rfl rfl rfl rfl rfl ?_; simp only [go_sem, ↓reduceIte, Nat.reduceEqDiff, Nat.reduceAdd, Nat.reduceLeDiff, Nat.reduceBEq, Nat.reduceMul, reduceCtorEq, Int.reduceLE, Int.reduceLT, Int.reduceAdd, Int.reduceSub, Int.reduceNeg, Int.reduceToNat, Int.reduceBEq, hdec, hget, TX.row, hwk, hz1, hz2, hz3, hz4, hz5, ↓VX.cb, VX.av]; (repeat' refine And.intro rfl ?_); with_reducible refine RunTo.this ?_) | ((first | refine RunTo.nil ⟨by kernel_rfl, ?_⟩ | refine RunTo.nil ?_ | refine awp_skip ?_ | refine awp_exit ?_); simp only [go_sem, ↓reduceIte, Nat.reduceEqDiff, Nat.reduceAdd, Nat.reduceLeDiff, Nat.reduceBEq, Nat.reduceMul, reduceCtorEq, Int.reduceLE, Int.reduceLT, Int.reduceAdd, Int.reduceSub, Int.reduceNeg, Int.reduceToNat, Int.reduceBEq, hdec, hget, TX.row, hwk, hz1, hz2, hz3, hz4, hz5, ↓VX.cb, VX.av]) | (refine awp_cond' rfl (of_decide_eq_true rfl) (fun hc => ?_) (fun hc => ?_) <;> ((try simp only [Bool.not_true, Bool.not_false, Bool.not_eq_true', Bool.not_eq_false', Bool.not_eq_eq_eq_not] at hc); (first | (cases hc) | (simp only [hc]) | skip))))
          · (try simp only [decide_eq_true_eq, decide_eq_false_iff_not, beq_iff_eq, bne_iff_ne, ne_eq, beq_eq_false_iff_ne, bne_eq_false_iff_eq, Bool.and_eq_true, Bool.or_eq_true, Bool.or_eq_false_iff, Bool.and_eq_false_iff] at *)
            rw [if_neg (by assumption)] at hel
            (first | refine awp_ret ?_ | skip); refine ⟨(by first | exact .inl rfl | exact .inr rfl | exact .inr trivial | trivial), ?_⟩; simp only [go_sem, ↓reduceIte, Nat.reduceEqDiff, Nat.reduceAdd, Nat.reduceLeDiff, Nat.reduceBEq, Nat.reduceMul, reduceCtorEq, Int.reduceLE, Int.reduceLT, Int.reduceAdd, Int.reduceSub, Int.reduceNeg, Int.reduceToNat, Int.reduceBEq, retV, resL, resV, sealV, sealC, sealAll, Tryz.f10]
            rw [hev, ← hel]; rfl
          · (try simp only [decide_eq_true_eq, decide_eq_false_iff_not, beq_iff_eq, bne_iff_ne, ne_eq, beq_eq_false_iff_ne, bne_eq_false_iff_eq, Bool.and_eq_true, Bool.or_eq_true, Bool.or_eq_false_iff, Bool.and_eq_false_iff] at *)
            rw [if_pos (by assumption)] at hel
            exact ⟨ts.length - (k + 1), by omega, SE ts (k + 1) _ e4 e38 _ (p.length + 1) (p.map VX.row ++ [r.1.row]), weak_keep ⟨rfl, rfl, rfl, rfl, rfl, rfl, trivial⟩ ⟨rfl, rfl, rfl, trivial⟩ (Nat.le_refl _), k + 1, _, _, _, _, _, _, p ++ [r.1], _, by omega, rfl, hd, by rw [← hsum]; simp, by simp; omega, hel, by simp, by simp, rfl⟩
    · have hdec := lt_f hlt
      have hk' : ts.drop k = [] := List.drop_of_length_le (by omega)
      rw [hk'] at hd hel
      have hsd1 : sd = [d] := Option.some.inj hd
      match s, hsd, hel with
      | [x], _, hel =>
        have hp := c_pop rows 0 x (by rw [hrows]; rfl) (by omega)
        obtain rfl : n = 0 + 1 := hn
        repeat' (first | refine awp_seq ?_ | refine awp_block ?_ | refine awp_round ?_ | refine awp_text rfl ?_ | refine awp_any rfl mix (by kernel_rfl) ?_ | (refine RunTo.unguard rfl rfl (fun hg => ?_) (fun hg => ?_) <;> ((try simp only [Bool.not_true, Bool.not_false, Bool.not_eq_true', Bool.not_eq_false', Bool.not_eq_eq_eq_not] at hg); (first | (cases hg) | (simp only [hg]) | skip))) | ((first | refine RunTo.plain rfl ?_ | refine RunTo.skipped rfl ?_); simp only [go_sem, ↓reduceIte, Nat.reduceEqDiff, Nat.reduceAdd, Nat.reduceLeDiff, Nat.reduceBEq, Nat.reduceMul, reduceCtorEq, Int.reduceLE, Int.reduceLT, Int.reduceAdd, Int.reduceSub, Int.reduceNeg, Int.reduceToNat, Int.reduceBEq, hdec, ↓VX.cb, VX.av]) | (refine RunTo.actsE (hp) Tryz.func36 rfl rfl rfl rfl rfl rfl ?_; simp only [go_sem, ↓reduceIte, Nat.reduceEqDiff, Nat.reduceAdd, Nat.reduceLeDiff, Nat.reduceBEq, Nat.reduceMul, reduceCtorEq, Int.reduceLE, Int.reduceLT, Int.reduceAdd, Int.reduceSub, Int.reduceNeg, Int.reduceToNat, Int.reduceBEq, hdec, ↓VX.cb, VX.av]; (repeat' refine And.intro rfl ?_); with_reducible refine RunTo.this ?_) | ((first | refine RunTo.nil ⟨by kernel_rfl, ?_⟩ | refine RunTo.nil ?_ | refine awp_skip ?_ | refine awp_exit ?_); simp only [go_sem, ↓reduceIte, Nat.reduceEqDiff, Nat.reduceAdd, Nat.reduceLeDiff, Nat.reduceBEq, Nat.reduceMul, reduceCtorEq, Int.reduceLE, Int.reduceLT, Int.reduceAdd, Int.reduceSub, Int.reduceNeg, Int.reduceToNat, Int.reduceBEq, hdec, ↓VX.cb, VX.av]) | (refine awp_cond' rfl (of_decide_eq_true rfl) (fun hc => ?_) (fun hc => ?_) <;> ((try simp only [Bool.not_true, Bool.not_false, Bool.not_eq_true', Bool.not_eq_false', Bool.not_eq_eq_eq_not] at hc); (first | (cases hc) | (simp only [hc]) | skip))))
        all_goals
          (first | refine awp_ret ?_ | skip); refine ⟨(by first | exact .inl rfl | exact .inr rfl | exact .inr trivial | trivial), ?_⟩; simp only [go_sem, ↓reduceIte, Nat.reduceEqDiff, Nat.reduceAdd, Nat.reduceLeDiff, Nat.reduceBEq, Nat.reduceMul, reduceCtorEq, Int.reduceLE, Int.reduceLT, Int.reduceAdd, Int.reduceSub, Int.reduceNeg, Int.reduceToNat, Int.reduceBEq, retV, resL, resV, sealV, sealC, sealAll, Tryz.f10]
          rw [hev, ← hel]; rfl
      | [], hsd, _ => rw [hsd1] at hsd; cases hsd
      | _ :: _ :: _, hsd, _ => rw [hsd1] at hsd; simp at hsd
def holdsX (two : TwoF) (ts : List TX) : Bool × Int := if ts.length = 0 then (true, 0) else ((evalX two ts).2 == 0 && truthX (evalX two ts).1 == 1, (evalX two ts).2)
theorem c_Holds (two : TwoF) (ts : List TX) (hl : ts.length ≤ 1000000) (hev : Pure Tryz.prog 10 [.dat (.lst 8 (ts.map TX.row)), .lit (.map none)] (tupX (evalX two ts))) :
    Pure Tryz.prog 11 [.dat (.lst 8 (ts.map TX.row)), .lit (.map none)] (.tup [bv (holdsX two ts).1, iv (holdsX two ts).2]) := by
  unfold holdsX
  generalize evalX two ts = r at *
  refine pure_of_awp Tryz.func11 rfl rfl (by simp [Tryz.f11]) ?_; simp only [go_sem, ↓reduceIte, Nat.reduceEqDiff, Nat.reduceAdd, Nat.reduceLeDiff, Nat.reduceBEq, Nat.reduceMul, reduceCtorEq, Int.reduceLE, Int.reduceLT, Int.reduceAdd, Int.reduceSub, Int.reduceNeg, Int.reduceToNat, Int.reduceBEq]
  repeat' (first | refine awp_seq ?_ | refine awp_block ?_ | refine awp_round ?_ | refine awp_text rfl ?_ | refine awp_any rfl mix (by kernel_rfl) ?_ | (refine RunTo.unguard rfl rfl (fun hg => ?_) (fun hg => ?_) <;> ((try simp only [Bool.not_true, Bool.not_false, Bool.not_eq_true', Bool.not_eq_false', Bool.not_eq_eq_eq_not] at hg); (first | (cases hg) | (simp only [hg]) | skip))) | ((first | refine RunTo.plain rfl ?_ | refine RunTo.skipped rfl ?_ | refine RunTo.call (hev) Tryz.func10 rfl rfl rfl rfl rfl rfl rfl rfl ?_ | refine RunTo.call (c_truth r.1) Tryz.func35 rfl rfl rfl rfl rfl rfl rfl rfl ?_); simp only [go_sem, ↓reduceIte, Nat.reduceEqDiff, Nat.reduceAdd, Nat.reduceLeDiff, Nat.reduceBEq, Nat.reduceMul, reduceCtorEq, Int.reduceLE, Int.reduceLT, Int.reduceAdd, Int.reduceSub, Int.reduceNeg, Int.reduceToNat, Int.reduceBEq, List.length_map, ↓VX.cb, VX.av]) | ((first | refine RunTo.nil ⟨by kernel_rfl, ?_⟩ | refine RunTo.nil ?_ | refine awp_skip ?_ | refine awp_exit ?_); simp only [go_sem, ↓reduceIte, Nat.reduceEqDiff, Nat.reduceAdd, Nat.reduceLeDiff, Nat.reduceBEq, Nat.reduceMul, reduceCtorEq, Int.reduceLE, Int.reduceLT, Int.reduceAdd, Int.reduceSub, Int.reduceNeg, Int.reduceToNat, Int.reduceBEq, List.length_map, ↓VX.cb, VX.av]) | (refine awp_cond' rfl (of_decide_eq_true rfl) (fun hc => ?_) (fun hc => ?_) <;> ((try simp only [Bool.not_true, Bool.not_false, Bool.not_eq_true', Bool.not_eq_false', Bool.not_eq_eq_eq_not] at hc); (first | (cases hc) | (simp only [hc]) | skip))))
  all_goals
    (first | refine awp_ret ?_ | skip); refine ⟨(by first | exact .inl rfl | exact .inr rfl | exact .inr trivial | trivial), ?_⟩; simp only [go_sem, ↓reduceIte, Nat.reduceEqDiff, Nat.reduceAdd, Nat.reduceLeDiff, Nat.reduceBEq, Nat.reduceMul, reduceCtorEq, Int.reduceLE, Int.reduceLT, Int.reduceAdd, Int.reduceSub, Int.reduceNeg, Int.reduceToNat, Int.reduceBEq, retV, resL, resV, sealV, sealC, sealAll, Tryz.f11]
    (try simp only [decide_eq_true_eq, decide_eq_false_iff_not, beq_iff_eq, bne_iff_ne, ne_eq, beq_eq_false_iff_ne, bne_eq_false_iff_eq, Bool.and_eq_true, Bool.or_eq_true, Bool.or_eq_false_iff, Bool.and_eq_false_iff] at *)
    first
    | (rw [if_pos (by omega)]; done)
    | (rw [if_neg (by omega)]; done)
    | (rw [if_neg (by omega)]; simp [*]; done)
end Go.Proofs.YtfeacmadnbajfaaGreatDoor.AM
namespace Go.Proofs.YtfeacmadnbajfaaGreatDoor.AM
open Go.RowKit
set_option linter.unusedSimpArgs false
set_option linter.unusedVariables false
set_option maxRecDepth 10000
set_option maxHeartbeats 0
theorem printA_small (a : AtomD) (hn : i64B a.n) (hs : a.s.size ≤ 300) : (printA a).size ≤ 2000 := by
  have hq := quoteS_size a.s
  have hi := Lib.itoa_length_le a.n hn.1 hn.2
  unfold printA
  split
  · cases (a.n == 1) <;> decide
  · split
    · simp only [ByteArray.size, List.size_toArray]; omega
    · split
      · rw [ByteArray.size_append, hexS_size]; show 2 + 16 ≤ _; omega
      · split
        · omega
        · split
          · rw [ByteArray.size_append]; show 1 + _ ≤ _; omega
          · show 4 ≤ _; omega
abbrev litT (v : ValD) : TermD := ⟨1, eE, eE, v⟩
abbrev opT (n : Int) : TermD := ⟨n, eE, eE, ⟨⟨0, 0, 0, eE⟩, []⟩⟩
theorem noName : isName eE = false := by decide +kernel
theorem lit_rightT (v : ValD) (hp : plainV v = true) : rightT (litT v) = true := by
  unfold rightT
  simp [noName, hp]
theorem lit_fine (v : ValD) (hp : plainV v = true) : fineV [litT v] = true := by
  have h1 : deepV [litT v] = 1 := rfl
  unfold fineV termsV
  rw [h1, List.all_cons, List.all_nil, lit_rightT v hp]
  rfl
theorem lit_right (v : ValD) (hp : plainV v = true) (hs : v.a.s.size ≤ 300) (hn : i64B v.a.n) : rightQ (padT (litT v)) = true := by
  have h1 : deepV [litT v] = 1 := rfl
  have hpad : padT (litT v) = [litT v] := by unfold padT; rw [h1]; rfl
  have hf := lit_fine v hp
  rw [hpad]
  unfold rightQ
  rw [hf, Bool.true_and, decide_eq_true_eq]
  have ht : textS [litT v] = printV1 v := rfl
  have hv : validV v = true := by
    simp only [plainV, Bool.and_eq_true] at hp
    exact hp.1
  have hsz := printA_small v.a hn hs
  rw [printQ, if_pos hf]
  unfold outQ
  rw [ht, printV1, if_pos hv]
  have e1 : (⟨#[109, 97, 116, 99, 104, 32]⟩ : ByteArray).size = 6 := rfl
  have e2 : (⟨#[40, 41]⟩ : ByteArray).size = 2 := rfl
  have e3 : (⟨#[32, 119, 104, 101, 114, 101, 32]⟩ : ByteArray).size = 7 := rfl
  have e4 : (⟨#[32, 114, 101, 116, 117, 114, 110, 32]⟩ : ByteArray).size = 8 := rfl
  have e5 : (⟨#[99, 111, 117, 110, 116, 40, 42, 41]⟩ : ByteArray).size = 8 := rfl
  simp only [ByteArray.size_append, e1, e2, e3, e4, e5]
  omega
theorem op_right (n : Int) (h1 : 4 ≤ n) (h2 : n ≤ 15) : rightQ (padT (opT n)) = true := by
  have : n = 4 ∨ n = 5 ∨ n = 6 ∨ n = 7 ∨ n = 8 ∨ n = 9 ∨ n = 10 ∨ n = 11 ∨ n = 12 ∨ n = 13 ∨ n = 14 ∨ n = 15 := by omega
  rcases this with h | h | h | h | h | h | h | h | h | h | h | h <;> rw [h] <;> decide +kernel
abbrev litX (v : VX) : TX := ⟨1, eE, eE, v⟩
abbrev opX (n : Int) : TX := ⟨n, eE, eE, zeroX⟩
theorem right_of {ts : List TermD} {d : Int} (hd : deepV ts = d) (h1 : 1 ≤ d) (h2 : d ≤ 64) (h : ∀ t ∈ ts, rightQ (padT t) = true) : rightV ts = true := by
  unfold rightV
  rw [hd, decide_eq_true h1, decide_eq_true h2, List.all_eq_true.2 h]; rfl
theorem okT_lit (v : ValD) (h6 : v.a.k ≠ 6) (hn : i64B v.a.n) (hs : v.a.s.size ≤ 300) : okT (litT v) := by
  refine ⟨fun _ => h6, hn, by show v.a.s.size ≤ _; omega, by show eE.size ≤ _; decide, by show eE.size ≤ _; decide, ?_⟩
  show (printV1 v).size ≤ _
  have := printA_small v.a hn hs
  unfold printV1
  split
  · omega
  · show 0 ≤ _; omega
theorem okT_op (n : Int) (h : n ≠ 1) : okT (opT n) := ⟨fun h' => absurd h' h, by show i64B 0; unfold i64B; decide, by show eE.size ≤ _; decide, by show eE.size ≤ _; decide, by show eE.size ≤ _; decide, by
  show (printV1 ⟨⟨0, 0, 0, eE⟩, []⟩).size ≤ 10000000
  decide +kernel⟩
theorem small_lit (n : Int) (v : ValD) : smallT ⟨n, eE, eE, v⟩ := ⟨by show eE.size ≤ _; decide, by show eE.size ≤ _; decide⟩
end Go.Proofs.YtfeacmadnbajfaaGreatDoor.AM
namespace Go.Proofs.YtfeacmadnbajfaaGreatDoor.AM
open Go.RowKit
set_option linter.unusedSimpArgs false
set_option linter.unusedVariables false
set_option maxRecDepth 10000
set_option maxHeartbeats 0
theorem deep3 (x y : ValD) (op : Int) (h1 : 6 ≤ op) (h2 : op ≤ 15) : deepV [litT x, litT y, opT op] = 2 := by
  have : op = 6 ∨ op = 7 ∨ op = 8 ∨ op = 9 ∨ op = 10 ∨ op = 11 ∨ op = 12 ∨ op = 13 ∨ op = 14 ∨ op = 15 := by omega
  rcases this with h | h | h | h | h | h | h | h | h | h <;> subst h <;> rfl
def goodV (v : ValD) : Prop := plainV v = true ∧ v.a.s.size ≤ 300 ∧ i64B v.a.n
theorem right3 {x y : ValD} {op : Int} (hx : goodV x) (hy : goodV y) (h1 : 6 ≤ op) (h2 : op ≤ 15) : rightV [litT x, litT y, opT op] = true :=
  right_of (deep3 x y op h1 h2) (by decide) (by decide) (fun t ht => by
    simp only [List.mem_cons, List.not_mem_nil, or_false] at ht
    rcases ht with rfl | rfl | rfl
    · exact lit_right x hx.1 hx.2.1 hx.2.2
    · exact lit_right y hy.1 hy.2.1 hy.2.2
    · exact op_right op (by omega) h2)
end Go.Proofs.YtfeacmadnbajfaaGreatDoor.AM
namespace Go.Proofs.YtfeacmadnbajfaaGreatDoor.AM
open Go.RowKit
set_option linter.unusedSimpArgs false
set_option linter.unusedVariables false
set_option maxRecDepth 10000
set_option maxHeartbeats 0
theorem c_litX (v : VX) : Pure Tryz.prog 9 [v.av] (.agg [iv 1, sv eE, sv eE, iv v.a.k, iv v.a.n, fv v.a.f, sv v.a.s, .dat v.d]) := by
  refine pure_of_awp Tryz.func9 rfl rfl (by simp [Tryz.f9]) ?_; simp only [go_sem, ↓reduceIte, Nat.reduceEqDiff, Nat.reduceAdd, Nat.reduceLeDiff, Nat.reduceBEq, Nat.reduceMul, reduceCtorEq, Int.reduceLE, Int.reduceLT, Int.reduceAdd, Int.reduceSub, Int.reduceNeg, Int.reduceToNat, Int.reduceBEq]
  repeat' (first | refine awp_seq ?_ | refine awp_block ?_ | refine awp_round ?_ | refine awp_text rfl ?_ | refine awp_any rfl mix (by kernel_rfl) ?_ | (refine RunTo.unguard rfl rfl (fun hg => ?_) (fun hg => ?_) <;> ((try simp only [Bool.not_true, Bool.not_false, Bool.not_eq_true', Bool.not_eq_false', Bool.not_eq_eq_eq_not] at hg); (first | (cases hg) | (simp only [hg]) | skip))) | ((first | refine RunTo.plain rfl ?_ | refine RunTo.skipped rfl ?_); simp only [go_sem, ↓reduceIte, Nat.reduceEqDiff, Nat.reduceAdd, Nat.reduceLeDiff, Nat.reduceBEq, Nat.reduceMul, reduceCtorEq, Int.reduceLE, Int.reduceLT, Int.reduceAdd, Int.reduceSub, Int.reduceNeg, Int.reduceToNat, Int.reduceBEq, VX.av, ↓VX.cb]) | ((first | refine RunTo.nil ⟨by kernel_rfl, ?_⟩ | refine RunTo.nil ?_ | refine awp_skip ?_ | refine awp_exit ?_); simp only [go_sem, ↓reduceIte, Nat.reduceEqDiff, Nat.reduceAdd, Nat.reduceLeDiff, Nat.reduceBEq, Nat.reduceMul, reduceCtorEq, Int.reduceLE, Int.reduceLT, Int.reduceAdd, Int.reduceSub, Int.reduceNeg, Int.reduceToNat, Int.reduceBEq, VX.av, ↓VX.cb]) | (refine awp_cond' rfl (of_decide_eq_true rfl) (fun hc => ?_) (fun hc => ?_) <;> ((try simp only [Bool.not_true, Bool.not_false, Bool.not_eq_true', Bool.not_eq_false', Bool.not_eq_eq_eq_not] at hc); (first | (cases hc) | (simp only [hc]) | skip))))
  all_goals
    (first | refine awp_ret ?_ | skip); refine ⟨(by first | exact .inl rfl | exact .inr rfl | exact .inr trivial | trivial), ?_⟩; simp only [go_sem, ↓reduceIte, Nat.reduceEqDiff, Nat.reduceAdd, Nat.reduceLeDiff, Nat.reduceBEq, Nat.reduceMul, reduceCtorEq, Int.reduceLE, Int.reduceLT, Int.reduceAdd, Int.reduceSub, Int.reduceNeg, Int.reduceToNat, Int.reduceBEq, retV, resL, resV, sealV, sealC, sealAll, Tryz.f9]
theorem c_nanE (v : VX) : Pure Tryz.prog 116 [v.av] (bv (nanA v.a)) := by
  refine pure_of_awp Tryz.func116 rfl rfl (by simp [Tryz.f116]) ?_; simp only [go_sem, ↓reduceIte, Nat.reduceEqDiff, Nat.reduceAdd, Nat.reduceLeDiff, Nat.reduceBEq, Nat.reduceMul, reduceCtorEq, Int.reduceLE, Int.reduceLT, Int.reduceAdd, Int.reduceSub, Int.reduceNeg, Int.reduceToNat, Int.reduceBEq]
  repeat' (first | refine awp_seq ?_ | refine awp_block ?_ | refine awp_round ?_ | refine awp_text rfl ?_ | refine awp_any rfl mix (by kernel_rfl) ?_ | (refine RunTo.unguard rfl rfl (fun hg => ?_) (fun hg => ?_) <;> ((try simp only [Bool.not_true, Bool.not_false, Bool.not_eq_true', Bool.not_eq_false', Bool.not_eq_eq_eq_not] at hg); (first | (cases hg) | (simp only [hg]) | skip))) | ((first | refine RunTo.plain rfl ?_ | refine RunTo.skipped rfl ?_ | refine RunTo.call (c_Class _) Tryz.func147 rfl rfl rfl rfl rfl rfl rfl rfl ?_); simp only [go_sem, ↓reduceIte, Nat.reduceEqDiff, Nat.reduceAdd, Nat.reduceLeDiff, Nat.reduceBEq, Nat.reduceMul, reduceCtorEq, Int.reduceLE, Int.reduceLT, Int.reduceAdd, Int.reduceSub, Int.reduceNeg, Int.reduceToNat, Int.reduceBEq, VX.av, ↓VX.cb]) | ((first | refine RunTo.nil ⟨by kernel_rfl, ?_⟩ | refine RunTo.nil ?_ | refine awp_skip ?_ | refine awp_exit ?_); simp only [go_sem, ↓reduceIte, Nat.reduceEqDiff, Nat.reduceAdd, Nat.reduceLeDiff, Nat.reduceBEq, Nat.reduceMul, reduceCtorEq, Int.reduceLE, Int.reduceLT, Int.reduceAdd, Int.reduceSub, Int.reduceNeg, Int.reduceToNat, Int.reduceBEq, VX.av, ↓VX.cb]) | (refine awp_cond' rfl (of_decide_eq_true rfl) (fun hc => ?_) (fun hc => ?_) <;> ((try simp only [Bool.not_true, Bool.not_false, Bool.not_eq_true', Bool.not_eq_false', Bool.not_eq_eq_eq_not] at hc); (first | (cases hc) | (simp only [hc]) | skip))))
  all_goals
    (first | refine awp_ret ?_ | skip); refine ⟨(by first | exact .inl rfl | exact .inr rfl | exact .inr trivial | trivial), ?_⟩; simp only [go_sem, ↓reduceIte, Nat.reduceEqDiff, Nat.reduceAdd, Nat.reduceLeDiff, Nat.reduceBEq, Nat.reduceMul, reduceCtorEq, Int.reduceLE, Int.reduceLT, Int.reduceAdd, Int.reduceSub, Int.reduceNeg, Int.reduceToNat, Int.reduceBEq, retV, resL, resV, sealV, sealC, sealAll, Tryz.f116]
    try simp [nanA, *]
def atX (m : Int) (nn : Bool) : Int := if notX m ≠ 2 ∧ nn = true then 0 else notX m
theorem c_atMost (v w : VX) (m : Int) (cm : Pure Tryz.prog 73 [w.av, v.av] (iv m)) : Pure Tryz.prog 74 [v.av, w.av] (iv (atX m (nanA v.a || nanA w.a))) := by
  have n1 := c_nanE v
  have n2 := c_nanE w
  have cn := c_not m
  unfold atX
  generalize nanA v.a = p at *
  generalize nanA w.a = q at *
  generalize notX m = n at *
  refine pure_of_awp Tryz.func74 rfl rfl (by simp [Tryz.f74]) ?_; simp only [go_sem, ↓reduceIte, Nat.reduceEqDiff, Nat.reduceAdd, Nat.reduceLeDiff, Nat.reduceBEq, Nat.reduceMul, reduceCtorEq, Int.reduceLE, Int.reduceLT, Int.reduceAdd, Int.reduceSub, Int.reduceNeg, Int.reduceToNat, Int.reduceBEq]
  repeat' (first | refine awp_seq ?_ | refine awp_block ?_ | refine awp_round ?_ | refine awp_text rfl ?_ | refine awp_any rfl mix (by kernel_rfl) ?_ | (refine RunTo.unguard rfl rfl (fun hg => ?_) (fun hg => ?_) <;> ((try simp only [Bool.not_true, Bool.not_false, Bool.not_eq_true', Bool.not_eq_false', Bool.not_eq_eq_eq_not] at hg); (first | (cases hg) | (simp only [hg]) | skip))) | ((first | refine RunTo.plain rfl ?_ | refine RunTo.skipped rfl ?_ | refine RunTo.call (cm) Tryz.func73 rfl rfl rfl rfl rfl rfl rfl rfl ?_ | refine RunTo.call (cn) Tryz.func34 rfl rfl rfl rfl rfl rfl rfl rfl ?_ | refine RunTo.call (n1) Tryz.func116 rfl rfl rfl rfl rfl rfl rfl rfl ?_ | refine RunTo.call (n2) Tryz.func116 rfl rfl rfl rfl rfl rfl rfl rfl ?_); simp only [go_sem, ↓reduceIte, Nat.reduceEqDiff, Nat.reduceAdd, Nat.reduceLeDiff, Nat.reduceBEq, Nat.reduceMul, reduceCtorEq, Int.reduceLE, Int.reduceLT, Int.reduceAdd, Int.reduceSub, Int.reduceNeg, Int.reduceToNat, Int.reduceBEq, VX.av, ↓VX.cb]) | ((first | refine RunTo.nil ⟨by kernel_rfl, ?_⟩ | refine RunTo.nil ?_ | refine awp_skip ?_ | refine awp_exit ?_); simp only [go_sem, ↓reduceIte, Nat.reduceEqDiff, Nat.reduceAdd, Nat.reduceLeDiff, Nat.reduceBEq, Nat.reduceMul, reduceCtorEq, Int.reduceLE, Int.reduceLT, Int.reduceAdd, Int.reduceSub, Int.reduceNeg, Int.reduceToNat, Int.reduceBEq, VX.av, ↓VX.cb]) | (refine awp_cond' rfl (of_decide_eq_true rfl) (fun hc => ?_) (fun hc => ?_) <;> ((try simp only [Bool.not_true, Bool.not_false, Bool.not_eq_true', Bool.not_eq_false', Bool.not_eq_eq_eq_not] at hc); (first | (cases hc) | (simp only [hc]) | skip))))
  all_goals
    (first | refine awp_ret ?_ | skip); refine ⟨(by first | exact .inl rfl | exact .inr rfl | exact .inr trivial | trivial), ?_⟩; simp only [go_sem, ↓reduceIte, Nat.reduceEqDiff, Nat.reduceAdd, Nat.reduceLeDiff, Nat.reduceBEq, Nat.reduceMul, reduceCtorEq, Int.reduceLE, Int.reduceLT, Int.reduceAdd, Int.reduceSub, Int.reduceNeg, Int.reduceToNat, Int.reduceBEq, retV, resL, resV, sealV, sealC, sealAll, Tryz.f74]
    (try simp only [decide_eq_true_eq, decide_eq_false_iff_not, beq_iff_eq, bne_iff_ne, ne_eq, beq_eq_false_iff_ne, bne_eq_false_iff_eq, Bool.and_eq_true, Bool.or_eq_true, Bool.or_eq_false_iff, Bool.and_eq_false_iff] at *)
    first
    | (simp [*]; done)
    | (rw [if_neg (by simp_all)]; done)
    | (rw [if_pos (by simp_all)]; done)
    | trace_state
def askN (op e l m : Int) (nn : Bool) : Int := if op = 8 then e else if op = 9 then notX e else if op = 10 then l else if op = 11 then atX m nn else if op = 12 then m else atX l nn
theorem c_twoC (v w : VX) (op e l m : Int) (h : 8 ≤ op ∧ op ≤ 13) (ce : Pure Tryz.prog 72 [v.av, w.av] (iv e)) (cl : Pure Tryz.prog 73 [v.av, w.av] (iv l)) (cm : Pure Tryz.prog 73 [w.av, v.av] (iv m)) :
    Pure Tryz.prog 38 [iv op, v.av, w.av] (tupX (toldX (askN op e l m (nanA v.a || nanA w.a)), 0)) := by
  have c1 := c_atMost v w m cm
  have c2 := c_atMost w v l cl
  rw [Bool.or_comm] at c2
  generalize (nanA v.a || nanA w.a) = nn at *
  obtain ⟨h1, h2⟩ := h
  have : op = 8 ∨ op = 9 ∨ op = 10 ∨ op = 11 ∨ op = 12 ∨ op = 13 := by omega
  rcases this with h | h | h | h | h | h <;> subst h
  all_goals
    refine pure_of_awp Tryz.func38 rfl rfl (by simp [Tryz.f38]) ?_; simp only [go_sem, ↓reduceIte, Nat.reduceEqDiff, Nat.reduceAdd, Nat.reduceLeDiff, Nat.reduceBEq, Nat.reduceMul, reduceCtorEq, Int.reduceLE, Int.reduceLT, Int.reduceAdd, Int.reduceSub, Int.reduceNeg, Int.reduceToNat, Int.reduceBEq]
    repeat' (first | refine awp_seq ?_ | refine awp_block ?_ | refine awp_round ?_ | refine awp_text rfl ?_ | refine awp_any rfl mix (by kernel_rfl) ?_ | (refine RunTo.unguard rfl rfl (fun hg => ?_) (fun hg => ?_) <;> ((try simp only [Bool.not_true, Bool.not_false, Bool.not_eq_true', Bool.not_eq_false', Bool.not_eq_eq_eq_not] at hg); (first | (cases hg) | (simp only [hg]) | skip))) | ((first | refine RunTo.plain rfl ?_ | refine RunTo.skipped rfl ?_ | refine RunTo.call (ce) Tryz.func72 rfl rfl rfl rfl rfl rfl rfl rfl ?_ | refine RunTo.call (cl) Tryz.func73 rfl rfl rfl rfl rfl rfl rfl rfl ?_ | refine RunTo.call (cm) Tryz.func73 rfl rfl rfl rfl rfl rfl rfl rfl ?_ | refine RunTo.call (c1) Tryz.func74 rfl rfl rfl rfl rfl rfl rfl rfl ?_ | refine RunTo.call (c2) Tryz.func74 rfl rfl rfl rfl rfl rfl rfl rfl ?_ | refine RunTo.call (c_not _) Tryz.func34 rfl rfl rfl rfl rfl rfl rfl rfl ?_ | refine RunTo.call (c_told _) Tryz.func33 rfl rfl rfl rfl rfl rfl rfl rfl ?_); simp only [go_sem, ↓reduceIte, Nat.reduceEqDiff, Nat.reduceAdd, Nat.reduceLeDiff, Nat.reduceBEq, Nat.reduceMul, reduceCtorEq, Int.reduceLE, Int.reduceLT, Int.reduceAdd, Int.reduceSub, Int.reduceNeg, Int.reduceToNat, Int.reduceBEq, VX.av, ↓VX.cb]) | ((first | refine RunTo.nil ⟨by kernel_rfl, ?_⟩ | refine RunTo.nil ?_ | refine awp_skip ?_ | refine awp_exit ?_); simp only [go_sem, ↓reduceIte, Nat.reduceEqDiff, Nat.reduceAdd, Nat.reduceLeDiff, Nat.reduceBEq, Nat.reduceMul, reduceCtorEq, Int.reduceLE, Int.reduceLT, Int.reduceAdd, Int.reduceSub, Int.reduceNeg, Int.reduceToNat, Int.reduceBEq, VX.av, ↓VX.cb]) | (refine awp_cond' rfl (of_decide_eq_true rfl) (fun hc => ?_) (fun hc => ?_) <;> ((try simp only [Bool.not_true, Bool.not_false, Bool.not_eq_true', Bool.not_eq_false', Bool.not_eq_eq_eq_not] at hc); (first | (cases hc) | (simp only [hc]) | skip))))
    all_goals (first | refine awp_ret ?_ | skip); refine ⟨(by first | exact .inl rfl | exact .inr rfl | exact .inr trivial | trivial), ?_⟩; simp only [go_sem, ↓reduceIte, Nat.reduceEqDiff, Nat.reduceAdd, Nat.reduceLeDiff, Nat.reduceBEq, Nat.reduceMul, reduceCtorEq, Int.reduceLE, Int.reduceLT, Int.reduceAdd, Int.reduceSub, Int.reduceNeg, Int.reduceToNat, Int.reduceBEq, retV, resL, resV, sealV, sealC, sealAll, Tryz.f38]
    all_goals rfl
abbrev rows3 (x y : VX) (op : Int) : List (List Dat) := [(litX x).row, (litX y).row, (opX op).row]
theorem kind_cmp {x y : ValD} {op : Int} (hx : goodV x) (hy : goodV y) (h1 : 8 ≤ op) (h2 : op ≤ 13) : kindV [] [litT x, litT y, opT op] = (2, 0) := by
  unfold kindV
  rw [if_pos (right3 hx hy (by omega) (by omega))]
  have : op = 8 ∨ op = 9 ∨ op = 10 ∨ op = 11 ∨ op = 12 ∨ op = 13 := by omega
  rcases this with h | h | h | h | h | h <;> subst h <;> simp [kindL, knownB, shapeK, ofK, okK]
theorem c_Eval3 (x y z : VX) (op : Int) (hx : goodV x.v) (hy : goodV y.v) (kx : x.a.k ≠ 6) (ky : y.a.k ≠ 6) (h1 : 8 ≤ op) (h2 : op ≤ 13) (ht : Pure Tryz.prog 38 [iv op, x.av, y.av] (tupX (z, 0))) :
    Pure Tryz.prog 10 [.dat (.lst 8 (rows3 x y op)), .lit (.map none)] (tupX (z, 0)) := by
  have hk := pure_le (c_Kind ([litX x, litX y, opX op].map TX.t) [] (by simp) (by simp) (fun t ht => by
    simp only [List.map_cons, List.map_nil, List.mem_cons, List.not_mem_nil, or_false] at ht
    rcases ht with rfl | rfl | rfl <;> exact small_lit _ _) (fun t ht _ => by
    simp only [List.map_cons, List.map_nil, List.mem_cons, List.not_mem_nil, or_false] at ht
    rcases ht with rfl | rfl | rfl
    · exact okT_lit x.v kx hx.2.2 hx.2.1
    · exact okT_lit y.v ky hy.2.2 hy.2.1
    · exact okT_op op (by omega))) (.cons (.dat (rows_le [litX x, litX y, opX op]).dat) (.cons (.dat (.nil 1)) .nil))
  have hkv : kindV [] ([litX x, litX y, opX op].map TX.t) = (2, 0) := kind_cmp hx hy h1 h2
  rw [hkv] at hk
  have z1 : (op == 1) = false := by simp; omega
  have z2 : (op == 2) = false := by simp; omega
  have z3 : (op == 3) = false := by simp; omega
  have z4 : (op == 4) = false := by simp; omega
  have z5 : (op == 5) = false := by simp; omega
  have u1 := c_push [] 0 x (by simp) (by decide)
  have u2 := c_push [x.row] 1 y (by simp) (by decide)
  have o1 := c_pop [x.row, y.row] 1 y rfl (by decide)
  have o2 := c_pop [x.row, y.row] 0 x rfl (by decide)
  have u3 := c_push [x.row, y.row] 0 z (by simp) (by decide)
  have o3 := c_pop [z.row] 0 z rfl (by decide)
  refine pure_of_awp Tryz.func10 rfl rfl (by simp [Tryz.f10]) ?_; simp only [go_sem, ↓reduceIte, Nat.reduceEqDiff, Nat.reduceAdd, Nat.reduceLeDiff, Nat.reduceBEq, Nat.reduceMul, reduceCtorEq, Int.reduceLE, Int.reduceLT, Int.reduceAdd, Int.reduceSub, Int.reduceNeg, Int.reduceToNat, Int.reduceBEq]
  repeat' (first | refine awp_seq ?_ | refine awp_block ?_ | refine awp_round ?_ | refine awp_text rfl ?_ | refine awp_any rfl mix (by kernel_rfl) ?_ | (refine RunTo.unguard rfl rfl (fun hg => ?_) (fun hg => ?_) <;> ((try simp only [Bool.not_true, Bool.not_false, Bool.not_eq_true', Bool.not_eq_false', Bool.not_eq_eq_eq_not] at hg); (first | (cases hg) | (simp only [hg]) | skip))) | ((first | refine RunTo.plain rfl ?_ | refine RunTo.skipped rfl ?_ | refine RunTo.call (c_known) Tryz.func29 rfl rfl rfl rfl rfl rfl rfl rfl ?_ | refine RunTo.call (hk) Tryz.func22 rfl rfl rfl rfl rfl rfl rfl rfl ?_); simp only [go_sem, ↓reduceIte, Nat.reduceEqDiff, Nat.reduceAdd, Nat.reduceLeDiff, Nat.reduceBEq, Nat.reduceMul, reduceCtorEq, Int.reduceLE, Int.reduceLT, Int.reduceAdd, Int.reduceSub, Int.reduceNeg, Int.reduceToNat, Int.reduceBEq, List.length_map]) | ((first | refine RunTo.nil ⟨by kernel_rfl, ?_⟩ | refine RunTo.nil ?_ | refine awp_skip ?_ | refine awp_exit ?_); simp only [go_sem, ↓reduceIte, Nat.reduceEqDiff, Nat.reduceAdd, Nat.reduceLeDiff, Nat.reduceBEq, Nat.reduceMul, reduceCtorEq, Int.reduceLE, Int.reduceLT, Int.reduceAdd, Int.reduceSub, Int.reduceNeg, Int.reduceToNat, Int.reduceBEq, List.length_map]) | (refine awp_cond' rfl (of_decide_eq_true rfl) (fun hc => ?_) (fun hc => ?_) <;> ((try simp only [Bool.not_true, Bool.not_false, Bool.not_eq_true', Bool.not_eq_false', Bool.not_eq_eq_eq_not] at hc); (first | (cases hc) | (simp only [hc]) | skip))))
  refine awp_weak (weak_nilbox (b := 38) (j := 0) (s := 2000) (sz := 5) rfl rfl rfl) ?_
  simp only [go_sem, ↓reduceIte, Nat.reduceEqDiff, Nat.reduceAdd, Nat.reduceLeDiff, Nat.reduceBEq, Nat.reduceMul, reduceCtorEq, Int.reduceLE, Int.reduceLT, Int.reduceAdd, Int.reduceSub, Int.reduceNeg, Int.reduceToNat, Int.reduceBEq, List.set_cons_zero]
  refine awp_rounds 4 ?_
  repeat' (first | refine awp_seq ?_ | refine awp_block ?_ | refine awp_round ?_ | refine awp_text rfl ?_ | refine awp_any rfl mix (by kernel_rfl) ?_ | (refine RunTo.unguard rfl rfl (fun hg => ?_) (fun hg => ?_) <;> ((try simp only [Bool.not_true, Bool.not_false, Bool.not_eq_true', Bool.not_eq_false', Bool.not_eq_eq_eq_not] at hg); (first | (cases hg) | (simp only [hg]) | skip))) | ((first | refine RunTo.plain rfl ?_ | refine RunTo.skipped rfl ?_ | refine RunTo.call (ht) Tryz.func38 rfl rfl rfl rfl rfl rfl rfl rfl ?_); simp only [go_sem, ↓reduceIte, Nat.reduceEqDiff, Nat.reduceAdd, Nat.reduceLeDiff, Nat.reduceBEq, Nat.reduceMul, reduceCtorEq, Int.reduceLE, Int.reduceLT, Int.reduceAdd, Int.reduceSub, Int.reduceNeg, Int.reduceToNat, Int.reduceBEq, TX.row, ↓VX.cb, VX.av, VX.row, z1, z2, z3, z4, z5]) | (refine RunTo.actsE (u1) Tryz.func30 rfl rfl rfl rfl rfl rfl ?_; simp only [go_sem, ↓reduceIte, Nat.reduceEqDiff, Nat.reduceAdd, Nat.reduceLeDiff, Nat.reduceBEq, Nat.reduceMul, reduceCtorEq, Int.reduceLE, Int.reduceLT, Int.reduceAdd, Int.reduceSub, Int.reduceNeg, Int.reduceToNat, Int.reduceBEq, TX.row, ↓VX.cb, VX.av, VX.row, z1, z2, z3, z4, z5]; (repeat' refine And.intro rfl ?_); with_reducible refine RunTo.this ?_) | (refine RunTo.actsE (u2) Tryz.func30 rfl rfl rfl rfl rfl rfl ?_; simp only [go_sem, ↓reduceIte, Nat.reduceEqDiff, Nat.reduceAdd, Nat.reduceLeDiff, Nat.reduceBEq, Nat.reduceMul, reduceCtorEq, Int.reduceLE, Int.reduceLT, Int.reduceAdd, Int.reduceSub, Int.reduceNeg, Int.reduceToNat, Int.reduceBEq, TX.row, ↓VX.cb, VX.av, VX.row, z1, z2, z3, z4, z5]; (repeat' refine And.intro rfl ?_); with_reducible refine RunTo.this ?_) | (refine RunTo.actsE (o1) Tryz.func36 rfl rfl rfl rfl rfl rfl ?_; simp only [go_sem, ↓reduceIte, Nat.reduceEqDiff, Nat.reduceAdd, Nat.reduceLeDiff, Nat.reduceBEq, Nat.reduceMul, reduceCtorEq, Int.reduceLE, Int.reduceLT, Int.reduceAdd, Int.reduceSub, Int.reduceNeg, Int.reduceToNat, Int.reduceBEq, TX.row, ↓VX.cb, VX.av, VX.row, z1, z2, z3, z4, z5]; (repeat' refine And.intro rfl ?_); with_reducible refine RunTo.this ?_) | (refine RunTo.actsE (o2) Tryz.func36 rfl rfl rfl rfl rfl rfl ?_; simp only [go_sem, ↓reduceIte, Nat.reduceEqDiff, Nat.reduceAdd, Nat.reduceLeDiff, Nat.reduceBEq, Nat.reduceMul, reduceCtorEq, Int.reduceLE, Int.reduceLT, Int.reduceAdd, Int.reduceSub, Int.reduceNeg, Int.reduceToNat, Int.reduceBEq, TX.row, ↓VX.cb, VX.av, VX.row, z1, z2, z3, z4, z5]; (repeat' refine And.intro rfl ?_); with_reducible refine RunTo.this ?_) | (refine RunTo.actsE (u3) Tryz.func30 rfl rfl rfl rfl rfl rfl ?_; simp only [go_sem, ↓reduceIte, Nat.reduceEqDiff, Nat.reduceAdd, Nat.reduceLeDiff, Nat.reduceBEq, Nat.reduceMul, reduceCtorEq, Int.reduceLE, Int.reduceLT, Int.reduceAdd, Int.reduceSub, Int.reduceNeg, Int.reduceToNat, Int.reduceBEq, TX.row, ↓VX.cb, VX.av, VX.row, z1, z2, z3, z4, z5]; (repeat' refine And.intro rfl ?_); with_reducible refine RunTo.this ?_) | (refine RunTo.actsE (o3) Tryz.func36 rfl rfl rfl rfl rfl rfl ?_; simp only [go_sem, ↓reduceIte, Nat.reduceEqDiff, Nat.reduceAdd, Nat.reduceLeDiff, Nat.reduceBEq, Nat.reduceMul, reduceCtorEq, Int.reduceLE, Int.reduceLT, Int.reduceAdd, Int.reduceSub, Int.reduceNeg, Int.reduceToNat, Int.reduceBEq, TX.row, ↓VX.cb, VX.av, VX.row, z1, z2, z3, z4, z5]; (repeat' refine And.intro rfl ?_); with_reducible refine RunTo.this ?_) | ((first | refine RunTo.nil ⟨by kernel_rfl, ?_⟩ | refine RunTo.nil ?_ | refine awp_skip ?_ | refine awp_exit ?_); simp only [go_sem, ↓reduceIte, Nat.reduceEqDiff, Nat.reduceAdd, Nat.reduceLeDiff, Nat.reduceBEq, Nat.reduceMul, reduceCtorEq, Int.reduceLE, Int.reduceLT, Int.reduceAdd, Int.reduceSub, Int.reduceNeg, Int.reduceToNat, Int.reduceBEq, TX.row, ↓VX.cb, VX.av, VX.row, z1, z2, z3, z4, z5]) | (refine awp_cond' rfl (of_decide_eq_true rfl) (fun hc => ?_) (fun hc => ?_) <;> ((try simp only [Bool.not_true, Bool.not_false, Bool.not_eq_true', Bool.not_eq_false', Bool.not_eq_eq_eq_not] at hc); (first | (cases hc) | (simp only [hc]) | skip))))
  all_goals (first | refine awp_ret ?_ | skip); refine ⟨(by first | exact .inl rfl | exact .inr rfl | exact .inr trivial | trivial), ?_⟩; simp only [go_sem, ↓reduceIte, Nat.reduceEqDiff, Nat.reduceAdd, Nat.reduceLeDiff, Nat.reduceBEq, Nat.reduceMul, reduceCtorEq, Int.reduceLE, Int.reduceLT, Int.reduceAdd, Int.reduceSub, Int.reduceNeg, Int.reduceToNat, Int.reduceBEq, retV, resL, resV, sealV, sealC, sealAll, Tryz.f10]
  all_goals rfl
theorem c_Holds3 (rows : List (List Dat)) (z : VX) (hn : 0 < rows.length) (hev : Pure Tryz.prog 10 [.dat (.lst 8 rows), .lit (.map none)] (tupX (z, 0))) : Pure Tryz.prog 11 [.dat (.lst 8 rows), .lit (.map none)] (.tup [bv (truthX z == 1), iv 0]) := by
  have hz : ((rows.length : Int) == 0) = false := by rw [beq_eq_false_iff_ne]; omega
  refine pure_of_awp Tryz.func11 rfl rfl (by simp [Tryz.f11]) ?_; simp only [go_sem, ↓reduceIte, Nat.reduceEqDiff, Nat.reduceAdd, Nat.reduceLeDiff, Nat.reduceBEq, Nat.reduceMul, reduceCtorEq, Int.reduceLE, Int.reduceLT, Int.reduceAdd, Int.reduceSub, Int.reduceNeg, Int.reduceToNat, Int.reduceBEq]
  repeat' (first | refine awp_seq ?_ | refine awp_block ?_ | refine awp_round ?_ | refine awp_text rfl ?_ | refine awp_any rfl mix (by kernel_rfl) ?_ | (refine RunTo.unguard rfl rfl (fun hg => ?_) (fun hg => ?_) <;> ((try simp only [Bool.not_true, Bool.not_false, Bool.not_eq_true', Bool.not_eq_false', Bool.not_eq_eq_eq_not] at hg); (first | (cases hg) | (simp only [hg]) | skip))) | ((first | refine RunTo.plain rfl ?_ | refine RunTo.skipped rfl ?_ | refine RunTo.call (hev) Tryz.func10 rfl rfl rfl rfl rfl rfl rfl rfl ?_ | refine RunTo.call (c_truth z) Tryz.func35 rfl rfl rfl rfl rfl rfl rfl rfl ?_); simp only [go_sem, ↓reduceIte, Nat.reduceEqDiff, Nat.reduceAdd, Nat.reduceLeDiff, Nat.reduceBEq, Nat.reduceMul, reduceCtorEq, Int.reduceLE, Int.reduceLT, Int.reduceAdd, Int.reduceSub, Int.reduceNeg, Int.reduceToNat, Int.reduceBEq, ↓VX.cb, VX.av, hz]) | ((first | refine RunTo.nil ⟨by kernel_rfl, ?_⟩ | refine RunTo.nil ?_ | refine awp_skip ?_ | refine awp_exit ?_); simp only [go_sem, ↓reduceIte, Nat.reduceEqDiff, Nat.reduceAdd, Nat.reduceLeDiff, Nat.reduceBEq, Nat.reduceMul, reduceCtorEq, Int.reduceLE, Int.reduceLT, Int.reduceAdd, Int.reduceSub, Int.reduceNeg, Int.reduceToNat, Int.reduceBEq, ↓VX.cb, VX.av, hz]) | (refine awp_cond' rfl (of_decide_eq_true rfl) (fun hc => ?_) (fun hc => ?_) <;> ((try simp only [Bool.not_true, Bool.not_false, Bool.not_eq_true', Bool.not_eq_false', Bool.not_eq_eq_eq_not] at hc); (first | (cases hc) | (simp only [hc]) | skip))))
  all_goals (first | refine awp_ret ?_ | skip); refine ⟨(by first | exact .inl rfl | exact .inr rfl | exact .inr trivial | trivial), ?_⟩; simp only [go_sem, ↓reduceIte, Nat.reduceEqDiff, Nat.reduceAdd, Nat.reduceLeDiff, Nat.reduceBEq, Nat.reduceMul, reduceCtorEq, Int.reduceLE, Int.reduceLT, Int.reduceAdd, Int.reduceSub, Int.reduceNeg, Int.reduceToNat, Int.reduceBEq, retV, resL, resV, sealV, sealC, sealAll, Tryz.f11]
end Go.Proofs.YtfeacmadnbajfaaGreatDoor.AM
namespace Go.Proofs.YtfeacmadnbajfaaGreatDoor.AM
open Go.RowKit
set_option linter.unusedSimpArgs false
set_option linter.unusedVariables false
set_option maxRecDepth 10000
set_option maxHeartbeats 0
abbrev uv (n : Nat) : AV := .lit (.int .u64 n)
theorem can_ref (b : Nat) (hb : b < 18446744073709551616) : canF b = if 9218868437227405312 < b % 9223372036854775808 then 9221120237041090560 else if b = 9223372036854775808 then 0 else b := by
  rw [FL.can_eq, FL.canon_ref b hb]
theorem tmod63 (u : Nat) : (u : Int).tmod 9223372036854775808 = ((u % 9223372036854775808 : Nat) : Int) := by rw [Int.tmod_eq_emod_of_nonneg (Int.natCast_nonneg _)]; omega
theorem c_rCanon (u : Nat) (hu : u < 18446744073709551616) : Pure Tryz.prog 78 [uv u] (uv (canF u)) := by
  rw [can_ref u hu]
  refine pure_of_awp Tryz.func78 rfl rfl (by simp [Tryz.f78]) ?_; simp only [go_sem, ↓reduceIte, Nat.reduceEqDiff, Nat.reduceAdd, Nat.reduceLeDiff, Nat.reduceBEq, Nat.reduceMul, reduceCtorEq, Int.reduceLE, Int.reduceLT, Int.reduceAdd, Int.reduceSub, Int.reduceNeg, Int.reduceToNat, Int.reduceBEq]
  repeat' (first | refine awp_seq ?_ | refine awp_block ?_ | refine awp_round ?_ | refine awp_text rfl ?_ | refine awp_any rfl mix (by kernel_rfl) ?_ | (refine RunTo.unguard rfl rfl (fun hg => ?_) (fun hg => ?_) <;> ((try simp only [Bool.not_true, Bool.not_false, Bool.not_eq_true', Bool.not_eq_false', Bool.not_eq_eq_eq_not] at hg); (first | (cases hg) | (simp only [hg]) | skip))) | ((first | refine RunTo.plain rfl ?_ | refine RunTo.skipped rfl ?_); simp only [go_sem, ↓reduceIte, Nat.reduceEqDiff, Nat.reduceAdd, Nat.reduceLeDiff, Nat.reduceBEq, Nat.reduceMul, reduceCtorEq, Int.reduceLE, Int.reduceLT, Int.reduceAdd, Int.reduceSub, Int.reduceNeg, Int.reduceToNat, Int.reduceBEq, tmod63]) | ((first | refine RunTo.nil ⟨by kernel_rfl, ?_⟩ | refine RunTo.nil ?_ | refine awp_skip ?_ | refine awp_exit ?_); simp only [go_sem, ↓reduceIte, Nat.reduceEqDiff, Nat.reduceAdd, Nat.reduceLeDiff, Nat.reduceBEq, Nat.reduceMul, reduceCtorEq, Int.reduceLE, Int.reduceLT, Int.reduceAdd, Int.reduceSub, Int.reduceNeg, Int.reduceToNat, Int.reduceBEq, tmod63]) | (refine awp_cond' rfl (of_decide_eq_true rfl) (fun hc => ?_) (fun hc => ?_) <;> ((try simp only [Bool.not_true, Bool.not_false, Bool.not_eq_true', Bool.not_eq_false', Bool.not_eq_eq_eq_not] at hc); (first | (cases hc) | (simp only [hc]) | skip))))
  all_goals
    (first | refine awp_ret ?_ | skip); refine ⟨(by first | exact .inl rfl | exact .inr rfl | exact .inr trivial | trivial), ?_⟩; simp only [go_sem, ↓reduceIte, Nat.reduceEqDiff, Nat.reduceAdd, Nat.reduceLeDiff, Nat.reduceBEq, Nat.reduceMul, reduceCtorEq, Int.reduceLE, Int.reduceLT, Int.reduceAdd, Int.reduceSub, Int.reduceNeg, Int.reduceToNat, Int.reduceBEq, retV, resL, resV, sealV, sealC, sealAll, Tryz.f78]
    (try simp only [decide_eq_true_eq, decide_eq_false_iff_not, beq_iff_eq, bne_iff_ne, ne_eq, beq_eq_false_iff_ne, bne_eq_false_iff_eq, Bool.and_eq_true, Bool.or_eq_true, Bool.or_eq_false_iff, Bool.and_eq_false_iff] at *)
    (repeat' split) <;> first | rfl | (exfalso; omega)
theorem c_rBits (f : Nat) : Pure Tryz.prog 41 [fv f] (uv f) := by
  refine pure_of_awp Tryz.func41 rfl rfl (by simp [Tryz.f41]) ?_; simp only [go_sem, ↓reduceIte, Nat.reduceEqDiff, Nat.reduceAdd, Nat.reduceLeDiff, Nat.reduceBEq, Nat.reduceMul, reduceCtorEq, Int.reduceLE, Int.reduceLT, Int.reduceAdd, Int.reduceSub, Int.reduceNeg, Int.reduceToNat, Int.reduceBEq]
  repeat' (first | refine awp_seq ?_ | refine awp_block ?_ | refine awp_round ?_ | refine awp_text rfl ?_ | refine awp_any rfl mix (by kernel_rfl) ?_ | (refine RunTo.unguard rfl rfl (fun hg => ?_) (fun hg => ?_) <;> ((try simp only [Bool.not_true, Bool.not_false, Bool.not_eq_true', Bool.not_eq_false', Bool.not_eq_eq_eq_not] at hg); (first | (cases hg) | (simp only [hg]) | skip))) | ((first | refine RunTo.plain rfl ?_ | refine RunTo.skipped rfl ?_ | refine RunTo.ext (x_bits f) rfl rfl rfl rfl ?_); simp only [go_sem, ↓reduceIte, Nat.reduceEqDiff, Nat.reduceAdd, Nat.reduceLeDiff, Nat.reduceBEq, Nat.reduceMul, reduceCtorEq, Int.reduceLE, Int.reduceLT, Int.reduceAdd, Int.reduceSub, Int.reduceNeg, Int.reduceToNat, Int.reduceBEq]) | ((first | refine RunTo.nil ⟨by kernel_rfl, ?_⟩ | refine RunTo.nil ?_ | refine awp_skip ?_ | refine awp_exit ?_); simp only [go_sem, ↓reduceIte, Nat.reduceEqDiff, Nat.reduceAdd, Nat.reduceLeDiff, Nat.reduceBEq, Nat.reduceMul, reduceCtorEq, Int.reduceLE, Int.reduceLT, Int.reduceAdd, Int.reduceSub, Int.reduceNeg, Int.reduceToNat, Int.reduceBEq]) | (refine awp_cond' rfl (of_decide_eq_true rfl) (fun hc => ?_) (fun hc => ?_) <;> ((try simp only [Bool.not_true, Bool.not_false, Bool.not_eq_true', Bool.not_eq_false', Bool.not_eq_eq_eq_not] at hc); (first | (cases hc) | (simp only [hc]) | skip))))
  all_goals
    (first | refine awp_ret ?_ | skip); refine ⟨(by first | exact .inl rfl | exact .inr rfl | exact .inr trivial | trivial), ?_⟩; simp only [go_sem, ↓reduceIte, Nat.reduceEqDiff, Nat.reduceAdd, Nat.reduceLeDiff, Nat.reduceBEq, Nat.reduceMul, reduceCtorEq, Int.reduceLE, Int.reduceLT, Int.reduceAdd, Int.reduceSub, Int.reduceNeg, Int.reduceToNat, Int.reduceBEq, retV, resL, resV, sealV, sealC, sealAll, Tryz.f41]
theorem size_nil {s : ByteArray} (h : s.toList = eE.toList) : s.size = 0 := by
  have := congrArg List.length h
  rw [ByteArray.toList_eq, ByteArray.toList_eq] at this
  simpa [eE] using this
theorem c_rAtom (a : AtomD) (hf : a.f < 18446744073709551616) : Pure Tryz.prog 40 [a.av] (bv (validA a)) := by
  obtain ⟨k, n, f, s⟩ := a
  have hf' : f < 18446744073709551616 := hf
  have hk : k < 0 ∨ 5 < k ∨ k = 0 ∨ k = 1 ∨ k = 2 ∨ k = 3 ∨ k = 4 ∨ k = 5 := by omega
  rcases hk with hk | hk | hk | hk | hk | hk | hk | hk
  · have hd : decide (k < 0) = true := decide_eq_true hk
    refine pure_of_awp Tryz.func40 rfl rfl (by simp [Tryz.f40]) ?_; simp only [go_sem, ↓reduceIte, Nat.reduceEqDiff, Nat.reduceAdd, Nat.reduceLeDiff, Nat.reduceBEq, Nat.reduceMul, reduceCtorEq, Int.reduceLE, Int.reduceLT, Int.reduceAdd, Int.reduceSub, Int.reduceNeg, Int.reduceToNat, Int.reduceBEq]
    repeat' (first | refine awp_seq ?_ | refine awp_block ?_ | refine awp_round ?_ | refine awp_text rfl ?_ | refine awp_any rfl mix (by kernel_rfl) ?_ | (refine RunTo.unguard rfl rfl (fun hg => ?_) (fun hg => ?_) <;> ((try simp only [Bool.not_true, Bool.not_false, Bool.not_eq_true', Bool.not_eq_false', Bool.not_eq_eq_eq_not] at hg); (first | (cases hg) | (simp only [hg]) | skip))) | ((first | refine RunTo.plain rfl ?_ | refine RunTo.skipped rfl ?_); simp only [go_sem, ↓reduceIte, Nat.reduceEqDiff, Nat.reduceAdd, Nat.reduceLeDiff, Nat.reduceBEq, Nat.reduceMul, reduceCtorEq, Int.reduceLE, Int.reduceLT, Int.reduceAdd, Int.reduceSub, Int.reduceNeg, Int.reduceToNat, Int.reduceBEq, AtomD.av, hd]) | ((first | refine RunTo.nil ⟨by kernel_rfl, ?_⟩ | refine RunTo.nil ?_ | refine awp_skip ?_ | refine awp_exit ?_); simp only [go_sem, ↓reduceIte, Nat.reduceEqDiff, Nat.reduceAdd, Nat.reduceLeDiff, Nat.reduceBEq, Nat.reduceMul, reduceCtorEq, Int.reduceLE, Int.reduceLT, Int.reduceAdd, Int.reduceSub, Int.reduceNeg, Int.reduceToNat, Int.reduceBEq, AtomD.av, hd]) | (refine awp_cond' rfl (of_decide_eq_true rfl) (fun hc => ?_) (fun hc => ?_) <;> ((try simp only [Bool.not_true, Bool.not_false, Bool.not_eq_true', Bool.not_eq_false', Bool.not_eq_eq_eq_not] at hc); (first | (cases hc) | (simp only [hc]) | skip))))
    all_goals
      (first | refine awp_ret ?_ | skip); refine ⟨(by first | exact .inl rfl | exact .inr rfl | exact .inr trivial | trivial), ?_⟩; simp only [go_sem, ↓reduceIte, Nat.reduceEqDiff, Nat.reduceAdd, Nat.reduceLeDiff, Nat.reduceBEq, Nat.reduceMul, reduceCtorEq, Int.reduceLE, Int.reduceLT, Int.reduceAdd, Int.reduceSub, Int.reduceNeg, Int.reduceToNat, Int.reduceBEq, retV, resL, resV, sealV, sealC, sealAll, Tryz.f40]
      have h : validA ⟨k, n, f, s⟩ = false := by unfold validA; simp only []; rw [if_neg (by omega), if_neg (by omega), if_neg (by omega), if_neg (by omega), if_neg (by omega)]
      rw [h]
  · have hd : decide (k < 0) = false := decide_eq_false (by omega)
    have hd2 : decide (5 < k) = true := decide_eq_true hk
    refine pure_of_awp Tryz.func40 rfl rfl (by simp [Tryz.f40]) ?_; simp only [go_sem, ↓reduceIte, Nat.reduceEqDiff, Nat.reduceAdd, Nat.reduceLeDiff, Nat.reduceBEq, Nat.reduceMul, reduceCtorEq, Int.reduceLE, Int.reduceLT, Int.reduceAdd, Int.reduceSub, Int.reduceNeg, Int.reduceToNat, Int.reduceBEq]
    repeat' (first | refine awp_seq ?_ | refine awp_block ?_ | refine awp_round ?_ | refine awp_text rfl ?_ | refine awp_any rfl mix (by kernel_rfl) ?_ | (refine RunTo.unguard rfl rfl (fun hg => ?_) (fun hg => ?_) <;> ((try simp only [Bool.not_true, Bool.not_false, Bool.not_eq_true', Bool.not_eq_false', Bool.not_eq_eq_eq_not] at hg); (first | (cases hg) | (simp only [hg]) | skip))) | ((first | refine RunTo.plain rfl ?_ | refine RunTo.skipped rfl ?_); simp only [go_sem, ↓reduceIte, Nat.reduceEqDiff, Nat.reduceAdd, Nat.reduceLeDiff, Nat.reduceBEq, Nat.reduceMul, reduceCtorEq, Int.reduceLE, Int.reduceLT, Int.reduceAdd, Int.reduceSub, Int.reduceNeg, Int.reduceToNat, Int.reduceBEq, AtomD.av, hd, hd2]) | ((first | refine RunTo.nil ⟨by kernel_rfl, ?_⟩ | refine RunTo.nil ?_ | refine awp_skip ?_ | refine awp_exit ?_); simp only [go_sem, ↓reduceIte, Nat.reduceEqDiff, Nat.reduceAdd, Nat.reduceLeDiff, Nat.reduceBEq, Nat.reduceMul, reduceCtorEq, Int.reduceLE, Int.reduceLT, Int.reduceAdd, Int.reduceSub, Int.reduceNeg, Int.reduceToNat, Int.reduceBEq, AtomD.av, hd, hd2]) | (refine awp_cond' rfl (of_decide_eq_true rfl) (fun hc => ?_) (fun hc => ?_) <;> ((try simp only [Bool.not_true, Bool.not_false, Bool.not_eq_true', Bool.not_eq_false', Bool.not_eq_eq_eq_not] at hc); (first | (cases hc) | (simp only [hc]) | skip))))
    all_goals
      (first | refine awp_ret ?_ | skip); refine ⟨(by first | exact .inl rfl | exact .inr rfl | exact .inr trivial | trivial), ?_⟩; simp only [go_sem, ↓reduceIte, Nat.reduceEqDiff, Nat.reduceAdd, Nat.reduceLeDiff, Nat.reduceBEq, Nat.reduceMul, reduceCtorEq, Int.reduceLE, Int.reduceLT, Int.reduceAdd, Int.reduceSub, Int.reduceNeg, Int.reduceToNat, Int.reduceBEq, retV, resL, resV, sealV, sealC, sealAll, Tryz.f40]
      have h : validA ⟨k, n, f, s⟩ = false := by unfold validA; simp only []; rw [if_neg (by omega), if_neg (by omega), if_neg (by omega), if_neg (by omega), if_neg (by omega)]
      rw [h]
  all_goals
    subst hk
    by_cases hs : s.toList = eE.toList
    · have hz : (s.toList == eE.toList) = true := by rw [hs]; exact beq_self_eq_true _
      have hsz : (s.size : Int) ≤ 256 := by rw [size_nil hs]; decide
      clear hs
      refine pure_of_awp Tryz.func40 rfl rfl (by simp [Tryz.f40]) ?_; simp only [go_sem, ↓reduceIte, Nat.reduceEqDiff, Nat.reduceAdd, Nat.reduceLeDiff, Nat.reduceBEq, Nat.reduceMul, reduceCtorEq, Int.reduceLE, Int.reduceLT, Int.reduceAdd, Int.reduceSub, Int.reduceNeg, Int.reduceToNat, Int.reduceBEq]
      repeat' (first | refine awp_seq ?_ | refine awp_block ?_ | refine awp_round ?_ | refine awp_text rfl ?_ | refine awp_any rfl mix (by kernel_rfl) ?_ | (refine RunTo.unguard rfl rfl (fun hg => ?_) (fun hg => ?_) <;> ((try simp only [Bool.not_true, Bool.not_false, Bool.not_eq_true', Bool.not_eq_false', Bool.not_eq_eq_eq_not] at hg); (first | (cases hg) | (simp only [hg]) | skip))) | ((first | refine RunTo.plain rfl ?_ | refine RunTo.skipped rfl ?_ | refine RunTo.call (c_rBits f) Tryz.func41 rfl rfl rfl rfl rfl rfl rfl rfl ?_ | refine RunTo.call (c_rCanon f hf') Tryz.func78 rfl rfl rfl rfl rfl rfl rfl rfl ?_); simp only [go_sem, ↓reduceIte, Nat.reduceEqDiff, Nat.reduceAdd, Nat.reduceLeDiff, Nat.reduceBEq, Nat.reduceMul, reduceCtorEq, Int.reduceLE, Int.reduceLT, Int.reduceAdd, Int.reduceSub, Int.reduceNeg, Int.reduceToNat, Int.reduceBEq, AtomD.av, bne_self_eq_false, hz, bne]) | ((first | refine RunTo.nil ⟨by kernel_rfl, ?_⟩ | refine RunTo.nil ?_ | refine awp_skip ?_ | refine awp_exit ?_); simp only [go_sem, ↓reduceIte, Nat.reduceEqDiff, Nat.reduceAdd, Nat.reduceLeDiff, Nat.reduceBEq, Nat.reduceMul, reduceCtorEq, Int.reduceLE, Int.reduceLT, Int.reduceAdd, Int.reduceSub, Int.reduceNeg, Int.reduceToNat, Int.reduceBEq, AtomD.av, bne_self_eq_false, hz, bne]) | (refine awp_cond' rfl (of_decide_eq_true rfl) (fun hc => ?_) (fun hc => ?_) <;> ((try simp only [Bool.not_true, Bool.not_false, Bool.not_eq_true', Bool.not_eq_false', Bool.not_eq_eq_eq_not] at hc); (first | (cases hc) | (simp only [hc]) | skip))))
      all_goals
        (first | refine awp_ret ?_ | skip); refine ⟨(by first | exact .inl rfl | exact .inr rfl | exact .inr trivial | trivial), ?_⟩; simp only [go_sem, ↓reduceIte, Nat.reduceEqDiff, Nat.reduceAdd, Nat.reduceLeDiff, Nat.reduceBEq, Nat.reduceMul, reduceCtorEq, Int.reduceLE, Int.reduceLT, Int.reduceAdd, Int.reduceSub, Int.reduceNeg, Int.reduceToNat, Int.reduceBEq, retV, resL, resV, sealV, sealC, sealAll, Tryz.f40]
        (try simp only [decide_eq_true_eq, decide_eq_false_iff_not, beq_iff_eq, bne_iff_ne, ne_eq, beq_eq_false_iff_ne, bne_eq_false_iff_eq, Bool.and_eq_true, Bool.or_eq_true, Bool.or_eq_false_iff, Bool.and_eq_false_iff] at *)
        unfold validA isA
        simp only [hz]
        first
        | (simp [*]; done)
        | (simp [*]; omega)
        | trace_state
    · have hz : (s.toList == eE.toList) = false := beq_false_of_ne hs
      clear hs
      refine pure_of_awp Tryz.func40 rfl rfl (by simp [Tryz.f40]) ?_; simp only [go_sem, ↓reduceIte, Nat.reduceEqDiff, Nat.reduceAdd, Nat.reduceLeDiff, Nat.reduceBEq, Nat.reduceMul, reduceCtorEq, Int.reduceLE, Int.reduceLT, Int.reduceAdd, Int.reduceSub, Int.reduceNeg, Int.reduceToNat, Int.reduceBEq]
      repeat' (first | refine awp_seq ?_ | refine awp_block ?_ | refine awp_round ?_ | refine awp_text rfl ?_ | refine awp_any rfl mix (by kernel_rfl) ?_ | (refine RunTo.unguard rfl rfl (fun hg => ?_) (fun hg => ?_) <;> ((try simp only [Bool.not_true, Bool.not_false, Bool.not_eq_true', Bool.not_eq_false', Bool.not_eq_eq_eq_not] at hg); (first | (cases hg) | (simp only [hg]) | skip))) | ((first | refine RunTo.plain rfl ?_ | refine RunTo.skipped rfl ?_ | refine RunTo.call (c_rBits f) Tryz.func41 rfl rfl rfl rfl rfl rfl rfl rfl ?_ | refine RunTo.call (c_rCanon f hf') Tryz.func78 rfl rfl rfl rfl rfl rfl rfl rfl ?_); simp only [go_sem, ↓reduceIte, Nat.reduceEqDiff, Nat.reduceAdd, Nat.reduceLeDiff, Nat.reduceBEq, Nat.reduceMul, reduceCtorEq, Int.reduceLE, Int.reduceLT, Int.reduceAdd, Int.reduceSub, Int.reduceNeg, Int.reduceToNat, Int.reduceBEq, AtomD.av, bne_self_eq_false, hz, bne]) | ((first | refine RunTo.nil ⟨by kernel_rfl, ?_⟩ | refine RunTo.nil ?_ | refine awp_skip ?_ | refine awp_exit ?_); simp only [go_sem, ↓reduceIte, Nat.reduceEqDiff, Nat.reduceAdd, Nat.reduceLeDiff, Nat.reduceBEq, Nat.reduceMul, reduceCtorEq, Int.reduceLE, Int.reduceLT, Int.reduceAdd, Int.reduceSub, Int.reduceNeg, Int.reduceToNat, Int.reduceBEq, AtomD.av, bne_self_eq_false, hz, bne]) | (refine awp_cond' rfl (of_decide_eq_true rfl) (fun hc => ?_) (fun hc => ?_) <;> ((try simp only [Bool.not_true, Bool.not_false, Bool.not_eq_true', Bool.not_eq_false', Bool.not_eq_eq_eq_not] at hc); (first | (cases hc) | (simp only [hc]) | skip))))
      all_goals
        (first | refine awp_ret ?_ | skip); refine ⟨(by first | exact .inl rfl | exact .inr rfl | exact .inr trivial | trivial), ?_⟩; simp only [go_sem, ↓reduceIte, Nat.reduceEqDiff, Nat.reduceAdd, Nat.reduceLeDiff, Nat.reduceBEq, Nat.reduceMul, reduceCtorEq, Int.reduceLE, Int.reduceLT, Int.reduceAdd, Int.reduceSub, Int.reduceNeg, Int.reduceToNat, Int.reduceBEq, retV, resL, resV, sealV, sealC, sealAll, Tryz.f40]
        (try simp only [decide_eq_true_eq, decide_eq_false_iff_not, beq_iff_eq, bne_iff_ne, ne_eq, beq_eq_false_iff_ne, bne_eq_false_iff_eq, Bool.and_eq_true, Bool.or_eq_true, Bool.or_eq_false_iff, Bool.and_eq_false_iff] at *)
        have hz2 : (s.toList == eE.toList) = false := beq_false_of_ne hz
        unfold validA isA
        simp only [hz2]
        first
        | (simp [*]; done)
        | (simp [*]; omega)
        | trace_state
end Go.Proofs.YtfeacmadnbajfaaGreatDoor.AM
namespace Go.Proofs.YtfeacmadnbajfaaGreatDoor.AM
open Go.RowKit
set_option linter.unusedSimpArgs false
set_option linter.unusedVariables false
set_option maxRecDepth 10000
set_option maxHeartbeats 0
def flV (v : ValD) : Prop := v.a.f < 18446744073709551616 ∧ ∀ a ∈ v.l, a.f < 18446744073709551616
abbrev cellsV (v : ValD) : List AV := [iv v.a.k, iv v.a.n, fv v.a.f, sv v.a.s, .dat (.lst 4 (v.l.map AtomD.enc))]
abbrev SW (v : ValD) (k T e : Nat) : St := ⟨[(3, iv k), (1, .ptr 1 e 0 0)], [(1, .box e (cellsV v))], T⟩
def IW (v : ValD) (n : Nat) (st : St) : Prop := ∃ k T e, k ≤ v.l.length ∧ n = v.l.length - k ∧ (v.l.take k).all validA = true ∧ st = SW v k T e
theorem c_rValid (v : ValD) (hf : flV v) : Pure Tryz.prog 13 [v.av] (bv (validV v)) := by
  have ha := c_rAtom v.a hf.1
  have hb := c_rBits v.a.f
  by_cases h6 : v.a.k = 6
  · have hk6 : (v.a.k == 6) = true := by simpa using h6
    refine pure_of_awp Tryz.func13 rfl rfl (by simp [Tryz.f13]) ?_; simp only [go_sem, ↓reduceIte, Nat.reduceEqDiff, Nat.reduceAdd, Nat.reduceLeDiff, Nat.reduceBEq, Nat.reduceMul, reduceCtorEq, Int.reduceLE, Int.reduceLT, Int.reduceAdd, Int.reduceSub, Int.reduceNeg, Int.reduceToNat, Int.reduceBEq]
    repeat' (first | refine awp_seq ?_ | refine awp_block ?_ | refine awp_round ?_ | refine awp_text rfl ?_ | refine awp_any rfl mix (by kernel_rfl) ?_ | (refine RunTo.unguard rfl rfl (fun hg => ?_) (fun hg => ?_) <;> ((try simp only [Bool.not_true, Bool.not_false, Bool.not_eq_true', Bool.not_eq_false', Bool.not_eq_eq_eq_not] at hg); (first | (cases hg) | (simp only [hg]) | skip))) | ((first | refine RunTo.plain rfl ?_ | refine RunTo.skipped rfl ?_ | refine RunTo.call (hb) Tryz.func41 rfl rfl rfl rfl rfl rfl rfl rfl ?_); simp only [go_sem, ↓reduceIte, Nat.reduceEqDiff, Nat.reduceAdd, Nat.reduceLeDiff, Nat.reduceBEq, Nat.reduceMul, reduceCtorEq, Int.reduceLE, Int.reduceLT, Int.reduceAdd, Int.reduceSub, Int.reduceNeg, Int.reduceToNat, Int.reduceBEq, ValD.av, bne, hk6, List.length_map]) | ((first | refine RunTo.nil ⟨by kernel_rfl, ?_⟩ | refine RunTo.nil ?_ | refine awp_skip ?_ | refine awp_exit ?_); simp only [go_sem, ↓reduceIte, Nat.reduceEqDiff, Nat.reduceAdd, Nat.reduceLeDiff, Nat.reduceBEq, Nat.reduceMul, reduceCtorEq, Int.reduceLE, Int.reduceLT, Int.reduceAdd, Int.reduceSub, Int.reduceNeg, Int.reduceToNat, Int.reduceBEq, ValD.av, bne, hk6, List.length_map]) | (refine awp_cond' rfl (of_decide_eq_true rfl) (fun hc => ?_) (fun hc => ?_) <;> ((try simp only [Bool.not_true, Bool.not_false, Bool.not_eq_true', Bool.not_eq_false', Bool.not_eq_eq_eq_not] at hc); (first | (cases hc) | (simp only [hc]) | skip))))
    · (first | refine awp_ret ?_ | skip); refine ⟨(by first | exact .inl rfl | exact .inr rfl | exact .inr trivial | trivial), ?_⟩; simp only [go_sem, ↓reduceIte, Nat.reduceEqDiff, Nat.reduceAdd, Nat.reduceLeDiff, Nat.reduceBEq, Nat.reduceMul, reduceCtorEq, Int.reduceLE, Int.reduceLT, Int.reduceAdd, Int.reduceSub, Int.reduceNeg, Int.reduceToNat, Int.reduceBEq, retV, resL, resV, sealV, sealC, sealAll, Tryz.f13]
      have hd : decide ((v.l.length : Int) ≤ 16) = false := by have := of_decide_eq_true hc; exact decide_eq_false (by omega)
      rw [validV_list h6, hd, Bool.and_false, Bool.false_and]
    · have hd : decide ((v.l.length : Int) ≤ 16) = true := by have := of_decide_eq_false hc; exact decide_eq_true (by omega)
      have hle : v.l.length ≤ 16 := by have := of_decide_eq_true hd; omega
      have hv : validV v = v.l.all validA := by
        rw [validV_list h6, hd, Bool.and_true]
        have : isA v.a false false false = true := by unfold isA; simp only [*, Bool.false_or, Bool.and_self]
        rw [this, Bool.true_and]
      refine awp_loopw (IW v) v.l.length (SW v 0 _ _) (weak_keep ⟨rfl, rfl, trivial⟩ ⟨rfl, trivial⟩ (Nat.le_refl _)) ⟨0, _, _, Nat.zero_le _, rfl, rfl, rfl⟩ ?_
      clear hg hc
      rintro n st ⟨k, T, e, hk, rfl, hall, rfl⟩
      by_cases hlt : k < v.l.length
      · have hdec := lt_t hlt
        have hget := row_at AtomD.enc v.l k hlt
        have hfa := hf.2 _ (List.getElem_mem hlt)
        have hmem := List.getElem_mem hlt
        have htk := all_take validA v.l k hlt
        have hwk : IntKind.i64.wrap ((k : Int) + 1) = ((k + 1 : Nat) : Int) := wrap_succ (by omega)
        generalize v.l[k] = a at *
        have hca := c_rAtom a hfa
        repeat' (first | refine awp_seq ?_ | refine awp_block ?_ | refine awp_round ?_ | refine awp_text rfl ?_ | refine awp_any rfl mix (by kernel_rfl) ?_ | (refine RunTo.unguard rfl rfl (fun hg => ?_) (fun hg => ?_) <;> ((try simp only [Bool.not_true, Bool.not_false, Bool.not_eq_true', Bool.not_eq_false', Bool.not_eq_eq_eq_not] at hg); (first | (cases hg) | (simp only [hg]) | skip))) | ((first | refine RunTo.plain rfl ?_ | refine RunTo.skipped rfl ?_ | refine RunTo.call (hca) Tryz.func40 rfl rfl rfl rfl rfl rfl rfl rfl ?_); simp only [go_sem, ↓reduceIte, Nat.reduceEqDiff, Nat.reduceAdd, Nat.reduceLeDiff, Nat.reduceBEq, Nat.reduceMul, reduceCtorEq, Int.reduceLE, Int.reduceLT, Int.reduceAdd, Int.reduceSub, Int.reduceNeg, Int.reduceToNat, Int.reduceBEq, hdec, hget, AtomD.enc, hwk, List.length_map]) | ((first | refine RunTo.nil ⟨by kernel_rfl, ?_⟩ | refine RunTo.nil ?_ | refine awp_skip ?_ | refine awp_exit ?_); simp only [go_sem, ↓reduceIte, Nat.reduceEqDiff, Nat.reduceAdd, Nat.reduceLeDiff, Nat.reduceBEq, Nat.reduceMul, reduceCtorEq, Int.reduceLE, Int.reduceLT, Int.reduceAdd, Int.reduceSub, Int.reduceNeg, Int.reduceToNat, Int.reduceBEq, hdec, hget, AtomD.enc, hwk, List.length_map]) | (refine awp_cond' rfl (of_decide_eq_true rfl) (fun hc => ?_) (fun hc => ?_) <;> ((try simp only [Bool.not_true, Bool.not_false, Bool.not_eq_true', Bool.not_eq_false', Bool.not_eq_eq_eq_not] at hc); (first | (cases hc) | (simp only [hc]) | skip))))
        all_goals
          (try simp only [decide_eq_true_eq, decide_eq_false_iff_not, beq_iff_eq, bne_iff_ne, ne_eq, beq_eq_false_iff_ne, bne_eq_false_iff_eq, Bool.and_eq_true, Bool.or_eq_true, Bool.or_eq_false_iff, Bool.and_eq_false_iff] at *)
          first
          | exact ⟨v.l.length - (k + 1), by omega, SW v (k + 1) _ e, weak_keep ⟨rfl, rfl, trivial⟩ ⟨rfl, trivial⟩ (Nat.le_refl _), k + 1, _, _, by omega, rfl, by rw [htk, hall]; simp [*], rfl⟩
          | (have h2 : v.l.all validA = false := by
               cases hh : v.l.all validA with
               | false => rfl
               | true => have := List.all_eq_true.1 hh a hmem; simp_all
             rw [hv, h2]
             (first | refine awp_ret ?_ | skip); refine ⟨(by first | exact .inl rfl | exact .inr rfl | exact .inr trivial | trivial), ?_⟩; simp only [go_sem, ↓reduceIte, Nat.reduceEqDiff, Nat.reduceAdd, Nat.reduceLeDiff, Nat.reduceBEq, Nat.reduceMul, reduceCtorEq, Int.reduceLE, Int.reduceLT, Int.reduceAdd, Int.reduceSub, Int.reduceNeg, Int.reduceToNat, Int.reduceBEq, retV, resL, resV, sealV, sealC, sealAll, Tryz.f13])
      · have hdec := lt_f hlt
        rw [List.take_of_length_le (by omega)] at hall
        repeat' (first | refine awp_seq ?_ | refine awp_block ?_ | refine awp_round ?_ | refine awp_text rfl ?_ | refine awp_any rfl mix (by kernel_rfl) ?_ | (refine RunTo.unguard rfl rfl (fun hg => ?_) (fun hg => ?_) <;> ((try simp only [Bool.not_true, Bool.not_false, Bool.not_eq_true', Bool.not_eq_false', Bool.not_eq_eq_eq_not] at hg); (first | (cases hg) | (simp only [hg]) | skip))) | ((first | refine RunTo.plain rfl ?_ | refine RunTo.skipped rfl ?_); simp only [go_sem, ↓reduceIte, Nat.reduceEqDiff, Nat.reduceAdd, Nat.reduceLeDiff, Nat.reduceBEq, Nat.reduceMul, reduceCtorEq, Int.reduceLE, Int.reduceLT, Int.reduceAdd, Int.reduceSub, Int.reduceNeg, Int.reduceToNat, Int.reduceBEq, hdec, List.length_map]) | ((first | refine RunTo.nil ⟨by kernel_rfl, ?_⟩ | refine RunTo.nil ?_ | refine awp_skip ?_ | refine awp_exit ?_); simp only [go_sem, ↓reduceIte, Nat.reduceEqDiff, Nat.reduceAdd, Nat.reduceLeDiff, Nat.reduceBEq, Nat.reduceMul, reduceCtorEq, Int.reduceLE, Int.reduceLT, Int.reduceAdd, Int.reduceSub, Int.reduceNeg, Int.reduceToNat, Int.reduceBEq, hdec, List.length_map]) | (refine awp_cond' rfl (of_decide_eq_true rfl) (fun hc => ?_) (fun hc => ?_) <;> ((try simp only [Bool.not_true, Bool.not_false, Bool.not_eq_true', Bool.not_eq_false', Bool.not_eq_eq_eq_not] at hc); (first | (cases hc) | (simp only [hc]) | skip))))
        all_goals
          (first | refine awp_ret ?_ | skip); refine ⟨(by first | exact .inl rfl | exact .inr rfl | exact .inr trivial | trivial), ?_⟩; simp only [go_sem, ↓reduceIte, Nat.reduceEqDiff, Nat.reduceAdd, Nat.reduceLeDiff, Nat.reduceBEq, Nat.reduceMul, reduceCtorEq, Int.reduceLE, Int.reduceLT, Int.reduceAdd, Int.reduceSub, Int.reduceNeg, Int.reduceToNat, Int.reduceBEq, retV, resL, resV, sealV, sealC, sealAll, Tryz.f13]
          rw [hv, hall]
    · (first | refine awp_ret ?_ | skip); refine ⟨(by first | exact .inl rfl | exact .inr rfl | exact .inr trivial | trivial), ?_⟩; simp only [go_sem, ↓reduceIte, Nat.reduceEqDiff, Nat.reduceAdd, Nat.reduceLeDiff, Nat.reduceBEq, Nat.reduceMul, reduceCtorEq, Int.reduceLE, Int.reduceLT, Int.reduceAdd, Int.reduceSub, Int.reduceNeg, Int.reduceToNat, Int.reduceBEq, retV, resL, resV, sealV, sealC, sealAll, Tryz.f13]
      rw [validV_list h6]
      unfold isA
      simp only [*, Bool.false_or, Bool.and_false, Bool.false_and, Bool.and_true]
    · (first | refine awp_ret ?_ | skip); refine ⟨(by first | exact .inl rfl | exact .inr rfl | exact .inr trivial | trivial), ?_⟩; simp only [go_sem, ↓reduceIte, Nat.reduceEqDiff, Nat.reduceAdd, Nat.reduceLeDiff, Nat.reduceBEq, Nat.reduceMul, reduceCtorEq, Int.reduceLE, Int.reduceLT, Int.reduceAdd, Int.reduceSub, Int.reduceNeg, Int.reduceToNat, Int.reduceBEq, retV, resL, resV, sealV, sealC, sealAll, Tryz.f13]
      rw [validV_list h6]
      unfold isA
      simp only [*, Bool.false_or, Bool.and_false, Bool.false_and, Bool.and_true]
    · (first | refine awp_ret ?_ | skip); refine ⟨(by first | exact .inl rfl | exact .inr rfl | exact .inr trivial | trivial), ?_⟩; simp only [go_sem, ↓reduceIte, Nat.reduceEqDiff, Nat.reduceAdd, Nat.reduceLeDiff, Nat.reduceBEq, Nat.reduceMul, reduceCtorEq, Int.reduceLE, Int.reduceLT, Int.reduceAdd, Int.reduceSub, Int.reduceNeg, Int.reduceToNat, Int.reduceBEq, retV, resL, resV, sealV, sealC, sealAll, Tryz.f13]
      rw [validV_list h6]
      unfold isA
      simp only [*, Bool.false_or, Bool.and_false, Bool.false_and, Bool.and_true]
  · have hk6 : (v.a.k == 6) = false := by simpa using h6
    refine pure_of_awp Tryz.func13 rfl rfl (by simp [Tryz.f13]) ?_; simp only [go_sem, ↓reduceIte, Nat.reduceEqDiff, Nat.reduceAdd, Nat.reduceLeDiff, Nat.reduceBEq, Nat.reduceMul, reduceCtorEq, Int.reduceLE, Int.reduceLT, Int.reduceAdd, Int.reduceSub, Int.reduceNeg, Int.reduceToNat, Int.reduceBEq]
    repeat' (first | refine awp_seq ?_ | refine awp_block ?_ | refine awp_round ?_ | refine awp_text rfl ?_ | refine awp_any rfl mix (by kernel_rfl) ?_ | (refine RunTo.unguard rfl rfl (fun hg => ?_) (fun hg => ?_) <;> ((try simp only [Bool.not_true, Bool.not_false, Bool.not_eq_true', Bool.not_eq_false', Bool.not_eq_eq_eq_not] at hg); (first | (cases hg) | (simp only [hg]) | skip))) | ((first | refine RunTo.plain rfl ?_ | refine RunTo.skipped rfl ?_ | refine RunTo.call (ha) Tryz.func40 rfl rfl rfl rfl rfl rfl rfl rfl ?_); simp only [go_sem, ↓reduceIte, Nat.reduceEqDiff, Nat.reduceAdd, Nat.reduceLeDiff, Nat.reduceBEq, Nat.reduceMul, reduceCtorEq, Int.reduceLE, Int.reduceLT, Int.reduceAdd, Int.reduceSub, Int.reduceNeg, Int.reduceToNat, Int.reduceBEq, ValD.av, bne, hk6, List.length_map]) | ((first | refine RunTo.nil ⟨by kernel_rfl, ?_⟩ | refine RunTo.nil ?_ | refine awp_skip ?_ | refine awp_exit ?_); simp only [go_sem, ↓reduceIte, Nat.reduceEqDiff, Nat.reduceAdd, Nat.reduceLeDiff, Nat.reduceBEq, Nat.reduceMul, reduceCtorEq, Int.reduceLE, Int.reduceLT, Int.reduceAdd, Int.reduceSub, Int.reduceNeg, Int.reduceToNat, Int.reduceBEq, ValD.av, bne, hk6, List.length_map]) | (refine awp_cond' rfl (of_decide_eq_true rfl) (fun hc => ?_) (fun hc => ?_) <;> ((try simp only [Bool.not_true, Bool.not_false, Bool.not_eq_true', Bool.not_eq_false', Bool.not_eq_eq_eq_not] at hc); (first | (cases hc) | (simp only [hc]) | skip))))
    all_goals
      (first | refine awp_ret ?_ | skip); refine ⟨(by first | exact .inl rfl | exact .inr rfl | exact .inr trivial | trivial), ?_⟩; simp only [go_sem, ↓reduceIte, Nat.reduceEqDiff, Nat.reduceAdd, Nat.reduceLeDiff, Nat.reduceBEq, Nat.reduceMul, reduceCtorEq, Int.reduceLE, Int.reduceLT, Int.reduceAdd, Int.reduceSub, Int.reduceNeg, Int.reduceToNat, Int.reduceBEq, retV, resL, resV, sealV, sealC, sealAll, Tryz.f13]
      rw [validV_atom h6]
      simp [*]
end Go.Proofs.YtfeacmadnbajfaaGreatDoor.AM
namespace Go.Proofs.YtfeacmadnbajfaaGreatDoor.AM
open Go.RowKit
set_option linter.unusedSimpArgs false
set_option linter.unusedVariables false
set_option maxRecDepth 10000
set_option maxHeartbeats 0
abbrev xV (v : ValD) : VX := ⟨v.a, v.l, .lst 4 (v.l.map AtomD.enc), .refl _, rfl⟩
abbrev cellsX (v : VX) : List AV := [iv v.a.k, iv v.a.n, fv v.a.f, sv v.a.s, .dat v.d]
theorem c_ask (x y : VX) (op n : Int) (hh : Pure Tryz.prog 11 [.dat (.lst 8 (rows3 x y op)), .lit (.map none)] (.tup [bv (n == 1), iv 0])) :
    Acts Tryz.prog 14 [iv op, .ptr 1001 0 0 0, .ptr 1002 0 0 0] [(1001, .box 0 (cellsX x)), (1002, .box 0 (cellsX y))] (iv (if n = 1 then 1 else 0)) [(1001, .box 0 (cellsX x)), (1002, .box 0 (cellsX y))] := by
  refine acts_of_awp ([(1001, 1001), (1002, 1002)]) Tryz.func14 rfl rfl (by simp [Tryz.f14]) ?_; simp only [go_sem, ↓reduceIte, Nat.reduceEqDiff, Nat.reduceAdd, Nat.reduceLeDiff, Nat.reduceBEq, Nat.reduceMul, reduceCtorEq, Int.reduceLE, Int.reduceLT, Int.reduceAdd, Int.reduceSub, Int.reduceNeg, Int.reduceToNat, Int.reduceBEq]
  repeat' (first | refine awp_seq ?_ | refine awp_block ?_ | refine awp_round ?_ | refine awp_text rfl ?_ | refine awp_any rfl mix (by kernel_rfl) ?_ | (refine RunTo.unguard rfl rfl (fun hg => ?_) (fun hg => ?_) <;> ((try simp only [Bool.not_true, Bool.not_false, Bool.not_eq_true', Bool.not_eq_false', Bool.not_eq_eq_eq_not] at hg); (first | (cases hg) | (simp only [hg]) | skip))) | ((first | refine RunTo.plain rfl ?_ | refine RunTo.skipped rfl ?_ | refine RunTo.call (c_litX x) Tryz.func9 rfl rfl rfl rfl rfl rfl rfl rfl ?_ | refine RunTo.call (c_litX y) Tryz.func9 rfl rfl rfl rfl rfl rfl rfl rfl ?_); simp only [go_sem, ↓reduceIte, Nat.reduceEqDiff, Nat.reduceAdd, Nat.reduceLeDiff, Nat.reduceBEq, Nat.reduceMul, reduceCtorEq, Int.reduceLE, Int.reduceLT, Int.reduceAdd, Int.reduceSub, Int.reduceNeg, Int.reduceToNat, Int.reduceBEq, VX.av, ↓VX.cb, List.size_toArray]) | (refine RunTo.lentE (hh) Tryz.func11 rfl rfl rfl rfl rfl rfl ?_; simp only [go_sem, ↓reduceIte, Nat.reduceEqDiff, Nat.reduceAdd, Nat.reduceLeDiff, Nat.reduceBEq, Nat.reduceMul, reduceCtorEq, Int.reduceLE, Int.reduceLT, Int.reduceAdd, Int.reduceSub, Int.reduceNeg, Int.reduceToNat, Int.reduceBEq, VX.av, ↓VX.cb, List.size_toArray, Option.some.injEq, List.cons.injEq]; (repeat' refine And.intro rfl ?_); with_reducible refine RunTo.this ?_) | ((first | refine RunTo.nil ⟨by kernel_rfl, ?_⟩ | refine RunTo.nil ?_ | refine awp_skip ?_ | refine awp_exit ?_); simp only [go_sem, ↓reduceIte, Nat.reduceEqDiff, Nat.reduceAdd, Nat.reduceLeDiff, Nat.reduceBEq, Nat.reduceMul, reduceCtorEq, Int.reduceLE, Int.reduceLT, Int.reduceAdd, Int.reduceSub, Int.reduceNeg, Int.reduceToNat, Int.reduceBEq, VX.av, ↓VX.cb, List.size_toArray]) | (refine awp_cond' rfl (of_decide_eq_true rfl) (fun hc => ?_) (fun hc => ?_) <;> ((try simp only [Bool.not_true, Bool.not_false, Bool.not_eq_true', Bool.not_eq_false', Bool.not_eq_eq_eq_not] at hc); (first | (cases hc) | (simp only [hc]) | skip))))
  all_goals
    (try simp only [decide_eq_true_eq, decide_eq_false_iff_not, beq_iff_eq, bne_iff_ne, ne_eq, beq_eq_false_iff_ne, bne_eq_false_iff_eq, Bool.and_eq_true, Bool.or_eq_true, Bool.or_eq_false_iff, Bool.and_eq_false_iff] at *)
    (first | refine awp_ret ?_ | skip); refine ⟨(by first | exact .inl rfl | exact .inr rfl | exact .inr trivial | trivial), _, rfl, rfl, rfl, ?_, ?_⟩ <;> (try simp only [go_sem, ↓reduceIte, Nat.reduceEqDiff, Nat.reduceAdd, Nat.reduceLeDiff, Nat.reduceBEq, Nat.reduceMul, reduceCtorEq, Int.reduceLE, Int.reduceLT, Int.reduceAdd, Int.reduceSub, Int.reduceNeg, Int.reduceToNat, Int.reduceBEq, VX.av])
    try simp [*]
def numF (v : VX) : Bool := v.a.k == 2 || (v.a.k == 3 && (ordF v.a.f v.a.f == some .eq))
theorem c_numF (v : VX) : Acts Tryz.prog 15 [v.av] [] (bv (numF v)) [] := by
  refine acts_of_awp ([]) Tryz.func15 rfl rfl (by simp [Tryz.f15]) ?_; simp only [go_sem, ↓reduceIte, Nat.reduceEqDiff, Nat.reduceAdd, Nat.reduceLeDiff, Nat.reduceBEq, Nat.reduceMul, reduceCtorEq, Int.reduceLE, Int.reduceLT, Int.reduceAdd, Int.reduceSub, Int.reduceNeg, Int.reduceToNat, Int.reduceBEq]
  repeat' (first | refine awp_seq ?_ | refine awp_block ?_ | refine awp_round ?_ | refine awp_text rfl ?_ | refine awp_any rfl mix (by kernel_rfl) ?_ | (refine RunTo.unguard rfl rfl (fun hg => ?_) (fun hg => ?_) <;> ((try simp only [Bool.not_true, Bool.not_false, Bool.not_eq_true', Bool.not_eq_false', Bool.not_eq_eq_eq_not] at hg); (first | (cases hg) | (simp only [hg]) | skip))) | ((first | refine RunTo.plain rfl ?_ | refine RunTo.skipped rfl ?_); simp only [go_sem, ↓reduceIte, Nat.reduceEqDiff, Nat.reduceAdd, Nat.reduceLeDiff, Nat.reduceBEq, Nat.reduceMul, reduceCtorEq, Int.reduceLE, Int.reduceLT, Int.reduceAdd, Int.reduceSub, Int.reduceNeg, Int.reduceToNat, Int.reduceBEq, VX.av, ↓VX.cb]) | ((first | refine RunTo.nil ⟨by kernel_rfl, ?_⟩ | refine RunTo.nil ?_ | refine awp_skip ?_ | refine awp_exit ?_); simp only [go_sem, ↓reduceIte, Nat.reduceEqDiff, Nat.reduceAdd, Nat.reduceLeDiff, Nat.reduceBEq, Nat.reduceMul, reduceCtorEq, Int.reduceLE, Int.reduceLT, Int.reduceAdd, Int.reduceSub, Int.reduceNeg, Int.reduceToNat, Int.reduceBEq, VX.av, ↓VX.cb]) | (refine awp_cond' rfl (of_decide_eq_true rfl) (fun hc => ?_) (fun hc => ?_) <;> ((try simp only [Bool.not_true, Bool.not_false, Bool.not_eq_true', Bool.not_eq_false', Bool.not_eq_eq_eq_not] at hc); (first | (cases hc) | (simp only [hc]) | skip))))
  all_goals
    (first | refine awp_ret ?_ | skip); refine ⟨(by first | exact .inl rfl | exact .inr rfl | exact .inr trivial | trivial), _, rfl, rfl, rfl, ?_, ?_⟩ <;> (try simp only [go_sem, ↓reduceIte, Nat.reduceEqDiff, Nat.reduceAdd, Nat.reduceLeDiff, Nat.reduceBEq, Nat.reduceMul, reduceCtorEq, Int.reduceLE, Int.reduceLT, Int.reduceAdd, Int.reduceSub, Int.reduceNeg, Int.reduceToNat, Int.reduceBEq, VX.av])
    try simp [numF, ordF, *]
theorem truth_told (n : Int) : (truthX (toldX n) == 1) = (n == 1) := by
  unfold toldX
  by_cases h2 : n = 2
  · rw [if_pos h2, h2]; rfl
  · rw [if_neg h2]
    by_cases h1 : n = 1
    · rw [h1]; rfl
    · have : (n == 1) = false := by simpa using h1
      rw [this]; rfl
theorem numF_num {v : VX} (h : numF v = true) : numA v.a = true ∧ nanA v.a = false := by
  unfold numF at h
  unfold numA nanA
  simp only [Bool.or_eq_true, Bool.and_eq_true, beq_iff_eq] at h
  rcases h with h | ⟨h, h'⟩
  · exact ⟨by simp [h], by simp [h]⟩
  · refine ⟨by simp [h], ?_⟩
    have : clsF v.a.f ≠ 0 := by
      unfold clsF
      rw [if_neg (by rw [h']; simp)]
      (repeat' split) <;> decide
    simp [this]
theorem hold_ask (x y : VX) (op e l m : Int) (hx : goodV x.v) (hy : goodV y.v) (kx : x.a.k ≠ 6) (ky : y.a.k ≠ 6) (h1 : 8 ≤ op) (h2 : op ≤ 13) (ce : Pure Tryz.prog 72 [x.av, y.av] (iv e)) (cl : Pure Tryz.prog 73 [x.av, y.av] (iv l)) (cm : Pure Tryz.prog 73 [y.av, x.av] (iv m)) :
    Acts Tryz.prog 14 [iv op, .ptr 1001 0 0 0, .ptr 1002 0 0 0] [(1001, .box 0 (cellsX x)), (1002, .box 0 (cellsX y))] (iv (if askN op e l m (nanA x.a || nanA y.a) = 1 then 1 else 0)) [(1001, .box 0 (cellsX x)), (1002, .box 0 (cellsX y))] := by
  refine c_ask x y op _ ?_
  have := c_Holds3 (rows3 x y op) _ (show 0 < 3 by decide) (c_Eval3 x y _ op hx hy kx ky h1 h2 (c_twoC x y op e l m ⟨h1, h2⟩ ce cl cm))
  rw [truth_told] at this
  exact this
end Go.Proofs.YtfeacmadnbajfaaGreatDoor.AM
