/- Part 8 of the proof: words, contracts, plain laws. Laid by a program of this session (wip/tool/shake.py): what is needed of own and printed texts, in order. -/
import Derived.Test.YtlpfdgkfdgehnaaDoorZb0
import Derived.Test.YtlpfdgkfdgehnaaDoorZb1
import Derived.Test.YtlpfdgkfdgehnaaDoorZb2
import Derived.Test.YtlpfdgkfdgehnaaDoorZb3
import Derived.Test.YtlpfdgkfdgehnaaDoorZb5
import Derived.Test.YtlpfdgkfdgehnaaDoorZb6
import Derived.Test.YtlpfdgkfdgehnaaDoorZb7
import Derived.Calls
import Derived.Lib.ItoaNum
import Derived.Orders
import Derived.Tactics
import Derived.Below
import Derived.Laws.Rows
import Derived.Laws.World
import Derived.Laws.CopyRow
import Derived.Lib.FrozenHead
import Derived.Deep.AppendSrc
import Derived.Deep.Upon
import Derived.Laws.BytesArg
import Derived.IntWalk
import Derived.Laws.Externs
import Derived.LoopN
import Derived.Scope
import Derived.Test.YtlpfdgkfdgehnaaDoorProg
import Derived.KernelRfl
import Derived.MapKept
import Derived.Lib.ItoaLen
import Derived.Lib.Join
import Derived.RegionTactic
import Derived.Lib.AppendIntMem
import Derived.Shelf.Strings.Builder1
import Derived.Shelf.Strings.Builder2
import Derived.Shelf.Strings.OnBuilder
import Derived.Shelf.Small.Wraps
import Derived.Shelf.Strings.BuilderF
import Derived.Shelf.Strings.BuilderK
import Derived.Shelf.Strings.Builder2Cap
import Derived.Shelf.Strconv.Itoa0
import Derived.Shelf.Strconv.Itoa1
import Derived.Shelf.LaysM
import Derived.Shelf.Strconv.Itoa2
import Derived.Shelf.Strconv.Itoa3
import Derived.Shelf.Strings.BuilderCap
import Derived.Shelf.Slices.Turned
import Derived.Laws.FloatBits
import Derived.Lib.ItoaMem
import Derived.Laws.StructEq
namespace Go.Proofs.YtlpfdgkfdgehnaaDoor.AM
open Go.RowKit
set_option linter.unusedSimpArgs false
set_option linter.unusedVariables false
set_option maxRecDepth 10000
set_option maxHeartbeats 0
theorem c_Few (q : QueryD) (hq : BigQ q) : Pure Tryd.prog 4 [q.av] (iv (if fewN q < 5000 then 1 else 0)) := by
  have h1 := hq.nspots
  have h2 := hq.nhops
  have h3 := hq.nitems
  have h4 := hq.nsorts
  have wsz := c_sizeL q.wh hq.wh.len hq.wh.terms
  obtain ⟨F, hF⟩ : ∃ F : Int, F = (if fewN q < 5000 then 1 else 0) := ⟨_, rfl⟩
  rw [← hF]
  refine pure_of_awp Tryd.func4 rfl rfl (by simp [Tryd.f4]) ?_; simp only [go_sem, ↓reduceIte, Nat.reduceEqDiff, Nat.reduceAdd, Nat.reduceLeDiff, Nat.reduceBEq, Nat.reduceMul, reduceCtorEq, Int.reduceLE, Int.reduceLT, Int.reduceAdd, Int.reduceSub, Int.reduceNeg, Int.reduceToNat, Int.reduceBEq]
  refine hideQ3 (α := Nat) (fun _ => True) (fun T => SF q (cutS (lenW q) q.spots) T) ?_ ?_
  · intro T _
    have hlw : lenW q ≤ 40000000000000000 := by unfold lenW; omega
    have hcs := cutS_le q.spots (lenW q) hq.spots (by omega)
    unfold fewN at hF
    generalize cutS (lenW q) q.spots = n1 at *
    have hch := cutF_le hopW 100000000000000000 q.hops n1 hq.hops (by omega)
    refine hideQ1 (fun T => SF q (cutF hopW n1 q.hops) T) ?_ ?_
    · intro T
      generalize cutF hopW n1 q.hops = n2 at *
      have hci := cutF_le itemW 100000000000005000 q.items n2 (fun x hx => bigL_le (hq.items x hx)) (by omega)
      refine hideQ1 (fun T => SF q (cutF itemW n2 q.items) T) ?_ ?_
      · intro T
        generalize cutF itemW n2 q.items = n3 at *
        have hcw := bigL_le hq.wh
        generalize cutF termW 0 q.wh = n4 at *
        have u1 := wN (a := n3) (b := n4) (by unfold BIG; omega)
        by_cases hf : n3 + n4 < 5000
        · have d5 : decide (((n3 + n4 : Nat) : Int) < 5000) = true := decide_eq_true (by omega)
          rw [hF, if_pos hf]
          repeat' (first | refine awp_seq ?_ | refine awp_block ?_ | refine awp_round ?_ | refine awp_scope ?_ | refine awp_text rfl ?_ | refine awp_any rfl mix (by kernel_rfl) ?_ | (refine RunTo.unguard rfl rfl (fun hg => ?_) (fun hg => ?_) <;> ((try simp only [Bool.not_true, Bool.not_false, Bool.not_eq_true', Bool.not_eq_false', Bool.not_eq_eq_eq_not] at hg); (first | (cases hg) | (simp only [hg]) | skip))) | ((first | refine RunTo.plain rfl ?_ | refine RunTo.skipped rfl ?_ | refine RunTo.call (wsz) Tryd.func9 rfl rfl rfl rfl rfl rfl rfl rfl ?_); simp only [go_sem, ↓reduceIte, Nat.reduceEqDiff, Nat.reduceAdd, Nat.reduceLeDiff, Nat.reduceBEq, Nat.reduceMul, reduceCtorEq, Int.reduceLE, Int.reduceLT, Int.reduceAdd, Int.reduceSub, Int.reduceNeg, Int.reduceToNat, Int.reduceBEq, u1, d5]) | ((first | refine RunTo.nilA (by kernel_rfl) ?_ | refine RunTo.nilT ?_ | refine awp_skip ?_ | refine awp_exit ?_ | refine awp_label ?_); simp only [go_sem, ↓reduceIte, Nat.reduceEqDiff, Nat.reduceAdd, Nat.reduceLeDiff, Nat.reduceBEq, Nat.reduceMul, reduceCtorEq, Int.reduceLE, Int.reduceLT, Int.reduceAdd, Int.reduceSub, Int.reduceNeg, Int.reduceToNat, Int.reduceBEq, u1, d5]) | (refine awp_cond' rfl (of_decide_eq_true rfl) (fun hc => ?_) (fun hc => ?_) <;> ((try simp only [Bool.not_true, Bool.not_false, Bool.not_eq_true', Bool.not_eq_false', Bool.not_eq_eq_eq_not] at hc); (first | (cases hc) | (simp only [hc]) | skip))))
          all_goals (first | refine awp_ret ?_ | skip); refine ⟨(by first | exact .inl rfl | exact .inr rfl | exact .inr trivial | trivial), ?_⟩; simp only [go_sem, ↓reduceIte, Nat.reduceEqDiff, Nat.reduceAdd, Nat.reduceLeDiff, Nat.reduceBEq, Nat.reduceMul, reduceCtorEq, Int.reduceLE, Int.reduceLT, Int.reduceAdd, Int.reduceSub, Int.reduceNeg, Int.reduceToNat, Int.reduceBEq, retV, resL, resV, sealV, sealC, sealAll, Tryd.f4]
          all_goals rfl
        · have d5 : decide (((n3 + n4 : Nat) : Int) < 5000) = false := decide_eq_false (by omega)
          rw [hF, if_neg hf]
          repeat' (first | refine awp_seq ?_ | refine awp_block ?_ | refine awp_round ?_ | refine awp_scope ?_ | refine awp_text rfl ?_ | refine awp_any rfl mix (by kernel_rfl) ?_ | (refine RunTo.unguard rfl rfl (fun hg => ?_) (fun hg => ?_) <;> ((try simp only [Bool.not_true, Bool.not_false, Bool.not_eq_true', Bool.not_eq_false', Bool.not_eq_eq_eq_not] at hg); (first | (cases hg) | (simp only [hg]) | skip))) | ((first | refine RunTo.plain rfl ?_ | refine RunTo.skipped rfl ?_ | refine RunTo.call (wsz) Tryd.func9 rfl rfl rfl rfl rfl rfl rfl rfl ?_); simp only [go_sem, ↓reduceIte, Nat.reduceEqDiff, Nat.reduceAdd, Nat.reduceLeDiff, Nat.reduceBEq, Nat.reduceMul, reduceCtorEq, Int.reduceLE, Int.reduceLT, Int.reduceAdd, Int.reduceSub, Int.reduceNeg, Int.reduceToNat, Int.reduceBEq, u1, d5]) | ((first | refine RunTo.nilA (by kernel_rfl) ?_ | refine RunTo.nilT ?_ | refine awp_skip ?_ | refine awp_exit ?_ | refine awp_label ?_); simp only [go_sem, ↓reduceIte, Nat.reduceEqDiff, Nat.reduceAdd, Nat.reduceLeDiff, Nat.reduceBEq, Nat.reduceMul, reduceCtorEq, Int.reduceLE, Int.reduceLT, Int.reduceAdd, Int.reduceSub, Int.reduceNeg, Int.reduceToNat, Int.reduceBEq, u1, d5]) | (refine awp_cond' rfl (of_decide_eq_true rfl) (fun hc => ?_) (fun hc => ?_) <;> ((try simp only [Bool.not_true, Bool.not_false, Bool.not_eq_true', Bool.not_eq_false', Bool.not_eq_eq_eq_not] at hc); (first | (cases hc) | (simp only [hc]) | skip))))
          all_goals (first | refine awp_ret ?_ | skip); refine ⟨(by first | exact .inl rfl | exact .inr rfl | exact .inr trivial | trivial), ?_⟩; simp only [go_sem, ↓reduceIte, Nat.reduceEqDiff, Nat.reduceAdd, Nat.reduceLeDiff, Nat.reduceBEq, Nat.reduceMul, reduceCtorEq, Int.reduceLE, Int.reduceLT, Int.reduceAdd, Int.reduceSub, Int.reduceNeg, Int.reduceToNat, Int.reduceBEq, retV, resL, resV, sealV, sealC, sealAll, Tryd.f4]
          all_goals rfl
      · intro R' main
        generalize hR : cutF itemW n2 q.items = R at *
        repeat' (first | refine awp_seq ?_ | refine awp_block ?_ | refine awp_round ?_ | refine awp_scope ?_ | refine awp_text rfl ?_ | refine awp_any rfl mix (by kernel_rfl) ?_ | (refine RunTo.unguard rfl rfl (fun hg => ?_) (fun hg => ?_) <;> ((try simp only [Bool.not_true, Bool.not_false, Bool.not_eq_true', Bool.not_eq_false', Bool.not_eq_eq_eq_not] at hg); (first | (cases hg) | (simp only [hg]) | skip))) | ((first | refine RunTo.plain rfl ?_ | refine RunTo.skipped rfl ?_); simp only [go_sem, ↓reduceIte, Nat.reduceEqDiff, Nat.reduceAdd, Nat.reduceLeDiff, Nat.reduceBEq, Nat.reduceMul, reduceCtorEq, Int.reduceLE, Int.reduceLT, Int.reduceAdd, Int.reduceSub, Int.reduceNeg, Int.reduceToNat, Int.reduceBEq, List.length_map]) | ((first | refine RunTo.nilA (by kernel_rfl) ?_ | refine RunTo.nilT ?_ | refine awp_skip ?_ | refine awp_exit ?_ | refine awp_label ?_); simp only [go_sem, ↓reduceIte, Nat.reduceEqDiff, Nat.reduceAdd, Nat.reduceLeDiff, Nat.reduceBEq, Nat.reduceMul, reduceCtorEq, Int.reduceLE, Int.reduceLT, Int.reduceAdd, Int.reduceSub, Int.reduceNeg, Int.reduceToNat, Int.reduceBEq, List.length_map]) | (refine awp_cond' rfl (of_decide_eq_true rfl) (fun hc => ?_) (fun hc => ?_) <;> ((try simp only [Bool.not_true, Bool.not_false, Bool.not_eq_true', Bool.not_eq_false', Bool.not_eq_eq_eq_not] at hc); (first | (cases hc) | (simp only [hc]) | skip))))
        refine awp_loopw (IFd q R) q.items.length (SFd q 0 n2 _) (weak_keep ⟨rfl, rfl, rfl, trivial⟩ ⟨rfl, trivial⟩ (Nat.le_refl _)) ⟨0, _, _, Nat.zero_le _, rfl, by omega, hR.symm, rfl⟩ ?_
        rintro m st ⟨i, n, T, hi, rfl, hn, hx, rfl⟩
        by_cases hlt : i < q.items.length
        · have hdec := lt_t hlt
          by_cases h5 : n < 5000
          · have d5 : decide ((n : Int) < 5000) = true := decide_eq_true (by omega)
            have hget := row_at ItemD.enc q.items i hlt
            have hwi : IntKind.i64.wrap ((i : Int) + 1) = ((i + 1 : Nat) : Int) := wrap_succ (by omega)
            have hbs := hq.items _ (List.getElem_mem hlt)
            rw [List.drop_eq_getElem_cons hlt] at hx
            unfold cutF at hx
            rw [if_pos h5] at hx
            generalize q.items[i] = s at *
            have hsz := c_sizeL s.terms hbs.len hbs.terms
            have hle := bigL_le hbs
            rw [show itemW s = cutF termW 0 s.terms from rfl] at hx
            generalize cutF termW 0 s.terms = w at *
            have v1 := wN (a := n) (b := w) (by unfold BIG; omega)
            rw [show ItemD.enc s = [di s.fn, .lst 8 (s.terms.map TermD.enc)] from rfl] at hget
            repeat' (first | refine awp_seq ?_ | refine awp_block ?_ | refine awp_round ?_ | refine awp_scope ?_ | refine awp_text rfl ?_ | refine awp_any rfl mix (by kernel_rfl) ?_ | (refine RunTo.unguard rfl rfl (fun hg => ?_) (fun hg => ?_) <;> ((try simp only [Bool.not_true, Bool.not_false, Bool.not_eq_true', Bool.not_eq_false', Bool.not_eq_eq_eq_not] at hg); (first | (cases hg) | (simp only [hg]) | skip))) | ((first | refine RunTo.plain rfl ?_ | refine RunTo.skipped rfl ?_ | refine RunTo.call (hsz) Tryd.func9 rfl rfl rfl rfl rfl rfl rfl rfl ?_); simp only [go_sem, ↓reduceIte, Nat.reduceEqDiff, Nat.reduceAdd, Nat.reduceLeDiff, Nat.reduceBEq, Nat.reduceMul, reduceCtorEq, Int.reduceLE, Int.reduceLT, Int.reduceAdd, Int.reduceSub, Int.reduceNeg, Int.reduceToNat, Int.reduceBEq, hdec, d5, hget, hwi, v1, List.length_map]) | ((first | refine RunTo.nilA (by kernel_rfl) ?_ | refine RunTo.nilT ?_ | refine awp_skip ?_ | refine awp_exit ?_ | refine awp_label ?_); simp only [go_sem, ↓reduceIte, Nat.reduceEqDiff, Nat.reduceAdd, Nat.reduceLeDiff, Nat.reduceBEq, Nat.reduceMul, reduceCtorEq, Int.reduceLE, Int.reduceLT, Int.reduceAdd, Int.reduceSub, Int.reduceNeg, Int.reduceToNat, Int.reduceBEq, hdec, d5, hget, hwi, v1, List.length_map]) | (refine awp_cond' rfl (of_decide_eq_true rfl) (fun hc => ?_) (fun hc => ?_) <;> ((try simp only [Bool.not_true, Bool.not_false, Bool.not_eq_true', Bool.not_eq_false', Bool.not_eq_eq_eq_not] at hc); (first | (cases hc) | (simp only [hc]) | skip))))
            all_goals exact ⟨q.items.length - (i + 1), by omega, SFd q (i + 1) (n + w) _, weak_keep ⟨rfl, rfl, rfl, trivial⟩ ⟨rfl, trivial⟩ (Nat.le_refl _), i + 1, _, _, by omega, rfl, by omega, hx, rfl⟩
          · have d5 : decide ((n : Int) < 5000) = false := decide_eq_false (by omega)
            rw [cutF_stop _ _ h5] at hx
            rw [hx] at main
            repeat' (first | refine awp_seq ?_ | refine awp_block ?_ | refine awp_round ?_ | refine awp_scope ?_ | refine awp_text rfl ?_ | refine awp_any rfl mix (by kernel_rfl) ?_ | (refine RunTo.unguard rfl rfl (fun hg => ?_) (fun hg => ?_) <;> ((try simp only [Bool.not_true, Bool.not_false, Bool.not_eq_true', Bool.not_eq_false', Bool.not_eq_eq_eq_not] at hg); (first | (cases hg) | (simp only [hg]) | skip))) | ((first | refine RunTo.plain rfl ?_ | refine RunTo.skipped rfl ?_); simp only [go_sem, ↓reduceIte, Nat.reduceEqDiff, Nat.reduceAdd, Nat.reduceLeDiff, Nat.reduceBEq, Nat.reduceMul, reduceCtorEq, Int.reduceLE, Int.reduceLT, Int.reduceAdd, Int.reduceSub, Int.reduceNeg, Int.reduceToNat, Int.reduceBEq, hdec, d5, List.length_map]) | ((first | refine RunTo.nilA (by kernel_rfl) ?_ | refine RunTo.nilT ?_ | refine awp_skip ?_ | refine awp_exit ?_ | refine awp_label ?_); simp only [go_sem, ↓reduceIte, Nat.reduceEqDiff, Nat.reduceAdd, Nat.reduceLeDiff, Nat.reduceBEq, Nat.reduceMul, reduceCtorEq, Int.reduceLE, Int.reduceLT, Int.reduceAdd, Int.reduceSub, Int.reduceNeg, Int.reduceToNat, Int.reduceBEq, hdec, d5, List.length_map]) | (refine awp_cond' rfl (of_decide_eq_true rfl) (fun hc => ?_) (fun hc => ?_) <;> ((try simp only [Bool.not_true, Bool.not_false, Bool.not_eq_true', Bool.not_eq_false', Bool.not_eq_eq_eq_not] at hc); (first | (cases hc) | (simp only [hc]) | skip))))
            all_goals exact awp_weak (st' := SF q n _) (weak_keep ⟨rfl, rfl, trivial⟩ ⟨rfl, trivial⟩ (Nat.le_refl _)) (main _)
        · have hdec := lt_f hlt
          rw [List.drop_of_length_le (by omega)] at hx
          have hx : R = n := hx
          rw [hx] at main
          repeat' (first | refine awp_seq ?_ | refine awp_block ?_ | refine awp_round ?_ | refine awp_scope ?_ | refine awp_text rfl ?_ | refine awp_any rfl mix (by kernel_rfl) ?_ | (refine RunTo.unguard rfl rfl (fun hg => ?_) (fun hg => ?_) <;> ((try simp only [Bool.not_true, Bool.not_false, Bool.not_eq_true', Bool.not_eq_false', Bool.not_eq_eq_eq_not] at hg); (first | (cases hg) | (simp only [hg]) | skip))) | ((first | refine RunTo.plain rfl ?_ | refine RunTo.skipped rfl ?_); simp only [go_sem, ↓reduceIte, Nat.reduceEqDiff, Nat.reduceAdd, Nat.reduceLeDiff, Nat.reduceBEq, Nat.reduceMul, reduceCtorEq, Int.reduceLE, Int.reduceLT, Int.reduceAdd, Int.reduceSub, Int.reduceNeg, Int.reduceToNat, Int.reduceBEq, hdec, List.length_map]) | ((first | refine RunTo.nilA (by kernel_rfl) ?_ | refine RunTo.nilT ?_ | refine awp_skip ?_ | refine awp_exit ?_ | refine awp_label ?_); simp only [go_sem, ↓reduceIte, Nat.reduceEqDiff, Nat.reduceAdd, Nat.reduceLeDiff, Nat.reduceBEq, Nat.reduceMul, reduceCtorEq, Int.reduceLE, Int.reduceLT, Int.reduceAdd, Int.reduceSub, Int.reduceNeg, Int.reduceToNat, Int.reduceBEq, hdec, List.length_map]) | (refine awp_cond' rfl (of_decide_eq_true rfl) (fun hc => ?_) (fun hc => ?_) <;> ((try simp only [Bool.not_true, Bool.not_false, Bool.not_eq_true', Bool.not_eq_false', Bool.not_eq_eq_eq_not] at hc); (first | (cases hc) | (simp only [hc]) | skip))))
          all_goals exact awp_weak (st' := SF q n _) (weak_keep ⟨rfl, rfl, trivial⟩ ⟨rfl, trivial⟩ (Nat.le_refl _)) (main _)
    · intro R' main
      generalize hR : cutF hopW n1 q.hops = R at *
      repeat' (first | refine awp_seq ?_ | refine awp_block ?_ | refine awp_round ?_ | refine awp_scope ?_ | refine awp_text rfl ?_ | refine awp_any rfl mix (by kernel_rfl) ?_ | (refine RunTo.unguard rfl rfl (fun hg => ?_) (fun hg => ?_) <;> ((try simp only [Bool.not_true, Bool.not_false, Bool.not_eq_true', Bool.not_eq_false', Bool.not_eq_eq_eq_not] at hg); (first | (cases hg) | (simp only [hg]) | skip))) | ((first | refine RunTo.plain rfl ?_ | refine RunTo.skipped rfl ?_); simp only [go_sem, ↓reduceIte, Nat.reduceEqDiff, Nat.reduceAdd, Nat.reduceLeDiff, Nat.reduceBEq, Nat.reduceMul, reduceCtorEq, Int.reduceLE, Int.reduceLT, Int.reduceAdd, Int.reduceSub, Int.reduceNeg, Int.reduceToNat, Int.reduceBEq, List.length_map]) | ((first | refine RunTo.nilA (by kernel_rfl) ?_ | refine RunTo.nilT ?_ | refine awp_skip ?_ | refine awp_exit ?_ | refine awp_label ?_); simp only [go_sem, ↓reduceIte, Nat.reduceEqDiff, Nat.reduceAdd, Nat.reduceLeDiff, Nat.reduceBEq, Nat.reduceMul, reduceCtorEq, Int.reduceLE, Int.reduceLT, Int.reduceAdd, Int.reduceSub, Int.reduceNeg, Int.reduceToNat, Int.reduceBEq, List.length_map]) | (refine awp_cond' rfl (of_decide_eq_true rfl) (fun hc => ?_) (fun hc => ?_) <;> ((try simp only [Bool.not_true, Bool.not_false, Bool.not_eq_true', Bool.not_eq_false', Bool.not_eq_eq_eq_not] at hc); (first | (cases hc) | (simp only [hc]) | skip))))
      refine awp_loopw (IFc q R) q.hops.length (SFc q 0 n1 _) (weak_keep ⟨rfl, rfl, rfl, trivial⟩ ⟨rfl, trivial⟩ (Nat.le_refl _)) ⟨0, _, _, Nat.zero_le _, rfl, by omega, hR.symm, rfl⟩ ?_
      rintro m st ⟨i, n, T, hi, rfl, hn, hx, rfl⟩
      by_cases hlt : i < q.hops.length
      · have hdec := lt_t hlt
        by_cases h5 : n < 5000
        · have d5 : decide ((n : Int) < 5000) = true := decide_eq_true (by omega)
          have hget := row_at HopD.enc q.hops i hlt
          have hwi : IntKind.i64.wrap ((i : Int) + 1) = ((i + 1 : Nat) : Int) := wrap_succ (by omega)
          have hbs := hq.hops _ (List.getElem_mem hlt)
          rw [List.drop_eq_getElem_cons hlt] at hx
          unfold cutF at hx
          rw [if_pos h5] at hx
          generalize q.hops[i] = s at *
          unfold hopW at hbs
          have v1 := wN (a := n) (b := s.var.size) (by unfold BIG; omega)
          have v2 := wN (a := n + s.var.size) (b := s.type.size) (by unfold BIG; omega)
          rw [show HopD.enc s = [ds' s.var, ds' s.type, db s.back, db s.many, di s.least, di s.most] from rfl] at hget
          repeat' (first | refine awp_seq ?_ | refine awp_block ?_ | refine awp_round ?_ | refine awp_scope ?_ | refine awp_text rfl ?_ | refine awp_any rfl mix (by kernel_rfl) ?_ | (refine RunTo.unguard rfl rfl (fun hg => ?_) (fun hg => ?_) <;> ((try simp only [Bool.not_true, Bool.not_false, Bool.not_eq_true', Bool.not_eq_false', Bool.not_eq_eq_eq_not] at hg); (first | (cases hg) | (simp only [hg]) | skip))) | ((first | refine RunTo.plain rfl ?_ | refine RunTo.skipped rfl ?_); simp only [go_sem, ↓reduceIte, Nat.reduceEqDiff, Nat.reduceAdd, Nat.reduceLeDiff, Nat.reduceBEq, Nat.reduceMul, reduceCtorEq, Int.reduceLE, Int.reduceLT, Int.reduceAdd, Int.reduceSub, Int.reduceNeg, Int.reduceToNat, Int.reduceBEq, hdec, d5, hget, hwi, v1, v2, List.length_map]) | ((first | refine RunTo.nilA (by kernel_rfl) ?_ | refine RunTo.nilT ?_ | refine awp_skip ?_ | refine awp_exit ?_ | refine awp_label ?_); simp only [go_sem, ↓reduceIte, Nat.reduceEqDiff, Nat.reduceAdd, Nat.reduceLeDiff, Nat.reduceBEq, Nat.reduceMul, reduceCtorEq, Int.reduceLE, Int.reduceLT, Int.reduceAdd, Int.reduceSub, Int.reduceNeg, Int.reduceToNat, Int.reduceBEq, hdec, d5, hget, hwi, v1, v2, List.length_map]) | (refine awp_cond' rfl (of_decide_eq_true rfl) (fun hc => ?_) (fun hc => ?_) <;> ((try simp only [Bool.not_true, Bool.not_false, Bool.not_eq_true', Bool.not_eq_false', Bool.not_eq_eq_eq_not] at hc); (first | (cases hc) | (simp only [hc]) | skip))))
          all_goals exact ⟨q.hops.length - (i + 1), by omega, SFc q (i + 1) (n + s.var.size + s.type.size) _, weak_keep ⟨rfl, rfl, rfl, trivial⟩ ⟨rfl, trivial⟩ (Nat.le_refl _), i + 1, _, _, by omega, rfl, by omega, by rw [hx]; unfold hopW; simp only [Nat.add_assoc], rfl⟩
        · have d5 : decide ((n : Int) < 5000) = false := decide_eq_false (by omega)
          rw [cutF_stop _ _ h5] at hx
          rw [hx] at main
          repeat' (first | refine awp_seq ?_ | refine awp_block ?_ | refine awp_round ?_ | refine awp_scope ?_ | refine awp_text rfl ?_ | refine awp_any rfl mix (by kernel_rfl) ?_ | (refine RunTo.unguard rfl rfl (fun hg => ?_) (fun hg => ?_) <;> ((try simp only [Bool.not_true, Bool.not_false, Bool.not_eq_true', Bool.not_eq_false', Bool.not_eq_eq_eq_not] at hg); (first | (cases hg) | (simp only [hg]) | skip))) | ((first | refine RunTo.plain rfl ?_ | refine RunTo.skipped rfl ?_); simp only [go_sem, ↓reduceIte, Nat.reduceEqDiff, Nat.reduceAdd, Nat.reduceLeDiff, Nat.reduceBEq, Nat.reduceMul, reduceCtorEq, Int.reduceLE, Int.reduceLT, Int.reduceAdd, Int.reduceSub, Int.reduceNeg, Int.reduceToNat, Int.reduceBEq, hdec, d5, List.length_map]) | ((first | refine RunTo.nilA (by kernel_rfl) ?_ | refine RunTo.nilT ?_ | refine awp_skip ?_ | refine awp_exit ?_ | refine awp_label ?_); simp only [go_sem, ↓reduceIte, Nat.reduceEqDiff, Nat.reduceAdd, Nat.reduceLeDiff, Nat.reduceBEq, Nat.reduceMul, reduceCtorEq, Int.reduceLE, Int.reduceLT, Int.reduceAdd, Int.reduceSub, Int.reduceNeg, Int.reduceToNat, Int.reduceBEq, hdec, d5, List.length_map]) | (refine awp_cond' rfl (of_decide_eq_true rfl) (fun hc => ?_) (fun hc => ?_) <;> ((try simp only [Bool.not_true, Bool.not_false, Bool.not_eq_true', Bool.not_eq_false', Bool.not_eq_eq_eq_not] at hc); (first | (cases hc) | (simp only [hc]) | skip))))
          all_goals exact awp_weak (st' := SF q n _) (weak_keep ⟨rfl, rfl, trivial⟩ ⟨rfl, trivial⟩ (Nat.le_refl _)) (main _)
      · have hdec := lt_f hlt
        rw [List.drop_of_length_le (by omega)] at hx
        have hx : R = n := hx
        rw [hx] at main
        repeat' (first | refine awp_seq ?_ | refine awp_block ?_ | refine awp_round ?_ | refine awp_scope ?_ | refine awp_text rfl ?_ | refine awp_any rfl mix (by kernel_rfl) ?_ | (refine RunTo.unguard rfl rfl (fun hg => ?_) (fun hg => ?_) <;> ((try simp only [Bool.not_true, Bool.not_false, Bool.not_eq_true', Bool.not_eq_false', Bool.not_eq_eq_eq_not] at hg); (first | (cases hg) | (simp only [hg]) | skip))) | ((first | refine RunTo.plain rfl ?_ | refine RunTo.skipped rfl ?_); simp only [go_sem, ↓reduceIte, Nat.reduceEqDiff, Nat.reduceAdd, Nat.reduceLeDiff, Nat.reduceBEq, Nat.reduceMul, reduceCtorEq, Int.reduceLE, Int.reduceLT, Int.reduceAdd, Int.reduceSub, Int.reduceNeg, Int.reduceToNat, Int.reduceBEq, hdec, List.length_map]) | ((first | refine RunTo.nilA (by kernel_rfl) ?_ | refine RunTo.nilT ?_ | refine awp_skip ?_ | refine awp_exit ?_ | refine awp_label ?_); simp only [go_sem, ↓reduceIte, Nat.reduceEqDiff, Nat.reduceAdd, Nat.reduceLeDiff, Nat.reduceBEq, Nat.reduceMul, reduceCtorEq, Int.reduceLE, Int.reduceLT, Int.reduceAdd, Int.reduceSub, Int.reduceNeg, Int.reduceToNat, Int.reduceBEq, hdec, List.length_map]) | (refine awp_cond' rfl (of_decide_eq_true rfl) (fun hc => ?_) (fun hc => ?_) <;> ((try simp only [Bool.not_true, Bool.not_false, Bool.not_eq_true', Bool.not_eq_false', Bool.not_eq_eq_eq_not] at hc); (first | (cases hc) | (simp only [hc]) | skip))))
        all_goals exact awp_weak (st' := SF q n _) (weak_keep ⟨rfl, rfl, trivial⟩ ⟨rfl, trivial⟩ (Nat.le_refl _)) (main _)
  · intro R' main
    generalize hR : cutS (lenW q) q.spots = R at *
    have w1 := wN (a := q.spots.length) (b := q.hops.length) (by unfold BIG; omega)
    have w2 := wN (a := q.spots.length + q.hops.length) (b := q.items.length) (by unfold BIG; omega)
    have w3 := wN (a := q.spots.length + q.hops.length + q.items.length) (b := q.sorts.length) (by unfold BIG; omega)
    have w4 : IntKind.i64.wrap ((10 : Int) * ((q.spots.length + q.hops.length + q.items.length + q.sorts.length : Nat) : Int)) = ((lenW q : Nat) : Int) := wM10 (by unfold BIG; omega)
    have hlw : lenW q ≤ 40000000000000000 := by unfold lenW; omega
    repeat' (first | refine awp_seq ?_ | refine awp_block ?_ | refine awp_round ?_ | refine awp_scope ?_ | refine awp_text rfl ?_ | refine awp_any rfl mix (by kernel_rfl) ?_ | (refine RunTo.unguard rfl rfl (fun hg => ?_) (fun hg => ?_) <;> ((try simp only [Bool.not_true, Bool.not_false, Bool.not_eq_true', Bool.not_eq_false', Bool.not_eq_eq_eq_not] at hg); (first | (cases hg) | (simp only [hg]) | skip))) | ((first | refine RunTo.plain rfl ?_ | refine RunTo.skipped rfl ?_); simp only [go_sem, ↓reduceIte, Nat.reduceEqDiff, Nat.reduceAdd, Nat.reduceLeDiff, Nat.reduceBEq, Nat.reduceMul, reduceCtorEq, Int.reduceLE, Int.reduceLT, Int.reduceAdd, Int.reduceSub, Int.reduceNeg, Int.reduceToNat, Int.reduceBEq, QueryD.av, List.length_map, w1, w2, w3, w4]) | ((first | refine RunTo.nilA (by kernel_rfl) ?_ | refine RunTo.nilT ?_ | refine awp_skip ?_ | refine awp_exit ?_ | refine awp_label ?_); simp only [go_sem, ↓reduceIte, Nat.reduceEqDiff, Nat.reduceAdd, Nat.reduceLeDiff, Nat.reduceBEq, Nat.reduceMul, reduceCtorEq, Int.reduceLE, Int.reduceLT, Int.reduceAdd, Int.reduceSub, Int.reduceNeg, Int.reduceToNat, Int.reduceBEq, QueryD.av, List.length_map, w1, w2, w3, w4]) | (refine awp_cond' rfl (of_decide_eq_true rfl) (fun hc => ?_) (fun hc => ?_) <;> ((try simp only [Bool.not_true, Bool.not_false, Bool.not_eq_true', Bool.not_eq_false', Bool.not_eq_eq_eq_not] at hc); (first | (cases hc) | (simp only [hc]) | skip))))
    refine awp_loopw (IFa q R) q.spots.length (SFa q 0 (lenW q) _) (weak_keep ⟨rfl, rfl, rfl, trivial⟩ ⟨rfl, trivial⟩ (Nat.le_refl _)) ⟨0, _, _, Nat.zero_le _, rfl, by omega, hR.symm, rfl⟩ ?_
    rintro m st ⟨i, n, T, hi, rfl, hn, hx, rfl⟩
    by_cases hlt : i < q.spots.length
    · have hdec := lt_t hlt
      by_cases h5 : n < 5000
      · have d5 : decide ((n : Int) < 5000) = true := decide_eq_true (by omega)
        have hget := row_at SpotD.enc q.spots i hlt
        have hwi : IntKind.i64.wrap ((i : Int) + 1) = ((i + 1 : Nat) : Int) := wrap_succ (by omega)
        have hbs := hq.spots _ (List.getElem_mem hlt)
        rw [List.drop_eq_getElem_cons hlt] at hx
        unfold cutS at hx
        rw [if_pos h5] at hx
        generalize q.spots[i] = s at *
        have b1 := hbs.var
        have b2 := hbs.label
        have b3 := hbs.len
        have v1 := wN (a := n) (b := s.var.size) (by unfold BIG; omega)
        have v2 := wN (a := n + s.var.size) (b := s.label.size) (by unfold BIG; omega)
        have v3 := wM10 (b := s.props.length) (by unfold BIG; omega)
        have v4 := wN (a := n + s.var.size + s.label.size) (b := 10 * s.props.length) (by unfold BIG; omega)
        have hsn := spotN_le hbs h5
        rw [show SpotD.enc s = [ds' s.var, ds' s.label, .lst 6 (s.props.map PropD.enc)] from rfl] at hget
        repeat' (first | refine awp_seq ?_ | refine awp_block ?_ | refine awp_round ?_ | refine awp_scope ?_ | refine awp_text rfl ?_ | refine awp_any rfl mix (by kernel_rfl) ?_ | (refine RunTo.unguard rfl rfl (fun hg => ?_) (fun hg => ?_) <;> ((try simp only [Bool.not_true, Bool.not_false, Bool.not_eq_true', Bool.not_eq_false', Bool.not_eq_eq_eq_not] at hg); (first | (cases hg) | (simp only [hg]) | skip))) | ((first | refine RunTo.plain rfl ?_ | refine RunTo.skipped rfl ?_); simp only [go_sem, ↓reduceIte, Nat.reduceEqDiff, Nat.reduceAdd, Nat.reduceLeDiff, Nat.reduceBEq, Nat.reduceMul, reduceCtorEq, Int.reduceLE, Int.reduceLT, Int.reduceAdd, Int.reduceSub, Int.reduceNeg, Int.reduceToNat, Int.reduceBEq, hdec, d5, hget, v1, v2, v3, v4, List.length_map]) | ((first | refine RunTo.nilA (by kernel_rfl) ?_ | refine RunTo.nilT ?_ | refine awp_skip ?_ | refine awp_exit ?_ | refine awp_label ?_); simp only [go_sem, ↓reduceIte, Nat.reduceEqDiff, Nat.reduceAdd, Nat.reduceLeDiff, Nat.reduceBEq, Nat.reduceMul, reduceCtorEq, Int.reduceLE, Int.reduceLT, Int.reduceAdd, Int.reduceSub, Int.reduceNeg, Int.reduceToNat, Int.reduceBEq, hdec, d5, hget, v1, v2, v3, v4, List.length_map]) | (refine awp_cond' rfl (of_decide_eq_true rfl) (fun hc => ?_) (fun hc => ?_) <;> ((try simp only [Bool.not_true, Bool.not_false, Bool.not_eq_true', Bool.not_eq_false', Bool.not_eq_eq_eq_not] at hc); (first | (cases hc) | (simp only [hc]) | skip))))
        refine awp_loopw (IFb q i s.props (spotN n s)) s.props.length (SFb q i 0 (n + s.var.size + s.label.size + 10 * s.props.length) _) (weak_keep ⟨rfl, rfl, rfl, rfl, trivial⟩ ⟨rfl, trivial⟩ (Nat.le_refl _)) ⟨0, _, _, Nat.zero_le _, rfl, by omega, rfl, rfl⟩ ?_
        rintro m st ⟨k, n', T, hk, rfl, hn', hx', rfl⟩
        by_cases hlk : k < s.props.length
        · have hdk := lt_t hlk
          by_cases h5' : n' < 5000
          · have d5' : decide ((n' : Int) < 5000) = true := decide_eq_true (by omega)
            have hgp := row_at PropD.enc s.props k hlk
            have hwk : IntKind.i64.wrap ((k : Int) + 1) = ((k + 1 : Nat) : Int) := wrap_succ (by omega)
            have hbp := hbs.props _ (List.getElem_mem hlk)
            rw [List.drop_eq_getElem_cons hlk] at hx'
            unfold cutF at hx'
            rw [if_pos h5'] at hx'
            generalize s.props[k] = p at *
            unfold propW at hbp
            have u1 := wN (a := n') (b := p.name.size) (by unfold BIG; omega)
            have u2 := wN (a := n' + p.name.size) (b := p.v.a.s.size) (by unfold BIG; omega)
            have u3 := wM20 (b := p.v.l.length) (by unfold BIG; omega)
            have u4 := wN (a := n' + p.name.size + p.v.a.s.size) (b := 20 * p.v.l.length) (by unfold BIG; omega)
            rw [show PropD.enc p = [ds' p.name, di p.v.a.k, di p.v.a.n, df p.v.a.f, ds' p.v.a.s, .lst 4 (p.v.l.map AtomD.enc)] from rfl] at hgp
            repeat' (first | refine awp_seq ?_ | refine awp_block ?_ | refine awp_round ?_ | refine awp_scope ?_ | refine awp_text rfl ?_ | refine awp_any rfl mix (by kernel_rfl) ?_ | (refine RunTo.unguard rfl rfl (fun hg => ?_) (fun hg => ?_) <;> ((try simp only [Bool.not_true, Bool.not_false, Bool.not_eq_true', Bool.not_eq_false', Bool.not_eq_eq_eq_not] at hg); (first | (cases hg) | (simp only [hg]) | skip))) | ((first | refine RunTo.plain rfl ?_ | refine RunTo.skipped rfl ?_); simp only [go_sem, ↓reduceIte, Nat.reduceEqDiff, Nat.reduceAdd, Nat.reduceLeDiff, Nat.reduceBEq, Nat.reduceMul, reduceCtorEq, Int.reduceLE, Int.reduceLT, Int.reduceAdd, Int.reduceSub, Int.reduceNeg, Int.reduceToNat, Int.reduceBEq, hdk, d5', hget, hgp, hwk, u1, u2, u3, u4, List.length_map]) | ((first | refine RunTo.nilA (by kernel_rfl) ?_ | refine RunTo.nilT ?_ | refine awp_skip ?_ | refine awp_exit ?_ | refine awp_label ?_); simp only [go_sem, ↓reduceIte, Nat.reduceEqDiff, Nat.reduceAdd, Nat.reduceLeDiff, Nat.reduceBEq, Nat.reduceMul, reduceCtorEq, Int.reduceLE, Int.reduceLT, Int.reduceAdd, Int.reduceSub, Int.reduceNeg, Int.reduceToNat, Int.reduceBEq, hdk, d5', hget, hgp, hwk, u1, u2, u3, u4, List.length_map]) | (refine awp_cond' rfl (of_decide_eq_true rfl) (fun hc => ?_) (fun hc => ?_) <;> ((try simp only [Bool.not_true, Bool.not_false, Bool.not_eq_true', Bool.not_eq_false', Bool.not_eq_eq_eq_not] at hc); (first | (cases hc) | (simp only [hc]) | skip))))
            all_goals exact ⟨s.props.length - (k + 1), by omega, SFb q i (k + 1) (n' + p.name.size + p.v.a.s.size + 20 * p.v.l.length) _, weak_keep ⟨rfl, rfl, rfl, rfl, trivial⟩ ⟨rfl, trivial⟩ (Nat.le_refl _), k + 1, _, _, by omega, rfl, by omega, by rw [hx']; unfold propW; simp only [Nat.add_assoc], rfl⟩
          · have d5' : decide ((n' : Int) < 5000) = false := decide_eq_false (by omega)
            rw [cutF_stop _ _ h5'] at hx'
            rw [hx'] at hx
            repeat' (first | refine awp_seq ?_ | refine awp_block ?_ | refine awp_round ?_ | refine awp_scope ?_ | refine awp_text rfl ?_ | refine awp_any rfl mix (by kernel_rfl) ?_ | (refine RunTo.unguard rfl rfl (fun hg => ?_) (fun hg => ?_) <;> ((try simp only [Bool.not_true, Bool.not_false, Bool.not_eq_true', Bool.not_eq_false', Bool.not_eq_eq_eq_not] at hg); (first | (cases hg) | (simp only [hg]) | skip))) | ((first | refine RunTo.plain rfl ?_ | refine RunTo.skipped rfl ?_); simp only [go_sem, ↓reduceIte, Nat.reduceEqDiff, Nat.reduceAdd, Nat.reduceLeDiff, Nat.reduceBEq, Nat.reduceMul, reduceCtorEq, Int.reduceLE, Int.reduceLT, Int.reduceAdd, Int.reduceSub, Int.reduceNeg, Int.reduceToNat, Int.reduceBEq, hdk, d5', hget, hwi, List.length_map]) | ((first | refine RunTo.nilA (by kernel_rfl) ?_ | refine RunTo.nilT ?_ | refine awp_skip ?_ | refine awp_exit ?_ | refine awp_label ?_); simp only [go_sem, ↓reduceIte, Nat.reduceEqDiff, Nat.reduceAdd, Nat.reduceLeDiff, Nat.reduceBEq, Nat.reduceMul, reduceCtorEq, Int.reduceLE, Int.reduceLT, Int.reduceAdd, Int.reduceSub, Int.reduceNeg, Int.reduceToNat, Int.reduceBEq, hdk, d5', hget, hwi, List.length_map]) | (refine awp_cond' rfl (of_decide_eq_true rfl) (fun hc => ?_) (fun hc => ?_) <;> ((try simp only [Bool.not_true, Bool.not_false, Bool.not_eq_true', Bool.not_eq_false', Bool.not_eq_eq_eq_not] at hc); (first | (cases hc) | (simp only [hc]) | skip))))
            all_goals exact ⟨q.spots.length - (i + 1), by omega, SFa q (i + 1) n' _, weak_keep ⟨rfl, rfl, rfl, trivial⟩ ⟨rfl, trivial⟩ (Nat.le_refl _), i + 1, _, _, by omega, rfl, by omega, hx, rfl⟩
        · have hdk := lt_f hlk
          rw [List.drop_of_length_le (by omega)] at hx'
          have hx' : spotN n s = n' := hx'
          rw [hx'] at hx
          repeat' (first | refine awp_seq ?_ | refine awp_block ?_ | refine awp_round ?_ | refine awp_scope ?_ | refine awp_text rfl ?_ | refine awp_any rfl mix (by kernel_rfl) ?_ | (refine RunTo.unguard rfl rfl (fun hg => ?_) (fun hg => ?_) <;> ((try simp only [Bool.not_true, Bool.not_false, Bool.not_eq_true', Bool.not_eq_false', Bool.not_eq_eq_eq_not] at hg); (first | (cases hg) | (simp only [hg]) | skip))) | ((first | refine RunTo.plain rfl ?_ | refine RunTo.skipped rfl ?_); simp only [go_sem, ↓reduceIte, Nat.reduceEqDiff, Nat.reduceAdd, Nat.reduceLeDiff, Nat.reduceBEq, Nat.reduceMul, reduceCtorEq, Int.reduceLE, Int.reduceLT, Int.reduceAdd, Int.reduceSub, Int.reduceNeg, Int.reduceToNat, Int.reduceBEq, hdk, hget, hwi, List.length_map]) | ((first | refine RunTo.nilA (by kernel_rfl) ?_ | refine RunTo.nilT ?_ | refine awp_skip ?_ | refine awp_exit ?_ | refine awp_label ?_); simp only [go_sem, ↓reduceIte, Nat.reduceEqDiff, Nat.reduceAdd, Nat.reduceLeDiff, Nat.reduceBEq, Nat.reduceMul, reduceCtorEq, Int.reduceLE, Int.reduceLT, Int.reduceAdd, Int.reduceSub, Int.reduceNeg, Int.reduceToNat, Int.reduceBEq, hdk, hget, hwi, List.length_map]) | (refine awp_cond' rfl (of_decide_eq_true rfl) (fun hc => ?_) (fun hc => ?_) <;> ((try simp only [Bool.not_true, Bool.not_false, Bool.not_eq_true', Bool.not_eq_false', Bool.not_eq_eq_eq_not] at hc); (first | (cases hc) | (simp only [hc]) | skip))))
          all_goals exact ⟨q.spots.length - (i + 1), by omega, SFa q (i + 1) n' _, weak_keep ⟨rfl, rfl, rfl, trivial⟩ ⟨rfl, trivial⟩ (Nat.le_refl _), i + 1, _, _, by omega, rfl, by omega, hx, rfl⟩
      · have d5 : decide ((n : Int) < 5000) = false := decide_eq_false (by omega)
        rw [cutS_stop _ h5] at hx
        rw [hx] at main
        repeat' (first | refine awp_seq ?_ | refine awp_block ?_ | refine awp_round ?_ | refine awp_scope ?_ | refine awp_text rfl ?_ | refine awp_any rfl mix (by kernel_rfl) ?_ | (refine RunTo.unguard rfl rfl (fun hg => ?_) (fun hg => ?_) <;> ((try simp only [Bool.not_true, Bool.not_false, Bool.not_eq_true', Bool.not_eq_false', Bool.not_eq_eq_eq_not] at hg); (first | (cases hg) | (simp only [hg]) | skip))) | ((first | refine RunTo.plain rfl ?_ | refine RunTo.skipped rfl ?_); simp only [go_sem, ↓reduceIte, Nat.reduceEqDiff, Nat.reduceAdd, Nat.reduceLeDiff, Nat.reduceBEq, Nat.reduceMul, reduceCtorEq, Int.reduceLE, Int.reduceLT, Int.reduceAdd, Int.reduceSub, Int.reduceNeg, Int.reduceToNat, Int.reduceBEq, hdec, d5, List.length_map]) | ((first | refine RunTo.nilA (by kernel_rfl) ?_ | refine RunTo.nilT ?_ | refine awp_skip ?_ | refine awp_exit ?_ | refine awp_label ?_); simp only [go_sem, ↓reduceIte, Nat.reduceEqDiff, Nat.reduceAdd, Nat.reduceLeDiff, Nat.reduceBEq, Nat.reduceMul, reduceCtorEq, Int.reduceLE, Int.reduceLT, Int.reduceAdd, Int.reduceSub, Int.reduceNeg, Int.reduceToNat, Int.reduceBEq, hdec, d5, List.length_map]) | (refine awp_cond' rfl (of_decide_eq_true rfl) (fun hc => ?_) (fun hc => ?_) <;> ((try simp only [Bool.not_true, Bool.not_false, Bool.not_eq_true', Bool.not_eq_false', Bool.not_eq_eq_eq_not] at hc); (first | (cases hc) | (simp only [hc]) | skip))))
        all_goals exact awp_weak (st' := SF q n _) (weak_keep ⟨rfl, rfl, trivial⟩ ⟨rfl, trivial⟩ (Nat.le_refl _)) (main _ trivial)
    · have hdec := lt_f hlt
      rw [List.drop_of_length_le (by omega)] at hx
      have hx : R = n := hx
      rw [hx] at main
      repeat' (first | refine awp_seq ?_ | refine awp_block ?_ | refine awp_round ?_ | refine awp_scope ?_ | refine awp_text rfl ?_ | refine awp_any rfl mix (by kernel_rfl) ?_ | (refine RunTo.unguard rfl rfl (fun hg => ?_) (fun hg => ?_) <;> ((try simp only [Bool.not_true, Bool.not_false, Bool.not_eq_true', Bool.not_eq_false', Bool.not_eq_eq_eq_not] at hg); (first | (cases hg) | (simp only [hg]) | skip))) | ((first | refine RunTo.plain rfl ?_ | refine RunTo.skipped rfl ?_); simp only [go_sem, ↓reduceIte, Nat.reduceEqDiff, Nat.reduceAdd, Nat.reduceLeDiff, Nat.reduceBEq, Nat.reduceMul, reduceCtorEq, Int.reduceLE, Int.reduceLT, Int.reduceAdd, Int.reduceSub, Int.reduceNeg, Int.reduceToNat, Int.reduceBEq, hdec, List.length_map]) | ((first | refine RunTo.nilA (by kernel_rfl) ?_ | refine RunTo.nilT ?_ | refine awp_skip ?_ | refine awp_exit ?_ | refine awp_label ?_); simp only [go_sem, ↓reduceIte, Nat.reduceEqDiff, Nat.reduceAdd, Nat.reduceLeDiff, Nat.reduceBEq, Nat.reduceMul, reduceCtorEq, Int.reduceLE, Int.reduceLT, Int.reduceAdd, Int.reduceSub, Int.reduceNeg, Int.reduceToNat, Int.reduceBEq, hdec, List.length_map]) | (refine awp_cond' rfl (of_decide_eq_true rfl) (fun hc => ?_) (fun hc => ?_) <;> ((try simp only [Bool.not_true, Bool.not_false, Bool.not_eq_true', Bool.not_eq_false', Bool.not_eq_eq_eq_not] at hc); (first | (cases hc) | (simp only [hc]) | skip))))
      all_goals exact awp_weak (st' := SF q n _) (weak_keep ⟨rfl, rfl, trivial⟩ ⟨rfl, trivial⟩ (Nat.le_refl _)) (main _ trivial)
end Go.Proofs.YtlpfdgkfdgehnaaDoor.AM
namespace Go.Proofs.YtlpfdgkfdgehnaaDoor.AM
open Go.RowKit
set_option linter.unusedSimpArgs false
set_option linter.unusedVariables false
set_option maxRecDepth 10000
set_option maxHeartbeats 0
structure KindQ (q : QueryD) : Prop where
  props : ∀ s ∈ q.spots, ∀ p ∈ s.props, i64B p.v.a.n
  hops : ∀ h ∈ q.hops, i64B h.least ∧ i64B h.most
  wh : ∀ t ∈ q.wh, i64B t.v.a.n
  items : ∀ x ∈ q.items, ∀ t ∈ x.terms, i64B t.v.a.n
  sorts : ∀ x ∈ q.sorts, i64B x.item
  skip : i64B q.skip
  limit : i64B q.limit
theorem cutF_few {α : Type} {w : α → Nat} {n : Nat} {l : List α} (h : cutF w n l < 5000) : n ≤ cutF w n l ∧ ∀ x ∈ l, w x < 5000 := by
  have e := cutF_sum w l n h
  refine ⟨by omega, fun x hx => ?_⟩
  have := sum_mem w l x hx
  omega
theorem spotN_few {n : Nat} {s : SpotD} (h : spotN n s < 5000) : n ≤ spotN n s ∧ s.var.size < 5000 ∧ s.label.size < 5000 ∧ s.props.length < 5000 ∧ ∀ p ∈ s.props, propW p < 5000 := by
  have := cutF_few (show cutF propW (n + s.var.size + s.label.size + 10 * s.props.length) s.props < 5000 from h)
  have h0 : spotN n s = cutF propW (n + s.var.size + s.label.size + 10 * s.props.length) s.props := rfl
  rw [h0]
  exact ⟨by omega, by omega, by omega, by omega, this.2⟩
theorem cutS_few : ∀ (l : List SpotD) (n : Nat), cutS n l < 5000 → n ≤ cutS n l ∧ ∀ s ∈ l, s.var.size < 5000 ∧ s.label.size < 5000 ∧ s.props.length < 5000 ∧ ∀ p ∈ s.props, propW p < 5000
  | [], n, h => ⟨Nat.le_refl _, fun s hs => by cases hs⟩
  | s :: l, n, h => by
    unfold cutS at h ⊢
    split
    · rename_i h5
      rw [if_pos h5] at h
      obtain ⟨h1, h2⟩ := cutS_few l _ h
      have h3 := spotN_few (n := n) (s := s) (by omega)
      refine ⟨by omega, fun x hx => ?_⟩
      rcases List.mem_cons.1 hx with rfl | hx
      · exact h3.2
      · exact h2 x hx
    · rename_i h5
      rw [if_neg h5] at h
      omega
theorem lawL_of {l : List TermD} (h : cutF termW 0 l < 5000) (hk : ∀ t ∈ l, i64B t.v.a.n) : LawL l := by
  have e := cutF_sum termW l 0 h
  have h5 := sum_len termW 5 (fun x => by unfold termW; omega) l
  refine ⟨by omega, fun t ht => ?_⟩
  have := (cutF_few h).2 t ht
  unfold termW at this
  exact ⟨by omega, by omega, by omega, hk t ht⟩
theorem lawQ_of {q : QueryD} (h : fewN q < 5000) (hk : KindQ q) : LawQ q := by
  unfold fewN at h
  have h1 := cutF_few (show cutF itemW (cutF hopW (cutS (lenW q) q.spots) q.hops) q.items < 5000 by omega)
  have h2 := cutF_few (show cutF hopW (cutS (lenW q) q.spots) q.hops < 5000 by omega)
  have h3 := cutS_few q.spots (lenW q) (by omega)
  have hl : lenW q < 5000 := by omega
  unfold lenW at hl
  refine ⟨by omega, fun s hs => ?_, by omega, fun x hx => ?_, lawL_of (by omega) hk.wh, by omega, fun x hx => lawL_of (h1.2 x hx) (hk.items x hx), by omega, hk.sorts, hk.skip, hk.limit⟩
  · obtain ⟨a1, a2, a3, a4⟩ := h3.2 s hs
    refine ⟨by omega, by omega, by omega, fun p hp => ?_⟩
    have := a4 p hp
    unfold propW at this
    exact ⟨by omega, hk.props s hs p hp, by omega⟩
  · have := h2.2 x hx
    unfold hopW at this
    exact ⟨by omega, by omega, (hk.hops x hx).1, (hk.hops x hx).2⟩
end Go.Proofs.YtlpfdgkfdgehnaaDoor.AM
namespace Go.Proofs.YtlpfdgkfdgehnaaDoor.AM
open Go.RowKit
set_option linter.unusedSimpArgs false
set_option linter.unusedVariables false
set_option maxRecDepth 10000
set_option maxHeartbeats 0
abbrev SDr (ts : List TermD) (k T e : Nat) : St := ⟨[(0, .dat (.lst 8 (ts.map TermD.enc))), (4, iv k), (3, .slc 17 e 0 k)], [(17, .arr e 8 ((ts.take k).map TermD.enc))], T⟩
def IDr (ts : List TermD) (n : Nat) (st : St) : Prop := ∃ k T e, k ≤ ts.length ∧ n = ts.length - k ∧ st = SDr ts k T e
theorem c_copyT (ts : List TermD) (hl : ts.length ≤ 1000000) : Pure Tryd.prog 21 [.dat (.lst 8 (ts.map TermD.enc))] (.dat (.lst 8 (ts.map TermD.enc))) := by
  refine pure_of_awp Tryd.func21 rfl rfl (by simp [Tryd.f21]) ?_; simp only [go_sem, ↓reduceIte, Nat.reduceEqDiff, Nat.reduceAdd, Nat.reduceLeDiff, Nat.reduceBEq, Nat.reduceMul, reduceCtorEq, Int.reduceLE, Int.reduceLT, Int.reduceAdd, Int.reduceSub, Int.reduceNeg, Int.reduceToNat, Int.reduceBEq]
  repeat' (first | refine awp_seq ?_ | refine awp_block ?_ | refine awp_round ?_ | refine awp_scope ?_ | refine awp_text rfl ?_ | refine awp_any rfl mix (by kernel_rfl) ?_ | (refine RunTo.unguard rfl rfl (fun hg => ?_) (fun hg => ?_) <;> ((try simp only [Bool.not_true, Bool.not_false, Bool.not_eq_true', Bool.not_eq_false', Bool.not_eq_eq_eq_not] at hg); (first | (cases hg) | (simp only [hg]) | skip))) | ((first | refine RunTo.plain rfl ?_ | refine RunTo.skipped rfl ?_); simp only [go_sem, ↓reduceIte, Nat.reduceEqDiff, Nat.reduceAdd, Nat.reduceLeDiff, Nat.reduceBEq, Nat.reduceMul, reduceCtorEq, Int.reduceLE, Int.reduceLT, Int.reduceAdd, Int.reduceSub, Int.reduceNeg, Int.reduceToNat, Int.reduceBEq, List.length_map]) | ((first | refine RunTo.nilA (by kernel_rfl) ?_ | refine RunTo.nilT ?_ | refine awp_skip ?_ | refine awp_exit ?_ | refine awp_label ?_); simp only [go_sem, ↓reduceIte, Nat.reduceEqDiff, Nat.reduceAdd, Nat.reduceLeDiff, Nat.reduceBEq, Nat.reduceMul, reduceCtorEq, Int.reduceLE, Int.reduceLT, Int.reduceAdd, Int.reduceSub, Int.reduceNeg, Int.reduceToNat, Int.reduceBEq, List.length_map]) | (refine awp_cond' rfl (of_decide_eq_true rfl) (fun hc => ?_) (fun hc => ?_) <;> ((try simp only [Bool.not_true, Bool.not_false, Bool.not_eq_true', Bool.not_eq_false', Bool.not_eq_eq_eq_not] at hc); (first | (cases hc) | (simp only [hc]) | skip))))
  refine awp_weak (weak_nil (t := 3) (s := 17) (sz := 8) (of_decide_eq_true rfl) rfl) ?_
  simp only [go_sem, ↓reduceIte, Nat.reduceEqDiff, Nat.reduceAdd, Nat.reduceLeDiff, Nat.reduceBEq, Nat.reduceMul, reduceCtorEq, Int.reduceLE, Int.reduceLT, Int.reduceAdd, Int.reduceSub, Int.reduceNeg, Int.reduceToNat, Int.reduceBEq]
  refine awp_loopw (IDr ts) ts.length (SDr ts 0 _ _) (weak_keep ⟨rfl, rfl, rfl, trivial⟩ ⟨rfl, trivial⟩ (Nat.le_refl _)) ⟨0, _, _, Nat.zero_le _, rfl, rfl⟩ ?_
  rintro n st ⟨k, T, e, hk, rfl, rfl⟩
  have hrl : ((ts.take k).map TermD.enc).length = k := by simp; omega
  have htr : List.take k ((ts.take k).map TermD.enc) = (ts.take k).map TermD.enc := List.take_of_length_le (by omega)
  by_cases hlt : k < ts.length
  · have hdec := lt_t hlt
    have hget := row_at TermD.enc ts k hlt
    have htk : (ts.take (k + 1)).map TermD.enc = (ts.take k).map TermD.enc ++ [ts[k].enc] := by rw [List.take_succ_eq_append_getElem hlt, List.map_append]; rfl
    have hwk : IntKind.i64.wrap ((k : Int) + 1) = ((k + 1 : Nat) : Int) := wrap_succ (by omega)
    have c1 : ((k + 1) * 104 ≤ 140737488355328) = True := eq_true (by omega)
    generalize ts[k] = t at *
    have hle : (k ≤ (List.take k ts).length) = True := eq_true (by rw [List.length_take]; omega)
    repeat' (first | refine awp_seq ?_ | refine awp_block ?_ | refine awp_round ?_ | refine awp_scope ?_ | refine awp_text rfl ?_ | refine awp_any rfl mix (by kernel_rfl) ?_ | (refine RunTo.unguard rfl rfl (fun hg => ?_) (fun hg => ?_) <;> ((try simp only [Bool.not_true, Bool.not_false, Bool.not_eq_true', Bool.not_eq_false', Bool.not_eq_eq_eq_not] at hg); (first | (cases hg) | (simp only [hg]) | skip))) | ((first | refine RunTo.plain rfl ?_ | refine RunTo.skipped rfl ?_); simp only [go_sem, ↓reduceIte, Nat.reduceEqDiff, Nat.reduceAdd, Nat.reduceLeDiff, Nat.reduceBEq, Nat.reduceMul, reduceCtorEq, Int.reduceLE, Int.reduceLT, Int.reduceAdd, Int.reduceSub, Int.reduceNeg, Int.reduceToNat, Int.reduceBEq, hdec, hget, TermD.enc, hwk, htr, hle, hrl, c1, List.length_map, List.length_cons, List.length_nil, lenTy, implies_true]) | ((first | refine RunTo.nilA (by kernel_rfl) ?_ | refine RunTo.nilT ?_ | refine awp_skip ?_ | refine awp_exit ?_ | refine awp_label ?_); simp only [go_sem, ↓reduceIte, Nat.reduceEqDiff, Nat.reduceAdd, Nat.reduceLeDiff, Nat.reduceBEq, Nat.reduceMul, reduceCtorEq, Int.reduceLE, Int.reduceLT, Int.reduceAdd, Int.reduceSub, Int.reduceNeg, Int.reduceToNat, Int.reduceBEq, hdec, hget, TermD.enc, hwk, htr, hle, hrl, c1, List.length_map, List.length_cons, List.length_nil, lenTy, implies_true]) | (refine awp_cond' rfl (of_decide_eq_true rfl) (fun hc => ?_) (fun hc => ?_) <;> ((try simp only [Bool.not_true, Bool.not_false, Bool.not_eq_true', Bool.not_eq_false', Bool.not_eq_eq_eq_not] at hc); (first | (cases hc) | (simp only [hc]) | skip))))
    all_goals exact ⟨ts.length - (k + 1), by omega, SDr ts (k + 1) _ _, weak_keep ⟨rfl, rfl, rfl, trivial⟩ ⟨by rw [htk]; rfl, trivial⟩ (Nat.le_refl _), k + 1, _, _, by omega, rfl, rfl⟩
  · have hdec := lt_f hlt
    obtain rfl : k = ts.length := by omega
    rw [List.take_of_length_le (Nat.le_refl _)] at hrl htr
    repeat' (first | refine awp_seq ?_ | refine awp_block ?_ | refine awp_round ?_ | refine awp_scope ?_ | refine awp_text rfl ?_ | refine awp_any rfl mix (by kernel_rfl) ?_ | (refine RunTo.unguard rfl rfl (fun hg => ?_) (fun hg => ?_) <;> ((try simp only [Bool.not_true, Bool.not_false, Bool.not_eq_true', Bool.not_eq_false', Bool.not_eq_eq_eq_not] at hg); (first | (cases hg) | (simp only [hg]) | skip))) | ((first | refine RunTo.plain rfl ?_ | refine RunTo.skipped rfl ?_); simp only [go_sem, ↓reduceIte, Nat.reduceEqDiff, Nat.reduceAdd, Nat.reduceLeDiff, Nat.reduceBEq, Nat.reduceMul, reduceCtorEq, Int.reduceLE, Int.reduceLT, Int.reduceAdd, Int.reduceSub, Int.reduceNeg, Int.reduceToNat, Int.reduceBEq, hdec, List.length_map]) | ((first | refine RunTo.nilA (by kernel_rfl) ?_ | refine RunTo.nilT ?_ | refine awp_skip ?_ | refine awp_exit ?_ | refine awp_label ?_); simp only [go_sem, ↓reduceIte, Nat.reduceEqDiff, Nat.reduceAdd, Nat.reduceLeDiff, Nat.reduceBEq, Nat.reduceMul, reduceCtorEq, Int.reduceLE, Int.reduceLT, Int.reduceAdd, Int.reduceSub, Int.reduceNeg, Int.reduceToNat, Int.reduceBEq, hdec, List.length_map]) | (refine awp_cond' rfl (of_decide_eq_true rfl) (fun hc => ?_) (fun hc => ?_) <;> ((try simp only [Bool.not_true, Bool.not_false, Bool.not_eq_true', Bool.not_eq_false', Bool.not_eq_eq_eq_not] at hc); (first | (cases hc) | (simp only [hc]) | skip))))
    all_goals (first | refine awp_ret ?_ | skip); refine ⟨(by first | exact .inl rfl | exact .inr rfl | exact .inr trivial | trivial), ?_⟩; simp only [go_sem, ↓reduceIte, Nat.reduceEqDiff, Nat.reduceAdd, Nat.reduceLeDiff, Nat.reduceBEq, Nat.reduceMul, reduceCtorEq, Int.reduceLE, Int.reduceLT, Int.reduceAdd, Int.reduceSub, Int.reduceNeg, Int.reduceToNat, Int.reduceBEq, retV, resL, resV, sealV, sealC, sealAll, Tryd.f21]
    all_goals (rw [List.take_of_length_le (Nat.le_refl ts.length), hrl, if_pos (Nat.le_refl _), htr])
end Go.Proofs.YtlpfdgkfdgehnaaDoor.AM
namespace Go.Proofs.YtlpfdgkfdgehnaaDoor.AM
open Go.RowKit
set_option linter.unusedSimpArgs false
set_option linter.unusedVariables false
set_option maxRecDepth 10000
set_option maxHeartbeats 0
abbrev nilO : AV := .lit (.slice none 0 0)
abbrev zeroO : List AV := [nilO, nilO, nilO, nilO, bv false, nilO, iv 0, iv 0]
abbrev cellsO (q : QueryD) (a b c d : AV) : List AV := [a, b, .dat (.lst 8 (q.wh.map TermD.enc)), c, bv q.distinct, d, iv q.skip, iv q.limit]
abbrev SO0 (q : QueryD) (k T e9 e0 : Nat) : St := ⟨[(4, iv k), (3, .ptr 3 e9 0 0), (2, .ptr 2 1 0 0), (1, .ptr 1 0 0 0)], [(1, .box 0 (cellsQ q)), (2, .box 1 zeroO), (3, .box e9 (cellsO q (.slc 33 e0 0 k) (nilO) (nilO) (nilO))), (33, .arr e0 3 ((q.spots.take k).map SpotD.enc))], T⟩
def IO0 (q : QueryD) (n : Nat) (st : St) : Prop := ∃ k T e9 e0, k ≤ q.spots.length ∧ n = q.spots.length - k ∧ st = SO0 q k T e9 e0
abbrev SO1 (q : QueryD) (k T e9 e0 e1 : Nat) : St := ⟨[(5, iv k), (3, .ptr 3 e9 0 0), (2, .ptr 2 1 0 0), (1, .ptr 1 0 0 0)], [(1, .box 0 (cellsQ q)), (2, .box 1 zeroO), (3, .box e9 (cellsO q (.slc 33 e0 0 q.spots.length) (.slc 50 e1 0 k) (nilO) (nilO))), (33, .arr e0 3 (q.spots.map SpotD.enc)), (50, .arr e1 6 ((q.hops.take k).map HopD.enc))], T⟩
def IO1 (q : QueryD) (n : Nat) (st : St) : Prop := ∃ k T e9 e0 e1, k ≤ q.hops.length ∧ n = q.hops.length - k ∧ st = SO1 q k T e9 e0 e1
abbrev SO2 (q : QueryD) (k T e9 e0 e1 e2 : Nat) : St := ⟨[(6, iv k), (3, .ptr 3 e9 0 0), (2, .ptr 2 1 0 0), (1, .ptr 1 0 0 0)], [(1, .box 0 (cellsQ q)), (2, .box 1 zeroO), (3, .box e9 (cellsO q (.slc 33 e0 0 q.spots.length) (.slc 50 e1 0 q.hops.length) (.slc 76 e2 0 k) (nilO))), (33, .arr e0 3 (q.spots.map SpotD.enc)), (50, .arr e1 6 (q.hops.map HopD.enc)), (76, .arr e2 2 ((q.items.take k).map ItemD.enc))], T⟩
def IO2 (q : QueryD) (n : Nat) (st : St) : Prop := ∃ k T e9 e0 e1 e2, k ≤ q.items.length ∧ n = q.items.length - k ∧ st = SO2 q k T e9 e0 e1 e2
abbrev SO3 (q : QueryD) (k T e9 e0 e1 e2 e3 : Nat) : St := ⟨[(7, iv k), (3, .ptr 3 e9 0 0), (2, .ptr 2 1 0 0), (1, .ptr 1 0 0 0)], [(1, .box 0 (cellsQ q)), (2, .box 1 zeroO), (3, .box e9 (cellsO q (.slc 33 e0 0 q.spots.length) (.slc 50 e1 0 q.hops.length) (.slc 76 e2 0 q.items.length) (.slc 93 e3 0 k))), (33, .arr e0 3 (q.spots.map SpotD.enc)), (50, .arr e1 6 (q.hops.map HopD.enc)), (76, .arr e2 2 (q.items.map ItemD.enc)), (93, .arr e3 2 ((q.sorts.take k).map SortD.enc))], T⟩
def IO3 (q : QueryD) (n : Nat) (st : St) : Prop := ∃ k T e9 e0 e1 e2 e3, k ≤ q.sorts.length ∧ n = q.sorts.length - k ∧ st = SO3 q k T e9 e0 e1 e2 e3
theorem c_Own (q : QueryD) (h : LawQ q) : Pure Tryd.prog 8 [q.av] q.av := by
  have hw := c_copyT q.wh h.wh.len
  have h0 := h.nspots
  have h1 := h.nhops
  have h2 := h.nitems
  have h3 := h.nsorts
  have g0 : List.take q.spots.length (q.spots.map SpotD.enc) = q.spots.map SpotD.enc := List.take_of_length_le (by simp)
  have g1 : List.take q.hops.length (q.hops.map HopD.enc) = q.hops.map HopD.enc := List.take_of_length_le (by simp)
  have g2 : List.take q.items.length (q.items.map ItemD.enc) = q.items.map ItemD.enc := List.take_of_length_le (by simp)
  have g3 : List.take q.sorts.length (q.sorts.map SortD.enc) = q.sorts.map SortD.enc := List.take_of_length_le (by simp)
  refine pure_of_awp Tryd.func8 rfl rfl (by simp [Tryd.f8]) ?_; simp only [go_sem, ↓reduceIte, Nat.reduceEqDiff, Nat.reduceAdd, Nat.reduceLeDiff, Nat.reduceBEq, Nat.reduceMul, reduceCtorEq, Int.reduceLE, Int.reduceLT, Int.reduceAdd, Int.reduceSub, Int.reduceNeg, Int.reduceToNat, Int.reduceBEq]
  repeat' (first | refine awp_seq ?_ | refine awp_block ?_ | refine awp_round ?_ | refine awp_scope ?_ | refine awp_text rfl ?_ | refine awp_any rfl mix (by kernel_rfl) ?_ | (refine RunTo.unguard rfl rfl (fun hg => ?_) (fun hg => ?_) <;> ((try simp only [Bool.not_true, Bool.not_false, Bool.not_eq_true', Bool.not_eq_false', Bool.not_eq_eq_eq_not] at hg); (first | (cases hg) | (simp only [hg]) | skip))) | ((first | refine RunTo.plain rfl ?_ | refine RunTo.skipped rfl ?_ | refine RunTo.call (hw) Tryd.func21 rfl rfl rfl rfl rfl rfl rfl rfl ?_); simp only [go_sem, ↓reduceIte, Nat.reduceEqDiff, Nat.reduceAdd, Nat.reduceLeDiff, Nat.reduceBEq, Nat.reduceMul, reduceCtorEq, Int.reduceLE, Int.reduceLT, Int.reduceAdd, Int.reduceSub, Int.reduceNeg, Int.reduceToNat, Int.reduceBEq, QueryD.av, List.length_map]) | ((first | refine RunTo.nilA (by kernel_rfl) ?_ | refine RunTo.nilT ?_ | refine awp_skip ?_ | refine awp_exit ?_ | refine awp_label ?_); simp only [go_sem, ↓reduceIte, Nat.reduceEqDiff, Nat.reduceAdd, Nat.reduceLeDiff, Nat.reduceBEq, Nat.reduceMul, reduceCtorEq, Int.reduceLE, Int.reduceLT, Int.reduceAdd, Int.reduceSub, Int.reduceNeg, Int.reduceToNat, Int.reduceBEq, QueryD.av, List.length_map]) | (refine awp_cond' rfl (of_decide_eq_true rfl) (fun hc => ?_) (fun hc => ?_) <;> ((try simp only [Bool.not_true, Bool.not_false, Bool.not_eq_true', Bool.not_eq_false', Bool.not_eq_eq_eq_not] at hc); (first | (cases hc) | (simp only [hc]) | skip))))
  refine awp_weak (weak_nilbox (b := 3) (j := 0) (s := 33) (sz := 3) rfl rfl rfl) ?_
  simp only [go_sem, ↓reduceIte, Nat.reduceEqDiff, Nat.reduceAdd, Nat.reduceLeDiff, Nat.reduceBEq, Nat.reduceMul, reduceCtorEq, Int.reduceLE, Int.reduceLT, Int.reduceAdd, Int.reduceSub, Int.reduceNeg, Int.reduceToNat, Int.reduceBEq, List.set_cons_zero, List.set_cons_succ]
  refine awp_loopw (IO0 q) q.spots.length (SO0 q 0 _ _ _) (weak_keep ⟨rfl, rfl, rfl, rfl, trivial⟩ ⟨rfl, rfl, rfl, rfl, trivial⟩ (Nat.le_refl _)) ⟨0, _, _, _, Nat.zero_le _, rfl, rfl⟩ ?_
  rintro n st ⟨k, T, e9, e0, hk, rfl, rfl⟩
  have hrl : ((q.spots.take k).map SpotD.enc).length = k := by simp; omega
  have htr : List.take k ((q.spots.take k).map SpotD.enc) = (q.spots.take k).map SpotD.enc := List.take_of_length_le (by omega)
  by_cases hlt : k < q.spots.length
  · have hdec := lt_t hlt
    have hget := row_at SpotD.enc q.spots k hlt
    have htk : (q.spots.take (k + 1)).map SpotD.enc = (q.spots.take k).map SpotD.enc ++ [SpotD.enc q.spots[k]] := by rw [List.take_succ_eq_append_getElem hlt, List.map_append]; rfl
    have hwk : IntKind.i64.wrap ((k : Int) + 1) = ((k + 1 : Nat) : Int) := wrap_succ (by omega)
    have c1 : ((k + 1) * 56 ≤ 140737488355328) = True := eq_true (by omega)
    have hle : (k ≤ (List.take k q.spots).length) = True := eq_true (by rw [List.length_take]; omega)
    have hrw : SpotD.enc q.spots[k] = [ds' q.spots[k].var, ds' q.spots[k].label, .lst 6 (q.spots[k].props.map PropD.enc)] := rfl
    rw [hrw] at hget
    generalize q.spots[k] = t at *
    repeat' (first | refine awp_seq ?_ | refine awp_block ?_ | refine awp_round ?_ | refine awp_scope ?_ | refine awp_text rfl ?_ | refine awp_any rfl mix (by kernel_rfl) ?_ | (refine RunTo.unguard rfl rfl (fun hg => ?_) (fun hg => ?_) <;> ((try simp only [Bool.not_true, Bool.not_false, Bool.not_eq_true', Bool.not_eq_false', Bool.not_eq_eq_eq_not] at hg); (first | (cases hg) | (simp only [hg]) | skip))) | ((first | refine RunTo.plain rfl ?_ | refine RunTo.skipped rfl ?_); simp only [go_sem, ↓reduceIte, Nat.reduceEqDiff, Nat.reduceAdd, Nat.reduceLeDiff, Nat.reduceBEq, Nat.reduceMul, reduceCtorEq, Int.reduceLE, Int.reduceLT, Int.reduceAdd, Int.reduceSub, Int.reduceNeg, Int.reduceToNat, Int.reduceBEq, hdec, hget, hwk, htr, hle, hrl, c1, List.length_map, List.length_cons, List.length_nil, lenTy, implies_true]) | ((first | refine RunTo.nilA (by kernel_rfl) ?_ | refine RunTo.nilT ?_ | refine awp_skip ?_ | refine awp_exit ?_ | refine awp_label ?_); simp only [go_sem, ↓reduceIte, Nat.reduceEqDiff, Nat.reduceAdd, Nat.reduceLeDiff, Nat.reduceBEq, Nat.reduceMul, reduceCtorEq, Int.reduceLE, Int.reduceLT, Int.reduceAdd, Int.reduceSub, Int.reduceNeg, Int.reduceToNat, Int.reduceBEq, hdec, hget, hwk, htr, hle, hrl, c1, List.length_map, List.length_cons, List.length_nil, lenTy, implies_true]) | (refine awp_cond' rfl (of_decide_eq_true rfl) (fun hc => ?_) (fun hc => ?_) <;> ((try simp only [Bool.not_true, Bool.not_false, Bool.not_eq_true', Bool.not_eq_false', Bool.not_eq_eq_eq_not] at hc); (first | (cases hc) | (simp only [hc]) | skip))))
    all_goals exact ⟨q.spots.length - (k + 1), by omega, SO0 q (k + 1) _ _ _, weak_keep ⟨rfl, rfl, rfl, rfl, trivial⟩ ⟨rfl, rfl, rfl, by rw [htk]; rfl, trivial⟩ (Nat.le_refl _), k + 1, _, _, _, by omega, rfl, rfl⟩
  have hdec := lt_f hlt
  obtain rfl : k = q.spots.length := by omega
  rw [List.take_of_length_le (Nat.le_refl _)] at hrl htr
  have hful : (q.spots.take q.spots.length).map SpotD.enc = q.spots.map SpotD.enc := by rw [List.take_of_length_le (Nat.le_refl _)]
  repeat' (first | refine awp_seq ?_ | refine awp_block ?_ | refine awp_round ?_ | refine awp_scope ?_ | refine awp_text rfl ?_ | refine awp_any rfl mix (by kernel_rfl) ?_ | (refine RunTo.unguard rfl rfl (fun hg => ?_) (fun hg => ?_) <;> ((try simp only [Bool.not_true, Bool.not_false, Bool.not_eq_true', Bool.not_eq_false', Bool.not_eq_eq_eq_not] at hg); (first | (cases hg) | (simp only [hg]) | skip))) | ((first | refine RunTo.plain rfl ?_ | refine RunTo.skipped rfl ?_); simp only [go_sem, ↓reduceIte, Nat.reduceEqDiff, Nat.reduceAdd, Nat.reduceLeDiff, Nat.reduceBEq, Nat.reduceMul, reduceCtorEq, Int.reduceLE, Int.reduceLT, Int.reduceAdd, Int.reduceSub, Int.reduceNeg, Int.reduceToNat, Int.reduceBEq, hdec, List.length_map]) | ((first | refine RunTo.nilA (by kernel_rfl) ?_ | refine RunTo.nilT ?_ | refine awp_skip ?_ | refine awp_exit ?_ | refine awp_label ?_); simp only [go_sem, ↓reduceIte, Nat.reduceEqDiff, Nat.reduceAdd, Nat.reduceLeDiff, Nat.reduceBEq, Nat.reduceMul, reduceCtorEq, Int.reduceLE, Int.reduceLT, Int.reduceAdd, Int.reduceSub, Int.reduceNeg, Int.reduceToNat, Int.reduceBEq, hdec, List.length_map]) | (refine awp_cond' rfl (of_decide_eq_true rfl) (fun hc => ?_) (fun hc => ?_) <;> ((try simp only [Bool.not_true, Bool.not_false, Bool.not_eq_true', Bool.not_eq_false', Bool.not_eq_eq_eq_not] at hc); (first | (cases hc) | (simp only [hc]) | skip))))
  simp only [go_sem, ↓reduceIte, Nat.reduceEqDiff, Nat.reduceAdd, Nat.reduceLeDiff, Nat.reduceBEq, Nat.reduceMul, reduceCtorEq, Int.reduceLE, Int.reduceLT, Int.reduceAdd, Int.reduceSub, Int.reduceNeg, Int.reduceToNat, Int.reduceBEq, hful]
  refine awp_weak (weak_nilbox (b := 3) (j := 1) (s := 50) (sz := 6) rfl rfl rfl) ?_
  simp only [go_sem, ↓reduceIte, Nat.reduceEqDiff, Nat.reduceAdd, Nat.reduceLeDiff, Nat.reduceBEq, Nat.reduceMul, reduceCtorEq, Int.reduceLE, Int.reduceLT, Int.reduceAdd, Int.reduceSub, Int.reduceNeg, Int.reduceToNat, Int.reduceBEq, List.set_cons_zero, List.set_cons_succ]
  refine awp_loopw (IO1 q) q.hops.length (SO1 q 0 _ _ _ _) (weak_keep ⟨rfl, rfl, rfl, rfl, trivial⟩ ⟨rfl, rfl, rfl, rfl, rfl, trivial⟩ (Nat.le_refl _)) ⟨0, _, _, _, _, Nat.zero_le _, rfl, rfl⟩ ?_
  rintro n st ⟨k, T, e9, e0, e1, hk, rfl, rfl⟩
  have hrl : ((q.hops.take k).map HopD.enc).length = k := by simp; omega
  have htr : List.take k ((q.hops.take k).map HopD.enc) = (q.hops.take k).map HopD.enc := List.take_of_length_le (by omega)
  by_cases hlt : k < q.hops.length
  · have hdec := lt_t hlt
    have hget := row_at HopD.enc q.hops k hlt
    have htk : (q.hops.take (k + 1)).map HopD.enc = (q.hops.take k).map HopD.enc ++ [HopD.enc q.hops[k]] := by rw [List.take_succ_eq_append_getElem hlt, List.map_append]; rfl
    have hwk : IntKind.i64.wrap ((k : Int) + 1) = ((k + 1 : Nat) : Int) := wrap_succ (by omega)
    have c1 : ((k + 1) * 56 ≤ 140737488355328) = True := eq_true (by omega)
    have hle : (k ≤ (List.take k q.hops).length) = True := eq_true (by rw [List.length_take]; omega)
    have hrw : HopD.enc q.hops[k] = [ds' q.hops[k].var, ds' q.hops[k].type, db q.hops[k].back, db q.hops[k].many, di q.hops[k].least, di q.hops[k].most] := rfl
    rw [hrw] at hget
    generalize q.hops[k] = t at *
    repeat' (first | refine awp_seq ?_ | refine awp_block ?_ | refine awp_round ?_ | refine awp_scope ?_ | refine awp_text rfl ?_ | refine awp_any rfl mix (by kernel_rfl) ?_ | (refine RunTo.unguard rfl rfl (fun hg => ?_) (fun hg => ?_) <;> ((try simp only [Bool.not_true, Bool.not_false, Bool.not_eq_true', Bool.not_eq_false', Bool.not_eq_eq_eq_not] at hg); (first | (cases hg) | (simp only [hg]) | skip))) | ((first | refine RunTo.plain rfl ?_ | refine RunTo.skipped rfl ?_); simp only [go_sem, ↓reduceIte, Nat.reduceEqDiff, Nat.reduceAdd, Nat.reduceLeDiff, Nat.reduceBEq, Nat.reduceMul, reduceCtorEq, Int.reduceLE, Int.reduceLT, Int.reduceAdd, Int.reduceSub, Int.reduceNeg, Int.reduceToNat, Int.reduceBEq, hdec, hget, hwk, htr, hle, hrl, c1, List.length_map, List.length_cons, List.length_nil, lenTy, implies_true]) | ((first | refine RunTo.nilA (by kernel_rfl) ?_ | refine RunTo.nilT ?_ | refine awp_skip ?_ | refine awp_exit ?_ | refine awp_label ?_); simp only [go_sem, ↓reduceIte, Nat.reduceEqDiff, Nat.reduceAdd, Nat.reduceLeDiff, Nat.reduceBEq, Nat.reduceMul, reduceCtorEq, Int.reduceLE, Int.reduceLT, Int.reduceAdd, Int.reduceSub, Int.reduceNeg, Int.reduceToNat, Int.reduceBEq, hdec, hget, hwk, htr, hle, hrl, c1, List.length_map, List.length_cons, List.length_nil, lenTy, implies_true]) | (refine awp_cond' rfl (of_decide_eq_true rfl) (fun hc => ?_) (fun hc => ?_) <;> ((try simp only [Bool.not_true, Bool.not_false, Bool.not_eq_true', Bool.not_eq_false', Bool.not_eq_eq_eq_not] at hc); (first | (cases hc) | (simp only [hc]) | skip))))
    all_goals exact ⟨q.hops.length - (k + 1), by omega, SO1 q (k + 1) _ _ _ _, weak_keep ⟨rfl, rfl, rfl, rfl, trivial⟩ ⟨rfl, rfl, rfl, rfl, by rw [htk]; rfl, trivial⟩ (Nat.le_refl _), k + 1, _, _, _, _, by omega, rfl, rfl⟩
  have hdec := lt_f hlt
  obtain rfl : k = q.hops.length := by omega
  rw [List.take_of_length_le (Nat.le_refl _)] at hrl htr
  have hful : (q.hops.take q.hops.length).map HopD.enc = q.hops.map HopD.enc := by rw [List.take_of_length_le (Nat.le_refl _)]
  repeat' (first | refine awp_seq ?_ | refine awp_block ?_ | refine awp_round ?_ | refine awp_scope ?_ | refine awp_text rfl ?_ | refine awp_any rfl mix (by kernel_rfl) ?_ | (refine RunTo.unguard rfl rfl (fun hg => ?_) (fun hg => ?_) <;> ((try simp only [Bool.not_true, Bool.not_false, Bool.not_eq_true', Bool.not_eq_false', Bool.not_eq_eq_eq_not] at hg); (first | (cases hg) | (simp only [hg]) | skip))) | ((first | refine RunTo.plain rfl ?_ | refine RunTo.skipped rfl ?_); simp only [go_sem, ↓reduceIte, Nat.reduceEqDiff, Nat.reduceAdd, Nat.reduceLeDiff, Nat.reduceBEq, Nat.reduceMul, reduceCtorEq, Int.reduceLE, Int.reduceLT, Int.reduceAdd, Int.reduceSub, Int.reduceNeg, Int.reduceToNat, Int.reduceBEq, hdec, List.length_map]) | ((first | refine RunTo.nilA (by kernel_rfl) ?_ | refine RunTo.nilT ?_ | refine awp_skip ?_ | refine awp_exit ?_ | refine awp_label ?_); simp only [go_sem, ↓reduceIte, Nat.reduceEqDiff, Nat.reduceAdd, Nat.reduceLeDiff, Nat.reduceBEq, Nat.reduceMul, reduceCtorEq, Int.reduceLE, Int.reduceLT, Int.reduceAdd, Int.reduceSub, Int.reduceNeg, Int.reduceToNat, Int.reduceBEq, hdec, List.length_map]) | (refine awp_cond' rfl (of_decide_eq_true rfl) (fun hc => ?_) (fun hc => ?_) <;> ((try simp only [Bool.not_true, Bool.not_false, Bool.not_eq_true', Bool.not_eq_false', Bool.not_eq_eq_eq_not] at hc); (first | (cases hc) | (simp only [hc]) | skip))))
  simp only [go_sem, ↓reduceIte, Nat.reduceEqDiff, Nat.reduceAdd, Nat.reduceLeDiff, Nat.reduceBEq, Nat.reduceMul, reduceCtorEq, Int.reduceLE, Int.reduceLT, Int.reduceAdd, Int.reduceSub, Int.reduceNeg, Int.reduceToNat, Int.reduceBEq, hful]
  refine awp_weak (weak_nilbox (b := 3) (j := 3) (s := 76) (sz := 2) rfl rfl rfl) ?_
  simp only [go_sem, ↓reduceIte, Nat.reduceEqDiff, Nat.reduceAdd, Nat.reduceLeDiff, Nat.reduceBEq, Nat.reduceMul, reduceCtorEq, Int.reduceLE, Int.reduceLT, Int.reduceAdd, Int.reduceSub, Int.reduceNeg, Int.reduceToNat, Int.reduceBEq, List.set_cons_zero, List.set_cons_succ]
  refine awp_loopw (IO2 q) q.items.length (SO2 q 0 _ _ _ _ _) (weak_keep ⟨rfl, rfl, rfl, rfl, trivial⟩ ⟨rfl, rfl, rfl, rfl, rfl, rfl, trivial⟩ (Nat.le_refl _)) ⟨0, _, _, _, _, _, Nat.zero_le _, rfl, rfl⟩ ?_
  rintro n st ⟨k, T, e9, e0, e1, e2, hk, rfl, rfl⟩
  have hrl : ((q.items.take k).map ItemD.enc).length = k := by simp; omega
  have htr : List.take k ((q.items.take k).map ItemD.enc) = (q.items.take k).map ItemD.enc := List.take_of_length_le (by omega)
  by_cases hlt : k < q.items.length
  · have hdec := lt_t hlt
    have hget := row_at ItemD.enc q.items k hlt
    have htk : (q.items.take (k + 1)).map ItemD.enc = (q.items.take k).map ItemD.enc ++ [ItemD.enc q.items[k]] := by rw [List.take_succ_eq_append_getElem hlt, List.map_append]; rfl
    have hwk : IntKind.i64.wrap ((k : Int) + 1) = ((k + 1 : Nat) : Int) := wrap_succ (by omega)
    have c1 : ((k + 1) * 32 ≤ 140737488355328) = True := eq_true (by omega)
    have hle : (k ≤ (List.take k q.items).length) = True := eq_true (by rw [List.length_take]; omega)
    have hcp := c_copyT q.items[k].terms (h.items _ (List.getElem_mem hlt)).len
    have hrw : ItemD.enc q.items[k] = [di q.items[k].fn, .lst 8 (q.items[k].terms.map TermD.enc)] := rfl
    rw [hrw] at hget
    generalize q.items[k] = t at *
    repeat' (first | refine awp_seq ?_ | refine awp_block ?_ | refine awp_round ?_ | refine awp_scope ?_ | refine awp_text rfl ?_ | refine awp_any rfl mix (by kernel_rfl) ?_ | (refine RunTo.unguard rfl rfl (fun hg => ?_) (fun hg => ?_) <;> ((try simp only [Bool.not_true, Bool.not_false, Bool.not_eq_true', Bool.not_eq_false', Bool.not_eq_eq_eq_not] at hg); (first | (cases hg) | (simp only [hg]) | skip))) | ((first | refine RunTo.plain rfl ?_ | refine RunTo.skipped rfl ?_ | refine RunTo.call (hcp) Tryd.func21 rfl rfl rfl rfl rfl rfl rfl rfl ?_); simp only [go_sem, ↓reduceIte, Nat.reduceEqDiff, Nat.reduceAdd, Nat.reduceLeDiff, Nat.reduceBEq, Nat.reduceMul, reduceCtorEq, Int.reduceLE, Int.reduceLT, Int.reduceAdd, Int.reduceSub, Int.reduceNeg, Int.reduceToNat, Int.reduceBEq, hdec, hget, hwk, htr, hle, hrl, c1, List.length_map, List.length_cons, List.length_nil, lenTy, implies_true]) | ((first | refine RunTo.nilA (by kernel_rfl) ?_ | refine RunTo.nilT ?_ | refine awp_skip ?_ | refine awp_exit ?_ | refine awp_label ?_); simp only [go_sem, ↓reduceIte, Nat.reduceEqDiff, Nat.reduceAdd, Nat.reduceLeDiff, Nat.reduceBEq, Nat.reduceMul, reduceCtorEq, Int.reduceLE, Int.reduceLT, Int.reduceAdd, Int.reduceSub, Int.reduceNeg, Int.reduceToNat, Int.reduceBEq, hdec, hget, hwk, htr, hle, hrl, c1, List.length_map, List.length_cons, List.length_nil, lenTy, implies_true]) | (refine awp_cond' rfl (of_decide_eq_true rfl) (fun hc => ?_) (fun hc => ?_) <;> ((try simp only [Bool.not_true, Bool.not_false, Bool.not_eq_true', Bool.not_eq_false', Bool.not_eq_eq_eq_not] at hc); (first | (cases hc) | (simp only [hc]) | skip))))
    all_goals exact ⟨q.items.length - (k + 1), by omega, SO2 q (k + 1) _ _ _ _ _, weak_keep ⟨rfl, rfl, rfl, rfl, trivial⟩ ⟨rfl, rfl, rfl, rfl, rfl, by rw [htk]; rfl, trivial⟩ (Nat.le_refl _), k + 1, _, _, _, _, _, by omega, rfl, rfl⟩
  have hdec := lt_f hlt
  obtain rfl : k = q.items.length := by omega
  rw [List.take_of_length_le (Nat.le_refl _)] at hrl htr
  have hful : (q.items.take q.items.length).map ItemD.enc = q.items.map ItemD.enc := by rw [List.take_of_length_le (Nat.le_refl _)]
  repeat' (first | refine awp_seq ?_ | refine awp_block ?_ | refine awp_round ?_ | refine awp_scope ?_ | refine awp_text rfl ?_ | refine awp_any rfl mix (by kernel_rfl) ?_ | (refine RunTo.unguard rfl rfl (fun hg => ?_) (fun hg => ?_) <;> ((try simp only [Bool.not_true, Bool.not_false, Bool.not_eq_true', Bool.not_eq_false', Bool.not_eq_eq_eq_not] at hg); (first | (cases hg) | (simp only [hg]) | skip))) | ((first | refine RunTo.plain rfl ?_ | refine RunTo.skipped rfl ?_); simp only [go_sem, ↓reduceIte, Nat.reduceEqDiff, Nat.reduceAdd, Nat.reduceLeDiff, Nat.reduceBEq, Nat.reduceMul, reduceCtorEq, Int.reduceLE, Int.reduceLT, Int.reduceAdd, Int.reduceSub, Int.reduceNeg, Int.reduceToNat, Int.reduceBEq, hdec, List.length_map]) | ((first | refine RunTo.nilA (by kernel_rfl) ?_ | refine RunTo.nilT ?_ | refine awp_skip ?_ | refine awp_exit ?_ | refine awp_label ?_); simp only [go_sem, ↓reduceIte, Nat.reduceEqDiff, Nat.reduceAdd, Nat.reduceLeDiff, Nat.reduceBEq, Nat.reduceMul, reduceCtorEq, Int.reduceLE, Int.reduceLT, Int.reduceAdd, Int.reduceSub, Int.reduceNeg, Int.reduceToNat, Int.reduceBEq, hdec, List.length_map]) | (refine awp_cond' rfl (of_decide_eq_true rfl) (fun hc => ?_) (fun hc => ?_) <;> ((try simp only [Bool.not_true, Bool.not_false, Bool.not_eq_true', Bool.not_eq_false', Bool.not_eq_eq_eq_not] at hc); (first | (cases hc) | (simp only [hc]) | skip))))
  simp only [go_sem, ↓reduceIte, Nat.reduceEqDiff, Nat.reduceAdd, Nat.reduceLeDiff, Nat.reduceBEq, Nat.reduceMul, reduceCtorEq, Int.reduceLE, Int.reduceLT, Int.reduceAdd, Int.reduceSub, Int.reduceNeg, Int.reduceToNat, Int.reduceBEq, hful]
  refine awp_weak (weak_nilbox (b := 3) (j := 5) (s := 93) (sz := 2) rfl rfl rfl) ?_
  simp only [go_sem, ↓reduceIte, Nat.reduceEqDiff, Nat.reduceAdd, Nat.reduceLeDiff, Nat.reduceBEq, Nat.reduceMul, reduceCtorEq, Int.reduceLE, Int.reduceLT, Int.reduceAdd, Int.reduceSub, Int.reduceNeg, Int.reduceToNat, Int.reduceBEq, List.set_cons_zero, List.set_cons_succ]
  refine awp_loopw (IO3 q) q.sorts.length (SO3 q 0 _ _ _ _ _ _) (weak_keep ⟨rfl, rfl, rfl, rfl, trivial⟩ ⟨rfl, rfl, rfl, rfl, rfl, rfl, rfl, trivial⟩ (Nat.le_refl _)) ⟨0, _, _, _, _, _, _, Nat.zero_le _, rfl, rfl⟩ ?_
  rintro n st ⟨k, T, e9, e0, e1, e2, e3, hk, rfl, rfl⟩
  have hrl : ((q.sorts.take k).map SortD.enc).length = k := by simp; omega
  have htr : List.take k ((q.sorts.take k).map SortD.enc) = (q.sorts.take k).map SortD.enc := List.take_of_length_le (by omega)
  by_cases hlt : k < q.sorts.length
  · have hdec := lt_t hlt
    have hget := row_at SortD.enc q.sorts k hlt
    have htk : (q.sorts.take (k + 1)).map SortD.enc = (q.sorts.take k).map SortD.enc ++ [SortD.enc q.sorts[k]] := by rw [List.take_succ_eq_append_getElem hlt, List.map_append]; rfl
    have hwk : IntKind.i64.wrap ((k : Int) + 1) = ((k + 1 : Nat) : Int) := wrap_succ (by omega)
    have c1 : ((k + 1) * 16 ≤ 140737488355328) = True := eq_true (by omega)
    have hle : (k ≤ (List.take k q.sorts).length) = True := eq_true (by rw [List.length_take]; omega)
    have hrw : SortD.enc q.sorts[k] = [di q.sorts[k].item, db q.sorts[k].desc] := rfl
    rw [hrw] at hget
    generalize q.sorts[k] = t at *
    repeat' (first | refine awp_seq ?_ | refine awp_block ?_ | refine awp_round ?_ | refine awp_scope ?_ | refine awp_text rfl ?_ | refine awp_any rfl mix (by kernel_rfl) ?_ | (refine RunTo.unguard rfl rfl (fun hg => ?_) (fun hg => ?_) <;> ((try simp only [Bool.not_true, Bool.not_false, Bool.not_eq_true', Bool.not_eq_false', Bool.not_eq_eq_eq_not] at hg); (first | (cases hg) | (simp only [hg]) | skip))) | ((first | refine RunTo.plain rfl ?_ | refine RunTo.skipped rfl ?_); simp only [go_sem, ↓reduceIte, Nat.reduceEqDiff, Nat.reduceAdd, Nat.reduceLeDiff, Nat.reduceBEq, Nat.reduceMul, reduceCtorEq, Int.reduceLE, Int.reduceLT, Int.reduceAdd, Int.reduceSub, Int.reduceNeg, Int.reduceToNat, Int.reduceBEq, hdec, hget, hwk, htr, hle, hrl, c1, List.length_map, List.length_cons, List.length_nil, lenTy, implies_true]) | ((first | refine RunTo.nilA (by kernel_rfl) ?_ | refine RunTo.nilT ?_ | refine awp_skip ?_ | refine awp_exit ?_ | refine awp_label ?_); simp only [go_sem, ↓reduceIte, Nat.reduceEqDiff, Nat.reduceAdd, Nat.reduceLeDiff, Nat.reduceBEq, Nat.reduceMul, reduceCtorEq, Int.reduceLE, Int.reduceLT, Int.reduceAdd, Int.reduceSub, Int.reduceNeg, Int.reduceToNat, Int.reduceBEq, hdec, hget, hwk, htr, hle, hrl, c1, List.length_map, List.length_cons, List.length_nil, lenTy, implies_true]) | (refine awp_cond' rfl (of_decide_eq_true rfl) (fun hc => ?_) (fun hc => ?_) <;> ((try simp only [Bool.not_true, Bool.not_false, Bool.not_eq_true', Bool.not_eq_false', Bool.not_eq_eq_eq_not] at hc); (first | (cases hc) | (simp only [hc]) | skip))))
    all_goals exact ⟨q.sorts.length - (k + 1), by omega, SO3 q (k + 1) _ _ _ _ _ _, weak_keep ⟨rfl, rfl, rfl, rfl, trivial⟩ ⟨rfl, rfl, rfl, rfl, rfl, rfl, by rw [htk]; rfl, trivial⟩ (Nat.le_refl _), k + 1, _, _, _, _, _, _, by omega, rfl, rfl⟩
  have hdec := lt_f hlt
  obtain rfl : k = q.sorts.length := by omega
  rw [List.take_of_length_le (Nat.le_refl _)] at hrl htr
  have hful : (q.sorts.take q.sorts.length).map SortD.enc = q.sorts.map SortD.enc := by rw [List.take_of_length_le (Nat.le_refl _)]
  repeat' (first | refine awp_seq ?_ | refine awp_block ?_ | refine awp_round ?_ | refine awp_scope ?_ | refine awp_text rfl ?_ | refine awp_any rfl mix (by kernel_rfl) ?_ | (refine RunTo.unguard rfl rfl (fun hg => ?_) (fun hg => ?_) <;> ((try simp only [Bool.not_true, Bool.not_false, Bool.not_eq_true', Bool.not_eq_false', Bool.not_eq_eq_eq_not] at hg); (first | (cases hg) | (simp only [hg]) | skip))) | ((first | refine RunTo.plain rfl ?_ | refine RunTo.skipped rfl ?_); simp only [go_sem, ↓reduceIte, Nat.reduceEqDiff, Nat.reduceAdd, Nat.reduceLeDiff, Nat.reduceBEq, Nat.reduceMul, reduceCtorEq, Int.reduceLE, Int.reduceLT, Int.reduceAdd, Int.reduceSub, Int.reduceNeg, Int.reduceToNat, Int.reduceBEq, hdec, List.length_map]) | ((first | refine RunTo.nilA (by kernel_rfl) ?_ | refine RunTo.nilT ?_ | refine awp_skip ?_ | refine awp_exit ?_ | refine awp_label ?_); simp only [go_sem, ↓reduceIte, Nat.reduceEqDiff, Nat.reduceAdd, Nat.reduceLeDiff, Nat.reduceBEq, Nat.reduceMul, reduceCtorEq, Int.reduceLE, Int.reduceLT, Int.reduceAdd, Int.reduceSub, Int.reduceNeg, Int.reduceToNat, Int.reduceBEq, hdec, List.length_map]) | (refine awp_cond' rfl (of_decide_eq_true rfl) (fun hc => ?_) (fun hc => ?_) <;> ((try simp only [Bool.not_true, Bool.not_false, Bool.not_eq_true', Bool.not_eq_false', Bool.not_eq_eq_eq_not] at hc); (first | (cases hc) | (simp only [hc]) | skip))))
  all_goals (first | refine awp_ret ?_ | skip); refine ⟨(by first | exact .inl rfl | exact .inr rfl | exact .inr trivial | trivial), ?_⟩; simp only [go_sem, ↓reduceIte, Nat.reduceEqDiff, Nat.reduceAdd, Nat.reduceLeDiff, Nat.reduceBEq, Nat.reduceMul, reduceCtorEq, Int.reduceLE, Int.reduceLT, Int.reduceAdd, Int.reduceSub, Int.reduceNeg, Int.reduceToNat, Int.reduceBEq, retV, resL, resV, sealV, sealC, sealAll, Tryd.f8]
  all_goals rw [hful]
  all_goals simp only [List.length_map, Nat.le_refl, ↓reduceIte, g0, g1, g2, g3]
end Go.Proofs.YtlpfdgkfdgehnaaDoor.AM
namespace Go.Proofs.YtlpfdgkfdgehnaaDoor.AM
open Go.RowKit
set_option linter.unusedSimpArgs false
set_option linter.unusedVariables false
set_option maxRecDepth 10000
set_option maxHeartbeats 0
theorem agg_inv {c : Cx} {l : List Value} {u : Value} (h : VR c (.agg (l.map AV.lit)) u) : u = .agg l.toArray := by
  cases h with
  | agg _ us h1 k1 => rw [us_lits (l := l) h1 k1]
theorem os_neqAgg {P : Program} {o : Oper} {ρ : Operand → AV} {h : List (Nat × Blk)} {E : Nat} {x y : Operand} {t t' : TypeId} {l1 l2 : List Value} {r : Bool} (ho : o.op = .binOp .neq t x y t') (hm : P.eqGuardType P.depth t = false) (hv : ∀ W, (Op.equalIn 10000 t (.agg l1.toArray) (.agg l2.toArray)).run P W = .ok r W)
    (hx : ρ x = .agg (l1.map AV.lit)) (hy : ρ y = .agg (l2.map AV.lit)) : OStep P o ρ h [] E (.lit (.bool (!r))) h :=
  ostep_value (fun c a ok hops _ => by
    have h1 := hops x (by rw [ho]; simp [Op.operands])
    have h2 := hops y (by rw [ho]; simp [Op.operands])
    rw [hx] at h1
    rw [hy] at h2
    have e1 := agg_inv h1
    have e2 := agg_inv h2
    refine ⟨.bool (!r), ?_, .dat _ _ (.lit _)⟩
    simp only [execOp, ho, e1, e2, Sem.run_bind]
    rw [run_eqGuard_agg c.W .neq t x y _ _ hm, Result.andThen_ok, run_neq_struct, hv c.W]
    rfl)
theorem RunTo.neqAgg {P : Program} {ds : List (Option Tmp)} {T i : Nat} {o : Oper} {os : List Oper} {st : St} {acc : Log} {K : Kont} {x y : Operand} {t t' : TypeId} {l1 l2 : List Value} {r : Bool} (hv : ∀ W, (Op.equalIn 10000 t (.agg l1.toArray) (.agg l2.toArray)).run P W = .ok r W) (ho : o.op = .binOp .neq t x y t') (hm : P.eqGuardType P.depth t = false) (hw : wantedA ds o st.env = some true)
    (hx : opv st.env x = .agg (l1.map AV.lit)) (hy : opv st.env y = .agg (l2.map AV.lit))
    (h : RunTo P ds T (i + 1) os (st.put o.dst (.lit (.bool (!r)))) (acc ++ [([], [])]) K) : RunTo P ds T i (o :: os) st acc K :=
  RunTo.cons ⟨.inr ⟨hw, _, st.heap, os_neqAgg ho hm hv hx hy, by cases st; rfl⟩, fun b _ => by rw [heap_put], fun b hb => (by cases hb)⟩ h
abbrev hopVs (h : HopD) : List Value := [.string h.var, .string h.type, .bool h.back, .bool h.many, .int .i64 h.least, .int .i64 h.most]
def sameH (a b : HopD) : Bool := (a.var.toList == b.var.toList) && ((a.type.toList == b.type.toList) && ((a.back == b.back) && ((a.many == b.many) && ((a.least == b.least) && (a.most == b.most)))))
theorem eq_hop (a b : HopD) (w : World) : (Op.equalIn 10000 69 (.agg (hopVs a).toArray) (.agg (hopVs b).toArray)).run Tryd.prog w = .ok (sameH a b) w := by
  have u3 := Tryd.underlying3
  have a3 := Tryd.isAgg3
  have z3 := Tryd.sizeOf3
  have u4 := Tryd.underlying4
  have a4 := Tryd.isAgg4
  have z4 := Tryd.sizeOf4
  have u9 := Tryd.underlying9
  have a9 := Tryd.isAgg9
  have z9 := Tryd.sizeOf9
  have hS : Tryd.prog.underlying 69 = some (.struct (Tryd.prog.fieldsOf 69)) := by kernel_rfl
  have hp : Tryd.prog.stoodInHeld 69 = false := by kernel_rfl
  rw [show (10000 : Nat) = 9999 + 1 from rfl, run_equalIn_agg w 9999 69 _ _ hS hp]
  simp only [Program.fieldsOf, Tryd.underlying69]
  unfold sameH
  go_simp
  by_cases c1 : a.var.toList = b.var.toList <;> by_cases c2 : a.type.toList = b.type.toList <;> by_cases c3 : a.back = b.back <;> by_cases c4 : a.many = b.many <;> by_cases c5 : a.least = b.least <;> by_cases c6 : a.most = b.most <;> simp [c1, c2, c3, c4, c5, c6]
abbrev sortVs (x : SortD) : List Value := [.int .i64 x.item, .bool x.desc]
def sameO (a b : SortD) : Bool := (a.item == b.item) && (a.desc == b.desc)
theorem eq_sort (a b : SortD) (w : World) : (Op.equalIn 10000 72 (.agg (sortVs a).toArray) (.agg (sortVs b).toArray)).run Tryd.prog w = .ok (sameO a b) w := by
  have u3 := Tryd.underlying3
  have a3 := Tryd.isAgg3
  have z3 := Tryd.sizeOf3
  have u4 := Tryd.underlying4
  have a4 := Tryd.isAgg4
  have z4 := Tryd.sizeOf4
  have hS : Tryd.prog.underlying 72 = some (.struct (Tryd.prog.fieldsOf 72)) := by kernel_rfl
  have hp : Tryd.prog.stoodInHeld 72 = false := by kernel_rfl
  rw [show (10000 : Nat) = 9999 + 1 from rfl, run_equalIn_agg w 9999 72 _ _ hS hp]
  simp only [Program.fieldsOf, Tryd.underlying72]
  unfold sameO
  go_simp
  by_cases c1 : a.item = b.item <;> by_cases c2 : a.desc = b.desc <;> simp [c1, c2]
def at2 {α : Type} (f : α → α → Bool) (l m : List α) (i : Nat) : Bool := match l[i]?, m[i]? with
  | some x, some y => f x y
  | _, _ => true
theorem at2_in {α : Type} (f : α → α → Bool) (l m : List α) (i : Nat) (h : i < l.length) (h2 : i < m.length) : at2 f l m i = f l[i] m[i] := by
  unfold at2
  rw [List.getElem?_eq_getElem h, List.getElem?_eq_getElem h2]
def sameL {α : Type} (f : α → α → Bool) (l m : List α) : Bool := ((l.length : Int) == (m.length : Int)) && (List.range l.length).all (at2 f l m)
theorem sameL_iff {α : Type} (f : α → α → Bool) (l m : List α) (h : ∀ x ∈ l, ∀ y ∈ m, f x y = true ↔ x = y) : sameL f l m = true ↔ l = m := by
  unfold sameL
  rw [Bool.and_eq_true, beq_iff_eq, List.all_eq_true]
  constructor
  · rintro ⟨h1, h2⟩
    have h1 : l.length = m.length := by omega
    apply List.ext_getElem h1
    intro i hi hj
    have := h2 i (List.mem_range.2 hi)
    rw [at2_in f l m i hi hj] at this
    exact (h _ (List.getElem_mem hi) _ (List.getElem_mem hj)).1 this
  · rintro rfl
    refine ⟨rfl, fun i hi => ?_⟩
    have hi := List.mem_range.1 hi
    rw [at2_in f l l i hi hi]
    exact (h _ (List.getElem_mem hi) _ (List.getElem_mem hi)).2 rfl
def sameAt (a b : AtomD) : Bool := (a.k == b.k) && ((a.n == b.n) && (((a.f : Int) == (b.f : Int)) && (a.s.toList == b.s.toList)))
def sameV (a b : ValD) : Bool := sameAt a.a b.a && sameL sameAt a.l b.l
def sameP (a b : PropD) : Bool := (a.name.toList == b.name.toList) && sameV a.v b.v
def sameT (a b : TermD) : Bool := (a.op == b.op) && ((a.var.toList == b.var.toList) && ((a.name.toList == b.name.toList) && sameV a.v b.v))
def sameS (a b : SpotD) : Bool := (a.var.toList == b.var.toList) && ((a.label.toList == b.label.toList) && sameL sameP a.props b.props)
def sameI (a b : ItemD) : Bool := (a.fn == b.fn) && sameL sameT a.terms b.terms
def sameQ (a b : QueryD) : Bool := ((a.spots.length : Int) == (b.spots.length : Int)) && (((a.hops.length : Int) == (b.hops.length : Int)) && (((a.items.length : Int) == (b.items.length : Int)) && (((a.sorts.length : Int) == (b.sorts.length : Int)) && ((a.distinct == b.distinct) && ((a.skip == b.skip) && ((a.limit == b.limit) && (sameL sameT a.wh b.wh
  && ((List.range a.spots.length).all (at2 sameS a.spots b.spots) && ((List.range a.hops.length).all (at2 sameH a.hops b.hops) && ((List.range a.items.length).all (at2 sameI a.items b.items) && (List.range a.sorts.length).all (at2 sameO a.sorts b.sorts)))))))))))
theorem tl_iff (a b : ByteArray) : (a.toList == b.toList) = true ↔ a = b := by
  rw [beq_iff_eq, ByteArray.toList_eq, ByteArray.toList_eq]
  exact ⟨fun h => ByteArray.ext (Array.ext' h), fun h => by rw [h]⟩
theorem sameAt_iff (a b : AtomD) : sameAt a b = true ↔ a = b := by
  unfold sameAt
  rw [Bool.and_eq_true, Bool.and_eq_true, Bool.and_eq_true, tl_iff, beq_iff_eq, beq_iff_eq, beq_iff_eq]
  obtain ⟨k, n, f, s⟩ := a
  obtain ⟨k', n', f', s'⟩ := b
  simp only [AtomD.mk.injEq]
  constructor
  · rintro ⟨h1, h2, h3, h4⟩; exact ⟨h1, h2, by omega, h4⟩
  · rintro ⟨h1, h2, h3, h4⟩; exact ⟨h1, h2, by omega, h4⟩
theorem sameV_iff (a b : ValD) : sameV a b = true ↔ a = b := by
  unfold sameV
  rw [Bool.and_eq_true, sameAt_iff, sameL_iff sameAt _ _ (fun x _ y _ => sameAt_iff x y)]
  obtain ⟨x, l⟩ := a
  obtain ⟨y, m⟩ := b
  simp only [ValD.mk.injEq]
theorem sameP_iff (a b : PropD) : sameP a b = true ↔ a = b := by
  unfold sameP
  rw [Bool.and_eq_true, tl_iff, sameV_iff]
  obtain ⟨x, l⟩ := a
  obtain ⟨y, m⟩ := b
  simp only [PropD.mk.injEq]
theorem sameT_iff (a b : TermD) : sameT a b = true ↔ a = b := by
  unfold sameT
  rw [Bool.and_eq_true, Bool.and_eq_true, Bool.and_eq_true, tl_iff, tl_iff, sameV_iff, beq_iff_eq]
  obtain ⟨x, l, n, v⟩ := a
  obtain ⟨y, m, n', v'⟩ := b
  simp only [TermD.mk.injEq]
theorem sameS_iff (a b : SpotD) : sameS a b = true ↔ a = b := by
  unfold sameS
  rw [Bool.and_eq_true, Bool.and_eq_true, tl_iff, tl_iff, sameL_iff sameP _ _ (fun x _ y _ => sameP_iff x y)]
  obtain ⟨x, l, n⟩ := a
  obtain ⟨y, m, n'⟩ := b
  simp only [SpotD.mk.injEq]
theorem sameI_iff (a b : ItemD) : sameI a b = true ↔ a = b := by
  unfold sameI
  rw [Bool.and_eq_true, beq_iff_eq, sameL_iff sameT _ _ (fun x _ y _ => sameT_iff x y)]
  obtain ⟨x, l⟩ := a
  obtain ⟨y, m⟩ := b
  simp only [ItemD.mk.injEq]
theorem sameH_iff (a b : HopD) : sameH a b = true ↔ a = b := by
  unfold sameH
  rw [Bool.and_eq_true, Bool.and_eq_true, Bool.and_eq_true, Bool.and_eq_true, Bool.and_eq_true, tl_iff, tl_iff, beq_iff_eq, beq_iff_eq, beq_iff_eq, beq_iff_eq]
  obtain ⟨x, l, n, p, q, r⟩ := a
  obtain ⟨y, m, n', p', q', r'⟩ := b
  simp only [HopD.mk.injEq]
theorem sameO_iff (a b : SortD) : sameO a b = true ↔ a = b := by
  unfold sameO
  simp only [Bool.and_eq_true, beq_iff_eq]
  obtain ⟨x, l⟩ := a
  obtain ⟨y, m⟩ := b
  simp only [SortD.mk.injEq]
theorem all_at2 {α : Type} (f : α → α → Bool) (l m : List α) (h : ∀ x y, f x y = true ↔ x = y) (hl : (l.length : Int) = (m.length : Int)) : (List.range l.length).all (at2 f l m) = true ↔ l = m := by
  rw [← sameL_iff f l m (fun x _ y _ => h x y)]
  unfold sameL
  rw [Bool.and_eq_true, beq_iff_eq]
  exact ⟨fun g => ⟨hl, g⟩, fun g => g.2⟩
theorem sameQ_iff (a b : QueryD) : sameQ a b = true ↔ a = b := by
  unfold sameQ
  simp only [Bool.and_eq_true]
  constructor
  · rintro ⟨h1, h2, h3, h4, h5, h6, h7, h8, h9, h10, h11, h12⟩
    have e1 := (all_at2 sameS _ _ sameS_iff (beq_iff_eq.1 h1)).1 h9
    have e2 := (all_at2 sameH _ _ sameH_iff (beq_iff_eq.1 h2)).1 h10
    have e3 := (all_at2 sameI _ _ sameI_iff (beq_iff_eq.1 h3)).1 h11
    have e4 := (all_at2 sameO _ _ sameO_iff (beq_iff_eq.1 h4)).1 h12
    have e5 := (sameL_iff sameT _ _ (fun x _ y _ => sameT_iff x y)).1 h8
    have e6 := beq_iff_eq.1 h5
    have e7 := beq_iff_eq.1 h6
    have e8 := beq_iff_eq.1 h7
    obtain ⟨a1, a2, a3, a4, a5, a6, a7, a8⟩ := a
    obtain ⟨b1, b2, b3, b4, b5, b6, b7, b8⟩ := b
    simp only at *
    subst e1 e2 e3 e4 e5 e6 e7 e8
    rfl
  · rintro rfl
    exact ⟨beq_self_eq_true _, beq_self_eq_true _, beq_self_eq_true _, beq_self_eq_true _, beq_self_eq_true _, beq_self_eq_true _, beq_self_eq_true _, (sameL_iff sameT _ _ (fun x _ y _ => sameT_iff x y)).2 rfl, (all_at2 sameS _ _ sameS_iff rfl).2 rfl, (all_at2 sameH _ _ sameH_iff rfl).2 rfl, (all_at2 sameI _ _ sameI_iff rfl).2 rfl, (all_at2 sameO _ _ sameO_iff rfl).2 rfl⟩
theorem c_sameAt (a b : AtomD) : Pure Tryd.prog 50 [a.av, b.av] (bv (sameAt a b)) := by
  have b1 := c_rBits a.f
  have b0 := c_rBits b.f
  unfold sameAt
  cases h1 : (a.k == b.k) <;> cases h2 : (a.n == b.n) <;> cases h3 : ((a.f : Int) == (b.f : Int)) <;> cases h4 : (a.s.toList == b.s.toList)
  all_goals
    refine pure_of_awp Tryd.func50 rfl rfl (by simp [Tryd.f50]) ?_; simp only [go_sem, ↓reduceIte, Nat.reduceEqDiff, Nat.reduceAdd, Nat.reduceLeDiff, Nat.reduceBEq, Nat.reduceMul, reduceCtorEq, Int.reduceLE, Int.reduceLT, Int.reduceAdd, Int.reduceSub, Int.reduceNeg, Int.reduceToNat, Int.reduceBEq]
    repeat' (first | refine awp_seq ?_ | refine awp_block ?_ | refine awp_round ?_ | refine awp_scope ?_ | refine awp_text rfl ?_ | refine awp_any rfl mix (by kernel_rfl) ?_ | (refine RunTo.unguard rfl rfl (fun hg => ?_) (fun hg => ?_) <;> ((try simp only [Bool.not_true, Bool.not_false, Bool.not_eq_true', Bool.not_eq_false', Bool.not_eq_eq_eq_not] at hg); (first | (cases hg) | (simp only [hg]) | skip))) | ((first | refine RunTo.plain rfl ?_ | refine RunTo.skipped rfl ?_ | refine RunTo.call (b1) Tryd.func66 rfl rfl rfl rfl rfl rfl rfl rfl ?_ | refine RunTo.call (b0) Tryd.func66 rfl rfl rfl rfl rfl rfl rfl rfl ?_); simp only [go_sem, ↓reduceIte, Nat.reduceEqDiff, Nat.reduceAdd, Nat.reduceLeDiff, Nat.reduceBEq, Nat.reduceMul, reduceCtorEq, Int.reduceLE, Int.reduceLT, Int.reduceAdd, Int.reduceSub, Int.reduceNeg, Int.reduceToNat, Int.reduceBEq, AtomD.av, h1, h2, h3, h4]) | ((first | refine RunTo.nilA (by kernel_rfl) ?_ | refine RunTo.nilT ?_ | refine awp_skip ?_ | refine awp_exit ?_ | refine awp_label ?_); simp only [go_sem, ↓reduceIte, Nat.reduceEqDiff, Nat.reduceAdd, Nat.reduceLeDiff, Nat.reduceBEq, Nat.reduceMul, reduceCtorEq, Int.reduceLE, Int.reduceLT, Int.reduceAdd, Int.reduceSub, Int.reduceNeg, Int.reduceToNat, Int.reduceBEq, AtomD.av, h1, h2, h3, h4]) | (refine awp_cond' rfl (of_decide_eq_true rfl) (fun hc => ?_) (fun hc => ?_) <;> ((try simp only [Bool.not_true, Bool.not_false, Bool.not_eq_true', Bool.not_eq_false', Bool.not_eq_eq_eq_not] at hc); (first | (cases hc) | (simp only [hc]) | skip))))
    all_goals (first | refine awp_ret ?_ | skip); refine ⟨(by first | exact .inl rfl | exact .inr rfl | exact .inr trivial | trivial), ?_⟩; simp only [go_sem, ↓reduceIte, Nat.reduceEqDiff, Nat.reduceAdd, Nat.reduceLeDiff, Nat.reduceBEq, Nat.reduceMul, reduceCtorEq, Int.reduceLE, Int.reduceLT, Int.reduceAdd, Int.reduceSub, Int.reduceNeg, Int.reduceToNat, Int.reduceBEq, retV, resL, resV, sealV, sealC, sealAll, Tryd.f50]
    all_goals rfl
abbrev cellsU (v : ValD) : List AV := [iv v.a.k, iv v.a.n, fv v.a.f, sv v.a.s, .dat (.lst 4 (v.l.map AtomD.enc))]
abbrev SUa (v w : ValD) (k T : Nat) : St := ⟨[(5, iv k), (2, .ptr 2 0 0 0), (3, .ptr 3 1 0 0)], [(2, .box 0 (cellsU v)), (3, .box 1 (cellsU w))], T⟩
def IUa (v w : ValD) (m : Nat) (st : St) : Prop := ∃ k T, k ≤ v.l.length ∧ m = v.l.length - k ∧ (List.range k).all (at2 sameAt v.l w.l) = true ∧ st = SUa v w k T
theorem c_sameV (v w : ValD) (hl : v.l.length ≤ 1000000) : Pure Tryd.prog 39 [v.av, w.av] (bv (sameV v w)) := by
  have s0 := c_sameAt v.a w.a
  unfold sameV sameL
  cases h0 : sameAt v.a w.a with
  | false =>
    rw [h0] at s0
    rw [Bool.false_and]
    refine pure_of_awp Tryd.func39 rfl rfl (by simp [Tryd.f39]) ?_; simp only [go_sem, ↓reduceIte, Nat.reduceEqDiff, Nat.reduceAdd, Nat.reduceLeDiff, Nat.reduceBEq, Nat.reduceMul, reduceCtorEq, Int.reduceLE, Int.reduceLT, Int.reduceAdd, Int.reduceSub, Int.reduceNeg, Int.reduceToNat, Int.reduceBEq]
    repeat' (first | refine awp_seq ?_ | refine awp_block ?_ | refine awp_round ?_ | refine awp_scope ?_ | refine awp_text rfl ?_ | refine awp_any rfl mix (by kernel_rfl) ?_ | (refine RunTo.unguard rfl rfl (fun hg => ?_) (fun hg => ?_) <;> ((try simp only [Bool.not_true, Bool.not_false, Bool.not_eq_true', Bool.not_eq_false', Bool.not_eq_eq_eq_not] at hg); (first | (cases hg) | (simp only [hg]) | skip))) | ((first | refine RunTo.plain rfl ?_ | refine RunTo.skipped rfl ?_ | refine RunTo.call (s0) Tryd.func50 rfl rfl rfl rfl rfl rfl rfl rfl ?_); simp only [go_sem, ↓reduceIte, Nat.reduceEqDiff, Nat.reduceAdd, Nat.reduceLeDiff, Nat.reduceBEq, Nat.reduceMul, reduceCtorEq, Int.reduceLE, Int.reduceLT, Int.reduceAdd, Int.reduceSub, Int.reduceNeg, Int.reduceToNat, Int.reduceBEq, ValD.av, AtomD.av, List.length_map, bne, Bool.not_true, Bool.not_false]) | ((first | refine RunTo.nilA (by kernel_rfl) ?_ | refine RunTo.nilT ?_ | refine awp_skip ?_ | refine awp_exit ?_ | refine awp_label ?_); simp only [go_sem, ↓reduceIte, Nat.reduceEqDiff, Nat.reduceAdd, Nat.reduceLeDiff, Nat.reduceBEq, Nat.reduceMul, reduceCtorEq, Int.reduceLE, Int.reduceLT, Int.reduceAdd, Int.reduceSub, Int.reduceNeg, Int.reduceToNat, Int.reduceBEq, ValD.av, AtomD.av, List.length_map, bne, Bool.not_true, Bool.not_false]) | (refine awp_cond' rfl (of_decide_eq_true rfl) (fun hc => ?_) (fun hc => ?_) <;> ((try simp only [Bool.not_true, Bool.not_false, Bool.not_eq_true', Bool.not_eq_false', Bool.not_eq_eq_eq_not] at hc); (first | (cases hc) | (simp only [hc]) | skip))))
    all_goals (first | refine awp_ret ?_ | skip); refine ⟨(by first | exact .inl rfl | exact .inr rfl | exact .inr trivial | trivial), ?_⟩; simp only [go_sem, ↓reduceIte, Nat.reduceEqDiff, Nat.reduceAdd, Nat.reduceLeDiff, Nat.reduceBEq, Nat.reduceMul, reduceCtorEq, Int.reduceLE, Int.reduceLT, Int.reduceAdd, Int.reduceSub, Int.reduceNeg, Int.reduceToNat, Int.reduceBEq, retV, resL, resV, sealV, sealC, sealAll, Tryd.f39]
    all_goals rfl
  | true =>
    rw [h0] at s0
    rw [Bool.true_and]
    cases h1 : ((v.l.length : Int) == (w.l.length : Int)) with
    | false =>
      rw [Bool.false_and]
      refine pure_of_awp Tryd.func39 rfl rfl (by simp [Tryd.f39]) ?_; simp only [go_sem, ↓reduceIte, Nat.reduceEqDiff, Nat.reduceAdd, Nat.reduceLeDiff, Nat.reduceBEq, Nat.reduceMul, reduceCtorEq, Int.reduceLE, Int.reduceLT, Int.reduceAdd, Int.reduceSub, Int.reduceNeg, Int.reduceToNat, Int.reduceBEq]
      repeat' (first | refine awp_seq ?_ | refine awp_block ?_ | refine awp_round ?_ | refine awp_scope ?_ | refine awp_text rfl ?_ | refine awp_any rfl mix (by kernel_rfl) ?_ | (refine RunTo.unguard rfl rfl (fun hg => ?_) (fun hg => ?_) <;> ((try simp only [Bool.not_true, Bool.not_false, Bool.not_eq_true', Bool.not_eq_false', Bool.not_eq_eq_eq_not] at hg); (first | (cases hg) | (simp only [hg]) | skip))) | ((first | refine RunTo.plain rfl ?_ | refine RunTo.skipped rfl ?_ | refine RunTo.call (s0) Tryd.func50 rfl rfl rfl rfl rfl rfl rfl rfl ?_); simp only [go_sem, ↓reduceIte, Nat.reduceEqDiff, Nat.reduceAdd, Nat.reduceLeDiff, Nat.reduceBEq, Nat.reduceMul, reduceCtorEq, Int.reduceLE, Int.reduceLT, Int.reduceAdd, Int.reduceSub, Int.reduceNeg, Int.reduceToNat, Int.reduceBEq, ValD.av, AtomD.av, h1, List.length_map, bne, Bool.not_true, Bool.not_false]) | ((first | refine RunTo.nilA (by kernel_rfl) ?_ | refine RunTo.nilT ?_ | refine awp_skip ?_ | refine awp_exit ?_ | refine awp_label ?_); simp only [go_sem, ↓reduceIte, Nat.reduceEqDiff, Nat.reduceAdd, Nat.reduceLeDiff, Nat.reduceBEq, Nat.reduceMul, reduceCtorEq, Int.reduceLE, Int.reduceLT, Int.reduceAdd, Int.reduceSub, Int.reduceNeg, Int.reduceToNat, Int.reduceBEq, ValD.av, AtomD.av, h1, List.length_map, bne, Bool.not_true, Bool.not_false]) | (refine awp_cond' rfl (of_decide_eq_true rfl) (fun hc => ?_) (fun hc => ?_) <;> ((try simp only [Bool.not_true, Bool.not_false, Bool.not_eq_true', Bool.not_eq_false', Bool.not_eq_eq_eq_not] at hc); (first | (cases hc) | (simp only [hc]) | skip))))
      all_goals (first | refine awp_ret ?_ | skip); refine ⟨(by first | exact .inl rfl | exact .inr rfl | exact .inr trivial | trivial), ?_⟩; simp only [go_sem, ↓reduceIte, Nat.reduceEqDiff, Nat.reduceAdd, Nat.reduceLeDiff, Nat.reduceBEq, Nat.reduceMul, reduceCtorEq, Int.reduceLE, Int.reduceLT, Int.reduceAdd, Int.reduceSub, Int.reduceNeg, Int.reduceToNat, Int.reduceBEq, retV, resL, resV, sealV, sealC, sealAll, Tryd.f39]
      all_goals rfl
    | true =>
      rw [Bool.true_and]
      have hlen : v.l.length = w.l.length := by have := beq_iff_eq.1 h1; omega
      refine pure_of_awp Tryd.func39 rfl rfl (by simp [Tryd.f39]) ?_; simp only [go_sem, ↓reduceIte, Nat.reduceEqDiff, Nat.reduceAdd, Nat.reduceLeDiff, Nat.reduceBEq, Nat.reduceMul, reduceCtorEq, Int.reduceLE, Int.reduceLT, Int.reduceAdd, Int.reduceSub, Int.reduceNeg, Int.reduceToNat, Int.reduceBEq]
      repeat' (first | refine awp_seq ?_ | refine awp_block ?_ | refine awp_round ?_ | refine awp_scope ?_ | refine awp_text rfl ?_ | refine awp_any rfl mix (by kernel_rfl) ?_ | (refine RunTo.unguard rfl rfl (fun hg => ?_) (fun hg => ?_) <;> ((try simp only [Bool.not_true, Bool.not_false, Bool.not_eq_true', Bool.not_eq_false', Bool.not_eq_eq_eq_not] at hg); (first | (cases hg) | (simp only [hg]) | skip))) | ((first | refine RunTo.plain rfl ?_ | refine RunTo.skipped rfl ?_ | refine RunTo.call (s0) Tryd.func50 rfl rfl rfl rfl rfl rfl rfl rfl ?_); simp only [go_sem, ↓reduceIte, Nat.reduceEqDiff, Nat.reduceAdd, Nat.reduceLeDiff, Nat.reduceBEq, Nat.reduceMul, reduceCtorEq, Int.reduceLE, Int.reduceLT, Int.reduceAdd, Int.reduceSub, Int.reduceNeg, Int.reduceToNat, Int.reduceBEq, ValD.av, AtomD.av, h1, List.length_map, bne, Bool.not_true, Bool.not_false]) | ((first | refine RunTo.nilA (by kernel_rfl) ?_ | refine RunTo.nilT ?_ | refine awp_skip ?_ | refine awp_exit ?_ | refine awp_label ?_); simp only [go_sem, ↓reduceIte, Nat.reduceEqDiff, Nat.reduceAdd, Nat.reduceLeDiff, Nat.reduceBEq, Nat.reduceMul, reduceCtorEq, Int.reduceLE, Int.reduceLT, Int.reduceAdd, Int.reduceSub, Int.reduceNeg, Int.reduceToNat, Int.reduceBEq, ValD.av, AtomD.av, h1, List.length_map, bne, Bool.not_true, Bool.not_false]) | (refine awp_cond' rfl (of_decide_eq_true rfl) (fun hc => ?_) (fun hc => ?_) <;> ((try simp only [Bool.not_true, Bool.not_false, Bool.not_eq_true', Bool.not_eq_false', Bool.not_eq_eq_eq_not] at hc); (first | (cases hc) | (simp only [hc]) | skip))))
      refine awp_loopw (IUa v w) v.l.length (SUa v w 0 _) (weak_keep ⟨rfl, rfl, rfl, trivial⟩ ⟨rfl, rfl, trivial⟩ (Nat.le_refl _)) ⟨0, _, Nat.zero_le _, rfl, rfl, rfl⟩ ?_
      rintro m st ⟨k, T, hk, rfl, hall, rfl⟩
      by_cases hlt : k < v.l.length
      · have hdec := lt_t hlt
        have hlt2 : k < w.l.length := by omega
        have hget := row_at AtomD.enc v.l k hlt
        have hget2 := row_at AtomD.enc w.l k hlt2
        have sk := c_sameAt v.l[k] w.l[k]
        have hbk := at2_in sameAt v.l w.l k hlt hlt2
        have hwk : IntKind.i64.wrap ((k : Int) + 1) = ((k + 1 : Nat) : Int) := wrap_succ (by omega)
        generalize v.l[k] = x at *
        generalize w.l[k] = y at *
        cases hb : sameAt x y with
        | false =>
          rw [hb] at sk hbk
          rw [range_no hlt hbk]
          repeat' (first | refine awp_seq ?_ | refine awp_block ?_ | refine awp_round ?_ | refine awp_scope ?_ | refine awp_text rfl ?_ | refine awp_any rfl mix (by kernel_rfl) ?_ | (refine RunTo.unguard rfl rfl (fun hg => ?_) (fun hg => ?_) <;> ((try simp only [Bool.not_true, Bool.not_false, Bool.not_eq_true', Bool.not_eq_false', Bool.not_eq_eq_eq_not] at hg); (first | (cases hg) | (simp only [hg]) | skip))) | ((first | refine RunTo.plain rfl ?_ | refine RunTo.skipped rfl ?_ | refine RunTo.call (sk) Tryd.func50 rfl rfl rfl rfl rfl rfl rfl rfl ?_); simp only [go_sem, ↓reduceIte, Nat.reduceEqDiff, Nat.reduceAdd, Nat.reduceLeDiff, Nat.reduceBEq, Nat.reduceMul, reduceCtorEq, Int.reduceLE, Int.reduceLT, Int.reduceAdd, Int.reduceSub, Int.reduceNeg, Int.reduceToNat, Int.reduceBEq, hdec, hget, hget2, AtomD.enc, AtomD.av, hwk, List.length_map, bne, Bool.not_true, Bool.not_false]) | ((first | refine RunTo.nilA (by kernel_rfl) ?_ | refine RunTo.nilT ?_ | refine awp_skip ?_ | refine awp_exit ?_ | refine awp_label ?_); simp only [go_sem, ↓reduceIte, Nat.reduceEqDiff, Nat.reduceAdd, Nat.reduceLeDiff, Nat.reduceBEq, Nat.reduceMul, reduceCtorEq, Int.reduceLE, Int.reduceLT, Int.reduceAdd, Int.reduceSub, Int.reduceNeg, Int.reduceToNat, Int.reduceBEq, hdec, hget, hget2, AtomD.enc, AtomD.av, hwk, List.length_map, bne, Bool.not_true, Bool.not_false]) | (refine awp_cond' rfl (of_decide_eq_true rfl) (fun hc => ?_) (fun hc => ?_) <;> ((try simp only [Bool.not_true, Bool.not_false, Bool.not_eq_true', Bool.not_eq_false', Bool.not_eq_eq_eq_not] at hc); (first | (cases hc) | (simp only [hc]) | skip))))
          all_goals (first | refine awp_ret ?_ | skip); refine ⟨(by first | exact .inl rfl | exact .inr rfl | exact .inr trivial | trivial), ?_⟩; simp only [go_sem, ↓reduceIte, Nat.reduceEqDiff, Nat.reduceAdd, Nat.reduceLeDiff, Nat.reduceBEq, Nat.reduceMul, reduceCtorEq, Int.reduceLE, Int.reduceLT, Int.reduceAdd, Int.reduceSub, Int.reduceNeg, Int.reduceToNat, Int.reduceBEq, retV, resL, resV, sealV, sealC, sealAll, Tryd.f39]
          all_goals rfl
        | true =>
          rw [hb] at sk hbk
          repeat' (first | refine awp_seq ?_ | refine awp_block ?_ | refine awp_round ?_ | refine awp_scope ?_ | refine awp_text rfl ?_ | refine awp_any rfl mix (by kernel_rfl) ?_ | (refine RunTo.unguard rfl rfl (fun hg => ?_) (fun hg => ?_) <;> ((try simp only [Bool.not_true, Bool.not_false, Bool.not_eq_true', Bool.not_eq_false', Bool.not_eq_eq_eq_not] at hg); (first | (cases hg) | (simp only [hg]) | skip))) | ((first | refine RunTo.plain rfl ?_ | refine RunTo.skipped rfl ?_ | refine RunTo.call (sk) Tryd.func50 rfl rfl rfl rfl rfl rfl rfl rfl ?_); simp only [go_sem, ↓reduceIte, Nat.reduceEqDiff, Nat.reduceAdd, Nat.reduceLeDiff, Nat.reduceBEq, Nat.reduceMul, reduceCtorEq, Int.reduceLE, Int.reduceLT, Int.reduceAdd, Int.reduceSub, Int.reduceNeg, Int.reduceToNat, Int.reduceBEq, hdec, hget, hget2, AtomD.enc, AtomD.av, hwk, List.length_map, bne, Bool.not_true, Bool.not_false]) | ((first | refine RunTo.nilA (by kernel_rfl) ?_ | refine RunTo.nilT ?_ | refine awp_skip ?_ | refine awp_exit ?_ | refine awp_label ?_); simp only [go_sem, ↓reduceIte, Nat.reduceEqDiff, Nat.reduceAdd, Nat.reduceLeDiff, Nat.reduceBEq, Nat.reduceMul, reduceCtorEq, Int.reduceLE, Int.reduceLT, Int.reduceAdd, Int.reduceSub, Int.reduceNeg, Int.reduceToNat, Int.reduceBEq, hdec, hget, hget2, AtomD.enc, AtomD.av, hwk, List.length_map, bne, Bool.not_true, Bool.not_false]) | (refine awp_cond' rfl (of_decide_eq_true rfl) (fun hc => ?_) (fun hc => ?_) <;> ((try simp only [Bool.not_true, Bool.not_false, Bool.not_eq_true', Bool.not_eq_false', Bool.not_eq_eq_eq_not] at hc); (first | (cases hc) | (simp only [hc]) | skip))))
          all_goals exact ⟨v.l.length - (k + 1), by omega, SUa v w (k + 1) _, weak_keep ⟨rfl, rfl, rfl, trivial⟩ ⟨rfl, rfl, trivial⟩ (Nat.le_refl _), k + 1, _, by omega, rfl, range_up hall hbk, rfl⟩
      · have hdec := lt_f hlt
        obtain rfl : k = v.l.length := by omega
        rw [hall]
        repeat' (first | refine awp_seq ?_ | refine awp_block ?_ | refine awp_round ?_ | refine awp_scope ?_ | refine awp_text rfl ?_ | refine awp_any rfl mix (by kernel_rfl) ?_ | (refine RunTo.unguard rfl rfl (fun hg => ?_) (fun hg => ?_) <;> ((try simp only [Bool.not_true, Bool.not_false, Bool.not_eq_true', Bool.not_eq_false', Bool.not_eq_eq_eq_not] at hg); (first | (cases hg) | (simp only [hg]) | skip))) | ((first | refine RunTo.plain rfl ?_ | refine RunTo.skipped rfl ?_); simp only [go_sem, ↓reduceIte, Nat.reduceEqDiff, Nat.reduceAdd, Nat.reduceLeDiff, Nat.reduceBEq, Nat.reduceMul, reduceCtorEq, Int.reduceLE, Int.reduceLT, Int.reduceAdd, Int.reduceSub, Int.reduceNeg, Int.reduceToNat, Int.reduceBEq, hdec, List.length_map]) | ((first | refine RunTo.nilA (by kernel_rfl) ?_ | refine RunTo.nilT ?_ | refine awp_skip ?_ | refine awp_exit ?_ | refine awp_label ?_); simp only [go_sem, ↓reduceIte, Nat.reduceEqDiff, Nat.reduceAdd, Nat.reduceLeDiff, Nat.reduceBEq, Nat.reduceMul, reduceCtorEq, Int.reduceLE, Int.reduceLT, Int.reduceAdd, Int.reduceSub, Int.reduceNeg, Int.reduceToNat, Int.reduceBEq, hdec, List.length_map]) | (refine awp_cond' rfl (of_decide_eq_true rfl) (fun hc => ?_) (fun hc => ?_) <;> ((try simp only [Bool.not_true, Bool.not_false, Bool.not_eq_true', Bool.not_eq_false', Bool.not_eq_eq_eq_not] at hc); (first | (cases hc) | (simp only [hc]) | skip))))
        all_goals (first | refine awp_ret ?_ | skip); refine ⟨(by first | exact .inl rfl | exact .inr rfl | exact .inr trivial | trivial), ?_⟩; simp only [go_sem, ↓reduceIte, Nat.reduceEqDiff, Nat.reduceAdd, Nat.reduceLeDiff, Nat.reduceBEq, Nat.reduceMul, reduceCtorEq, Int.reduceLE, Int.reduceLT, Int.reduceAdd, Int.reduceSub, Int.reduceNeg, Int.reduceToNat, Int.reduceBEq, retV, resL, resV, sealV, sealC, sealAll, Tryd.f39]
end Go.Proofs.YtlpfdgkfdgehnaaDoor.AM
namespace Go.Proofs.YtlpfdgkfdgehnaaDoor.AM
open Go.RowKit
set_option linter.unusedSimpArgs false
set_option linter.unusedVariables false
set_option maxRecDepth 10000
set_option maxHeartbeats 0
abbrev SsameProps (a b : List PropD) (k T : Nat) : St := ⟨[(0, .dat (.lst 6 (a.map PropD.enc))), (1, .dat (.lst 6 (b.map PropD.enc))), (5, iv k)], [], T⟩
def IsameProps (a b : List PropD) (m : Nat) (st : St) : Prop := ∃ k T, k ≤ a.length ∧ m = a.length - k ∧ (List.range k).all (at2 sameP a b) = true ∧ st = SsameProps a b k T
theorem c_sameProps (a b : List PropD) (hl : a.length ≤ 1000000) (hv : ∀ x ∈ a, x.v.l.length ≤ 1000000) : Pure Tryd.prog 20 [.dat (.lst 6 (a.map PropD.enc)), .dat (.lst 6 (b.map PropD.enc))] (bv (sameL sameP a b)) := by
  unfold sameL
  cases h1 : ((a.length : Int) == (b.length : Int)) with
  | false =>
    rw [Bool.false_and]
    refine pure_of_awp Tryd.func20 rfl rfl (by simp [Tryd.f20]) ?_; simp only [go_sem, ↓reduceIte, Nat.reduceEqDiff, Nat.reduceAdd, Nat.reduceLeDiff, Nat.reduceBEq, Nat.reduceMul, reduceCtorEq, Int.reduceLE, Int.reduceLT, Int.reduceAdd, Int.reduceSub, Int.reduceNeg, Int.reduceToNat, Int.reduceBEq]
    repeat' (first | refine awp_seq ?_ | refine awp_block ?_ | refine awp_round ?_ | refine awp_scope ?_ | refine awp_text rfl ?_ | refine awp_any rfl mix (by kernel_rfl) ?_ | (refine RunTo.unguard rfl rfl (fun hg => ?_) (fun hg => ?_) <;> ((try simp only [Bool.not_true, Bool.not_false, Bool.not_eq_true', Bool.not_eq_false', Bool.not_eq_eq_eq_not] at hg); (first | (cases hg) | (simp only [hg]) | skip))) | ((first | refine RunTo.plain rfl ?_ | refine RunTo.skipped rfl ?_); simp only [go_sem, ↓reduceIte, Nat.reduceEqDiff, Nat.reduceAdd, Nat.reduceLeDiff, Nat.reduceBEq, Nat.reduceMul, reduceCtorEq, Int.reduceLE, Int.reduceLT, Int.reduceAdd, Int.reduceSub, Int.reduceNeg, Int.reduceToNat, Int.reduceBEq, h1, List.length_map, bne, Bool.not_true, Bool.not_false]) | ((first | refine RunTo.nilA (by kernel_rfl) ?_ | refine RunTo.nilT ?_ | refine awp_skip ?_ | refine awp_exit ?_ | refine awp_label ?_); simp only [go_sem, ↓reduceIte, Nat.reduceEqDiff, Nat.reduceAdd, Nat.reduceLeDiff, Nat.reduceBEq, Nat.reduceMul, reduceCtorEq, Int.reduceLE, Int.reduceLT, Int.reduceAdd, Int.reduceSub, Int.reduceNeg, Int.reduceToNat, Int.reduceBEq, h1, List.length_map, bne, Bool.not_true, Bool.not_false]) | (refine awp_cond' rfl (of_decide_eq_true rfl) (fun hc => ?_) (fun hc => ?_) <;> ((try simp only [Bool.not_true, Bool.not_false, Bool.not_eq_true', Bool.not_eq_false', Bool.not_eq_eq_eq_not] at hc); (first | (cases hc) | (simp only [hc]) | skip))))
    all_goals (first | refine awp_ret ?_ | skip); refine ⟨(by first | exact .inl rfl | exact .inr rfl | exact .inr trivial | trivial), ?_⟩; simp only [go_sem, ↓reduceIte, Nat.reduceEqDiff, Nat.reduceAdd, Nat.reduceLeDiff, Nat.reduceBEq, Nat.reduceMul, reduceCtorEq, Int.reduceLE, Int.reduceLT, Int.reduceAdd, Int.reduceSub, Int.reduceNeg, Int.reduceToNat, Int.reduceBEq, retV, resL, resV, sealV, sealC, sealAll, Tryd.f20]
    all_goals rfl
  | true =>
    rw [Bool.true_and]
    have hlen : a.length = b.length := by have := beq_iff_eq.1 h1; omega
    refine pure_of_awp Tryd.func20 rfl rfl (by simp [Tryd.f20]) ?_; simp only [go_sem, ↓reduceIte, Nat.reduceEqDiff, Nat.reduceAdd, Nat.reduceLeDiff, Nat.reduceBEq, Nat.reduceMul, reduceCtorEq, Int.reduceLE, Int.reduceLT, Int.reduceAdd, Int.reduceSub, Int.reduceNeg, Int.reduceToNat, Int.reduceBEq]
    repeat' (first | refine awp_seq ?_ | refine awp_block ?_ | refine awp_round ?_ | refine awp_scope ?_ | refine awp_text rfl ?_ | refine awp_any rfl mix (by kernel_rfl) ?_ | (refine RunTo.unguard rfl rfl (fun hg => ?_) (fun hg => ?_) <;> ((try simp only [Bool.not_true, Bool.not_false, Bool.not_eq_true', Bool.not_eq_false', Bool.not_eq_eq_eq_not] at hg); (first | (cases hg) | (simp only [hg]) | skip))) | ((first | refine RunTo.plain rfl ?_ | refine RunTo.skipped rfl ?_); simp only [go_sem, ↓reduceIte, Nat.reduceEqDiff, Nat.reduceAdd, Nat.reduceLeDiff, Nat.reduceBEq, Nat.reduceMul, reduceCtorEq, Int.reduceLE, Int.reduceLT, Int.reduceAdd, Int.reduceSub, Int.reduceNeg, Int.reduceToNat, Int.reduceBEq, h1, List.length_map, bne, Bool.not_true, Bool.not_false]) | ((first | refine RunTo.nilA (by kernel_rfl) ?_ | refine RunTo.nilT ?_ | refine awp_skip ?_ | refine awp_exit ?_ | refine awp_label ?_); simp only [go_sem, ↓reduceIte, Nat.reduceEqDiff, Nat.reduceAdd, Nat.reduceLeDiff, Nat.reduceBEq, Nat.reduceMul, reduceCtorEq, Int.reduceLE, Int.reduceLT, Int.reduceAdd, Int.reduceSub, Int.reduceNeg, Int.reduceToNat, Int.reduceBEq, h1, List.length_map, bne, Bool.not_true, Bool.not_false]) | (refine awp_cond' rfl (of_decide_eq_true rfl) (fun hc => ?_) (fun hc => ?_) <;> ((try simp only [Bool.not_true, Bool.not_false, Bool.not_eq_true', Bool.not_eq_false', Bool.not_eq_eq_eq_not] at hc); (first | (cases hc) | (simp only [hc]) | skip))))
    refine awp_loopw (IsameProps a b) a.length (SsameProps a b 0 _) (weak_keep ⟨rfl, rfl, rfl, trivial⟩ trivial (Nat.le_refl _)) ⟨0, _, Nat.zero_le _, rfl, rfl, rfl⟩ ?_
    rintro m st ⟨k, T, hk, rfl, hall, rfl⟩
    by_cases hlt : k < a.length
    · have hdec := lt_t hlt
      have hlt2 : k < b.length := by omega
      have hget := row_at PropD.enc a k hlt
      have hget2 := row_at PropD.enc b k hlt2
      have sk := c_sameV a[k].v b[k].v (hv _ (List.getElem_mem hlt))
      have hbk := at2_in sameP a b k hlt hlt2
      have hwk : IntKind.i64.wrap ((k : Int) + 1) = ((k + 1 : Nat) : Int) := wrap_succ (by omega)
      rw [show PropD.enc a[k] = [ds' a[k].name, di a[k].v.a.k, di a[k].v.a.n, df a[k].v.a.f, ds' a[k].v.a.s, .lst 4 (a[k].v.l.map AtomD.enc)] from rfl] at hget
      rw [show PropD.enc b[k] = [ds' b[k].name, di b[k].v.a.k, di b[k].v.a.n, df b[k].v.a.f, ds' b[k].v.a.s, .lst 4 (b[k].v.l.map AtomD.enc)] from rfl] at hget2
      generalize a[k] = x at *
      generalize b[k] = y at *
      rw [show sameP x y = ((x.name.toList == y.name.toList) && (sameV x.v y.v)) from rfl] at hbk
      generalize c0 : (x.name.toList == y.name.toList) = z0 at *
      generalize c1 : sameV x.v y.v = z1 at *
      cases hb : at2 sameP a b k with
      | false =>
        rw [range_no hlt hb]
        rw [hb] at hbk
        cases z0 <;> cases z1
        all_goals try (simp at hbk; done)
        all_goals
          repeat' (first | refine awp_seq ?_ | refine awp_block ?_ | refine awp_round ?_ | refine awp_scope ?_ | refine awp_text rfl ?_ | refine awp_any rfl mix (by kernel_rfl) ?_ | (refine RunTo.unguard rfl rfl (fun hg => ?_) (fun hg => ?_) <;> ((try simp only [Bool.not_true, Bool.not_false, Bool.not_eq_true', Bool.not_eq_false', Bool.not_eq_eq_eq_not] at hg); (first | (cases hg) | (simp only [hg]) | skip))) | ((first | refine RunTo.plain rfl ?_ | refine RunTo.skipped rfl ?_ | refine RunTo.call (sk) Tryd.func39 rfl rfl rfl rfl rfl rfl rfl rfl ?_); simp only [go_sem, ↓reduceIte, Nat.reduceEqDiff, Nat.reduceAdd, Nat.reduceLeDiff, Nat.reduceBEq, Nat.reduceMul, reduceCtorEq, Int.reduceLE, Int.reduceLT, Int.reduceAdd, Int.reduceSub, Int.reduceNeg, Int.reduceToNat, Int.reduceBEq, hdec, hget, hget2, hwk, c0, List.length_map, bne, Bool.not_true, Bool.not_false, ValD.av]) | ((first | refine RunTo.nilA (by kernel_rfl) ?_ | refine RunTo.nilT ?_ | refine awp_skip ?_ | refine awp_exit ?_ | refine awp_label ?_); simp only [go_sem, ↓reduceIte, Nat.reduceEqDiff, Nat.reduceAdd, Nat.reduceLeDiff, Nat.reduceBEq, Nat.reduceMul, reduceCtorEq, Int.reduceLE, Int.reduceLT, Int.reduceAdd, Int.reduceSub, Int.reduceNeg, Int.reduceToNat, Int.reduceBEq, hdec, hget, hget2, hwk, c0, List.length_map, bne, Bool.not_true, Bool.not_false, ValD.av]) | (refine awp_cond' rfl (of_decide_eq_true rfl) (fun hc => ?_) (fun hc => ?_) <;> ((try simp only [Bool.not_true, Bool.not_false, Bool.not_eq_true', Bool.not_eq_false', Bool.not_eq_eq_eq_not] at hc); (first | (cases hc) | (simp only [hc]) | skip))))
          all_goals (first | refine awp_ret ?_ | skip); refine ⟨(by first | exact .inl rfl | exact .inr rfl | exact .inr trivial | trivial), ?_⟩; simp only [go_sem, ↓reduceIte, Nat.reduceEqDiff, Nat.reduceAdd, Nat.reduceLeDiff, Nat.reduceBEq, Nat.reduceMul, reduceCtorEq, Int.reduceLE, Int.reduceLT, Int.reduceAdd, Int.reduceSub, Int.reduceNeg, Int.reduceToNat, Int.reduceBEq, retV, resL, resV, sealV, sealC, sealAll, Tryd.f20]
          all_goals rfl
      | true =>
        rw [hb] at hbk
        cases z0 <;> cases z1
        all_goals try (simp at hbk; done)
        all_goals
          repeat' (first | refine awp_seq ?_ | refine awp_block ?_ | refine awp_round ?_ | refine awp_scope ?_ | refine awp_text rfl ?_ | refine awp_any rfl mix (by kernel_rfl) ?_ | (refine RunTo.unguard rfl rfl (fun hg => ?_) (fun hg => ?_) <;> ((try simp only [Bool.not_true, Bool.not_false, Bool.not_eq_true', Bool.not_eq_false', Bool.not_eq_eq_eq_not] at hg); (first | (cases hg) | (simp only [hg]) | skip))) | ((first | refine RunTo.plain rfl ?_ | refine RunTo.skipped rfl ?_ | refine RunTo.call (sk) Tryd.func39 rfl rfl rfl rfl rfl rfl rfl rfl ?_); simp only [go_sem, ↓reduceIte, Nat.reduceEqDiff, Nat.reduceAdd, Nat.reduceLeDiff, Nat.reduceBEq, Nat.reduceMul, reduceCtorEq, Int.reduceLE, Int.reduceLT, Int.reduceAdd, Int.reduceSub, Int.reduceNeg, Int.reduceToNat, Int.reduceBEq, hdec, hget, hget2, hwk, c0, List.length_map, bne, Bool.not_true, Bool.not_false, ValD.av]) | ((first | refine RunTo.nilA (by kernel_rfl) ?_ | refine RunTo.nilT ?_ | refine awp_skip ?_ | refine awp_exit ?_ | refine awp_label ?_); simp only [go_sem, ↓reduceIte, Nat.reduceEqDiff, Nat.reduceAdd, Nat.reduceLeDiff, Nat.reduceBEq, Nat.reduceMul, reduceCtorEq, Int.reduceLE, Int.reduceLT, Int.reduceAdd, Int.reduceSub, Int.reduceNeg, Int.reduceToNat, Int.reduceBEq, hdec, hget, hget2, hwk, c0, List.length_map, bne, Bool.not_true, Bool.not_false, ValD.av]) | (refine awp_cond' rfl (of_decide_eq_true rfl) (fun hc => ?_) (fun hc => ?_) <;> ((try simp only [Bool.not_true, Bool.not_false, Bool.not_eq_true', Bool.not_eq_false', Bool.not_eq_eq_eq_not] at hc); (first | (cases hc) | (simp only [hc]) | skip))))
          all_goals exact ⟨a.length - (k + 1), by omega, SsameProps a b (k + 1) _, weak_keep ⟨rfl, rfl, rfl, trivial⟩ trivial (Nat.le_refl _), k + 1, _, by omega, rfl, range_up hall hb, rfl⟩
    · have hdec := lt_f hlt
      obtain rfl : k = a.length := by omega
      rw [hall]
      repeat' (first | refine awp_seq ?_ | refine awp_block ?_ | refine awp_round ?_ | refine awp_scope ?_ | refine awp_text rfl ?_ | refine awp_any rfl mix (by kernel_rfl) ?_ | (refine RunTo.unguard rfl rfl (fun hg => ?_) (fun hg => ?_) <;> ((try simp only [Bool.not_true, Bool.not_false, Bool.not_eq_true', Bool.not_eq_false', Bool.not_eq_eq_eq_not] at hg); (first | (cases hg) | (simp only [hg]) | skip))) | ((first | refine RunTo.plain rfl ?_ | refine RunTo.skipped rfl ?_); simp only [go_sem, ↓reduceIte, Nat.reduceEqDiff, Nat.reduceAdd, Nat.reduceLeDiff, Nat.reduceBEq, Nat.reduceMul, reduceCtorEq, Int.reduceLE, Int.reduceLT, Int.reduceAdd, Int.reduceSub, Int.reduceNeg, Int.reduceToNat, Int.reduceBEq, hdec, List.length_map]) | ((first | refine RunTo.nilA (by kernel_rfl) ?_ | refine RunTo.nilT ?_ | refine awp_skip ?_ | refine awp_exit ?_ | refine awp_label ?_); simp only [go_sem, ↓reduceIte, Nat.reduceEqDiff, Nat.reduceAdd, Nat.reduceLeDiff, Nat.reduceBEq, Nat.reduceMul, reduceCtorEq, Int.reduceLE, Int.reduceLT, Int.reduceAdd, Int.reduceSub, Int.reduceNeg, Int.reduceToNat, Int.reduceBEq, hdec, List.length_map]) | (refine awp_cond' rfl (of_decide_eq_true rfl) (fun hc => ?_) (fun hc => ?_) <;> ((try simp only [Bool.not_true, Bool.not_false, Bool.not_eq_true', Bool.not_eq_false', Bool.not_eq_eq_eq_not] at hc); (first | (cases hc) | (simp only [hc]) | skip))))
      all_goals (first | refine awp_ret ?_ | skip); refine ⟨(by first | exact .inl rfl | exact .inr rfl | exact .inr trivial | trivial), ?_⟩; simp only [go_sem, ↓reduceIte, Nat.reduceEqDiff, Nat.reduceAdd, Nat.reduceLeDiff, Nat.reduceBEq, Nat.reduceMul, reduceCtorEq, Int.reduceLE, Int.reduceLT, Int.reduceAdd, Int.reduceSub, Int.reduceNeg, Int.reduceToNat, Int.reduceBEq, retV, resL, resV, sealV, sealC, sealAll, Tryd.f20]
abbrev SsameTs (a b : List TermD) (k T : Nat) : St := ⟨[(0, .dat (.lst 8 (a.map TermD.enc))), (1, .dat (.lst 8 (b.map TermD.enc))), (5, iv k)], [], T⟩
def IsameTs (a b : List TermD) (m : Nat) (st : St) : Prop := ∃ k T, k ≤ a.length ∧ m = a.length - k ∧ (List.range k).all (at2 sameT a b) = true ∧ st = SsameTs a b k T
theorem c_sameTs (a b : List TermD) (hl : a.length ≤ 1000000) (hv : ∀ x ∈ a, x.v.l.length ≤ 1000000) : Pure Tryd.prog 19 [.dat (.lst 8 (a.map TermD.enc)), .dat (.lst 8 (b.map TermD.enc))] (bv (sameL sameT a b)) := by
  unfold sameL
  cases h1 : ((a.length : Int) == (b.length : Int)) with
  | false =>
    rw [Bool.false_and]
    refine pure_of_awp Tryd.func19 rfl rfl (by simp [Tryd.f19]) ?_; simp only [go_sem, ↓reduceIte, Nat.reduceEqDiff, Nat.reduceAdd, Nat.reduceLeDiff, Nat.reduceBEq, Nat.reduceMul, reduceCtorEq, Int.reduceLE, Int.reduceLT, Int.reduceAdd, Int.reduceSub, Int.reduceNeg, Int.reduceToNat, Int.reduceBEq]
    repeat' (first | refine awp_seq ?_ | refine awp_block ?_ | refine awp_round ?_ | refine awp_scope ?_ | refine awp_text rfl ?_ | refine awp_any rfl mix (by kernel_rfl) ?_ | (refine RunTo.unguard rfl rfl (fun hg => ?_) (fun hg => ?_) <;> ((try simp only [Bool.not_true, Bool.not_false, Bool.not_eq_true', Bool.not_eq_false', Bool.not_eq_eq_eq_not] at hg); (first | (cases hg) | (simp only [hg]) | skip))) | ((first | refine RunTo.plain rfl ?_ | refine RunTo.skipped rfl ?_); simp only [go_sem, ↓reduceIte, Nat.reduceEqDiff, Nat.reduceAdd, Nat.reduceLeDiff, Nat.reduceBEq, Nat.reduceMul, reduceCtorEq, Int.reduceLE, Int.reduceLT, Int.reduceAdd, Int.reduceSub, Int.reduceNeg, Int.reduceToNat, Int.reduceBEq, h1, List.length_map, bne, Bool.not_true, Bool.not_false]) | ((first | refine RunTo.nilA (by kernel_rfl) ?_ | refine RunTo.nilT ?_ | refine awp_skip ?_ | refine awp_exit ?_ | refine awp_label ?_); simp only [go_sem, ↓reduceIte, Nat.reduceEqDiff, Nat.reduceAdd, Nat.reduceLeDiff, Nat.reduceBEq, Nat.reduceMul, reduceCtorEq, Int.reduceLE, Int.reduceLT, Int.reduceAdd, Int.reduceSub, Int.reduceNeg, Int.reduceToNat, Int.reduceBEq, h1, List.length_map, bne, Bool.not_true, Bool.not_false]) | (refine awp_cond' rfl (of_decide_eq_true rfl) (fun hc => ?_) (fun hc => ?_) <;> ((try simp only [Bool.not_true, Bool.not_false, Bool.not_eq_true', Bool.not_eq_false', Bool.not_eq_eq_eq_not] at hc); (first | (cases hc) | (simp only [hc]) | skip))))
    all_goals (first | refine awp_ret ?_ | skip); refine ⟨(by first | exact .inl rfl | exact .inr rfl | exact .inr trivial | trivial), ?_⟩; simp only [go_sem, ↓reduceIte, Nat.reduceEqDiff, Nat.reduceAdd, Nat.reduceLeDiff, Nat.reduceBEq, Nat.reduceMul, reduceCtorEq, Int.reduceLE, Int.reduceLT, Int.reduceAdd, Int.reduceSub, Int.reduceNeg, Int.reduceToNat, Int.reduceBEq, retV, resL, resV, sealV, sealC, sealAll, Tryd.f19]
    all_goals rfl
  | true =>
    rw [Bool.true_and]
    have hlen : a.length = b.length := by have := beq_iff_eq.1 h1; omega
    refine pure_of_awp Tryd.func19 rfl rfl (by simp [Tryd.f19]) ?_; simp only [go_sem, ↓reduceIte, Nat.reduceEqDiff, Nat.reduceAdd, Nat.reduceLeDiff, Nat.reduceBEq, Nat.reduceMul, reduceCtorEq, Int.reduceLE, Int.reduceLT, Int.reduceAdd, Int.reduceSub, Int.reduceNeg, Int.reduceToNat, Int.reduceBEq]
    repeat' (first | refine awp_seq ?_ | refine awp_block ?_ | refine awp_round ?_ | refine awp_scope ?_ | refine awp_text rfl ?_ | refine awp_any rfl mix (by kernel_rfl) ?_ | (refine RunTo.unguard rfl rfl (fun hg => ?_) (fun hg => ?_) <;> ((try simp only [Bool.not_true, Bool.not_false, Bool.not_eq_true', Bool.not_eq_false', Bool.not_eq_eq_eq_not] at hg); (first | (cases hg) | (simp only [hg]) | skip))) | ((first | refine RunTo.plain rfl ?_ | refine RunTo.skipped rfl ?_); simp only [go_sem, ↓reduceIte, Nat.reduceEqDiff, Nat.reduceAdd, Nat.reduceLeDiff, Nat.reduceBEq, Nat.reduceMul, reduceCtorEq, Int.reduceLE, Int.reduceLT, Int.reduceAdd, Int.reduceSub, Int.reduceNeg, Int.reduceToNat, Int.reduceBEq, h1, List.length_map, bne, Bool.not_true, Bool.not_false]) | ((first | refine RunTo.nilA (by kernel_rfl) ?_ | refine RunTo.nilT ?_ | refine awp_skip ?_ | refine awp_exit ?_ | refine awp_label ?_); simp only [go_sem, ↓reduceIte, Nat.reduceEqDiff, Nat.reduceAdd, Nat.reduceLeDiff, Nat.reduceBEq, Nat.reduceMul, reduceCtorEq, Int.reduceLE, Int.reduceLT, Int.reduceAdd, Int.reduceSub, Int.reduceNeg, Int.reduceToNat, Int.reduceBEq, h1, List.length_map, bne, Bool.not_true, Bool.not_false]) | (refine awp_cond' rfl (of_decide_eq_true rfl) (fun hc => ?_) (fun hc => ?_) <;> ((try simp only [Bool.not_true, Bool.not_false, Bool.not_eq_true', Bool.not_eq_false', Bool.not_eq_eq_eq_not] at hc); (first | (cases hc) | (simp only [hc]) | skip))))
    refine awp_loopw (IsameTs a b) a.length (SsameTs a b 0 _) (weak_keep ⟨rfl, rfl, rfl, trivial⟩ trivial (Nat.le_refl _)) ⟨0, _, Nat.zero_le _, rfl, rfl, rfl⟩ ?_
    rintro m st ⟨k, T, hk, rfl, hall, rfl⟩
    by_cases hlt : k < a.length
    · have hdec := lt_t hlt
      have hlt2 : k < b.length := by omega
      have hget := row_at TermD.enc a k hlt
      have hget2 := row_at TermD.enc b k hlt2
      have sk := c_sameV a[k].v b[k].v (hv _ (List.getElem_mem hlt))
      have hbk := at2_in sameT a b k hlt hlt2
      have hwk : IntKind.i64.wrap ((k : Int) + 1) = ((k + 1 : Nat) : Int) := wrap_succ (by omega)
      rw [show TermD.enc a[k] = [di a[k].op, ds' a[k].var, ds' a[k].name, di a[k].v.a.k, di a[k].v.a.n, df a[k].v.a.f, ds' a[k].v.a.s, .lst 4 (a[k].v.l.map AtomD.enc)] from rfl] at hget
      rw [show TermD.enc b[k] = [di b[k].op, ds' b[k].var, ds' b[k].name, di b[k].v.a.k, di b[k].v.a.n, df b[k].v.a.f, ds' b[k].v.a.s, .lst 4 (b[k].v.l.map AtomD.enc)] from rfl] at hget2
      generalize a[k] = x at *
      generalize b[k] = y at *
      rw [show sameT x y = ((x.op == y.op) && ((x.var.toList == y.var.toList) && ((x.name.toList == y.name.toList) && (sameV x.v y.v)))) from rfl] at hbk
      generalize c0 : (x.op == y.op) = z0 at *
      generalize c1 : (x.var.toList == y.var.toList) = z1 at *
      generalize c2 : (x.name.toList == y.name.toList) = z2 at *
      generalize c3 : sameV x.v y.v = z3 at *
      cases hb : at2 sameT a b k with
      | false =>
        rw [range_no hlt hb]
        rw [hb] at hbk
        cases z0 <;> cases z1 <;> cases z2 <;> cases z3
        all_goals try (simp at hbk; done)
        all_goals
          repeat' (first | refine awp_seq ?_ | refine awp_block ?_ | refine awp_round ?_ | refine awp_scope ?_ | refine awp_text rfl ?_ | refine awp_any rfl mix (by kernel_rfl) ?_ | (refine RunTo.unguard rfl rfl (fun hg => ?_) (fun hg => ?_) <;> ((try simp only [Bool.not_true, Bool.not_false, Bool.not_eq_true', Bool.not_eq_false', Bool.not_eq_eq_eq_not] at hg); (first | (cases hg) | (simp only [hg]) | skip))) | ((first | refine RunTo.plain rfl ?_ | refine RunTo.skipped rfl ?_ | refine RunTo.call (sk) Tryd.func39 rfl rfl rfl rfl rfl rfl rfl rfl ?_); simp only [go_sem, ↓reduceIte, Nat.reduceEqDiff, Nat.reduceAdd, Nat.reduceLeDiff, Nat.reduceBEq, Nat.reduceMul, reduceCtorEq, Int.reduceLE, Int.reduceLT, Int.reduceAdd, Int.reduceSub, Int.reduceNeg, Int.reduceToNat, Int.reduceBEq, hdec, hget, hget2, hwk, c0, c1, c2, List.length_map, bne, Bool.not_true, Bool.not_false, ValD.av]) | ((first | refine RunTo.nilA (by kernel_rfl) ?_ | refine RunTo.nilT ?_ | refine awp_skip ?_ | refine awp_exit ?_ | refine awp_label ?_); simp only [go_sem, ↓reduceIte, Nat.reduceEqDiff, Nat.reduceAdd, Nat.reduceLeDiff, Nat.reduceBEq, Nat.reduceMul, reduceCtorEq, Int.reduceLE, Int.reduceLT, Int.reduceAdd, Int.reduceSub, Int.reduceNeg, Int.reduceToNat, Int.reduceBEq, hdec, hget, hget2, hwk, c0, c1, c2, List.length_map, bne, Bool.not_true, Bool.not_false, ValD.av]) | (refine awp_cond' rfl (of_decide_eq_true rfl) (fun hc => ?_) (fun hc => ?_) <;> ((try simp only [Bool.not_true, Bool.not_false, Bool.not_eq_true', Bool.not_eq_false', Bool.not_eq_eq_eq_not] at hc); (first | (cases hc) | (simp only [hc]) | skip))))
          all_goals (first | refine awp_ret ?_ | skip); refine ⟨(by first | exact .inl rfl | exact .inr rfl | exact .inr trivial | trivial), ?_⟩; simp only [go_sem, ↓reduceIte, Nat.reduceEqDiff, Nat.reduceAdd, Nat.reduceLeDiff, Nat.reduceBEq, Nat.reduceMul, reduceCtorEq, Int.reduceLE, Int.reduceLT, Int.reduceAdd, Int.reduceSub, Int.reduceNeg, Int.reduceToNat, Int.reduceBEq, retV, resL, resV, sealV, sealC, sealAll, Tryd.f19]
          all_goals rfl
      | true =>
        rw [hb] at hbk
        cases z0 <;> cases z1 <;> cases z2 <;> cases z3
        all_goals try (simp at hbk; done)
        all_goals
          repeat' (first | refine awp_seq ?_ | refine awp_block ?_ | refine awp_round ?_ | refine awp_scope ?_ | refine awp_text rfl ?_ | refine awp_any rfl mix (by kernel_rfl) ?_ | (refine RunTo.unguard rfl rfl (fun hg => ?_) (fun hg => ?_) <;> ((try simp only [Bool.not_true, Bool.not_false, Bool.not_eq_true', Bool.not_eq_false', Bool.not_eq_eq_eq_not] at hg); (first | (cases hg) | (simp only [hg]) | skip))) | ((first | refine RunTo.plain rfl ?_ | refine RunTo.skipped rfl ?_ | refine RunTo.call (sk) Tryd.func39 rfl rfl rfl rfl rfl rfl rfl rfl ?_); simp only [go_sem, ↓reduceIte, Nat.reduceEqDiff, Nat.reduceAdd, Nat.reduceLeDiff, Nat.reduceBEq, Nat.reduceMul, reduceCtorEq, Int.reduceLE, Int.reduceLT, Int.reduceAdd, Int.reduceSub, Int.reduceNeg, Int.reduceToNat, Int.reduceBEq, hdec, hget, hget2, hwk, c0, c1, c2, List.length_map, bne, Bool.not_true, Bool.not_false, ValD.av]) | ((first | refine RunTo.nilA (by kernel_rfl) ?_ | refine RunTo.nilT ?_ | refine awp_skip ?_ | refine awp_exit ?_ | refine awp_label ?_); simp only [go_sem, ↓reduceIte, Nat.reduceEqDiff, Nat.reduceAdd, Nat.reduceLeDiff, Nat.reduceBEq, Nat.reduceMul, reduceCtorEq, Int.reduceLE, Int.reduceLT, Int.reduceAdd, Int.reduceSub, Int.reduceNeg, Int.reduceToNat, Int.reduceBEq, hdec, hget, hget2, hwk, c0, c1, c2, List.length_map, bne, Bool.not_true, Bool.not_false, ValD.av]) | (refine awp_cond' rfl (of_decide_eq_true rfl) (fun hc => ?_) (fun hc => ?_) <;> ((try simp only [Bool.not_true, Bool.not_false, Bool.not_eq_true', Bool.not_eq_false', Bool.not_eq_eq_eq_not] at hc); (first | (cases hc) | (simp only [hc]) | skip))))
          all_goals exact ⟨a.length - (k + 1), by omega, SsameTs a b (k + 1) _, weak_keep ⟨rfl, rfl, rfl, trivial⟩ trivial (Nat.le_refl _), k + 1, _, by omega, rfl, range_up hall hb, rfl⟩
    · have hdec := lt_f hlt
      obtain rfl : k = a.length := by omega
      rw [hall]
      repeat' (first | refine awp_seq ?_ | refine awp_block ?_ | refine awp_round ?_ | refine awp_scope ?_ | refine awp_text rfl ?_ | refine awp_any rfl mix (by kernel_rfl) ?_ | (refine RunTo.unguard rfl rfl (fun hg => ?_) (fun hg => ?_) <;> ((try simp only [Bool.not_true, Bool.not_false, Bool.not_eq_true', Bool.not_eq_false', Bool.not_eq_eq_eq_not] at hg); (first | (cases hg) | (simp only [hg]) | skip))) | ((first | refine RunTo.plain rfl ?_ | refine RunTo.skipped rfl ?_); simp only [go_sem, ↓reduceIte, Nat.reduceEqDiff, Nat.reduceAdd, Nat.reduceLeDiff, Nat.reduceBEq, Nat.reduceMul, reduceCtorEq, Int.reduceLE, Int.reduceLT, Int.reduceAdd, Int.reduceSub, Int.reduceNeg, Int.reduceToNat, Int.reduceBEq, hdec, List.length_map]) | ((first | refine RunTo.nilA (by kernel_rfl) ?_ | refine RunTo.nilT ?_ | refine awp_skip ?_ | refine awp_exit ?_ | refine awp_label ?_); simp only [go_sem, ↓reduceIte, Nat.reduceEqDiff, Nat.reduceAdd, Nat.reduceLeDiff, Nat.reduceBEq, Nat.reduceMul, reduceCtorEq, Int.reduceLE, Int.reduceLT, Int.reduceAdd, Int.reduceSub, Int.reduceNeg, Int.reduceToNat, Int.reduceBEq, hdec, List.length_map]) | (refine awp_cond' rfl (of_decide_eq_true rfl) (fun hc => ?_) (fun hc => ?_) <;> ((try simp only [Bool.not_true, Bool.not_false, Bool.not_eq_true', Bool.not_eq_false', Bool.not_eq_eq_eq_not] at hc); (first | (cases hc) | (simp only [hc]) | skip))))
      all_goals (first | refine awp_ret ?_ | skip); refine ⟨(by first | exact .inl rfl | exact .inr rfl | exact .inr trivial | trivial), ?_⟩; simp only [go_sem, ↓reduceIte, Nat.reduceEqDiff, Nat.reduceAdd, Nat.reduceLeDiff, Nat.reduceBEq, Nat.reduceMul, reduceCtorEq, Int.reduceLE, Int.reduceLT, Int.reduceAdd, Int.reduceSub, Int.reduceNeg, Int.reduceToNat, Int.reduceBEq, retV, resL, resV, sealV, sealC, sealAll, Tryd.f19]
end Go.Proofs.YtlpfdgkfdgehnaaDoor.AM
namespace Go.Proofs.YtlpfdgkfdgehnaaDoor.AM
open Go.RowKit
set_option linter.unusedSimpArgs false
set_option linter.unusedVariables false
set_option maxRecDepth 10000
set_option maxHeartbeats 0
abbrev SWq8 (a b : QueryD) (t k T : Nat) : St := ⟨[(t, iv k), (2, .ptr 2 0 0 0), (3, .ptr 3 1 0 0)], [(2, .box 0 (cellsQ a)), (3, .box 1 (cellsQ b))], T⟩
def IWq8 (a b : QueryD) (t l : Nat) (g : Nat → Bool) (m : Nat) (st : St) : Prop := ∃ k T, k ≤ l ∧ m = l - k ∧ (List.range k).all g = true ∧ st = SWq8 a b t k T
end Go.Proofs.YtlpfdgkfdgehnaaDoor.AM
