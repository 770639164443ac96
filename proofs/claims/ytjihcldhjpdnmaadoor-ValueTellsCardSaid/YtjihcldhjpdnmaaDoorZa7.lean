/- Part 7 of the proof: words, contracts, plain laws. Laid by a program of this session (wip/tool/shake.py): what is needed of own and printed texts, in order. -/
import Derived.Test.YtjihcldhjpdnmaaDoorZa0
import Derived.Test.YtjihcldhjpdnmaaDoorZa1
import Derived.Test.YtjihcldhjpdnmaaDoorZa2
import Derived.Test.YtjihcldhjpdnmaaDoorZa3
import Derived.Test.YtjihcldhjpdnmaaDoorZa5
import Derived.Test.YtjihcldhjpdnmaaDoorZa6
import Derived.Calls
import Derived.Lib.ItoaNum
import Derived.Orders
import Derived.Tactics
import Derived.Below
import Derived.Laws.Rows
import Derived.Laws.World
import Derived.Laws.CopyRow
import Derived.Lib.FrozenHead
import Derived.Deep.AppendSrc
import Derived.Deep.Upon
import Derived.Laws.BytesArg
import Derived.IntWalk
import Derived.Laws.Externs
import Derived.LoopN
import Derived.Test.YtjihcldhjpdnmaaDoorProg
import Derived.KernelRfl
import Derived.MapKept
import Derived.Laws.FloatBits
import Derived.Lib.ItoaMem
import Derived.Lib.ItoaLen
import Derived.Lib.Join
import Derived.RegionTactic
import Derived.Lib.AppendIntMem
import Derived.Shelf.Strings.Builder1
import Derived.Shelf.Strings.Builder2
import Derived.Shelf.Strings.OnBuilder
import Derived.Shelf.Small.Strs
import Derived.Shelf.Small.Wraps
import Derived.Shelf.Strings.BuilderF
import Derived.Shelf.Strings.BuilderK
import Derived.Shelf.Strings.Builder2Cap
import Derived.Shelf.Strconv.Itoa0
import Derived.Shelf.Strconv.Itoa1
import Derived.Shelf.LaysM
import Derived.Shelf.Strconv.Itoa2
import Derived.Shelf.Strconv.Itoa3
import Derived.Shelf.Strings.Search1
import Derived.Shelf.Strings.Prefix
import Derived.Shelf.Strings.BuilderCap
import Derived.Shelf.Slices.Turned
import Derived.Ground.Names2Prog
import Derived.Shelf.Slices.SearchI
namespace Go.Proofs.YtjihcldhjpdnmaaDoor.AM
open Go.RowKit
set_option linter.unusedSimpArgs false
set_option linter.unusedVariables false
set_option maxRecDepth 10000
set_option maxHeartbeats 0
theorem c_rPrint (v : ValD) (hf : flV v) (ho : okV v) : Pure Tryd.prog 20 [v.av] (sv (printV v)) := by
  have hvc := c_rValid v hf
  by_cases hv : validV v = true
  · rw [hv] at hvc
    by_cases h6 : v.a.k = 6
    · have hk6 : (v.a.k == 6) = true := by simpa using h6
      have hl16 : v.l.length ≤ 16 ∧ ∀ a ∈ v.l, validA a = true := by
        rw [validV_list h6] at hv
        simp only [Bool.and_eq_true, decide_eq_true_eq, List.all_eq_true] at hv
        exact ⟨by have := hv.1.2; omega, hv.2⟩
      refine pure_of_awp Tryd.func20 rfl rfl (by simp [Tryd.f20]) ?_; simp only [go_sem, ↓reduceIte, Nat.reduceEqDiff, Nat.reduceAdd, Nat.reduceLeDiff, Nat.reduceBEq, Nat.reduceMul, reduceCtorEq, Int.reduceLE, Int.reduceLT, Int.reduceAdd, Int.reduceSub, Int.reduceNeg, Int.reduceToNat, Int.reduceBEq]
      repeat' (first | refine awp_seq ?_ | refine awp_block ?_ | refine awp_round ?_ | refine awp_text rfl ?_ | refine awp_any rfl mix (by kernel_rfl) ?_ | (refine RunTo.unguard rfl rfl (fun hg => ?_) (fun hg => ?_) <;> ((try simp only [Bool.not_true, Bool.not_false, Bool.not_eq_true', Bool.not_eq_false', Bool.not_eq_eq_eq_not] at hg); (first | (cases hg) | (simp only [hg]) | skip))) | ((first | refine RunTo.plain rfl ?_ | refine RunTo.skipped rfl ?_ | refine RunTo.call (hvc) Tryd.func12 rfl rfl rfl rfl rfl rfl rfl rfl ?_); simp only [go_sem, ↓reduceIte, Nat.reduceEqDiff, Nat.reduceAdd, Nat.reduceLeDiff, Nat.reduceBEq, Nat.reduceMul, reduceCtorEq, Int.reduceLE, Int.reduceLT, Int.reduceAdd, Int.reduceSub, Int.reduceNeg, Int.reduceToNat, Int.reduceBEq, ValD.av, bne, hk6, List.length_map]) | ((first | refine RunTo.nil ⟨by kernel_rfl, ?_⟩ | refine RunTo.nil ?_ | refine awp_skip ?_ | refine awp_exit ?_); simp only [go_sem, ↓reduceIte, Nat.reduceEqDiff, Nat.reduceAdd, Nat.reduceLeDiff, Nat.reduceBEq, Nat.reduceMul, reduceCtorEq, Int.reduceLE, Int.reduceLT, Int.reduceAdd, Int.reduceSub, Int.reduceNeg, Int.reduceToNat, Int.reduceBEq, ValD.av, bne, hk6, List.length_map]) | (refine awp_cond' rfl (of_decide_eq_true rfl) (fun hc => ?_) (fun hc => ?_) <;> ((try simp only [Bool.not_true, Bool.not_false, Bool.not_eq_true', Bool.not_eq_false', Bool.not_eq_eq_eq_not] at hc); (first | (cases hc) | (simp only [hc]) | skip))))
      refine awp_loopw (IWp v) v.l.length (SWp v 0 ⟨#[91]⟩ _ _) (weak_keep ⟨rfl, rfl, rfl, trivial⟩ ⟨rfl, trivial⟩ (Nat.le_refl _)) ⟨0, _, _, _, Nat.zero_le _, rfl, rfl, rfl⟩ ?_
      rintro n st ⟨k, s, T, e, hk, rfl, hs, rfl⟩
      have hbig := joinB_le ((v.l.take k).map printA) sepB 10000000 (fun x hx => by obtain ⟨a, ha, rfl⟩ := List.mem_map.1 hx; exact printA_big a (ho.2 a (List.mem_of_mem_take ha)))
      have hs2 : sepB.size = 2 := rfl
      have e1 : (⟨#[91]⟩ : ByteArray).size = 1 := rfl
      rw [List.length_map, List.length_take, hs2] at hbig
      have hss : s.size ≤ 1000000000 := by rw [hs, ByteArray.size_append, e1]; omega
      by_cases hlt : k < v.l.length
      · have hdec := lt_t hlt
        have hget := row_at AtomD.enc v.l k hlt
        have hfa := hf.2 _ (List.getElem_mem hlt)
        have hoa := ho.2 _ (List.getElem_mem hlt)
        have hka := kind_of (hl16.2 _ (List.getElem_mem hlt))
        have htk : (v.l.take (k + 1)).map printA = (v.l.take k).map printA ++ [printA v.l[k]] := by rw [List.take_succ_eq_append_getElem hlt, List.map_append]; rfl
        have hwk : IntKind.i64.wrap ((k : Int) + 1) = ((k + 1 : Nat) : Int) := wrap_succ (by omega)
        generalize v.l[k] = a at *
        have hca := c_rPrintA a hfa hoa.1 hoa.2 hka
        have hpb := printA_big a hoa
        have z1 : (s.size + 2 ≤ 9223372036854775807) = True := eq_true (by omega)
        have z2 : (s.size + 2 + (printA a).size ≤ 9223372036854775807) = True := eq_true (by omega)
        have z3 : (s.size + (printA a).size ≤ 9223372036854775807) = True := eq_true (by omega)
        by_cases hk0 : k = 0
        · subst hk0
          have hdec0 : decide ((0 : Int) < (v.l.length : Int)) = true := decide_eq_true (by omega)
          repeat' (first | refine awp_seq ?_ | refine awp_block ?_ | refine awp_round ?_ | refine awp_text rfl ?_ | refine awp_any rfl mix (by kernel_rfl) ?_ | (refine RunTo.unguard rfl rfl (fun hg => ?_) (fun hg => ?_) <;> ((try simp only [Bool.not_true, Bool.not_false, Bool.not_eq_true', Bool.not_eq_false', Bool.not_eq_eq_eq_not] at hg); (first | (cases hg) | (simp only [hg]) | skip))) | ((first | refine RunTo.plain rfl ?_ | refine RunTo.skipped rfl ?_ | refine RunTo.call (hca) Tryd.func52 rfl rfl rfl rfl rfl rfl rfl rfl ?_); simp only [go_sem, ↓reduceIte, Nat.reduceEqDiff, Nat.reduceAdd, Nat.reduceLeDiff, Nat.reduceBEq, Nat.reduceMul, reduceCtorEq, Int.reduceLE, Int.reduceLT, Int.reduceAdd, Int.reduceSub, Int.reduceNeg, Int.reduceToNat, Int.reduceBEq, hdec0, hdec, hget, AtomD.enc, hwk, List.length_map, z3]) | ((first | refine RunTo.nil ⟨by kernel_rfl, ?_⟩ | refine RunTo.nil ?_ | refine awp_skip ?_ | refine awp_exit ?_); simp only [go_sem, ↓reduceIte, Nat.reduceEqDiff, Nat.reduceAdd, Nat.reduceLeDiff, Nat.reduceBEq, Nat.reduceMul, reduceCtorEq, Int.reduceLE, Int.reduceLT, Int.reduceAdd, Int.reduceSub, Int.reduceNeg, Int.reduceToNat, Int.reduceBEq, hdec0, hdec, hget, AtomD.enc, hwk, List.length_map, z3]) | (refine awp_cond' rfl (of_decide_eq_true rfl) (fun hc => ?_) (fun hc => ?_) <;> ((try simp only [Bool.not_true, Bool.not_false, Bool.not_eq_true', Bool.not_eq_false', Bool.not_eq_eq_eq_not] at hc); (first | (cases hc) | (simp only [hc]) | skip))))
          all_goals exact ⟨v.l.length - (0 + 1), by omega, SWp v (0 + 1) (s ++ printA a) _ e, weak_keep ⟨rfl, rfl, rfl, trivial⟩ ⟨rfl, trivial⟩ (Nat.le_refl _), 0 + 1, _, _, _, by omega, rfl, by rw [htk, hs]; exact app_first _ _, rfl⟩
        · have hd0 : decide ((0 : Int) < (k : Int)) = true := decide_eq_true (by omega)
          repeat' (first | refine awp_seq ?_ | refine awp_block ?_ | refine awp_round ?_ | refine awp_text rfl ?_ | refine awp_any rfl mix (by kernel_rfl) ?_ | (refine RunTo.unguard rfl rfl (fun hg => ?_) (fun hg => ?_) <;> ((try simp only [Bool.not_true, Bool.not_false, Bool.not_eq_true', Bool.not_eq_false', Bool.not_eq_eq_eq_not] at hg); (first | (cases hg) | (simp only [hg]) | skip))) | ((first | refine RunTo.plain rfl ?_ | refine RunTo.skipped rfl ?_ | refine RunTo.call (hca) Tryd.func52 rfl rfl rfl rfl rfl rfl rfl rfl ?_); simp only [go_sem, ↓reduceIte, Nat.reduceEqDiff, Nat.reduceAdd, Nat.reduceLeDiff, Nat.reduceBEq, Nat.reduceMul, reduceCtorEq, Int.reduceLE, Int.reduceLT, Int.reduceAdd, Int.reduceSub, Int.reduceNeg, Int.reduceToNat, Int.reduceBEq, hdec, hget, AtomD.enc, hwk, List.length_map, hd0, z1, z2, ByteArray.size_append, List.size_toArray]) | ((first | refine RunTo.nil ⟨by kernel_rfl, ?_⟩ | refine RunTo.nil ?_ | refine awp_skip ?_ | refine awp_exit ?_); simp only [go_sem, ↓reduceIte, Nat.reduceEqDiff, Nat.reduceAdd, Nat.reduceLeDiff, Nat.reduceBEq, Nat.reduceMul, reduceCtorEq, Int.reduceLE, Int.reduceLT, Int.reduceAdd, Int.reduceSub, Int.reduceNeg, Int.reduceToNat, Int.reduceBEq, hdec, hget, AtomD.enc, hwk, List.length_map, hd0, z1, z2, ByteArray.size_append, List.size_toArray]) | (refine awp_cond' rfl (of_decide_eq_true rfl) (fun hc => ?_) (fun hc => ?_) <;> ((try simp only [Bool.not_true, Bool.not_false, Bool.not_eq_true', Bool.not_eq_false', Bool.not_eq_eq_eq_not] at hc); (first | (cases hc) | (simp only [hc]) | skip))))
          all_goals exact ⟨v.l.length - (k + 1), by omega, SWp v (k + 1) (s ++ sepB ++ printA a) _ e, weak_keep ⟨rfl, rfl, rfl, trivial⟩ ⟨rfl, trivial⟩ (Nat.le_refl _), k + 1, _, _, _, by omega, rfl, by
            rw [htk, hs, join_snoc _ _ _ (fun h0 => by have h1 := congrArg List.length h0; rw [List.length_map, List.length_take, List.length_nil] at h1; omega)]
            simp only [ByteArray.append_assoc], rfl⟩
      · have hdec := lt_f hlt
        have hall : v.l.take k = v.l := List.take_of_length_le (by omega)
        rw [hall] at hs
        have z1 : (s.size + 1 ≤ 9223372036854775807) = True := eq_true (by omega)
        repeat' (first | refine awp_seq ?_ | refine awp_block ?_ | refine awp_round ?_ | refine awp_text rfl ?_ | refine awp_any rfl mix (by kernel_rfl) ?_ | (refine RunTo.unguard rfl rfl (fun hg => ?_) (fun hg => ?_) <;> ((try simp only [Bool.not_true, Bool.not_false, Bool.not_eq_true', Bool.not_eq_false', Bool.not_eq_eq_eq_not] at hg); (first | (cases hg) | (simp only [hg]) | skip))) | ((first | refine RunTo.plain rfl ?_ | refine RunTo.skipped rfl ?_); simp only [go_sem, ↓reduceIte, Nat.reduceEqDiff, Nat.reduceAdd, Nat.reduceLeDiff, Nat.reduceBEq, Nat.reduceMul, reduceCtorEq, Int.reduceLE, Int.reduceLT, Int.reduceAdd, Int.reduceSub, Int.reduceNeg, Int.reduceToNat, Int.reduceBEq, hdec, List.length_map, z1, List.size_toArray]) | ((first | refine RunTo.nil ⟨by kernel_rfl, ?_⟩ | refine RunTo.nil ?_ | refine awp_skip ?_ | refine awp_exit ?_); simp only [go_sem, ↓reduceIte, Nat.reduceEqDiff, Nat.reduceAdd, Nat.reduceLeDiff, Nat.reduceBEq, Nat.reduceMul, reduceCtorEq, Int.reduceLE, Int.reduceLT, Int.reduceAdd, Int.reduceSub, Int.reduceNeg, Int.reduceToNat, Int.reduceBEq, hdec, List.length_map, z1, List.size_toArray]) | (refine awp_cond' rfl (of_decide_eq_true rfl) (fun hc => ?_) (fun hc => ?_) <;> ((try simp only [Bool.not_true, Bool.not_false, Bool.not_eq_true', Bool.not_eq_false', Bool.not_eq_eq_eq_not] at hc); (first | (cases hc) | (simp only [hc]) | skip))))
        all_goals (first | refine awp_ret ?_ | skip); refine ⟨(by first | exact .inl rfl | exact .inr rfl | exact .inr trivial | trivial), ?_⟩; simp only [go_sem, ↓reduceIte, Nat.reduceEqDiff, Nat.reduceAdd, Nat.reduceLeDiff, Nat.reduceBEq, Nat.reduceMul, reduceCtorEq, Int.reduceLE, Int.reduceLT, Int.reduceAdd, Int.reduceSub, Int.reduceNeg, Int.reduceToNat, Int.reduceBEq, retV, resL, resV, sealV, sealC, sealAll, Tryd.f20]
        all_goals rw [printV, if_pos hv, if_pos h6, hs]
    · have hk6 : (v.a.k == 6) = false := by simpa using h6
      have hva : validA v.a = true := by
        rw [validV_atom h6] at hv
        simp only [Bool.and_eq_true] at hv
        exact hv.1
      have hca := c_rPrintA v.a hf.1 ho.1.1 ho.1.2 (kind_of hva)
      refine pure_of_awp Tryd.func20 rfl rfl (by simp [Tryd.f20]) ?_; simp only [go_sem, ↓reduceIte, Nat.reduceEqDiff, Nat.reduceAdd, Nat.reduceLeDiff, Nat.reduceBEq, Nat.reduceMul, reduceCtorEq, Int.reduceLE, Int.reduceLT, Int.reduceAdd, Int.reduceSub, Int.reduceNeg, Int.reduceToNat, Int.reduceBEq]
      repeat' (first | refine awp_seq ?_ | refine awp_block ?_ | refine awp_round ?_ | refine awp_text rfl ?_ | refine awp_any rfl mix (by kernel_rfl) ?_ | (refine RunTo.unguard rfl rfl (fun hg => ?_) (fun hg => ?_) <;> ((try simp only [Bool.not_true, Bool.not_false, Bool.not_eq_true', Bool.not_eq_false', Bool.not_eq_eq_eq_not] at hg); (first | (cases hg) | (simp only [hg]) | skip))) | ((first | refine RunTo.plain rfl ?_ | refine RunTo.skipped rfl ?_ | refine RunTo.call (hvc) Tryd.func12 rfl rfl rfl rfl rfl rfl rfl rfl ?_ | refine RunTo.call (hca) Tryd.func52 rfl rfl rfl rfl rfl rfl rfl rfl ?_); simp only [go_sem, ↓reduceIte, Nat.reduceEqDiff, Nat.reduceAdd, Nat.reduceLeDiff, Nat.reduceBEq, Nat.reduceMul, reduceCtorEq, Int.reduceLE, Int.reduceLT, Int.reduceAdd, Int.reduceSub, Int.reduceNeg, Int.reduceToNat, Int.reduceBEq, ValD.av, bne, hk6, List.length_map]) | ((first | refine RunTo.nil ⟨by kernel_rfl, ?_⟩ | refine RunTo.nil ?_ | refine awp_skip ?_ | refine awp_exit ?_); simp only [go_sem, ↓reduceIte, Nat.reduceEqDiff, Nat.reduceAdd, Nat.reduceLeDiff, Nat.reduceBEq, Nat.reduceMul, reduceCtorEq, Int.reduceLE, Int.reduceLT, Int.reduceAdd, Int.reduceSub, Int.reduceNeg, Int.reduceToNat, Int.reduceBEq, ValD.av, bne, hk6, List.length_map]) | (refine awp_cond' rfl (of_decide_eq_true rfl) (fun hc => ?_) (fun hc => ?_) <;> ((try simp only [Bool.not_true, Bool.not_false, Bool.not_eq_true', Bool.not_eq_false', Bool.not_eq_eq_eq_not] at hc); (first | (cases hc) | (simp only [hc]) | skip))))
      all_goals (first | refine awp_ret ?_ | skip); refine ⟨(by first | exact .inl rfl | exact .inr rfl | exact .inr trivial | trivial), ?_⟩; simp only [go_sem, ↓reduceIte, Nat.reduceEqDiff, Nat.reduceAdd, Nat.reduceLeDiff, Nat.reduceBEq, Nat.reduceMul, reduceCtorEq, Int.reduceLE, Int.reduceLT, Int.reduceAdd, Int.reduceSub, Int.reduceNeg, Int.reduceToNat, Int.reduceBEq, retV, resL, resV, sealV, sealC, sealAll, Tryd.f20]
      all_goals rw [printV, if_pos hv, if_neg h6]
  · have hv' : validV v = false := by simpa using hv
    rw [hv'] at hvc
    refine pure_of_awp Tryd.func20 rfl rfl (by simp [Tryd.f20]) ?_; simp only [go_sem, ↓reduceIte, Nat.reduceEqDiff, Nat.reduceAdd, Nat.reduceLeDiff, Nat.reduceBEq, Nat.reduceMul, reduceCtorEq, Int.reduceLE, Int.reduceLT, Int.reduceAdd, Int.reduceSub, Int.reduceNeg, Int.reduceToNat, Int.reduceBEq]
    repeat' (first | refine awp_seq ?_ | refine awp_block ?_ | refine awp_round ?_ | refine awp_text rfl ?_ | refine awp_any rfl mix (by kernel_rfl) ?_ | (refine RunTo.unguard rfl rfl (fun hg => ?_) (fun hg => ?_) <;> ((try simp only [Bool.not_true, Bool.not_false, Bool.not_eq_true', Bool.not_eq_false', Bool.not_eq_eq_eq_not] at hg); (first | (cases hg) | (simp only [hg]) | skip))) | ((first | refine RunTo.plain rfl ?_ | refine RunTo.skipped rfl ?_ | refine RunTo.call (hvc) Tryd.func12 rfl rfl rfl rfl rfl rfl rfl rfl ?_); simp only [go_sem, ↓reduceIte, Nat.reduceEqDiff, Nat.reduceAdd, Nat.reduceLeDiff, Nat.reduceBEq, Nat.reduceMul, reduceCtorEq, Int.reduceLE, Int.reduceLT, Int.reduceAdd, Int.reduceSub, Int.reduceNeg, Int.reduceToNat, Int.reduceBEq, ValD.av, bne, List.length_map]) | ((first | refine RunTo.nil ⟨by kernel_rfl, ?_⟩ | refine RunTo.nil ?_ | refine awp_skip ?_ | refine awp_exit ?_); simp only [go_sem, ↓reduceIte, Nat.reduceEqDiff, Nat.reduceAdd, Nat.reduceLeDiff, Nat.reduceBEq, Nat.reduceMul, reduceCtorEq, Int.reduceLE, Int.reduceLT, Int.reduceAdd, Int.reduceSub, Int.reduceNeg, Int.reduceToNat, Int.reduceBEq, ValD.av, bne, List.length_map]) | (refine awp_cond' rfl (of_decide_eq_true rfl) (fun hc => ?_) (fun hc => ?_) <;> ((try simp only [Bool.not_true, Bool.not_false, Bool.not_eq_true', Bool.not_eq_false', Bool.not_eq_eq_eq_not] at hc); (first | (cases hc) | (simp only [hc]) | skip))))
    all_goals (first | refine awp_ret ?_ | skip); refine ⟨(by first | exact .inl rfl | exact .inr rfl | exact .inr trivial | trivial), ?_⟩; simp only [go_sem, ↓reduceIte, Nat.reduceEqDiff, Nat.reduceAdd, Nat.reduceLeDiff, Nat.reduceBEq, Nat.reduceMul, reduceCtorEq, Int.reduceLE, Int.reduceLT, Int.reduceAdd, Int.reduceSub, Int.reduceNeg, Int.reduceToNat, Int.reduceBEq, retV, resL, resV, sealV, sealC, sealAll, Tryd.f20]
    all_goals rw [printV, if_neg hv]
end Go.Proofs.YtjihcldhjpdnmaaDoor.AM
namespace Go.Proofs.YtjihcldhjpdnmaaDoor.AM
open Go.RowKit FL
set_option linter.unusedSimpArgs false
set_option linter.unusedVariables false
set_option maxRecDepth 10000
set_option maxHeartbeats 0
def lexA : List AtomD → List AtomD → Int
  | x :: xs, y :: ys => if atomsS x y = 0 then lexA xs ys else atomsS x y
  | xs, ys => cmp3 xs.length ys.length
def compareS (a b : ValD) : Int := if validV a = true ∧ validV b = true then (if atomsS a.a b.a = 0 then lexA a.l b.l else atomsS a.a b.a) else 0
def i64V (v : ValD) : Prop := i64B v.a.n ∧ ∀ a ∈ v.l, i64B a.n
theorem cmp3_sub (x y k : Nat) (hx : k ≤ x) (hy : k ≤ y) : cmp3 ((x - k : Nat) : Int) ((y - k : Nat) : Int) = cmp3 x y := by
  unfold cmp3
  (repeat' split) <;> omega
theorem lex_step (a b : List AtomD) (k : Nat) (ha : k < a.length) (hb : k < b.length) : lexA (a.drop k) (b.drop k) = if atomsS a[k] b[k] = 0 then lexA (a.drop (k + 1)) (b.drop (k + 1)) else atomsS a[k] b[k] := by
  rw [List.drop_eq_getElem_cons ha, List.drop_eq_getElem_cons hb]
  rfl
theorem lex_nil (x y : List AtomD) (h : x = [] ∨ y = []) : lexA x y = cmp3 x.length y.length := by
  cases x <;> cases y <;> first | rfl | simp at h
theorem lex_end (a b : List AtomD) (k : Nat) (ha : k ≤ a.length) (hb : k ≤ b.length) (h : k = a.length ∨ k = b.length) : lexA (a.drop k) (b.drop k) = cmp3 a.length b.length := by
  rw [lex_nil _ _ (by rcases h with h | h <;> simp [h]), List.length_drop, List.length_drop, cmp3_sub _ _ _ ha hb]
theorem min_len (x y : Nat) : (if (y : Int) < (x : Int) then (y : Int) else (x : Int)) = ((min x y : Nat) : Int) := by split <;> omega
abbrev SC (a b : ValD) (k T e f : Nat) : St := ⟨[(33, iv k), (32, iv ((min a.l.length b.l.length : Nat) : Int)), (2, .ptr 2 e 0 0), (3, .ptr 3 f 0 0)], [(2, .box e (cellsV a)), (3, .box f (cellsV b))], T⟩
def IC (a b : ValD) (n : Nat) (st : St) : Prop := ∃ k T e f, k ≤ min a.l.length b.l.length ∧ n = min a.l.length b.l.length - k ∧ lexA a.l b.l = lexA (a.l.drop k) (b.l.drop k) ∧ st = SC a b k T e f
theorem c_CompareS (a b : ValD) (ia : i64V a) (ib : i64V b) (la : a.l.length ≤ 1000000) (lb : b.l.length ≤ 1000000) : Pure Tryd.prog 13 [a.av, b.av] (iv (compareS a b)) := by
  have va := c_Valid a
  have vb := c_Valid b
  have ca := c_atomsS a.a b.a ia.1 ib.1
  have cl := c_cmpI a.l.length b.l.length
  unfold compareS
  by_cases hv : validV a = true ∧ validV b = true
  · rw [if_pos hv]
    rw [hv.1] at va
    rw [hv.2] at vb
    by_cases h0 : atomsS a.a b.a = 0
    · rw [if_pos h0]
      rw [h0] at ca
      refine pure_of_awp Tryd.func13 rfl rfl (by simp [Tryd.f13]) ?_; simp only [go_sem, ↓reduceIte, Nat.reduceEqDiff, Nat.reduceAdd, Nat.reduceLeDiff, Nat.reduceBEq, Nat.reduceMul, reduceCtorEq, Int.reduceLE, Int.reduceLT, Int.reduceAdd, Int.reduceSub, Int.reduceNeg, Int.reduceToNat, Int.reduceBEq]
      repeat' (first | refine awp_seq ?_ | refine awp_block ?_ | refine awp_round ?_ | refine awp_text rfl ?_ | refine awp_any rfl mix (by kernel_rfl) ?_ | (refine RunTo.unguard rfl rfl (fun hg => ?_) (fun hg => ?_) <;> ((try simp only [Bool.not_true, Bool.not_false, Bool.not_eq_true', Bool.not_eq_false', Bool.not_eq_eq_eq_not] at hg); (first | (cases hg) | (simp only [hg]) | skip))) | ((first | refine RunTo.plain rfl ?_ | refine RunTo.skipped rfl ?_ | refine RunTo.call (va) Tryd.func11 rfl rfl rfl rfl rfl rfl rfl rfl ?_ | refine RunTo.call (vb) Tryd.func11 rfl rfl rfl rfl rfl rfl rfl rfl ?_ | refine RunTo.call (ca) Tryd.func35 rfl rfl rfl rfl rfl rfl rfl rfl ?_); simp only [go_sem, ↓reduceIte, Nat.reduceEqDiff, Nat.reduceAdd, Nat.reduceLeDiff, Nat.reduceBEq, Nat.reduceMul, reduceCtorEq, Int.reduceLE, Int.reduceLT, Int.reduceAdd, Int.reduceSub, Int.reduceNeg, Int.reduceToNat, Int.reduceBEq, ValD.av, AtomD.av, List.length_map]) | ((first | refine RunTo.nil ⟨by kernel_rfl, ?_⟩ | refine RunTo.nil ?_ | refine awp_skip ?_ | refine awp_exit ?_); simp only [go_sem, ↓reduceIte, Nat.reduceEqDiff, Nat.reduceAdd, Nat.reduceLeDiff, Nat.reduceBEq, Nat.reduceMul, reduceCtorEq, Int.reduceLE, Int.reduceLT, Int.reduceAdd, Int.reduceSub, Int.reduceNeg, Int.reduceToNat, Int.reduceBEq, ValD.av, AtomD.av, List.length_map]) | (refine awp_cond' rfl (of_decide_eq_true rfl) (fun hc => ?_) (fun hc => ?_) <;> ((try simp only [Bool.not_true, Bool.not_false, Bool.not_eq_true', Bool.not_eq_false', Bool.not_eq_eq_eq_not] at hc); (first | (cases hc) | (simp only [hc]) | skip))))
      simp only [min_len]
      refine awp_loopw (IC a b) (min a.l.length b.l.length) (SC a b 0 _ _ _) (weak_keep ⟨rfl, rfl, rfl, rfl, trivial⟩ ⟨rfl, rfl, trivial⟩ (Nat.le_refl _)) ⟨0, _, _, _, Nat.zero_le _, rfl, rfl, rfl⟩ ?_
      rintro n st ⟨k, T, e, f, hk, rfl, hx, rfl⟩
      by_cases hlt : k < min a.l.length b.l.length
      · have hdec := lt_t hlt
        have hla : k < a.l.length := by omega
        have hlb : k < b.l.length := by omega
        have hget := row_at AtomD.enc a.l k hla
        have hgetb := row_at AtomD.enc b.l k hlb
        have hia := ia.2 _ (List.getElem_mem hla)
        have hib := ib.2 _ (List.getElem_mem hlb)
        rw [lex_step _ _ _ hla hlb] at hx
        have hwk : IntKind.i64.wrap ((k : Int) + 1) = ((k + 1 : Nat) : Int) := wrap_succ (by omega)
        generalize a.l[k] = x at *
        generalize b.l[k] = y at *
        have cx := c_atomsS x y hia hib
        by_cases h1 : atomsS x y = 0
        · rw [if_pos h1] at hx
          rw [h1] at cx
          repeat' (first | refine awp_seq ?_ | refine awp_block ?_ | refine awp_round ?_ | refine awp_text rfl ?_ | refine awp_any rfl mix (by kernel_rfl) ?_ | (refine RunTo.unguard rfl rfl (fun hg => ?_) (fun hg => ?_) <;> ((try simp only [Bool.not_true, Bool.not_false, Bool.not_eq_true', Bool.not_eq_false', Bool.not_eq_eq_eq_not] at hg); (first | (cases hg) | (simp only [hg]) | skip))) | ((first | refine RunTo.plain rfl ?_ | refine RunTo.skipped rfl ?_ | refine RunTo.call (cx) Tryd.func35 rfl rfl rfl rfl rfl rfl rfl rfl ?_); simp only [go_sem, ↓reduceIte, Nat.reduceEqDiff, Nat.reduceAdd, Nat.reduceLeDiff, Nat.reduceBEq, Nat.reduceMul, reduceCtorEq, Int.reduceLE, Int.reduceLT, Int.reduceAdd, Int.reduceSub, Int.reduceNeg, Int.reduceToNat, Int.reduceBEq, hdec, hget, hgetb, AtomD.enc, AtomD.av, hwk, List.length_map]) | ((first | refine RunTo.nil ⟨by kernel_rfl, ?_⟩ | refine RunTo.nil ?_ | refine awp_skip ?_ | refine awp_exit ?_); simp only [go_sem, ↓reduceIte, Nat.reduceEqDiff, Nat.reduceAdd, Nat.reduceLeDiff, Nat.reduceBEq, Nat.reduceMul, reduceCtorEq, Int.reduceLE, Int.reduceLT, Int.reduceAdd, Int.reduceSub, Int.reduceNeg, Int.reduceToNat, Int.reduceBEq, hdec, hget, hgetb, AtomD.enc, AtomD.av, hwk, List.length_map]) | (refine awp_cond' rfl (of_decide_eq_true rfl) (fun hc => ?_) (fun hc => ?_) <;> ((try simp only [Bool.not_true, Bool.not_false, Bool.not_eq_true', Bool.not_eq_false', Bool.not_eq_eq_eq_not] at hc); (first | (cases hc) | (simp only [hc]) | skip))))
          all_goals exact ⟨min a.l.length b.l.length - (k + 1), by omega, SC a b (k + 1) _ e f, weak_keep ⟨rfl, rfl, rfl, rfl, trivial⟩ ⟨rfl, rfl, trivial⟩ (Nat.le_refl _), k + 1, _, _, _, by omega, rfl, hx, rfl⟩
        · rw [if_neg h1] at hx
          have hd : (atomsS x y != 0) = true := by simpa using h1
          repeat' (first | refine awp_seq ?_ | refine awp_block ?_ | refine awp_round ?_ | refine awp_text rfl ?_ | refine awp_any rfl mix (by kernel_rfl) ?_ | (refine RunTo.unguard rfl rfl (fun hg => ?_) (fun hg => ?_) <;> ((try simp only [Bool.not_true, Bool.not_false, Bool.not_eq_true', Bool.not_eq_false', Bool.not_eq_eq_eq_not] at hg); (first | (cases hg) | (simp only [hg]) | skip))) | ((first | refine RunTo.plain rfl ?_ | refine RunTo.skipped rfl ?_ | refine RunTo.call (cx) Tryd.func35 rfl rfl rfl rfl rfl rfl rfl rfl ?_); simp only [go_sem, ↓reduceIte, Nat.reduceEqDiff, Nat.reduceAdd, Nat.reduceLeDiff, Nat.reduceBEq, Nat.reduceMul, reduceCtorEq, Int.reduceLE, Int.reduceLT, Int.reduceAdd, Int.reduceSub, Int.reduceNeg, Int.reduceToNat, Int.reduceBEq, hdec, hget, hgetb, AtomD.enc, AtomD.av, hwk, hd, List.length_map]) | ((first | refine RunTo.nil ⟨by kernel_rfl, ?_⟩ | refine RunTo.nil ?_ | refine awp_skip ?_ | refine awp_exit ?_); simp only [go_sem, ↓reduceIte, Nat.reduceEqDiff, Nat.reduceAdd, Nat.reduceLeDiff, Nat.reduceBEq, Nat.reduceMul, reduceCtorEq, Int.reduceLE, Int.reduceLT, Int.reduceAdd, Int.reduceSub, Int.reduceNeg, Int.reduceToNat, Int.reduceBEq, hdec, hget, hgetb, AtomD.enc, AtomD.av, hwk, hd, List.length_map]) | (refine awp_cond' rfl (of_decide_eq_true rfl) (fun hc => ?_) (fun hc => ?_) <;> ((try simp only [Bool.not_true, Bool.not_false, Bool.not_eq_true', Bool.not_eq_false', Bool.not_eq_eq_eq_not] at hc); (first | (cases hc) | (simp only [hc]) | skip))))
          all_goals (first | refine awp_ret ?_ | skip); refine ⟨(by first | exact .inl rfl | exact .inr rfl | exact .inr trivial | trivial), ?_⟩; simp only [go_sem, ↓reduceIte, Nat.reduceEqDiff, Nat.reduceAdd, Nat.reduceLeDiff, Nat.reduceBEq, Nat.reduceMul, reduceCtorEq, Int.reduceLE, Int.reduceLT, Int.reduceAdd, Int.reduceSub, Int.reduceNeg, Int.reduceToNat, Int.reduceBEq, retV, resL, resV, sealV, sealC, sealAll, Tryd.f13]
          all_goals rw [hx]
      · have hdec := lt_f hlt
        rw [lex_end _ _ _ (by omega) (by omega) (by omega)] at hx
        rw [hx]
        repeat' (first | refine awp_seq ?_ | refine awp_block ?_ | refine awp_round ?_ | refine awp_text rfl ?_ | refine awp_any rfl mix (by kernel_rfl) ?_ | (refine RunTo.unguard rfl rfl (fun hg => ?_) (fun hg => ?_) <;> ((try simp only [Bool.not_true, Bool.not_false, Bool.not_eq_true', Bool.not_eq_false', Bool.not_eq_eq_eq_not] at hg); (first | (cases hg) | (simp only [hg]) | skip))) | ((first | refine RunTo.plain rfl ?_ | refine RunTo.skipped rfl ?_ | refine RunTo.call (cl) Tryd.func36 rfl rfl rfl rfl rfl rfl rfl rfl ?_); simp only [go_sem, ↓reduceIte, Nat.reduceEqDiff, Nat.reduceAdd, Nat.reduceLeDiff, Nat.reduceBEq, Nat.reduceMul, reduceCtorEq, Int.reduceLE, Int.reduceLT, Int.reduceAdd, Int.reduceSub, Int.reduceNeg, Int.reduceToNat, Int.reduceBEq, hdec, List.length_map]) | ((first | refine RunTo.nil ⟨by kernel_rfl, ?_⟩ | refine RunTo.nil ?_ | refine awp_skip ?_ | refine awp_exit ?_); simp only [go_sem, ↓reduceIte, Nat.reduceEqDiff, Nat.reduceAdd, Nat.reduceLeDiff, Nat.reduceBEq, Nat.reduceMul, reduceCtorEq, Int.reduceLE, Int.reduceLT, Int.reduceAdd, Int.reduceSub, Int.reduceNeg, Int.reduceToNat, Int.reduceBEq, hdec, List.length_map]) | (refine awp_cond' rfl (of_decide_eq_true rfl) (fun hc => ?_) (fun hc => ?_) <;> ((try simp only [Bool.not_true, Bool.not_false, Bool.not_eq_true', Bool.not_eq_false', Bool.not_eq_eq_eq_not] at hc); (first | (cases hc) | (simp only [hc]) | skip))))
        all_goals (first | refine awp_ret ?_ | skip); refine ⟨(by first | exact .inl rfl | exact .inr rfl | exact .inr trivial | trivial), ?_⟩; simp only [go_sem, ↓reduceIte, Nat.reduceEqDiff, Nat.reduceAdd, Nat.reduceLeDiff, Nat.reduceBEq, Nat.reduceMul, reduceCtorEq, Int.reduceLE, Int.reduceLT, Int.reduceAdd, Int.reduceSub, Int.reduceNeg, Int.reduceToNat, Int.reduceBEq, retV, resL, resV, sealV, sealC, sealAll, Tryd.f13]
    · rw [if_neg h0]
      have hd : (atomsS a.a b.a != 0) = true := by simpa using h0
      refine pure_of_awp Tryd.func13 rfl rfl (by simp [Tryd.f13]) ?_; simp only [go_sem, ↓reduceIte, Nat.reduceEqDiff, Nat.reduceAdd, Nat.reduceLeDiff, Nat.reduceBEq, Nat.reduceMul, reduceCtorEq, Int.reduceLE, Int.reduceLT, Int.reduceAdd, Int.reduceSub, Int.reduceNeg, Int.reduceToNat, Int.reduceBEq]
      repeat' (first | refine awp_seq ?_ | refine awp_block ?_ | refine awp_round ?_ | refine awp_text rfl ?_ | refine awp_any rfl mix (by kernel_rfl) ?_ | (refine RunTo.unguard rfl rfl (fun hg => ?_) (fun hg => ?_) <;> ((try simp only [Bool.not_true, Bool.not_false, Bool.not_eq_true', Bool.not_eq_false', Bool.not_eq_eq_eq_not] at hg); (first | (cases hg) | (simp only [hg]) | skip))) | ((first | refine RunTo.plain rfl ?_ | refine RunTo.skipped rfl ?_ | refine RunTo.call (va) Tryd.func11 rfl rfl rfl rfl rfl rfl rfl rfl ?_ | refine RunTo.call (vb) Tryd.func11 rfl rfl rfl rfl rfl rfl rfl rfl ?_ | refine RunTo.call (ca) Tryd.func35 rfl rfl rfl rfl rfl rfl rfl rfl ?_); simp only [go_sem, ↓reduceIte, Nat.reduceEqDiff, Nat.reduceAdd, Nat.reduceLeDiff, Nat.reduceBEq, Nat.reduceMul, reduceCtorEq, Int.reduceLE, Int.reduceLT, Int.reduceAdd, Int.reduceSub, Int.reduceNeg, Int.reduceToNat, Int.reduceBEq, ValD.av, AtomD.av, hd]) | ((first | refine RunTo.nil ⟨by kernel_rfl, ?_⟩ | refine RunTo.nil ?_ | refine awp_skip ?_ | refine awp_exit ?_); simp only [go_sem, ↓reduceIte, Nat.reduceEqDiff, Nat.reduceAdd, Nat.reduceLeDiff, Nat.reduceBEq, Nat.reduceMul, reduceCtorEq, Int.reduceLE, Int.reduceLT, Int.reduceAdd, Int.reduceSub, Int.reduceNeg, Int.reduceToNat, Int.reduceBEq, ValD.av, AtomD.av, hd]) | (refine awp_cond' rfl (of_decide_eq_true rfl) (fun hc => ?_) (fun hc => ?_) <;> ((try simp only [Bool.not_true, Bool.not_false, Bool.not_eq_true', Bool.not_eq_false', Bool.not_eq_eq_eq_not] at hc); (first | (cases hc) | (simp only [hc]) | skip))))
      all_goals (first | refine awp_ret ?_ | skip); refine ⟨(by first | exact .inl rfl | exact .inr rfl | exact .inr trivial | trivial), ?_⟩; simp only [go_sem, ↓reduceIte, Nat.reduceEqDiff, Nat.reduceAdd, Nat.reduceLeDiff, Nat.reduceBEq, Nat.reduceMul, reduceCtorEq, Int.reduceLE, Int.reduceLT, Int.reduceAdd, Int.reduceSub, Int.reduceNeg, Int.reduceToNat, Int.reduceBEq, retV, resL, resV, sealV, sealC, sealAll, Tryd.f13]
  · rw [if_neg hv]
    generalize validV a = p at *
    generalize validV b = q at *
    refine pure_of_awp Tryd.func13 rfl rfl (by simp [Tryd.f13]) ?_; simp only [go_sem, ↓reduceIte, Nat.reduceEqDiff, Nat.reduceAdd, Nat.reduceLeDiff, Nat.reduceBEq, Nat.reduceMul, reduceCtorEq, Int.reduceLE, Int.reduceLT, Int.reduceAdd, Int.reduceSub, Int.reduceNeg, Int.reduceToNat, Int.reduceBEq]
    repeat' (first | refine awp_seq ?_ | refine awp_block ?_ | refine awp_round ?_ | refine awp_text rfl ?_ | refine awp_any rfl mix (by kernel_rfl) ?_ | (refine RunTo.unguard rfl rfl (fun hg => ?_) (fun hg => ?_) <;> ((try simp only [Bool.not_true, Bool.not_false, Bool.not_eq_true', Bool.not_eq_false', Bool.not_eq_eq_eq_not] at hg); (first | (cases hg) | (simp only [hg]) | skip))) | ((first | refine RunTo.plain rfl ?_ | refine RunTo.skipped rfl ?_ | refine RunTo.call (va) Tryd.func11 rfl rfl rfl rfl rfl rfl rfl rfl ?_ | refine RunTo.call (vb) Tryd.func11 rfl rfl rfl rfl rfl rfl rfl rfl ?_); simp only [go_sem, ↓reduceIte, Nat.reduceEqDiff, Nat.reduceAdd, Nat.reduceLeDiff, Nat.reduceBEq, Nat.reduceMul, reduceCtorEq, Int.reduceLE, Int.reduceLT, Int.reduceAdd, Int.reduceSub, Int.reduceNeg, Int.reduceToNat, Int.reduceBEq, ValD.av]) | ((first | refine RunTo.nil ⟨by kernel_rfl, ?_⟩ | refine RunTo.nil ?_ | refine awp_skip ?_ | refine awp_exit ?_); simp only [go_sem, ↓reduceIte, Nat.reduceEqDiff, Nat.reduceAdd, Nat.reduceLeDiff, Nat.reduceBEq, Nat.reduceMul, reduceCtorEq, Int.reduceLE, Int.reduceLT, Int.reduceAdd, Int.reduceSub, Int.reduceNeg, Int.reduceToNat, Int.reduceBEq, ValD.av]) | (refine awp_cond' rfl (of_decide_eq_true rfl) (fun hc => ?_) (fun hc => ?_) <;> ((try simp only [Bool.not_true, Bool.not_false, Bool.not_eq_true', Bool.not_eq_false', Bool.not_eq_eq_eq_not] at hc); (first | (cases hc) | (simp only [hc]) | skip))))
    all_goals first
      | ((first | refine awp_ret ?_ | skip); refine ⟨(by first | exact .inl rfl | exact .inr rfl | exact .inr trivial | trivial), ?_⟩; simp only [go_sem, ↓reduceIte, Nat.reduceEqDiff, Nat.reduceAdd, Nat.reduceLeDiff, Nat.reduceBEq, Nat.reduceMul, reduceCtorEq, Int.reduceLE, Int.reduceLT, Int.reduceAdd, Int.reduceSub, Int.reduceNeg, Int.reduceToNat, Int.reduceBEq, retV, resL, resV, sealV, sealC, sealAll, Tryd.f13]; done)
      | (exfalso; apply hv; constructor <;> assumption)
      | (exfalso; simp_all; done)
      | trace_state
end Go.Proofs.YtjihcldhjpdnmaaDoor.AM
namespace Go.Proofs.YtjihcldhjpdnmaaDoor.AM
open Go.RowKit FL
set_option linter.unusedSimpArgs false
set_option linter.unusedVariables false
set_option maxRecDepth 10000
set_option maxHeartbeats 0
def nanD (a : AtomD) : Bool := a.k == 3 && clsF a.f == 0
theorem c_nanD (a : AtomD) : Pure Tryd.prog 43 [a.av] (bv (nanD a)) := c_nan a
theorem c_numD (a : AtomD) : Pure Tryd.prog 44 [a.av] (bv (numA a)) := c_isNum a
def alikeS (a b : AtomD) : Bool := !(nanD a) && !(nanD b) && !(a.k == 0) && !(b.k == 0) && (if (numA a && numA b) = true then cmp3 (nkeyA a) (nkeyA b) == 0 else atomsS a b == 0)
theorem c_alikeS (a b : AtomD) (ia : i64B a.n) (ib : i64B b.n) : Pure Tryd.prog 40 [a.av, b.av] (bv (alikeS a b)) := by
  have a1 := c_nanD a
  have a2 := c_nanD b
  have n1 := c_numD a
  have n2 := c_numD b
  have ca := c_atomsS a b ia ib
  cases h1 : nanD a
  · cases h2 : nanD b
    · rw [h1] at a1
      rw [h2] at a2
      cases m1 : numA a
      · rw [m1] at n1
        refine pure_of_awp Tryd.func40 rfl rfl (by simp [Tryd.f40]) ?_; simp only [go_sem, ↓reduceIte, Nat.reduceEqDiff, Nat.reduceAdd, Nat.reduceLeDiff, Nat.reduceBEq, Nat.reduceMul, reduceCtorEq, Int.reduceLE, Int.reduceLT, Int.reduceAdd, Int.reduceSub, Int.reduceNeg, Int.reduceToNat, Int.reduceBEq]
        repeat' (first | refine awp_seq ?_ | refine awp_block ?_ | refine awp_round ?_ | refine awp_text rfl ?_ | refine awp_any rfl mix (by kernel_rfl) ?_ | (refine RunTo.unguard rfl rfl (fun hg => ?_) (fun hg => ?_) <;> ((try simp only [Bool.not_true, Bool.not_false, Bool.not_eq_true', Bool.not_eq_false', Bool.not_eq_eq_eq_not] at hg); (first | (cases hg) | (simp only [hg]) | skip))) | ((first | refine RunTo.plain rfl ?_ | refine RunTo.skipped rfl ?_ | refine RunTo.call (a1) Tryd.func43 rfl rfl rfl rfl rfl rfl rfl rfl ?_ | refine RunTo.call (a2) Tryd.func43 rfl rfl rfl rfl rfl rfl rfl rfl ?_ | refine RunTo.call (n1) Tryd.func44 rfl rfl rfl rfl rfl rfl rfl rfl ?_ | refine RunTo.call (n2) Tryd.func44 rfl rfl rfl rfl rfl rfl rfl rfl ?_ | refine RunTo.call (ca) Tryd.func35 rfl rfl rfl rfl rfl rfl rfl rfl ?_); simp only [go_sem, ↓reduceIte, Nat.reduceEqDiff, Nat.reduceAdd, Nat.reduceLeDiff, Nat.reduceBEq, Nat.reduceMul, reduceCtorEq, Int.reduceLE, Int.reduceLT, Int.reduceAdd, Int.reduceSub, Int.reduceNeg, Int.reduceToNat, Int.reduceBEq, AtomD.av]) | ((first | refine RunTo.nil ⟨by kernel_rfl, ?_⟩ | refine RunTo.nil ?_ | refine awp_skip ?_ | refine awp_exit ?_); simp only [go_sem, ↓reduceIte, Nat.reduceEqDiff, Nat.reduceAdd, Nat.reduceLeDiff, Nat.reduceBEq, Nat.reduceMul, reduceCtorEq, Int.reduceLE, Int.reduceLT, Int.reduceAdd, Int.reduceSub, Int.reduceNeg, Int.reduceToNat, Int.reduceBEq, AtomD.av]) | (refine awp_cond' rfl (of_decide_eq_true rfl) (fun hc => ?_) (fun hc => ?_) <;> ((try simp only [Bool.not_true, Bool.not_false, Bool.not_eq_true', Bool.not_eq_false', Bool.not_eq_eq_eq_not] at hc); (first | (cases hc) | (simp only [hc]) | skip))))
        all_goals
          (first | refine awp_ret ?_ | skip); refine ⟨(by first | exact .inl rfl | exact .inr rfl | exact .inr trivial | trivial), ?_⟩; simp only [go_sem, ↓reduceIte, Nat.reduceEqDiff, Nat.reduceAdd, Nat.reduceLeDiff, Nat.reduceBEq, Nat.reduceMul, reduceCtorEq, Int.reduceLE, Int.reduceLT, Int.reduceAdd, Int.reduceSub, Int.reduceNeg, Int.reduceToNat, Int.reduceBEq, retV, resL, resV, sealV, sealC, sealAll, Tryd.f40]
          simp [alikeS, *]
      · cases m2 : numA b
        · rw [m1] at n1
          rw [m2] at n2
          refine pure_of_awp Tryd.func40 rfl rfl (by simp [Tryd.f40]) ?_; simp only [go_sem, ↓reduceIte, Nat.reduceEqDiff, Nat.reduceAdd, Nat.reduceLeDiff, Nat.reduceBEq, Nat.reduceMul, reduceCtorEq, Int.reduceLE, Int.reduceLT, Int.reduceAdd, Int.reduceSub, Int.reduceNeg, Int.reduceToNat, Int.reduceBEq]
          repeat' (first | refine awp_seq ?_ | refine awp_block ?_ | refine awp_round ?_ | refine awp_text rfl ?_ | refine awp_any rfl mix (by kernel_rfl) ?_ | (refine RunTo.unguard rfl rfl (fun hg => ?_) (fun hg => ?_) <;> ((try simp only [Bool.not_true, Bool.not_false, Bool.not_eq_true', Bool.not_eq_false', Bool.not_eq_eq_eq_not] at hg); (first | (cases hg) | (simp only [hg]) | skip))) | ((first | refine RunTo.plain rfl ?_ | refine RunTo.skipped rfl ?_ | refine RunTo.call (a1) Tryd.func43 rfl rfl rfl rfl rfl rfl rfl rfl ?_ | refine RunTo.call (a2) Tryd.func43 rfl rfl rfl rfl rfl rfl rfl rfl ?_ | refine RunTo.call (n1) Tryd.func44 rfl rfl rfl rfl rfl rfl rfl rfl ?_ | refine RunTo.call (n2) Tryd.func44 rfl rfl rfl rfl rfl rfl rfl rfl ?_ | refine RunTo.call (ca) Tryd.func35 rfl rfl rfl rfl rfl rfl rfl rfl ?_); simp only [go_sem, ↓reduceIte, Nat.reduceEqDiff, Nat.reduceAdd, Nat.reduceLeDiff, Nat.reduceBEq, Nat.reduceMul, reduceCtorEq, Int.reduceLE, Int.reduceLT, Int.reduceAdd, Int.reduceSub, Int.reduceNeg, Int.reduceToNat, Int.reduceBEq, AtomD.av]) | ((first | refine RunTo.nil ⟨by kernel_rfl, ?_⟩ | refine RunTo.nil ?_ | refine awp_skip ?_ | refine awp_exit ?_); simp only [go_sem, ↓reduceIte, Nat.reduceEqDiff, Nat.reduceAdd, Nat.reduceLeDiff, Nat.reduceBEq, Nat.reduceMul, reduceCtorEq, Int.reduceLE, Int.reduceLT, Int.reduceAdd, Int.reduceSub, Int.reduceNeg, Int.reduceToNat, Int.reduceBEq, AtomD.av]) | (refine awp_cond' rfl (of_decide_eq_true rfl) (fun hc => ?_) (fun hc => ?_) <;> ((try simp only [Bool.not_true, Bool.not_false, Bool.not_eq_true', Bool.not_eq_false', Bool.not_eq_eq_eq_not] at hc); (first | (cases hc) | (simp only [hc]) | skip))))
          all_goals
            (first | refine awp_ret ?_ | skip); refine ⟨(by first | exact .inl rfl | exact .inr rfl | exact .inr trivial | trivial), ?_⟩; simp only [go_sem, ↓reduceIte, Nat.reduceEqDiff, Nat.reduceAdd, Nat.reduceLeDiff, Nat.reduceBEq, Nat.reduceMul, reduceCtorEq, Int.reduceLE, Int.reduceLT, Int.reduceAdd, Int.reduceSub, Int.reduceNeg, Int.reduceToNat, Int.reduceBEq, retV, resL, resV, sealV, sealC, sealAll, Tryd.f40]
            simp [alikeS, *]
        · rw [m1] at n1
          rw [m2] at n2
          have cx := c_exactN a b m1 m2 ia ib
          refine pure_of_awp Tryd.func40 rfl rfl (by simp [Tryd.f40]) ?_; simp only [go_sem, ↓reduceIte, Nat.reduceEqDiff, Nat.reduceAdd, Nat.reduceLeDiff, Nat.reduceBEq, Nat.reduceMul, reduceCtorEq, Int.reduceLE, Int.reduceLT, Int.reduceAdd, Int.reduceSub, Int.reduceNeg, Int.reduceToNat, Int.reduceBEq]
          repeat' (first | refine awp_seq ?_ | refine awp_block ?_ | refine awp_round ?_ | refine awp_text rfl ?_ | refine awp_any rfl mix (by kernel_rfl) ?_ | (refine RunTo.unguard rfl rfl (fun hg => ?_) (fun hg => ?_) <;> ((try simp only [Bool.not_true, Bool.not_false, Bool.not_eq_true', Bool.not_eq_false', Bool.not_eq_eq_eq_not] at hg); (first | (cases hg) | (simp only [hg]) | skip))) | ((first | refine RunTo.plain rfl ?_ | refine RunTo.skipped rfl ?_ | refine RunTo.call (a1) Tryd.func43 rfl rfl rfl rfl rfl rfl rfl rfl ?_ | refine RunTo.call (a2) Tryd.func43 rfl rfl rfl rfl rfl rfl rfl rfl ?_ | refine RunTo.call (n1) Tryd.func44 rfl rfl rfl rfl rfl rfl rfl rfl ?_ | refine RunTo.call (n2) Tryd.func44 rfl rfl rfl rfl rfl rfl rfl rfl ?_ | refine RunTo.call (cx) Tryd.func45 rfl rfl rfl rfl rfl rfl rfl rfl ?_); simp only [go_sem, ↓reduceIte, Nat.reduceEqDiff, Nat.reduceAdd, Nat.reduceLeDiff, Nat.reduceBEq, Nat.reduceMul, reduceCtorEq, Int.reduceLE, Int.reduceLT, Int.reduceAdd, Int.reduceSub, Int.reduceNeg, Int.reduceToNat, Int.reduceBEq, AtomD.av]) | ((first | refine RunTo.nil ⟨by kernel_rfl, ?_⟩ | refine RunTo.nil ?_ | refine awp_skip ?_ | refine awp_exit ?_); simp only [go_sem, ↓reduceIte, Nat.reduceEqDiff, Nat.reduceAdd, Nat.reduceLeDiff, Nat.reduceBEq, Nat.reduceMul, reduceCtorEq, Int.reduceLE, Int.reduceLT, Int.reduceAdd, Int.reduceSub, Int.reduceNeg, Int.reduceToNat, Int.reduceBEq, AtomD.av]) | (refine awp_cond' rfl (of_decide_eq_true rfl) (fun hc => ?_) (fun hc => ?_) <;> ((try simp only [Bool.not_true, Bool.not_false, Bool.not_eq_true', Bool.not_eq_false', Bool.not_eq_eq_eq_not] at hc); (first | (cases hc) | (simp only [hc]) | skip))))
          all_goals
            (first | refine awp_ret ?_ | skip); refine ⟨(by first | exact .inl rfl | exact .inr rfl | exact .inr trivial | trivial), ?_⟩; simp only [go_sem, ↓reduceIte, Nat.reduceEqDiff, Nat.reduceAdd, Nat.reduceLeDiff, Nat.reduceBEq, Nat.reduceMul, reduceCtorEq, Int.reduceLE, Int.reduceLT, Int.reduceAdd, Int.reduceSub, Int.reduceNeg, Int.reduceToNat, Int.reduceBEq, retV, resL, resV, sealV, sealC, sealAll, Tryd.f40]
            simp [alikeS, *]
    · rw [h1] at a1
      rw [h2] at a2
      refine pure_of_awp Tryd.func40 rfl rfl (by simp [Tryd.f40]) ?_; simp only [go_sem, ↓reduceIte, Nat.reduceEqDiff, Nat.reduceAdd, Nat.reduceLeDiff, Nat.reduceBEq, Nat.reduceMul, reduceCtorEq, Int.reduceLE, Int.reduceLT, Int.reduceAdd, Int.reduceSub, Int.reduceNeg, Int.reduceToNat, Int.reduceBEq]
      repeat' (first | refine awp_seq ?_ | refine awp_block ?_ | refine awp_round ?_ | refine awp_text rfl ?_ | refine awp_any rfl mix (by kernel_rfl) ?_ | (refine RunTo.unguard rfl rfl (fun hg => ?_) (fun hg => ?_) <;> ((try simp only [Bool.not_true, Bool.not_false, Bool.not_eq_true', Bool.not_eq_false', Bool.not_eq_eq_eq_not] at hg); (first | (cases hg) | (simp only [hg]) | skip))) | ((first | refine RunTo.plain rfl ?_ | refine RunTo.skipped rfl ?_ | refine RunTo.call (a1) Tryd.func43 rfl rfl rfl rfl rfl rfl rfl rfl ?_ | refine RunTo.call (a2) Tryd.func43 rfl rfl rfl rfl rfl rfl rfl rfl ?_); simp only [go_sem, ↓reduceIte, Nat.reduceEqDiff, Nat.reduceAdd, Nat.reduceLeDiff, Nat.reduceBEq, Nat.reduceMul, reduceCtorEq, Int.reduceLE, Int.reduceLT, Int.reduceAdd, Int.reduceSub, Int.reduceNeg, Int.reduceToNat, Int.reduceBEq, AtomD.av]) | ((first | refine RunTo.nil ⟨by kernel_rfl, ?_⟩ | refine RunTo.nil ?_ | refine awp_skip ?_ | refine awp_exit ?_); simp only [go_sem, ↓reduceIte, Nat.reduceEqDiff, Nat.reduceAdd, Nat.reduceLeDiff, Nat.reduceBEq, Nat.reduceMul, reduceCtorEq, Int.reduceLE, Int.reduceLT, Int.reduceAdd, Int.reduceSub, Int.reduceNeg, Int.reduceToNat, Int.reduceBEq, AtomD.av]) | (refine awp_cond' rfl (of_decide_eq_true rfl) (fun hc => ?_) (fun hc => ?_) <;> ((try simp only [Bool.not_true, Bool.not_false, Bool.not_eq_true', Bool.not_eq_false', Bool.not_eq_eq_eq_not] at hc); (first | (cases hc) | (simp only [hc]) | skip))))
      all_goals
        (first | refine awp_ret ?_ | skip); refine ⟨(by first | exact .inl rfl | exact .inr rfl | exact .inr trivial | trivial), ?_⟩; simp only [go_sem, ↓reduceIte, Nat.reduceEqDiff, Nat.reduceAdd, Nat.reduceLeDiff, Nat.reduceBEq, Nat.reduceMul, reduceCtorEq, Int.reduceLE, Int.reduceLT, Int.reduceAdd, Int.reduceSub, Int.reduceNeg, Int.reduceToNat, Int.reduceBEq, retV, resL, resV, sealV, sealC, sealAll, Tryd.f40]
        simp [alikeS, *]
  · rw [h1] at a1
    refine pure_of_awp Tryd.func40 rfl rfl (by simp [Tryd.f40]) ?_; simp only [go_sem, ↓reduceIte, Nat.reduceEqDiff, Nat.reduceAdd, Nat.reduceLeDiff, Nat.reduceBEq, Nat.reduceMul, reduceCtorEq, Int.reduceLE, Int.reduceLT, Int.reduceAdd, Int.reduceSub, Int.reduceNeg, Int.reduceToNat, Int.reduceBEq]
    repeat' (first | refine awp_seq ?_ | refine awp_block ?_ | refine awp_round ?_ | refine awp_text rfl ?_ | refine awp_any rfl mix (by kernel_rfl) ?_ | (refine RunTo.unguard rfl rfl (fun hg => ?_) (fun hg => ?_) <;> ((try simp only [Bool.not_true, Bool.not_false, Bool.not_eq_true', Bool.not_eq_false', Bool.not_eq_eq_eq_not] at hg); (first | (cases hg) | (simp only [hg]) | skip))) | ((first | refine RunTo.plain rfl ?_ | refine RunTo.skipped rfl ?_ | refine RunTo.call (a1) Tryd.func43 rfl rfl rfl rfl rfl rfl rfl rfl ?_ | refine RunTo.call (a2) Tryd.func43 rfl rfl rfl rfl rfl rfl rfl rfl ?_); simp only [go_sem, ↓reduceIte, Nat.reduceEqDiff, Nat.reduceAdd, Nat.reduceLeDiff, Nat.reduceBEq, Nat.reduceMul, reduceCtorEq, Int.reduceLE, Int.reduceLT, Int.reduceAdd, Int.reduceSub, Int.reduceNeg, Int.reduceToNat, Int.reduceBEq, AtomD.av]) | ((first | refine RunTo.nil ⟨by kernel_rfl, ?_⟩ | refine RunTo.nil ?_ | refine awp_skip ?_ | refine awp_exit ?_); simp only [go_sem, ↓reduceIte, Nat.reduceEqDiff, Nat.reduceAdd, Nat.reduceLeDiff, Nat.reduceBEq, Nat.reduceMul, reduceCtorEq, Int.reduceLE, Int.reduceLT, Int.reduceAdd, Int.reduceSub, Int.reduceNeg, Int.reduceToNat, Int.reduceBEq, AtomD.av]) | (refine awp_cond' rfl (of_decide_eq_true rfl) (fun hc => ?_) (fun hc => ?_) <;> ((try simp only [Bool.not_true, Bool.not_false, Bool.not_eq_true', Bool.not_eq_false', Bool.not_eq_eq_eq_not] at hc); (first | (cases hc) | (simp only [hc]) | skip))))
    all_goals
      (first | refine awp_ret ?_ | skip); refine ⟨(by first | exact .inl rfl | exact .inr rfl | exact .inr trivial | trivial), ?_⟩; simp only [go_sem, ↓reduceIte, Nat.reduceEqDiff, Nat.reduceAdd, Nat.reduceLeDiff, Nat.reduceBEq, Nat.reduceMul, reduceCtorEq, Int.reduceLE, Int.reduceLT, Int.reduceAdd, Int.reduceSub, Int.reduceNeg, Int.reduceToNat, Int.reduceBEq, retV, resL, resV, sealV, sealC, sealAll, Tryd.f40]
      simp [alikeS, *]
def unkS (v w : ValD) : Bool := !(validV v) || !(validV w) || v.a.k == 0 || w.a.k == 0
theorem c_unkS (v w : ValD) : Pure Tryd.prog 38 [v.av, w.av] (bv (unkS v w)) := by
  have c1 := c_Valid v
  have c2 := c_Valid w
  unfold unkS
  generalize validV v = p at *
  generalize validV w = q at *
  refine pure_of_awp Tryd.func38 rfl rfl (by simp [Tryd.f38]) ?_; simp only [go_sem, ↓reduceIte, Nat.reduceEqDiff, Nat.reduceAdd, Nat.reduceLeDiff, Nat.reduceBEq, Nat.reduceMul, reduceCtorEq, Int.reduceLE, Int.reduceLT, Int.reduceAdd, Int.reduceSub, Int.reduceNeg, Int.reduceToNat, Int.reduceBEq]
  repeat' (first | refine awp_seq ?_ | refine awp_block ?_ | refine awp_round ?_ | refine awp_text rfl ?_ | refine awp_any rfl mix (by kernel_rfl) ?_ | (refine RunTo.unguard rfl rfl (fun hg => ?_) (fun hg => ?_) <;> ((try simp only [Bool.not_true, Bool.not_false, Bool.not_eq_true', Bool.not_eq_false', Bool.not_eq_eq_eq_not] at hg); (first | (cases hg) | (simp only [hg]) | skip))) | ((first | refine RunTo.plain rfl ?_ | refine RunTo.skipped rfl ?_ | refine RunTo.call (c1) Tryd.func11 rfl rfl rfl rfl rfl rfl rfl rfl ?_ | refine RunTo.call (c2) Tryd.func11 rfl rfl rfl rfl rfl rfl rfl rfl ?_); simp only [go_sem, ↓reduceIte, Nat.reduceEqDiff, Nat.reduceAdd, Nat.reduceLeDiff, Nat.reduceBEq, Nat.reduceMul, reduceCtorEq, Int.reduceLE, Int.reduceLT, Int.reduceAdd, Int.reduceSub, Int.reduceNeg, Int.reduceToNat, Int.reduceBEq, ValD.av]) | ((first | refine RunTo.nil ⟨by kernel_rfl, ?_⟩ | refine RunTo.nil ?_ | refine awp_skip ?_ | refine awp_exit ?_); simp only [go_sem, ↓reduceIte, Nat.reduceEqDiff, Nat.reduceAdd, Nat.reduceLeDiff, Nat.reduceBEq, Nat.reduceMul, reduceCtorEq, Int.reduceLE, Int.reduceLT, Int.reduceAdd, Int.reduceSub, Int.reduceNeg, Int.reduceToNat, Int.reduceBEq, ValD.av]) | (refine awp_cond' rfl (of_decide_eq_true rfl) (fun hc => ?_) (fun hc => ?_) <;> ((try simp only [Bool.not_true, Bool.not_false, Bool.not_eq_true', Bool.not_eq_false', Bool.not_eq_eq_eq_not] at hc); (first | (cases hc) | (simp only [hc]) | skip))))
  all_goals
    (first | refine awp_ret ?_ | skip); refine ⟨(by first | exact .inl rfl | exact .inr rfl | exact .inr trivial | trivial), ?_⟩; simp only [go_sem, ↓reduceIte, Nat.reduceEqDiff, Nat.reduceAdd, Nat.reduceLeDiff, Nat.reduceBEq, Nat.reduceMul, reduceCtorEq, Int.reduceLE, Int.reduceLT, Int.reduceAdd, Int.reduceSub, Int.reduceNeg, Int.reduceToNat, Int.reduceBEq, retV, resL, resV, sealV, sealC, sealAll, Tryd.f38]
    simp [*]
end Go.Proofs.YtjihcldhjpdnmaaDoor.AM
namespace Go.Proofs.YtjihcldhjpdnmaaDoor.AM
open Go.RowKit FL
set_option linter.unusedSimpArgs false
set_option linter.unusedVariables false
set_option maxRecDepth 10000
set_option maxHeartbeats 0
def lessS (v w : ValD) : Int := if unkS v w = true ∨ v.a.k = 6 ∨ rankA v.a ≠ rankA w.a then 2 else if nanD v.a = true ∨ nanD w.a = true then 0 else if numA v.a = true then (if cmp3 (nkeyA v.a) (nkeyA w.a) < 0 then 1 else 0) else if atomsS v.a w.a < 0 then 1 else 0
theorem c_LessS (v w : ValD) (iv' : i64V v) (iw : i64V w) : Pure Tryd.prog 17 [v.av, w.av] (iv (lessS v w)) := by
  have cu := c_unkS v w
  have r1 := c_rank v.a
  have r2 := c_rank w.a
  have a1 := c_nanD v.a
  have a2 := c_nanD w.a
  have n1 := c_numD v.a
  have ca := c_atomsS v.a w.a iv'.1 iw.1
  have ct := c_toldV (decide (atomsS v.a w.a < 0))
  unfold lessS
  by_cases hu : unkS v w = true
  · rw [hu] at cu
    rw [if_pos (.inl hu)]
    refine pure_of_awp Tryd.func17 rfl rfl (by simp [Tryd.f17]) ?_; simp only [go_sem, ↓reduceIte, Nat.reduceEqDiff, Nat.reduceAdd, Nat.reduceLeDiff, Nat.reduceBEq, Nat.reduceMul, reduceCtorEq, Int.reduceLE, Int.reduceLT, Int.reduceAdd, Int.reduceSub, Int.reduceNeg, Int.reduceToNat, Int.reduceBEq]
    repeat' (first | refine awp_seq ?_ | refine awp_block ?_ | refine awp_round ?_ | refine awp_text rfl ?_ | refine awp_any rfl mix (by kernel_rfl) ?_ | (refine RunTo.unguard rfl rfl (fun hg => ?_) (fun hg => ?_) <;> ((try simp only [Bool.not_true, Bool.not_false, Bool.not_eq_true', Bool.not_eq_false', Bool.not_eq_eq_eq_not] at hg); (first | (cases hg) | (simp only [hg]) | skip))) | ((first | refine RunTo.plain rfl ?_ | refine RunTo.skipped rfl ?_ | refine RunTo.call (cu) Tryd.func38 rfl rfl rfl rfl rfl rfl rfl rfl ?_); simp only [go_sem, ↓reduceIte, Nat.reduceEqDiff, Nat.reduceAdd, Nat.reduceLeDiff, Nat.reduceBEq, Nat.reduceMul, reduceCtorEq, Int.reduceLE, Int.reduceLT, Int.reduceAdd, Int.reduceSub, Int.reduceNeg, Int.reduceToNat, Int.reduceBEq, ValD.av]) | ((first | refine RunTo.nil ⟨by kernel_rfl, ?_⟩ | refine RunTo.nil ?_ | refine awp_skip ?_ | refine awp_exit ?_); simp only [go_sem, ↓reduceIte, Nat.reduceEqDiff, Nat.reduceAdd, Nat.reduceLeDiff, Nat.reduceBEq, Nat.reduceMul, reduceCtorEq, Int.reduceLE, Int.reduceLT, Int.reduceAdd, Int.reduceSub, Int.reduceNeg, Int.reduceToNat, Int.reduceBEq, ValD.av]) | (refine awp_cond' rfl (of_decide_eq_true rfl) (fun hc => ?_) (fun hc => ?_) <;> ((try simp only [Bool.not_true, Bool.not_false, Bool.not_eq_true', Bool.not_eq_false', Bool.not_eq_eq_eq_not] at hc); (first | (cases hc) | (simp only [hc]) | skip))))
    all_goals (first | refine awp_ret ?_ | skip); refine ⟨(by first | exact .inl rfl | exact .inr rfl | exact .inr trivial | trivial), ?_⟩; simp only [go_sem, ↓reduceIte, Nat.reduceEqDiff, Nat.reduceAdd, Nat.reduceLeDiff, Nat.reduceBEq, Nat.reduceMul, reduceCtorEq, Int.reduceLE, Int.reduceLT, Int.reduceAdd, Int.reduceSub, Int.reduceNeg, Int.reduceToNat, Int.reduceBEq, retV, resL, resV, sealV, sealC, sealAll, Tryd.f17]
  · have hu' : unkS v w = false := by simpa using hu
    rw [hu'] at cu
    by_cases h6 : v.a.k = 6
    · have hk : (v.a.k == 6) = true := by simpa using h6
      rw [if_pos (.inr (.inl h6))]
      refine pure_of_awp Tryd.func17 rfl rfl (by simp [Tryd.f17]) ?_; simp only [go_sem, ↓reduceIte, Nat.reduceEqDiff, Nat.reduceAdd, Nat.reduceLeDiff, Nat.reduceBEq, Nat.reduceMul, reduceCtorEq, Int.reduceLE, Int.reduceLT, Int.reduceAdd, Int.reduceSub, Int.reduceNeg, Int.reduceToNat, Int.reduceBEq]
      repeat' (first | refine awp_seq ?_ | refine awp_block ?_ | refine awp_round ?_ | refine awp_text rfl ?_ | refine awp_any rfl mix (by kernel_rfl) ?_ | (refine RunTo.unguard rfl rfl (fun hg => ?_) (fun hg => ?_) <;> ((try simp only [Bool.not_true, Bool.not_false, Bool.not_eq_true', Bool.not_eq_false', Bool.not_eq_eq_eq_not] at hg); (first | (cases hg) | (simp only [hg]) | skip))) | ((first | refine RunTo.plain rfl ?_ | refine RunTo.skipped rfl ?_ | refine RunTo.call (cu) Tryd.func38 rfl rfl rfl rfl rfl rfl rfl rfl ?_); simp only [go_sem, ↓reduceIte, Nat.reduceEqDiff, Nat.reduceAdd, Nat.reduceLeDiff, Nat.reduceBEq, Nat.reduceMul, reduceCtorEq, Int.reduceLE, Int.reduceLT, Int.reduceAdd, Int.reduceSub, Int.reduceNeg, Int.reduceToNat, Int.reduceBEq, ValD.av, hk]) | ((first | refine RunTo.nil ⟨by kernel_rfl, ?_⟩ | refine RunTo.nil ?_ | refine awp_skip ?_ | refine awp_exit ?_); simp only [go_sem, ↓reduceIte, Nat.reduceEqDiff, Nat.reduceAdd, Nat.reduceLeDiff, Nat.reduceBEq, Nat.reduceMul, reduceCtorEq, Int.reduceLE, Int.reduceLT, Int.reduceAdd, Int.reduceSub, Int.reduceNeg, Int.reduceToNat, Int.reduceBEq, ValD.av, hk]) | (refine awp_cond' rfl (of_decide_eq_true rfl) (fun hc => ?_) (fun hc => ?_) <;> ((try simp only [Bool.not_true, Bool.not_false, Bool.not_eq_true', Bool.not_eq_false', Bool.not_eq_eq_eq_not] at hc); (first | (cases hc) | (simp only [hc]) | skip))))
      all_goals (first | refine awp_ret ?_ | skip); refine ⟨(by first | exact .inl rfl | exact .inr rfl | exact .inr trivial | trivial), ?_⟩; simp only [go_sem, ↓reduceIte, Nat.reduceEqDiff, Nat.reduceAdd, Nat.reduceLeDiff, Nat.reduceBEq, Nat.reduceMul, reduceCtorEq, Int.reduceLE, Int.reduceLT, Int.reduceAdd, Int.reduceSub, Int.reduceNeg, Int.reduceToNat, Int.reduceBEq, retV, resL, resV, sealV, sealC, sealAll, Tryd.f17]
    · have hk : (v.a.k == 6) = false := by simpa using h6
      by_cases hr : rankA v.a = rankA w.a
      · rw [← hr] at r2
        rw [if_neg (by simp [hu', h6, hr])]
        by_cases hn : nanD v.a = true ∨ nanD w.a = true
        · rw [if_pos hn]
          generalize nanD v.a = p at *
          generalize nanD w.a = q at *
          refine pure_of_awp Tryd.func17 rfl rfl (by simp [Tryd.f17]) ?_; simp only [go_sem, ↓reduceIte, Nat.reduceEqDiff, Nat.reduceAdd, Nat.reduceLeDiff, Nat.reduceBEq, Nat.reduceMul, reduceCtorEq, Int.reduceLE, Int.reduceLT, Int.reduceAdd, Int.reduceSub, Int.reduceNeg, Int.reduceToNat, Int.reduceBEq]
          repeat' (first | refine awp_seq ?_ | refine awp_block ?_ | refine awp_round ?_ | refine awp_text rfl ?_ | refine awp_any rfl mix (by kernel_rfl) ?_ | (refine RunTo.unguard rfl rfl (fun hg => ?_) (fun hg => ?_) <;> ((try simp only [Bool.not_true, Bool.not_false, Bool.not_eq_true', Bool.not_eq_false', Bool.not_eq_eq_eq_not] at hg); (first | (cases hg) | (simp only [hg]) | skip))) | ((first | refine RunTo.plain rfl ?_ | refine RunTo.skipped rfl ?_ | refine RunTo.call (cu) Tryd.func38 rfl rfl rfl rfl rfl rfl rfl rfl ?_ | refine RunTo.call (r1) Tryd.func42 rfl rfl rfl rfl rfl rfl rfl rfl ?_ | refine RunTo.call (r2) Tryd.func42 rfl rfl rfl rfl rfl rfl rfl rfl ?_ | refine RunTo.call (a1) Tryd.func43 rfl rfl rfl rfl rfl rfl rfl rfl ?_ | refine RunTo.call (a2) Tryd.func43 rfl rfl rfl rfl rfl rfl rfl rfl ?_ | refine RunTo.call (n1) Tryd.func44 rfl rfl rfl rfl rfl rfl rfl rfl ?_); simp only [go_sem, ↓reduceIte, Nat.reduceEqDiff, Nat.reduceAdd, Nat.reduceLeDiff, Nat.reduceBEq, Nat.reduceMul, reduceCtorEq, Int.reduceLE, Int.reduceLT, Int.reduceAdd, Int.reduceSub, Int.reduceNeg, Int.reduceToNat, Int.reduceBEq, ValD.av, hk, bne, beq_self_eq_true, Bool.not_true, AtomD.av]) | ((first | refine RunTo.nil ⟨by kernel_rfl, ?_⟩ | refine RunTo.nil ?_ | refine awp_skip ?_ | refine awp_exit ?_); simp only [go_sem, ↓reduceIte, Nat.reduceEqDiff, Nat.reduceAdd, Nat.reduceLeDiff, Nat.reduceBEq, Nat.reduceMul, reduceCtorEq, Int.reduceLE, Int.reduceLT, Int.reduceAdd, Int.reduceSub, Int.reduceNeg, Int.reduceToNat, Int.reduceBEq, ValD.av, hk, bne, beq_self_eq_true, Bool.not_true, AtomD.av]) | (refine awp_cond' rfl (of_decide_eq_true rfl) (fun hc => ?_) (fun hc => ?_) <;> ((try simp only [Bool.not_true, Bool.not_false, Bool.not_eq_true', Bool.not_eq_false', Bool.not_eq_eq_eq_not] at hc); (first | (cases hc) | (simp only [hc]) | skip))))
          all_goals first
            | ((first | refine awp_ret ?_ | skip); refine ⟨(by first | exact .inl rfl | exact .inr rfl | exact .inr trivial | trivial), ?_⟩; simp only [go_sem, ↓reduceIte, Nat.reduceEqDiff, Nat.reduceAdd, Nat.reduceLeDiff, Nat.reduceBEq, Nat.reduceMul, reduceCtorEq, Int.reduceLE, Int.reduceLT, Int.reduceAdd, Int.reduceSub, Int.reduceNeg, Int.reduceToNat, Int.reduceBEq, retV, resL, resV, sealV, sealC, sealAll, Tryd.f17]; done)
            | (exfalso; simp_all; done)
            | trace_state
        · have hn' : nanD v.a = false ∧ nanD w.a = false := by simpa using hn
          rw [if_neg hn]
          rw [hn'.1] at a1
          rw [hn'.2] at a2
          by_cases m1 : numA v.a = true
          · rw [m1] at n1
            rw [if_pos m1]
            have m2 : numA w.a = true := rank_num'.2 (by rw [← hr]; exact rank_num'.1 m1)
            have cx := c_exactN v.a w.a m1 m2 iv'.1 iw.1
            have ct := c_toldV (decide (cmp3 (nkeyA v.a) (nkeyA w.a) < 0))
            refine pure_of_awp Tryd.func17 rfl rfl (by simp [Tryd.f17]) ?_; simp only [go_sem, ↓reduceIte, Nat.reduceEqDiff, Nat.reduceAdd, Nat.reduceLeDiff, Nat.reduceBEq, Nat.reduceMul, reduceCtorEq, Int.reduceLE, Int.reduceLT, Int.reduceAdd, Int.reduceSub, Int.reduceNeg, Int.reduceToNat, Int.reduceBEq]
            repeat' (first | refine awp_seq ?_ | refine awp_block ?_ | refine awp_round ?_ | refine awp_text rfl ?_ | refine awp_any rfl mix (by kernel_rfl) ?_ | (refine RunTo.unguard rfl rfl (fun hg => ?_) (fun hg => ?_) <;> ((try simp only [Bool.not_true, Bool.not_false, Bool.not_eq_true', Bool.not_eq_false', Bool.not_eq_eq_eq_not] at hg); (first | (cases hg) | (simp only [hg]) | skip))) | ((first | refine RunTo.plain rfl ?_ | refine RunTo.skipped rfl ?_ | refine RunTo.call (cu) Tryd.func38 rfl rfl rfl rfl rfl rfl rfl rfl ?_ | refine RunTo.call (r1) Tryd.func42 rfl rfl rfl rfl rfl rfl rfl rfl ?_ | refine RunTo.call (r2) Tryd.func42 rfl rfl rfl rfl rfl rfl rfl rfl ?_ | refine RunTo.call (a1) Tryd.func43 rfl rfl rfl rfl rfl rfl rfl rfl ?_ | refine RunTo.call (a2) Tryd.func43 rfl rfl rfl rfl rfl rfl rfl rfl ?_ | refine RunTo.call (n1) Tryd.func44 rfl rfl rfl rfl rfl rfl rfl rfl ?_ | refine RunTo.call (cx) Tryd.func45 rfl rfl rfl rfl rfl rfl rfl rfl ?_ | refine RunTo.call (ct) Tryd.func39 rfl rfl rfl rfl rfl rfl rfl rfl ?_); simp only [go_sem, ↓reduceIte, Nat.reduceEqDiff, Nat.reduceAdd, Nat.reduceLeDiff, Nat.reduceBEq, Nat.reduceMul, reduceCtorEq, Int.reduceLE, Int.reduceLT, Int.reduceAdd, Int.reduceSub, Int.reduceNeg, Int.reduceToNat, Int.reduceBEq, ValD.av, hk, bne, beq_self_eq_true, Bool.not_true, AtomD.av]) | ((first | refine RunTo.nil ⟨by kernel_rfl, ?_⟩ | refine RunTo.nil ?_ | refine awp_skip ?_ | refine awp_exit ?_); simp only [go_sem, ↓reduceIte, Nat.reduceEqDiff, Nat.reduceAdd, Nat.reduceLeDiff, Nat.reduceBEq, Nat.reduceMul, reduceCtorEq, Int.reduceLE, Int.reduceLT, Int.reduceAdd, Int.reduceSub, Int.reduceNeg, Int.reduceToNat, Int.reduceBEq, ValD.av, hk, bne, beq_self_eq_true, Bool.not_true, AtomD.av]) | (refine awp_cond' rfl (of_decide_eq_true rfl) (fun hc => ?_) (fun hc => ?_) <;> ((try simp only [Bool.not_true, Bool.not_false, Bool.not_eq_true', Bool.not_eq_false', Bool.not_eq_eq_eq_not] at hc); (first | (cases hc) | (simp only [hc]) | skip))))
            all_goals (first | refine awp_ret ?_ | skip); refine ⟨(by first | exact .inl rfl | exact .inr rfl | exact .inr trivial | trivial), ?_⟩; simp only [go_sem, ↓reduceIte, Nat.reduceEqDiff, Nat.reduceAdd, Nat.reduceLeDiff, Nat.reduceBEq, Nat.reduceMul, reduceCtorEq, Int.reduceLE, Int.reduceLT, Int.reduceAdd, Int.reduceSub, Int.reduceNeg, Int.reduceToNat, Int.reduceBEq, retV, resL, resV, sealV, sealC, sealAll, Tryd.f17]
            all_goals simp
          · have m1' : numA v.a = false := by simpa using m1
            rw [m1'] at n1
            rw [if_neg m1]
            refine pure_of_awp Tryd.func17 rfl rfl (by simp [Tryd.f17]) ?_; simp only [go_sem, ↓reduceIte, Nat.reduceEqDiff, Nat.reduceAdd, Nat.reduceLeDiff, Nat.reduceBEq, Nat.reduceMul, reduceCtorEq, Int.reduceLE, Int.reduceLT, Int.reduceAdd, Int.reduceSub, Int.reduceNeg, Int.reduceToNat, Int.reduceBEq]
            repeat' (first | refine awp_seq ?_ | refine awp_block ?_ | refine awp_round ?_ | refine awp_text rfl ?_ | refine awp_any rfl mix (by kernel_rfl) ?_ | (refine RunTo.unguard rfl rfl (fun hg => ?_) (fun hg => ?_) <;> ((try simp only [Bool.not_true, Bool.not_false, Bool.not_eq_true', Bool.not_eq_false', Bool.not_eq_eq_eq_not] at hg); (first | (cases hg) | (simp only [hg]) | skip))) | ((first | refine RunTo.plain rfl ?_ | refine RunTo.skipped rfl ?_ | refine RunTo.call (cu) Tryd.func38 rfl rfl rfl rfl rfl rfl rfl rfl ?_ | refine RunTo.call (r1) Tryd.func42 rfl rfl rfl rfl rfl rfl rfl rfl ?_ | refine RunTo.call (r2) Tryd.func42 rfl rfl rfl rfl rfl rfl rfl rfl ?_ | refine RunTo.call (a1) Tryd.func43 rfl rfl rfl rfl rfl rfl rfl rfl ?_ | refine RunTo.call (a2) Tryd.func43 rfl rfl rfl rfl rfl rfl rfl rfl ?_ | refine RunTo.call (n1) Tryd.func44 rfl rfl rfl rfl rfl rfl rfl rfl ?_ | refine RunTo.call (ca) Tryd.func35 rfl rfl rfl rfl rfl rfl rfl rfl ?_ | refine RunTo.call (ct) Tryd.func39 rfl rfl rfl rfl rfl rfl rfl rfl ?_); simp only [go_sem, ↓reduceIte, Nat.reduceEqDiff, Nat.reduceAdd, Nat.reduceLeDiff, Nat.reduceBEq, Nat.reduceMul, reduceCtorEq, Int.reduceLE, Int.reduceLT, Int.reduceAdd, Int.reduceSub, Int.reduceNeg, Int.reduceToNat, Int.reduceBEq, ValD.av, hk, bne, beq_self_eq_true, Bool.not_true, AtomD.av]) | ((first | refine RunTo.nil ⟨by kernel_rfl, ?_⟩ | refine RunTo.nil ?_ | refine awp_skip ?_ | refine awp_exit ?_); simp only [go_sem, ↓reduceIte, Nat.reduceEqDiff, Nat.reduceAdd, Nat.reduceLeDiff, Nat.reduceBEq, Nat.reduceMul, reduceCtorEq, Int.reduceLE, Int.reduceLT, Int.reduceAdd, Int.reduceSub, Int.reduceNeg, Int.reduceToNat, Int.reduceBEq, ValD.av, hk, bne, beq_self_eq_true, Bool.not_true, AtomD.av]) | (refine awp_cond' rfl (of_decide_eq_true rfl) (fun hc => ?_) (fun hc => ?_) <;> ((try simp only [Bool.not_true, Bool.not_false, Bool.not_eq_true', Bool.not_eq_false', Bool.not_eq_eq_eq_not] at hc); (first | (cases hc) | (simp only [hc]) | skip))))
            all_goals (first | refine awp_ret ?_ | skip); refine ⟨(by first | exact .inl rfl | exact .inr rfl | exact .inr trivial | trivial), ?_⟩; simp only [go_sem, ↓reduceIte, Nat.reduceEqDiff, Nat.reduceAdd, Nat.reduceLeDiff, Nat.reduceBEq, Nat.reduceMul, reduceCtorEq, Int.reduceLE, Int.reduceLT, Int.reduceAdd, Int.reduceSub, Int.reduceNeg, Int.reduceToNat, Int.reduceBEq, retV, resL, resV, sealV, sealC, sealAll, Tryd.f17]
            all_goals simp
      · have hd : (rankA v.a == rankA w.a) = false := by simpa using hr
        rw [if_pos (.inr (.inr hr))]
        refine pure_of_awp Tryd.func17 rfl rfl (by simp [Tryd.f17]) ?_; simp only [go_sem, ↓reduceIte, Nat.reduceEqDiff, Nat.reduceAdd, Nat.reduceLeDiff, Nat.reduceBEq, Nat.reduceMul, reduceCtorEq, Int.reduceLE, Int.reduceLT, Int.reduceAdd, Int.reduceSub, Int.reduceNeg, Int.reduceToNat, Int.reduceBEq]
        repeat' (first | refine awp_seq ?_ | refine awp_block ?_ | refine awp_round ?_ | refine awp_text rfl ?_ | refine awp_any rfl mix (by kernel_rfl) ?_ | (refine RunTo.unguard rfl rfl (fun hg => ?_) (fun hg => ?_) <;> ((try simp only [Bool.not_true, Bool.not_false, Bool.not_eq_true', Bool.not_eq_false', Bool.not_eq_eq_eq_not] at hg); (first | (cases hg) | (simp only [hg]) | skip))) | ((first | refine RunTo.plain rfl ?_ | refine RunTo.skipped rfl ?_ | refine RunTo.call (cu) Tryd.func38 rfl rfl rfl rfl rfl rfl rfl rfl ?_ | refine RunTo.call (r1) Tryd.func42 rfl rfl rfl rfl rfl rfl rfl rfl ?_ | refine RunTo.call (r2) Tryd.func42 rfl rfl rfl rfl rfl rfl rfl rfl ?_); simp only [go_sem, ↓reduceIte, Nat.reduceEqDiff, Nat.reduceAdd, Nat.reduceLeDiff, Nat.reduceBEq, Nat.reduceMul, reduceCtorEq, Int.reduceLE, Int.reduceLT, Int.reduceAdd, Int.reduceSub, Int.reduceNeg, Int.reduceToNat, Int.reduceBEq, ValD.av, hk, bne, hd, Bool.not_false, AtomD.av]) | ((first | refine RunTo.nil ⟨by kernel_rfl, ?_⟩ | refine RunTo.nil ?_ | refine awp_skip ?_ | refine awp_exit ?_); simp only [go_sem, ↓reduceIte, Nat.reduceEqDiff, Nat.reduceAdd, Nat.reduceLeDiff, Nat.reduceBEq, Nat.reduceMul, reduceCtorEq, Int.reduceLE, Int.reduceLT, Int.reduceAdd, Int.reduceSub, Int.reduceNeg, Int.reduceToNat, Int.reduceBEq, ValD.av, hk, bne, hd, Bool.not_false, AtomD.av]) | (refine awp_cond' rfl (of_decide_eq_true rfl) (fun hc => ?_) (fun hc => ?_) <;> ((try simp only [Bool.not_true, Bool.not_false, Bool.not_eq_true', Bool.not_eq_false', Bool.not_eq_eq_eq_not] at hc); (first | (cases hc) | (simp only [hc]) | skip))))
        all_goals (first | refine awp_ret ?_ | skip); refine ⟨(by first | exact .inl rfl | exact .inr rfl | exact .inr trivial | trivial), ?_⟩; simp only [go_sem, ↓reduceIte, Nat.reduceEqDiff, Nat.reduceAdd, Nat.reduceLeDiff, Nat.reduceBEq, Nat.reduceMul, reduceCtorEq, Int.reduceLE, Int.reduceLT, Int.reduceAdd, Int.reduceSub, Int.reduceNeg, Int.reduceToNat, Int.reduceBEq, retV, resL, resV, sealV, sealC, sealAll, Tryd.f17]
def allS : List AtomD → List AtomD → Bool
  | x :: xs, y :: ys => alikeS x y && allS xs ys
  | _, _ => true
theorem all_step (a b : List AtomD) (k : Nat) (ha : k < a.length) (hb : k < b.length) : allS (a.drop k) (b.drop k) = (alikeS a[k] b[k] && allS (a.drop (k + 1)) (b.drop (k + 1))) := by
  rw [List.drop_eq_getElem_cons ha, List.drop_eq_getElem_cons hb]
  rfl
theorem all_nil (x y : List AtomD) (h : x = []) : allS x y = true := by
  subst h; cases y <;> rfl
def equalS (v w : ValD) : Int := if unkS v w = true then 2 else if v.a.k ≠ 6 ∨ w.a.k ≠ 6 then (if alikeS v.a w.a = true then 1 else 0) else if ((decide (v.l.length = w.l.length)) && allS v.l w.l) = true then 1 else 0
abbrev SE (a b : ValD) (k : Nat) (o : Bool) (T e f : Nat) : St := ⟨[(6, iv k), (5, bv o), (2, .ptr 2 e 0 0), (3, .ptr 3 f 0 0)], [(2, .box e (cellsV a)), (3, .box f (cellsV b))], T⟩
def IE (a b : ValD) (n : Nat) (st : St) : Prop := ∃ k o T e f, k ≤ a.l.length ∧ n = a.l.length - k ∧ (o = true → a.l.length = b.l.length) ∧ (decide (a.l.length = b.l.length) && allS a.l b.l) = (o && allS (a.l.drop k) (b.l.drop k)) ∧ st = SE a b k o T e f
theorem c_EqualS (v w : ValD) (iv' : i64V v) (iw : i64V w) (la : v.l.length ≤ 1000000) (lb : w.l.length ≤ 1000000) : Pure Tryd.prog 15 [v.av, w.av] (iv (equalS v w)) := by
  have cu := c_unkS v w
  have ca := c_alikeS v.a w.a iv'.1 iw.1
  have ct := c_toldV (alikeS v.a w.a)
  unfold equalS
  by_cases hu : unkS v w = true
  · rw [hu] at cu
    rw [if_pos hu]
    refine pure_of_awp Tryd.func15 rfl rfl (by simp [Tryd.f15]) ?_; simp only [go_sem, ↓reduceIte, Nat.reduceEqDiff, Nat.reduceAdd, Nat.reduceLeDiff, Nat.reduceBEq, Nat.reduceMul, reduceCtorEq, Int.reduceLE, Int.reduceLT, Int.reduceAdd, Int.reduceSub, Int.reduceNeg, Int.reduceToNat, Int.reduceBEq]
    repeat' (first | refine awp_seq ?_ | refine awp_block ?_ | refine awp_round ?_ | refine awp_text rfl ?_ | refine awp_any rfl mix (by kernel_rfl) ?_ | (refine RunTo.unguard rfl rfl (fun hg => ?_) (fun hg => ?_) <;> ((try simp only [Bool.not_true, Bool.not_false, Bool.not_eq_true', Bool.not_eq_false', Bool.not_eq_eq_eq_not] at hg); (first | (cases hg) | (simp only [hg]) | skip))) | ((first | refine RunTo.plain rfl ?_ | refine RunTo.skipped rfl ?_ | refine RunTo.call (cu) Tryd.func38 rfl rfl rfl rfl rfl rfl rfl rfl ?_); simp only [go_sem, ↓reduceIte, Nat.reduceEqDiff, Nat.reduceAdd, Nat.reduceLeDiff, Nat.reduceBEq, Nat.reduceMul, reduceCtorEq, Int.reduceLE, Int.reduceLT, Int.reduceAdd, Int.reduceSub, Int.reduceNeg, Int.reduceToNat, Int.reduceBEq, ValD.av]) | ((first | refine RunTo.nil ⟨by kernel_rfl, ?_⟩ | refine RunTo.nil ?_ | refine awp_skip ?_ | refine awp_exit ?_); simp only [go_sem, ↓reduceIte, Nat.reduceEqDiff, Nat.reduceAdd, Nat.reduceLeDiff, Nat.reduceBEq, Nat.reduceMul, reduceCtorEq, Int.reduceLE, Int.reduceLT, Int.reduceAdd, Int.reduceSub, Int.reduceNeg, Int.reduceToNat, Int.reduceBEq, ValD.av]) | (refine awp_cond' rfl (of_decide_eq_true rfl) (fun hc => ?_) (fun hc => ?_) <;> ((try simp only [Bool.not_true, Bool.not_false, Bool.not_eq_true', Bool.not_eq_false', Bool.not_eq_eq_eq_not] at hc); (first | (cases hc) | (simp only [hc]) | skip))))
    all_goals (first | refine awp_ret ?_ | skip); refine ⟨(by first | exact .inl rfl | exact .inr rfl | exact .inr trivial | trivial), ?_⟩; simp only [go_sem, ↓reduceIte, Nat.reduceEqDiff, Nat.reduceAdd, Nat.reduceLeDiff, Nat.reduceBEq, Nat.reduceMul, reduceCtorEq, Int.reduceLE, Int.reduceLT, Int.reduceAdd, Int.reduceSub, Int.reduceNeg, Int.reduceToNat, Int.reduceBEq, retV, resL, resV, sealV, sealC, sealAll, Tryd.f15]
  · have hu' : unkS v w = false := by simpa using hu
    rw [hu'] at cu
    rw [if_neg hu]
    by_cases h6 : v.a.k = 6 ∧ w.a.k = 6
    · have hk : (v.a.k == 6) = true := by simpa using h6.1
      have hk2 : (w.a.k == 6) = true := by simpa using h6.2
      rw [if_neg (by simp [h6])]
      refine pure_of_awp Tryd.func15 rfl rfl (by simp [Tryd.f15]) ?_; simp only [go_sem, ↓reduceIte, Nat.reduceEqDiff, Nat.reduceAdd, Nat.reduceLeDiff, Nat.reduceBEq, Nat.reduceMul, reduceCtorEq, Int.reduceLE, Int.reduceLT, Int.reduceAdd, Int.reduceSub, Int.reduceNeg, Int.reduceToNat, Int.reduceBEq]
      repeat' (first | refine awp_seq ?_ | refine awp_block ?_ | refine awp_round ?_ | refine awp_text rfl ?_ | refine awp_any rfl mix (by kernel_rfl) ?_ | (refine RunTo.unguard rfl rfl (fun hg => ?_) (fun hg => ?_) <;> ((try simp only [Bool.not_true, Bool.not_false, Bool.not_eq_true', Bool.not_eq_false', Bool.not_eq_eq_eq_not] at hg); (first | (cases hg) | (simp only [hg]) | skip))) | ((first | refine RunTo.plain rfl ?_ | refine RunTo.skipped rfl ?_ | refine RunTo.call (cu) Tryd.func38 rfl rfl rfl rfl rfl rfl rfl rfl ?_); simp only [go_sem, ↓reduceIte, Nat.reduceEqDiff, Nat.reduceAdd, Nat.reduceLeDiff, Nat.reduceBEq, Nat.reduceMul, reduceCtorEq, Int.reduceLE, Int.reduceLT, Int.reduceAdd, Int.reduceSub, Int.reduceNeg, Int.reduceToNat, Int.reduceBEq, ValD.av, hk, hk2, bne, AtomD.av, List.length_map]) | ((first | refine RunTo.nil ⟨by kernel_rfl, ?_⟩ | refine RunTo.nil ?_ | refine awp_skip ?_ | refine awp_exit ?_); simp only [go_sem, ↓reduceIte, Nat.reduceEqDiff, Nat.reduceAdd, Nat.reduceLeDiff, Nat.reduceBEq, Nat.reduceMul, reduceCtorEq, Int.reduceLE, Int.reduceLT, Int.reduceAdd, Int.reduceSub, Int.reduceNeg, Int.reduceToNat, Int.reduceBEq, ValD.av, hk, hk2, bne, AtomD.av, List.length_map]) | (refine awp_cond' rfl (of_decide_eq_true rfl) (fun hc => ?_) (fun hc => ?_) <;> ((try simp only [Bool.not_true, Bool.not_false, Bool.not_eq_true', Bool.not_eq_false', Bool.not_eq_eq_eq_not] at hc); (first | (cases hc) | (simp only [hc]) | skip))))
      have hbe : ((v.l.length : Int) == (w.l.length : Int)) = decide (v.l.length = w.l.length) := by
        by_cases h : v.l.length = w.l.length
        · simp [h]
        · rw [decide_eq_false h]; simp; omega
      simp only [hbe]
      refine awp_loopw (IE v w) v.l.length (SE v w 0 (decide (v.l.length = w.l.length)) _ _ _) (weak_keep ⟨rfl, rfl, rfl, rfl, trivial⟩ ⟨rfl, rfl, trivial⟩ (Nat.le_refl _)) ⟨0, _, _, _, _, Nat.zero_le _, rfl, of_decide_eq_true, rfl, rfl⟩ ?_
      rintro n st ⟨k, o, T, e, f, hk', rfl, ho, hx, rfl⟩
      cases o
      · rw [hx]
        have ct := c_toldV false
        repeat' (first | refine awp_seq ?_ | refine awp_block ?_ | refine awp_round ?_ | refine awp_text rfl ?_ | refine awp_any rfl mix (by kernel_rfl) ?_ | (refine RunTo.unguard rfl rfl (fun hg => ?_) (fun hg => ?_) <;> ((try simp only [Bool.not_true, Bool.not_false, Bool.not_eq_true', Bool.not_eq_false', Bool.not_eq_eq_eq_not] at hg); (first | (cases hg) | (simp only [hg]) | skip))) | ((first | refine RunTo.plain rfl ?_ | refine RunTo.skipped rfl ?_ | refine RunTo.call (ct) Tryd.func39 rfl rfl rfl rfl rfl rfl rfl rfl ?_); simp only [go_sem, ↓reduceIte, Nat.reduceEqDiff, Nat.reduceAdd, Nat.reduceLeDiff, Nat.reduceBEq, Nat.reduceMul, reduceCtorEq, Int.reduceLE, Int.reduceLT, Int.reduceAdd, Int.reduceSub, Int.reduceNeg, Int.reduceToNat, Int.reduceBEq, List.length_map, Bool.false_and]) | ((first | refine RunTo.nil ⟨by kernel_rfl, ?_⟩ | refine RunTo.nil ?_ | refine awp_skip ?_ | refine awp_exit ?_); simp only [go_sem, ↓reduceIte, Nat.reduceEqDiff, Nat.reduceAdd, Nat.reduceLeDiff, Nat.reduceBEq, Nat.reduceMul, reduceCtorEq, Int.reduceLE, Int.reduceLT, Int.reduceAdd, Int.reduceSub, Int.reduceNeg, Int.reduceToNat, Int.reduceBEq, List.length_map, Bool.false_and]) | (refine awp_cond' rfl (of_decide_eq_true rfl) (fun hc => ?_) (fun hc => ?_) <;> ((try simp only [Bool.not_true, Bool.not_false, Bool.not_eq_true', Bool.not_eq_false', Bool.not_eq_eq_eq_not] at hc); (first | (cases hc) | (simp only [hc]) | skip))))
        all_goals (first | refine awp_ret ?_ | skip); refine ⟨(by first | exact .inl rfl | exact .inr rfl | exact .inr trivial | trivial), ?_⟩; simp only [go_sem, ↓reduceIte, Nat.reduceEqDiff, Nat.reduceAdd, Nat.reduceLeDiff, Nat.reduceBEq, Nat.reduceMul, reduceCtorEq, Int.reduceLE, Int.reduceLT, Int.reduceAdd, Int.reduceSub, Int.reduceNeg, Int.reduceToNat, Int.reduceBEq, retV, resL, resV, sealV, sealC, sealAll, Tryd.f15]
      · have hll := ho rfl
        by_cases hlt : k < v.l.length
        · have hdec := lt_t hlt
          have hlb : k < w.l.length := by omega
          have hget := row_at AtomD.enc v.l k hlt
          have hgetb := row_at AtomD.enc w.l k hlb
          have hia := iv'.2 _ (List.getElem_mem hlt)
          have hib := iw.2 _ (List.getElem_mem hlb)
          rw [all_step _ _ _ hlt hlb] at hx
          have hwk : IntKind.i64.wrap ((k : Int) + 1) = ((k + 1 : Nat) : Int) := wrap_succ (by omega)
          generalize v.l[k] = x at *
          generalize w.l[k] = y at *
          have cx := c_alikeS x y hia hib
          repeat' (first | refine awp_seq ?_ | refine awp_block ?_ | refine awp_round ?_ | refine awp_text rfl ?_ | refine awp_any rfl mix (by kernel_rfl) ?_ | (refine RunTo.unguard rfl rfl (fun hg => ?_) (fun hg => ?_) <;> ((try simp only [Bool.not_true, Bool.not_false, Bool.not_eq_true', Bool.not_eq_false', Bool.not_eq_eq_eq_not] at hg); (first | (cases hg) | (simp only [hg]) | skip))) | ((first | refine RunTo.plain rfl ?_ | refine RunTo.skipped rfl ?_ | refine RunTo.call (cx) Tryd.func40 rfl rfl rfl rfl rfl rfl rfl rfl ?_); simp only [go_sem, ↓reduceIte, Nat.reduceEqDiff, Nat.reduceAdd, Nat.reduceLeDiff, Nat.reduceBEq, Nat.reduceMul, reduceCtorEq, Int.reduceLE, Int.reduceLT, Int.reduceAdd, Int.reduceSub, Int.reduceNeg, Int.reduceToNat, Int.reduceBEq, hdec, hget, hgetb, AtomD.enc, AtomD.av, hwk, List.length_map]) | ((first | refine RunTo.nil ⟨by kernel_rfl, ?_⟩ | refine RunTo.nil ?_ | refine awp_skip ?_ | refine awp_exit ?_); simp only [go_sem, ↓reduceIte, Nat.reduceEqDiff, Nat.reduceAdd, Nat.reduceLeDiff, Nat.reduceBEq, Nat.reduceMul, reduceCtorEq, Int.reduceLE, Int.reduceLT, Int.reduceAdd, Int.reduceSub, Int.reduceNeg, Int.reduceToNat, Int.reduceBEq, hdec, hget, hgetb, AtomD.enc, AtomD.av, hwk, List.length_map]) | (refine awp_cond' rfl (of_decide_eq_true rfl) (fun hc => ?_) (fun hc => ?_) <;> ((try simp only [Bool.not_true, Bool.not_false, Bool.not_eq_true', Bool.not_eq_false', Bool.not_eq_eq_eq_not] at hc); (first | (cases hc) | (simp only [hc]) | skip))))
          all_goals exact ⟨v.l.length - (k + 1), by omega, SE v w (k + 1) (alikeS x y) _ e f, weak_keep ⟨rfl, rfl, rfl, rfl, trivial⟩ ⟨rfl, rfl, trivial⟩ (Nat.le_refl _), k + 1, _, _, _, _, by omega, rfl, fun _ => hll, by rw [hx, Bool.true_and], rfl⟩
        · have hdec := lt_f hlt
          rw [hx, all_nil _ _ (List.drop_of_length_le (by omega))]
          have ct := c_toldV true
          repeat' (first | refine awp_seq ?_ | refine awp_block ?_ | refine awp_round ?_ | refine awp_text rfl ?_ | refine awp_any rfl mix (by kernel_rfl) ?_ | (refine RunTo.unguard rfl rfl (fun hg => ?_) (fun hg => ?_) <;> ((try simp only [Bool.not_true, Bool.not_false, Bool.not_eq_true', Bool.not_eq_false', Bool.not_eq_eq_eq_not] at hg); (first | (cases hg) | (simp only [hg]) | skip))) | ((first | refine RunTo.plain rfl ?_ | refine RunTo.skipped rfl ?_ | refine RunTo.call (ct) Tryd.func39 rfl rfl rfl rfl rfl rfl rfl rfl ?_); simp only [go_sem, ↓reduceIte, Nat.reduceEqDiff, Nat.reduceAdd, Nat.reduceLeDiff, Nat.reduceBEq, Nat.reduceMul, reduceCtorEq, Int.reduceLE, Int.reduceLT, Int.reduceAdd, Int.reduceSub, Int.reduceNeg, Int.reduceToNat, Int.reduceBEq, hdec, List.length_map]) | ((first | refine RunTo.nil ⟨by kernel_rfl, ?_⟩ | refine RunTo.nil ?_ | refine awp_skip ?_ | refine awp_exit ?_); simp only [go_sem, ↓reduceIte, Nat.reduceEqDiff, Nat.reduceAdd, Nat.reduceLeDiff, Nat.reduceBEq, Nat.reduceMul, reduceCtorEq, Int.reduceLE, Int.reduceLT, Int.reduceAdd, Int.reduceSub, Int.reduceNeg, Int.reduceToNat, Int.reduceBEq, hdec, List.length_map]) | (refine awp_cond' rfl (of_decide_eq_true rfl) (fun hc => ?_) (fun hc => ?_) <;> ((try simp only [Bool.not_true, Bool.not_false, Bool.not_eq_true', Bool.not_eq_false', Bool.not_eq_eq_eq_not] at hc); (first | (cases hc) | (simp only [hc]) | skip))))
          all_goals (first | refine awp_ret ?_ | skip); refine ⟨(by first | exact .inl rfl | exact .inr rfl | exact .inr trivial | trivial), ?_⟩; simp only [go_sem, ↓reduceIte, Nat.reduceEqDiff, Nat.reduceAdd, Nat.reduceLeDiff, Nat.reduceBEq, Nat.reduceMul, reduceCtorEq, Int.reduceLE, Int.reduceLT, Int.reduceAdd, Int.reduceSub, Int.reduceNeg, Int.reduceToNat, Int.reduceBEq, retV, resL, resV, sealV, sealC, sealAll, Tryd.f15]
    · rw [if_pos (by rcases Decidable.not_and_iff_or_not.1 h6 with h | h <;> simp [h])]
      refine pure_of_awp Tryd.func15 rfl rfl (by simp [Tryd.f15]) ?_; simp only [go_sem, ↓reduceIte, Nat.reduceEqDiff, Nat.reduceAdd, Nat.reduceLeDiff, Nat.reduceBEq, Nat.reduceMul, reduceCtorEq, Int.reduceLE, Int.reduceLT, Int.reduceAdd, Int.reduceSub, Int.reduceNeg, Int.reduceToNat, Int.reduceBEq]
      repeat' (first | refine awp_seq ?_ | refine awp_block ?_ | refine awp_round ?_ | refine awp_text rfl ?_ | refine awp_any rfl mix (by kernel_rfl) ?_ | (refine RunTo.unguard rfl rfl (fun hg => ?_) (fun hg => ?_) <;> ((try simp only [Bool.not_true, Bool.not_false, Bool.not_eq_true', Bool.not_eq_false', Bool.not_eq_eq_eq_not] at hg); (first | (cases hg) | (simp only [hg]) | skip))) | ((first | refine RunTo.plain rfl ?_ | refine RunTo.skipped rfl ?_ | refine RunTo.call (cu) Tryd.func38 rfl rfl rfl rfl rfl rfl rfl rfl ?_ | refine RunTo.call (ca) Tryd.func40 rfl rfl rfl rfl rfl rfl rfl rfl ?_ | refine RunTo.call (ct) Tryd.func39 rfl rfl rfl rfl rfl rfl rfl rfl ?_); simp only [go_sem, ↓reduceIte, Nat.reduceEqDiff, Nat.reduceAdd, Nat.reduceLeDiff, Nat.reduceBEq, Nat.reduceMul, reduceCtorEq, Int.reduceLE, Int.reduceLT, Int.reduceAdd, Int.reduceSub, Int.reduceNeg, Int.reduceToNat, Int.reduceBEq, ValD.av, bne, AtomD.av]) | ((first | refine RunTo.nil ⟨by kernel_rfl, ?_⟩ | refine RunTo.nil ?_ | refine awp_skip ?_ | refine awp_exit ?_); simp only [go_sem, ↓reduceIte, Nat.reduceEqDiff, Nat.reduceAdd, Nat.reduceLeDiff, Nat.reduceBEq, Nat.reduceMul, reduceCtorEq, Int.reduceLE, Int.reduceLT, Int.reduceAdd, Int.reduceSub, Int.reduceNeg, Int.reduceToNat, Int.reduceBEq, ValD.av, bne, AtomD.av]) | (refine awp_cond' rfl (of_decide_eq_true rfl) (fun hc => ?_) (fun hc => ?_) <;> ((try simp only [Bool.not_true, Bool.not_false, Bool.not_eq_true', Bool.not_eq_false', Bool.not_eq_eq_eq_not] at hc); (first | (cases hc) | (simp only [hc]) | skip))))
      all_goals first
        | ((first | refine awp_ret ?_ | skip); refine ⟨(by first | exact .inl rfl | exact .inr rfl | exact .inr trivial | trivial), ?_⟩; simp only [go_sem, ↓reduceIte, Nat.reduceEqDiff, Nat.reduceAdd, Nat.reduceLeDiff, Nat.reduceBEq, Nat.reduceMul, reduceCtorEq, Int.reduceLE, Int.reduceLT, Int.reduceAdd, Int.reduceSub, Int.reduceNeg, Int.reduceToNat, Int.reduceBEq, retV, resL, resV, sealV, sealC, sealAll, Tryd.f15]; done)
        | ((try simp only [decide_eq_true_eq, decide_eq_false_iff_not, beq_iff_eq, bne_iff_ne, ne_eq, beq_eq_false_iff_ne, bne_eq_false_iff_eq, Bool.and_eq_true, Bool.or_eq_true, Bool.or_eq_false_iff, Bool.and_eq_false_iff] at *); exfalso; exact h6 ⟨by assumption, by assumption⟩)
        | (exfalso; simp_all; done)
        | trace_state
end Go.Proofs.YtjihcldhjpdnmaaDoor.AM
namespace Go.Proofs.YtjihcldhjpdnmaaDoor.FL
open Go.RowKit Ieee
set_option linter.unusedVariables false
set_option linter.unusedSimpArgs false
theorem B52_lit : B52 = 4503599627370496 := rfl
theorem canon_parts (b : Nat) (hb : b < 18446744073709551616) :
    (nan b = true ∧ canonN b = 9221120237041090560) ∨ (nan b = false ∧ rung b = 0 ∧ canonN b = 0) ∨
    (nan b = false ∧ 0 < rung b ∧ rung b ≤ INF ∧ neg b = false ∧ canonN b = rung b) ∨ (nan b = false ∧ 0 < rung b ∧ rung b ≤ INF ∧ neg b = true ∧ canonN b = S63 + rung b) := by
  unfold canonN
  cases h : nan b
  · have h' : ¬ INF < rung b := by rw [← nan_iff, h]; decide
    simp only [Bool.false_eq_true, if_false, false_and, true_and, false_or]
    by_cases h2 : rung b = 0
    · rw [if_pos h2]; exact .inl ⟨h2, rfl⟩
    · rw [if_neg h2]
      right
      rcases word_cases b hb with ⟨_, h3, h4⟩ | ⟨_, h3, h4⟩
      · exact .inl ⟨by omega, by omega, h3, h4⟩
      · exact .inr ⟨by omega, by omega, h3, h4⟩
  · simp
def keyN (b : Nat) : Int := if nan b then 18446744073709551615 else if rung b = 0 then 9223372036854775808 else if neg b then 9223372036854775807 - rung b else 9223372036854775808 + rung b
theorem mval_le_iff (r s : Nat) : mval r < mval s ↔ r < s := by
  constructor
  · intro h
    rcases Nat.lt_or_ge r s with h1 | h1
    · exact h1
    · exfalso
      rcases Nat.lt_or_ge s r with h2 | h2
      · have := mval_lt h2; omega
      · rw [show r = s by omega] at h; omega
  · exact mval_lt
theorem key_lt (a b : Nat) : keyN a < keyN b ↔ fkey a < fkey b := by
  have hI := INF_lit
  have h1 := mval_le_iff (rung a) (rung b)
  have h2 := mval_le_iff (rung b) (rung a)
  have h3 := mval_le_iff (rung a) INF
  have h4 := mval_le_iff (rung b) INF
  have h5 := mval_le_iff INF (rung a)
  have h6 := mval_le_iff INF (rung b)
  have h7 := mval_le_iff 0 (rung a)
  have h8 := mval_le_iff 0 (rung b)
  rw [mval_zero] at h7 h8
  have na := nan_iff a
  have nb := nan_iff b
  unfold keyN fkey TOP sv sgn
  cases hna : nan a <;> cases hnb : nan b <;> rw [hna] at na <;> rw [hnb] at nb <;> simp only [Bool.false_eq_true, if_false, if_true, false_iff, true_iff] at na nb ⊢
  · cases neg a <;> cases neg b <;> simp only [Bool.false_eq_true, if_false, if_true] <;> (repeat' split) <;> omega
  · cases neg a <;> simp only [Bool.false_eq_true, if_false, if_true] <;> (repeat' split) <;> omega
  · cases neg b <;> simp only [Bool.false_eq_true, if_false, if_true] <;> (repeat' split) <;> omega
  · omega
def partsN (b : Nat) : Int × Bool × Bool := if 18446744073709551616 * ONE ≤ mval (rung b) then (0, false, true) else ((fl b : Int), decide (0 < mval (rung b) % ONE), false)
theorem fl_shift (m s : Nat) (x : Nat) (hx : x * 2 ^ s = m * ONE) : x / ONE = m / 2 ^ s ∧ (0 < x % ONE ↔ 0 < m % 2 ^ s) := by
  have ho := one_pos
  have hs := Nat.two_pow_pos s
  have e1 : x / ONE = m / 2 ^ s := by
    rw [← Nat.mul_div_mul_right x ONE hs, hx, Nat.mul_comm ONE, Nat.mul_div_mul_right m (2 ^ s) ho]
  refine ⟨e1, ?_⟩
  have h1 := Nat.div_add_mod x ONE
  have h2 := Nat.div_add_mod m (2 ^ s)
  have h3 : (x % ONE) * 2 ^ s = (m % 2 ^ s) * ONE := by
    have e2 : (ONE * (x / ONE) + x % ONE) * 2 ^ s = (2 ^ s * (m / 2 ^ s) + m % 2 ^ s) * ONE := by rw [h1, h2, hx]
    rw [Nat.add_mul, Nat.add_mul, e1] at e2
    have e3 : ONE * (m / 2 ^ s) * 2 ^ s = 2 ^ s * (m / 2 ^ s) * ONE := by
      rw [Nat.mul_comm ONE, Nat.mul_assoc, Nat.mul_comm ONE, ← Nat.mul_assoc, Nat.mul_comm (m / 2 ^ s)]
    omega
  constructor
  · intro h
    have := Nat.mul_pos h hs
    rw [h3] at this
    exact Nat.pos_iff_ne_zero.2 fun e => by rw [e, Nat.zero_mul] at this; omega
  · intro h
    have := Nat.mul_pos h ho
    rw [← h3] at this
    exact Nat.pos_iff_ne_zero.2 fun e => by rw [e, Nat.zero_mul] at this; omega
theorem ikey_inf (n : Int) (h1 : -9223372036854775808 ≤ n) (h2 : n ≤ 9223372036854775807) : -(mval INF : Int) < ikey n ∧ ikey n < mval INF := by
  have h : (9223372036854775808 * ONE : Nat) < mval INF := by
    rw [← mval_twoTo63]
    exact mval_lt (by decide)
  have ho := one_posI
  have h3 : (9223372036854775808 : Int) * ONE < mval INF := by
    have := Int.ofNat_lt.2 h
    rw [Int.natCast_mul] at this
    exact this
  have h4 : n * ONE ≤ 9223372036854775808 * (ONE : Int) := Int.mul_le_mul_of_nonneg_right (by omega) (by omega)
  have h5 : -9223372036854775808 * (ONE : Int) ≤ n * ONE := Int.mul_le_mul_of_nonneg_right (by omega) (by omega)
  unfold ikey
  omega
theorem cmp_neg_big (n : Int) (v : Nat) (h : 0 ≤ n ∧ 0 < v ∨ -n * ONE < v) : cmp3 (ikey n) (-(v : Int)) = 1 := by
  have ho := one_posI
  refine cmp3_gt ?_
  unfold ikey
  rcases h with ⟨h, h2⟩ | h
  · have : 0 ≤ n * ONE := Int.mul_nonneg h (by omega)
    omega
  · rw [Int.neg_mul] at h
    omega
theorem parts_big (m e : Nat) (h2 : 4503599627370496 ≤ m) (he : 1087 ≤ e) : 18446744073709551616 * ONE ≤ m * 2 ^ (e - 1) := by
  refine Nat.le_trans ?_ (Nat.mul_le_mul h2 (Nat.pow_le_pow_right (show 0 < 2 by omega) (show 1086 ≤ e - 1 by omega)))
  unfold ONE
  have key := pow_help 64 pl 52 1086 (by rw [pl_eq])
  have e1 : (18446744073709551616 : Nat) = 2 ^ 64 := rfl
  have e2 : (4503599627370496 : Nat) = 2 ^ 52 := rfl
  rw [e1, e2, key]
  exact Nat.le_refl _
theorem parts_small (m e : Nat) (hm : m < 9007199254740992) (he : e ≤ 1086) : ¬ 18446744073709551616 * ONE ≤ m * 2 ^ (e - 1) := by
  have h3 : m * 2 ^ (e - 1) < 9007199254740992 * 2 ^ (e - 1) := Nat.mul_lt_mul_of_pos_right hm (Nat.two_pow_pos _)
  obtain ⟨g, hg⟩ : ∃ g : Nat, g = 1085 := ⟨_, rfl⟩
  have h4 : 9007199254740992 * 2 ^ (e - 1) ≤ 9007199254740992 * 2 ^ g := Nat.mul_le_mul_left _ (Nat.pow_le_pow_right (show 0 < 2 by omega) (show e - 1 ≤ g by omega))
  have key := pow_help 64 pl 53 g (by rw [pl_eq]; omega)
  have e1 : (18446744073709551616 : Nat) = 2 ^ 64 := rfl
  have e2 : (9007199254740992 : Nat) = 2 ^ 53 := rfl
  unfold ONE
  rw [e1, key]
  rw [e2] at h3 h4
  omega
theorem parts_left (m s : Nat) : m * 2 ^ (1075 + s - 1) = m * 2 ^ s * ONE := by
  rw [Nat.mul_assoc]
  unfold ONE
  rw [← Nat.pow_add]
  congr 2
  rw [pl_eq]
  omega
theorem parts_right (m e s : Nat) (h1 : 1 ≤ e) (hs : s + e = 1075) : m * 2 ^ (e - 1) * 2 ^ s = m * ONE := by
  rw [Nat.mul_assoc]
  unfold ONE
  rw [← Nat.pow_add]
  congr 2
  rw [pl_eq]
  omega
end Go.Proofs.YtjihcldhjpdnmaaDoor.FL
namespace Go.Proofs.YtjihcldhjpdnmaaDoor.AM
open Go.RowKit FL
set_option linter.unusedSimpArgs false
set_option linter.unusedVariables false
set_option maxRecDepth 10000
set_option maxHeartbeats 0
abbrev ui (n : Int) : AV := .lit (.int .u64 n)
theorem u64w (n : Int) (h0 : 0 ≤ n) (h1 : n < 18446744073709551616) : IntKind.u64.wrap n = n := by
  rw [IntKind.wrap_u64]; omega
theorem c_rClass (u : Nat) (hu : u < 18446744073709551616) : Pure Tryd.prog 85 [uv u] (iv (classN u)) := by
  have hc := c_rCanon u hu
  have hp := canon_parts u hu
  rw [can_eq] at hc
  have hI := INF_lit
  have hS := S63_lit
  have he : ∀ x : Int, (x = if canonN u = 9221120237041090560 then 0 else if canonN u = 9218868437227405312 then 5 else if canonN u = 18442240474082181120 then 1 else if canonN u = 0 then 3 else if 9223372036854775808 ≤ canonN u then 2 else 4) → x = classN u := fun x hx => by
    rw [hx]
    unfold classN
    rcases hp with ⟨h1, h2⟩ | ⟨h1, h2, h3⟩ | ⟨h1, h2, h3, h4, h5⟩ | ⟨h1, h2, h3, h4, h5⟩
    · rw [h2, h1]; rfl
    · rw [h3, h1, h2]; rfl
    · rw [h5, h1, h4, if_neg (by omega)]
      simp only [Bool.false_eq_true, if_false]
      (repeat' split) <;> first | rfl | omega
    · rw [h5, h1, h4]
      simp only [Bool.false_eq_true, if_false, if_true]
      (repeat' split) <;> first | rfl | omega
  clear hp
  generalize canonN u = c at *
  refine pure_of_awp Tryd.func85 rfl rfl (by simp [Tryd.f85]) ?_; simp only [go_sem, ↓reduceIte, Nat.reduceEqDiff, Nat.reduceAdd, Nat.reduceLeDiff, Nat.reduceBEq, Nat.reduceMul, reduceCtorEq, Int.reduceLE, Int.reduceLT, Int.reduceAdd, Int.reduceSub, Int.reduceNeg, Int.reduceToNat, Int.reduceBEq]
  repeat' (first | refine awp_seq ?_ | refine awp_block ?_ | refine awp_round ?_ | refine awp_text rfl ?_ | refine awp_any rfl mix (by kernel_rfl) ?_ | (refine RunTo.unguard rfl rfl (fun hg => ?_) (fun hg => ?_) <;> ((try simp only [Bool.not_true, Bool.not_false, Bool.not_eq_true', Bool.not_eq_false', Bool.not_eq_eq_eq_not] at hg); (first | (cases hg) | (simp only [hg]) | skip))) | ((first | refine RunTo.plain rfl ?_ | refine RunTo.skipped rfl ?_ | refine RunTo.call (hc) Tryd.func78 rfl rfl rfl rfl rfl rfl rfl rfl ?_); simp only [go_sem, ↓reduceIte, Nat.reduceEqDiff, Nat.reduceAdd, Nat.reduceLeDiff, Nat.reduceBEq, Nat.reduceMul, reduceCtorEq, Int.reduceLE, Int.reduceLT, Int.reduceAdd, Int.reduceSub, Int.reduceNeg, Int.reduceToNat, Int.reduceBEq]) | ((first | refine RunTo.nil ⟨by kernel_rfl, ?_⟩ | refine RunTo.nil ?_ | refine awp_skip ?_ | refine awp_exit ?_); simp only [go_sem, ↓reduceIte, Nat.reduceEqDiff, Nat.reduceAdd, Nat.reduceLeDiff, Nat.reduceBEq, Nat.reduceMul, reduceCtorEq, Int.reduceLE, Int.reduceLT, Int.reduceAdd, Int.reduceSub, Int.reduceNeg, Int.reduceToNat, Int.reduceBEq]) | (refine awp_cond' rfl (of_decide_eq_true rfl) (fun hc => ?_) (fun hc => ?_) <;> ((try simp only [Bool.not_true, Bool.not_false, Bool.not_eq_true', Bool.not_eq_false', Bool.not_eq_eq_eq_not] at hc); (first | (cases hc) | (simp only [hc]) | skip))))
  all_goals
    (first | refine awp_ret ?_ | skip); refine ⟨(by first | exact .inl rfl | exact .inr rfl | exact .inr trivial | trivial), ?_⟩; simp only [go_sem, ↓reduceIte, Nat.reduceEqDiff, Nat.reduceAdd, Nat.reduceLeDiff, Nat.reduceBEq, Nat.reduceMul, reduceCtorEq, Int.reduceLE, Int.reduceLT, Int.reduceAdd, Int.reduceSub, Int.reduceNeg, Int.reduceToNat, Int.reduceBEq, retV, resL, resV, sealV, sealC, sealAll, Tryd.f85]
    (try simp only [decide_eq_true_eq, decide_eq_false_iff_not, beq_iff_eq, bne_iff_ne, ne_eq, beq_eq_false_iff_ne, bne_eq_false_iff_eq, Bool.and_eq_true, Bool.or_eq_true, Bool.or_eq_false_iff, Bool.and_eq_false_iff] at *)
    first
    | rw [← he 0 (by (repeat' split) <;> omega)]; done
    | rw [← he 1 (by (repeat' split) <;> omega)]; done
    | rw [← he 2 (by (repeat' split) <;> omega)]; done
    | rw [← he 3 (by (repeat' split) <;> omega)]; done
    | rw [← he 4 (by (repeat' split) <;> omega)]; done
    | rw [← he 5 (by (repeat' split) <;> omega)]; done
    | trace_state
theorem c_rKey (u : Nat) (hu : u < 18446744073709551616) : Pure Tryd.prog 130 [uv u] (ui (keyN u)) := by
  have hc := c_rCanon u hu
  have hp := canon_parts u hu
  rw [can_eq] at hc
  have hI := INF_lit
  have hS := S63_lit
  have hlt := canonN_lt u hu
  have he : ∀ x : Int, (x = if canonN u = 9221120237041090560 then 18446744073709551615 else if 9223372036854775808 ≤ canonN u then 18446744073709551615 - (canonN u : Int) else (canonN u : Int) + 9223372036854775808) → x = keyN u := fun x hx => by
    rw [hx]
    unfold keyN
    rcases hp with ⟨h1, h2⟩ | ⟨h1, h2, h3⟩ | ⟨h1, h2, h3, h4, h5⟩ | ⟨h1, h2, h3, h4, h5⟩
    · rw [h2, h1]; rfl
    · rw [h3, h1, h2]; rfl
    · rw [h5, h1, h4]
      simp only [Bool.false_eq_true, if_false]
      (repeat' split) <;> omega
    · rw [h5, h1, h4]
      simp only [Bool.false_eq_true, if_false, if_true]
      (repeat' split) <;> omega
  clear hp
  generalize canonN u = c at *
  refine pure_of_awp Tryd.func130 rfl rfl (by simp [Tryd.f130]) ?_; simp only [go_sem, ↓reduceIte, Nat.reduceEqDiff, Nat.reduceAdd, Nat.reduceLeDiff, Nat.reduceBEq, Nat.reduceMul, reduceCtorEq, Int.reduceLE, Int.reduceLT, Int.reduceAdd, Int.reduceSub, Int.reduceNeg, Int.reduceToNat, Int.reduceBEq]
  repeat' (first | refine awp_seq ?_ | refine awp_block ?_ | refine awp_round ?_ | refine awp_text rfl ?_ | refine awp_any rfl mix (by kernel_rfl) ?_ | (refine RunTo.unguard rfl rfl (fun hg => ?_) (fun hg => ?_) <;> ((try simp only [Bool.not_true, Bool.not_false, Bool.not_eq_true', Bool.not_eq_false', Bool.not_eq_eq_eq_not] at hg); (first | (cases hg) | (simp only [hg]) | skip))) | ((first | refine RunTo.plain rfl ?_ | refine RunTo.skipped rfl ?_ | refine RunTo.call (hc) Tryd.func78 rfl rfl rfl rfl rfl rfl rfl rfl ?_); simp only [go_sem, ↓reduceIte, Nat.reduceEqDiff, Nat.reduceAdd, Nat.reduceLeDiff, Nat.reduceBEq, Nat.reduceMul, reduceCtorEq, Int.reduceLE, Int.reduceLT, Int.reduceAdd, Int.reduceSub, Int.reduceNeg, Int.reduceToNat, Int.reduceBEq]) | ((first | refine RunTo.nil ⟨by kernel_rfl, ?_⟩ | refine RunTo.nil ?_ | refine awp_skip ?_ | refine awp_exit ?_); simp only [go_sem, ↓reduceIte, Nat.reduceEqDiff, Nat.reduceAdd, Nat.reduceLeDiff, Nat.reduceBEq, Nat.reduceMul, reduceCtorEq, Int.reduceLE, Int.reduceLT, Int.reduceAdd, Int.reduceSub, Int.reduceNeg, Int.reduceToNat, Int.reduceBEq]) | (refine awp_cond' rfl (of_decide_eq_true rfl) (fun hc => ?_) (fun hc => ?_) <;> ((try simp only [Bool.not_true, Bool.not_false, Bool.not_eq_true', Bool.not_eq_false', Bool.not_eq_eq_eq_not] at hc); (first | (cases hc) | (simp only [hc]) | skip))))
  all_goals
    (first | refine awp_ret ?_ | skip); refine ⟨(by first | exact .inl rfl | exact .inr rfl | exact .inr trivial | trivial), ?_⟩; simp only [go_sem, ↓reduceIte, Nat.reduceEqDiff, Nat.reduceAdd, Nat.reduceLeDiff, Nat.reduceBEq, Nat.reduceMul, reduceCtorEq, Int.reduceLE, Int.reduceLT, Int.reduceAdd, Int.reduceSub, Int.reduceNeg, Int.reduceToNat, Int.reduceBEq, retV, resL, resV, sealV, sealC, sealAll, Tryd.f130]
    (try simp only [decide_eq_true_eq, decide_eq_false_iff_not, beq_iff_eq, bne_iff_ne, ne_eq, beq_eq_false_iff_ne, bne_eq_false_iff_eq, Bool.and_eq_true, Bool.or_eq_true, Bool.or_eq_false_iff, Bool.and_eq_false_iff] at *)
    try rw [u64w _ (by omega) (by omega)]
    first
    | rw [← he 18446744073709551615 (by (repeat' split) <;> omega)]; done
    | rw [← he (18446744073709551615 - (c : Int)) (by (repeat' split) <;> omega)]; done
    | rw [← he ((c : Int) + 9223372036854775808) (by (repeat' split) <;> omega)]; done
    | trace_state
theorem c_rCompareF (a b : Nat) (ha : a < 18446744073709551616) (hb : b < 18446744073709551616) : Pure Tryd.prog 87 [uv a, uv b] (iv (compareN a b)) := by
  have ka := c_rKey a ha
  have kb := c_rKey b hb
  have h1 := key_lt a b
  have h2 := key_lt b a
  unfold compareN cmp3
  generalize keyN a = x at *
  generalize keyN b = y at *
  refine pure_of_awp Tryd.func87 rfl rfl (by simp [Tryd.f87]) ?_; simp only [go_sem, ↓reduceIte, Nat.reduceEqDiff, Nat.reduceAdd, Nat.reduceLeDiff, Nat.reduceBEq, Nat.reduceMul, reduceCtorEq, Int.reduceLE, Int.reduceLT, Int.reduceAdd, Int.reduceSub, Int.reduceNeg, Int.reduceToNat, Int.reduceBEq]
  repeat' (first | refine awp_seq ?_ | refine awp_block ?_ | refine awp_round ?_ | refine awp_text rfl ?_ | refine awp_any rfl mix (by kernel_rfl) ?_ | (refine RunTo.unguard rfl rfl (fun hg => ?_) (fun hg => ?_) <;> ((try simp only [Bool.not_true, Bool.not_false, Bool.not_eq_true', Bool.not_eq_false', Bool.not_eq_eq_eq_not] at hg); (first | (cases hg) | (simp only [hg]) | skip))) | ((first | refine RunTo.plain rfl ?_ | refine RunTo.skipped rfl ?_ | refine RunTo.call (ka) Tryd.func130 rfl rfl rfl rfl rfl rfl rfl rfl ?_ | refine RunTo.call (kb) Tryd.func130 rfl rfl rfl rfl rfl rfl rfl rfl ?_); simp only [go_sem, ↓reduceIte, Nat.reduceEqDiff, Nat.reduceAdd, Nat.reduceLeDiff, Nat.reduceBEq, Nat.reduceMul, reduceCtorEq, Int.reduceLE, Int.reduceLT, Int.reduceAdd, Int.reduceSub, Int.reduceNeg, Int.reduceToNat, Int.reduceBEq]) | ((first | refine RunTo.nil ⟨by kernel_rfl, ?_⟩ | refine RunTo.nil ?_ | refine awp_skip ?_ | refine awp_exit ?_); simp only [go_sem, ↓reduceIte, Nat.reduceEqDiff, Nat.reduceAdd, Nat.reduceLeDiff, Nat.reduceBEq, Nat.reduceMul, reduceCtorEq, Int.reduceLE, Int.reduceLT, Int.reduceAdd, Int.reduceSub, Int.reduceNeg, Int.reduceToNat, Int.reduceBEq]) | (refine awp_cond' rfl (of_decide_eq_true rfl) (fun hc => ?_) (fun hc => ?_) <;> ((try simp only [Bool.not_true, Bool.not_false, Bool.not_eq_true', Bool.not_eq_false', Bool.not_eq_eq_eq_not] at hc); (first | (cases hc) | (simp only [hc]) | skip))))
  all_goals
    (first | refine awp_ret ?_ | skip); refine ⟨(by first | exact .inl rfl | exact .inr rfl | exact .inr trivial | trivial), ?_⟩; simp only [go_sem, ↓reduceIte, Nat.reduceEqDiff, Nat.reduceAdd, Nat.reduceLeDiff, Nat.reduceBEq, Nat.reduceMul, reduceCtorEq, Int.reduceLE, Int.reduceLT, Int.reduceAdd, Int.reduceSub, Int.reduceNeg, Int.reduceToNat, Int.reduceBEq, retV, resL, resV, sealV, sealC, sealAll, Tryd.f87]
    (try simp only [decide_eq_true_eq, decide_eq_false_iff_not, beq_iff_eq, bne_iff_ne, ne_eq, beq_eq_false_iff_ne, bne_eq_false_iff_eq, Bool.and_eq_true, Bool.or_eq_true, Bool.or_eq_false_iff, Bool.and_eq_false_iff] at *)
    (repeat' split) <;> first | rfl | omega
end Go.Proofs.YtjihcldhjpdnmaaDoor.AM
namespace Go.Proofs.YtjihcldhjpdnmaaDoor.AM
open Go.RowKit FL
set_option linter.unusedSimpArgs false
set_option linter.unusedVariables false
set_option maxRecDepth 10000
set_option maxHeartbeats 0
theorem tmodN (a b : Nat) : Int.tmod (a : Int) (b : Int) = ((a % b : Nat) : Int) := by
  rw [Int.tmod_eq_emod_of_nonneg (by omega), Int.natCast_emod]
theorem tdivN (a b : Nat) : Int.tdiv (a : Int) (b : Int) = ((a / b : Nat) : Int) := by
  rw [Int.tdiv_eq_ediv_of_nonneg (by omega), Int.natCast_ediv]
theorem fdivN (m s : Nat) : (m : Int).fdiv (2 ^ s) = ((m / 2 ^ s : Nat) : Int) := by
  rw [Int.fdiv_eq_ediv_of_nonneg _ (Int.le_of_lt (Int.pow_pos (by decide)))]
  rw [Int.natCast_ediv, Int.natCast_pow]; rfl
theorem mulpN (m s : Nat) : (m : Int) * 2 ^ s = ((m * 2 ^ s : Nat) : Int) := by rw [Int.natCast_mul, Int.natCast_pow]; rfl
theorem c_rParts (u : Nat) (hu : u < 18446744073709551616) (hr : rung u < INF) : Pure Tryd.prog 129 [uv u] (.tup [ui (partsN u).1, bv (partsN u).2.1, bv (partsN u).2.2]) := by
  have hI := INF_lit
  have hS := S63_lit
  have hB := B52_lit
  have ho := one_pos
  have em : Int.tmod (u : Int) 4503599627370496 = ((rung u % B52 : Nat) : Int) := by
    rw [show (4503599627370496 : Int) = ((4503599627370496 : Nat) : Int) from rfl, tmodN]
    unfold rung
    rw [Nat.mod_mod_of_dvd u (show B52 ∣ S63 by decide)]
    rfl
  have er : Int.tmod (u : Int) 9223372036854775808 = ((rung u : Nat) : Int) := by
    rw [show (9223372036854775808 : Int) = ((9223372036854775808 : Nat) : Int) from rfl, tmodN]
    rfl
  have ed : Int.tdiv ((rung u : Nat) : Int) 4503599627370496 = ((rung u / B52 : Nat) : Int) := by
    rw [show (4503599627370496 : Int) = ((4503599627370496 : Nat) : Int) from rfl, tdivN]
    rfl
  have hm := Nat.mod_lt (rung u) (show 0 < B52 by decide)
  have heq : rung u / B52 ≤ 2046 := by
    have := Nat.div_lt_of_lt_mul (show rung u < B52 * 2047 by rw [hB]; omega)
    omega
  have hv : mval (rung u) = if rung u / B52 = 0 then rung u % B52 else (B52 + rung u % B52) * 2 ^ (rung u / B52 - 1) := by
    unfold mval
    by_cases h : rung u < B52
    · rw [if_pos h, if_pos (Nat.div_eq_of_lt h), Nat.mod_eq_of_lt h]
    · have h2 : rung u / B52 ≠ 0 := by
        have := (Nat.le_div_iff_mul_le (show 0 < B52 by decide)).2 (show 1 * B52 ≤ rung u by omega)
        omega
      rw [if_neg h, if_neg h2]
  unfold partsN fl
  generalize mval (rung u) = v at *
  generalize rung u / B52 = e at *
  generalize rung u % B52 = m at *
  generalize rung u = r at *
  have w1 : IntKind.u64.wrap ((e : Nat) : Int) = e := u64w _ (by omega) (by omega)
  have w2 : IntKind.i64.wrap ((e : Nat) : Int) = e := IntWalk.i64_in _ (by omega)
  by_cases he0 : e = 0
  · subst he0
    rw [if_pos rfl] at hv
    rw [hv]
    have hone : 2 ^ 52 ≤ ONE := Nat.pow_le_pow_right (by omega) (by rw [pl_eq]; omega)
    have hp : (2 : Nat) ^ 52 = 4503599627370496 := rfl
    have hlt : m < ONE := by omega
    rw [if_neg (by omega), Nat.div_eq_of_lt hlt, Nat.mod_eq_of_lt hlt]
    have w3 : IntKind.i64.wrap (-1074) = -1074 := by rfl
    have hd : decide ((0 : Int) < (m : Int)) = decide (0 < m) := by rw [decide_eq_decide]; omega
    refine pure_of_awp Tryd.func129 rfl rfl (by simp [Tryd.f129]) ?_; simp only [go_sem, ↓reduceIte, Nat.reduceEqDiff, Nat.reduceAdd, Nat.reduceLeDiff, Nat.reduceBEq, Nat.reduceMul, reduceCtorEq, Int.reduceLE, Int.reduceLT, Int.reduceAdd, Int.reduceSub, Int.reduceNeg, Int.reduceToNat, Int.reduceBEq]
    repeat' (first | refine awp_seq ?_ | refine awp_block ?_ | refine awp_round ?_ | refine awp_text rfl ?_ | refine awp_any rfl mix (by kernel_rfl) ?_ | (refine RunTo.unguard rfl rfl (fun hg => ?_) (fun hg => ?_) <;> ((try simp only [Bool.not_true, Bool.not_false, Bool.not_eq_true', Bool.not_eq_false', Bool.not_eq_eq_eq_not] at hg); (first | (cases hg) | (simp only [hg]) | skip))) | ((first | refine RunTo.plain rfl ?_ | refine RunTo.skipped rfl ?_); simp only [go_sem, ↓reduceIte, Nat.reduceEqDiff, Nat.reduceAdd, Nat.reduceLeDiff, Nat.reduceBEq, Nat.reduceMul, reduceCtorEq, Int.reduceLE, Int.reduceLT, Int.reduceAdd, Int.reduceSub, Int.reduceNeg, Int.reduceToNat, Int.reduceBEq, em, er, ed, w1, w2, w3, hd]) | ((first | refine RunTo.nil ⟨by kernel_rfl, ?_⟩ | refine RunTo.nil ?_ | refine awp_skip ?_ | refine awp_exit ?_); simp only [go_sem, ↓reduceIte, Nat.reduceEqDiff, Nat.reduceAdd, Nat.reduceLeDiff, Nat.reduceBEq, Nat.reduceMul, reduceCtorEq, Int.reduceLE, Int.reduceLT, Int.reduceAdd, Int.reduceSub, Int.reduceNeg, Int.reduceToNat, Int.reduceBEq, em, er, ed, w1, w2, w3, hd]) | (refine awp_cond' rfl (of_decide_eq_true rfl) (fun hc => ?_) (fun hc => ?_) <;> ((try simp only [Bool.not_true, Bool.not_false, Bool.not_eq_true', Bool.not_eq_false', Bool.not_eq_eq_eq_not] at hc); (first | (cases hc) | (simp only [hc]) | skip))))
    all_goals (first | refine awp_ret ?_ | skip); refine ⟨(by first | exact .inl rfl | exact .inr rfl | exact .inr trivial | trivial), ?_⟩; simp only [go_sem, ↓reduceIte, Nat.reduceEqDiff, Nat.reduceAdd, Nat.reduceLeDiff, Nat.reduceBEq, Nat.reduceMul, reduceCtorEq, Int.reduceLE, Int.reduceLT, Int.reduceAdd, Int.reduceSub, Int.reduceNeg, Int.reduceToNat, Int.reduceBEq, retV, resL, resV, sealV, sealC, sealAll, Tryd.f129]
  · rw [if_neg he0] at hv
    have h1e : decide ((0 : Int) < (e : Int)) = true := decide_eq_true (by omega)
    have w3 : IntKind.i64.wrap ((e : Int) - 1075) = (e : Int) - 1075 := IntWalk.i64_in _ (by omega)
    have w4 : IntKind.u64.wrap ((m : Int) + 4503599627370496) = ((B52 + m : Nat) : Int) := by rw [u64w _ (by omega) (by omega)]; omega
    obtain ⟨M, hM⟩ : ∃ M, M = B52 + m := ⟨_, rfl⟩
    rw [← hM] at hv w4
    by_cases c1 : 1087 ≤ e
    · have hb := parts_big M e (by omega) c1
      rw [← hv] at hb
      rw [if_pos hb]
      have d1 : decide ((11 : Int) < (e : Int) - 1075) = true := decide_eq_true (by omega)
      refine pure_of_awp Tryd.func129 rfl rfl (by simp [Tryd.f129]) ?_; simp only [go_sem, ↓reduceIte, Nat.reduceEqDiff, Nat.reduceAdd, Nat.reduceLeDiff, Nat.reduceBEq, Nat.reduceMul, reduceCtorEq, Int.reduceLE, Int.reduceLT, Int.reduceAdd, Int.reduceSub, Int.reduceNeg, Int.reduceToNat, Int.reduceBEq]
      repeat' (first | refine awp_seq ?_ | refine awp_block ?_ | refine awp_round ?_ | refine awp_text rfl ?_ | refine awp_any rfl mix (by kernel_rfl) ?_ | (refine RunTo.unguard rfl rfl (fun hg => ?_) (fun hg => ?_) <;> ((try simp only [Bool.not_true, Bool.not_false, Bool.not_eq_true', Bool.not_eq_false', Bool.not_eq_eq_eq_not] at hg); (first | (cases hg) | (simp only [hg]) | skip))) | ((first | refine RunTo.plain rfl ?_ | refine RunTo.skipped rfl ?_); simp only [go_sem, ↓reduceIte, Nat.reduceEqDiff, Nat.reduceAdd, Nat.reduceLeDiff, Nat.reduceBEq, Nat.reduceMul, reduceCtorEq, Int.reduceLE, Int.reduceLT, Int.reduceAdd, Int.reduceSub, Int.reduceNeg, Int.reduceToNat, Int.reduceBEq, em, er, ed, w1, w2, w3, w4, h1e, d1]) | ((first | refine RunTo.nil ⟨by kernel_rfl, ?_⟩ | refine RunTo.nil ?_ | refine awp_skip ?_ | refine awp_exit ?_); simp only [go_sem, ↓reduceIte, Nat.reduceEqDiff, Nat.reduceAdd, Nat.reduceLeDiff, Nat.reduceBEq, Nat.reduceMul, reduceCtorEq, Int.reduceLE, Int.reduceLT, Int.reduceAdd, Int.reduceSub, Int.reduceNeg, Int.reduceToNat, Int.reduceBEq, em, er, ed, w1, w2, w3, w4, h1e, d1]) | (refine awp_cond' rfl (of_decide_eq_true rfl) (fun hc => ?_) (fun hc => ?_) <;> ((try simp only [Bool.not_true, Bool.not_false, Bool.not_eq_true', Bool.not_eq_false', Bool.not_eq_eq_eq_not] at hc); (first | (cases hc) | (simp only [hc]) | skip))))
      all_goals (first | refine awp_ret ?_ | skip); refine ⟨(by first | exact .inl rfl | exact .inr rfl | exact .inr trivial | trivial), ?_⟩; simp only [go_sem, ↓reduceIte, Nat.reduceEqDiff, Nat.reduceAdd, Nat.reduceLeDiff, Nat.reduceBEq, Nat.reduceMul, reduceCtorEq, Int.reduceLE, Int.reduceLT, Int.reduceAdd, Int.reduceSub, Int.reduceNeg, Int.reduceToNat, Int.reduceBEq, retV, resL, resV, sealV, sealC, sealAll, Tryd.f129]
    · have hb := parts_small M e (by omega) (by omega)
      rw [← hv] at hb
      rw [if_neg hb]
      have d1 : decide ((11 : Int) < (e : Int) - 1075) = false := decide_eq_false (by omega)
      by_cases c2 : 1075 ≤ e
      · obtain ⟨s, rfl⟩ : ∃ s, e = 1075 + s := ⟨e - 1075, by omega⟩
        have e3 : ((1075 + s : Nat) : Int) - 1075 = (s : Int) := by omega
        rw [e3] at d1
        have w3 : IntKind.i64.wrap (((1075 + s : Nat) : Int) - 1075) = (s : Int) := by rw [w3, e3]
        have hp : 2 ^ s ≤ 2 ^ 11 := Nat.pow_le_pow_right (by omega) (by omega)
        have hlt : M * 2 ^ s < 18446744073709551616 := by
          have : M * 2 ^ s ≤ M * 2 ^ 11 := Nat.mul_le_mul_left _ hp
          omega
        rw [parts_left] at hv
        rw [hv, Nat.mul_div_cancel _ ho, Nat.mul_mod_left]
        have d2 : decide ((0 : Int) ≤ (s : Int)) = true := decide_eq_true (by omega)
        have d3 : decide ((s : Int) < 0) = false := decide_eq_false (by omega)
        have d4 : ((s : Int) < 0) = False := eq_false (by omega)
        have w5 : IntKind.u64.wrap (s : Int) = s := u64w _ (by omega) (by omega)
        have w6 : min s 64 = s := by omega
        have w7 : IntKind.u64.wrap ((M * 2 ^ s : Nat) : Int) = ((M * 2 ^ s : Nat) : Int) := u64w _ (by omega) (by omega)
        have w8 : decide (0 < 0) = false := rfl
        refine pure_of_awp Tryd.func129 rfl rfl (by simp [Tryd.f129]) ?_; simp only [go_sem, ↓reduceIte, Nat.reduceEqDiff, Nat.reduceAdd, Nat.reduceLeDiff, Nat.reduceBEq, Nat.reduceMul, reduceCtorEq, Int.reduceLE, Int.reduceLT, Int.reduceAdd, Int.reduceSub, Int.reduceNeg, Int.reduceToNat, Int.reduceBEq]
        repeat' (first | refine awp_seq ?_ | refine awp_block ?_ | refine awp_round ?_ | refine awp_text rfl ?_ | refine awp_any rfl mix (by kernel_rfl) ?_ | (refine RunTo.unguard rfl rfl (fun hg => ?_) (fun hg => ?_) <;> ((try simp only [Bool.not_true, Bool.not_false, Bool.not_eq_true', Bool.not_eq_false', Bool.not_eq_eq_eq_not] at hg); (first | (cases hg) | (simp only [hg]) | skip))) | ((first | refine RunTo.plain rfl ?_ | refine RunTo.skipped rfl ?_); simp only [go_sem, ↓reduceIte, Nat.reduceEqDiff, Nat.reduceAdd, Nat.reduceLeDiff, Nat.reduceBEq, Nat.reduceMul, reduceCtorEq, Int.reduceLE, Int.reduceLT, Int.reduceAdd, Int.reduceSub, Int.reduceNeg, Int.reduceToNat, Int.reduceBEq, em, er, ed, w1, w2, w3, w4, h1e, d1, d2, d3, d4, w5, w6, w7, Int.toNat_natCast, mulpN]) | ((first | refine RunTo.nil ⟨by kernel_rfl, ?_⟩ | refine RunTo.nil ?_ | refine awp_skip ?_ | refine awp_exit ?_); simp only [go_sem, ↓reduceIte, Nat.reduceEqDiff, Nat.reduceAdd, Nat.reduceLeDiff, Nat.reduceBEq, Nat.reduceMul, reduceCtorEq, Int.reduceLE, Int.reduceLT, Int.reduceAdd, Int.reduceSub, Int.reduceNeg, Int.reduceToNat, Int.reduceBEq, em, er, ed, w1, w2, w3, w4, h1e, d1, d2, d3, d4, w5, w6, w7, Int.toNat_natCast, mulpN]) | (refine awp_cond' rfl (of_decide_eq_true rfl) (fun hc => ?_) (fun hc => ?_) <;> ((try simp only [Bool.not_true, Bool.not_false, Bool.not_eq_true', Bool.not_eq_false', Bool.not_eq_eq_eq_not] at hc); (first | (cases hc) | (simp only [hc]) | skip))))
        all_goals (first | refine awp_ret ?_ | skip); refine ⟨(by first | exact .inl rfl | exact .inr rfl | exact .inr trivial | trivial), ?_⟩; simp only [go_sem, ↓reduceIte, Nat.reduceEqDiff, Nat.reduceAdd, Nat.reduceLeDiff, Nat.reduceBEq, Nat.reduceMul, reduceCtorEq, Int.reduceLE, Int.reduceLT, Int.reduceAdd, Int.reduceSub, Int.reduceNeg, Int.reduceToNat, Int.reduceBEq, retV, resL, resV, sealV, sealC, sealAll, Tryd.f129]
        all_goals rw [w8]
      · obtain ⟨s, hs⟩ : ∃ s, s + e = 1075 := ⟨1075 - e, by omega⟩
        have e5 : v * 2 ^ s = M * ONE := by rw [hv]; exact parts_right M e s (by omega) hs
        obtain ⟨f1, f2⟩ := fl_shift M s v e5
        rw [f1]
        have d2 : decide ((0 : Int) ≤ (e : Int) - 1075) = false := decide_eq_false (by omega)
        by_cases c3 : 60 < s
        · have d3 : decide ((e : Int) - 1075 < -60) = true := decide_eq_true (by omega)
          have hp : 2 ^ 61 ≤ 2 ^ s := Nat.pow_le_pow_right (by omega) (by omega)
          have hlt : M < 2 ^ s := by omega
          rw [Nat.mod_eq_of_lt hlt] at f2
          rw [Nat.div_eq_of_lt hlt]
          have hd : decide ((0 : Int) < (M : Int)) = decide (0 < v % ONE) := by rw [decide_eq_decide]; omega
          refine pure_of_awp Tryd.func129 rfl rfl (by simp [Tryd.f129]) ?_; simp only [go_sem, ↓reduceIte, Nat.reduceEqDiff, Nat.reduceAdd, Nat.reduceLeDiff, Nat.reduceBEq, Nat.reduceMul, reduceCtorEq, Int.reduceLE, Int.reduceLT, Int.reduceAdd, Int.reduceSub, Int.reduceNeg, Int.reduceToNat, Int.reduceBEq]
          repeat' (first | refine awp_seq ?_ | refine awp_block ?_ | refine awp_round ?_ | refine awp_text rfl ?_ | refine awp_any rfl mix (by kernel_rfl) ?_ | (refine RunTo.unguard rfl rfl (fun hg => ?_) (fun hg => ?_) <;> ((try simp only [Bool.not_true, Bool.not_false, Bool.not_eq_true', Bool.not_eq_false', Bool.not_eq_eq_eq_not] at hg); (first | (cases hg) | (simp only [hg]) | skip))) | ((first | refine RunTo.plain rfl ?_ | refine RunTo.skipped rfl ?_); simp only [go_sem, ↓reduceIte, Nat.reduceEqDiff, Nat.reduceAdd, Nat.reduceLeDiff, Nat.reduceBEq, Nat.reduceMul, reduceCtorEq, Int.reduceLE, Int.reduceLT, Int.reduceAdd, Int.reduceSub, Int.reduceNeg, Int.reduceToNat, Int.reduceBEq, em, er, ed, w1, w2, w3, w4, h1e, d1, d2, d3, hd]) | ((first | refine RunTo.nil ⟨by kernel_rfl, ?_⟩ | refine RunTo.nil ?_ | refine awp_skip ?_ | refine awp_exit ?_); simp only [go_sem, ↓reduceIte, Nat.reduceEqDiff, Nat.reduceAdd, Nat.reduceLeDiff, Nat.reduceBEq, Nat.reduceMul, reduceCtorEq, Int.reduceLE, Int.reduceLT, Int.reduceAdd, Int.reduceSub, Int.reduceNeg, Int.reduceToNat, Int.reduceBEq, em, er, ed, w1, w2, w3, w4, h1e, d1, d2, d3, hd]) | (refine awp_cond' rfl (of_decide_eq_true rfl) (fun hc => ?_) (fun hc => ?_) <;> ((try simp only [Bool.not_true, Bool.not_false, Bool.not_eq_true', Bool.not_eq_false', Bool.not_eq_eq_eq_not] at hc); (first | (cases hc) | (simp only [hc]) | skip))))
          all_goals (first | refine awp_ret ?_ | skip); refine ⟨(by first | exact .inl rfl | exact .inr rfl | exact .inr trivial | trivial), ?_⟩; simp only [go_sem, ↓reduceIte, Nat.reduceEqDiff, Nat.reduceAdd, Nat.reduceLeDiff, Nat.reduceBEq, Nat.reduceMul, reduceCtorEq, Int.reduceLE, Int.reduceLT, Int.reduceAdd, Int.reduceSub, Int.reduceNeg, Int.reduceToNat, Int.reduceBEq, retV, resL, resV, sealV, sealC, sealAll, Tryd.f129]
        · have d3 : decide ((e : Int) - 1075 < -60) = false := decide_eq_false (by omega)
          have w5 : IntKind.i64.wrap (0 - ((e : Int) - 1075)) = (s : Int) := by rw [IntWalk.i64_in _ (by omega)]; omega
          have w6 : IntKind.u64.wrap (s : Int) = s := u64w _ (by omega) (by omega)
          have d4 : decide ((s : Int) < 0) = false := decide_eq_false (by omega)
          have d5 : ((s : Int) < 0) = False := eq_false (by omega)
          have w7 : min s 64 = s := by omega
          have hp60 : 2 ^ s ≤ 2 ^ 60 := Nat.pow_le_pow_right (by omega) (by omega)
          have hp := Nat.two_pow_pos s
          have w8 : (1 : Int) * 2 ^ s = ((2 ^ s : Nat) : Int) := by rw [Int.one_mul, Int.natCast_pow]; rfl
          have w9 : IntKind.u64.wrap ((2 ^ s : Nat) : Int) = ((2 ^ s : Nat) : Int) := u64w _ (by omega) (by omega)
          have d6 : (((2 ^ s : Nat) : Int) = 0) = False := eq_false (by omega)
          have d7 : decide (((2 ^ s : Nat) : Int) = 0) = false := decide_eq_false (by omega)
          have hd : decide ((0 : Int) < ((M % 2 ^ s : Nat) : Int)) = decide (0 < v % ONE) := by rw [decide_eq_decide]; omega
          refine pure_of_awp Tryd.func129 rfl rfl (by simp [Tryd.f129]) ?_; simp only [go_sem, ↓reduceIte, Nat.reduceEqDiff, Nat.reduceAdd, Nat.reduceLeDiff, Nat.reduceBEq, Nat.reduceMul, reduceCtorEq, Int.reduceLE, Int.reduceLT, Int.reduceAdd, Int.reduceSub, Int.reduceNeg, Int.reduceToNat, Int.reduceBEq]
          repeat' (first | refine awp_seq ?_ | refine awp_block ?_ | refine awp_round ?_ | refine awp_text rfl ?_ | refine awp_any rfl mix (by kernel_rfl) ?_ | (refine RunTo.unguard rfl rfl (fun hg => ?_) (fun hg => ?_) <;> ((try simp only [Bool.not_true, Bool.not_false, Bool.not_eq_true', Bool.not_eq_false', Bool.not_eq_eq_eq_not] at hg); (first | (cases hg) | (simp only [hg]) | skip))) | ((first | refine RunTo.plain rfl ?_ | refine RunTo.skipped rfl ?_); simp only [go_sem, ↓reduceIte, Nat.reduceEqDiff, Nat.reduceAdd, Nat.reduceLeDiff, Nat.reduceBEq, Nat.reduceMul, reduceCtorEq, Int.reduceLE, Int.reduceLT, Int.reduceAdd, Int.reduceSub, Int.reduceNeg, Int.reduceToNat, Int.reduceBEq, em, er, ed, w1, w2, w3, w4, h1e, d1, d2, d3, w5, w6, d4, d5, w7, w8, w9, d6, d7, tmodN, fdivN, Int.toNat_natCast, hd]) | ((first | refine RunTo.nil ⟨by kernel_rfl, ?_⟩ | refine RunTo.nil ?_ | refine awp_skip ?_ | refine awp_exit ?_); simp only [go_sem, ↓reduceIte, Nat.reduceEqDiff, Nat.reduceAdd, Nat.reduceLeDiff, Nat.reduceBEq, Nat.reduceMul, reduceCtorEq, Int.reduceLE, Int.reduceLT, Int.reduceAdd, Int.reduceSub, Int.reduceNeg, Int.reduceToNat, Int.reduceBEq, em, er, ed, w1, w2, w3, w4, h1e, d1, d2, d3, w5, w6, d4, d5, w7, w8, w9, d6, d7, tmodN, fdivN, Int.toNat_natCast, hd]) | (refine awp_cond' rfl (of_decide_eq_true rfl) (fun hc => ?_) (fun hc => ?_) <;> ((try simp only [Bool.not_true, Bool.not_false, Bool.not_eq_true', Bool.not_eq_false', Bool.not_eq_eq_eq_not] at hc); (first | (cases hc) | (simp only [hc]) | skip))))
          all_goals (first | refine awp_ret ?_ | skip); refine ⟨(by first | exact .inl rfl | exact .inr rfl | exact .inr trivial | trivial), ?_⟩; simp only [go_sem, ↓reduceIte, Nat.reduceEqDiff, Nat.reduceAdd, Nat.reduceLeDiff, Nat.reduceBEq, Nat.reduceMul, reduceCtorEq, Int.reduceLE, Int.reduceLT, Int.reduceAdd, Int.reduceSub, Int.reduceNeg, Int.reduceToNat, Int.reduceBEq, retV, resL, resV, sealV, sealC, sealAll, Tryd.f129]
end Go.Proofs.YtjihcldhjpdnmaaDoor.AM
namespace Go.Proofs.YtjihcldhjpdnmaaDoor.AM
open Go.RowKit FL
set_option linter.unusedSimpArgs false
set_option linter.unusedVariables false
set_option maxRecDepth 10000
set_option maxHeartbeats 0
theorem ci_tell (n : Int) (u : Nat) (hn : i64B n) (hu : u < 18446744073709551616) (hna : nan u = false) (hr : rung u < INF) :
    ∃ (whole : Nat) (more beyond : Bool), partsN u = ((whole : Int), more, beyond) ∧ whole < 18446744073709551616 ∧ compareIntN n u = if 9223372036854775808 < u then (if beyond = true ∨ 0 ≤ n then 1 else if (whole : Int) < -n then -1 else if -n < (whole : Int) ∨ more = true then 1 else 0)
      else (if beyond = true ∨ n < 0 then -1 else if (whole : Int) < n then 1 else if n < (whole : Int) ∨ more = true then -1 else 0) := by
  have hI := INF_lit
  have hS := S63_lit
  have ho := one_posI
  obtain ⟨whole, more, beyond, hp, hwl, hw⟩ : ∃ (whole : Nat) (more beyond : Bool), partsN u = ((whole : Int), more, beyond) ∧ whole < 18446744073709551616 ∧
      ((beyond = true ∧ 18446744073709551616 * ONE ≤ mval (rung u)) ∨ (beyond = false ∧ ∃ q : Nat, (mval (rung u) : Int) = (whole : Int) * ONE + q ∧ (q : Int) < ONE ∧ (more = true ↔ 0 < q))) := by
    unfold partsN
    by_cases hbe : 18446744073709551616 * ONE ≤ mval (rung u)
    · rw [if_pos hbe]
      exact ⟨0, false, true, rfl, by omega, .inl ⟨rfl, hbe⟩⟩
    · rw [if_neg hbe]
      refine ⟨fl u, _, false, rfl, ?_, .inr ⟨rfl, mval (rung u) % ONE, ?_, ?_, by simp⟩⟩
      · exact Nat.div_lt_of_lt_mul (by rw [Nat.mul_comm]; omega)
      · unfold fl
        rw [← Int.natCast_mul, ← Int.natCast_add, Nat.mul_comm]
        exact congrArg Int.ofNat (Nat.div_add_mod (mval (rung u)) ONE).symm
      · exact Int.ofNat_lt.2 (Nat.mod_lt _ one_pos)
  refine ⟨whole, more, beyond, hp, hwl, ?_⟩
  have bigI : beyond = true → 18446744073709551616 * (ONE : Int) ≤ mval (rung u) := fun hbt => by
    rcases hw with ⟨_, h⟩ | ⟨h, _⟩
    · have := Int.ofNat_le.2 h
      rw [Int.natCast_mul] at this
      exact this
    · rw [hbt] at h; cases h
  have hnO1 : n * ONE ≤ 9223372036854775807 * (ONE : Int) := Int.mul_le_mul_of_nonneg_right hn.2 (by omega)
  have hnO2 : -9223372036854775808 * (ONE : Int) ≤ n * ONE := Int.mul_le_mul_of_nonneg_right hn.1 (by omega)
  unfold compareIntN fkey
  rw [hna]
  simp only [Bool.false_eq_true, if_false]
  by_cases g : 9223372036854775808 < u
  · rw [if_pos g]
    have hwc : neg u = true ∧ 0 < rung u := by rcases word_cases u hu with ⟨h1, h2, h3⟩ | ⟨h1, h2, h3⟩ <;> first | omega | exact ⟨h2, by omega⟩
    have hv : FL.sv u = -(mval (rung u) : Int) := by unfold FL.sv sgn; rw [hwc.1]; rfl
    have hvp := mval_pos hwc.2
    rw [hv]
    by_cases g1 : beyond = true ∨ 0 ≤ n
    · rw [if_pos g1]
      rcases g1 with g1 | g1
      · have := bigI g1
        exact cmp_neg_big n _ (.inr (by rw [Int.neg_mul]; omega))
      · exact cmp_neg_big n _ (.inl ⟨g1, by omega⟩)
    · rw [if_neg g1]
      rcases hw with ⟨h, _⟩ | ⟨_, q, hq1, hq2, hq3⟩
      · exact absurd (.inl h) g1
      have e2 : -(mval (rung u) : Int) = -(whole : Int) * ONE - q := by rw [hq1, Int.neg_mul]; omega
      rw [e2]
      by_cases g2 : (whole : Int) < -n
      · rw [if_pos g2]
        have := Int.mul_le_mul_of_nonneg_right (show n ≤ -(whole : Int) - 1 by omega) (Int.le_of_lt ho)
        rw [Int.sub_mul, Int.one_mul] at this
        exact cmp3_lt (by unfold ikey; omega)
      rw [if_neg g2]
      by_cases g3 : -n < (whole : Int)
      · rw [if_pos (.inl g3)]
        have := Int.mul_le_mul_of_nonneg_right (show -(whole : Int) + 1 ≤ n by omega) (Int.le_of_lt ho)
        rw [Int.add_mul, Int.one_mul] at this
        exact cmp3_gt (by unfold ikey; omega)
      have hnw : n = -(whole : Int) := by omega
      cases hmo : more
      · rw [if_neg (by rintro (h | h); exact g3 h; cases h)]
        have hq0 : q = 0 := by
          rcases Nat.eq_zero_or_pos q with h | h
          · exact h
          · have := hq3.2 h; rw [hmo] at this; cases this
        unfold ikey
        rw [hnw, hq0]
        unfold cmp3
        rw [if_neg (by omega), if_neg (by omega)]
      · rw [if_pos (.inr rfl)]
        have := hq3.1 hmo
        exact cmp3_gt (by unfold ikey; rw [hnw]; omega)
  · rw [if_neg g]
    have hv : FL.sv u = (mval (rung u) : Int) := by
      unfold FL.sv sgn
      rcases word_cases u hu with ⟨h1, h2, h3⟩ | ⟨h1, h2, h3⟩
      · rw [h2]; rfl
      · rw [show rung u = 0 by omega, mval_zero]; split <;> rfl
    rw [hv]
    by_cases g1 : beyond = true ∨ n < 0
    · rw [if_pos g1]
      rcases g1 with g1 | g1
      · have := bigI g1
        exact cmp3_lt (by unfold ikey; omega)
      · have := Int.mul_lt_mul_of_pos_right g1 ho
        exact cmp3_lt (by unfold ikey; omega)
    · rw [if_neg g1]
      rcases hw with ⟨h, _⟩ | ⟨_, q, hq1, hq2, hq3⟩
      · exact absurd (.inl h) g1
      rw [hq1]
      by_cases g2 : (whole : Int) < n
      · rw [if_pos g2]
        have := Int.mul_le_mul_of_nonneg_right (show (whole : Int) + 1 ≤ n by omega) (Int.le_of_lt ho)
        rw [Int.add_mul, Int.one_mul] at this
        exact cmp3_gt (by unfold ikey; omega)
      rw [if_neg g2]
      by_cases g3 : n < (whole : Int)
      · rw [if_pos (.inl g3)]
        have := Int.mul_lt_mul_of_pos_right g3 ho
        exact cmp3_lt (by unfold ikey; omega)
      have hnw : n = (whole : Int) := by omega
      cases hmo : more
      · rw [if_neg (by rintro (h | h); exact g3 h; cases h)]
        have hq0 : q = 0 := by
          rcases Nat.eq_zero_or_pos q with h | h
          · exact h
          · have := hq3.2 h; rw [hmo] at this; cases this
        unfold ikey
        rw [hnw, hq0]
        unfold cmp3
        rw [if_neg (by omega), if_neg (by omega)]
      · rw [if_pos (.inr rfl)]
        have := hq3.1 hmo
        exact cmp3_lt (by unfold ikey; rw [hnw]; omega)
theorem c_rCompareInt (n : Int) (u : Nat) (hn : i64B n) (hu : u < 18446744073709551616) : Pure Tryd.prog 86 [iv n, uv u] (iv (compareIntN n u)) := by
  have hc := c_rClass u hu
  have hI := INF_lit
  have hS := S63_lit
  have hk := ikey_bound n hn.1 hn.2
  have hmI := ikey_inf n hn.1 hn.2
  cases hna : nan u
  · by_cases hri : rung u = INF
    · have hcl : classN u = if neg u = true then 1 else 5 := by unfold classN; rw [hna, if_pos hri]; rfl
      have hv : compareIntN n u = if neg u = true then 1 else -1 := by
        unfold compareIntN fkey FL.sv sgn
        rw [hna, hri]
        cases neg u
        · simp only [Bool.false_eq_true, if_false]; exact cmp3_lt (by omega)
        · simp only [Bool.false_eq_true, if_false, if_true]; exact cmp3_gt (by omega)
      rw [hv]
      rw [hcl] at hc
      cases hne : neg u
      · rw [hne] at hc
        simp only [Bool.false_eq_true, if_false] at hc ⊢
        refine pure_of_awp Tryd.func86 rfl rfl (by simp [Tryd.f86]) ?_; simp only [go_sem, ↓reduceIte, Nat.reduceEqDiff, Nat.reduceAdd, Nat.reduceLeDiff, Nat.reduceBEq, Nat.reduceMul, reduceCtorEq, Int.reduceLE, Int.reduceLT, Int.reduceAdd, Int.reduceSub, Int.reduceNeg, Int.reduceToNat, Int.reduceBEq]
        repeat' (first | refine awp_seq ?_ | refine awp_block ?_ | refine awp_round ?_ | refine awp_text rfl ?_ | refine awp_any rfl mix (by kernel_rfl) ?_ | (refine RunTo.unguard rfl rfl (fun hg => ?_) (fun hg => ?_) <;> ((try simp only [Bool.not_true, Bool.not_false, Bool.not_eq_true', Bool.not_eq_false', Bool.not_eq_eq_eq_not] at hg); (first | (cases hg) | (simp only [hg]) | skip))) | ((first | refine RunTo.plain rfl ?_ | refine RunTo.skipped rfl ?_ | refine RunTo.call (hc) Tryd.func85 rfl rfl rfl rfl rfl rfl rfl rfl ?_); simp only [go_sem, ↓reduceIte, Nat.reduceEqDiff, Nat.reduceAdd, Nat.reduceLeDiff, Nat.reduceBEq, Nat.reduceMul, reduceCtorEq, Int.reduceLE, Int.reduceLT, Int.reduceAdd, Int.reduceSub, Int.reduceNeg, Int.reduceToNat, Int.reduceBEq]) | ((first | refine RunTo.nil ⟨by kernel_rfl, ?_⟩ | refine RunTo.nil ?_ | refine awp_skip ?_ | refine awp_exit ?_); simp only [go_sem, ↓reduceIte, Nat.reduceEqDiff, Nat.reduceAdd, Nat.reduceLeDiff, Nat.reduceBEq, Nat.reduceMul, reduceCtorEq, Int.reduceLE, Int.reduceLT, Int.reduceAdd, Int.reduceSub, Int.reduceNeg, Int.reduceToNat, Int.reduceBEq]) | (refine awp_cond' rfl (of_decide_eq_true rfl) (fun hc => ?_) (fun hc => ?_) <;> ((try simp only [Bool.not_true, Bool.not_false, Bool.not_eq_true', Bool.not_eq_false', Bool.not_eq_eq_eq_not] at hc); (first | (cases hc) | (simp only [hc]) | skip))))
        all_goals (first | refine awp_ret ?_ | skip); refine ⟨(by first | exact .inl rfl | exact .inr rfl | exact .inr trivial | trivial), ?_⟩; simp only [go_sem, ↓reduceIte, Nat.reduceEqDiff, Nat.reduceAdd, Nat.reduceLeDiff, Nat.reduceBEq, Nat.reduceMul, reduceCtorEq, Int.reduceLE, Int.reduceLT, Int.reduceAdd, Int.reduceSub, Int.reduceNeg, Int.reduceToNat, Int.reduceBEq, retV, resL, resV, sealV, sealC, sealAll, Tryd.f86]
      · rw [hne] at hc
        simp only [if_true] at hc ⊢
        refine pure_of_awp Tryd.func86 rfl rfl (by simp [Tryd.f86]) ?_; simp only [go_sem, ↓reduceIte, Nat.reduceEqDiff, Nat.reduceAdd, Nat.reduceLeDiff, Nat.reduceBEq, Nat.reduceMul, reduceCtorEq, Int.reduceLE, Int.reduceLT, Int.reduceAdd, Int.reduceSub, Int.reduceNeg, Int.reduceToNat, Int.reduceBEq]
        repeat' (first | refine awp_seq ?_ | refine awp_block ?_ | refine awp_round ?_ | refine awp_text rfl ?_ | refine awp_any rfl mix (by kernel_rfl) ?_ | (refine RunTo.unguard rfl rfl (fun hg => ?_) (fun hg => ?_) <;> ((try simp only [Bool.not_true, Bool.not_false, Bool.not_eq_true', Bool.not_eq_false', Bool.not_eq_eq_eq_not] at hg); (first | (cases hg) | (simp only [hg]) | skip))) | ((first | refine RunTo.plain rfl ?_ | refine RunTo.skipped rfl ?_ | refine RunTo.call (hc) Tryd.func85 rfl rfl rfl rfl rfl rfl rfl rfl ?_); simp only [go_sem, ↓reduceIte, Nat.reduceEqDiff, Nat.reduceAdd, Nat.reduceLeDiff, Nat.reduceBEq, Nat.reduceMul, reduceCtorEq, Int.reduceLE, Int.reduceLT, Int.reduceAdd, Int.reduceSub, Int.reduceNeg, Int.reduceToNat, Int.reduceBEq]) | ((first | refine RunTo.nil ⟨by kernel_rfl, ?_⟩ | refine RunTo.nil ?_ | refine awp_skip ?_ | refine awp_exit ?_); simp only [go_sem, ↓reduceIte, Nat.reduceEqDiff, Nat.reduceAdd, Nat.reduceLeDiff, Nat.reduceBEq, Nat.reduceMul, reduceCtorEq, Int.reduceLE, Int.reduceLT, Int.reduceAdd, Int.reduceSub, Int.reduceNeg, Int.reduceToNat, Int.reduceBEq]) | (refine awp_cond' rfl (of_decide_eq_true rfl) (fun hc => ?_) (fun hc => ?_) <;> ((try simp only [Bool.not_true, Bool.not_false, Bool.not_eq_true', Bool.not_eq_false', Bool.not_eq_eq_eq_not] at hc); (first | (cases hc) | (simp only [hc]) | skip))))
        all_goals (first | refine awp_ret ?_ | skip); refine ⟨(by first | exact .inl rfl | exact .inr rfl | exact .inr trivial | trivial), ?_⟩; simp only [go_sem, ↓reduceIte, Nat.reduceEqDiff, Nat.reduceAdd, Nat.reduceLeDiff, Nat.reduceBEq, Nat.reduceMul, reduceCtorEq, Int.reduceLE, Int.reduceLT, Int.reduceAdd, Int.reduceSub, Int.reduceNeg, Int.reduceToNat, Int.reduceBEq, retV, resL, resV, sealV, sealC, sealAll, Tryd.f86]
    · have hr : rung u < INF := by
        have : ¬ INF < rung u := by rw [← nan_iff, hna]; decide
        omega
      obtain ⟨whole, more, beyond, hp, hwl, he⟩ := ci_tell n u hn hu hna hr
      have cp := c_rParts u hu hr
      rw [hp] at cp
      obtain ⟨c, hcc, c0, c5, c1⟩ : ∃ c : Int, classN u = c ∧ (c == 0) = false ∧ (c == 5) = false ∧ (c == 1) = false := by
        refine ⟨_, rfl, ?_⟩
        unfold classN
        rw [hna, if_neg hri]
        simp only [Bool.false_eq_true, if_false]
        (repeat' split) <;> decide
      rw [hcc] at hc
      rw [he]
      by_cases g1 : 0 ≤ n
      · have w1 : IntKind.u64.wrap n = n := u64w _ g1 (by have := hn.2; omega)
        refine pure_of_awp Tryd.func86 rfl rfl (by simp [Tryd.f86]) ?_; simp only [go_sem, ↓reduceIte, Nat.reduceEqDiff, Nat.reduceAdd, Nat.reduceLeDiff, Nat.reduceBEq, Nat.reduceMul, reduceCtorEq, Int.reduceLE, Int.reduceLT, Int.reduceAdd, Int.reduceSub, Int.reduceNeg, Int.reduceToNat, Int.reduceBEq]
        repeat' (first | refine awp_seq ?_ | refine awp_block ?_ | refine awp_round ?_ | refine awp_text rfl ?_ | refine awp_any rfl mix (by kernel_rfl) ?_ | (refine RunTo.unguard rfl rfl (fun hg => ?_) (fun hg => ?_) <;> ((try simp only [Bool.not_true, Bool.not_false, Bool.not_eq_true', Bool.not_eq_false', Bool.not_eq_eq_eq_not] at hg); (first | (cases hg) | (simp only [hg]) | skip))) | ((first | refine RunTo.plain rfl ?_ | refine RunTo.skipped rfl ?_ | refine RunTo.call (hc) Tryd.func85 rfl rfl rfl rfl rfl rfl rfl rfl ?_ | refine RunTo.call (cp) Tryd.func129 rfl rfl rfl rfl rfl rfl rfl rfl ?_); simp only [go_sem, ↓reduceIte, Nat.reduceEqDiff, Nat.reduceAdd, Nat.reduceLeDiff, Nat.reduceBEq, Nat.reduceMul, reduceCtorEq, Int.reduceLE, Int.reduceLT, Int.reduceAdd, Int.reduceSub, Int.reduceNeg, Int.reduceToNat, Int.reduceBEq, c0, c5, c1, w1, bne]) | ((first | refine RunTo.nil ⟨by kernel_rfl, ?_⟩ | refine RunTo.nil ?_ | refine awp_skip ?_ | refine awp_exit ?_); simp only [go_sem, ↓reduceIte, Nat.reduceEqDiff, Nat.reduceAdd, Nat.reduceLeDiff, Nat.reduceBEq, Nat.reduceMul, reduceCtorEq, Int.reduceLE, Int.reduceLT, Int.reduceAdd, Int.reduceSub, Int.reduceNeg, Int.reduceToNat, Int.reduceBEq, c0, c5, c1, w1, bne]) | (refine awp_cond' rfl (of_decide_eq_true rfl) (fun hc => ?_) (fun hc => ?_) <;> ((try simp only [Bool.not_true, Bool.not_false, Bool.not_eq_true', Bool.not_eq_false', Bool.not_eq_eq_eq_not] at hc); (first | (cases hc) | (simp only [hc]) | skip))))
        all_goals
          (first | refine awp_ret ?_ | skip); refine ⟨(by first | exact .inl rfl | exact .inr rfl | exact .inr trivial | trivial), ?_⟩; simp only [go_sem, ↓reduceIte, Nat.reduceEqDiff, Nat.reduceAdd, Nat.reduceLeDiff, Nat.reduceBEq, Nat.reduceMul, reduceCtorEq, Int.reduceLE, Int.reduceLT, Int.reduceAdd, Int.reduceSub, Int.reduceNeg, Int.reduceToNat, Int.reduceBEq, retV, resL, resV, sealV, sealC, sealAll, Tryd.f86]
          (try simp only [decide_eq_true_eq, decide_eq_false_iff_not, beq_iff_eq, bne_iff_ne, ne_eq, beq_eq_false_iff_ne, bne_eq_false_iff_eq, Bool.and_eq_true, Bool.or_eq_true, Bool.or_eq_false_iff, Bool.and_eq_false_iff] at *)
          first
          | (simp [*]; done)
          | (simp [*]; omega)
          | ((repeat' split) <;> first | rfl | omega | (simp_all; done) | (simp_all; omega))
          | trace_state
      · have w1 : IntKind.i64.wrap (n + 1) = n + 1 := IntWalk.i64_in _ (by have := hn.1; omega)
        have w2 : IntKind.i64.wrap (0 - (n + 1)) = -n - 1 := by rw [IntWalk.i64_in _ (by have := hn.1; omega)]; omega
        have w3 : IntKind.u64.wrap (-n - 1) = -n - 1 := u64w _ (by omega) (by have := hn.1; omega)
        have w4 : IntKind.u64.wrap (-n - 1 + 1) = -n := by rw [u64w _ (by omega) (by have := hn.1; omega)]; omega
        refine pure_of_awp Tryd.func86 rfl rfl (by simp [Tryd.f86]) ?_; simp only [go_sem, ↓reduceIte, Nat.reduceEqDiff, Nat.reduceAdd, Nat.reduceLeDiff, Nat.reduceBEq, Nat.reduceMul, reduceCtorEq, Int.reduceLE, Int.reduceLT, Int.reduceAdd, Int.reduceSub, Int.reduceNeg, Int.reduceToNat, Int.reduceBEq]
        repeat' (first | refine awp_seq ?_ | refine awp_block ?_ | refine awp_round ?_ | refine awp_text rfl ?_ | refine awp_any rfl mix (by kernel_rfl) ?_ | (refine RunTo.unguard rfl rfl (fun hg => ?_) (fun hg => ?_) <;> ((try simp only [Bool.not_true, Bool.not_false, Bool.not_eq_true', Bool.not_eq_false', Bool.not_eq_eq_eq_not] at hg); (first | (cases hg) | (simp only [hg]) | skip))) | ((first | refine RunTo.plain rfl ?_ | refine RunTo.skipped rfl ?_ | refine RunTo.call (hc) Tryd.func85 rfl rfl rfl rfl rfl rfl rfl rfl ?_ | refine RunTo.call (cp) Tryd.func129 rfl rfl rfl rfl rfl rfl rfl rfl ?_); simp only [go_sem, ↓reduceIte, Nat.reduceEqDiff, Nat.reduceAdd, Nat.reduceLeDiff, Nat.reduceBEq, Nat.reduceMul, reduceCtorEq, Int.reduceLE, Int.reduceLT, Int.reduceAdd, Int.reduceSub, Int.reduceNeg, Int.reduceToNat, Int.reduceBEq, c0, c5, c1, w1, w2, w3, w4, bne]) | ((first | refine RunTo.nil ⟨by kernel_rfl, ?_⟩ | refine RunTo.nil ?_ | refine awp_skip ?_ | refine awp_exit ?_); simp only [go_sem, ↓reduceIte, Nat.reduceEqDiff, Nat.reduceAdd, Nat.reduceLeDiff, Nat.reduceBEq, Nat.reduceMul, reduceCtorEq, Int.reduceLE, Int.reduceLT, Int.reduceAdd, Int.reduceSub, Int.reduceNeg, Int.reduceToNat, Int.reduceBEq, c0, c5, c1, w1, w2, w3, w4, bne]) | (refine awp_cond' rfl (of_decide_eq_true rfl) (fun hc => ?_) (fun hc => ?_) <;> ((try simp only [Bool.not_true, Bool.not_false, Bool.not_eq_true', Bool.not_eq_false', Bool.not_eq_eq_eq_not] at hc); (first | (cases hc) | (simp only [hc]) | skip))))
        all_goals
          (first | refine awp_ret ?_ | skip); refine ⟨(by first | exact .inl rfl | exact .inr rfl | exact .inr trivial | trivial), ?_⟩; simp only [go_sem, ↓reduceIte, Nat.reduceEqDiff, Nat.reduceAdd, Nat.reduceLeDiff, Nat.reduceBEq, Nat.reduceMul, reduceCtorEq, Int.reduceLE, Int.reduceLT, Int.reduceAdd, Int.reduceSub, Int.reduceNeg, Int.reduceToNat, Int.reduceBEq, retV, resL, resV, sealV, sealC, sealAll, Tryd.f86]
          (try simp only [decide_eq_true_eq, decide_eq_false_iff_not, beq_iff_eq, bne_iff_ne, ne_eq, beq_eq_false_iff_ne, bne_eq_false_iff_eq, Bool.and_eq_true, Bool.or_eq_true, Bool.or_eq_false_iff, Bool.and_eq_false_iff] at *)
          first
          | (simp [*]; done)
          | (simp [*]; omega)
          | ((repeat' split) <;> first | rfl | omega | (simp_all; done) | (simp_all; omega))
          | trace_state
  · have hcl : classN u = 0 := by unfold classN; rw [hna]; rfl
    rw [hcl] at hc
    have hv : compareIntN n u = -1 := by
      unfold compareIntN fkey
      rw [hna]
      exact cmp3_lt hk.2
    rw [hv]
    refine pure_of_awp Tryd.func86 rfl rfl (by simp [Tryd.f86]) ?_; simp only [go_sem, ↓reduceIte, Nat.reduceEqDiff, Nat.reduceAdd, Nat.reduceLeDiff, Nat.reduceBEq, Nat.reduceMul, reduceCtorEq, Int.reduceLE, Int.reduceLT, Int.reduceAdd, Int.reduceSub, Int.reduceNeg, Int.reduceToNat, Int.reduceBEq]
    repeat' (first | refine awp_seq ?_ | refine awp_block ?_ | refine awp_round ?_ | refine awp_text rfl ?_ | refine awp_any rfl mix (by kernel_rfl) ?_ | (refine RunTo.unguard rfl rfl (fun hg => ?_) (fun hg => ?_) <;> ((try simp only [Bool.not_true, Bool.not_false, Bool.not_eq_true', Bool.not_eq_false', Bool.not_eq_eq_eq_not] at hg); (first | (cases hg) | (simp only [hg]) | skip))) | ((first | refine RunTo.plain rfl ?_ | refine RunTo.skipped rfl ?_ | refine RunTo.call (hc) Tryd.func85 rfl rfl rfl rfl rfl rfl rfl rfl ?_); simp only [go_sem, ↓reduceIte, Nat.reduceEqDiff, Nat.reduceAdd, Nat.reduceLeDiff, Nat.reduceBEq, Nat.reduceMul, reduceCtorEq, Int.reduceLE, Int.reduceLT, Int.reduceAdd, Int.reduceSub, Int.reduceNeg, Int.reduceToNat, Int.reduceBEq]) | ((first | refine RunTo.nil ⟨by kernel_rfl, ?_⟩ | refine RunTo.nil ?_ | refine awp_skip ?_ | refine awp_exit ?_); simp only [go_sem, ↓reduceIte, Nat.reduceEqDiff, Nat.reduceAdd, Nat.reduceLeDiff, Nat.reduceBEq, Nat.reduceMul, reduceCtorEq, Int.reduceLE, Int.reduceLT, Int.reduceAdd, Int.reduceSub, Int.reduceNeg, Int.reduceToNat, Int.reduceBEq]) | (refine awp_cond' rfl (of_decide_eq_true rfl) (fun hc => ?_) (fun hc => ?_) <;> ((try simp only [Bool.not_true, Bool.not_false, Bool.not_eq_true', Bool.not_eq_false', Bool.not_eq_eq_eq_not] at hc); (first | (cases hc) | (simp only [hc]) | skip))))
    all_goals (first | refine awp_ret ?_ | skip); refine ⟨(by first | exact .inl rfl | exact .inr rfl | exact .inr trivial | trivial), ?_⟩; simp only [go_sem, ↓reduceIte, Nat.reduceEqDiff, Nat.reduceAdd, Nat.reduceLeDiff, Nat.reduceBEq, Nat.reduceMul, reduceCtorEq, Int.reduceLE, Int.reduceLT, Int.reduceAdd, Int.reduceSub, Int.reduceNeg, Int.reduceToNat, Int.reduceBEq, retV, resL, resV, sealV, sealC, sealAll, Tryd.f86]
end Go.Proofs.YtjihcldhjpdnmaaDoor.AM
namespace Go.Proofs.YtjihcldhjpdnmaaDoor.AM
open Go.RowKit FL
set_option linter.unusedSimpArgs false
set_option linter.unusedVariables false
set_option maxRecDepth 10000
set_option maxHeartbeats 0
def rankR (k : Int) : Int := if 3 ≤ k then k - 1 else k
theorem c_rRank (k : Int) (hk : i64B k) : Pure Tryd.prog 46 [iv k] (iv (rankR k)) := by
  have w1 : 3 ≤ k → IntKind.i64.wrap (k - 1) = k - 1 := fun h => IntWalk.i64_in _ (by have := hk.2; omega)
  by_cases h : 3 ≤ k
  · have w2 := w1 h
    rw [show rankR k = k - 1 from if_pos h]
    have hd : decide (3 ≤ k) = true := decide_eq_true h
    refine pure_of_awp Tryd.func46 rfl rfl (by simp [Tryd.f46]) ?_; simp only [go_sem, ↓reduceIte, Nat.reduceEqDiff, Nat.reduceAdd, Nat.reduceLeDiff, Nat.reduceBEq, Nat.reduceMul, reduceCtorEq, Int.reduceLE, Int.reduceLT, Int.reduceAdd, Int.reduceSub, Int.reduceNeg, Int.reduceToNat, Int.reduceBEq]
    repeat' (first | refine awp_seq ?_ | refine awp_block ?_ | refine awp_round ?_ | refine awp_text rfl ?_ | refine awp_any rfl mix (by kernel_rfl) ?_ | (refine RunTo.unguard rfl rfl (fun hg => ?_) (fun hg => ?_) <;> ((try simp only [Bool.not_true, Bool.not_false, Bool.not_eq_true', Bool.not_eq_false', Bool.not_eq_eq_eq_not] at hg); (first | (cases hg) | (simp only [hg]) | skip))) | ((first | refine RunTo.plain rfl ?_ | refine RunTo.skipped rfl ?_); simp only [go_sem, ↓reduceIte, Nat.reduceEqDiff, Nat.reduceAdd, Nat.reduceLeDiff, Nat.reduceBEq, Nat.reduceMul, reduceCtorEq, Int.reduceLE, Int.reduceLT, Int.reduceAdd, Int.reduceSub, Int.reduceNeg, Int.reduceToNat, Int.reduceBEq, w2, hd]) | ((first | refine RunTo.nil ⟨by kernel_rfl, ?_⟩ | refine RunTo.nil ?_ | refine awp_skip ?_ | refine awp_exit ?_); simp only [go_sem, ↓reduceIte, Nat.reduceEqDiff, Nat.reduceAdd, Nat.reduceLeDiff, Nat.reduceBEq, Nat.reduceMul, reduceCtorEq, Int.reduceLE, Int.reduceLT, Int.reduceAdd, Int.reduceSub, Int.reduceNeg, Int.reduceToNat, Int.reduceBEq, w2, hd]) | (refine awp_cond' rfl (of_decide_eq_true rfl) (fun hc => ?_) (fun hc => ?_) <;> ((try simp only [Bool.not_true, Bool.not_false, Bool.not_eq_true', Bool.not_eq_false', Bool.not_eq_eq_eq_not] at hc); (first | (cases hc) | (simp only [hc]) | skip))))
    all_goals (first | refine awp_ret ?_ | skip); refine ⟨(by first | exact .inl rfl | exact .inr rfl | exact .inr trivial | trivial), ?_⟩; simp only [go_sem, ↓reduceIte, Nat.reduceEqDiff, Nat.reduceAdd, Nat.reduceLeDiff, Nat.reduceBEq, Nat.reduceMul, reduceCtorEq, Int.reduceLE, Int.reduceLT, Int.reduceAdd, Int.reduceSub, Int.reduceNeg, Int.reduceToNat, Int.reduceBEq, retV, resL, resV, sealV, sealC, sealAll, Tryd.f46]
  · rw [show rankR k = k from if_neg h]
    have hd : decide (3 ≤ k) = false := decide_eq_false h
    refine pure_of_awp Tryd.func46 rfl rfl (by simp [Tryd.f46]) ?_; simp only [go_sem, ↓reduceIte, Nat.reduceEqDiff, Nat.reduceAdd, Nat.reduceLeDiff, Nat.reduceBEq, Nat.reduceMul, reduceCtorEq, Int.reduceLE, Int.reduceLT, Int.reduceAdd, Int.reduceSub, Int.reduceNeg, Int.reduceToNat, Int.reduceBEq]
    repeat' (first | refine awp_seq ?_ | refine awp_block ?_ | refine awp_round ?_ | refine awp_text rfl ?_ | refine awp_any rfl mix (by kernel_rfl) ?_ | (refine RunTo.unguard rfl rfl (fun hg => ?_) (fun hg => ?_) <;> ((try simp only [Bool.not_true, Bool.not_false, Bool.not_eq_true', Bool.not_eq_false', Bool.not_eq_eq_eq_not] at hg); (first | (cases hg) | (simp only [hg]) | skip))) | ((first | refine RunTo.plain rfl ?_ | refine RunTo.skipped rfl ?_); simp only [go_sem, ↓reduceIte, Nat.reduceEqDiff, Nat.reduceAdd, Nat.reduceLeDiff, Nat.reduceBEq, Nat.reduceMul, reduceCtorEq, Int.reduceLE, Int.reduceLT, Int.reduceAdd, Int.reduceSub, Int.reduceNeg, Int.reduceToNat, Int.reduceBEq, hd]) | ((first | refine RunTo.nil ⟨by kernel_rfl, ?_⟩ | refine RunTo.nil ?_ | refine awp_skip ?_ | refine awp_exit ?_); simp only [go_sem, ↓reduceIte, Nat.reduceEqDiff, Nat.reduceAdd, Nat.reduceLeDiff, Nat.reduceBEq, Nat.reduceMul, reduceCtorEq, Int.reduceLE, Int.reduceLT, Int.reduceAdd, Int.reduceSub, Int.reduceNeg, Int.reduceToNat, Int.reduceBEq, hd]) | (refine awp_cond' rfl (of_decide_eq_true rfl) (fun hc => ?_) (fun hc => ?_) <;> ((try simp only [Bool.not_true, Bool.not_false, Bool.not_eq_true', Bool.not_eq_false', Bool.not_eq_eq_eq_not] at hc); (first | (cases hc) | (simp only [hc]) | skip))))
    all_goals (first | refine awp_ret ?_ | skip); refine ⟨(by first | exact .inl rfl | exact .inr rfl | exact .inr trivial | trivial), ?_⟩; simp only [go_sem, ↓reduceIte, Nat.reduceEqDiff, Nat.reduceAdd, Nat.reduceLeDiff, Nat.reduceBEq, Nat.reduceMul, reduceCtorEq, Int.reduceLE, Int.reduceLT, Int.reduceAdd, Int.reduceSub, Int.reduceNeg, Int.reduceToNat, Int.reduceBEq, retV, resL, resV, sealV, sealC, sealAll, Tryd.f46]
theorem rank_lt (a b : AtomD) : rankR a.k < rankR b.k ↔ rankA a < rankA b := by unfold rankR rankA; (repeat' split) <;> omega
theorem rank_two (a : AtomD) : (rankR a.k == 2) = numA a := by
  unfold rankR numA
  rw [Bool.eq_iff_iff]
  simp only [beq_iff_eq, Bool.or_eq_true]
  split <;> omega
end Go.Proofs.YtjihcldhjpdnmaaDoor.AM
