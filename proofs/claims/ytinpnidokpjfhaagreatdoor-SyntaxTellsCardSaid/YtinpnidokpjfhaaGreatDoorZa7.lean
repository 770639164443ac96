/- Part 7 of the proof: words, contracts, plain laws. Laid by a program of this session (wip/tool/shake.py): what is needed of own and printed texts, in order. -/
import Derived.Test.YtinpnidokpjfhaaGreatDoorZa0
import Derived.Test.YtinpnidokpjfhaaGreatDoorZa1
import Derived.Test.YtinpnidokpjfhaaGreatDoorZa2
import Derived.Test.YtinpnidokpjfhaaGreatDoorZa3
import Derived.Test.YtinpnidokpjfhaaGreatDoorZa5
import Derived.Test.YtinpnidokpjfhaaGreatDoorZa6
import Derived.Calls
import Derived.Lib.ItoaNum
import Derived.Orders
import Derived.Tactics
import Derived.Below
import Derived.Laws.Rows
import Derived.Laws.World
import Derived.Laws.CopyRow
import Derived.Lib.FrozenHead
import Derived.Deep.AppendSrc
import Derived.Deep.Upon
import Derived.Laws.BytesArg
import Derived.IntWalk
import Derived.Laws.Externs
import Derived.LoopN
import Derived.Scope
import Derived.Test.YtinpnidokpjfhaaGreatDoorProg
import Derived.KernelRfl
import Derived.MapKept
import Derived.Lib.ItoaLen
import Derived.Lib.Join
import Derived.RegionTactic
import Derived.Lib.AppendIntMem
import Derived.Shelf.Strings.Builder1
import Derived.Shelf.Strings.Builder2
import Derived.Shelf.Strings.OnBuilder
import Derived.Shelf.Small.Wraps
import Derived.Shelf.Strings.BuilderF
import Derived.Shelf.Strings.BuilderK
import Derived.Shelf.Strings.Builder2Cap
import Derived.Shelf.Strconv.Itoa0
import Derived.Shelf.Strconv.Itoa1
import Derived.Shelf.LaysM
import Derived.Shelf.Strconv.Itoa2
import Derived.Shelf.Strconv.Itoa3
import Derived.Shelf.Strings.BuilderCap
import Derived.Shelf.Slices.Turned
import Derived.Laws.FloatBits
namespace Go.Proofs.YtinpnidokpjfhaaGreatDoor.AM
open Go.RowKit
set_option linter.unusedSimpArgs false
set_option linter.unusedVariables false
set_option maxRecDepth 10000
set_option maxHeartbeats 0
theorem c_spotT1 (s : SpotD) (h : OkS s) : Pure Tryz.prog 17 [s.av] (sv (spotT s)) := by
  have hv := h.var
  have hlb := h.label
  have hhb := headS_big s h
  have hln := h.len
  have z1 : (1 + s.label.size ≤ 9223372036854775807) = True := eq_true (by omega)
  have z2 : (s.var.size + (1 + s.label.size) ≤ 9223372036854775807) = True := eq_true (by omega)
  refine pure_of_awp Tryz.func17 rfl rfl (by simp [Tryz.f17]) ?_; simp only [go_sem, ↓reduceIte, Nat.reduceEqDiff, Nat.reduceAdd, Nat.reduceLeDiff, Nat.reduceBEq, Nat.reduceMul, reduceCtorEq, Int.reduceLE, Int.reduceLT, Int.reduceAdd, Int.reduceSub, Int.reduceNeg, Int.reduceToNat, Int.reduceBEq]
  refine hideQ3 (α := Nat) (fun _ => True) (fun T => ⟨[(3, sv (headS s)), (1, .ptr 1 0 0 0)], [(1, .box 0 [sv s.var, sv s.label, .dat (.lst 6 (s.props.map PropD.enc))])], T⟩) ?_ ?_
  · intro T _
    have hb : spotT s = (⟨#[40]⟩ : ByteArray) ++ bodyS s ++ ⟨#[41]⟩ := rfl
    repeat' (first | refine awp_seq ?_ | refine awp_block ?_ | refine awp_round ?_ | refine awp_scope ?_ | refine awp_text rfl ?_ | refine awp_any rfl mix (by kernel_rfl) ?_ | (refine RunTo.unguard rfl rfl (fun hg => ?_) (fun hg => ?_) <;> ((try simp only [Bool.not_true, Bool.not_false, Bool.not_eq_true', Bool.not_eq_false', Bool.not_eq_eq_eq_not] at hg); (first | (cases hg) | (simp only [hg]) | skip))) | ((first | refine RunTo.plain rfl ?_ | refine RunTo.skipped rfl ?_); simp only [go_sem, ↓reduceIte, Nat.reduceEqDiff, Nat.reduceAdd, Nat.reduceLeDiff, Nat.reduceBEq, Nat.reduceMul, reduceCtorEq, Int.reduceLE, Int.reduceLT, Int.reduceAdd, Int.reduceSub, Int.reduceNeg, Int.reduceToNat, Int.reduceBEq, List.length_map]) | ((first | refine RunTo.nilA (by kernel_rfl) ?_ | refine RunTo.nilT ?_ | refine awp_skip ?_ | refine awp_exit ?_ | refine awp_label ?_); simp only [go_sem, ↓reduceIte, Nat.reduceEqDiff, Nat.reduceAdd, Nat.reduceLeDiff, Nat.reduceBEq, Nat.reduceMul, reduceCtorEq, Int.reduceLE, Int.reduceLT, Int.reduceAdd, Int.reduceSub, Int.reduceNeg, Int.reduceToNat, Int.reduceBEq, List.length_map]) | (refine awp_cond' rfl (of_decide_eq_true rfl) (fun hc => ?_) (fun hc => ?_) <;> ((try simp only [Bool.not_true, Bool.not_false, Bool.not_eq_true', Bool.not_eq_false', Bool.not_eq_eq_eq_not] at hc); (first | (cases hc) | (simp only [hc]) | skip))))
    refine awp_weak (weak_nil (t := 4) (s := 33) (sz := 1) (of_decide_eq_true rfl) rfl) ?_
    simp only [go_sem, ↓reduceIte, Nat.reduceEqDiff, Nat.reduceAdd, Nat.reduceLeDiff, Nat.reduceBEq, Nat.reduceMul, reduceCtorEq, Int.reduceLE, Int.reduceLT, Int.reduceAdd, Int.reduceSub, Int.reduceNeg, Int.reduceToNat, Int.reduceBEq]
    refine awp_loopw (IQ4 s) s.props.length (SQ4 s 0 _ _ _ []) (weak_keep ⟨rfl, rfl, rfl, rfl, rfl, trivial⟩ ⟨rfl, trivial⟩ (Nat.le_refl _)) ⟨0, _, _, _, _, Nat.zero_le _, rfl, rfl, rfl, rfl⟩ ?_
    rintro n st ⟨k, T, e, m, rows, hk, rfl, hm, hrows, rfl⟩
    have hml : m = k := by rw [hm]; simp; omega
    have hrl : rows.length = m := by rw [hrows, List.length_map, hm]
    have htr : List.take m rows = rows := List.take_of_length_le (by omega)
    by_cases hlt : k < s.props.length
    · have hdec := lt_t hlt
      have hget := row_at PropD.enc s.props k hlt
      have ho := h.props _ (List.getElem_mem hlt)
      have htk : (s.props.take (k + 1)).map propT = (s.props.take k).map propT ++ [propT s.props[k]] := by rw [List.take_succ_eq_append_getElem hlt, List.map_append]; rfl
      have hwk : IntKind.i64.wrap ((k : Int) + 1) = ((k + 1 : Nat) : Int) := wrap_succ (by omega)
      generalize s.props[k] = p at *
      have hp := c_PrintV p.v ho.v
      have hpb := printV_big1 p.v ho.k ho.v
      have hnb := ho.n
      have c1 : ((m + 1) * 16 ≤ 140737488355328) = True := eq_true (by omega)
      have hle : (m ≤ rows.length) = True := eq_true (by omega)
      have y1 : (p.name.size + 2 ≤ 9223372036854775807) = True := eq_true (by omega)
      have y2 : (p.name.size + 2 + (printV p.v).size ≤ 9223372036854775807) = True := eq_true (by omega)
      rw [show PropD.enc p = [ds' p.name, di p.v.a.k, di p.v.a.n, df p.v.a.f, ds' p.v.a.s, .lst 4 (p.v.l.map AtomD.enc)] from rfl] at hget
      repeat' (first | refine awp_seq ?_ | refine awp_block ?_ | refine awp_round ?_ | refine awp_scope ?_ | refine awp_text rfl ?_ | refine awp_any rfl mix (by kernel_rfl) ?_ | (refine RunTo.unguard rfl rfl (fun hg => ?_) (fun hg => ?_) <;> ((try simp only [Bool.not_true, Bool.not_false, Bool.not_eq_true', Bool.not_eq_false', Bool.not_eq_eq_eq_not] at hg); (first | (cases hg) | (simp only [hg]) | skip))) | ((first | refine RunTo.plain rfl ?_ | refine RunTo.skipped rfl ?_ | refine RunTo.call (hp) Tryz.func45 rfl rfl rfl rfl rfl rfl rfl rfl ?_); simp only [go_sem, ↓reduceIte, Nat.reduceEqDiff, Nat.reduceAdd, Nat.reduceLeDiff, Nat.reduceBEq, Nat.reduceMul, reduceCtorEq, Int.reduceLE, Int.reduceLT, Int.reduceAdd, Int.reduceSub, Int.reduceNeg, Int.reduceToNat, Int.reduceBEq, hdec, hget, hwk, c1, htr, hrl, y1, y2, lenTy, implies_true, ByteArray.size_append, List.size_toArray]) | ((first | refine RunTo.nilA (by kernel_rfl) ?_ | refine RunTo.nilT ?_ | refine awp_skip ?_ | refine awp_exit ?_ | refine awp_label ?_); simp only [go_sem, ↓reduceIte, Nat.reduceEqDiff, Nat.reduceAdd, Nat.reduceLeDiff, Nat.reduceBEq, Nat.reduceMul, reduceCtorEq, Int.reduceLE, Int.reduceLT, Int.reduceAdd, Int.reduceSub, Int.reduceNeg, Int.reduceToNat, Int.reduceBEq, hdec, hget, hwk, c1, htr, hrl, y1, y2, lenTy, implies_true, ByteArray.size_append, List.size_toArray]) | (refine awp_cond' rfl (of_decide_eq_true rfl) (fun hc => ?_) (fun hc => ?_) <;> ((try simp only [Bool.not_true, Bool.not_false, Bool.not_eq_true', Bool.not_eq_false', Bool.not_eq_eq_eq_not] at hc); (first | (cases hc) | (simp only [hc]) | skip))))
      all_goals exact ⟨s.props.length - (k + 1), by omega, SQ4 s (k + 1) _ _ (m + 1) (rows ++ [[ds' (propT p)]]), weak_keep ⟨rfl, rfl, rfl, rfl, rfl, trivial⟩ ⟨rfl, trivial⟩ (Nat.le_refl _), k + 1, _, _, _, _, by omega, rfl, by rw [htk, List.length_append, ← hm]; rfl, by rw [htk, hrows]; simp, rfl⟩
    · have hdec := lt_f hlt
      have hall : s.props.take k = s.props := List.take_of_length_le (by omega)
      rw [hall] at hm hrows
      have hbig := joinB_le (s.props.map propT) sepB 20000000 (fun x hx => by obtain ⟨a, ha, rfl⟩ := List.mem_map.1 hx; exact propT_big a (h.props a ha))
      rw [List.length_map] at hbig
      have hs2 : sepB.size = 2 := rfl
      rw [hs2] at hbig
      have hj := c_Join (s.props.map propT) sepB (by simp; omega) (by omega)
      have hrows' : rows = sl (s.props.map propT) := hrows
      rw [← hrows'] at hj
      have y1 : (1 + (joinB (s.props.map propT) sepB).size ≤ 9223372036854775807) = True := eq_true (by omega)
      have y2 : (1 + (joinB (s.props.map propT) sepB).size + 1 ≤ 9223372036854775807) = True := eq_true (by omega)
      have y3 : ((headS s).size + 1 ≤ 9223372036854775807) = True := eq_true (by omega)
      have y4 : ((headS s).size + 1 + (1 + (joinB (s.props.map propT) sepB).size + 1) ≤ 9223372036854775807) = True := eq_true (by omega)
      have y5 : ((headS s).size + (1 + (joinB (s.props.map propT) sepB).size + 1) ≤ 9223372036854775807) = True := eq_true (by omega)
      have y6 : (1 + (headS s).size ≤ 9223372036854775807) = True := eq_true (by omega)
      have y7 : (1 + (headS s).size + 1 ≤ 9223372036854775807) = True := eq_true (by omega)
      have y8 : (1 + ((headS s).size + 1 + (1 + (joinB (s.props.map propT) sepB).size + 1)) ≤ 9223372036854775807) = True := eq_true (by omega)
      have y9 : (1 + ((headS s).size + 1 + (1 + (joinB (s.props.map propT) sepB).size + 1)) + 1 ≤ 9223372036854775807) = True := eq_true (by omega)
      have ya : (1 + ((headS s).size + (1 + (joinB (s.props.map propT) sepB).size + 1)) ≤ 9223372036854775807) = True := eq_true (by omega)
      have yb : (1 + ((headS s).size + (1 + (joinB (s.props.map propT) sepB).size + 1)) + 1 ≤ 9223372036854775807) = True := eq_true (by omega)
      unfold spotT bodyS
      by_cases h0 : s.props.length = 0
      · have d0 : decide ((0 : Int) < (m : Int)) = false := decide_eq_false (by omega)
        rw [if_pos h0]
        repeat' (first | refine awp_seq ?_ | refine awp_block ?_ | refine awp_round ?_ | refine awp_scope ?_ | refine awp_text rfl ?_ | refine awp_any rfl mix (by kernel_rfl) ?_ | (refine RunTo.unguard rfl rfl (fun hg => ?_) (fun hg => ?_) <;> ((try simp only [Bool.not_true, Bool.not_false, Bool.not_eq_true', Bool.not_eq_false', Bool.not_eq_eq_eq_not] at hg); (first | (cases hg) | (simp only [hg]) | skip))) | ((first | refine RunTo.plain rfl ?_ | refine RunTo.skipped rfl ?_); simp only [go_sem, ↓reduceIte, Nat.reduceEqDiff, Nat.reduceAdd, Nat.reduceLeDiff, Nat.reduceBEq, Nat.reduceMul, reduceCtorEq, Int.reduceLE, Int.reduceLT, Int.reduceAdd, Int.reduceSub, Int.reduceNeg, Int.reduceToNat, Int.reduceBEq, hdec, hrl, htr, d0, y6, y7, ByteArray.size_append, List.size_toArray]) | ((first | refine RunTo.nilA (by kernel_rfl) ?_ | refine RunTo.nilT ?_ | refine awp_skip ?_ | refine awp_exit ?_ | refine awp_label ?_); simp only [go_sem, ↓reduceIte, Nat.reduceEqDiff, Nat.reduceAdd, Nat.reduceLeDiff, Nat.reduceBEq, Nat.reduceMul, reduceCtorEq, Int.reduceLE, Int.reduceLT, Int.reduceAdd, Int.reduceSub, Int.reduceNeg, Int.reduceToNat, Int.reduceBEq, hdec, hrl, htr, d0, y6, y7, ByteArray.size_append, List.size_toArray]) | (refine awp_cond' rfl (of_decide_eq_true rfl) (fun hc => ?_) (fun hc => ?_) <;> ((try simp only [Bool.not_true, Bool.not_false, Bool.not_eq_true', Bool.not_eq_false', Bool.not_eq_eq_eq_not] at hc); (first | (cases hc) | (simp only [hc]) | skip))))
        all_goals (first | refine awp_ret ?_ | skip); refine ⟨(by first | exact .inl rfl | exact .inr rfl | exact .inr trivial | trivial), ?_⟩; simp only [go_sem, ↓reduceIte, Nat.reduceEqDiff, Nat.reduceAdd, Nat.reduceLeDiff, Nat.reduceBEq, Nat.reduceMul, reduceCtorEq, Int.reduceLE, Int.reduceLT, Int.reduceAdd, Int.reduceSub, Int.reduceNeg, Int.reduceToNat, Int.reduceBEq, retV, resL, resV, sealV, sealC, sealAll, Tryz.f17]
        all_goals rfl
      · have d0 : decide ((0 : Int) < (m : Int)) = true := decide_eq_true (by omega)
        rw [if_neg h0]
        cases he : emB (headS s) with
        | true =>
          have he' : ((headS s).toList == ({ data := #[] } : ByteArray).toList) = true := he
          rw [if_pos rfl]
          repeat' (first | refine awp_seq ?_ | refine awp_block ?_ | refine awp_round ?_ | refine awp_scope ?_ | refine awp_text rfl ?_ | refine awp_any rfl mix (by kernel_rfl) ?_ | (refine RunTo.unguard rfl rfl (fun hg => ?_) (fun hg => ?_) <;> ((try simp only [Bool.not_true, Bool.not_false, Bool.not_eq_true', Bool.not_eq_false', Bool.not_eq_eq_eq_not] at hg); (first | (cases hg) | (simp only [hg]) | skip))) | ((first | refine RunTo.plain rfl ?_ | refine RunTo.skipped rfl ?_); simp only [go_sem, ↓reduceIte, Nat.reduceEqDiff, Nat.reduceAdd, Nat.reduceLeDiff, Nat.reduceBEq, Nat.reduceMul, reduceCtorEq, Int.reduceLE, Int.reduceLT, Int.reduceAdd, Int.reduceSub, Int.reduceNeg, Int.reduceToNat, Int.reduceBEq, hdec, hrl, htr, d0, bne, he', y1, y2, y5, ya, yb, Nat.le_refl, Bool.not_true, Bool.not_false, ByteArray.size_append, List.size_toArray]) | (refine RunTo.lentE (hj) Tryz.func20 rfl rfl rfl rfl rfl rfl ?_; simp only [go_sem, ↓reduceIte, Nat.reduceEqDiff, Nat.reduceAdd, Nat.reduceLeDiff, Nat.reduceBEq, Nat.reduceMul, reduceCtorEq, Int.reduceLE, Int.reduceLT, Int.reduceAdd, Int.reduceSub, Int.reduceNeg, Int.reduceToNat, Int.reduceBEq, hdec, hrl, htr, d0, bne, he', y1, y2, y5, ya, yb, Nat.le_refl, Bool.not_true, Bool.not_false, ByteArray.size_append, List.size_toArray, Option.some.injEq, List.cons.injEq]; (repeat' refine And.intro rfl ?_); with_reducible refine RunTo.this ?_) | ((first | refine RunTo.nilA (by kernel_rfl) ?_ | refine RunTo.nilT ?_ | refine awp_skip ?_ | refine awp_exit ?_ | refine awp_label ?_); simp only [go_sem, ↓reduceIte, Nat.reduceEqDiff, Nat.reduceAdd, Nat.reduceLeDiff, Nat.reduceBEq, Nat.reduceMul, reduceCtorEq, Int.reduceLE, Int.reduceLT, Int.reduceAdd, Int.reduceSub, Int.reduceNeg, Int.reduceToNat, Int.reduceBEq, hdec, hrl, htr, d0, bne, he', y1, y2, y5, ya, yb, Nat.le_refl, Bool.not_true, Bool.not_false, ByteArray.size_append, List.size_toArray]) | (refine awp_cond' rfl (of_decide_eq_true rfl) (fun hc => ?_) (fun hc => ?_) <;> ((try simp only [Bool.not_true, Bool.not_false, Bool.not_eq_true', Bool.not_eq_false', Bool.not_eq_eq_eq_not] at hc); (first | (cases hc) | (simp only [hc]) | skip))))
          all_goals (first | refine awp_ret ?_ | skip); refine ⟨(by first | exact .inl rfl | exact .inr rfl | exact .inr trivial | trivial), ?_⟩; simp only [go_sem, ↓reduceIte, Nat.reduceEqDiff, Nat.reduceAdd, Nat.reduceLeDiff, Nat.reduceBEq, Nat.reduceMul, reduceCtorEq, Int.reduceLE, Int.reduceLT, Int.reduceAdd, Int.reduceSub, Int.reduceNeg, Int.reduceToNat, Int.reduceBEq, retV, resL, resV, sealV, sealC, sealAll, Tryz.f17]
          all_goals rfl
        | false =>
          have he' : ((headS s).toList == ({ data := #[] } : ByteArray).toList) = false := he
          rw [if_neg (by simp)]
          repeat' (first | refine awp_seq ?_ | refine awp_block ?_ | refine awp_round ?_ | refine awp_scope ?_ | refine awp_text rfl ?_ | refine awp_any rfl mix (by kernel_rfl) ?_ | (refine RunTo.unguard rfl rfl (fun hg => ?_) (fun hg => ?_) <;> ((try simp only [Bool.not_true, Bool.not_false, Bool.not_eq_true', Bool.not_eq_false', Bool.not_eq_eq_eq_not] at hg); (first | (cases hg) | (simp only [hg]) | skip))) | ((first | refine RunTo.plain rfl ?_ | refine RunTo.skipped rfl ?_); simp only [go_sem, ↓reduceIte, Nat.reduceEqDiff, Nat.reduceAdd, Nat.reduceLeDiff, Nat.reduceBEq, Nat.reduceMul, reduceCtorEq, Int.reduceLE, Int.reduceLT, Int.reduceAdd, Int.reduceSub, Int.reduceNeg, Int.reduceToNat, Int.reduceBEq, hdec, hrl, htr, d0, bne, he', y1, y2, y3, y4, y8, y9, Nat.le_refl, Bool.not_true, Bool.not_false, ByteArray.size_append, List.size_toArray]) | (refine RunTo.lentE (hj) Tryz.func20 rfl rfl rfl rfl rfl rfl ?_; simp only [go_sem, ↓reduceIte, Nat.reduceEqDiff, Nat.reduceAdd, Nat.reduceLeDiff, Nat.reduceBEq, Nat.reduceMul, reduceCtorEq, Int.reduceLE, Int.reduceLT, Int.reduceAdd, Int.reduceSub, Int.reduceNeg, Int.reduceToNat, Int.reduceBEq, hdec, hrl, htr, d0, bne, he', y1, y2, y3, y4, y8, y9, Nat.le_refl, Bool.not_true, Bool.not_false, ByteArray.size_append, List.size_toArray, Option.some.injEq, List.cons.injEq]; (repeat' refine And.intro rfl ?_); with_reducible refine RunTo.this ?_) | ((first | refine RunTo.nilA (by kernel_rfl) ?_ | refine RunTo.nilT ?_ | refine awp_skip ?_ | refine awp_exit ?_ | refine awp_label ?_); simp only [go_sem, ↓reduceIte, Nat.reduceEqDiff, Nat.reduceAdd, Nat.reduceLeDiff, Nat.reduceBEq, Nat.reduceMul, reduceCtorEq, Int.reduceLE, Int.reduceLT, Int.reduceAdd, Int.reduceSub, Int.reduceNeg, Int.reduceToNat, Int.reduceBEq, hdec, hrl, htr, d0, bne, he', y1, y2, y3, y4, y8, y9, Nat.le_refl, Bool.not_true, Bool.not_false, ByteArray.size_append, List.size_toArray]) | (refine awp_cond' rfl (of_decide_eq_true rfl) (fun hc => ?_) (fun hc => ?_) <;> ((try simp only [Bool.not_true, Bool.not_false, Bool.not_eq_true', Bool.not_eq_false', Bool.not_eq_eq_eq_not] at hc); (first | (cases hc) | (simp only [hc]) | skip))))
          all_goals (first | refine awp_ret ?_ | skip); refine ⟨(by first | exact .inl rfl | exact .inr rfl | exact .inr trivial | trivial), ?_⟩; simp only [go_sem, ↓reduceIte, Nat.reduceEqDiff, Nat.reduceAdd, Nat.reduceLeDiff, Nat.reduceBEq, Nat.reduceMul, reduceCtorEq, Int.reduceLE, Int.reduceLT, Int.reduceAdd, Int.reduceSub, Int.reduceNeg, Int.reduceToNat, Int.reduceBEq, retV, resL, resV, sealV, sealC, sealAll, Tryz.f17]
          all_goals rfl
  · intro R' main
    cases hl : emB s.label with
    | true =>
      have hl' : (s.label.toList == ({ data := #[] } : ByteArray).toList) = true := hl
      have hh : headS s = s.var := by unfold headS; rw [if_pos hl]
      rw [hh] at main
      repeat' (first | refine awp_seq ?_ | refine awp_block ?_ | refine awp_round ?_ | refine awp_scope ?_ | refine awp_text rfl ?_ | refine awp_any rfl mix (by kernel_rfl) ?_ | (refine RunTo.unguard rfl rfl (fun hg => ?_) (fun hg => ?_) <;> ((try simp only [Bool.not_true, Bool.not_false, Bool.not_eq_true', Bool.not_eq_false', Bool.not_eq_eq_eq_not] at hg); (first | (cases hg) | (simp only [hg]) | skip))) | ((first | refine RunTo.plain rfl ?_ | refine RunTo.skipped rfl ?_); simp only [go_sem, ↓reduceIte, Nat.reduceEqDiff, Nat.reduceAdd, Nat.reduceLeDiff, Nat.reduceBEq, Nat.reduceMul, reduceCtorEq, Int.reduceLE, Int.reduceLT, Int.reduceAdd, Int.reduceSub, Int.reduceNeg, Int.reduceToNat, Int.reduceBEq, SpotD.av, List.length_map, bne, hl', Bool.not_true, Bool.not_false]) | ((first | refine RunTo.nilA (by kernel_rfl) ?_ | refine RunTo.nilT ?_ | refine awp_skip ?_ | refine awp_exit ?_ | refine awp_label ?_); simp only [go_sem, ↓reduceIte, Nat.reduceEqDiff, Nat.reduceAdd, Nat.reduceLeDiff, Nat.reduceBEq, Nat.reduceMul, reduceCtorEq, Int.reduceLE, Int.reduceLT, Int.reduceAdd, Int.reduceSub, Int.reduceNeg, Int.reduceToNat, Int.reduceBEq, SpotD.av, List.length_map, bne, hl', Bool.not_true, Bool.not_false]) | (refine awp_cond' rfl (of_decide_eq_true rfl) (fun hc => ?_) (fun hc => ?_) <;> ((try simp only [Bool.not_true, Bool.not_false, Bool.not_eq_true', Bool.not_eq_false', Bool.not_eq_eq_eq_not] at hc); (first | (cases hc) | (simp only [hc]) | skip))))
      all_goals exact awp_weak (st' := ⟨[(3, sv s.var), (1, .ptr 1 0 0 0)], [(1, .box 0 [sv s.var, sv s.label, .dat (.lst 6 (s.props.map PropD.enc))])], _⟩) (weak_keep ⟨rfl, rfl, trivial⟩ ⟨rfl, trivial⟩ (Nat.le_refl _)) (main _ trivial)
    | false =>
      have hl' : (s.label.toList == ({ data := #[] } : ByteArray).toList) = false := hl
      have hh : headS s = s.var ++ ((⟨#[58]⟩ : ByteArray) ++ s.label) := by unfold headS; rw [if_neg (by rw [hl]; simp)]
      rw [hh] at main
      repeat' (first | refine awp_seq ?_ | refine awp_block ?_ | refine awp_round ?_ | refine awp_scope ?_ | refine awp_text rfl ?_ | refine awp_any rfl mix (by kernel_rfl) ?_ | (refine RunTo.unguard rfl rfl (fun hg => ?_) (fun hg => ?_) <;> ((try simp only [Bool.not_true, Bool.not_false, Bool.not_eq_true', Bool.not_eq_false', Bool.not_eq_eq_eq_not] at hg); (first | (cases hg) | (simp only [hg]) | skip))) | ((first | refine RunTo.plain rfl ?_ | refine RunTo.skipped rfl ?_); simp only [go_sem, ↓reduceIte, Nat.reduceEqDiff, Nat.reduceAdd, Nat.reduceLeDiff, Nat.reduceBEq, Nat.reduceMul, reduceCtorEq, Int.reduceLE, Int.reduceLT, Int.reduceAdd, Int.reduceSub, Int.reduceNeg, Int.reduceToNat, Int.reduceBEq, SpotD.av, List.length_map, bne, hl', z1, z2, Bool.not_true, Bool.not_false, ByteArray.size_append, List.size_toArray]) | ((first | refine RunTo.nilA (by kernel_rfl) ?_ | refine RunTo.nilT ?_ | refine awp_skip ?_ | refine awp_exit ?_ | refine awp_label ?_); simp only [go_sem, ↓reduceIte, Nat.reduceEqDiff, Nat.reduceAdd, Nat.reduceLeDiff, Nat.reduceBEq, Nat.reduceMul, reduceCtorEq, Int.reduceLE, Int.reduceLT, Int.reduceAdd, Int.reduceSub, Int.reduceNeg, Int.reduceToNat, Int.reduceBEq, SpotD.av, List.length_map, bne, hl', z1, z2, Bool.not_true, Bool.not_false, ByteArray.size_append, List.size_toArray]) | (refine awp_cond' rfl (of_decide_eq_true rfl) (fun hc => ?_) (fun hc => ?_) <;> ((try simp only [Bool.not_true, Bool.not_false, Bool.not_eq_true', Bool.not_eq_false', Bool.not_eq_eq_eq_not] at hc); (first | (cases hc) | (simp only [hc]) | skip))))
      all_goals exact awp_weak (st' := ⟨[(3, sv (s.var ++ ((⟨#[58]⟩ : ByteArray) ++ s.label))), (1, .ptr 1 0 0 0)], [(1, .box 0 [sv s.var, sv s.label, .dat (.lst 6 (s.props.map PropD.enc))])], _⟩) (weak_keep ⟨rfl, rfl, trivial⟩ ⟨rfl, trivial⟩ (Nat.le_refl _)) (main _ trivial)
end Go.Proofs.YtinpnidokpjfhaaGreatDoor.AM
namespace Go.Proofs.YtinpnidokpjfhaaGreatDoor.AM
open Go.RowKit
set_option linter.unusedSimpArgs false
set_option linter.unusedVariables false
set_option maxRecDepth 10000
set_option maxHeartbeats 0
def itB (n : Int) : ByteArray := bs (Lib.itoa n)
theorem itB_size (n : Int) (h : i64B n) : (itB n).size ≤ 21 := by
  have := Lib.itoa_length_le n h.1 h.2
  show (Lib.itoa n).toArray.size ≤ 21
  rw [List.size_toArray]
  omega
theorem c_ItoaB (n : Int) (h : i64B n) : Pure Tryz.prog 23 [iv n] (sv (itB n)) := c_Itoa n h
def headH (h : HopD) : ByteArray := if emB h.type = true then h.var else h.var ++ ((⟨#[58]⟩ : ByteArray) ++ h.type)
def bodyH (h : HopD) : ByteArray := if h.many = true then headH h ++ ((⟨#[42]⟩ : ByteArray) ++ itB h.least ++ ⟨#[46, 46]⟩ ++ itB h.most) else headH h
def hopT (h : HopD) : ByteArray := if h.back = true then (⟨#[60, 45, 91]⟩ : ByteArray) ++ bodyH h ++ ⟨#[93, 45]⟩ else (⟨#[45, 91]⟩ : ByteArray) ++ bodyH h ++ ⟨#[93, 45, 62]⟩
structure OkH (h : HopD) : Prop where
  var : h.var.size ≤ 1000000
  type : h.type.size ≤ 1000000
  least : i64B h.least
  most : i64B h.most
theorem hopT_big (h : HopD) (ho : OkH h) : (hopT h).size ≤ 3000000 := by
  have h1 := ho.var
  have h2 := ho.type
  have h3 := itB_size _ ho.least
  have h4 := itB_size _ ho.most
  unfold hopT bodyH headH
  generalize itB h.least = x at *
  generalize itB h.most = y at *
  have e1 : (⟨#[58]⟩ : ByteArray).size = 1 := rfl
  have e2 : (⟨#[42]⟩ : ByteArray).size = 1 := rfl
  have e3 : (⟨#[46, 46]⟩ : ByteArray).size = 2 := rfl
  have e4 : (⟨#[60, 45, 91]⟩ : ByteArray).size = 3 := rfl
  have e5 : (⟨#[93, 45]⟩ : ByteArray).size = 2 := rfl
  have e6 : (⟨#[45, 91]⟩ : ByteArray).size = 2 := rfl
  have e7 : (⟨#[93, 45, 62]⟩ : ByteArray).size = 3 := rfl
  repeat' split
  all_goals simp only [ByteArray.size_append, e1, e2, e3, e4, e5, e6, e7]; omega
theorem c_hopT (h : HopD) (ho : OkH h) : Pure Tryz.prog 16 [h.av] (sv (hopT h)) := by
  have h1 := ho.var
  have h2 := ho.type
  have h3 := itB_size _ ho.least
  have h4 := itB_size _ ho.most
  have i1 := c_ItoaB _ ho.least
  have i2 := c_ItoaB _ ho.most
  unfold hopT bodyH headH
  obtain ⟨v, t, bk, mn, l, o⟩ := h
  dsimp only at *
  generalize itB l = x at *
  generalize itB o = y at *
  have z1 : (1 + t.size ≤ 9223372036854775807) = True := eq_true (by omega)
  have z2 : (v.size + (1 + t.size) ≤ 9223372036854775807) = True := eq_true (by omega)
  have z3 : (1 + x.size ≤ 9223372036854775807) = True := eq_true (by omega)
  have z4 : (1 + x.size + 2 ≤ 9223372036854775807) = True := eq_true (by omega)
  have z5 : (1 + x.size + 2 + y.size ≤ 9223372036854775807) = True := eq_true (by omega)
  cases he : emB t with
  | true =>
    have he' : (t.toList == ({ data := #[] } : ByteArray).toList) = true := he
    have z6 : (v.size + (1 + x.size + 2 + y.size) ≤ 9223372036854775807) = True := eq_true (by omega)
    have a1 : (3 + (v.size + (1 + x.size + 2 + y.size)) ≤ 9223372036854775807) = True := eq_true (by omega)
    have a2 : (3 + (v.size + (1 + x.size + 2 + y.size)) + 2 ≤ 9223372036854775807) = True := eq_true (by omega)
    have a3 : (2 + (v.size + (1 + x.size + 2 + y.size)) ≤ 9223372036854775807) = True := eq_true (by omega)
    have a4 : (2 + (v.size + (1 + x.size + 2 + y.size)) + 3 ≤ 9223372036854775807) = True := eq_true (by omega)
    have b1 : (3 + v.size ≤ 9223372036854775807) = True := eq_true (by omega)
    have b2 : (3 + v.size + 2 ≤ 9223372036854775807) = True := eq_true (by omega)
    have b3 : (2 + v.size ≤ 9223372036854775807) = True := eq_true (by omega)
    have b4 : (2 + v.size + 3 ≤ 9223372036854775807) = True := eq_true (by omega)
    simp only [↓reduceIte]
    cases mn <;> cases bk
    all_goals
      refine pure_of_awp Tryz.func16 rfl rfl (by simp [Tryz.f16]) ?_; simp only [go_sem, ↓reduceIte, Nat.reduceEqDiff, Nat.reduceAdd, Nat.reduceLeDiff, Nat.reduceBEq, Nat.reduceMul, reduceCtorEq, Int.reduceLE, Int.reduceLT, Int.reduceAdd, Int.reduceSub, Int.reduceNeg, Int.reduceToNat, Int.reduceBEq]
      repeat' (first | refine awp_seq ?_ | refine awp_block ?_ | refine awp_round ?_ | refine awp_scope ?_ | refine awp_text rfl ?_ | refine awp_any rfl mix (by kernel_rfl) ?_ | (refine RunTo.unguard rfl rfl (fun hg => ?_) (fun hg => ?_) <;> ((try simp only [Bool.not_true, Bool.not_false, Bool.not_eq_true', Bool.not_eq_false', Bool.not_eq_eq_eq_not] at hg); (first | (cases hg) | (simp only [hg]) | skip))) | ((first | refine RunTo.plain rfl ?_ | refine RunTo.skipped rfl ?_ | refine RunTo.call (i1) Tryz.func23 rfl rfl rfl rfl rfl rfl rfl rfl ?_ | refine RunTo.call (i2) Tryz.func23 rfl rfl rfl rfl rfl rfl rfl rfl ?_); simp only [go_sem, ↓reduceIte, Nat.reduceEqDiff, Nat.reduceAdd, Nat.reduceLeDiff, Nat.reduceBEq, Nat.reduceMul, reduceCtorEq, Int.reduceLE, Int.reduceLT, Int.reduceAdd, Int.reduceSub, Int.reduceNeg, Int.reduceToNat, Int.reduceBEq, HopD.av, bne, he', z1, z2, z3, z4, z5, z6, a1, a2, a3, a4, b1, b2, b3, b4, Bool.not_true, Bool.not_false, ByteArray.size_append, List.size_toArray]) | ((first | refine RunTo.nilA (by kernel_rfl) ?_ | refine RunTo.nilT ?_ | refine awp_skip ?_ | refine awp_exit ?_ | refine awp_label ?_); simp only [go_sem, ↓reduceIte, Nat.reduceEqDiff, Nat.reduceAdd, Nat.reduceLeDiff, Nat.reduceBEq, Nat.reduceMul, reduceCtorEq, Int.reduceLE, Int.reduceLT, Int.reduceAdd, Int.reduceSub, Int.reduceNeg, Int.reduceToNat, Int.reduceBEq, HopD.av, bne, he', z1, z2, z3, z4, z5, z6, a1, a2, a3, a4, b1, b2, b3, b4, Bool.not_true, Bool.not_false, ByteArray.size_append, List.size_toArray]) | (refine awp_cond' rfl (of_decide_eq_true rfl) (fun hc => ?_) (fun hc => ?_) <;> ((try simp only [Bool.not_true, Bool.not_false, Bool.not_eq_true', Bool.not_eq_false', Bool.not_eq_eq_eq_not] at hc); (first | (cases hc) | (simp only [hc]) | skip))))
      all_goals (first | refine awp_ret ?_ | skip); refine ⟨(by first | exact .inl rfl | exact .inr rfl | exact .inr trivial | trivial), ?_⟩; simp only [go_sem, ↓reduceIte, Nat.reduceEqDiff, Nat.reduceAdd, Nat.reduceLeDiff, Nat.reduceBEq, Nat.reduceMul, reduceCtorEq, Int.reduceLE, Int.reduceLT, Int.reduceAdd, Int.reduceSub, Int.reduceNeg, Int.reduceToNat, Int.reduceBEq, retV, resL, resV, sealV, sealC, sealAll, Tryz.f16]
      all_goals rfl
  | false =>
    have he' : (t.toList == ({ data := #[] } : ByteArray).toList) = false := he
    have z6 : (v.size + (1 + t.size) + (1 + x.size + 2 + y.size) ≤ 9223372036854775807) = True := eq_true (by omega)
    have a1 : (3 + (v.size + (1 + t.size) + (1 + x.size + 2 + y.size)) ≤ 9223372036854775807) = True := eq_true (by omega)
    have a2 : (3 + (v.size + (1 + t.size) + (1 + x.size + 2 + y.size)) + 2 ≤ 9223372036854775807) = True := eq_true (by omega)
    have a3 : (2 + (v.size + (1 + t.size) + (1 + x.size + 2 + y.size)) ≤ 9223372036854775807) = True := eq_true (by omega)
    have a4 : (2 + (v.size + (1 + t.size) + (1 + x.size + 2 + y.size)) + 3 ≤ 9223372036854775807) = True := eq_true (by omega)
    have b1 : (3 + (v.size + (1 + t.size)) ≤ 9223372036854775807) = True := eq_true (by omega)
    have b2 : (3 + (v.size + (1 + t.size)) + 2 ≤ 9223372036854775807) = True := eq_true (by omega)
    have b3 : (2 + (v.size + (1 + t.size)) ≤ 9223372036854775807) = True := eq_true (by omega)
    have b4 : (2 + (v.size + (1 + t.size)) + 3 ≤ 9223372036854775807) = True := eq_true (by omega)
    simp only [Bool.false_eq_true, ↓reduceIte]
    cases mn <;> cases bk
    all_goals
      refine pure_of_awp Tryz.func16 rfl rfl (by simp [Tryz.f16]) ?_; simp only [go_sem, ↓reduceIte, Nat.reduceEqDiff, Nat.reduceAdd, Nat.reduceLeDiff, Nat.reduceBEq, Nat.reduceMul, reduceCtorEq, Int.reduceLE, Int.reduceLT, Int.reduceAdd, Int.reduceSub, Int.reduceNeg, Int.reduceToNat, Int.reduceBEq]
      repeat' (first | refine awp_seq ?_ | refine awp_block ?_ | refine awp_round ?_ | refine awp_scope ?_ | refine awp_text rfl ?_ | refine awp_any rfl mix (by kernel_rfl) ?_ | (refine RunTo.unguard rfl rfl (fun hg => ?_) (fun hg => ?_) <;> ((try simp only [Bool.not_true, Bool.not_false, Bool.not_eq_true', Bool.not_eq_false', Bool.not_eq_eq_eq_not] at hg); (first | (cases hg) | (simp only [hg]) | skip))) | ((first | refine RunTo.plain rfl ?_ | refine RunTo.skipped rfl ?_ | refine RunTo.call (i1) Tryz.func23 rfl rfl rfl rfl rfl rfl rfl rfl ?_ | refine RunTo.call (i2) Tryz.func23 rfl rfl rfl rfl rfl rfl rfl rfl ?_); simp only [go_sem, ↓reduceIte, Nat.reduceEqDiff, Nat.reduceAdd, Nat.reduceLeDiff, Nat.reduceBEq, Nat.reduceMul, reduceCtorEq, Int.reduceLE, Int.reduceLT, Int.reduceAdd, Int.reduceSub, Int.reduceNeg, Int.reduceToNat, Int.reduceBEq, HopD.av, bne, he', z1, z2, z3, z4, z5, z6, a1, a2, a3, a4, b1, b2, b3, b4, Bool.not_true, Bool.not_false, ByteArray.size_append, List.size_toArray]) | ((first | refine RunTo.nilA (by kernel_rfl) ?_ | refine RunTo.nilT ?_ | refine awp_skip ?_ | refine awp_exit ?_ | refine awp_label ?_); simp only [go_sem, ↓reduceIte, Nat.reduceEqDiff, Nat.reduceAdd, Nat.reduceLeDiff, Nat.reduceBEq, Nat.reduceMul, reduceCtorEq, Int.reduceLE, Int.reduceLT, Int.reduceAdd, Int.reduceSub, Int.reduceNeg, Int.reduceToNat, Int.reduceBEq, HopD.av, bne, he', z1, z2, z3, z4, z5, z6, a1, a2, a3, a4, b1, b2, b3, b4, Bool.not_true, Bool.not_false, ByteArray.size_append, List.size_toArray]) | (refine awp_cond' rfl (of_decide_eq_true rfl) (fun hc => ?_) (fun hc => ?_) <;> ((try simp only [Bool.not_true, Bool.not_false, Bool.not_eq_true', Bool.not_eq_false', Bool.not_eq_eq_eq_not] at hc); (first | (cases hc) | (simp only [hc]) | skip))))
      all_goals (first | refine awp_ret ?_ | skip); refine ⟨(by first | exact .inl rfl | exact .inr rfl | exact .inr trivial | trivial), ?_⟩; simp only [go_sem, ↓reduceIte, Nat.reduceEqDiff, Nat.reduceAdd, Nat.reduceLeDiff, Nat.reduceBEq, Nat.reduceMul, reduceCtorEq, Int.reduceLE, Int.reduceLT, Int.reduceAdd, Int.reduceSub, Int.reduceNeg, Int.reduceToNat, Int.reduceBEq, retV, resL, resV, sealV, sealC, sealAll, Tryz.f16]
      all_goals rfl
def sortT (x : SortD) : ByteArray := if x.desc = true then itB x.item ++ ⟨#[32, 100, 101, 115, 99]⟩ else itB x.item
def SortD.av (x : SortD) : AV := .agg [iv x.item, bv x.desc]
theorem sortT_big (x : SortD) (h : i64B x.item) : (sortT x).size ≤ 26 := by
  have := itB_size _ h
  unfold sortT
  split
  · rw [ByteArray.size_append, show (⟨#[32, 100, 101, 115, 99]⟩ : ByteArray).size = 5 from rfl]; omega
  · omega
theorem c_sortT (x : SortD) (h : i64B x.item) : Pure Tryz.prog 21 [x.av] (sv (sortT x)) := by
  have h3 := itB_size _ h
  have i1 := c_ItoaB _ h
  unfold sortT
  obtain ⟨n, d⟩ := x
  dsimp only at *
  generalize itB n = y at *
  have z1 : (y.size + 5 ≤ 9223372036854775807) = True := eq_true (by omega)
  cases d
  all_goals
    refine pure_of_awp Tryz.func21 rfl rfl (by simp [Tryz.f21]) ?_; simp only [go_sem, ↓reduceIte, Nat.reduceEqDiff, Nat.reduceAdd, Nat.reduceLeDiff, Nat.reduceBEq, Nat.reduceMul, reduceCtorEq, Int.reduceLE, Int.reduceLT, Int.reduceAdd, Int.reduceSub, Int.reduceNeg, Int.reduceToNat, Int.reduceBEq]
    repeat' (first | refine awp_seq ?_ | refine awp_block ?_ | refine awp_round ?_ | refine awp_scope ?_ | refine awp_text rfl ?_ | refine awp_any rfl mix (by kernel_rfl) ?_ | (refine RunTo.unguard rfl rfl (fun hg => ?_) (fun hg => ?_) <;> ((try simp only [Bool.not_true, Bool.not_false, Bool.not_eq_true', Bool.not_eq_false', Bool.not_eq_eq_eq_not] at hg); (first | (cases hg) | (simp only [hg]) | skip))) | ((first | refine RunTo.plain rfl ?_ | refine RunTo.skipped rfl ?_ | refine RunTo.call (i1) Tryz.func23 rfl rfl rfl rfl rfl rfl rfl rfl ?_); simp only [go_sem, ↓reduceIte, Nat.reduceEqDiff, Nat.reduceAdd, Nat.reduceLeDiff, Nat.reduceBEq, Nat.reduceMul, reduceCtorEq, Int.reduceLE, Int.reduceLT, Int.reduceAdd, Int.reduceSub, Int.reduceNeg, Int.reduceToNat, Int.reduceBEq, SortD.av, z1, ByteArray.size_append, List.size_toArray]) | ((first | refine RunTo.nilA (by kernel_rfl) ?_ | refine RunTo.nilT ?_ | refine awp_skip ?_ | refine awp_exit ?_ | refine awp_label ?_); simp only [go_sem, ↓reduceIte, Nat.reduceEqDiff, Nat.reduceAdd, Nat.reduceLeDiff, Nat.reduceBEq, Nat.reduceMul, reduceCtorEq, Int.reduceLE, Int.reduceLT, Int.reduceAdd, Int.reduceSub, Int.reduceNeg, Int.reduceToNat, Int.reduceBEq, SortD.av, z1, ByteArray.size_append, List.size_toArray]) | (refine awp_cond' rfl (of_decide_eq_true rfl) (fun hc => ?_) (fun hc => ?_) <;> ((try simp only [Bool.not_true, Bool.not_false, Bool.not_eq_true', Bool.not_eq_false', Bool.not_eq_eq_eq_not] at hc); (first | (cases hc) | (simp only [hc]) | skip))))
    all_goals (first | refine awp_ret ?_ | skip); refine ⟨(by first | exact .inl rfl | exact .inr rfl | exact .inr trivial | trivial), ?_⟩; simp only [go_sem, ↓reduceIte, Nat.reduceEqDiff, Nat.reduceAdd, Nat.reduceLeDiff, Nat.reduceBEq, Nat.reduceMul, reduceCtorEq, Int.reduceLE, Int.reduceLT, Int.reduceAdd, Int.reduceSub, Int.reduceNeg, Int.reduceToNat, Int.reduceBEq, retV, resL, resV, sealV, sealC, sealAll, Tryz.f21]
    all_goals rfl
def numT (w : ByteArray) (n : Int) (s : ByteArray) : ByteArray := if 0 ≤ n then s ++ (w ++ itB n) else s
theorem c_numT (w s : ByteArray) (n : Int) (h : i64B n) (hw : w.size ≤ 100) (hs : s.size ≤ 1000000000000000) : Acts Tryz.prog 22 [sv w, iv n, .ptr 1001 0 0 0] [(1001, .box 0 [sv s])] (.tup []) [(1001, .box 0 [sv (numT w n s)])] := by
  have h3 := itB_size _ h
  have i1 := c_ItoaB _ h
  unfold numT
  generalize itB n = y at *
  have z1 : (w.size + y.size ≤ 9223372036854775807) = True := eq_true (by omega)
  have z2 : (s.size + (w.size + y.size) ≤ 9223372036854775807) = True := eq_true (by omega)
  by_cases hn : 0 ≤ n
  · have d : decide ((0 : Int) ≤ n) = true := decide_eq_true hn
    rw [if_pos hn]
    refine acts_of_awp ([(1001, 1001)]) Tryz.func22 rfl rfl (by simp [Tryz.f22]) ?_; simp only [go_sem, ↓reduceIte, Nat.reduceEqDiff, Nat.reduceAdd, Nat.reduceLeDiff, Nat.reduceBEq, Nat.reduceMul, reduceCtorEq, Int.reduceLE, Int.reduceLT, Int.reduceAdd, Int.reduceSub, Int.reduceNeg, Int.reduceToNat, Int.reduceBEq]
    repeat' (first | refine awp_seq ?_ | refine awp_block ?_ | refine awp_round ?_ | refine awp_scope ?_ | refine awp_text rfl ?_ | refine awp_any rfl mix (by kernel_rfl) ?_ | (refine RunTo.unguard rfl rfl (fun hg => ?_) (fun hg => ?_) <;> ((try simp only [Bool.not_true, Bool.not_false, Bool.not_eq_true', Bool.not_eq_false', Bool.not_eq_eq_eq_not] at hg); (first | (cases hg) | (simp only [hg]) | skip))) | ((first | refine RunTo.plain rfl ?_ | refine RunTo.skipped rfl ?_ | refine RunTo.call (i1) Tryz.func23 rfl rfl rfl rfl rfl rfl rfl rfl ?_); simp only [go_sem, ↓reduceIte, Nat.reduceEqDiff, Nat.reduceAdd, Nat.reduceLeDiff, Nat.reduceBEq, Nat.reduceMul, reduceCtorEq, Int.reduceLE, Int.reduceLT, Int.reduceAdd, Int.reduceSub, Int.reduceNeg, Int.reduceToNat, Int.reduceBEq, d, z1, z2, ByteArray.size_append]) | ((first | refine RunTo.nilA (by kernel_rfl) ?_ | refine RunTo.nilT ?_ | refine awp_skip ?_ | refine awp_exit ?_ | refine awp_label ?_); simp only [go_sem, ↓reduceIte, Nat.reduceEqDiff, Nat.reduceAdd, Nat.reduceLeDiff, Nat.reduceBEq, Nat.reduceMul, reduceCtorEq, Int.reduceLE, Int.reduceLT, Int.reduceAdd, Int.reduceSub, Int.reduceNeg, Int.reduceToNat, Int.reduceBEq, d, z1, z2, ByteArray.size_append]) | (refine awp_cond' rfl (of_decide_eq_true rfl) (fun hc => ?_) (fun hc => ?_) <;> ((try simp only [Bool.not_true, Bool.not_false, Bool.not_eq_true', Bool.not_eq_false', Bool.not_eq_eq_eq_not] at hc); (first | (cases hc) | (simp only [hc]) | skip))))
    all_goals (first | refine awp_ret ?_ | skip); refine ⟨(by first | exact .inl rfl | exact .inr rfl | exact .inr trivial | trivial), _, rfl, rfl, rfl, ?_, ?_⟩ <;> (try simp only [go_sem, ↓reduceIte, Nat.reduceEqDiff, Nat.reduceAdd, Nat.reduceLeDiff, Nat.reduceBEq, Nat.reduceMul, reduceCtorEq, Int.reduceLE, Int.reduceLT, Int.reduceAdd, Int.reduceSub, Int.reduceNeg, Int.reduceToNat, Int.reduceBEq])
  · have d : decide ((0 : Int) ≤ n) = false := decide_eq_false hn
    rw [if_neg hn]
    refine acts_of_awp ([(1001, 1001)]) Tryz.func22 rfl rfl (by simp [Tryz.f22]) ?_; simp only [go_sem, ↓reduceIte, Nat.reduceEqDiff, Nat.reduceAdd, Nat.reduceLeDiff, Nat.reduceBEq, Nat.reduceMul, reduceCtorEq, Int.reduceLE, Int.reduceLT, Int.reduceAdd, Int.reduceSub, Int.reduceNeg, Int.reduceToNat, Int.reduceBEq]
    repeat' (first | refine awp_seq ?_ | refine awp_block ?_ | refine awp_round ?_ | refine awp_scope ?_ | refine awp_text rfl ?_ | refine awp_any rfl mix (by kernel_rfl) ?_ | (refine RunTo.unguard rfl rfl (fun hg => ?_) (fun hg => ?_) <;> ((try simp only [Bool.not_true, Bool.not_false, Bool.not_eq_true', Bool.not_eq_false', Bool.not_eq_eq_eq_not] at hg); (first | (cases hg) | (simp only [hg]) | skip))) | ((first | refine RunTo.plain rfl ?_ | refine RunTo.skipped rfl ?_); simp only [go_sem, ↓reduceIte, Nat.reduceEqDiff, Nat.reduceAdd, Nat.reduceLeDiff, Nat.reduceBEq, Nat.reduceMul, reduceCtorEq, Int.reduceLE, Int.reduceLT, Int.reduceAdd, Int.reduceSub, Int.reduceNeg, Int.reduceToNat, Int.reduceBEq, d]) | ((first | refine RunTo.nilA (by kernel_rfl) ?_ | refine RunTo.nilT ?_ | refine awp_skip ?_ | refine awp_exit ?_ | refine awp_label ?_); simp only [go_sem, ↓reduceIte, Nat.reduceEqDiff, Nat.reduceAdd, Nat.reduceLeDiff, Nat.reduceBEq, Nat.reduceMul, reduceCtorEq, Int.reduceLE, Int.reduceLT, Int.reduceAdd, Int.reduceSub, Int.reduceNeg, Int.reduceToNat, Int.reduceBEq, d]) | (refine awp_cond' rfl (of_decide_eq_true rfl) (fun hc => ?_) (fun hc => ?_) <;> ((try simp only [Bool.not_true, Bool.not_false, Bool.not_eq_true', Bool.not_eq_false', Bool.not_eq_eq_eq_not] at hc); (first | (cases hc) | (simp only [hc]) | skip))))
    all_goals (first | refine awp_ret ?_ | skip); refine ⟨(by first | exact .inl rfl | exact .inr rfl | exact .inr trivial | trivial), _, rfl, rfl, rfl, ?_, ?_⟩ <;> (try simp only [go_sem, ↓reduceIte, Nat.reduceEqDiff, Nat.reduceAdd, Nat.reduceLeDiff, Nat.reduceBEq, Nat.reduceMul, reduceCtorEq, Int.reduceLE, Int.reduceLT, Int.reduceAdd, Int.reduceSub, Int.reduceNeg, Int.reduceToNat, Int.reduceBEq])
end Go.Proofs.YtinpnidokpjfhaaGreatDoor.AM
namespace Go.Proofs.YtinpnidokpjfhaaGreatDoor.AM
open Go.RowKit
set_option linter.unusedSimpArgs false
set_option linter.unusedVariables false
set_option maxRecDepth 10000
set_option maxHeartbeats 0
theorem tStep_sum (d : Int) : ∀ (l : List TermD) (s : List ByteArray) (sd : List Int), deepS sd l = some [d] → s.length = sd.length → (∀ t ∈ l, okT t) → sumS (l.foldl tStep s) ≤ sumS s + l.length * 100000000
  | [], s, sd, _, _, _ => by simp
  | t :: l, s, sd, hd, hl, hok => by
    rw [deepS_cons] at hd
    by_cases hbad : t.op ≤ 0 ∨ 16 ≤ t.op ∨ sd.length < ofN t.op
    · rw [stepD, if_pos hbad] at hd; cases hd
    rw [stepD, if_neg hbad] at hd
    simp only [not_or] at hbad
    obtain ⟨hb1, hb2, hb3⟩ := hbad
    have hot := hok t List.mem_cons_self
    obtain ⟨o1, o2, o3, o4, o5, o6⟩ := hot
    have key : (tStep s t).length = (sd.take (sd.length - ofN t.op) ++ [maxL (sd.drop (sd.length - ofN t.op)) + 1]).length ∧ sumS (tStep s t) ≤ sumS s + 100000000 := by
      by_cases h3 : t.op ≤ 3
      · have ho : ofN t.op = 0 := if_pos h3
        have hs : tStep s t = s ++ [own0 t] := if_pos h3
        rw [hs, ho, sumS_app]
        have : (own0 t).size ≤ 100000000 := by
          unfold own0
          split
          · omega
          · split
            · rw [ByteArray.size_append, ByteArray.size_append, b1]; omega
            · rw [ByteArray.size_append, ByteArray.size_append, b1', b3]; omega
        simp
        omega
      · by_cases h5 : t.op ≤ 5
        · have ho : ofN t.op = 1 := by unfold ofN; rw [if_neg h3, if_pos h5]
          rw [ho] at hb3
          rcases List.eq_nil_or_concat s with hnil | ⟨p, a, hs⟩
          · subst hnil; simp at hl; omega
          rw [List.concat_eq_append] at hs
          subst hs
          have hs : tStep (p ++ [a]) t = p ++ [own1 t.op a] := by unfold tStep; rw [if_neg h3, if_pos h5]; simp
          rw [hs, ho, sumS_app, sumS_app]
          have : (own1 t.op a).size ≤ a.size + 20 := by
            unfold own1
            split
            · rw [ByteArray.size_append, ByteArray.size_append, b5, b1']; omega
            · rw [ByteArray.size_append, ByteArray.size_append, b0, b9]; omega
          simp at hl ⊢
          omega
        · have ho : ofN t.op = 2 := by unfold ofN; rw [if_neg h3, if_neg h5]
          rw [ho] at hb3
          rcases List.eq_nil_or_concat s with hnil | ⟨q, b, hs⟩
          · subst hnil; simp at hl; omega
          rw [List.concat_eq_append] at hs
          subst hs
          rcases List.eq_nil_or_concat q with hnil | ⟨p, a, hs⟩
          · subst hnil; simp at hl; omega
          rw [List.concat_eq_append] at hs
          subst hs
          have hs : tStep (p ++ [a] ++ [b]) t = p ++ [own2 t.op a b] := by unfold tStep; rw [if_neg h3, if_neg h5]; simp
          rw [hs, ho, sumS_app, sumS_app, sumS_app]
          have hsg := signS_size t.op
          have : (own2 t.op a b).size ≤ a.size + b.size + 20 := by
            unfold own2
            rw [ByteArray.size_append, ByteArray.size_append, ByteArray.size_append, ByteArray.size_append, ByteArray.size_append, ByteArray.size_append, b0, b1', b32]
            omega
          simp at hl ⊢
          omega
    have ih := tStep_sum d l (tStep s t) _ hd key.1 (fun x hx => hok x (List.mem_cons_of_mem _ hx))
    rw [List.foldl_cons, List.length_cons]
    have := key.2
    omega
theorem textS_size (ts : List TermD) (d : Int) (hd : deepS [] ts = some [d]) (hl : ts.length ≤ 1000) (hok : ∀ t ∈ ts, okT t) : (textS ts).size ≤ 100000000000 := by
  have h := tStep_sum d ts [] [] hd rfl hok
  have h0 : sumS [] = 0 := rfl
  rw [h0] at h
  have h1 : (textS ts).size ≤ sumS (ts.foldl tStep []) := by
    unfold textS
    cases ts.foldl tStep [] with
    | nil => simp [eE, ByteArray.size]
    | cons a l => simp [sumS]
  omega
theorem deep_some {ts : List TermD} (h : termsV ts = true) : ts.length ≤ 1000 ∧ ∃ d, deepS [] ts = some [d] := by
  simp only [termsV, Bool.and_eq_true, decide_eq_true_eq] at h
  obtain ⟨_, h1, _⟩ := h
  unfold deepV at h1
  split at h1
  · omega
  · rename_i hl
    refine ⟨by omega, ?_⟩
    split at h1
    · rename_i d hd; exact ⟨d, hd⟩
    · omega
end Go.Proofs.YtinpnidokpjfhaaGreatDoor.AM
namespace Go.Proofs.YtinpnidokpjfhaaGreatDoor.AM
open Go.RowKit
set_option linter.unusedSimpArgs false
set_option linter.unusedVariables false
set_option maxRecDepth 10000
set_option maxHeartbeats 0
structure OkTs (ts : List TermD) : Prop where
  len : ts.length ≤ 1000
  one : ts ≠ [] → ∃ d, deepS [] ts = some [d]
  ok : ∀ t ∈ ts, okT t
def inT (ts : List TermD) : ByteArray := if ts.length = 0 then ⟨#[42]⟩ else textS ts
theorem inT_big (ts : List TermD) (h : OkTs ts) : (inT ts).size ≤ 100000000000 := by
  unfold inT
  split
  · show 1 ≤ _; omega
  · rename_i hn
    obtain ⟨d, hd⟩ := h.one (fun e => hn (by rw [e]; rfl))
    exact textS_size ts d hd h.len h.ok
def itemT (x : ItemD) : ByteArray := if x.fn = 1 then (⟨#[99, 111, 117, 110, 116, 40]⟩ : ByteArray) ++ inT x.terms ++ ⟨#[41]⟩ else if x.fn = 2 then (⟨#[115, 117, 109, 40]⟩ : ByteArray) ++ inT x.terms ++ ⟨#[41]⟩
  else if x.fn = 3 then (⟨#[109, 105, 110, 40]⟩ : ByteArray) ++ inT x.terms ++ ⟨#[41]⟩ else if x.fn = 4 then (⟨#[109, 97, 120, 40]⟩ : ByteArray) ++ inT x.terms ++ ⟨#[41]⟩ else inT x.terms
theorem itemT_big (x : ItemD) (h : OkTs x.terms) : (itemT x).size ≤ 100000000010 := by
  have := inT_big _ h
  unfold itemT
  generalize inT x.terms = i at *
  have e1 : (⟨#[99, 111, 117, 110, 116, 40]⟩ : ByteArray).size = 6 := rfl
  have e2 : (⟨#[115, 117, 109, 40]⟩ : ByteArray).size = 4 := rfl
  have e3 : (⟨#[109, 105, 110, 40]⟩ : ByteArray).size = 4 := rfl
  have e4 : (⟨#[109, 97, 120, 40]⟩ : ByteArray).size = 4 := rfl
  have e5 : (⟨#[41]⟩ : ByteArray).size = 1 := rfl
  repeat' split
  all_goals first | omega | (simp only [ByteArray.size_append, e1, e2, e3, e4, e5]; omega)
theorem c_itemT1 (x : ItemD) (h : OkTs x.terms) : Pure Tryz.prog 19 [x.av] (sv (itemT x)) := by
  have hb := inT_big _ h
  have hS : x.terms.length ≠ 0 → Pure Tryz.prog 18 [.dat (.lst 8 (x.terms.map TermD.enc))] (sv (inT x.terms)) := fun hn => by
    obtain ⟨d, hd⟩ := h.one (fun e => hn (by rw [e]; rfl))
    have := c_text x.terms d h.len hd h.ok
    unfold inT
    rw [if_neg hn]
    exact this
  have h0 : x.terms.length = 0 → inT x.terms = ⟨#[42]⟩ := fun e => by unfold inT; rw [if_pos e]
  unfold itemT
  obtain ⟨fn, ts⟩ := x
  dsimp only at *
  generalize inT ts = i at *
  have z1 : (6 + i.size ≤ 9223372036854775807) = True := eq_true (by omega)
  have z2 : (6 + i.size + 1 ≤ 9223372036854775807) = True := eq_true (by omega)
  have z3 : (4 + i.size ≤ 9223372036854775807) = True := eq_true (by omega)
  have z4 : (4 + i.size + 1 ≤ 9223372036854775807) = True := eq_true (by omega)
  have q : ∀ k : Int, fn ≠ k → (fn == k) = false := fun k hk => beq_false_of_ne hk
  have main : ∀ (f1 f2 f3 f4 : Bool), (fn == 1) = f1 → (fn == 2) = f2 → (fn == 3) = f3 → (fn == 4) = f4 → Pure Tryz.prog 19 [.agg [iv fn, .dat (.lst 8 (ts.map TermD.enc))]] (sv (if f1 = true then (⟨#[99, 111, 117, 110, 116, 40]⟩ : ByteArray) ++ i ++ ⟨#[41]⟩ else if f2 = true then (⟨#[115, 117, 109, 40]⟩ : ByteArray) ++ i ++ ⟨#[41]⟩
      else if f3 = true then (⟨#[109, 105, 110, 40]⟩ : ByteArray) ++ i ++ ⟨#[41]⟩ else if f4 = true then (⟨#[109, 97, 120, 40]⟩ : ByteArray) ++ i ++ ⟨#[41]⟩ else i)) := by
    intro f1 f2 f3 f4 g1 g2 g3 g4
    by_cases hn : ts.length = 0
    · have d0 : decide ((0 : Int) < (ts.length : Int)) = false := decide_eq_false (by omega)
      have hi := h0 hn
      subst hi
      cases f1 <;> cases f2 <;> cases f3 <;> cases f4
      all_goals simp only [Bool.false_eq_true, ↓reduceIte]
      all_goals
        refine pure_of_awp Tryz.func19 rfl rfl (by simp [Tryz.f19]) ?_; simp only [go_sem, ↓reduceIte, Nat.reduceEqDiff, Nat.reduceAdd, Nat.reduceLeDiff, Nat.reduceBEq, Nat.reduceMul, reduceCtorEq, Int.reduceLE, Int.reduceLT, Int.reduceAdd, Int.reduceSub, Int.reduceNeg, Int.reduceToNat, Int.reduceBEq]
        repeat' (first | refine awp_seq ?_ | refine awp_block ?_ | refine awp_round ?_ | refine awp_scope ?_ | refine awp_text rfl ?_ | refine awp_any rfl mix (by kernel_rfl) ?_ | (refine RunTo.unguard rfl rfl (fun hg => ?_) (fun hg => ?_) <;> ((try simp only [Bool.not_true, Bool.not_false, Bool.not_eq_true', Bool.not_eq_false', Bool.not_eq_eq_eq_not] at hg); (first | (cases hg) | (simp only [hg]) | skip))) | ((first | refine RunTo.plain rfl ?_ | refine RunTo.skipped rfl ?_); simp only [go_sem, ↓reduceIte, Nat.reduceEqDiff, Nat.reduceAdd, Nat.reduceLeDiff, Nat.reduceBEq, Nat.reduceMul, reduceCtorEq, Int.reduceLE, Int.reduceLT, Int.reduceAdd, Int.reduceSub, Int.reduceNeg, Int.reduceToNat, Int.reduceBEq, d0, g1, g2, g3, g4, List.length_map, ByteArray.size_append, List.size_toArray]) | ((first | refine RunTo.nilA (by kernel_rfl) ?_ | refine RunTo.nilT ?_ | refine awp_skip ?_ | refine awp_exit ?_ | refine awp_label ?_); simp only [go_sem, ↓reduceIte, Nat.reduceEqDiff, Nat.reduceAdd, Nat.reduceLeDiff, Nat.reduceBEq, Nat.reduceMul, reduceCtorEq, Int.reduceLE, Int.reduceLT, Int.reduceAdd, Int.reduceSub, Int.reduceNeg, Int.reduceToNat, Int.reduceBEq, d0, g1, g2, g3, g4, List.length_map, ByteArray.size_append, List.size_toArray]) | (refine awp_cond' rfl (of_decide_eq_true rfl) (fun hc => ?_) (fun hc => ?_) <;> ((try simp only [Bool.not_true, Bool.not_false, Bool.not_eq_true', Bool.not_eq_false', Bool.not_eq_eq_eq_not] at hc); (first | (cases hc) | (simp only [hc]) | skip))))
        all_goals (first | refine awp_ret ?_ | skip); refine ⟨(by first | exact .inl rfl | exact .inr rfl | exact .inr trivial | trivial), ?_⟩; simp only [go_sem, ↓reduceIte, Nat.reduceEqDiff, Nat.reduceAdd, Nat.reduceLeDiff, Nat.reduceBEq, Nat.reduceMul, reduceCtorEq, Int.reduceLE, Int.reduceLT, Int.reduceAdd, Int.reduceSub, Int.reduceNeg, Int.reduceToNat, Int.reduceBEq, retV, resL, resV, sealV, sealC, sealAll, Tryz.f19]
        all_goals rfl
    · have d0 : decide ((0 : Int) < (ts.length : Int)) = true := decide_eq_true (by omega)
      have ht := hS hn
      cases f1 <;> cases f2 <;> cases f3 <;> cases f4
      all_goals simp only [Bool.false_eq_true, ↓reduceIte]
      all_goals
        refine pure_of_awp Tryz.func19 rfl rfl (by simp [Tryz.f19]) ?_; simp only [go_sem, ↓reduceIte, Nat.reduceEqDiff, Nat.reduceAdd, Nat.reduceLeDiff, Nat.reduceBEq, Nat.reduceMul, reduceCtorEq, Int.reduceLE, Int.reduceLT, Int.reduceAdd, Int.reduceSub, Int.reduceNeg, Int.reduceToNat, Int.reduceBEq]
        repeat' (first | refine awp_seq ?_ | refine awp_block ?_ | refine awp_round ?_ | refine awp_scope ?_ | refine awp_text rfl ?_ | refine awp_any rfl mix (by kernel_rfl) ?_ | (refine RunTo.unguard rfl rfl (fun hg => ?_) (fun hg => ?_) <;> ((try simp only [Bool.not_true, Bool.not_false, Bool.not_eq_true', Bool.not_eq_false', Bool.not_eq_eq_eq_not] at hg); (first | (cases hg) | (simp only [hg]) | skip))) | ((first | refine RunTo.plain rfl ?_ | refine RunTo.skipped rfl ?_ | refine RunTo.call (ht) Tryz.func18 rfl rfl rfl rfl rfl rfl rfl rfl ?_); simp only [go_sem, ↓reduceIte, Nat.reduceEqDiff, Nat.reduceAdd, Nat.reduceLeDiff, Nat.reduceBEq, Nat.reduceMul, reduceCtorEq, Int.reduceLE, Int.reduceLT, Int.reduceAdd, Int.reduceSub, Int.reduceNeg, Int.reduceToNat, Int.reduceBEq, d0, g1, g2, g3, g4, z1, z2, z3, z4, List.length_map, ByteArray.size_append, List.size_toArray]) | ((first | refine RunTo.nilA (by kernel_rfl) ?_ | refine RunTo.nilT ?_ | refine awp_skip ?_ | refine awp_exit ?_ | refine awp_label ?_); simp only [go_sem, ↓reduceIte, Nat.reduceEqDiff, Nat.reduceAdd, Nat.reduceLeDiff, Nat.reduceBEq, Nat.reduceMul, reduceCtorEq, Int.reduceLE, Int.reduceLT, Int.reduceAdd, Int.reduceSub, Int.reduceNeg, Int.reduceToNat, Int.reduceBEq, d0, g1, g2, g3, g4, z1, z2, z3, z4, List.length_map, ByteArray.size_append, List.size_toArray]) | (refine awp_cond' rfl (of_decide_eq_true rfl) (fun hc => ?_) (fun hc => ?_) <;> ((try simp only [Bool.not_true, Bool.not_false, Bool.not_eq_true', Bool.not_eq_false', Bool.not_eq_eq_eq_not] at hc); (first | (cases hc) | (simp only [hc]) | skip))))
        all_goals (first | refine awp_ret ?_ | skip); refine ⟨(by first | exact .inl rfl | exact .inr rfl | exact .inr trivial | trivial), ?_⟩; simp only [go_sem, ↓reduceIte, Nat.reduceEqDiff, Nat.reduceAdd, Nat.reduceLeDiff, Nat.reduceBEq, Nat.reduceMul, reduceCtorEq, Int.reduceLE, Int.reduceLT, Int.reduceAdd, Int.reduceSub, Int.reduceNeg, Int.reduceToNat, Int.reduceBEq, retV, resL, resV, sealV, sealC, sealAll, Tryz.f19]
        all_goals rfl
  have := main _ _ _ _ rfl rfl rfl rfl
  simp only [beq_iff_eq] at this
  exact this
end Go.Proofs.YtinpnidokpjfhaaGreatDoor.AM
namespace Go.Proofs.YtinpnidokpjfhaaGreatDoor.AM
open Go.RowKit
set_option linter.unusedSimpArgs false
set_option linter.unusedVariables false
set_option maxRecDepth 10000
set_option maxHeartbeats 0
theorem spotT_big (s : SpotD) (h : OkS s) : (spotT s).size ≤ 400000000 := by
  have hh := headS_big s h
  have hl := h.len
  have hbig := joinB_le (s.props.map propT) sepB 20000000 (fun x hx => by obtain ⟨a, ha, rfl⟩ := List.mem_map.1 hx; exact propT_big a (h.props a ha))
  rw [List.length_map, show sepB.size = 2 from rfl] at hbig
  unfold spotT bodyS
  generalize joinB (s.props.map propT) sepB = j at *
  generalize headS s = hd at *
  have e1 : (⟨#[40]⟩ : ByteArray).size = 1 := rfl
  have e2 : (⟨#[41]⟩ : ByteArray).size = 1 := rfl
  have e3 : (⟨#[32]⟩ : ByteArray).size = 1 := rfl
  have e4 : (⟨#[123]⟩ : ByteArray).size = 1 := rfl
  have e5 : (⟨#[125]⟩ : ByteArray).size = 1 := rfl
  repeat' split
  all_goals (simp only [ByteArray.size_append, e1, e2, e3, e4, e5]; omega)
def hopAt (q : QueryD) (k : Nat) : ByteArray := match q.hops[k]? with
  | some h => hopT h
  | none => eE
def spotAt (q : QueryD) (k : Nat) : ByteArray := match q.spots[k]? with
  | some s => spotT s
  | none => eE
def spotsT (q : QueryD) : Nat → ByteArray
  | 0 => ⟨#[109, 97, 116, 99, 104, 32]⟩
  | k + 1 => (if k = 0 then spotsT q k else spotsT q k ++ hopAt q (k - 1)) ++ spotAt q k
def whT (q : QueryD) : ByteArray := if q.wh.length = 0 then spotsT q q.spots.length else spotsT q q.spots.length ++ ((⟨#[32, 119, 104, 101, 114, 101, 32]⟩ : ByteArray) ++ textS q.wh)
def retT (q : QueryD) : ByteArray := whT q ++ ⟨#[32, 114, 101, 116, 117, 114, 110, 32]⟩
def disT (q : QueryD) : ByteArray := if q.distinct = true then retT q ++ ⟨#[100, 105, 115, 116, 105, 110, 99, 116, 32]⟩ else retT q
def itsT (q : QueryD) : ByteArray := disT q ++ joinB (q.items.map itemT) sepB
def ordT (q : QueryD) : ByteArray := if q.sorts.length = 0 then itsT q else itsT q ++ ((⟨#[32, 111, 114, 100, 101, 114, 32, 98, 121, 32]⟩ : ByteArray) ++ joinB (q.sorts.map sortT) sepB)
abbrev skipW : ByteArray := ⟨#[32, 115, 107, 105, 112, 32]⟩
abbrev limitW : ByteArray := ⟨#[32, 108, 105, 109, 105, 116, 32]⟩
def queryT (q : QueryD) : ByteArray := numT limitW q.limit (numT skipW q.skip (ordT q))
structure OkQ (q : QueryD) : Prop where
  spots : ∀ s ∈ q.spots, OkS s
  nspots : q.spots.length ≤ 9
  hops : ∀ h ∈ q.hops, OkH h
  nhops : q.hops.length + 1 = q.spots.length
  wh : OkTs q.wh
  items : ∀ x ∈ q.items, OkTs x.terms
  nitems : q.items.length ≤ 16
  sorts : ∀ x ∈ q.sorts, i64B x.item
  nsorts : q.sorts.length ≤ 16
  skip : i64B q.skip
  limit : i64B q.limit
theorem hopAt_big (q : QueryD) (h : OkQ q) (k : Nat) : (hopAt q k).size ≤ 3000000 := by
  unfold hopAt
  cases he : q.hops[k]? with
  | none => show 0 ≤ _; omega
  | some x => exact hopT_big x (h.hops x (List.mem_of_getElem? he))
theorem spotAt_big (q : QueryD) (h : OkQ q) (k : Nat) : (spotAt q k).size ≤ 400000000 := by
  unfold spotAt
  cases he : q.spots[k]? with
  | none => show 0 ≤ _; omega
  | some x => exact spotT_big x (h.spots x (List.mem_of_getElem? he))
theorem spotsT_big (q : QueryD) (h : OkQ q) : ∀ k : Nat, (spotsT q k).size ≤ 6 + k * 410000000
  | 0 => by show 6 ≤ _; omega
  | k + 1 => by
    have ih := spotsT_big q h k
    have h1 := hopAt_big q h (k - 1)
    have h2 := spotAt_big q h k
    unfold spotsT
    split
    · rw [ByteArray.size_append]; omega
    · rw [ByteArray.size_append, ByteArray.size_append]; omega
theorem textW_big (q : QueryD) (h : OkQ q) (hn : q.wh.length ≠ 0) : (textS q.wh).size ≤ 100000000000 := by
  obtain ⟨d, hd⟩ := h.wh.one (fun e => hn (by rw [e]; rfl))
  exact textS_size q.wh d hd h.wh.len h.wh.ok
theorem whT_big (q : QueryD) (h : OkQ q) : (whT q).size ≤ 110000000000 := by
  have h1 := spotsT_big q h q.spots.length
  have h2 := h.nspots
  unfold whT
  split
  · omega
  · rename_i hn
    have := textW_big q h hn
    rw [ByteArray.size_append, ByteArray.size_append, show (⟨#[32, 119, 104, 101, 114, 101, 32]⟩ : ByteArray).size = 7 from rfl]
    omega
theorem disT_big (q : QueryD) (h : OkQ q) : (disT q).size ≤ 120000000000 := by
  have h1 := whT_big q h
  unfold disT retT
  split
  · rw [ByteArray.size_append, ByteArray.size_append, show (⟨#[32, 114, 101, 116, 117, 114, 110, 32]⟩ : ByteArray).size = 8 from rfl, show (⟨#[100, 105, 115, 116, 105, 110, 99, 116, 32]⟩ : ByteArray).size = 9 from rfl]; omega
  · rw [ByteArray.size_append, show (⟨#[32, 114, 101, 116, 117, 114, 110, 32]⟩ : ByteArray).size = 8 from rfl]; omega
theorem itemsJ_big (q : QueryD) (h : OkQ q) : (joinB (q.items.map itemT) sepB).size ≤ 1700000000000 := by
  have hn := h.nitems
  have hbig := joinB_le (q.items.map itemT) sepB 100000000010 (fun x hx => by obtain ⟨a, ha, rfl⟩ := List.mem_map.1 hx; exact itemT_big a (h.items a ha))
  rw [List.length_map, show sepB.size = 2 from rfl] at hbig
  omega
theorem sortsJ_big (q : QueryD) (h : OkQ q) : (joinB (q.sorts.map sortT) sepB).size ≤ 1000 := by
  have hn := h.nsorts
  have hbig := joinB_le (q.sorts.map sortT) sepB 26 (fun x hx => by obtain ⟨a, ha, rfl⟩ := List.mem_map.1 hx; exact sortT_big a (h.sorts a ha))
  rw [List.length_map, show sepB.size = 2 from rfl] at hbig
  omega
theorem ordT_big (q : QueryD) (h : OkQ q) : (ordT q).size ≤ 2000000000000 := by
  have h1 := disT_big q h
  have h2 := itemsJ_big q h
  have h3 := sortsJ_big q h
  unfold ordT itsT
  split
  · rw [ByteArray.size_append]; omega
  · rw [ByteArray.size_append, ByteArray.size_append, ByteArray.size_append, show (⟨#[32, 111, 114, 100, 101, 114, 32, 98, 121, 32]⟩ : ByteArray).size = 10 from rfl]; omega
theorem numT_big (w s : ByteArray) (n : Int) (h : i64B n) : (numT w n s).size ≤ s.size + w.size + 21 := by
  have := itB_size n h
  unfold numT
  split
  · rw [ByteArray.size_append, ByteArray.size_append]; omega
  · omega
end Go.Proofs.YtinpnidokpjfhaaGreatDoor.AM
namespace Go.Proofs.YtinpnidokpjfhaaGreatDoor.AM
open Go.RowKit
set_option linter.unusedSimpArgs false
set_option linter.unusedVariables false
set_option maxRecDepth 10000
set_option maxHeartbeats 0
theorem hideQ1 {α : Type} {P : Program} {nt : Nt} {Q : Exit → St → Prop} {st : St} {A R : Code} (S : α → St) (tail : ∀ a, AWP P nt R Q (S a))
    (rest : ∀ R', (∀ a, AWP P nt R' Q (S a)) → AWP P nt (.seq A R') Q st) : AWP P nt (.seq A R) Q st := rest R tail
theorem hideQ2 {α : Type} {P : Program} {nt : Nt} {Q : Exit → St → Prop} {st : St} {A B R : Code} (S : α → St) (tail : ∀ a, AWP P nt R Q (S a))
    (rest : ∀ R', (∀ a, AWP P nt R' Q (S a)) → AWP P nt (.seq A (.seq B R')) Q st) : AWP P nt (.seq A (.seq B R)) Q st := rest R tail
theorem hideQ4 {α : Type} {P : Program} {nt : Nt} {Q : Exit → St → Prop} {st : St} {A B C D R : Code} (S : α → St) (tail : ∀ a, AWP P nt R Q (S a))
    (rest : ∀ R', (∀ a, AWP P nt R' Q (S a)) → AWP P nt (.seq A (.seq B (.seq C (.seq D R')))) Q st) : AWP P nt (.seq A (.seq B (.seq C (.seq D R)))) Q st := rest R tail
abbrev SO (q : QueryD) (o : ByteArray) (T : Nat) : St := ⟨[(3, .ptr 3 5 0 0), (1, .ptr 1 0 0 0)], [(1, .box 0 (cellsQ q)), (3, .box 5 [sv o])], T⟩
abbrev SQa (q : QueryD) (k T : Nat) : St := ⟨[(17, .dat (.lst 3 (q.spots.map SpotD.enc))), (18, iv q.spots.length), (19, iv k), (3, .ptr 3 5 0 0), (1, .ptr 1 0 0 0)], [(1, .box 0 (cellsQ q)), (3, .box 5 [sv (spotsT q k)])], T⟩
def IQa (q : QueryD) (n : Nat) (st : St) : Prop := ∃ k T, k ≤ q.spots.length ∧ n = q.spots.length - k ∧ st = SQa q k T
abbrev SQb (q : QueryD) (k T e m : Nat) (rows : List (List Dat)) : St := ⟨[(57, .dat (.lst 2 (q.items.map ItemD.enc))), (58, iv q.items.length), (59, iv k), (6, .slc 67 e 0 m), (7, .lit (.slice none 0 0)), (3, .ptr 3 5 0 0), (1, .ptr 1 0 0 0)], [(1, .box 0 (cellsQ q)), (3, .box 5 [sv (disT q)]), (67, .arr e 1 rows)], T⟩
def IQb (q : QueryD) (n : Nat) (st : St) : Prop := ∃ k T e m rows, k ≤ q.items.length ∧ n = q.items.length - k ∧ m = ((q.items.take k).map itemT).length ∧ rows = sl ((q.items.take k).map itemT) ∧ st = SQb q k T e m rows
abbrev SQc (q : QueryD) (k T e m : Nat) (rows : List (List Dat)) : St := ⟨[(74, .dat (.lst 2 (q.sorts.map SortD.enc))), (75, iv q.sorts.length), (76, iv k), (7, .slc 84 e 0 m), (3, .ptr 3 5 0 0), (1, .ptr 1 0 0 0)], [(1, .box 0 (cellsQ q)), (3, .box 5 [sv (itsT q)]), (84, .arr e 1 rows)], T⟩
def IQc (q : QueryD) (n : Nat) (st : St) : Prop := ∃ k T e m rows, k ≤ q.sorts.length ∧ n = q.sorts.length - k ∧ m = ((q.sorts.take k).map sortT).length ∧ rows = sl ((q.sorts.take k).map sortT) ∧ st = SQc q k T e m rows
theorem c_PrintQ (q : QueryD) (hq : SmallQ q) (ho : OkQ q) (hfq : fineQ q = true) : Pure Tryz.prog 8 [q.av] (sv (queryT q)) := by
  have hf := c_fineQ q hq
  rw [hfq] at hf
  have hns := ho.nspots
  have hnh := ho.nhops
  refine pure_of_awp Tryz.func8 rfl rfl (by simp [Tryz.f8]) ?_; simp only [go_sem, ↓reduceIte, Nat.reduceEqDiff, Nat.reduceAdd, Nat.reduceLeDiff, Nat.reduceBEq, Nat.reduceMul, reduceCtorEq, Int.reduceLE, Int.reduceLT, Int.reduceAdd, Int.reduceSub, Int.reduceNeg, Int.reduceToNat, Int.reduceBEq]
  refine hideQ4 (fun T => SO q (spotsT q q.spots.length) T) ?_ ?_
  · intro T
    refine hideQ1 (fun T => SO q (whT q) T) ?_ ?_
    · intro T
      refine hideQ2 (fun T => SO q (disT q) T) ?_ ?_
      · intro T
        refine hideQ3 (α := Nat) (fun _ => True) (fun T => ⟨[(7, .lit (.slice none 0 0)), (3, .ptr 3 5 0 0), (1, .ptr 1 0 0 0)], [(1, .box 0 (cellsQ q)), (3, .box 5 [sv (itsT q)])], T⟩) ?_ ?_
        · intro T _
          refine hideQ2 (fun T => SO q (ordT q) T) ?_ ?_
          · intro T
            have hb := ordT_big q ho
            have hb2 := numT_big skipW (ordT q) q.skip ho.skip
            have n1 := c_numT skipW (ordT q) q.skip ho.skip (by decide) (by omega)
            have n2 := c_numT limitW (numT skipW q.skip (ordT q)) q.limit ho.limit (by decide) (by have : skipW.size = 6 := rfl; omega)
            unfold queryT
            repeat' (first | refine awp_seq ?_ | refine awp_block ?_ | refine awp_round ?_ | refine awp_scope ?_ | refine awp_text rfl ?_ | refine awp_any rfl mix (by kernel_rfl) ?_ | (refine RunTo.unguard rfl rfl (fun hg => ?_) (fun hg => ?_) <;> ((try simp only [Bool.not_true, Bool.not_false, Bool.not_eq_true', Bool.not_eq_false', Bool.not_eq_eq_eq_not] at hg); (first | (cases hg) | (simp only [hg]) | skip))) | ((first | refine RunTo.plain rfl ?_ | refine RunTo.skipped rfl ?_); simp only [go_sem, ↓reduceIte, Nat.reduceEqDiff, Nat.reduceAdd, Nat.reduceLeDiff, Nat.reduceBEq, Nat.reduceMul, reduceCtorEq, Int.reduceLE, Int.reduceLT, Int.reduceAdd, Int.reduceSub, Int.reduceNeg, Int.reduceToNat, Int.reduceBEq]) | (refine RunTo.actsE (n1) Tryz.func22 rfl rfl rfl rfl rfl rfl ?_; simp only [go_sem, ↓reduceIte, Nat.reduceEqDiff, Nat.reduceAdd, Nat.reduceLeDiff, Nat.reduceBEq, Nat.reduceMul, reduceCtorEq, Int.reduceLE, Int.reduceLT, Int.reduceAdd, Int.reduceSub, Int.reduceNeg, Int.reduceToNat, Int.reduceBEq]; (repeat' refine And.intro rfl ?_); with_reducible refine RunTo.this ?_) | (refine RunTo.actsE (n2) Tryz.func22 rfl rfl rfl rfl rfl rfl ?_; simp only [go_sem, ↓reduceIte, Nat.reduceEqDiff, Nat.reduceAdd, Nat.reduceLeDiff, Nat.reduceBEq, Nat.reduceMul, reduceCtorEq, Int.reduceLE, Int.reduceLT, Int.reduceAdd, Int.reduceSub, Int.reduceNeg, Int.reduceToNat, Int.reduceBEq]; (repeat' refine And.intro rfl ?_); with_reducible refine RunTo.this ?_) | ((first | refine RunTo.nilA (by kernel_rfl) ?_ | refine RunTo.nilT ?_ | refine awp_skip ?_ | refine awp_exit ?_ | refine awp_label ?_); simp only [go_sem, ↓reduceIte, Nat.reduceEqDiff, Nat.reduceAdd, Nat.reduceLeDiff, Nat.reduceBEq, Nat.reduceMul, reduceCtorEq, Int.reduceLE, Int.reduceLT, Int.reduceAdd, Int.reduceSub, Int.reduceNeg, Int.reduceToNat, Int.reduceBEq]) | (refine awp_cond' rfl (of_decide_eq_true rfl) (fun hc => ?_) (fun hc => ?_) <;> ((try simp only [Bool.not_true, Bool.not_false, Bool.not_eq_true', Bool.not_eq_false', Bool.not_eq_eq_eq_not] at hc); (first | (cases hc) | (simp only [hc]) | skip))))
            all_goals (first | refine awp_ret ?_ | skip); refine ⟨(by first | exact .inl rfl | exact .inr rfl | exact .inr trivial | trivial), ?_⟩; simp only [go_sem, ↓reduceIte, Nat.reduceEqDiff, Nat.reduceAdd, Nat.reduceLeDiff, Nat.reduceBEq, Nat.reduceMul, reduceCtorEq, Int.reduceLE, Int.reduceLT, Int.reduceAdd, Int.reduceSub, Int.reduceNeg, Int.reduceToNat, Int.reduceBEq, retV, resL, resV, sealV, sealC, sealAll, Tryz.f8]
            all_goals rfl
          · intro R' main
            have hns := ho.nsorts
            repeat' (first | refine awp_seq ?_ | refine awp_block ?_ | refine awp_round ?_ | refine awp_scope ?_ | refine awp_text rfl ?_ | refine awp_any rfl mix (by kernel_rfl) ?_ | (refine RunTo.unguard rfl rfl (fun hg => ?_) (fun hg => ?_) <;> ((try simp only [Bool.not_true, Bool.not_false, Bool.not_eq_true', Bool.not_eq_false', Bool.not_eq_eq_eq_not] at hg); (first | (cases hg) | (simp only [hg]) | skip))) | ((first | refine RunTo.plain rfl ?_ | refine RunTo.skipped rfl ?_); simp only [go_sem, ↓reduceIte, Nat.reduceEqDiff, Nat.reduceAdd, Nat.reduceLeDiff, Nat.reduceBEq, Nat.reduceMul, reduceCtorEq, Int.reduceLE, Int.reduceLT, Int.reduceAdd, Int.reduceSub, Int.reduceNeg, Int.reduceToNat, Int.reduceBEq, List.length_map]) | ((first | refine RunTo.nilA (by kernel_rfl) ?_ | refine RunTo.nilT ?_ | refine awp_skip ?_ | refine awp_exit ?_ | refine awp_label ?_); simp only [go_sem, ↓reduceIte, Nat.reduceEqDiff, Nat.reduceAdd, Nat.reduceLeDiff, Nat.reduceBEq, Nat.reduceMul, reduceCtorEq, Int.reduceLE, Int.reduceLT, Int.reduceAdd, Int.reduceSub, Int.reduceNeg, Int.reduceToNat, Int.reduceBEq, List.length_map]) | (refine awp_cond' rfl (of_decide_eq_true rfl) (fun hc => ?_) (fun hc => ?_) <;> ((try simp only [Bool.not_true, Bool.not_false, Bool.not_eq_true', Bool.not_eq_false', Bool.not_eq_eq_eq_not] at hc); (first | (cases hc) | (simp only [hc]) | skip))))
            refine awp_weak (weak_nil (t := 7) (s := 84) (sz := 1) (of_decide_eq_true rfl) rfl) ?_
            simp only [go_sem, ↓reduceIte, Nat.reduceEqDiff, Nat.reduceAdd, Nat.reduceLeDiff, Nat.reduceBEq, Nat.reduceMul, reduceCtorEq, Int.reduceLE, Int.reduceLT, Int.reduceAdd, Int.reduceSub, Int.reduceNeg, Int.reduceToNat, Int.reduceBEq]
            refine awp_loopw (IQc q) q.sorts.length (SQc q 0 _ _ _ []) (weak_keep ⟨rfl, rfl, rfl, rfl, rfl, rfl, trivial⟩ ⟨rfl, rfl, rfl, trivial⟩ (Nat.le_refl _)) ⟨0, _, _, _, _, Nat.zero_le _, rfl, rfl, rfl, rfl⟩ ?_
            rintro n st ⟨k, T, e, m, rows, hk, rfl, hm, hrows, rfl⟩
            have hml : m = k := by rw [hm]; simp; omega
            have hrl : rows.length = m := by rw [hrows, List.length_map, hm]
            have htr : List.take m rows = rows := List.take_of_length_le (by omega)
            by_cases hlt : k < q.sorts.length
            · have hdec := lt_t hlt
              have hget := row_at SortD.enc q.sorts k hlt
              have htk : (q.sorts.take (k + 1)).map sortT = (q.sorts.take k).map sortT ++ [sortT q.sorts[k]] := by rw [List.take_succ_eq_append_getElem hlt, List.map_append]; rfl
              have hwk : IntKind.i64.wrap ((k : Int) + 1) = ((k + 1 : Nat) : Int) := wrap_succ (by omega)
              have hp := c_sortT q.sorts[k] (ho.sorts _ (List.getElem_mem hlt))
              generalize q.sorts[k] = p at *
              have c1 : ((m + 1) * 16 ≤ 140737488355328) = True := eq_true (by omega)
              have hle : (m ≤ rows.length) = True := eq_true (by omega)
              repeat' (first | refine awp_seq ?_ | refine awp_block ?_ | refine awp_round ?_ | refine awp_scope ?_ | refine awp_text rfl ?_ | refine awp_any rfl mix (by kernel_rfl) ?_ | (refine RunTo.unguard rfl rfl (fun hg => ?_) (fun hg => ?_) <;> ((try simp only [Bool.not_true, Bool.not_false, Bool.not_eq_true', Bool.not_eq_false', Bool.not_eq_eq_eq_not] at hg); (first | (cases hg) | (simp only [hg]) | skip))) | ((first | refine RunTo.plain rfl ?_ | refine RunTo.skipped rfl ?_ | refine RunTo.call (hp) Tryz.func21 rfl rfl rfl rfl rfl rfl rfl rfl ?_); simp only [go_sem, ↓reduceIte, Nat.reduceEqDiff, Nat.reduceAdd, Nat.reduceLeDiff, Nat.reduceBEq, Nat.reduceMul, reduceCtorEq, Int.reduceLE, Int.reduceLT, Int.reduceAdd, Int.reduceSub, Int.reduceNeg, Int.reduceToNat, Int.reduceBEq, hdec, hget, hwk, c1, htr, hrl, SortD.enc, SortD.av, lenTy, implies_true]) | ((first | refine RunTo.nilA (by kernel_rfl) ?_ | refine RunTo.nilT ?_ | refine awp_skip ?_ | refine awp_exit ?_ | refine awp_label ?_); simp only [go_sem, ↓reduceIte, Nat.reduceEqDiff, Nat.reduceAdd, Nat.reduceLeDiff, Nat.reduceBEq, Nat.reduceMul, reduceCtorEq, Int.reduceLE, Int.reduceLT, Int.reduceAdd, Int.reduceSub, Int.reduceNeg, Int.reduceToNat, Int.reduceBEq, hdec, hget, hwk, c1, htr, hrl, SortD.enc, SortD.av, lenTy, implies_true]) | (refine awp_cond' rfl (of_decide_eq_true rfl) (fun hc => ?_) (fun hc => ?_) <;> ((try simp only [Bool.not_true, Bool.not_false, Bool.not_eq_true', Bool.not_eq_false', Bool.not_eq_eq_eq_not] at hc); (first | (cases hc) | (simp only [hc]) | skip))))
              all_goals exact ⟨q.sorts.length - (k + 1), by omega, SQc q (k + 1) _ _ (m + 1) (rows ++ [[ds' (sortT p)]]), weak_keep ⟨rfl, rfl, rfl, rfl, rfl, rfl, trivial⟩ ⟨rfl, rfl, rfl, trivial⟩ (Nat.le_refl _), k + 1, _, _, _, _, by omega, rfl, by rw [htk, List.length_append, ← hm]; rfl, by rw [htk, hrows]; simp, rfl⟩
            · have hdec := lt_f hlt
              have hall : q.sorts.take k = q.sorts := List.take_of_length_le (by omega)
              rw [hall] at hm hrows
              have hib : (itsT q).size ≤ 2000000000000 := by
                have h1 := disT_big q ho
                have h2 := itemsJ_big q ho
                unfold itsT
                rw [ByteArray.size_append]
                omega
              have hjb := sortsJ_big q ho
              have hj := c_Join (q.sorts.map sortT) sepB (by simp; omega) (by omega)
              have hrows' : rows = sl (q.sorts.map sortT) := hrows
              rw [← hrows'] at hj
              by_cases h0 : q.sorts.length = 0
              · have d0 : decide ((0 : Int) < (m : Int)) = false := decide_eq_false (by omega)
                rw [show ordT q = itsT q from if_pos h0] at main
                repeat' (first | refine awp_seq ?_ | refine awp_block ?_ | refine awp_round ?_ | refine awp_scope ?_ | refine awp_text rfl ?_ | refine awp_any rfl mix (by kernel_rfl) ?_ | (refine RunTo.unguard rfl rfl (fun hg => ?_) (fun hg => ?_) <;> ((try simp only [Bool.not_true, Bool.not_false, Bool.not_eq_true', Bool.not_eq_false', Bool.not_eq_eq_eq_not] at hg); (first | (cases hg) | (simp only [hg]) | skip))) | ((first | refine RunTo.plain rfl ?_ | refine RunTo.skipped rfl ?_); simp only [go_sem, ↓reduceIte, Nat.reduceEqDiff, Nat.reduceAdd, Nat.reduceLeDiff, Nat.reduceBEq, Nat.reduceMul, reduceCtorEq, Int.reduceLE, Int.reduceLT, Int.reduceAdd, Int.reduceSub, Int.reduceNeg, Int.reduceToNat, Int.reduceBEq, hdec, hrl, htr, d0]) | ((first | refine RunTo.nilA (by kernel_rfl) ?_ | refine RunTo.nilT ?_ | refine awp_skip ?_ | refine awp_exit ?_ | refine awp_label ?_); simp only [go_sem, ↓reduceIte, Nat.reduceEqDiff, Nat.reduceAdd, Nat.reduceLeDiff, Nat.reduceBEq, Nat.reduceMul, reduceCtorEq, Int.reduceLE, Int.reduceLT, Int.reduceAdd, Int.reduceSub, Int.reduceNeg, Int.reduceToNat, Int.reduceBEq, hdec, hrl, htr, d0]) | (refine awp_cond' rfl (of_decide_eq_true rfl) (fun hc => ?_) (fun hc => ?_) <;> ((try simp only [Bool.not_true, Bool.not_false, Bool.not_eq_true', Bool.not_eq_false', Bool.not_eq_eq_eq_not] at hc); (first | (cases hc) | (simp only [hc]) | skip))))
                all_goals exact awp_weak (st' := SO q _ _) (weak_keep ⟨rfl, rfl, trivial⟩ ⟨rfl, rfl, trivial⟩ (Nat.le_refl _)) (main _)
              · have d0 : decide ((0 : Int) < (m : Int)) = true := decide_eq_true (by omega)
                rw [show ordT q = itsT q ++ ((⟨#[32, 111, 114, 100, 101, 114, 32, 98, 121, 32]⟩ : ByteArray) ++ joinB (q.sorts.map sortT) sepB) from if_neg h0] at main
                generalize joinB (q.sorts.map sortT) sepB = jj at *
                have z1 : (10 + jj.size ≤ 9223372036854775807) = True := eq_true (by omega)
                have z2 : ((itsT q).size + (10 + jj.size) ≤ 9223372036854775807) = True := eq_true (by omega)
                repeat' (first | refine awp_seq ?_ | refine awp_block ?_ | refine awp_round ?_ | refine awp_scope ?_ | refine awp_text rfl ?_ | refine awp_any rfl mix (by kernel_rfl) ?_ | (refine RunTo.unguard rfl rfl (fun hg => ?_) (fun hg => ?_) <;> ((try simp only [Bool.not_true, Bool.not_false, Bool.not_eq_true', Bool.not_eq_false', Bool.not_eq_eq_eq_not] at hg); (first | (cases hg) | (simp only [hg]) | skip))) | ((first | refine RunTo.plain rfl ?_ | refine RunTo.skipped rfl ?_); simp only [go_sem, ↓reduceIte, Nat.reduceEqDiff, Nat.reduceAdd, Nat.reduceLeDiff, Nat.reduceBEq, Nat.reduceMul, reduceCtorEq, Int.reduceLE, Int.reduceLT, Int.reduceAdd, Int.reduceSub, Int.reduceNeg, Int.reduceToNat, Int.reduceBEq, hdec, hrl, htr, d0, z1, z2, Nat.le_refl, ByteArray.size_append, List.size_toArray]) | (refine RunTo.lentE (hj) Tryz.func20 rfl rfl rfl rfl rfl rfl ?_; simp only [go_sem, ↓reduceIte, Nat.reduceEqDiff, Nat.reduceAdd, Nat.reduceLeDiff, Nat.reduceBEq, Nat.reduceMul, reduceCtorEq, Int.reduceLE, Int.reduceLT, Int.reduceAdd, Int.reduceSub, Int.reduceNeg, Int.reduceToNat, Int.reduceBEq, hdec, hrl, htr, d0, z1, z2, Nat.le_refl, ByteArray.size_append, List.size_toArray, Option.some.injEq, List.cons.injEq]; (repeat' refine And.intro rfl ?_); with_reducible refine RunTo.this ?_) | ((first | refine RunTo.nilA (by kernel_rfl) ?_ | refine RunTo.nilT ?_ | refine awp_skip ?_ | refine awp_exit ?_ | refine awp_label ?_); simp only [go_sem, ↓reduceIte, Nat.reduceEqDiff, Nat.reduceAdd, Nat.reduceLeDiff, Nat.reduceBEq, Nat.reduceMul, reduceCtorEq, Int.reduceLE, Int.reduceLT, Int.reduceAdd, Int.reduceSub, Int.reduceNeg, Int.reduceToNat, Int.reduceBEq, hdec, hrl, htr, d0, z1, z2, Nat.le_refl, ByteArray.size_append, List.size_toArray]) | (refine awp_cond' rfl (of_decide_eq_true rfl) (fun hc => ?_) (fun hc => ?_) <;> ((try simp only [Bool.not_true, Bool.not_false, Bool.not_eq_true', Bool.not_eq_false', Bool.not_eq_eq_eq_not] at hc); (first | (cases hc) | (simp only [hc]) | skip))))
                all_goals exact awp_weak (st' := SO q _ _) (weak_keep ⟨rfl, rfl, trivial⟩ ⟨rfl, rfl, trivial⟩ (Nat.le_refl _)) (main _)
        · intro R' main
          have hni := ho.nitems
          repeat' (first | refine awp_seq ?_ | refine awp_block ?_ | refine awp_round ?_ | refine awp_scope ?_ | refine awp_text rfl ?_ | refine awp_any rfl mix (by kernel_rfl) ?_ | (refine RunTo.unguard rfl rfl (fun hg => ?_) (fun hg => ?_) <;> ((try simp only [Bool.not_true, Bool.not_false, Bool.not_eq_true', Bool.not_eq_false', Bool.not_eq_eq_eq_not] at hg); (first | (cases hg) | (simp only [hg]) | skip))) | ((first | refine RunTo.plain rfl ?_ | refine RunTo.skipped rfl ?_); simp only [go_sem, ↓reduceIte, Nat.reduceEqDiff, Nat.reduceAdd, Nat.reduceLeDiff, Nat.reduceBEq, Nat.reduceMul, reduceCtorEq, Int.reduceLE, Int.reduceLT, Int.reduceAdd, Int.reduceSub, Int.reduceNeg, Int.reduceToNat, Int.reduceBEq, List.length_map]) | ((first | refine RunTo.nilA (by kernel_rfl) ?_ | refine RunTo.nilT ?_ | refine awp_skip ?_ | refine awp_exit ?_ | refine awp_label ?_); simp only [go_sem, ↓reduceIte, Nat.reduceEqDiff, Nat.reduceAdd, Nat.reduceLeDiff, Nat.reduceBEq, Nat.reduceMul, reduceCtorEq, Int.reduceLE, Int.reduceLT, Int.reduceAdd, Int.reduceSub, Int.reduceNeg, Int.reduceToNat, Int.reduceBEq, List.length_map]) | (refine awp_cond' rfl (of_decide_eq_true rfl) (fun hc => ?_) (fun hc => ?_) <;> ((try simp only [Bool.not_true, Bool.not_false, Bool.not_eq_true', Bool.not_eq_false', Bool.not_eq_eq_eq_not] at hc); (first | (cases hc) | (simp only [hc]) | skip))))
          refine awp_weak (weak_nil (t := 6) (s := 67) (sz := 1) (of_decide_eq_true rfl) rfl) ?_
          simp only [go_sem, ↓reduceIte, Nat.reduceEqDiff, Nat.reduceAdd, Nat.reduceLeDiff, Nat.reduceBEq, Nat.reduceMul, reduceCtorEq, Int.reduceLE, Int.reduceLT, Int.reduceAdd, Int.reduceSub, Int.reduceNeg, Int.reduceToNat, Int.reduceBEq]
          refine awp_loopw (IQb q) q.items.length (SQb q 0 _ _ _ []) (weak_keep ⟨rfl, rfl, rfl, rfl, rfl, rfl, rfl, trivial⟩ ⟨rfl, rfl, rfl, trivial⟩ (Nat.le_refl _)) ⟨0, _, _, _, _, Nat.zero_le _, rfl, rfl, rfl, rfl⟩ ?_
          rintro n st ⟨k, T, e, m, rows, hk, rfl, hm, hrows, rfl⟩
          have hml : m = k := by rw [hm]; simp; omega
          have hrl : rows.length = m := by rw [hrows, List.length_map, hm]
          have htr : List.take m rows = rows := List.take_of_length_le (by omega)
          by_cases hlt : k < q.items.length
          · have hdec := lt_t hlt
            have hget := row_at ItemD.enc q.items k hlt
            have htk : (q.items.take (k + 1)).map itemT = (q.items.take k).map itemT ++ [itemT q.items[k]] := by rw [List.take_succ_eq_append_getElem hlt, List.map_append]; rfl
            have hwk : IntKind.i64.wrap ((k : Int) + 1) = ((k + 1 : Nat) : Int) := wrap_succ (by omega)
            have hp := c_itemT1 q.items[k] (ho.items _ (List.getElem_mem hlt))
            generalize q.items[k] = p at *
            have c1 : ((m + 1) * 16 ≤ 140737488355328) = True := eq_true (by omega)
            have hle : (m ≤ rows.length) = True := eq_true (by omega)
            repeat' (first | refine awp_seq ?_ | refine awp_block ?_ | refine awp_round ?_ | refine awp_scope ?_ | refine awp_text rfl ?_ | refine awp_any rfl mix (by kernel_rfl) ?_ | (refine RunTo.unguard rfl rfl (fun hg => ?_) (fun hg => ?_) <;> ((try simp only [Bool.not_true, Bool.not_false, Bool.not_eq_true', Bool.not_eq_false', Bool.not_eq_eq_eq_not] at hg); (first | (cases hg) | (simp only [hg]) | skip))) | ((first | refine RunTo.plain rfl ?_ | refine RunTo.skipped rfl ?_ | refine RunTo.call (hp) Tryz.func19 rfl rfl rfl rfl rfl rfl rfl rfl ?_); simp only [go_sem, ↓reduceIte, Nat.reduceEqDiff, Nat.reduceAdd, Nat.reduceLeDiff, Nat.reduceBEq, Nat.reduceMul, reduceCtorEq, Int.reduceLE, Int.reduceLT, Int.reduceAdd, Int.reduceSub, Int.reduceNeg, Int.reduceToNat, Int.reduceBEq, hdec, hget, hwk, c1, htr, hrl, ItemD.enc, ItemD.av, lenTy, implies_true]) | ((first | refine RunTo.nilA (by kernel_rfl) ?_ | refine RunTo.nilT ?_ | refine awp_skip ?_ | refine awp_exit ?_ | refine awp_label ?_); simp only [go_sem, ↓reduceIte, Nat.reduceEqDiff, Nat.reduceAdd, Nat.reduceLeDiff, Nat.reduceBEq, Nat.reduceMul, reduceCtorEq, Int.reduceLE, Int.reduceLT, Int.reduceAdd, Int.reduceSub, Int.reduceNeg, Int.reduceToNat, Int.reduceBEq, hdec, hget, hwk, c1, htr, hrl, ItemD.enc, ItemD.av, lenTy, implies_true]) | (refine awp_cond' rfl (of_decide_eq_true rfl) (fun hc => ?_) (fun hc => ?_) <;> ((try simp only [Bool.not_true, Bool.not_false, Bool.not_eq_true', Bool.not_eq_false', Bool.not_eq_eq_eq_not] at hc); (first | (cases hc) | (simp only [hc]) | skip))))
            all_goals exact ⟨q.items.length - (k + 1), by omega, SQb q (k + 1) _ _ (m + 1) (rows ++ [[ds' (itemT p)]]), weak_keep ⟨rfl, rfl, rfl, rfl, rfl, rfl, rfl, trivial⟩ ⟨rfl, rfl, rfl, trivial⟩ (Nat.le_refl _), k + 1, _, _, _, _, by omega, rfl, by rw [htk, List.length_append, ← hm]; rfl, by rw [htk, hrows]; simp, rfl⟩
          · have hdec := lt_f hlt
            have hall : q.items.take k = q.items := List.take_of_length_le (by omega)
            rw [hall] at hm hrows
            have hdb := disT_big q ho
            have hjb := itemsJ_big q ho
            have hj := c_Join (q.items.map itemT) sepB (by simp; omega) (by omega)
            have hrows' : rows = sl (q.items.map itemT) := hrows
            rw [← hrows'] at hj
            rw [show itsT q = disT q ++ joinB (q.items.map itemT) sepB from rfl] at main
            generalize joinB (q.items.map itemT) sepB = jj at *
            have z1 : ((disT q).size + jj.size ≤ 9223372036854775807) = True := eq_true (by omega)
            repeat' (first | refine awp_seq ?_ | refine awp_block ?_ | refine awp_round ?_ | refine awp_scope ?_ | refine awp_text rfl ?_ | refine awp_any rfl mix (by kernel_rfl) ?_ | (refine RunTo.unguard rfl rfl (fun hg => ?_) (fun hg => ?_) <;> ((try simp only [Bool.not_true, Bool.not_false, Bool.not_eq_true', Bool.not_eq_false', Bool.not_eq_eq_eq_not] at hg); (first | (cases hg) | (simp only [hg]) | skip))) | ((first | refine RunTo.plain rfl ?_ | refine RunTo.skipped rfl ?_); simp only [go_sem, ↓reduceIte, Nat.reduceEqDiff, Nat.reduceAdd, Nat.reduceLeDiff, Nat.reduceBEq, Nat.reduceMul, reduceCtorEq, Int.reduceLE, Int.reduceLT, Int.reduceAdd, Int.reduceSub, Int.reduceNeg, Int.reduceToNat, Int.reduceBEq, hdec, hrl, htr, z1, Nat.le_refl, ByteArray.size_append, List.size_toArray]) | (refine RunTo.lentE (hj) Tryz.func20 rfl rfl rfl rfl rfl rfl ?_; simp only [go_sem, ↓reduceIte, Nat.reduceEqDiff, Nat.reduceAdd, Nat.reduceLeDiff, Nat.reduceBEq, Nat.reduceMul, reduceCtorEq, Int.reduceLE, Int.reduceLT, Int.reduceAdd, Int.reduceSub, Int.reduceNeg, Int.reduceToNat, Int.reduceBEq, hdec, hrl, htr, z1, Nat.le_refl, ByteArray.size_append, List.size_toArray, Option.some.injEq, List.cons.injEq]; (repeat' refine And.intro rfl ?_); with_reducible refine RunTo.this ?_) | ((first | refine RunTo.nilA (by kernel_rfl) ?_ | refine RunTo.nilT ?_ | refine awp_skip ?_ | refine awp_exit ?_ | refine awp_label ?_); simp only [go_sem, ↓reduceIte, Nat.reduceEqDiff, Nat.reduceAdd, Nat.reduceLeDiff, Nat.reduceBEq, Nat.reduceMul, reduceCtorEq, Int.reduceLE, Int.reduceLT, Int.reduceAdd, Int.reduceSub, Int.reduceNeg, Int.reduceToNat, Int.reduceBEq, hdec, hrl, htr, z1, Nat.le_refl, ByteArray.size_append, List.size_toArray]) | (refine awp_cond' rfl (of_decide_eq_true rfl) (fun hc => ?_) (fun hc => ?_) <;> ((try simp only [Bool.not_true, Bool.not_false, Bool.not_eq_true', Bool.not_eq_false', Bool.not_eq_eq_eq_not] at hc); (first | (cases hc) | (simp only [hc]) | skip))))
            all_goals exact awp_weak (st' := ⟨[(7, .lit (.slice none 0 0)), (3, .ptr 3 5 0 0), (1, .ptr 1 0 0 0)], [(1, .box 0 (cellsQ q)), (3, .box 5 [sv _])], _⟩) (weak_keep ⟨rfl, rfl, rfl, trivial⟩ ⟨rfl, rfl, trivial⟩ (Nat.le_refl _)) (main _ trivial)
      · intro R' main
        have hb := whT_big q ho
        have z1 : ((whT q).size + 8 ≤ 9223372036854775807) = True := eq_true (by omega)
        have z2 : ((whT q).size + 8 + 9 ≤ 9223372036854775807) = True := eq_true (by omega)
        cases hd : q.distinct with
        | true =>
          rw [show disT q = whT q ++ ⟨#[32, 114, 101, 116, 117, 114, 110, 32]⟩ ++ ⟨#[100, 105, 115, 116, 105, 110, 99, 116, 32]⟩ from by unfold disT retT; rw [if_pos hd]] at main
          repeat' (first | refine awp_seq ?_ | refine awp_block ?_ | refine awp_round ?_ | refine awp_scope ?_ | refine awp_text rfl ?_ | refine awp_any rfl mix (by kernel_rfl) ?_ | (refine RunTo.unguard rfl rfl (fun hg => ?_) (fun hg => ?_) <;> ((try simp only [Bool.not_true, Bool.not_false, Bool.not_eq_true', Bool.not_eq_false', Bool.not_eq_eq_eq_not] at hg); (first | (cases hg) | (simp only [hg]) | skip))) | ((first | refine RunTo.plain rfl ?_ | refine RunTo.skipped rfl ?_); simp only [go_sem, ↓reduceIte, Nat.reduceEqDiff, Nat.reduceAdd, Nat.reduceLeDiff, Nat.reduceBEq, Nat.reduceMul, reduceCtorEq, Int.reduceLE, Int.reduceLT, Int.reduceAdd, Int.reduceSub, Int.reduceNeg, Int.reduceToNat, Int.reduceBEq, hd, z1, z2, ByteArray.size_append, List.size_toArray]) | ((first | refine RunTo.nilA (by kernel_rfl) ?_ | refine RunTo.nilT ?_ | refine awp_skip ?_ | refine awp_exit ?_ | refine awp_label ?_); simp only [go_sem, ↓reduceIte, Nat.reduceEqDiff, Nat.reduceAdd, Nat.reduceLeDiff, Nat.reduceBEq, Nat.reduceMul, reduceCtorEq, Int.reduceLE, Int.reduceLT, Int.reduceAdd, Int.reduceSub, Int.reduceNeg, Int.reduceToNat, Int.reduceBEq, hd, z1, z2, ByteArray.size_append, List.size_toArray]) | (refine awp_cond' rfl (of_decide_eq_true rfl) (fun hc => ?_) (fun hc => ?_) <;> ((try simp only [Bool.not_true, Bool.not_false, Bool.not_eq_true', Bool.not_eq_false', Bool.not_eq_eq_eq_not] at hc); (first | (cases hc) | (simp only [hc]) | skip))))
          all_goals exact awp_weak (st' := SO q _ _) (weak_keep ⟨rfl, rfl, trivial⟩ ⟨by simp only [go_sem, ↓reduceIte, Nat.reduceEqDiff, Nat.reduceAdd, Nat.reduceLeDiff, Nat.reduceBEq, Nat.reduceMul, reduceCtorEq, Int.reduceLE, Int.reduceLT, Int.reduceAdd, Int.reduceSub, Int.reduceNeg, Int.reduceToNat, Int.reduceBEq, hd], by simp only [go_sem, ↓reduceIte, Nat.reduceEqDiff, Nat.reduceAdd, Nat.reduceLeDiff, Nat.reduceBEq, Nat.reduceMul, reduceCtorEq, Int.reduceLE, Int.reduceLT, Int.reduceAdd, Int.reduceSub, Int.reduceNeg, Int.reduceToNat, Int.reduceBEq], trivial⟩ (Nat.le_refl _)) (main _)
        | false =>
          rw [show disT q = whT q ++ ⟨#[32, 114, 101, 116, 117, 114, 110, 32]⟩ from by unfold disT retT; rw [if_neg (by rw [hd]; simp)]] at main
          repeat' (first | refine awp_seq ?_ | refine awp_block ?_ | refine awp_round ?_ | refine awp_scope ?_ | refine awp_text rfl ?_ | refine awp_any rfl mix (by kernel_rfl) ?_ | (refine RunTo.unguard rfl rfl (fun hg => ?_) (fun hg => ?_) <;> ((try simp only [Bool.not_true, Bool.not_false, Bool.not_eq_true', Bool.not_eq_false', Bool.not_eq_eq_eq_not] at hg); (first | (cases hg) | (simp only [hg]) | skip))) | ((first | refine RunTo.plain rfl ?_ | refine RunTo.skipped rfl ?_); simp only [go_sem, ↓reduceIte, Nat.reduceEqDiff, Nat.reduceAdd, Nat.reduceLeDiff, Nat.reduceBEq, Nat.reduceMul, reduceCtorEq, Int.reduceLE, Int.reduceLT, Int.reduceAdd, Int.reduceSub, Int.reduceNeg, Int.reduceToNat, Int.reduceBEq, hd, z1, z2, ByteArray.size_append, List.size_toArray]) | ((first | refine RunTo.nilA (by kernel_rfl) ?_ | refine RunTo.nilT ?_ | refine awp_skip ?_ | refine awp_exit ?_ | refine awp_label ?_); simp only [go_sem, ↓reduceIte, Nat.reduceEqDiff, Nat.reduceAdd, Nat.reduceLeDiff, Nat.reduceBEq, Nat.reduceMul, reduceCtorEq, Int.reduceLE, Int.reduceLT, Int.reduceAdd, Int.reduceSub, Int.reduceNeg, Int.reduceToNat, Int.reduceBEq, hd, z1, z2, ByteArray.size_append, List.size_toArray]) | (refine awp_cond' rfl (of_decide_eq_true rfl) (fun hc => ?_) (fun hc => ?_) <;> ((try simp only [Bool.not_true, Bool.not_false, Bool.not_eq_true', Bool.not_eq_false', Bool.not_eq_eq_eq_not] at hc); (first | (cases hc) | (simp only [hc]) | skip))))
          all_goals exact awp_weak (st' := SO q _ _) (weak_keep ⟨rfl, rfl, trivial⟩ ⟨by simp only [go_sem, ↓reduceIte, Nat.reduceEqDiff, Nat.reduceAdd, Nat.reduceLeDiff, Nat.reduceBEq, Nat.reduceMul, reduceCtorEq, Int.reduceLE, Int.reduceLT, Int.reduceAdd, Int.reduceSub, Int.reduceNeg, Int.reduceToNat, Int.reduceBEq, hd], by simp only [go_sem, ↓reduceIte, Nat.reduceEqDiff, Nat.reduceAdd, Nat.reduceLeDiff, Nat.reduceBEq, Nat.reduceMul, reduceCtorEq, Int.reduceLE, Int.reduceLT, Int.reduceAdd, Int.reduceSub, Int.reduceNeg, Int.reduceToNat, Int.reduceBEq], trivial⟩ (Nat.le_refl _)) (main _)
    · intro R' main
      have hb := spotsT_big q ho q.spots.length
      by_cases hn : q.wh.length = 0
      · have d0 : decide ((0 : Int) < (q.wh.length : Int)) = false := decide_eq_false (by omega)
        rw [show whT q = spotsT q q.spots.length from if_pos hn] at main
        repeat' (first | refine awp_seq ?_ | refine awp_block ?_ | refine awp_round ?_ | refine awp_scope ?_ | refine awp_text rfl ?_ | refine awp_any rfl mix (by kernel_rfl) ?_ | (refine RunTo.unguard rfl rfl (fun hg => ?_) (fun hg => ?_) <;> ((try simp only [Bool.not_true, Bool.not_false, Bool.not_eq_true', Bool.not_eq_false', Bool.not_eq_eq_eq_not] at hg); (first | (cases hg) | (simp only [hg]) | skip))) | ((first | refine RunTo.plain rfl ?_ | refine RunTo.skipped rfl ?_); simp only [go_sem, ↓reduceIte, Nat.reduceEqDiff, Nat.reduceAdd, Nat.reduceLeDiff, Nat.reduceBEq, Nat.reduceMul, reduceCtorEq, Int.reduceLE, Int.reduceLT, Int.reduceAdd, Int.reduceSub, Int.reduceNeg, Int.reduceToNat, Int.reduceBEq, d0, List.length_map]) | ((first | refine RunTo.nilA (by kernel_rfl) ?_ | refine RunTo.nilT ?_ | refine awp_skip ?_ | refine awp_exit ?_ | refine awp_label ?_); simp only [go_sem, ↓reduceIte, Nat.reduceEqDiff, Nat.reduceAdd, Nat.reduceLeDiff, Nat.reduceBEq, Nat.reduceMul, reduceCtorEq, Int.reduceLE, Int.reduceLT, Int.reduceAdd, Int.reduceSub, Int.reduceNeg, Int.reduceToNat, Int.reduceBEq, d0, List.length_map]) | (refine awp_cond' rfl (of_decide_eq_true rfl) (fun hc => ?_) (fun hc => ?_) <;> ((try simp only [Bool.not_true, Bool.not_false, Bool.not_eq_true', Bool.not_eq_false', Bool.not_eq_eq_eq_not] at hc); (first | (cases hc) | (simp only [hc]) | skip))))
        all_goals exact awp_weak (st' := SO q _ _) (weak_keep ⟨rfl, rfl, trivial⟩ ⟨rfl, rfl, trivial⟩ (Nat.le_refl _)) (main _)
      · have d0 : decide ((0 : Int) < (q.wh.length : Int)) = true := decide_eq_true (by omega)
        obtain ⟨d, hd⟩ := ho.wh.one (fun e => hn (by rw [e]; rfl))
        have ht := c_text q.wh d ho.wh.len hd ho.wh.ok
        have htb := textW_big q ho hn
        rw [show whT q = spotsT q q.spots.length ++ ((⟨#[32, 119, 104, 101, 114, 101, 32]⟩ : ByteArray) ++ textS q.wh) from if_neg hn] at main
        generalize textS q.wh = tw at *
        have z1 : (7 + tw.size ≤ 9223372036854775807) = True := eq_true (by omega)
        have z2 : ((spotsT q q.spots.length).size + (7 + tw.size) ≤ 9223372036854775807) = True := eq_true (by omega)
        repeat' (first | refine awp_seq ?_ | refine awp_block ?_ | refine awp_round ?_ | refine awp_scope ?_ | refine awp_text rfl ?_ | refine awp_any rfl mix (by kernel_rfl) ?_ | (refine RunTo.unguard rfl rfl (fun hg => ?_) (fun hg => ?_) <;> ((try simp only [Bool.not_true, Bool.not_false, Bool.not_eq_true', Bool.not_eq_false', Bool.not_eq_eq_eq_not] at hg); (first | (cases hg) | (simp only [hg]) | skip))) | ((first | refine RunTo.plain rfl ?_ | refine RunTo.skipped rfl ?_ | refine RunTo.call (ht) Tryz.func18 rfl rfl rfl rfl rfl rfl rfl rfl ?_); simp only [go_sem, ↓reduceIte, Nat.reduceEqDiff, Nat.reduceAdd, Nat.reduceLeDiff, Nat.reduceBEq, Nat.reduceMul, reduceCtorEq, Int.reduceLE, Int.reduceLT, Int.reduceAdd, Int.reduceSub, Int.reduceNeg, Int.reduceToNat, Int.reduceBEq, d0, z1, z2, List.length_map, ByteArray.size_append, List.size_toArray]) | ((first | refine RunTo.nilA (by kernel_rfl) ?_ | refine RunTo.nilT ?_ | refine awp_skip ?_ | refine awp_exit ?_ | refine awp_label ?_); simp only [go_sem, ↓reduceIte, Nat.reduceEqDiff, Nat.reduceAdd, Nat.reduceLeDiff, Nat.reduceBEq, Nat.reduceMul, reduceCtorEq, Int.reduceLE, Int.reduceLT, Int.reduceAdd, Int.reduceSub, Int.reduceNeg, Int.reduceToNat, Int.reduceBEq, d0, z1, z2, List.length_map, ByteArray.size_append, List.size_toArray]) | (refine awp_cond' rfl (of_decide_eq_true rfl) (fun hc => ?_) (fun hc => ?_) <;> ((try simp only [Bool.not_true, Bool.not_false, Bool.not_eq_true', Bool.not_eq_false', Bool.not_eq_eq_eq_not] at hc); (first | (cases hc) | (simp only [hc]) | skip))))
        all_goals exact awp_weak (st' := SO q _ _) (weak_keep ⟨rfl, rfl, trivial⟩ ⟨rfl, rfl, trivial⟩ (Nat.le_refl _)) (main _)
  · intro R' main
    repeat' (first | refine awp_seq ?_ | refine awp_block ?_ | refine awp_round ?_ | refine awp_scope ?_ | refine awp_text rfl ?_ | refine awp_any rfl mix (by kernel_rfl) ?_ | (refine RunTo.unguard rfl rfl (fun hg => ?_) (fun hg => ?_) <;> ((try simp only [Bool.not_true, Bool.not_false, Bool.not_eq_true', Bool.not_eq_false', Bool.not_eq_eq_eq_not] at hg); (first | (cases hg) | (simp only [hg]) | skip))) | ((first | refine RunTo.plain rfl ?_ | refine RunTo.skipped rfl ?_ | refine RunTo.call (hf) Tryz.func14 rfl rfl rfl rfl rfl rfl rfl rfl ?_); simp only [go_sem, ↓reduceIte, Nat.reduceEqDiff, Nat.reduceAdd, Nat.reduceLeDiff, Nat.reduceBEq, Nat.reduceMul, reduceCtorEq, Int.reduceLE, Int.reduceLT, Int.reduceAdd, Int.reduceSub, Int.reduceNeg, Int.reduceToNat, Int.reduceBEq, QueryD.av, List.length_map]) | ((first | refine RunTo.nilA (by kernel_rfl) ?_ | refine RunTo.nilT ?_ | refine awp_skip ?_ | refine awp_exit ?_ | refine awp_label ?_); simp only [go_sem, ↓reduceIte, Nat.reduceEqDiff, Nat.reduceAdd, Nat.reduceLeDiff, Nat.reduceBEq, Nat.reduceMul, reduceCtorEq, Int.reduceLE, Int.reduceLT, Int.reduceAdd, Int.reduceSub, Int.reduceNeg, Int.reduceToNat, Int.reduceBEq, QueryD.av, List.length_map]) | (refine awp_cond' rfl (of_decide_eq_true rfl) (fun hc => ?_) (fun hc => ?_) <;> ((try simp only [Bool.not_true, Bool.not_false, Bool.not_eq_true', Bool.not_eq_false', Bool.not_eq_eq_eq_not] at hc); (first | (cases hc) | (simp only [hc]) | skip))))
    refine awp_loopw (IQa q) q.spots.length (SQa q 0 _) (weak_keep ⟨rfl, rfl, rfl, rfl, rfl, trivial⟩ ⟨rfl, rfl, trivial⟩ (Nat.le_refl _)) ⟨0, _, Nat.zero_le _, rfl, rfl⟩ ?_
    rintro n st ⟨k, T, hk, rfl, rfl⟩
    by_cases hlt : k < q.spots.length
    · have hdec := lt_t hlt
      have hget := row_at SpotD.enc q.spots k hlt
      have hwk : IntKind.i64.wrap ((k : Int) + 1) = ((k + 1 : Nat) : Int) := wrap_succ (by omega)
      have hsp := c_spotT1 q.spots[k] (ho.spots _ (List.getElem_mem hlt))
      have hsb := spotT_big q.spots[k] (ho.spots _ (List.getElem_mem hlt))
      have hpb := spotsT_big q ho k
      have hsa : spotAt q k = spotT q.spots[k] := by unfold spotAt; rw [List.getElem?_eq_getElem hlt]
      have hup : spotsT q (k + 1) = (if k = 0 then spotsT q k else spotsT q k ++ hopAt q (k - 1)) ++ spotAt q k := rfl
      rw [hsa] at hup
      generalize q.spots[k] = s at *
      by_cases hk0 : k = 0
      · have d0 : decide ((0 : Int) < (k : Int)) = false := decide_eq_false (by omega)
        rw [if_pos hk0] at hup
        have z1 : ((spotsT q k).size + (spotT s).size ≤ 9223372036854775807) = True := eq_true (by omega)
        repeat' (first | refine awp_seq ?_ | refine awp_block ?_ | refine awp_round ?_ | refine awp_scope ?_ | refine awp_text rfl ?_ | refine awp_any rfl mix (by kernel_rfl) ?_ | (refine RunTo.unguard rfl rfl (fun hg => ?_) (fun hg => ?_) <;> ((try simp only [Bool.not_true, Bool.not_false, Bool.not_eq_true', Bool.not_eq_false', Bool.not_eq_eq_eq_not] at hg); (first | (cases hg) | (simp only [hg]) | skip))) | ((first | refine RunTo.plain rfl ?_ | refine RunTo.skipped rfl ?_ | refine RunTo.call (hsp) Tryz.func17 rfl rfl rfl rfl rfl rfl rfl rfl ?_); simp only [go_sem, ↓reduceIte, Nat.reduceEqDiff, Nat.reduceAdd, Nat.reduceLeDiff, Nat.reduceBEq, Nat.reduceMul, reduceCtorEq, Int.reduceLE, Int.reduceLT, Int.reduceAdd, Int.reduceSub, Int.reduceNeg, Int.reduceToNat, Int.reduceBEq, hdec, hget, hwk, d0, z1, SpotD.enc, SpotD.av, ByteArray.size_append]) | ((first | refine RunTo.nilA (by kernel_rfl) ?_ | refine RunTo.nilT ?_ | refine awp_skip ?_ | refine awp_exit ?_ | refine awp_label ?_); simp only [go_sem, ↓reduceIte, Nat.reduceEqDiff, Nat.reduceAdd, Nat.reduceLeDiff, Nat.reduceBEq, Nat.reduceMul, reduceCtorEq, Int.reduceLE, Int.reduceLT, Int.reduceAdd, Int.reduceSub, Int.reduceNeg, Int.reduceToNat, Int.reduceBEq, hdec, hget, hwk, d0, z1, SpotD.enc, SpotD.av, ByteArray.size_append]) | (refine awp_cond' rfl (of_decide_eq_true rfl) (fun hc => ?_) (fun hc => ?_) <;> ((try simp only [Bool.not_true, Bool.not_false, Bool.not_eq_true', Bool.not_eq_false', Bool.not_eq_eq_eq_not] at hc); (first | (cases hc) | (simp only [hc]) | skip))))
        all_goals exact ⟨q.spots.length - (k + 1), by omega, SQa q (k + 1) _, weak_keep ⟨rfl, rfl, rfl, rfl, rfl, trivial⟩ ⟨rfl, by rw [hup]; rfl, trivial⟩ (Nat.le_refl _), k + 1, _, by omega, rfl, rfl⟩
      · have d0 : decide ((0 : Int) < (k : Int)) = true := decide_eq_true (by omega)
        rw [if_neg hk0] at hup
        have hlh : k - 1 < q.hops.length := by omega
        have hgh := row_at HopD.enc q.hops (k - 1) hlh
        have hwp : IntKind.i64.wrap ((k : Int) - 1) = ((k - 1 : Nat) : Int) := by rw [IntWalk.i64_in _ (by omega)]; omega
        have hht := c_hopT q.hops[k - 1] (ho.hops _ (List.getElem_mem hlh))
        have hhb := hopT_big q.hops[k - 1] (ho.hops _ (List.getElem_mem hlh))
        have hha : hopAt q (k - 1) = hopT q.hops[k - 1] := by unfold hopAt; rw [List.getElem?_eq_getElem hlh]
        rw [hha] at hup
        generalize q.hops[k - 1] = h at *
        have z1 : ((spotsT q k).size + (hopT h).size ≤ 9223372036854775807) = True := eq_true (by omega)
        have z2 : ((spotsT q k).size + (hopT h).size + (spotT s).size ≤ 9223372036854775807) = True := eq_true (by omega)
        repeat' (first | refine awp_seq ?_ | refine awp_block ?_ | refine awp_round ?_ | refine awp_scope ?_ | refine awp_text rfl ?_ | refine awp_any rfl mix (by kernel_rfl) ?_ | (refine RunTo.unguard rfl rfl (fun hg => ?_) (fun hg => ?_) <;> ((try simp only [Bool.not_true, Bool.not_false, Bool.not_eq_true', Bool.not_eq_false', Bool.not_eq_eq_eq_not] at hg); (first | (cases hg) | (simp only [hg]) | skip))) | ((first | refine RunTo.plain rfl ?_ | refine RunTo.skipped rfl ?_ | refine RunTo.call (hsp) Tryz.func17 rfl rfl rfl rfl rfl rfl rfl rfl ?_ | refine RunTo.call (hht) Tryz.func16 rfl rfl rfl rfl rfl rfl rfl rfl ?_); simp only [go_sem, ↓reduceIte, Nat.reduceEqDiff, Nat.reduceAdd, Nat.reduceLeDiff, Nat.reduceBEq, Nat.reduceMul, reduceCtorEq, Int.reduceLE, Int.reduceLT, Int.reduceAdd, Int.reduceSub, Int.reduceNeg, Int.reduceToNat, Int.reduceBEq, hdec, hget, hgh, hwp, hwk, d0, z1, z2, SpotD.enc, SpotD.av, HopD.enc, HopD.av, ByteArray.size_append]) | ((first | refine RunTo.nilA (by kernel_rfl) ?_ | refine RunTo.nilT ?_ | refine awp_skip ?_ | refine awp_exit ?_ | refine awp_label ?_); simp only [go_sem, ↓reduceIte, Nat.reduceEqDiff, Nat.reduceAdd, Nat.reduceLeDiff, Nat.reduceBEq, Nat.reduceMul, reduceCtorEq, Int.reduceLE, Int.reduceLT, Int.reduceAdd, Int.reduceSub, Int.reduceNeg, Int.reduceToNat, Int.reduceBEq, hdec, hget, hgh, hwp, hwk, d0, z1, z2, SpotD.enc, SpotD.av, HopD.enc, HopD.av, ByteArray.size_append]) | (refine awp_cond' rfl (of_decide_eq_true rfl) (fun hc => ?_) (fun hc => ?_) <;> ((try simp only [Bool.not_true, Bool.not_false, Bool.not_eq_true', Bool.not_eq_false', Bool.not_eq_eq_eq_not] at hc); (first | (cases hc) | (simp only [hc]) | skip))))
        all_goals exact ⟨q.spots.length - (k + 1), by omega, SQa q (k + 1) _, weak_keep ⟨rfl, rfl, rfl, rfl, rfl, trivial⟩ ⟨rfl, by rw [hup]; rfl, trivial⟩ (Nat.le_refl _), k + 1, _, by omega, rfl, rfl⟩
    · have hdec := lt_f hlt
      obtain rfl : k = q.spots.length := by omega
      repeat' (first | refine awp_seq ?_ | refine awp_block ?_ | refine awp_round ?_ | refine awp_scope ?_ | refine awp_text rfl ?_ | refine awp_any rfl mix (by kernel_rfl) ?_ | (refine RunTo.unguard rfl rfl (fun hg => ?_) (fun hg => ?_) <;> ((try simp only [Bool.not_true, Bool.not_false, Bool.not_eq_true', Bool.not_eq_false', Bool.not_eq_eq_eq_not] at hg); (first | (cases hg) | (simp only [hg]) | skip))) | ((first | refine RunTo.plain rfl ?_ | refine RunTo.skipped rfl ?_); simp only [go_sem, ↓reduceIte, Nat.reduceEqDiff, Nat.reduceAdd, Nat.reduceLeDiff, Nat.reduceBEq, Nat.reduceMul, reduceCtorEq, Int.reduceLE, Int.reduceLT, Int.reduceAdd, Int.reduceSub, Int.reduceNeg, Int.reduceToNat, Int.reduceBEq, hdec]) | ((first | refine RunTo.nilA (by kernel_rfl) ?_ | refine RunTo.nilT ?_ | refine awp_skip ?_ | refine awp_exit ?_ | refine awp_label ?_); simp only [go_sem, ↓reduceIte, Nat.reduceEqDiff, Nat.reduceAdd, Nat.reduceLeDiff, Nat.reduceBEq, Nat.reduceMul, reduceCtorEq, Int.reduceLE, Int.reduceLT, Int.reduceAdd, Int.reduceSub, Int.reduceNeg, Int.reduceToNat, Int.reduceBEq, hdec]) | (refine awp_cond' rfl (of_decide_eq_true rfl) (fun hc => ?_) (fun hc => ?_) <;> ((try simp only [Bool.not_true, Bool.not_false, Bool.not_eq_true', Bool.not_eq_false', Bool.not_eq_eq_eq_not] at hc); (first | (cases hc) | (simp only [hc]) | skip))))
      all_goals exact awp_weak (st' := SO q _ _) (weak_keep ⟨rfl, rfl, trivial⟩ ⟨rfl, rfl, trivial⟩ (Nat.le_refl _)) (main _)
end Go.Proofs.YtinpnidokpjfhaaGreatDoor.AM
namespace Go.Proofs.YtinpnidokpjfhaaGreatDoor.AM
open Go.RowKit
def lawT (t : TermD) : Prop := t.var.size ≤ 10000000 ∧ t.name.size ≤ 10000000 ∧ t.v.a.s.size ≤ 1000000 ∧ i64B t.v.a.n
theorem printA_size (a : AtomD) (hn : i64B a.n) (hs : a.s.size ≤ 1000000) : (printA a).size ≤ 10000000 := by
  have hq := quoteS_size a.s
  have hi := Lib.itoa_length_le a.n hn.1 hn.2
  unfold printA
  split
  · cases (a.n == 1) <;> decide
  · split
    · simp only [ByteArray.size, List.size_toArray]; omega
    · split
      · rw [ByteArray.size_append, hexS_size]; show 2 + 16 ≤ _; omega
      · split
        · omega
        · split
          · rw [ByteArray.size_append]; show 1 + _ ≤ _; omega
          · show 4 ≤ _; omega
theorem okT_of {t : TermD} (h : lawT t) (hr : rightT t = true) : okT t := by
  obtain ⟨h1, h2, h3, h4⟩ := h
  refine ⟨fun ho => ?_, h4, h3, h1, h2, ?_⟩
  · unfold rightT at hr
    rw [ho] at hr
    have hp : plainV t.v = true := by
      split at hr
      · cases hr
      · split at hr
        · cases hr
        · simpa using hr
    simp only [plainV, Bool.and_eq_true, bne_iff_ne, ne_eq] at hp
    exact hp.2
  · unfold printV1
    split
    · exact printA_size _ h4 h3
    · show 0 ≤ _; omega
theorem small_of {t : TermD} (h : lawT t) : smallT t := ⟨by have := h.1; omega, by have := h.2.1; omega⟩
end Go.Proofs.YtinpnidokpjfhaaGreatDoor.AM
namespace Go.Proofs.YtinpnidokpjfhaaGreatDoor.AM
open Go.RowKit
set_option linter.unusedSimpArgs false
set_option linter.unusedVariables false
set_option maxRecDepth 10000
set_option maxHeartbeats 0
structure LawP (p : PropD) : Prop where
  name : p.name.size ≤ 1000000
  n : i64B p.v.a.n
  s : p.v.a.s.size ≤ 1000000
structure LawS (s : SpotD) : Prop where
  var : s.var.size ≤ 1000000
  label : s.label.size ≤ 1000000
  len : s.props.length ≤ 1000000
  props : ∀ p ∈ s.props, LawP p
structure LawL (ts : List TermD) : Prop where
  len : ts.length ≤ 1000000
  terms : ∀ t ∈ ts, lawT t
structure LawQ (q : QueryD) : Prop where
  nspots : q.spots.length ≤ 1000000
  spots : ∀ s ∈ q.spots, LawS s
  nhops : q.hops.length ≤ 1000000
  hops : ∀ h ∈ q.hops, OkH h
  wh : LawL q.wh
  nitems : q.items.length ≤ 1000000
  items : ∀ x ∈ q.items, LawL x.terms
  nsorts : q.sorts.length ≤ 1000000
  sorts : ∀ x ∈ q.sorts, i64B x.item
  skip : i64B q.skip
  limit : i64B q.limit
theorem smallL_of {ts : List TermD} (h : LawL ts) : smallL ts := ⟨h.len, fun t ht => small_of (h.terms t ht)⟩
theorem smallQ_of {q : QueryD} (h : LawQ q) : SmallQ q where
  spots := ⟨h.nspots, fun s hs => by
    have := h.spots s hs
    exact ⟨by have := this.var; omega, by have := this.label; omega, this.len, fun p hp => by have := (this.props p hp).name; omega⟩⟩
  hops := ⟨h.nhops, fun x hx => by
    have := h.hops x hx
    exact ⟨by have := this.var; omega, by have := this.type; omega⟩⟩
  wh := smallL_of h.wh
  items := ⟨h.nitems, fun x hx => smallL_of (h.items x hx)⟩
  sorts := h.nsorts
theorem okTs_of {ts : List TermD} (h : LawL ts) (hv : termsV ts = true) : OkTs ts where
  len := (deep_some hv).1
  one := fun _ => (deep_some hv).2
  ok := fun t ht => by
    simp only [termsV, Bool.and_eq_true] at hv
    exact okT_of (h.terms t ht) (List.all_eq_true.1 hv.1 t ht)
theorem okTs_nil : OkTs [] := ⟨by simp, fun h => absurd rfl h, fun t ht => by cases ht⟩
theorem okP_of {p : PropD} (h : LawP p) (hv : plainV p.v = true) : OkP p := by
  simp only [plainV, Bool.and_eq_true, bne_iff_ne, ne_eq] at hv
  have hl := hv.1
  rw [validV_atom hv.2] at hl
  simp only [Bool.and_eq_true, beq_iff_eq] at hl
  have hnil : p.v.l = [] := List.length_eq_zero_iff.1 (by omega)
  exact ⟨hv.2, ⟨⟨h.n, h.s⟩, fun a ha => by rw [hnil] at ha; cases ha⟩, h.name⟩
theorem okS_of {s : SpotD} (h : LawS s) (hr : rightS s = true) : OkS s := by
  unfold rightS at hr
  simp only [Bool.and_eq_true, decide_eq_true_eq] at hr
  obtain ⟨h1, h2, h3⟩ := hr
  refine ⟨h.var, h.label, by omega, fun p hp => ?_⟩
  obtain ⟨i, hi, rfl⟩ := List.mem_iff_getElem.1 hp
  have := List.all_eq_true.1 h1 i (List.mem_range.2 hi)
  unfold propOk at this
  rw [List.getElem?_eq_getElem hi] at this
  simp only [Bool.and_eq_true] at this
  exact okP_of (h.props _ hp) this.2.1
theorem okQ_of {q : QueryD} (h : LawQ q) (hf : fineQ q = true) : OkQ q := by
  unfold fineQ at hf
  simp only [Bool.and_eq_true, Bool.or_eq_true, decide_eq_true_eq, beq_iff_eq] at hf
  obtain ⟨⟨⟨⟨⟨⟨⟨⟨⟨⟨a1, a2⟩, a3⟩, a4⟩, a5⟩, a6⟩, a7⟩, a8⟩, a9⟩, a10⟩, a11⟩ := hf
  refine ⟨fun s hs => okS_of (h.spots s hs) (List.all_eq_true.1 a7 s hs), by omega, h.hops, by omega, ?_, fun x hx => ?_, by omega, h.sorts, by omega, h.skip, h.limit⟩
  · rcases a9 with a | a
    · rw [List.length_eq_zero_iff.1 (show q.wh.length = 0 by omega)]; exact okTs_nil
    · exact okTs_of h.wh a
  · have := List.all_eq_true.1 a10 x hx
    unfold rightI at this
    simp only [Bool.and_eq_true, Bool.or_eq_true, beq_iff_eq] at this
    rcases this.2 with a | a
    · rw [List.length_eq_zero_iff.1 (show x.terms.length = 0 by omega)]; exact okTs_nil
    · exact okTs_of (h.items x hx) a
def printQ2 (q : QueryD) : ByteArray := if fineQ q = true then queryT q else eE
theorem c_PrintAny (q : QueryD) (h : LawQ q) : Pure Tryz.prog 8 [q.av] (sv (printQ2 q)) := by
  unfold printQ2
  by_cases hf : fineQ q = true
  · rw [if_pos hf]
    exact c_PrintQ q (smallQ_of h) (okQ_of h hf) hf
  · rw [if_neg hf]
    have hc := c_fineQ q (smallQ_of h)
    rw [show fineQ q = false by simpa using hf] at hc
    refine pure_of_awp Tryz.func8 rfl rfl (by simp [Tryz.f8]) ?_; simp only [go_sem, ↓reduceIte, Nat.reduceEqDiff, Nat.reduceAdd, Nat.reduceLeDiff, Nat.reduceBEq, Nat.reduceMul, reduceCtorEq, Int.reduceLE, Int.reduceLT, Int.reduceAdd, Int.reduceSub, Int.reduceNeg, Int.reduceToNat, Int.reduceBEq]
    repeat' (first | refine awp_seq ?_ | refine awp_block ?_ | refine awp_round ?_ | refine awp_scope ?_ | refine awp_text rfl ?_ | refine awp_any rfl mix (by kernel_rfl) ?_ | (refine RunTo.unguard rfl rfl (fun hg => ?_) (fun hg => ?_) <;> ((try simp only [Bool.not_true, Bool.not_false, Bool.not_eq_true', Bool.not_eq_false', Bool.not_eq_eq_eq_not] at hg); (first | (cases hg) | (simp only [hg]) | skip))) | ((first | refine RunTo.plain rfl ?_ | refine RunTo.skipped rfl ?_ | refine RunTo.call (hc) Tryz.func14 rfl rfl rfl rfl rfl rfl rfl rfl ?_); simp only [go_sem, ↓reduceIte, Nat.reduceEqDiff, Nat.reduceAdd, Nat.reduceLeDiff, Nat.reduceBEq, Nat.reduceMul, reduceCtorEq, Int.reduceLE, Int.reduceLT, Int.reduceAdd, Int.reduceSub, Int.reduceNeg, Int.reduceToNat, Int.reduceBEq, QueryD.av]) | ((first | refine RunTo.nilA (by kernel_rfl) ?_ | refine RunTo.nilT ?_ | refine awp_skip ?_ | refine awp_exit ?_ | refine awp_label ?_); simp only [go_sem, ↓reduceIte, Nat.reduceEqDiff, Nat.reduceAdd, Nat.reduceLeDiff, Nat.reduceBEq, Nat.reduceMul, reduceCtorEq, Int.reduceLE, Int.reduceLT, Int.reduceAdd, Int.reduceSub, Int.reduceNeg, Int.reduceToNat, Int.reduceBEq, QueryD.av]) | (refine awp_cond' rfl (of_decide_eq_true rfl) (fun hc => ?_) (fun hc => ?_) <;> ((try simp only [Bool.not_true, Bool.not_false, Bool.not_eq_true', Bool.not_eq_false', Bool.not_eq_eq_eq_not] at hc); (first | (cases hc) | (simp only [hc]) | skip))))
    all_goals (first | refine awp_ret ?_ | skip); refine ⟨(by first | exact .inl rfl | exact .inr rfl | exact .inr trivial | trivial), ?_⟩; simp only [go_sem, ↓reduceIte, Nat.reduceEqDiff, Nat.reduceAdd, Nat.reduceLeDiff, Nat.reduceBEq, Nat.reduceMul, reduceCtorEq, Int.reduceLE, Int.reduceLT, Int.reduceAdd, Int.reduceSub, Int.reduceNeg, Int.reduceToNat, Int.reduceBEq, retV, resL, resV, sealV, sealC, sealAll, Tryz.f8]
    all_goals rfl
def rightQ2 (q : QueryD) : Bool := fineQ q && decide (((printQ2 q).size : Int) ≤ 4096)
theorem c_RightAny (q : QueryD) (h : LawQ q) : Pure Tryz.prog 6 [q.av] (bv (rightQ2 q)) := by
  have hc := c_fineQ q (smallQ_of h)
  have hp := c_PrintAny q h
  unfold rightQ2
  generalize printQ2 q = o at *
  generalize fineQ q = f at *
  cases f
  all_goals
    refine pure_of_awp Tryz.func6 rfl rfl (by simp [Tryz.f6]) ?_; simp only [go_sem, ↓reduceIte, Nat.reduceEqDiff, Nat.reduceAdd, Nat.reduceLeDiff, Nat.reduceBEq, Nat.reduceMul, reduceCtorEq, Int.reduceLE, Int.reduceLT, Int.reduceAdd, Int.reduceSub, Int.reduceNeg, Int.reduceToNat, Int.reduceBEq]
    repeat' (first | refine awp_seq ?_ | refine awp_block ?_ | refine awp_round ?_ | refine awp_scope ?_ | refine awp_text rfl ?_ | refine awp_any rfl mix (by kernel_rfl) ?_ | (refine RunTo.unguard rfl rfl (fun hg => ?_) (fun hg => ?_) <;> ((try simp only [Bool.not_true, Bool.not_false, Bool.not_eq_true', Bool.not_eq_false', Bool.not_eq_eq_eq_not] at hg); (first | (cases hg) | (simp only [hg]) | skip))) | ((first | refine RunTo.plain rfl ?_ | refine RunTo.skipped rfl ?_ | refine RunTo.call (hc) Tryz.func14 rfl rfl rfl rfl rfl rfl rfl rfl ?_ | refine RunTo.call (hp) Tryz.func8 rfl rfl rfl rfl rfl rfl rfl rfl ?_); simp only [go_sem, ↓reduceIte, Nat.reduceEqDiff, Nat.reduceAdd, Nat.reduceLeDiff, Nat.reduceBEq, Nat.reduceMul, reduceCtorEq, Int.reduceLE, Int.reduceLT, Int.reduceAdd, Int.reduceSub, Int.reduceNeg, Int.reduceToNat, Int.reduceBEq, QueryD.av]) | ((first | refine RunTo.nilA (by kernel_rfl) ?_ | refine RunTo.nilT ?_ | refine awp_skip ?_ | refine awp_exit ?_ | refine awp_label ?_); simp only [go_sem, ↓reduceIte, Nat.reduceEqDiff, Nat.reduceAdd, Nat.reduceLeDiff, Nat.reduceBEq, Nat.reduceMul, reduceCtorEq, Int.reduceLE, Int.reduceLT, Int.reduceAdd, Int.reduceSub, Int.reduceNeg, Int.reduceToNat, Int.reduceBEq, QueryD.av]) | (refine awp_cond' rfl (of_decide_eq_true rfl) (fun hc => ?_) (fun hc => ?_) <;> ((try simp only [Bool.not_true, Bool.not_false, Bool.not_eq_true', Bool.not_eq_false', Bool.not_eq_eq_eq_not] at hc); (first | (cases hc) | (simp only [hc]) | skip))))
    all_goals (first | refine awp_ret ?_ | skip); refine ⟨(by first | exact .inl rfl | exact .inr rfl | exact .inr trivial | trivial), ?_⟩; simp only [go_sem, ↓reduceIte, Nat.reduceEqDiff, Nat.reduceAdd, Nat.reduceLeDiff, Nat.reduceBEq, Nat.reduceMul, reduceCtorEq, Int.reduceLE, Int.reduceLT, Int.reduceAdd, Int.reduceSub, Int.reduceNeg, Int.reduceToNat, Int.reduceBEq, retV, resL, resV, sealV, sealC, sealAll, Tryz.f6]
    all_goals rfl
end Go.Proofs.YtinpnidokpjfhaaGreatDoor.AM
namespace Go.Proofs.YtinpnidokpjfhaaGreatDoor.AM
open Go.RowKit
set_option linter.unusedSimpArgs false
set_option linter.unusedVariables false
set_option maxRecDepth 10000
set_option maxHeartbeats 0
abbrev SDa (s : ByteArray) (k T : Nat) : St := ⟨[(0, sv s), (3, iv k)], [], T⟩
def IDa (s : ByteArray) (n : Nat) (st : St) : Prop := ∃ k T, k ≤ s.size ∧ n = s.size - k ∧ nameL (decide (k = 0)) (s.data.toList.drop k) = nameL true s.data.toList ∧ st = SDa s k T
theorem ne_size (s : ByteArray) : (s.toList != eE.toList) = decide ((1 : Int) ≤ (s.size : Int)) := by
  rw [Bool.eq_iff_iff, bne_iff_ne, decide_eq_true_eq, ByteArray.toList_eq, ByteArray.toList_eq]
  have h : s.data.toList.length = s.size := Array.length_toList
  constructor
  · intro hn
    apply Decidable.byContradiction
    intro h1
    exact hn (List.length_eq_zero_iff.1 (show s.data.toList.length = 0 by omega))
  · intro h1 he
    have : s.data.toList.length = 0 := by rw [he]; rfl
    omega
theorem c_rName (s : ByteArray) (hs : s.size ≤ 1000000000) : Pure Tryz.prog 71 [sv s] (bv (nameS s)) := by
  refine pure_of_awp Tryz.func71 rfl rfl (by simp [Tryz.f71]) ?_; simp only [go_sem, ↓reduceIte, Nat.reduceEqDiff, Nat.reduceAdd, Nat.reduceLeDiff, Nat.reduceBEq, Nat.reduceMul, reduceCtorEq, Int.reduceLE, Int.reduceLT, Int.reduceAdd, Int.reduceSub, Int.reduceNeg, Int.reduceToNat, Int.reduceBEq]
  repeat' (first | refine awp_seq ?_ | refine awp_block ?_ | refine awp_round ?_ | refine awp_scope ?_ | refine awp_text rfl ?_ | refine awp_any rfl mix (by kernel_rfl) ?_ | (refine RunTo.unguard rfl rfl (fun hg => ?_) (fun hg => ?_) <;> ((try simp only [Bool.not_true, Bool.not_false, Bool.not_eq_true', Bool.not_eq_false', Bool.not_eq_eq_eq_not] at hg); (first | (cases hg) | (simp only [hg]) | skip))) | ((first | refine RunTo.plain rfl ?_ | refine RunTo.skipped rfl ?_); simp only [go_sem, ↓reduceIte, Nat.reduceEqDiff, Nat.reduceAdd, Nat.reduceLeDiff, Nat.reduceBEq, Nat.reduceMul, reduceCtorEq, Int.reduceLE, Int.reduceLT, Int.reduceAdd, Int.reduceSub, Int.reduceNeg, Int.reduceToNat, Int.reduceBEq]) | ((first | refine RunTo.nilA (by kernel_rfl) ?_ | refine RunTo.nilT ?_ | refine awp_skip ?_ | refine awp_exit ?_ | refine awp_label ?_); simp only [go_sem, ↓reduceIte, Nat.reduceEqDiff, Nat.reduceAdd, Nat.reduceLeDiff, Nat.reduceBEq, Nat.reduceMul, reduceCtorEq, Int.reduceLE, Int.reduceLT, Int.reduceAdd, Int.reduceSub, Int.reduceNeg, Int.reduceToNat, Int.reduceBEq]) | (refine awp_cond' rfl (of_decide_eq_true rfl) (fun hc => ?_) (fun hc => ?_) <;> ((try simp only [Bool.not_true, Bool.not_false, Bool.not_eq_true', Bool.not_eq_false', Bool.not_eq_eq_eq_not] at hc); (first | (cases hc) | (simp only [hc]) | skip))))
  refine awp_loopw (IDa s) s.size (SDa s 0 _) (weak_keep ⟨rfl, rfl, trivial⟩ trivial (Nat.le_refl _)) ⟨0, _, Nat.zero_le _, rfl, rfl, rfl⟩ ?_
  rintro n st ⟨k, T, hk, rfl, hn, rfl⟩
  have hsz : s.data.toList.length = s.size := Array.length_toList
  by_cases hlt : k < s.size
  · have hdec := lt_t hlt
    have hb := byte_at' s k hlt
    have hwk : IntKind.i64.wrap ((k : Int) + 1) = ((k + 1 : Nat) : Int) := wrap_succ (by omega)
    generalize s[k] = b at *
    have hlb : s.data.toList[k]? = some b := by
      have : s.data[k]? = some b := hb
      rw [Array.getElem?_toList]; exact this
    have hbe : s.data.toList[k]'(by omega) = b := by
      have := hlb
      rw [List.getElem?_eq_getElem (by omega)] at this
      exact Option.some.inj this
    rw [List.drop_eq_getElem_cons (show k < s.data.toList.length by omega), hbe] at hn
    have hn' : (okB (decide (k = 0)) (b.toNat : Int) && nameL false (s.data.toList.drop (k + 1))) = nameL true s.data.toList := hn
    have hb8 : b.toNat < 256 := b.toNat_lt
    repeat' (first | refine awp_seq ?_ | refine awp_block ?_ | refine awp_round ?_ | refine awp_scope ?_ | refine awp_text rfl ?_ | refine awp_any rfl mix (by kernel_rfl) ?_ | (refine RunTo.unguard rfl rfl (fun hg => ?_) (fun hg => ?_) <;> ((try simp only [Bool.not_true, Bool.not_false, Bool.not_eq_true', Bool.not_eq_false', Bool.not_eq_eq_eq_not] at hg); (first | (cases hg) | (simp only [hg]) | skip))) | ((first | refine RunTo.plain rfl ?_ | refine RunTo.skipped rfl ?_); simp only [go_sem, ↓reduceIte, Nat.reduceEqDiff, Nat.reduceAdd, Nat.reduceLeDiff, Nat.reduceBEq, Nat.reduceMul, reduceCtorEq, Int.reduceLE, Int.reduceLT, Int.reduceAdd, Int.reduceSub, Int.reduceNeg, Int.reduceToNat, Int.reduceBEq, hdec, hb, hwk]) | ((first | refine RunTo.nilA (by kernel_rfl) ?_ | refine RunTo.nilT ?_ | refine awp_skip ?_ | refine awp_exit ?_ | refine awp_label ?_); simp only [go_sem, ↓reduceIte, Nat.reduceEqDiff, Nat.reduceAdd, Nat.reduceLeDiff, Nat.reduceBEq, Nat.reduceMul, reduceCtorEq, Int.reduceLE, Int.reduceLT, Int.reduceAdd, Int.reduceSub, Int.reduceNeg, Int.reduceToNat, Int.reduceBEq, hdec, hb, hwk]) | (refine awp_cond' rfl (of_decide_eq_true rfl) (fun hc => ?_) (fun hc => ?_) <;> ((try simp only [Bool.not_true, Bool.not_false, Bool.not_eq_true', Bool.not_eq_false', Bool.not_eq_eq_eq_not] at hc); (first | (cases hc) | (simp only [hc]) | skip))))
    all_goals
      (try simp only [decide_eq_true_eq, decide_eq_false_iff_not, beq_iff_eq, bne_iff_ne, ne_eq, beq_eq_false_iff_ne, bne_eq_false_iff_eq, Bool.and_eq_true, Bool.or_eq_true, Bool.or_eq_false_iff, Bool.and_eq_false_iff] at *)
      first
      | (have hq : okB (decide (k = 0)) (b.toNat : Int) = true := by simp [okB, letB] <;> omega
         rw [hq, Bool.true_and] at hn'
         have h0 : decide (k + 1 = 0) = false := by simp
         exact ⟨s.size - (k + 1), by omega, SDa s (k + 1) _, weak_keep ⟨rfl, rfl, trivial⟩ trivial (Nat.le_refl _), k + 1, _, by omega, rfl, by rw [h0]; exact hn', rfl⟩)
      | (have hq : okB (decide (k = 0)) (b.toNat : Int) = false := by simp [okB, letB] <;> omega
         rw [hq, Bool.false_and] at hn'
         have hns : nameS s = false := by unfold nameS; rw [← hn', Bool.false_and]
         rw [hns]
         (first | refine awp_ret ?_ | skip); refine ⟨(by first | exact .inl rfl | exact .inr rfl | exact .inr trivial | trivial), ?_⟩; simp only [go_sem, ↓reduceIte, Nat.reduceEqDiff, Nat.reduceAdd, Nat.reduceLeDiff, Nat.reduceBEq, Nat.reduceMul, reduceCtorEq, Int.reduceLE, Int.reduceLT, Int.reduceAdd, Int.reduceSub, Int.reduceNeg, Int.reduceToNat, Int.reduceBEq, retV, resL, resV, sealV, sealC, sealAll, Tryz.f71])
      | (exfalso; omega)
    all_goals trace_state
  · have hdec := lt_f hlt
    have hk' : s.data.toList.drop k = [] := List.drop_of_length_le (by omega)
    rw [hk'] at hn
    have hn' : nameL true s.data.toList = true := hn.symm
    have e : nameS s = (decide ((1 : Int) ≤ (s.size : Int)) && decide ((s.size : Int) ≤ 16)) := by unfold nameS; rw [hn', Bool.true_and, ne_size]
    rw [e]
    generalize h1 : decide ((1 : Int) ≤ (s.size : Int)) = a at *
    generalize h2 : decide ((s.size : Int) ≤ 16) = b at *
    cases a <;> cases b
    all_goals
      repeat' (first | refine awp_seq ?_ | refine awp_block ?_ | refine awp_round ?_ | refine awp_scope ?_ | refine awp_text rfl ?_ | refine awp_any rfl mix (by kernel_rfl) ?_ | (refine RunTo.unguard rfl rfl (fun hg => ?_) (fun hg => ?_) <;> ((try simp only [Bool.not_true, Bool.not_false, Bool.not_eq_true', Bool.not_eq_false', Bool.not_eq_eq_eq_not] at hg); (first | (cases hg) | (simp only [hg]) | skip))) | ((first | refine RunTo.plain rfl ?_ | refine RunTo.skipped rfl ?_); simp only [go_sem, ↓reduceIte, Nat.reduceEqDiff, Nat.reduceAdd, Nat.reduceLeDiff, Nat.reduceBEq, Nat.reduceMul, reduceCtorEq, Int.reduceLE, Int.reduceLT, Int.reduceAdd, Int.reduceSub, Int.reduceNeg, Int.reduceToNat, Int.reduceBEq, hdec, h1, h2]) | ((first | refine RunTo.nilA (by kernel_rfl) ?_ | refine RunTo.nilT ?_ | refine awp_skip ?_ | refine awp_exit ?_ | refine awp_label ?_); simp only [go_sem, ↓reduceIte, Nat.reduceEqDiff, Nat.reduceAdd, Nat.reduceLeDiff, Nat.reduceBEq, Nat.reduceMul, reduceCtorEq, Int.reduceLE, Int.reduceLT, Int.reduceAdd, Int.reduceSub, Int.reduceNeg, Int.reduceToNat, Int.reduceBEq, hdec, h1, h2]) | (refine awp_cond' rfl (of_decide_eq_true rfl) (fun hc => ?_) (fun hc => ?_) <;> ((try simp only [Bool.not_true, Bool.not_false, Bool.not_eq_true', Bool.not_eq_false', Bool.not_eq_eq_eq_not] at hc); (first | (cases hc) | (simp only [hc]) | skip))))
      all_goals (first | refine awp_ret ?_ | skip); refine ⟨(by first | exact .inl rfl | exact .inr rfl | exact .inr trivial | trivial), ?_⟩; simp only [go_sem, ↓reduceIte, Nat.reduceEqDiff, Nat.reduceAdd, Nat.reduceLeDiff, Nat.reduceBEq, Nat.reduceMul, reduceCtorEq, Int.reduceLE, Int.reduceLT, Int.reduceAdd, Int.reduceSub, Int.reduceNeg, Int.reduceToNat, Int.reduceBEq, retV, resL, resV, sealV, sealC, sealAll, Tryz.f71]
      all_goals rfl
theorem c_rwords : Pure Tryz.prog 93 [] (.dat (.lst 1 (sl wordsL))) := by
  refine pure_of_awp Tryz.func93 rfl rfl (by simp [Tryz.f93]) ?_; simp only [go_sem, ↓reduceIte, Nat.reduceEqDiff, Nat.reduceAdd, Nat.reduceLeDiff, Nat.reduceBEq, Nat.reduceMul, reduceCtorEq, Int.reduceLE, Int.reduceLT, Int.reduceAdd, Int.reduceSub, Int.reduceNeg, Int.reduceToNat, Int.reduceBEq]
  repeat' (first | refine awp_seq ?_ | refine awp_block ?_ | refine awp_round ?_ | refine awp_scope ?_ | refine awp_text rfl ?_ | refine awp_any rfl mix (by kernel_rfl) ?_ | (refine RunTo.unguard rfl rfl (fun hg => ?_) (fun hg => ?_) <;> ((try simp only [Bool.not_true, Bool.not_false, Bool.not_eq_true', Bool.not_eq_false', Bool.not_eq_eq_eq_not] at hg); (first | (cases hg) | (simp only [hg]) | skip))) | ((first | refine RunTo.plain rfl ?_ | refine RunTo.skipped rfl ?_); simp only [go_sem, ↓reduceIte, Nat.reduceEqDiff, Nat.reduceAdd, Nat.reduceLeDiff, Nat.reduceBEq, Nat.reduceMul, reduceCtorEq, Int.reduceLE, Int.reduceLT, Int.reduceAdd, Int.reduceSub, Int.reduceNeg, Int.reduceToNat, Int.reduceBEq]) | ((first | refine RunTo.nilA (by kernel_rfl) ?_ | refine RunTo.nilT ?_ | refine awp_skip ?_ | refine awp_exit ?_ | refine awp_label ?_); simp only [go_sem, ↓reduceIte, Nat.reduceEqDiff, Nat.reduceAdd, Nat.reduceLeDiff, Nat.reduceBEq, Nat.reduceMul, reduceCtorEq, Int.reduceLE, Int.reduceLT, Int.reduceAdd, Int.reduceSub, Int.reduceNeg, Int.reduceToNat, Int.reduceBEq]) | (refine awp_cond' rfl (of_decide_eq_true rfl) (fun hc => ?_) (fun hc => ?_) <;> ((try simp only [Bool.not_true, Bool.not_false, Bool.not_eq_true', Bool.not_eq_false', Bool.not_eq_eq_eq_not] at hc); (first | (cases hc) | (simp only [hc]) | skip))))
  all_goals
    (first | refine awp_ret ?_ | skip); refine ⟨(by first | exact .inl rfl | exact .inr rfl | exact .inr trivial | trivial), ?_⟩; simp only [go_sem, ↓reduceIte, Nat.reduceEqDiff, Nat.reduceAdd, Nat.reduceLeDiff, Nat.reduceBEq, Nat.reduceMul, reduceCtorEq, Int.reduceLE, Int.reduceLT, Int.reduceAdd, Int.reduceSub, Int.reduceNeg, Int.reduceToNat, Int.reduceBEq, retV, resL, resV, sealV, sealC, sealAll, Tryz.f93]
  all_goals rfl
abbrev SDb (s : ByteArray) (l : List ByteArray) (k T : Nat) : St := ⟨[(0, sv s), (3, .dat (.lst 1 (sl l))), (4, iv k)], [], T⟩
def IDb (s : ByteArray) (l : List ByteArray) (n : Nat) (st : St) : Prop := ∃ k T, k ≤ l.length ∧ n = l.length - k ∧ Lib.containsS (l.drop k) s = Lib.containsS l s ∧ st = SDb s l k T
theorem contains_cons (x : ByteArray) (l : List ByteArray) (s : ByteArray) : Lib.containsS (x :: l) s = ((x.toList == s.toList) || Lib.containsS l s) := by
  rw [Bool.eq_iff_iff, Bool.or_eq_true, Lib.containsS_iff, Lib.containsS_iff, List.mem_cons, beq_iff_eq]
  constructor
  · rintro (h | h)
    · exact .inl (by rw [h])
    · exact .inr h
  · rintro (h | h)
    · left
      rw [ByteArray.toList_eq, ByteArray.toList_eq] at h
      exact (ByteArray.ext (Array.ext' h)).symm
    · exact .inr h
theorem c_rWord (s : ByteArray) : Pure Tryz.prog 72 [sv s] (bv (wordS s)) := by
  have hw := c_rwords
  unfold wordS
  generalize hl : wordsL = l at *
  have hln : l.length ≤ 1000000 := by rw [← hl]; decide
  refine pure_of_awp Tryz.func72 rfl rfl (by simp [Tryz.f72]) ?_; simp only [go_sem, ↓reduceIte, Nat.reduceEqDiff, Nat.reduceAdd, Nat.reduceLeDiff, Nat.reduceBEq, Nat.reduceMul, reduceCtorEq, Int.reduceLE, Int.reduceLT, Int.reduceAdd, Int.reduceSub, Int.reduceNeg, Int.reduceToNat, Int.reduceBEq]
  repeat' (first | refine awp_seq ?_ | refine awp_block ?_ | refine awp_round ?_ | refine awp_scope ?_ | refine awp_text rfl ?_ | refine awp_any rfl mix (by kernel_rfl) ?_ | (refine RunTo.unguard rfl rfl (fun hg => ?_) (fun hg => ?_) <;> ((try simp only [Bool.not_true, Bool.not_false, Bool.not_eq_true', Bool.not_eq_false', Bool.not_eq_eq_eq_not] at hg); (first | (cases hg) | (simp only [hg]) | skip))) | ((first | refine RunTo.plain rfl ?_ | refine RunTo.skipped rfl ?_ | refine RunTo.call (hw) Tryz.func93 rfl rfl rfl rfl rfl rfl rfl rfl ?_); simp only [go_sem, ↓reduceIte, Nat.reduceEqDiff, Nat.reduceAdd, Nat.reduceLeDiff, Nat.reduceBEq, Nat.reduceMul, reduceCtorEq, Int.reduceLE, Int.reduceLT, Int.reduceAdd, Int.reduceSub, Int.reduceNeg, Int.reduceToNat, Int.reduceBEq]) | ((first | refine RunTo.nilA (by kernel_rfl) ?_ | refine RunTo.nilT ?_ | refine awp_skip ?_ | refine awp_exit ?_ | refine awp_label ?_); simp only [go_sem, ↓reduceIte, Nat.reduceEqDiff, Nat.reduceAdd, Nat.reduceLeDiff, Nat.reduceBEq, Nat.reduceMul, reduceCtorEq, Int.reduceLE, Int.reduceLT, Int.reduceAdd, Int.reduceSub, Int.reduceNeg, Int.reduceToNat, Int.reduceBEq]) | (refine awp_cond' rfl (of_decide_eq_true rfl) (fun hc => ?_) (fun hc => ?_) <;> ((try simp only [Bool.not_true, Bool.not_false, Bool.not_eq_true', Bool.not_eq_false', Bool.not_eq_eq_eq_not] at hc); (first | (cases hc) | (simp only [hc]) | skip))))
  refine awp_loopw (IDb s l) l.length (SDb s l 0 _) (weak_keep ⟨rfl, rfl, rfl, trivial⟩ trivial (Nat.le_refl _)) ⟨0, _, Nat.zero_le _, rfl, rfl, rfl⟩ ?_
  rintro n st ⟨k, T, hk, rfl, hn, rfl⟩
  by_cases hlt : k < l.length
  · have hdec := lt_t hlt
    have hget := row_at (fun x : ByteArray => [ds' x]) l k hlt
    have hwk : IntKind.i64.wrap ((k : Int) + 1) = ((k + 1 : Nat) : Int) := wrap_succ (by omega)
    rw [List.drop_eq_getElem_cons hlt, contains_cons] at hn
    generalize l[k] = x at *
    cases q : (x.toList == s.toList) with
    | true =>
      rw [q, Bool.true_or] at hn
      rw [← hn]
      repeat' (first | refine awp_seq ?_ | refine awp_block ?_ | refine awp_round ?_ | refine awp_scope ?_ | refine awp_text rfl ?_ | refine awp_any rfl mix (by kernel_rfl) ?_ | (refine RunTo.unguard rfl rfl (fun hg => ?_) (fun hg => ?_) <;> ((try simp only [Bool.not_true, Bool.not_false, Bool.not_eq_true', Bool.not_eq_false', Bool.not_eq_eq_eq_not] at hg); (first | (cases hg) | (simp only [hg]) | skip))) | ((first | refine RunTo.plain rfl ?_ | refine RunTo.skipped rfl ?_); simp only [go_sem, ↓reduceIte, Nat.reduceEqDiff, Nat.reduceAdd, Nat.reduceLeDiff, Nat.reduceBEq, Nat.reduceMul, reduceCtorEq, Int.reduceLE, Int.reduceLT, Int.reduceAdd, Int.reduceSub, Int.reduceNeg, Int.reduceToNat, Int.reduceBEq, hdec, hget, q, List.length_map]) | ((first | refine RunTo.nilA (by kernel_rfl) ?_ | refine RunTo.nilT ?_ | refine awp_skip ?_ | refine awp_exit ?_ | refine awp_label ?_); simp only [go_sem, ↓reduceIte, Nat.reduceEqDiff, Nat.reduceAdd, Nat.reduceLeDiff, Nat.reduceBEq, Nat.reduceMul, reduceCtorEq, Int.reduceLE, Int.reduceLT, Int.reduceAdd, Int.reduceSub, Int.reduceNeg, Int.reduceToNat, Int.reduceBEq, hdec, hget, q, List.length_map]) | (refine awp_cond' rfl (of_decide_eq_true rfl) (fun hc => ?_) (fun hc => ?_) <;> ((try simp only [Bool.not_true, Bool.not_false, Bool.not_eq_true', Bool.not_eq_false', Bool.not_eq_eq_eq_not] at hc); (first | (cases hc) | (simp only [hc]) | skip))))
      all_goals (first | refine awp_ret ?_ | skip); refine ⟨(by first | exact .inl rfl | exact .inr rfl | exact .inr trivial | trivial), ?_⟩; simp only [go_sem, ↓reduceIte, Nat.reduceEqDiff, Nat.reduceAdd, Nat.reduceLeDiff, Nat.reduceBEq, Nat.reduceMul, reduceCtorEq, Int.reduceLE, Int.reduceLT, Int.reduceAdd, Int.reduceSub, Int.reduceNeg, Int.reduceToNat, Int.reduceBEq, retV, resL, resV, sealV, sealC, sealAll, Tryz.f72]
      all_goals rfl
    | false =>
      rw [q, Bool.false_or] at hn
      repeat' (first | refine awp_seq ?_ | refine awp_block ?_ | refine awp_round ?_ | refine awp_scope ?_ | refine awp_text rfl ?_ | refine awp_any rfl mix (by kernel_rfl) ?_ | (refine RunTo.unguard rfl rfl (fun hg => ?_) (fun hg => ?_) <;> ((try simp only [Bool.not_true, Bool.not_false, Bool.not_eq_true', Bool.not_eq_false', Bool.not_eq_eq_eq_not] at hg); (first | (cases hg) | (simp only [hg]) | skip))) | ((first | refine RunTo.plain rfl ?_ | refine RunTo.skipped rfl ?_); simp only [go_sem, ↓reduceIte, Nat.reduceEqDiff, Nat.reduceAdd, Nat.reduceLeDiff, Nat.reduceBEq, Nat.reduceMul, reduceCtorEq, Int.reduceLE, Int.reduceLT, Int.reduceAdd, Int.reduceSub, Int.reduceNeg, Int.reduceToNat, Int.reduceBEq, hdec, hget, q, hwk, List.length_map]) | ((first | refine RunTo.nilA (by kernel_rfl) ?_ | refine RunTo.nilT ?_ | refine awp_skip ?_ | refine awp_exit ?_ | refine awp_label ?_); simp only [go_sem, ↓reduceIte, Nat.reduceEqDiff, Nat.reduceAdd, Nat.reduceLeDiff, Nat.reduceBEq, Nat.reduceMul, reduceCtorEq, Int.reduceLE, Int.reduceLT, Int.reduceAdd, Int.reduceSub, Int.reduceNeg, Int.reduceToNat, Int.reduceBEq, hdec, hget, q, hwk, List.length_map]) | (refine awp_cond' rfl (of_decide_eq_true rfl) (fun hc => ?_) (fun hc => ?_) <;> ((try simp only [Bool.not_true, Bool.not_false, Bool.not_eq_true', Bool.not_eq_false', Bool.not_eq_eq_eq_not] at hc); (first | (cases hc) | (simp only [hc]) | skip))))
      all_goals exact ⟨l.length - (k + 1), by omega, SDb s l (k + 1) _, weak_keep ⟨rfl, rfl, rfl, trivial⟩ trivial (Nat.le_refl _), k + 1, _, by omega, rfl, hn, rfl⟩
  · have hdec := lt_f hlt
    rw [List.drop_of_length_le (by omega)] at hn
    rw [← hn]
    repeat' (first | refine awp_seq ?_ | refine awp_block ?_ | refine awp_round ?_ | refine awp_scope ?_ | refine awp_text rfl ?_ | refine awp_any rfl mix (by kernel_rfl) ?_ | (refine RunTo.unguard rfl rfl (fun hg => ?_) (fun hg => ?_) <;> ((try simp only [Bool.not_true, Bool.not_false, Bool.not_eq_true', Bool.not_eq_false', Bool.not_eq_eq_eq_not] at hg); (first | (cases hg) | (simp only [hg]) | skip))) | ((first | refine RunTo.plain rfl ?_ | refine RunTo.skipped rfl ?_); simp only [go_sem, ↓reduceIte, Nat.reduceEqDiff, Nat.reduceAdd, Nat.reduceLeDiff, Nat.reduceBEq, Nat.reduceMul, reduceCtorEq, Int.reduceLE, Int.reduceLT, Int.reduceAdd, Int.reduceSub, Int.reduceNeg, Int.reduceToNat, Int.reduceBEq, hdec, List.length_map]) | ((first | refine RunTo.nilA (by kernel_rfl) ?_ | refine RunTo.nilT ?_ | refine awp_skip ?_ | refine awp_exit ?_ | refine awp_label ?_); simp only [go_sem, ↓reduceIte, Nat.reduceEqDiff, Nat.reduceAdd, Nat.reduceLeDiff, Nat.reduceBEq, Nat.reduceMul, reduceCtorEq, Int.reduceLE, Int.reduceLT, Int.reduceAdd, Int.reduceSub, Int.reduceNeg, Int.reduceToNat, Int.reduceBEq, hdec, List.length_map]) | (refine awp_cond' rfl (of_decide_eq_true rfl) (fun hc => ?_) (fun hc => ?_) <;> ((try simp only [Bool.not_true, Bool.not_false, Bool.not_eq_true', Bool.not_eq_false', Bool.not_eq_eq_eq_not] at hc); (first | (cases hc) | (simp only [hc]) | skip))))
    all_goals (first | refine awp_ret ?_ | skip); refine ⟨(by first | exact .inl rfl | exact .inr rfl | exact .inr trivial | trivial), ?_⟩; simp only [go_sem, ↓reduceIte, Nat.reduceEqDiff, Nat.reduceAdd, Nat.reduceLeDiff, Nat.reduceBEq, Nat.reduceMul, reduceCtorEq, Int.reduceLE, Int.reduceLT, Int.reduceAdd, Int.reduceSub, Int.reduceNeg, Int.reduceToNat, Int.reduceBEq, retV, resL, resV, sealV, sealC, sealAll, Tryz.f72]
    all_goals rfl
theorem c_rname (s : ByteArray) (hs : s.size ≤ 1000000000) : Pure Tryz.prog 57 [sv s] (bv (isName s)) := by
  have h1 := c_rName s hs
  have h2 := c_rWord s
  unfold isName
  generalize nameS s = a at *
  generalize wordS s = b at *
  cases a <;> cases b
  all_goals
    refine pure_of_awp Tryz.func57 rfl rfl (by simp [Tryz.f57]) ?_; simp only [go_sem, ↓reduceIte, Nat.reduceEqDiff, Nat.reduceAdd, Nat.reduceLeDiff, Nat.reduceBEq, Nat.reduceMul, reduceCtorEq, Int.reduceLE, Int.reduceLT, Int.reduceAdd, Int.reduceSub, Int.reduceNeg, Int.reduceToNat, Int.reduceBEq]
    repeat' (first | refine awp_seq ?_ | refine awp_block ?_ | refine awp_round ?_ | refine awp_scope ?_ | refine awp_text rfl ?_ | refine awp_any rfl mix (by kernel_rfl) ?_ | (refine RunTo.unguard rfl rfl (fun hg => ?_) (fun hg => ?_) <;> ((try simp only [Bool.not_true, Bool.not_false, Bool.not_eq_true', Bool.not_eq_false', Bool.not_eq_eq_eq_not] at hg); (first | (cases hg) | (simp only [hg]) | skip))) | ((first | refine RunTo.plain rfl ?_ | refine RunTo.skipped rfl ?_ | refine RunTo.call (h1) Tryz.func71 rfl rfl rfl rfl rfl rfl rfl rfl ?_ | refine RunTo.call (h2) Tryz.func72 rfl rfl rfl rfl rfl rfl rfl rfl ?_); simp only [go_sem, ↓reduceIte, Nat.reduceEqDiff, Nat.reduceAdd, Nat.reduceLeDiff, Nat.reduceBEq, Nat.reduceMul, reduceCtorEq, Int.reduceLE, Int.reduceLT, Int.reduceAdd, Int.reduceSub, Int.reduceNeg, Int.reduceToNat, Int.reduceBEq, Bool.not_true, Bool.not_false]) | ((first | refine RunTo.nilA (by kernel_rfl) ?_ | refine RunTo.nilT ?_ | refine awp_skip ?_ | refine awp_exit ?_ | refine awp_label ?_); simp only [go_sem, ↓reduceIte, Nat.reduceEqDiff, Nat.reduceAdd, Nat.reduceLeDiff, Nat.reduceBEq, Nat.reduceMul, reduceCtorEq, Int.reduceLE, Int.reduceLT, Int.reduceAdd, Int.reduceSub, Int.reduceNeg, Int.reduceToNat, Int.reduceBEq, Bool.not_true, Bool.not_false]) | (refine awp_cond' rfl (of_decide_eq_true rfl) (fun hc => ?_) (fun hc => ?_) <;> ((try simp only [Bool.not_true, Bool.not_false, Bool.not_eq_true', Bool.not_eq_false', Bool.not_eq_eq_eq_not] at hc); (first | (cases hc) | (simp only [hc]) | skip))))
    all_goals (first | refine awp_ret ?_ | skip); refine ⟨(by first | exact .inl rfl | exact .inr rfl | exact .inr trivial | trivial), ?_⟩; simp only [go_sem, ↓reduceIte, Nat.reduceEqDiff, Nat.reduceAdd, Nat.reduceLeDiff, Nat.reduceBEq, Nat.reduceMul, reduceCtorEq, Int.reduceLE, Int.reduceLT, Int.reduceAdd, Int.reduceSub, Int.reduceNeg, Int.reduceToNat, Int.reduceBEq, retV, resL, resV, sealV, sealC, sealAll, Tryz.f57]
    all_goals rfl
end Go.Proofs.YtinpnidokpjfhaaGreatDoor.AM
namespace Go.Proofs.YtinpnidokpjfhaaGreatDoor.FL
open Go.RowKit Ieee
set_option linter.unusedVariables false
set_option linter.unusedSimpArgs false
def fOrd (a b : Nat) : Option Ordering := Ieee.double.order a b
def fEq (a b : Nat) : Bool := fOrd a b == some .eq
def fNe (a b : Nat) : Bool := fOrd a b != some .eq
def fLt (a b : Nat) : Bool := fOrd a b == some .lt
def fGt (a b : Nat) : Bool := fOrd a b == some .gt
def fNeg (a : Nat) : Nat := a ^^^ 9223372036854775808
def B52 : Nat := 4503599627370496
def S63 : Nat := 9223372036854775808
def INF : Nat := 9218868437227405312
theorem signWeight_eq : double.signWeight = S63 := rfl
theorem binade_eq : double.binade = B52 := rfl
theorem infRung_eq : double.infRung = INF := rfl
theorem leastPlace_eq : double.leastPlace = -1074 := rfl
def rung (b : Nat) : Nat := b % S63
def neg (b : Nat) : Bool := b / S63 % 2 == 1
def mval (r : Nat) : Nat := if r < B52 then r else (B52 + r % B52) * 2 ^ (r / B52 - 1)
def nan (b : Nat) : Bool := decide (INF < rung b)
def sgn (s : Bool) (n : Nat) : Int := if s then -(n : Int) else n
def sv (b : Nat) : Int := sgn (neg b) (mval (rung b))
theorem mval_bounds (r : Nat) (h : B52 ≤ r) : B52 * 2 ^ (r / B52 - 1) ≤ mval r ∧ mval r < B52 * 2 ^ (r / B52) := by
  have hp : 0 < B52 := by decide
  have hm : r % B52 < B52 := Nat.mod_lt _ hp
  have hq : 1 ≤ r / B52 := (Nat.le_div_iff_mul_le hp).2 (by omega)
  unfold mval
  rw [if_neg (by omega)]
  refine ⟨Nat.mul_le_mul_right _ (by omega), ?_⟩
  obtain ⟨q, hq'⟩ : ∃ q, r / B52 = q + 1 := ⟨r / B52 - 1, by omega⟩
  rw [hq', Nat.add_sub_cancel, Nat.pow_succ, ← Nat.mul_assoc, Nat.mul_comm _ 2, ← Nat.mul_assoc]
  exact Nat.mul_lt_mul_of_pos_right (by omega) (Nat.two_pow_pos q)
theorem mval_lt {r s : Nat} (h : r < s) : mval r < mval s := by
  have hp : 0 < B52 := by decide
  by_cases hs : s < B52
  · unfold mval
    rw [if_pos (by omega), if_pos hs]
    exact h
  have hsb := mval_bounds s (by omega)
  have hq : 1 ≤ s / B52 := (Nat.le_div_iff_mul_le hp).2 (by omega)
  by_cases hr : r < B52
  · have : mval r = r := by unfold mval; rw [if_pos hr]
    rw [this]
    have : B52 * 1 ≤ B52 * 2 ^ (s / B52 - 1) := Nat.mul_le_mul_left _ (Nat.two_pow_pos _)
    omega
  have hrb := mval_bounds r (by omega)
  have hle : r / B52 ≤ s / B52 := Nat.div_le_div_right (by omega)
  by_cases e : r / B52 = s / B52
  · unfold mval
    rw [if_neg hr, if_neg hs, e]
    refine Nat.mul_lt_mul_of_pos_right ?_ (Nat.two_pow_pos _)
    have h1 := Nat.div_add_mod r B52
    have h2 := Nat.div_add_mod s B52
    rw [e] at h1
    omega
  · have : B52 * 2 ^ (r / B52) ≤ B52 * 2 ^ (s / B52 - 1) := Nat.mul_le_mul_left _ (Nat.pow_le_pow_right (by omega) (by omega))
    omega
theorem mval_zero : mval 0 = 0 := rfl
theorem mval_pos {r : Nat} (h : 0 < r) : 0 < mval r := by
  have := mval_lt h
  omega
theorem read_number (b : Nat) (h : rung b < INF) : ∃ (m e : Nat), double.read b = .number (neg b) m (-1074 + (e : Int)) ∧ m * 2 ^ e = mval (rung b) := by
  unfold Format.read mval
  rw [signWeight_eq, binade_eq, infRung_eq, leastPlace_eq]
  show ∃ m e, (if rung b < B52 then Datum.number (neg b) (rung b) (-1074) else if rung b < INF then .number (neg b) (B52 + rung b % B52) (-1074 + ((rung b / B52 - 1 : Nat) : Int)) else if rung b = INF then .infinity (neg b) else .nan (neg b) (rung b - INF)) = _ ∧ _
  by_cases h1 : rung b < B52
  · rw [if_pos h1, if_pos h1]
    exact ⟨rung b, 0, rfl, by simp⟩
  · rw [if_neg h1, if_neg h1, if_pos h]
    exact ⟨_, _, rfl, rfl⟩
theorem read_inf (b : Nat) (h : rung b = INF) : double.read b = .infinity (neg b) := by
  unfold Format.read
  rw [signWeight_eq, binade_eq, infRung_eq, leastPlace_eq]
  show (if rung b < B52 then Datum.number (neg b) (rung b) (-1074) else if rung b < INF then .number (neg b) (B52 + rung b % B52) (-1074 + ((rung b / B52 - 1 : Nat) : Int)) else if rung b = INF then .infinity (neg b) else .nan (neg b) (rung b - INF)) = _
  rw [if_neg (by rw [h]; decide), if_neg (by omega), if_pos h]
theorem read_nan (b : Nat) (h : INF < rung b) : double.read b = .nan (neg b) (rung b - INF) := by
  unfold Format.read
  rw [signWeight_eq, binade_eq, infRung_eq, leastPlace_eq]
  show (if rung b < B52 then Datum.number (neg b) (rung b) (-1074) else if rung b < INF then .number (neg b) (B52 + rung b % B52) (-1074 + ((rung b / B52 - 1 : Nat) : Int)) else if rung b = INF then .infinity (neg b) else .nan (neg b) (rung b - INF)) = _
  rw [if_neg (by have : B52 < INF := by decide
                 omega), if_neg (by omega), if_neg (by omega)]
theorem cmp_scale (x y : Int) (c : Nat) (hc : 0 < c) : compare (x * c) (y * c) = compare x y := by
  have hc' : (0 : Int) < (c : Int) := by omega
  rcases Int.lt_trichotomy x y with h | h | h
  · rw [Int.compare_eq_lt.2 h, Int.compare_eq_lt.2 (Int.mul_lt_mul_of_pos_right h hc')]
  · rw [h]
    rw [Int.compare_eq_eq.2 rfl, Int.compare_eq_eq.2 rfl]
  · rw [Int.compare_eq_gt.2 h, Int.compare_eq_gt.2 (Int.mul_lt_mul_of_pos_right h hc')]
theorem signed_eq (s : Bool) (m u : Nat) : signed s m u = sgn s (m * 2 ^ u) := by
  unfold signed sgn
  rw [Nat.shiftLeft_eq]
theorem sgn_mul (s : Bool) (m c : Nat) : sgn s m * (c : Int) = sgn s (m * c) := by
  unfold sgn
  split
  · rw [Int.neg_mul, Int.natCast_mul]
  · rw [Int.natCast_mul]
theorem order_numbers (s t : Bool) (m n e f : Nat) : (Datum.number s m (-1074 + (e : Int))).order (.number t n (-1074 + (f : Int))) = some (compare (sgn s (m * 2 ^ e)) (sgn t (n * 2 ^ f))) := by
  show some (compare (signed s m ((-1074 + (e : Int)) - min (-1074 + (e : Int)) (-1074 + (f : Int))).toNat) (signed t n ((-1074 + (f : Int)) - min (-1074 + (e : Int)) (-1074 + (f : Int))).toNat)) = _
  obtain ⟨g, hg⟩ : ∃ g : Nat, g = min e f := ⟨_, rfl⟩
  have e1 : ((-1074 + (e : Int)) - min (-1074 + (e : Int)) (-1074 + (f : Int))).toNat = e - g := by omega
  have e2 : ((-1074 + (f : Int)) - min (-1074 + (e : Int)) (-1074 + (f : Int))).toNat = f - g := by omega
  rw [e1, e2, signed_eq, signed_eq, ← cmp_scale _ _ (2 ^ g) (Nat.two_pow_pos g), sgn_mul, sgn_mul, Nat.mul_assoc, Nat.mul_assoc, ← Nat.pow_add, ← Nat.pow_add,
    show e - g + g = e by omega, show f - g + g = f by omega]
end Go.Proofs.YtinpnidokpjfhaaGreatDoor.FL
