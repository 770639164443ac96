/- Part 6 of the proof: words, contracts, plain laws. Laid by a program of this session (wip/tool/shake.py): what is needed of own and printed texts, in order. -/
import Derived.Test.YtinpnidokpjfhaaGreatDoorZa0
import Derived.Test.YtinpnidokpjfhaaGreatDoorZa1
import Derived.Test.YtinpnidokpjfhaaGreatDoorZa2
import Derived.Test.YtinpnidokpjfhaaGreatDoorZa3
import Derived.Test.YtinpnidokpjfhaaGreatDoorZa5
import Derived.Calls
import Derived.Lib.ItoaNum
import Derived.Orders
import Derived.Tactics
import Derived.Below
import Derived.Laws.Rows
import Derived.Laws.World
import Derived.Laws.CopyRow
import Derived.Lib.FrozenHead
import Derived.Deep.AppendSrc
import Derived.Deep.Upon
import Derived.Laws.BytesArg
import Derived.IntWalk
import Derived.Laws.Externs
import Derived.LoopN
import Derived.Scope
import Derived.Test.YtinpnidokpjfhaaGreatDoorProg
import Derived.KernelRfl
import Derived.MapKept
import Derived.RegionTactic
import Derived.Lib.AppendIntMem
import Derived.Lib.Join
import Derived.Shelf.Strings.Builder1
import Derived.Shelf.Strings.Builder2
import Derived.Shelf.Strings.OnBuilder
import Derived.Shelf.Small.Wraps
import Derived.Shelf.Strings.BuilderF
import Derived.Shelf.Strings.BuilderK
import Derived.Shelf.Strings.Builder2Cap
import Derived.Shelf.Strconv.Itoa0
import Derived.Shelf.Strconv.Itoa1
import Derived.Shelf.LaysM
import Derived.Shelf.Strconv.Itoa2
import Derived.Shelf.Strconv.Itoa3
import Derived.Shelf.Strings.BuilderCap
import Derived.Shelf.Slices.Turned
import Derived.Lib.ItoaLen
namespace Go.Proofs.YtinpnidokpjfhaaGreatDoor.AM
open Go.RowKit
set_option linter.unusedSimpArgs false
set_option linter.unusedVariables false
set_option maxRecDepth 10000
set_option maxHeartbeats 0
theorem c_text (ts : List TermD) (d : Int) (hl : ts.length ≤ 1000) (hd : deepS [] ts = some [d]) (hok : ∀ t ∈ ts, okT t) : Pure Tryz.prog 18 [.dat (.lst 8 (ts.map TermD.enc))] (sv (textS ts)) := by
  refine pure_of_awp Tryz.func18 rfl rfl (by simp [Tryz.f18]) ?_; simp only [go_sem, ↓reduceIte, Nat.reduceEqDiff, Nat.reduceAdd, Nat.reduceLeDiff, Nat.reduceBEq, Nat.reduceMul, reduceCtorEq, Int.reduceLE, Int.reduceLT, Int.reduceAdd, Int.reduceSub, Int.reduceNeg, Int.reduceToNat, Int.reduceBEq]
  repeat' (first | refine awp_seq ?_ | refine awp_block ?_ | refine awp_round ?_ | refine awp_scope ?_ | refine awp_text rfl ?_ | refine awp_any rfl mix (by kernel_rfl) ?_ | (refine RunTo.unguard rfl rfl (fun hg => ?_) (fun hg => ?_) <;> ((try simp only [Bool.not_true, Bool.not_false, Bool.not_eq_true', Bool.not_eq_false', Bool.not_eq_eq_eq_not] at hg); (first | (cases hg) | (simp only [hg]) | skip))) | ((first | refine RunTo.plain rfl ?_ | refine RunTo.skipped rfl ?_); simp only [go_sem, ↓reduceIte, Nat.reduceEqDiff, Nat.reduceAdd, Nat.reduceLeDiff, Nat.reduceBEq, Nat.reduceMul, reduceCtorEq, Int.reduceLE, Int.reduceLT, Int.reduceAdd, Int.reduceSub, Int.reduceNeg, Int.reduceToNat, Int.reduceBEq, List.length_map]) | ((first | refine RunTo.nilA (by kernel_rfl) ?_ | refine RunTo.nilT ?_ | refine awp_skip ?_ | refine awp_exit ?_ | refine awp_label ?_); simp only [go_sem, ↓reduceIte, Nat.reduceEqDiff, Nat.reduceAdd, Nat.reduceLeDiff, Nat.reduceBEq, Nat.reduceMul, reduceCtorEq, Int.reduceLE, Int.reduceLT, Int.reduceAdd, Int.reduceSub, Int.reduceNeg, Int.reduceToNat, Int.reduceBEq, List.length_map]) | (refine awp_cond' rfl (of_decide_eq_true rfl) (fun hc => ?_) (fun hc => ?_) <;> ((try simp only [Bool.not_true, Bool.not_false, Bool.not_eq_true', Bool.not_eq_false', Bool.not_eq_eq_eq_not] at hc); (first | (cases hc) | (simp only [hc]) | skip))))
  refine awp_weak (weak_nilbox (b := 3) (j := 0) (s := 200) (sz := 1) rfl rfl rfl) ?_
  simp only [go_sem, ↓reduceIte, Nat.reduceEqDiff, Nat.reduceAdd, Nat.reduceLeDiff, Nat.reduceBEq, Nat.reduceMul, reduceCtorEq, Int.reduceLE, Int.reduceLT, Int.reduceAdd, Int.reduceSub, Int.reduceNeg, Int.reduceToNat, Int.reduceBEq, List.set_cons_zero]
  refine awp_loopw (IT ts d) ts.length (ST ts 0 _ _ _ _ _) (weak_keep ⟨rfl, rfl, rfl, rfl, rfl, trivial⟩ ⟨rfl, rfl, trivial⟩ (Nat.le_refl _)) ⟨0, _, _, _, _, _, [], [], Nat.zero_le _, rfl, hd, rfl, Nat.zero_le _, Nat.zero_le _, rfl, rfl, rfl, rfl⟩ ?_
  rintro n st ⟨k, T, e, e3, m, rows, s, sd, hk, rfl, hdd, hsd, hsk, hsum, hfold, rfl, rfl, rfl⟩
  by_cases hlt : k < ts.length
  · have hdec := lt_t hlt
    have hget := row_at TermD.enc ts k hlt
    have hot := hok _ (List.getElem_mem hlt)
    have hwk : IntKind.i64.wrap ((k : Int) + 1) = ((k + 1 : Nat) : Int) := wrap_succ (by omega)
    rw [List.drop_eq_getElem_cons hlt] at hdd hfold
    generalize ts[k] = t at *
    rw [deepS_cons] at hdd
    by_cases hbad : t.op ≤ 0 ∨ 16 ≤ t.op ∨ sd.length < ofN t.op
    · rw [stepD, if_pos hbad] at hdd; cases hdd
    rw [stepD, if_neg hbad] at hdd
    simp only [not_or] at hbad
    obtain ⟨hb1, hb2, hb3⟩ := hbad
    obtain ⟨op, var, name, v⟩ := t
    obtain ⟨o1, o2, o3, o4, o5, o6⟩ := hot
    dsimp only at *
    have c1 : ((s.length + 1) * 16 ≤ 140737488355328) = True := eq_true (by omega)
    have htk : (sl s).take s.length = sl s := List.take_of_length_le (by simp)
    by_cases h1 : op = 1
    · subst h1
      have hts : tStep s ⟨1, var, name, v⟩ = s ++ [printV1 v] := by simp [tStep, own0]
      have hsz : (printV1 v).size ≤ 100000000 := by omega
      rw [show ofN 1 = 0 from rfl] at hdd
      have hp := c_Print1 v (o1 rfl) o2 o3
      repeat' (first | refine awp_seq ?_ | refine awp_block ?_ | refine awp_round ?_ | refine awp_scope ?_ | refine awp_text rfl ?_ | refine awp_any rfl mix (by kernel_rfl) ?_ | (refine RunTo.unguard rfl rfl (fun hg => ?_) (fun hg => ?_) <;> ((try simp only [Bool.not_true, Bool.not_false, Bool.not_eq_true', Bool.not_eq_false', Bool.not_eq_eq_eq_not] at hg); (first | (cases hg) | (simp only [hg]) | skip))) | ((first | refine RunTo.plain rfl ?_ | refine RunTo.skipped rfl ?_ | refine RunTo.call (hp) Tryz.func45 rfl rfl rfl rfl rfl rfl rfl rfl ?_); simp only [go_sem, ↓reduceIte, Nat.reduceEqDiff, Nat.reduceAdd, Nat.reduceLeDiff, Nat.reduceBEq, Nat.reduceMul, reduceCtorEq, Int.reduceLE, Int.reduceLT, Int.reduceAdd, Int.reduceSub, Int.reduceNeg, Int.reduceToNat, Int.reduceBEq, hdec, hget, TermD.enc, hwk, List.length_map, htk, c1, ByteArray.size_append, List.size_toArray]) | ((first | refine RunTo.nilA (by kernel_rfl) ?_ | refine RunTo.nilT ?_ | refine awp_skip ?_ | refine awp_exit ?_ | refine awp_label ?_); simp only [go_sem, ↓reduceIte, Nat.reduceEqDiff, Nat.reduceAdd, Nat.reduceLeDiff, Nat.reduceBEq, Nat.reduceMul, reduceCtorEq, Int.reduceLE, Int.reduceLT, Int.reduceAdd, Int.reduceSub, Int.reduceNeg, Int.reduceToNat, Int.reduceBEq, hdec, hget, TermD.enc, hwk, List.length_map, htk, c1, ByteArray.size_append, List.size_toArray]) | (refine awp_cond' rfl (of_decide_eq_true rfl) (fun hc => ?_) (fun hc => ?_) <;> ((try simp only [Bool.not_true, Bool.not_false, Bool.not_eq_true', Bool.not_eq_false', Bool.not_eq_eq_eq_not] at hc); (first | (cases hc) | (simp only [hc]) | skip))))
      exact step_mov (st'' := ST ts (k + 1) _ _ e3 _ _) [(3, 3), (68, 200)] rfl (m := ts.length - (k + 1)) (by omega) (by simp only [go_sem, ↓reduceIte, Nat.reduceEqDiff, Nat.reduceAdd, Nat.reduceLeDiff, Nat.reduceBEq, Nat.reduceMul, reduceCtorEq, Int.reduceLE, Int.reduceLT, Int.reduceAdd, Int.reduceSub, Int.reduceNeg, Int.reduceToNat, Int.reduceBEq]; exact weak_keep ⟨rfl, rfl, rfl, rfl, rfl, trivial⟩ ⟨rfl, rfl, trivial⟩ (Nat.le_refl _)) ⟨k + 1, _, _, _, _, _, s ++ [printV1 v], _, by omega, rfl, hdd, by simp; omega, by simp; omega, by rw [sumS_app]; omega, by rw [← hfold, List.foldl_cons, hts], by simp, by simp [sl], rfl⟩
    by_cases h2 : op = 2
    · subst h2
      have hts : tStep s ⟨2, var, name, v⟩ = s ++ [var ++ ⟨#[46]⟩ ++ name] := by simp [tStep, own0]
      have hsz : (var ++ ⟨#[46]⟩ ++ name).size ≤ 100000000 := by rw [ByteArray.size_append, ByteArray.size_append, b1]; omega
      rw [show ofN 2 = 0 from rfl] at hdd
      have z0 : (var.size + 1 ≤ 9223372036854775807) = True := eq_true (by omega)
      have z1 : (var.size + 1 + name.size ≤ 9223372036854775807) = True := eq_true (by omega)
      repeat' (first | refine awp_seq ?_ | refine awp_block ?_ | refine awp_round ?_ | refine awp_scope ?_ | refine awp_text rfl ?_ | refine awp_any rfl mix (by kernel_rfl) ?_ | (refine RunTo.unguard rfl rfl (fun hg => ?_) (fun hg => ?_) <;> ((try simp only [Bool.not_true, Bool.not_false, Bool.not_eq_true', Bool.not_eq_false', Bool.not_eq_eq_eq_not] at hg); (first | (cases hg) | (simp only [hg]) | skip))) | ((first | refine RunTo.plain rfl ?_ | refine RunTo.skipped rfl ?_); simp only [go_sem, ↓reduceIte, Nat.reduceEqDiff, Nat.reduceAdd, Nat.reduceLeDiff, Nat.reduceBEq, Nat.reduceMul, reduceCtorEq, Int.reduceLE, Int.reduceLT, Int.reduceAdd, Int.reduceSub, Int.reduceNeg, Int.reduceToNat, Int.reduceBEq, hdec, hget, TermD.enc, hwk, List.length_map, htk, c1, ByteArray.size_append, List.size_toArray, z0, z1]) | ((first | refine RunTo.nilA (by kernel_rfl) ?_ | refine RunTo.nilT ?_ | refine awp_skip ?_ | refine awp_exit ?_ | refine awp_label ?_); simp only [go_sem, ↓reduceIte, Nat.reduceEqDiff, Nat.reduceAdd, Nat.reduceLeDiff, Nat.reduceBEq, Nat.reduceMul, reduceCtorEq, Int.reduceLE, Int.reduceLT, Int.reduceAdd, Int.reduceSub, Int.reduceNeg, Int.reduceToNat, Int.reduceBEq, hdec, hget, TermD.enc, hwk, List.length_map, htk, c1, ByteArray.size_append, List.size_toArray, z0, z1]) | (refine awp_cond' rfl (of_decide_eq_true rfl) (fun hc => ?_) (fun hc => ?_) <;> ((try simp only [Bool.not_true, Bool.not_false, Bool.not_eq_true', Bool.not_eq_false', Bool.not_eq_eq_eq_not] at hc); (first | (cases hc) | (simp only [hc]) | skip))))
      exact step_mov (st'' := ST ts (k + 1) _ _ e3 _ _) [(3, 3), (68, 200)] rfl (m := ts.length - (k + 1)) (by omega) (by simp only [go_sem, ↓reduceIte, Nat.reduceEqDiff, Nat.reduceAdd, Nat.reduceLeDiff, Nat.reduceBEq, Nat.reduceMul, reduceCtorEq, Int.reduceLE, Int.reduceLT, Int.reduceAdd, Int.reduceSub, Int.reduceNeg, Int.reduceToNat, Int.reduceBEq]; exact weak_keep ⟨rfl, rfl, rfl, rfl, rfl, trivial⟩ ⟨rfl, rfl, trivial⟩ (Nat.le_refl _)) ⟨k + 1, _, _, _, _, _, s ++ [var ++ ⟨#[46]⟩ ++ name], _, by omega, rfl, hdd, by simp; omega, by simp; omega, by rw [sumS_app]; omega, by rw [← hfold, List.foldl_cons, hts], by simp, by simp [sl], rfl⟩
    by_cases h3 : op = 3
    · subst h3
      have hts : tStep s ⟨3, var, name, v⟩ = s ++ [(⟨#[105, 100, 40]⟩ : ByteArray) ++ var ++ ⟨#[41]⟩] := by simp [tStep, own0]
      have hsz : ((⟨#[105, 100, 40]⟩ : ByteArray) ++ var ++ ⟨#[41]⟩).size ≤ 100000000 := by rw [ByteArray.size_append, ByteArray.size_append, b1', b3]; omega
      rw [show ofN 3 = 0 from rfl] at hdd
      have z0 : (3 + var.size ≤ 9223372036854775807) = True := eq_true (by omega)
      have z1 : (3 + var.size + 1 ≤ 9223372036854775807) = True := eq_true (by omega)
      repeat' (first | refine awp_seq ?_ | refine awp_block ?_ | refine awp_round ?_ | refine awp_scope ?_ | refine awp_text rfl ?_ | refine awp_any rfl mix (by kernel_rfl) ?_ | (refine RunTo.unguard rfl rfl (fun hg => ?_) (fun hg => ?_) <;> ((try simp only [Bool.not_true, Bool.not_false, Bool.not_eq_true', Bool.not_eq_false', Bool.not_eq_eq_eq_not] at hg); (first | (cases hg) | (simp only [hg]) | skip))) | ((first | refine RunTo.plain rfl ?_ | refine RunTo.skipped rfl ?_); simp only [go_sem, ↓reduceIte, Nat.reduceEqDiff, Nat.reduceAdd, Nat.reduceLeDiff, Nat.reduceBEq, Nat.reduceMul, reduceCtorEq, Int.reduceLE, Int.reduceLT, Int.reduceAdd, Int.reduceSub, Int.reduceNeg, Int.reduceToNat, Int.reduceBEq, hdec, hget, TermD.enc, hwk, List.length_map, htk, c1, ByteArray.size_append, List.size_toArray, z0, z1]) | ((first | refine RunTo.nilA (by kernel_rfl) ?_ | refine RunTo.nilT ?_ | refine awp_skip ?_ | refine awp_exit ?_ | refine awp_label ?_); simp only [go_sem, ↓reduceIte, Nat.reduceEqDiff, Nat.reduceAdd, Nat.reduceLeDiff, Nat.reduceBEq, Nat.reduceMul, reduceCtorEq, Int.reduceLE, Int.reduceLT, Int.reduceAdd, Int.reduceSub, Int.reduceNeg, Int.reduceToNat, Int.reduceBEq, hdec, hget, TermD.enc, hwk, List.length_map, htk, c1, ByteArray.size_append, List.size_toArray, z0, z1]) | (refine awp_cond' rfl (of_decide_eq_true rfl) (fun hc => ?_) (fun hc => ?_) <;> ((try simp only [Bool.not_true, Bool.not_false, Bool.not_eq_true', Bool.not_eq_false', Bool.not_eq_eq_eq_not] at hc); (first | (cases hc) | (simp only [hc]) | skip))))
      exact step_mov (st'' := ST ts (k + 1) _ _ e3 _ _) [(3, 3), (68, 200)] rfl (m := ts.length - (k + 1)) (by omega) (by simp only [go_sem, ↓reduceIte, Nat.reduceEqDiff, Nat.reduceAdd, Nat.reduceLeDiff, Nat.reduceBEq, Nat.reduceMul, reduceCtorEq, Int.reduceLE, Int.reduceLT, Int.reduceAdd, Int.reduceSub, Int.reduceNeg, Int.reduceToNat, Int.reduceBEq]; exact weak_keep ⟨rfl, rfl, rfl, rfl, rfl, trivial⟩ ⟨rfl, rfl, trivial⟩ (Nat.le_refl _)) ⟨k + 1, _, _, _, _, _, s ++ [(⟨#[105, 100, 40]⟩ : ByteArray) ++ var ++ ⟨#[41]⟩], _, by omega, rfl, hdd, by simp; omega, by simp; omega, by rw [sumS_app]; omega, by rw [← hfold, List.foldl_cons, hts], by simp, by simp [sl], rfl⟩
    by_cases h4 : op = 4
    · subst h4
      rw [show ofN 4 = 1 from rfl] at hdd hb3
      rcases List.eq_nil_or_concat s with hnil | ⟨p, a, hs⟩
      · subst hnil; simp at hsd; omega
      rw [List.concat_eq_append] at hs
      subst hs
      have hts : tStep (p ++ [a]) ⟨4, var, name, v⟩ = p ++ [own1 4 a] := by simp [tStep]
      rw [sumS_app] at hsum
      rw [List.length_append, List.length_cons, List.length_nil] at hsd hsk
      have hsz : (own1 4 a).size ≤ a.size + 20 := by
        unfold own1
        rw [if_pos rfl, ByteArray.size_append, ByteArray.size_append, b5, b1']
        omega
      have ht := c_take (sl (p ++ [a])) p.length a (by simp [sl]) (by omega)
      have htk' : (sl (p ++ [a])).take p.length = sl p := by simp [sl]
      have c1' : ((p.length + 1) * 16 ≤ 140737488355328) = True := eq_true (by omega)
      have z0 : (5 + a.size ≤ 9223372036854775807) = True := eq_true (by omega)
      have z1 : (5 + a.size + 1 ≤ 9223372036854775807) = True := eq_true (by omega)
      repeat' (first | refine awp_seq ?_ | refine awp_block ?_ | refine awp_round ?_ | refine awp_scope ?_ | refine awp_text rfl ?_ | refine awp_any rfl mix (by kernel_rfl) ?_ | (refine RunTo.unguard rfl rfl (fun hg => ?_) (fun hg => ?_) <;> ((try simp only [Bool.not_true, Bool.not_false, Bool.not_eq_true', Bool.not_eq_false', Bool.not_eq_eq_eq_not] at hg); (first | (cases hg) | (simp only [hg]) | skip))) | ((first | refine RunTo.plain rfl ?_ | refine RunTo.skipped rfl ?_); simp only [go_sem, ↓reduceIte, Nat.reduceEqDiff, Nat.reduceAdd, Nat.reduceLeDiff, Nat.reduceBEq, Nat.reduceMul, reduceCtorEq, Int.reduceLE, Int.reduceLT, Int.reduceAdd, Int.reduceSub, Int.reduceNeg, Int.reduceToNat, Int.reduceBEq, hdec, hget, TermD.enc, hwk, List.length_map, List.length_append, htk', c1', Nat.le_add_right, ByteArray.size_append, List.size_toArray, z0, z1]) | (refine RunTo.actsE (ht) Tryz.func46 rfl rfl rfl rfl rfl rfl ?_; simp only [go_sem, ↓reduceIte, Nat.reduceEqDiff, Nat.reduceAdd, Nat.reduceLeDiff, Nat.reduceBEq, Nat.reduceMul, reduceCtorEq, Int.reduceLE, Int.reduceLT, Int.reduceAdd, Int.reduceSub, Int.reduceNeg, Int.reduceToNat, Int.reduceBEq, hdec, hget, TermD.enc, hwk, List.length_map, List.length_append, htk', c1', Nat.le_add_right, ByteArray.size_append, List.size_toArray, z0, z1]; (repeat' refine And.intro rfl ?_); with_reducible refine RunTo.this ?_) | ((first | refine RunTo.nilA (by kernel_rfl) ?_ | refine RunTo.nilT ?_ | refine awp_skip ?_ | refine awp_exit ?_ | refine awp_label ?_); simp only [go_sem, ↓reduceIte, Nat.reduceEqDiff, Nat.reduceAdd, Nat.reduceLeDiff, Nat.reduceBEq, Nat.reduceMul, reduceCtorEq, Int.reduceLE, Int.reduceLT, Int.reduceAdd, Int.reduceSub, Int.reduceNeg, Int.reduceToNat, Int.reduceBEq, hdec, hget, TermD.enc, hwk, List.length_map, List.length_append, htk', c1', Nat.le_add_right, ByteArray.size_append, List.size_toArray, z0, z1]) | (refine awp_cond' rfl (of_decide_eq_true rfl) (fun hc => ?_) (fun hc => ?_) <;> ((try simp only [Bool.not_true, Bool.not_false, Bool.not_eq_true', Bool.not_eq_false', Bool.not_eq_eq_eq_not] at hc); (first | (cases hc) | (simp only [hc]) | skip))))
      exact step_mov (st'' := ST ts (k + 1) _ _ e3 _ _) [(3, 3), (68, 200)] rfl (m := ts.length - (k + 1)) (by omega) (by simp only [go_sem, ↓reduceIte, Nat.reduceEqDiff, Nat.reduceAdd, Nat.reduceLeDiff, Nat.reduceBEq, Nat.reduceMul, reduceCtorEq, Int.reduceLE, Int.reduceLT, Int.reduceAdd, Int.reduceSub, Int.reduceNeg, Int.reduceToNat, Int.reduceBEq]; exact weak_keep ⟨rfl, rfl, rfl, rfl, rfl, trivial⟩ ⟨rfl, rfl, trivial⟩ (Nat.le_refl _)) ⟨k + 1, _, _, _, _, _, p ++ [own1 4 a], _, by omega, rfl, hdd, by simp; omega, by simp; omega, by rw [sumS_app]; omega, by rw [← hfold, List.foldl_cons, hts], by simp, by simp [sl, own1], rfl⟩
    by_cases h5 : op = 5
    · subst h5
      rw [show ofN 5 = 1 from rfl] at hdd hb3
      rcases List.eq_nil_or_concat s with hnil | ⟨p, a, hs⟩
      · subst hnil; simp at hsd; omega
      rw [List.concat_eq_append] at hs
      subst hs
      have hts : tStep (p ++ [a]) ⟨5, var, name, v⟩ = p ++ [own1 5 a] := by simp [tStep]
      rw [sumS_app] at hsum
      rw [List.length_append, List.length_cons, List.length_nil] at hsd hsk
      have hsz : (own1 5 a).size ≤ a.size + 20 := by
        unfold own1
        rw [if_neg (by decide), ByteArray.size_append, ByteArray.size_append, b0, b9]
        omega
      have ht := c_take (sl (p ++ [a])) p.length a (by simp [sl]) (by omega)
      have htk' : (sl (p ++ [a])).take p.length = sl p := by simp [sl]
      have c1' : ((p.length + 1) * 16 ≤ 140737488355328) = True := eq_true (by omega)
      have z0 : (1 + a.size ≤ 9223372036854775807) = True := eq_true (by omega)
      have z1 : (1 + a.size + 9 ≤ 9223372036854775807) = True := eq_true (by omega)
      repeat' (first | refine awp_seq ?_ | refine awp_block ?_ | refine awp_round ?_ | refine awp_scope ?_ | refine awp_text rfl ?_ | refine awp_any rfl mix (by kernel_rfl) ?_ | (refine RunTo.unguard rfl rfl (fun hg => ?_) (fun hg => ?_) <;> ((try simp only [Bool.not_true, Bool.not_false, Bool.not_eq_true', Bool.not_eq_false', Bool.not_eq_eq_eq_not] at hg); (first | (cases hg) | (simp only [hg]) | skip))) | ((first | refine RunTo.plain rfl ?_ | refine RunTo.skipped rfl ?_); simp only [go_sem, ↓reduceIte, Nat.reduceEqDiff, Nat.reduceAdd, Nat.reduceLeDiff, Nat.reduceBEq, Nat.reduceMul, reduceCtorEq, Int.reduceLE, Int.reduceLT, Int.reduceAdd, Int.reduceSub, Int.reduceNeg, Int.reduceToNat, Int.reduceBEq, hdec, hget, TermD.enc, hwk, List.length_map, List.length_append, htk', c1', Nat.le_add_right, ByteArray.size_append, List.size_toArray, z0, z1]) | (refine RunTo.actsE (ht) Tryz.func46 rfl rfl rfl rfl rfl rfl ?_; simp only [go_sem, ↓reduceIte, Nat.reduceEqDiff, Nat.reduceAdd, Nat.reduceLeDiff, Nat.reduceBEq, Nat.reduceMul, reduceCtorEq, Int.reduceLE, Int.reduceLT, Int.reduceAdd, Int.reduceSub, Int.reduceNeg, Int.reduceToNat, Int.reduceBEq, hdec, hget, TermD.enc, hwk, List.length_map, List.length_append, htk', c1', Nat.le_add_right, ByteArray.size_append, List.size_toArray, z0, z1]; (repeat' refine And.intro rfl ?_); with_reducible refine RunTo.this ?_) | ((first | refine RunTo.nilA (by kernel_rfl) ?_ | refine RunTo.nilT ?_ | refine awp_skip ?_ | refine awp_exit ?_ | refine awp_label ?_); simp only [go_sem, ↓reduceIte, Nat.reduceEqDiff, Nat.reduceAdd, Nat.reduceLeDiff, Nat.reduceBEq, Nat.reduceMul, reduceCtorEq, Int.reduceLE, Int.reduceLT, Int.reduceAdd, Int.reduceSub, Int.reduceNeg, Int.reduceToNat, Int.reduceBEq, hdec, hget, TermD.enc, hwk, List.length_map, List.length_append, htk', c1', Nat.le_add_right, ByteArray.size_append, List.size_toArray, z0, z1]) | (refine awp_cond' rfl (of_decide_eq_true rfl) (fun hc => ?_) (fun hc => ?_) <;> ((try simp only [Bool.not_true, Bool.not_false, Bool.not_eq_true', Bool.not_eq_false', Bool.not_eq_eq_eq_not] at hc); (first | (cases hc) | (simp only [hc]) | skip))))
      exact step_mov (st'' := ST ts (k + 1) _ _ e3 _ _) [(3, 3), (68, 200)] rfl (m := ts.length - (k + 1)) (by omega) (by simp only [go_sem, ↓reduceIte, Nat.reduceEqDiff, Nat.reduceAdd, Nat.reduceLeDiff, Nat.reduceBEq, Nat.reduceMul, reduceCtorEq, Int.reduceLE, Int.reduceLT, Int.reduceAdd, Int.reduceSub, Int.reduceNeg, Int.reduceToNat, Int.reduceBEq]; exact weak_keep ⟨rfl, rfl, rfl, rfl, rfl, trivial⟩ ⟨rfl, rfl, trivial⟩ (Nat.le_refl _)) ⟨k + 1, _, _, _, _, _, p ++ [own1 5 a], _, by omega, rfl, hdd, by simp; omega, by simp; omega, by rw [sumS_app]; omega, by rw [← hfold, List.foldl_cons, hts], by simp, by simp [sl, own1], rfl⟩
    have hof : ofN op = 2 := by unfold ofN; rw [if_neg (by omega), if_neg (by omega)]
    rw [hof] at hdd hb3
    rcases List.eq_nil_or_concat s with hnil | ⟨q, b, hs⟩
    · subst hnil; simp at hsd; omega
    rw [List.concat_eq_append] at hs
    subst hs
    rcases List.eq_nil_or_concat q with hnil | ⟨p, a, hs⟩
    · subst hnil; simp at hsd; omega
    rw [List.concat_eq_append] at hs
    subst hs
    have hts : tStep (p ++ [a] ++ [b]) ⟨op, var, name, v⟩ = p ++ [own2 op a b] := by
      unfold tStep
      dsimp only
      rw [if_neg (by omega), if_neg (by omega)]
      simp
    rw [sumS_app, sumS_app] at hsum
    rw [List.length_append, List.length_append, List.length_cons, List.length_nil, List.length_cons, List.length_nil] at hsd hsk
    have hsg := signS_size op
    have hsz : (own2 op a b).size ≤ a.size + b.size + 20 := by
      unfold own2
      rw [ByteArray.size_append, ByteArray.size_append, ByteArray.size_append, ByteArray.size_append, ByteArray.size_append, ByteArray.size_append, b0, b1', b32]
      omega
    have ht1 := c_take (sl (p ++ [a] ++ [b])) (p.length + 1) b (by simp [sl]) (by omega)
    have ht2 := c_take (sl (p ++ [a] ++ [b])) p.length a (by simp [sl]) (by omega)
    have htk' : (sl (p ++ [a] ++ [b])).take p.length = sl p := by simp [sl]
    have c1' : ((p.length + 1) * 16 ≤ 140737488355328) = True := eq_true (by omega)
    have n1 : (op == 1) = false := by simpa using h1
    have n2 : (op == 2) = false := by simpa using h2
    have n3 : (op == 3) = false := by simpa using h3
    have n4 : (op == 4) = false := by simpa using h4
    have n5 : (op == 5) = false := by simpa using h5
    have hle : (p.length ≤ p.length + 1 + 1) = True := eq_true (by omega)
    have z0 : (1 + a.size ≤ 9223372036854775807) = True := eq_true (by omega)
    have z1 : (1 + a.size + 1 ≤ 9223372036854775807) = True := eq_true (by omega)
    have z2 : (1 + a.size + 1 + (signS op).size ≤ 9223372036854775807) = True := eq_true (by omega)
    have z3 : (1 + a.size + 1 + (signS op).size + 1 ≤ 9223372036854775807) = True := eq_true (by omega)
    have z4 : (1 + a.size + 1 + (signS op).size + 1 + b.size ≤ 9223372036854775807) = True := eq_true (by omega)
    have z5 : (1 + a.size + 1 + (signS op).size + 1 + b.size + 1 ≤ 9223372036854775807) = True := eq_true (by omega)
    repeat' (first | refine awp_seq ?_ | refine awp_block ?_ | refine awp_round ?_ | refine awp_scope ?_ | refine awp_text rfl ?_ | refine awp_any rfl mix (by kernel_rfl) ?_ | (refine RunTo.unguard rfl rfl (fun hg => ?_) (fun hg => ?_) <;> ((try simp only [Bool.not_true, Bool.not_false, Bool.not_eq_true', Bool.not_eq_false', Bool.not_eq_eq_eq_not] at hg); (first | (cases hg) | (simp only [hg]) | skip))) | ((first | refine RunTo.plain rfl ?_ | refine RunTo.skipped rfl ?_ | refine RunTo.call (c_sign _) Tryz.func47 rfl rfl rfl rfl rfl rfl rfl rfl ?_); simp only [go_sem, ↓reduceIte, Nat.reduceEqDiff, Nat.reduceAdd, Nat.reduceLeDiff, Nat.reduceBEq, Nat.reduceMul, reduceCtorEq, Int.reduceLE, Int.reduceLT, Int.reduceAdd, Int.reduceSub, Int.reduceNeg, Int.reduceToNat, Int.reduceBEq, hdec, hget, TermD.enc, hwk, List.length_map, List.length_append, htk', c1', hle, Nat.le_add_right, n1, n2, n3, n4, n5, ByteArray.size_append, List.size_toArray, z0, z1, z2, z3, z4, z5]) | (refine RunTo.actsE (ht1) Tryz.func46 rfl rfl rfl rfl rfl rfl ?_; simp only [go_sem, ↓reduceIte, Nat.reduceEqDiff, Nat.reduceAdd, Nat.reduceLeDiff, Nat.reduceBEq, Nat.reduceMul, reduceCtorEq, Int.reduceLE, Int.reduceLT, Int.reduceAdd, Int.reduceSub, Int.reduceNeg, Int.reduceToNat, Int.reduceBEq, hdec, hget, TermD.enc, hwk, List.length_map, List.length_append, htk', c1', hle, Nat.le_add_right, n1, n2, n3, n4, n5, ByteArray.size_append, List.size_toArray, z0, z1, z2, z3, z4, z5]; (repeat' refine And.intro rfl ?_); with_reducible refine RunTo.this ?_) | (refine RunTo.actsE (ht2) Tryz.func46 rfl rfl rfl rfl rfl rfl ?_; simp only [go_sem, ↓reduceIte, Nat.reduceEqDiff, Nat.reduceAdd, Nat.reduceLeDiff, Nat.reduceBEq, Nat.reduceMul, reduceCtorEq, Int.reduceLE, Int.reduceLT, Int.reduceAdd, Int.reduceSub, Int.reduceNeg, Int.reduceToNat, Int.reduceBEq, hdec, hget, TermD.enc, hwk, List.length_map, List.length_append, htk', c1', hle, Nat.le_add_right, n1, n2, n3, n4, n5, ByteArray.size_append, List.size_toArray, z0, z1, z2, z3, z4, z5]; (repeat' refine And.intro rfl ?_); with_reducible refine RunTo.this ?_) | ((first | refine RunTo.nilA (by kernel_rfl) ?_ | refine RunTo.nilT ?_ | refine awp_skip ?_ | refine awp_exit ?_ | refine awp_label ?_); simp only [go_sem, ↓reduceIte, Nat.reduceEqDiff, Nat.reduceAdd, Nat.reduceLeDiff, Nat.reduceBEq, Nat.reduceMul, reduceCtorEq, Int.reduceLE, Int.reduceLT, Int.reduceAdd, Int.reduceSub, Int.reduceNeg, Int.reduceToNat, Int.reduceBEq, hdec, hget, TermD.enc, hwk, List.length_map, List.length_append, htk', c1', hle, Nat.le_add_right, n1, n2, n3, n4, n5, ByteArray.size_append, List.size_toArray, z0, z1, z2, z3, z4, z5]) | (refine awp_cond' rfl (of_decide_eq_true rfl) (fun hc => ?_) (fun hc => ?_) <;> ((try simp only [Bool.not_true, Bool.not_false, Bool.not_eq_true', Bool.not_eq_false', Bool.not_eq_eq_eq_not] at hc); (first | (cases hc) | (simp only [hc]) | skip))))
    exact step_mov (st'' := ST ts (k + 1) _ _ e3 _ _) [(3, 3), (68, 200)] rfl (m := ts.length - (k + 1)) (by omega) (by simp only [go_sem, ↓reduceIte, Nat.reduceEqDiff, Nat.reduceAdd, Nat.reduceLeDiff, Nat.reduceBEq, Nat.reduceMul, reduceCtorEq, Int.reduceLE, Int.reduceLT, Int.reduceAdd, Int.reduceSub, Int.reduceNeg, Int.reduceToNat, Int.reduceBEq]; exact weak_keep ⟨rfl, rfl, rfl, rfl, rfl, trivial⟩ ⟨rfl, rfl, trivial⟩ (Nat.le_refl _)) ⟨k + 1, _, _, _, _, _, p ++ [own2 op a b], _, by omega, rfl, hdd, by simp; omega, by simp; omega, by rw [sumS_app]; omega, by rw [← hfold, List.foldl_cons, hts], by simp, by simp [sl, own2], rfl⟩
  · have hdec := lt_f hlt
    have hk' : ts.drop k = [] := List.drop_of_length_le (by omega)
    rw [hk'] at hdd hfold
    have hs1 : s.length = 1 := by
      have : some sd = some [d] := hdd
      rw [hsd, Option.some.inj this]; rfl
    obtain ⟨x, rfl⟩ := List.length_eq_one_iff.1 hs1
    repeat' (first | refine awp_seq ?_ | refine awp_block ?_ | refine awp_round ?_ | refine awp_scope ?_ | refine awp_text rfl ?_ | refine awp_any rfl mix (by kernel_rfl) ?_ | (refine RunTo.unguard rfl rfl (fun hg => ?_) (fun hg => ?_) <;> ((try simp only [Bool.not_true, Bool.not_false, Bool.not_eq_true', Bool.not_eq_false', Bool.not_eq_eq_eq_not] at hg); (first | (cases hg) | (simp only [hg]) | skip))) | ((first | refine RunTo.plain rfl ?_ | refine RunTo.skipped rfl ?_); simp only [go_sem, ↓reduceIte, Nat.reduceEqDiff, Nat.reduceAdd, Nat.reduceLeDiff, Nat.reduceBEq, Nat.reduceMul, reduceCtorEq, Int.reduceLE, Int.reduceLT, Int.reduceAdd, Int.reduceSub, Int.reduceNeg, Int.reduceToNat, Int.reduceBEq, hdec]) | ((first | refine RunTo.nilA (by kernel_rfl) ?_ | refine RunTo.nilT ?_ | refine awp_skip ?_ | refine awp_exit ?_ | refine awp_label ?_); simp only [go_sem, ↓reduceIte, Nat.reduceEqDiff, Nat.reduceAdd, Nat.reduceLeDiff, Nat.reduceBEq, Nat.reduceMul, reduceCtorEq, Int.reduceLE, Int.reduceLT, Int.reduceAdd, Int.reduceSub, Int.reduceNeg, Int.reduceToNat, Int.reduceBEq, hdec]) | (refine awp_cond' rfl (of_decide_eq_true rfl) (fun hc => ?_) (fun hc => ?_) <;> ((try simp only [Bool.not_true, Bool.not_false, Bool.not_eq_true', Bool.not_eq_false', Bool.not_eq_eq_eq_not] at hc); (first | (cases hc) | (simp only [hc]) | skip))))
    all_goals
      (first | refine awp_ret ?_ | skip); refine ⟨(by first | exact .inl rfl | exact .inr rfl | exact .inr trivial | trivial), ?_⟩; simp only [go_sem, ↓reduceIte, Nat.reduceEqDiff, Nat.reduceAdd, Nat.reduceLeDiff, Nat.reduceBEq, Nat.reduceMul, reduceCtorEq, Int.reduceLE, Int.reduceLT, Int.reduceAdd, Int.reduceSub, Int.reduceNeg, Int.reduceToNat, Int.reduceBEq, retV, resL, resV, sealV, sealC, sealAll, Tryz.f18]
      simp [textS, ← hfold]
end Go.Proofs.YtinpnidokpjfhaaGreatDoor.AM
namespace Go.Proofs.YtinpnidokpjfhaaGreatDoor.AM
open Go.RowKit
set_option linter.unusedSimpArgs false
set_option linter.unusedVariables false
set_option maxRecDepth 10000
set_option maxHeartbeats 0
theorem c_within (n a b : Int) : Pure Tryz.prog 31 [iv n, iv a, iv b] (bv (decide (a ≤ n) && decide (n ≤ b))) := by
  refine pure_of_awp Tryz.func31 rfl rfl (by simp [Tryz.f31]) ?_; simp only [go_sem, ↓reduceIte, Nat.reduceEqDiff, Nat.reduceAdd, Nat.reduceLeDiff, Nat.reduceBEq, Nat.reduceMul, reduceCtorEq, Int.reduceLE, Int.reduceLT, Int.reduceAdd, Int.reduceSub, Int.reduceNeg, Int.reduceToNat, Int.reduceBEq]
  repeat' (first | refine awp_seq ?_ | refine awp_block ?_ | refine awp_round ?_ | refine awp_scope ?_ | refine awp_text rfl ?_ | refine awp_any rfl mix (by kernel_rfl) ?_ | (refine RunTo.unguard rfl rfl (fun hg => ?_) (fun hg => ?_) <;> ((try simp only [Bool.not_true, Bool.not_false, Bool.not_eq_true', Bool.not_eq_false', Bool.not_eq_eq_eq_not] at hg); (first | (cases hg) | (simp only [hg]) | skip))) | ((first | refine RunTo.plain rfl ?_ | refine RunTo.skipped rfl ?_); simp only [go_sem, ↓reduceIte, Nat.reduceEqDiff, Nat.reduceAdd, Nat.reduceLeDiff, Nat.reduceBEq, Nat.reduceMul, reduceCtorEq, Int.reduceLE, Int.reduceLT, Int.reduceAdd, Int.reduceSub, Int.reduceNeg, Int.reduceToNat, Int.reduceBEq]) | ((first | refine RunTo.nilA (by kernel_rfl) ?_ | refine RunTo.nilT ?_ | refine awp_skip ?_ | refine awp_exit ?_ | refine awp_label ?_); simp only [go_sem, ↓reduceIte, Nat.reduceEqDiff, Nat.reduceAdd, Nat.reduceLeDiff, Nat.reduceBEq, Nat.reduceMul, reduceCtorEq, Int.reduceLE, Int.reduceLT, Int.reduceAdd, Int.reduceSub, Int.reduceNeg, Int.reduceToNat, Int.reduceBEq]) | (refine awp_cond' rfl (of_decide_eq_true rfl) (fun hc => ?_) (fun hc => ?_) <;> ((try simp only [Bool.not_true, Bool.not_false, Bool.not_eq_true', Bool.not_eq_false', Bool.not_eq_eq_eq_not] at hc); (first | (cases hc) | (simp only [hc]) | skip))))
  all_goals
    (first | refine awp_ret ?_ | skip); refine ⟨(by first | exact .inl rfl | exact .inr rfl | exact .inr trivial | trivial), ?_⟩; simp only [go_sem, ↓reduceIte, Nat.reduceEqDiff, Nat.reduceAdd, Nat.reduceLeDiff, Nat.reduceBEq, Nat.reduceMul, reduceCtorEq, Int.reduceLE, Int.reduceLT, Int.reduceAdd, Int.reduceSub, Int.reduceNeg, Int.reduceToNat, Int.reduceBEq, retV, resL, resV, sealV, sealC, sealAll, Tryz.f31]
    try simp [*]
def plainV (v : ValD) : Bool := validV v && (v.a.k != 6)
theorem c_plain (v : ValD) : Pure Tryz.prog 54 [v.av] (bv (plainV v)) := by
  have hv := c_Valid v
  refine pure_of_awp Tryz.func54 rfl rfl (by simp [Tryz.f54]) ?_; simp only [go_sem, ↓reduceIte, Nat.reduceEqDiff, Nat.reduceAdd, Nat.reduceLeDiff, Nat.reduceBEq, Nat.reduceMul, reduceCtorEq, Int.reduceLE, Int.reduceLT, Int.reduceAdd, Int.reduceSub, Int.reduceNeg, Int.reduceToNat, Int.reduceBEq]
  repeat' (first | refine awp_seq ?_ | refine awp_block ?_ | refine awp_round ?_ | refine awp_scope ?_ | refine awp_text rfl ?_ | refine awp_any rfl mix (by kernel_rfl) ?_ | (refine RunTo.unguard rfl rfl (fun hg => ?_) (fun hg => ?_) <;> ((try simp only [Bool.not_true, Bool.not_false, Bool.not_eq_true', Bool.not_eq_false', Bool.not_eq_eq_eq_not] at hg); (first | (cases hg) | (simp only [hg]) | skip))) | ((first | refine RunTo.plain rfl ?_ | refine RunTo.skipped rfl ?_ | refine RunTo.call (hv) Tryz.func61 rfl rfl rfl rfl rfl rfl rfl rfl ?_); simp only [go_sem, ↓reduceIte, Nat.reduceEqDiff, Nat.reduceAdd, Nat.reduceLeDiff, Nat.reduceBEq, Nat.reduceMul, reduceCtorEq, Int.reduceLE, Int.reduceLT, Int.reduceAdd, Int.reduceSub, Int.reduceNeg, Int.reduceToNat, Int.reduceBEq, ValD.av]) | ((first | refine RunTo.nilA (by kernel_rfl) ?_ | refine RunTo.nilT ?_ | refine awp_skip ?_ | refine awp_exit ?_ | refine awp_label ?_); simp only [go_sem, ↓reduceIte, Nat.reduceEqDiff, Nat.reduceAdd, Nat.reduceLeDiff, Nat.reduceBEq, Nat.reduceMul, reduceCtorEq, Int.reduceLE, Int.reduceLT, Int.reduceAdd, Int.reduceSub, Int.reduceNeg, Int.reduceToNat, Int.reduceBEq, ValD.av]) | (refine awp_cond' rfl (of_decide_eq_true rfl) (fun hc => ?_) (fun hc => ?_) <;> ((try simp only [Bool.not_true, Bool.not_false, Bool.not_eq_true', Bool.not_eq_false', Bool.not_eq_eq_eq_not] at hc); (first | (cases hc) | (simp only [hc]) | skip))))
  all_goals
    (first | refine awp_ret ?_ | skip); refine ⟨(by first | exact .inl rfl | exact .inr rfl | exact .inr trivial | trivial), ?_⟩; simp only [go_sem, ↓reduceIte, Nat.reduceEqDiff, Nat.reduceAdd, Nat.reduceLeDiff, Nat.reduceBEq, Nat.reduceMul, reduceCtorEq, Int.reduceLE, Int.reduceLT, Int.reduceAdd, Int.reduceSub, Int.reduceNeg, Int.reduceToNat, Int.reduceBEq, retV, resL, resV, sealV, sealC, sealAll, Tryz.f54]
    simp [plainV, *]
def zeroV (v : ValD) : Bool := v.a.k == 0 && (v.a.n == 0 && ((v.a.f : Int) == 0 && (v.a.s.toList == eE.toList && (v.l.length : Int) == 0)))
theorem c_zero (v : ValD) : Pure Tryz.prog 70 [v.av] (bv (zeroV v)) := by
  refine pure_of_awp Tryz.func70 rfl rfl (by simp [Tryz.f70]) ?_; simp only [go_sem, ↓reduceIte, Nat.reduceEqDiff, Nat.reduceAdd, Nat.reduceLeDiff, Nat.reduceBEq, Nat.reduceMul, reduceCtorEq, Int.reduceLE, Int.reduceLT, Int.reduceAdd, Int.reduceSub, Int.reduceNeg, Int.reduceToNat, Int.reduceBEq]
  repeat' (first | refine awp_seq ?_ | refine awp_block ?_ | refine awp_round ?_ | refine awp_scope ?_ | refine awp_text rfl ?_ | refine awp_any rfl mix (by kernel_rfl) ?_ | (refine RunTo.unguard rfl rfl (fun hg => ?_) (fun hg => ?_) <;> ((try simp only [Bool.not_true, Bool.not_false, Bool.not_eq_true', Bool.not_eq_false', Bool.not_eq_eq_eq_not] at hg); (first | (cases hg) | (simp only [hg]) | skip))) | ((first | refine RunTo.plain rfl ?_ | refine RunTo.skipped rfl ?_ | refine RunTo.ext (x_bits _) rfl rfl rfl rfl ?_); simp only [go_sem, ↓reduceIte, Nat.reduceEqDiff, Nat.reduceAdd, Nat.reduceLeDiff, Nat.reduceBEq, Nat.reduceMul, reduceCtorEq, Int.reduceLE, Int.reduceLT, Int.reduceAdd, Int.reduceSub, Int.reduceNeg, Int.reduceToNat, Int.reduceBEq, ValD.av, List.length_map]) | ((first | refine RunTo.nilA (by kernel_rfl) ?_ | refine RunTo.nilT ?_ | refine awp_skip ?_ | refine awp_exit ?_ | refine awp_label ?_); simp only [go_sem, ↓reduceIte, Nat.reduceEqDiff, Nat.reduceAdd, Nat.reduceLeDiff, Nat.reduceBEq, Nat.reduceMul, reduceCtorEq, Int.reduceLE, Int.reduceLT, Int.reduceAdd, Int.reduceSub, Int.reduceNeg, Int.reduceToNat, Int.reduceBEq, ValD.av, List.length_map]) | (refine awp_cond' rfl (of_decide_eq_true rfl) (fun hc => ?_) (fun hc => ?_) <;> ((try simp only [Bool.not_true, Bool.not_false, Bool.not_eq_true', Bool.not_eq_false', Bool.not_eq_eq_eq_not] at hc); (first | (cases hc) | (simp only [hc]) | skip))))
  all_goals
    (first | refine awp_ret ?_ | skip); refine ⟨(by first | exact .inl rfl | exact .inr rfl | exact .inr trivial | trivial), ?_⟩; simp only [go_sem, ↓reduceIte, Nat.reduceEqDiff, Nat.reduceAdd, Nat.reduceLeDiff, Nat.reduceBEq, Nat.reduceMul, reduceCtorEq, Int.reduceLE, Int.reduceLT, Int.reduceAdd, Int.reduceSub, Int.reduceNeg, Int.reduceToNat, Int.reduceBEq, retV, resL, resV, sealV, sealC, sealAll, Tryz.f70]
    first | (simp only [zeroV, *, Bool.true_and, Bool.false_and, Bool.and_true, Bool.and_false]; done) | (simp only [zeroV, *, Bool.true_and, Bool.false_and, Bool.and_true, Bool.and_false]; rfl) | skip
  all_goals trace_state
def TermD.av (t : TermD) : AV := .agg [iv t.op, sv t.var, sv t.name, iv t.v.a.k, iv t.v.a.n, fv t.v.a.f, sv t.v.a.s, .dat (.lst 4 (t.v.l.map AtomD.enc))]
def rightT (t : TermD) : Bool :=
  if ((t.op == 2 || t.op == 3) != isName t.var) || (!(t.op == 2 || t.op == 3) && (t.var.toList != eE.toList)) then false
  else if ((t.op == 2) != isName t.name) || (t.op != 2 && (t.name.toList != eE.toList)) then false
  else if (t.op == 1) = true then plainV t.v else zeroV t.v
theorem c_right (t : TermD) (h1 : t.var.size ≤ 1000000000) (h2 : t.name.size ≤ 1000000000) : Pure Tryz.prog 56 [t.av] (bv (rightT t)) := by
  have n1 := c_isName t.var h1
  have n2 := c_isName t.name h2
  have hp := c_plain t.v
  have hz := c_zero t.v
  refine pure_of_awp Tryz.func56 rfl rfl (by simp [Tryz.f56]) ?_; simp only [go_sem, ↓reduceIte, Nat.reduceEqDiff, Nat.reduceAdd, Nat.reduceLeDiff, Nat.reduceBEq, Nat.reduceMul, reduceCtorEq, Int.reduceLE, Int.reduceLT, Int.reduceAdd, Int.reduceSub, Int.reduceNeg, Int.reduceToNat, Int.reduceBEq]
  repeat' (first | refine awp_seq ?_ | refine awp_block ?_ | refine awp_round ?_ | refine awp_scope ?_ | refine awp_text rfl ?_ | refine awp_any rfl mix (by kernel_rfl) ?_ | (refine RunTo.unguard rfl rfl (fun hg => ?_) (fun hg => ?_) <;> ((try simp only [Bool.not_true, Bool.not_false, Bool.not_eq_true', Bool.not_eq_false', Bool.not_eq_eq_eq_not] at hg); (first | (cases hg) | (simp only [hg]) | skip))) | ((first | refine RunTo.plain rfl ?_ | refine RunTo.skipped rfl ?_ | refine RunTo.call (n1) Tryz.func53 rfl rfl rfl rfl rfl rfl rfl rfl ?_ | refine RunTo.call (n2) Tryz.func53 rfl rfl rfl rfl rfl rfl rfl rfl ?_ | refine RunTo.call (hp) Tryz.func54 rfl rfl rfl rfl rfl rfl rfl rfl ?_ | refine RunTo.call (hz) Tryz.func70 rfl rfl rfl rfl rfl rfl rfl rfl ?_); simp only [go_sem, ↓reduceIte, Nat.reduceEqDiff, Nat.reduceAdd, Nat.reduceLeDiff, Nat.reduceBEq, Nat.reduceMul, reduceCtorEq, Int.reduceLE, Int.reduceLT, Int.reduceAdd, Int.reduceSub, Int.reduceNeg, Int.reduceToNat, Int.reduceBEq, TermD.av]) | ((first | refine RunTo.nilA (by kernel_rfl) ?_ | refine RunTo.nilT ?_ | refine awp_skip ?_ | refine awp_exit ?_ | refine awp_label ?_); simp only [go_sem, ↓reduceIte, Nat.reduceEqDiff, Nat.reduceAdd, Nat.reduceLeDiff, Nat.reduceBEq, Nat.reduceMul, reduceCtorEq, Int.reduceLE, Int.reduceLT, Int.reduceAdd, Int.reduceSub, Int.reduceNeg, Int.reduceToNat, Int.reduceBEq, TermD.av]) | (refine awp_cond' rfl (of_decide_eq_true rfl) (fun hc => ?_) (fun hc => ?_) <;> ((try simp only [Bool.not_true, Bool.not_false, Bool.not_eq_true', Bool.not_eq_false', Bool.not_eq_eq_eq_not] at hc); (first | (cases hc) | (simp only [hc]) | skip))))
  all_goals
    (first | refine awp_ret ?_ | skip); refine ⟨(by first | exact .inl rfl | exact .inr rfl | exact .inr trivial | trivial), ?_⟩; simp only [go_sem, ↓reduceIte, Nat.reduceEqDiff, Nat.reduceAdd, Nat.reduceLeDiff, Nat.reduceBEq, Nat.reduceMul, reduceCtorEq, Int.reduceLE, Int.reduceLT, Int.reduceAdd, Int.reduceSub, Int.reduceNeg, Int.reduceToNat, Int.reduceBEq, retV, resL, resV, sealV, sealC, sealAll, Tryz.f56]
    clear n1 n2 hp hz h1 h2
    have hr : rightT t = (if (((t.op == 2 || t.op == 3) != isName t.var) || (!(t.op == 2 || t.op == 3) && !(t.var.toList == eE.toList))) = true then false
      else if (((t.op == 2) != isName t.name) || (!(t.op == 2) && !(t.name.toList == eE.toList))) = true then false else if (t.op == 1) = true then plainV t.v else zeroV t.v) := rfl
    rw [hr]
    clear hr
    try simp only [bne] at *
    generalize (t.op == 2) = o2 at *
    generalize (t.op == 3) = o3 at *
    generalize (t.op == 1) = o1 at *
    generalize isName t.var = nv at *
    generalize isName t.name = nn at *
    generalize hve : (t.var.toList == eE.toList) = ve at *
    generalize hne : (t.name.toList == eE.toList) = ne at *
    try simp only [show ({ data := #[] } : ByteArray).toList = eE.toList from rfl, hve, hne] at *
    clear hve hne
    cases o2 <;> cases o3 <;> cases o1 <;> cases nv <;> cases nn <;> cases ve <;> cases ne <;> first | rfl | contradiction | (simp at *; done) | skip
  all_goals trace_state
end Go.Proofs.YtinpnidokpjfhaaGreatDoor.AM
namespace Go.Proofs.YtinpnidokpjfhaaGreatDoor.AM
open Go.RowKit
set_option linter.unusedSimpArgs false
set_option linter.unusedVariables false
set_option maxRecDepth 10000
set_option maxHeartbeats 0
def termsV (ts : List TermD) : Bool := ts.all rightT && (decide (1 ≤ deepV ts) && decide (deepV ts ≤ 64))
def smallT (t : TermD) : Prop := t.var.size ≤ 1000000000 ∧ t.name.size ≤ 1000000000
abbrev SX (ts : List TermD) (k T : Nat) : St := ⟨[(0, .dat (.lst 8 (ts.map TermD.enc))), (5, .dat (.lst 8 (ts.map TermD.enc))), (6, iv ts.length), (7, iv k)], [], T⟩
def IX (ts : List TermD) (n : Nat) (st : St) : Prop := ∃ k T, k ≤ ts.length ∧ n = ts.length - k ∧ (ts.take k).all rightT = true ∧ st = SX ts k T
theorem c_terms (ts : List TermD) (hl : ts.length ≤ 1000000) (hs : ∀ t ∈ ts, smallT t) : Pure Tryz.prog 37 [.dat (.lst 8 (ts.map TermD.enc))] (bv (termsV ts)) := by
  have hdp := c_Deep ts hl
  refine pure_of_awp Tryz.func37 rfl rfl (by simp [Tryz.f37]) ?_; simp only [go_sem, ↓reduceIte, Nat.reduceEqDiff, Nat.reduceAdd, Nat.reduceLeDiff, Nat.reduceBEq, Nat.reduceMul, reduceCtorEq, Int.reduceLE, Int.reduceLT, Int.reduceAdd, Int.reduceSub, Int.reduceNeg, Int.reduceToNat, Int.reduceBEq]
  repeat' (first | refine awp_seq ?_ | refine awp_block ?_ | refine awp_round ?_ | refine awp_scope ?_ | refine awp_text rfl ?_ | refine awp_any rfl mix (by kernel_rfl) ?_ | (refine RunTo.unguard rfl rfl (fun hg => ?_) (fun hg => ?_) <;> ((try simp only [Bool.not_true, Bool.not_false, Bool.not_eq_true', Bool.not_eq_false', Bool.not_eq_eq_eq_not] at hg); (first | (cases hg) | (simp only [hg]) | skip))) | ((first | refine RunTo.plain rfl ?_ | refine RunTo.skipped rfl ?_); simp only [go_sem, ↓reduceIte, Nat.reduceEqDiff, Nat.reduceAdd, Nat.reduceLeDiff, Nat.reduceBEq, Nat.reduceMul, reduceCtorEq, Int.reduceLE, Int.reduceLT, Int.reduceAdd, Int.reduceSub, Int.reduceNeg, Int.reduceToNat, Int.reduceBEq, List.length_map]) | ((first | refine RunTo.nilA (by kernel_rfl) ?_ | refine RunTo.nilT ?_ | refine awp_skip ?_ | refine awp_exit ?_ | refine awp_label ?_); simp only [go_sem, ↓reduceIte, Nat.reduceEqDiff, Nat.reduceAdd, Nat.reduceLeDiff, Nat.reduceBEq, Nat.reduceMul, reduceCtorEq, Int.reduceLE, Int.reduceLT, Int.reduceAdd, Int.reduceSub, Int.reduceNeg, Int.reduceToNat, Int.reduceBEq, List.length_map]) | (refine awp_cond' rfl (of_decide_eq_true rfl) (fun hc => ?_) (fun hc => ?_) <;> ((try simp only [Bool.not_true, Bool.not_false, Bool.not_eq_true', Bool.not_eq_false', Bool.not_eq_eq_eq_not] at hc); (first | (cases hc) | (simp only [hc]) | skip))))
  refine awp_loopw (IX ts) ts.length (SX ts 0 _) (weak_keep ⟨rfl, rfl, rfl, rfl, trivial⟩ trivial (Nat.le_refl _)) ⟨0, _, Nat.zero_le _, rfl, rfl, rfl⟩ ?_
  rintro n st ⟨k, T, hk, rfl, hall, rfl⟩
  by_cases hlt : k < ts.length
  · have hdec := lt_t hlt
    have hget := row_at TermD.enc ts k hlt
    have hst := hs _ (List.getElem_mem hlt)
    have htk := all_take rightT ts k hlt
    have hwk : IntKind.i64.wrap ((k : Int) + 1) = ((k + 1 : Nat) : Int) := wrap_succ (by omega)
    have hmem := List.getElem_mem hlt
    generalize ts[k] = t at *
    have hr := c_right t hst.1 hst.2
    repeat' (first | refine awp_seq ?_ | refine awp_block ?_ | refine awp_round ?_ | refine awp_scope ?_ | refine awp_text rfl ?_ | refine awp_any rfl mix (by kernel_rfl) ?_ | (refine RunTo.unguard rfl rfl (fun hg => ?_) (fun hg => ?_) <;> ((try simp only [Bool.not_true, Bool.not_false, Bool.not_eq_true', Bool.not_eq_false', Bool.not_eq_eq_eq_not] at hg); (first | (cases hg) | (simp only [hg]) | skip))) | ((first | refine RunTo.plain rfl ?_ | refine RunTo.skipped rfl ?_ | refine RunTo.call (hr) Tryz.func56 rfl rfl rfl rfl rfl rfl rfl rfl ?_); simp only [go_sem, ↓reduceIte, Nat.reduceEqDiff, Nat.reduceAdd, Nat.reduceLeDiff, Nat.reduceBEq, Nat.reduceMul, reduceCtorEq, Int.reduceLE, Int.reduceLT, Int.reduceAdd, Int.reduceSub, Int.reduceNeg, Int.reduceToNat, Int.reduceBEq, hdec, hget, TermD.enc, hwk]) | ((first | refine RunTo.nilA (by kernel_rfl) ?_ | refine RunTo.nilT ?_ | refine awp_skip ?_ | refine awp_exit ?_ | refine awp_label ?_); simp only [go_sem, ↓reduceIte, Nat.reduceEqDiff, Nat.reduceAdd, Nat.reduceLeDiff, Nat.reduceBEq, Nat.reduceMul, reduceCtorEq, Int.reduceLE, Int.reduceLT, Int.reduceAdd, Int.reduceSub, Int.reduceNeg, Int.reduceToNat, Int.reduceBEq, hdec, hget, TermD.enc, hwk]) | (refine awp_cond' rfl (of_decide_eq_true rfl) (fun hc => ?_) (fun hc => ?_) <;> ((try simp only [Bool.not_true, Bool.not_false, Bool.not_eq_true', Bool.not_eq_false', Bool.not_eq_eq_eq_not] at hc); (first | (cases hc) | (simp only [hc]) | skip))))
    all_goals
      (try simp only [decide_eq_true_eq, decide_eq_false_iff_not, beq_iff_eq, bne_iff_ne, ne_eq, beq_eq_false_iff_ne, bne_eq_false_iff_eq, Bool.and_eq_true, Bool.or_eq_true, Bool.or_eq_false_iff, Bool.and_eq_false_iff] at *)
      first
      | exact ⟨ts.length - (k + 1), by omega, SX ts (k + 1) _, weak_keep ⟨rfl, rfl, rfl, rfl, trivial⟩ trivial (Nat.le_refl _), k + 1, _, by omega, rfl, by rw [htk, hall]; simp [*], rfl⟩
      | (have hf : termsV ts = false := by
           have : ts.all rightT = false := by
             cases hh : ts.all rightT with
             | false => rfl
             | true =>
               have := List.all_eq_true.1 hh t hmem
               simp_all
           rw [termsV, this, Bool.false_and]
         rw [hf]
         (first | refine awp_ret ?_ | skip); refine ⟨(by first | exact .inl rfl | exact .inr rfl | exact .inr trivial | trivial), ?_⟩; simp only [go_sem, ↓reduceIte, Nat.reduceEqDiff, Nat.reduceAdd, Nat.reduceLeDiff, Nat.reduceBEq, Nat.reduceMul, reduceCtorEq, Int.reduceLE, Int.reduceLT, Int.reduceAdd, Int.reduceSub, Int.reduceNeg, Int.reduceToNat, Int.reduceBEq, retV, resL, resV, sealV, sealC, sealAll, Tryz.f37])
  · have hdec := lt_f hlt
    have hall' : ts.all rightT = true := by rw [List.take_of_length_le (by omega)] at hall; exact hall
    repeat' (first | refine awp_seq ?_ | refine awp_block ?_ | refine awp_round ?_ | refine awp_scope ?_ | refine awp_text rfl ?_ | refine awp_any rfl mix (by kernel_rfl) ?_ | (refine RunTo.unguard rfl rfl (fun hg => ?_) (fun hg => ?_) <;> ((try simp only [Bool.not_true, Bool.not_false, Bool.not_eq_true', Bool.not_eq_false', Bool.not_eq_eq_eq_not] at hg); (first | (cases hg) | (simp only [hg]) | skip))) | ((first | refine RunTo.plain rfl ?_ | refine RunTo.skipped rfl ?_ | refine RunTo.call (hdp) Tryz.func10 rfl rfl rfl rfl rfl rfl rfl rfl ?_ | refine RunTo.call (c_within _ _ _) Tryz.func31 rfl rfl rfl rfl rfl rfl rfl rfl ?_); simp only [go_sem, ↓reduceIte, Nat.reduceEqDiff, Nat.reduceAdd, Nat.reduceLeDiff, Nat.reduceBEq, Nat.reduceMul, reduceCtorEq, Int.reduceLE, Int.reduceLT, Int.reduceAdd, Int.reduceSub, Int.reduceNeg, Int.reduceToNat, Int.reduceBEq, hdec]) | ((first | refine RunTo.nilA (by kernel_rfl) ?_ | refine RunTo.nilT ?_ | refine awp_skip ?_ | refine awp_exit ?_ | refine awp_label ?_); simp only [go_sem, ↓reduceIte, Nat.reduceEqDiff, Nat.reduceAdd, Nat.reduceLeDiff, Nat.reduceBEq, Nat.reduceMul, reduceCtorEq, Int.reduceLE, Int.reduceLT, Int.reduceAdd, Int.reduceSub, Int.reduceNeg, Int.reduceToNat, Int.reduceBEq, hdec]) | (refine awp_cond' rfl (of_decide_eq_true rfl) (fun hc => ?_) (fun hc => ?_) <;> ((try simp only [Bool.not_true, Bool.not_false, Bool.not_eq_true', Bool.not_eq_false', Bool.not_eq_eq_eq_not] at hc); (first | (cases hc) | (simp only [hc]) | skip))))
    all_goals
      (first | refine awp_ret ?_ | skip); refine ⟨(by first | exact .inl rfl | exact .inr rfl | exact .inr trivial | trivial), ?_⟩; simp only [go_sem, ↓reduceIte, Nat.reduceEqDiff, Nat.reduceAdd, Nat.reduceLeDiff, Nat.reduceBEq, Nat.reduceMul, reduceCtorEq, Int.reduceLE, Int.reduceLT, Int.reduceAdd, Int.reduceSub, Int.reduceNeg, Int.reduceToNat, Int.reduceBEq, retV, resL, resV, sealV, sealC, sealAll, Tryz.f37]
      rw [termsV, hall', Bool.true_and]
end Go.Proofs.YtinpnidokpjfhaaGreatDoor.AM
namespace Go.Proofs.YtinpnidokpjfhaaGreatDoor.AM
open Go.RowKit
set_option linter.unusedSimpArgs false
set_option linter.unusedVariables false
set_option maxRecDepth 10000
set_option maxHeartbeats 0
abbrev SA (f : FuncId) (cells : List AV) (n k T : Nat) : St := ⟨[(0, iv n), (1, .fn (.func f) [] [.ptr 1001 0 0 0]), (6, iv n), (7, iv k)], [(1001, .box 0 cells)], T⟩
def IA (f : FuncId) (cells : List AV) (n : Nat) (g : Nat → Bool) (m : Nat) (st : St) : Prop := ∃ k T, k ≤ n ∧ m = n - k ∧ (List.range k).all g = true ∧ st = SA f cells n k T
theorem c_all (f : FuncId) (ff : Func) (hff : Tryz.prog.funcs[f]? = some ff) (hfb : ff.body.isNone = false) (hfn : (ff.name == "runtime.NumGoroutine") = false) (cells : List AV) (n : Nat) (hn : n ≤ 1000000) (g : Nat → Bool) (hr : ∀ τ, renL τ cells = cells) (hsl : slotsL cells = [])
    (hcall : ∀ i, i < n → Acts Tryz.prog f [iv i, .ptr 1001 0 0 0] [(1001, .box 0 cells)] (bv (g i)) [(1001, .box 0 cells)]) :
    Acts Tryz.prog 32 [iv n, .fn (.func f) [] [.ptr 1001 0 0 0]] [(1001, .box 0 cells)] (bv ((List.range n).all g)) [(1001, .box 0 cells)] := by
  refine acts_of_awp ([(1001, 1001)]) Tryz.func32 rfl rfl (by simp [Tryz.f32]) ?_; simp only [go_sem, ↓reduceIte, Nat.reduceEqDiff, Nat.reduceAdd, Nat.reduceLeDiff, Nat.reduceBEq, Nat.reduceMul, reduceCtorEq, Int.reduceLE, Int.reduceLT, Int.reduceAdd, Int.reduceSub, Int.reduceNeg, Int.reduceToNat, Int.reduceBEq]
  repeat' (first | refine awp_seq ?_ | refine awp_block ?_ | refine awp_round ?_ | refine awp_scope ?_ | refine awp_text rfl ?_ | refine awp_any rfl mix (by kernel_rfl) ?_ | (refine RunTo.unguard rfl rfl (fun hg => ?_) (fun hg => ?_) <;> ((try simp only [Bool.not_true, Bool.not_false, Bool.not_eq_true', Bool.not_eq_false', Bool.not_eq_eq_eq_not] at hg); (first | (cases hg) | (simp only [hg]) | skip))) | ((first | refine RunTo.plain rfl ?_ | refine RunTo.skipped rfl ?_); simp only [go_sem, ↓reduceIte, Nat.reduceEqDiff, Nat.reduceAdd, Nat.reduceLeDiff, Nat.reduceBEq, Nat.reduceMul, reduceCtorEq, Int.reduceLE, Int.reduceLT, Int.reduceAdd, Int.reduceSub, Int.reduceNeg, Int.reduceToNat, Int.reduceBEq]) | ((first | refine RunTo.nilA (by kernel_rfl) ?_ | refine RunTo.nilT ?_ | refine awp_skip ?_ | refine awp_exit ?_ | refine awp_label ?_); simp only [go_sem, ↓reduceIte, Nat.reduceEqDiff, Nat.reduceAdd, Nat.reduceLeDiff, Nat.reduceBEq, Nat.reduceMul, reduceCtorEq, Int.reduceLE, Int.reduceLT, Int.reduceAdd, Int.reduceSub, Int.reduceNeg, Int.reduceToNat, Int.reduceBEq]) | (refine awp_cond' rfl (of_decide_eq_true rfl) (fun hc => ?_) (fun hc => ?_) <;> ((try simp only [Bool.not_true, Bool.not_false, Bool.not_eq_true', Bool.not_eq_false', Bool.not_eq_eq_eq_not] at hc); (first | (cases hc) | (simp only [hc]) | skip))))
  refine awp_loopw (IA f cells n g) n (SA f cells n 0 _) (weak_keep ⟨rfl, rfl, rfl, rfl, trivial⟩ ⟨rfl, trivial⟩ (Nat.le_refl _)) ⟨0, _, Nat.zero_le _, rfl, rfl, rfl⟩ ?_
  rintro m st ⟨k, T, hk, rfl, hall, rfl⟩
  by_cases hlt : k < n
  · have hdec := lt_t hlt
    have hwk : IntKind.i64.wrap ((k : Int) + 1) = ((k + 1 : Nat) : Int) := wrap_succ (by omega)
    have hc0 := hcall k hlt
    have hrs : (List.range (k + 1)).all g = ((List.range k).all g && g k) := by rw [List.range_succ, List.all_append]; simp
    repeat' (first | refine awp_seq ?_ | refine awp_block ?_ | refine awp_round ?_ | refine awp_scope ?_ | refine awp_text rfl ?_ | refine awp_any rfl mix (by kernel_rfl) ?_ | (refine RunTo.unguard rfl rfl (fun hg => ?_) (fun hg => ?_) <;> ((try simp only [Bool.not_true, Bool.not_false, Bool.not_eq_true', Bool.not_eq_false', Bool.not_eq_eq_eq_not] at hg); (first | (cases hg) | (simp only [hg]) | skip))) | ((first | refine RunTo.plain rfl ?_ | refine RunTo.skipped rfl ?_); simp only [go_sem, ↓reduceIte, Nat.reduceEqDiff, Nat.reduceAdd, Nat.reduceLeDiff, Nat.reduceBEq, Nat.reduceMul, reduceCtorEq, Int.reduceLE, Int.reduceLT, Int.reduceAdd, Int.reduceSub, Int.reduceNeg, Int.reduceToNat, Int.reduceBEq, hdec, hwk, hr, hsl]) | (refine RunTo.actsE (hc0) hff rfl rfl hfb hfn rfl rfl ?_; simp only [go_sem, ↓reduceIte, Nat.reduceEqDiff, Nat.reduceAdd, Nat.reduceLeDiff, Nat.reduceBEq, Nat.reduceMul, reduceCtorEq, Int.reduceLE, Int.reduceLT, Int.reduceAdd, Int.reduceSub, Int.reduceNeg, Int.reduceToNat, Int.reduceBEq, hdec, hwk, hr, hsl]; (repeat' refine And.intro rfl ?_); with_reducible refine RunTo.this ?_) | ((first | refine RunTo.nilA (by kernel_rfl) ?_ | refine RunTo.nilT ?_ | refine awp_skip ?_ | refine awp_exit ?_ | refine awp_label ?_); simp only [go_sem, ↓reduceIte, Nat.reduceEqDiff, Nat.reduceAdd, Nat.reduceLeDiff, Nat.reduceBEq, Nat.reduceMul, reduceCtorEq, Int.reduceLE, Int.reduceLT, Int.reduceAdd, Int.reduceSub, Int.reduceNeg, Int.reduceToNat, Int.reduceBEq, hdec, hwk, hr, hsl]) | (refine awp_cond' rfl (of_decide_eq_true rfl) (fun hc => ?_) (fun hc => ?_) <;> ((try simp only [Bool.not_true, Bool.not_false, Bool.not_eq_true', Bool.not_eq_false', Bool.not_eq_eq_eq_not] at hc); (first | (cases hc) | (simp only [hc]) | skip))))
    all_goals
      (try simp only [decide_eq_true_eq, decide_eq_false_iff_not, beq_iff_eq, bne_iff_ne, ne_eq, beq_eq_false_iff_ne, bne_eq_false_iff_eq, Bool.and_eq_true, Bool.or_eq_true, Bool.or_eq_false_iff, Bool.and_eq_false_iff] at *)
      first
      | exact ⟨n - (k + 1), by omega, SA f cells n (k + 1) _, weak_keep ⟨rfl, rfl, rfl, rfl, trivial⟩ ⟨rfl, trivial⟩ (Nat.le_refl _), k + 1, _, by omega, rfl, by rw [hrs, hall]; simp [*], rfl⟩
      | (have hf : (List.range n).all g = false := by
           cases hh : (List.range n).all g with
           | false => rfl
           | true =>
             have h9 := List.all_eq_true.1 hh k (List.mem_range.2 hlt)
             rw [h9] at hc; cases hc
         rw [hf]
         (first | refine awp_ret ?_ | skip); refine ⟨(by first | exact .inl rfl | exact .inr rfl | exact .inr trivial | trivial), _, rfl, rfl, rfl, ?_, ?_⟩ <;> (try simp only [go_sem, ↓reduceIte, Nat.reduceEqDiff, Nat.reduceAdd, Nat.reduceLeDiff, Nat.reduceBEq, Nat.reduceMul, reduceCtorEq, Int.reduceLE, Int.reduceLT, Int.reduceAdd, Int.reduceSub, Int.reduceNeg, Int.reduceToNat, Int.reduceBEq, hr]))
  · have hdec := lt_f hlt
    obtain rfl : k = n := by omega
    repeat' (first | refine awp_seq ?_ | refine awp_block ?_ | refine awp_round ?_ | refine awp_scope ?_ | refine awp_text rfl ?_ | refine awp_any rfl mix (by kernel_rfl) ?_ | (refine RunTo.unguard rfl rfl (fun hg => ?_) (fun hg => ?_) <;> ((try simp only [Bool.not_true, Bool.not_false, Bool.not_eq_true', Bool.not_eq_false', Bool.not_eq_eq_eq_not] at hg); (first | (cases hg) | (simp only [hg]) | skip))) | ((first | refine RunTo.plain rfl ?_ | refine RunTo.skipped rfl ?_); simp only [go_sem, ↓reduceIte, Nat.reduceEqDiff, Nat.reduceAdd, Nat.reduceLeDiff, Nat.reduceBEq, Nat.reduceMul, reduceCtorEq, Int.reduceLE, Int.reduceLT, Int.reduceAdd, Int.reduceSub, Int.reduceNeg, Int.reduceToNat, Int.reduceBEq, hdec]) | ((first | refine RunTo.nilA (by kernel_rfl) ?_ | refine RunTo.nilT ?_ | refine awp_skip ?_ | refine awp_exit ?_ | refine awp_label ?_); simp only [go_sem, ↓reduceIte, Nat.reduceEqDiff, Nat.reduceAdd, Nat.reduceLeDiff, Nat.reduceBEq, Nat.reduceMul, reduceCtorEq, Int.reduceLE, Int.reduceLT, Int.reduceAdd, Int.reduceSub, Int.reduceNeg, Int.reduceToNat, Int.reduceBEq, hdec]) | (refine awp_cond' rfl (of_decide_eq_true rfl) (fun hc => ?_) (fun hc => ?_) <;> ((try simp only [Bool.not_true, Bool.not_false, Bool.not_eq_true', Bool.not_eq_false', Bool.not_eq_eq_eq_not] at hc); (first | (cases hc) | (simp only [hc]) | skip))))
    all_goals
      rw [hall]
      (first | refine awp_ret ?_ | skip); refine ⟨(by first | exact .inl rfl | exact .inr rfl | exact .inr trivial | trivial), _, rfl, rfl, rfl, ?_, ?_⟩ <;> (try simp only [go_sem, ↓reduceIte, Nat.reduceEqDiff, Nat.reduceAdd, Nat.reduceLeDiff, Nat.reduceBEq, Nat.reduceMul, reduceCtorEq, Int.reduceLE, Int.reduceLT, Int.reduceAdd, Int.reduceSub, Int.reduceNeg, Int.reduceToNat, Int.reduceBEq, hr])
end Go.Proofs.YtinpnidokpjfhaaGreatDoor.AM
namespace Go.Proofs.YtinpnidokpjfhaaGreatDoor.AM
open Go.RowKit
set_option linter.unusedSimpArgs false
set_option linter.unusedVariables false
set_option maxRecDepth 10000
set_option maxHeartbeats 0
def maybeB (s : ByteArray) : Bool := s.toList == eE.toList || isName s
theorem c_maybe2 (a b : ByteArray) (ha : a.size ≤ 1000000000) (hb : b.size ≤ 1000000000) : Pure Tryz.prog 55 [.dat (.lst 1 [[ds' a], [ds' b]])] (bv (maybeB a && maybeB b)) := by
  have n1 := c_isName a ha
  have n2 := c_isName b hb
  have e0 : ({ data := #[] } : ByteArray).toList = eE.toList := rfl
  unfold maybeB
  generalize ea : (a.toList == eE.toList) = xa at *
  generalize eb : (b.toList == eE.toList) = xb at *
  generalize isName a = na at *
  generalize isName b = nb at *
  have ea' : (a.toList == ({ data := #[] } : ByteArray).toList) = xa := ea
  have eb' : (b.toList == ({ data := #[] } : ByteArray).toList) = xb := eb
  cases xa <;> cases xb <;> cases na <;> cases nb
  all_goals
    refine pure_of_awp Tryz.func55 rfl rfl (by simp [Tryz.f55]) ?_; simp only [go_sem, ↓reduceIte, Nat.reduceEqDiff, Nat.reduceAdd, Nat.reduceLeDiff, Nat.reduceBEq, Nat.reduceMul, reduceCtorEq, Int.reduceLE, Int.reduceLT, Int.reduceAdd, Int.reduceSub, Int.reduceNeg, Int.reduceToNat, Int.reduceBEq]
    repeat' (first | refine awp_seq ?_ | refine awp_block ?_ | refine awp_round ?_ | refine awp_scope ?_ | refine awp_text rfl ?_ | refine awp_any rfl mix (by kernel_rfl) ?_ | (refine RunTo.unguard rfl rfl (fun hg => ?_) (fun hg => ?_) <;> ((try simp only [Bool.not_true, Bool.not_false, Bool.not_eq_true', Bool.not_eq_false', Bool.not_eq_eq_eq_not] at hg); (first | (cases hg) | (simp only [hg]) | skip))) | ((first | refine RunTo.plain rfl ?_ | refine RunTo.skipped rfl ?_); simp only [go_sem, ↓reduceIte, Nat.reduceEqDiff, Nat.reduceAdd, Nat.reduceLeDiff, Nat.reduceBEq, Nat.reduceMul, reduceCtorEq, Int.reduceLE, Int.reduceLT, Int.reduceAdd, Int.reduceSub, Int.reduceNeg, Int.reduceToNat, Int.reduceBEq]) | ((first | refine RunTo.nilA (by kernel_rfl) ?_ | refine RunTo.nilT ?_ | refine awp_skip ?_ | refine awp_exit ?_ | refine awp_label ?_); simp only [go_sem, ↓reduceIte, Nat.reduceEqDiff, Nat.reduceAdd, Nat.reduceLeDiff, Nat.reduceBEq, Nat.reduceMul, reduceCtorEq, Int.reduceLE, Int.reduceLT, Int.reduceAdd, Int.reduceSub, Int.reduceNeg, Int.reduceToNat, Int.reduceBEq]) | (refine awp_cond' rfl (of_decide_eq_true rfl) (fun hc => ?_) (fun hc => ?_) <;> ((try simp only [Bool.not_true, Bool.not_false, Bool.not_eq_true', Bool.not_eq_false', Bool.not_eq_eq_eq_not] at hc); (first | (cases hc) | (simp only [hc]) | skip))))
    refine awp_rounds 3 ?_
    repeat' (first | refine awp_seq ?_ | refine awp_block ?_ | refine awp_round ?_ | refine awp_scope ?_ | refine awp_text rfl ?_ | refine awp_any rfl mix (by kernel_rfl) ?_ | (refine RunTo.unguard rfl rfl (fun hg => ?_) (fun hg => ?_) <;> ((try simp only [Bool.not_true, Bool.not_false, Bool.not_eq_true', Bool.not_eq_false', Bool.not_eq_eq_eq_not] at hg); (first | (cases hg) | (simp only [hg]) | skip))) | ((first | refine RunTo.plain rfl ?_ | refine RunTo.skipped rfl ?_ | refine RunTo.call (n1) Tryz.func53 rfl rfl rfl rfl rfl rfl rfl rfl ?_ | refine RunTo.call (n2) Tryz.func53 rfl rfl rfl rfl rfl rfl rfl rfl ?_); simp only [go_sem, ↓reduceIte, Nat.reduceEqDiff, Nat.reduceAdd, Nat.reduceLeDiff, Nat.reduceBEq, Nat.reduceMul, reduceCtorEq, Int.reduceLE, Int.reduceLT, Int.reduceAdd, Int.reduceSub, Int.reduceNeg, Int.reduceToNat, Int.reduceBEq, bne, ea', eb', Bool.not_true, Bool.not_false]) | ((first | refine RunTo.nilA (by kernel_rfl) ?_ | refine RunTo.nilT ?_ | refine awp_skip ?_ | refine awp_exit ?_ | refine awp_label ?_); simp only [go_sem, ↓reduceIte, Nat.reduceEqDiff, Nat.reduceAdd, Nat.reduceLeDiff, Nat.reduceBEq, Nat.reduceMul, reduceCtorEq, Int.reduceLE, Int.reduceLT, Int.reduceAdd, Int.reduceSub, Int.reduceNeg, Int.reduceToNat, Int.reduceBEq, bne, ea', eb', Bool.not_true, Bool.not_false]) | (refine awp_cond' rfl (of_decide_eq_true rfl) (fun hc => ?_) (fun hc => ?_) <;> ((try simp only [Bool.not_true, Bool.not_false, Bool.not_eq_true', Bool.not_eq_false', Bool.not_eq_eq_eq_not] at hc); (first | (cases hc) | (simp only [hc]) | skip))))
    all_goals (first | refine awp_ret ?_ | skip); refine ⟨(by first | exact .inl rfl | exact .inr rfl | exact .inr trivial | trivial), ?_⟩; simp only [go_sem, ↓reduceIte, Nat.reduceEqDiff, Nat.reduceAdd, Nat.reduceLeDiff, Nat.reduceBEq, Nat.reduceMul, reduceCtorEq, Int.reduceLE, Int.reduceLT, Int.reduceAdd, Int.reduceSub, Int.reduceNeg, Int.reduceToNat, Int.reduceBEq, retV, resL, resV, sealV, sealC, sealAll, Tryz.f55]
    all_goals rfl
end Go.Proofs.YtinpnidokpjfhaaGreatDoor.AM
namespace Go.Proofs.YtinpnidokpjfhaaGreatDoor.AM
open Go.RowKit
set_option linter.unusedSimpArgs false
set_option linter.unusedVariables false
set_option maxRecDepth 10000
set_option maxHeartbeats 0
def strLe (a b : ByteArray) : Bool := Op.bytesLess a.toList b.toList || a.toList == b.toList
def propOk (l : List PropD) (i : Nat) : Bool := match l[i]? with
  | some p => isName p.name && (plainV p.v && (!(p.v.a.k == 0) && !(decide (0 < i) && (match l[i - 1]? with | some q => strLe p.name q.name | none => false))))
  | none => true
def SpotD.av (s : SpotD) : AV := .agg [sv s.var, sv s.label, .dat (.lst 6 (s.props.map PropD.enc))]
def rightS (s : SpotD) : Bool := (List.range s.props.length).all (propOk s.props) && (maybeB s.var && maybeB s.label && decide ((s.props.length : Int) ≤ 16))
def smallS (s : SpotD) : Prop := s.var.size ≤ 1000000000 ∧ s.label.size ≤ 1000000000 ∧ s.props.length ≤ 1000000 ∧ ∀ p ∈ s.props, p.name.size ≤ 1000000000
abbrev SQ1 (s : SpotD) (k T : Nat) : St := ⟨[(8, iv k), (7, iv s.props.length), (6, .dat (.lst 6 (s.props.map PropD.enc))), (1, .ptr 1 0 0 0)], [(1, .box 0 [sv s.var, sv s.label, .dat (.lst 6 (s.props.map PropD.enc))])], T⟩
def IQ1 (s : SpotD) (n : Nat) (st : St) : Prop := ∃ k T, k ≤ s.props.length ∧ n = s.props.length - k ∧ (List.range k).all (propOk s.props) = true ∧ st = SQ1 s k T
theorem range_no {n k : Nat} {g : Nat → Bool} (hk : k < n) (h : g k = false) : (List.range n).all g = false := by
  cases hh : (List.range n).all g with
  | false => rfl
  | true =>
    have := List.all_eq_true.1 hh k (List.mem_range.2 hk)
    rw [h] at this
    exact this.symm
theorem range_up {k : Nat} {g : Nat → Bool} (h : (List.range k).all g = true) (hk : g k = true) : (List.range (k + 1)).all g = true := by
  rw [List.range_succ, List.all_append, h]; simp [hk]
theorem c_spotR (s : SpotD) (hs : smallS s) : Pure Tryz.prog 34 [s.av] (bv (rightS s)) := by
  obtain ⟨h1, h2, h3, h4⟩ := hs
  have hm := c_maybe2 s.var s.label h1 h2
  refine pure_of_awp Tryz.func34 rfl rfl (by simp [Tryz.f34]) ?_; simp only [go_sem, ↓reduceIte, Nat.reduceEqDiff, Nat.reduceAdd, Nat.reduceLeDiff, Nat.reduceBEq, Nat.reduceMul, reduceCtorEq, Int.reduceLE, Int.reduceLT, Int.reduceAdd, Int.reduceSub, Int.reduceNeg, Int.reduceToNat, Int.reduceBEq]
  repeat' (first | refine awp_seq ?_ | refine awp_block ?_ | refine awp_round ?_ | refine awp_scope ?_ | refine awp_text rfl ?_ | refine awp_any rfl mix (by kernel_rfl) ?_ | (refine RunTo.unguard rfl rfl (fun hg => ?_) (fun hg => ?_) <;> ((try simp only [Bool.not_true, Bool.not_false, Bool.not_eq_true', Bool.not_eq_false', Bool.not_eq_eq_eq_not] at hg); (first | (cases hg) | (simp only [hg]) | skip))) | ((first | refine RunTo.plain rfl ?_ | refine RunTo.skipped rfl ?_); simp only [go_sem, ↓reduceIte, Nat.reduceEqDiff, Nat.reduceAdd, Nat.reduceLeDiff, Nat.reduceBEq, Nat.reduceMul, reduceCtorEq, Int.reduceLE, Int.reduceLT, Int.reduceAdd, Int.reduceSub, Int.reduceNeg, Int.reduceToNat, Int.reduceBEq, SpotD.av, List.length_map]) | ((first | refine RunTo.nilA (by kernel_rfl) ?_ | refine RunTo.nilT ?_ | refine awp_skip ?_ | refine awp_exit ?_ | refine awp_label ?_); simp only [go_sem, ↓reduceIte, Nat.reduceEqDiff, Nat.reduceAdd, Nat.reduceLeDiff, Nat.reduceBEq, Nat.reduceMul, reduceCtorEq, Int.reduceLE, Int.reduceLT, Int.reduceAdd, Int.reduceSub, Int.reduceNeg, Int.reduceToNat, Int.reduceBEq, SpotD.av, List.length_map]) | (refine awp_cond' rfl (of_decide_eq_true rfl) (fun hc => ?_) (fun hc => ?_) <;> ((try simp only [Bool.not_true, Bool.not_false, Bool.not_eq_true', Bool.not_eq_false', Bool.not_eq_eq_eq_not] at hc); (first | (cases hc) | (simp only [hc]) | skip))))
  refine awp_loopw (IQ1 s) s.props.length (SQ1 s 0 _) (weak_keep ⟨rfl, rfl, rfl, rfl, trivial⟩ ⟨rfl, trivial⟩ (Nat.le_refl _)) ⟨0, _, Nat.zero_le _, rfl, rfl, rfl⟩ ?_
  rintro n st ⟨k, T, hk, rfl, hall, rfl⟩
  by_cases hlt : k < s.props.length
  · have hdec := lt_t hlt
    have hget := row_at PropD.enc s.props k hlt
    have hwk : IntKind.i64.wrap ((k : Int) + 1) = ((k + 1 : Nat) : Int) := wrap_succ (by omega)
    have n1 := c_isName s.props[k].name (h4 _ (List.getElem_mem hlt))
    have hp := c_plain s.props[k].v
    have hpk : propOk s.props k = (isName s.props[k].name && (plainV s.props[k].v && (!(s.props[k].v.a.k == 0) && !(decide (0 < k) && (match s.props[k - 1]? with | some q => strLe s.props[k].name q.name | none => false))))) := by
      unfold propOk
      rw [List.getElem?_eq_getElem hlt]
    rw [show PropD.enc s.props[k] = [ds' s.props[k].name, di s.props[k].v.a.k, di s.props[k].v.a.n, df s.props[k].v.a.f, ds' s.props[k].v.a.s, .lst 4 (s.props[k].v.l.map AtomD.enc)] from rfl] at hget
    by_cases hk0 : 0 < k
    · have d0 : decide ((0 : Int) < (k : Int)) = true := decide_eq_true (by omega)
      have hgp := row_at PropD.enc s.props (k - 1) (by omega)
      have hwp : IntKind.i64.wrap ((k : Int) - 1) = ((k - 1 : Nat) : Int) := by rw [IntWalk.i64_in _ (by omega)]; omega
      rw [show PropD.enc s.props[k - 1] = [ds' s.props[k - 1].name, di s.props[k - 1].v.a.k, di s.props[k - 1].v.a.n, df s.props[k - 1].v.a.f, ds' s.props[k - 1].v.a.s, .lst 4 (s.props[k - 1].v.l.map AtomD.enc)] from rfl] at hgp
      rw [decide_eq_true hk0, List.getElem?_eq_getElem (by omega : k - 1 < s.props.length), Bool.true_and] at hpk
      simp only at hpk
      generalize s.props[k] = p at *
      generalize s.props[k - 1] = q at *
      have hle : (Op.bytesLess p.name.toList q.name.toList || p.name.toList == q.name.toList) = strLe p.name q.name := rfl
      generalize isName p.name = b1 at *
      generalize plainV p.v = b2 at *
      generalize hz : (p.v.a.k == 0) = b3 at *
      generalize strLe p.name q.name = b4 at *
      cases b1 with
      | false =>
        repeat' (first | refine awp_seq ?_ | refine awp_block ?_ | refine awp_round ?_ | refine awp_scope ?_ | refine awp_text rfl ?_ | refine awp_any rfl mix (by kernel_rfl) ?_ | (refine RunTo.unguard rfl rfl (fun hg => ?_) (fun hg => ?_) <;> ((try simp only [Bool.not_true, Bool.not_false, Bool.not_eq_true', Bool.not_eq_false', Bool.not_eq_eq_eq_not] at hg); (first | (cases hg) | (simp only [hg]) | skip))) | ((first | refine RunTo.plain rfl ?_ | refine RunTo.skipped rfl ?_ | refine RunTo.call (n1) Tryz.func53 rfl rfl rfl rfl rfl rfl rfl rfl ?_ | refine RunTo.call (hp) Tryz.func54 rfl rfl rfl rfl rfl rfl rfl rfl ?_); simp only [go_sem, ↓reduceIte, Nat.reduceEqDiff, Nat.reduceAdd, Nat.reduceLeDiff, Nat.reduceBEq, Nat.reduceMul, reduceCtorEq, Int.reduceLE, Int.reduceLT, Int.reduceAdd, Int.reduceSub, Int.reduceNeg, Int.reduceToNat, Int.reduceBEq, hdec, hget, hwk, bne, hz, Bool.not_true, Bool.not_false, List.length_map]) | ((first | refine RunTo.nilA (by kernel_rfl) ?_ | refine RunTo.nilT ?_ | refine awp_skip ?_ | refine awp_exit ?_ | refine awp_label ?_); simp only [go_sem, ↓reduceIte, Nat.reduceEqDiff, Nat.reduceAdd, Nat.reduceLeDiff, Nat.reduceBEq, Nat.reduceMul, reduceCtorEq, Int.reduceLE, Int.reduceLT, Int.reduceAdd, Int.reduceSub, Int.reduceNeg, Int.reduceToNat, Int.reduceBEq, hdec, hget, hwk, bne, hz, Bool.not_true, Bool.not_false, List.length_map]) | (refine awp_cond' rfl (of_decide_eq_true rfl) (fun hc => ?_) (fun hc => ?_) <;> ((try simp only [Bool.not_true, Bool.not_false, Bool.not_eq_true', Bool.not_eq_false', Bool.not_eq_eq_eq_not] at hc); (first | (cases hc) | (simp only [hc]) | skip))))
        rw [show rightS s = false by unfold rightS; rw [range_no hlt (by rw [hpk]; simp), Bool.false_and]]
        all_goals (first | refine awp_ret ?_ | skip); refine ⟨(by first | exact .inl rfl | exact .inr rfl | exact .inr trivial | trivial), ?_⟩; simp only [go_sem, ↓reduceIte, Nat.reduceEqDiff, Nat.reduceAdd, Nat.reduceLeDiff, Nat.reduceBEq, Nat.reduceMul, reduceCtorEq, Int.reduceLE, Int.reduceLT, Int.reduceAdd, Int.reduceSub, Int.reduceNeg, Int.reduceToNat, Int.reduceBEq, retV, resL, resV, sealV, sealC, sealAll, Tryz.f34]
        all_goals rfl
      | true =>
        cases b2 with
        | false =>
          repeat' (first | refine awp_seq ?_ | refine awp_block ?_ | refine awp_round ?_ | refine awp_scope ?_ | refine awp_text rfl ?_ | refine awp_any rfl mix (by kernel_rfl) ?_ | (refine RunTo.unguard rfl rfl (fun hg => ?_) (fun hg => ?_) <;> ((try simp only [Bool.not_true, Bool.not_false, Bool.not_eq_true', Bool.not_eq_false', Bool.not_eq_eq_eq_not] at hg); (first | (cases hg) | (simp only [hg]) | skip))) | ((first | refine RunTo.plain rfl ?_ | refine RunTo.skipped rfl ?_ | refine RunTo.call (n1) Tryz.func53 rfl rfl rfl rfl rfl rfl rfl rfl ?_ | refine RunTo.call (hp) Tryz.func54 rfl rfl rfl rfl rfl rfl rfl rfl ?_); simp only [go_sem, ↓reduceIte, Nat.reduceEqDiff, Nat.reduceAdd, Nat.reduceLeDiff, Nat.reduceBEq, Nat.reduceMul, reduceCtorEq, Int.reduceLE, Int.reduceLT, Int.reduceAdd, Int.reduceSub, Int.reduceNeg, Int.reduceToNat, Int.reduceBEq, hdec, hget, hwk, bne, hz, Bool.not_true, Bool.not_false, List.length_map]) | ((first | refine RunTo.nilA (by kernel_rfl) ?_ | refine RunTo.nilT ?_ | refine awp_skip ?_ | refine awp_exit ?_ | refine awp_label ?_); simp only [go_sem, ↓reduceIte, Nat.reduceEqDiff, Nat.reduceAdd, Nat.reduceLeDiff, Nat.reduceBEq, Nat.reduceMul, reduceCtorEq, Int.reduceLE, Int.reduceLT, Int.reduceAdd, Int.reduceSub, Int.reduceNeg, Int.reduceToNat, Int.reduceBEq, hdec, hget, hwk, bne, hz, Bool.not_true, Bool.not_false, List.length_map]) | (refine awp_cond' rfl (of_decide_eq_true rfl) (fun hc => ?_) (fun hc => ?_) <;> ((try simp only [Bool.not_true, Bool.not_false, Bool.not_eq_true', Bool.not_eq_false', Bool.not_eq_eq_eq_not] at hc); (first | (cases hc) | (simp only [hc]) | skip))))
          rw [show rightS s = false by unfold rightS; rw [range_no hlt (by rw [hpk]; simp), Bool.false_and]]
          all_goals (first | refine awp_ret ?_ | skip); refine ⟨(by first | exact .inl rfl | exact .inr rfl | exact .inr trivial | trivial), ?_⟩; simp only [go_sem, ↓reduceIte, Nat.reduceEqDiff, Nat.reduceAdd, Nat.reduceLeDiff, Nat.reduceBEq, Nat.reduceMul, reduceCtorEq, Int.reduceLE, Int.reduceLT, Int.reduceAdd, Int.reduceSub, Int.reduceNeg, Int.reduceToNat, Int.reduceBEq, retV, resL, resV, sealV, sealC, sealAll, Tryz.f34]
          all_goals rfl
        | true =>
          cases b3 with
          | true =>
            repeat' (first | refine awp_seq ?_ | refine awp_block ?_ | refine awp_round ?_ | refine awp_scope ?_ | refine awp_text rfl ?_ | refine awp_any rfl mix (by kernel_rfl) ?_ | (refine RunTo.unguard rfl rfl (fun hg => ?_) (fun hg => ?_) <;> ((try simp only [Bool.not_true, Bool.not_false, Bool.not_eq_true', Bool.not_eq_false', Bool.not_eq_eq_eq_not] at hg); (first | (cases hg) | (simp only [hg]) | skip))) | ((first | refine RunTo.plain rfl ?_ | refine RunTo.skipped rfl ?_ | refine RunTo.call (n1) Tryz.func53 rfl rfl rfl rfl rfl rfl rfl rfl ?_ | refine RunTo.call (hp) Tryz.func54 rfl rfl rfl rfl rfl rfl rfl rfl ?_); simp only [go_sem, ↓reduceIte, Nat.reduceEqDiff, Nat.reduceAdd, Nat.reduceLeDiff, Nat.reduceBEq, Nat.reduceMul, reduceCtorEq, Int.reduceLE, Int.reduceLT, Int.reduceAdd, Int.reduceSub, Int.reduceNeg, Int.reduceToNat, Int.reduceBEq, hdec, hget, hwk, bne, hz, Bool.not_true, Bool.not_false, List.length_map]) | ((first | refine RunTo.nilA (by kernel_rfl) ?_ | refine RunTo.nilT ?_ | refine awp_skip ?_ | refine awp_exit ?_ | refine awp_label ?_); simp only [go_sem, ↓reduceIte, Nat.reduceEqDiff, Nat.reduceAdd, Nat.reduceLeDiff, Nat.reduceBEq, Nat.reduceMul, reduceCtorEq, Int.reduceLE, Int.reduceLT, Int.reduceAdd, Int.reduceSub, Int.reduceNeg, Int.reduceToNat, Int.reduceBEq, hdec, hget, hwk, bne, hz, Bool.not_true, Bool.not_false, List.length_map]) | (refine awp_cond' rfl (of_decide_eq_true rfl) (fun hc => ?_) (fun hc => ?_) <;> ((try simp only [Bool.not_true, Bool.not_false, Bool.not_eq_true', Bool.not_eq_false', Bool.not_eq_eq_eq_not] at hc); (first | (cases hc) | (simp only [hc]) | skip))))
            rw [show rightS s = false by unfold rightS; rw [range_no hlt (by rw [hpk]; simp), Bool.false_and]]
            all_goals (first | refine awp_ret ?_ | skip); refine ⟨(by first | exact .inl rfl | exact .inr rfl | exact .inr trivial | trivial), ?_⟩; simp only [go_sem, ↓reduceIte, Nat.reduceEqDiff, Nat.reduceAdd, Nat.reduceLeDiff, Nat.reduceBEq, Nat.reduceMul, reduceCtorEq, Int.reduceLE, Int.reduceLT, Int.reduceAdd, Int.reduceSub, Int.reduceNeg, Int.reduceToNat, Int.reduceBEq, retV, resL, resV, sealV, sealC, sealAll, Tryz.f34]
            all_goals rfl
          | false =>
            cases b4 with
            | true =>
              repeat' (first | refine awp_seq ?_ | refine awp_block ?_ | refine awp_round ?_ | refine awp_scope ?_ | refine awp_text rfl ?_ | refine awp_any rfl mix (by kernel_rfl) ?_ | (refine RunTo.unguard rfl rfl (fun hg => ?_) (fun hg => ?_) <;> ((try simp only [Bool.not_true, Bool.not_false, Bool.not_eq_true', Bool.not_eq_false', Bool.not_eq_eq_eq_not] at hg); (first | (cases hg) | (simp only [hg]) | skip))) | ((first | refine RunTo.plain rfl ?_ | refine RunTo.skipped rfl ?_ | refine RunTo.call (n1) Tryz.func53 rfl rfl rfl rfl rfl rfl rfl rfl ?_ | refine RunTo.call (hp) Tryz.func54 rfl rfl rfl rfl rfl rfl rfl rfl ?_); simp only [go_sem, ↓reduceIte, Nat.reduceEqDiff, Nat.reduceAdd, Nat.reduceLeDiff, Nat.reduceBEq, Nat.reduceMul, reduceCtorEq, Int.reduceLE, Int.reduceLT, Int.reduceAdd, Int.reduceSub, Int.reduceNeg, Int.reduceToNat, Int.reduceBEq, hdec, hget, hwk, bne, hz, Bool.not_true, Bool.not_false, List.length_map, d0, hgp, hwp, hle]) | ((first | refine RunTo.nilA (by kernel_rfl) ?_ | refine RunTo.nilT ?_ | refine awp_skip ?_ | refine awp_exit ?_ | refine awp_label ?_); simp only [go_sem, ↓reduceIte, Nat.reduceEqDiff, Nat.reduceAdd, Nat.reduceLeDiff, Nat.reduceBEq, Nat.reduceMul, reduceCtorEq, Int.reduceLE, Int.reduceLT, Int.reduceAdd, Int.reduceSub, Int.reduceNeg, Int.reduceToNat, Int.reduceBEq, hdec, hget, hwk, bne, hz, Bool.not_true, Bool.not_false, List.length_map, d0, hgp, hwp, hle]) | (refine awp_cond' rfl (of_decide_eq_true rfl) (fun hc => ?_) (fun hc => ?_) <;> ((try simp only [Bool.not_true, Bool.not_false, Bool.not_eq_true', Bool.not_eq_false', Bool.not_eq_eq_eq_not] at hc); (first | (cases hc) | (simp only [hc]) | skip))))
              rw [show rightS s = false by unfold rightS; rw [range_no hlt (by rw [hpk]; simp), Bool.false_and]]
              all_goals (first | refine awp_ret ?_ | skip); refine ⟨(by first | exact .inl rfl | exact .inr rfl | exact .inr trivial | trivial), ?_⟩; simp only [go_sem, ↓reduceIte, Nat.reduceEqDiff, Nat.reduceAdd, Nat.reduceLeDiff, Nat.reduceBEq, Nat.reduceMul, reduceCtorEq, Int.reduceLE, Int.reduceLT, Int.reduceAdd, Int.reduceSub, Int.reduceNeg, Int.reduceToNat, Int.reduceBEq, retV, resL, resV, sealV, sealC, sealAll, Tryz.f34]
              all_goals rfl
            | false =>
              repeat' (first | refine awp_seq ?_ | refine awp_block ?_ | refine awp_round ?_ | refine awp_scope ?_ | refine awp_text rfl ?_ | refine awp_any rfl mix (by kernel_rfl) ?_ | (refine RunTo.unguard rfl rfl (fun hg => ?_) (fun hg => ?_) <;> ((try simp only [Bool.not_true, Bool.not_false, Bool.not_eq_true', Bool.not_eq_false', Bool.not_eq_eq_eq_not] at hg); (first | (cases hg) | (simp only [hg]) | skip))) | ((first | refine RunTo.plain rfl ?_ | refine RunTo.skipped rfl ?_ | refine RunTo.call (n1) Tryz.func53 rfl rfl rfl rfl rfl rfl rfl rfl ?_ | refine RunTo.call (hp) Tryz.func54 rfl rfl rfl rfl rfl rfl rfl rfl ?_); simp only [go_sem, ↓reduceIte, Nat.reduceEqDiff, Nat.reduceAdd, Nat.reduceLeDiff, Nat.reduceBEq, Nat.reduceMul, reduceCtorEq, Int.reduceLE, Int.reduceLT, Int.reduceAdd, Int.reduceSub, Int.reduceNeg, Int.reduceToNat, Int.reduceBEq, hdec, hget, hwk, bne, hz, Bool.not_true, Bool.not_false, List.length_map, d0, hgp, hwp, hle]) | ((first | refine RunTo.nilA (by kernel_rfl) ?_ | refine RunTo.nilT ?_ | refine awp_skip ?_ | refine awp_exit ?_ | refine awp_label ?_); simp only [go_sem, ↓reduceIte, Nat.reduceEqDiff, Nat.reduceAdd, Nat.reduceLeDiff, Nat.reduceBEq, Nat.reduceMul, reduceCtorEq, Int.reduceLE, Int.reduceLT, Int.reduceAdd, Int.reduceSub, Int.reduceNeg, Int.reduceToNat, Int.reduceBEq, hdec, hget, hwk, bne, hz, Bool.not_true, Bool.not_false, List.length_map, d0, hgp, hwp, hle]) | (refine awp_cond' rfl (of_decide_eq_true rfl) (fun hc => ?_) (fun hc => ?_) <;> ((try simp only [Bool.not_true, Bool.not_false, Bool.not_eq_true', Bool.not_eq_false', Bool.not_eq_eq_eq_not] at hc); (first | (cases hc) | (simp only [hc]) | skip))))
              all_goals exact ⟨s.props.length - (k + 1), by omega, SQ1 s (k + 1) _, weak_keep ⟨rfl, rfl, rfl, rfl, trivial⟩ ⟨rfl, trivial⟩ (Nat.le_refl _), k + 1, _, by omega, rfl, range_up hall (by rw [hpk]; simp), rfl⟩
    · have d0 : decide ((0 : Int) < (k : Int)) = false := decide_eq_false (by omega)
      rw [decide_eq_false hk0, Bool.false_and, Bool.not_false, Bool.and_true] at hpk
      generalize s.props[k] = p at *
      generalize isName p.name = b1 at *
      generalize plainV p.v = b2 at *
      generalize hz : (p.v.a.k == 0) = b3 at *
      cases b1 with
      | false =>
        repeat' (first | refine awp_seq ?_ | refine awp_block ?_ | refine awp_round ?_ | refine awp_scope ?_ | refine awp_text rfl ?_ | refine awp_any rfl mix (by kernel_rfl) ?_ | (refine RunTo.unguard rfl rfl (fun hg => ?_) (fun hg => ?_) <;> ((try simp only [Bool.not_true, Bool.not_false, Bool.not_eq_true', Bool.not_eq_false', Bool.not_eq_eq_eq_not] at hg); (first | (cases hg) | (simp only [hg]) | skip))) | ((first | refine RunTo.plain rfl ?_ | refine RunTo.skipped rfl ?_ | refine RunTo.call (n1) Tryz.func53 rfl rfl rfl rfl rfl rfl rfl rfl ?_ | refine RunTo.call (hp) Tryz.func54 rfl rfl rfl rfl rfl rfl rfl rfl ?_); simp only [go_sem, ↓reduceIte, Nat.reduceEqDiff, Nat.reduceAdd, Nat.reduceLeDiff, Nat.reduceBEq, Nat.reduceMul, reduceCtorEq, Int.reduceLE, Int.reduceLT, Int.reduceAdd, Int.reduceSub, Int.reduceNeg, Int.reduceToNat, Int.reduceBEq, hdec, hget, hwk, bne, hz, Bool.not_true, Bool.not_false, List.length_map]) | ((first | refine RunTo.nilA (by kernel_rfl) ?_ | refine RunTo.nilT ?_ | refine awp_skip ?_ | refine awp_exit ?_ | refine awp_label ?_); simp only [go_sem, ↓reduceIte, Nat.reduceEqDiff, Nat.reduceAdd, Nat.reduceLeDiff, Nat.reduceBEq, Nat.reduceMul, reduceCtorEq, Int.reduceLE, Int.reduceLT, Int.reduceAdd, Int.reduceSub, Int.reduceNeg, Int.reduceToNat, Int.reduceBEq, hdec, hget, hwk, bne, hz, Bool.not_true, Bool.not_false, List.length_map]) | (refine awp_cond' rfl (of_decide_eq_true rfl) (fun hc => ?_) (fun hc => ?_) <;> ((try simp only [Bool.not_true, Bool.not_false, Bool.not_eq_true', Bool.not_eq_false', Bool.not_eq_eq_eq_not] at hc); (first | (cases hc) | (simp only [hc]) | skip))))
        rw [show rightS s = false by unfold rightS; rw [range_no hlt (by rw [hpk]; simp), Bool.false_and]]
        all_goals (first | refine awp_ret ?_ | skip); refine ⟨(by first | exact .inl rfl | exact .inr rfl | exact .inr trivial | trivial), ?_⟩; simp only [go_sem, ↓reduceIte, Nat.reduceEqDiff, Nat.reduceAdd, Nat.reduceLeDiff, Nat.reduceBEq, Nat.reduceMul, reduceCtorEq, Int.reduceLE, Int.reduceLT, Int.reduceAdd, Int.reduceSub, Int.reduceNeg, Int.reduceToNat, Int.reduceBEq, retV, resL, resV, sealV, sealC, sealAll, Tryz.f34]
        all_goals rfl
      | true =>
        cases b2 with
        | false =>
          repeat' (first | refine awp_seq ?_ | refine awp_block ?_ | refine awp_round ?_ | refine awp_scope ?_ | refine awp_text rfl ?_ | refine awp_any rfl mix (by kernel_rfl) ?_ | (refine RunTo.unguard rfl rfl (fun hg => ?_) (fun hg => ?_) <;> ((try simp only [Bool.not_true, Bool.not_false, Bool.not_eq_true', Bool.not_eq_false', Bool.not_eq_eq_eq_not] at hg); (first | (cases hg) | (simp only [hg]) | skip))) | ((first | refine RunTo.plain rfl ?_ | refine RunTo.skipped rfl ?_ | refine RunTo.call (n1) Tryz.func53 rfl rfl rfl rfl rfl rfl rfl rfl ?_ | refine RunTo.call (hp) Tryz.func54 rfl rfl rfl rfl rfl rfl rfl rfl ?_); simp only [go_sem, ↓reduceIte, Nat.reduceEqDiff, Nat.reduceAdd, Nat.reduceLeDiff, Nat.reduceBEq, Nat.reduceMul, reduceCtorEq, Int.reduceLE, Int.reduceLT, Int.reduceAdd, Int.reduceSub, Int.reduceNeg, Int.reduceToNat, Int.reduceBEq, hdec, hget, hwk, bne, hz, Bool.not_true, Bool.not_false, List.length_map]) | ((first | refine RunTo.nilA (by kernel_rfl) ?_ | refine RunTo.nilT ?_ | refine awp_skip ?_ | refine awp_exit ?_ | refine awp_label ?_); simp only [go_sem, ↓reduceIte, Nat.reduceEqDiff, Nat.reduceAdd, Nat.reduceLeDiff, Nat.reduceBEq, Nat.reduceMul, reduceCtorEq, Int.reduceLE, Int.reduceLT, Int.reduceAdd, Int.reduceSub, Int.reduceNeg, Int.reduceToNat, Int.reduceBEq, hdec, hget, hwk, bne, hz, Bool.not_true, Bool.not_false, List.length_map]) | (refine awp_cond' rfl (of_decide_eq_true rfl) (fun hc => ?_) (fun hc => ?_) <;> ((try simp only [Bool.not_true, Bool.not_false, Bool.not_eq_true', Bool.not_eq_false', Bool.not_eq_eq_eq_not] at hc); (first | (cases hc) | (simp only [hc]) | skip))))
          rw [show rightS s = false by unfold rightS; rw [range_no hlt (by rw [hpk]; simp), Bool.false_and]]
          all_goals (first | refine awp_ret ?_ | skip); refine ⟨(by first | exact .inl rfl | exact .inr rfl | exact .inr trivial | trivial), ?_⟩; simp only [go_sem, ↓reduceIte, Nat.reduceEqDiff, Nat.reduceAdd, Nat.reduceLeDiff, Nat.reduceBEq, Nat.reduceMul, reduceCtorEq, Int.reduceLE, Int.reduceLT, Int.reduceAdd, Int.reduceSub, Int.reduceNeg, Int.reduceToNat, Int.reduceBEq, retV, resL, resV, sealV, sealC, sealAll, Tryz.f34]
          all_goals rfl
        | true =>
          cases b3 with
          | true =>
            repeat' (first | refine awp_seq ?_ | refine awp_block ?_ | refine awp_round ?_ | refine awp_scope ?_ | refine awp_text rfl ?_ | refine awp_any rfl mix (by kernel_rfl) ?_ | (refine RunTo.unguard rfl rfl (fun hg => ?_) (fun hg => ?_) <;> ((try simp only [Bool.not_true, Bool.not_false, Bool.not_eq_true', Bool.not_eq_false', Bool.not_eq_eq_eq_not] at hg); (first | (cases hg) | (simp only [hg]) | skip))) | ((first | refine RunTo.plain rfl ?_ | refine RunTo.skipped rfl ?_ | refine RunTo.call (n1) Tryz.func53 rfl rfl rfl rfl rfl rfl rfl rfl ?_ | refine RunTo.call (hp) Tryz.func54 rfl rfl rfl rfl rfl rfl rfl rfl ?_); simp only [go_sem, ↓reduceIte, Nat.reduceEqDiff, Nat.reduceAdd, Nat.reduceLeDiff, Nat.reduceBEq, Nat.reduceMul, reduceCtorEq, Int.reduceLE, Int.reduceLT, Int.reduceAdd, Int.reduceSub, Int.reduceNeg, Int.reduceToNat, Int.reduceBEq, hdec, hget, hwk, bne, hz, Bool.not_true, Bool.not_false, List.length_map]) | ((first | refine RunTo.nilA (by kernel_rfl) ?_ | refine RunTo.nilT ?_ | refine awp_skip ?_ | refine awp_exit ?_ | refine awp_label ?_); simp only [go_sem, ↓reduceIte, Nat.reduceEqDiff, Nat.reduceAdd, Nat.reduceLeDiff, Nat.reduceBEq, Nat.reduceMul, reduceCtorEq, Int.reduceLE, Int.reduceLT, Int.reduceAdd, Int.reduceSub, Int.reduceNeg, Int.reduceToNat, Int.reduceBEq, hdec, hget, hwk, bne, hz, Bool.not_true, Bool.not_false, List.length_map]) | (refine awp_cond' rfl (of_decide_eq_true rfl) (fun hc => ?_) (fun hc => ?_) <;> ((try simp only [Bool.not_true, Bool.not_false, Bool.not_eq_true', Bool.not_eq_false', Bool.not_eq_eq_eq_not] at hc); (first | (cases hc) | (simp only [hc]) | skip))))
            rw [show rightS s = false by unfold rightS; rw [range_no hlt (by rw [hpk]; simp), Bool.false_and]]
            all_goals (first | refine awp_ret ?_ | skip); refine ⟨(by first | exact .inl rfl | exact .inr rfl | exact .inr trivial | trivial), ?_⟩; simp only [go_sem, ↓reduceIte, Nat.reduceEqDiff, Nat.reduceAdd, Nat.reduceLeDiff, Nat.reduceBEq, Nat.reduceMul, reduceCtorEq, Int.reduceLE, Int.reduceLT, Int.reduceAdd, Int.reduceSub, Int.reduceNeg, Int.reduceToNat, Int.reduceBEq, retV, resL, resV, sealV, sealC, sealAll, Tryz.f34]
            all_goals rfl
          | false =>
            repeat' (first | refine awp_seq ?_ | refine awp_block ?_ | refine awp_round ?_ | refine awp_scope ?_ | refine awp_text rfl ?_ | refine awp_any rfl mix (by kernel_rfl) ?_ | (refine RunTo.unguard rfl rfl (fun hg => ?_) (fun hg => ?_) <;> ((try simp only [Bool.not_true, Bool.not_false, Bool.not_eq_true', Bool.not_eq_false', Bool.not_eq_eq_eq_not] at hg); (first | (cases hg) | (simp only [hg]) | skip))) | ((first | refine RunTo.plain rfl ?_ | refine RunTo.skipped rfl ?_ | refine RunTo.call (n1) Tryz.func53 rfl rfl rfl rfl rfl rfl rfl rfl ?_ | refine RunTo.call (hp) Tryz.func54 rfl rfl rfl rfl rfl rfl rfl rfl ?_); simp only [go_sem, ↓reduceIte, Nat.reduceEqDiff, Nat.reduceAdd, Nat.reduceLeDiff, Nat.reduceBEq, Nat.reduceMul, reduceCtorEq, Int.reduceLE, Int.reduceLT, Int.reduceAdd, Int.reduceSub, Int.reduceNeg, Int.reduceToNat, Int.reduceBEq, hdec, hget, hwk, bne, hz, Bool.not_true, Bool.not_false, List.length_map, d0]) | ((first | refine RunTo.nilA (by kernel_rfl) ?_ | refine RunTo.nilT ?_ | refine awp_skip ?_ | refine awp_exit ?_ | refine awp_label ?_); simp only [go_sem, ↓reduceIte, Nat.reduceEqDiff, Nat.reduceAdd, Nat.reduceLeDiff, Nat.reduceBEq, Nat.reduceMul, reduceCtorEq, Int.reduceLE, Int.reduceLT, Int.reduceAdd, Int.reduceSub, Int.reduceNeg, Int.reduceToNat, Int.reduceBEq, hdec, hget, hwk, bne, hz, Bool.not_true, Bool.not_false, List.length_map, d0]) | (refine awp_cond' rfl (of_decide_eq_true rfl) (fun hc => ?_) (fun hc => ?_) <;> ((try simp only [Bool.not_true, Bool.not_false, Bool.not_eq_true', Bool.not_eq_false', Bool.not_eq_eq_eq_not] at hc); (first | (cases hc) | (simp only [hc]) | skip))))
            all_goals exact ⟨s.props.length - (k + 1), by omega, SQ1 s (k + 1) _, weak_keep ⟨rfl, rfl, rfl, rfl, trivial⟩ ⟨rfl, trivial⟩ (Nat.le_refl _), k + 1, _, by omega, rfl, range_up hall (by rw [hpk]; simp), rfl⟩
  · have hdec := lt_f hlt
    obtain rfl : k = s.props.length := by omega
    have e : rightS s = (maybeB s.var && maybeB s.label && decide ((s.props.length : Int) ≤ 16)) := by unfold rightS; rw [hall, Bool.true_and]
    rw [e]
    cases hmb : (maybeB s.var && maybeB s.label) with
    | true =>
      rw [hmb] at hm
      repeat' (first | refine awp_seq ?_ | refine awp_block ?_ | refine awp_round ?_ | refine awp_scope ?_ | refine awp_text rfl ?_ | refine awp_any rfl mix (by kernel_rfl) ?_ | (refine RunTo.unguard rfl rfl (fun hg => ?_) (fun hg => ?_) <;> ((try simp only [Bool.not_true, Bool.not_false, Bool.not_eq_true', Bool.not_eq_false', Bool.not_eq_eq_eq_not] at hg); (first | (cases hg) | (simp only [hg]) | skip))) | ((first | refine RunTo.plain rfl ?_ | refine RunTo.skipped rfl ?_); simp only [go_sem, ↓reduceIte, Nat.reduceEqDiff, Nat.reduceAdd, Nat.reduceLeDiff, Nat.reduceBEq, Nat.reduceMul, reduceCtorEq, Int.reduceLE, Int.reduceLT, Int.reduceAdd, Int.reduceSub, Int.reduceNeg, Int.reduceToNat, Int.reduceBEq, hdec, List.length_map]) | (refine RunTo.lentE (hm) Tryz.func55 rfl rfl rfl rfl rfl rfl ?_; simp only [go_sem, ↓reduceIte, Nat.reduceEqDiff, Nat.reduceAdd, Nat.reduceLeDiff, Nat.reduceBEq, Nat.reduceMul, reduceCtorEq, Int.reduceLE, Int.reduceLT, Int.reduceAdd, Int.reduceSub, Int.reduceNeg, Int.reduceToNat, Int.reduceBEq, hdec, List.length_map, Option.some.injEq, List.cons.injEq]; (repeat' refine And.intro rfl ?_); with_reducible refine RunTo.this ?_) | ((first | refine RunTo.nilA (by kernel_rfl) ?_ | refine RunTo.nilT ?_ | refine awp_skip ?_ | refine awp_exit ?_ | refine awp_label ?_); simp only [go_sem, ↓reduceIte, Nat.reduceEqDiff, Nat.reduceAdd, Nat.reduceLeDiff, Nat.reduceBEq, Nat.reduceMul, reduceCtorEq, Int.reduceLE, Int.reduceLT, Int.reduceAdd, Int.reduceSub, Int.reduceNeg, Int.reduceToNat, Int.reduceBEq, hdec, List.length_map]) | (refine awp_cond' rfl (of_decide_eq_true rfl) (fun hc => ?_) (fun hc => ?_) <;> ((try simp only [Bool.not_true, Bool.not_false, Bool.not_eq_true', Bool.not_eq_false', Bool.not_eq_eq_eq_not] at hc); (first | (cases hc) | (simp only [hc]) | skip))))
      all_goals (first | refine awp_ret ?_ | skip); refine ⟨(by first | exact .inl rfl | exact .inr rfl | exact .inr trivial | trivial), ?_⟩; simp only [go_sem, ↓reduceIte, Nat.reduceEqDiff, Nat.reduceAdd, Nat.reduceLeDiff, Nat.reduceBEq, Nat.reduceMul, reduceCtorEq, Int.reduceLE, Int.reduceLT, Int.reduceAdd, Int.reduceSub, Int.reduceNeg, Int.reduceToNat, Int.reduceBEq, retV, resL, resV, sealV, sealC, sealAll, Tryz.f34]
      all_goals rfl
    | false =>
      rw [hmb] at hm
      repeat' (first | refine awp_seq ?_ | refine awp_block ?_ | refine awp_round ?_ | refine awp_scope ?_ | refine awp_text rfl ?_ | refine awp_any rfl mix (by kernel_rfl) ?_ | (refine RunTo.unguard rfl rfl (fun hg => ?_) (fun hg => ?_) <;> ((try simp only [Bool.not_true, Bool.not_false, Bool.not_eq_true', Bool.not_eq_false', Bool.not_eq_eq_eq_not] at hg); (first | (cases hg) | (simp only [hg]) | skip))) | ((first | refine RunTo.plain rfl ?_ | refine RunTo.skipped rfl ?_); simp only [go_sem, ↓reduceIte, Nat.reduceEqDiff, Nat.reduceAdd, Nat.reduceLeDiff, Nat.reduceBEq, Nat.reduceMul, reduceCtorEq, Int.reduceLE, Int.reduceLT, Int.reduceAdd, Int.reduceSub, Int.reduceNeg, Int.reduceToNat, Int.reduceBEq, hdec, List.length_map]) | (refine RunTo.lentE (hm) Tryz.func55 rfl rfl rfl rfl rfl rfl ?_; simp only [go_sem, ↓reduceIte, Nat.reduceEqDiff, Nat.reduceAdd, Nat.reduceLeDiff, Nat.reduceBEq, Nat.reduceMul, reduceCtorEq, Int.reduceLE, Int.reduceLT, Int.reduceAdd, Int.reduceSub, Int.reduceNeg, Int.reduceToNat, Int.reduceBEq, hdec, List.length_map, Option.some.injEq, List.cons.injEq]; (repeat' refine And.intro rfl ?_); with_reducible refine RunTo.this ?_) | ((first | refine RunTo.nilA (by kernel_rfl) ?_ | refine RunTo.nilT ?_ | refine awp_skip ?_ | refine awp_exit ?_ | refine awp_label ?_); simp only [go_sem, ↓reduceIte, Nat.reduceEqDiff, Nat.reduceAdd, Nat.reduceLeDiff, Nat.reduceBEq, Nat.reduceMul, reduceCtorEq, Int.reduceLE, Int.reduceLT, Int.reduceAdd, Int.reduceSub, Int.reduceNeg, Int.reduceToNat, Int.reduceBEq, hdec, List.length_map]) | (refine awp_cond' rfl (of_decide_eq_true rfl) (fun hc => ?_) (fun hc => ?_) <;> ((try simp only [Bool.not_true, Bool.not_false, Bool.not_eq_true', Bool.not_eq_false', Bool.not_eq_eq_eq_not] at hc); (first | (cases hc) | (simp only [hc]) | skip))))
      all_goals (first | refine awp_ret ?_ | skip); refine ⟨(by first | exact .inl rfl | exact .inr rfl | exact .inr trivial | trivial), ?_⟩; simp only [go_sem, ↓reduceIte, Nat.reduceEqDiff, Nat.reduceAdd, Nat.reduceLeDiff, Nat.reduceBEq, Nat.reduceMul, reduceCtorEq, Int.reduceLE, Int.reduceLT, Int.reduceAdd, Int.reduceSub, Int.reduceNeg, Int.reduceToNat, Int.reduceBEq, retV, resL, resV, sealV, sealC, sealAll, Tryz.f34]
      all_goals rfl
end Go.Proofs.YtinpnidokpjfhaaGreatDoor.AM
namespace Go.Proofs.YtinpnidokpjfhaaGreatDoor.AM
open Go.RowKit
set_option linter.unusedSimpArgs false
set_option linter.unusedVariables false
set_option maxRecDepth 10000
set_option maxHeartbeats 0
def HopD.av (h : HopD) : AV := .agg [sv h.var, sv h.type, bv h.back, bv h.many, iv h.least, iv h.most]
def rightH (h : HopD) : Bool := (maybeB h.var && maybeB h.type) && (if h.many = true then decide (0 ≤ h.least) && decide (h.least ≤ h.most) && decide (h.most ≤ 8) else (h.least == 0) && (h.most == 0))
theorem c_hopR (h : HopD) (h1 : h.var.size ≤ 1000000000) (h2 : h.type.size ≤ 1000000000) : Pure Tryz.prog 36 [h.av] (bv (rightH h)) := by
  have hm := c_maybe2 h.var h.type h1 h2
  unfold rightH
  generalize (maybeB h.var && maybeB h.type) = m at *
  obtain ⟨v, t, bk, mn, l, o⟩ := h
  dsimp only at *
  cases mn with
  | true =>
    rw [if_pos rfl]
    cases d1 : decide (0 ≤ l) <;> cases d2 : decide (l ≤ o) <;> cases d3 : decide (o ≤ 8) <;> cases m
    all_goals
      refine pure_of_awp Tryz.func36 rfl rfl (by simp [Tryz.f36]) ?_; simp only [go_sem, ↓reduceIte, Nat.reduceEqDiff, Nat.reduceAdd, Nat.reduceLeDiff, Nat.reduceBEq, Nat.reduceMul, reduceCtorEq, Int.reduceLE, Int.reduceLT, Int.reduceAdd, Int.reduceSub, Int.reduceNeg, Int.reduceToNat, Int.reduceBEq]
      repeat' (first | refine awp_seq ?_ | refine awp_block ?_ | refine awp_round ?_ | refine awp_scope ?_ | refine awp_text rfl ?_ | refine awp_any rfl mix (by kernel_rfl) ?_ | (refine RunTo.unguard rfl rfl (fun hg => ?_) (fun hg => ?_) <;> ((try simp only [Bool.not_true, Bool.not_false, Bool.not_eq_true', Bool.not_eq_false', Bool.not_eq_eq_eq_not] at hg); (first | (cases hg) | (simp only [hg]) | skip))) | ((first | refine RunTo.plain rfl ?_ | refine RunTo.skipped rfl ?_); simp only [go_sem, ↓reduceIte, Nat.reduceEqDiff, Nat.reduceAdd, Nat.reduceLeDiff, Nat.reduceBEq, Nat.reduceMul, reduceCtorEq, Int.reduceLE, Int.reduceLT, Int.reduceAdd, Int.reduceSub, Int.reduceNeg, Int.reduceToNat, Int.reduceBEq, HopD.av, d1, d2, d3, Bool.not_true, Bool.not_false]) | (refine RunTo.lentE (hm) Tryz.func55 rfl rfl rfl rfl rfl rfl ?_; simp only [go_sem, ↓reduceIte, Nat.reduceEqDiff, Nat.reduceAdd, Nat.reduceLeDiff, Nat.reduceBEq, Nat.reduceMul, reduceCtorEq, Int.reduceLE, Int.reduceLT, Int.reduceAdd, Int.reduceSub, Int.reduceNeg, Int.reduceToNat, Int.reduceBEq, HopD.av, d1, d2, d3, Bool.not_true, Bool.not_false, Option.some.injEq, List.cons.injEq]; (repeat' refine And.intro rfl ?_); with_reducible refine RunTo.this ?_) | ((first | refine RunTo.nilA (by kernel_rfl) ?_ | refine RunTo.nilT ?_ | refine awp_skip ?_ | refine awp_exit ?_ | refine awp_label ?_); simp only [go_sem, ↓reduceIte, Nat.reduceEqDiff, Nat.reduceAdd, Nat.reduceLeDiff, Nat.reduceBEq, Nat.reduceMul, reduceCtorEq, Int.reduceLE, Int.reduceLT, Int.reduceAdd, Int.reduceSub, Int.reduceNeg, Int.reduceToNat, Int.reduceBEq, HopD.av, d1, d2, d3, Bool.not_true, Bool.not_false]) | (refine awp_cond' rfl (of_decide_eq_true rfl) (fun hc => ?_) (fun hc => ?_) <;> ((try simp only [Bool.not_true, Bool.not_false, Bool.not_eq_true', Bool.not_eq_false', Bool.not_eq_eq_eq_not] at hc); (first | (cases hc) | (simp only [hc]) | skip))))
      all_goals (first | refine awp_ret ?_ | skip); refine ⟨(by first | exact .inl rfl | exact .inr rfl | exact .inr trivial | trivial), ?_⟩; simp only [go_sem, ↓reduceIte, Nat.reduceEqDiff, Nat.reduceAdd, Nat.reduceLeDiff, Nat.reduceBEq, Nat.reduceMul, reduceCtorEq, Int.reduceLE, Int.reduceLT, Int.reduceAdd, Int.reduceSub, Int.reduceNeg, Int.reduceToNat, Int.reduceBEq, retV, resL, resV, sealV, sealC, sealAll, Tryz.f36]
      all_goals rfl
  | false =>
    rw [if_neg (by simp)]
    cases d1 : (l == 0) <;> cases d2 : (o == 0) <;> cases m
    all_goals
      refine pure_of_awp Tryz.func36 rfl rfl (by simp [Tryz.f36]) ?_; simp only [go_sem, ↓reduceIte, Nat.reduceEqDiff, Nat.reduceAdd, Nat.reduceLeDiff, Nat.reduceBEq, Nat.reduceMul, reduceCtorEq, Int.reduceLE, Int.reduceLT, Int.reduceAdd, Int.reduceSub, Int.reduceNeg, Int.reduceToNat, Int.reduceBEq]
      repeat' (first | refine awp_seq ?_ | refine awp_block ?_ | refine awp_round ?_ | refine awp_scope ?_ | refine awp_text rfl ?_ | refine awp_any rfl mix (by kernel_rfl) ?_ | (refine RunTo.unguard rfl rfl (fun hg => ?_) (fun hg => ?_) <;> ((try simp only [Bool.not_true, Bool.not_false, Bool.not_eq_true', Bool.not_eq_false', Bool.not_eq_eq_eq_not] at hg); (first | (cases hg) | (simp only [hg]) | skip))) | ((first | refine RunTo.plain rfl ?_ | refine RunTo.skipped rfl ?_); simp only [go_sem, ↓reduceIte, Nat.reduceEqDiff, Nat.reduceAdd, Nat.reduceLeDiff, Nat.reduceBEq, Nat.reduceMul, reduceCtorEq, Int.reduceLE, Int.reduceLT, Int.reduceAdd, Int.reduceSub, Int.reduceNeg, Int.reduceToNat, Int.reduceBEq, HopD.av, d1, d2, Bool.not_true, Bool.not_false]) | (refine RunTo.lentE (hm) Tryz.func55 rfl rfl rfl rfl rfl rfl ?_; simp only [go_sem, ↓reduceIte, Nat.reduceEqDiff, Nat.reduceAdd, Nat.reduceLeDiff, Nat.reduceBEq, Nat.reduceMul, reduceCtorEq, Int.reduceLE, Int.reduceLT, Int.reduceAdd, Int.reduceSub, Int.reduceNeg, Int.reduceToNat, Int.reduceBEq, HopD.av, d1, d2, Bool.not_true, Bool.not_false, Option.some.injEq, List.cons.injEq]; (repeat' refine And.intro rfl ?_); with_reducible refine RunTo.this ?_) | ((first | refine RunTo.nilA (by kernel_rfl) ?_ | refine RunTo.nilT ?_ | refine awp_skip ?_ | refine awp_exit ?_ | refine awp_label ?_); simp only [go_sem, ↓reduceIte, Nat.reduceEqDiff, Nat.reduceAdd, Nat.reduceLeDiff, Nat.reduceBEq, Nat.reduceMul, reduceCtorEq, Int.reduceLE, Int.reduceLT, Int.reduceAdd, Int.reduceSub, Int.reduceNeg, Int.reduceToNat, Int.reduceBEq, HopD.av, d1, d2, Bool.not_true, Bool.not_false]) | (refine awp_cond' rfl (of_decide_eq_true rfl) (fun hc => ?_) (fun hc => ?_) <;> ((try simp only [Bool.not_true, Bool.not_false, Bool.not_eq_true', Bool.not_eq_false', Bool.not_eq_eq_eq_not] at hc); (first | (cases hc) | (simp only [hc]) | skip))))
      all_goals (first | refine awp_ret ?_ | skip); refine ⟨(by first | exact .inl rfl | exact .inr rfl | exact .inr trivial | trivial), ?_⟩; simp only [go_sem, ↓reduceIte, Nat.reduceEqDiff, Nat.reduceAdd, Nat.reduceLeDiff, Nat.reduceBEq, Nat.reduceMul, reduceCtorEq, Int.reduceLE, Int.reduceLT, Int.reduceAdd, Int.reduceSub, Int.reduceNeg, Int.reduceToNat, Int.reduceBEq, retV, resL, resV, sealV, sealC, sealAll, Tryz.f36]
      all_goals rfl
def ItemD.av (x : ItemD) : AV := .agg [iv x.fn, .dat (.lst 8 (x.terms.map TermD.enc))]
def rightI (x : ItemD) : Bool := (decide (0 ≤ x.fn) && decide (x.fn ≤ 4)) && (((x.fn == 1) && ((x.terms.length : Int) == 0)) || termsV x.terms)
def smallL (l : List TermD) : Prop := l.length ≤ 1000000 ∧ ∀ t ∈ l, smallT t
theorem c_itemR (x : ItemD) (h : smallL x.terms) : Pure Tryz.prog 39 [x.av] (bv (rightI x)) := by
  have hw := c_within x.fn 0 4
  have ht := c_terms x.terms h.1 h.2
  unfold rightI
  generalize (decide (0 ≤ x.fn) && decide (x.fn ≤ 4)) = w at *
  generalize termsV x.terms = z at *
  obtain ⟨fn, l⟩ := x
  dsimp only at *
  cases d1 : (fn == 1) <;> cases d2 : ((l.length : Int) == 0) <;> cases w <;> cases z
  all_goals
    refine pure_of_awp Tryz.func39 rfl rfl (by simp [Tryz.f39]) ?_; simp only [go_sem, ↓reduceIte, Nat.reduceEqDiff, Nat.reduceAdd, Nat.reduceLeDiff, Nat.reduceBEq, Nat.reduceMul, reduceCtorEq, Int.reduceLE, Int.reduceLT, Int.reduceAdd, Int.reduceSub, Int.reduceNeg, Int.reduceToNat, Int.reduceBEq]
    repeat' (first | refine awp_seq ?_ | refine awp_block ?_ | refine awp_round ?_ | refine awp_scope ?_ | refine awp_text rfl ?_ | refine awp_any rfl mix (by kernel_rfl) ?_ | (refine RunTo.unguard rfl rfl (fun hg => ?_) (fun hg => ?_) <;> ((try simp only [Bool.not_true, Bool.not_false, Bool.not_eq_true', Bool.not_eq_false', Bool.not_eq_eq_eq_not] at hg); (first | (cases hg) | (simp only [hg]) | skip))) | ((first | refine RunTo.plain rfl ?_ | refine RunTo.skipped rfl ?_ | refine RunTo.call (hw) Tryz.func31 rfl rfl rfl rfl rfl rfl rfl rfl ?_ | refine RunTo.call (ht) Tryz.func37 rfl rfl rfl rfl rfl rfl rfl rfl ?_); simp only [go_sem, ↓reduceIte, Nat.reduceEqDiff, Nat.reduceAdd, Nat.reduceLeDiff, Nat.reduceBEq, Nat.reduceMul, reduceCtorEq, Int.reduceLE, Int.reduceLT, Int.reduceAdd, Int.reduceSub, Int.reduceNeg, Int.reduceToNat, Int.reduceBEq, ItemD.av, d1, d2, List.length_map]) | ((first | refine RunTo.nilA (by kernel_rfl) ?_ | refine RunTo.nilT ?_ | refine awp_skip ?_ | refine awp_exit ?_ | refine awp_label ?_); simp only [go_sem, ↓reduceIte, Nat.reduceEqDiff, Nat.reduceAdd, Nat.reduceLeDiff, Nat.reduceBEq, Nat.reduceMul, reduceCtorEq, Int.reduceLE, Int.reduceLT, Int.reduceAdd, Int.reduceSub, Int.reduceNeg, Int.reduceToNat, Int.reduceBEq, ItemD.av, d1, d2, List.length_map]) | (refine awp_cond' rfl (of_decide_eq_true rfl) (fun hc => ?_) (fun hc => ?_) <;> ((try simp only [Bool.not_true, Bool.not_false, Bool.not_eq_true', Bool.not_eq_false', Bool.not_eq_eq_eq_not] at hc); (first | (cases hc) | (simp only [hc]) | skip))))
    all_goals (first | refine awp_ret ?_ | skip); refine ⟨(by first | exact .inl rfl | exact .inr rfl | exact .inr trivial | trivial), ?_⟩; simp only [go_sem, ↓reduceIte, Nat.reduceEqDiff, Nat.reduceAdd, Nat.reduceLeDiff, Nat.reduceBEq, Nat.reduceMul, reduceCtorEq, Int.reduceLE, Int.reduceLT, Int.reduceAdd, Int.reduceSub, Int.reduceNeg, Int.reduceToNat, Int.reduceBEq, retV, resL, resV, sealV, sealC, sealAll, Tryz.f39]
    all_goals rfl
end Go.Proofs.YtinpnidokpjfhaaGreatDoor.AM
namespace Go.Proofs.YtinpnidokpjfhaaGreatDoor.AM
open Go.RowKit
set_option linter.unusedSimpArgs false
set_option linter.unusedVariables false
set_option maxRecDepth 10000
set_option maxHeartbeats 0
abbrev cellsQ (q : QueryD) : List AV := [.dat (.lst 3 (q.spots.map SpotD.enc)), .dat (.lst 6 (q.hops.map HopD.enc)), .dat (.lst 8 (q.wh.map TermD.enc)), .dat (.lst 2 (q.items.map ItemD.enc)), bv q.distinct, .dat (.lst 2 (q.sorts.map SortD.enc)), iv q.skip, iv q.limit]
def QueryD.av (q : QueryD) : AV := .agg (cellsQ q)
theorem cellsQ_ren (q : QueryD) (τ : List Row4) : renL τ (cellsQ q) = cellsQ q := by simp [renL, ren]
theorem cellsQ_slots (q : QueryD) : slotsL (cellsQ q) = [] := by simp [slotsL, slotsA]
def atB {α : Type} (f : α → Bool) (l : List α) (i : Nat) : Bool := match l[i]? with
  | some x => f x
  | none => true
theorem atB_in {α : Type} (f : α → Bool) (l : List α) (i : Nat) (h : i < l.length) : atB f l i = f l[i] := by unfold atB; rw [List.getElem?_eq_getElem h]
theorem atB_all {α : Type} (f : α → Bool) (l : List α) : (List.range l.length).all (atB f l) = l.all f := by
  rw [Bool.eq_iff_iff, List.all_eq_true, List.all_eq_true]
  constructor
  · intro h x hx
    obtain ⟨i, hi, rfl⟩ := List.mem_iff_getElem.1 hx
    have := h i (List.mem_range.2 hi)
    rwa [atB_in f l i hi] at this
  · intro h i hi
    have hi := List.mem_range.1 hi
    rw [atB_in f l i hi]
    exact h _ (List.getElem_mem hi)
def rightO (n : Nat) (x : SortD) : Bool := decide (1 ≤ x.item) && decide (x.item ≤ (n : Int))
structure SmallQ (q : QueryD) : Prop where
  spots : q.spots.length ≤ 1000000 ∧ ∀ s ∈ q.spots, smallS s
  hops : q.hops.length ≤ 1000000 ∧ ∀ h ∈ q.hops, h.var.size ≤ 1000000000 ∧ h.type.size ≤ 1000000000
  wh : smallL q.wh
  items : q.items.length ≤ 1000000 ∧ ∀ x ∈ q.items, smallL x.terms
  sorts : q.sorts.length ≤ 1000000
theorem c_g1 (q : QueryD) (hq : SmallQ q) (i : Nat) (hi : i < q.spots.length) : Acts Tryz.prog 33 [iv i, .ptr 1001 0 0 0] [(1001, .box 0 (cellsQ q))] (bv (atB rightS q.spots i)) [(1001, .box 0 (cellsQ q))] := by
  have hs := c_spotR q.spots[i] (hq.spots.2 _ (List.getElem_mem hi))
  have hget := row_at SpotD.enc q.spots i hi
  rw [atB_in _ _ _ hi]
  generalize q.spots[i] = s at *
  refine acts_of_awp ([(1001, 1001)]) Tryz.func33 rfl rfl (by simp [Tryz.f33]) ?_; simp only [go_sem, ↓reduceIte, Nat.reduceEqDiff, Nat.reduceAdd, Nat.reduceLeDiff, Nat.reduceBEq, Nat.reduceMul, reduceCtorEq, Int.reduceLE, Int.reduceLT, Int.reduceAdd, Int.reduceSub, Int.reduceNeg, Int.reduceToNat, Int.reduceBEq]
  repeat' (first | refine awp_seq ?_ | refine awp_block ?_ | refine awp_round ?_ | refine awp_scope ?_ | refine awp_text rfl ?_ | refine awp_any rfl mix (by kernel_rfl) ?_ | (refine RunTo.unguard rfl rfl (fun hg => ?_) (fun hg => ?_) <;> ((try simp only [Bool.not_true, Bool.not_false, Bool.not_eq_true', Bool.not_eq_false', Bool.not_eq_eq_eq_not] at hg); (first | (cases hg) | (simp only [hg]) | skip))) | ((first | refine RunTo.plain rfl ?_ | refine RunTo.skipped rfl ?_ | refine RunTo.call (hs) Tryz.func34 rfl rfl rfl rfl rfl rfl rfl rfl ?_); simp only [go_sem, ↓reduceIte, Nat.reduceEqDiff, Nat.reduceAdd, Nat.reduceLeDiff, Nat.reduceBEq, Nat.reduceMul, reduceCtorEq, Int.reduceLE, Int.reduceLT, Int.reduceAdd, Int.reduceSub, Int.reduceNeg, Int.reduceToNat, Int.reduceBEq, hget, SpotD.enc, SpotD.av]) | ((first | refine RunTo.nilA (by kernel_rfl) ?_ | refine RunTo.nilT ?_ | refine awp_skip ?_ | refine awp_exit ?_ | refine awp_label ?_); simp only [go_sem, ↓reduceIte, Nat.reduceEqDiff, Nat.reduceAdd, Nat.reduceLeDiff, Nat.reduceBEq, Nat.reduceMul, reduceCtorEq, Int.reduceLE, Int.reduceLT, Int.reduceAdd, Int.reduceSub, Int.reduceNeg, Int.reduceToNat, Int.reduceBEq, hget, SpotD.enc, SpotD.av]) | (refine awp_cond' rfl (of_decide_eq_true rfl) (fun hc => ?_) (fun hc => ?_) <;> ((try simp only [Bool.not_true, Bool.not_false, Bool.not_eq_true', Bool.not_eq_false', Bool.not_eq_eq_eq_not] at hc); (first | (cases hc) | (simp only [hc]) | skip))))
  all_goals (first | refine awp_ret ?_ | skip); refine ⟨(by first | exact .inl rfl | exact .inr rfl | exact .inr trivial | trivial), _, rfl, rfl, rfl, ?_, ?_⟩ <;> (try simp only [go_sem, ↓reduceIte, Nat.reduceEqDiff, Nat.reduceAdd, Nat.reduceLeDiff, Nat.reduceBEq, Nat.reduceMul, reduceCtorEq, Int.reduceLE, Int.reduceLT, Int.reduceAdd, Int.reduceSub, Int.reduceNeg, Int.reduceToNat, Int.reduceBEq])
theorem c_g2 (q : QueryD) (hq : SmallQ q) (i : Nat) (hi : i < q.hops.length) : Acts Tryz.prog 35 [iv i, .ptr 1001 0 0 0] [(1001, .box 0 (cellsQ q))] (bv (atB rightH q.hops i)) [(1001, .box 0 (cellsQ q))] := by
  have hb := hq.hops.2 _ (List.getElem_mem hi)
  have hs := c_hopR q.hops[i] hb.1 hb.2
  have hget := row_at HopD.enc q.hops i hi
  rw [atB_in _ _ _ hi]
  generalize q.hops[i] = s at *
  refine acts_of_awp ([(1001, 1001)]) Tryz.func35 rfl rfl (by simp [Tryz.f35]) ?_; simp only [go_sem, ↓reduceIte, Nat.reduceEqDiff, Nat.reduceAdd, Nat.reduceLeDiff, Nat.reduceBEq, Nat.reduceMul, reduceCtorEq, Int.reduceLE, Int.reduceLT, Int.reduceAdd, Int.reduceSub, Int.reduceNeg, Int.reduceToNat, Int.reduceBEq]
  repeat' (first | refine awp_seq ?_ | refine awp_block ?_ | refine awp_round ?_ | refine awp_scope ?_ | refine awp_text rfl ?_ | refine awp_any rfl mix (by kernel_rfl) ?_ | (refine RunTo.unguard rfl rfl (fun hg => ?_) (fun hg => ?_) <;> ((try simp only [Bool.not_true, Bool.not_false, Bool.not_eq_true', Bool.not_eq_false', Bool.not_eq_eq_eq_not] at hg); (first | (cases hg) | (simp only [hg]) | skip))) | ((first | refine RunTo.plain rfl ?_ | refine RunTo.skipped rfl ?_ | refine RunTo.call (hs) Tryz.func36 rfl rfl rfl rfl rfl rfl rfl rfl ?_); simp only [go_sem, ↓reduceIte, Nat.reduceEqDiff, Nat.reduceAdd, Nat.reduceLeDiff, Nat.reduceBEq, Nat.reduceMul, reduceCtorEq, Int.reduceLE, Int.reduceLT, Int.reduceAdd, Int.reduceSub, Int.reduceNeg, Int.reduceToNat, Int.reduceBEq, hget, HopD.enc, HopD.av]) | ((first | refine RunTo.nilA (by kernel_rfl) ?_ | refine RunTo.nilT ?_ | refine awp_skip ?_ | refine awp_exit ?_ | refine awp_label ?_); simp only [go_sem, ↓reduceIte, Nat.reduceEqDiff, Nat.reduceAdd, Nat.reduceLeDiff, Nat.reduceBEq, Nat.reduceMul, reduceCtorEq, Int.reduceLE, Int.reduceLT, Int.reduceAdd, Int.reduceSub, Int.reduceNeg, Int.reduceToNat, Int.reduceBEq, hget, HopD.enc, HopD.av]) | (refine awp_cond' rfl (of_decide_eq_true rfl) (fun hc => ?_) (fun hc => ?_) <;> ((try simp only [Bool.not_true, Bool.not_false, Bool.not_eq_true', Bool.not_eq_false', Bool.not_eq_eq_eq_not] at hc); (first | (cases hc) | (simp only [hc]) | skip))))
  all_goals (first | refine awp_ret ?_ | skip); refine ⟨(by first | exact .inl rfl | exact .inr rfl | exact .inr trivial | trivial), _, rfl, rfl, rfl, ?_, ?_⟩ <;> (try simp only [go_sem, ↓reduceIte, Nat.reduceEqDiff, Nat.reduceAdd, Nat.reduceLeDiff, Nat.reduceBEq, Nat.reduceMul, reduceCtorEq, Int.reduceLE, Int.reduceLT, Int.reduceAdd, Int.reduceSub, Int.reduceNeg, Int.reduceToNat, Int.reduceBEq])
theorem c_g3 (q : QueryD) (hq : SmallQ q) (i : Nat) (hi : i < q.items.length) : Acts Tryz.prog 38 [iv i, .ptr 1001 0 0 0] [(1001, .box 0 (cellsQ q))] (bv (atB rightI q.items i)) [(1001, .box 0 (cellsQ q))] := by
  have hs := c_itemR q.items[i] (hq.items.2 _ (List.getElem_mem hi))
  have hget := row_at ItemD.enc q.items i hi
  rw [atB_in _ _ _ hi]
  generalize q.items[i] = s at *
  refine acts_of_awp ([(1001, 1001)]) Tryz.func38 rfl rfl (by simp [Tryz.f38]) ?_; simp only [go_sem, ↓reduceIte, Nat.reduceEqDiff, Nat.reduceAdd, Nat.reduceLeDiff, Nat.reduceBEq, Nat.reduceMul, reduceCtorEq, Int.reduceLE, Int.reduceLT, Int.reduceAdd, Int.reduceSub, Int.reduceNeg, Int.reduceToNat, Int.reduceBEq]
  repeat' (first | refine awp_seq ?_ | refine awp_block ?_ | refine awp_round ?_ | refine awp_scope ?_ | refine awp_text rfl ?_ | refine awp_any rfl mix (by kernel_rfl) ?_ | (refine RunTo.unguard rfl rfl (fun hg => ?_) (fun hg => ?_) <;> ((try simp only [Bool.not_true, Bool.not_false, Bool.not_eq_true', Bool.not_eq_false', Bool.not_eq_eq_eq_not] at hg); (first | (cases hg) | (simp only [hg]) | skip))) | ((first | refine RunTo.plain rfl ?_ | refine RunTo.skipped rfl ?_ | refine RunTo.call (hs) Tryz.func39 rfl rfl rfl rfl rfl rfl rfl rfl ?_); simp only [go_sem, ↓reduceIte, Nat.reduceEqDiff, Nat.reduceAdd, Nat.reduceLeDiff, Nat.reduceBEq, Nat.reduceMul, reduceCtorEq, Int.reduceLE, Int.reduceLT, Int.reduceAdd, Int.reduceSub, Int.reduceNeg, Int.reduceToNat, Int.reduceBEq, hget, ItemD.enc, ItemD.av]) | ((first | refine RunTo.nilA (by kernel_rfl) ?_ | refine RunTo.nilT ?_ | refine awp_skip ?_ | refine awp_exit ?_ | refine awp_label ?_); simp only [go_sem, ↓reduceIte, Nat.reduceEqDiff, Nat.reduceAdd, Nat.reduceLeDiff, Nat.reduceBEq, Nat.reduceMul, reduceCtorEq, Int.reduceLE, Int.reduceLT, Int.reduceAdd, Int.reduceSub, Int.reduceNeg, Int.reduceToNat, Int.reduceBEq, hget, ItemD.enc, ItemD.av]) | (refine awp_cond' rfl (of_decide_eq_true rfl) (fun hc => ?_) (fun hc => ?_) <;> ((try simp only [Bool.not_true, Bool.not_false, Bool.not_eq_true', Bool.not_eq_false', Bool.not_eq_eq_eq_not] at hc); (first | (cases hc) | (simp only [hc]) | skip))))
  all_goals (first | refine awp_ret ?_ | skip); refine ⟨(by first | exact .inl rfl | exact .inr rfl | exact .inr trivial | trivial), _, rfl, rfl, rfl, ?_, ?_⟩ <;> (try simp only [go_sem, ↓reduceIte, Nat.reduceEqDiff, Nat.reduceAdd, Nat.reduceLeDiff, Nat.reduceBEq, Nat.reduceMul, reduceCtorEq, Int.reduceLE, Int.reduceLT, Int.reduceAdd, Int.reduceSub, Int.reduceNeg, Int.reduceToNat, Int.reduceBEq])
theorem c_g4 (q : QueryD) (hq : SmallQ q) (i : Nat) (hi : i < q.sorts.length) : Acts Tryz.prog 40 [iv i, .ptr 1001 0 0 0] [(1001, .box 0 (cellsQ q))] (bv (atB (rightO q.items.length) q.sorts i)) [(1001, .box 0 (cellsQ q))] := by
  have hget := row_at SortD.enc q.sorts i hi
  rw [atB_in _ _ _ hi]
  generalize q.sorts[i] = s at *
  have hs : Pure Tryz.prog 31 [iv s.item, iv 1, iv q.items.length] (bv (rightO q.items.length s)) := c_within s.item 1 q.items.length
  refine acts_of_awp ([(1001, 1001)]) Tryz.func40 rfl rfl (by simp [Tryz.f40]) ?_; simp only [go_sem, ↓reduceIte, Nat.reduceEqDiff, Nat.reduceAdd, Nat.reduceLeDiff, Nat.reduceBEq, Nat.reduceMul, reduceCtorEq, Int.reduceLE, Int.reduceLT, Int.reduceAdd, Int.reduceSub, Int.reduceNeg, Int.reduceToNat, Int.reduceBEq]
  repeat' (first | refine awp_seq ?_ | refine awp_block ?_ | refine awp_round ?_ | refine awp_scope ?_ | refine awp_text rfl ?_ | refine awp_any rfl mix (by kernel_rfl) ?_ | (refine RunTo.unguard rfl rfl (fun hg => ?_) (fun hg => ?_) <;> ((try simp only [Bool.not_true, Bool.not_false, Bool.not_eq_true', Bool.not_eq_false', Bool.not_eq_eq_eq_not] at hg); (first | (cases hg) | (simp only [hg]) | skip))) | ((first | refine RunTo.plain rfl ?_ | refine RunTo.skipped rfl ?_ | refine RunTo.call (hs) Tryz.func31 rfl rfl rfl rfl rfl rfl rfl rfl ?_); simp only [go_sem, ↓reduceIte, Nat.reduceEqDiff, Nat.reduceAdd, Nat.reduceLeDiff, Nat.reduceBEq, Nat.reduceMul, reduceCtorEq, Int.reduceLE, Int.reduceLT, Int.reduceAdd, Int.reduceSub, Int.reduceNeg, Int.reduceToNat, Int.reduceBEq, hget, SortD.enc, List.length_map]) | ((first | refine RunTo.nilA (by kernel_rfl) ?_ | refine RunTo.nilT ?_ | refine awp_skip ?_ | refine awp_exit ?_ | refine awp_label ?_); simp only [go_sem, ↓reduceIte, Nat.reduceEqDiff, Nat.reduceAdd, Nat.reduceLeDiff, Nat.reduceBEq, Nat.reduceMul, reduceCtorEq, Int.reduceLE, Int.reduceLT, Int.reduceAdd, Int.reduceSub, Int.reduceNeg, Int.reduceToNat, Int.reduceBEq, hget, SortD.enc, List.length_map]) | (refine awp_cond' rfl (of_decide_eq_true rfl) (fun hc => ?_) (fun hc => ?_) <;> ((try simp only [Bool.not_true, Bool.not_false, Bool.not_eq_true', Bool.not_eq_false', Bool.not_eq_eq_eq_not] at hc); (first | (cases hc) | (simp only [hc]) | skip))))
  all_goals (first | refine awp_ret ?_ | skip); refine ⟨(by first | exact .inl rfl | exact .inr rfl | exact .inr trivial | trivial), _, rfl, rfl, rfl, ?_, ?_⟩ <;> (try simp only [go_sem, ↓reduceIte, Nat.reduceEqDiff, Nat.reduceAdd, Nat.reduceLeDiff, Nat.reduceBEq, Nat.reduceMul, reduceCtorEq, Int.reduceLE, Int.reduceLT, Int.reduceAdd, Int.reduceSub, Int.reduceNeg, Int.reduceToNat, Int.reduceBEq])
def fineQ (q : QueryD) : Bool := (decide (1 ≤ (q.spots.length : Int)) && decide ((q.spots.length : Int) ≤ 9)) && ((q.hops.length : Int) == (q.spots.length : Int) - 1) && (decide (1 ≤ (q.items.length : Int)) && decide ((q.items.length : Int) ≤ 16)) && decide ((q.sorts.length : Int) ≤ 16)
  && (decide (-1 ≤ q.skip) && decide (q.skip ≤ 4096)) && (decide (-1 ≤ q.limit) && decide (q.limit ≤ 4096)) && q.spots.all rightS && q.hops.all rightH && (((q.wh.length : Int) == 0) || termsV q.wh) && q.items.all rightI && q.sorts.all (rightO q.items.length)
theorem c_fineQ (q : QueryD) (hq : SmallQ q) : Pure Tryz.prog 14 [q.av] (bv (fineQ q)) := by
  have a1 := c_all 33 _ Tryz.func33 rfl rfl (cellsQ q) q.spots.length hq.spots.1 (atB rightS q.spots) (cellsQ_ren q) (cellsQ_slots q) (c_g1 q hq)
  have a2 := c_all 35 _ Tryz.func35 rfl rfl (cellsQ q) q.hops.length hq.hops.1 (atB rightH q.hops) (cellsQ_ren q) (cellsQ_slots q) (c_g2 q hq)
  have a3 := c_all 38 _ Tryz.func38 rfl rfl (cellsQ q) q.items.length hq.items.1 (atB rightI q.items) (cellsQ_ren q) (cellsQ_slots q) (c_g3 q hq)
  have a4 := c_all 40 _ Tryz.func40 rfl rfl (cellsQ q) q.sorts.length hq.sorts (atB (rightO q.items.length) q.sorts) (cellsQ_ren q) (cellsQ_slots q) (c_g4 q hq)
  rw [atB_all] at a1 a2 a3 a4
  have ht := c_terms q.wh hq.wh.1 hq.wh.2
  have w1 := c_within q.spots.length 1 9
  have w2 := c_within q.items.length 1 16
  have w3 := c_within q.skip (-1) 4096
  have w4 := c_within q.limit (-1) 4096
  have hsp := hq.spots.1
  have wd : IntKind.i64.wrap ((q.spots.length : Int) - 1) = (q.spots.length : Int) - 1 := IntWalk.i64_in _ (by omega)
  unfold fineQ
  generalize (decide (1 ≤ (q.spots.length : Int)) && decide ((q.spots.length : Int) ≤ 9)) = b1 at *
  generalize e2 : ((q.hops.length : Int) == (q.spots.length : Int) - 1) = b2 at *
  generalize (decide (1 ≤ (q.items.length : Int)) && decide ((q.items.length : Int) ≤ 16)) = b3 at *
  generalize e4 : decide ((q.sorts.length : Int) ≤ 16) = b4 at *
  generalize (decide (-1 ≤ q.skip) && decide (q.skip ≤ 4096)) = b5 at *
  generalize (decide (-1 ≤ q.limit) && decide (q.limit ≤ 4096)) = b6 at *
  generalize q.spots.all rightS = b7 at *
  generalize q.hops.all rightH = b8 at *
  generalize termsV q.wh = b9 at *
  generalize e9 : ((q.wh.length : Int) == 0) = c9 at *
  generalize q.items.all rightI = b10 at *
  generalize q.sorts.all (rightO q.items.length) = b11 at *
  refine pure_of_awp Tryz.func14 rfl rfl (by simp [Tryz.f14]) ?_; simp only [go_sem, ↓reduceIte, Nat.reduceEqDiff, Nat.reduceAdd, Nat.reduceLeDiff, Nat.reduceBEq, Nat.reduceMul, reduceCtorEq, Int.reduceLE, Int.reduceLT, Int.reduceAdd, Int.reduceSub, Int.reduceNeg, Int.reduceToNat, Int.reduceBEq]
  repeat' (first | refine awp_seq ?_ | refine awp_block ?_ | refine awp_round ?_ | refine awp_scope ?_ | refine awp_text rfl ?_ | refine awp_any rfl mix (by kernel_rfl) ?_ | (refine RunTo.unguard rfl rfl (fun hg => ?_) (fun hg => ?_) <;> ((try simp only [Bool.not_true, Bool.not_false, Bool.not_eq_true', Bool.not_eq_false', Bool.not_eq_eq_eq_not] at hg); (first | (cases hg) | (simp only [hg]) | skip))) | ((first | refine RunTo.plain rfl ?_ | refine RunTo.skipped rfl ?_ | refine RunTo.call (w1) Tryz.func31 rfl rfl rfl rfl rfl rfl rfl rfl ?_ | refine RunTo.call (w2) Tryz.func31 rfl rfl rfl rfl rfl rfl rfl rfl ?_ | refine RunTo.call (w3) Tryz.func31 rfl rfl rfl rfl rfl rfl rfl rfl ?_ | refine RunTo.call (w4) Tryz.func31 rfl rfl rfl rfl rfl rfl rfl rfl ?_ | refine RunTo.call (ht) Tryz.func37 rfl rfl rfl rfl rfl rfl rfl rfl ?_); simp only [go_sem, ↓reduceIte, Nat.reduceEqDiff, Nat.reduceAdd, Nat.reduceLeDiff, Nat.reduceBEq, Nat.reduceMul, reduceCtorEq, Int.reduceLE, Int.reduceLT, Int.reduceAdd, Int.reduceSub, Int.reduceNeg, Int.reduceToNat, Int.reduceBEq, QueryD.av, List.length_map, wd, e2, e4, e9]) | (refine RunTo.actsE (a1) Tryz.func32 rfl rfl rfl rfl rfl rfl ?_; simp only [go_sem, ↓reduceIte, Nat.reduceEqDiff, Nat.reduceAdd, Nat.reduceLeDiff, Nat.reduceBEq, Nat.reduceMul, reduceCtorEq, Int.reduceLE, Int.reduceLT, Int.reduceAdd, Int.reduceSub, Int.reduceNeg, Int.reduceToNat, Int.reduceBEq, QueryD.av, List.length_map, wd, e2, e4, e9]; (repeat' refine And.intro rfl ?_); with_reducible refine RunTo.this ?_) | (refine RunTo.actsE (a2) Tryz.func32 rfl rfl rfl rfl rfl rfl ?_; simp only [go_sem, ↓reduceIte, Nat.reduceEqDiff, Nat.reduceAdd, Nat.reduceLeDiff, Nat.reduceBEq, Nat.reduceMul, reduceCtorEq, Int.reduceLE, Int.reduceLT, Int.reduceAdd, Int.reduceSub, Int.reduceNeg, Int.reduceToNat, Int.reduceBEq, QueryD.av, List.length_map, wd, e2, e4, e9]; (repeat' refine And.intro rfl ?_); with_reducible refine RunTo.this ?_) | (refine RunTo.actsE (a3) Tryz.func32 rfl rfl rfl rfl rfl rfl ?_; simp only [go_sem, ↓reduceIte, Nat.reduceEqDiff, Nat.reduceAdd, Nat.reduceLeDiff, Nat.reduceBEq, Nat.reduceMul, reduceCtorEq, Int.reduceLE, Int.reduceLT, Int.reduceAdd, Int.reduceSub, Int.reduceNeg, Int.reduceToNat, Int.reduceBEq, QueryD.av, List.length_map, wd, e2, e4, e9]; (repeat' refine And.intro rfl ?_); with_reducible refine RunTo.this ?_) | (refine RunTo.actsE (a4) Tryz.func32 rfl rfl rfl rfl rfl rfl ?_; simp only [go_sem, ↓reduceIte, Nat.reduceEqDiff, Nat.reduceAdd, Nat.reduceLeDiff, Nat.reduceBEq, Nat.reduceMul, reduceCtorEq, Int.reduceLE, Int.reduceLT, Int.reduceAdd, Int.reduceSub, Int.reduceNeg, Int.reduceToNat, Int.reduceBEq, QueryD.av, List.length_map, wd, e2, e4, e9]; (repeat' refine And.intro rfl ?_); with_reducible refine RunTo.this ?_) | ((first | refine RunTo.nilA (by kernel_rfl) ?_ | refine RunTo.nilT ?_ | refine awp_skip ?_ | refine awp_exit ?_ | refine awp_label ?_); simp only [go_sem, ↓reduceIte, Nat.reduceEqDiff, Nat.reduceAdd, Nat.reduceLeDiff, Nat.reduceBEq, Nat.reduceMul, reduceCtorEq, Int.reduceLE, Int.reduceLT, Int.reduceAdd, Int.reduceSub, Int.reduceNeg, Int.reduceToNat, Int.reduceBEq, QueryD.av, List.length_map, wd, e2, e4, e9]) | (refine awp_cond' rfl (of_decide_eq_true rfl) (fun hc => ?_) (fun hc => ?_) <;> ((try simp only [Bool.not_true, Bool.not_false, Bool.not_eq_true', Bool.not_eq_false', Bool.not_eq_eq_eq_not] at hc); (first | (cases hc) | (simp only [hc]) | skip))))
  all_goals (first | refine awp_ret ?_ | skip); refine ⟨(by first | exact .inl rfl | exact .inr rfl | exact .inr trivial | trivial), ?_⟩; simp only [go_sem, ↓reduceIte, Nat.reduceEqDiff, Nat.reduceAdd, Nat.reduceLeDiff, Nat.reduceBEq, Nat.reduceMul, reduceCtorEq, Int.reduceLE, Int.reduceLT, Int.reduceAdd, Int.reduceSub, Int.reduceNeg, Int.reduceToNat, Int.reduceBEq, retV, resL, resV, sealV, sealC, sealAll, Tryz.f14]
  all_goals first | rfl | (simp only [Bool.false_or, Bool.true_or, Bool.true_and, Bool.false_and, Bool.and_false, Bool.and_true]; first | done | rfl)
end Go.Proofs.YtinpnidokpjfhaaGreatDoor.AM
namespace Go.Proofs.YtinpnidokpjfhaaGreatDoor.AM
open Go.RowKit
set_option linter.unusedSimpArgs false
set_option linter.unusedVariables false
set_option maxRecDepth 10000
set_option maxHeartbeats 0
abbrev sepB : ByteArray := ⟨#[44, 32]⟩
def printV (v : ValD) : ByteArray := if validV v = true then (if v.a.k = 6 then (⟨#[91]⟩ : ByteArray) ++ joinB (v.l.map printA) sepB ++ ⟨#[93]⟩ else printA v.a) else eE
def okA (a : AtomD) : Prop := i64B a.n ∧ a.s.size ≤ 1000000
def okV (v : ValD) : Prop := okA v.a ∧ ∀ a ∈ v.l, okA a
theorem join_len (sep : List UInt8) : ∀ xs : List (List UInt8), (Lib.join xs sep).length ≤ (xs.map List.length).sum + xs.length * sep.length
  | [] => by simp [Lib.join_nil]
  | [x] => by rw [Lib.join_one]; simp
  | x :: y :: r => by
    have ih := join_len sep (y :: r)
    have e : Lib.join (x :: y :: r) sep = x ++ (sep ++ Lib.join (y :: r) sep) := by
      rw [Lib.join_cons, Lib.join_cons]
      simp [Lib.joinTail]
    rw [e]
    simp only [List.length_append, List.map_cons, List.sum_cons, List.length_cons] at *
    have : (r.length + 1 + 1) * sep.length = (r.length + 1) * sep.length + sep.length := by rw [Nat.add_mul, Nat.one_mul]
    omega
theorem joinB_size (xs : List ByteArray) (sep : ByteArray) : (joinB xs sep).size ≤ (xs.map (·.size)).sum + xs.length * sep.size := by
  have h := join_len sep.data.toList (xs.map (·.data.toList))
  rw [List.map_map, List.length_map] at h
  have e : (xs.map (List.length ∘ fun x : ByteArray => x.data.toList)) = xs.map (·.size) := List.map_congr_left (fun x _ => Array.length_toList)
  rw [e] at h
  have e2 : (joinB xs sep).size = (Lib.join (xs.map (·.data.toList)) sep.data.toList).length := List.size_toArray
  have e3 : sep.data.toList.length = sep.size := Array.length_toList
  rw [e2, ← e3]; exact h
theorem sum_le {α : Type} (f : α → Nat) (b : Nat) : ∀ l : List α, (∀ x ∈ l, f x ≤ b) → (l.map f).sum ≤ l.length * b
  | [], _ => by simp
  | x :: l, h => by
    have ih := sum_le f b l (fun y hy => h y (List.mem_cons_of_mem _ hy))
    have := h x List.mem_cons_self
    rw [List.map_cons, List.sum_cons, List.length_cons, Nat.add_mul, Nat.one_mul]; omega
theorem joinB_le (xs : List ByteArray) (sep : ByteArray) (b : Nat) (h : ∀ x ∈ xs, x.size ≤ b) : (joinB xs sep).size ≤ xs.length * b + xs.length * sep.size :=
  Nat.le_trans (joinB_size xs sep) (Nat.add_le_add_right (sum_le _ b xs h) _)
theorem printA_big (a : AtomD) (h : okA a) : (printA a).size ≤ 10000000 := by
  obtain ⟨hn, hs⟩ := h
  have hq := quoteS_size a.s
  have hi := Lib.itoa_length_le a.n hn.1 hn.2
  unfold printA
  split
  · cases (a.n == 1) <;> decide
  · split
    · simp only [ByteArray.size, List.size_toArray]; omega
    · split
      · rw [ByteArray.size_append, hexS_size]; show 2 + 16 ≤ _; omega
      · split
        · omega
        · split
          · rw [ByteArray.size_append]; show 1 + _ ≤ _; omega
          · show 4 ≤ _; omega
abbrev SP5 (v : ValD) (k T e m : Nat) (rows : List (List Dat)) : St := ⟨[(20, .dat (.lst 4 (v.l.map AtomD.enc))), (21, iv v.l.length), (22, iv k), (3, .slc 31 e 0 m)], [(31, .arr e 1 rows)], T⟩
def IP5 (v : ValD) (n : Nat) (st : St) : Prop := ∃ k T e m rows, k ≤ v.l.length ∧ n = v.l.length - k ∧ m = ((v.l.take k).map printA).length ∧ rows = sl ((v.l.take k).map printA) ∧ st = SP5 v k T e m rows
theorem c_PrintV (v : ValD) (ho : okV v) : Pure Tryz.prog 45 [v.av] (sv (printV v)) := by
  by_cases h6 : v.a.k = 6
  · by_cases hv : validV v = true
    · have hvc := c_Valid v
      rw [hv] at hvc
      have hl16 : v.l.length ≤ 16 := by
        rw [validV_list h6] at hv
        simp only [Bool.and_eq_true, decide_eq_true_eq] at hv
        have := hv.1.2; omega
      have hk6 : (v.a.k == 6) = true := by simpa using h6
      refine pure_of_awp Tryz.func45 rfl rfl (by simp [Tryz.f45]) ?_; simp only [go_sem, ↓reduceIte, Nat.reduceEqDiff, Nat.reduceAdd, Nat.reduceLeDiff, Nat.reduceBEq, Nat.reduceMul, reduceCtorEq, Int.reduceLE, Int.reduceLT, Int.reduceAdd, Int.reduceSub, Int.reduceNeg, Int.reduceToNat, Int.reduceBEq]
      repeat' (first | refine awp_seq ?_ | refine awp_block ?_ | refine awp_round ?_ | refine awp_scope ?_ | refine awp_text rfl ?_ | refine awp_any rfl mix (by kernel_rfl) ?_ | (refine RunTo.unguard rfl rfl (fun hg => ?_) (fun hg => ?_) <;> ((try simp only [Bool.not_true, Bool.not_false, Bool.not_eq_true', Bool.not_eq_false', Bool.not_eq_eq_eq_not] at hg); (first | (cases hg) | (simp only [hg]) | skip))) | ((first | refine RunTo.plain rfl ?_ | refine RunTo.skipped rfl ?_ | refine RunTo.call (hvc) Tryz.func61 rfl rfl rfl rfl rfl rfl rfl rfl ?_); simp only [go_sem, ↓reduceIte, Nat.reduceEqDiff, Nat.reduceAdd, Nat.reduceLeDiff, Nat.reduceBEq, Nat.reduceMul, reduceCtorEq, Int.reduceLE, Int.reduceLT, Int.reduceAdd, Int.reduceSub, Int.reduceNeg, Int.reduceToNat, Int.reduceBEq, ValD.av, bne, hk6, List.length_map]) | ((first | refine RunTo.nilA (by kernel_rfl) ?_ | refine RunTo.nilT ?_ | refine awp_skip ?_ | refine awp_exit ?_ | refine awp_label ?_); simp only [go_sem, ↓reduceIte, Nat.reduceEqDiff, Nat.reduceAdd, Nat.reduceLeDiff, Nat.reduceBEq, Nat.reduceMul, reduceCtorEq, Int.reduceLE, Int.reduceLT, Int.reduceAdd, Int.reduceSub, Int.reduceNeg, Int.reduceToNat, Int.reduceBEq, ValD.av, bne, hk6, List.length_map]) | (refine awp_cond' rfl (of_decide_eq_true rfl) (fun hc => ?_) (fun hc => ?_) <;> ((try simp only [Bool.not_true, Bool.not_false, Bool.not_eq_true', Bool.not_eq_false', Bool.not_eq_eq_eq_not] at hc); (first | (cases hc) | (simp only [hc]) | skip))))
      refine awp_weak (weak_nil (t := 3) (s := 31) (sz := 1) (of_decide_eq_true rfl) rfl) ?_
      simp only [go_sem, ↓reduceIte, Nat.reduceEqDiff, Nat.reduceAdd, Nat.reduceLeDiff, Nat.reduceBEq, Nat.reduceMul, reduceCtorEq, Int.reduceLE, Int.reduceLT, Int.reduceAdd, Int.reduceSub, Int.reduceNeg, Int.reduceToNat, Int.reduceBEq]
      refine awp_loopw (IP5 v) v.l.length (SP5 v 0 _ _ _ []) (weak_keep ⟨rfl, rfl, rfl, rfl, trivial⟩ ⟨rfl, trivial⟩ (Nat.le_refl _)) ⟨0, _, _, _, _, Nat.zero_le _, rfl, rfl, rfl, rfl⟩ ?_
      rintro n st ⟨k, T, e, m, rows, hk, rfl, hm, hrows, rfl⟩
      have hml : m = k := by rw [hm]; simp; omega
      by_cases hlt : k < v.l.length
      · have hdec := lt_t hlt
        have hget := row_at AtomD.enc v.l k hlt
        have hoa := ho.2 _ (List.getElem_mem hlt)
        have htk : (v.l.take (k + 1)).map printA = (v.l.take k).map printA ++ [printA v.l[k]] := by rw [List.take_succ_eq_append_getElem hlt, List.map_append]; rfl
        have hwk : IntKind.i64.wrap ((k : Int) + 1) = ((k + 1 : Nat) : Int) := wrap_succ (by omega)
        generalize v.l[k] = a at *
        have hp := c_print a hoa.1 hoa.2
        have hrl : rows.length = m := by rw [hrows, List.length_map, hm]
        have c1 : ((m + 1) * 16 ≤ 140737488355328) = True := eq_true (by omega)
        have htr : List.take m rows = rows := List.take_of_length_le (by omega)
        have hle : (m ≤ rows.length) = True := eq_true (by omega)
        repeat' (first | refine awp_seq ?_ | refine awp_block ?_ | refine awp_round ?_ | refine awp_scope ?_ | refine awp_text rfl ?_ | refine awp_any rfl mix (by kernel_rfl) ?_ | (refine RunTo.unguard rfl rfl (fun hg => ?_) (fun hg => ?_) <;> ((try simp only [Bool.not_true, Bool.not_false, Bool.not_eq_true', Bool.not_eq_false', Bool.not_eq_eq_eq_not] at hg); (first | (cases hg) | (simp only [hg]) | skip))) | ((first | refine RunTo.plain rfl ?_ | refine RunTo.skipped rfl ?_ | refine RunTo.call (hp) Tryz.func62 rfl rfl rfl rfl rfl rfl rfl rfl ?_); simp only [go_sem, ↓reduceIte, Nat.reduceEqDiff, Nat.reduceAdd, Nat.reduceLeDiff, Nat.reduceBEq, Nat.reduceMul, reduceCtorEq, Int.reduceLE, Int.reduceLT, Int.reduceAdd, Int.reduceSub, Int.reduceNeg, Int.reduceToNat, Int.reduceBEq, hdec, hget, AtomD.enc, hwk, c1, htr, hrl, lenTy, implies_true]) | ((first | refine RunTo.nilA (by kernel_rfl) ?_ | refine RunTo.nilT ?_ | refine awp_skip ?_ | refine awp_exit ?_ | refine awp_label ?_); simp only [go_sem, ↓reduceIte, Nat.reduceEqDiff, Nat.reduceAdd, Nat.reduceLeDiff, Nat.reduceBEq, Nat.reduceMul, reduceCtorEq, Int.reduceLE, Int.reduceLT, Int.reduceAdd, Int.reduceSub, Int.reduceNeg, Int.reduceToNat, Int.reduceBEq, hdec, hget, AtomD.enc, hwk, c1, htr, hrl, lenTy, implies_true]) | (refine awp_cond' rfl (of_decide_eq_true rfl) (fun hc => ?_) (fun hc => ?_) <;> ((try simp only [Bool.not_true, Bool.not_false, Bool.not_eq_true', Bool.not_eq_false', Bool.not_eq_eq_eq_not] at hc); (first | (cases hc) | (simp only [hc]) | skip))))
        exact ⟨v.l.length - (k + 1), by omega, SP5 v (k + 1) _ _ (m + 1) (rows ++ [[ds' (printA a)]]), weak_keep ⟨rfl, rfl, rfl, rfl, trivial⟩ ⟨rfl, trivial⟩ (Nat.le_refl _), k + 1, _, _, _, _, by omega, rfl, by rw [htk, List.length_append, ← hm]; rfl, by rw [htk, hrows]; simp, rfl⟩
      · have hdec := lt_f hlt
        have hall : v.l.take k = v.l := List.take_of_length_le (by omega)
        rw [hall] at hm hrows
        have hbig := joinB_le (v.l.map printA) sepB 10000000 (fun x hx => by obtain ⟨a, ha, rfl⟩ := List.mem_map.1 hx; exact printA_big a (ho.2 a ha))
        rw [List.length_map] at hbig
        have hs2 : sepB.size = 2 := rfl
        rw [hs2] at hbig
        have hj := c_Join (v.l.map printA) sepB (by simp; omega) (by omega)
        have hrows' : rows = sl (v.l.map printA) := hrows
        have hrl : rows.length = m := by rw [hrows, List.length_map, hm]
        have htr : List.take m rows = rows := List.take_of_length_le (by omega)
        rw [← hrows'] at hj
        have z1 : (1 + (joinB (v.l.map printA) sepB).size ≤ 9223372036854775807) = True := eq_true (by omega)
        have z2 : (1 + (joinB (v.l.map printA) sepB).size + 1 ≤ 9223372036854775807) = True := eq_true (by omega)
        repeat' (first | refine awp_seq ?_ | refine awp_block ?_ | refine awp_round ?_ | refine awp_scope ?_ | refine awp_text rfl ?_ | refine awp_any rfl mix (by kernel_rfl) ?_ | (refine RunTo.unguard rfl rfl (fun hg => ?_) (fun hg => ?_) <;> ((try simp only [Bool.not_true, Bool.not_false, Bool.not_eq_true', Bool.not_eq_false', Bool.not_eq_eq_eq_not] at hg); (first | (cases hg) | (simp only [hg]) | skip))) | ((first | refine RunTo.plain rfl ?_ | refine RunTo.skipped rfl ?_); simp only [go_sem, ↓reduceIte, Nat.reduceEqDiff, Nat.reduceAdd, Nat.reduceLeDiff, Nat.reduceBEq, Nat.reduceMul, reduceCtorEq, Int.reduceLE, Int.reduceLT, Int.reduceAdd, Int.reduceSub, Int.reduceNeg, Int.reduceToNat, Int.reduceBEq, hdec, htr, hrl, z1, z2, ByteArray.size_append, List.size_toArray, Nat.le_refl]) | (refine RunTo.lentE (hj) Tryz.func20 rfl rfl rfl rfl rfl rfl ?_; simp only [go_sem, ↓reduceIte, Nat.reduceEqDiff, Nat.reduceAdd, Nat.reduceLeDiff, Nat.reduceBEq, Nat.reduceMul, reduceCtorEq, Int.reduceLE, Int.reduceLT, Int.reduceAdd, Int.reduceSub, Int.reduceNeg, Int.reduceToNat, Int.reduceBEq, hdec, htr, hrl, z1, z2, ByteArray.size_append, List.size_toArray, Nat.le_refl, Option.some.injEq, List.cons.injEq]; (repeat' refine And.intro rfl ?_); with_reducible refine RunTo.this ?_) | ((first | refine RunTo.nilA (by kernel_rfl) ?_ | refine RunTo.nilT ?_ | refine awp_skip ?_ | refine awp_exit ?_ | refine awp_label ?_); simp only [go_sem, ↓reduceIte, Nat.reduceEqDiff, Nat.reduceAdd, Nat.reduceLeDiff, Nat.reduceBEq, Nat.reduceMul, reduceCtorEq, Int.reduceLE, Int.reduceLT, Int.reduceAdd, Int.reduceSub, Int.reduceNeg, Int.reduceToNat, Int.reduceBEq, hdec, htr, hrl, z1, z2, ByteArray.size_append, List.size_toArray, Nat.le_refl]) | (refine awp_cond' rfl (of_decide_eq_true rfl) (fun hc => ?_) (fun hc => ?_) <;> ((try simp only [Bool.not_true, Bool.not_false, Bool.not_eq_true', Bool.not_eq_false', Bool.not_eq_eq_eq_not] at hc); (first | (cases hc) | (simp only [hc]) | skip))))
        all_goals (first | refine awp_ret ?_ | skip); refine ⟨(by first | exact .inl rfl | exact .inr rfl | exact .inr trivial | trivial), ?_⟩; simp only [go_sem, ↓reduceIte, Nat.reduceEqDiff, Nat.reduceAdd, Nat.reduceLeDiff, Nat.reduceBEq, Nat.reduceMul, reduceCtorEq, Int.reduceLE, Int.reduceLT, Int.reduceAdd, Int.reduceSub, Int.reduceNeg, Int.reduceToNat, Int.reduceBEq, retV, resL, resV, sealV, sealC, sealAll, Tryz.f45]
        all_goals rw [printV, if_pos hv, if_pos h6]
    · have hv' : validV v = false := by simpa using hv
      have hvc := c_Valid v
      rw [hv'] at hvc
      rw [printV, if_neg hv]
      refine pure_of_awp Tryz.func45 rfl rfl (by simp [Tryz.f45]) ?_; simp only [go_sem, ↓reduceIte, Nat.reduceEqDiff, Nat.reduceAdd, Nat.reduceLeDiff, Nat.reduceBEq, Nat.reduceMul, reduceCtorEq, Int.reduceLE, Int.reduceLT, Int.reduceAdd, Int.reduceSub, Int.reduceNeg, Int.reduceToNat, Int.reduceBEq]
      repeat' (first | refine awp_seq ?_ | refine awp_block ?_ | refine awp_round ?_ | refine awp_scope ?_ | refine awp_text rfl ?_ | refine awp_any rfl mix (by kernel_rfl) ?_ | (refine RunTo.unguard rfl rfl (fun hg => ?_) (fun hg => ?_) <;> ((try simp only [Bool.not_true, Bool.not_false, Bool.not_eq_true', Bool.not_eq_false', Bool.not_eq_eq_eq_not] at hg); (first | (cases hg) | (simp only [hg]) | skip))) | ((first | refine RunTo.plain rfl ?_ | refine RunTo.skipped rfl ?_ | refine RunTo.call (hvc) Tryz.func61 rfl rfl rfl rfl rfl rfl rfl rfl ?_); simp only [go_sem, ↓reduceIte, Nat.reduceEqDiff, Nat.reduceAdd, Nat.reduceLeDiff, Nat.reduceBEq, Nat.reduceMul, reduceCtorEq, Int.reduceLE, Int.reduceLT, Int.reduceAdd, Int.reduceSub, Int.reduceNeg, Int.reduceToNat, Int.reduceBEq, ValD.av]) | ((first | refine RunTo.nilA (by kernel_rfl) ?_ | refine RunTo.nilT ?_ | refine awp_skip ?_ | refine awp_exit ?_ | refine awp_label ?_); simp only [go_sem, ↓reduceIte, Nat.reduceEqDiff, Nat.reduceAdd, Nat.reduceLeDiff, Nat.reduceBEq, Nat.reduceMul, reduceCtorEq, Int.reduceLE, Int.reduceLT, Int.reduceAdd, Int.reduceSub, Int.reduceNeg, Int.reduceToNat, Int.reduceBEq, ValD.av]) | (refine awp_cond' rfl (of_decide_eq_true rfl) (fun hc => ?_) (fun hc => ?_) <;> ((try simp only [Bool.not_true, Bool.not_false, Bool.not_eq_true', Bool.not_eq_false', Bool.not_eq_eq_eq_not] at hc); (first | (cases hc) | (simp only [hc]) | skip))))
      all_goals (first | refine awp_ret ?_ | skip); refine ⟨(by first | exact .inl rfl | exact .inr rfl | exact .inr trivial | trivial), ?_⟩; simp only [go_sem, ↓reduceIte, Nat.reduceEqDiff, Nat.reduceAdd, Nat.reduceLeDiff, Nat.reduceBEq, Nat.reduceMul, reduceCtorEq, Int.reduceLE, Int.reduceLT, Int.reduceAdd, Int.reduceSub, Int.reduceNeg, Int.reduceToNat, Int.reduceBEq, retV, resL, resV, sealV, sealC, sealAll, Tryz.f45]
  · have h := c_Print1 v h6 ho.1.1 ho.1.2
    have e : printV1 v = printV v := by unfold printV1 printV; rw [if_neg h6]
    rw [← e]; exact h
end Go.Proofs.YtinpnidokpjfhaaGreatDoor.AM
namespace Go.Proofs.YtinpnidokpjfhaaGreatDoor.AM
open Go.RowKit
set_option linter.unusedSimpArgs false
set_option linter.unusedVariables false
set_option maxRecDepth 10000
set_option maxHeartbeats 0
theorem hideQ3 {α : Type} {P : Program} {nt : Nt} {Q : Exit → St → Prop} {st : St} {A B C R : Code} (I : α → Prop) (S : α → St) (tail : ∀ a, I a → AWP P nt R Q (S a))
    (rest : ∀ R', (∀ a, I a → AWP P nt R' Q (S a)) → AWP P nt (.seq A (.seq B (.seq C R'))) Q st) : AWP P nt (.seq A (.seq B (.seq C R))) Q st := rest R tail
structure OkP (p : PropD) : Prop where
  k : p.v.a.k ≠ 6
  v : okV p.v
  n : p.name.size ≤ 1000000
theorem printV_big1 (v : ValD) (hk : v.a.k ≠ 6) (ho : okV v) : (printV v).size ≤ 10000000 := by
  unfold printV
  rw [if_neg hk]
  split
  · exact printA_big v.a ho.1
  · decide
def propT (p : PropD) : ByteArray := p.name ++ ⟨#[58, 32]⟩ ++ printV p.v
theorem propT_big (p : PropD) (h : OkP p) : (propT p).size ≤ 20000000 := by
  have := printV_big1 p.v h.k h.v
  have := h.n
  unfold propT
  rw [ByteArray.size_append, ByteArray.size_append, show (⟨#[58, 32]⟩ : ByteArray).size = 2 from rfl]
  omega
def emB (s : ByteArray) : Bool := s.toList == eE.toList
def headS (s : SpotD) : ByteArray := if emB s.label = true then s.var else s.var ++ ((⟨#[58]⟩ : ByteArray) ++ s.label)
def bodyS (s : SpotD) : ByteArray := if s.props.length = 0 then headS s else (if emB (headS s) = true then headS s else headS s ++ ⟨#[32]⟩) ++ ((⟨#[123]⟩ : ByteArray) ++ joinB (s.props.map propT) sepB ++ ⟨#[125]⟩)
def spotT (s : SpotD) : ByteArray := (⟨#[40]⟩ : ByteArray) ++ bodyS s ++ ⟨#[41]⟩
structure OkS (s : SpotD) : Prop where
  var : s.var.size ≤ 1000000
  label : s.label.size ≤ 1000000
  len : s.props.length ≤ 16
  props : ∀ p ∈ s.props, OkP p
theorem headS_big (s : SpotD) (h : OkS s) : (headS s).size ≤ 3000000 := by
  have := h.var
  have := h.label
  unfold headS
  split
  · omega
  · rw [ByteArray.size_append, ByteArray.size_append, show (⟨#[58]⟩ : ByteArray).size = 1 from rfl]
    omega
abbrev SQ4 (s : SpotD) (k T e m : Nat) (rows : List (List Dat)) : St := ⟨[(18, .dat (.lst 6 (s.props.map PropD.enc))), (19, iv s.props.length), (20, iv k), (3, sv (headS s)), (4, .slc 33 e 0 m)], [(33, .arr e 1 rows)], T⟩
def IQ4 (s : SpotD) (n : Nat) (st : St) : Prop := ∃ k T e m rows, k ≤ s.props.length ∧ n = s.props.length - k ∧ m = ((s.props.take k).map propT).length ∧ rows = sl ((s.props.take k).map propT) ∧ st = SQ4 s k T e m rows
end Go.Proofs.YtinpnidokpjfhaaGreatDoor.AM
