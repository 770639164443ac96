/- Part 10 of the proof: words, contracts, plain laws. Laid by a program of this session (wip/tool/shake.py): what is needed of own and printed texts, in order. -/
import Derived.Test.YtinpnidokpjfhaaGreatDoorZa0
import Derived.Test.YtinpnidokpjfhaaGreatDoorZa1
import Derived.Test.YtinpnidokpjfhaaGreatDoorZa2
import Derived.Test.YtinpnidokpjfhaaGreatDoorZa3
import Derived.Test.YtinpnidokpjfhaaGreatDoorZa5
import Derived.Test.YtinpnidokpjfhaaGreatDoorZa6
import Derived.Test.YtinpnidokpjfhaaGreatDoorZa7
import Derived.Test.YtinpnidokpjfhaaGreatDoorZa8
import Derived.Test.YtinpnidokpjfhaaGreatDoorZa9
import Derived.Calls
import Derived.Lib.ItoaNum
import Derived.Orders
import Derived.Tactics
import Derived.Below
import Derived.Laws.Rows
import Derived.Laws.World
import Derived.Laws.CopyRow
import Derived.Lib.FrozenHead
import Derived.Deep.AppendSrc
import Derived.Deep.Upon
import Derived.Laws.BytesArg
import Derived.IntWalk
import Derived.Laws.Externs
import Derived.LoopN
import Derived.Scope
import Derived.Test.YtinpnidokpjfhaaGreatDoorProg
import Derived.KernelRfl
import Derived.MapKept
import Derived.Laws.FloatBits
import Derived.Lib.ItoaMem
import Derived.Lib.ItoaLen
import Derived.Lib.Join
import Derived.RegionTactic
import Derived.Lib.AppendIntMem
import Derived.Shelf.Strings.Builder1
import Derived.Shelf.Strings.Builder2
import Derived.Shelf.Strings.OnBuilder
import Derived.Shelf.Small.Wraps
import Derived.Shelf.Strings.BuilderF
import Derived.Shelf.Strings.BuilderK
import Derived.Shelf.Strings.Builder2Cap
import Derived.Shelf.Strconv.Itoa0
import Derived.Shelf.Strconv.Itoa1
import Derived.Shelf.LaysM
import Derived.Shelf.Strconv.Itoa2
import Derived.Shelf.Strconv.Itoa3
import Derived.Shelf.Strings.BuilderCap
import Derived.Shelf.Slices.Turned
namespace Go.Proofs.YtinpnidokpjfhaaGreatDoor.AM
open Go.RowKit
set_option linter.unusedSimpArgs false
set_option linter.unusedVariables false
set_option maxRecDepth 10000
set_option maxHeartbeats 0
theorem c_rText (ts : List TermD) (d : Int) (hl : ts.length ≤ 1000) (hd : deepS [] ts = some [d]) (hok : ∀ t ∈ ts, okT t) (hfl : ∀ t ∈ ts, flV t.v) (hpl : ∀ t ∈ ts, t.op = 1 → okV t.v) : Pure Tryz.prog 26 [.dat (.lst 8 (ts.map TermD.enc))] (sv (textS ts)) := by
  refine pure_of_awp Tryz.func26 rfl rfl (by simp [Tryz.f26]) ?_; simp only [go_sem, ↓reduceIte, Nat.reduceEqDiff, Nat.reduceAdd, Nat.reduceLeDiff, Nat.reduceBEq, Nat.reduceMul, reduceCtorEq, Int.reduceLE, Int.reduceLT, Int.reduceAdd, Int.reduceSub, Int.reduceNeg, Int.reduceToNat, Int.reduceBEq]
  repeat' (first | refine awp_seq ?_ | refine awp_block ?_ | refine awp_round ?_ | refine awp_scope ?_ | refine awp_text rfl ?_ | refine awp_any rfl mix (by kernel_rfl) ?_ | (refine RunTo.unguard rfl rfl (fun hg => ?_) (fun hg => ?_) <;> ((try simp only [Bool.not_true, Bool.not_false, Bool.not_eq_true', Bool.not_eq_false', Bool.not_eq_eq_eq_not] at hg); (first | (cases hg) | (simp only [hg]) | skip))) | ((first | refine RunTo.plain rfl ?_ | refine RunTo.skipped rfl ?_); simp only [go_sem, ↓reduceIte, Nat.reduceEqDiff, Nat.reduceAdd, Nat.reduceLeDiff, Nat.reduceBEq, Nat.reduceMul, reduceCtorEq, Int.reduceLE, Int.reduceLT, Int.reduceAdd, Int.reduceSub, Int.reduceNeg, Int.reduceToNat, Int.reduceBEq, List.length_map]) | ((first | refine RunTo.nilA (by kernel_rfl) ?_ | refine RunTo.nilT ?_ | refine awp_skip ?_ | refine awp_exit ?_ | refine awp_label ?_); simp only [go_sem, ↓reduceIte, Nat.reduceEqDiff, Nat.reduceAdd, Nat.reduceLeDiff, Nat.reduceBEq, Nat.reduceMul, reduceCtorEq, Int.reduceLE, Int.reduceLT, Int.reduceAdd, Int.reduceSub, Int.reduceNeg, Int.reduceToNat, Int.reduceBEq, List.length_map]) | (refine awp_cond' rfl (of_decide_eq_true rfl) (fun hc => ?_) (fun hc => ?_) <;> ((try simp only [Bool.not_true, Bool.not_false, Bool.not_eq_true', Bool.not_eq_false', Bool.not_eq_eq_eq_not] at hc); (first | (cases hc) | (simp only [hc]) | skip))))
  refine awp_weak (weak_nil (t := 4) (s := 200) (sz := 1) (of_decide_eq_true rfl) rfl) ?_
  simp only [go_sem, ↓reduceIte, Nat.reduceEqDiff, Nat.reduceAdd, Nat.reduceLeDiff, Nat.reduceBEq, Nat.reduceMul, reduceCtorEq, Int.reduceLE, Int.reduceLT, Int.reduceAdd, Int.reduceSub, Int.reduceNeg, Int.reduceToNat, Int.reduceBEq]
  refine awp_loopw (IDk ts d) ts.length (SDk ts 0 _ _ []) (weak_keep ⟨rfl, rfl, rfl, rfl, trivial⟩ ⟨rfl, rfl, trivial⟩ (Nat.le_refl _)) ⟨0, _, _, [], [], Nat.zero_le _, rfl, hd, rfl, Nat.zero_le _, Nat.zero_le _, rfl, rfl⟩ ?_
  rintro n st ⟨k, T, e, s, sd, hk, rfl, hdd, hsd, hsk, hsum, hfold, rfl⟩
  by_cases hlt : k < ts.length
  · have hdec := lt_t hlt
    have hget := row_at TermD.enc ts k hlt
    have hot := hok _ (List.getElem_mem hlt)
    have hft := hfl _ (List.getElem_mem hlt)
    have hov := hpl _ (List.getElem_mem hlt)
    have hwk : IntKind.i64.wrap ((k : Int) + 1) = ((k + 1 : Nat) : Int) := wrap_succ (by omega)
    rw [List.drop_eq_getElem_cons hlt] at hdd hfold
    generalize ts[k] = t at *
    rw [deepS_cons] at hdd
    by_cases hbad : t.op ≤ 0 ∨ 16 ≤ t.op ∨ sd.length < ofN t.op
    · rw [stepD, if_pos hbad] at hdd; cases hdd
    rw [stepD, if_neg hbad] at hdd
    simp only [not_or] at hbad
    obtain ⟨hb1, hb2, hb3⟩ := hbad
    obtain ⟨op, var, name, v⟩ := t
    obtain ⟨o1, o2, o3, o4, o5, o6⟩ := hot
    dsimp only at *
    have c1 : ((s.length + 1) * 16 ≤ 140737488355328) = True := eq_true (by omega)
    have htk : (sl s).take s.length = sl s := List.take_of_length_le (by simp)
    have hl9 : ∀ x : ByteArray, (s ++ [x]).length = s.length + 1 := fun x => by simp
    have hs9 : ∀ x : ByteArray, sl (s ++ [x]) = sl s ++ [[ds' x]] := fun x => by simp [sl]
    by_cases h1 : op = 1
    · subst h1
      have ho := hov rfl
      have hpv : printV v = printV1 v := by unfold printV printV1; rw [if_neg (o1 rfl)]
      have hp := c_rPrint v hft ho
      rw [hpv] at hp
      have hts : tStep s ⟨1, var, name, v⟩ = s ++ [printV1 v] := by simp [tStep, own0]
      have hsz : (printV1 v).size ≤ 100000000 := by omega
      rw [show ofN 1 = 0 from rfl] at hdd
      repeat' (first | refine awp_seq ?_ | refine awp_block ?_ | refine awp_round ?_ | refine awp_scope ?_ | refine awp_text rfl ?_ | refine awp_any rfl mix (by kernel_rfl) ?_ | (refine RunTo.unguard rfl rfl (fun hg => ?_) (fun hg => ?_) <;> ((try simp only [Bool.not_true, Bool.not_false, Bool.not_eq_true', Bool.not_eq_false', Bool.not_eq_eq_eq_not] at hg); (first | (cases hg) | (simp only [hg]) | skip))) | ((first | refine RunTo.plain rfl ?_ | refine RunTo.skipped rfl ?_ | refine RunTo.call (hp) Tryz.func52 rfl rfl rfl rfl rfl rfl rfl rfl ?_); simp only [go_sem, ↓reduceIte, Nat.reduceEqDiff, Nat.reduceAdd, Nat.reduceLeDiff, Nat.reduceBEq, Nat.reduceMul, reduceCtorEq, Int.reduceLE, Int.reduceLT, Int.reduceAdd, Int.reduceSub, Int.reduceNeg, Int.reduceToNat, Int.reduceBEq, hdec, hget, TermD.enc, hwk, List.length_map, htk, c1, ByteArray.size_append, List.size_toArray]) | ((first | refine RunTo.nilA (by kernel_rfl) ?_ | refine RunTo.nilT ?_ | refine awp_skip ?_ | refine awp_exit ?_ | refine awp_label ?_); simp only [go_sem, ↓reduceIte, Nat.reduceEqDiff, Nat.reduceAdd, Nat.reduceLeDiff, Nat.reduceBEq, Nat.reduceMul, reduceCtorEq, Int.reduceLE, Int.reduceLT, Int.reduceAdd, Int.reduceSub, Int.reduceNeg, Int.reduceToNat, Int.reduceBEq, hdec, hget, TermD.enc, hwk, List.length_map, htk, c1, ByteArray.size_append, List.size_toArray]) | (refine awp_cond' rfl (of_decide_eq_true rfl) (fun hc => ?_) (fun hc => ?_) <;> ((try simp only [Bool.not_true, Bool.not_false, Bool.not_eq_true', Bool.not_eq_false', Bool.not_eq_eq_eq_not] at hc); (first | (cases hc) | (simp only [hc]) | skip))))
      exact step_mov (st'' := SDk ts (k + 1) _ _ (s ++ [printV1 v])) [(8, 8), (62, 200)] rfl (m := ts.length - (k + 1)) (by omega) (by simp only [go_sem, ↓reduceIte, Nat.reduceEqDiff, Nat.reduceAdd, Nat.reduceLeDiff, Nat.reduceBEq, Nat.reduceMul, reduceCtorEq, Int.reduceLE, Int.reduceLT, Int.reduceAdd, Int.reduceSub, Int.reduceNeg, Int.reduceToNat, Int.reduceBEq]; exact weak_keep ⟨rfl, by rw [hl9]; rfl, rfl, rfl, trivial⟩ ⟨rfl, by rw [hs9]; rfl, trivial⟩ (Nat.le_refl _)) ⟨k + 1, _, _, s ++ [printV1 v], _, by omega, rfl, hdd, by simp; omega, by simp; omega, by rw [sumS_app]; omega, by rw [← hfold, List.foldl_cons, hts], rfl⟩
    by_cases h2 : op = 2
    · subst h2
      have hts : tStep s ⟨2, var, name, v⟩ = s ++ [var ++ ⟨#[46]⟩ ++ name] := by simp [tStep, own0]
      have hsz : (var ++ ⟨#[46]⟩ ++ name).size ≤ 100000000 := by rw [ByteArray.size_append, ByteArray.size_append, b1]; omega
      rw [show ofN 2 = 0 from rfl] at hdd
      have z0 : (var.size + 1 ≤ 9223372036854775807) = True := eq_true (by omega)
      have z1 : (var.size + 1 + name.size ≤ 9223372036854775807) = True := eq_true (by omega)
      repeat' (first | refine awp_seq ?_ | refine awp_block ?_ | refine awp_round ?_ | refine awp_scope ?_ | refine awp_text rfl ?_ | refine awp_any rfl mix (by kernel_rfl) ?_ | (refine RunTo.unguard rfl rfl (fun hg => ?_) (fun hg => ?_) <;> ((try simp only [Bool.not_true, Bool.not_false, Bool.not_eq_true', Bool.not_eq_false', Bool.not_eq_eq_eq_not] at hg); (first | (cases hg) | (simp only [hg]) | skip))) | ((first | refine RunTo.plain rfl ?_ | refine RunTo.skipped rfl ?_); simp only [go_sem, ↓reduceIte, Nat.reduceEqDiff, Nat.reduceAdd, Nat.reduceLeDiff, Nat.reduceBEq, Nat.reduceMul, reduceCtorEq, Int.reduceLE, Int.reduceLT, Int.reduceAdd, Int.reduceSub, Int.reduceNeg, Int.reduceToNat, Int.reduceBEq, hdec, hget, TermD.enc, hwk, List.length_map, htk, c1, ByteArray.size_append, List.size_toArray, z0, z1]) | ((first | refine RunTo.nilA (by kernel_rfl) ?_ | refine RunTo.nilT ?_ | refine awp_skip ?_ | refine awp_exit ?_ | refine awp_label ?_); simp only [go_sem, ↓reduceIte, Nat.reduceEqDiff, Nat.reduceAdd, Nat.reduceLeDiff, Nat.reduceBEq, Nat.reduceMul, reduceCtorEq, Int.reduceLE, Int.reduceLT, Int.reduceAdd, Int.reduceSub, Int.reduceNeg, Int.reduceToNat, Int.reduceBEq, hdec, hget, TermD.enc, hwk, List.length_map, htk, c1, ByteArray.size_append, List.size_toArray, z0, z1]) | (refine awp_cond' rfl (of_decide_eq_true rfl) (fun hc => ?_) (fun hc => ?_) <;> ((try simp only [Bool.not_true, Bool.not_false, Bool.not_eq_true', Bool.not_eq_false', Bool.not_eq_eq_eq_not] at hc); (first | (cases hc) | (simp only [hc]) | skip))))
      exact step_mov (st'' := SDk ts (k + 1) _ _ (s ++ [var ++ ⟨#[46]⟩ ++ name])) [(8, 8), (73, 200)] rfl (m := ts.length - (k + 1)) (by omega) (by simp only [go_sem, ↓reduceIte, Nat.reduceEqDiff, Nat.reduceAdd, Nat.reduceLeDiff, Nat.reduceBEq, Nat.reduceMul, reduceCtorEq, Int.reduceLE, Int.reduceLT, Int.reduceAdd, Int.reduceSub, Int.reduceNeg, Int.reduceToNat, Int.reduceBEq]; exact weak_keep ⟨rfl, by rw [hl9]; rfl, rfl, rfl, trivial⟩ ⟨rfl, by rw [hs9]; rfl, trivial⟩ (Nat.le_refl _)) ⟨k + 1, _, _, s ++ [var ++ ⟨#[46]⟩ ++ name], _, by omega, rfl, hdd, by simp; omega, by simp; omega, by rw [sumS_app]; omega, by rw [← hfold, List.foldl_cons, hts], rfl⟩
    by_cases h3 : op = 3
    · subst h3
      have hts : tStep s ⟨3, var, name, v⟩ = s ++ [(⟨#[105, 100, 40]⟩ : ByteArray) ++ var ++ ⟨#[41]⟩] := by simp [tStep, own0]
      have hsz : ((⟨#[105, 100, 40]⟩ : ByteArray) ++ var ++ ⟨#[41]⟩).size ≤ 100000000 := by rw [ByteArray.size_append, ByteArray.size_append, b1', b3]; omega
      rw [show ofN 3 = 0 from rfl] at hdd
      have z0 : (3 + var.size ≤ 9223372036854775807) = True := eq_true (by omega)
      have z1 : (3 + var.size + 1 ≤ 9223372036854775807) = True := eq_true (by omega)
      repeat' (first | refine awp_seq ?_ | refine awp_block ?_ | refine awp_round ?_ | refine awp_scope ?_ | refine awp_text rfl ?_ | refine awp_any rfl mix (by kernel_rfl) ?_ | (refine RunTo.unguard rfl rfl (fun hg => ?_) (fun hg => ?_) <;> ((try simp only [Bool.not_true, Bool.not_false, Bool.not_eq_true', Bool.not_eq_false', Bool.not_eq_eq_eq_not] at hg); (first | (cases hg) | (simp only [hg]) | skip))) | ((first | refine RunTo.plain rfl ?_ | refine RunTo.skipped rfl ?_); simp only [go_sem, ↓reduceIte, Nat.reduceEqDiff, Nat.reduceAdd, Nat.reduceLeDiff, Nat.reduceBEq, Nat.reduceMul, reduceCtorEq, Int.reduceLE, Int.reduceLT, Int.reduceAdd, Int.reduceSub, Int.reduceNeg, Int.reduceToNat, Int.reduceBEq, hdec, hget, TermD.enc, hwk, List.length_map, htk, c1, ByteArray.size_append, List.size_toArray, z0, z1]) | ((first | refine RunTo.nilA (by kernel_rfl) ?_ | refine RunTo.nilT ?_ | refine awp_skip ?_ | refine awp_exit ?_ | refine awp_label ?_); simp only [go_sem, ↓reduceIte, Nat.reduceEqDiff, Nat.reduceAdd, Nat.reduceLeDiff, Nat.reduceBEq, Nat.reduceMul, reduceCtorEq, Int.reduceLE, Int.reduceLT, Int.reduceAdd, Int.reduceSub, Int.reduceNeg, Int.reduceToNat, Int.reduceBEq, hdec, hget, TermD.enc, hwk, List.length_map, htk, c1, ByteArray.size_append, List.size_toArray, z0, z1]) | (refine awp_cond' rfl (of_decide_eq_true rfl) (fun hc => ?_) (fun hc => ?_) <;> ((try simp only [Bool.not_true, Bool.not_false, Bool.not_eq_true', Bool.not_eq_false', Bool.not_eq_eq_eq_not] at hc); (first | (cases hc) | (simp only [hc]) | skip))))
      exact step_mov (st'' := SDk ts (k + 1) _ _ (s ++ [(⟨#[105, 100, 40]⟩ : ByteArray) ++ var ++ ⟨#[41]⟩])) [(8, 8), (82, 200)] rfl (m := ts.length - (k + 1)) (by omega) (by simp only [go_sem, ↓reduceIte, Nat.reduceEqDiff, Nat.reduceAdd, Nat.reduceLeDiff, Nat.reduceBEq, Nat.reduceMul, reduceCtorEq, Int.reduceLE, Int.reduceLT, Int.reduceAdd, Int.reduceSub, Int.reduceNeg, Int.reduceToNat, Int.reduceBEq]; exact weak_keep ⟨rfl, by rw [hl9]; rfl, rfl, rfl, trivial⟩ ⟨rfl, by rw [hs9]; rfl, trivial⟩ (Nat.le_refl _)) ⟨k + 1, _, _, s ++ [(⟨#[105, 100, 40]⟩ : ByteArray) ++ var ++ ⟨#[41]⟩], _, by omega, rfl, hdd, by simp; omega, by simp; omega, by rw [sumS_app]; omega, by rw [← hfold, List.foldl_cons, hts], rfl⟩
    by_cases h4 : op = 4
    · subst h4
      rw [show ofN 4 = 1 from rfl] at hdd hb3
      rcases List.eq_nil_or_concat s with hnil | ⟨p, a, hs⟩
      · subst hnil; simp at hsd; omega
      rw [List.concat_eq_append] at hs
      subst hs
      have hts : tStep (p ++ [a]) ⟨4, var, name, v⟩ = p ++ [own1 4 a] := by simp [tStep]
      rw [sumS_app] at hsum
      have hl1 : (p ++ [a]).length = p.length + 1 := by simp
      have hl2 : (p ++ [own1 4 a]).length = p.length + 1 := by simp
      rw [hl1] at hsd hsk
      have hsz : (own1 4 a).size ≤ a.size + 20 := by
        unfold own1
        rw [if_pos rfl, ByteArray.size_append, ByteArray.size_append, b5, b1']
        omega
      have w1 : IntKind.i64.wrap (((p.length + 1 : Nat) : Int) - 1) = (p.length : Int) := by rw [IntWalk.i64_in _ (by omega)]; omega
      have hlast : (sl (p ++ [a]))[p.length]? = some [ds' a] := by simp
      have hset : ∀ x : ByteArray, (sl (p ++ [a])).set p.length [ds' x] = sl (p ++ [x]) := fun x => by simp [sl]
      have z0 : (5 + a.size ≤ 9223372036854775807) = True := eq_true (by omega)
      have z1 : (5 + a.size + 1 ≤ 9223372036854775807) = True := eq_true (by omega)
      repeat' (first | refine awp_seq ?_ | refine awp_block ?_ | refine awp_round ?_ | refine awp_scope ?_ | refine awp_text rfl ?_ | refine awp_any rfl mix (by kernel_rfl) ?_ | (refine RunTo.unguard rfl rfl (fun hg => ?_) (fun hg => ?_) <;> ((try simp only [Bool.not_true, Bool.not_false, Bool.not_eq_true', Bool.not_eq_false', Bool.not_eq_eq_eq_not] at hg); (first | (cases hg) | (simp only [hg]) | skip))) | ((first | refine RunTo.plain rfl ?_ | refine RunTo.skipped rfl ?_); simp only [go_sem, ↓reduceIte, Nat.reduceEqDiff, Nat.reduceAdd, Nat.reduceLeDiff, Nat.reduceBEq, Nat.reduceMul, reduceCtorEq, Int.reduceLE, Int.reduceLT, Int.reduceAdd, Int.reduceSub, Int.reduceNeg, Int.reduceToNat, Int.reduceBEq, hdec, hget, TermD.enc, hwk, hl1, w1, hlast, hset, ilt (Nat.lt_succ_self p.length), List.length_map, ByteArray.size_append, List.size_toArray, z0, z1]) | ((first | refine RunTo.nilA (by kernel_rfl) ?_ | refine RunTo.nilT ?_ | refine awp_skip ?_ | refine awp_exit ?_ | refine awp_label ?_); simp only [go_sem, ↓reduceIte, Nat.reduceEqDiff, Nat.reduceAdd, Nat.reduceLeDiff, Nat.reduceBEq, Nat.reduceMul, reduceCtorEq, Int.reduceLE, Int.reduceLT, Int.reduceAdd, Int.reduceSub, Int.reduceNeg, Int.reduceToNat, Int.reduceBEq, hdec, hget, TermD.enc, hwk, hl1, w1, hlast, hset, ilt (Nat.lt_succ_self p.length), List.length_map, ByteArray.size_append, List.size_toArray, z0, z1]) | (refine awp_cond' rfl (of_decide_eq_true rfl) (fun hc => ?_) (fun hc => ?_) <;> ((try simp only [Bool.not_true, Bool.not_false, Bool.not_eq_true', Bool.not_eq_false', Bool.not_eq_eq_eq_not] at hc); (first | (cases hc) | (simp only [hc]) | skip))))
      exact ⟨ts.length - (k + 1), by omega, SDk ts (k + 1) _ _ (p ++ [own1 4 a]), weak_keep ⟨rfl, by rw [hl2]; rfl, rfl, rfl, trivial⟩ ⟨rfl, rfl, trivial⟩ (Nat.le_refl _), k + 1, _, _, p ++ [own1 4 a], _, by omega, rfl, hdd, by simp; omega, by simp; omega, by rw [sumS_app]; omega, by rw [← hfold, List.foldl_cons, hts], rfl⟩
    by_cases h5 : op = 5
    · subst h5
      rw [show ofN 5 = 1 from rfl] at hdd hb3
      rcases List.eq_nil_or_concat s with hnil | ⟨p, a, hs⟩
      · subst hnil; simp at hsd; omega
      rw [List.concat_eq_append] at hs
      subst hs
      have hts : tStep (p ++ [a]) ⟨5, var, name, v⟩ = p ++ [own1 5 a] := by simp [tStep]
      rw [sumS_app] at hsum
      have hl1 : (p ++ [a]).length = p.length + 1 := by simp
      have hl2 : (p ++ [own1 5 a]).length = p.length + 1 := by simp
      rw [hl1] at hsd hsk
      have hsz : (own1 5 a).size ≤ a.size + 20 := by
        unfold own1
        rw [if_neg (by decide), ByteArray.size_append, ByteArray.size_append, b0, b9]
        omega
      have w1 : IntKind.i64.wrap (((p.length + 1 : Nat) : Int) - 1) = (p.length : Int) := by rw [IntWalk.i64_in _ (by omega)]; omega
      have hlast : (sl (p ++ [a]))[p.length]? = some [ds' a] := by simp
      have hset : ∀ x : ByteArray, (sl (p ++ [a])).set p.length [ds' x] = sl (p ++ [x]) := fun x => by simp [sl]
      have z0 : (1 + a.size ≤ 9223372036854775807) = True := eq_true (by omega)
      have z1 : (1 + a.size + 9 ≤ 9223372036854775807) = True := eq_true (by omega)
      repeat' (first | refine awp_seq ?_ | refine awp_block ?_ | refine awp_round ?_ | refine awp_scope ?_ | refine awp_text rfl ?_ | refine awp_any rfl mix (by kernel_rfl) ?_ | (refine RunTo.unguard rfl rfl (fun hg => ?_) (fun hg => ?_) <;> ((try simp only [Bool.not_true, Bool.not_false, Bool.not_eq_true', Bool.not_eq_false', Bool.not_eq_eq_eq_not] at hg); (first | (cases hg) | (simp only [hg]) | skip))) | ((first | refine RunTo.plain rfl ?_ | refine RunTo.skipped rfl ?_); simp only [go_sem, ↓reduceIte, Nat.reduceEqDiff, Nat.reduceAdd, Nat.reduceLeDiff, Nat.reduceBEq, Nat.reduceMul, reduceCtorEq, Int.reduceLE, Int.reduceLT, Int.reduceAdd, Int.reduceSub, Int.reduceNeg, Int.reduceToNat, Int.reduceBEq, hdec, hget, TermD.enc, hwk, hl1, w1, hlast, hset, ilt (Nat.lt_succ_self p.length), List.length_map, ByteArray.size_append, List.size_toArray, z0, z1]) | ((first | refine RunTo.nilA (by kernel_rfl) ?_ | refine RunTo.nilT ?_ | refine awp_skip ?_ | refine awp_exit ?_ | refine awp_label ?_); simp only [go_sem, ↓reduceIte, Nat.reduceEqDiff, Nat.reduceAdd, Nat.reduceLeDiff, Nat.reduceBEq, Nat.reduceMul, reduceCtorEq, Int.reduceLE, Int.reduceLT, Int.reduceAdd, Int.reduceSub, Int.reduceNeg, Int.reduceToNat, Int.reduceBEq, hdec, hget, TermD.enc, hwk, hl1, w1, hlast, hset, ilt (Nat.lt_succ_self p.length), List.length_map, ByteArray.size_append, List.size_toArray, z0, z1]) | (refine awp_cond' rfl (of_decide_eq_true rfl) (fun hc => ?_) (fun hc => ?_) <;> ((try simp only [Bool.not_true, Bool.not_false, Bool.not_eq_true', Bool.not_eq_false', Bool.not_eq_eq_eq_not] at hc); (first | (cases hc) | (simp only [hc]) | skip))))
      exact ⟨ts.length - (k + 1), by omega, SDk ts (k + 1) _ _ (p ++ [own1 5 a]), weak_keep ⟨rfl, by rw [hl2]; rfl, rfl, rfl, trivial⟩ ⟨rfl, rfl, trivial⟩ (Nat.le_refl _), k + 1, _, _, p ++ [own1 5 a], _, by omega, rfl, hdd, by simp; omega, by simp; omega, by rw [sumS_app]; omega, by rw [← hfold, List.foldl_cons, hts], rfl⟩
    have hof : ofN op = 2 := by unfold ofN; rw [if_neg (by omega), if_neg (by omega)]
    rw [hof] at hdd hb3
    rcases List.eq_nil_or_concat s with hnil | ⟨q, b, hs⟩
    · subst hnil; simp at hsd; omega
    rw [List.concat_eq_append] at hs
    subst hs
    rcases List.eq_nil_or_concat q with hnil | ⟨p, a, hs⟩
    · subst hnil; simp at hsd; omega
    rw [List.concat_eq_append] at hs
    subst hs
    have hts : tStep (p ++ [a] ++ [b]) ⟨op, var, name, v⟩ = p ++ [own2 op a b] := by
      unfold tStep
      dsimp only
      rw [if_neg (by omega), if_neg (by omega)]
      simp
    rw [sumS_app, sumS_app] at hsum
    have hl1 : (p ++ [a] ++ [b]).length = p.length + 1 + 1 := by simp
    rw [hl1] at hsd hsk
    have hsg := signS_size op
    have hsz : (own2 op a b).size ≤ a.size + b.size + 20 := by
      unfold own2
      rw [ByteArray.size_append, ByteArray.size_append, ByteArray.size_append, ByteArray.size_append, ByteArray.size_append, ByteArray.size_append, b0, b1', b32]
      omega
    obtain ⟨j, hj, hjk⟩ : ∃ j : Nat, op = (j : Int) + 6 ∧ j < 10 := ⟨(op - 6).toNat, by omega, by omega⟩
    have hsign : (opsR)[j]? = some [ds' (signS op)] := by
      rw [hj]
      have : j = 0 ∨ j = 1 ∨ j = 2 ∨ j = 3 ∨ j = 4 ∨ j = 5 ∨ j = 6 ∨ j = 7 ∨ j = 8 ∨ j = 9 := by omega
      rcases this with rfl | rfl | rfl | rfl | rfl | rfl | rfl | rfl | rfl | rfl <;> rfl
    have wj : IntKind.i64.wrap (op - 6) = (j : Int) := by rw [IntWalk.i64_in _ (by omega)]; omega
    have w1 : IntKind.i64.wrap (((p.length + 1 + 1 : Nat) : Int) - 1) = ((p.length + 1 : Nat) : Int) := by rw [IntWalk.i64_in _ (by omega)]; omega
    have w2 : IntKind.i64.wrap (((p.length + 1 + 1 : Nat) : Int) - 2) = (p.length : Int) := by rw [IntWalk.i64_in _ (by omega)]; omega
    have hlast : (sl (p ++ [a] ++ [b]))[p.length + 1]? = some [ds' b] := by simp
    have hlast2 : (sl (p ++ [a] ++ [b]))[p.length]? = some [ds' a] := by simp
    have hset : ∀ x : ByteArray, (sl (p ++ [a] ++ [b])).set p.length [ds' x] = sl (p ++ [x] ++ [b]) := fun x => by simp [sl]
    have htk' : ∀ x : ByteArray, (sl (p ++ [x] ++ [b])).take (p.length + 1) = sl (p ++ [x]) := fun x => by
      rw [show sl (p ++ [x] ++ [b]) = sl (p ++ [x]) ++ [[ds' b]] from by simp [sl]]
      exact List.take_left' (by simp)
    have htk2 : ∀ x : ByteArray, (sl (p ++ [x])).take (p.length + 1) = sl (p ++ [x]) := fun x => List.take_of_length_le (by simp)
    have c0 : ((0 + (p.length + 1)) * 16 ≤ 140737488355328) = True := eq_true (by omega)
    have c1' : ((p.length + 1) * 16 ≤ 140737488355328) = True := eq_true (by omega)
    have n1 : (op == 1) = false := by simpa using h1
    have n2 : (op == 2) = false := by simpa using h2
    have n3 : (op == 3) = false := by simpa using h3
    have n4 : (op == 4) = false := by simpa using h4
    have n5 : (op == 5) = false := by simpa using h5
    have hle : (p.length + 1 ≤ p.length + 1 + 1) = True := eq_true (by omega)
    have hlt2 : ((p.length : Int) < ((p.length + 1 + 1 : Nat) : Int)) = True := eq_true (by omega)
    have hl3 : ∀ x : ByteArray, (sl (p ++ [x] ++ [b])).length = p.length + 1 + 1 := fun x => by simp
    have hl4 : ∀ x : ByteArray, (sl (p ++ [x])).length = p.length + 1 := fun x => by simp
    have z0 : (1 + a.size ≤ 9223372036854775807) = True := eq_true (by omega)
    have z1 : (1 + a.size + 1 ≤ 9223372036854775807) = True := eq_true (by omega)
    have z2 : (1 + a.size + 1 + (signS op).size ≤ 9223372036854775807) = True := eq_true (by omega)
    have z3 : (1 + a.size + 1 + (signS op).size + 1 ≤ 9223372036854775807) = True := eq_true (by omega)
    have z4 : (1 + a.size + 1 + (signS op).size + 1 + b.size ≤ 9223372036854775807) = True := eq_true (by omega)
    have z5 : (1 + a.size + 1 + (signS op).size + 1 + b.size + 1 ≤ 9223372036854775807) = True := eq_true (by omega)
    have hjl : ((j : Int) < 10) = True := eq_true (by omega)
    repeat' (first | refine awp_seq ?_ | refine awp_block ?_ | refine awp_round ?_ | refine awp_scope ?_ | refine awp_text rfl ?_ | refine awp_any rfl mix (by kernel_rfl) ?_ | (refine RunTo.unguard rfl rfl (fun hg => ?_) (fun hg => ?_) <;> ((try simp only [Bool.not_true, Bool.not_false, Bool.not_eq_true', Bool.not_eq_false', Bool.not_eq_eq_eq_not] at hg); (first | (cases hg) | (simp only [hg]) | skip))) | ((first | refine RunTo.plain rfl ?_ | refine RunTo.skipped rfl ?_); simp only [go_sem, ↓reduceIte, Nat.reduceEqDiff, Nat.reduceAdd, Nat.reduceLeDiff, Nat.reduceBEq, Nat.reduceMul, reduceCtorEq, Int.reduceLE, Int.reduceLT, Int.reduceAdd, Int.reduceSub, Int.reduceNeg, Int.reduceToNat, Int.reduceBEq, hdec, hget, TermD.enc, hwk, hl1, wj, w1, w2, hlast, hlast2, hset, htk', htk2, hsign, hjl, c0, c1', hle, hlt2, hl3, hl4, n1, n2, n3, n4, n5, ilt (Nat.lt_succ_self (p.length + 1)), List.length_map, lenTy, implies_true, ByteArray.size_append, List.size_toArray, Nat.le_refl, z0, z1, z2, z3, z4, z5]) | ((first | refine RunTo.nilA (by kernel_rfl) ?_ | refine RunTo.nilT ?_ | refine awp_skip ?_ | refine awp_exit ?_ | refine awp_label ?_); simp only [go_sem, ↓reduceIte, Nat.reduceEqDiff, Nat.reduceAdd, Nat.reduceLeDiff, Nat.reduceBEq, Nat.reduceMul, reduceCtorEq, Int.reduceLE, Int.reduceLT, Int.reduceAdd, Int.reduceSub, Int.reduceNeg, Int.reduceToNat, Int.reduceBEq, hdec, hget, TermD.enc, hwk, hl1, wj, w1, w2, hlast, hlast2, hset, htk', htk2, hsign, hjl, c0, c1', hle, hlt2, hl3, hl4, n1, n2, n3, n4, n5, ilt (Nat.lt_succ_self (p.length + 1)), List.length_map, lenTy, implies_true, ByteArray.size_append, List.size_toArray, Nat.le_refl, z0, z1, z2, z3, z4, z5]) | (refine awp_cond' rfl (of_decide_eq_true rfl) (fun hc => ?_) (fun hc => ?_) <;> ((try simp only [Bool.not_true, Bool.not_false, Bool.not_eq_true', Bool.not_eq_false', Bool.not_eq_eq_eq_not] at hc); (first | (cases hc) | (simp only [hc]) | skip))))
    have hl2 : (p ++ [own2 op a b]).length = p.length + 1 := by simp
    exact step_mov (st'' := SDk ts (k + 1) _ _ (p ++ [own2 op a b])) [(8, 8), (54, 200)] rfl (m := ts.length - (k + 1)) (by omega) (by simp only [go_sem, ↓reduceIte, Nat.reduceEqDiff, Nat.reduceAdd, Nat.reduceLeDiff, Nat.reduceBEq, Nat.reduceMul, reduceCtorEq, Int.reduceLE, Int.reduceLT, Int.reduceAdd, Int.reduceSub, Int.reduceNeg, Int.reduceToNat, Int.reduceBEq]; exact weak_keep ⟨rfl, by rw [hl2]; rfl, rfl, rfl, trivial⟩ ⟨rfl, rfl, trivial⟩ (Nat.le_refl _)) ⟨k + 1, _, _, p ++ [own2 op a b], _, by omega, rfl, hdd, by simp; omega, by simp; omega, by rw [sumS_app]; omega, by rw [← hfold, List.foldl_cons, hts], rfl⟩
  · have hdec := lt_f hlt
    have hk' : ts.drop k = [] := List.drop_of_length_le (by omega)
    rw [hk'] at hdd hfold
    have hs1 : s.length = 1 := by
      have : some sd = some [d] := hdd
      rw [hsd, Option.some.inj this]; rfl
    obtain ⟨x, rfl⟩ := List.length_eq_one_iff.1 hs1
    repeat' (first | refine awp_seq ?_ | refine awp_block ?_ | refine awp_round ?_ | refine awp_scope ?_ | refine awp_text rfl ?_ | refine awp_any rfl mix (by kernel_rfl) ?_ | (refine RunTo.unguard rfl rfl (fun hg => ?_) (fun hg => ?_) <;> ((try simp only [Bool.not_true, Bool.not_false, Bool.not_eq_true', Bool.not_eq_false', Bool.not_eq_eq_eq_not] at hg); (first | (cases hg) | (simp only [hg]) | skip))) | ((first | refine RunTo.plain rfl ?_ | refine RunTo.skipped rfl ?_); simp only [go_sem, ↓reduceIte, Nat.reduceEqDiff, Nat.reduceAdd, Nat.reduceLeDiff, Nat.reduceBEq, Nat.reduceMul, reduceCtorEq, Int.reduceLE, Int.reduceLT, Int.reduceAdd, Int.reduceSub, Int.reduceNeg, Int.reduceToNat, Int.reduceBEq, hdec, List.length_map]) | ((first | refine RunTo.nilA (by kernel_rfl) ?_ | refine RunTo.nilT ?_ | refine awp_skip ?_ | refine awp_exit ?_ | refine awp_label ?_); simp only [go_sem, ↓reduceIte, Nat.reduceEqDiff, Nat.reduceAdd, Nat.reduceLeDiff, Nat.reduceBEq, Nat.reduceMul, reduceCtorEq, Int.reduceLE, Int.reduceLT, Int.reduceAdd, Int.reduceSub, Int.reduceNeg, Int.reduceToNat, Int.reduceBEq, hdec, List.length_map]) | (refine awp_cond' rfl (of_decide_eq_true rfl) (fun hc => ?_) (fun hc => ?_) <;> ((try simp only [Bool.not_true, Bool.not_false, Bool.not_eq_true', Bool.not_eq_false', Bool.not_eq_eq_eq_not] at hc); (first | (cases hc) | (simp only [hc]) | skip))))
    all_goals
      (first | refine awp_ret ?_ | skip); refine ⟨(by first | exact .inl rfl | exact .inr rfl | exact .inr trivial | trivial), ?_⟩; simp only [go_sem, ↓reduceIte, Nat.reduceEqDiff, Nat.reduceAdd, Nat.reduceLeDiff, Nat.reduceBEq, Nat.reduceMul, reduceCtorEq, Int.reduceLE, Int.reduceLT, Int.reduceAdd, Int.reduceSub, Int.reduceNeg, Int.reduceToNat, Int.reduceBEq, retV, resL, resV, sealV, sealC, sealAll, Tryz.f26]
      simp [textS, ← hfold]
end Go.Proofs.YtinpnidokpjfhaaGreatDoor.AM
namespace Go.Proofs.YtinpnidokpjfhaaGreatDoor.AM
open Go.RowKit
set_option linter.unusedSimpArgs false
set_option linter.unusedVariables false
set_option maxRecDepth 10000
set_option maxHeartbeats 0
theorem c_rHopT (h : HopD) (ho : OkH h) (hr : rightH h = true) : Pure Tryz.prog 24 [h.av] (sv (hopT h)) := by
  have h1 := ho.var
  have h2 := ho.type
  have h3 := itB_size _ ho.least
  have h4 := itB_size _ ho.most
  have hp : h.many = true → 0 ≤ h.least ∧ 0 ≤ h.most := fun hm => by
    unfold rightH at hr
    rw [if_pos hm] at hr
    simp only [Bool.and_eq_true, decide_eq_true_eq] at hr
    omega
  have i1 : h.many = true → Pure Tryz.prog 28 [iv h.least] (sv (itB h.least)) := fun hm => c_rDgs _ (hp hm).1 ho.least.2
  have i2 : h.many = true → Pure Tryz.prog 28 [iv h.most] (sv (itB h.most)) := fun hm => c_rDgs _ (hp hm).2 ho.most.2
  clear hr hp
  have hv : hopT h = if h.back = true then (⟨#[60, 45, 91]⟩ : ByteArray) ++ bodyH h ++ ⟨#[93, 45]⟩ else (⟨#[45, 91]⟩ : ByteArray) ++ bodyH h ++ ⟨#[93, 45, 62]⟩ := rfl
  rw [hv]
  have hb : bodyH h = if h.many = true then headH h ++ ⟨#[42]⟩ ++ itB h.least ++ ⟨#[46, 46]⟩ ++ itB h.most else headH h := by
    unfold bodyH
    split
    · simp only [ByteArray.append_assoc]
    · rfl
  rw [hb]
  have hhd : headH h = if emB h.type = true then h.var else h.var ++ ⟨#[58]⟩ ++ h.type := by
    unfold headH
    split
    · rfl
    · simp only [ByteArray.append_assoc]
  rw [hhd]
  clear hv hb hhd
  obtain ⟨v, t, bk, mn, l, o⟩ := h
  dsimp only at *
  generalize itB l = x at *
  generalize itB o = y at *
  have z1 : (v.size + 1 ≤ 9223372036854775807) = True := eq_true (by omega)
  have z2 : (v.size + 1 + t.size ≤ 9223372036854775807) = True := eq_true (by omega)
  cases he : emB t with
  | true =>
    have he' : (t.toList == ({ data := #[] } : ByteArray).toList) = true := he
    have z3 : (v.size + 1 + x.size ≤ 9223372036854775807) = True := eq_true (by omega)
    have z4 : (v.size + 1 + x.size + 2 ≤ 9223372036854775807) = True := eq_true (by omega)
    have z5 : (v.size + 1 + x.size + 2 + y.size ≤ 9223372036854775807) = True := eq_true (by omega)
    have a1 : (3 + (v.size + 1 + x.size + 2 + y.size) ≤ 9223372036854775807) = True := eq_true (by omega)
    have a2 : (3 + (v.size + 1 + x.size + 2 + y.size) + 2 ≤ 9223372036854775807) = True := eq_true (by omega)
    have a3 : (2 + (v.size + 1 + x.size + 2 + y.size) ≤ 9223372036854775807) = True := eq_true (by omega)
    have a4 : (2 + (v.size + 1 + x.size + 2 + y.size) + 3 ≤ 9223372036854775807) = True := eq_true (by omega)
    have b1 : (3 + v.size ≤ 9223372036854775807) = True := eq_true (by omega)
    have b2 : (3 + v.size + 2 ≤ 9223372036854775807) = True := eq_true (by omega)
    have b3 : (2 + v.size ≤ 9223372036854775807) = True := eq_true (by omega)
    have b4 : (2 + v.size + 3 ≤ 9223372036854775807) = True := eq_true (by omega)
    simp only [↓reduceIte]
    cases mn with
    | true =>
      have i1 := i1 rfl
      have i2 := i2 rfl
      cases bk
      all_goals
        refine pure_of_awp Tryz.func24 rfl rfl (by simp [Tryz.f24]) ?_; simp only [go_sem, ↓reduceIte, Nat.reduceEqDiff, Nat.reduceAdd, Nat.reduceLeDiff, Nat.reduceBEq, Nat.reduceMul, reduceCtorEq, Int.reduceLE, Int.reduceLT, Int.reduceAdd, Int.reduceSub, Int.reduceNeg, Int.reduceToNat, Int.reduceBEq]
        repeat' (first | refine awp_seq ?_ | refine awp_block ?_ | refine awp_round ?_ | refine awp_scope ?_ | refine awp_text rfl ?_ | refine awp_any rfl mix (by kernel_rfl) ?_ | (refine RunTo.unguard rfl rfl (fun hg => ?_) (fun hg => ?_) <;> ((try simp only [Bool.not_true, Bool.not_false, Bool.not_eq_true', Bool.not_eq_false', Bool.not_eq_eq_eq_not] at hg); (first | (cases hg) | (simp only [hg]) | skip))) | ((first | refine RunTo.plain rfl ?_ | refine RunTo.skipped rfl ?_ | refine RunTo.call (i1) Tryz.func28 rfl rfl rfl rfl rfl rfl rfl rfl ?_ | refine RunTo.call (i2) Tryz.func28 rfl rfl rfl rfl rfl rfl rfl rfl ?_); simp only [go_sem, ↓reduceIte, Nat.reduceEqDiff, Nat.reduceAdd, Nat.reduceLeDiff, Nat.reduceBEq, Nat.reduceMul, reduceCtorEq, Int.reduceLE, Int.reduceLT, Int.reduceAdd, Int.reduceSub, Int.reduceNeg, Int.reduceToNat, Int.reduceBEq, HopD.av, bne, he', z1, z2, z3, z4, z5, a1, a2, a3, a4, b1, b2, b3, b4, Bool.not_true, Bool.not_false, ByteArray.size_append, List.size_toArray]) | ((first | refine RunTo.nilA (by kernel_rfl) ?_ | refine RunTo.nilT ?_ | refine awp_skip ?_ | refine awp_exit ?_ | refine awp_label ?_); simp only [go_sem, ↓reduceIte, Nat.reduceEqDiff, Nat.reduceAdd, Nat.reduceLeDiff, Nat.reduceBEq, Nat.reduceMul, reduceCtorEq, Int.reduceLE, Int.reduceLT, Int.reduceAdd, Int.reduceSub, Int.reduceNeg, Int.reduceToNat, Int.reduceBEq, HopD.av, bne, he', z1, z2, z3, z4, z5, a1, a2, a3, a4, b1, b2, b3, b4, Bool.not_true, Bool.not_false, ByteArray.size_append, List.size_toArray]) | (refine awp_cond' rfl (of_decide_eq_true rfl) (fun hc => ?_) (fun hc => ?_) <;> ((try simp only [Bool.not_true, Bool.not_false, Bool.not_eq_true', Bool.not_eq_false', Bool.not_eq_eq_eq_not] at hc); (first | (cases hc) | (simp only [hc]) | skip))))
        all_goals (first | refine awp_ret ?_ | skip); refine ⟨(by first | exact .inl rfl | exact .inr rfl | exact .inr trivial | trivial), ?_⟩; simp only [go_sem, ↓reduceIte, Nat.reduceEqDiff, Nat.reduceAdd, Nat.reduceLeDiff, Nat.reduceBEq, Nat.reduceMul, reduceCtorEq, Int.reduceLE, Int.reduceLT, Int.reduceAdd, Int.reduceSub, Int.reduceNeg, Int.reduceToNat, Int.reduceBEq, retV, resL, resV, sealV, sealC, sealAll, Tryz.f24]
        all_goals rfl
    | false =>
      cases bk
      all_goals
        refine pure_of_awp Tryz.func24 rfl rfl (by simp [Tryz.f24]) ?_; simp only [go_sem, ↓reduceIte, Nat.reduceEqDiff, Nat.reduceAdd, Nat.reduceLeDiff, Nat.reduceBEq, Nat.reduceMul, reduceCtorEq, Int.reduceLE, Int.reduceLT, Int.reduceAdd, Int.reduceSub, Int.reduceNeg, Int.reduceToNat, Int.reduceBEq]
        repeat' (first | refine awp_seq ?_ | refine awp_block ?_ | refine awp_round ?_ | refine awp_scope ?_ | refine awp_text rfl ?_ | refine awp_any rfl mix (by kernel_rfl) ?_ | (refine RunTo.unguard rfl rfl (fun hg => ?_) (fun hg => ?_) <;> ((try simp only [Bool.not_true, Bool.not_false, Bool.not_eq_true', Bool.not_eq_false', Bool.not_eq_eq_eq_not] at hg); (first | (cases hg) | (simp only [hg]) | skip))) | ((first | refine RunTo.plain rfl ?_ | refine RunTo.skipped rfl ?_); simp only [go_sem, ↓reduceIte, Nat.reduceEqDiff, Nat.reduceAdd, Nat.reduceLeDiff, Nat.reduceBEq, Nat.reduceMul, reduceCtorEq, Int.reduceLE, Int.reduceLT, Int.reduceAdd, Int.reduceSub, Int.reduceNeg, Int.reduceToNat, Int.reduceBEq, HopD.av, bne, he', z1, z2, z3, z4, z5, a1, a2, a3, a4, b1, b2, b3, b4, Bool.not_true, Bool.not_false, ByteArray.size_append, List.size_toArray]) | ((first | refine RunTo.nilA (by kernel_rfl) ?_ | refine RunTo.nilT ?_ | refine awp_skip ?_ | refine awp_exit ?_ | refine awp_label ?_); simp only [go_sem, ↓reduceIte, Nat.reduceEqDiff, Nat.reduceAdd, Nat.reduceLeDiff, Nat.reduceBEq, Nat.reduceMul, reduceCtorEq, Int.reduceLE, Int.reduceLT, Int.reduceAdd, Int.reduceSub, Int.reduceNeg, Int.reduceToNat, Int.reduceBEq, HopD.av, bne, he', z1, z2, z3, z4, z5, a1, a2, a3, a4, b1, b2, b3, b4, Bool.not_true, Bool.not_false, ByteArray.size_append, List.size_toArray]) | (refine awp_cond' rfl (of_decide_eq_true rfl) (fun hc => ?_) (fun hc => ?_) <;> ((try simp only [Bool.not_true, Bool.not_false, Bool.not_eq_true', Bool.not_eq_false', Bool.not_eq_eq_eq_not] at hc); (first | (cases hc) | (simp only [hc]) | skip))))
        all_goals (first | refine awp_ret ?_ | skip); refine ⟨(by first | exact .inl rfl | exact .inr rfl | exact .inr trivial | trivial), ?_⟩; simp only [go_sem, ↓reduceIte, Nat.reduceEqDiff, Nat.reduceAdd, Nat.reduceLeDiff, Nat.reduceBEq, Nat.reduceMul, reduceCtorEq, Int.reduceLE, Int.reduceLT, Int.reduceAdd, Int.reduceSub, Int.reduceNeg, Int.reduceToNat, Int.reduceBEq, retV, resL, resV, sealV, sealC, sealAll, Tryz.f24]
        all_goals rfl
  | false =>
    have he' : (t.toList == ({ data := #[] } : ByteArray).toList) = false := he
    have z3 : (v.size + 1 + t.size + 1 ≤ 9223372036854775807) = True := eq_true (by omega)
    have z4 : (v.size + 1 + t.size + 1 + x.size ≤ 9223372036854775807) = True := eq_true (by omega)
    have z5 : (v.size + 1 + t.size + 1 + x.size + 2 ≤ 9223372036854775807) = True := eq_true (by omega)
    have z6 : (v.size + 1 + t.size + 1 + x.size + 2 + y.size ≤ 9223372036854775807) = True := eq_true (by omega)
    have a1 : (3 + (v.size + 1 + t.size + 1 + x.size + 2 + y.size) ≤ 9223372036854775807) = True := eq_true (by omega)
    have a2 : (3 + (v.size + 1 + t.size + 1 + x.size + 2 + y.size) + 2 ≤ 9223372036854775807) = True := eq_true (by omega)
    have a3 : (2 + (v.size + 1 + t.size + 1 + x.size + 2 + y.size) ≤ 9223372036854775807) = True := eq_true (by omega)
    have a4 : (2 + (v.size + 1 + t.size + 1 + x.size + 2 + y.size) + 3 ≤ 9223372036854775807) = True := eq_true (by omega)
    have b1 : (3 + (v.size + 1 + t.size) ≤ 9223372036854775807) = True := eq_true (by omega)
    have b2 : (3 + (v.size + 1 + t.size) + 2 ≤ 9223372036854775807) = True := eq_true (by omega)
    have b3 : (2 + (v.size + 1 + t.size) ≤ 9223372036854775807) = True := eq_true (by omega)
    have b4 : (2 + (v.size + 1 + t.size) + 3 ≤ 9223372036854775807) = True := eq_true (by omega)
    simp only [Bool.false_eq_true, ↓reduceIte]
    cases mn with
    | true =>
      have i1 := i1 rfl
      have i2 := i2 rfl
      cases bk
      all_goals simp only [Bool.false_eq_true, ↓reduceIte]
      all_goals
        refine pure_of_awp Tryz.func24 rfl rfl (by simp [Tryz.f24]) ?_; simp only [go_sem, ↓reduceIte, Nat.reduceEqDiff, Nat.reduceAdd, Nat.reduceLeDiff, Nat.reduceBEq, Nat.reduceMul, reduceCtorEq, Int.reduceLE, Int.reduceLT, Int.reduceAdd, Int.reduceSub, Int.reduceNeg, Int.reduceToNat, Int.reduceBEq]
        repeat' (first | refine awp_seq ?_ | refine awp_block ?_ | refine awp_round ?_ | refine awp_scope ?_ | refine awp_text rfl ?_ | refine awp_any rfl mix (by kernel_rfl) ?_ | (refine RunTo.unguard rfl rfl (fun hg => ?_) (fun hg => ?_) <;> ((try simp only [Bool.not_true, Bool.not_false, Bool.not_eq_true', Bool.not_eq_false', Bool.not_eq_eq_eq_not] at hg); (first | (cases hg) | (simp only [hg]) | skip))) | ((first | refine RunTo.plain rfl ?_ | refine RunTo.skipped rfl ?_ | refine RunTo.call (i1) Tryz.func28 rfl rfl rfl rfl rfl rfl rfl rfl ?_ | refine RunTo.call (i2) Tryz.func28 rfl rfl rfl rfl rfl rfl rfl rfl ?_); simp only [go_sem, ↓reduceIte, Nat.reduceEqDiff, Nat.reduceAdd, Nat.reduceLeDiff, Nat.reduceBEq, Nat.reduceMul, reduceCtorEq, Int.reduceLE, Int.reduceLT, Int.reduceAdd, Int.reduceSub, Int.reduceNeg, Int.reduceToNat, Int.reduceBEq, HopD.av, bne, he', z1, z2, z3, z4, z5, z6, a1, a2, a3, a4, b1, b2, b3, b4, Bool.not_true, Bool.not_false, ByteArray.size_append, List.size_toArray]) | ((first | refine RunTo.nilA (by kernel_rfl) ?_ | refine RunTo.nilT ?_ | refine awp_skip ?_ | refine awp_exit ?_ | refine awp_label ?_); simp only [go_sem, ↓reduceIte, Nat.reduceEqDiff, Nat.reduceAdd, Nat.reduceLeDiff, Nat.reduceBEq, Nat.reduceMul, reduceCtorEq, Int.reduceLE, Int.reduceLT, Int.reduceAdd, Int.reduceSub, Int.reduceNeg, Int.reduceToNat, Int.reduceBEq, HopD.av, bne, he', z1, z2, z3, z4, z5, z6, a1, a2, a3, a4, b1, b2, b3, b4, Bool.not_true, Bool.not_false, ByteArray.size_append, List.size_toArray]) | (refine awp_cond' rfl (of_decide_eq_true rfl) (fun hc => ?_) (fun hc => ?_) <;> ((try simp only [Bool.not_true, Bool.not_false, Bool.not_eq_true', Bool.not_eq_false', Bool.not_eq_eq_eq_not] at hc); (first | (cases hc) | (simp only [hc]) | skip))))
        all_goals (first | refine awp_ret ?_ | skip); refine ⟨(by first | exact .inl rfl | exact .inr rfl | exact .inr trivial | trivial), ?_⟩; simp only [go_sem, ↓reduceIte, Nat.reduceEqDiff, Nat.reduceAdd, Nat.reduceLeDiff, Nat.reduceBEq, Nat.reduceMul, reduceCtorEq, Int.reduceLE, Int.reduceLT, Int.reduceAdd, Int.reduceSub, Int.reduceNeg, Int.reduceToNat, Int.reduceBEq, retV, resL, resV, sealV, sealC, sealAll, Tryz.f24]
        all_goals rfl
    | false =>
      cases bk
      all_goals simp only [Bool.false_eq_true, ↓reduceIte]
      all_goals
        refine pure_of_awp Tryz.func24 rfl rfl (by simp [Tryz.f24]) ?_; simp only [go_sem, ↓reduceIte, Nat.reduceEqDiff, Nat.reduceAdd, Nat.reduceLeDiff, Nat.reduceBEq, Nat.reduceMul, reduceCtorEq, Int.reduceLE, Int.reduceLT, Int.reduceAdd, Int.reduceSub, Int.reduceNeg, Int.reduceToNat, Int.reduceBEq]
        repeat' (first | refine awp_seq ?_ | refine awp_block ?_ | refine awp_round ?_ | refine awp_scope ?_ | refine awp_text rfl ?_ | refine awp_any rfl mix (by kernel_rfl) ?_ | (refine RunTo.unguard rfl rfl (fun hg => ?_) (fun hg => ?_) <;> ((try simp only [Bool.not_true, Bool.not_false, Bool.not_eq_true', Bool.not_eq_false', Bool.not_eq_eq_eq_not] at hg); (first | (cases hg) | (simp only [hg]) | skip))) | ((first | refine RunTo.plain rfl ?_ | refine RunTo.skipped rfl ?_); simp only [go_sem, ↓reduceIte, Nat.reduceEqDiff, Nat.reduceAdd, Nat.reduceLeDiff, Nat.reduceBEq, Nat.reduceMul, reduceCtorEq, Int.reduceLE, Int.reduceLT, Int.reduceAdd, Int.reduceSub, Int.reduceNeg, Int.reduceToNat, Int.reduceBEq, HopD.av, bne, he', z1, z2, z3, z4, z5, z6, a1, a2, a3, a4, b1, b2, b3, b4, Bool.not_true, Bool.not_false, ByteArray.size_append, List.size_toArray]) | ((first | refine RunTo.nilA (by kernel_rfl) ?_ | refine RunTo.nilT ?_ | refine awp_skip ?_ | refine awp_exit ?_ | refine awp_label ?_); simp only [go_sem, ↓reduceIte, Nat.reduceEqDiff, Nat.reduceAdd, Nat.reduceLeDiff, Nat.reduceBEq, Nat.reduceMul, reduceCtorEq, Int.reduceLE, Int.reduceLT, Int.reduceAdd, Int.reduceSub, Int.reduceNeg, Int.reduceToNat, Int.reduceBEq, HopD.av, bne, he', z1, z2, z3, z4, z5, z6, a1, a2, a3, a4, b1, b2, b3, b4, Bool.not_true, Bool.not_false, ByteArray.size_append, List.size_toArray]) | (refine awp_cond' rfl (of_decide_eq_true rfl) (fun hc => ?_) (fun hc => ?_) <;> ((try simp only [Bool.not_true, Bool.not_false, Bool.not_eq_true', Bool.not_eq_false', Bool.not_eq_eq_eq_not] at hc); (first | (cases hc) | (simp only [hc]) | skip))))
        all_goals (first | refine awp_ret ?_ | skip); refine ⟨(by first | exact .inl rfl | exact .inr rfl | exact .inr trivial | trivial), ?_⟩; simp only [go_sem, ↓reduceIte, Nat.reduceEqDiff, Nat.reduceAdd, Nat.reduceLeDiff, Nat.reduceBEq, Nat.reduceMul, reduceCtorEq, Int.reduceLE, Int.reduceLT, Int.reduceAdd, Int.reduceSub, Int.reduceNeg, Int.reduceToNat, Int.reduceBEq, retV, resL, resV, sealV, sealC, sealAll, Tryz.f24]
        all_goals rfl
end Go.Proofs.YtinpnidokpjfhaaGreatDoor.AM
namespace Go.Proofs.YtinpnidokpjfhaaGreatDoor.AM
open Go.RowKit
set_option linter.unusedSimpArgs false
set_option linter.unusedVariables false
set_option maxRecDepth 10000
set_option maxHeartbeats 0
structure FlQ (q : QueryD) : Prop where
  spots : ∀ s ∈ q.spots, ∀ p ∈ s.props, flV p.v
  wh : ∀ t ∈ q.wh, flV t.v
  items : ∀ x ∈ q.items, ∀ t ∈ x.terms, flV t.v
def spB (q : QueryD) (i : Nat) : Bool := atB rightS q.spots i && (!decide (0 < i) || atB rightH q.hops (i - 1))
theorem spB_all (q : QueryD) (h : (q.hops.length : Int) = (q.spots.length : Int) - 1) : (List.range q.spots.length).all (spB q) = (q.spots.all rightS && q.hops.all rightH) := by
  rw [← atB_all rightS, ← atB_all rightH, Bool.eq_iff_iff, Bool.and_eq_true, List.all_eq_true, List.all_eq_true, List.all_eq_true]
  constructor
  · intro g
    refine ⟨fun i hi => ?_, fun i hi => ?_⟩
    · have := g i hi
      unfold spB at this
      rw [Bool.and_eq_true] at this
      exact this.1
    · have hi := List.mem_range.1 hi
      have := g (i + 1) (List.mem_range.2 (by omega))
      unfold spB at this
      rw [decide_eq_true (by omega : 0 < i + 1), Bool.not_true, Bool.false_or, Bool.and_eq_true, Nat.add_sub_cancel] at this
      exact this.2
  · rintro ⟨g1, g2⟩ i hi
    unfold spB
    rw [g1 i hi, Bool.true_and]
    have hi := List.mem_range.1 hi
    by_cases h0 : 0 < i
    · rw [g2 (i - 1) (List.mem_range.2 (by omega)), Bool.or_true]
    · rw [decide_eq_false h0]; rfl
abbrev SDi (q : QueryD) (t : Nat) (k T : Nat) : St := ⟨[(t, iv k), (1, .ptr 1 0 0 0)], [(1, .box 0 (cellsQ q))], T⟩
def IDi (q : QueryD) (t : Nat) (l : Nat) (g : Nat → Bool) (n : Nat) (st : St) : Prop := ∃ k T, k ≤ l ∧ n = l - k ∧ (List.range k).all g = true ∧ st = SDi q t k T
abbrev SDj (q : QueryD) (T : Nat) : St := ⟨[(1, .ptr 1 0 0 0)], [(1, .box 0 (cellsQ q))], T⟩
theorem hideI4 {P : Program} {nt : Nt} {Q : Exit → St → Prop} {st : St} {A B C D R : Code} (I : Prop) (S : Nat → St) (tail : I → ∀ T, AWP P nt R Q (S T))
    (rest : ∀ R', (I → ∀ T, AWP P nt R' Q (S T)) → AWP P nt (.seq A (.seq B (.seq C (.seq D R')))) Q st) : AWP P nt (.seq A (.seq B (.seq C (.seq D R)))) Q st := rest R tail
theorem c_rFine (q : QueryD) (hq : SmallQ q) (hf : FlQ q) : Pure Tryz.prog 15 [q.av] (bv (fineQ q)) := by
  have hsp := hq.spots.1
  have hho := hq.hops.1
  have hit := hq.items.1
  have hso := hq.sorts
  have wd : IntKind.i64.wrap ((q.spots.length : Int) - 1) = (q.spots.length : Int) - 1 := IntWalk.i64_in _ (by omega)
  have w1 := c_rIn q.spots.length 1 9
  have w2 := c_rIn q.items.length 1 16
  have w3 := c_rIn q.skip (-1) 4096
  have w4 := c_rIn q.limit (-1) 4096
  have hw := c_rTerms q.wh hq.wh.1 (fun t ht => ⟨hq.wh.2 t ht, hf.wh t ht⟩)
  obtain ⟨F, hF⟩ : ∃ F, F = fineQ q := ⟨_, rfl⟩
  have hF' := hF
  unfold fineQ at hF'
  rw [← hF]
  cases b1 : (decide (1 ≤ (q.spots.length : Int)) && decide ((q.spots.length : Int) ≤ 9)) with
  | false =>
    rw [b1] at w1 hF'
    simp only [Bool.false_and] at hF'
    rw [hF']
    refine pure_of_awp Tryz.func15 rfl rfl (by simp [Tryz.f15]) ?_; simp only [go_sem, ↓reduceIte, Nat.reduceEqDiff, Nat.reduceAdd, Nat.reduceLeDiff, Nat.reduceBEq, Nat.reduceMul, reduceCtorEq, Int.reduceLE, Int.reduceLT, Int.reduceAdd, Int.reduceSub, Int.reduceNeg, Int.reduceToNat, Int.reduceBEq]
    repeat' (first | refine awp_seq ?_ | refine awp_block ?_ | refine awp_round ?_ | refine awp_scope ?_ | refine awp_text rfl ?_ | refine awp_any rfl mix (by kernel_rfl) ?_ | (refine RunTo.unguard rfl rfl (fun hg => ?_) (fun hg => ?_) <;> ((try simp only [Bool.not_true, Bool.not_false, Bool.not_eq_true', Bool.not_eq_false', Bool.not_eq_eq_eq_not] at hg); (first | (cases hg) | (simp only [hg]) | skip))) | ((first | refine RunTo.plain rfl ?_ | refine RunTo.skipped rfl ?_ | refine RunTo.call (w1) Tryz.func41 rfl rfl rfl rfl rfl rfl rfl rfl ?_); simp only [go_sem, ↓reduceIte, Nat.reduceEqDiff, Nat.reduceAdd, Nat.reduceLeDiff, Nat.reduceBEq, Nat.reduceMul, reduceCtorEq, Int.reduceLE, Int.reduceLT, Int.reduceAdd, Int.reduceSub, Int.reduceNeg, Int.reduceToNat, Int.reduceBEq, QueryD.av, List.length_map]) | ((first | refine RunTo.nilA (by kernel_rfl) ?_ | refine RunTo.nilT ?_ | refine awp_skip ?_ | refine awp_exit ?_ | refine awp_label ?_); simp only [go_sem, ↓reduceIte, Nat.reduceEqDiff, Nat.reduceAdd, Nat.reduceLeDiff, Nat.reduceBEq, Nat.reduceMul, reduceCtorEq, Int.reduceLE, Int.reduceLT, Int.reduceAdd, Int.reduceSub, Int.reduceNeg, Int.reduceToNat, Int.reduceBEq, QueryD.av, List.length_map]) | (refine awp_cond' rfl (of_decide_eq_true rfl) (fun hc => ?_) (fun hc => ?_) <;> ((try simp only [Bool.not_true, Bool.not_false, Bool.not_eq_true', Bool.not_eq_false', Bool.not_eq_eq_eq_not] at hc); (first | (cases hc) | (simp only [hc]) | skip))))
    all_goals (first | refine awp_ret ?_ | skip); refine ⟨(by first | exact .inl rfl | exact .inr rfl | exact .inr trivial | trivial), ?_⟩; simp only [go_sem, ↓reduceIte, Nat.reduceEqDiff, Nat.reduceAdd, Nat.reduceLeDiff, Nat.reduceBEq, Nat.reduceMul, reduceCtorEq, Int.reduceLE, Int.reduceLT, Int.reduceAdd, Int.reduceSub, Int.reduceNeg, Int.reduceToNat, Int.reduceBEq, retV, resL, resV, sealV, sealC, sealAll, Tryz.f15]
    all_goals rfl
  | true =>
  cases b2 : ((q.hops.length : Int) == (q.spots.length : Int) - 1) with
  | false =>
    rw [b1] at w1 hF'
    rw [b2] at hF'
    simp only [Bool.false_and, Bool.true_and] at hF'
    rw [hF']
    refine pure_of_awp Tryz.func15 rfl rfl (by simp [Tryz.f15]) ?_; simp only [go_sem, ↓reduceIte, Nat.reduceEqDiff, Nat.reduceAdd, Nat.reduceLeDiff, Nat.reduceBEq, Nat.reduceMul, reduceCtorEq, Int.reduceLE, Int.reduceLT, Int.reduceAdd, Int.reduceSub, Int.reduceNeg, Int.reduceToNat, Int.reduceBEq]
    repeat' (first | refine awp_seq ?_ | refine awp_block ?_ | refine awp_round ?_ | refine awp_scope ?_ | refine awp_text rfl ?_ | refine awp_any rfl mix (by kernel_rfl) ?_ | (refine RunTo.unguard rfl rfl (fun hg => ?_) (fun hg => ?_) <;> ((try simp only [Bool.not_true, Bool.not_false, Bool.not_eq_true', Bool.not_eq_false', Bool.not_eq_eq_eq_not] at hg); (first | (cases hg) | (simp only [hg]) | skip))) | ((first | refine RunTo.plain rfl ?_ | refine RunTo.skipped rfl ?_ | refine RunTo.call (w1) Tryz.func41 rfl rfl rfl rfl rfl rfl rfl rfl ?_); simp only [go_sem, ↓reduceIte, Nat.reduceEqDiff, Nat.reduceAdd, Nat.reduceLeDiff, Nat.reduceBEq, Nat.reduceMul, reduceCtorEq, Int.reduceLE, Int.reduceLT, Int.reduceAdd, Int.reduceSub, Int.reduceNeg, Int.reduceToNat, Int.reduceBEq, QueryD.av, List.length_map, bne, wd, b2, Bool.not_false, Bool.not_true]) | ((first | refine RunTo.nilA (by kernel_rfl) ?_ | refine RunTo.nilT ?_ | refine awp_skip ?_ | refine awp_exit ?_ | refine awp_label ?_); simp only [go_sem, ↓reduceIte, Nat.reduceEqDiff, Nat.reduceAdd, Nat.reduceLeDiff, Nat.reduceBEq, Nat.reduceMul, reduceCtorEq, Int.reduceLE, Int.reduceLT, Int.reduceAdd, Int.reduceSub, Int.reduceNeg, Int.reduceToNat, Int.reduceBEq, QueryD.av, List.length_map, bne, wd, b2, Bool.not_false, Bool.not_true]) | (refine awp_cond' rfl (of_decide_eq_true rfl) (fun hc => ?_) (fun hc => ?_) <;> ((try simp only [Bool.not_true, Bool.not_false, Bool.not_eq_true', Bool.not_eq_false', Bool.not_eq_eq_eq_not] at hc); (first | (cases hc) | (simp only [hc]) | skip))))
    all_goals (first | refine awp_ret ?_ | skip); refine ⟨(by first | exact .inl rfl | exact .inr rfl | exact .inr trivial | trivial), ?_⟩; simp only [go_sem, ↓reduceIte, Nat.reduceEqDiff, Nat.reduceAdd, Nat.reduceLeDiff, Nat.reduceBEq, Nat.reduceMul, reduceCtorEq, Int.reduceLE, Int.reduceLT, Int.reduceAdd, Int.reduceSub, Int.reduceNeg, Int.reduceToNat, Int.reduceBEq, retV, resL, resV, sealV, sealC, sealAll, Tryz.f15]
    all_goals rfl
  | true =>
  cases b3 : (decide (1 ≤ (q.items.length : Int)) && decide ((q.items.length : Int) ≤ 16)) with
  | false =>
    rw [b1] at w1 hF'
    rw [b3] at w2 hF'
    rw [b2] at hF'
    simp only [Bool.false_and, Bool.true_and] at hF'
    rw [hF']
    refine pure_of_awp Tryz.func15 rfl rfl (by simp [Tryz.f15]) ?_; simp only [go_sem, ↓reduceIte, Nat.reduceEqDiff, Nat.reduceAdd, Nat.reduceLeDiff, Nat.reduceBEq, Nat.reduceMul, reduceCtorEq, Int.reduceLE, Int.reduceLT, Int.reduceAdd, Int.reduceSub, Int.reduceNeg, Int.reduceToNat, Int.reduceBEq]
    repeat' (first | refine awp_seq ?_ | refine awp_block ?_ | refine awp_round ?_ | refine awp_scope ?_ | refine awp_text rfl ?_ | refine awp_any rfl mix (by kernel_rfl) ?_ | (refine RunTo.unguard rfl rfl (fun hg => ?_) (fun hg => ?_) <;> ((try simp only [Bool.not_true, Bool.not_false, Bool.not_eq_true', Bool.not_eq_false', Bool.not_eq_eq_eq_not] at hg); (first | (cases hg) | (simp only [hg]) | skip))) | ((first | refine RunTo.plain rfl ?_ | refine RunTo.skipped rfl ?_ | refine RunTo.call (w1) Tryz.func41 rfl rfl rfl rfl rfl rfl rfl rfl ?_ | refine RunTo.call (w2) Tryz.func41 rfl rfl rfl rfl rfl rfl rfl rfl ?_); simp only [go_sem, ↓reduceIte, Nat.reduceEqDiff, Nat.reduceAdd, Nat.reduceLeDiff, Nat.reduceBEq, Nat.reduceMul, reduceCtorEq, Int.reduceLE, Int.reduceLT, Int.reduceAdd, Int.reduceSub, Int.reduceNeg, Int.reduceToNat, Int.reduceBEq, QueryD.av, List.length_map, bne, wd, b2, Bool.not_false, Bool.not_true]) | ((first | refine RunTo.nilA (by kernel_rfl) ?_ | refine RunTo.nilT ?_ | refine awp_skip ?_ | refine awp_exit ?_ | refine awp_label ?_); simp only [go_sem, ↓reduceIte, Nat.reduceEqDiff, Nat.reduceAdd, Nat.reduceLeDiff, Nat.reduceBEq, Nat.reduceMul, reduceCtorEq, Int.reduceLE, Int.reduceLT, Int.reduceAdd, Int.reduceSub, Int.reduceNeg, Int.reduceToNat, Int.reduceBEq, QueryD.av, List.length_map, bne, wd, b2, Bool.not_false, Bool.not_true]) | (refine awp_cond' rfl (of_decide_eq_true rfl) (fun hc => ?_) (fun hc => ?_) <;> ((try simp only [Bool.not_true, Bool.not_false, Bool.not_eq_true', Bool.not_eq_false', Bool.not_eq_eq_eq_not] at hc); (first | (cases hc) | (simp only [hc]) | skip))))
    all_goals (first | refine awp_ret ?_ | skip); refine ⟨(by first | exact .inl rfl | exact .inr rfl | exact .inr trivial | trivial), ?_⟩; simp only [go_sem, ↓reduceIte, Nat.reduceEqDiff, Nat.reduceAdd, Nat.reduceLeDiff, Nat.reduceBEq, Nat.reduceMul, reduceCtorEq, Int.reduceLE, Int.reduceLT, Int.reduceAdd, Int.reduceSub, Int.reduceNeg, Int.reduceToNat, Int.reduceBEq, retV, resL, resV, sealV, sealC, sealAll, Tryz.f15]
    all_goals rfl
  | true =>
  by_cases h4 : (q.sorts.length : Int) ≤ 16
  case neg =>
    have b4 : decide ((q.sorts.length : Int) ≤ 16) = false := decide_eq_false h4
    have b4' : decide ((16 : Int) < (q.sorts.length : Int)) = true := decide_eq_true (by omega)
    rw [b1] at w1 hF'
    rw [b3] at w2 hF'
    rw [b2, b4] at hF'
    simp only [Bool.false_and, Bool.true_and, Bool.and_false] at hF'
    rw [hF']
    refine pure_of_awp Tryz.func15 rfl rfl (by simp [Tryz.f15]) ?_; simp only [go_sem, ↓reduceIte, Nat.reduceEqDiff, Nat.reduceAdd, Nat.reduceLeDiff, Nat.reduceBEq, Nat.reduceMul, reduceCtorEq, Int.reduceLE, Int.reduceLT, Int.reduceAdd, Int.reduceSub, Int.reduceNeg, Int.reduceToNat, Int.reduceBEq]
    repeat' (first | refine awp_seq ?_ | refine awp_block ?_ | refine awp_round ?_ | refine awp_scope ?_ | refine awp_text rfl ?_ | refine awp_any rfl mix (by kernel_rfl) ?_ | (refine RunTo.unguard rfl rfl (fun hg => ?_) (fun hg => ?_) <;> ((try simp only [Bool.not_true, Bool.not_false, Bool.not_eq_true', Bool.not_eq_false', Bool.not_eq_eq_eq_not] at hg); (first | (cases hg) | (simp only [hg]) | skip))) | ((first | refine RunTo.plain rfl ?_ | refine RunTo.skipped rfl ?_ | refine RunTo.call (w1) Tryz.func41 rfl rfl rfl rfl rfl rfl rfl rfl ?_ | refine RunTo.call (w2) Tryz.func41 rfl rfl rfl rfl rfl rfl rfl rfl ?_); simp only [go_sem, ↓reduceIte, Nat.reduceEqDiff, Nat.reduceAdd, Nat.reduceLeDiff, Nat.reduceBEq, Nat.reduceMul, reduceCtorEq, Int.reduceLE, Int.reduceLT, Int.reduceAdd, Int.reduceSub, Int.reduceNeg, Int.reduceToNat, Int.reduceBEq, QueryD.av, List.length_map, bne, wd, b2, b4', Bool.not_false, Bool.not_true]) | ((first | refine RunTo.nilA (by kernel_rfl) ?_ | refine RunTo.nilT ?_ | refine awp_skip ?_ | refine awp_exit ?_ | refine awp_label ?_); simp only [go_sem, ↓reduceIte, Nat.reduceEqDiff, Nat.reduceAdd, Nat.reduceLeDiff, Nat.reduceBEq, Nat.reduceMul, reduceCtorEq, Int.reduceLE, Int.reduceLT, Int.reduceAdd, Int.reduceSub, Int.reduceNeg, Int.reduceToNat, Int.reduceBEq, QueryD.av, List.length_map, bne, wd, b2, b4', Bool.not_false, Bool.not_true]) | (refine awp_cond' rfl (of_decide_eq_true rfl) (fun hc => ?_) (fun hc => ?_) <;> ((try simp only [Bool.not_true, Bool.not_false, Bool.not_eq_true', Bool.not_eq_false', Bool.not_eq_eq_eq_not] at hc); (first | (cases hc) | (simp only [hc]) | skip))))
    all_goals (first | refine awp_ret ?_ | skip); refine ⟨(by first | exact .inl rfl | exact .inr rfl | exact .inr trivial | trivial), ?_⟩; simp only [go_sem, ↓reduceIte, Nat.reduceEqDiff, Nat.reduceAdd, Nat.reduceLeDiff, Nat.reduceBEq, Nat.reduceMul, reduceCtorEq, Int.reduceLE, Int.reduceLT, Int.reduceAdd, Int.reduceSub, Int.reduceNeg, Int.reduceToNat, Int.reduceBEq, retV, resL, resV, sealV, sealC, sealAll, Tryz.f15]
    all_goals rfl
  have b4 : decide ((q.sorts.length : Int) ≤ 16) = true := decide_eq_true h4
  have b4' : decide ((16 : Int) < (q.sorts.length : Int)) = false := decide_eq_false (by omega)
  rw [b1] at w1 hF'
  rw [b3] at w2 hF'
  rw [b2, b4] at hF'
  simp only [Bool.true_and] at hF'
  cases b5 : (decide (-1 ≤ q.skip) && decide (q.skip ≤ 4096)) with
  | false =>
    rw [b5] at w3 hF'
    simp only [Bool.false_and] at hF'
    rw [hF']
    refine pure_of_awp Tryz.func15 rfl rfl (by simp [Tryz.f15]) ?_; simp only [go_sem, ↓reduceIte, Nat.reduceEqDiff, Nat.reduceAdd, Nat.reduceLeDiff, Nat.reduceBEq, Nat.reduceMul, reduceCtorEq, Int.reduceLE, Int.reduceLT, Int.reduceAdd, Int.reduceSub, Int.reduceNeg, Int.reduceToNat, Int.reduceBEq]
    repeat' (first | refine awp_seq ?_ | refine awp_block ?_ | refine awp_round ?_ | refine awp_scope ?_ | refine awp_text rfl ?_ | refine awp_any rfl mix (by kernel_rfl) ?_ | (refine RunTo.unguard rfl rfl (fun hg => ?_) (fun hg => ?_) <;> ((try simp only [Bool.not_true, Bool.not_false, Bool.not_eq_true', Bool.not_eq_false', Bool.not_eq_eq_eq_not] at hg); (first | (cases hg) | (simp only [hg]) | skip))) | ((first | refine RunTo.plain rfl ?_ | refine RunTo.skipped rfl ?_ | refine RunTo.call (w1) Tryz.func41 rfl rfl rfl rfl rfl rfl rfl rfl ?_ | refine RunTo.call (w2) Tryz.func41 rfl rfl rfl rfl rfl rfl rfl rfl ?_ | refine RunTo.call (w3) Tryz.func41 rfl rfl rfl rfl rfl rfl rfl rfl ?_); simp only [go_sem, ↓reduceIte, Nat.reduceEqDiff, Nat.reduceAdd, Nat.reduceLeDiff, Nat.reduceBEq, Nat.reduceMul, reduceCtorEq, Int.reduceLE, Int.reduceLT, Int.reduceAdd, Int.reduceSub, Int.reduceNeg, Int.reduceToNat, Int.reduceBEq, QueryD.av, List.length_map, bne, wd, b2, b4', Bool.not_false, Bool.not_true]) | ((first | refine RunTo.nilA (by kernel_rfl) ?_ | refine RunTo.nilT ?_ | refine awp_skip ?_ | refine awp_exit ?_ | refine awp_label ?_); simp only [go_sem, ↓reduceIte, Nat.reduceEqDiff, Nat.reduceAdd, Nat.reduceLeDiff, Nat.reduceBEq, Nat.reduceMul, reduceCtorEq, Int.reduceLE, Int.reduceLT, Int.reduceAdd, Int.reduceSub, Int.reduceNeg, Int.reduceToNat, Int.reduceBEq, QueryD.av, List.length_map, bne, wd, b2, b4', Bool.not_false, Bool.not_true]) | (refine awp_cond' rfl (of_decide_eq_true rfl) (fun hc => ?_) (fun hc => ?_) <;> ((try simp only [Bool.not_true, Bool.not_false, Bool.not_eq_true', Bool.not_eq_false', Bool.not_eq_eq_eq_not] at hc); (first | (cases hc) | (simp only [hc]) | skip))))
    all_goals (first | refine awp_ret ?_ | skip); refine ⟨(by first | exact .inl rfl | exact .inr rfl | exact .inr trivial | trivial), ?_⟩; simp only [go_sem, ↓reduceIte, Nat.reduceEqDiff, Nat.reduceAdd, Nat.reduceLeDiff, Nat.reduceBEq, Nat.reduceMul, reduceCtorEq, Int.reduceLE, Int.reduceLT, Int.reduceAdd, Int.reduceSub, Int.reduceNeg, Int.reduceToNat, Int.reduceBEq, retV, resL, resV, sealV, sealC, sealAll, Tryz.f15]
    all_goals rfl
  | true =>
  rw [b5] at w3 hF'
  simp only [Bool.true_and] at hF'
  cases b6 : (decide (-1 ≤ q.limit) && decide (q.limit ≤ 4096)) with
  | false =>
    rw [b6] at w4 hF'
    simp only [Bool.false_and] at hF'
    rw [hF']
    refine pure_of_awp Tryz.func15 rfl rfl (by simp [Tryz.f15]) ?_; simp only [go_sem, ↓reduceIte, Nat.reduceEqDiff, Nat.reduceAdd, Nat.reduceLeDiff, Nat.reduceBEq, Nat.reduceMul, reduceCtorEq, Int.reduceLE, Int.reduceLT, Int.reduceAdd, Int.reduceSub, Int.reduceNeg, Int.reduceToNat, Int.reduceBEq]
    repeat' (first | refine awp_seq ?_ | refine awp_block ?_ | refine awp_round ?_ | refine awp_scope ?_ | refine awp_text rfl ?_ | refine awp_any rfl mix (by kernel_rfl) ?_ | (refine RunTo.unguard rfl rfl (fun hg => ?_) (fun hg => ?_) <;> ((try simp only [Bool.not_true, Bool.not_false, Bool.not_eq_true', Bool.not_eq_false', Bool.not_eq_eq_eq_not] at hg); (first | (cases hg) | (simp only [hg]) | skip))) | ((first | refine RunTo.plain rfl ?_ | refine RunTo.skipped rfl ?_ | refine RunTo.call (w1) Tryz.func41 rfl rfl rfl rfl rfl rfl rfl rfl ?_ | refine RunTo.call (w2) Tryz.func41 rfl rfl rfl rfl rfl rfl rfl rfl ?_ | refine RunTo.call (w3) Tryz.func41 rfl rfl rfl rfl rfl rfl rfl rfl ?_ | refine RunTo.call (w4) Tryz.func41 rfl rfl rfl rfl rfl rfl rfl rfl ?_); simp only [go_sem, ↓reduceIte, Nat.reduceEqDiff, Nat.reduceAdd, Nat.reduceLeDiff, Nat.reduceBEq, Nat.reduceMul, reduceCtorEq, Int.reduceLE, Int.reduceLT, Int.reduceAdd, Int.reduceSub, Int.reduceNeg, Int.reduceToNat, Int.reduceBEq, QueryD.av, List.length_map, bne, wd, b2, b4', Bool.not_false, Bool.not_true]) | ((first | refine RunTo.nilA (by kernel_rfl) ?_ | refine RunTo.nilT ?_ | refine awp_skip ?_ | refine awp_exit ?_ | refine awp_label ?_); simp only [go_sem, ↓reduceIte, Nat.reduceEqDiff, Nat.reduceAdd, Nat.reduceLeDiff, Nat.reduceBEq, Nat.reduceMul, reduceCtorEq, Int.reduceLE, Int.reduceLT, Int.reduceAdd, Int.reduceSub, Int.reduceNeg, Int.reduceToNat, Int.reduceBEq, QueryD.av, List.length_map, bne, wd, b2, b4', Bool.not_false, Bool.not_true]) | (refine awp_cond' rfl (of_decide_eq_true rfl) (fun hc => ?_) (fun hc => ?_) <;> ((try simp only [Bool.not_true, Bool.not_false, Bool.not_eq_true', Bool.not_eq_false', Bool.not_eq_eq_eq_not] at hc); (first | (cases hc) | (simp only [hc]) | skip))))
    all_goals (first | refine awp_ret ?_ | skip); refine ⟨(by first | exact .inl rfl | exact .inr rfl | exact .inr trivial | trivial), ?_⟩; simp only [go_sem, ↓reduceIte, Nat.reduceEqDiff, Nat.reduceAdd, Nat.reduceLeDiff, Nat.reduceBEq, Nat.reduceMul, reduceCtorEq, Int.reduceLE, Int.reduceLT, Int.reduceAdd, Int.reduceSub, Int.reduceNeg, Int.reduceToNat, Int.reduceBEq, retV, resL, resV, sealV, sealC, sealAll, Tryz.f15]
    all_goals rfl
  | true =>
  rw [b6] at w4 hF'
  rw [Bool.true_and, ← spB_all q (beq_iff_eq.1 b2)] at hF'
  refine pure_of_awp Tryz.func15 rfl rfl (by simp [Tryz.f15]) ?_; simp only [go_sem, ↓reduceIte, Nat.reduceEqDiff, Nat.reduceAdd, Nat.reduceLeDiff, Nat.reduceBEq, Nat.reduceMul, reduceCtorEq, Int.reduceLE, Int.reduceLT, Int.reduceAdd, Int.reduceSub, Int.reduceNeg, Int.reduceToNat, Int.reduceBEq]
  refine hideI4 (F = (q.items.all rightI && q.sorts.all (rightO q.items.length))) (fun T => SDj q T) ?_ ?_
  · intro hF3 T
    rw [← atB_all rightI, ← atB_all (rightO q.items.length)] at hF3
    clear hF hF' w1 w2 w3 w4 wd hw b1 b2 b3 b4 b4' b5 b6
    repeat' (first | refine awp_seq ?_ | refine awp_block ?_ | refine awp_round ?_ | refine awp_scope ?_ | refine awp_text rfl ?_ | refine awp_any rfl mix (by kernel_rfl) ?_ | (refine RunTo.unguard rfl rfl (fun hg => ?_) (fun hg => ?_) <;> ((try simp only [Bool.not_true, Bool.not_false, Bool.not_eq_true', Bool.not_eq_false', Bool.not_eq_eq_eq_not] at hg); (first | (cases hg) | (simp only [hg]) | skip))) | ((first | refine RunTo.plain rfl ?_ | refine RunTo.skipped rfl ?_); simp only [go_sem, ↓reduceIte, Nat.reduceEqDiff, Nat.reduceAdd, Nat.reduceLeDiff, Nat.reduceBEq, Nat.reduceMul, reduceCtorEq, Int.reduceLE, Int.reduceLT, Int.reduceAdd, Int.reduceSub, Int.reduceNeg, Int.reduceToNat, Int.reduceBEq, List.length_map]) | ((first | refine RunTo.nilA (by kernel_rfl) ?_ | refine RunTo.nilT ?_ | refine awp_skip ?_ | refine awp_exit ?_ | refine awp_label ?_); simp only [go_sem, ↓reduceIte, Nat.reduceEqDiff, Nat.reduceAdd, Nat.reduceLeDiff, Nat.reduceBEq, Nat.reduceMul, reduceCtorEq, Int.reduceLE, Int.reduceLT, Int.reduceAdd, Int.reduceSub, Int.reduceNeg, Int.reduceToNat, Int.reduceBEq, List.length_map]) | (refine awp_cond' rfl (of_decide_eq_true rfl) (fun hc => ?_) (fun hc => ?_) <;> ((try simp only [Bool.not_true, Bool.not_false, Bool.not_eq_true', Bool.not_eq_false', Bool.not_eq_eq_eq_not] at hc); (first | (cases hc) | (simp only [hc]) | skip))))
    refine awp_loopw (IDi q 4 q.items.length (atB rightI q.items)) q.items.length (SDi q 4 0 _) (weak_keep ⟨rfl, rfl, trivial⟩ ⟨rfl, trivial⟩ (Nat.le_refl _)) ⟨0, _, Nat.zero_le _, rfl, rfl, rfl⟩ ?_
    rintro n st ⟨k, T, hk, rfl, hall, rfl⟩
    by_cases hlt : k < q.items.length
    · have hdec := lt_t hlt
      have hget := row_at ItemD.enc q.items k hlt
      have hwk : IntKind.i64.wrap ((k : Int) + 1) = ((k + 1 : Nat) : Int) := wrap_succ (by omega)
      have hsm := hq.items.2 _ (List.getElem_mem hlt)
      have hfx := hf.items _ (List.getElem_mem hlt)
      have hbk : atB rightI q.items k = rightI q.items[k] := atB_in _ _ _ hlt
      rw [show ItemD.enc q.items[k] = [di q.items[k].fn, .lst 8 (q.items[k].terms.map TermD.enc)] from rfl] at hget
      generalize q.items[k] = x at *
      have hin := c_rIn x.fn 0 4
      have ht := c_rTerms x.terms hsm.1 (fun t ht => ⟨hsm.2 t ht, hfx t ht⟩)
      rw [show rightI x = ((decide (0 ≤ x.fn) && decide (x.fn ≤ 4)) && (((x.fn == 1) && ((x.terms.length : Int) == 0)) || termsV x.terms)) from rfl] at hbk
      generalize (decide (0 ≤ x.fn) && decide (x.fn ≤ 4)) = c1 at *
      generalize e2 : (x.fn == 1) = c2 at *
      generalize e3 : ((x.terms.length : Int) == 0) = c3 at *
      generalize termsV x.terms = c4 at *
      cases hv : atB rightI q.items k with
      | false =>
        have hF2 : F = false := by rw [hF3, range_no hlt hv, Bool.false_and]
        rw [hF2]
        rw [hv] at hbk
        cases c1 <;> cases c2 <;> cases c3 <;> cases c4
        all_goals try (simp at hbk; done)
        all_goals
          repeat' (first | refine awp_seq ?_ | refine awp_block ?_ | refine awp_round ?_ | refine awp_scope ?_ | refine awp_text rfl ?_ | refine awp_any rfl mix (by kernel_rfl) ?_ | (refine RunTo.unguard rfl rfl (fun hg => ?_) (fun hg => ?_) <;> ((try simp only [Bool.not_true, Bool.not_false, Bool.not_eq_true', Bool.not_eq_false', Bool.not_eq_eq_eq_not] at hg); (first | (cases hg) | (simp only [hg]) | skip))) | ((first | refine RunTo.plain rfl ?_ | refine RunTo.skipped rfl ?_ | refine RunTo.call (hin) Tryz.func41 rfl rfl rfl rfl rfl rfl rfl rfl ?_ | refine RunTo.call (ht) Tryz.func44 rfl rfl rfl rfl rfl rfl rfl rfl ?_); simp only [go_sem, ↓reduceIte, Nat.reduceEqDiff, Nat.reduceAdd, Nat.reduceLeDiff, Nat.reduceBEq, Nat.reduceMul, reduceCtorEq, Int.reduceLE, Int.reduceLT, Int.reduceAdd, Int.reduceSub, Int.reduceNeg, Int.reduceToNat, Int.reduceBEq, hdec, hget, hwk, e2, e3, List.length_map, Bool.not_false, Bool.not_true]) | ((first | refine RunTo.nilA (by kernel_rfl) ?_ | refine RunTo.nilT ?_ | refine awp_skip ?_ | refine awp_exit ?_ | refine awp_label ?_); simp only [go_sem, ↓reduceIte, Nat.reduceEqDiff, Nat.reduceAdd, Nat.reduceLeDiff, Nat.reduceBEq, Nat.reduceMul, reduceCtorEq, Int.reduceLE, Int.reduceLT, Int.reduceAdd, Int.reduceSub, Int.reduceNeg, Int.reduceToNat, Int.reduceBEq, hdec, hget, hwk, e2, e3, List.length_map, Bool.not_false, Bool.not_true]) | (refine awp_cond' rfl (of_decide_eq_true rfl) (fun hc => ?_) (fun hc => ?_) <;> ((try simp only [Bool.not_true, Bool.not_false, Bool.not_eq_true', Bool.not_eq_false', Bool.not_eq_eq_eq_not] at hc); (first | (cases hc) | (simp only [hc]) | skip))))
          all_goals (first | refine awp_ret ?_ | skip); refine ⟨(by first | exact .inl rfl | exact .inr rfl | exact .inr trivial | trivial), ?_⟩; simp only [go_sem, ↓reduceIte, Nat.reduceEqDiff, Nat.reduceAdd, Nat.reduceLeDiff, Nat.reduceBEq, Nat.reduceMul, reduceCtorEq, Int.reduceLE, Int.reduceLT, Int.reduceAdd, Int.reduceSub, Int.reduceNeg, Int.reduceToNat, Int.reduceBEq, retV, resL, resV, sealV, sealC, sealAll, Tryz.f15]
          all_goals rfl
      | true =>
        rw [hv] at hbk
        cases c1 <;> cases c2 <;> cases c3 <;> cases c4
        all_goals try (simp at hbk; done)
        all_goals
          repeat' (first | refine awp_seq ?_ | refine awp_block ?_ | refine awp_round ?_ | refine awp_scope ?_ | refine awp_text rfl ?_ | refine awp_any rfl mix (by kernel_rfl) ?_ | (refine RunTo.unguard rfl rfl (fun hg => ?_) (fun hg => ?_) <;> ((try simp only [Bool.not_true, Bool.not_false, Bool.not_eq_true', Bool.not_eq_false', Bool.not_eq_eq_eq_not] at hg); (first | (cases hg) | (simp only [hg]) | skip))) | ((first | refine RunTo.plain rfl ?_ | refine RunTo.skipped rfl ?_ | refine RunTo.call (hin) Tryz.func41 rfl rfl rfl rfl rfl rfl rfl rfl ?_ | refine RunTo.call (ht) Tryz.func44 rfl rfl rfl rfl rfl rfl rfl rfl ?_); simp only [go_sem, ↓reduceIte, Nat.reduceEqDiff, Nat.reduceAdd, Nat.reduceLeDiff, Nat.reduceBEq, Nat.reduceMul, reduceCtorEq, Int.reduceLE, Int.reduceLT, Int.reduceAdd, Int.reduceSub, Int.reduceNeg, Int.reduceToNat, Int.reduceBEq, hdec, hget, hwk, e2, e3, List.length_map, Bool.not_false, Bool.not_true]) | ((first | refine RunTo.nilA (by kernel_rfl) ?_ | refine RunTo.nilT ?_ | refine awp_skip ?_ | refine awp_exit ?_ | refine awp_label ?_); simp only [go_sem, ↓reduceIte, Nat.reduceEqDiff, Nat.reduceAdd, Nat.reduceLeDiff, Nat.reduceBEq, Nat.reduceMul, reduceCtorEq, Int.reduceLE, Int.reduceLT, Int.reduceAdd, Int.reduceSub, Int.reduceNeg, Int.reduceToNat, Int.reduceBEq, hdec, hget, hwk, e2, e3, List.length_map, Bool.not_false, Bool.not_true]) | (refine awp_cond' rfl (of_decide_eq_true rfl) (fun hc => ?_) (fun hc => ?_) <;> ((try simp only [Bool.not_true, Bool.not_false, Bool.not_eq_true', Bool.not_eq_false', Bool.not_eq_eq_eq_not] at hc); (first | (cases hc) | (simp only [hc]) | skip))))
          all_goals exact ⟨q.items.length - (k + 1), by omega, SDi q 4 (k + 1) _, weak_keep ⟨rfl, rfl, trivial⟩ ⟨rfl, trivial⟩ (Nat.le_refl _), k + 1, _, by omega, rfl, range_up hall hv, rfl⟩
    have hdec := lt_f hlt
    obtain rfl : k = q.items.length := by omega
    rw [hall, Bool.true_and] at hF3
    clear hall hk hlt
    repeat' (first | refine awp_seq ?_ | refine awp_block ?_ | refine awp_round ?_ | refine awp_scope ?_ | refine awp_text rfl ?_ | refine awp_any rfl mix (by kernel_rfl) ?_ | (refine RunTo.unguard rfl rfl (fun hg => ?_) (fun hg => ?_) <;> ((try simp only [Bool.not_true, Bool.not_false, Bool.not_eq_true', Bool.not_eq_false', Bool.not_eq_eq_eq_not] at hg); (first | (cases hg) | (simp only [hg]) | skip))) | ((first | refine RunTo.plain rfl ?_ | refine RunTo.skipped rfl ?_); simp only [go_sem, ↓reduceIte, Nat.reduceEqDiff, Nat.reduceAdd, Nat.reduceLeDiff, Nat.reduceBEq, Nat.reduceMul, reduceCtorEq, Int.reduceLE, Int.reduceLT, Int.reduceAdd, Int.reduceSub, Int.reduceNeg, Int.reduceToNat, Int.reduceBEq, hdec, List.length_map]) | ((first | refine RunTo.nilA (by kernel_rfl) ?_ | refine RunTo.nilT ?_ | refine awp_skip ?_ | refine awp_exit ?_ | refine awp_label ?_); simp only [go_sem, ↓reduceIte, Nat.reduceEqDiff, Nat.reduceAdd, Nat.reduceLeDiff, Nat.reduceBEq, Nat.reduceMul, reduceCtorEq, Int.reduceLE, Int.reduceLT, Int.reduceAdd, Int.reduceSub, Int.reduceNeg, Int.reduceToNat, Int.reduceBEq, hdec, List.length_map]) | (refine awp_cond' rfl (of_decide_eq_true rfl) (fun hc => ?_) (fun hc => ?_) <;> ((try simp only [Bool.not_true, Bool.not_false, Bool.not_eq_true', Bool.not_eq_false', Bool.not_eq_eq_eq_not] at hc); (first | (cases hc) | (simp only [hc]) | skip))))
    refine awp_loopw (IDi q 6 q.sorts.length (atB (rightO q.items.length) q.sorts)) q.sorts.length (SDi q 6 0 _) (weak_keep ⟨rfl, rfl, trivial⟩ ⟨rfl, trivial⟩ (Nat.le_refl _)) ⟨0, _, Nat.zero_le _, rfl, rfl, rfl⟩ ?_
    clear hdec
    rintro n st ⟨k, T, hk, rfl, hall, rfl⟩
    by_cases hlt : k < q.sorts.length
    · have hdec := lt_t hlt
      have hget := row_at SortD.enc q.sorts k hlt
      have hwk : IntKind.i64.wrap ((k : Int) + 1) = ((k + 1 : Nat) : Int) := wrap_succ (by omega)
      have hbk : atB (rightO q.items.length) q.sorts k = rightO q.items.length q.sorts[k] := atB_in _ _ _ hlt
      rw [show SortD.enc q.sorts[k] = [di q.sorts[k].item, db q.sorts[k].desc] from rfl] at hget
      generalize q.sorts[k] = x at *
      have hin := c_rIn x.item 1 q.items.length
      rw [show rightO q.items.length x = (decide (1 ≤ x.item) && decide (x.item ≤ (q.items.length : Int))) from rfl] at hbk
      generalize (decide (1 ≤ x.item) && decide (x.item ≤ (q.items.length : Int))) = c1 at *
      cases c1 with
      | false =>
        have hF2 : F = false := by rw [hF3, range_no hlt hbk]
        rw [hF2]
        repeat' (first | refine awp_seq ?_ | refine awp_block ?_ | refine awp_round ?_ | refine awp_scope ?_ | refine awp_text rfl ?_ | refine awp_any rfl mix (by kernel_rfl) ?_ | (refine RunTo.unguard rfl rfl (fun hg => ?_) (fun hg => ?_) <;> ((try simp only [Bool.not_true, Bool.not_false, Bool.not_eq_true', Bool.not_eq_false', Bool.not_eq_eq_eq_not] at hg); (first | (cases hg) | (simp only [hg]) | skip))) | ((first | refine RunTo.plain rfl ?_ | refine RunTo.skipped rfl ?_ | refine RunTo.call (hin) Tryz.func41 rfl rfl rfl rfl rfl rfl rfl rfl ?_); simp only [go_sem, ↓reduceIte, Nat.reduceEqDiff, Nat.reduceAdd, Nat.reduceLeDiff, Nat.reduceBEq, Nat.reduceMul, reduceCtorEq, Int.reduceLE, Int.reduceLT, Int.reduceAdd, Int.reduceSub, Int.reduceNeg, Int.reduceToNat, Int.reduceBEq, hdec, hget, hwk, List.length_map, Bool.not_false, Bool.not_true]) | ((first | refine RunTo.nilA (by kernel_rfl) ?_ | refine RunTo.nilT ?_ | refine awp_skip ?_ | refine awp_exit ?_ | refine awp_label ?_); simp only [go_sem, ↓reduceIte, Nat.reduceEqDiff, Nat.reduceAdd, Nat.reduceLeDiff, Nat.reduceBEq, Nat.reduceMul, reduceCtorEq, Int.reduceLE, Int.reduceLT, Int.reduceAdd, Int.reduceSub, Int.reduceNeg, Int.reduceToNat, Int.reduceBEq, hdec, hget, hwk, List.length_map, Bool.not_false, Bool.not_true]) | (refine awp_cond' rfl (of_decide_eq_true rfl) (fun hc => ?_) (fun hc => ?_) <;> ((try simp only [Bool.not_true, Bool.not_false, Bool.not_eq_true', Bool.not_eq_false', Bool.not_eq_eq_eq_not] at hc); (first | (cases hc) | (simp only [hc]) | skip))))
        all_goals (first | refine awp_ret ?_ | skip); refine ⟨(by first | exact .inl rfl | exact .inr rfl | exact .inr trivial | trivial), ?_⟩; simp only [go_sem, ↓reduceIte, Nat.reduceEqDiff, Nat.reduceAdd, Nat.reduceLeDiff, Nat.reduceBEq, Nat.reduceMul, reduceCtorEq, Int.reduceLE, Int.reduceLT, Int.reduceAdd, Int.reduceSub, Int.reduceNeg, Int.reduceToNat, Int.reduceBEq, retV, resL, resV, sealV, sealC, sealAll, Tryz.f15]
        all_goals rfl
      | true =>
        repeat' (first | refine awp_seq ?_ | refine awp_block ?_ | refine awp_round ?_ | refine awp_scope ?_ | refine awp_text rfl ?_ | refine awp_any rfl mix (by kernel_rfl) ?_ | (refine RunTo.unguard rfl rfl (fun hg => ?_) (fun hg => ?_) <;> ((try simp only [Bool.not_true, Bool.not_false, Bool.not_eq_true', Bool.not_eq_false', Bool.not_eq_eq_eq_not] at hg); (first | (cases hg) | (simp only [hg]) | skip))) | ((first | refine RunTo.plain rfl ?_ | refine RunTo.skipped rfl ?_ | refine RunTo.call (hin) Tryz.func41 rfl rfl rfl rfl rfl rfl rfl rfl ?_); simp only [go_sem, ↓reduceIte, Nat.reduceEqDiff, Nat.reduceAdd, Nat.reduceLeDiff, Nat.reduceBEq, Nat.reduceMul, reduceCtorEq, Int.reduceLE, Int.reduceLT, Int.reduceAdd, Int.reduceSub, Int.reduceNeg, Int.reduceToNat, Int.reduceBEq, hdec, hget, hwk, List.length_map, Bool.not_false, Bool.not_true]) | ((first | refine RunTo.nilA (by kernel_rfl) ?_ | refine RunTo.nilT ?_ | refine awp_skip ?_ | refine awp_exit ?_ | refine awp_label ?_); simp only [go_sem, ↓reduceIte, Nat.reduceEqDiff, Nat.reduceAdd, Nat.reduceLeDiff, Nat.reduceBEq, Nat.reduceMul, reduceCtorEq, Int.reduceLE, Int.reduceLT, Int.reduceAdd, Int.reduceSub, Int.reduceNeg, Int.reduceToNat, Int.reduceBEq, hdec, hget, hwk, List.length_map, Bool.not_false, Bool.not_true]) | (refine awp_cond' rfl (of_decide_eq_true rfl) (fun hc => ?_) (fun hc => ?_) <;> ((try simp only [Bool.not_true, Bool.not_false, Bool.not_eq_true', Bool.not_eq_false', Bool.not_eq_eq_eq_not] at hc); (first | (cases hc) | (simp only [hc]) | skip))))
        all_goals exact ⟨q.sorts.length - (k + 1), by omega, SDi q 6 (k + 1) _, weak_keep ⟨rfl, rfl, trivial⟩ ⟨rfl, trivial⟩ (Nat.le_refl _), k + 1, _, by omega, rfl, range_up hall hbk, rfl⟩
    have hdec := lt_f hlt
    obtain rfl : k = q.sorts.length := by omega
    rw [hF3, hall]
    repeat' (first | refine awp_seq ?_ | refine awp_block ?_ | refine awp_round ?_ | refine awp_scope ?_ | refine awp_text rfl ?_ | refine awp_any rfl mix (by kernel_rfl) ?_ | (refine RunTo.unguard rfl rfl (fun hg => ?_) (fun hg => ?_) <;> ((try simp only [Bool.not_true, Bool.not_false, Bool.not_eq_true', Bool.not_eq_false', Bool.not_eq_eq_eq_not] at hg); (first | (cases hg) | (simp only [hg]) | skip))) | ((first | refine RunTo.plain rfl ?_ | refine RunTo.skipped rfl ?_); simp only [go_sem, ↓reduceIte, Nat.reduceEqDiff, Nat.reduceAdd, Nat.reduceLeDiff, Nat.reduceBEq, Nat.reduceMul, reduceCtorEq, Int.reduceLE, Int.reduceLT, Int.reduceAdd, Int.reduceSub, Int.reduceNeg, Int.reduceToNat, Int.reduceBEq, hdec, List.length_map]) | ((first | refine RunTo.nilA (by kernel_rfl) ?_ | refine RunTo.nilT ?_ | refine awp_skip ?_ | refine awp_exit ?_ | refine awp_label ?_); simp only [go_sem, ↓reduceIte, Nat.reduceEqDiff, Nat.reduceAdd, Nat.reduceLeDiff, Nat.reduceBEq, Nat.reduceMul, reduceCtorEq, Int.reduceLE, Int.reduceLT, Int.reduceAdd, Int.reduceSub, Int.reduceNeg, Int.reduceToNat, Int.reduceBEq, hdec, List.length_map]) | (refine awp_cond' rfl (of_decide_eq_true rfl) (fun hc => ?_) (fun hc => ?_) <;> ((try simp only [Bool.not_true, Bool.not_false, Bool.not_eq_true', Bool.not_eq_false', Bool.not_eq_eq_eq_not] at hc); (first | (cases hc) | (simp only [hc]) | skip))))
    all_goals (first | refine awp_ret ?_ | skip); refine ⟨(by first | exact .inl rfl | exact .inr rfl | exact .inr trivial | trivial), ?_⟩; simp only [go_sem, ↓reduceIte, Nat.reduceEqDiff, Nat.reduceAdd, Nat.reduceLeDiff, Nat.reduceBEq, Nat.reduceMul, reduceCtorEq, Int.reduceLE, Int.reduceLT, Int.reduceAdd, Int.reduceSub, Int.reduceNeg, Int.reduceToNat, Int.reduceBEq, retV, resL, resV, sealV, sealC, sealAll, Tryz.f15]
    all_goals rfl
  · intro R' main
    repeat' (first | refine awp_seq ?_ | refine awp_block ?_ | refine awp_round ?_ | refine awp_scope ?_ | refine awp_text rfl ?_ | refine awp_any rfl mix (by kernel_rfl) ?_ | (refine RunTo.unguard rfl rfl (fun hg => ?_) (fun hg => ?_) <;> ((try simp only [Bool.not_true, Bool.not_false, Bool.not_eq_true', Bool.not_eq_false', Bool.not_eq_eq_eq_not] at hg); (first | (cases hg) | (simp only [hg]) | skip))) | ((first | refine RunTo.plain rfl ?_ | refine RunTo.skipped rfl ?_ | refine RunTo.call (w1) Tryz.func41 rfl rfl rfl rfl rfl rfl rfl rfl ?_ | refine RunTo.call (w2) Tryz.func41 rfl rfl rfl rfl rfl rfl rfl rfl ?_ | refine RunTo.call (w3) Tryz.func41 rfl rfl rfl rfl rfl rfl rfl rfl ?_ | refine RunTo.call (w4) Tryz.func41 rfl rfl rfl rfl rfl rfl rfl rfl ?_); simp only [go_sem, ↓reduceIte, Nat.reduceEqDiff, Nat.reduceAdd, Nat.reduceLeDiff, Nat.reduceBEq, Nat.reduceMul, reduceCtorEq, Int.reduceLE, Int.reduceLT, Int.reduceAdd, Int.reduceSub, Int.reduceNeg, Int.reduceToNat, Int.reduceBEq, QueryD.av, List.length_map, bne, wd, b2, b4', Bool.not_false, Bool.not_true]) | ((first | refine RunTo.nilA (by kernel_rfl) ?_ | refine RunTo.nilT ?_ | refine awp_skip ?_ | refine awp_exit ?_ | refine awp_label ?_); simp only [go_sem, ↓reduceIte, Nat.reduceEqDiff, Nat.reduceAdd, Nat.reduceLeDiff, Nat.reduceBEq, Nat.reduceMul, reduceCtorEq, Int.reduceLE, Int.reduceLT, Int.reduceAdd, Int.reduceSub, Int.reduceNeg, Int.reduceToNat, Int.reduceBEq, QueryD.av, List.length_map, bne, wd, b2, b4', Bool.not_false, Bool.not_true]) | (refine awp_cond' rfl (of_decide_eq_true rfl) (fun hc => ?_) (fun hc => ?_) <;> ((try simp only [Bool.not_true, Bool.not_false, Bool.not_eq_true', Bool.not_eq_false', Bool.not_eq_eq_eq_not] at hc); (first | (cases hc) | (simp only [hc]) | skip))))
    clear w1 w2 w3 w4 wd
    refine awp_loopw (IDi q 3 q.spots.length (spB q)) q.spots.length (SDi q 3 0 _) (weak_keep ⟨rfl, rfl, trivial⟩ ⟨rfl, trivial⟩ (Nat.le_refl _)) ⟨0, _, Nat.zero_le _, rfl, rfl, rfl⟩ ?_
    rintro n st ⟨k, T, hk, rfl, hall, rfl⟩
    by_cases hlt : k < q.spots.length
    · have hdec := lt_t hlt
      have hget := row_at SpotD.enc q.spots k hlt
      have hwk : IntKind.i64.wrap ((k : Int) + 1) = ((k + 1 : Nat) : Int) := wrap_succ (by omega)
      have hs := c_rSpot q.spots[k] (hq.spots.2 _ (List.getElem_mem hlt)) (hf.spots _ (List.getElem_mem hlt))
      have hbk : spB q k = (rightS q.spots[k] && (!decide (0 < k) || atB rightH q.hops (k - 1))) := by
        unfold spB
        rw [atB_in _ _ _ hlt]
      rw [show SpotD.enc q.spots[k] = [ds' q.spots[k].var, ds' q.spots[k].label, .lst 6 (q.spots[k].props.map PropD.enc)] from rfl] at hget
      generalize q.spots[k] = s at *
      cases r1 : rightS s with
      | false =>
        rw [r1] at hs
        have hF2 : F = false := by rw [hF', range_no hlt (by rw [hbk, r1, Bool.false_and])]; simp only [Bool.false_and]
        rw [hF2]
        repeat' (first | refine awp_seq ?_ | refine awp_block ?_ | refine awp_round ?_ | refine awp_scope ?_ | refine awp_text rfl ?_ | refine awp_any rfl mix (by kernel_rfl) ?_ | (refine RunTo.unguard rfl rfl (fun hg => ?_) (fun hg => ?_) <;> ((try simp only [Bool.not_true, Bool.not_false, Bool.not_eq_true', Bool.not_eq_false', Bool.not_eq_eq_eq_not] at hg); (first | (cases hg) | (simp only [hg]) | skip))) | ((first | refine RunTo.plain rfl ?_ | refine RunTo.skipped rfl ?_ | refine RunTo.call (hs) Tryz.func42 rfl rfl rfl rfl rfl rfl rfl rfl ?_); simp only [go_sem, ↓reduceIte, Nat.reduceEqDiff, Nat.reduceAdd, Nat.reduceLeDiff, Nat.reduceBEq, Nat.reduceMul, reduceCtorEq, Int.reduceLE, Int.reduceLT, Int.reduceAdd, Int.reduceSub, Int.reduceNeg, Int.reduceToNat, Int.reduceBEq, hdec, hget, hwk, SpotD.av, List.length_map, Bool.not_false, Bool.not_true]) | ((first | refine RunTo.nilA (by kernel_rfl) ?_ | refine RunTo.nilT ?_ | refine awp_skip ?_ | refine awp_exit ?_ | refine awp_label ?_); simp only [go_sem, ↓reduceIte, Nat.reduceEqDiff, Nat.reduceAdd, Nat.reduceLeDiff, Nat.reduceBEq, Nat.reduceMul, reduceCtorEq, Int.reduceLE, Int.reduceLT, Int.reduceAdd, Int.reduceSub, Int.reduceNeg, Int.reduceToNat, Int.reduceBEq, hdec, hget, hwk, SpotD.av, List.length_map, Bool.not_false, Bool.not_true]) | (refine awp_cond' rfl (of_decide_eq_true rfl) (fun hc => ?_) (fun hc => ?_) <;> ((try simp only [Bool.not_true, Bool.not_false, Bool.not_eq_true', Bool.not_eq_false', Bool.not_eq_eq_eq_not] at hc); (first | (cases hc) | (simp only [hc]) | skip))))
        all_goals (first | refine awp_ret ?_ | skip); refine ⟨(by first | exact .inl rfl | exact .inr rfl | exact .inr trivial | trivial), ?_⟩; simp only [go_sem, ↓reduceIte, Nat.reduceEqDiff, Nat.reduceAdd, Nat.reduceLeDiff, Nat.reduceBEq, Nat.reduceMul, reduceCtorEq, Int.reduceLE, Int.reduceLT, Int.reduceAdd, Int.reduceSub, Int.reduceNeg, Int.reduceToNat, Int.reduceBEq, retV, resL, resV, sealV, sealC, sealAll, Tryz.f15]
        all_goals rfl
      | true =>
        rw [r1] at hs hbk
        by_cases hk0 : 0 < k
        · have d0 : decide ((0 : Int) < (k : Int)) = true := decide_eq_true (by omega)
          have hb2 := beq_iff_eq.1 b2
          have hlh : k - 1 < q.hops.length := by omega
          have hgh := row_at HopD.enc q.hops (k - 1) hlh
          have hwp : IntKind.i64.wrap ((k : Int) - 1) = ((k - 1 : Nat) : Int) := by rw [IntWalk.i64_in _ (by omega)]; omega
          have hbh := hq.hops.2 _ (List.getElem_mem hlh)
          have hh := c_rHop q.hops[k - 1] hbh.1 hbh.2
          rw [decide_eq_true hk0, atB_in _ _ _ hlh, Bool.not_true, Bool.false_or, Bool.true_and] at hbk
          rw [show HopD.enc q.hops[k - 1] = [ds' q.hops[k - 1].var, ds' q.hops[k - 1].type, db q.hops[k - 1].back, db q.hops[k - 1].many, di q.hops[k - 1].least, di q.hops[k - 1].most] from rfl] at hgh
          generalize q.hops[k - 1] = h at *
          cases r2 : rightH h with
          | false =>
            rw [r2] at hh hbk
            have hF2 : F = false := by rw [hF', range_no hlt hbk]; simp only [Bool.false_and]
            rw [hF2]
            repeat' (first | refine awp_seq ?_ | refine awp_block ?_ | refine awp_round ?_ | refine awp_scope ?_ | refine awp_text rfl ?_ | refine awp_any rfl mix (by kernel_rfl) ?_ | (refine RunTo.unguard rfl rfl (fun hg => ?_) (fun hg => ?_) <;> ((try simp only [Bool.not_true, Bool.not_false, Bool.not_eq_true', Bool.not_eq_false', Bool.not_eq_eq_eq_not] at hg); (first | (cases hg) | (simp only [hg]) | skip))) | ((first | refine RunTo.plain rfl ?_ | refine RunTo.skipped rfl ?_ | refine RunTo.call (hs) Tryz.func42 rfl rfl rfl rfl rfl rfl rfl rfl ?_ | refine RunTo.call (hh) Tryz.func43 rfl rfl rfl rfl rfl rfl rfl rfl ?_); simp only [go_sem, ↓reduceIte, Nat.reduceEqDiff, Nat.reduceAdd, Nat.reduceLeDiff, Nat.reduceBEq, Nat.reduceMul, reduceCtorEq, Int.reduceLE, Int.reduceLT, Int.reduceAdd, Int.reduceSub, Int.reduceNeg, Int.reduceToNat, Int.reduceBEq, hdec, hget, hwk, d0, hgh, hwp, SpotD.av, HopD.av, List.length_map, Bool.not_false, Bool.not_true]) | ((first | refine RunTo.nilA (by kernel_rfl) ?_ | refine RunTo.nilT ?_ | refine awp_skip ?_ | refine awp_exit ?_ | refine awp_label ?_); simp only [go_sem, ↓reduceIte, Nat.reduceEqDiff, Nat.reduceAdd, Nat.reduceLeDiff, Nat.reduceBEq, Nat.reduceMul, reduceCtorEq, Int.reduceLE, Int.reduceLT, Int.reduceAdd, Int.reduceSub, Int.reduceNeg, Int.reduceToNat, Int.reduceBEq, hdec, hget, hwk, d0, hgh, hwp, SpotD.av, HopD.av, List.length_map, Bool.not_false, Bool.not_true]) | (refine awp_cond' rfl (of_decide_eq_true rfl) (fun hc => ?_) (fun hc => ?_) <;> ((try simp only [Bool.not_true, Bool.not_false, Bool.not_eq_true', Bool.not_eq_false', Bool.not_eq_eq_eq_not] at hc); (first | (cases hc) | (simp only [hc]) | skip))))
            all_goals (first | refine awp_ret ?_ | skip); refine ⟨(by first | exact .inl rfl | exact .inr rfl | exact .inr trivial | trivial), ?_⟩; simp only [go_sem, ↓reduceIte, Nat.reduceEqDiff, Nat.reduceAdd, Nat.reduceLeDiff, Nat.reduceBEq, Nat.reduceMul, reduceCtorEq, Int.reduceLE, Int.reduceLT, Int.reduceAdd, Int.reduceSub, Int.reduceNeg, Int.reduceToNat, Int.reduceBEq, retV, resL, resV, sealV, sealC, sealAll, Tryz.f15]
            all_goals rfl
          | true =>
            rw [r2] at hh hbk
            repeat' (first | refine awp_seq ?_ | refine awp_block ?_ | refine awp_round ?_ | refine awp_scope ?_ | refine awp_text rfl ?_ | refine awp_any rfl mix (by kernel_rfl) ?_ | (refine RunTo.unguard rfl rfl (fun hg => ?_) (fun hg => ?_) <;> ((try simp only [Bool.not_true, Bool.not_false, Bool.not_eq_true', Bool.not_eq_false', Bool.not_eq_eq_eq_not] at hg); (first | (cases hg) | (simp only [hg]) | skip))) | ((first | refine RunTo.plain rfl ?_ | refine RunTo.skipped rfl ?_ | refine RunTo.call (hs) Tryz.func42 rfl rfl rfl rfl rfl rfl rfl rfl ?_ | refine RunTo.call (hh) Tryz.func43 rfl rfl rfl rfl rfl rfl rfl rfl ?_); simp only [go_sem, ↓reduceIte, Nat.reduceEqDiff, Nat.reduceAdd, Nat.reduceLeDiff, Nat.reduceBEq, Nat.reduceMul, reduceCtorEq, Int.reduceLE, Int.reduceLT, Int.reduceAdd, Int.reduceSub, Int.reduceNeg, Int.reduceToNat, Int.reduceBEq, hdec, hget, hwk, d0, hgh, hwp, SpotD.av, HopD.av, List.length_map, Bool.not_false, Bool.not_true]) | ((first | refine RunTo.nilA (by kernel_rfl) ?_ | refine RunTo.nilT ?_ | refine awp_skip ?_ | refine awp_exit ?_ | refine awp_label ?_); simp only [go_sem, ↓reduceIte, Nat.reduceEqDiff, Nat.reduceAdd, Nat.reduceLeDiff, Nat.reduceBEq, Nat.reduceMul, reduceCtorEq, Int.reduceLE, Int.reduceLT, Int.reduceAdd, Int.reduceSub, Int.reduceNeg, Int.reduceToNat, Int.reduceBEq, hdec, hget, hwk, d0, hgh, hwp, SpotD.av, HopD.av, List.length_map, Bool.not_false, Bool.not_true]) | (refine awp_cond' rfl (of_decide_eq_true rfl) (fun hc => ?_) (fun hc => ?_) <;> ((try simp only [Bool.not_true, Bool.not_false, Bool.not_eq_true', Bool.not_eq_false', Bool.not_eq_eq_eq_not] at hc); (first | (cases hc) | (simp only [hc]) | skip))))
            all_goals exact ⟨q.spots.length - (k + 1), by omega, SDi q 3 (k + 1) _, weak_keep ⟨rfl, rfl, trivial⟩ ⟨rfl, trivial⟩ (Nat.le_refl _), k + 1, _, by omega, rfl, range_up hall hbk, rfl⟩
        · have d0 : decide ((0 : Int) < (k : Int)) = false := decide_eq_false (by omega)
          rw [decide_eq_false hk0, Bool.not_false, Bool.true_or, Bool.true_and] at hbk
          repeat' (first | refine awp_seq ?_ | refine awp_block ?_ | refine awp_round ?_ | refine awp_scope ?_ | refine awp_text rfl ?_ | refine awp_any rfl mix (by kernel_rfl) ?_ | (refine RunTo.unguard rfl rfl (fun hg => ?_) (fun hg => ?_) <;> ((try simp only [Bool.not_true, Bool.not_false, Bool.not_eq_true', Bool.not_eq_false', Bool.not_eq_eq_eq_not] at hg); (first | (cases hg) | (simp only [hg]) | skip))) | ((first | refine RunTo.plain rfl ?_ | refine RunTo.skipped rfl ?_ | refine RunTo.call (hs) Tryz.func42 rfl rfl rfl rfl rfl rfl rfl rfl ?_); simp only [go_sem, ↓reduceIte, Nat.reduceEqDiff, Nat.reduceAdd, Nat.reduceLeDiff, Nat.reduceBEq, Nat.reduceMul, reduceCtorEq, Int.reduceLE, Int.reduceLT, Int.reduceAdd, Int.reduceSub, Int.reduceNeg, Int.reduceToNat, Int.reduceBEq, hdec, hget, hwk, d0, SpotD.av, List.length_map, Bool.not_false, Bool.not_true]) | ((first | refine RunTo.nilA (by kernel_rfl) ?_ | refine RunTo.nilT ?_ | refine awp_skip ?_ | refine awp_exit ?_ | refine awp_label ?_); simp only [go_sem, ↓reduceIte, Nat.reduceEqDiff, Nat.reduceAdd, Nat.reduceLeDiff, Nat.reduceBEq, Nat.reduceMul, reduceCtorEq, Int.reduceLE, Int.reduceLT, Int.reduceAdd, Int.reduceSub, Int.reduceNeg, Int.reduceToNat, Int.reduceBEq, hdec, hget, hwk, d0, SpotD.av, List.length_map, Bool.not_false, Bool.not_true]) | (refine awp_cond' rfl (of_decide_eq_true rfl) (fun hc => ?_) (fun hc => ?_) <;> ((try simp only [Bool.not_true, Bool.not_false, Bool.not_eq_true', Bool.not_eq_false', Bool.not_eq_eq_eq_not] at hc); (first | (cases hc) | (simp only [hc]) | skip))))
          all_goals exact ⟨q.spots.length - (k + 1), by omega, SDi q 3 (k + 1) _, weak_keep ⟨rfl, rfl, trivial⟩ ⟨rfl, trivial⟩ (Nat.le_refl _), k + 1, _, by omega, rfl, range_up hall hbk, rfl⟩
    have hdec := lt_f hlt
    obtain rfl : k = q.spots.length := by omega
    rw [hall, Bool.true_and] at hF'
    clear hall hk hlt
    by_cases hn : q.wh.length = 0
    · have d0 : decide ((0 : Int) < (q.wh.length : Int)) = false := decide_eq_false (by omega)
      have e0 : ((q.wh.length : Int) == 0) = true := by rw [beq_iff_eq]; omega
      rw [e0, Bool.true_or, Bool.true_and] at hF'
      repeat' (first | refine awp_seq ?_ | refine awp_block ?_ | refine awp_round ?_ | refine awp_scope ?_ | refine awp_text rfl ?_ | refine awp_any rfl mix (by kernel_rfl) ?_ | (refine RunTo.unguard rfl rfl (fun hg => ?_) (fun hg => ?_) <;> ((try simp only [Bool.not_true, Bool.not_false, Bool.not_eq_true', Bool.not_eq_false', Bool.not_eq_eq_eq_not] at hg); (first | (cases hg) | (simp only [hg]) | skip))) | ((first | refine RunTo.plain rfl ?_ | refine RunTo.skipped rfl ?_); simp only [go_sem, ↓reduceIte, Nat.reduceEqDiff, Nat.reduceAdd, Nat.reduceLeDiff, Nat.reduceBEq, Nat.reduceMul, reduceCtorEq, Int.reduceLE, Int.reduceLT, Int.reduceAdd, Int.reduceSub, Int.reduceNeg, Int.reduceToNat, Int.reduceBEq, hdec, d0, List.length_map]) | ((first | refine RunTo.nilA (by kernel_rfl) ?_ | refine RunTo.nilT ?_ | refine awp_skip ?_ | refine awp_exit ?_ | refine awp_label ?_); simp only [go_sem, ↓reduceIte, Nat.reduceEqDiff, Nat.reduceAdd, Nat.reduceLeDiff, Nat.reduceBEq, Nat.reduceMul, reduceCtorEq, Int.reduceLE, Int.reduceLT, Int.reduceAdd, Int.reduceSub, Int.reduceNeg, Int.reduceToNat, Int.reduceBEq, hdec, d0, List.length_map]) | (refine awp_cond' rfl (of_decide_eq_true rfl) (fun hc => ?_) (fun hc => ?_) <;> ((try simp only [Bool.not_true, Bool.not_false, Bool.not_eq_true', Bool.not_eq_false', Bool.not_eq_eq_eq_not] at hc); (first | (cases hc) | (simp only [hc]) | skip))))
      all_goals exact awp_weak (st' := SDj q _) (weak_keep ⟨rfl, trivial⟩ ⟨rfl, trivial⟩ (Nat.le_refl _)) (main hF' _)
    · have d0 : decide ((0 : Int) < (q.wh.length : Int)) = true := decide_eq_true (by omega)
      cases hb : termsV q.wh with
      | false =>
        rw [hb] at hw
        have e0 : ((q.wh.length : Int) == 0) = false := beq_false_of_ne (by omega)
        have hF2 : F = false := by rw [hF', hb, e0]; rfl
        rw [hF2]
        repeat' (first | refine awp_seq ?_ | refine awp_block ?_ | refine awp_round ?_ | refine awp_scope ?_ | refine awp_text rfl ?_ | refine awp_any rfl mix (by kernel_rfl) ?_ | (refine RunTo.unguard rfl rfl (fun hg => ?_) (fun hg => ?_) <;> ((try simp only [Bool.not_true, Bool.not_false, Bool.not_eq_true', Bool.not_eq_false', Bool.not_eq_eq_eq_not] at hg); (first | (cases hg) | (simp only [hg]) | skip))) | ((first | refine RunTo.plain rfl ?_ | refine RunTo.skipped rfl ?_ | refine RunTo.call (hw) Tryz.func44 rfl rfl rfl rfl rfl rfl rfl rfl ?_); simp only [go_sem, ↓reduceIte, Nat.reduceEqDiff, Nat.reduceAdd, Nat.reduceLeDiff, Nat.reduceBEq, Nat.reduceMul, reduceCtorEq, Int.reduceLE, Int.reduceLT, Int.reduceAdd, Int.reduceSub, Int.reduceNeg, Int.reduceToNat, Int.reduceBEq, hdec, d0, List.length_map, Bool.not_false, Bool.not_true]) | ((first | refine RunTo.nilA (by kernel_rfl) ?_ | refine RunTo.nilT ?_ | refine awp_skip ?_ | refine awp_exit ?_ | refine awp_label ?_); simp only [go_sem, ↓reduceIte, Nat.reduceEqDiff, Nat.reduceAdd, Nat.reduceLeDiff, Nat.reduceBEq, Nat.reduceMul, reduceCtorEq, Int.reduceLE, Int.reduceLT, Int.reduceAdd, Int.reduceSub, Int.reduceNeg, Int.reduceToNat, Int.reduceBEq, hdec, d0, List.length_map, Bool.not_false, Bool.not_true]) | (refine awp_cond' rfl (of_decide_eq_true rfl) (fun hc => ?_) (fun hc => ?_) <;> ((try simp only [Bool.not_true, Bool.not_false, Bool.not_eq_true', Bool.not_eq_false', Bool.not_eq_eq_eq_not] at hc); (first | (cases hc) | (simp only [hc]) | skip))))
        all_goals (first | refine awp_ret ?_ | skip); refine ⟨(by first | exact .inl rfl | exact .inr rfl | exact .inr trivial | trivial), ?_⟩; simp only [go_sem, ↓reduceIte, Nat.reduceEqDiff, Nat.reduceAdd, Nat.reduceLeDiff, Nat.reduceBEq, Nat.reduceMul, reduceCtorEq, Int.reduceLE, Int.reduceLT, Int.reduceAdd, Int.reduceSub, Int.reduceNeg, Int.reduceToNat, Int.reduceBEq, retV, resL, resV, sealV, sealC, sealAll, Tryz.f15]
        all_goals rfl
      | true =>
        rw [hb] at hw
        rw [hb, Bool.or_true, Bool.true_and] at hF'
        repeat' (first | refine awp_seq ?_ | refine awp_block ?_ | refine awp_round ?_ | refine awp_scope ?_ | refine awp_text rfl ?_ | refine awp_any rfl mix (by kernel_rfl) ?_ | (refine RunTo.unguard rfl rfl (fun hg => ?_) (fun hg => ?_) <;> ((try simp only [Bool.not_true, Bool.not_false, Bool.not_eq_true', Bool.not_eq_false', Bool.not_eq_eq_eq_not] at hg); (first | (cases hg) | (simp only [hg]) | skip))) | ((first | refine RunTo.plain rfl ?_ | refine RunTo.skipped rfl ?_ | refine RunTo.call (hw) Tryz.func44 rfl rfl rfl rfl rfl rfl rfl rfl ?_); simp only [go_sem, ↓reduceIte, Nat.reduceEqDiff, Nat.reduceAdd, Nat.reduceLeDiff, Nat.reduceBEq, Nat.reduceMul, reduceCtorEq, Int.reduceLE, Int.reduceLT, Int.reduceAdd, Int.reduceSub, Int.reduceNeg, Int.reduceToNat, Int.reduceBEq, hdec, d0, List.length_map, Bool.not_false, Bool.not_true]) | ((first | refine RunTo.nilA (by kernel_rfl) ?_ | refine RunTo.nilT ?_ | refine awp_skip ?_ | refine awp_exit ?_ | refine awp_label ?_); simp only [go_sem, ↓reduceIte, Nat.reduceEqDiff, Nat.reduceAdd, Nat.reduceLeDiff, Nat.reduceBEq, Nat.reduceMul, reduceCtorEq, Int.reduceLE, Int.reduceLT, Int.reduceAdd, Int.reduceSub, Int.reduceNeg, Int.reduceToNat, Int.reduceBEq, hdec, d0, List.length_map, Bool.not_false, Bool.not_true]) | (refine awp_cond' rfl (of_decide_eq_true rfl) (fun hc => ?_) (fun hc => ?_) <;> ((try simp only [Bool.not_true, Bool.not_false, Bool.not_eq_true', Bool.not_eq_false', Bool.not_eq_eq_eq_not] at hc); (first | (cases hc) | (simp only [hc]) | skip))))
        all_goals exact awp_weak (st' := SDj q _) (weak_keep ⟨rfl, trivial⟩ ⟨rfl, trivial⟩ (Nat.le_refl _)) (main hF' _)
end Go.Proofs.YtinpnidokpjfhaaGreatDoor.AM
namespace Go.Proofs.YtinpnidokpjfhaaGreatDoor.AM
open Go.RowKit
set_option linter.unusedSimpArgs false
set_option linter.unusedVariables false
set_option maxRecDepth 10000
set_option maxHeartbeats 0
theorem c_rTextT (ts : List TermD) (h : OkTs ts) (hn : ts.length ≠ 0) (hf : ∀ t ∈ ts, flV t.v) (hv : ∀ t ∈ ts, t.op = 1 → okV t.v) : Pure Tryz.prog 26 [.dat (.lst 8 (ts.map TermD.enc))] (sv (textS ts)) := by
  obtain ⟨d, hd⟩ := h.one (fun e => hn (by rw [e]; rfl))
  exact c_rText ts d h.len hd h.ok hf hv
theorem c_rItemT (x : ItemD) (h : OkTs x.terms) (hr : rightI x = true) (hf : ∀ t ∈ x.terms, flV t.v) (hv : ∀ t ∈ x.terms, t.op = 1 → okV t.v) : Pure Tryz.prog 27 [x.av] (sv (itemT x)) := by
  have hb := inT_big _ h
  have hS : x.terms.length ≠ 0 → Pure Tryz.prog 26 [.dat (.lst 8 (x.terms.map TermD.enc))] (sv (inT x.terms)) := fun hn => by
    have := c_rTextT x.terms h hn hf hv
    unfold inT
    rw [if_neg hn]
    exact this
  have h0 : x.terms.length = 0 → inT x.terms = ⟨#[42]⟩ := fun e => by unfold inT; rw [if_pos e]
  unfold rightI at hr
  simp only [Bool.and_eq_true, Bool.or_eq_true, decide_eq_true_eq, beq_iff_eq] at hr
  have hne : x.terms.length = 0 → x.fn = 1 := fun e => by
    rcases hr.2 with a | a
    · exact a.1
    · rw [List.length_eq_zero_iff.1 e] at a
      exact absurd a (by decide)
  have hfn := hr.1
  clear hr hf hv h
  unfold itemT
  obtain ⟨fn, ts⟩ := x
  dsimp only at *
  generalize inT ts = i at *
  have hc : fn = 0 ∨ fn = 1 ∨ fn = 2 ∨ fn = 3 ∨ fn = 4 := by omega
  have z1 : (5 + 1 + i.size ≤ 9223372036854775807) = True := eq_true (by omega)
  have z2 : (5 + 1 + i.size + 1 ≤ 9223372036854775807) = True := eq_true (by omega)
  have z3 : (3 + 1 + i.size ≤ 9223372036854775807) = True := eq_true (by omega)
  have z4 : (3 + 1 + i.size + 1 ≤ 9223372036854775807) = True := eq_true (by omega)
  have z5 : (6 + i.size ≤ 9223372036854775807) = True := eq_true (by omega)
  have z6 : (6 + i.size + 1 ≤ 9223372036854775807) = True := eq_true (by omega)
  have z7 : (4 + i.size ≤ 9223372036854775807) = True := eq_true (by omega)
  have z8 : (4 + i.size + 1 ≤ 9223372036854775807) = True := eq_true (by omega)
  by_cases hn : ts.length = 0
  · have d0 : ((ts.length : Int) == 0) = true := by rw [beq_iff_eq]; omega
    have := hne hn
    subst this
    have hi := h0 hn
    subst hi
    simp only [↓reduceIte]
    refine pure_of_awp Tryz.func27 rfl rfl (by simp [Tryz.f27]) ?_; simp only [go_sem, ↓reduceIte, Nat.reduceEqDiff, Nat.reduceAdd, Nat.reduceLeDiff, Nat.reduceBEq, Nat.reduceMul, reduceCtorEq, Int.reduceLE, Int.reduceLT, Int.reduceAdd, Int.reduceSub, Int.reduceNeg, Int.reduceToNat, Int.reduceBEq]
    repeat' (first | refine awp_seq ?_ | refine awp_block ?_ | refine awp_round ?_ | refine awp_scope ?_ | refine awp_text rfl ?_ | refine awp_any rfl mix (by kernel_rfl) ?_ | (refine RunTo.unguard rfl rfl (fun hg => ?_) (fun hg => ?_) <;> ((try simp only [Bool.not_true, Bool.not_false, Bool.not_eq_true', Bool.not_eq_false', Bool.not_eq_eq_eq_not] at hg); (first | (cases hg) | (simp only [hg]) | skip))) | ((first | refine RunTo.plain rfl ?_ | refine RunTo.skipped rfl ?_); simp only [go_sem, ↓reduceIte, Nat.reduceEqDiff, Nat.reduceAdd, Nat.reduceLeDiff, Nat.reduceBEq, Nat.reduceMul, reduceCtorEq, Int.reduceLE, Int.reduceLT, Int.reduceAdd, Int.reduceSub, Int.reduceNeg, Int.reduceToNat, Int.reduceBEq, ItemD.av, d0, List.length_map, ByteArray.size_append, List.size_toArray]) | ((first | refine RunTo.nilA (by kernel_rfl) ?_ | refine RunTo.nilT ?_ | refine awp_skip ?_ | refine awp_exit ?_ | refine awp_label ?_); simp only [go_sem, ↓reduceIte, Nat.reduceEqDiff, Nat.reduceAdd, Nat.reduceLeDiff, Nat.reduceBEq, Nat.reduceMul, reduceCtorEq, Int.reduceLE, Int.reduceLT, Int.reduceAdd, Int.reduceSub, Int.reduceNeg, Int.reduceToNat, Int.reduceBEq, ItemD.av, d0, List.length_map, ByteArray.size_append, List.size_toArray]) | (refine awp_cond' rfl (of_decide_eq_true rfl) (fun hc => ?_) (fun hc => ?_) <;> ((try simp only [Bool.not_true, Bool.not_false, Bool.not_eq_true', Bool.not_eq_false', Bool.not_eq_eq_eq_not] at hc); (first | (cases hc) | (simp only [hc]) | skip))))
    all_goals (first | refine awp_ret ?_ | skip); refine ⟨(by first | exact .inl rfl | exact .inr rfl | exact .inr trivial | trivial), ?_⟩; simp only [go_sem, ↓reduceIte, Nat.reduceEqDiff, Nat.reduceAdd, Nat.reduceLeDiff, Nat.reduceBEq, Nat.reduceMul, reduceCtorEq, Int.reduceLE, Int.reduceLT, Int.reduceAdd, Int.reduceSub, Int.reduceNeg, Int.reduceToNat, Int.reduceBEq, retV, resL, resV, sealV, sealC, sealAll, Tryz.f27]
    all_goals rfl
  · have d0 : ((ts.length : Int) == 0) = false := beq_false_of_ne (by omega)
    have ht := hS hn
    rcases hc with rfl | rfl | rfl | rfl | rfl
    all_goals simp only [Int.reduceEq, ↓reduceIte]
    all_goals
      refine pure_of_awp Tryz.func27 rfl rfl (by simp [Tryz.f27]) ?_; simp only [go_sem, ↓reduceIte, Nat.reduceEqDiff, Nat.reduceAdd, Nat.reduceLeDiff, Nat.reduceBEq, Nat.reduceMul, reduceCtorEq, Int.reduceLE, Int.reduceLT, Int.reduceAdd, Int.reduceSub, Int.reduceNeg, Int.reduceToNat, Int.reduceBEq]
      repeat' (first | refine awp_seq ?_ | refine awp_block ?_ | refine awp_round ?_ | refine awp_scope ?_ | refine awp_text rfl ?_ | refine awp_any rfl mix (by kernel_rfl) ?_ | (refine RunTo.unguard rfl rfl (fun hg => ?_) (fun hg => ?_) <;> ((try simp only [Bool.not_true, Bool.not_false, Bool.not_eq_true', Bool.not_eq_false', Bool.not_eq_eq_eq_not] at hg); (first | (cases hg) | (simp only [hg]) | skip))) | ((first | refine RunTo.plain rfl ?_ | refine RunTo.skipped rfl ?_ | refine RunTo.call (ht) Tryz.func26 rfl rfl rfl rfl rfl rfl rfl rfl ?_); simp only [go_sem, ↓reduceIte, Nat.reduceEqDiff, Nat.reduceAdd, Nat.reduceLeDiff, Nat.reduceBEq, Nat.reduceMul, reduceCtorEq, Int.reduceLE, Int.reduceLT, Int.reduceAdd, Int.reduceSub, Int.reduceNeg, Int.reduceToNat, Int.reduceBEq, ItemD.av, d0, z1, z2, z3, z4, z5, z6, z7, z8, List.length_map, ByteArray.size_append, List.size_toArray]) | ((first | refine RunTo.nilA (by kernel_rfl) ?_ | refine RunTo.nilT ?_ | refine awp_skip ?_ | refine awp_exit ?_ | refine awp_label ?_); simp only [go_sem, ↓reduceIte, Nat.reduceEqDiff, Nat.reduceAdd, Nat.reduceLeDiff, Nat.reduceBEq, Nat.reduceMul, reduceCtorEq, Int.reduceLE, Int.reduceLT, Int.reduceAdd, Int.reduceSub, Int.reduceNeg, Int.reduceToNat, Int.reduceBEq, ItemD.av, d0, z1, z2, z3, z4, z5, z6, z7, z8, List.length_map, ByteArray.size_append, List.size_toArray]) | (refine awp_cond' rfl (of_decide_eq_true rfl) (fun hc => ?_) (fun hc => ?_) <;> ((try simp only [Bool.not_true, Bool.not_false, Bool.not_eq_true', Bool.not_eq_false', Bool.not_eq_eq_eq_not] at hc); (first | (cases hc) | (simp only [hc]) | skip))))
      all_goals (first | refine awp_ret ?_ | skip); refine ⟨(by first | exact .inl rfl | exact .inr rfl | exact .inr trivial | trivial), ?_⟩; simp only [go_sem, ↓reduceIte, Nat.reduceEqDiff, Nat.reduceAdd, Nat.reduceLeDiff, Nat.reduceBEq, Nat.reduceMul, reduceCtorEq, Int.reduceLE, Int.reduceLT, Int.reduceAdd, Int.reduceSub, Int.reduceNeg, Int.reduceToNat, Int.reduceBEq, retV, resL, resV, sealV, sealC, sealAll, Tryz.f27]
      all_goals rfl
end Go.Proofs.YtinpnidokpjfhaaGreatDoor.AM
namespace Go.Proofs.YtinpnidokpjfhaaGreatDoor.AM
open Go.RowKit
set_option linter.unusedSimpArgs false
set_option linter.unusedVariables false
set_option maxRecDepth 10000
set_option maxHeartbeats 0
theorem app_nilI (x : ByteArray) : x = x ++ joinB (([] : List ItemD).map itemT) sepB := by
  apply ByteArray.ext
  simp [joinB, Lib.join_nil, ByteArray.data_append]
abbrev SDp (q : QueryD) (o : ByteArray) (T : Nat) : St := ⟨[(3, sv o), (1, .ptr 1 0 0 0)], [(1, .box 0 (cellsQ q))], T⟩
abbrev SDq (q : QueryD) (t : Nat) (o : ByteArray) (k T : Nat) : St := ⟨[(3, sv o), (t, iv k), (1, .ptr 1 0 0 0)], [(1, .box 0 (cellsQ q))], T⟩
def IDp1 (q : QueryD) (n : Nat) (st : St) : Prop := ∃ k T, k ≤ q.spots.length ∧ n = q.spots.length - k ∧ st = SDq q 4 (spotsT q k) k T
def IDp2 (q : QueryD) (n : Nat) (st : St) : Prop := ∃ k o T, k ≤ q.items.length ∧ n = q.items.length - k ∧ o = disT q ++ joinB ((q.items.take k).map itemT) sepB ∧ st = SDq q 5 o k T
def ordK2 (q : QueryD) (k : Nat) : ByteArray := if k = 0 then itsT q else itsT q ++ ((⟨#[32, 111, 114, 100, 101, 114, 32, 98, 121, 32]⟩ : ByteArray) ++ joinB ((q.sorts.take k).map sortT) sepB)
def IDp3 (q : QueryD) (n : Nat) (st : St) : Prop := ∃ k T, k ≤ q.sorts.length ∧ n = q.sorts.length - k ∧ st = SDq q 6 (ordK2 q k) k T
end Go.Proofs.YtinpnidokpjfhaaGreatDoor.AM
