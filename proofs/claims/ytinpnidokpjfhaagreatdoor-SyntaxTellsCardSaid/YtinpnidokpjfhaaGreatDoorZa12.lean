/- Part 12 of the proof: words, contracts, plain laws. Laid by a program of this session (wip/tool/shake.py): what is needed of own and printed texts, in order. -/
import Derived.Test.YtinpnidokpjfhaaGreatDoorZa0
import Derived.Test.YtinpnidokpjfhaaGreatDoorZa1
import Derived.Test.YtinpnidokpjfhaaGreatDoorZa2
import Derived.Test.YtinpnidokpjfhaaGreatDoorZa3
import Derived.Test.YtinpnidokpjfhaaGreatDoorZa5
import Derived.Test.YtinpnidokpjfhaaGreatDoorZa6
import Derived.Test.YtinpnidokpjfhaaGreatDoorZa7
import Derived.Test.YtinpnidokpjfhaaGreatDoorZa8
import Derived.Test.YtinpnidokpjfhaaGreatDoorZa9
import Derived.Test.YtinpnidokpjfhaaGreatDoorZa10
import Derived.Test.YtinpnidokpjfhaaGreatDoorZa11
import Derived.Calls
import Derived.Lib.ItoaNum
import Derived.Orders
import Derived.Tactics
import Derived.Below
import Derived.Laws.Rows
import Derived.Laws.World
import Derived.Laws.CopyRow
import Derived.Lib.FrozenHead
import Derived.Deep.AppendSrc
import Derived.Deep.Upon
import Derived.Laws.BytesArg
import Derived.IntWalk
import Derived.Laws.Externs
import Derived.LoopN
import Derived.Scope
import Derived.Test.YtinpnidokpjfhaaGreatDoorProg
import Derived.KernelRfl
import Derived.MapKept
import Derived.Laws.FloatBits
import Derived.Lib.ItoaMem
import Derived.Lib.ItoaLen
import Derived.Lib.Join
import Derived.RegionTactic
import Derived.Lib.AppendIntMem
import Derived.Shelf.Strings.Builder1
import Derived.Shelf.Strings.Builder2
import Derived.Shelf.Strings.OnBuilder
import Derived.Shelf.Small.Wraps
import Derived.Shelf.Strings.BuilderF
import Derived.Shelf.Strings.BuilderK
import Derived.Shelf.Strings.Builder2Cap
import Derived.Shelf.Strconv.Itoa0
import Derived.Shelf.Strconv.Itoa1
import Derived.Shelf.LaysM
import Derived.Shelf.Strconv.Itoa2
import Derived.Shelf.Strconv.Itoa3
import Derived.Shelf.Strings.BuilderCap
import Derived.Shelf.Slices.Turned
namespace Go.Proofs.YtinpnidokpjfhaaGreatDoor.AM
open Go.RowKit
set_option linter.unusedSimpArgs false
set_option linter.unusedVariables false
set_option maxRecDepth 10000
set_option maxHeartbeats 0
theorem c_Own (q : QueryD) (h : LawQ q) : Pure Tryz.prog 5 [q.av] q.av := by
  have hw := c_copyT q.wh h.wh.len
  have h0 := h.nspots
  have h1 := h.nhops
  have h2 := h.nitems
  have h3 := h.nsorts
  have g0 : List.take q.spots.length (q.spots.map SpotD.enc) = q.spots.map SpotD.enc := List.take_of_length_le (by simp)
  have g1 : List.take q.hops.length (q.hops.map HopD.enc) = q.hops.map HopD.enc := List.take_of_length_le (by simp)
  have g2 : List.take q.items.length (q.items.map ItemD.enc) = q.items.map ItemD.enc := List.take_of_length_le (by simp)
  have g3 : List.take q.sorts.length (q.sorts.map SortD.enc) = q.sorts.map SortD.enc := List.take_of_length_le (by simp)
  refine pure_of_awp Tryz.func5 rfl rfl (by simp [Tryz.f5]) ?_; simp only [go_sem, ↓reduceIte, Nat.reduceEqDiff, Nat.reduceAdd, Nat.reduceLeDiff, Nat.reduceBEq, Nat.reduceMul, reduceCtorEq, Int.reduceLE, Int.reduceLT, Int.reduceAdd, Int.reduceSub, Int.reduceNeg, Int.reduceToNat, Int.reduceBEq]
  repeat' (first | refine awp_seq ?_ | refine awp_block ?_ | refine awp_round ?_ | refine awp_scope ?_ | refine awp_text rfl ?_ | refine awp_any rfl mix (by kernel_rfl) ?_ | (refine RunTo.unguard rfl rfl (fun hg => ?_) (fun hg => ?_) <;> ((try simp only [Bool.not_true, Bool.not_false, Bool.not_eq_true', Bool.not_eq_false', Bool.not_eq_eq_eq_not] at hg); (first | (cases hg) | (simp only [hg]) | skip))) | ((first | refine RunTo.plain rfl ?_ | refine RunTo.skipped rfl ?_ | refine RunTo.call (hw) Tryz.func13 rfl rfl rfl rfl rfl rfl rfl rfl ?_); simp only [go_sem, ↓reduceIte, Nat.reduceEqDiff, Nat.reduceAdd, Nat.reduceLeDiff, Nat.reduceBEq, Nat.reduceMul, reduceCtorEq, Int.reduceLE, Int.reduceLT, Int.reduceAdd, Int.reduceSub, Int.reduceNeg, Int.reduceToNat, Int.reduceBEq, QueryD.av, List.length_map]) | ((first | refine RunTo.nilA (by kernel_rfl) ?_ | refine RunTo.nilT ?_ | refine awp_skip ?_ | refine awp_exit ?_ | refine awp_label ?_); simp only [go_sem, ↓reduceIte, Nat.reduceEqDiff, Nat.reduceAdd, Nat.reduceLeDiff, Nat.reduceBEq, Nat.reduceMul, reduceCtorEq, Int.reduceLE, Int.reduceLT, Int.reduceAdd, Int.reduceSub, Int.reduceNeg, Int.reduceToNat, Int.reduceBEq, QueryD.av, List.length_map]) | (refine awp_cond' rfl (of_decide_eq_true rfl) (fun hc => ?_) (fun hc => ?_) <;> ((try simp only [Bool.not_true, Bool.not_false, Bool.not_eq_true', Bool.not_eq_false', Bool.not_eq_eq_eq_not] at hc); (first | (cases hc) | (simp only [hc]) | skip))))
  refine awp_weak (weak_nilbox (b := 3) (j := 0) (s := 33) (sz := 3) rfl rfl rfl) ?_
  simp only [go_sem, ↓reduceIte, Nat.reduceEqDiff, Nat.reduceAdd, Nat.reduceLeDiff, Nat.reduceBEq, Nat.reduceMul, reduceCtorEq, Int.reduceLE, Int.reduceLT, Int.reduceAdd, Int.reduceSub, Int.reduceNeg, Int.reduceToNat, Int.reduceBEq, List.set_cons_zero, List.set_cons_succ]
  refine awp_loopw (IO0 q) q.spots.length (SO0 q 0 _ _ _) (weak_keep ⟨rfl, rfl, rfl, rfl, trivial⟩ ⟨rfl, rfl, rfl, rfl, trivial⟩ (Nat.le_refl _)) ⟨0, _, _, _, Nat.zero_le _, rfl, rfl⟩ ?_
  rintro n st ⟨k, T, e9, e0, hk, rfl, rfl⟩
  have hrl : ((q.spots.take k).map SpotD.enc).length = k := by simp; omega
  have htr : List.take k ((q.spots.take k).map SpotD.enc) = (q.spots.take k).map SpotD.enc := List.take_of_length_le (by omega)
  by_cases hlt : k < q.spots.length
  · have hdec := lt_t hlt
    have hget := row_at SpotD.enc q.spots k hlt
    have htk : (q.spots.take (k + 1)).map SpotD.enc = (q.spots.take k).map SpotD.enc ++ [SpotD.enc q.spots[k]] := by rw [List.take_succ_eq_append_getElem hlt, List.map_append]; rfl
    have hwk : IntKind.i64.wrap ((k : Int) + 1) = ((k + 1 : Nat) : Int) := wrap_succ (by omega)
    have c1 : ((k + 1) * 56 ≤ 140737488355328) = True := eq_true (by omega)
    have hle : (k ≤ (List.take k q.spots).length) = True := eq_true (by rw [List.length_take]; omega)
    have hrw : SpotD.enc q.spots[k] = [ds' q.spots[k].var, ds' q.spots[k].label, .lst 6 (q.spots[k].props.map PropD.enc)] := rfl
    rw [hrw] at hget
    generalize q.spots[k] = t at *
    repeat' (first | refine awp_seq ?_ | refine awp_block ?_ | refine awp_round ?_ | refine awp_scope ?_ | refine awp_text rfl ?_ | refine awp_any rfl mix (by kernel_rfl) ?_ | (refine RunTo.unguard rfl rfl (fun hg => ?_) (fun hg => ?_) <;> ((try simp only [Bool.not_true, Bool.not_false, Bool.not_eq_true', Bool.not_eq_false', Bool.not_eq_eq_eq_not] at hg); (first | (cases hg) | (simp only [hg]) | skip))) | ((first | refine RunTo.plain rfl ?_ | refine RunTo.skipped rfl ?_); simp only [go_sem, ↓reduceIte, Nat.reduceEqDiff, Nat.reduceAdd, Nat.reduceLeDiff, Nat.reduceBEq, Nat.reduceMul, reduceCtorEq, Int.reduceLE, Int.reduceLT, Int.reduceAdd, Int.reduceSub, Int.reduceNeg, Int.reduceToNat, Int.reduceBEq, hdec, hget, hwk, htr, hle, hrl, c1, List.length_map, List.length_cons, List.length_nil, lenTy, implies_true]) | ((first | refine RunTo.nilA (by kernel_rfl) ?_ | refine RunTo.nilT ?_ | refine awp_skip ?_ | refine awp_exit ?_ | refine awp_label ?_); simp only [go_sem, ↓reduceIte, Nat.reduceEqDiff, Nat.reduceAdd, Nat.reduceLeDiff, Nat.reduceBEq, Nat.reduceMul, reduceCtorEq, Int.reduceLE, Int.reduceLT, Int.reduceAdd, Int.reduceSub, Int.reduceNeg, Int.reduceToNat, Int.reduceBEq, hdec, hget, hwk, htr, hle, hrl, c1, List.length_map, List.length_cons, List.length_nil, lenTy, implies_true]) | (refine awp_cond' rfl (of_decide_eq_true rfl) (fun hc => ?_) (fun hc => ?_) <;> ((try simp only [Bool.not_true, Bool.not_false, Bool.not_eq_true', Bool.not_eq_false', Bool.not_eq_eq_eq_not] at hc); (first | (cases hc) | (simp only [hc]) | skip))))
    all_goals exact ⟨q.spots.length - (k + 1), by omega, SO0 q (k + 1) _ _ _, weak_keep ⟨rfl, rfl, rfl, rfl, trivial⟩ ⟨rfl, rfl, rfl, by rw [htk]; rfl, trivial⟩ (Nat.le_refl _), k + 1, _, _, _, by omega, rfl, rfl⟩
  have hdec := lt_f hlt
  obtain rfl : k = q.spots.length := by omega
  rw [List.take_of_length_le (Nat.le_refl _)] at hrl htr
  have hful : (q.spots.take q.spots.length).map SpotD.enc = q.spots.map SpotD.enc := by rw [List.take_of_length_le (Nat.le_refl _)]
  repeat' (first | refine awp_seq ?_ | refine awp_block ?_ | refine awp_round ?_ | refine awp_scope ?_ | refine awp_text rfl ?_ | refine awp_any rfl mix (by kernel_rfl) ?_ | (refine RunTo.unguard rfl rfl (fun hg => ?_) (fun hg => ?_) <;> ((try simp only [Bool.not_true, Bool.not_false, Bool.not_eq_true', Bool.not_eq_false', Bool.not_eq_eq_eq_not] at hg); (first | (cases hg) | (simp only [hg]) | skip))) | ((first | refine RunTo.plain rfl ?_ | refine RunTo.skipped rfl ?_); simp only [go_sem, ↓reduceIte, Nat.reduceEqDiff, Nat.reduceAdd, Nat.reduceLeDiff, Nat.reduceBEq, Nat.reduceMul, reduceCtorEq, Int.reduceLE, Int.reduceLT, Int.reduceAdd, Int.reduceSub, Int.reduceNeg, Int.reduceToNat, Int.reduceBEq, hdec, List.length_map]) | ((first | refine RunTo.nilA (by kernel_rfl) ?_ | refine RunTo.nilT ?_ | refine awp_skip ?_ | refine awp_exit ?_ | refine awp_label ?_); simp only [go_sem, ↓reduceIte, Nat.reduceEqDiff, Nat.reduceAdd, Nat.reduceLeDiff, Nat.reduceBEq, Nat.reduceMul, reduceCtorEq, Int.reduceLE, Int.reduceLT, Int.reduceAdd, Int.reduceSub, Int.reduceNeg, Int.reduceToNat, Int.reduceBEq, hdec, List.length_map]) | (refine awp_cond' rfl (of_decide_eq_true rfl) (fun hc => ?_) (fun hc => ?_) <;> ((try simp only [Bool.not_true, Bool.not_false, Bool.not_eq_true', Bool.not_eq_false', Bool.not_eq_eq_eq_not] at hc); (first | (cases hc) | (simp only [hc]) | skip))))
  simp only [go_sem, ↓reduceIte, Nat.reduceEqDiff, Nat.reduceAdd, Nat.reduceLeDiff, Nat.reduceBEq, Nat.reduceMul, reduceCtorEq, Int.reduceLE, Int.reduceLT, Int.reduceAdd, Int.reduceSub, Int.reduceNeg, Int.reduceToNat, Int.reduceBEq, hful]
  refine awp_weak (weak_nilbox (b := 3) (j := 1) (s := 50) (sz := 6) rfl rfl rfl) ?_
  simp only [go_sem, ↓reduceIte, Nat.reduceEqDiff, Nat.reduceAdd, Nat.reduceLeDiff, Nat.reduceBEq, Nat.reduceMul, reduceCtorEq, Int.reduceLE, Int.reduceLT, Int.reduceAdd, Int.reduceSub, Int.reduceNeg, Int.reduceToNat, Int.reduceBEq, List.set_cons_zero, List.set_cons_succ]
  refine awp_loopw (IO1 q) q.hops.length (SO1 q 0 _ _ _ _) (weak_keep ⟨rfl, rfl, rfl, rfl, trivial⟩ ⟨rfl, rfl, rfl, rfl, rfl, trivial⟩ (Nat.le_refl _)) ⟨0, _, _, _, _, Nat.zero_le _, rfl, rfl⟩ ?_
  rintro n st ⟨k, T, e9, e0, e1, hk, rfl, rfl⟩
  have hrl : ((q.hops.take k).map HopD.enc).length = k := by simp; omega
  have htr : List.take k ((q.hops.take k).map HopD.enc) = (q.hops.take k).map HopD.enc := List.take_of_length_le (by omega)
  by_cases hlt : k < q.hops.length
  · have hdec := lt_t hlt
    have hget := row_at HopD.enc q.hops k hlt
    have htk : (q.hops.take (k + 1)).map HopD.enc = (q.hops.take k).map HopD.enc ++ [HopD.enc q.hops[k]] := by rw [List.take_succ_eq_append_getElem hlt, List.map_append]; rfl
    have hwk : IntKind.i64.wrap ((k : Int) + 1) = ((k + 1 : Nat) : Int) := wrap_succ (by omega)
    have c1 : ((k + 1) * 56 ≤ 140737488355328) = True := eq_true (by omega)
    have hle : (k ≤ (List.take k q.hops).length) = True := eq_true (by rw [List.length_take]; omega)
    have hrw : HopD.enc q.hops[k] = [ds' q.hops[k].var, ds' q.hops[k].type, db q.hops[k].back, db q.hops[k].many, di q.hops[k].least, di q.hops[k].most] := rfl
    rw [hrw] at hget
    generalize q.hops[k] = t at *
    repeat' (first | refine awp_seq ?_ | refine awp_block ?_ | refine awp_round ?_ | refine awp_scope ?_ | refine awp_text rfl ?_ | refine awp_any rfl mix (by kernel_rfl) ?_ | (refine RunTo.unguard rfl rfl (fun hg => ?_) (fun hg => ?_) <;> ((try simp only [Bool.not_true, Bool.not_false, Bool.not_eq_true', Bool.not_eq_false', Bool.not_eq_eq_eq_not] at hg); (first | (cases hg) | (simp only [hg]) | skip))) | ((first | refine RunTo.plain rfl ?_ | refine RunTo.skipped rfl ?_); simp only [go_sem, ↓reduceIte, Nat.reduceEqDiff, Nat.reduceAdd, Nat.reduceLeDiff, Nat.reduceBEq, Nat.reduceMul, reduceCtorEq, Int.reduceLE, Int.reduceLT, Int.reduceAdd, Int.reduceSub, Int.reduceNeg, Int.reduceToNat, Int.reduceBEq, hdec, hget, hwk, htr, hle, hrl, c1, List.length_map, List.length_cons, List.length_nil, lenTy, implies_true]) | ((first | refine RunTo.nilA (by kernel_rfl) ?_ | refine RunTo.nilT ?_ | refine awp_skip ?_ | refine awp_exit ?_ | refine awp_label ?_); simp only [go_sem, ↓reduceIte, Nat.reduceEqDiff, Nat.reduceAdd, Nat.reduceLeDiff, Nat.reduceBEq, Nat.reduceMul, reduceCtorEq, Int.reduceLE, Int.reduceLT, Int.reduceAdd, Int.reduceSub, Int.reduceNeg, Int.reduceToNat, Int.reduceBEq, hdec, hget, hwk, htr, hle, hrl, c1, List.length_map, List.length_cons, List.length_nil, lenTy, implies_true]) | (refine awp_cond' rfl (of_decide_eq_true rfl) (fun hc => ?_) (fun hc => ?_) <;> ((try simp only [Bool.not_true, Bool.not_false, Bool.not_eq_true', Bool.not_eq_false', Bool.not_eq_eq_eq_not] at hc); (first | (cases hc) | (simp only [hc]) | skip))))
    all_goals exact ⟨q.hops.length - (k + 1), by omega, SO1 q (k + 1) _ _ _ _, weak_keep ⟨rfl, rfl, rfl, rfl, trivial⟩ ⟨rfl, rfl, rfl, rfl, by rw [htk]; rfl, trivial⟩ (Nat.le_refl _), k + 1, _, _, _, _, by omega, rfl, rfl⟩
  have hdec := lt_f hlt
  obtain rfl : k = q.hops.length := by omega
  rw [List.take_of_length_le (Nat.le_refl _)] at hrl htr
  have hful : (q.hops.take q.hops.length).map HopD.enc = q.hops.map HopD.enc := by rw [List.take_of_length_le (Nat.le_refl _)]
  repeat' (first | refine awp_seq ?_ | refine awp_block ?_ | refine awp_round ?_ | refine awp_scope ?_ | refine awp_text rfl ?_ | refine awp_any rfl mix (by kernel_rfl) ?_ | (refine RunTo.unguard rfl rfl (fun hg => ?_) (fun hg => ?_) <;> ((try simp only [Bool.not_true, Bool.not_false, Bool.not_eq_true', Bool.not_eq_false', Bool.not_eq_eq_eq_not] at hg); (first | (cases hg) | (simp only [hg]) | skip))) | ((first | refine RunTo.plain rfl ?_ | refine RunTo.skipped rfl ?_); simp only [go_sem, ↓reduceIte, Nat.reduceEqDiff, Nat.reduceAdd, Nat.reduceLeDiff, Nat.reduceBEq, Nat.reduceMul, reduceCtorEq, Int.reduceLE, Int.reduceLT, Int.reduceAdd, Int.reduceSub, Int.reduceNeg, Int.reduceToNat, Int.reduceBEq, hdec, List.length_map]) | ((first | refine RunTo.nilA (by kernel_rfl) ?_ | refine RunTo.nilT ?_ | refine awp_skip ?_ | refine awp_exit ?_ | refine awp_label ?_); simp only [go_sem, ↓reduceIte, Nat.reduceEqDiff, Nat.reduceAdd, Nat.reduceLeDiff, Nat.reduceBEq, Nat.reduceMul, reduceCtorEq, Int.reduceLE, Int.reduceLT, Int.reduceAdd, Int.reduceSub, Int.reduceNeg, Int.reduceToNat, Int.reduceBEq, hdec, List.length_map]) | (refine awp_cond' rfl (of_decide_eq_true rfl) (fun hc => ?_) (fun hc => ?_) <;> ((try simp only [Bool.not_true, Bool.not_false, Bool.not_eq_true', Bool.not_eq_false', Bool.not_eq_eq_eq_not] at hc); (first | (cases hc) | (simp only [hc]) | skip))))
  simp only [go_sem, ↓reduceIte, Nat.reduceEqDiff, Nat.reduceAdd, Nat.reduceLeDiff, Nat.reduceBEq, Nat.reduceMul, reduceCtorEq, Int.reduceLE, Int.reduceLT, Int.reduceAdd, Int.reduceSub, Int.reduceNeg, Int.reduceToNat, Int.reduceBEq, hful]
  refine awp_weak (weak_nilbox (b := 3) (j := 3) (s := 76) (sz := 2) rfl rfl rfl) ?_
  simp only [go_sem, ↓reduceIte, Nat.reduceEqDiff, Nat.reduceAdd, Nat.reduceLeDiff, Nat.reduceBEq, Nat.reduceMul, reduceCtorEq, Int.reduceLE, Int.reduceLT, Int.reduceAdd, Int.reduceSub, Int.reduceNeg, Int.reduceToNat, Int.reduceBEq, List.set_cons_zero, List.set_cons_succ]
  refine awp_loopw (IO2 q) q.items.length (SO2 q 0 _ _ _ _ _) (weak_keep ⟨rfl, rfl, rfl, rfl, trivial⟩ ⟨rfl, rfl, rfl, rfl, rfl, rfl, trivial⟩ (Nat.le_refl _)) ⟨0, _, _, _, _, _, Nat.zero_le _, rfl, rfl⟩ ?_
  rintro n st ⟨k, T, e9, e0, e1, e2, hk, rfl, rfl⟩
  have hrl : ((q.items.take k).map ItemD.enc).length = k := by simp; omega
  have htr : List.take k ((q.items.take k).map ItemD.enc) = (q.items.take k).map ItemD.enc := List.take_of_length_le (by omega)
  by_cases hlt : k < q.items.length
  · have hdec := lt_t hlt
    have hget := row_at ItemD.enc q.items k hlt
    have htk : (q.items.take (k + 1)).map ItemD.enc = (q.items.take k).map ItemD.enc ++ [ItemD.enc q.items[k]] := by rw [List.take_succ_eq_append_getElem hlt, List.map_append]; rfl
    have hwk : IntKind.i64.wrap ((k : Int) + 1) = ((k + 1 : Nat) : Int) := wrap_succ (by omega)
    have c1 : ((k + 1) * 32 ≤ 140737488355328) = True := eq_true (by omega)
    have hle : (k ≤ (List.take k q.items).length) = True := eq_true (by rw [List.length_take]; omega)
    have hcp := c_copyT q.items[k].terms (h.items _ (List.getElem_mem hlt)).len
    have hrw : ItemD.enc q.items[k] = [di q.items[k].fn, .lst 8 (q.items[k].terms.map TermD.enc)] := rfl
    rw [hrw] at hget
    generalize q.items[k] = t at *
    repeat' (first | refine awp_seq ?_ | refine awp_block ?_ | refine awp_round ?_ | refine awp_scope ?_ | refine awp_text rfl ?_ | refine awp_any rfl mix (by kernel_rfl) ?_ | (refine RunTo.unguard rfl rfl (fun hg => ?_) (fun hg => ?_) <;> ((try simp only [Bool.not_true, Bool.not_false, Bool.not_eq_true', Bool.not_eq_false', Bool.not_eq_eq_eq_not] at hg); (first | (cases hg) | (simp only [hg]) | skip))) | ((first | refine RunTo.plain rfl ?_ | refine RunTo.skipped rfl ?_ | refine RunTo.call (hcp) Tryz.func13 rfl rfl rfl rfl rfl rfl rfl rfl ?_); simp only [go_sem, ↓reduceIte, Nat.reduceEqDiff, Nat.reduceAdd, Nat.reduceLeDiff, Nat.reduceBEq, Nat.reduceMul, reduceCtorEq, Int.reduceLE, Int.reduceLT, Int.reduceAdd, Int.reduceSub, Int.reduceNeg, Int.reduceToNat, Int.reduceBEq, hdec, hget, hwk, htr, hle, hrl, c1, List.length_map, List.length_cons, List.length_nil, lenTy, implies_true]) | ((first | refine RunTo.nilA (by kernel_rfl) ?_ | refine RunTo.nilT ?_ | refine awp_skip ?_ | refine awp_exit ?_ | refine awp_label ?_); simp only [go_sem, ↓reduceIte, Nat.reduceEqDiff, Nat.reduceAdd, Nat.reduceLeDiff, Nat.reduceBEq, Nat.reduceMul, reduceCtorEq, Int.reduceLE, Int.reduceLT, Int.reduceAdd, Int.reduceSub, Int.reduceNeg, Int.reduceToNat, Int.reduceBEq, hdec, hget, hwk, htr, hle, hrl, c1, List.length_map, List.length_cons, List.length_nil, lenTy, implies_true]) | (refine awp_cond' rfl (of_decide_eq_true rfl) (fun hc => ?_) (fun hc => ?_) <;> ((try simp only [Bool.not_true, Bool.not_false, Bool.not_eq_true', Bool.not_eq_false', Bool.not_eq_eq_eq_not] at hc); (first | (cases hc) | (simp only [hc]) | skip))))
    all_goals exact ⟨q.items.length - (k + 1), by omega, SO2 q (k + 1) _ _ _ _ _, weak_keep ⟨rfl, rfl, rfl, rfl, trivial⟩ ⟨rfl, rfl, rfl, rfl, rfl, by rw [htk]; rfl, trivial⟩ (Nat.le_refl _), k + 1, _, _, _, _, _, by omega, rfl, rfl⟩
  have hdec := lt_f hlt
  obtain rfl : k = q.items.length := by omega
  rw [List.take_of_length_le (Nat.le_refl _)] at hrl htr
  have hful : (q.items.take q.items.length).map ItemD.enc = q.items.map ItemD.enc := by rw [List.take_of_length_le (Nat.le_refl _)]
  repeat' (first | refine awp_seq ?_ | refine awp_block ?_ | refine awp_round ?_ | refine awp_scope ?_ | refine awp_text rfl ?_ | refine awp_any rfl mix (by kernel_rfl) ?_ | (refine RunTo.unguard rfl rfl (fun hg => ?_) (fun hg => ?_) <;> ((try simp only [Bool.not_true, Bool.not_false, Bool.not_eq_true', Bool.not_eq_false', Bool.not_eq_eq_eq_not] at hg); (first | (cases hg) | (simp only [hg]) | skip))) | ((first | refine RunTo.plain rfl ?_ | refine RunTo.skipped rfl ?_); simp only [go_sem, ↓reduceIte, Nat.reduceEqDiff, Nat.reduceAdd, Nat.reduceLeDiff, Nat.reduceBEq, Nat.reduceMul, reduceCtorEq, Int.reduceLE, Int.reduceLT, Int.reduceAdd, Int.reduceSub, Int.reduceNeg, Int.reduceToNat, Int.reduceBEq, hdec, List.length_map]) | ((first | refine RunTo.nilA (by kernel_rfl) ?_ | refine RunTo.nilT ?_ | refine awp_skip ?_ | refine awp_exit ?_ | refine awp_label ?_); simp only [go_sem, ↓reduceIte, Nat.reduceEqDiff, Nat.reduceAdd, Nat.reduceLeDiff, Nat.reduceBEq, Nat.reduceMul, reduceCtorEq, Int.reduceLE, Int.reduceLT, Int.reduceAdd, Int.reduceSub, Int.reduceNeg, Int.reduceToNat, Int.reduceBEq, hdec, List.length_map]) | (refine awp_cond' rfl (of_decide_eq_true rfl) (fun hc => ?_) (fun hc => ?_) <;> ((try simp only [Bool.not_true, Bool.not_false, Bool.not_eq_true', Bool.not_eq_false', Bool.not_eq_eq_eq_not] at hc); (first | (cases hc) | (simp only [hc]) | skip))))
  simp only [go_sem, ↓reduceIte, Nat.reduceEqDiff, Nat.reduceAdd, Nat.reduceLeDiff, Nat.reduceBEq, Nat.reduceMul, reduceCtorEq, Int.reduceLE, Int.reduceLT, Int.reduceAdd, Int.reduceSub, Int.reduceNeg, Int.reduceToNat, Int.reduceBEq, hful]
  refine awp_weak (weak_nilbox (b := 3) (j := 5) (s := 93) (sz := 2) rfl rfl rfl) ?_
  simp only [go_sem, ↓reduceIte, Nat.reduceEqDiff, Nat.reduceAdd, Nat.reduceLeDiff, Nat.reduceBEq, Nat.reduceMul, reduceCtorEq, Int.reduceLE, Int.reduceLT, Int.reduceAdd, Int.reduceSub, Int.reduceNeg, Int.reduceToNat, Int.reduceBEq, List.set_cons_zero, List.set_cons_succ]
  refine awp_loopw (IO3 q) q.sorts.length (SO3 q 0 _ _ _ _ _ _) (weak_keep ⟨rfl, rfl, rfl, rfl, trivial⟩ ⟨rfl, rfl, rfl, rfl, rfl, rfl, rfl, trivial⟩ (Nat.le_refl _)) ⟨0, _, _, _, _, _, _, Nat.zero_le _, rfl, rfl⟩ ?_
  rintro n st ⟨k, T, e9, e0, e1, e2, e3, hk, rfl, rfl⟩
  have hrl : ((q.sorts.take k).map SortD.enc).length = k := by simp; omega
  have htr : List.take k ((q.sorts.take k).map SortD.enc) = (q.sorts.take k).map SortD.enc := List.take_of_length_le (by omega)
  by_cases hlt : k < q.sorts.length
  · have hdec := lt_t hlt
    have hget := row_at SortD.enc q.sorts k hlt
    have htk : (q.sorts.take (k + 1)).map SortD.enc = (q.sorts.take k).map SortD.enc ++ [SortD.enc q.sorts[k]] := by rw [List.take_succ_eq_append_getElem hlt, List.map_append]; rfl
    have hwk : IntKind.i64.wrap ((k : Int) + 1) = ((k + 1 : Nat) : Int) := wrap_succ (by omega)
    have c1 : ((k + 1) * 16 ≤ 140737488355328) = True := eq_true (by omega)
    have hle : (k ≤ (List.take k q.sorts).length) = True := eq_true (by rw [List.length_take]; omega)
    have hrw : SortD.enc q.sorts[k] = [di q.sorts[k].item, db q.sorts[k].desc] := rfl
    rw [hrw] at hget
    generalize q.sorts[k] = t at *
    repeat' (first | refine awp_seq ?_ | refine awp_block ?_ | refine awp_round ?_ | refine awp_scope ?_ | refine awp_text rfl ?_ | refine awp_any rfl mix (by kernel_rfl) ?_ | (refine RunTo.unguard rfl rfl (fun hg => ?_) (fun hg => ?_) <;> ((try simp only [Bool.not_true, Bool.not_false, Bool.not_eq_true', Bool.not_eq_false', Bool.not_eq_eq_eq_not] at hg); (first | (cases hg) | (simp only [hg]) | skip))) | ((first | refine RunTo.plain rfl ?_ | refine RunTo.skipped rfl ?_); simp only [go_sem, ↓reduceIte, Nat.reduceEqDiff, Nat.reduceAdd, Nat.reduceLeDiff, Nat.reduceBEq, Nat.reduceMul, reduceCtorEq, Int.reduceLE, Int.reduceLT, Int.reduceAdd, Int.reduceSub, Int.reduceNeg, Int.reduceToNat, Int.reduceBEq, hdec, hget, hwk, htr, hle, hrl, c1, List.length_map, List.length_cons, List.length_nil, lenTy, implies_true]) | ((first | refine RunTo.nilA (by kernel_rfl) ?_ | refine RunTo.nilT ?_ | refine awp_skip ?_ | refine awp_exit ?_ | refine awp_label ?_); simp only [go_sem, ↓reduceIte, Nat.reduceEqDiff, Nat.reduceAdd, Nat.reduceLeDiff, Nat.reduceBEq, Nat.reduceMul, reduceCtorEq, Int.reduceLE, Int.reduceLT, Int.reduceAdd, Int.reduceSub, Int.reduceNeg, Int.reduceToNat, Int.reduceBEq, hdec, hget, hwk, htr, hle, hrl, c1, List.length_map, List.length_cons, List.length_nil, lenTy, implies_true]) | (refine awp_cond' rfl (of_decide_eq_true rfl) (fun hc => ?_) (fun hc => ?_) <;> ((try simp only [Bool.not_true, Bool.not_false, Bool.not_eq_true', Bool.not_eq_false', Bool.not_eq_eq_eq_not] at hc); (first | (cases hc) | (simp only [hc]) | skip))))
    all_goals exact ⟨q.sorts.length - (k + 1), by omega, SO3 q (k + 1) _ _ _ _ _ _, weak_keep ⟨rfl, rfl, rfl, rfl, trivial⟩ ⟨rfl, rfl, rfl, rfl, rfl, rfl, by rw [htk]; rfl, trivial⟩ (Nat.le_refl _), k + 1, _, _, _, _, _, _, by omega, rfl, rfl⟩
  have hdec := lt_f hlt
  obtain rfl : k = q.sorts.length := by omega
  rw [List.take_of_length_le (Nat.le_refl _)] at hrl htr
  have hful : (q.sorts.take q.sorts.length).map SortD.enc = q.sorts.map SortD.enc := by rw [List.take_of_length_le (Nat.le_refl _)]
  repeat' (first | refine awp_seq ?_ | refine awp_block ?_ | refine awp_round ?_ | refine awp_scope ?_ | refine awp_text rfl ?_ | refine awp_any rfl mix (by kernel_rfl) ?_ | (refine RunTo.unguard rfl rfl (fun hg => ?_) (fun hg => ?_) <;> ((try simp only [Bool.not_true, Bool.not_false, Bool.not_eq_true', Bool.not_eq_false', Bool.not_eq_eq_eq_not] at hg); (first | (cases hg) | (simp only [hg]) | skip))) | ((first | refine RunTo.plain rfl ?_ | refine RunTo.skipped rfl ?_); simp only [go_sem, ↓reduceIte, Nat.reduceEqDiff, Nat.reduceAdd, Nat.reduceLeDiff, Nat.reduceBEq, Nat.reduceMul, reduceCtorEq, Int.reduceLE, Int.reduceLT, Int.reduceAdd, Int.reduceSub, Int.reduceNeg, Int.reduceToNat, Int.reduceBEq, hdec, List.length_map]) | ((first | refine RunTo.nilA (by kernel_rfl) ?_ | refine RunTo.nilT ?_ | refine awp_skip ?_ | refine awp_exit ?_ | refine awp_label ?_); simp only [go_sem, ↓reduceIte, Nat.reduceEqDiff, Nat.reduceAdd, Nat.reduceLeDiff, Nat.reduceBEq, Nat.reduceMul, reduceCtorEq, Int.reduceLE, Int.reduceLT, Int.reduceAdd, Int.reduceSub, Int.reduceNeg, Int.reduceToNat, Int.reduceBEq, hdec, List.length_map]) | (refine awp_cond' rfl (of_decide_eq_true rfl) (fun hc => ?_) (fun hc => ?_) <;> ((try simp only [Bool.not_true, Bool.not_false, Bool.not_eq_true', Bool.not_eq_false', Bool.not_eq_eq_eq_not] at hc); (first | (cases hc) | (simp only [hc]) | skip))))
  all_goals (first | refine awp_ret ?_ | skip); refine ⟨(by first | exact .inl rfl | exact .inr rfl | exact .inr trivial | trivial), ?_⟩; simp only [go_sem, ↓reduceIte, Nat.reduceEqDiff, Nat.reduceAdd, Nat.reduceLeDiff, Nat.reduceBEq, Nat.reduceMul, reduceCtorEq, Int.reduceLE, Int.reduceLT, Int.reduceAdd, Int.reduceSub, Int.reduceNeg, Int.reduceToNat, Int.reduceBEq, retV, resL, resV, sealV, sealC, sealAll, Tryz.f5]
  all_goals rw [hful]
  all_goals simp only [List.length_map, Nat.le_refl, ↓reduceIte, g0, g1, g2, g3]
end Go.Proofs.YtinpnidokpjfhaaGreatDoor.AM
namespace Go.Proofs.YtinpnidokpjfhaaGreatDoor.AM
open Go.RowKit
set_option linter.unusedSimpArgs false
set_option linter.unusedVariables false
set_option maxRecDepth 10000
set_option maxHeartbeats 0
def oneQ : QueryD := ⟨[⟨eE, eE, []⟩], [], [], [⟨1, []⟩], false, [], -1, -1⟩
abbrev oneT : ByteArray := ⟨#[109, 97, 116, 99, 104, 32, 40, 41, 32, 114, 101, 116, 117, 114, 110, 32, 99, 111, 117, 110, 116, 40, 42, 41]⟩
theorem one_law : LawQ oneQ where
  nspots := by decide
  spots := fun s hs => by
    obtain rfl := List.mem_singleton.1 hs
    exact ⟨by decide, by decide, by decide, fun p hp => by cases hp⟩
  nhops := by decide
  hops := fun h hh => by cases hh
  wh := ⟨by decide, fun t ht => by cases ht⟩
  nitems := by decide
  items := fun x hx => by
    obtain rfl := List.mem_singleton.1 hx
    exact ⟨by decide, fun t ht => by cases ht⟩
  nsorts := by decide
  sorts := fun x hx => by cases hx
  skip := ⟨by decide, by decide⟩
  limit := ⟨by decide, by decide⟩
theorem one_print : printQ2 oneQ = oneT := by decide +kernel
abbrev nO : Dat := .lit (.slice none 0 0)
abbrev oneM : List AV := [.dat (.lst 3 [[ds' eE, ds' eE, nO]]), .dat nO, .dat nO, .dat (.lst 2 [[di 1, nO]]), bv false, .dat nO, iv (-1), iv (-1)]
theorem one_le : AleL [.agg oneM] [oneQ.av] := .cons (.agg (.cons (.dat (DleR.dat (.cons (.cons (.refl _) (.cons (.refl _) (.cons (.nil 6) .nil))) .nil))) (.cons (.dat (.nil 6)) (.cons (.dat (.nil 8)) (.cons (.dat (DleR.dat (.cons (.cons (.refl _) (.cons (.nil 8) .nil)) .nil))) (.cons (.refl _) (.cons (.dat (.nil 2)) (.cons (.refl _) (.cons (.refl _) .nil))))))))) .nil
theorem c_PrintOne : Pure Tryz.prog 8 [.agg oneM] (sv oneT) := by
  have := pure_le (c_PrintAny oneQ one_law) one_le
  rw [one_print] at this
  exact this
theorem c_lawTells (q : QueryD) (hb : BigQ q) (hk : KindQ q) (hfl : FlQ q) : Pure Tryz.prog 3 [q.av] (bv true) := by
  have hfew := c_Few q hb
  by_cases h5 : fewN q < 5000
  · rw [if_pos h5] at hfew
    have lq := lawQ_of h5 hk
    have ho := c_Own q lq
    have r1 := c_RightAny q lq
    have r2 := c_rRight q lq hfl
    have p1 := c_PrintAny q lq
    have p2 := c_rPrintAny q lq hfl
    have d1 := c_Deep q.wh lq.wh.len
    have d2 := c_rDeep q.wh
    have po := c_PrintOne
    generalize rightQ2 q = r at *
    generalize printQ2 q = p at *
    generalize deepV q.wh = d at *
    clear hb hk hfl lq
    cases r
    all_goals
      refine pure_of_awp Tryz.func3 rfl rfl (by simp [Tryz.f3]) ?_; simp only [go_sem, ↓reduceIte, Nat.reduceEqDiff, Nat.reduceAdd, Nat.reduceLeDiff, Nat.reduceBEq, Nat.reduceMul, reduceCtorEq, Int.reduceLE, Int.reduceLT, Int.reduceAdd, Int.reduceSub, Int.reduceNeg, Int.reduceToNat, Int.reduceBEq]
      repeat' (first | refine awp_seq ?_ | refine awp_block ?_ | refine awp_round ?_ | refine awp_scope ?_ | refine awp_text rfl ?_ | refine awp_any rfl mix (by kernel_rfl) ?_ | (refine RunTo.unguard rfl rfl (fun hg => ?_) (fun hg => ?_) <;> ((try simp only [Bool.not_true, Bool.not_false, Bool.not_eq_true', Bool.not_eq_false', Bool.not_eq_eq_eq_not] at hg); (first | (cases hg) | (simp only [hg]) | skip))) | ((first | refine RunTo.plain rfl ?_ | refine RunTo.skipped rfl ?_ | refine RunTo.call (hfew) Tryz.func4 rfl rfl rfl rfl rfl rfl rfl rfl ?_ | refine RunTo.call (ho) Tryz.func5 rfl rfl rfl rfl rfl rfl rfl rfl ?_ | refine RunTo.call (r1) Tryz.func6 rfl rfl rfl rfl rfl rfl rfl rfl ?_ | refine RunTo.call (r2) Tryz.func7 rfl rfl rfl rfl rfl rfl rfl rfl ?_ | refine RunTo.call (p1) Tryz.func8 rfl rfl rfl rfl rfl rfl rfl rfl ?_ | refine RunTo.call (p2) Tryz.func9 rfl rfl rfl rfl rfl rfl rfl rfl ?_ | refine RunTo.call (d1) Tryz.func10 rfl rfl rfl rfl rfl rfl rfl rfl ?_ | refine RunTo.call (d2) Tryz.func11 rfl rfl rfl rfl rfl rfl rfl rfl ?_); simp only [go_sem, ↓reduceIte, Nat.reduceEqDiff, Nat.reduceAdd, Nat.reduceLeDiff, Nat.reduceBEq, Nat.reduceMul, reduceCtorEq, Int.reduceLE, Int.reduceLT, Int.reduceAdd, Int.reduceSub, Int.reduceNeg, Int.reduceToNat, Int.reduceBEq, QueryD.av]) | (refine RunTo.lentE (po) Tryz.func8 rfl rfl rfl rfl rfl rfl ?_; simp only [go_sem, ↓reduceIte, Nat.reduceEqDiff, Nat.reduceAdd, Nat.reduceLeDiff, Nat.reduceBEq, Nat.reduceMul, reduceCtorEq, Int.reduceLE, Int.reduceLT, Int.reduceAdd, Int.reduceSub, Int.reduceNeg, Int.reduceToNat, Int.reduceBEq, QueryD.av, Option.some.injEq, List.cons.injEq]; (repeat' refine And.intro rfl ?_); with_reducible refine RunTo.this ?_) | ((first | refine RunTo.nilA (by kernel_rfl) ?_ | refine RunTo.nilT ?_ | refine awp_skip ?_ | refine awp_exit ?_ | refine awp_label ?_); simp only [go_sem, ↓reduceIte, Nat.reduceEqDiff, Nat.reduceAdd, Nat.reduceLeDiff, Nat.reduceBEq, Nat.reduceMul, reduceCtorEq, Int.reduceLE, Int.reduceLT, Int.reduceAdd, Int.reduceSub, Int.reduceNeg, Int.reduceToNat, Int.reduceBEq, QueryD.av]) | (refine awp_cond' rfl (of_decide_eq_true rfl) (fun hc => ?_) (fun hc => ?_) <;> ((try simp only [Bool.not_true, Bool.not_false, Bool.not_eq_true', Bool.not_eq_false', Bool.not_eq_eq_eq_not] at hc); (first | (cases hc) | (simp only [hc]) | skip))))
      all_goals (first | refine awp_ret ?_ | skip); refine ⟨(by first | exact .inl rfl | exact .inr rfl | exact .inr trivial | trivial), ?_⟩; simp only [go_sem, ↓reduceIte, Nat.reduceEqDiff, Nat.reduceAdd, Nat.reduceLeDiff, Nat.reduceBEq, Nat.reduceMul, reduceCtorEq, Int.reduceLE, Int.reduceLT, Int.reduceAdd, Int.reduceSub, Int.reduceNeg, Int.reduceToNat, Int.reduceBEq, retV, resL, resV, sealV, sealC, sealAll, Tryz.f3]
      all_goals rfl
  · rw [if_neg h5] at hfew
    refine pure_of_awp Tryz.func3 rfl rfl (by simp [Tryz.f3]) ?_; simp only [go_sem, ↓reduceIte, Nat.reduceEqDiff, Nat.reduceAdd, Nat.reduceLeDiff, Nat.reduceBEq, Nat.reduceMul, reduceCtorEq, Int.reduceLE, Int.reduceLT, Int.reduceAdd, Int.reduceSub, Int.reduceNeg, Int.reduceToNat, Int.reduceBEq]
    repeat' (first | refine awp_seq ?_ | refine awp_block ?_ | refine awp_round ?_ | refine awp_scope ?_ | refine awp_text rfl ?_ | refine awp_any rfl mix (by kernel_rfl) ?_ | (refine RunTo.unguard rfl rfl (fun hg => ?_) (fun hg => ?_) <;> ((try simp only [Bool.not_true, Bool.not_false, Bool.not_eq_true', Bool.not_eq_false', Bool.not_eq_eq_eq_not] at hg); (first | (cases hg) | (simp only [hg]) | skip))) | ((first | refine RunTo.plain rfl ?_ | refine RunTo.skipped rfl ?_ | refine RunTo.call (hfew) Tryz.func4 rfl rfl rfl rfl rfl rfl rfl rfl ?_); simp only [go_sem, ↓reduceIte, Nat.reduceEqDiff, Nat.reduceAdd, Nat.reduceLeDiff, Nat.reduceBEq, Nat.reduceMul, reduceCtorEq, Int.reduceLE, Int.reduceLT, Int.reduceAdd, Int.reduceSub, Int.reduceNeg, Int.reduceToNat, Int.reduceBEq, QueryD.av]) | ((first | refine RunTo.nilA (by kernel_rfl) ?_ | refine RunTo.nilT ?_ | refine awp_skip ?_ | refine awp_exit ?_ | refine awp_label ?_); simp only [go_sem, ↓reduceIte, Nat.reduceEqDiff, Nat.reduceAdd, Nat.reduceLeDiff, Nat.reduceBEq, Nat.reduceMul, reduceCtorEq, Int.reduceLE, Int.reduceLT, Int.reduceAdd, Int.reduceSub, Int.reduceNeg, Int.reduceToNat, Int.reduceBEq, QueryD.av]) | (refine awp_cond' rfl (of_decide_eq_true rfl) (fun hc => ?_) (fun hc => ?_) <;> ((try simp only [Bool.not_true, Bool.not_false, Bool.not_eq_true', Bool.not_eq_false', Bool.not_eq_eq_eq_not] at hc); (first | (cases hc) | (simp only [hc]) | skip))))
    all_goals (first | refine awp_ret ?_ | skip); refine ⟨(by first | exact .inl rfl | exact .inr rfl | exact .inr trivial | trivial), ?_⟩; simp only [go_sem, ↓reduceIte, Nat.reduceEqDiff, Nat.reduceAdd, Nat.reduceLeDiff, Nat.reduceBEq, Nat.reduceMul, reduceCtorEq, Int.reduceLE, Int.reduceLT, Int.reduceAdd, Int.reduceSub, Int.reduceNeg, Int.reduceToNat, Int.reduceBEq, retV, resL, resV, sealV, sealC, sealAll, Tryz.f3]
    all_goals rfl
end Go.Proofs.YtinpnidokpjfhaaGreatDoor.AM
