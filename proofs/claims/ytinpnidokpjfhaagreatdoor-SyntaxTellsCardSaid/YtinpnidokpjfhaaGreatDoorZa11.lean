/- Part 11 of the proof: words, contracts, plain laws. Laid by a program of this session (wip/tool/shake.py): what is needed of own and printed texts, in order. -/
import Derived.Test.YtinpnidokpjfhaaGreatDoorZa0
import Derived.Test.YtinpnidokpjfhaaGreatDoorZa1
import Derived.Test.YtinpnidokpjfhaaGreatDoorZa2
import Derived.Test.YtinpnidokpjfhaaGreatDoorZa3
import Derived.Test.YtinpnidokpjfhaaGreatDoorZa5
import Derived.Test.YtinpnidokpjfhaaGreatDoorZa6
import Derived.Test.YtinpnidokpjfhaaGreatDoorZa7
import Derived.Test.YtinpnidokpjfhaaGreatDoorZa8
import Derived.Test.YtinpnidokpjfhaaGreatDoorZa9
import Derived.Test.YtinpnidokpjfhaaGreatDoorZa10
import Derived.Calls
import Derived.Lib.ItoaNum
import Derived.Orders
import Derived.Tactics
import Derived.Below
import Derived.Laws.Rows
import Derived.Laws.World
import Derived.Laws.CopyRow
import Derived.Lib.FrozenHead
import Derived.Deep.AppendSrc
import Derived.Deep.Upon
import Derived.Laws.BytesArg
import Derived.IntWalk
import Derived.Laws.Externs
import Derived.LoopN
import Derived.Scope
import Derived.Test.YtinpnidokpjfhaaGreatDoorProg
import Derived.KernelRfl
import Derived.MapKept
import Derived.Laws.FloatBits
import Derived.Lib.ItoaMem
import Derived.Lib.ItoaLen
import Derived.Lib.Join
import Derived.RegionTactic
import Derived.Lib.AppendIntMem
import Derived.Shelf.Strings.Builder1
import Derived.Shelf.Strings.Builder2
import Derived.Shelf.Strings.OnBuilder
import Derived.Shelf.Small.Wraps
import Derived.Shelf.Strings.BuilderF
import Derived.Shelf.Strings.BuilderK
import Derived.Shelf.Strings.Builder2Cap
import Derived.Shelf.Strconv.Itoa0
import Derived.Shelf.Strconv.Itoa1
import Derived.Shelf.LaysM
import Derived.Shelf.Strconv.Itoa2
import Derived.Shelf.Strconv.Itoa3
import Derived.Shelf.Strings.BuilderCap
import Derived.Shelf.Slices.Turned
namespace Go.Proofs.YtinpnidokpjfhaaGreatDoor.AM
open Go.RowKit
set_option linter.unusedSimpArgs false
set_option linter.unusedVariables false
set_option maxRecDepth 10000
set_option maxHeartbeats 0
theorem c_rPrintQ (q : QueryD) (hq : SmallQ q) (ho : OkQ q) (hf : FlQ q) (hfq : fineQ q = true) (hvw : ∀ t ∈ q.wh, t.op = 1 → okV t.v) (hvi : ∀ x ∈ q.items, ∀ t ∈ x.terms, t.op = 1 → okV t.v) : Pure Tryz.prog 9 [q.av] (sv (queryT q)) := by
  have hfi := c_rFine q hq hf
  rw [hfq] at hfi
  have hfq' := hfq
  unfold fineQ at hfq'
  simp only [Bool.and_eq_true, Bool.or_eq_true, decide_eq_true_eq, beq_iff_eq] at hfq'
  obtain ⟨⟨⟨⟨⟨⟨⟨⟨⟨⟨a1, a2⟩, a3⟩, a4⟩, a5⟩, a6⟩, a7⟩, a8⟩, a9⟩, a10⟩, a11⟩ := hfq'
  have hri : ∀ x ∈ q.items, rightI x = true := fun x hx => List.all_eq_true.1 a10 x hx
  have hrh : ∀ x ∈ q.hops, rightH x = true := fun x hx => List.all_eq_true.1 a8 x hx
  have hso : ∀ x ∈ q.sorts, 1 ≤ x.item := fun x hx => by
    have := List.all_eq_true.1 a11 x hx
    unfold rightO at this
    simp only [Bool.and_eq_true, decide_eq_true_eq] at this
    exact this.1
  clear a1 a2 a3 a4 a5 a6 a7 a8 a9 a10 a11
  have hns := ho.nspots
  have hnh := ho.nhops
  refine pure_of_awp Tryz.func9 rfl rfl (by simp [Tryz.f9]) ?_; simp only [go_sem, ↓reduceIte, Nat.reduceEqDiff, Nat.reduceAdd, Nat.reduceLeDiff, Nat.reduceBEq, Nat.reduceMul, reduceCtorEq, Int.reduceLE, Int.reduceLT, Int.reduceAdd, Int.reduceSub, Int.reduceNeg, Int.reduceToNat, Int.reduceBEq]
  refine hideQ4 (fun T => SDp q (spotsT q q.spots.length) T) ?_ ?_
  · intro T
    refine hideQ1 (fun T => SDp q (whT q) T) ?_ ?_
    · intro T
      refine hideQ2 (fun T => SDp q (disT q) T) ?_ ?_
      · intro T
        refine hideQ1 (fun T => SDp q (itsT q) T) ?_ ?_
        · intro T
          refine hideQ1 (fun T => SDp q (ordT q) T) ?_ ?_
          · intro T
            have hb := ordT_big q ho
            refine hideQ1 (fun T => SDp q (numT skipW q.skip (ordT q)) T) ?_ ?_
            · intro T
              have hb2 := numT_big skipW (ordT q) q.skip ho.skip
              have hsk : skipW.size = 6 := rfl
              refine hideQ1 (fun T => SDp q (queryT q) T) ?_ ?_
              · intro T
                generalize queryT q = o at *
                repeat' (first | refine awp_seq ?_ | refine awp_block ?_ | refine awp_round ?_ | refine awp_scope ?_ | refine awp_text rfl ?_ | refine awp_any rfl mix (by kernel_rfl) ?_ | (refine RunTo.unguard rfl rfl (fun hg => ?_) (fun hg => ?_) <;> ((try simp only [Bool.not_true, Bool.not_false, Bool.not_eq_true', Bool.not_eq_false', Bool.not_eq_eq_eq_not] at hg); (first | (cases hg) | (simp only [hg]) | skip))) | ((first | refine RunTo.plain rfl ?_ | refine RunTo.skipped rfl ?_); simp only [go_sem, ↓reduceIte, Nat.reduceEqDiff, Nat.reduceAdd, Nat.reduceLeDiff, Nat.reduceBEq, Nat.reduceMul, reduceCtorEq, Int.reduceLE, Int.reduceLT, Int.reduceAdd, Int.reduceSub, Int.reduceNeg, Int.reduceToNat, Int.reduceBEq]) | ((first | refine RunTo.nilA (by kernel_rfl) ?_ | refine RunTo.nilT ?_ | refine awp_skip ?_ | refine awp_exit ?_ | refine awp_label ?_); simp only [go_sem, ↓reduceIte, Nat.reduceEqDiff, Nat.reduceAdd, Nat.reduceLeDiff, Nat.reduceBEq, Nat.reduceMul, reduceCtorEq, Int.reduceLE, Int.reduceLT, Int.reduceAdd, Int.reduceSub, Int.reduceNeg, Int.reduceToNat, Int.reduceBEq]) | (refine awp_cond' rfl (of_decide_eq_true rfl) (fun hc => ?_) (fun hc => ?_) <;> ((try simp only [Bool.not_true, Bool.not_false, Bool.not_eq_true', Bool.not_eq_false', Bool.not_eq_eq_eq_not] at hc); (first | (cases hc) | (simp only [hc]) | skip))))
                all_goals (first | refine awp_ret ?_ | skip); refine ⟨(by first | exact .inl rfl | exact .inr rfl | exact .inr trivial | trivial), ?_⟩; simp only [go_sem, ↓reduceIte, Nat.reduceEqDiff, Nat.reduceAdd, Nat.reduceLeDiff, Nat.reduceBEq, Nat.reduceMul, reduceCtorEq, Int.reduceLE, Int.reduceLT, Int.reduceAdd, Int.reduceSub, Int.reduceNeg, Int.reduceToNat, Int.reduceBEq, retV, resL, resV, sealV, sealC, sealAll, Tryz.f9]
                all_goals rfl
              · intro R' main
                by_cases h0 : 0 ≤ q.limit
                · have d0 : decide ((0 : Int) ≤ q.limit) = true := decide_eq_true h0
                  have hdg := c_rDgs q.limit h0 ho.limit.2
                  have his := itB_size _ ho.limit
                  have hup : queryT q = numT skipW q.skip (ordT q) ++ limitW ++ itB q.limit := (if_pos h0).trans (ByteArray.append_assoc).symm
                  generalize itB q.limit = y at *
                  have z1 : ((numT skipW q.skip (ordT q)).size + 7 ≤ 9223372036854775807) = True := eq_true (by omega)
                  have z2 : ((numT skipW q.skip (ordT q)).size + 7 + y.size ≤ 9223372036854775807) = True := eq_true (by omega)
                  generalize numT skipW q.skip (ordT q) = ob at *
                  repeat' (first | refine awp_seq ?_ | refine awp_block ?_ | refine awp_round ?_ | refine awp_scope ?_ | refine awp_text rfl ?_ | refine awp_any rfl mix (by kernel_rfl) ?_ | (refine RunTo.unguard rfl rfl (fun hg => ?_) (fun hg => ?_) <;> ((try simp only [Bool.not_true, Bool.not_false, Bool.not_eq_true', Bool.not_eq_false', Bool.not_eq_eq_eq_not] at hg); (first | (cases hg) | (simp only [hg]) | skip))) | ((first | refine RunTo.plain rfl ?_ | refine RunTo.skipped rfl ?_ | refine RunTo.call (hdg) Tryz.func28 rfl rfl rfl rfl rfl rfl rfl rfl ?_); simp only [go_sem, ↓reduceIte, Nat.reduceEqDiff, Nat.reduceAdd, Nat.reduceLeDiff, Nat.reduceBEq, Nat.reduceMul, reduceCtorEq, Int.reduceLE, Int.reduceLT, Int.reduceAdd, Int.reduceSub, Int.reduceNeg, Int.reduceToNat, Int.reduceBEq, d0, z1, z2, ByteArray.size_append, List.size_toArray]) | ((first | refine RunTo.nilA (by kernel_rfl) ?_ | refine RunTo.nilT ?_ | refine awp_skip ?_ | refine awp_exit ?_ | refine awp_label ?_); simp only [go_sem, ↓reduceIte, Nat.reduceEqDiff, Nat.reduceAdd, Nat.reduceLeDiff, Nat.reduceBEq, Nat.reduceMul, reduceCtorEq, Int.reduceLE, Int.reduceLT, Int.reduceAdd, Int.reduceSub, Int.reduceNeg, Int.reduceToNat, Int.reduceBEq, d0, z1, z2, ByteArray.size_append, List.size_toArray]) | (refine awp_cond' rfl (of_decide_eq_true rfl) (fun hc => ?_) (fun hc => ?_) <;> ((try simp only [Bool.not_true, Bool.not_false, Bool.not_eq_true', Bool.not_eq_false', Bool.not_eq_eq_eq_not] at hc); (first | (cases hc) | (simp only [hc]) | skip))))
                  all_goals exact awp_weak (st' := SDp q (queryT q) _) (weak_keep ⟨by rw [hup]; rfl, rfl, trivial⟩ ⟨rfl, trivial⟩ (Nat.le_refl _)) (main _)
                · have d0 : decide ((0 : Int) ≤ q.limit) = false := decide_eq_false h0
                  have hup : queryT q = numT skipW q.skip (ordT q) := if_neg h0
                  generalize numT skipW q.skip (ordT q) = ob at *
                  repeat' (first | refine awp_seq ?_ | refine awp_block ?_ | refine awp_round ?_ | refine awp_scope ?_ | refine awp_text rfl ?_ | refine awp_any rfl mix (by kernel_rfl) ?_ | (refine RunTo.unguard rfl rfl (fun hg => ?_) (fun hg => ?_) <;> ((try simp only [Bool.not_true, Bool.not_false, Bool.not_eq_true', Bool.not_eq_false', Bool.not_eq_eq_eq_not] at hg); (first | (cases hg) | (simp only [hg]) | skip))) | ((first | refine RunTo.plain rfl ?_ | refine RunTo.skipped rfl ?_); simp only [go_sem, ↓reduceIte, Nat.reduceEqDiff, Nat.reduceAdd, Nat.reduceLeDiff, Nat.reduceBEq, Nat.reduceMul, reduceCtorEq, Int.reduceLE, Int.reduceLT, Int.reduceAdd, Int.reduceSub, Int.reduceNeg, Int.reduceToNat, Int.reduceBEq, d0]) | ((first | refine RunTo.nilA (by kernel_rfl) ?_ | refine RunTo.nilT ?_ | refine awp_skip ?_ | refine awp_exit ?_ | refine awp_label ?_); simp only [go_sem, ↓reduceIte, Nat.reduceEqDiff, Nat.reduceAdd, Nat.reduceLeDiff, Nat.reduceBEq, Nat.reduceMul, reduceCtorEq, Int.reduceLE, Int.reduceLT, Int.reduceAdd, Int.reduceSub, Int.reduceNeg, Int.reduceToNat, Int.reduceBEq, d0]) | (refine awp_cond' rfl (of_decide_eq_true rfl) (fun hc => ?_) (fun hc => ?_) <;> ((try simp only [Bool.not_true, Bool.not_false, Bool.not_eq_true', Bool.not_eq_false', Bool.not_eq_eq_eq_not] at hc); (first | (cases hc) | (simp only [hc]) | skip))))
                  all_goals exact awp_weak (st' := SDp q (queryT q) _) (weak_keep ⟨by rw [hup]; rfl, rfl, trivial⟩ ⟨rfl, trivial⟩ (Nat.le_refl _)) (main _)
            · intro R' main
              by_cases h0 : 0 ≤ q.skip
              · have d0 : decide ((0 : Int) ≤ q.skip) = true := decide_eq_true h0
                have hdg := c_rDgs q.skip h0 ho.skip.2
                have his := itB_size _ ho.skip
                rw [show numT skipW q.skip (ordT q) = ordT q ++ skipW ++ itB q.skip from (if_pos h0).trans (ByteArray.append_assoc).symm] at main
                generalize itB q.skip = y at *
                have z1 : ((ordT q).size + 6 ≤ 9223372036854775807) = True := eq_true (by omega)
                have z2 : ((ordT q).size + 6 + y.size ≤ 9223372036854775807) = True := eq_true (by omega)
                generalize ordT q = ob at *
                repeat' (first | refine awp_seq ?_ | refine awp_block ?_ | refine awp_round ?_ | refine awp_scope ?_ | refine awp_text rfl ?_ | refine awp_any rfl mix (by kernel_rfl) ?_ | (refine RunTo.unguard rfl rfl (fun hg => ?_) (fun hg => ?_) <;> ((try simp only [Bool.not_true, Bool.not_false, Bool.not_eq_true', Bool.not_eq_false', Bool.not_eq_eq_eq_not] at hg); (first | (cases hg) | (simp only [hg]) | skip))) | ((first | refine RunTo.plain rfl ?_ | refine RunTo.skipped rfl ?_ | refine RunTo.call (hdg) Tryz.func28 rfl rfl rfl rfl rfl rfl rfl rfl ?_); simp only [go_sem, ↓reduceIte, Nat.reduceEqDiff, Nat.reduceAdd, Nat.reduceLeDiff, Nat.reduceBEq, Nat.reduceMul, reduceCtorEq, Int.reduceLE, Int.reduceLT, Int.reduceAdd, Int.reduceSub, Int.reduceNeg, Int.reduceToNat, Int.reduceBEq, d0, z1, z2, ByteArray.size_append, List.size_toArray]) | ((first | refine RunTo.nilA (by kernel_rfl) ?_ | refine RunTo.nilT ?_ | refine awp_skip ?_ | refine awp_exit ?_ | refine awp_label ?_); simp only [go_sem, ↓reduceIte, Nat.reduceEqDiff, Nat.reduceAdd, Nat.reduceLeDiff, Nat.reduceBEq, Nat.reduceMul, reduceCtorEq, Int.reduceLE, Int.reduceLT, Int.reduceAdd, Int.reduceSub, Int.reduceNeg, Int.reduceToNat, Int.reduceBEq, d0, z1, z2, ByteArray.size_append, List.size_toArray]) | (refine awp_cond' rfl (of_decide_eq_true rfl) (fun hc => ?_) (fun hc => ?_) <;> ((try simp only [Bool.not_true, Bool.not_false, Bool.not_eq_true', Bool.not_eq_false', Bool.not_eq_eq_eq_not] at hc); (first | (cases hc) | (simp only [hc]) | skip))))
                all_goals exact awp_weak (st' := SDp q _ _) (weak_keep ⟨rfl, rfl, trivial⟩ ⟨rfl, trivial⟩ (Nat.le_refl _)) (main _)
              · have d0 : decide ((0 : Int) ≤ q.skip) = false := decide_eq_false h0
                rw [show numT skipW q.skip (ordT q) = ordT q from if_neg h0] at main
                generalize ordT q = ob at *
                repeat' (first | refine awp_seq ?_ | refine awp_block ?_ | refine awp_round ?_ | refine awp_scope ?_ | refine awp_text rfl ?_ | refine awp_any rfl mix (by kernel_rfl) ?_ | (refine RunTo.unguard rfl rfl (fun hg => ?_) (fun hg => ?_) <;> ((try simp only [Bool.not_true, Bool.not_false, Bool.not_eq_true', Bool.not_eq_false', Bool.not_eq_eq_eq_not] at hg); (first | (cases hg) | (simp only [hg]) | skip))) | ((first | refine RunTo.plain rfl ?_ | refine RunTo.skipped rfl ?_); simp only [go_sem, ↓reduceIte, Nat.reduceEqDiff, Nat.reduceAdd, Nat.reduceLeDiff, Nat.reduceBEq, Nat.reduceMul, reduceCtorEq, Int.reduceLE, Int.reduceLT, Int.reduceAdd, Int.reduceSub, Int.reduceNeg, Int.reduceToNat, Int.reduceBEq, d0]) | ((first | refine RunTo.nilA (by kernel_rfl) ?_ | refine RunTo.nilT ?_ | refine awp_skip ?_ | refine awp_exit ?_ | refine awp_label ?_); simp only [go_sem, ↓reduceIte, Nat.reduceEqDiff, Nat.reduceAdd, Nat.reduceLeDiff, Nat.reduceBEq, Nat.reduceMul, reduceCtorEq, Int.reduceLE, Int.reduceLT, Int.reduceAdd, Int.reduceSub, Int.reduceNeg, Int.reduceToNat, Int.reduceBEq, d0]) | (refine awp_cond' rfl (of_decide_eq_true rfl) (fun hc => ?_) (fun hc => ?_) <;> ((try simp only [Bool.not_true, Bool.not_false, Bool.not_eq_true', Bool.not_eq_false', Bool.not_eq_eq_eq_not] at hc); (first | (cases hc) | (simp only [hc]) | skip))))
                all_goals exact awp_weak (st' := SDp q _ _) (weak_keep ⟨rfl, rfl, trivial⟩ ⟨rfl, trivial⟩ (Nat.le_refl _)) (main _)
          · intro R' main
            have hns2 := ho.nsorts
            have hib : (itsT q).size ≤ 2000000000000 := by
              have h1 := disT_big q ho
              have h2 := itemsJ_big q ho
              unfold itsT
              rw [ByteArray.size_append]
              omega
            have hkb : ∀ k, k ≤ q.sorts.length → (ordK2 q k).size ≤ 2000000001000 := fun k hk => by
              have hbig := joinB_le ((q.sorts.take k).map sortT) sepB 26 (fun x hx => by obtain ⟨a, ha, rfl⟩ := List.mem_map.1 hx; exact sortT_big a (ho.sorts a (List.mem_of_mem_take ha)))
              rw [List.length_map, List.length_take, show sepB.size = 2 from rfl] at hbig
              unfold ordK2
              split
              · omega
              · rw [ByteArray.size_append, ByteArray.size_append, show (⟨#[32, 111, 114, 100, 101, 114, 32, 98, 121, 32]⟩ : ByteArray).size = 10 from rfl]; omega
            have hend : ordK2 q q.sorts.length = ordT q := by unfold ordK2 ordT; rw [List.take_of_length_le (Nat.le_refl _)]
            repeat' (first | refine awp_seq ?_ | refine awp_block ?_ | refine awp_round ?_ | refine awp_scope ?_ | refine awp_text rfl ?_ | refine awp_any rfl mix (by kernel_rfl) ?_ | (refine RunTo.unguard rfl rfl (fun hg => ?_) (fun hg => ?_) <;> ((try simp only [Bool.not_true, Bool.not_false, Bool.not_eq_true', Bool.not_eq_false', Bool.not_eq_eq_eq_not] at hg); (first | (cases hg) | (simp only [hg]) | skip))) | ((first | refine RunTo.plain rfl ?_ | refine RunTo.skipped rfl ?_); simp only [go_sem, ↓reduceIte, Nat.reduceEqDiff, Nat.reduceAdd, Nat.reduceLeDiff, Nat.reduceBEq, Nat.reduceMul, reduceCtorEq, Int.reduceLE, Int.reduceLT, Int.reduceAdd, Int.reduceSub, Int.reduceNeg, Int.reduceToNat, Int.reduceBEq, List.length_map]) | ((first | refine RunTo.nilA (by kernel_rfl) ?_ | refine RunTo.nilT ?_ | refine awp_skip ?_ | refine awp_exit ?_ | refine awp_label ?_); simp only [go_sem, ↓reduceIte, Nat.reduceEqDiff, Nat.reduceAdd, Nat.reduceLeDiff, Nat.reduceBEq, Nat.reduceMul, reduceCtorEq, Int.reduceLE, Int.reduceLT, Int.reduceAdd, Int.reduceSub, Int.reduceNeg, Int.reduceToNat, Int.reduceBEq, List.length_map]) | (refine awp_cond' rfl (of_decide_eq_true rfl) (fun hc => ?_) (fun hc => ?_) <;> ((try simp only [Bool.not_true, Bool.not_false, Bool.not_eq_true', Bool.not_eq_false', Bool.not_eq_eq_eq_not] at hc); (first | (cases hc) | (simp only [hc]) | skip))))
            refine awp_loopw (IDp3 q) q.sorts.length (SDq q 6 (ordK2 q 0) 0 _) (weak_keep ⟨rfl, rfl, rfl, trivial⟩ ⟨rfl, trivial⟩ (Nat.le_refl _)) ⟨0, _, Nat.zero_le _, rfl, rfl⟩ ?_
            rintro n st ⟨k, T, hk, rfl, rfl⟩
            by_cases hlt : k < q.sorts.length
            · have hdec := lt_t hlt
              have hget := row_at SortD.enc q.sorts k hlt
              have htk : (q.sorts.take (k + 1)).map sortT = (q.sorts.take k).map sortT ++ [sortT q.sorts[k]] := by rw [List.take_succ_eq_append_getElem hlt, List.map_append]; rfl
              have hwk : IntKind.i64.wrap ((k : Int) + 1) = ((k + 1 : Nat) : Int) := wrap_succ (by omega)
              have hi64 := ho.sorts _ (List.getElem_mem hlt)
              have hpos := hso _ (List.getElem_mem hlt)
              have hob := hkb k (by omega)
              have hne : k ≠ 0 → (q.sorts.take k).map sortT ≠ [] := fun h0 e => by have h1 := congrArg List.length e; rw [List.length_map, List.length_take, List.length_nil] at h1; omega
              have hup : ordK2 q (k + 1) = (if k = 0 then ordK2 q k ++ ⟨#[32, 111, 114, 100, 101, 114, 32, 98, 121, 32]⟩ else ordK2 q k ++ sepB) ++ sortT q.sorts[k] := by
                rw [show ordK2 q (k + 1) = itsT q ++ ((⟨#[32, 111, 114, 100, 101, 114, 32, 98, 121, 32]⟩ : ByteArray) ++ joinB ((q.sorts.take (k + 1)).map sortT) sepB) from if_neg (by omega), htk]
                generalize sortT q.sorts[k] = y0
                by_cases h0 : k = 0
                · rw [if_pos h0, h0, List.take_zero, List.map_nil, ← ByteArray.append_assoc, ← joinB_first, show ordK2 q 0 = itsT q from rfl]
                  apply ByteArray.ext
                  simp [joinB, Lib.join_nil, ByteArray.data_append]
                · rw [if_neg h0, join_snoc _ _ _ (hne h0), show ordK2 q k = itsT q ++ ((⟨#[32, 111, 114, 100, 101, 114, 32, 98, 121, 32]⟩ : ByteArray) ++ joinB ((q.sorts.take k).map sortT) sepB) from if_neg h0]
                  simp only [ByteArray.append_assoc]
              rw [show SortD.enc q.sorts[k] = [di q.sorts[k].item, db q.sorts[k].desc] from rfl] at hget
              generalize q.sorts[k] = p at *
              have hdg := c_rDgs p.item (by omega) hi64.2
              have his := itB_size _ hi64
              have hsp : sortT p = if p.desc = true then itB p.item ++ ⟨#[32, 100, 101, 115, 99]⟩ else itB p.item := rfl
              rw [hsp] at hup
              clear hsp htk
              generalize itB p.item = y at *
              generalize hok1 : ordK2 q k = o at *
              have x1 : (o.size + 10 ≤ 9223372036854775807) = True := eq_true (by omega)
              have x2 : (o.size + 10 + y.size ≤ 9223372036854775807) = True := eq_true (by omega)
              have x3 : (o.size + 10 + y.size + 5 ≤ 9223372036854775807) = True := eq_true (by omega)
              have x4 : (o.size + 2 ≤ 9223372036854775807) = True := eq_true (by omega)
              have x5 : (o.size + 2 + y.size ≤ 9223372036854775807) = True := eq_true (by omega)
              have x6 : (o.size + 2 + y.size + 5 ≤ 9223372036854775807) = True := eq_true (by omega)
              obtain ⟨it, ds⟩ := p
              dsimp only at *
              by_cases hk0 : k = 0
              · have dk : ((k : Int) == 0) = true := by rw [beq_iff_eq]; omega
                rw [if_pos hk0] at hup
                cases ds
                all_goals
                  repeat' (first | refine awp_seq ?_ | refine awp_block ?_ | refine awp_round ?_ | refine awp_scope ?_ | refine awp_text rfl ?_ | refine awp_any rfl mix (by kernel_rfl) ?_ | (refine RunTo.unguard rfl rfl (fun hg => ?_) (fun hg => ?_) <;> ((try simp only [Bool.not_true, Bool.not_false, Bool.not_eq_true', Bool.not_eq_false', Bool.not_eq_eq_eq_not] at hg); (first | (cases hg) | (simp only [hg]) | skip))) | ((first | refine RunTo.plain rfl ?_ | refine RunTo.skipped rfl ?_ | refine RunTo.call (hdg) Tryz.func28 rfl rfl rfl rfl rfl rfl rfl rfl ?_); simp only [go_sem, ↓reduceIte, Nat.reduceEqDiff, Nat.reduceAdd, Nat.reduceLeDiff, Nat.reduceBEq, Nat.reduceMul, reduceCtorEq, Int.reduceLE, Int.reduceLT, Int.reduceAdd, Int.reduceSub, Int.reduceNeg, Int.reduceToNat, Int.reduceBEq, hdec, hget, hwk, dk, x1, x2, x3, List.length_map, ByteArray.size_append, List.size_toArray]) | ((first | refine RunTo.nilA (by kernel_rfl) ?_ | refine RunTo.nilT ?_ | refine awp_skip ?_ | refine awp_exit ?_ | refine awp_label ?_); simp only [go_sem, ↓reduceIte, Nat.reduceEqDiff, Nat.reduceAdd, Nat.reduceLeDiff, Nat.reduceBEq, Nat.reduceMul, reduceCtorEq, Int.reduceLE, Int.reduceLT, Int.reduceAdd, Int.reduceSub, Int.reduceNeg, Int.reduceToNat, Int.reduceBEq, hdec, hget, hwk, dk, x1, x2, x3, List.length_map, ByteArray.size_append, List.size_toArray]) | (refine awp_cond' rfl (of_decide_eq_true rfl) (fun hc => ?_) (fun hc => ?_) <;> ((try simp only [Bool.not_true, Bool.not_false, Bool.not_eq_true', Bool.not_eq_false', Bool.not_eq_eq_eq_not] at hc); (first | (cases hc) | (simp only [hc]) | skip))))
                  all_goals exact ⟨q.sorts.length - (k + 1), by omega, SDq q 6 (ordK2 q (k + 1)) (k + 1) _, weak_keep ⟨by rw [hup]; simp only [ByteArray.append_assoc, Bool.false_eq_true, ↓reduceIte]; rfl, rfl, rfl, trivial⟩ ⟨rfl, trivial⟩ (Nat.le_refl _), k + 1, _, by omega, rfl, rfl⟩
              · have dk : ((k : Int) == 0) = false := beq_false_of_ne (by omega)
                rw [if_neg hk0] at hup
                cases ds
                all_goals
                  repeat' (first | refine awp_seq ?_ | refine awp_block ?_ | refine awp_round ?_ | refine awp_scope ?_ | refine awp_text rfl ?_ | refine awp_any rfl mix (by kernel_rfl) ?_ | (refine RunTo.unguard rfl rfl (fun hg => ?_) (fun hg => ?_) <;> ((try simp only [Bool.not_true, Bool.not_false, Bool.not_eq_true', Bool.not_eq_false', Bool.not_eq_eq_eq_not] at hg); (first | (cases hg) | (simp only [hg]) | skip))) | ((first | refine RunTo.plain rfl ?_ | refine RunTo.skipped rfl ?_ | refine RunTo.call (hdg) Tryz.func28 rfl rfl rfl rfl rfl rfl rfl rfl ?_); simp only [go_sem, ↓reduceIte, Nat.reduceEqDiff, Nat.reduceAdd, Nat.reduceLeDiff, Nat.reduceBEq, Nat.reduceMul, reduceCtorEq, Int.reduceLE, Int.reduceLT, Int.reduceAdd, Int.reduceSub, Int.reduceNeg, Int.reduceToNat, Int.reduceBEq, hdec, hget, hwk, dk, x4, x5, x6, List.length_map, ByteArray.size_append, List.size_toArray]) | ((first | refine RunTo.nilA (by kernel_rfl) ?_ | refine RunTo.nilT ?_ | refine awp_skip ?_ | refine awp_exit ?_ | refine awp_label ?_); simp only [go_sem, ↓reduceIte, Nat.reduceEqDiff, Nat.reduceAdd, Nat.reduceLeDiff, Nat.reduceBEq, Nat.reduceMul, reduceCtorEq, Int.reduceLE, Int.reduceLT, Int.reduceAdd, Int.reduceSub, Int.reduceNeg, Int.reduceToNat, Int.reduceBEq, hdec, hget, hwk, dk, x4, x5, x6, List.length_map, ByteArray.size_append, List.size_toArray]) | (refine awp_cond' rfl (of_decide_eq_true rfl) (fun hc => ?_) (fun hc => ?_) <;> ((try simp only [Bool.not_true, Bool.not_false, Bool.not_eq_true', Bool.not_eq_false', Bool.not_eq_eq_eq_not] at hc); (first | (cases hc) | (simp only [hc]) | skip))))
                  all_goals exact ⟨q.sorts.length - (k + 1), by omega, SDq q 6 (ordK2 q (k + 1)) (k + 1) _, weak_keep ⟨by rw [hup]; simp only [ByteArray.append_assoc, Bool.false_eq_true, ↓reduceIte]; rfl, rfl, rfl, trivial⟩ ⟨rfl, trivial⟩ (Nat.le_refl _), k + 1, _, by omega, rfl, rfl⟩
            · have hdec := lt_f hlt
              obtain rfl : k = q.sorts.length := by omega
              repeat' (first | refine awp_seq ?_ | refine awp_block ?_ | refine awp_round ?_ | refine awp_scope ?_ | refine awp_text rfl ?_ | refine awp_any rfl mix (by kernel_rfl) ?_ | (refine RunTo.unguard rfl rfl (fun hg => ?_) (fun hg => ?_) <;> ((try simp only [Bool.not_true, Bool.not_false, Bool.not_eq_true', Bool.not_eq_false', Bool.not_eq_eq_eq_not] at hg); (first | (cases hg) | (simp only [hg]) | skip))) | ((first | refine RunTo.plain rfl ?_ | refine RunTo.skipped rfl ?_); simp only [go_sem, ↓reduceIte, Nat.reduceEqDiff, Nat.reduceAdd, Nat.reduceLeDiff, Nat.reduceBEq, Nat.reduceMul, reduceCtorEq, Int.reduceLE, Int.reduceLT, Int.reduceAdd, Int.reduceSub, Int.reduceNeg, Int.reduceToNat, Int.reduceBEq, hdec, List.length_map]) | ((first | refine RunTo.nilA (by kernel_rfl) ?_ | refine RunTo.nilT ?_ | refine awp_skip ?_ | refine awp_exit ?_ | refine awp_label ?_); simp only [go_sem, ↓reduceIte, Nat.reduceEqDiff, Nat.reduceAdd, Nat.reduceLeDiff, Nat.reduceBEq, Nat.reduceMul, reduceCtorEq, Int.reduceLE, Int.reduceLT, Int.reduceAdd, Int.reduceSub, Int.reduceNeg, Int.reduceToNat, Int.reduceBEq, hdec, List.length_map]) | (refine awp_cond' rfl (of_decide_eq_true rfl) (fun hc => ?_) (fun hc => ?_) <;> ((try simp only [Bool.not_true, Bool.not_false, Bool.not_eq_true', Bool.not_eq_false', Bool.not_eq_eq_eq_not] at hc); (first | (cases hc) | (simp only [hc]) | skip))))
              all_goals exact awp_weak (st' := SDp q _ _) (weak_keep ⟨by rw [← hend]; rfl, rfl, trivial⟩ ⟨rfl, trivial⟩ (Nat.le_refl _)) (main _)
        · intro R' main
          have hni := ho.nitems
          have hdb := disT_big q ho
          repeat' (first | refine awp_seq ?_ | refine awp_block ?_ | refine awp_round ?_ | refine awp_scope ?_ | refine awp_text rfl ?_ | refine awp_any rfl mix (by kernel_rfl) ?_ | (refine RunTo.unguard rfl rfl (fun hg => ?_) (fun hg => ?_) <;> ((try simp only [Bool.not_true, Bool.not_false, Bool.not_eq_true', Bool.not_eq_false', Bool.not_eq_eq_eq_not] at hg); (first | (cases hg) | (simp only [hg]) | skip))) | ((first | refine RunTo.plain rfl ?_ | refine RunTo.skipped rfl ?_); simp only [go_sem, ↓reduceIte, Nat.reduceEqDiff, Nat.reduceAdd, Nat.reduceLeDiff, Nat.reduceBEq, Nat.reduceMul, reduceCtorEq, Int.reduceLE, Int.reduceLT, Int.reduceAdd, Int.reduceSub, Int.reduceNeg, Int.reduceToNat, Int.reduceBEq, List.length_map]) | ((first | refine RunTo.nilA (by kernel_rfl) ?_ | refine RunTo.nilT ?_ | refine awp_skip ?_ | refine awp_exit ?_ | refine awp_label ?_); simp only [go_sem, ↓reduceIte, Nat.reduceEqDiff, Nat.reduceAdd, Nat.reduceLeDiff, Nat.reduceBEq, Nat.reduceMul, reduceCtorEq, Int.reduceLE, Int.reduceLT, Int.reduceAdd, Int.reduceSub, Int.reduceNeg, Int.reduceToNat, Int.reduceBEq, List.length_map]) | (refine awp_cond' rfl (of_decide_eq_true rfl) (fun hc => ?_) (fun hc => ?_) <;> ((try simp only [Bool.not_true, Bool.not_false, Bool.not_eq_true', Bool.not_eq_false', Bool.not_eq_eq_eq_not] at hc); (first | (cases hc) | (simp only [hc]) | skip))))
          refine awp_loopw (IDp2 q) q.items.length (SDq q 5 (disT q) 0 _) (weak_keep ⟨rfl, rfl, rfl, trivial⟩ ⟨rfl, trivial⟩ (Nat.le_refl _)) ⟨0, _, _, Nat.zero_le _, rfl, app_nilI _, rfl⟩ ?_
          rintro n st ⟨k, o, T, hk, rfl, hoe, rfl⟩
          have hob : o.size ≤ 2000000000000 := by
            have hbig := joinB_le ((q.items.take k).map itemT) sepB 100000000010 (fun x hx => by obtain ⟨a, ha, rfl⟩ := List.mem_map.1 hx; exact itemT_big a (ho.items a (List.mem_of_mem_take ha)))
            rw [List.length_map, List.length_take, show sepB.size = 2 from rfl] at hbig
            rw [hoe, ByteArray.size_append]
            omega
          by_cases hlt : k < q.items.length
          · have hdec := lt_t hlt
            have hget := row_at ItemD.enc q.items k hlt
            have htk : (q.items.take (k + 1)).map itemT = (q.items.take k).map itemT ++ [itemT q.items[k]] := by rw [List.take_succ_eq_append_getElem hlt, List.map_append]; rfl
            have hwk : IntKind.i64.wrap ((k : Int) + 1) = ((k + 1 : Nat) : Int) := wrap_succ (by omega)
            have hok := ho.items _ (List.getElem_mem hlt)
            have hp := c_rItemT q.items[k] hok (hri _ (List.getElem_mem hlt)) (hf.items _ (List.getElem_mem hlt)) (hvi _ (List.getElem_mem hlt))
            have hpb := itemT_big _ hok
            rw [show ItemD.enc q.items[k] = [di q.items[k].fn, .lst 8 (q.items[k].terms.map TermD.enc)] from rfl] at hget
            generalize q.items[k] = p at *
            generalize itemT p = y at *
            have x1 : (o.size + y.size ≤ 9223372036854775807) = True := eq_true (by omega)
            have x2 : (o.size + 2 ≤ 9223372036854775807) = True := eq_true (by omega)
            have x3 : (o.size + 2 + y.size ≤ 9223372036854775807) = True := eq_true (by omega)
            by_cases hk0 : k = 0
            · have dk : decide ((0 : Int) < (k : Int)) = false := decide_eq_false (by omega)
              repeat' (first | refine awp_seq ?_ | refine awp_block ?_ | refine awp_round ?_ | refine awp_scope ?_ | refine awp_text rfl ?_ | refine awp_any rfl mix (by kernel_rfl) ?_ | (refine RunTo.unguard rfl rfl (fun hg => ?_) (fun hg => ?_) <;> ((try simp only [Bool.not_true, Bool.not_false, Bool.not_eq_true', Bool.not_eq_false', Bool.not_eq_eq_eq_not] at hg); (first | (cases hg) | (simp only [hg]) | skip))) | ((first | refine RunTo.plain rfl ?_ | refine RunTo.skipped rfl ?_ | refine RunTo.call (hp) Tryz.func27 rfl rfl rfl rfl rfl rfl rfl rfl ?_); simp only [go_sem, ↓reduceIte, Nat.reduceEqDiff, Nat.reduceAdd, Nat.reduceLeDiff, Nat.reduceBEq, Nat.reduceMul, reduceCtorEq, Int.reduceLE, Int.reduceLT, Int.reduceAdd, Int.reduceSub, Int.reduceNeg, Int.reduceToNat, Int.reduceBEq, hdec, hget, hwk, dk, x1, x2, x3, ItemD.av, List.length_map, ByteArray.size_append, List.size_toArray]) | ((first | refine RunTo.nilA (by kernel_rfl) ?_ | refine RunTo.nilT ?_ | refine awp_skip ?_ | refine awp_exit ?_ | refine awp_label ?_); simp only [go_sem, ↓reduceIte, Nat.reduceEqDiff, Nat.reduceAdd, Nat.reduceLeDiff, Nat.reduceBEq, Nat.reduceMul, reduceCtorEq, Int.reduceLE, Int.reduceLT, Int.reduceAdd, Int.reduceSub, Int.reduceNeg, Int.reduceToNat, Int.reduceBEq, hdec, hget, hwk, dk, x1, x2, x3, ItemD.av, List.length_map, ByteArray.size_append, List.size_toArray]) | (refine awp_cond' rfl (of_decide_eq_true rfl) (fun hc => ?_) (fun hc => ?_) <;> ((try simp only [Bool.not_true, Bool.not_false, Bool.not_eq_true', Bool.not_eq_false', Bool.not_eq_eq_eq_not] at hc); (first | (cases hc) | (simp only [hc]) | skip))))
              all_goals exact ⟨q.items.length - (k + 1), by omega, SDq q 5 (o ++ y) (k + 1) _, weak_keep ⟨rfl, rfl, rfl, trivial⟩ ⟨rfl, trivial⟩ (Nat.le_refl _), k + 1, _, _, by omega, rfl, by
                rw [htk, hoe, hk0, List.take_zero, List.map_nil, ← joinB_first], rfl⟩
            · have dk : decide ((0 : Int) < (k : Int)) = true := decide_eq_true (by omega)
              repeat' (first | refine awp_seq ?_ | refine awp_block ?_ | refine awp_round ?_ | refine awp_scope ?_ | refine awp_text rfl ?_ | refine awp_any rfl mix (by kernel_rfl) ?_ | (refine RunTo.unguard rfl rfl (fun hg => ?_) (fun hg => ?_) <;> ((try simp only [Bool.not_true, Bool.not_false, Bool.not_eq_true', Bool.not_eq_false', Bool.not_eq_eq_eq_not] at hg); (first | (cases hg) | (simp only [hg]) | skip))) | ((first | refine RunTo.plain rfl ?_ | refine RunTo.skipped rfl ?_ | refine RunTo.call (hp) Tryz.func27 rfl rfl rfl rfl rfl rfl rfl rfl ?_); simp only [go_sem, ↓reduceIte, Nat.reduceEqDiff, Nat.reduceAdd, Nat.reduceLeDiff, Nat.reduceBEq, Nat.reduceMul, reduceCtorEq, Int.reduceLE, Int.reduceLT, Int.reduceAdd, Int.reduceSub, Int.reduceNeg, Int.reduceToNat, Int.reduceBEq, hdec, hget, hwk, dk, x1, x2, x3, ItemD.av, List.length_map, ByteArray.size_append, List.size_toArray]) | ((first | refine RunTo.nilA (by kernel_rfl) ?_ | refine RunTo.nilT ?_ | refine awp_skip ?_ | refine awp_exit ?_ | refine awp_label ?_); simp only [go_sem, ↓reduceIte, Nat.reduceEqDiff, Nat.reduceAdd, Nat.reduceLeDiff, Nat.reduceBEq, Nat.reduceMul, reduceCtorEq, Int.reduceLE, Int.reduceLT, Int.reduceAdd, Int.reduceSub, Int.reduceNeg, Int.reduceToNat, Int.reduceBEq, hdec, hget, hwk, dk, x1, x2, x3, ItemD.av, List.length_map, ByteArray.size_append, List.size_toArray]) | (refine awp_cond' rfl (of_decide_eq_true rfl) (fun hc => ?_) (fun hc => ?_) <;> ((try simp only [Bool.not_true, Bool.not_false, Bool.not_eq_true', Bool.not_eq_false', Bool.not_eq_eq_eq_not] at hc); (first | (cases hc) | (simp only [hc]) | skip))))
              all_goals exact ⟨q.items.length - (k + 1), by omega, SDq q 5 (o ++ sepB ++ y) (k + 1) _, weak_keep ⟨rfl, rfl, rfl, trivial⟩ ⟨rfl, trivial⟩ (Nat.le_refl _), k + 1, _, _, by omega, rfl, by
                rw [htk, hoe, join_snoc _ _ _ (fun h0 => by have h1 := congrArg List.length h0; rw [List.length_map, List.length_take, List.length_nil] at h1; omega)]
                simp only [ByteArray.append_assoc], rfl⟩
          · have hdec := lt_f hlt
            have hall : q.items.take k = q.items := List.take_of_length_le (by omega)
            rw [hall] at hoe
            rw [show itsT q = o from hoe.symm] at main
            repeat' (first | refine awp_seq ?_ | refine awp_block ?_ | refine awp_round ?_ | refine awp_scope ?_ | refine awp_text rfl ?_ | refine awp_any rfl mix (by kernel_rfl) ?_ | (refine RunTo.unguard rfl rfl (fun hg => ?_) (fun hg => ?_) <;> ((try simp only [Bool.not_true, Bool.not_false, Bool.not_eq_true', Bool.not_eq_false', Bool.not_eq_eq_eq_not] at hg); (first | (cases hg) | (simp only [hg]) | skip))) | ((first | refine RunTo.plain rfl ?_ | refine RunTo.skipped rfl ?_); simp only [go_sem, ↓reduceIte, Nat.reduceEqDiff, Nat.reduceAdd, Nat.reduceLeDiff, Nat.reduceBEq, Nat.reduceMul, reduceCtorEq, Int.reduceLE, Int.reduceLT, Int.reduceAdd, Int.reduceSub, Int.reduceNeg, Int.reduceToNat, Int.reduceBEq, hdec, List.length_map]) | ((first | refine RunTo.nilA (by kernel_rfl) ?_ | refine RunTo.nilT ?_ | refine awp_skip ?_ | refine awp_exit ?_ | refine awp_label ?_); simp only [go_sem, ↓reduceIte, Nat.reduceEqDiff, Nat.reduceAdd, Nat.reduceLeDiff, Nat.reduceBEq, Nat.reduceMul, reduceCtorEq, Int.reduceLE, Int.reduceLT, Int.reduceAdd, Int.reduceSub, Int.reduceNeg, Int.reduceToNat, Int.reduceBEq, hdec, List.length_map]) | (refine awp_cond' rfl (of_decide_eq_true rfl) (fun hc => ?_) (fun hc => ?_) <;> ((try simp only [Bool.not_true, Bool.not_false, Bool.not_eq_true', Bool.not_eq_false', Bool.not_eq_eq_eq_not] at hc); (first | (cases hc) | (simp only [hc]) | skip))))
            all_goals exact awp_weak (st' := SDp q o _) (weak_keep ⟨rfl, rfl, trivial⟩ ⟨rfl, trivial⟩ (Nat.le_refl _)) (main _)
      · intro R' main
        have hb := whT_big q ho
        have z1 : ((whT q).size + 8 ≤ 9223372036854775807) = True := eq_true (by omega)
        have z2 : ((whT q).size + 8 + 9 ≤ 9223372036854775807) = True := eq_true (by omega)
        cases hd : q.distinct with
        | true =>
          rw [show disT q = whT q ++ ⟨#[32, 114, 101, 116, 117, 114, 110, 32]⟩ ++ ⟨#[100, 105, 115, 116, 105, 110, 99, 116, 32]⟩ from by unfold disT retT; rw [if_pos hd]] at main
          repeat' (first | refine awp_seq ?_ | refine awp_block ?_ | refine awp_round ?_ | refine awp_scope ?_ | refine awp_text rfl ?_ | refine awp_any rfl mix (by kernel_rfl) ?_ | (refine RunTo.unguard rfl rfl (fun hg => ?_) (fun hg => ?_) <;> ((try simp only [Bool.not_true, Bool.not_false, Bool.not_eq_true', Bool.not_eq_false', Bool.not_eq_eq_eq_not] at hg); (first | (cases hg) | (simp only [hg]) | skip))) | ((first | refine RunTo.plain rfl ?_ | refine RunTo.skipped rfl ?_); simp only [go_sem, ↓reduceIte, Nat.reduceEqDiff, Nat.reduceAdd, Nat.reduceLeDiff, Nat.reduceBEq, Nat.reduceMul, reduceCtorEq, Int.reduceLE, Int.reduceLT, Int.reduceAdd, Int.reduceSub, Int.reduceNeg, Int.reduceToNat, Int.reduceBEq, hd, z1, z2, ByteArray.size_append, List.size_toArray]) | ((first | refine RunTo.nilA (by kernel_rfl) ?_ | refine RunTo.nilT ?_ | refine awp_skip ?_ | refine awp_exit ?_ | refine awp_label ?_); simp only [go_sem, ↓reduceIte, Nat.reduceEqDiff, Nat.reduceAdd, Nat.reduceLeDiff, Nat.reduceBEq, Nat.reduceMul, reduceCtorEq, Int.reduceLE, Int.reduceLT, Int.reduceAdd, Int.reduceSub, Int.reduceNeg, Int.reduceToNat, Int.reduceBEq, hd, z1, z2, ByteArray.size_append, List.size_toArray]) | (refine awp_cond' rfl (of_decide_eq_true rfl) (fun hc => ?_) (fun hc => ?_) <;> ((try simp only [Bool.not_true, Bool.not_false, Bool.not_eq_true', Bool.not_eq_false', Bool.not_eq_eq_eq_not] at hc); (first | (cases hc) | (simp only [hc]) | skip))))
          all_goals exact awp_weak (st' := SDp q _ _) (weak_keep ⟨rfl, rfl, trivial⟩ ⟨by simp only [go_sem, ↓reduceIte, Nat.reduceEqDiff, Nat.reduceAdd, Nat.reduceLeDiff, Nat.reduceBEq, Nat.reduceMul, reduceCtorEq, Int.reduceLE, Int.reduceLT, Int.reduceAdd, Int.reduceSub, Int.reduceNeg, Int.reduceToNat, Int.reduceBEq, hd], trivial⟩ (Nat.le_refl _)) (main _)
        | false =>
          rw [show disT q = whT q ++ ⟨#[32, 114, 101, 116, 117, 114, 110, 32]⟩ from by unfold disT retT; rw [if_neg (by rw [hd]; simp)]] at main
          repeat' (first | refine awp_seq ?_ | refine awp_block ?_ | refine awp_round ?_ | refine awp_scope ?_ | refine awp_text rfl ?_ | refine awp_any rfl mix (by kernel_rfl) ?_ | (refine RunTo.unguard rfl rfl (fun hg => ?_) (fun hg => ?_) <;> ((try simp only [Bool.not_true, Bool.not_false, Bool.not_eq_true', Bool.not_eq_false', Bool.not_eq_eq_eq_not] at hg); (first | (cases hg) | (simp only [hg]) | skip))) | ((first | refine RunTo.plain rfl ?_ | refine RunTo.skipped rfl ?_); simp only [go_sem, ↓reduceIte, Nat.reduceEqDiff, Nat.reduceAdd, Nat.reduceLeDiff, Nat.reduceBEq, Nat.reduceMul, reduceCtorEq, Int.reduceLE, Int.reduceLT, Int.reduceAdd, Int.reduceSub, Int.reduceNeg, Int.reduceToNat, Int.reduceBEq, hd, z1, z2, ByteArray.size_append, List.size_toArray]) | ((first | refine RunTo.nilA (by kernel_rfl) ?_ | refine RunTo.nilT ?_ | refine awp_skip ?_ | refine awp_exit ?_ | refine awp_label ?_); simp only [go_sem, ↓reduceIte, Nat.reduceEqDiff, Nat.reduceAdd, Nat.reduceLeDiff, Nat.reduceBEq, Nat.reduceMul, reduceCtorEq, Int.reduceLE, Int.reduceLT, Int.reduceAdd, Int.reduceSub, Int.reduceNeg, Int.reduceToNat, Int.reduceBEq, hd, z1, z2, ByteArray.size_append, List.size_toArray]) | (refine awp_cond' rfl (of_decide_eq_true rfl) (fun hc => ?_) (fun hc => ?_) <;> ((try simp only [Bool.not_true, Bool.not_false, Bool.not_eq_true', Bool.not_eq_false', Bool.not_eq_eq_eq_not] at hc); (first | (cases hc) | (simp only [hc]) | skip))))
          all_goals exact awp_weak (st' := SDp q _ _) (weak_keep ⟨rfl, rfl, trivial⟩ ⟨by simp only [go_sem, ↓reduceIte, Nat.reduceEqDiff, Nat.reduceAdd, Nat.reduceLeDiff, Nat.reduceBEq, Nat.reduceMul, reduceCtorEq, Int.reduceLE, Int.reduceLT, Int.reduceAdd, Int.reduceSub, Int.reduceNeg, Int.reduceToNat, Int.reduceBEq, hd], trivial⟩ (Nat.le_refl _)) (main _)
    · intro R' main
      have hb := spotsT_big q ho q.spots.length
      by_cases hn : q.wh.length = 0
      · have d0 : decide ((0 : Int) < (q.wh.length : Int)) = false := decide_eq_false (by omega)
        rw [show whT q = spotsT q q.spots.length from if_pos hn] at main
        repeat' (first | refine awp_seq ?_ | refine awp_block ?_ | refine awp_round ?_ | refine awp_scope ?_ | refine awp_text rfl ?_ | refine awp_any rfl mix (by kernel_rfl) ?_ | (refine RunTo.unguard rfl rfl (fun hg => ?_) (fun hg => ?_) <;> ((try simp only [Bool.not_true, Bool.not_false, Bool.not_eq_true', Bool.not_eq_false', Bool.not_eq_eq_eq_not] at hg); (first | (cases hg) | (simp only [hg]) | skip))) | ((first | refine RunTo.plain rfl ?_ | refine RunTo.skipped rfl ?_); simp only [go_sem, ↓reduceIte, Nat.reduceEqDiff, Nat.reduceAdd, Nat.reduceLeDiff, Nat.reduceBEq, Nat.reduceMul, reduceCtorEq, Int.reduceLE, Int.reduceLT, Int.reduceAdd, Int.reduceSub, Int.reduceNeg, Int.reduceToNat, Int.reduceBEq, d0, List.length_map]) | ((first | refine RunTo.nilA (by kernel_rfl) ?_ | refine RunTo.nilT ?_ | refine awp_skip ?_ | refine awp_exit ?_ | refine awp_label ?_); simp only [go_sem, ↓reduceIte, Nat.reduceEqDiff, Nat.reduceAdd, Nat.reduceLeDiff, Nat.reduceBEq, Nat.reduceMul, reduceCtorEq, Int.reduceLE, Int.reduceLT, Int.reduceAdd, Int.reduceSub, Int.reduceNeg, Int.reduceToNat, Int.reduceBEq, d0, List.length_map]) | (refine awp_cond' rfl (of_decide_eq_true rfl) (fun hc => ?_) (fun hc => ?_) <;> ((try simp only [Bool.not_true, Bool.not_false, Bool.not_eq_true', Bool.not_eq_false', Bool.not_eq_eq_eq_not] at hc); (first | (cases hc) | (simp only [hc]) | skip))))
        all_goals exact awp_weak (st' := SDp q _ _) (weak_keep ⟨rfl, rfl, trivial⟩ ⟨rfl, trivial⟩ (Nat.le_refl _)) (main _)
      · have d0 : decide ((0 : Int) < (q.wh.length : Int)) = true := decide_eq_true (by omega)
        have ht := c_rTextT q.wh ho.wh hn hf.wh hvw
        have htb := textW_big q ho hn
        rw [show whT q = spotsT q q.spots.length ++ ⟨#[32, 119, 104, 101, 114, 101, 32]⟩ ++ textS q.wh from (if_neg hn).trans (ByteArray.append_assoc).symm] at main
        generalize textS q.wh = tw at *
        generalize spotsT q q.spots.length = o at *
        have z1 : (o.size + 7 ≤ 9223372036854775807) = True := eq_true (by omega)
        have z2 : (o.size + 7 + tw.size ≤ 9223372036854775807) = True := eq_true (by omega)
        repeat' (first | refine awp_seq ?_ | refine awp_block ?_ | refine awp_round ?_ | refine awp_scope ?_ | refine awp_text rfl ?_ | refine awp_any rfl mix (by kernel_rfl) ?_ | (refine RunTo.unguard rfl rfl (fun hg => ?_) (fun hg => ?_) <;> ((try simp only [Bool.not_true, Bool.not_false, Bool.not_eq_true', Bool.not_eq_false', Bool.not_eq_eq_eq_not] at hg); (first | (cases hg) | (simp only [hg]) | skip))) | ((first | refine RunTo.plain rfl ?_ | refine RunTo.skipped rfl ?_ | refine RunTo.call (ht) Tryz.func26 rfl rfl rfl rfl rfl rfl rfl rfl ?_); simp only [go_sem, ↓reduceIte, Nat.reduceEqDiff, Nat.reduceAdd, Nat.reduceLeDiff, Nat.reduceBEq, Nat.reduceMul, reduceCtorEq, Int.reduceLE, Int.reduceLT, Int.reduceAdd, Int.reduceSub, Int.reduceNeg, Int.reduceToNat, Int.reduceBEq, d0, z1, z2, List.length_map, ByteArray.size_append, List.size_toArray]) | ((first | refine RunTo.nilA (by kernel_rfl) ?_ | refine RunTo.nilT ?_ | refine awp_skip ?_ | refine awp_exit ?_ | refine awp_label ?_); simp only [go_sem, ↓reduceIte, Nat.reduceEqDiff, Nat.reduceAdd, Nat.reduceLeDiff, Nat.reduceBEq, Nat.reduceMul, reduceCtorEq, Int.reduceLE, Int.reduceLT, Int.reduceAdd, Int.reduceSub, Int.reduceNeg, Int.reduceToNat, Int.reduceBEq, d0, z1, z2, List.length_map, ByteArray.size_append, List.size_toArray]) | (refine awp_cond' rfl (of_decide_eq_true rfl) (fun hc => ?_) (fun hc => ?_) <;> ((try simp only [Bool.not_true, Bool.not_false, Bool.not_eq_true', Bool.not_eq_false', Bool.not_eq_eq_eq_not] at hc); (first | (cases hc) | (simp only [hc]) | skip))))
        all_goals exact awp_weak (st' := SDp q _ _) (weak_keep ⟨rfl, rfl, trivial⟩ ⟨rfl, trivial⟩ (Nat.le_refl _)) (main _)
  · intro R' main
    repeat' (first | refine awp_seq ?_ | refine awp_block ?_ | refine awp_round ?_ | refine awp_scope ?_ | refine awp_text rfl ?_ | refine awp_any rfl mix (by kernel_rfl) ?_ | (refine RunTo.unguard rfl rfl (fun hg => ?_) (fun hg => ?_) <;> ((try simp only [Bool.not_true, Bool.not_false, Bool.not_eq_true', Bool.not_eq_false', Bool.not_eq_eq_eq_not] at hg); (first | (cases hg) | (simp only [hg]) | skip))) | ((first | refine RunTo.plain rfl ?_ | refine RunTo.skipped rfl ?_ | refine RunTo.call (hfi) Tryz.func15 rfl rfl rfl rfl rfl rfl rfl rfl ?_); simp only [go_sem, ↓reduceIte, Nat.reduceEqDiff, Nat.reduceAdd, Nat.reduceLeDiff, Nat.reduceBEq, Nat.reduceMul, reduceCtorEq, Int.reduceLE, Int.reduceLT, Int.reduceAdd, Int.reduceSub, Int.reduceNeg, Int.reduceToNat, Int.reduceBEq, QueryD.av, List.length_map, Bool.not_true]) | ((first | refine RunTo.nilA (by kernel_rfl) ?_ | refine RunTo.nilT ?_ | refine awp_skip ?_ | refine awp_exit ?_ | refine awp_label ?_); simp only [go_sem, ↓reduceIte, Nat.reduceEqDiff, Nat.reduceAdd, Nat.reduceLeDiff, Nat.reduceBEq, Nat.reduceMul, reduceCtorEq, Int.reduceLE, Int.reduceLT, Int.reduceAdd, Int.reduceSub, Int.reduceNeg, Int.reduceToNat, Int.reduceBEq, QueryD.av, List.length_map, Bool.not_true]) | (refine awp_cond' rfl (of_decide_eq_true rfl) (fun hc => ?_) (fun hc => ?_) <;> ((try simp only [Bool.not_true, Bool.not_false, Bool.not_eq_true', Bool.not_eq_false', Bool.not_eq_eq_eq_not] at hc); (first | (cases hc) | (simp only [hc]) | skip))))
    refine awp_loopw (IDp1 q) q.spots.length (SDq q 4 (spotsT q 0) 0 _) (weak_keep ⟨rfl, rfl, rfl, trivial⟩ ⟨rfl, trivial⟩ (Nat.le_refl _)) ⟨0, _, Nat.zero_le _, rfl, rfl⟩ ?_
    rintro n st ⟨k, T, hk, rfl, rfl⟩
    by_cases hlt : k < q.spots.length
    · have hdec := lt_t hlt
      have hget := row_at SpotD.enc q.spots k hlt
      have hwk : IntKind.i64.wrap ((k : Int) + 1) = ((k + 1 : Nat) : Int) := wrap_succ (by omega)
      have hos := ho.spots _ (List.getElem_mem hlt)
      have hsp := c_rSpotT q.spots[k] hos (hf.spots _ (List.getElem_mem hlt))
      have hsb := spotT_big q.spots[k] hos
      have hpb := spotsT_big q ho k
      have hsa : spotAt q k = spotT q.spots[k] := by unfold spotAt; rw [List.getElem?_eq_getElem hlt]
      have hup : spotsT q (k + 1) = (if k = 0 then spotsT q k else spotsT q k ++ hopAt q (k - 1)) ++ spotAt q k := rfl
      rw [hsa] at hup
      rw [show SpotD.enc q.spots[k] = [ds' q.spots[k].var, ds' q.spots[k].label, .lst 6 (q.spots[k].props.map PropD.enc)] from rfl] at hget
      generalize q.spots[k] = s at *
      by_cases hk0 : k = 0
      · have d0 : decide ((0 : Int) < (k : Int)) = false := decide_eq_false (by omega)
        rw [if_pos hk0] at hup
        have z1 : ((spotsT q k).size + (spotT s).size ≤ 9223372036854775807) = True := eq_true (by omega)
        repeat' (first | refine awp_seq ?_ | refine awp_block ?_ | refine awp_round ?_ | refine awp_scope ?_ | refine awp_text rfl ?_ | refine awp_any rfl mix (by kernel_rfl) ?_ | (refine RunTo.unguard rfl rfl (fun hg => ?_) (fun hg => ?_) <;> ((try simp only [Bool.not_true, Bool.not_false, Bool.not_eq_true', Bool.not_eq_false', Bool.not_eq_eq_eq_not] at hg); (first | (cases hg) | (simp only [hg]) | skip))) | ((first | refine RunTo.plain rfl ?_ | refine RunTo.skipped rfl ?_ | refine RunTo.call (hsp) Tryz.func25 rfl rfl rfl rfl rfl rfl rfl rfl ?_); simp only [go_sem, ↓reduceIte, Nat.reduceEqDiff, Nat.reduceAdd, Nat.reduceLeDiff, Nat.reduceBEq, Nat.reduceMul, reduceCtorEq, Int.reduceLE, Int.reduceLT, Int.reduceAdd, Int.reduceSub, Int.reduceNeg, Int.reduceToNat, Int.reduceBEq, hdec, hget, hwk, d0, z1, SpotD.av, List.length_map, ByteArray.size_append]) | ((first | refine RunTo.nilA (by kernel_rfl) ?_ | refine RunTo.nilT ?_ | refine awp_skip ?_ | refine awp_exit ?_ | refine awp_label ?_); simp only [go_sem, ↓reduceIte, Nat.reduceEqDiff, Nat.reduceAdd, Nat.reduceLeDiff, Nat.reduceBEq, Nat.reduceMul, reduceCtorEq, Int.reduceLE, Int.reduceLT, Int.reduceAdd, Int.reduceSub, Int.reduceNeg, Int.reduceToNat, Int.reduceBEq, hdec, hget, hwk, d0, z1, SpotD.av, List.length_map, ByteArray.size_append]) | (refine awp_cond' rfl (of_decide_eq_true rfl) (fun hc => ?_) (fun hc => ?_) <;> ((try simp only [Bool.not_true, Bool.not_false, Bool.not_eq_true', Bool.not_eq_false', Bool.not_eq_eq_eq_not] at hc); (first | (cases hc) | (simp only [hc]) | skip))))
        all_goals exact ⟨q.spots.length - (k + 1), by omega, SDq q 4 (spotsT q (k + 1)) (k + 1) _, weak_keep ⟨by rw [hup]; rfl, rfl, rfl, trivial⟩ ⟨rfl, trivial⟩ (Nat.le_refl _), k + 1, _, by omega, rfl, rfl⟩
      · have d0 : decide ((0 : Int) < (k : Int)) = true := decide_eq_true (by omega)
        rw [if_neg hk0] at hup
        have hlh : k - 1 < q.hops.length := by omega
        have hgh := row_at HopD.enc q.hops (k - 1) hlh
        have hwp : IntKind.i64.wrap ((k : Int) - 1) = ((k - 1 : Nat) : Int) := by rw [IntWalk.i64_in _ (by omega)]; omega
        have hoh := ho.hops _ (List.getElem_mem hlh)
        have hht := c_rHopT q.hops[k - 1] hoh (hrh _ (List.getElem_mem hlh))
        have hhb := hopT_big q.hops[k - 1] hoh
        have hha : hopAt q (k - 1) = hopT q.hops[k - 1] := by unfold hopAt; rw [List.getElem?_eq_getElem hlh]
        rw [hha] at hup
        rw [show HopD.enc q.hops[k - 1] = [ds' q.hops[k - 1].var, ds' q.hops[k - 1].type, db q.hops[k - 1].back, db q.hops[k - 1].many, di q.hops[k - 1].least, di q.hops[k - 1].most] from rfl] at hgh
        generalize q.hops[k - 1] = h at *
        have z1 : ((spotsT q k).size + (hopT h).size ≤ 9223372036854775807) = True := eq_true (by omega)
        have z2 : ((spotsT q k).size + (hopT h).size + (spotT s).size ≤ 9223372036854775807) = True := eq_true (by omega)
        repeat' (first | refine awp_seq ?_ | refine awp_block ?_ | refine awp_round ?_ | refine awp_scope ?_ | refine awp_text rfl ?_ | refine awp_any rfl mix (by kernel_rfl) ?_ | (refine RunTo.unguard rfl rfl (fun hg => ?_) (fun hg => ?_) <;> ((try simp only [Bool.not_true, Bool.not_false, Bool.not_eq_true', Bool.not_eq_false', Bool.not_eq_eq_eq_not] at hg); (first | (cases hg) | (simp only [hg]) | skip))) | ((first | refine RunTo.plain rfl ?_ | refine RunTo.skipped rfl ?_ | refine RunTo.call (hsp) Tryz.func25 rfl rfl rfl rfl rfl rfl rfl rfl ?_ | refine RunTo.call (hht) Tryz.func24 rfl rfl rfl rfl rfl rfl rfl rfl ?_); simp only [go_sem, ↓reduceIte, Nat.reduceEqDiff, Nat.reduceAdd, Nat.reduceLeDiff, Nat.reduceBEq, Nat.reduceMul, reduceCtorEq, Int.reduceLE, Int.reduceLT, Int.reduceAdd, Int.reduceSub, Int.reduceNeg, Int.reduceToNat, Int.reduceBEq, hdec, hget, hgh, hwp, hwk, d0, z1, z2, SpotD.av, HopD.av, List.length_map, ByteArray.size_append]) | ((first | refine RunTo.nilA (by kernel_rfl) ?_ | refine RunTo.nilT ?_ | refine awp_skip ?_ | refine awp_exit ?_ | refine awp_label ?_); simp only [go_sem, ↓reduceIte, Nat.reduceEqDiff, Nat.reduceAdd, Nat.reduceLeDiff, Nat.reduceBEq, Nat.reduceMul, reduceCtorEq, Int.reduceLE, Int.reduceLT, Int.reduceAdd, Int.reduceSub, Int.reduceNeg, Int.reduceToNat, Int.reduceBEq, hdec, hget, hgh, hwp, hwk, d0, z1, z2, SpotD.av, HopD.av, List.length_map, ByteArray.size_append]) | (refine awp_cond' rfl (of_decide_eq_true rfl) (fun hc => ?_) (fun hc => ?_) <;> ((try simp only [Bool.not_true, Bool.not_false, Bool.not_eq_true', Bool.not_eq_false', Bool.not_eq_eq_eq_not] at hc); (first | (cases hc) | (simp only [hc]) | skip))))
        all_goals exact ⟨q.spots.length - (k + 1), by omega, SDq q 4 (spotsT q (k + 1)) (k + 1) _, weak_keep ⟨by rw [hup]; rfl, rfl, rfl, trivial⟩ ⟨rfl, trivial⟩ (Nat.le_refl _), k + 1, _, by omega, rfl, rfl⟩
    · have hdec := lt_f hlt
      obtain rfl : k = q.spots.length := by omega
      repeat' (first | refine awp_seq ?_ | refine awp_block ?_ | refine awp_round ?_ | refine awp_scope ?_ | refine awp_text rfl ?_ | refine awp_any rfl mix (by kernel_rfl) ?_ | (refine RunTo.unguard rfl rfl (fun hg => ?_) (fun hg => ?_) <;> ((try simp only [Bool.not_true, Bool.not_false, Bool.not_eq_true', Bool.not_eq_false', Bool.not_eq_eq_eq_not] at hg); (first | (cases hg) | (simp only [hg]) | skip))) | ((first | refine RunTo.plain rfl ?_ | refine RunTo.skipped rfl ?_); simp only [go_sem, ↓reduceIte, Nat.reduceEqDiff, Nat.reduceAdd, Nat.reduceLeDiff, Nat.reduceBEq, Nat.reduceMul, reduceCtorEq, Int.reduceLE, Int.reduceLT, Int.reduceAdd, Int.reduceSub, Int.reduceNeg, Int.reduceToNat, Int.reduceBEq, hdec, List.length_map]) | ((first | refine RunTo.nilA (by kernel_rfl) ?_ | refine RunTo.nilT ?_ | refine awp_skip ?_ | refine awp_exit ?_ | refine awp_label ?_); simp only [go_sem, ↓reduceIte, Nat.reduceEqDiff, Nat.reduceAdd, Nat.reduceLeDiff, Nat.reduceBEq, Nat.reduceMul, reduceCtorEq, Int.reduceLE, Int.reduceLT, Int.reduceAdd, Int.reduceSub, Int.reduceNeg, Int.reduceToNat, Int.reduceBEq, hdec, List.length_map]) | (refine awp_cond' rfl (of_decide_eq_true rfl) (fun hc => ?_) (fun hc => ?_) <;> ((try simp only [Bool.not_true, Bool.not_false, Bool.not_eq_true', Bool.not_eq_false', Bool.not_eq_eq_eq_not] at hc); (first | (cases hc) | (simp only [hc]) | skip))))
      all_goals exact awp_weak (st' := SDp q _ _) (weak_keep ⟨rfl, rfl, trivial⟩ ⟨rfl, trivial⟩ (Nat.le_refl _)) (main _)
end Go.Proofs.YtinpnidokpjfhaaGreatDoor.AM
namespace Go.Proofs.YtinpnidokpjfhaaGreatDoor.AM
open Go.RowKit
set_option linter.unusedSimpArgs false
set_option linter.unusedVariables false
set_option maxRecDepth 10000
set_option maxHeartbeats 0
def cutF {α : Type} (w : α → Nat) : Nat → List α → Nat
  | n, [] => n
  | n, x :: l => if n < 5000 then cutF w (n + w x) l else n
theorem cutF_stop {α : Type} (w : α → Nat) (n : Nat) (h : ¬ n < 5000) : ∀ l, cutF w n l = n
  | [] => rfl
  | x :: l => if_neg h
theorem cutF_sum {α : Type} (w : α → Nat) : ∀ (l : List α) (n : Nat), cutF w n l < 5000 → cutF w n l = n + (l.map w).sum
  | [], n, h => by simp [cutF]
  | x :: l, n, h => by
    unfold cutF at h ⊢
    split
    · rename_i hn
      rw [if_pos hn] at h
      rw [cutF_sum w l _ h, List.map_cons, List.sum_cons]
      omega
    · rename_i hn
      rw [if_neg hn] at h
      omega
theorem cutF_le {α : Type} (w : α → Nat) (M : Nat) : ∀ (l : List α) (n : Nat), (∀ x ∈ l, w x ≤ M) → n ≤ 5000 + M → cutF w n l ≤ 5000 + M
  | [], n, _, h => h
  | x :: l, n, hw, h => by
    unfold cutF
    split
    · have := hw x List.mem_cons_self
      exact cutF_le w M l _ (fun y hy => hw y (List.mem_cons_of_mem _ hy)) (by omega)
    · exact h
theorem sum_mem {α : Type} (w : α → Nat) : ∀ (l : List α) (x : α), x ∈ l → w x ≤ (l.map w).sum
  | y :: l, x, h => by
    rw [List.map_cons, List.sum_cons]
    rcases List.mem_cons.1 h with rfl | h
    · omega
    · have := sum_mem w l x h
      omega
theorem sum_len {α : Type} (w : α → Nat) (c : Nat) (hc : ∀ x, c ≤ w x) : ∀ l : List α, c * l.length ≤ (l.map w).sum
  | [] => by simp
  | x :: l => by
    have := sum_len w c hc l
    have := hc x
    rw [List.map_cons, List.sum_cons, List.length_cons, Nat.mul_add, Nat.mul_one]
    omega
def termW (t : TermD) : Nat := 5 + t.var.size + t.name.size + t.v.a.s.size + 20 * t.v.l.length
abbrev BIG : Nat := 4611686018427387904
theorem wN {a b : Nat} (h : a + b ≤ BIG) : IntKind.i64.wrap ((a : Int) + (b : Int)) = ((a + b : Nat) : Int) := by
  unfold BIG at h
  rw [IntWalk.i64_in _ (by omega)]; omega
theorem wN5 {a : Nat} (h : a + 5 ≤ BIG) : IntKind.i64.wrap ((a : Int) + 5) = ((a + 5 : Nat) : Int) := wN (b := 5) h
theorem wM20 {b : Nat} (h : 20 * b ≤ BIG) : IntKind.i64.wrap ((20 : Int) * (b : Int)) = ((20 * b : Nat) : Int) := by
  unfold BIG at h
  rw [IntWalk.i64_in _ (by omega)]; omega
theorem wM10 {b : Nat} (h : 10 * b ≤ BIG) : IntKind.i64.wrap ((10 : Int) * (b : Int)) = ((10 * b : Nat) : Int) := by
  unfold BIG at h
  rw [IntWalk.i64_in _ (by omega)]; omega
abbrev SAa (l : List TermD) (k n T : Nat) : St := ⟨[(0, .dat (.lst 8 (l.map TermD.enc))), (4, iv k), (3, iv n)], [], T⟩
def IAa (l : List TermD) (R : Nat) (m : Nat) (st : St) : Prop := ∃ k n T, k ≤ l.length ∧ m = l.length - k ∧ n ≤ 1000000000000000000 ∧ R = cutF termW n (l.drop k) ∧ st = SAa l k n T
theorem c_sizeL (l : List TermD) (hl : l.length ≤ 1000000000000000) (hw : ∀ t ∈ l, termW t ≤ 100000000000000000) : Pure Tryz.prog 12 [.dat (.lst 8 (l.map TermD.enc))] (iv (cutF termW 0 l : Nat)) := by
  generalize hR : cutF termW 0 l = R
  refine pure_of_awp Tryz.func12 rfl rfl (by simp [Tryz.f12]) ?_; simp only [go_sem, ↓reduceIte, Nat.reduceEqDiff, Nat.reduceAdd, Nat.reduceLeDiff, Nat.reduceBEq, Nat.reduceMul, reduceCtorEq, Int.reduceLE, Int.reduceLT, Int.reduceAdd, Int.reduceSub, Int.reduceNeg, Int.reduceToNat, Int.reduceBEq]
  repeat' (first | refine awp_seq ?_ | refine awp_block ?_ | refine awp_round ?_ | refine awp_scope ?_ | refine awp_text rfl ?_ | refine awp_any rfl mix (by kernel_rfl) ?_ | (refine RunTo.unguard rfl rfl (fun hg => ?_) (fun hg => ?_) <;> ((try simp only [Bool.not_true, Bool.not_false, Bool.not_eq_true', Bool.not_eq_false', Bool.not_eq_eq_eq_not] at hg); (first | (cases hg) | (simp only [hg]) | skip))) | ((first | refine RunTo.plain rfl ?_ | refine RunTo.skipped rfl ?_); simp only [go_sem, ↓reduceIte, Nat.reduceEqDiff, Nat.reduceAdd, Nat.reduceLeDiff, Nat.reduceBEq, Nat.reduceMul, reduceCtorEq, Int.reduceLE, Int.reduceLT, Int.reduceAdd, Int.reduceSub, Int.reduceNeg, Int.reduceToNat, Int.reduceBEq, List.length_map]) | ((first | refine RunTo.nilA (by kernel_rfl) ?_ | refine RunTo.nilT ?_ | refine awp_skip ?_ | refine awp_exit ?_ | refine awp_label ?_); simp only [go_sem, ↓reduceIte, Nat.reduceEqDiff, Nat.reduceAdd, Nat.reduceLeDiff, Nat.reduceBEq, Nat.reduceMul, reduceCtorEq, Int.reduceLE, Int.reduceLT, Int.reduceAdd, Int.reduceSub, Int.reduceNeg, Int.reduceToNat, Int.reduceBEq, List.length_map]) | (refine awp_cond' rfl (of_decide_eq_true rfl) (fun hc => ?_) (fun hc => ?_) <;> ((try simp only [Bool.not_true, Bool.not_false, Bool.not_eq_true', Bool.not_eq_false', Bool.not_eq_eq_eq_not] at hc); (first | (cases hc) | (simp only [hc]) | skip))))
  refine awp_loopw (IAa l R) l.length (SAa l 0 0 _) (weak_keep ⟨rfl, rfl, rfl, trivial⟩ trivial (Nat.le_refl _)) ⟨0, 0, _, Nat.zero_le _, rfl, by omega, hR.symm, rfl⟩ ?_
  rintro m st ⟨k, n, T, hk, rfl, hn, hx, rfl⟩
  by_cases hlt : k < l.length
  · have hdec := lt_t hlt
    by_cases h5 : n < 5000
    · have d5 : decide ((n : Int) < 5000) = true := decide_eq_true (by omega)
      have hget := row_at TermD.enc l k hlt
      have hwk : IntKind.i64.wrap ((k : Int) + 1) = ((k + 1 : Nat) : Int) := wrap_succ (by omega)
      have hwt := hw _ (List.getElem_mem hlt)
      rw [List.drop_eq_getElem_cons hlt] at hx
      unfold cutF at hx
      rw [if_pos h5] at hx
      generalize l[k] = t at *
      unfold termW at hwt
      have w1 := wN5 (a := n) (by unfold BIG; omega)
      have w2 := wN (a := n + 5) (b := t.var.size) (by unfold BIG; omega)
      have w3 := wN (a := n + 5 + t.var.size) (b := t.name.size) (by unfold BIG; omega)
      have w4 := wN (a := n + 5 + t.var.size + t.name.size) (b := t.v.a.s.size) (by unfold BIG; omega)
      have w5 := wM20 (b := t.v.l.length) (by unfold BIG; omega)
      have w6 := wN (a := n + 5 + t.var.size + t.name.size + t.v.a.s.size) (b := 20 * t.v.l.length) (by unfold BIG; omega)
      repeat' (first | refine awp_seq ?_ | refine awp_block ?_ | refine awp_round ?_ | refine awp_scope ?_ | refine awp_text rfl ?_ | refine awp_any rfl mix (by kernel_rfl) ?_ | (refine RunTo.unguard rfl rfl (fun hg => ?_) (fun hg => ?_) <;> ((try simp only [Bool.not_true, Bool.not_false, Bool.not_eq_true', Bool.not_eq_false', Bool.not_eq_eq_eq_not] at hg); (first | (cases hg) | (simp only [hg]) | skip))) | ((first | refine RunTo.plain rfl ?_ | refine RunTo.skipped rfl ?_); simp only [go_sem, ↓reduceIte, Nat.reduceEqDiff, Nat.reduceAdd, Nat.reduceLeDiff, Nat.reduceBEq, Nat.reduceMul, reduceCtorEq, Int.reduceLE, Int.reduceLT, Int.reduceAdd, Int.reduceSub, Int.reduceNeg, Int.reduceToNat, Int.reduceBEq, hdec, d5, hget, hwk, w1, w2, w3, w4, w5, w6, TermD.enc, List.length_map]) | ((first | refine RunTo.nilA (by kernel_rfl) ?_ | refine RunTo.nilT ?_ | refine awp_skip ?_ | refine awp_exit ?_ | refine awp_label ?_); simp only [go_sem, ↓reduceIte, Nat.reduceEqDiff, Nat.reduceAdd, Nat.reduceLeDiff, Nat.reduceBEq, Nat.reduceMul, reduceCtorEq, Int.reduceLE, Int.reduceLT, Int.reduceAdd, Int.reduceSub, Int.reduceNeg, Int.reduceToNat, Int.reduceBEq, hdec, d5, hget, hwk, w1, w2, w3, w4, w5, w6, TermD.enc, List.length_map]) | (refine awp_cond' rfl (of_decide_eq_true rfl) (fun hc => ?_) (fun hc => ?_) <;> ((try simp only [Bool.not_true, Bool.not_false, Bool.not_eq_true', Bool.not_eq_false', Bool.not_eq_eq_eq_not] at hc); (first | (cases hc) | (simp only [hc]) | skip))))
      all_goals exact ⟨l.length - (k + 1), by omega, SAa l (k + 1) (n + 5 + t.var.size + t.name.size + t.v.a.s.size + 20 * t.v.l.length) _, weak_keep ⟨rfl, rfl, rfl, trivial⟩ trivial (Nat.le_refl _), k + 1, _, _, by omega, rfl, by omega, by rw [hx]; unfold termW; simp only [Nat.add_assoc], rfl⟩
    · have d5 : decide ((n : Int) < 5000) = false := decide_eq_false (by omega)
      rw [cutF_stop _ _ h5] at hx
      subst hx
      repeat' (first | refine awp_seq ?_ | refine awp_block ?_ | refine awp_round ?_ | refine awp_scope ?_ | refine awp_text rfl ?_ | refine awp_any rfl mix (by kernel_rfl) ?_ | (refine RunTo.unguard rfl rfl (fun hg => ?_) (fun hg => ?_) <;> ((try simp only [Bool.not_true, Bool.not_false, Bool.not_eq_true', Bool.not_eq_false', Bool.not_eq_eq_eq_not] at hg); (first | (cases hg) | (simp only [hg]) | skip))) | ((first | refine RunTo.plain rfl ?_ | refine RunTo.skipped rfl ?_); simp only [go_sem, ↓reduceIte, Nat.reduceEqDiff, Nat.reduceAdd, Nat.reduceLeDiff, Nat.reduceBEq, Nat.reduceMul, reduceCtorEq, Int.reduceLE, Int.reduceLT, Int.reduceAdd, Int.reduceSub, Int.reduceNeg, Int.reduceToNat, Int.reduceBEq, hdec, d5, List.length_map]) | ((first | refine RunTo.nilA (by kernel_rfl) ?_ | refine RunTo.nilT ?_ | refine awp_skip ?_ | refine awp_exit ?_ | refine awp_label ?_); simp only [go_sem, ↓reduceIte, Nat.reduceEqDiff, Nat.reduceAdd, Nat.reduceLeDiff, Nat.reduceBEq, Nat.reduceMul, reduceCtorEq, Int.reduceLE, Int.reduceLT, Int.reduceAdd, Int.reduceSub, Int.reduceNeg, Int.reduceToNat, Int.reduceBEq, hdec, d5, List.length_map]) | (refine awp_cond' rfl (of_decide_eq_true rfl) (fun hc => ?_) (fun hc => ?_) <;> ((try simp only [Bool.not_true, Bool.not_false, Bool.not_eq_true', Bool.not_eq_false', Bool.not_eq_eq_eq_not] at hc); (first | (cases hc) | (simp only [hc]) | skip))))
      all_goals (first | refine awp_ret ?_ | skip); refine ⟨(by first | exact .inl rfl | exact .inr rfl | exact .inr trivial | trivial), ?_⟩; simp only [go_sem, ↓reduceIte, Nat.reduceEqDiff, Nat.reduceAdd, Nat.reduceLeDiff, Nat.reduceBEq, Nat.reduceMul, reduceCtorEq, Int.reduceLE, Int.reduceLT, Int.reduceAdd, Int.reduceSub, Int.reduceNeg, Int.reduceToNat, Int.reduceBEq, retV, resL, resV, sealV, sealC, sealAll, Tryz.f12]
      all_goals rfl
  · have hdec := lt_f hlt
    rw [List.drop_of_length_le (by omega)] at hx
    have hx : R = n := hx
    subst hx
    repeat' (first | refine awp_seq ?_ | refine awp_block ?_ | refine awp_round ?_ | refine awp_scope ?_ | refine awp_text rfl ?_ | refine awp_any rfl mix (by kernel_rfl) ?_ | (refine RunTo.unguard rfl rfl (fun hg => ?_) (fun hg => ?_) <;> ((try simp only [Bool.not_true, Bool.not_false, Bool.not_eq_true', Bool.not_eq_false', Bool.not_eq_eq_eq_not] at hg); (first | (cases hg) | (simp only [hg]) | skip))) | ((first | refine RunTo.plain rfl ?_ | refine RunTo.skipped rfl ?_); simp only [go_sem, ↓reduceIte, Nat.reduceEqDiff, Nat.reduceAdd, Nat.reduceLeDiff, Nat.reduceBEq, Nat.reduceMul, reduceCtorEq, Int.reduceLE, Int.reduceLT, Int.reduceAdd, Int.reduceSub, Int.reduceNeg, Int.reduceToNat, Int.reduceBEq, hdec, List.length_map]) | ((first | refine RunTo.nilA (by kernel_rfl) ?_ | refine RunTo.nilT ?_ | refine awp_skip ?_ | refine awp_exit ?_ | refine awp_label ?_); simp only [go_sem, ↓reduceIte, Nat.reduceEqDiff, Nat.reduceAdd, Nat.reduceLeDiff, Nat.reduceBEq, Nat.reduceMul, reduceCtorEq, Int.reduceLE, Int.reduceLT, Int.reduceAdd, Int.reduceSub, Int.reduceNeg, Int.reduceToNat, Int.reduceBEq, hdec, List.length_map]) | (refine awp_cond' rfl (of_decide_eq_true rfl) (fun hc => ?_) (fun hc => ?_) <;> ((try simp only [Bool.not_true, Bool.not_false, Bool.not_eq_true', Bool.not_eq_false', Bool.not_eq_eq_eq_not] at hc); (first | (cases hc) | (simp only [hc]) | skip))))
    all_goals (first | refine awp_ret ?_ | skip); refine ⟨(by first | exact .inl rfl | exact .inr rfl | exact .inr trivial | trivial), ?_⟩; simp only [go_sem, ↓reduceIte, Nat.reduceEqDiff, Nat.reduceAdd, Nat.reduceLeDiff, Nat.reduceBEq, Nat.reduceMul, reduceCtorEq, Int.reduceLE, Int.reduceLT, Int.reduceAdd, Int.reduceSub, Int.reduceNeg, Int.reduceToNat, Int.reduceBEq, retV, resL, resV, sealV, sealC, sealAll, Tryz.f12]
    all_goals rfl
end Go.Proofs.YtinpnidokpjfhaaGreatDoor.AM
namespace Go.Proofs.YtinpnidokpjfhaaGreatDoor.AM
open Go.RowKit
set_option linter.unusedSimpArgs false
set_option linter.unusedVariables false
set_option maxRecDepth 10000
set_option maxHeartbeats 0
def propW (p : PropD) : Nat := p.name.size + p.v.a.s.size + 20 * p.v.l.length
def spotN (n : Nat) (s : SpotD) : Nat := cutF propW (n + s.var.size + s.label.size + 10 * s.props.length) s.props
def cutS : Nat → List SpotD → Nat
  | n, [] => n
  | n, s :: l => if n < 5000 then cutS (spotN n s) l else n
theorem cutS_stop (n : Nat) (h : ¬ n < 5000) : ∀ l, cutS n l = n
  | [] => rfl
  | x :: l => if_neg h
def hopW (h : HopD) : Nat := h.var.size + h.type.size
def itemW (x : ItemD) : Nat := cutF termW 0 x.terms
def lenW (q : QueryD) : Nat := 10 * (q.spots.length + q.hops.length + q.items.length + q.sorts.length)
def fewN (q : QueryD) : Nat := cutF itemW (cutF hopW (cutS (lenW q) q.spots) q.hops) q.items + cutF termW 0 q.wh
structure BigS (s : SpotD) : Prop where
  var : s.var.size ≤ 1000000000000000
  label : s.label.size ≤ 1000000000000000
  len : s.props.length ≤ 1000000000000000
  props : ∀ p ∈ s.props, propW p ≤ 100000000000000000
structure BigL (l : List TermD) : Prop where
  len : l.length ≤ 1000000000000000
  terms : ∀ t ∈ l, termW t ≤ 100000000000000000
structure BigQ (q : QueryD) : Prop where
  nspots : q.spots.length ≤ 1000000000000000
  spots : ∀ s ∈ q.spots, BigS s
  nhops : q.hops.length ≤ 1000000000000000
  hops : ∀ h ∈ q.hops, hopW h ≤ 100000000000000000
  wh : BigL q.wh
  nitems : q.items.length ≤ 1000000000000000
  items : ∀ x ∈ q.items, BigL x.terms
  nsorts : q.sorts.length ≤ 1000000000000000
theorem bigL_le {l : List TermD} (h : BigL l) : cutF termW 0 l ≤ 100000000000005000 := by
  have := cutF_le termW 100000000000000000 l 0 h.terms (by omega)
  omega
theorem spotN_le {n : Nat} {s : SpotD} (h : BigS s) (hn : n < 5000) : spotN n s ≤ 100000000000005000 := by
  have h1 := h.var
  have h2 := h.label
  have h3 := h.len
  have := cutF_le propW 100000000000000000 s.props (n + s.var.size + s.label.size + 10 * s.props.length) h.props (by omega)
  unfold spotN
  omega
abbrev SF (q : QueryD) (n T : Nat) : St := ⟨[(3, iv n), (1, .ptr 1 0 0 0)], [(1, .box 0 (cellsQ q))], T⟩
abbrev SFa (q : QueryD) (i n T : Nat) : St := ⟨[(3, iv n), (4, iv i), (1, .ptr 1 0 0 0)], [(1, .box 0 (cellsQ q))], T⟩
def IFa (q : QueryD) (R m : Nat) (st : St) : Prop := ∃ i n T, i ≤ q.spots.length ∧ m = q.spots.length - i ∧ n ≤ 1000000000000000000 ∧ R = cutS n (q.spots.drop i) ∧ st = SFa q i n T
abbrev SFb (q : QueryD) (i k n T : Nat) : St := ⟨[(3, iv n), (4, iv i), (5, iv k), (1, .ptr 1 0 0 0)], [(1, .box 0 (cellsQ q))], T⟩
def IFb (q : QueryD) (i : Nat) (ps : List PropD) (R m : Nat) (st : St) : Prop := ∃ k n T, k ≤ ps.length ∧ m = ps.length - k ∧ n ≤ 1000000000000000000 ∧ R = cutF propW n (ps.drop k) ∧ st = SFb q i k n T
abbrev SFc (q : QueryD) (i n T : Nat) : St := ⟨[(3, iv n), (6, iv i), (1, .ptr 1 0 0 0)], [(1, .box 0 (cellsQ q))], T⟩
def IFc (q : QueryD) (R m : Nat) (st : St) : Prop := ∃ i n T, i ≤ q.hops.length ∧ m = q.hops.length - i ∧ n ≤ 1000000000000000000 ∧ R = cutF hopW n (q.hops.drop i) ∧ st = SFc q i n T
abbrev SFd (q : QueryD) (i n T : Nat) : St := ⟨[(3, iv n), (7, iv i), (1, .ptr 1 0 0 0)], [(1, .box 0 (cellsQ q))], T⟩
def IFd (q : QueryD) (R m : Nat) (st : St) : Prop := ∃ i n T, i ≤ q.items.length ∧ m = q.items.length - i ∧ n ≤ 1000000000000000000 ∧ R = cutF itemW n (q.items.drop i) ∧ st = SFd q i n T
theorem cutS_le : ∀ (l : List SpotD) (n : Nat), (∀ s ∈ l, BigS s) → n ≤ 100000000000005000 → cutS n l ≤ 100000000000005000
  | [], n, _, h => h
  | s :: l, n, hs, h => by
    unfold cutS
    split
    · rename_i h5
      exact cutS_le l _ (fun x hx => hs x (List.mem_cons_of_mem _ hx)) (spotN_le (hs s List.mem_cons_self) h5)
    · exact h
theorem c_Few (q : QueryD) (hq : BigQ q) : Pure Tryz.prog 4 [q.av] (iv (if fewN q < 5000 then 1 else 0)) := by
  have h1 := hq.nspots
  have h2 := hq.nhops
  have h3 := hq.nitems
  have h4 := hq.nsorts
  have wsz := c_sizeL q.wh hq.wh.len hq.wh.terms
  obtain ⟨F, hF⟩ : ∃ F : Int, F = (if fewN q < 5000 then 1 else 0) := ⟨_, rfl⟩
  rw [← hF]
  refine pure_of_awp Tryz.func4 rfl rfl (by simp [Tryz.f4]) ?_; simp only [go_sem, ↓reduceIte, Nat.reduceEqDiff, Nat.reduceAdd, Nat.reduceLeDiff, Nat.reduceBEq, Nat.reduceMul, reduceCtorEq, Int.reduceLE, Int.reduceLT, Int.reduceAdd, Int.reduceSub, Int.reduceNeg, Int.reduceToNat, Int.reduceBEq]
  refine hideQ3 (α := Nat) (fun _ => True) (fun T => SF q (cutS (lenW q) q.spots) T) ?_ ?_
  · intro T _
    have hlw : lenW q ≤ 40000000000000000 := by unfold lenW; omega
    have hcs := cutS_le q.spots (lenW q) hq.spots (by omega)
    unfold fewN at hF
    generalize cutS (lenW q) q.spots = n1 at *
    have hch := cutF_le hopW 100000000000000000 q.hops n1 hq.hops (by omega)
    refine hideQ1 (fun T => SF q (cutF hopW n1 q.hops) T) ?_ ?_
    · intro T
      generalize cutF hopW n1 q.hops = n2 at *
      have hci := cutF_le itemW 100000000000005000 q.items n2 (fun x hx => bigL_le (hq.items x hx)) (by omega)
      refine hideQ1 (fun T => SF q (cutF itemW n2 q.items) T) ?_ ?_
      · intro T
        generalize cutF itemW n2 q.items = n3 at *
        have hcw := bigL_le hq.wh
        generalize cutF termW 0 q.wh = n4 at *
        have u1 := wN (a := n3) (b := n4) (by unfold BIG; omega)
        by_cases hf : n3 + n4 < 5000
        · have d5 : decide (((n3 + n4 : Nat) : Int) < 5000) = true := decide_eq_true (by omega)
          rw [hF, if_pos hf]
          repeat' (first | refine awp_seq ?_ | refine awp_block ?_ | refine awp_round ?_ | refine awp_scope ?_ | refine awp_text rfl ?_ | refine awp_any rfl mix (by kernel_rfl) ?_ | (refine RunTo.unguard rfl rfl (fun hg => ?_) (fun hg => ?_) <;> ((try simp only [Bool.not_true, Bool.not_false, Bool.not_eq_true', Bool.not_eq_false', Bool.not_eq_eq_eq_not] at hg); (first | (cases hg) | (simp only [hg]) | skip))) | ((first | refine RunTo.plain rfl ?_ | refine RunTo.skipped rfl ?_ | refine RunTo.call (wsz) Tryz.func12 rfl rfl rfl rfl rfl rfl rfl rfl ?_); simp only [go_sem, ↓reduceIte, Nat.reduceEqDiff, Nat.reduceAdd, Nat.reduceLeDiff, Nat.reduceBEq, Nat.reduceMul, reduceCtorEq, Int.reduceLE, Int.reduceLT, Int.reduceAdd, Int.reduceSub, Int.reduceNeg, Int.reduceToNat, Int.reduceBEq, u1, d5]) | ((first | refine RunTo.nilA (by kernel_rfl) ?_ | refine RunTo.nilT ?_ | refine awp_skip ?_ | refine awp_exit ?_ | refine awp_label ?_); simp only [go_sem, ↓reduceIte, Nat.reduceEqDiff, Nat.reduceAdd, Nat.reduceLeDiff, Nat.reduceBEq, Nat.reduceMul, reduceCtorEq, Int.reduceLE, Int.reduceLT, Int.reduceAdd, Int.reduceSub, Int.reduceNeg, Int.reduceToNat, Int.reduceBEq, u1, d5]) | (refine awp_cond' rfl (of_decide_eq_true rfl) (fun hc => ?_) (fun hc => ?_) <;> ((try simp only [Bool.not_true, Bool.not_false, Bool.not_eq_true', Bool.not_eq_false', Bool.not_eq_eq_eq_not] at hc); (first | (cases hc) | (simp only [hc]) | skip))))
          all_goals (first | refine awp_ret ?_ | skip); refine ⟨(by first | exact .inl rfl | exact .inr rfl | exact .inr trivial | trivial), ?_⟩; simp only [go_sem, ↓reduceIte, Nat.reduceEqDiff, Nat.reduceAdd, Nat.reduceLeDiff, Nat.reduceBEq, Nat.reduceMul, reduceCtorEq, Int.reduceLE, Int.reduceLT, Int.reduceAdd, Int.reduceSub, Int.reduceNeg, Int.reduceToNat, Int.reduceBEq, retV, resL, resV, sealV, sealC, sealAll, Tryz.f4]
          all_goals rfl
        · have d5 : decide (((n3 + n4 : Nat) : Int) < 5000) = false := decide_eq_false (by omega)
          rw [hF, if_neg hf]
          repeat' (first | refine awp_seq ?_ | refine awp_block ?_ | refine awp_round ?_ | refine awp_scope ?_ | refine awp_text rfl ?_ | refine awp_any rfl mix (by kernel_rfl) ?_ | (refine RunTo.unguard rfl rfl (fun hg => ?_) (fun hg => ?_) <;> ((try simp only [Bool.not_true, Bool.not_false, Bool.not_eq_true', Bool.not_eq_false', Bool.not_eq_eq_eq_not] at hg); (first | (cases hg) | (simp only [hg]) | skip))) | ((first | refine RunTo.plain rfl ?_ | refine RunTo.skipped rfl ?_ | refine RunTo.call (wsz) Tryz.func12 rfl rfl rfl rfl rfl rfl rfl rfl ?_); simp only [go_sem, ↓reduceIte, Nat.reduceEqDiff, Nat.reduceAdd, Nat.reduceLeDiff, Nat.reduceBEq, Nat.reduceMul, reduceCtorEq, Int.reduceLE, Int.reduceLT, Int.reduceAdd, Int.reduceSub, Int.reduceNeg, Int.reduceToNat, Int.reduceBEq, u1, d5]) | ((first | refine RunTo.nilA (by kernel_rfl) ?_ | refine RunTo.nilT ?_ | refine awp_skip ?_ | refine awp_exit ?_ | refine awp_label ?_); simp only [go_sem, ↓reduceIte, Nat.reduceEqDiff, Nat.reduceAdd, Nat.reduceLeDiff, Nat.reduceBEq, Nat.reduceMul, reduceCtorEq, Int.reduceLE, Int.reduceLT, Int.reduceAdd, Int.reduceSub, Int.reduceNeg, Int.reduceToNat, Int.reduceBEq, u1, d5]) | (refine awp_cond' rfl (of_decide_eq_true rfl) (fun hc => ?_) (fun hc => ?_) <;> ((try simp only [Bool.not_true, Bool.not_false, Bool.not_eq_true', Bool.not_eq_false', Bool.not_eq_eq_eq_not] at hc); (first | (cases hc) | (simp only [hc]) | skip))))
          all_goals (first | refine awp_ret ?_ | skip); refine ⟨(by first | exact .inl rfl | exact .inr rfl | exact .inr trivial | trivial), ?_⟩; simp only [go_sem, ↓reduceIte, Nat.reduceEqDiff, Nat.reduceAdd, Nat.reduceLeDiff, Nat.reduceBEq, Nat.reduceMul, reduceCtorEq, Int.reduceLE, Int.reduceLT, Int.reduceAdd, Int.reduceSub, Int.reduceNeg, Int.reduceToNat, Int.reduceBEq, retV, resL, resV, sealV, sealC, sealAll, Tryz.f4]
          all_goals rfl
      · intro R' main
        generalize hR : cutF itemW n2 q.items = R at *
        repeat' (first | refine awp_seq ?_ | refine awp_block ?_ | refine awp_round ?_ | refine awp_scope ?_ | refine awp_text rfl ?_ | refine awp_any rfl mix (by kernel_rfl) ?_ | (refine RunTo.unguard rfl rfl (fun hg => ?_) (fun hg => ?_) <;> ((try simp only [Bool.not_true, Bool.not_false, Bool.not_eq_true', Bool.not_eq_false', Bool.not_eq_eq_eq_not] at hg); (first | (cases hg) | (simp only [hg]) | skip))) | ((first | refine RunTo.plain rfl ?_ | refine RunTo.skipped rfl ?_); simp only [go_sem, ↓reduceIte, Nat.reduceEqDiff, Nat.reduceAdd, Nat.reduceLeDiff, Nat.reduceBEq, Nat.reduceMul, reduceCtorEq, Int.reduceLE, Int.reduceLT, Int.reduceAdd, Int.reduceSub, Int.reduceNeg, Int.reduceToNat, Int.reduceBEq, List.length_map]) | ((first | refine RunTo.nilA (by kernel_rfl) ?_ | refine RunTo.nilT ?_ | refine awp_skip ?_ | refine awp_exit ?_ | refine awp_label ?_); simp only [go_sem, ↓reduceIte, Nat.reduceEqDiff, Nat.reduceAdd, Nat.reduceLeDiff, Nat.reduceBEq, Nat.reduceMul, reduceCtorEq, Int.reduceLE, Int.reduceLT, Int.reduceAdd, Int.reduceSub, Int.reduceNeg, Int.reduceToNat, Int.reduceBEq, List.length_map]) | (refine awp_cond' rfl (of_decide_eq_true rfl) (fun hc => ?_) (fun hc => ?_) <;> ((try simp only [Bool.not_true, Bool.not_false, Bool.not_eq_true', Bool.not_eq_false', Bool.not_eq_eq_eq_not] at hc); (first | (cases hc) | (simp only [hc]) | skip))))
        refine awp_loopw (IFd q R) q.items.length (SFd q 0 n2 _) (weak_keep ⟨rfl, rfl, rfl, trivial⟩ ⟨rfl, trivial⟩ (Nat.le_refl _)) ⟨0, _, _, Nat.zero_le _, rfl, by omega, hR.symm, rfl⟩ ?_
        rintro m st ⟨i, n, T, hi, rfl, hn, hx, rfl⟩
        by_cases hlt : i < q.items.length
        · have hdec := lt_t hlt
          by_cases h5 : n < 5000
          · have d5 : decide ((n : Int) < 5000) = true := decide_eq_true (by omega)
            have hget := row_at ItemD.enc q.items i hlt
            have hwi : IntKind.i64.wrap ((i : Int) + 1) = ((i + 1 : Nat) : Int) := wrap_succ (by omega)
            have hbs := hq.items _ (List.getElem_mem hlt)
            rw [List.drop_eq_getElem_cons hlt] at hx
            unfold cutF at hx
            rw [if_pos h5] at hx
            generalize q.items[i] = s at *
            have hsz := c_sizeL s.terms hbs.len hbs.terms
            have hle := bigL_le hbs
            rw [show itemW s = cutF termW 0 s.terms from rfl] at hx
            generalize cutF termW 0 s.terms = w at *
            have v1 := wN (a := n) (b := w) (by unfold BIG; omega)
            rw [show ItemD.enc s = [di s.fn, .lst 8 (s.terms.map TermD.enc)] from rfl] at hget
            repeat' (first | refine awp_seq ?_ | refine awp_block ?_ | refine awp_round ?_ | refine awp_scope ?_ | refine awp_text rfl ?_ | refine awp_any rfl mix (by kernel_rfl) ?_ | (refine RunTo.unguard rfl rfl (fun hg => ?_) (fun hg => ?_) <;> ((try simp only [Bool.not_true, Bool.not_false, Bool.not_eq_true', Bool.not_eq_false', Bool.not_eq_eq_eq_not] at hg); (first | (cases hg) | (simp only [hg]) | skip))) | ((first | refine RunTo.plain rfl ?_ | refine RunTo.skipped rfl ?_ | refine RunTo.call (hsz) Tryz.func12 rfl rfl rfl rfl rfl rfl rfl rfl ?_); simp only [go_sem, ↓reduceIte, Nat.reduceEqDiff, Nat.reduceAdd, Nat.reduceLeDiff, Nat.reduceBEq, Nat.reduceMul, reduceCtorEq, Int.reduceLE, Int.reduceLT, Int.reduceAdd, Int.reduceSub, Int.reduceNeg, Int.reduceToNat, Int.reduceBEq, hdec, d5, hget, hwi, v1, List.length_map]) | ((first | refine RunTo.nilA (by kernel_rfl) ?_ | refine RunTo.nilT ?_ | refine awp_skip ?_ | refine awp_exit ?_ | refine awp_label ?_); simp only [go_sem, ↓reduceIte, Nat.reduceEqDiff, Nat.reduceAdd, Nat.reduceLeDiff, Nat.reduceBEq, Nat.reduceMul, reduceCtorEq, Int.reduceLE, Int.reduceLT, Int.reduceAdd, Int.reduceSub, Int.reduceNeg, Int.reduceToNat, Int.reduceBEq, hdec, d5, hget, hwi, v1, List.length_map]) | (refine awp_cond' rfl (of_decide_eq_true rfl) (fun hc => ?_) (fun hc => ?_) <;> ((try simp only [Bool.not_true, Bool.not_false, Bool.not_eq_true', Bool.not_eq_false', Bool.not_eq_eq_eq_not] at hc); (first | (cases hc) | (simp only [hc]) | skip))))
            all_goals exact ⟨q.items.length - (i + 1), by omega, SFd q (i + 1) (n + w) _, weak_keep ⟨rfl, rfl, rfl, trivial⟩ ⟨rfl, trivial⟩ (Nat.le_refl _), i + 1, _, _, by omega, rfl, by omega, hx, rfl⟩
          · have d5 : decide ((n : Int) < 5000) = false := decide_eq_false (by omega)
            rw [cutF_stop _ _ h5] at hx
            rw [hx] at main
            repeat' (first | refine awp_seq ?_ | refine awp_block ?_ | refine awp_round ?_ | refine awp_scope ?_ | refine awp_text rfl ?_ | refine awp_any rfl mix (by kernel_rfl) ?_ | (refine RunTo.unguard rfl rfl (fun hg => ?_) (fun hg => ?_) <;> ((try simp only [Bool.not_true, Bool.not_false, Bool.not_eq_true', Bool.not_eq_false', Bool.not_eq_eq_eq_not] at hg); (first | (cases hg) | (simp only [hg]) | skip))) | ((first | refine RunTo.plain rfl ?_ | refine RunTo.skipped rfl ?_); simp only [go_sem, ↓reduceIte, Nat.reduceEqDiff, Nat.reduceAdd, Nat.reduceLeDiff, Nat.reduceBEq, Nat.reduceMul, reduceCtorEq, Int.reduceLE, Int.reduceLT, Int.reduceAdd, Int.reduceSub, Int.reduceNeg, Int.reduceToNat, Int.reduceBEq, hdec, d5, List.length_map]) | ((first | refine RunTo.nilA (by kernel_rfl) ?_ | refine RunTo.nilT ?_ | refine awp_skip ?_ | refine awp_exit ?_ | refine awp_label ?_); simp only [go_sem, ↓reduceIte, Nat.reduceEqDiff, Nat.reduceAdd, Nat.reduceLeDiff, Nat.reduceBEq, Nat.reduceMul, reduceCtorEq, Int.reduceLE, Int.reduceLT, Int.reduceAdd, Int.reduceSub, Int.reduceNeg, Int.reduceToNat, Int.reduceBEq, hdec, d5, List.length_map]) | (refine awp_cond' rfl (of_decide_eq_true rfl) (fun hc => ?_) (fun hc => ?_) <;> ((try simp only [Bool.not_true, Bool.not_false, Bool.not_eq_true', Bool.not_eq_false', Bool.not_eq_eq_eq_not] at hc); (first | (cases hc) | (simp only [hc]) | skip))))
            all_goals exact awp_weak (st' := SF q n _) (weak_keep ⟨rfl, rfl, trivial⟩ ⟨rfl, trivial⟩ (Nat.le_refl _)) (main _)
        · have hdec := lt_f hlt
          rw [List.drop_of_length_le (by omega)] at hx
          have hx : R = n := hx
          rw [hx] at main
          repeat' (first | refine awp_seq ?_ | refine awp_block ?_ | refine awp_round ?_ | refine awp_scope ?_ | refine awp_text rfl ?_ | refine awp_any rfl mix (by kernel_rfl) ?_ | (refine RunTo.unguard rfl rfl (fun hg => ?_) (fun hg => ?_) <;> ((try simp only [Bool.not_true, Bool.not_false, Bool.not_eq_true', Bool.not_eq_false', Bool.not_eq_eq_eq_not] at hg); (first | (cases hg) | (simp only [hg]) | skip))) | ((first | refine RunTo.plain rfl ?_ | refine RunTo.skipped rfl ?_); simp only [go_sem, ↓reduceIte, Nat.reduceEqDiff, Nat.reduceAdd, Nat.reduceLeDiff, Nat.reduceBEq, Nat.reduceMul, reduceCtorEq, Int.reduceLE, Int.reduceLT, Int.reduceAdd, Int.reduceSub, Int.reduceNeg, Int.reduceToNat, Int.reduceBEq, hdec, List.length_map]) | ((first | refine RunTo.nilA (by kernel_rfl) ?_ | refine RunTo.nilT ?_ | refine awp_skip ?_ | refine awp_exit ?_ | refine awp_label ?_); simp only [go_sem, ↓reduceIte, Nat.reduceEqDiff, Nat.reduceAdd, Nat.reduceLeDiff, Nat.reduceBEq, Nat.reduceMul, reduceCtorEq, Int.reduceLE, Int.reduceLT, Int.reduceAdd, Int.reduceSub, Int.reduceNeg, Int.reduceToNat, Int.reduceBEq, hdec, List.length_map]) | (refine awp_cond' rfl (of_decide_eq_true rfl) (fun hc => ?_) (fun hc => ?_) <;> ((try simp only [Bool.not_true, Bool.not_false, Bool.not_eq_true', Bool.not_eq_false', Bool.not_eq_eq_eq_not] at hc); (first | (cases hc) | (simp only [hc]) | skip))))
          all_goals exact awp_weak (st' := SF q n _) (weak_keep ⟨rfl, rfl, trivial⟩ ⟨rfl, trivial⟩ (Nat.le_refl _)) (main _)
    · intro R' main
      generalize hR : cutF hopW n1 q.hops = R at *
      repeat' (first | refine awp_seq ?_ | refine awp_block ?_ | refine awp_round ?_ | refine awp_scope ?_ | refine awp_text rfl ?_ | refine awp_any rfl mix (by kernel_rfl) ?_ | (refine RunTo.unguard rfl rfl (fun hg => ?_) (fun hg => ?_) <;> ((try simp only [Bool.not_true, Bool.not_false, Bool.not_eq_true', Bool.not_eq_false', Bool.not_eq_eq_eq_not] at hg); (first | (cases hg) | (simp only [hg]) | skip))) | ((first | refine RunTo.plain rfl ?_ | refine RunTo.skipped rfl ?_); simp only [go_sem, ↓reduceIte, Nat.reduceEqDiff, Nat.reduceAdd, Nat.reduceLeDiff, Nat.reduceBEq, Nat.reduceMul, reduceCtorEq, Int.reduceLE, Int.reduceLT, Int.reduceAdd, Int.reduceSub, Int.reduceNeg, Int.reduceToNat, Int.reduceBEq, List.length_map]) | ((first | refine RunTo.nilA (by kernel_rfl) ?_ | refine RunTo.nilT ?_ | refine awp_skip ?_ | refine awp_exit ?_ | refine awp_label ?_); simp only [go_sem, ↓reduceIte, Nat.reduceEqDiff, Nat.reduceAdd, Nat.reduceLeDiff, Nat.reduceBEq, Nat.reduceMul, reduceCtorEq, Int.reduceLE, Int.reduceLT, Int.reduceAdd, Int.reduceSub, Int.reduceNeg, Int.reduceToNat, Int.reduceBEq, List.length_map]) | (refine awp_cond' rfl (of_decide_eq_true rfl) (fun hc => ?_) (fun hc => ?_) <;> ((try simp only [Bool.not_true, Bool.not_false, Bool.not_eq_true', Bool.not_eq_false', Bool.not_eq_eq_eq_not] at hc); (first | (cases hc) | (simp only [hc]) | skip))))
      refine awp_loopw (IFc q R) q.hops.length (SFc q 0 n1 _) (weak_keep ⟨rfl, rfl, rfl, trivial⟩ ⟨rfl, trivial⟩ (Nat.le_refl _)) ⟨0, _, _, Nat.zero_le _, rfl, by omega, hR.symm, rfl⟩ ?_
      rintro m st ⟨i, n, T, hi, rfl, hn, hx, rfl⟩
      by_cases hlt : i < q.hops.length
      · have hdec := lt_t hlt
        by_cases h5 : n < 5000
        · have d5 : decide ((n : Int) < 5000) = true := decide_eq_true (by omega)
          have hget := row_at HopD.enc q.hops i hlt
          have hwi : IntKind.i64.wrap ((i : Int) + 1) = ((i + 1 : Nat) : Int) := wrap_succ (by omega)
          have hbs := hq.hops _ (List.getElem_mem hlt)
          rw [List.drop_eq_getElem_cons hlt] at hx
          unfold cutF at hx
          rw [if_pos h5] at hx
          generalize q.hops[i] = s at *
          unfold hopW at hbs
          have v1 := wN (a := n) (b := s.var.size) (by unfold BIG; omega)
          have v2 := wN (a := n + s.var.size) (b := s.type.size) (by unfold BIG; omega)
          rw [show HopD.enc s = [ds' s.var, ds' s.type, db s.back, db s.many, di s.least, di s.most] from rfl] at hget
          repeat' (first | refine awp_seq ?_ | refine awp_block ?_ | refine awp_round ?_ | refine awp_scope ?_ | refine awp_text rfl ?_ | refine awp_any rfl mix (by kernel_rfl) ?_ | (refine RunTo.unguard rfl rfl (fun hg => ?_) (fun hg => ?_) <;> ((try simp only [Bool.not_true, Bool.not_false, Bool.not_eq_true', Bool.not_eq_false', Bool.not_eq_eq_eq_not] at hg); (first | (cases hg) | (simp only [hg]) | skip))) | ((first | refine RunTo.plain rfl ?_ | refine RunTo.skipped rfl ?_); simp only [go_sem, ↓reduceIte, Nat.reduceEqDiff, Nat.reduceAdd, Nat.reduceLeDiff, Nat.reduceBEq, Nat.reduceMul, reduceCtorEq, Int.reduceLE, Int.reduceLT, Int.reduceAdd, Int.reduceSub, Int.reduceNeg, Int.reduceToNat, Int.reduceBEq, hdec, d5, hget, hwi, v1, v2, List.length_map]) | ((first | refine RunTo.nilA (by kernel_rfl) ?_ | refine RunTo.nilT ?_ | refine awp_skip ?_ | refine awp_exit ?_ | refine awp_label ?_); simp only [go_sem, ↓reduceIte, Nat.reduceEqDiff, Nat.reduceAdd, Nat.reduceLeDiff, Nat.reduceBEq, Nat.reduceMul, reduceCtorEq, Int.reduceLE, Int.reduceLT, Int.reduceAdd, Int.reduceSub, Int.reduceNeg, Int.reduceToNat, Int.reduceBEq, hdec, d5, hget, hwi, v1, v2, List.length_map]) | (refine awp_cond' rfl (of_decide_eq_true rfl) (fun hc => ?_) (fun hc => ?_) <;> ((try simp only [Bool.not_true, Bool.not_false, Bool.not_eq_true', Bool.not_eq_false', Bool.not_eq_eq_eq_not] at hc); (first | (cases hc) | (simp only [hc]) | skip))))
          all_goals exact ⟨q.hops.length - (i + 1), by omega, SFc q (i + 1) (n + s.var.size + s.type.size) _, weak_keep ⟨rfl, rfl, rfl, trivial⟩ ⟨rfl, trivial⟩ (Nat.le_refl _), i + 1, _, _, by omega, rfl, by omega, by rw [hx]; unfold hopW; simp only [Nat.add_assoc], rfl⟩
        · have d5 : decide ((n : Int) < 5000) = false := decide_eq_false (by omega)
          rw [cutF_stop _ _ h5] at hx
          rw [hx] at main
          repeat' (first | refine awp_seq ?_ | refine awp_block ?_ | refine awp_round ?_ | refine awp_scope ?_ | refine awp_text rfl ?_ | refine awp_any rfl mix (by kernel_rfl) ?_ | (refine RunTo.unguard rfl rfl (fun hg => ?_) (fun hg => ?_) <;> ((try simp only [Bool.not_true, Bool.not_false, Bool.not_eq_true', Bool.not_eq_false', Bool.not_eq_eq_eq_not] at hg); (first | (cases hg) | (simp only [hg]) | skip))) | ((first | refine RunTo.plain rfl ?_ | refine RunTo.skipped rfl ?_); simp only [go_sem, ↓reduceIte, Nat.reduceEqDiff, Nat.reduceAdd, Nat.reduceLeDiff, Nat.reduceBEq, Nat.reduceMul, reduceCtorEq, Int.reduceLE, Int.reduceLT, Int.reduceAdd, Int.reduceSub, Int.reduceNeg, Int.reduceToNat, Int.reduceBEq, hdec, d5, List.length_map]) | ((first | refine RunTo.nilA (by kernel_rfl) ?_ | refine RunTo.nilT ?_ | refine awp_skip ?_ | refine awp_exit ?_ | refine awp_label ?_); simp only [go_sem, ↓reduceIte, Nat.reduceEqDiff, Nat.reduceAdd, Nat.reduceLeDiff, Nat.reduceBEq, Nat.reduceMul, reduceCtorEq, Int.reduceLE, Int.reduceLT, Int.reduceAdd, Int.reduceSub, Int.reduceNeg, Int.reduceToNat, Int.reduceBEq, hdec, d5, List.length_map]) | (refine awp_cond' rfl (of_decide_eq_true rfl) (fun hc => ?_) (fun hc => ?_) <;> ((try simp only [Bool.not_true, Bool.not_false, Bool.not_eq_true', Bool.not_eq_false', Bool.not_eq_eq_eq_not] at hc); (first | (cases hc) | (simp only [hc]) | skip))))
          all_goals exact awp_weak (st' := SF q n _) (weak_keep ⟨rfl, rfl, trivial⟩ ⟨rfl, trivial⟩ (Nat.le_refl _)) (main _)
      · have hdec := lt_f hlt
        rw [List.drop_of_length_le (by omega)] at hx
        have hx : R = n := hx
        rw [hx] at main
        repeat' (first | refine awp_seq ?_ | refine awp_block ?_ | refine awp_round ?_ | refine awp_scope ?_ | refine awp_text rfl ?_ | refine awp_any rfl mix (by kernel_rfl) ?_ | (refine RunTo.unguard rfl rfl (fun hg => ?_) (fun hg => ?_) <;> ((try simp only [Bool.not_true, Bool.not_false, Bool.not_eq_true', Bool.not_eq_false', Bool.not_eq_eq_eq_not] at hg); (first | (cases hg) | (simp only [hg]) | skip))) | ((first | refine RunTo.plain rfl ?_ | refine RunTo.skipped rfl ?_); simp only [go_sem, ↓reduceIte, Nat.reduceEqDiff, Nat.reduceAdd, Nat.reduceLeDiff, Nat.reduceBEq, Nat.reduceMul, reduceCtorEq, Int.reduceLE, Int.reduceLT, Int.reduceAdd, Int.reduceSub, Int.reduceNeg, Int.reduceToNat, Int.reduceBEq, hdec, List.length_map]) | ((first | refine RunTo.nilA (by kernel_rfl) ?_ | refine RunTo.nilT ?_ | refine awp_skip ?_ | refine awp_exit ?_ | refine awp_label ?_); simp only [go_sem, ↓reduceIte, Nat.reduceEqDiff, Nat.reduceAdd, Nat.reduceLeDiff, Nat.reduceBEq, Nat.reduceMul, reduceCtorEq, Int.reduceLE, Int.reduceLT, Int.reduceAdd, Int.reduceSub, Int.reduceNeg, Int.reduceToNat, Int.reduceBEq, hdec, List.length_map]) | (refine awp_cond' rfl (of_decide_eq_true rfl) (fun hc => ?_) (fun hc => ?_) <;> ((try simp only [Bool.not_true, Bool.not_false, Bool.not_eq_true', Bool.not_eq_false', Bool.not_eq_eq_eq_not] at hc); (first | (cases hc) | (simp only [hc]) | skip))))
        all_goals exact awp_weak (st' := SF q n _) (weak_keep ⟨rfl, rfl, trivial⟩ ⟨rfl, trivial⟩ (Nat.le_refl _)) (main _)
  · intro R' main
    generalize hR : cutS (lenW q) q.spots = R at *
    have w1 := wN (a := q.spots.length) (b := q.hops.length) (by unfold BIG; omega)
    have w2 := wN (a := q.spots.length + q.hops.length) (b := q.items.length) (by unfold BIG; omega)
    have w3 := wN (a := q.spots.length + q.hops.length + q.items.length) (b := q.sorts.length) (by unfold BIG; omega)
    have w4 : IntKind.i64.wrap ((10 : Int) * ((q.spots.length + q.hops.length + q.items.length + q.sorts.length : Nat) : Int)) = ((lenW q : Nat) : Int) := wM10 (by unfold BIG; omega)
    have hlw : lenW q ≤ 40000000000000000 := by unfold lenW; omega
    repeat' (first | refine awp_seq ?_ | refine awp_block ?_ | refine awp_round ?_ | refine awp_scope ?_ | refine awp_text rfl ?_ | refine awp_any rfl mix (by kernel_rfl) ?_ | (refine RunTo.unguard rfl rfl (fun hg => ?_) (fun hg => ?_) <;> ((try simp only [Bool.not_true, Bool.not_false, Bool.not_eq_true', Bool.not_eq_false', Bool.not_eq_eq_eq_not] at hg); (first | (cases hg) | (simp only [hg]) | skip))) | ((first | refine RunTo.plain rfl ?_ | refine RunTo.skipped rfl ?_); simp only [go_sem, ↓reduceIte, Nat.reduceEqDiff, Nat.reduceAdd, Nat.reduceLeDiff, Nat.reduceBEq, Nat.reduceMul, reduceCtorEq, Int.reduceLE, Int.reduceLT, Int.reduceAdd, Int.reduceSub, Int.reduceNeg, Int.reduceToNat, Int.reduceBEq, QueryD.av, List.length_map, w1, w2, w3, w4]) | ((first | refine RunTo.nilA (by kernel_rfl) ?_ | refine RunTo.nilT ?_ | refine awp_skip ?_ | refine awp_exit ?_ | refine awp_label ?_); simp only [go_sem, ↓reduceIte, Nat.reduceEqDiff, Nat.reduceAdd, Nat.reduceLeDiff, Nat.reduceBEq, Nat.reduceMul, reduceCtorEq, Int.reduceLE, Int.reduceLT, Int.reduceAdd, Int.reduceSub, Int.reduceNeg, Int.reduceToNat, Int.reduceBEq, QueryD.av, List.length_map, w1, w2, w3, w4]) | (refine awp_cond' rfl (of_decide_eq_true rfl) (fun hc => ?_) (fun hc => ?_) <;> ((try simp only [Bool.not_true, Bool.not_false, Bool.not_eq_true', Bool.not_eq_false', Bool.not_eq_eq_eq_not] at hc); (first | (cases hc) | (simp only [hc]) | skip))))
    refine awp_loopw (IFa q R) q.spots.length (SFa q 0 (lenW q) _) (weak_keep ⟨rfl, rfl, rfl, trivial⟩ ⟨rfl, trivial⟩ (Nat.le_refl _)) ⟨0, _, _, Nat.zero_le _, rfl, by omega, hR.symm, rfl⟩ ?_
    rintro m st ⟨i, n, T, hi, rfl, hn, hx, rfl⟩
    by_cases hlt : i < q.spots.length
    · have hdec := lt_t hlt
      by_cases h5 : n < 5000
      · have d5 : decide ((n : Int) < 5000) = true := decide_eq_true (by omega)
        have hget := row_at SpotD.enc q.spots i hlt
        have hwi : IntKind.i64.wrap ((i : Int) + 1) = ((i + 1 : Nat) : Int) := wrap_succ (by omega)
        have hbs := hq.spots _ (List.getElem_mem hlt)
        rw [List.drop_eq_getElem_cons hlt] at hx
        unfold cutS at hx
        rw [if_pos h5] at hx
        generalize q.spots[i] = s at *
        have b1 := hbs.var
        have b2 := hbs.label
        have b3 := hbs.len
        have v1 := wN (a := n) (b := s.var.size) (by unfold BIG; omega)
        have v2 := wN (a := n + s.var.size) (b := s.label.size) (by unfold BIG; omega)
        have v3 := wM10 (b := s.props.length) (by unfold BIG; omega)
        have v4 := wN (a := n + s.var.size + s.label.size) (b := 10 * s.props.length) (by unfold BIG; omega)
        have hsn := spotN_le hbs h5
        rw [show SpotD.enc s = [ds' s.var, ds' s.label, .lst 6 (s.props.map PropD.enc)] from rfl] at hget
        repeat' (first | refine awp_seq ?_ | refine awp_block ?_ | refine awp_round ?_ | refine awp_scope ?_ | refine awp_text rfl ?_ | refine awp_any rfl mix (by kernel_rfl) ?_ | (refine RunTo.unguard rfl rfl (fun hg => ?_) (fun hg => ?_) <;> ((try simp only [Bool.not_true, Bool.not_false, Bool.not_eq_true', Bool.not_eq_false', Bool.not_eq_eq_eq_not] at hg); (first | (cases hg) | (simp only [hg]) | skip))) | ((first | refine RunTo.plain rfl ?_ | refine RunTo.skipped rfl ?_); simp only [go_sem, ↓reduceIte, Nat.reduceEqDiff, Nat.reduceAdd, Nat.reduceLeDiff, Nat.reduceBEq, Nat.reduceMul, reduceCtorEq, Int.reduceLE, Int.reduceLT, Int.reduceAdd, Int.reduceSub, Int.reduceNeg, Int.reduceToNat, Int.reduceBEq, hdec, d5, hget, v1, v2, v3, v4, List.length_map]) | ((first | refine RunTo.nilA (by kernel_rfl) ?_ | refine RunTo.nilT ?_ | refine awp_skip ?_ | refine awp_exit ?_ | refine awp_label ?_); simp only [go_sem, ↓reduceIte, Nat.reduceEqDiff, Nat.reduceAdd, Nat.reduceLeDiff, Nat.reduceBEq, Nat.reduceMul, reduceCtorEq, Int.reduceLE, Int.reduceLT, Int.reduceAdd, Int.reduceSub, Int.reduceNeg, Int.reduceToNat, Int.reduceBEq, hdec, d5, hget, v1, v2, v3, v4, List.length_map]) | (refine awp_cond' rfl (of_decide_eq_true rfl) (fun hc => ?_) (fun hc => ?_) <;> ((try simp only [Bool.not_true, Bool.not_false, Bool.not_eq_true', Bool.not_eq_false', Bool.not_eq_eq_eq_not] at hc); (first | (cases hc) | (simp only [hc]) | skip))))
        refine awp_loopw (IFb q i s.props (spotN n s)) s.props.length (SFb q i 0 (n + s.var.size + s.label.size + 10 * s.props.length) _) (weak_keep ⟨rfl, rfl, rfl, rfl, trivial⟩ ⟨rfl, trivial⟩ (Nat.le_refl _)) ⟨0, _, _, Nat.zero_le _, rfl, by omega, rfl, rfl⟩ ?_
        rintro m st ⟨k, n', T, hk, rfl, hn', hx', rfl⟩
        by_cases hlk : k < s.props.length
        · have hdk := lt_t hlk
          by_cases h5' : n' < 5000
          · have d5' : decide ((n' : Int) < 5000) = true := decide_eq_true (by omega)
            have hgp := row_at PropD.enc s.props k hlk
            have hwk : IntKind.i64.wrap ((k : Int) + 1) = ((k + 1 : Nat) : Int) := wrap_succ (by omega)
            have hbp := hbs.props _ (List.getElem_mem hlk)
            rw [List.drop_eq_getElem_cons hlk] at hx'
            unfold cutF at hx'
            rw [if_pos h5'] at hx'
            generalize s.props[k] = p at *
            unfold propW at hbp
            have u1 := wN (a := n') (b := p.name.size) (by unfold BIG; omega)
            have u2 := wN (a := n' + p.name.size) (b := p.v.a.s.size) (by unfold BIG; omega)
            have u3 := wM20 (b := p.v.l.length) (by unfold BIG; omega)
            have u4 := wN (a := n' + p.name.size + p.v.a.s.size) (b := 20 * p.v.l.length) (by unfold BIG; omega)
            rw [show PropD.enc p = [ds' p.name, di p.v.a.k, di p.v.a.n, df p.v.a.f, ds' p.v.a.s, .lst 4 (p.v.l.map AtomD.enc)] from rfl] at hgp
            repeat' (first | refine awp_seq ?_ | refine awp_block ?_ | refine awp_round ?_ | refine awp_scope ?_ | refine awp_text rfl ?_ | refine awp_any rfl mix (by kernel_rfl) ?_ | (refine RunTo.unguard rfl rfl (fun hg => ?_) (fun hg => ?_) <;> ((try simp only [Bool.not_true, Bool.not_false, Bool.not_eq_true', Bool.not_eq_false', Bool.not_eq_eq_eq_not] at hg); (first | (cases hg) | (simp only [hg]) | skip))) | ((first | refine RunTo.plain rfl ?_ | refine RunTo.skipped rfl ?_); simp only [go_sem, ↓reduceIte, Nat.reduceEqDiff, Nat.reduceAdd, Nat.reduceLeDiff, Nat.reduceBEq, Nat.reduceMul, reduceCtorEq, Int.reduceLE, Int.reduceLT, Int.reduceAdd, Int.reduceSub, Int.reduceNeg, Int.reduceToNat, Int.reduceBEq, hdk, d5', hget, hgp, hwk, u1, u2, u3, u4, List.length_map]) | ((first | refine RunTo.nilA (by kernel_rfl) ?_ | refine RunTo.nilT ?_ | refine awp_skip ?_ | refine awp_exit ?_ | refine awp_label ?_); simp only [go_sem, ↓reduceIte, Nat.reduceEqDiff, Nat.reduceAdd, Nat.reduceLeDiff, Nat.reduceBEq, Nat.reduceMul, reduceCtorEq, Int.reduceLE, Int.reduceLT, Int.reduceAdd, Int.reduceSub, Int.reduceNeg, Int.reduceToNat, Int.reduceBEq, hdk, d5', hget, hgp, hwk, u1, u2, u3, u4, List.length_map]) | (refine awp_cond' rfl (of_decide_eq_true rfl) (fun hc => ?_) (fun hc => ?_) <;> ((try simp only [Bool.not_true, Bool.not_false, Bool.not_eq_true', Bool.not_eq_false', Bool.not_eq_eq_eq_not] at hc); (first | (cases hc) | (simp only [hc]) | skip))))
            all_goals exact ⟨s.props.length - (k + 1), by omega, SFb q i (k + 1) (n' + p.name.size + p.v.a.s.size + 20 * p.v.l.length) _, weak_keep ⟨rfl, rfl, rfl, rfl, trivial⟩ ⟨rfl, trivial⟩ (Nat.le_refl _), k + 1, _, _, by omega, rfl, by omega, by rw [hx']; unfold propW; simp only [Nat.add_assoc], rfl⟩
          · have d5' : decide ((n' : Int) < 5000) = false := decide_eq_false (by omega)
            rw [cutF_stop _ _ h5'] at hx'
            rw [hx'] at hx
            repeat' (first | refine awp_seq ?_ | refine awp_block ?_ | refine awp_round ?_ | refine awp_scope ?_ | refine awp_text rfl ?_ | refine awp_any rfl mix (by kernel_rfl) ?_ | (refine RunTo.unguard rfl rfl (fun hg => ?_) (fun hg => ?_) <;> ((try simp only [Bool.not_true, Bool.not_false, Bool.not_eq_true', Bool.not_eq_false', Bool.not_eq_eq_eq_not] at hg); (first | (cases hg) | (simp only [hg]) | skip))) | ((first | refine RunTo.plain rfl ?_ | refine RunTo.skipped rfl ?_); simp only [go_sem, ↓reduceIte, Nat.reduceEqDiff, Nat.reduceAdd, Nat.reduceLeDiff, Nat.reduceBEq, Nat.reduceMul, reduceCtorEq, Int.reduceLE, Int.reduceLT, Int.reduceAdd, Int.reduceSub, Int.reduceNeg, Int.reduceToNat, Int.reduceBEq, hdk, d5', hget, hwi, List.length_map]) | ((first | refine RunTo.nilA (by kernel_rfl) ?_ | refine RunTo.nilT ?_ | refine awp_skip ?_ | refine awp_exit ?_ | refine awp_label ?_); simp only [go_sem, ↓reduceIte, Nat.reduceEqDiff, Nat.reduceAdd, Nat.reduceLeDiff, Nat.reduceBEq, Nat.reduceMul, reduceCtorEq, Int.reduceLE, Int.reduceLT, Int.reduceAdd, Int.reduceSub, Int.reduceNeg, Int.reduceToNat, Int.reduceBEq, hdk, d5', hget, hwi, List.length_map]) | (refine awp_cond' rfl (of_decide_eq_true rfl) (fun hc => ?_) (fun hc => ?_) <;> ((try simp only [Bool.not_true, Bool.not_false, Bool.not_eq_true', Bool.not_eq_false', Bool.not_eq_eq_eq_not] at hc); (first | (cases hc) | (simp only [hc]) | skip))))
            all_goals exact ⟨q.spots.length - (i + 1), by omega, SFa q (i + 1) n' _, weak_keep ⟨rfl, rfl, rfl, trivial⟩ ⟨rfl, trivial⟩ (Nat.le_refl _), i + 1, _, _, by omega, rfl, by omega, hx, rfl⟩
        · have hdk := lt_f hlk
          rw [List.drop_of_length_le (by omega)] at hx'
          have hx' : spotN n s = n' := hx'
          rw [hx'] at hx
          repeat' (first | refine awp_seq ?_ | refine awp_block ?_ | refine awp_round ?_ | refine awp_scope ?_ | refine awp_text rfl ?_ | refine awp_any rfl mix (by kernel_rfl) ?_ | (refine RunTo.unguard rfl rfl (fun hg => ?_) (fun hg => ?_) <;> ((try simp only [Bool.not_true, Bool.not_false, Bool.not_eq_true', Bool.not_eq_false', Bool.not_eq_eq_eq_not] at hg); (first | (cases hg) | (simp only [hg]) | skip))) | ((first | refine RunTo.plain rfl ?_ | refine RunTo.skipped rfl ?_); simp only [go_sem, ↓reduceIte, Nat.reduceEqDiff, Nat.reduceAdd, Nat.reduceLeDiff, Nat.reduceBEq, Nat.reduceMul, reduceCtorEq, Int.reduceLE, Int.reduceLT, Int.reduceAdd, Int.reduceSub, Int.reduceNeg, Int.reduceToNat, Int.reduceBEq, hdk, hget, hwi, List.length_map]) | ((first | refine RunTo.nilA (by kernel_rfl) ?_ | refine RunTo.nilT ?_ | refine awp_skip ?_ | refine awp_exit ?_ | refine awp_label ?_); simp only [go_sem, ↓reduceIte, Nat.reduceEqDiff, Nat.reduceAdd, Nat.reduceLeDiff, Nat.reduceBEq, Nat.reduceMul, reduceCtorEq, Int.reduceLE, Int.reduceLT, Int.reduceAdd, Int.reduceSub, Int.reduceNeg, Int.reduceToNat, Int.reduceBEq, hdk, hget, hwi, List.length_map]) | (refine awp_cond' rfl (of_decide_eq_true rfl) (fun hc => ?_) (fun hc => ?_) <;> ((try simp only [Bool.not_true, Bool.not_false, Bool.not_eq_true', Bool.not_eq_false', Bool.not_eq_eq_eq_not] at hc); (first | (cases hc) | (simp only [hc]) | skip))))
          all_goals exact ⟨q.spots.length - (i + 1), by omega, SFa q (i + 1) n' _, weak_keep ⟨rfl, rfl, rfl, trivial⟩ ⟨rfl, trivial⟩ (Nat.le_refl _), i + 1, _, _, by omega, rfl, by omega, hx, rfl⟩
      · have d5 : decide ((n : Int) < 5000) = false := decide_eq_false (by omega)
        rw [cutS_stop _ h5] at hx
        rw [hx] at main
        repeat' (first | refine awp_seq ?_ | refine awp_block ?_ | refine awp_round ?_ | refine awp_scope ?_ | refine awp_text rfl ?_ | refine awp_any rfl mix (by kernel_rfl) ?_ | (refine RunTo.unguard rfl rfl (fun hg => ?_) (fun hg => ?_) <;> ((try simp only [Bool.not_true, Bool.not_false, Bool.not_eq_true', Bool.not_eq_false', Bool.not_eq_eq_eq_not] at hg); (first | (cases hg) | (simp only [hg]) | skip))) | ((first | refine RunTo.plain rfl ?_ | refine RunTo.skipped rfl ?_); simp only [go_sem, ↓reduceIte, Nat.reduceEqDiff, Nat.reduceAdd, Nat.reduceLeDiff, Nat.reduceBEq, Nat.reduceMul, reduceCtorEq, Int.reduceLE, Int.reduceLT, Int.reduceAdd, Int.reduceSub, Int.reduceNeg, Int.reduceToNat, Int.reduceBEq, hdec, d5, List.length_map]) | ((first | refine RunTo.nilA (by kernel_rfl) ?_ | refine RunTo.nilT ?_ | refine awp_skip ?_ | refine awp_exit ?_ | refine awp_label ?_); simp only [go_sem, ↓reduceIte, Nat.reduceEqDiff, Nat.reduceAdd, Nat.reduceLeDiff, Nat.reduceBEq, Nat.reduceMul, reduceCtorEq, Int.reduceLE, Int.reduceLT, Int.reduceAdd, Int.reduceSub, Int.reduceNeg, Int.reduceToNat, Int.reduceBEq, hdec, d5, List.length_map]) | (refine awp_cond' rfl (of_decide_eq_true rfl) (fun hc => ?_) (fun hc => ?_) <;> ((try simp only [Bool.not_true, Bool.not_false, Bool.not_eq_true', Bool.not_eq_false', Bool.not_eq_eq_eq_not] at hc); (first | (cases hc) | (simp only [hc]) | skip))))
        all_goals exact awp_weak (st' := SF q n _) (weak_keep ⟨rfl, rfl, trivial⟩ ⟨rfl, trivial⟩ (Nat.le_refl _)) (main _ trivial)
    · have hdec := lt_f hlt
      rw [List.drop_of_length_le (by omega)] at hx
      have hx : R = n := hx
      rw [hx] at main
      repeat' (first | refine awp_seq ?_ | refine awp_block ?_ | refine awp_round ?_ | refine awp_scope ?_ | refine awp_text rfl ?_ | refine awp_any rfl mix (by kernel_rfl) ?_ | (refine RunTo.unguard rfl rfl (fun hg => ?_) (fun hg => ?_) <;> ((try simp only [Bool.not_true, Bool.not_false, Bool.not_eq_true', Bool.not_eq_false', Bool.not_eq_eq_eq_not] at hg); (first | (cases hg) | (simp only [hg]) | skip))) | ((first | refine RunTo.plain rfl ?_ | refine RunTo.skipped rfl ?_); simp only [go_sem, ↓reduceIte, Nat.reduceEqDiff, Nat.reduceAdd, Nat.reduceLeDiff, Nat.reduceBEq, Nat.reduceMul, reduceCtorEq, Int.reduceLE, Int.reduceLT, Int.reduceAdd, Int.reduceSub, Int.reduceNeg, Int.reduceToNat, Int.reduceBEq, hdec, List.length_map]) | ((first | refine RunTo.nilA (by kernel_rfl) ?_ | refine RunTo.nilT ?_ | refine awp_skip ?_ | refine awp_exit ?_ | refine awp_label ?_); simp only [go_sem, ↓reduceIte, Nat.reduceEqDiff, Nat.reduceAdd, Nat.reduceLeDiff, Nat.reduceBEq, Nat.reduceMul, reduceCtorEq, Int.reduceLE, Int.reduceLT, Int.reduceAdd, Int.reduceSub, Int.reduceNeg, Int.reduceToNat, Int.reduceBEq, hdec, List.length_map]) | (refine awp_cond' rfl (of_decide_eq_true rfl) (fun hc => ?_) (fun hc => ?_) <;> ((try simp only [Bool.not_true, Bool.not_false, Bool.not_eq_true', Bool.not_eq_false', Bool.not_eq_eq_eq_not] at hc); (first | (cases hc) | (simp only [hc]) | skip))))
      all_goals exact awp_weak (st' := SF q n _) (weak_keep ⟨rfl, rfl, trivial⟩ ⟨rfl, trivial⟩ (Nat.le_refl _)) (main _ trivial)
end Go.Proofs.YtinpnidokpjfhaaGreatDoor.AM
namespace Go.Proofs.YtinpnidokpjfhaaGreatDoor.AM
open Go.RowKit
set_option linter.unusedSimpArgs false
set_option linter.unusedVariables false
set_option maxRecDepth 10000
set_option maxHeartbeats 0
structure KindQ (q : QueryD) : Prop where
  props : ∀ s ∈ q.spots, ∀ p ∈ s.props, i64B p.v.a.n
  hops : ∀ h ∈ q.hops, i64B h.least ∧ i64B h.most
  wh : ∀ t ∈ q.wh, i64B t.v.a.n
  items : ∀ x ∈ q.items, ∀ t ∈ x.terms, i64B t.v.a.n
  sorts : ∀ x ∈ q.sorts, i64B x.item
  skip : i64B q.skip
  limit : i64B q.limit
theorem cutF_few {α : Type} {w : α → Nat} {n : Nat} {l : List α} (h : cutF w n l < 5000) : n ≤ cutF w n l ∧ ∀ x ∈ l, w x < 5000 := by
  have e := cutF_sum w l n h
  refine ⟨by omega, fun x hx => ?_⟩
  have := sum_mem w l x hx
  omega
theorem spotN_few {n : Nat} {s : SpotD} (h : spotN n s < 5000) : n ≤ spotN n s ∧ s.var.size < 5000 ∧ s.label.size < 5000 ∧ s.props.length < 5000 ∧ ∀ p ∈ s.props, propW p < 5000 := by
  have := cutF_few (show cutF propW (n + s.var.size + s.label.size + 10 * s.props.length) s.props < 5000 from h)
  have h0 : spotN n s = cutF propW (n + s.var.size + s.label.size + 10 * s.props.length) s.props := rfl
  rw [h0]
  exact ⟨by omega, by omega, by omega, by omega, this.2⟩
theorem cutS_few : ∀ (l : List SpotD) (n : Nat), cutS n l < 5000 → n ≤ cutS n l ∧ ∀ s ∈ l, s.var.size < 5000 ∧ s.label.size < 5000 ∧ s.props.length < 5000 ∧ ∀ p ∈ s.props, propW p < 5000
  | [], n, h => ⟨Nat.le_refl _, fun s hs => by cases hs⟩
  | s :: l, n, h => by
    unfold cutS at h ⊢
    split
    · rename_i h5
      rw [if_pos h5] at h
      obtain ⟨h1, h2⟩ := cutS_few l _ h
      have h3 := spotN_few (n := n) (s := s) (by omega)
      refine ⟨by omega, fun x hx => ?_⟩
      rcases List.mem_cons.1 hx with rfl | hx
      · exact h3.2
      · exact h2 x hx
    · rename_i h5
      rw [if_neg h5] at h
      omega
theorem lawL_of {l : List TermD} (h : cutF termW 0 l < 5000) (hk : ∀ t ∈ l, i64B t.v.a.n) : LawL l := by
  have e := cutF_sum termW l 0 h
  have h5 := sum_len termW 5 (fun x => by unfold termW; omega) l
  refine ⟨by omega, fun t ht => ?_⟩
  have := (cutF_few h).2 t ht
  unfold termW at this
  exact ⟨by omega, by omega, by omega, hk t ht⟩
theorem lawQ_of {q : QueryD} (h : fewN q < 5000) (hk : KindQ q) : LawQ q := by
  unfold fewN at h
  have h1 := cutF_few (show cutF itemW (cutF hopW (cutS (lenW q) q.spots) q.hops) q.items < 5000 by omega)
  have h2 := cutF_few (show cutF hopW (cutS (lenW q) q.spots) q.hops < 5000 by omega)
  have h3 := cutS_few q.spots (lenW q) (by omega)
  have hl : lenW q < 5000 := by omega
  unfold lenW at hl
  refine ⟨by omega, fun s hs => ?_, by omega, fun x hx => ?_, lawL_of (by omega) hk.wh, by omega, fun x hx => lawL_of (h1.2 x hx) (hk.items x hx), by omega, hk.sorts, hk.skip, hk.limit⟩
  · obtain ⟨a1, a2, a3, a4⟩ := h3.2 s hs
    refine ⟨by omega, by omega, by omega, fun p hp => ?_⟩
    have := a4 p hp
    unfold propW at this
    exact ⟨by omega, hk.props s hs p hp, by omega⟩
  · have := h2.2 x hx
    unfold hopW at this
    exact ⟨by omega, by omega, (hk.hops x hx).1, (hk.hops x hx).2⟩
end Go.Proofs.YtinpnidokpjfhaaGreatDoor.AM
namespace Go.Proofs.YtinpnidokpjfhaaGreatDoor.AM
open Go.RowKit
set_option linter.unusedSimpArgs false
set_option linter.unusedVariables false
set_option maxRecDepth 10000
set_option maxHeartbeats 0
theorem right_plain {t : TermD} (hr : rightT t = true) (ho : t.op = 1) : plainV t.v = true := by
  unfold rightT at hr
  rw [ho] at hr
  split at hr
  · cases hr
  · split at hr
    · cases hr
    · simpa using hr
theorem lit_ok {t : TermD} (h : lawT t) (hr : rightT t = true) (ho : t.op = 1) : okV t.v := by
  have hp := right_plain hr ho
  unfold plainV at hp
  rw [Bool.and_eq_true, bne_iff_ne, ne_eq] at hp
  have hv := hp.1
  rw [validV_atom hp.2] at hv
  simp only [Bool.and_eq_true, beq_iff_eq] at hv
  have hnil : t.v.l = [] := List.length_eq_zero_iff.1 (by have := hv.2; omega)
  exact ⟨⟨h.2.2.2, h.2.2.1⟩, fun a ha => by rw [hnil] at ha; cases ha⟩
theorem c_rPrintAny (q : QueryD) (h : LawQ q) (hf : FlQ q) : Pure Tryz.prog 9 [q.av] (sv (printQ2 q)) := by
  unfold printQ2
  by_cases hfq : fineQ q = true
  · rw [if_pos hfq]
    have hfq' := hfq
    unfold fineQ at hfq'
    simp only [Bool.and_eq_true, Bool.or_eq_true, decide_eq_true_eq, beq_iff_eq] at hfq'
    obtain ⟨⟨⟨⟨⟨⟨⟨⟨⟨⟨a1, a2⟩, a3⟩, a4⟩, a5⟩, a6⟩, a7⟩, a8⟩, a9⟩, a10⟩, a11⟩ := hfq'
    refine c_rPrintQ q (smallQ_of h) (okQ_of h hfq) hf hfq (fun t ht hop => ?_) (fun x hx t ht hop => ?_)
    · rcases a9 with a | a
      · rw [List.length_eq_zero_iff.1 (show q.wh.length = 0 by omega)] at ht; cases ht
      · unfold termsV at a
        rw [Bool.and_eq_true] at a
        exact lit_ok (h.wh.terms t ht) (List.all_eq_true.1 a.1 t ht) hop
    · have hr := List.all_eq_true.1 a10 x hx
      unfold rightI at hr
      simp only [Bool.and_eq_true, Bool.or_eq_true, beq_iff_eq] at hr
      rcases hr.2 with a | a
      · rw [List.length_eq_zero_iff.1 (show x.terms.length = 0 by omega)] at ht; cases ht
      · unfold termsV at a
        rw [Bool.and_eq_true] at a
        exact lit_ok ((h.items x hx).terms t ht) (List.all_eq_true.1 a.1 t ht) hop
  · rw [if_neg hfq]
    have hc := c_rFine q (smallQ_of h) hf
    rw [show fineQ q = false by simpa using hfq] at hc
    refine pure_of_awp Tryz.func9 rfl rfl (by simp [Tryz.f9]) ?_; simp only [go_sem, ↓reduceIte, Nat.reduceEqDiff, Nat.reduceAdd, Nat.reduceLeDiff, Nat.reduceBEq, Nat.reduceMul, reduceCtorEq, Int.reduceLE, Int.reduceLT, Int.reduceAdd, Int.reduceSub, Int.reduceNeg, Int.reduceToNat, Int.reduceBEq]
    repeat' (first | refine awp_seq ?_ | refine awp_block ?_ | refine awp_round ?_ | refine awp_scope ?_ | refine awp_text rfl ?_ | refine awp_any rfl mix (by kernel_rfl) ?_ | (refine RunTo.unguard rfl rfl (fun hg => ?_) (fun hg => ?_) <;> ((try simp only [Bool.not_true, Bool.not_false, Bool.not_eq_true', Bool.not_eq_false', Bool.not_eq_eq_eq_not] at hg); (first | (cases hg) | (simp only [hg]) | skip))) | ((first | refine RunTo.plain rfl ?_ | refine RunTo.skipped rfl ?_ | refine RunTo.call (hc) Tryz.func15 rfl rfl rfl rfl rfl rfl rfl rfl ?_); simp only [go_sem, ↓reduceIte, Nat.reduceEqDiff, Nat.reduceAdd, Nat.reduceLeDiff, Nat.reduceBEq, Nat.reduceMul, reduceCtorEq, Int.reduceLE, Int.reduceLT, Int.reduceAdd, Int.reduceSub, Int.reduceNeg, Int.reduceToNat, Int.reduceBEq, QueryD.av, Bool.not_false]) | ((first | refine RunTo.nilA (by kernel_rfl) ?_ | refine RunTo.nilT ?_ | refine awp_skip ?_ | refine awp_exit ?_ | refine awp_label ?_); simp only [go_sem, ↓reduceIte, Nat.reduceEqDiff, Nat.reduceAdd, Nat.reduceLeDiff, Nat.reduceBEq, Nat.reduceMul, reduceCtorEq, Int.reduceLE, Int.reduceLT, Int.reduceAdd, Int.reduceSub, Int.reduceNeg, Int.reduceToNat, Int.reduceBEq, QueryD.av, Bool.not_false]) | (refine awp_cond' rfl (of_decide_eq_true rfl) (fun hc => ?_) (fun hc => ?_) <;> ((try simp only [Bool.not_true, Bool.not_false, Bool.not_eq_true', Bool.not_eq_false', Bool.not_eq_eq_eq_not] at hc); (first | (cases hc) | (simp only [hc]) | skip))))
    all_goals (first | refine awp_ret ?_ | skip); refine ⟨(by first | exact .inl rfl | exact .inr rfl | exact .inr trivial | trivial), ?_⟩; simp only [go_sem, ↓reduceIte, Nat.reduceEqDiff, Nat.reduceAdd, Nat.reduceLeDiff, Nat.reduceBEq, Nat.reduceMul, reduceCtorEq, Int.reduceLE, Int.reduceLT, Int.reduceAdd, Int.reduceSub, Int.reduceNeg, Int.reduceToNat, Int.reduceBEq, retV, resL, resV, sealV, sealC, sealAll, Tryz.f9]
    all_goals rfl
theorem c_rRight (q : QueryD) (h : LawQ q) (hf : FlQ q) : Pure Tryz.prog 7 [q.av] (bv (rightQ2 q)) := by
  have hc := c_rFine q (smallQ_of h) hf
  have hp := c_rPrintAny q h hf
  unfold rightQ2
  generalize printQ2 q = o at *
  generalize fineQ q = f at *
  cases f
  all_goals
    refine pure_of_awp Tryz.func7 rfl rfl (by simp [Tryz.f7]) ?_; simp only [go_sem, ↓reduceIte, Nat.reduceEqDiff, Nat.reduceAdd, Nat.reduceLeDiff, Nat.reduceBEq, Nat.reduceMul, reduceCtorEq, Int.reduceLE, Int.reduceLT, Int.reduceAdd, Int.reduceSub, Int.reduceNeg, Int.reduceToNat, Int.reduceBEq]
    repeat' (first | refine awp_seq ?_ | refine awp_block ?_ | refine awp_round ?_ | refine awp_scope ?_ | refine awp_text rfl ?_ | refine awp_any rfl mix (by kernel_rfl) ?_ | (refine RunTo.unguard rfl rfl (fun hg => ?_) (fun hg => ?_) <;> ((try simp only [Bool.not_true, Bool.not_false, Bool.not_eq_true', Bool.not_eq_false', Bool.not_eq_eq_eq_not] at hg); (first | (cases hg) | (simp only [hg]) | skip))) | ((first | refine RunTo.plain rfl ?_ | refine RunTo.skipped rfl ?_ | refine RunTo.call (hc) Tryz.func15 rfl rfl rfl rfl rfl rfl rfl rfl ?_ | refine RunTo.call (hp) Tryz.func9 rfl rfl rfl rfl rfl rfl rfl rfl ?_); simp only [go_sem, ↓reduceIte, Nat.reduceEqDiff, Nat.reduceAdd, Nat.reduceLeDiff, Nat.reduceBEq, Nat.reduceMul, reduceCtorEq, Int.reduceLE, Int.reduceLT, Int.reduceAdd, Int.reduceSub, Int.reduceNeg, Int.reduceToNat, Int.reduceBEq, QueryD.av]) | ((first | refine RunTo.nilA (by kernel_rfl) ?_ | refine RunTo.nilT ?_ | refine awp_skip ?_ | refine awp_exit ?_ | refine awp_label ?_); simp only [go_sem, ↓reduceIte, Nat.reduceEqDiff, Nat.reduceAdd, Nat.reduceLeDiff, Nat.reduceBEq, Nat.reduceMul, reduceCtorEq, Int.reduceLE, Int.reduceLT, Int.reduceAdd, Int.reduceSub, Int.reduceNeg, Int.reduceToNat, Int.reduceBEq, QueryD.av]) | (refine awp_cond' rfl (of_decide_eq_true rfl) (fun hc => ?_) (fun hc => ?_) <;> ((try simp only [Bool.not_true, Bool.not_false, Bool.not_eq_true', Bool.not_eq_false', Bool.not_eq_eq_eq_not] at hc); (first | (cases hc) | (simp only [hc]) | skip))))
    all_goals (first | refine awp_ret ?_ | skip); refine ⟨(by first | exact .inl rfl | exact .inr rfl | exact .inr trivial | trivial), ?_⟩; simp only [go_sem, ↓reduceIte, Nat.reduceEqDiff, Nat.reduceAdd, Nat.reduceLeDiff, Nat.reduceBEq, Nat.reduceMul, reduceCtorEq, Int.reduceLE, Int.reduceLT, Int.reduceAdd, Int.reduceSub, Int.reduceNeg, Int.reduceToNat, Int.reduceBEq, retV, resL, resV, sealV, sealC, sealAll, Tryz.f7]
    all_goals rfl
abbrev SDr (ts : List TermD) (k T e : Nat) : St := ⟨[(0, .dat (.lst 8 (ts.map TermD.enc))), (4, iv k), (3, .slc 17 e 0 k)], [(17, .arr e 8 ((ts.take k).map TermD.enc))], T⟩
def IDr (ts : List TermD) (n : Nat) (st : St) : Prop := ∃ k T e, k ≤ ts.length ∧ n = ts.length - k ∧ st = SDr ts k T e
theorem c_copyT (ts : List TermD) (hl : ts.length ≤ 1000000) : Pure Tryz.prog 13 [.dat (.lst 8 (ts.map TermD.enc))] (.dat (.lst 8 (ts.map TermD.enc))) := by
  refine pure_of_awp Tryz.func13 rfl rfl (by simp [Tryz.f13]) ?_; simp only [go_sem, ↓reduceIte, Nat.reduceEqDiff, Nat.reduceAdd, Nat.reduceLeDiff, Nat.reduceBEq, Nat.reduceMul, reduceCtorEq, Int.reduceLE, Int.reduceLT, Int.reduceAdd, Int.reduceSub, Int.reduceNeg, Int.reduceToNat, Int.reduceBEq]
  repeat' (first | refine awp_seq ?_ | refine awp_block ?_ | refine awp_round ?_ | refine awp_scope ?_ | refine awp_text rfl ?_ | refine awp_any rfl mix (by kernel_rfl) ?_ | (refine RunTo.unguard rfl rfl (fun hg => ?_) (fun hg => ?_) <;> ((try simp only [Bool.not_true, Bool.not_false, Bool.not_eq_true', Bool.not_eq_false', Bool.not_eq_eq_eq_not] at hg); (first | (cases hg) | (simp only [hg]) | skip))) | ((first | refine RunTo.plain rfl ?_ | refine RunTo.skipped rfl ?_); simp only [go_sem, ↓reduceIte, Nat.reduceEqDiff, Nat.reduceAdd, Nat.reduceLeDiff, Nat.reduceBEq, Nat.reduceMul, reduceCtorEq, Int.reduceLE, Int.reduceLT, Int.reduceAdd, Int.reduceSub, Int.reduceNeg, Int.reduceToNat, Int.reduceBEq, List.length_map]) | ((first | refine RunTo.nilA (by kernel_rfl) ?_ | refine RunTo.nilT ?_ | refine awp_skip ?_ | refine awp_exit ?_ | refine awp_label ?_); simp only [go_sem, ↓reduceIte, Nat.reduceEqDiff, Nat.reduceAdd, Nat.reduceLeDiff, Nat.reduceBEq, Nat.reduceMul, reduceCtorEq, Int.reduceLE, Int.reduceLT, Int.reduceAdd, Int.reduceSub, Int.reduceNeg, Int.reduceToNat, Int.reduceBEq, List.length_map]) | (refine awp_cond' rfl (of_decide_eq_true rfl) (fun hc => ?_) (fun hc => ?_) <;> ((try simp only [Bool.not_true, Bool.not_false, Bool.not_eq_true', Bool.not_eq_false', Bool.not_eq_eq_eq_not] at hc); (first | (cases hc) | (simp only [hc]) | skip))))
  refine awp_weak (weak_nil (t := 3) (s := 17) (sz := 8) (of_decide_eq_true rfl) rfl) ?_
  simp only [go_sem, ↓reduceIte, Nat.reduceEqDiff, Nat.reduceAdd, Nat.reduceLeDiff, Nat.reduceBEq, Nat.reduceMul, reduceCtorEq, Int.reduceLE, Int.reduceLT, Int.reduceAdd, Int.reduceSub, Int.reduceNeg, Int.reduceToNat, Int.reduceBEq]
  refine awp_loopw (IDr ts) ts.length (SDr ts 0 _ _) (weak_keep ⟨rfl, rfl, rfl, trivial⟩ ⟨rfl, trivial⟩ (Nat.le_refl _)) ⟨0, _, _, Nat.zero_le _, rfl, rfl⟩ ?_
  rintro n st ⟨k, T, e, hk, rfl, rfl⟩
  have hrl : ((ts.take k).map TermD.enc).length = k := by simp; omega
  have htr : List.take k ((ts.take k).map TermD.enc) = (ts.take k).map TermD.enc := List.take_of_length_le (by omega)
  by_cases hlt : k < ts.length
  · have hdec := lt_t hlt
    have hget := row_at TermD.enc ts k hlt
    have htk : (ts.take (k + 1)).map TermD.enc = (ts.take k).map TermD.enc ++ [ts[k].enc] := by rw [List.take_succ_eq_append_getElem hlt, List.map_append]; rfl
    have hwk : IntKind.i64.wrap ((k : Int) + 1) = ((k + 1 : Nat) : Int) := wrap_succ (by omega)
    have c1 : ((k + 1) * 104 ≤ 140737488355328) = True := eq_true (by omega)
    generalize ts[k] = t at *
    have hle : (k ≤ (List.take k ts).length) = True := eq_true (by rw [List.length_take]; omega)
    repeat' (first | refine awp_seq ?_ | refine awp_block ?_ | refine awp_round ?_ | refine awp_scope ?_ | refine awp_text rfl ?_ | refine awp_any rfl mix (by kernel_rfl) ?_ | (refine RunTo.unguard rfl rfl (fun hg => ?_) (fun hg => ?_) <;> ((try simp only [Bool.not_true, Bool.not_false, Bool.not_eq_true', Bool.not_eq_false', Bool.not_eq_eq_eq_not] at hg); (first | (cases hg) | (simp only [hg]) | skip))) | ((first | refine RunTo.plain rfl ?_ | refine RunTo.skipped rfl ?_); simp only [go_sem, ↓reduceIte, Nat.reduceEqDiff, Nat.reduceAdd, Nat.reduceLeDiff, Nat.reduceBEq, Nat.reduceMul, reduceCtorEq, Int.reduceLE, Int.reduceLT, Int.reduceAdd, Int.reduceSub, Int.reduceNeg, Int.reduceToNat, Int.reduceBEq, hdec, hget, TermD.enc, hwk, htr, hle, hrl, c1, List.length_map, List.length_cons, List.length_nil, lenTy, implies_true]) | ((first | refine RunTo.nilA (by kernel_rfl) ?_ | refine RunTo.nilT ?_ | refine awp_skip ?_ | refine awp_exit ?_ | refine awp_label ?_); simp only [go_sem, ↓reduceIte, Nat.reduceEqDiff, Nat.reduceAdd, Nat.reduceLeDiff, Nat.reduceBEq, Nat.reduceMul, reduceCtorEq, Int.reduceLE, Int.reduceLT, Int.reduceAdd, Int.reduceSub, Int.reduceNeg, Int.reduceToNat, Int.reduceBEq, hdec, hget, TermD.enc, hwk, htr, hle, hrl, c1, List.length_map, List.length_cons, List.length_nil, lenTy, implies_true]) | (refine awp_cond' rfl (of_decide_eq_true rfl) (fun hc => ?_) (fun hc => ?_) <;> ((try simp only [Bool.not_true, Bool.not_false, Bool.not_eq_true', Bool.not_eq_false', Bool.not_eq_eq_eq_not] at hc); (first | (cases hc) | (simp only [hc]) | skip))))
    all_goals exact ⟨ts.length - (k + 1), by omega, SDr ts (k + 1) _ _, weak_keep ⟨rfl, rfl, rfl, trivial⟩ ⟨by rw [htk]; rfl, trivial⟩ (Nat.le_refl _), k + 1, _, _, by omega, rfl, rfl⟩
  · have hdec := lt_f hlt
    obtain rfl : k = ts.length := by omega
    rw [List.take_of_length_le (Nat.le_refl _)] at hrl htr
    repeat' (first | refine awp_seq ?_ | refine awp_block ?_ | refine awp_round ?_ | refine awp_scope ?_ | refine awp_text rfl ?_ | refine awp_any rfl mix (by kernel_rfl) ?_ | (refine RunTo.unguard rfl rfl (fun hg => ?_) (fun hg => ?_) <;> ((try simp only [Bool.not_true, Bool.not_false, Bool.not_eq_true', Bool.not_eq_false', Bool.not_eq_eq_eq_not] at hg); (first | (cases hg) | (simp only [hg]) | skip))) | ((first | refine RunTo.plain rfl ?_ | refine RunTo.skipped rfl ?_); simp only [go_sem, ↓reduceIte, Nat.reduceEqDiff, Nat.reduceAdd, Nat.reduceLeDiff, Nat.reduceBEq, Nat.reduceMul, reduceCtorEq, Int.reduceLE, Int.reduceLT, Int.reduceAdd, Int.reduceSub, Int.reduceNeg, Int.reduceToNat, Int.reduceBEq, hdec, List.length_map]) | ((first | refine RunTo.nilA (by kernel_rfl) ?_ | refine RunTo.nilT ?_ | refine awp_skip ?_ | refine awp_exit ?_ | refine awp_label ?_); simp only [go_sem, ↓reduceIte, Nat.reduceEqDiff, Nat.reduceAdd, Nat.reduceLeDiff, Nat.reduceBEq, Nat.reduceMul, reduceCtorEq, Int.reduceLE, Int.reduceLT, Int.reduceAdd, Int.reduceSub, Int.reduceNeg, Int.reduceToNat, Int.reduceBEq, hdec, List.length_map]) | (refine awp_cond' rfl (of_decide_eq_true rfl) (fun hc => ?_) (fun hc => ?_) <;> ((try simp only [Bool.not_true, Bool.not_false, Bool.not_eq_true', Bool.not_eq_false', Bool.not_eq_eq_eq_not] at hc); (first | (cases hc) | (simp only [hc]) | skip))))
    all_goals (first | refine awp_ret ?_ | skip); refine ⟨(by first | exact .inl rfl | exact .inr rfl | exact .inr trivial | trivial), ?_⟩; simp only [go_sem, ↓reduceIte, Nat.reduceEqDiff, Nat.reduceAdd, Nat.reduceLeDiff, Nat.reduceBEq, Nat.reduceMul, reduceCtorEq, Int.reduceLE, Int.reduceLT, Int.reduceAdd, Int.reduceSub, Int.reduceNeg, Int.reduceToNat, Int.reduceBEq, retV, resL, resV, sealV, sealC, sealAll, Tryz.f13]
    all_goals (rw [List.take_of_length_le (Nat.le_refl ts.length), hrl, if_pos (Nat.le_refl _), htr])
end Go.Proofs.YtinpnidokpjfhaaGreatDoor.AM
namespace Go.Proofs.YtinpnidokpjfhaaGreatDoor.AM
open Go.RowKit
set_option linter.unusedSimpArgs false
set_option linter.unusedVariables false
set_option maxRecDepth 10000
set_option maxHeartbeats 0
abbrev nilO : AV := .lit (.slice none 0 0)
abbrev zeroO : List AV := [nilO, nilO, nilO, nilO, bv false, nilO, iv 0, iv 0]
abbrev cellsO (q : QueryD) (a b c d : AV) : List AV := [a, b, .dat (.lst 8 (q.wh.map TermD.enc)), c, bv q.distinct, d, iv q.skip, iv q.limit]
abbrev SO0 (q : QueryD) (k T e9 e0 : Nat) : St := ⟨[(4, iv k), (3, .ptr 3 e9 0 0), (2, .ptr 2 1 0 0), (1, .ptr 1 0 0 0)], [(1, .box 0 (cellsQ q)), (2, .box 1 zeroO), (3, .box e9 (cellsO q (.slc 33 e0 0 k) (nilO) (nilO) (nilO))), (33, .arr e0 3 ((q.spots.take k).map SpotD.enc))], T⟩
def IO0 (q : QueryD) (n : Nat) (st : St) : Prop := ∃ k T e9 e0, k ≤ q.spots.length ∧ n = q.spots.length - k ∧ st = SO0 q k T e9 e0
abbrev SO1 (q : QueryD) (k T e9 e0 e1 : Nat) : St := ⟨[(5, iv k), (3, .ptr 3 e9 0 0), (2, .ptr 2 1 0 0), (1, .ptr 1 0 0 0)], [(1, .box 0 (cellsQ q)), (2, .box 1 zeroO), (3, .box e9 (cellsO q (.slc 33 e0 0 q.spots.length) (.slc 50 e1 0 k) (nilO) (nilO))), (33, .arr e0 3 (q.spots.map SpotD.enc)), (50, .arr e1 6 ((q.hops.take k).map HopD.enc))], T⟩
def IO1 (q : QueryD) (n : Nat) (st : St) : Prop := ∃ k T e9 e0 e1, k ≤ q.hops.length ∧ n = q.hops.length - k ∧ st = SO1 q k T e9 e0 e1
abbrev SO2 (q : QueryD) (k T e9 e0 e1 e2 : Nat) : St := ⟨[(6, iv k), (3, .ptr 3 e9 0 0), (2, .ptr 2 1 0 0), (1, .ptr 1 0 0 0)], [(1, .box 0 (cellsQ q)), (2, .box 1 zeroO), (3, .box e9 (cellsO q (.slc 33 e0 0 q.spots.length) (.slc 50 e1 0 q.hops.length) (.slc 76 e2 0 k) (nilO))), (33, .arr e0 3 (q.spots.map SpotD.enc)), (50, .arr e1 6 (q.hops.map HopD.enc)), (76, .arr e2 2 ((q.items.take k).map ItemD.enc))], T⟩
def IO2 (q : QueryD) (n : Nat) (st : St) : Prop := ∃ k T e9 e0 e1 e2, k ≤ q.items.length ∧ n = q.items.length - k ∧ st = SO2 q k T e9 e0 e1 e2
abbrev SO3 (q : QueryD) (k T e9 e0 e1 e2 e3 : Nat) : St := ⟨[(7, iv k), (3, .ptr 3 e9 0 0), (2, .ptr 2 1 0 0), (1, .ptr 1 0 0 0)], [(1, .box 0 (cellsQ q)), (2, .box 1 zeroO), (3, .box e9 (cellsO q (.slc 33 e0 0 q.spots.length) (.slc 50 e1 0 q.hops.length) (.slc 76 e2 0 q.items.length) (.slc 93 e3 0 k))), (33, .arr e0 3 (q.spots.map SpotD.enc)), (50, .arr e1 6 (q.hops.map HopD.enc)), (76, .arr e2 2 (q.items.map ItemD.enc)), (93, .arr e3 2 ((q.sorts.take k).map SortD.enc))], T⟩
def IO3 (q : QueryD) (n : Nat) (st : St) : Prop := ∃ k T e9 e0 e1 e2 e3, k ≤ q.sorts.length ∧ n = q.sorts.length - k ∧ st = SO3 q k T e9 e0 e1 e2 e3
end Go.Proofs.YtinpnidokpjfhaaGreatDoor.AM
