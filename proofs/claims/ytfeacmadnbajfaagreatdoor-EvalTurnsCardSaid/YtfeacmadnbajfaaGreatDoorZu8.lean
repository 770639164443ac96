/- Part 8 of the proof: words, contracts, plain laws. Laid by a program of this session (wip/tool/shake.py): what is needed of own and printed texts, in order. -/
import Derived.Test.YtfeacmadnbajfaaGreatDoorZu0
import Derived.Test.YtfeacmadnbajfaaGreatDoorZu1
import Derived.Test.YtfeacmadnbajfaaGreatDoorZu2
import Derived.Test.YtfeacmadnbajfaaGreatDoorZu3
import Derived.Test.YtfeacmadnbajfaaGreatDoorZu4
import Derived.Test.YtfeacmadnbajfaaGreatDoorZu6
import Derived.Test.YtfeacmadnbajfaaGreatDoorZu7
import Derived.Calls
import Derived.Lib.ItoaNum
import Derived.Orders
import Derived.Tactics
import Derived.Below
import Derived.Laws.Rows
import Derived.Laws.World
import Derived.Laws.CopyRow
import Derived.Lib.FrozenHead
import Derived.Deep.AppendSrc
import Derived.Deep.Upon
import Derived.Laws.BytesArg
import Derived.IntWalk
import Derived.Laws.Externs
import Derived.LoopN
import Derived.Test.YtfeacmadnbajfaaGreatDoorProg
import Derived.KernelRfl
import Derived.MapKept
import Derived.RegionTactic
import Derived.Lib.AppendIntMem
import Derived.Shelf.Strings.Builder1
import Derived.Shelf.Strings.Builder2
import Derived.Shelf.Strings.OnBuilder
import Derived.Shelf.Small.Bits
import Derived.Shelf.Small.Wraps
import Derived.Shelf.Strings.BuilderF
import Derived.Shelf.Strings.BuilderK
import Derived.Shelf.Strings.Builder2Cap
import Derived.Shelf.Strconv.Itoa0
import Derived.Shelf.Strconv.Itoa1
import Derived.Shelf.LaysM
import Derived.Shelf.Strconv.Itoa2
import Derived.Shelf.Strconv.Itoa3
import Derived.Shelf.Strings.BuilderCap
import Derived.Shelf.Slices.Turned
import Derived.Shelf.Slices.CompactS
import Derived.Ground.Names2Prog
import Derived.Shelf.Slices.SearchI
import Derived.Shelf.Slices.Cells
import Derived.Lib.ItoaLen
namespace Go.Proofs.YtfeacmadnbajfaaGreatDoor.AM
open Go.RowKit
set_option linter.unusedSimpArgs false
set_option linter.unusedVariables false
set_option maxRecDepth 10000
set_option maxHeartbeats 0
theorem c_Right (ts : List TermD) (hl : ts.length ≤ 1000000) (hne : ts ≠ []) (hs : ∀ t ∈ ts, smallT t) (hok : fineV ts = true → ∀ t ∈ ts, okT t) : Pure Tryz.prog 23 [.agg (qC ts)] (bv (rightQ ts)) := by
  have hf := c_fine ts hl hs
  by_cases hfv : fineV ts = true
  · have htv : termsV ts = true := by
      have hpos : 0 < ts.length := List.length_pos_iff.2 hne
      have h2 := hfv
      simp only [fineV, Bool.or_eq_true, beq_iff_eq] at h2
      rcases h2 with h2 | h2
      · omega
      · exact h2
    obtain ⟨h1, d, hd⟩ := deep_some htv
    have hp := c_Print ts d h1 hne hd (hok hfv) hs
    refine pure_of_awp Tryz.func23 rfl rfl (by simp [Tryz.f23]) ?_; simp only [go_sem, ↓reduceIte, Nat.reduceEqDiff, Nat.reduceAdd, Nat.reduceLeDiff, Nat.reduceBEq, Nat.reduceMul, reduceCtorEq, Int.reduceLE, Int.reduceLT, Int.reduceAdd, Int.reduceSub, Int.reduceNeg, Int.reduceToNat, Int.reduceBEq]
    repeat' (first | refine awp_seq ?_ | refine awp_block ?_ | refine awp_round ?_ | refine awp_text rfl ?_ | refine awp_any rfl mix (by kernel_rfl) ?_ | (refine RunTo.unguard rfl rfl (fun hg => ?_) (fun hg => ?_) <;> ((try simp only [Bool.not_true, Bool.not_false, Bool.not_eq_true', Bool.not_eq_false', Bool.not_eq_eq_eq_not] at hg); (first | (cases hg) | (simp only [hg]) | skip))) | ((first | refine RunTo.plain rfl ?_ | refine RunTo.skipped rfl ?_ | refine RunTo.call (hf) Tryz.func51 rfl rfl rfl rfl rfl rfl rfl rfl ?_ | refine RunTo.call (hp) Tryz.func26 rfl rfl rfl rfl rfl rfl rfl rfl ?_); simp only [go_sem, ↓reduceIte, Nat.reduceEqDiff, Nat.reduceAdd, Nat.reduceLeDiff, Nat.reduceBEq, Nat.reduceMul, reduceCtorEq, Int.reduceLE, Int.reduceLT, Int.reduceAdd, Int.reduceSub, Int.reduceNeg, Int.reduceToNat, Int.reduceBEq]) | ((first | refine RunTo.nil ⟨by kernel_rfl, ?_⟩ | refine RunTo.nil ?_ | refine awp_skip ?_ | refine awp_exit ?_); simp only [go_sem, ↓reduceIte, Nat.reduceEqDiff, Nat.reduceAdd, Nat.reduceLeDiff, Nat.reduceBEq, Nat.reduceMul, reduceCtorEq, Int.reduceLE, Int.reduceLT, Int.reduceAdd, Int.reduceSub, Int.reduceNeg, Int.reduceToNat, Int.reduceBEq]) | (refine awp_cond' rfl (of_decide_eq_true rfl) (fun hc => ?_) (fun hc => ?_) <;> ((try simp only [Bool.not_true, Bool.not_false, Bool.not_eq_true', Bool.not_eq_false', Bool.not_eq_eq_eq_not] at hc); (first | (cases hc) | (simp only [hc]) | skip))))
    all_goals
      (first | refine awp_ret ?_ | skip); refine ⟨(by first | exact .inl rfl | exact .inr rfl | exact .inr trivial | trivial), ?_⟩; simp only [go_sem, ↓reduceIte, Nat.reduceEqDiff, Nat.reduceAdd, Nat.reduceLeDiff, Nat.reduceBEq, Nat.reduceMul, reduceCtorEq, Int.reduceLE, Int.reduceLT, Int.reduceAdd, Int.reduceSub, Int.reduceNeg, Int.reduceToNat, Int.reduceBEq, retV, resL, resV, sealV, sealC, sealAll, Tryz.f23]
      first | (rw [hfv] at hg; cases hg; done) | simp only [rightQ, *, Bool.true_and, Bool.false_and]
  · have hfv' : fineV ts = false := by simpa using hfv
    rw [hfv'] at hf
    refine pure_of_awp Tryz.func23 rfl rfl (by simp [Tryz.f23]) ?_; simp only [go_sem, ↓reduceIte, Nat.reduceEqDiff, Nat.reduceAdd, Nat.reduceLeDiff, Nat.reduceBEq, Nat.reduceMul, reduceCtorEq, Int.reduceLE, Int.reduceLT, Int.reduceAdd, Int.reduceSub, Int.reduceNeg, Int.reduceToNat, Int.reduceBEq]
    repeat' (first | refine awp_seq ?_ | refine awp_block ?_ | refine awp_round ?_ | refine awp_text rfl ?_ | refine awp_any rfl mix (by kernel_rfl) ?_ | (refine RunTo.unguard rfl rfl (fun hg => ?_) (fun hg => ?_) <;> ((try simp only [Bool.not_true, Bool.not_false, Bool.not_eq_true', Bool.not_eq_false', Bool.not_eq_eq_eq_not] at hg); (first | (cases hg) | (simp only [hg]) | skip))) | ((first | refine RunTo.plain rfl ?_ | refine RunTo.skipped rfl ?_ | refine RunTo.call (hf) Tryz.func51 rfl rfl rfl rfl rfl rfl rfl rfl ?_); simp only [go_sem, ↓reduceIte, Nat.reduceEqDiff, Nat.reduceAdd, Nat.reduceLeDiff, Nat.reduceBEq, Nat.reduceMul, reduceCtorEq, Int.reduceLE, Int.reduceLT, Int.reduceAdd, Int.reduceSub, Int.reduceNeg, Int.reduceToNat, Int.reduceBEq]) | ((first | refine RunTo.nil ⟨by kernel_rfl, ?_⟩ | refine RunTo.nil ?_ | refine awp_skip ?_ | refine awp_exit ?_); simp only [go_sem, ↓reduceIte, Nat.reduceEqDiff, Nat.reduceAdd, Nat.reduceLeDiff, Nat.reduceBEq, Nat.reduceMul, reduceCtorEq, Int.reduceLE, Int.reduceLT, Int.reduceAdd, Int.reduceSub, Int.reduceNeg, Int.reduceToNat, Int.reduceBEq]) | (refine awp_cond' rfl (of_decide_eq_true rfl) (fun hc => ?_) (fun hc => ?_) <;> ((try simp only [Bool.not_true, Bool.not_false, Bool.not_eq_true', Bool.not_eq_false', Bool.not_eq_eq_eq_not] at hc); (first | (cases hc) | (simp only [hc]) | skip))))
    all_goals
      (first | refine awp_ret ?_ | skip); refine ⟨(by first | exact .inl rfl | exact .inr rfl | exact .inr trivial | trivial), ?_⟩; simp only [go_sem, ↓reduceIte, Nat.reduceEqDiff, Nat.reduceAdd, Nat.reduceLeDiff, Nat.reduceBEq, Nat.reduceMul, reduceCtorEq, Int.reduceLE, Int.reduceLT, Int.reduceAdd, Int.reduceSub, Int.reduceNeg, Int.reduceToNat, Int.reduceBEq, retV, resL, resV, sealV, sealC, sealAll, Tryz.f23]
      rw [rightQ, hfv', Bool.false_and]
end Go.Proofs.YtfeacmadnbajfaaGreatDoor.AM
namespace Go.Proofs.YtfeacmadnbajfaaGreatDoor.AM
open Go.RowKit
set_option linter.unusedSimpArgs false
set_option linter.unusedVariables false
set_option maxRecDepth 10000
set_option maxHeartbeats 0
def litK (v : ValD) : Int := if v.a.k = 0 then 1 else if v.a.k = 1 then 2 else if v.a.k = 2 then 3 else 4
theorem c_literal (v : ValD) : Pure Tryz.prog 82 [v.av] (iv (litK v)) := by
  refine pure_of_awp Tryz.func82 rfl rfl (by simp [Tryz.f82]) ?_; simp only [go_sem, ↓reduceIte, Nat.reduceEqDiff, Nat.reduceAdd, Nat.reduceLeDiff, Nat.reduceBEq, Nat.reduceMul, reduceCtorEq, Int.reduceLE, Int.reduceLT, Int.reduceAdd, Int.reduceSub, Int.reduceNeg, Int.reduceToNat, Int.reduceBEq]
  repeat' (first | refine awp_seq ?_ | refine awp_block ?_ | refine awp_round ?_ | refine awp_text rfl ?_ | refine awp_any rfl mix (by kernel_rfl) ?_ | (refine RunTo.unguard rfl rfl (fun hg => ?_) (fun hg => ?_) <;> ((try simp only [Bool.not_true, Bool.not_false, Bool.not_eq_true', Bool.not_eq_false', Bool.not_eq_eq_eq_not] at hg); (first | (cases hg) | (simp only [hg]) | skip))) | ((first | refine RunTo.plain rfl ?_ | refine RunTo.skipped rfl ?_); simp only [go_sem, ↓reduceIte, Nat.reduceEqDiff, Nat.reduceAdd, Nat.reduceLeDiff, Nat.reduceBEq, Nat.reduceMul, reduceCtorEq, Int.reduceLE, Int.reduceLT, Int.reduceAdd, Int.reduceSub, Int.reduceNeg, Int.reduceToNat, Int.reduceBEq, ValD.av]) | ((first | refine RunTo.nil ⟨by kernel_rfl, ?_⟩ | refine RunTo.nil ?_ | refine awp_skip ?_ | refine awp_exit ?_); simp only [go_sem, ↓reduceIte, Nat.reduceEqDiff, Nat.reduceAdd, Nat.reduceLeDiff, Nat.reduceBEq, Nat.reduceMul, reduceCtorEq, Int.reduceLE, Int.reduceLT, Int.reduceAdd, Int.reduceSub, Int.reduceNeg, Int.reduceToNat, Int.reduceBEq, ValD.av]) | (refine awp_cond' rfl (of_decide_eq_true rfl) (fun hc => ?_) (fun hc => ?_) <;> ((try simp only [Bool.not_true, Bool.not_false, Bool.not_eq_true', Bool.not_eq_false', Bool.not_eq_eq_eq_not] at hc); (first | (cases hc) | (simp only [hc]) | skip))))
  all_goals
    (first | refine awp_ret ?_ | skip); refine ⟨(by first | exact .inl rfl | exact .inr rfl | exact .inr trivial | trivial), ?_⟩; simp only [go_sem, ↓reduceIte, Nat.reduceEqDiff, Nat.reduceAdd, Nat.reduceLeDiff, Nat.reduceBEq, Nat.reduceMul, reduceCtorEq, Int.reduceLE, Int.reduceLT, Int.reduceAdd, Int.reduceSub, Int.reduceNeg, Int.reduceToNat, Int.reduceBEq, retV, resL, resV, sealV, sealC, sealAll, Tryz.f82]
    (try simp only [decide_eq_true_eq, decide_eq_false_iff_not, beq_iff_eq, bne_iff_ne, ne_eq, beq_eq_false_iff_ne, bne_eq_false_iff_eq, Bool.and_eq_true, Bool.or_eq_true, Bool.or_eq_false_iff, Bool.and_eq_false_iff] at *)
    simp [litK, *]
def shapeK (t : TermD) : Int × Int × Int := if t.op = 1 then (0, 1, litK t.v) else if t.op = 2 then (0, 1, 1) else if t.op = 3 then (0, 1, 3) else if t.op = 4 then (1, 2, 2) else if t.op = 5 then (1, 1, 2) else if t.op = 6 ∨ t.op = 7 then (2, 2, 2) else if t.op = 14 ∨ t.op = 15 then (2, 3, 3) else (2, 1, 2)
theorem c_shape (t : TermD) : Pure Tryz.prog 50 [t.av] (.tup [iv (shapeK t).1, iv (shapeK t).2.1, iv (shapeK t).2.2]) := by
  have hl := c_literal t.v
  refine pure_of_awp Tryz.func50 rfl rfl (by simp [Tryz.f50]) ?_; simp only [go_sem, ↓reduceIte, Nat.reduceEqDiff, Nat.reduceAdd, Nat.reduceLeDiff, Nat.reduceBEq, Nat.reduceMul, reduceCtorEq, Int.reduceLE, Int.reduceLT, Int.reduceAdd, Int.reduceSub, Int.reduceNeg, Int.reduceToNat, Int.reduceBEq]
  repeat' (first | refine awp_seq ?_ | refine awp_block ?_ | refine awp_round ?_ | refine awp_text rfl ?_ | refine awp_any rfl mix (by kernel_rfl) ?_ | (refine RunTo.unguard rfl rfl (fun hg => ?_) (fun hg => ?_) <;> ((try simp only [Bool.not_true, Bool.not_false, Bool.not_eq_true', Bool.not_eq_false', Bool.not_eq_eq_eq_not] at hg); (first | (cases hg) | (simp only [hg]) | skip))) | ((first | refine RunTo.plain rfl ?_ | refine RunTo.skipped rfl ?_ | refine RunTo.call (hl) Tryz.func82 rfl rfl rfl rfl rfl rfl rfl rfl ?_); simp only [go_sem, ↓reduceIte, Nat.reduceEqDiff, Nat.reduceAdd, Nat.reduceLeDiff, Nat.reduceBEq, Nat.reduceMul, reduceCtorEq, Int.reduceLE, Int.reduceLT, Int.reduceAdd, Int.reduceSub, Int.reduceNeg, Int.reduceToNat, Int.reduceBEq, TermD.av]) | ((first | refine RunTo.nil ⟨by kernel_rfl, ?_⟩ | refine RunTo.nil ?_ | refine awp_skip ?_ | refine awp_exit ?_); simp only [go_sem, ↓reduceIte, Nat.reduceEqDiff, Nat.reduceAdd, Nat.reduceLeDiff, Nat.reduceBEq, Nat.reduceMul, reduceCtorEq, Int.reduceLE, Int.reduceLT, Int.reduceAdd, Int.reduceSub, Int.reduceNeg, Int.reduceToNat, Int.reduceBEq, TermD.av]) | (refine awp_cond' rfl (of_decide_eq_true rfl) (fun hc => ?_) (fun hc => ?_) <;> ((try simp only [Bool.not_true, Bool.not_false, Bool.not_eq_true', Bool.not_eq_false', Bool.not_eq_eq_eq_not] at hc); (first | (cases hc) | (simp only [hc]) | skip))))
  all_goals
    (first | refine awp_ret ?_ | skip); refine ⟨(by first | exact .inl rfl | exact .inr rfl | exact .inr trivial | trivial), ?_⟩; simp only [go_sem, ↓reduceIte, Nat.reduceEqDiff, Nat.reduceAdd, Nat.reduceLeDiff, Nat.reduceBEq, Nat.reduceMul, reduceCtorEq, Int.reduceLE, Int.reduceLT, Int.reduceAdd, Int.reduceSub, Int.reduceNeg, Int.reduceToNat, Int.reduceBEq, retV, resL, resV, sealV, sealC, sealAll, Tryz.f50]
    (try simp only [decide_eq_true_eq, decide_eq_false_iff_not, beq_iff_eq, bne_iff_ne, ne_eq, beq_eq_false_iff_ne, bne_eq_false_iff_eq, Bool.and_eq_true, Bool.or_eq_true, Bool.or_eq_false_iff, Bool.and_eq_false_iff] at *)
    simp [shapeK, *]
abbrev c0T : TermD := ⟨1, eE, eE, ⟨⟨0, 0, 0, eE⟩, []⟩⟩
theorem DleL.refl (l : List Dat) : DleL l l := ⟨rfl, fun j d d' h1 h2 => by rw [h1] at h2; cases h2; exact .refl _⟩
abbrev c0R : List Dat := [di 1, ds' eE, ds' eE, di 0, di 0, df 0, ds' eE, nilD]
theorem c0_le : DleL c0R c0T.enc := .cons (.refl _) (.cons (.refl _) (.cons (.refl _) (.cons (.refl _) (.cons (.refl _) (.cons (.refl _) (.cons (.refl _) (.cons (.nil _) .nil)))))))
theorem o2_le (t : TermD) : Dle (.lst 8 [c0R, t.enc]) (.lst 8 ([c0T, t].map TermD.enc)) := DleR.dat (.cons c0_le (.cons (.refl _) .nil))
theorem o3_le (t : TermD) : Dle (.lst 8 [c0R, c0R, t.enc]) (.lst 8 ([c0T, c0T, t].map TermD.enc)) := DleR.dat (.cons c0_le (.cons c0_le (.cons (.refl _) .nil)))
abbrev qM (d : Dat) : List AV := [.dat (.lst 3 [[ds' eE, ds' eE, nilD]]), .dat nilD, .dat d, .dat (.lst 2 [[di 1, nilD]]), bv false, .dat nilD, iv (-1), iv (-1)]
theorem q_le {d : Dat} {ts : List TermD} (h : Dle d (.lst 8 (ts.map TermD.enc))) : AleL [.agg (qM d)] [.agg (qC ts)] :=
  .cons (.agg (.cons (.refl _) (.cons (.refl _) (.cons (.dat h) (.cons (.refl _) (.cons (.refl _) (.cons (.refl _) (.cons (.refl _) (.cons (.refl _) .nil))))))))) .nil
def padT (t : TermD) : List TermD := if deepV [t] ≠ 0 then [t] else if deepV [c0T, t] ≠ 0 then [c0T, t] else [c0T, c0T, t]
def rightV (ts : List TermD) : Bool := decide (1 ≤ deepV ts) && (decide (deepV ts ≤ 64) && ts.all fun t => rightQ (padT t))
abbrev SR (ts : List TermD) (k T : Nat) : St := ⟨[(16, .dat (.lst 8 (ts.map TermD.enc))), (17, iv ts.length), (18, iv k)], [], T⟩
def IR (ts : List TermD) (n : Nat) (st : St) : Prop := ∃ k T, k ≤ ts.length ∧ n = ts.length - k ∧ ((ts.take k).all fun t => rightQ (padT t)) = true ∧ st = SR ts k T
theorem r_of (own : List TermD) (hne : own ≠ []) (hl : own.length ≤ 3) (hs : ∀ x ∈ own, smallT x) (ho : ∀ x ∈ own, rightT x = true → okT x) : Pure Tryz.prog 23 [.agg (qC own)] (bv (rightQ own)) :=
  c_Right own (by omega) hne hs (fun hf x hx => ho x hx (by
    have hpos : 0 < own.length := List.length_pos_iff.2 hne
    simp only [fineV, termsV, Bool.or_eq_true, beq_iff_eq, Bool.and_eq_true, List.all_eq_true] at hf
    rcases hf with hf | hf
    · omega
    · exact hf.1 x hx))
theorem c0_ok : okT c0T := ⟨fun _ => by decide, ⟨by decide, by decide⟩, by decide, by decide, by decide, by
  show (printV1 ⟨⟨0, 0, 0, eE⟩, []⟩).size ≤ 10000000
  unfold printV1
  split
  · simp [printA, ByteArray.size]
  · simp [eE, ByteArray.size]⟩
theorem c0_small : smallT c0T := ⟨by decide, by decide⟩
theorem c_tright (ts : List TermD) (hl : ts.length ≤ 1000000) (hs : ∀ t ∈ ts, smallT t) (hok : ∀ t ∈ ts, rightT t = true → okT t) : Pure Tryz.prog 49 [.dat (.lst 8 (ts.map TermD.enc))] (bv (rightV ts)) := by
  have hd := c_Deep ts hl
  refine pure_of_awp Tryz.func49 rfl rfl (by simp [Tryz.f49]) ?_; simp only [go_sem, ↓reduceIte, Nat.reduceEqDiff, Nat.reduceAdd, Nat.reduceLeDiff, Nat.reduceBEq, Nat.reduceMul, reduceCtorEq, Int.reduceLE, Int.reduceLT, Int.reduceAdd, Int.reduceSub, Int.reduceNeg, Int.reduceToNat, Int.reduceBEq]
  repeat' (first | refine awp_seq ?_ | refine awp_block ?_ | refine awp_round ?_ | refine awp_text rfl ?_ | refine awp_any rfl mix (by kernel_rfl) ?_ | (refine RunTo.unguard rfl rfl (fun hg => ?_) (fun hg => ?_) <;> ((try simp only [Bool.not_true, Bool.not_false, Bool.not_eq_true', Bool.not_eq_false', Bool.not_eq_eq_eq_not] at hg); (first | (cases hg) | (simp only [hg]) | skip))) | ((first | refine RunTo.plain rfl ?_ | refine RunTo.skipped rfl ?_ | refine RunTo.call (hd) Tryz.func18 rfl rfl rfl rfl rfl rfl rfl rfl ?_); simp only [go_sem, ↓reduceIte, Nat.reduceEqDiff, Nat.reduceAdd, Nat.reduceLeDiff, Nat.reduceBEq, Nat.reduceMul, reduceCtorEq, Int.reduceLE, Int.reduceLT, Int.reduceAdd, Int.reduceSub, Int.reduceNeg, Int.reduceToNat, Int.reduceBEq, List.length_map]) | ((first | refine RunTo.nil ⟨by kernel_rfl, ?_⟩ | refine RunTo.nil ?_ | refine awp_skip ?_ | refine awp_exit ?_); simp only [go_sem, ↓reduceIte, Nat.reduceEqDiff, Nat.reduceAdd, Nat.reduceLeDiff, Nat.reduceBEq, Nat.reduceMul, reduceCtorEq, Int.reduceLE, Int.reduceLT, Int.reduceAdd, Int.reduceSub, Int.reduceNeg, Int.reduceToNat, Int.reduceBEq, List.length_map]) | (refine awp_cond' rfl (of_decide_eq_true rfl) (fun hc => ?_) (fun hc => ?_) <;> ((try simp only [Bool.not_true, Bool.not_false, Bool.not_eq_true', Bool.not_eq_false', Bool.not_eq_eq_eq_not] at hc); (first | (cases hc) | (simp only [hc]) | skip))))
  · (first | refine awp_ret ?_ | skip); refine ⟨(by first | exact .inl rfl | exact .inr rfl | exact .inr trivial | trivial), ?_⟩; simp only [go_sem, ↓reduceIte, Nat.reduceEqDiff, Nat.reduceAdd, Nat.reduceLeDiff, Nat.reduceBEq, Nat.reduceMul, reduceCtorEq, Int.reduceLE, Int.reduceLT, Int.reduceAdd, Int.reduceSub, Int.reduceNeg, Int.reduceToNat, Int.reduceBEq, retV, resL, resV, sealV, sealC, sealAll, Tryz.f49]
    (try simp only [decide_eq_true_eq, decide_eq_false_iff_not, beq_iff_eq, bne_iff_ne, ne_eq, beq_eq_false_iff_ne, bne_eq_false_iff_eq, Bool.and_eq_true, Bool.or_eq_true, Bool.or_eq_false_iff, Bool.and_eq_false_iff] at *)
    rw [rightV, decide_eq_false (p := deepV ts ≤ 64) (by omega)]; simp
  · (try simp only [decide_eq_true_eq, decide_eq_false_iff_not, beq_iff_eq, bne_iff_ne, ne_eq, beq_eq_false_iff_ne, bne_eq_false_iff_eq, Bool.and_eq_true, Bool.or_eq_true, Bool.or_eq_false_iff, Bool.and_eq_false_iff] at *)
    refine awp_loopw (IR ts) ts.length (SR ts 0 _) (weak_keep ⟨rfl, rfl, rfl, trivial⟩ trivial (Nat.le_refl _)) ⟨0, _, Nat.zero_le _, rfl, rfl, rfl⟩ ?_
    rintro n st ⟨k, T, hk, rfl, hall, rfl⟩
    by_cases hlt : k < ts.length
    · have hdec := lt_t hlt
      have hget := row_at TermD.enc ts k hlt
      have hst := hs _ (List.getElem_mem hlt)
      have htk := all_take (fun t => rightQ (padT t)) ts k hlt
      have hwk : IntKind.i64.wrap ((k : Int) + 1) = ((k + 1 : Nat) : Int) := wrap_succ (by omega)
      have hmem := List.getElem_mem hlt
      have hot := hok _ hmem
      generalize ts[k] = t at *
      have d1 := c_Deep [t] (by simp)
      have d2 := pure_le (c_Deep [c0T, t] (by simp)) (.cons (.dat (o2_le t)) .nil)
      have d3 := pure_le (c_Deep [c0T, c0T, t] (by simp)) (.cons (.dat (o3_le t)) .nil)
      have m1 : ∀ x ∈ [t], smallT x ∧ (rightT x = true → okT x) := fun x hx => by simp at hx; subst hx; exact ⟨hst, hot⟩
      have m2 : ∀ x ∈ [c0T, t], smallT x ∧ (rightT x = true → okT x) := fun x hx => by
        rcases List.mem_cons.1 hx with rfl | hx
        · exact ⟨c0_small, fun _ => c0_ok⟩
        · exact m1 x hx
      have m3 : ∀ x ∈ [c0T, c0T, t], smallT x ∧ (rightT x = true → okT x) := fun x hx => by
        rcases List.mem_cons.1 hx with rfl | hx
        · exact ⟨c0_small, fun _ => c0_ok⟩
        · exact m2 x hx
      have r1 := r_of [t] (by simp) (by simp) (fun x hx => (m1 x hx).1) (fun x hx => (m1 x hx).2)
      have r2 := pure_le (r_of [c0T, t] (by simp) (by simp) (fun x hx => (m2 x hx).1) (fun x hx => (m2 x hx).2)) (q_le (o2_le t))
      have r3 := pure_le (r_of [c0T, c0T, t] (by simp) (by simp) (fun x hx => (m3 x hx).1) (fun x hx => (m3 x hx).2)) (q_le (o3_le t))
      repeat' (first | refine awp_seq ?_ | refine awp_block ?_ | refine awp_round ?_ | refine awp_text rfl ?_ | refine awp_any rfl mix (by kernel_rfl) ?_ | (refine RunTo.unguard rfl rfl (fun hg => ?_) (fun hg => ?_) <;> ((try simp only [Bool.not_true, Bool.not_false, Bool.not_eq_true', Bool.not_eq_false', Bool.not_eq_eq_eq_not] at hg); (first | (cases hg) | (simp only [hg]) | skip))) | ((first | refine RunTo.plain rfl ?_ | refine RunTo.skipped rfl ?_); simp only [go_sem, ↓reduceIte, Nat.reduceEqDiff, Nat.reduceAdd, Nat.reduceLeDiff, Nat.reduceBEq, Nat.reduceMul, reduceCtorEq, Int.reduceLE, Int.reduceLT, Int.reduceAdd, Int.reduceSub, Int.reduceNeg, Int.reduceToNat, Int.reduceBEq, hdec, hget, TermD.enc, hwk]) | ((first | refine RunTo.nil ⟨by kernel_rfl, ?_⟩ | refine RunTo.nil ?_ | refine awp_skip ?_ | refine awp_exit ?_); simp only [go_sem, ↓reduceIte, Nat.reduceEqDiff, Nat.reduceAdd, Nat.reduceLeDiff, Nat.reduceBEq, Nat.reduceMul, reduceCtorEq, Int.reduceLE, Int.reduceLT, Int.reduceAdd, Int.reduceSub, Int.reduceNeg, Int.reduceToNat, Int.reduceBEq, hdec, hget, TermD.enc, hwk]) | (refine awp_cond' rfl (of_decide_eq_true rfl) (fun hc => ?_) (fun hc => ?_) <;> ((try simp only [Bool.not_true, Bool.not_false, Bool.not_eq_true', Bool.not_eq_false', Bool.not_eq_eq_eq_not] at hc); (first | (cases hc) | (simp only [hc]) | skip))))
      refine awp_rounds 4 ?_
      repeat' (first | refine awp_seq ?_ | refine awp_block ?_ | refine awp_round ?_ | refine awp_text rfl ?_ | refine awp_any rfl mix (by kernel_rfl) ?_ | (refine RunTo.unguard rfl rfl (fun hg => ?_) (fun hg => ?_) <;> ((try simp only [Bool.not_true, Bool.not_false, Bool.not_eq_true', Bool.not_eq_false', Bool.not_eq_eq_eq_not] at hg); (first | (cases hg) | (simp only [hg]) | skip))) | ((first | refine RunTo.plain rfl ?_ | refine RunTo.skipped rfl ?_); simp only [go_sem, ↓reduceIte, Nat.reduceEqDiff, Nat.reduceAdd, Nat.reduceLeDiff, Nat.reduceBEq, Nat.reduceMul, reduceCtorEq, Int.reduceLE, Int.reduceLT, Int.reduceAdd, Int.reduceSub, Int.reduceNeg, Int.reduceToNat, Int.reduceBEq, hdec, hget, TermD.enc, hwk]) | (refine RunTo.lentE (d1) Tryz.func18 rfl rfl rfl rfl rfl rfl ?_; simp only [go_sem, ↓reduceIte, Nat.reduceEqDiff, Nat.reduceAdd, Nat.reduceLeDiff, Nat.reduceBEq, Nat.reduceMul, reduceCtorEq, Int.reduceLE, Int.reduceLT, Int.reduceAdd, Int.reduceSub, Int.reduceNeg, Int.reduceToNat, Int.reduceBEq, hdec, hget, TermD.enc, hwk, Option.some.injEq, List.cons.injEq]; (repeat' refine And.intro rfl ?_); with_reducible refine RunTo.this ?_) | (refine RunTo.lentE (d2) Tryz.func18 rfl rfl rfl rfl rfl rfl ?_; simp only [go_sem, ↓reduceIte, Nat.reduceEqDiff, Nat.reduceAdd, Nat.reduceLeDiff, Nat.reduceBEq, Nat.reduceMul, reduceCtorEq, Int.reduceLE, Int.reduceLT, Int.reduceAdd, Int.reduceSub, Int.reduceNeg, Int.reduceToNat, Int.reduceBEq, hdec, hget, TermD.enc, hwk, Option.some.injEq, List.cons.injEq]; (repeat' refine And.intro rfl ?_); with_reducible refine RunTo.this ?_) | (refine RunTo.lentE (d3) Tryz.func18 rfl rfl rfl rfl rfl rfl ?_; simp only [go_sem, ↓reduceIte, Nat.reduceEqDiff, Nat.reduceAdd, Nat.reduceLeDiff, Nat.reduceBEq, Nat.reduceMul, reduceCtorEq, Int.reduceLE, Int.reduceLT, Int.reduceAdd, Int.reduceSub, Int.reduceNeg, Int.reduceToNat, Int.reduceBEq, hdec, hget, TermD.enc, hwk, Option.some.injEq, List.cons.injEq]; (repeat' refine And.intro rfl ?_); with_reducible refine RunTo.this ?_) | (refine RunTo.lentE (r1) Tryz.func23 rfl rfl rfl rfl rfl rfl ?_; simp only [go_sem, ↓reduceIte, Nat.reduceEqDiff, Nat.reduceAdd, Nat.reduceLeDiff, Nat.reduceBEq, Nat.reduceMul, reduceCtorEq, Int.reduceLE, Int.reduceLT, Int.reduceAdd, Int.reduceSub, Int.reduceNeg, Int.reduceToNat, Int.reduceBEq, hdec, hget, TermD.enc, hwk, Option.some.injEq, List.cons.injEq]; (repeat' refine And.intro rfl ?_); with_reducible refine RunTo.this ?_) | (refine RunTo.lentE (r2) Tryz.func23 rfl rfl rfl rfl rfl rfl ?_; simp only [go_sem, ↓reduceIte, Nat.reduceEqDiff, Nat.reduceAdd, Nat.reduceLeDiff, Nat.reduceBEq, Nat.reduceMul, reduceCtorEq, Int.reduceLE, Int.reduceLT, Int.reduceAdd, Int.reduceSub, Int.reduceNeg, Int.reduceToNat, Int.reduceBEq, hdec, hget, TermD.enc, hwk, Option.some.injEq, List.cons.injEq]; (repeat' refine And.intro rfl ?_); with_reducible refine RunTo.this ?_) | (refine RunTo.lentE (r3) Tryz.func23 rfl rfl rfl rfl rfl rfl ?_; simp only [go_sem, ↓reduceIte, Nat.reduceEqDiff, Nat.reduceAdd, Nat.reduceLeDiff, Nat.reduceBEq, Nat.reduceMul, reduceCtorEq, Int.reduceLE, Int.reduceLT, Int.reduceAdd, Int.reduceSub, Int.reduceNeg, Int.reduceToNat, Int.reduceBEq, hdec, hget, TermD.enc, hwk, Option.some.injEq, List.cons.injEq]; (repeat' refine And.intro rfl ?_); with_reducible refine RunTo.this ?_) | ((first | refine RunTo.nil ⟨by kernel_rfl, ?_⟩ | refine RunTo.nil ?_ | refine awp_skip ?_ | refine awp_exit ?_); simp only [go_sem, ↓reduceIte, Nat.reduceEqDiff, Nat.reduceAdd, Nat.reduceLeDiff, Nat.reduceBEq, Nat.reduceMul, reduceCtorEq, Int.reduceLE, Int.reduceLT, Int.reduceAdd, Int.reduceSub, Int.reduceNeg, Int.reduceToNat, Int.reduceBEq, hdec, hget, TermD.enc, hwk]) | (refine awp_cond' rfl (of_decide_eq_true rfl) (fun hc => ?_) (fun hc => ?_) <;> ((try simp only [Bool.not_true, Bool.not_false, Bool.not_eq_true', Bool.not_eq_false', Bool.not_eq_eq_eq_not] at hc); (first | (cases hc) | (simp only [hc]) | skip))))
      all_goals
        (try simp only [decide_eq_true_eq, decide_eq_false_iff_not, beq_iff_eq, bne_iff_ne, ne_eq, beq_eq_false_iff_ne, bne_eq_false_iff_eq, Bool.and_eq_true, Bool.or_eq_true, Bool.or_eq_false_iff, Bool.and_eq_false_iff] at *)
        have hpad : rightQ (padT t) = rightQ (padT t) := rfl
        conv at hpad => lhs; unfold padT
        simp only [*, if_true, if_false, ne_eq, not_true_eq_false, not_false_eq_true, ↓reduceIte] at hpad
        first
        | exact ⟨ts.length - (k + 1), by omega, SR ts (k + 1) _, weak_keep ⟨rfl, rfl, rfl, trivial⟩ trivial (Nat.le_refl _), k + 1, _, by omega, rfl, by rw [htk, hall, ← hpad]; rfl, rfl⟩
        | (have hf : rightV ts = false := by
             have : (ts.all fun t => rightQ (padT t)) = false := by
               cases hh : (ts.all fun t => rightQ (padT t)) with
               | false => rfl
               | true =>
                 have h9 := List.all_eq_true.1 hh t hmem
                 rw [← hpad] at h9
                 cases h9
             rw [rightV, this, Bool.and_false, Bool.and_false]
           rw [hf]
           (first | refine awp_ret ?_ | skip); refine ⟨(by first | exact .inl rfl | exact .inr rfl | exact .inr trivial | trivial), ?_⟩; simp only [go_sem, ↓reduceIte, Nat.reduceEqDiff, Nat.reduceAdd, Nat.reduceLeDiff, Nat.reduceBEq, Nat.reduceMul, reduceCtorEq, Int.reduceLE, Int.reduceLT, Int.reduceAdd, Int.reduceSub, Int.reduceNeg, Int.reduceToNat, Int.reduceBEq, retV, resL, resV, sealV, sealC, sealAll, Tryz.f49])
      all_goals trace_state
    · have hdec := lt_f hlt
      have hall' : (ts.all fun t => rightQ (padT t)) = true := by rw [List.take_of_length_le (by omega)] at hall; exact hall
      repeat' (first | refine awp_seq ?_ | refine awp_block ?_ | refine awp_round ?_ | refine awp_text rfl ?_ | refine awp_any rfl mix (by kernel_rfl) ?_ | (refine RunTo.unguard rfl rfl (fun hg => ?_) (fun hg => ?_) <;> ((try simp only [Bool.not_true, Bool.not_false, Bool.not_eq_true', Bool.not_eq_false', Bool.not_eq_eq_eq_not] at hg); (first | (cases hg) | (simp only [hg]) | skip))) | ((first | refine RunTo.plain rfl ?_ | refine RunTo.skipped rfl ?_); simp only [go_sem, ↓reduceIte, Nat.reduceEqDiff, Nat.reduceAdd, Nat.reduceLeDiff, Nat.reduceBEq, Nat.reduceMul, reduceCtorEq, Int.reduceLE, Int.reduceLT, Int.reduceAdd, Int.reduceSub, Int.reduceNeg, Int.reduceToNat, Int.reduceBEq, hdec]) | ((first | refine RunTo.nil ⟨by kernel_rfl, ?_⟩ | refine RunTo.nil ?_ | refine awp_skip ?_ | refine awp_exit ?_); simp only [go_sem, ↓reduceIte, Nat.reduceEqDiff, Nat.reduceAdd, Nat.reduceLeDiff, Nat.reduceBEq, Nat.reduceMul, reduceCtorEq, Int.reduceLE, Int.reduceLT, Int.reduceAdd, Int.reduceSub, Int.reduceNeg, Int.reduceToNat, Int.reduceBEq, hdec]) | (refine awp_cond' rfl (of_decide_eq_true rfl) (fun hc => ?_) (fun hc => ?_) <;> ((try simp only [Bool.not_true, Bool.not_false, Bool.not_eq_true', Bool.not_eq_false', Bool.not_eq_eq_eq_not] at hc); (first | (cases hc) | (simp only [hc]) | skip))))
      all_goals
        (first | refine awp_ret ?_ | skip); refine ⟨(by first | exact .inl rfl | exact .inr rfl | exact .inr trivial | trivial), ?_⟩; simp only [go_sem, ↓reduceIte, Nat.reduceEqDiff, Nat.reduceAdd, Nat.reduceLeDiff, Nat.reduceBEq, Nat.reduceMul, reduceCtorEq, Int.reduceLE, Int.reduceLT, Int.reduceAdd, Int.reduceSub, Int.reduceNeg, Int.reduceToNat, Int.reduceBEq, retV, resL, resV, sealV, sealC, sealAll, Tryz.f49]
        rw [rightV, hall', decide_eq_true (p := 1 ≤ deepV ts) (by omega), decide_eq_true (p := deepV ts ≤ 64) (by omega)]; rfl
  · (first | refine awp_ret ?_ | skip); refine ⟨(by first | exact .inl rfl | exact .inr rfl | exact .inr trivial | trivial), ?_⟩; simp only [go_sem, ↓reduceIte, Nat.reduceEqDiff, Nat.reduceAdd, Nat.reduceLeDiff, Nat.reduceBEq, Nat.reduceMul, reduceCtorEq, Int.reduceLE, Int.reduceLT, Int.reduceAdd, Int.reduceSub, Int.reduceNeg, Int.reduceToNat, Int.reduceBEq, retV, resL, resV, sealV, sealC, sealAll, Tryz.f49]
    (try simp only [decide_eq_true_eq, decide_eq_false_iff_not, beq_iff_eq, bne_iff_ne, ne_eq, beq_eq_false_iff_ne, bne_eq_false_iff_eq, Bool.and_eq_true, Bool.or_eq_true, Bool.or_eq_false_iff, Bool.and_eq_false_iff] at *)
    rw [rightV, decide_eq_false (p := 1 ≤ deepV ts) (by omega)]; rfl
end Go.Proofs.YtfeacmadnbajfaaGreatDoor.AM
namespace Go.Proofs.YtfeacmadnbajfaaGreatDoor.AM
open Go.RowKit
set_option linter.unusedSimpArgs false
set_option linter.unusedVariables false
set_option maxRecDepth 10000
set_option maxHeartbeats 0
def mval : List (Value × AV) → ByteArray → Option AV
  | [], _ => none
  | (.string s, x) :: l, k => if s = k then some x else mval l k
  | (_, _) :: l, k => mval l k
theorem mfind_mval (k : ByteArray) : ∀ (kv : List (Value × AV)) (i : Nat), strKeys kv = true → (mfind kv k i).map (·.2) = mval kv k
  | [], i, _ => rfl
  | (q, x) :: kv, i, hs => by
    simp only [strKeys, List.all_cons, Bool.and_eq_true] at hs
    have ih := mfind_mval k kv (i + 1) hs.2
    cases q with
    | string s =>
      simp only [mfind, mval]
      split
      · rfl
      · exact ih
    | _ => simp at hs
theorem mval_set (k k' : ByteArray) (v : AV) : ∀ (kv : List (Value × AV)) (i j : Nat) (x : AV), strKeys kv = true → mfind kv k i = some (j, x) →
    i ≤ j ∧ mval (kv.set (j - i) (.string k, v)) k' = (if k = k' then some v else mval kv k') ∧ strKeys (kv.set (j - i) (.string k, v)) = true
  | [], i, j, x, _, h => by simp [mfind] at h
  | (q, y) :: kv, i, j, x, hs, h => by
    have hs0 := hs
    simp only [strKeys, List.all_cons, Bool.and_eq_true] at hs
    cases q with
    | string s =>
      simp only [mfind] at h
      split at h
      · rename_i hsk
        simp only [Option.some.injEq, Prod.mk.injEq] at h
        obtain ⟨rfl, rfl⟩ := h
        refine ⟨Nat.le_refl _, ?_, ?_⟩
        · rw [Nat.sub_self, List.set_cons_zero]
          simp only [mval]
          rw [hsk]
          split <;> rfl
        · rw [Nat.sub_self, List.set_cons_zero]
          simp only [strKeys, List.all_cons, Bool.true_and]
          exact hs.2
      · rename_i hsk
        obtain ⟨h1, h2, h3⟩ := mval_set k k' v kv (i + 1) j x hs.2 h
        have hj : j - i = (j - (i + 1)) + 1 := by omega
        refine ⟨by omega, ?_, ?_⟩
        · rw [hj, List.set_cons_succ]
          simp only [mval]
          rw [h2]
          by_cases hk : k = k'
          · rw [if_pos hk, if_neg (by rw [← hk]; exact hsk)]
            rw [if_pos hk]
          · rw [if_neg hk, if_neg hk]
        · rw [hj, List.set_cons_succ]
          simp only [strKeys, List.all_cons, Bool.true_and]
          exact h3
    | _ => simp at hs
theorem mval_app (k : ByteArray) : ∀ (a b : List (Value × AV)), strKeys a = true → mval (a ++ b) k = match mval a k with | some x => some x | none => mval b k
  | [], b, _ => rfl
  | (q, y) :: a, b, hs => by
    simp only [strKeys, List.all_cons, Bool.and_eq_true] at hs
    have ih := mval_app k a b hs.2
    cases q with
    | string s =>
      simp only [List.cons_append, mval]
      split
      · rfl
      · exact ih
    | _ => simp at hs
theorem mval_put (kv : List (Value × AV)) (k k' : ByteArray) (v : AV) (hs : strKeys kv = true) : mval (mput kv k v) k' = (if k = k' then some v else mval kv k') ∧ strKeys (mput kv k v) = true := by
  unfold mput
  cases hf : mfind kv k 0 with
  | some p =>
    obtain ⟨j, x⟩ := p
    obtain ⟨_, h2, h3⟩ := mval_set k k' v kv 0 j x hs hf
    exact ⟨h2, h3⟩
  | none =>
    have hm := mfind_mval k kv 0 hs
    rw [hf] at hm
    refine ⟨?_, by simp only [strKeys, List.all_append, Bool.and_eq_true]; exact ⟨hs, rfl⟩⟩
    show mval (kv ++ [(.string k, v)]) k' = _
    rw [mval_app _ _ _ hs]
    by_cases hk : k = k'
    · subst hk
      rw [if_pos rfl, ← hm]
      simp [mval]
    · rw [if_neg hk]
      simp only [mval, if_neg hk]
      split <;> simp_all
def knownB (names : List ByteArray) (v : ByteArray) : Bool := decide (v = eE) || names.any fun n => decide (n = v)
def KnowsM (names : List ByteArray) (kv : List (Value × AV)) : Prop := strKeys kv = true ∧ ∀ v, mval kv v = if knownB names v = true then some (bv true) else none
theorem KnowsM.one : KnowsM [] (mput [] eE (bv true)) := ⟨rfl, fun v => by
  rw [(mval_put [] eE v (bv true) rfl).1]
  by_cases h : v = eE
  · subst h; rw [if_pos rfl, if_pos (by simp [knownB])]
  · rw [if_neg (Ne.symm h), if_neg (by simp [knownB, h])]; rfl⟩
theorem KnowsM.put {names : List ByteArray} {kv : List (Value × AV)} (h : KnowsM names kv) (s : ByteArray) : KnowsM (names ++ [s]) (mput kv s (bv true)) := ⟨(mval_put kv s s _ h.1).2, fun v => by
  rw [(mval_put kv s v (bv true) h.1).1, h.2]
  by_cases hs : s = v
  · rw [if_pos hs, if_pos (by simp [knownB, hs])]
  · rw [if_neg hs]
    have : knownB (names ++ [s]) v = knownB names v := by simp [knownB, hs]
    rw [this]⟩
theorem KnowsM.got {names : List ByteArray} {kv : List (Value × AV)} (h : KnowsM names kv) (v : ByteArray) : mgot kv v (.bool false) false = bv (knownB names v) := by
  have hm := mfind_mval v kv 0 h.1
  rw [h.2] at hm
  unfold mgot
  cases hk : knownB names v with
  | true =>
    rw [hk, if_pos rfl] at hm
    cases hf : mfind kv v 0 with
    | none => rw [hf] at hm; cases hm
    | some p =>
      rw [hf] at hm
      obtain ⟨j, x⟩ := p
      exact Option.some.inj hm
  | false =>
    rw [hk, if_neg (by simp)] at hm
    cases hf : mfind kv v 0 with
    | none => rfl
    | some p => rw [hf] at hm; cases hm
def okK (want x : Int) : Bool := !(!(want == 1) && (!(x == want) && !(x == 1)))
def ofK (t : TermD) : Nat := (shapeK t).1.toNat
def kindL (names : List ByteArray) : List Int → List TermD → Int × Int
  | s, [] => (s.headD 0, 0)
  | s, t :: ts => if knownB names t.var = true then
      (if (s.drop (s.length - ofK t)).all (okK (shapeK t).2.1) = true then kindL names (s.take (s.length - ofK t) ++ [(shapeK t).2.2]) ts else (0, 22))
    else (0, 25)
def kindV (names : List ByteArray) (ts : List TermD) : Int × Int := if rightV ts = true then kindL names [] ts else (0, 23)
theorem ofK_of {t : TermD} (h1 : ¬ t.op ≤ 0) (h2 : ¬ 16 ≤ t.op) : ofK t = ofN t.op := by
  unfold ofK shapeK ofN
  (repeat' split) <;> first | rfl | omega
theorem shapeK_nn (t : TermD) : 0 ≤ (shapeK t).1 ∧ (shapeK t).1 ≤ 2 := by
  unfold shapeK
  (repeat' split) <;> simp
end Go.Proofs.YtfeacmadnbajfaaGreatDoor.AM
namespace Go.Proofs.YtfeacmadnbajfaaGreatDoor.AM
open Go.RowKit
set_option linter.unusedSimpArgs false
set_option linter.unusedVariables false
set_option maxRecDepth 10000
set_option maxHeartbeats 0
theorem sk0 : (strKeys ([] : List (Value × AV)) = true) = True := eq_true rfl
theorem sk1 {kv : List (Value × AV)} (h : strKeys kv = true) : (strKeys kv = true) = True := eq_true h
abbrev K1 (ts : List TermD) (names : List ByteArray) (k T e : Nat) (kv : List (Value × AV)) : St := ⟨[(24, iv k), (23, iv names.length), (22, .dat (.lst 1 (sl names))), (6, .mp 20 e), (0, .dat (.lst 8 (ts.map TermD.enc)))], [(20, .maps e kv)], T⟩
def J1 (ts : List TermD) (names : List ByteArray) (n : Nat) (st : St) : Prop := ∃ k T e kv, k ≤ names.length ∧ n = names.length - k ∧ KnowsM (names.take k) kv ∧ st = K1 ts names k T e kv
abbrev K2 (ts : List TermD) (kv : List (Value × AV)) (k T e e6 : Nat) (s : List Int) : St := ⟨[(31, .dat (.lst 8 (ts.map TermD.enc))), (32, iv ts.length), (33, iv k), (9, .slc 79 e 0 s.length), (6, .mp 20 e6)], [(79, .arr e 1 (s.map fun x => [di x])), (20, .maps e6 kv)], T⟩
def J2 (ts : List TermD) (names : List ByteArray) (kv : List (Value × AV)) (d : Int) (n : Nat) (st : St) : Prop := ∃ (k T e e6 : Nat) (s sd : List Int), k ≤ ts.length ∧ n = ts.length - k ∧ deepS sd (ts.drop k) = some [d] ∧ s.length = sd.length ∧ s.length ≤ k ∧ kindL names s (ts.drop k) = kindL names [] ts ∧ st = K2 ts kv k T e e6 s
abbrev K3 (ts : List TermD) (kv : List (Value × AV)) (k T e e6 : Nat) (s : List Int) (own want : Int) (o n j : Nat) : St := ⟨[(31, .dat (.lst 8 (ts.map TermD.enc))), (32, iv ts.length), (33, iv k), (9, .slc 79 e 0 s.length), (6, .mp 20 e6), (12, iv o), (13, iv want), (14, iv own), (53, .slc 79 e n (s.length - n)), (54, iv (s.length - n : Nat)), (55, iv j)], [(79, .arr e 1 (s.map fun x => [di x])), (20, .maps e6 kv)], T⟩
def J3 (ts : List TermD) (kv : List (Value × AV)) (k e e6 : Nat) (s : List Int) (own want : Int) (o n m : Nat) (st : St) : Prop := ∃ (j T : Nat), j ≤ s.length - n ∧ m = s.length - n - j ∧ ((s.drop n).take j).all (okK want) = true ∧ st = K3 ts kv k T e e6 s own want o n j
theorem kindL_cons (names : List ByteArray) (s : List Int) (t : TermD) (ts : List TermD) : kindL names s (t :: ts) = if knownB names t.var = true then
      (if (s.drop (s.length - ofK t)).all (okK (shapeK t).2.1) = true then kindL names (s.take (s.length - ofK t) ++ [(shapeK t).2.2]) ts else (0, 22))
    else (0, 25) := rfl
theorem right_deep {ts : List TermD} (h : rightV ts = true) : ts.length ≤ 1000 ∧ ∃ d, deepS [] ts = some [d] := by
  simp only [rightV, Bool.and_eq_true, decide_eq_true_eq] at h
  obtain ⟨h1, _⟩ := h
  unfold deepV at h1
  split at h1
  · omega
  · rename_i hl
    refine ⟨by omega, ?_⟩
    split at h1
    · rename_i d hd; exact ⟨d, hd⟩
    · omega
theorem c_Kind (ts : List TermD) (names : List ByteArray) (hl : ts.length ≤ 1000000) (hn : names.length ≤ 1000000) (hs : ∀ t ∈ ts, smallT t) (hok : ∀ t ∈ ts, rightT t = true → okT t) :
    Pure Tryz.prog 22 [.dat (.lst 8 (ts.map TermD.enc)), .dat (.lst 1 (sl names))] (.tup [iv (kindV names ts).1, iv (kindV names ts).2]) := by
  have hr := c_tright ts hl hs hok
  refine pure_of_awp Tryz.func22 rfl rfl (by simp [Tryz.f22]) ?_; simp only [go_sem, ↓reduceIte, Nat.reduceEqDiff, Nat.reduceAdd, Nat.reduceLeDiff, Nat.reduceBEq, Nat.reduceMul, reduceCtorEq, Int.reduceLE, Int.reduceLT, Int.reduceAdd, Int.reduceSub, Int.reduceNeg, Int.reduceToNat, Int.reduceBEq]
  repeat' (first | refine awp_seq ?_ | refine awp_block ?_ | refine awp_round ?_ | refine awp_text rfl ?_ | refine awp_any rfl mix (by kernel_rfl) ?_ | (refine RunTo.unguard rfl rfl (fun hg => ?_) (fun hg => ?_) <;> ((try simp only [Bool.not_true, Bool.not_false, Bool.not_eq_true', Bool.not_eq_false', Bool.not_eq_eq_eq_not] at hg); (first | (cases hg) | (simp only [hg]) | skip))) | ((first | refine RunTo.plain rfl ?_ | refine RunTo.skipped rfl ?_ | refine RunTo.call (hr) Tryz.func49 rfl rfl rfl rfl rfl rfl rfl rfl ?_); simp only [go_sem, ↓reduceIte, Nat.reduceEqDiff, Nat.reduceAdd, Nat.reduceLeDiff, Nat.reduceBEq, Nat.reduceMul, reduceCtorEq, Int.reduceLE, Int.reduceLT, Int.reduceAdd, Int.reduceSub, Int.reduceNeg, Int.reduceToNat, Int.reduceBEq, List.length_map, sk0]) | ((first | refine RunTo.nil ⟨by kernel_rfl, ?_⟩ | refine RunTo.nil ?_ | refine awp_skip ?_ | refine awp_exit ?_); simp only [go_sem, ↓reduceIte, Nat.reduceEqDiff, Nat.reduceAdd, Nat.reduceLeDiff, Nat.reduceBEq, Nat.reduceMul, reduceCtorEq, Int.reduceLE, Int.reduceLT, Int.reduceAdd, Int.reduceSub, Int.reduceNeg, Int.reduceToNat, Int.reduceBEq, List.length_map, sk0]) | (refine awp_cond' rfl (of_decide_eq_true rfl) (fun hc => ?_) (fun hc => ?_) <;> ((try simp only [Bool.not_true, Bool.not_false, Bool.not_eq_true', Bool.not_eq_false', Bool.not_eq_eq_eq_not] at hc); (first | (cases hc) | (simp only [hc]) | skip))))
  · (first | refine awp_ret ?_ | skip); refine ⟨(by first | exact .inl rfl | exact .inr rfl | exact .inr trivial | trivial), ?_⟩; simp only [go_sem, ↓reduceIte, Nat.reduceEqDiff, Nat.reduceAdd, Nat.reduceLeDiff, Nat.reduceBEq, Nat.reduceMul, reduceCtorEq, Int.reduceLE, Int.reduceLT, Int.reduceAdd, Int.reduceSub, Int.reduceNeg, Int.reduceToNat, Int.reduceBEq, retV, resL, resV, sealV, sealC, sealAll, Tryz.f22]
    rw [kindV, if_neg (by simp [hc])]
  · have hkv0 : kindV names ts = kindL names [] ts := if_pos hc
    obtain ⟨hl1, d, hd⟩ := right_deep hc
    refine awp_loopw (J1 ts names) names.length (K1 ts names 0 _ _ _) (weak_keep ⟨rfl, rfl, rfl, rfl, rfl, trivial⟩ ⟨rfl, trivial⟩ (Nat.le_refl _)) ⟨0, _, _, _, Nat.zero_le _, rfl, KnowsM.one, rfl⟩ ?_
    rintro n st ⟨k, T, e, kv, hk, rfl, hkm, rfl⟩
    by_cases hlt : k < names.length
    · have hdec := lt_t hlt
      have hget := row_at (fun x => [ds' x]) names k hlt
      have hwk : IntKind.i64.wrap ((k : Int) + 1) = ((k + 1 : Nat) : Int) := wrap_succ (by omega)
      have htk : names.take (k + 1) = names.take k ++ [names[k]] := List.take_succ_eq_append_getElem hlt
      generalize names[k] = x at *
      have hsk := sk1 hkm.1
      repeat' (first | refine awp_seq ?_ | refine awp_block ?_ | refine awp_round ?_ | refine awp_text rfl ?_ | refine awp_any rfl mix (by kernel_rfl) ?_ | (refine RunTo.unguard rfl rfl (fun hg => ?_) (fun hg => ?_) <;> ((try simp only [Bool.not_true, Bool.not_false, Bool.not_eq_true', Bool.not_eq_false', Bool.not_eq_eq_eq_not] at hg); (first | (cases hg) | (simp only [hg]) | skip))) | ((first | refine RunTo.plain rfl ?_ | refine RunTo.skipped rfl ?_); simp only [go_sem, ↓reduceIte, Nat.reduceEqDiff, Nat.reduceAdd, Nat.reduceLeDiff, Nat.reduceBEq, Nat.reduceMul, reduceCtorEq, Int.reduceLE, Int.reduceLT, Int.reduceAdd, Int.reduceSub, Int.reduceNeg, Int.reduceToNat, Int.reduceBEq, hdec, hget, hwk, hsk]) | ((first | refine RunTo.nil ⟨by kernel_rfl, ?_⟩ | refine RunTo.nil ?_ | refine awp_skip ?_ | refine awp_exit ?_); simp only [go_sem, ↓reduceIte, Nat.reduceEqDiff, Nat.reduceAdd, Nat.reduceLeDiff, Nat.reduceBEq, Nat.reduceMul, reduceCtorEq, Int.reduceLE, Int.reduceLT, Int.reduceAdd, Int.reduceSub, Int.reduceNeg, Int.reduceToNat, Int.reduceBEq, hdec, hget, hwk, hsk]) | (refine awp_cond' rfl (of_decide_eq_true rfl) (fun hc => ?_) (fun hc => ?_) <;> ((try simp only [Bool.not_true, Bool.not_false, Bool.not_eq_true', Bool.not_eq_false', Bool.not_eq_eq_eq_not] at hc); (first | (cases hc) | (simp only [hc]) | skip))))
      exact ⟨names.length - (k + 1), by omega, K1 ts names (k + 1) _ e (mput kv x (bv true)), weak_keep ⟨rfl, rfl, rfl, rfl, rfl, trivial⟩ ⟨rfl, trivial⟩ (Nat.le_refl _), k + 1, _, _, _, by omega, rfl, by rw [htk]; exact hkm.put x, rfl⟩
    · have hdec := lt_f hlt
      rw [List.take_of_length_le (by omega)] at hkm
      have hsk := sk1 hkm.1
      repeat' (first | refine awp_seq ?_ | refine awp_block ?_ | refine awp_round ?_ | refine awp_text rfl ?_ | refine awp_any rfl mix (by kernel_rfl) ?_ | (refine RunTo.unguard rfl rfl (fun hg => ?_) (fun hg => ?_) <;> ((try simp only [Bool.not_true, Bool.not_false, Bool.not_eq_true', Bool.not_eq_false', Bool.not_eq_eq_eq_not] at hg); (first | (cases hg) | (simp only [hg]) | skip))) | ((first | refine RunTo.plain rfl ?_ | refine RunTo.skipped rfl ?_); simp only [go_sem, ↓reduceIte, Nat.reduceEqDiff, Nat.reduceAdd, Nat.reduceLeDiff, Nat.reduceBEq, Nat.reduceMul, reduceCtorEq, Int.reduceLE, Int.reduceLT, Int.reduceAdd, Int.reduceSub, Int.reduceNeg, Int.reduceToNat, Int.reduceBEq, hdec, List.length_map]) | ((first | refine RunTo.nil ⟨by kernel_rfl, ?_⟩ | refine RunTo.nil ?_ | refine awp_skip ?_ | refine awp_exit ?_); simp only [go_sem, ↓reduceIte, Nat.reduceEqDiff, Nat.reduceAdd, Nat.reduceLeDiff, Nat.reduceBEq, Nat.reduceMul, reduceCtorEq, Int.reduceLE, Int.reduceLT, Int.reduceAdd, Int.reduceSub, Int.reduceNeg, Int.reduceToNat, Int.reduceBEq, hdec, List.length_map]) | (refine awp_cond' rfl (of_decide_eq_true rfl) (fun hc => ?_) (fun hc => ?_) <;> ((try simp only [Bool.not_true, Bool.not_false, Bool.not_eq_true', Bool.not_eq_false', Bool.not_eq_eq_eq_not] at hc); (first | (cases hc) | (simp only [hc]) | skip))))
      refine awp_weak (weak_nil (t := 9) (s := 79) (sz := 1) (of_decide_eq_true rfl) rfl) ?_
      simp only [go_sem, ↓reduceIte, Nat.reduceEqDiff, Nat.reduceAdd, Nat.reduceLeDiff, Nat.reduceBEq, Nat.reduceMul, reduceCtorEq, Int.reduceLE, Int.reduceLT, Int.reduceAdd, Int.reduceSub, Int.reduceNeg, Int.reduceToNat, Int.reduceBEq]
      refine awp_loopw (J2 ts names kv d) ts.length (K2 ts kv 0 _ _ e []) (weak_keep ⟨rfl, rfl, rfl, rfl, rfl, trivial⟩ ⟨rfl, rfl, trivial⟩ (Nat.le_refl _)) ⟨0, _, _, _, [], [], Nat.zero_le _, rfl, hd, rfl, Nat.zero_le _, rfl, rfl⟩ ?_
      clear hd hdec
      rintro n st ⟨k, T, e, e6, s, sd, hk, rfl, hd, hsd, hsk2, hkl, rfl⟩
      by_cases hlt : k < ts.length
      · have hdec := lt_t hlt
        have hget := row_at TermD.enc ts k hlt
        rw [List.drop_eq_getElem_cons hlt] at hd hkl
        generalize ts[k] = t at *
        rw [deepS_cons] at hd
        rw [kindL_cons] at hkl
        have hgot := hkm.got t.var
        by_cases hbad : t.op ≤ 0 ∨ 16 ≤ t.op ∨ sd.length < ofN t.op
        · rw [stepD, if_pos hbad] at hd; cases hd
        rw [stepD, if_neg hbad] at hd
        simp only [not_or] at hbad
        obtain ⟨hb1, hb2, hb3⟩ := hbad
        have hok1 := ofK_of hb1 hb2
        have hnn := shapeK_nn t
        have hofI : (shapeK t).1 = ((ofK t : Nat) : Int) := (Int.toNat_of_nonneg hnn.1).symm
        have hof2 : ofK t ≤ 2 := by omega
        have hos : ofK t ≤ s.length := by omega
        rw [← hok1] at hd
        have hw : IntKind.i64.wrap ((s.length : Int) - (ofK t : Int)) = ((s.length - ofK t : Nat) : Int) := by rw [IntWalk.i64_in _ (by omega)]; omega
        have hwk : IntKind.i64.wrap ((k : Int) + 1) = ((k + 1 : Nat) : Int) := wrap_succ (by omega)
        have hcs := c_shape t
        rw [hofI] at hcs
        generalize (shapeK t).2.1 = want at *
        generalize (shapeK t).2.2 = own at *
        by_cases hkn : knownB names t.var = true
        · rw [hkn] at hgot
          rw [if_pos hkn] at hkl
          repeat' (first | refine awp_seq ?_ | refine awp_block ?_ | refine awp_round ?_ | refine awp_text rfl ?_ | refine awp_any rfl mix (by kernel_rfl) ?_ | (refine RunTo.unguard rfl rfl (fun hg => ?_) (fun hg => ?_) <;> ((try simp only [Bool.not_true, Bool.not_false, Bool.not_eq_true', Bool.not_eq_false', Bool.not_eq_eq_eq_not] at hg); (first | (cases hg) | (simp only [hg]) | skip))) | ((first | refine RunTo.plain rfl ?_ | refine RunTo.skipped rfl ?_ | refine RunTo.call (hcs) Tryz.func50 rfl rfl rfl rfl rfl rfl rfl rfl ?_); simp only [go_sem, ↓reduceIte, Nat.reduceEqDiff, Nat.reduceAdd, Nat.reduceLeDiff, Nat.reduceBEq, Nat.reduceMul, reduceCtorEq, Int.reduceLE, Int.reduceLT, Int.reduceAdd, Int.reduceSub, Int.reduceNeg, Int.reduceToNat, Int.reduceBEq, hdec, hget, TermD.enc, hw, Nat.sub_le, hsk, hgot]) | ((first | refine RunTo.nil ⟨by kernel_rfl, ?_⟩ | refine RunTo.nil ?_ | refine awp_skip ?_ | refine awp_exit ?_); simp only [go_sem, ↓reduceIte, Nat.reduceEqDiff, Nat.reduceAdd, Nat.reduceLeDiff, Nat.reduceBEq, Nat.reduceMul, reduceCtorEq, Int.reduceLE, Int.reduceLT, Int.reduceAdd, Int.reduceSub, Int.reduceNeg, Int.reduceToNat, Int.reduceBEq, hdec, hget, TermD.enc, hw, Nat.sub_le, hsk, hgot]) | (refine awp_cond' rfl (of_decide_eq_true rfl) (fun hc => ?_) (fun hc => ?_) <;> ((try simp only [Bool.not_true, Bool.not_false, Bool.not_eq_true', Bool.not_eq_false', Bool.not_eq_eq_eq_not] at hc); (first | (cases hc) | (simp only [hc]) | skip))))
          replace hd : deepS (sd.take (sd.length - ofK t) ++ [maxL (sd.drop (sd.length - ofK t)) + 1]) (ts.drop (k + 1)) = some [d] := hd
          have hsdn : sd.length - ofK t = s.length - ofK t := by rw [hsd]
          rw [hsdn] at hd
          clear hsdn hget hcs hgot
          generalize hno : s.length - ofK t = n at *
          have hns : n ≤ s.length := by omega
          generalize ofK t = o at *
          clear hok1 hofI hw hnn hb3
          refine awp_loopw (J3 ts kv k e e6 s own want o n) (s.length - n) (K3 ts kv k _ e e6 s own want o n 0) (weak_keep ⟨rfl, rfl, rfl, rfl, rfl, rfl, rfl, rfl, rfl, rfl, rfl, trivial⟩ ⟨rfl, rfl, trivial⟩ (Nat.le_refl _)) ⟨0, _, Nat.zero_le _, rfl, by rw [List.take_zero]; rfl, rfl⟩ ?_
          rintro m st ⟨j, T', hj, rfl, hall, rfl⟩
          by_cases hjl : j < s.length - n
          · have hdj := lt_t hjl
            have hlen : j < (s.drop n).length := by rw [List.length_drop]; exact hjl
            have hgj : (s.map fun x => [di x])[n + j]? = some [di (s.drop n)[j]] := by
              rw [List.getElem?_map, List.getElem?_eq_getElem (by omega), List.getElem_drop]; rfl
            have htk := all_take (okK want) (s.drop n) j hlen
            have hmem := List.getElem_mem hlen
            generalize (s.drop n)[j] = x at *
            have hwj : IntKind.i64.wrap ((j : Int) + 1) = ((j + 1 : Nat) : Int) := wrap_succ (by omega)
            repeat' (first | refine awp_seq ?_ | refine awp_block ?_ | refine awp_round ?_ | refine awp_text rfl ?_ | refine awp_any rfl mix (by kernel_rfl) ?_ | (refine RunTo.unguard rfl rfl (fun hg => ?_) (fun hg => ?_) <;> ((try simp only [Bool.not_true, Bool.not_false, Bool.not_eq_true', Bool.not_eq_false', Bool.not_eq_eq_eq_not] at hg); (first | (cases hg) | (simp only [hg]) | skip))) | ((first | refine RunTo.plain rfl ?_ | refine RunTo.skipped rfl ?_); simp only [go_sem, ↓reduceIte, Nat.reduceEqDiff, Nat.reduceAdd, Nat.reduceLeDiff, Nat.reduceBEq, Nat.reduceMul, reduceCtorEq, Int.reduceLE, Int.reduceLT, Int.reduceAdd, Int.reduceSub, Int.reduceNeg, Int.reduceToNat, Int.reduceBEq, hdj, ilt hjl, hgj, hwj]) | ((first | refine RunTo.nil ⟨by kernel_rfl, ?_⟩ | refine RunTo.nil ?_ | refine awp_skip ?_ | refine awp_exit ?_); simp only [go_sem, ↓reduceIte, Nat.reduceEqDiff, Nat.reduceAdd, Nat.reduceLeDiff, Nat.reduceBEq, Nat.reduceMul, reduceCtorEq, Int.reduceLE, Int.reduceLT, Int.reduceAdd, Int.reduceSub, Int.reduceNeg, Int.reduceToNat, Int.reduceBEq, hdj, ilt hjl, hgj, hwj]) | (refine awp_cond' rfl (of_decide_eq_true rfl) (fun hc => ?_) (fun hc => ?_) <;> ((try simp only [Bool.not_true, Bool.not_false, Bool.not_eq_true', Bool.not_eq_false', Bool.not_eq_eq_eq_not] at hc); (first | (cases hc) | (simp only [hc]) | skip))))
            all_goals (try simp only [decide_eq_true_eq, decide_eq_false_iff_not, beq_iff_eq, bne_iff_ne, ne_eq, beq_eq_false_iff_ne, bne_eq_false_iff_eq, Bool.and_eq_true, Bool.or_eq_true, Bool.or_eq_false_iff, Bool.and_eq_false_iff] at *)
            all_goals first
              | (have hx : okK want x = true := by simp [okK, *]
                 exact ⟨s.length - n - (j + 1), by omega, K3 ts kv k _ e e6 s own want o n (j + 1), weak_keep ⟨rfl, rfl, rfl, rfl, rfl, rfl, rfl, rfl, rfl, rfl, rfl, trivial⟩ ⟨rfl, rfl, trivial⟩ (Nat.le_refl _), j + 1, _, by omega, rfl, by rw [htk, hall, hx]; rfl, rfl⟩)
              | (have hx : okK want x = false := by simp [okK, *]
                 have hf : (s.drop n).all (okK want) = false := by
                   cases hh : (s.drop n).all (okK want) with
                   | false => rfl
                   | true => have := List.all_eq_true.1 hh x hmem; rw [hx] at this; cases this
                 rw [hf, if_neg (by simp)] at hkl
                 (first | refine awp_ret ?_ | skip); refine ⟨(by first | exact .inl rfl | exact .inr rfl | exact .inr trivial | trivial), ?_⟩; simp only [go_sem, ↓reduceIte, Nat.reduceEqDiff, Nat.reduceAdd, Nat.reduceLeDiff, Nat.reduceBEq, Nat.reduceMul, reduceCtorEq, Int.reduceLE, Int.reduceLT, Int.reduceAdd, Int.reduceSub, Int.reduceNeg, Int.reduceToNat, Int.reduceBEq, retV, resL, resV, sealV, sealC, sealAll, Tryz.f22]
                 rw [hkv0, ← hkl])
          · have hdj := lt_f hjl
            have hjj : (s.drop n).take j = s.drop n := List.take_of_length_le (by rw [List.length_drop]; omega)
            rw [hjj] at hall
            rw [if_pos hall] at hkl
            have hw : IntKind.i64.wrap ((s.length : Int) - (o : Int)) = (n : Int) := by rw [IntWalk.i64_in _ (by omega)]; omega
            have hcap : ((n + 1) * 8 ≤ 140737488355328) = True := eq_true (by omega)
            repeat' (first | refine awp_seq ?_ | refine awp_block ?_ | refine awp_round ?_ | refine awp_text rfl ?_ | refine awp_any rfl mix (by kernel_rfl) ?_ | (refine RunTo.unguard rfl rfl (fun hg => ?_) (fun hg => ?_) <;> ((try simp only [Bool.not_true, Bool.not_false, Bool.not_eq_true', Bool.not_eq_false', Bool.not_eq_eq_eq_not] at hg); (first | (cases hg) | (simp only [hg]) | skip))) | ((first | refine RunTo.plain rfl ?_ | refine RunTo.skipped rfl ?_); simp only [go_sem, ↓reduceIte, Nat.reduceEqDiff, Nat.reduceAdd, Nat.reduceLeDiff, Nat.reduceBEq, Nat.reduceMul, reduceCtorEq, Int.reduceLE, Int.reduceLT, Int.reduceAdd, Int.reduceSub, Int.reduceNeg, Int.reduceToNat, Int.reduceBEq, hdj, hns, hw, List.length_take, List.length_map, Nat.min_eq_left hns, hcap, hwk]) | ((first | refine RunTo.nil ⟨by kernel_rfl, ?_⟩ | refine RunTo.nil ?_ | refine awp_skip ?_ | refine awp_exit ?_); simp only [go_sem, ↓reduceIte, Nat.reduceEqDiff, Nat.reduceAdd, Nat.reduceLeDiff, Nat.reduceBEq, Nat.reduceMul, reduceCtorEq, Int.reduceLE, Int.reduceLT, Int.reduceAdd, Int.reduceSub, Int.reduceNeg, Int.reduceToNat, Int.reduceBEq, hdj, hns, hw, List.length_take, List.length_map, Nat.min_eq_left hns, hcap, hwk]) | (refine awp_cond' rfl (of_decide_eq_true rfl) (fun hc => ?_) (fun hc => ?_) <;> ((try simp only [Bool.not_true, Bool.not_false, Bool.not_eq_true', Bool.not_eq_false', Bool.not_eq_eq_eq_not] at hc); (first | (cases hc) | (simp only [hc]) | skip))))
            have hlen : (s.take n ++ [own]).length = n + 1 := by simp [Nat.min_eq_left hns]
            refine ⟨ts.length - (k + 1), by omega, K2 ts kv (k + 1) _ _ e6 (s.take n ++ [own]), weak_keep ⟨rfl, rfl, rfl, by rw [hlen]; rfl, rfl, trivial⟩ ⟨by rw [List.map_append, List.map_take]; rfl, rfl, trivial⟩ (Nat.le_refl _), k + 1, _, _, _, _, _, by omega, rfl, hd, by simp [hsd], by omega, hkl, rfl⟩
        · have hkn' : knownB names t.var = false := by simpa using hkn
          rw [hkn'] at hgot
          rw [if_neg hkn] at hkl
          repeat' (first | refine awp_seq ?_ | refine awp_block ?_ | refine awp_round ?_ | refine awp_text rfl ?_ | refine awp_any rfl mix (by kernel_rfl) ?_ | (refine RunTo.unguard rfl rfl (fun hg => ?_) (fun hg => ?_) <;> ((try simp only [Bool.not_true, Bool.not_false, Bool.not_eq_true', Bool.not_eq_false', Bool.not_eq_eq_eq_not] at hg); (first | (cases hg) | (simp only [hg]) | skip))) | ((first | refine RunTo.plain rfl ?_ | refine RunTo.skipped rfl ?_); simp only [go_sem, ↓reduceIte, Nat.reduceEqDiff, Nat.reduceAdd, Nat.reduceLeDiff, Nat.reduceBEq, Nat.reduceMul, reduceCtorEq, Int.reduceLE, Int.reduceLT, Int.reduceAdd, Int.reduceSub, Int.reduceNeg, Int.reduceToNat, Int.reduceBEq, hdec, hget, TermD.enc, hw, Nat.sub_le, hsk, hgot]) | ((first | refine RunTo.nil ⟨by kernel_rfl, ?_⟩ | refine RunTo.nil ?_ | refine awp_skip ?_ | refine awp_exit ?_); simp only [go_sem, ↓reduceIte, Nat.reduceEqDiff, Nat.reduceAdd, Nat.reduceLeDiff, Nat.reduceBEq, Nat.reduceMul, reduceCtorEq, Int.reduceLE, Int.reduceLT, Int.reduceAdd, Int.reduceSub, Int.reduceNeg, Int.reduceToNat, Int.reduceBEq, hdec, hget, TermD.enc, hw, Nat.sub_le, hsk, hgot]) | (refine awp_cond' rfl (of_decide_eq_true rfl) (fun hc => ?_) (fun hc => ?_) <;> ((try simp only [Bool.not_true, Bool.not_false, Bool.not_eq_true', Bool.not_eq_false', Bool.not_eq_eq_eq_not] at hc); (first | (cases hc) | (simp only [hc]) | skip))))
          all_goals
            (first | refine awp_ret ?_ | skip); refine ⟨(by first | exact .inl rfl | exact .inr rfl | exact .inr trivial | trivial), ?_⟩; simp only [go_sem, ↓reduceIte, Nat.reduceEqDiff, Nat.reduceAdd, Nat.reduceLeDiff, Nat.reduceBEq, Nat.reduceMul, reduceCtorEq, Int.reduceLE, Int.reduceLT, Int.reduceAdd, Int.reduceSub, Int.reduceNeg, Int.reduceToNat, Int.reduceBEq, retV, resL, resV, sealV, sealC, sealAll, Tryz.f22]
            rw [hkv0, ← hkl]
      · have hdec := lt_f hlt
        have hk' : ts.drop k = [] := List.drop_of_length_le (by omega)
        rw [hk'] at hd hkl
        have hsd1 : sd = [d] := Option.some.inj hd
        match s, hsd, hkl with
        | [x], _, hkl =>
          repeat' (first | refine awp_seq ?_ | refine awp_block ?_ | refine awp_round ?_ | refine awp_text rfl ?_ | refine awp_any rfl mix (by kernel_rfl) ?_ | (refine RunTo.unguard rfl rfl (fun hg => ?_) (fun hg => ?_) <;> ((try simp only [Bool.not_true, Bool.not_false, Bool.not_eq_true', Bool.not_eq_false', Bool.not_eq_eq_eq_not] at hg); (first | (cases hg) | (simp only [hg]) | skip))) | ((first | refine RunTo.plain rfl ?_ | refine RunTo.skipped rfl ?_); simp only [go_sem, ↓reduceIte, Nat.reduceEqDiff, Nat.reduceAdd, Nat.reduceLeDiff, Nat.reduceBEq, Nat.reduceMul, reduceCtorEq, Int.reduceLE, Int.reduceLT, Int.reduceAdd, Int.reduceSub, Int.reduceNeg, Int.reduceToNat, Int.reduceBEq, hdec]) | ((first | refine RunTo.nil ⟨by kernel_rfl, ?_⟩ | refine RunTo.nil ?_ | refine awp_skip ?_ | refine awp_exit ?_); simp only [go_sem, ↓reduceIte, Nat.reduceEqDiff, Nat.reduceAdd, Nat.reduceLeDiff, Nat.reduceBEq, Nat.reduceMul, reduceCtorEq, Int.reduceLE, Int.reduceLT, Int.reduceAdd, Int.reduceSub, Int.reduceNeg, Int.reduceToNat, Int.reduceBEq, hdec]) | (refine awp_cond' rfl (of_decide_eq_true rfl) (fun hc => ?_) (fun hc => ?_) <;> ((try simp only [Bool.not_true, Bool.not_false, Bool.not_eq_true', Bool.not_eq_false', Bool.not_eq_eq_eq_not] at hc); (first | (cases hc) | (simp only [hc]) | skip))))
          all_goals
            (first | refine awp_ret ?_ | skip); refine ⟨(by first | exact .inl rfl | exact .inr rfl | exact .inr trivial | trivial), ?_⟩; simp only [go_sem, ↓reduceIte, Nat.reduceEqDiff, Nat.reduceAdd, Nat.reduceLeDiff, Nat.reduceBEq, Nat.reduceMul, reduceCtorEq, Int.reduceLE, Int.reduceLT, Int.reduceAdd, Int.reduceSub, Int.reduceNeg, Int.reduceToNat, Int.reduceBEq, retV, resL, resV, sealV, sealC, sealAll, Tryz.f22]
            rw [hkv0, ← hkl]
            rfl
        | [], hsd, _ => rw [hsd1] at hsd; cases hsd
        | _ :: _ :: _, hsd, _ => rw [hsd1] at hsd; simp at hsd
end Go.Proofs.YtfeacmadnbajfaaGreatDoor.AM
namespace Go.Proofs.YtfeacmadnbajfaaGreatDoor.AM
open Go.RowKit
set_option linter.unusedSimpArgs false
set_option linter.unusedVariables false
set_option maxRecDepth 10000
set_option maxHeartbeats 0
structure TX where
  op : Int
  var : ByteArray
  name : ByteArray
  v : VX
def TX.row (t : TX) : List Dat := [di t.op, ds' t.var, ds' t.name, di t.v.a.k, di t.v.a.n, df t.v.a.f, ds' t.v.a.s, t.v.d]
def TX.t (t : TX) : TermD := ⟨t.op, t.var, t.name, t.v.v⟩
theorem TX.le (t : TX) : DleL t.row t.t.enc := .cons (.refl _) (.cons (.refl _) (.cons (.refl _) (.cons (.refl _) (.cons (.refl _) (.cons (.refl _) (.cons (.refl _) (.cons t.v.le .nil)))))))
theorem rows_le : ∀ ts : List TX, DleR (ts.map TX.row) ((ts.map TX.t).map TermD.enc)
  | [] => .nil
  | t :: ts => .cons t.le (rows_le ts)
abbrev TwoF := Int → VX → VX → VX × Int
def evalL (two : TwoF) : List VX → List TX → VX × Int
  | s, [] => (s.getLastD zeroX, 0)
  | s, t :: ts => if t.op = 1 then evalL two (s ++ [t.v]) ts else if t.op = 4 then evalL two (s.dropLast ++ [toldX (notX (truthX (s.getLastD zeroX)))]) ts
    else if t.op = 5 then evalL two (s.dropLast ++ [boolX ((s.getLastD zeroX).a.k == 0)]) ts
    else if (two t.op (s.dropLast.getLastD zeroX) (s.getLastD zeroX)).2 = 0 then evalL two (s.dropLast.dropLast ++ [(two t.op (s.dropLast.getLastD zeroX) (s.getLastD zeroX)).1]) ts
    else (zeroX, (two t.op (s.dropLast.getLastD zeroX) (s.getLastD zeroX)).2)
def evalX (two : TwoF) (ts : List TX) : VX × Int := if (kindV [] (ts.map TX.t)).2 = 0 then evalL two [] ts else (zeroX, (kindV [] (ts.map TX.t)).2)
theorem evalL_cons (two : TwoF) (s : List VX) (t : TX) (ts : List TX) : evalL two s (t :: ts) = if t.op = 1 then evalL two (s ++ [t.v]) ts else if t.op = 4 then evalL two (s.dropLast ++ [toldX (notX (truthX (s.getLastD zeroX)))]) ts
    else if t.op = 5 then evalL two (s.dropLast ++ [boolX ((s.getLastD zeroX).a.k == 0)]) ts
    else if (two t.op (s.dropLast.getLastD zeroX) (s.getLastD zeroX)).2 = 0 then evalL two (s.dropLast.dropLast ++ [(two t.op (s.dropLast.getLastD zeroX) (s.getLastD zeroX)).1]) ts
    else (zeroX, (two t.op (s.dropLast.getLastD zeroX) (s.getLastD zeroX)).2) := rfl
abbrev z5 : List AV := [iv 0, iv 0, fv 0, sv eE, .dat nilD]
abbrev SE (ts : List TX) (k T e4 e38 e2 n : Nat) (rows : List (List Dat)) : St := ⟨[(39, .dat (.lst 8 (ts.map TX.row))), (40, iv ts.length), (41, iv k), (10, .ptr 38 e38 0 0), (1, .lit (.map none)), (4, .ptr 4 e4 0 0)], [(38, .box e38 [.slc 2000 e2 0 n]), (2000, .arr e2 5 rows), (4, .box e4 z5)], T⟩
def IE (two : TwoF) (ts : List TX) (d : Int) (m : Nat) (st : St) : Prop := ∃ k T e4 e38 e2 n rows s sd, k ≤ ts.length ∧ m = ts.length - k ∧ deepS sd ((ts.drop k).map TX.t) = some [d] ∧ s.length = sd.length ∧ s.length ≤ k ∧ evalL two s (ts.drop k) = evalL two [] ts ∧ n = s.length ∧ rows = s.map VX.row ∧ st = SE ts k T e4 e38 e2 n rows
theorem kind_ok {ns : List ByteArray} {ts : List TermD} (h : (kindV ns ts).2 = 0) : rightV ts = true := by
  unfold kindV at h
  split at h
  · assumption
  · cases h
theorem c_Eval (two : TwoF) (ts : List TX) (hl : ts.length ≤ 1000000) (hs : ∀ t ∈ ts, smallT t.t) (hok : ∀ t ∈ ts, rightT t.t = true → okT t.t) (h23 : ∀ t ∈ ts, t.op ≠ 2 ∧ t.op ≠ 3)
    (htwo : ∀ t ∈ ts, ¬ t.op ≤ 5 → ∀ a b, Pure Tryz.prog 38 [iv t.op, a.av, b.av] (tupX (two t.op a b))) :
    Pure Tryz.prog 10 [.dat (.lst 8 (ts.map TX.row)), .lit (.map none)] (tupX (evalX two ts)) := by
  have hk := pure_le (c_Kind (ts.map TX.t) [] (by simpa using hl) (by simp) (fun t ht => by obtain ⟨x, hx, rfl⟩ := List.mem_map.1 ht; exact hs x hx) (fun t ht => by obtain ⟨x, hx, rfl⟩ := List.mem_map.1 ht; exact hok x hx)) (.cons (.dat (rows_le ts).dat) (.cons (.dat (.nil 1)) .nil))
  generalize hkv : kindV [] (ts.map TX.t) = kv at hk
  refine pure_of_awp Tryz.func10 rfl rfl (by simp [Tryz.f10]) ?_; simp only [go_sem, ↓reduceIte, Nat.reduceEqDiff, Nat.reduceAdd, Nat.reduceLeDiff, Nat.reduceBEq, Nat.reduceMul, reduceCtorEq, Int.reduceLE, Int.reduceLT, Int.reduceAdd, Int.reduceSub, Int.reduceNeg, Int.reduceToNat, Int.reduceBEq]
  repeat' (first | refine awp_seq ?_ | refine awp_block ?_ | refine awp_round ?_ | refine awp_text rfl ?_ | refine awp_any rfl mix (by kernel_rfl) ?_ | (refine RunTo.unguard rfl rfl (fun hg => ?_) (fun hg => ?_) <;> ((try simp only [Bool.not_true, Bool.not_false, Bool.not_eq_true', Bool.not_eq_false', Bool.not_eq_eq_eq_not] at hg); (first | (cases hg) | (simp only [hg]) | skip))) | ((first | refine RunTo.plain rfl ?_ | refine RunTo.skipped rfl ?_ | refine RunTo.call (c_known) Tryz.func29 rfl rfl rfl rfl rfl rfl rfl rfl ?_ | refine RunTo.call (hk) Tryz.func22 rfl rfl rfl rfl rfl rfl rfl rfl ?_); simp only [go_sem, ↓reduceIte, Nat.reduceEqDiff, Nat.reduceAdd, Nat.reduceLeDiff, Nat.reduceBEq, Nat.reduceMul, reduceCtorEq, Int.reduceLE, Int.reduceLT, Int.reduceAdd, Int.reduceSub, Int.reduceNeg, Int.reduceToNat, Int.reduceBEq, List.length_map]) | ((first | refine RunTo.nil ⟨by kernel_rfl, ?_⟩ | refine RunTo.nil ?_ | refine awp_skip ?_ | refine awp_exit ?_); simp only [go_sem, ↓reduceIte, Nat.reduceEqDiff, Nat.reduceAdd, Nat.reduceLeDiff, Nat.reduceBEq, Nat.reduceMul, reduceCtorEq, Int.reduceLE, Int.reduceLT, Int.reduceAdd, Int.reduceSub, Int.reduceNeg, Int.reduceToNat, Int.reduceBEq, List.length_map]) | (refine awp_cond' rfl (of_decide_eq_true rfl) (fun hc => ?_) (fun hc => ?_) <;> ((try simp only [Bool.not_true, Bool.not_false, Bool.not_eq_true', Bool.not_eq_false', Bool.not_eq_eq_eq_not] at hc); (first | (cases hc) | (simp only [hc]) | skip))))
  · (first | refine awp_ret ?_ | skip); refine ⟨(by first | exact .inl rfl | exact .inr rfl | exact .inr trivial | trivial), ?_⟩; simp only [go_sem, ↓reduceIte, Nat.reduceEqDiff, Nat.reduceAdd, Nat.reduceLeDiff, Nat.reduceBEq, Nat.reduceMul, reduceCtorEq, Int.reduceLE, Int.reduceLT, Int.reduceAdd, Int.reduceSub, Int.reduceNeg, Int.reduceToNat, Int.reduceBEq, retV, resL, resV, sealV, sealC, sealAll, Tryz.f10]
    (try simp only [decide_eq_true_eq, decide_eq_false_iff_not, beq_iff_eq, bne_iff_ne, ne_eq, beq_eq_false_iff_ne, bne_eq_false_iff_eq, Bool.and_eq_true, Bool.or_eq_true, Bool.or_eq_false_iff, Bool.and_eq_false_iff] at *)
    rw [evalX, hkv, if_neg hc]; rfl
  · (try simp only [decide_eq_true_eq, decide_eq_false_iff_not, beq_iff_eq, bne_iff_ne, ne_eq, beq_eq_false_iff_ne, bne_eq_false_iff_eq, Bool.and_eq_true, Bool.or_eq_true, Bool.or_eq_false_iff, Bool.and_eq_false_iff] at *)
    have hev : evalX two ts = evalL two [] ts := by rw [evalX, hkv, if_pos hc]
    have hr := kind_ok (show (kindV [] (ts.map TX.t)).2 = 0 by rw [hkv]; exact hc)
    obtain ⟨hl1, d, hd⟩ := right_deep hr
    rw [List.length_map] at hl1
    clear hk hkv hr
    refine awp_weak (weak_nilbox (b := 38) (j := 0) (s := 2000) (sz := 5) rfl rfl rfl) ?_
    simp only [go_sem, ↓reduceIte, Nat.reduceEqDiff, Nat.reduceAdd, Nat.reduceLeDiff, Nat.reduceBEq, Nat.reduceMul, reduceCtorEq, Int.reduceLE, Int.reduceLT, Int.reduceAdd, Int.reduceSub, Int.reduceNeg, Int.reduceToNat, Int.reduceBEq, List.set_cons_zero]
    refine awp_loopw (IE two ts d) ts.length (SE ts 0 _ _ _ _ _ _) (weak_keep ⟨rfl, rfl, rfl, rfl, rfl, rfl, trivial⟩ ⟨rfl, rfl, rfl, trivial⟩ (Nat.le_refl _)) ⟨0, _, _, _, _, _, _, [], [], Nat.zero_le _, rfl, hd, rfl, Nat.zero_le _, rfl, rfl, rfl, rfl⟩ ?_
    clear hd
    rintro m st ⟨k, T, e4, e38, e2, n, rows, s, sd, hk, rfl, hd, hsd, hsk, hel, hn, hrows, rfl⟩
    have hrl : rows.length = s.length := by rw [hrows, List.length_map]
    by_cases hlt : k < ts.length
    · have hdec := lt_t hlt
      have hget := row_at TX.row ts k hlt
      have hop := h23 _ (List.getElem_mem hlt)
      have htw := htwo _ (List.getElem_mem hlt)
      rw [List.drop_eq_getElem_cons hlt] at hd hel
      have hwk : IntKind.i64.wrap ((k : Int) + 1) = ((k + 1 : Nat) : Int) := wrap_succ (by omega)
      generalize ts[k] = t at *
      rw [List.map_cons, deepS_cons] at hd
      rw [evalL_cons] at hel
      by_cases hbad : t.t.op ≤ 0 ∨ 16 ≤ t.t.op ∨ sd.length < ofN t.t.op
      · rw [stepD, if_pos hbad] at hd; cases hd
      rw [stepD, if_neg hbad] at hd
      simp only [not_or] at hbad
      obtain ⟨hb1, hb2, hb3⟩ := hbad
      have hto : t.t.op = t.op := rfl
      rw [hto] at hb1 hb2 hb3 hd
      replace hd : deepS (sd.take (sd.length - ofN t.op) ++ [maxL (sd.drop (sd.length - ofN t.op)) + 1]) ((ts.drop (k + 1)).map TX.t) = some [d] := hd
      obtain ⟨hop2, hop3⟩ := hop
      have hz2 : (t.op == 2) = false := by simpa using hop2
      have hz3 : (t.op == 3) = false := by simpa using hop3
      by_cases h1 : t.op = 1
      · have hz1 : (t.op == 1) = true := by simpa using h1
        rw [if_pos h1] at hel
        have ho : ofN t.op = 0 := by rw [h1]; rfl
        have hp := c_push rows n t.v (by omega) (by omega)
        rw [List.take_of_length_le (by omega), hrows] at hp
        subst hn hrows
        repeat' (first | refine awp_seq ?_ | refine awp_block ?_ | refine awp_round ?_ | refine awp_text rfl ?_ | refine awp_any rfl mix (by kernel_rfl) ?_ | (refine RunTo.unguard rfl rfl (fun hg => ?_) (fun hg => ?_) <;> ((try simp only [Bool.not_true, Bool.not_false, Bool.not_eq_true', Bool.not_eq_false', Bool.not_eq_eq_eq_not] at hg); (first | (cases hg) | (simp only [hg]) | skip))) | ((first | refine RunTo.plain rfl ?_ | refine RunTo.skipped rfl ?_); simp only [go_sem, ↓reduceIte, Nat.reduceEqDiff, Nat.reduceAdd, Nat.reduceLeDiff, Nat.reduceBEq, Nat.reduceMul, reduceCtorEq, Int.reduceLE, Int.reduceLT, Int.reduceAdd, Int.reduceSub, Int.reduceNeg, Int.reduceToNat, Int.reduceBEq, hdec, hget, TX.row, hwk, hz1, ↓VX.cb, VX.av]) | (refine RunTo.actsE (hp) Tryz.func30 rfl rfl rfl rfl rfl rfl ?_; simp only [go_sem, ↓reduceIte, Nat.reduceEqDiff, Nat.reduceAdd, Nat.reduceLeDiff, Nat.reduceBEq, Nat.reduceMul, reduceCtorEq, Int.reduceLE, Int.reduceLT, Int.reduceAdd, Int.reduceSub, Int.reduceNeg, Int.reduceToNat, Int.reduceBEq, hdec, hget, TX.row, hwk, hz1, ↓VX.cb, VX.av]; (repeat' refine And.intro rfl ?_); with_reducible refine RunTo.this ?_) | ((first | refine RunTo.nil ⟨by kernel_rfl, ?_⟩ | refine RunTo.nil ?_ | refine awp_skip ?_ | refine awp_exit ?_); simp only [go_sem, ↓reduceIte, Nat.reduceEqDiff, Nat.reduceAdd, Nat.reduceLeDiff, Nat.reduceBEq, Nat.reduceMul, reduceCtorEq, Int.reduceLE, Int.reduceLT, Int.reduceAdd, Int.reduceSub, Int.reduceNeg, Int.reduceToNat, Int.reduceBEq, hdec, hget, TX.row, hwk, hz1, ↓VX.cb, VX.av]) | (refine awp_cond' rfl (of_decide_eq_true rfl) (fun hc => ?_) (fun hc => ?_) <;> ((try simp only [Bool.not_true, Bool.not_false, Bool.not_eq_true', Bool.not_eq_false', Bool.not_eq_eq_eq_not] at hc); (first | (cases hc) | (simp only [hc]) | skip))))
        exact ⟨ts.length - (k + 1), by omega, SE ts (k + 1) _ e4 e38 _ (s.length + 1) (s.map VX.row ++ [t.v.row]), weak_keep ⟨rfl, rfl, rfl, rfl, rfl, rfl, trivial⟩ ⟨rfl, rfl, rfl, trivial⟩ (Nat.le_refl _), k + 1, _, _, _, _, _, _, s ++ [t.v], _, by omega, rfl, hd, by simp [ho, hsd], by simp; omega, hel, by simp, by simp, rfl⟩
      · have hz1 : (t.op == 1) = false := by simpa using h1
        rw [if_neg h1] at hel
        by_cases h45 : t.op = 4 ∨ t.op = 5
        · have ho : ofN t.op = 1 := by rcases h45 with h | h <;> rw [h] <;> rfl
          rcases List.eq_nil_or_concat s with hnil | ⟨p, x, hps⟩
          · subst hnil; simp at hsd; omega
          rw [List.concat_eq_append] at hps
          subst hps
          have hn' : n = p.length + 1 := by rw [hn]; simp
          subst hn'
          have hr1 : rows[p.length]? = some x.row := by rw [hrows]; simp
          have hr2 : rows.take p.length = p.map VX.row := by rw [hrows]; simp
          have hpl : p.length + 1 = sd.length := by simpa using hsd
          have hpk : p.length + 1 ≤ k := by simpa using hsk
          have hrl2 : rows.length = p.length + 1 := by rw [hrl]; simp
          have hpop := c_pop rows p.length x hr1 (by omega)
          simp only [List.dropLast_concat, List.getLastD_concat] at hel
          have hsum : (p.length + 1 : Nat) = (sd.take (sd.length - ofN t.op) ++ [maxL (sd.drop (sd.length - ofN t.op)) + 1]).length := by rw [List.length_append, List.length_take, ho]; simp; omega
          clear hn hrows
          rcases h45 with h4 | h5
          · have hz4 : (t.op == 4) = true := by simpa using h4
            rw [if_pos h4] at hel
            have hp := c_push rows p.length (toldX (notX (truthX x))) (by omega) (by omega)
            rw [hr2] at hp
            repeat' (first | refine awp_seq ?_ | refine awp_block ?_ | refine awp_round ?_ | refine awp_text rfl ?_ | refine awp_any rfl mix (by kernel_rfl) ?_ | (refine RunTo.unguard rfl rfl (fun hg => ?_) (fun hg => ?_) <;> ((try simp only [Bool.not_true, Bool.not_false, Bool.not_eq_true', Bool.not_eq_false', Bool.not_eq_eq_eq_not] at hg); (first | (cases hg) | (simp only [hg]) | skip))) | ((first | refine RunTo.plain rfl ?_ | refine RunTo.skipped rfl ?_ | refine RunTo.call (c_truth x) Tryz.func35 rfl rfl rfl rfl rfl rfl rfl rfl ?_ | refine RunTo.call (c_not (truthX x)) Tryz.func34 rfl rfl rfl rfl rfl rfl rfl rfl ?_ | refine RunTo.call (c_told (notX (truthX x))) Tryz.func33 rfl rfl rfl rfl rfl rfl rfl rfl ?_); simp only [go_sem, ↓reduceIte, Nat.reduceEqDiff, Nat.reduceAdd, Nat.reduceLeDiff, Nat.reduceBEq, Nat.reduceMul, reduceCtorEq, Int.reduceLE, Int.reduceLT, Int.reduceAdd, Int.reduceSub, Int.reduceNeg, Int.reduceToNat, Int.reduceBEq, hdec, hget, TX.row, hwk, hz1, hz2, hz3, hz4, ↓VX.cb, VX.av]) | (refine RunTo.actsE (hpop) Tryz.func36 rfl rfl rfl rfl rfl rfl ?_; simp only [go_sem, ↓reduceIte, Nat.reduceEqDiff, Nat.reduceAdd, Nat.reduceLeDiff, Nat.reduceBEq, Nat.reduceMul, reduceCtorEq, Int.reduceLE, Int.reduceLT, Int.reduceAdd, Int.reduceSub, Int.reduceNeg, Int.reduceToNat, Int.reduceBEq, hdec, hget, TX.row, hwk, hz1, hz2, hz3, hz4, ↓VX.cb, VX.av]; (repeat' refine And.intro rfl ?_); with_reducible refine RunTo.this ?_) | (refine RunTo.actsE (hp) Tryz.func30 rfl rfl rfl rfl rfl rfl ?_; simp only [go_sem, ↓reduceIte, Nat.reduceEqDiff, Nat.reduceAdd, Nat.reduceLeDiff, Nat.reduceBEq, Nat.reduceMul, reduceCtorEq, Int.reduceLE, Int.reduceLT, Int.reduceAdd, Int.reduceSub, Int.reduceNeg, Int.reduceToNat, Int.reduceBEq, hdec, hget, TX.row, hwk, hz1, hz2, hz3, hz4, ↓VX.cb, VX.av]; (repeat' refine And.intro rfl ?_); with_reducible refine RunTo.this ?_) | ((first | refine RunTo.nil ⟨by kernel_rfl, ?_⟩ | refine RunTo.nil ?_ | refine awp_skip ?_ | refine awp_exit ?_); simp only [go_sem, ↓reduceIte, Nat.reduceEqDiff, Nat.reduceAdd, Nat.reduceLeDiff, Nat.reduceBEq, Nat.reduceMul, reduceCtorEq, Int.reduceLE, Int.reduceLT, Int.reduceAdd, Int.reduceSub, Int.reduceNeg, Int.reduceToNat, Int.reduceBEq, hdec, hget, TX.row, hwk, hz1, hz2, hz3, hz4, ↓VX.cb, VX.av]) | (refine awp_cond' rfl (of_decide_eq_true rfl) (fun hc => ?_) (fun hc => ?_) <;> ((try simp only [Bool.not_true, Bool.not_false, Bool.not_eq_true', Bool.not_eq_false', Bool.not_eq_eq_eq_not] at hc); (first | (cases hc) | (simp only [hc]) | skip))))
            exact ⟨ts.length - (k + 1), by omega, SE ts (k + 1) _ e4 e38 _ (p.length + 1) (p.map VX.row ++ [(toldX (notX (truthX x))).row]), weak_keep ⟨rfl, rfl, rfl, rfl, rfl, rfl, trivial⟩ ⟨rfl, rfl, rfl, trivial⟩ (Nat.le_refl _), k + 1, _, _, _, _, _, _, p ++ [toldX (notX (truthX x))], _, by omega, rfl, hd, by rw [← hsum]; simp, by simp; omega, hel, by simp, by simp, rfl⟩
          · have hz4 : (t.op == 4) = false := by simp; omega
            have hz5 : (t.op == 5) = true := by simpa using h5
            rw [if_neg (by omega), if_pos h5] at hel
            have hp := c_push rows p.length (boolX (x.a.k == 0)) (by omega) (by omega)
            rw [hr2] at hp
            repeat' (first | refine awp_seq ?_ | refine awp_block ?_ | refine awp_round ?_ | refine awp_text rfl ?_ | refine awp_any rfl mix (by kernel_rfl) ?_ | (refine RunTo.unguard rfl rfl (fun hg => ?_) (fun hg => ?_) <;> ((try simp only [Bool.not_true, Bool.not_false, Bool.not_eq_true', Bool.not_eq_false', Bool.not_eq_eq_eq_not] at hg); (first | (cases hg) | (simp only [hg]) | skip))) | ((first | refine RunTo.plain rfl ?_ | refine RunTo.skipped rfl ?_ | refine RunTo.call (c_OfBool (x.a.k == 0)) Tryz.func37 rfl rfl rfl rfl rfl rfl rfl rfl ?_); simp only [go_sem, ↓reduceIte, Nat.reduceEqDiff, Nat.reduceAdd, Nat.reduceLeDiff, Nat.reduceBEq, Nat.reduceMul, reduceCtorEq, Int.reduceLE, Int.reduceLT, Int.reduceAdd, Int.reduceSub, Int.reduceNeg, Int.reduceToNat, Int.reduceBEq, hdec, hget, TX.row, hwk, hz1, hz2, hz3, hz4, hz5, ↓VX.cb, VX.av]) | (refine RunTo.actsE (hpop) Tryz.func36 rfl rfl rfl rfl rfl rfl ?_; simp only [go_sem, ↓reduceIte, Nat.reduceEqDiff, Nat.reduceAdd, Nat.reduceLeDiff, Nat.reduceBEq, Nat.reduceMul, reduceCtorEq, Int.reduceLE, Int.reduceLT, Int.reduceAdd, Int.reduceSub, Int.reduceNeg, Int.reduceToNat, Int.reduceBEq, hdec, hget, TX.row, hwk, hz1, hz2, hz3, hz4, hz5, ↓VX.cb, VX.av]; (repeat' refine And.intro rfl ?_); with_reducible refine RunTo.this ?_) | (refine RunTo.actsE (hp) Tryz.func30 rfl rfl rfl rfl rfl rfl ?_; simp only [go_sem, ↓reduceIte, Nat.reduceEqDiff, Nat.reduceAdd, Nat.reduceLeDiff, Nat.reduceBEq, Nat.reduceMul, reduceCtorEq, Int.reduceLE, Int.reduceLT, Int.reduceAdd, Int.reduceSub, Int.reduceNeg, Int.reduceToNat, Int.reduceBEq, hdec, hget, TX.row, hwk, hz1, hz2, hz3, hz4, hz5, ↓VX.cb, VX.av]; (repeat' refine And.intro rfl ?_); with_reducible refine RunTo.this ?_) | ((first | refine RunTo.nil ⟨by kernel_rfl, ?_⟩ | refine RunTo.nil ?_ | refine awp_skip ?_ | refine awp_exit ?_); simp only [go_sem, ↓reduceIte, Nat.reduceEqDiff, Nat.reduceAdd, Nat.reduceLeDiff, Nat.reduceBEq, Nat.reduceMul, reduceCtorEq, Int.reduceLE, Int.reduceLT, Int.reduceAdd, Int.reduceSub, Int.reduceNeg, Int.reduceToNat, Int.reduceBEq, hdec, hget, TX.row, hwk, hz1, hz2, hz3, hz4, hz5, ↓VX.cb, VX.av]) | (refine awp_cond' rfl (of_decide_eq_true rfl) (fun hc => ?_) (fun hc => ?_) <;> ((try simp only [Bool.not_true, Bool.not_false, Bool.not_eq_true', Bool.not_eq_false', Bool.not_eq_eq_eq_not] at hc); (first | (cases hc) | (simp only [hc]) | skip))))
            exact ⟨ts.length - (k + 1), by omega, SE ts (k + 1) _ e4 e38 _ (p.length + 1) (p.map VX.row ++ [(boolX (x.a.k == 0)).row]), weak_keep ⟨rfl, rfl, rfl, rfl, rfl, rfl, trivial⟩ ⟨rfl, rfl, rfl, trivial⟩ (Nat.le_refl _), k + 1, _, _, _, _, _, _, p ++ [boolX (x.a.k == 0)], _, by omega, rfl, hd, by rw [← hsum]; simp, by simp; omega, hel, by simp, by simp, rfl⟩
        · have h4 : ¬ t.op = 4 := fun h => h45 (.inl h)
          have h5 : ¬ t.op = 5 := fun h => h45 (.inr h)
          have hz4 : (t.op == 4) = false := by simpa using h4
          have hz5 : (t.op == 5) = false := by simpa using h5
          rw [if_neg h4, if_neg h5] at hel
          have ho : ofN t.op = 2 := by unfold ofN; rw [if_neg (by omega), if_neg (by omega)]
          have htw2 := htw (by omega)
          rcases List.eq_nil_or_concat s with hnil | ⟨q, b, hps⟩
          · subst hnil; simp at hsd; omega
          rw [List.concat_eq_append] at hps
          subst hps
          rcases List.eq_nil_or_concat q with hnil | ⟨p, a, hps⟩
          · subst hnil; simp at hsd; omega
          rw [List.concat_eq_append] at hps
          subst hps
          have hn' : n = p.length + 1 + 1 := by rw [hn]; simp
          subst hn'
          have hr1 : rows[p.length + 1]? = some b.row := by rw [hrows]; simp
          have hr1' : rows[p.length]? = some a.row := by rw [hrows]; simp
          have hr2 : rows.take p.length = p.map VX.row := by rw [hrows]; simp
          have hpl : p.length + 1 + 1 = sd.length := by simpa using hsd
          have hpk : p.length + 1 + 1 ≤ k := by simpa using hsk
          have hrl2 : rows.length = p.length + 1 + 1 := by rw [hrl]; simp
          have pop1 := c_pop rows (p.length + 1) b hr1 (by omega)
          have pop2 := c_pop rows p.length a hr1' (by omega)
          simp only [List.dropLast_concat, List.getLastD_concat] at hel
          have hsum : (p.length + 1 : Nat) = (sd.take (sd.length - ofN t.op) ++ [maxL (sd.drop (sd.length - ofN t.op)) + 1]).length := by rw [List.length_append, List.length_take, ho]; simp; omega
          clear hn hrows
          have hp := c_push rows p.length (two t.op a b).1 (by omega) (by omega)
          rw [hr2] at hp
          have ht2 := htw2 a b
          generalize hr : two t.op a b = r at *
          repeat' (first | refine awp_seq ?_ | refine awp_block ?_ | refine awp_round ?_ | refine awp_text rfl ?_ | refine awp_any rfl mix (by kernel_rfl) ?_ | (refine RunTo.unguard rfl rfl (fun hg => ?_) (fun hg => ?_) <;> ((try simp only [Bool.not_true, Bool.not_false, Bool.not_eq_true', Bool.not_eq_false', Bool.not_eq_eq_eq_not] at hg); (first | (cases hg) | (simp only [hg]) | skip))) | ((first | refine RunTo.plain rfl ?_ | refine RunTo.skipped rfl ?_ | refine RunTo.call (ht2) Tryz.func38 rfl rfl rfl rfl rfl rfl rfl rfl ?_); simp only [go_sem, ↓reduceIte, Nat.reduceEqDiff, Nat.reduceAdd, Nat.reduceLeDiff, Nat.reduceBEq, Nat.reduceMul, reduceCtorEq, Int.reduceLE, Int.reduceLT, Int.reduceAdd, Int.reduceSub, Int.reduceNeg, Int.reduceToNat, Int.reduceBEq, hdec, hget, TX.row, hwk, hz1, hz2, hz3, hz4, hz5, ↓VX.cb, VX.av]) | (refine RunTo.actsE (pop1) Tryz.func36 rfl rfl rfl rfl rfl rfl ?_; simp only [go_sem, ↓reduceIte, Nat.reduceEqDiff, Nat.reduceAdd, Nat.reduceLeDiff, Nat.reduceBEq, Nat.reduceMul, reduceCtorEq, Int.reduceLE, Int.reduceLT, Int.reduceAdd, Int.reduceSub, Int.reduceNeg, Int.reduceToNat, Int.reduceBEq, hdec, hget, TX.row, hwk, hz1, hz2, hz3, hz4, hz5, ↓VX.cb, VX.av]; (repeat' refine And.intro rfl ?_); with_reducible refine RunTo.this ?_) | (refine RunTo.actsE (pop2) Tryz.func36 rfl rfl rfl rfl rfl rfl ?_; simp only [go_sem, ↓reduceIte, Nat.reduceEqDiff, Nat.reduceAdd, Nat.reduceLeDiff, Nat.reduceBEq, Nat.reduceMul, reduceCtorEq, Int.reduceLE, Int.reduceLT, Int.reduceAdd, Int.reduceSub, Int.reduceNeg, Int.reduceToNat, Int.reduceBEq, hdec, hget, TX.row, hwk, hz1, hz2, hz3, hz4, hz5, ↓VX.cb, VX.av]; (repeat' refine And.intro rfl ?_); with_reducible refine RunTo.this ?_) | (refine RunTo.actsE (hp) Tryz.func30 rfl rfl rfl rfl rfl rfl ?_; simp only [go_sem, ↓reduceIte, Nat.reduceEqDiff, Nat.reduceAdd, Nat.reduceLeDiff, Nat.reduceBEq, Nat.reduceMul, reduceCtorEq, Int.reduceLE, Int.reduceLT, Int.reduceAdd, Int.reduceSub, Int.reduceNeg, Int.reduceToNat, Int.reduceBEq, hdec, hget, TX.row, hwk, hz1, hz2, hz3, hz4, hz5, ↓VX.cb, VX.av]; (repeat' refine And.intro rfl ?_); with_reducible refine RunTo.this ?_) | ((first | refine RunTo.nil ⟨by kernel_rfl, ?_⟩ | refine RunTo.nil ?_ | refine awp_skip ?_ | refine awp_exit ?_); simp only [go_sem, ↓reduceIte, Nat.reduceEqDiff, Nat.reduceAdd, Nat.reduceLeDiff, Nat.reduceBEq, Nat.reduceMul, reduceCtorEq, Int.reduceLE, Int.reduceLT, Int.reduceAdd, Int.reduceSub, Int.reduceNeg, Int.reduceToNat, Int.reduceBEq, hdec, hget, TX.row, hwk, hz1, hz2, hz3, hz4, hz5, ↓VX.cb, VX.av]) | (refine awp_cond' rfl (of_decide_eq_true rfl) (fun hc => ?_) (fun hc => ?_) <;> ((try simp only [Bool.not_true, Bool.not_false, Bool.not_eq_true', Bool.not_eq_false', Bool.not_eq_eq_eq_not] at hc); (first | (cases hc) | (simp only [hc]) | skip))))
          · (try simp only [decide_eq_true_eq, decide_eq_false_iff_not, beq_iff_eq, bne_iff_ne, ne_eq, beq_eq_false_iff_ne, bne_eq_false_iff_eq, Bool.and_eq_true, Bool.or_eq_true, Bool.or_eq_false_iff, Bool.and_eq_false_iff] at *)
            rw [if_neg (by assumption)] at hel
            (first | refine awp_ret ?_ | skip); refine ⟨(by first | exact .inl rfl | exact .inr rfl | exact .inr trivial | trivial), ?_⟩; simp only [go_sem, ↓reduceIte, Nat.reduceEqDiff, Nat.reduceAdd, Nat.reduceLeDiff, Nat.reduceBEq, Nat.reduceMul, reduceCtorEq, Int.reduceLE, Int.reduceLT, Int.reduceAdd, Int.reduceSub, Int.reduceNeg, Int.reduceToNat, Int.reduceBEq, retV, resL, resV, sealV, sealC, sealAll, Tryz.f10]
            rw [hev, ← hel]; rfl
          · (try simp only [decide_eq_true_eq, decide_eq_false_iff_not, beq_iff_eq, bne_iff_ne, ne_eq, beq_eq_false_iff_ne, bne_eq_false_iff_eq, Bool.and_eq_true, Bool.or_eq_true, Bool.or_eq_false_iff, Bool.and_eq_false_iff] at *)
            rw [if_pos (by assumption)] at hel
            exact ⟨ts.length - (k + 1), by omega, SE ts (k + 1) _ e4 e38 _ (p.length + 1) (p.map VX.row ++ [r.1.row]), weak_keep ⟨rfl, rfl, rfl, rfl, rfl, rfl, trivial⟩ ⟨rfl, rfl, rfl, trivial⟩ (Nat.le_refl _), k + 1, _, _, _, _, _, _, p ++ [r.1], _, by omega, rfl, hd, by rw [← hsum]; simp, by simp; omega, hel, by simp, by simp, rfl⟩
    · have hdec := lt_f hlt
      have hk' : ts.drop k = [] := List.drop_of_length_le (by omega)
      rw [hk'] at hd hel
      have hsd1 : sd = [d] := Option.some.inj hd
      match s, hsd, hel with
      | [x], _, hel =>
        have hp := c_pop rows 0 x (by rw [hrows]; rfl) (by omega)
        obtain rfl : n = 0 + 1 := hn
        repeat' (first | refine awp_seq ?_ | refine awp_block ?_ | refine awp_round ?_ | refine awp_text rfl ?_ | refine awp_any rfl mix (by kernel_rfl) ?_ | (refine RunTo.unguard rfl rfl (fun hg => ?_) (fun hg => ?_) <;> ((try simp only [Bool.not_true, Bool.not_false, Bool.not_eq_true', Bool.not_eq_false', Bool.not_eq_eq_eq_not] at hg); (first | (cases hg) | (simp only [hg]) | skip))) | ((first | refine RunTo.plain rfl ?_ | refine RunTo.skipped rfl ?_); simp only [go_sem, ↓reduceIte, Nat.reduceEqDiff, Nat.reduceAdd, Nat.reduceLeDiff, Nat.reduceBEq, Nat.reduceMul, reduceCtorEq, Int.reduceLE, Int.reduceLT, Int.reduceAdd, Int.reduceSub, Int.reduceNeg, Int.reduceToNat, Int.reduceBEq, hdec, ↓VX.cb, VX.av]) | (refine RunTo.actsE (hp) Tryz.func36 rfl rfl rfl rfl rfl rfl ?_; simp only [go_sem, ↓reduceIte, Nat.reduceEqDiff, Nat.reduceAdd, Nat.reduceLeDiff, Nat.reduceBEq, Nat.reduceMul, reduceCtorEq, Int.reduceLE, Int.reduceLT, Int.reduceAdd, Int.reduceSub, Int.reduceNeg, Int.reduceToNat, Int.reduceBEq, hdec, ↓VX.cb, VX.av]; (repeat' refine And.intro rfl ?_); with_reducible refine RunTo.this ?_) | ((first | refine RunTo.nil ⟨by kernel_rfl, ?_⟩ | refine RunTo.nil ?_ | refine awp_skip ?_ | refine awp_exit ?_); simp only [go_sem, ↓reduceIte, Nat.reduceEqDiff, Nat.reduceAdd, Nat.reduceLeDiff, Nat.reduceBEq, Nat.reduceMul, reduceCtorEq, Int.reduceLE, Int.reduceLT, Int.reduceAdd, Int.reduceSub, Int.reduceNeg, Int.reduceToNat, Int.reduceBEq, hdec, ↓VX.cb, VX.av]) | (refine awp_cond' rfl (of_decide_eq_true rfl) (fun hc => ?_) (fun hc => ?_) <;> ((try simp only [Bool.not_true, Bool.not_false, Bool.not_eq_true', Bool.not_eq_false', Bool.not_eq_eq_eq_not] at hc); (first | (cases hc) | (simp only [hc]) | skip))))
        all_goals
          (first | refine awp_ret ?_ | skip); refine ⟨(by first | exact .inl rfl | exact .inr rfl | exact .inr trivial | trivial), ?_⟩; simp only [go_sem, ↓reduceIte, Nat.reduceEqDiff, Nat.reduceAdd, Nat.reduceLeDiff, Nat.reduceBEq, Nat.reduceMul, reduceCtorEq, Int.reduceLE, Int.reduceLT, Int.reduceAdd, Int.reduceSub, Int.reduceNeg, Int.reduceToNat, Int.reduceBEq, retV, resL, resV, sealV, sealC, sealAll, Tryz.f10]
          rw [hev, ← hel]; rfl
      | [], hsd, _ => rw [hsd1] at hsd; cases hsd
      | _ :: _ :: _, hsd, _ => rw [hsd1] at hsd; simp at hsd
def holdsX (two : TwoF) (ts : List TX) : Bool × Int := if ts.length = 0 then (true, 0) else ((evalX two ts).2 == 0 && truthX (evalX two ts).1 == 1, (evalX two ts).2)
theorem c_Holds (two : TwoF) (ts : List TX) (hl : ts.length ≤ 1000000) (hev : Pure Tryz.prog 10 [.dat (.lst 8 (ts.map TX.row)), .lit (.map none)] (tupX (evalX two ts))) :
    Pure Tryz.prog 11 [.dat (.lst 8 (ts.map TX.row)), .lit (.map none)] (.tup [bv (holdsX two ts).1, iv (holdsX two ts).2]) := by
  unfold holdsX
  generalize evalX two ts = r at *
  refine pure_of_awp Tryz.func11 rfl rfl (by simp [Tryz.f11]) ?_; simp only [go_sem, ↓reduceIte, Nat.reduceEqDiff, Nat.reduceAdd, Nat.reduceLeDiff, Nat.reduceBEq, Nat.reduceMul, reduceCtorEq, Int.reduceLE, Int.reduceLT, Int.reduceAdd, Int.reduceSub, Int.reduceNeg, Int.reduceToNat, Int.reduceBEq]
  repeat' (first | refine awp_seq ?_ | refine awp_block ?_ | refine awp_round ?_ | refine awp_text rfl ?_ | refine awp_any rfl mix (by kernel_rfl) ?_ | (refine RunTo.unguard rfl rfl (fun hg => ?_) (fun hg => ?_) <;> ((try simp only [Bool.not_true, Bool.not_false, Bool.not_eq_true', Bool.not_eq_false', Bool.not_eq_eq_eq_not] at hg); (first | (cases hg) | (simp only [hg]) | skip))) | ((first | refine RunTo.plain rfl ?_ | refine RunTo.skipped rfl ?_ | refine RunTo.call (hev) Tryz.func10 rfl rfl rfl rfl rfl rfl rfl rfl ?_ | refine RunTo.call (c_truth r.1) Tryz.func35 rfl rfl rfl rfl rfl rfl rfl rfl ?_); simp only [go_sem, ↓reduceIte, Nat.reduceEqDiff, Nat.reduceAdd, Nat.reduceLeDiff, Nat.reduceBEq, Nat.reduceMul, reduceCtorEq, Int.reduceLE, Int.reduceLT, Int.reduceAdd, Int.reduceSub, Int.reduceNeg, Int.reduceToNat, Int.reduceBEq, List.length_map, ↓VX.cb, VX.av]) | ((first | refine RunTo.nil ⟨by kernel_rfl, ?_⟩ | refine RunTo.nil ?_ | refine awp_skip ?_ | refine awp_exit ?_); simp only [go_sem, ↓reduceIte, Nat.reduceEqDiff, Nat.reduceAdd, Nat.reduceLeDiff, Nat.reduceBEq, Nat.reduceMul, reduceCtorEq, Int.reduceLE, Int.reduceLT, Int.reduceAdd, Int.reduceSub, Int.reduceNeg, Int.reduceToNat, Int.reduceBEq, List.length_map, ↓VX.cb, VX.av]) | (refine awp_cond' rfl (of_decide_eq_true rfl) (fun hc => ?_) (fun hc => ?_) <;> ((try simp only [Bool.not_true, Bool.not_false, Bool.not_eq_true', Bool.not_eq_false', Bool.not_eq_eq_eq_not] at hc); (first | (cases hc) | (simp only [hc]) | skip))))
  all_goals
    (first | refine awp_ret ?_ | skip); refine ⟨(by first | exact .inl rfl | exact .inr rfl | exact .inr trivial | trivial), ?_⟩; simp only [go_sem, ↓reduceIte, Nat.reduceEqDiff, Nat.reduceAdd, Nat.reduceLeDiff, Nat.reduceBEq, Nat.reduceMul, reduceCtorEq, Int.reduceLE, Int.reduceLT, Int.reduceAdd, Int.reduceSub, Int.reduceNeg, Int.reduceToNat, Int.reduceBEq, retV, resL, resV, sealV, sealC, sealAll, Tryz.f11]
    (try simp only [decide_eq_true_eq, decide_eq_false_iff_not, beq_iff_eq, bne_iff_ne, ne_eq, beq_eq_false_iff_ne, bne_eq_false_iff_eq, Bool.and_eq_true, Bool.or_eq_true, Bool.or_eq_false_iff, Bool.and_eq_false_iff] at *)
    first
    | (rw [if_pos (by omega)]; done)
    | (rw [if_neg (by omega)]; done)
    | (rw [if_neg (by omega)]; simp [*]; done)
end Go.Proofs.YtfeacmadnbajfaaGreatDoor.AM
namespace Go.Proofs.YtfeacmadnbajfaaGreatDoor.AM
open Go.RowKit
set_option linter.unusedSimpArgs false
set_option linter.unusedVariables false
set_option maxRecDepth 10000
set_option maxHeartbeats 0
theorem printA_small (a : AtomD) (hn : i64B a.n) (hs : a.s.size ≤ 300) : (printA a).size ≤ 2000 := by
  have hq := quoteS_size a.s
  have hi := Lib.itoa_length_le a.n hn.1 hn.2
  unfold printA
  split
  · cases (a.n == 1) <;> decide
  · split
    · simp only [ByteArray.size, List.size_toArray]; omega
    · split
      · rw [ByteArray.size_append, hexS_size]; show 2 + 16 ≤ _; omega
      · split
        · omega
        · split
          · rw [ByteArray.size_append]; show 1 + _ ≤ _; omega
          · show 4 ≤ _; omega
abbrev litT (v : ValD) : TermD := ⟨1, eE, eE, v⟩
abbrev opT (n : Int) : TermD := ⟨n, eE, eE, ⟨⟨0, 0, 0, eE⟩, []⟩⟩
theorem noName : isName eE = false := by decide +kernel
theorem lit_rightT (v : ValD) (hp : plainV v = true) : rightT (litT v) = true := by
  unfold rightT
  simp [noName, hp]
theorem lit_fine (v : ValD) (hp : plainV v = true) : fineV [litT v] = true := by
  have h1 : deepV [litT v] = 1 := rfl
  unfold fineV termsV
  rw [h1, List.all_cons, List.all_nil, lit_rightT v hp]
  rfl
theorem lit_right (v : ValD) (hp : plainV v = true) (hs : v.a.s.size ≤ 300) (hn : i64B v.a.n) : rightQ (padT (litT v)) = true := by
  have h1 : deepV [litT v] = 1 := rfl
  have hpad : padT (litT v) = [litT v] := by unfold padT; rw [h1]; rfl
  have hf := lit_fine v hp
  rw [hpad]
  unfold rightQ
  rw [hf, Bool.true_and, decide_eq_true_eq]
  have ht : textS [litT v] = printV1 v := rfl
  have hv : validV v = true := by
    simp only [plainV, Bool.and_eq_true] at hp
    exact hp.1
  have hsz := printA_small v.a hn hs
  rw [printQ, if_pos hf]
  unfold outQ
  rw [ht, printV1, if_pos hv]
  have e1 : (⟨#[109, 97, 116, 99, 104, 32]⟩ : ByteArray).size = 6 := rfl
  have e2 : (⟨#[40, 41]⟩ : ByteArray).size = 2 := rfl
  have e3 : (⟨#[32, 119, 104, 101, 114, 101, 32]⟩ : ByteArray).size = 7 := rfl
  have e4 : (⟨#[32, 114, 101, 116, 117, 114, 110, 32]⟩ : ByteArray).size = 8 := rfl
  have e5 : (⟨#[99, 111, 117, 110, 116, 40, 42, 41]⟩ : ByteArray).size = 8 := rfl
  simp only [ByteArray.size_append, e1, e2, e3, e4, e5]
  omega
theorem op_right (n : Int) (h1 : 4 ≤ n) (h2 : n ≤ 15) : rightQ (padT (opT n)) = true := by
  have : n = 4 ∨ n = 5 ∨ n = 6 ∨ n = 7 ∨ n = 8 ∨ n = 9 ∨ n = 10 ∨ n = 11 ∨ n = 12 ∨ n = 13 ∨ n = 14 ∨ n = 15 := by omega
  rcases this with h | h | h | h | h | h | h | h | h | h | h | h <;> rw [h] <;> decide +kernel
abbrev litX (v : VX) : TX := ⟨1, eE, eE, v⟩
abbrev opX (n : Int) : TX := ⟨n, eE, eE, zeroX⟩
theorem right_of {ts : List TermD} {d : Int} (hd : deepV ts = d) (h1 : 1 ≤ d) (h2 : d ≤ 64) (h : ∀ t ∈ ts, rightQ (padT t) = true) : rightV ts = true := by
  unfold rightV
  rw [hd, decide_eq_true h1, decide_eq_true h2, List.all_eq_true.2 h]; rfl
theorem okT_lit (v : ValD) (h6 : v.a.k ≠ 6) (hn : i64B v.a.n) (hs : v.a.s.size ≤ 300) : okT (litT v) := by
  refine ⟨fun _ => h6, hn, by show v.a.s.size ≤ _; omega, by show eE.size ≤ _; decide, by show eE.size ≤ _; decide, ?_⟩
  show (printV1 v).size ≤ _
  have := printA_small v.a hn hs
  unfold printV1
  split
  · omega
  · show 0 ≤ _; omega
theorem okT_op (n : Int) (h : n ≠ 1) : okT (opT n) := ⟨fun h' => absurd h' h, by show i64B 0; unfold i64B; decide, by show eE.size ≤ _; decide, by show eE.size ≤ _; decide, by show eE.size ≤ _; decide, by
  show (printV1 ⟨⟨0, 0, 0, eE⟩, []⟩).size ≤ 10000000
  decide +kernel⟩
theorem small_lit (n : Int) (v : ValD) : smallT ⟨n, eE, eE, v⟩ := ⟨by show eE.size ≤ _; decide, by show eE.size ≤ _; decide⟩
end Go.Proofs.YtfeacmadnbajfaaGreatDoor.AM
namespace Go.Proofs.YtfeacmadnbajfaaGreatDoor.AM
open Go.RowKit
set_option linter.unusedSimpArgs false
set_option linter.unusedVariables false
set_option maxRecDepth 10000
set_option maxHeartbeats 0
theorem eval_two (two : TwoF) (x y : VX) (op : Int) (h1 : 6 ≤ op) (h2 : op ≤ 15) (hk : (kindV [] [litT x.v, litT y.v, opT op]).2 = 0) : evalX two [litX x, litX y, opX op] = if (two op x y).2 = 0 then ((two op x y).1, 0) else (zeroX, (two op x y).2) := by
  have e : [litX x, litX y, opX op].map TX.t = [litT x.v, litT y.v, opT op] := rfl
  unfold evalX
  rw [e, if_pos hk]
  rw [evalL_cons, if_pos rfl, evalL_cons, if_pos rfl, evalL_cons]
  have n1 : ¬ (opX op).op = 1 := by show ¬ op = 1; omega
  have n4 : ¬ (opX op).op = 4 := by show ¬ op = 4; omega
  have n5 : ¬ (opX op).op = 5 := by show ¬ op = 5; omega
  rw [if_neg n1, if_neg n4, if_neg n5]
  rfl
theorem deep3 (x y : ValD) (op : Int) (h1 : 6 ≤ op) (h2 : op ≤ 15) : deepV [litT x, litT y, opT op] = 2 := by
  have : op = 6 ∨ op = 7 ∨ op = 8 ∨ op = 9 ∨ op = 10 ∨ op = 11 ∨ op = 12 ∨ op = 13 ∨ op = 14 ∨ op = 15 := by omega
  rcases this with h | h | h | h | h | h | h | h | h | h <;> subst h <;> rfl
def goodV (v : ValD) : Prop := plainV v = true ∧ v.a.s.size ≤ 300 ∧ i64B v.a.n
theorem right3 {x y : ValD} {op : Int} (hx : goodV x) (hy : goodV y) (h1 : 6 ≤ op) (h2 : op ≤ 15) : rightV [litT x, litT y, opT op] = true :=
  right_of (deep3 x y op h1 h2) (by decide) (by decide) (fun t ht => by
    simp only [List.mem_cons, List.not_mem_nil, or_false] at ht
    rcases ht with rfl | rfl | rfl
    · exact lit_right x hx.1 hx.2.1 hx.2.2
    · exact lit_right y hy.1 hy.2.1 hy.2.2
    · exact op_right op (by omega) h2)
end Go.Proofs.YtfeacmadnbajfaaGreatDoor.AM
namespace Go.Proofs.YtfeacmadnbajfaaGreatDoor.AM
open Go.RowKit
set_option linter.unusedSimpArgs false
set_option linter.unusedVariables false
set_option maxRecDepth 10000
set_option maxHeartbeats 0
theorem c_lit (v : VX) : Pure Tryz.prog 9 [v.av] (.agg [iv 1, sv eE, sv eE, iv v.a.k, iv v.a.n, fv v.a.f, sv v.a.s, .dat v.d]) := by
  refine pure_of_awp Tryz.func9 rfl rfl (by simp [Tryz.f9]) ?_; simp only [go_sem, ↓reduceIte, Nat.reduceEqDiff, Nat.reduceAdd, Nat.reduceLeDiff, Nat.reduceBEq, Nat.reduceMul, reduceCtorEq, Int.reduceLE, Int.reduceLT, Int.reduceAdd, Int.reduceSub, Int.reduceNeg, Int.reduceToNat, Int.reduceBEq]
  repeat' (first | refine awp_seq ?_ | refine awp_block ?_ | refine awp_round ?_ | refine awp_text rfl ?_ | refine awp_any rfl mix (by kernel_rfl) ?_ | (refine RunTo.unguard rfl rfl (fun hg => ?_) (fun hg => ?_) <;> ((try simp only [Bool.not_true, Bool.not_false, Bool.not_eq_true', Bool.not_eq_false', Bool.not_eq_eq_eq_not] at hg); (first | (cases hg) | (simp only [hg]) | skip))) | ((first | refine RunTo.plain rfl ?_ | refine RunTo.skipped rfl ?_); simp only [go_sem, ↓reduceIte, Nat.reduceEqDiff, Nat.reduceAdd, Nat.reduceLeDiff, Nat.reduceBEq, Nat.reduceMul, reduceCtorEq, Int.reduceLE, Int.reduceLT, Int.reduceAdd, Int.reduceSub, Int.reduceNeg, Int.reduceToNat, Int.reduceBEq, VX.av, ↓VX.cb]) | ((first | refine RunTo.nil ⟨by kernel_rfl, ?_⟩ | refine RunTo.nil ?_ | refine awp_skip ?_ | refine awp_exit ?_); simp only [go_sem, ↓reduceIte, Nat.reduceEqDiff, Nat.reduceAdd, Nat.reduceLeDiff, Nat.reduceBEq, Nat.reduceMul, reduceCtorEq, Int.reduceLE, Int.reduceLT, Int.reduceAdd, Int.reduceSub, Int.reduceNeg, Int.reduceToNat, Int.reduceBEq, VX.av, ↓VX.cb]) | (refine awp_cond' rfl (of_decide_eq_true rfl) (fun hc => ?_) (fun hc => ?_) <;> ((try simp only [Bool.not_true, Bool.not_false, Bool.not_eq_true', Bool.not_eq_false', Bool.not_eq_eq_eq_not] at hc); (first | (cases hc) | (simp only [hc]) | skip))))
  all_goals
    (first | refine awp_ret ?_ | skip); refine ⟨(by first | exact .inl rfl | exact .inr rfl | exact .inr trivial | trivial), ?_⟩; simp only [go_sem, ↓reduceIte, Nat.reduceEqDiff, Nat.reduceAdd, Nat.reduceLeDiff, Nat.reduceBEq, Nat.reduceMul, reduceCtorEq, Int.reduceLE, Int.reduceLT, Int.reduceAdd, Int.reduceSub, Int.reduceNeg, Int.reduceToNat, Int.reduceBEq, retV, resL, resV, sealV, sealC, sealAll, Tryz.f9]
end Go.Proofs.YtfeacmadnbajfaaGreatDoor.AM
namespace Go.Proofs.YtfeacmadnbajfaaGreatDoor.AM
open Go.RowKit
set_option linter.unusedSimpArgs false
set_option linter.unusedVariables false
set_option maxRecDepth 10000
set_option maxHeartbeats 0
theorem c_bits3 (f : Nat) : Pure Tryz.prog 41 [fv f] (.lit (.int .u64 f)) := by
  refine pure_of_awp Tryz.func41 rfl rfl (by simp [Tryz.f41]) ?_; simp only [go_sem, ↓reduceIte, Nat.reduceEqDiff, Nat.reduceAdd, Nat.reduceLeDiff, Nat.reduceBEq, Nat.reduceMul, reduceCtorEq, Int.reduceLE, Int.reduceLT, Int.reduceAdd, Int.reduceSub, Int.reduceNeg, Int.reduceToNat, Int.reduceBEq]
  repeat' (first | refine awp_seq ?_ | refine awp_block ?_ | refine awp_round ?_ | refine awp_text rfl ?_ | refine awp_any rfl mix (by kernel_rfl) ?_ | (refine RunTo.unguard rfl rfl (fun hg => ?_) (fun hg => ?_) <;> ((try simp only [Bool.not_true, Bool.not_false, Bool.not_eq_true', Bool.not_eq_false', Bool.not_eq_eq_eq_not] at hg); (first | (cases hg) | (simp only [hg]) | skip))) | ((first | refine RunTo.plain rfl ?_ | refine RunTo.skipped rfl ?_ | refine RunTo.ext (x_bits f) rfl rfl rfl rfl ?_); simp only [go_sem, ↓reduceIte, Nat.reduceEqDiff, Nat.reduceAdd, Nat.reduceLeDiff, Nat.reduceBEq, Nat.reduceMul, reduceCtorEq, Int.reduceLE, Int.reduceLT, Int.reduceAdd, Int.reduceSub, Int.reduceNeg, Int.reduceToNat, Int.reduceBEq]) | ((first | refine RunTo.nil ⟨by kernel_rfl, ?_⟩ | refine RunTo.nil ?_ | refine awp_skip ?_ | refine awp_exit ?_); simp only [go_sem, ↓reduceIte, Nat.reduceEqDiff, Nat.reduceAdd, Nat.reduceLeDiff, Nat.reduceBEq, Nat.reduceMul, reduceCtorEq, Int.reduceLE, Int.reduceLT, Int.reduceAdd, Int.reduceSub, Int.reduceNeg, Int.reduceToNat, Int.reduceBEq]) | (refine awp_cond' rfl (of_decide_eq_true rfl) (fun hc => ?_) (fun hc => ?_) <;> ((try simp only [Bool.not_true, Bool.not_false, Bool.not_eq_true', Bool.not_eq_false', Bool.not_eq_eq_eq_not] at hc); (first | (cases hc) | (simp only [hc]) | skip))))
  all_goals
    (first | refine awp_ret ?_ | skip); refine ⟨(by first | exact .inl rfl | exact .inr rfl | exact .inr trivial | trivial), ?_⟩; simp only [go_sem, ↓reduceIte, Nat.reduceEqDiff, Nat.reduceAdd, Nat.reduceLeDiff, Nat.reduceBEq, Nat.reduceMul, reduceCtorEq, Int.reduceLE, Int.reduceLT, Int.reduceAdd, Int.reduceSub, Int.reduceNeg, Int.reduceToNat, Int.reduceBEq, retV, resL, resV, sealV, sealC, sealAll, Tryz.f41]
theorem c_sameA (a : AtomD) : Pure Tryz.prog 39 [a.av, a.av] (bv true) := by
  refine pure_of_awp Tryz.func39 rfl rfl (by simp [Tryz.f39]) ?_; simp only [go_sem, ↓reduceIte, Nat.reduceEqDiff, Nat.reduceAdd, Nat.reduceLeDiff, Nat.reduceBEq, Nat.reduceMul, reduceCtorEq, Int.reduceLE, Int.reduceLT, Int.reduceAdd, Int.reduceSub, Int.reduceNeg, Int.reduceToNat, Int.reduceBEq]
  repeat' (first | refine awp_seq ?_ | refine awp_block ?_ | refine awp_round ?_ | refine awp_text rfl ?_ | refine awp_any rfl mix (by kernel_rfl) ?_ | (refine RunTo.unguard rfl rfl (fun hg => ?_) (fun hg => ?_) <;> ((try simp only [Bool.not_true, Bool.not_false, Bool.not_eq_true', Bool.not_eq_false', Bool.not_eq_eq_eq_not] at hg); (first | (cases hg) | (simp only [hg]) | skip))) | ((first | refine RunTo.plain rfl ?_ | refine RunTo.skipped rfl ?_ | refine RunTo.call (c_bits3 a.f) Tryz.func41 rfl rfl rfl rfl rfl rfl rfl rfl ?_); simp only [go_sem, ↓reduceIte, Nat.reduceEqDiff, Nat.reduceAdd, Nat.reduceLeDiff, Nat.reduceBEq, Nat.reduceMul, reduceCtorEq, Int.reduceLE, Int.reduceLT, Int.reduceAdd, Int.reduceSub, Int.reduceNeg, Int.reduceToNat, Int.reduceBEq, AtomD.av]) | ((first | refine RunTo.nil ⟨by kernel_rfl, ?_⟩ | refine RunTo.nil ?_ | refine awp_skip ?_ | refine awp_exit ?_); simp only [go_sem, ↓reduceIte, Nat.reduceEqDiff, Nat.reduceAdd, Nat.reduceLeDiff, Nat.reduceBEq, Nat.reduceMul, reduceCtorEq, Int.reduceLE, Int.reduceLT, Int.reduceAdd, Int.reduceSub, Int.reduceNeg, Int.reduceToNat, Int.reduceBEq, AtomD.av]) | (refine awp_cond' rfl (of_decide_eq_true rfl) (fun hc => ?_) (fun hc => ?_) <;> ((try simp only [Bool.not_true, Bool.not_false, Bool.not_eq_true', Bool.not_eq_false', Bool.not_eq_eq_eq_not] at hc); (first | (cases hc) | (simp only [hc]) | skip))))
  all_goals
    (first | refine awp_ret ?_ | skip); refine ⟨(by first | exact .inl rfl | exact .inr rfl | exact .inr trivial | trivial), ?_⟩; simp only [go_sem, ↓reduceIte, Nat.reduceEqDiff, Nat.reduceAdd, Nat.reduceLeDiff, Nat.reduceBEq, Nat.reduceMul, reduceCtorEq, Int.reduceLE, Int.reduceLT, Int.reduceAdd, Int.reduceSub, Int.reduceNeg, Int.reduceToNat, Int.reduceBEq, retV, resL, resV, sealV, sealC, sealAll, Tryz.f39]
  all_goals trace_state
theorem c_same1 (a : AtomD) : Pure Tryz.prog 12 [(atomX a).av, (atomX a).av] (bv true) := by
  refine pure_of_awp Tryz.func12 rfl rfl (by simp [Tryz.f12]) ?_; simp only [go_sem, ↓reduceIte, Nat.reduceEqDiff, Nat.reduceAdd, Nat.reduceLeDiff, Nat.reduceBEq, Nat.reduceMul, reduceCtorEq, Int.reduceLE, Int.reduceLT, Int.reduceAdd, Int.reduceSub, Int.reduceNeg, Int.reduceToNat, Int.reduceBEq]
  repeat' (first | refine awp_seq ?_ | refine awp_block ?_ | refine awp_round ?_ | refine awp_text rfl ?_ | refine awp_any rfl mix (by kernel_rfl) ?_ | (refine RunTo.unguard rfl rfl (fun hg => ?_) (fun hg => ?_) <;> ((try simp only [Bool.not_true, Bool.not_false, Bool.not_eq_true', Bool.not_eq_false', Bool.not_eq_eq_eq_not] at hg); (first | (cases hg) | (simp only [hg]) | skip))) | ((first | refine RunTo.plain rfl ?_ | refine RunTo.skipped rfl ?_ | refine RunTo.call (c_sameA a) Tryz.func39 rfl rfl rfl rfl rfl rfl rfl rfl ?_); simp only [go_sem, ↓reduceIte, Nat.reduceEqDiff, Nat.reduceAdd, Nat.reduceLeDiff, Nat.reduceBEq, Nat.reduceMul, reduceCtorEq, Int.reduceLE, Int.reduceLT, Int.reduceAdd, Int.reduceSub, Int.reduceNeg, Int.reduceToNat, Int.reduceBEq, VX.av]) | ((first | refine RunTo.nil ⟨by kernel_rfl, ?_⟩ | refine RunTo.nil ?_ | refine awp_skip ?_ | refine awp_exit ?_); simp only [go_sem, ↓reduceIte, Nat.reduceEqDiff, Nat.reduceAdd, Nat.reduceLeDiff, Nat.reduceBEq, Nat.reduceMul, reduceCtorEq, Int.reduceLE, Int.reduceLT, Int.reduceAdd, Int.reduceSub, Int.reduceNeg, Int.reduceToNat, Int.reduceBEq, VX.av]) | (refine awp_cond' rfl (of_decide_eq_true rfl) (fun hc => ?_) (fun hc => ?_) <;> ((try simp only [Bool.not_true, Bool.not_false, Bool.not_eq_true', Bool.not_eq_false', Bool.not_eq_eq_eq_not] at hc); (first | (cases hc) | (simp only [hc]) | skip))))
  all_goals try (refine awp_rounds 1 ?_)
  repeat' (first | refine awp_seq ?_ | refine awp_block ?_ | refine awp_round ?_ | refine awp_text rfl ?_ | refine awp_any rfl mix (by kernel_rfl) ?_ | (refine RunTo.unguard rfl rfl (fun hg => ?_) (fun hg => ?_) <;> ((try simp only [Bool.not_true, Bool.not_false, Bool.not_eq_true', Bool.not_eq_false', Bool.not_eq_eq_eq_not] at hg); (first | (cases hg) | (simp only [hg]) | skip))) | ((first | refine RunTo.plain rfl ?_ | refine RunTo.skipped rfl ?_); simp only [go_sem, ↓reduceIte, Nat.reduceEqDiff, Nat.reduceAdd, Nat.reduceLeDiff, Nat.reduceBEq, Nat.reduceMul, reduceCtorEq, Int.reduceLE, Int.reduceLT, Int.reduceAdd, Int.reduceSub, Int.reduceNeg, Int.reduceToNat, Int.reduceBEq, VX.av]) | ((first | refine RunTo.nil ⟨by kernel_rfl, ?_⟩ | refine RunTo.nil ?_ | refine awp_skip ?_ | refine awp_exit ?_); simp only [go_sem, ↓reduceIte, Nat.reduceEqDiff, Nat.reduceAdd, Nat.reduceLeDiff, Nat.reduceBEq, Nat.reduceMul, reduceCtorEq, Int.reduceLE, Int.reduceLT, Int.reduceAdd, Int.reduceSub, Int.reduceNeg, Int.reduceToNat, Int.reduceBEq, VX.av]) | (refine awp_cond' rfl (of_decide_eq_true rfl) (fun hc => ?_) (fun hc => ?_) <;> ((try simp only [Bool.not_true, Bool.not_false, Bool.not_eq_true', Bool.not_eq_false', Bool.not_eq_eq_eq_not] at hc); (first | (cases hc) | (simp only [hc]) | skip))))
  all_goals
    (first | refine awp_ret ?_ | skip); refine ⟨(by first | exact .inl rfl | exact .inr rfl | exact .inr trivial | trivial), ?_⟩; simp only [go_sem, ↓reduceIte, Nat.reduceEqDiff, Nat.reduceAdd, Nat.reduceLeDiff, Nat.reduceBEq, Nat.reduceMul, reduceCtorEq, Int.reduceLE, Int.reduceLT, Int.reduceAdd, Int.reduceSub, Int.reduceNeg, Int.reduceToNat, Int.reduceBEq, retV, resL, resV, sealV, sealC, sealAll, Tryz.f12]
  all_goals trace_state
def toldA (n : Int) : AtomD := if n = 2 then ⟨0, 0, 0, eE⟩ else ⟨1, if n == 1 then 1 else 0, 0, eE⟩
theorem told_atom (n : Int) : toldX n = atomX (toldA n) := by
  unfold toldX toldA
  split <;> rfl
def kA (i : Nat) : AtomD := if i = 0 then ⟨0, 0, 0, eE⟩ else if i = 1 then ⟨1, 0, 0, eE⟩ else ⟨1, 1, 0, eE⟩
abbrev kX (i : Nat) : VX := atomX (kA i)
def tN (i : Nat) : Int := if i = 0 then 2 else if i = 1 then 0 else 1
theorem kX_truth (i : Nat) : truthX (kX i) = tN i := by
  unfold truthX tN kX kA atomX
  by_cases h0 : i = 0
  · rw [if_pos h0, if_pos h0]; rfl
  · rw [if_neg h0, if_neg h0]
    by_cases h1 : i = 1
    · rw [if_pos h1, if_pos h1]; rfl
    · rw [if_neg h1, if_neg h1]; rfl
theorem kX_good (i : Nat) : goodV (kX i).v := by
  have key : ∀ a : AtomD, a = ⟨0, 0, 0, eE⟩ ∨ a = ⟨1, 0, 0, eE⟩ ∨ a = ⟨1, 1, 0, eE⟩ → goodV (atomX a).v := fun a h => by
    rcases h with h | h | h <;> subst h <;> exact ⟨by decide +kernel, by decide, by show i64B _; unfold i64B; decide⟩
  refine key _ ?_
  unfold kA
  (repeat' split) <;> simp
theorem kX_lit (i : Nat) : litK (kX i).v = 1 ∨ litK (kX i).v = 2 := by
  unfold litK VX.v kX kA
  (repeat' split) <;> simp_all
theorem kX_k (i : Nat) : (kX i).a.k ≠ 6 := by
  unfold kX kA
  (repeat' split) <;> decide
def L3 (x y : VX) (op : Int) : List TX := [litX x, litX y, opX op]
def L4 (x y : VX) : List TX := [litX x, litX y, opX 6, opX 4]
def L5 (x y : VX) : List TX := [litX x, opX 4, litX y, opX 4, opX 7]
abbrev kindOK (ts : List TX) : Prop := (kindV [] (ts.map TX.t)).2 = 0
theorem kind3 (i j : Nat) (op : Int) (h : op = 6 ∨ op = 7) : kindOK (L3 (kX i) (kX j) op) := by
  show (kindV [] [litT (kX i).v, litT (kX j).v, opT op]).2 = 0
  unfold kindV
  rw [if_pos (right3 (kX_good i) (kX_good j) (by omega) (by omega))]
  rcases h with h | h <;> subst h <;> rcases kX_lit i with a | a <;> rcases kX_lit j with b | b <;> simp [kindL, knownB, shapeK, ofK, okK, a, b]
theorem right_lits {ts : List TermD} (h : ∀ t ∈ ts, (∃ i, t = litT (kX i).v) ∨ (∃ n, t = opT n ∧ 4 ≤ n ∧ n ≤ 15)) : ∀ t ∈ ts, rightQ (padT t) = true := fun t ht => by
  rcases h t ht with ⟨i, rfl⟩ | ⟨n, rfl, h1, h2⟩
  · have g := kX_good i
    exact lit_right _ g.1 g.2.1 g.2.2
  · exact op_right n h1 h2
theorem kind4 (i j : Nat) : kindOK (L4 (kX i) (kX j)) := by
  show (kindV [] [litT (kX i).v, litT (kX j).v, opT 6, opT 4]).2 = 0
  have hr : rightV [litT (kX i).v, litT (kX j).v, opT 6, opT 4] = true := right_of (d := 3) rfl (by decide) (by decide) (right_lits (fun t ht => by
    simp only [List.mem_cons, List.not_mem_nil, or_false] at ht
    rcases ht with rfl | rfl | rfl | rfl
    · exact .inl ⟨i, rfl⟩
    · exact .inl ⟨j, rfl⟩
    · exact .inr ⟨6, rfl, by decide, by decide⟩
    · exact .inr ⟨4, rfl, by decide, by decide⟩))
  unfold kindV
  rw [if_pos hr]
  rcases kX_lit i with a | a <;> rcases kX_lit j with b | b <;> simp [kindL, knownB, shapeK, ofK, okK, a, b]
theorem kind5 (i j : Nat) : kindOK (L5 (kX i) (kX j)) := by
  show (kindV [] [litT (kX i).v, opT 4, litT (kX j).v, opT 4, opT 7]).2 = 0
  have hr : rightV [litT (kX i).v, opT 4, litT (kX j).v, opT 4, opT 7] = true := right_of (d := 3) rfl (by decide) (by decide) (right_lits (fun t ht => by
    simp only [List.mem_cons, List.not_mem_nil, or_false] at ht
    rcases ht with rfl | rfl | rfl | rfl | rfl
    · exact .inl ⟨i, rfl⟩
    · exact .inr ⟨4, rfl, by decide, by decide⟩
    · exact .inl ⟨j, rfl⟩
    · exact .inr ⟨4, rfl, by decide, by decide⟩
    · exact .inr ⟨7, rfl, by decide, by decide⟩))
  unfold kindV
  rw [if_pos hr]
  rcases kX_lit i with a | a <;> rcases kX_lit j with b | b <;> simp [kindL, knownB, shapeK, ofK, okK, a, b]
theorem kind1 : kindOK [litX (kX 2)] := by
  show (kindV [] [litT (kX 2).v]).2 = 0
  have hr : rightV [litT (kX 2).v] = true := right_of (d := 1) rfl (by decide) (by decide) (right_lits (fun t ht => by
    simp only [List.mem_cons, List.not_mem_nil, or_false] at ht
    subst ht
    exact .inl ⟨2, rfl⟩))
  unfold kindV
  rw [if_pos hr]
  rfl
theorem ev3 (i j : Nat) (op w : Int) (h : op = 6 ∧ w = 0 ∨ op = 7 ∧ w = 1) : evalX twoX (L3 (kX i) (kX j) op) = (atomX (toldA (firstX (tN i) (tN j) w)), 0) := by
  have e := eval_two twoX (kX i) (kX j) op (by omega) (by omega) (kind3 i j op (by omega))
  rw [show L3 (kX i) (kX j) op = [litX (kX i), litX (kX j), opX op] from rfl, e]
  rcases h with ⟨h, h'⟩ | ⟨h, h'⟩ <;> subst h <;> subst h' <;> simp [twoX, told_atom, kX_truth]
theorem told_truth (n : Int) (h : n = 0 ∨ n = 1 ∨ n = 2) : truthX (atomX (toldA n)) = n := by
  rcases h with h | h | h <;> subst h <;> rfl
theorem tN_cases (i : Nat) : tN i = 0 ∨ tN i = 1 ∨ tN i = 2 := by unfold tN; (repeat' split) <;> simp
theorem turns (a b : Int) (ha : a = 0 ∨ a = 1 ∨ a = 2) (hb : b = 0 ∨ b = 1 ∨ b = 2) : notX (firstX a b 0) = firstX (notX a) (notX b) 1 ∧ (firstX a b 0 = firstX b a 0) ∧ (firstX a b 1 = firstX b a 1) ∧ (firstX a b 0 = 0 ∨ firstX a b 0 = 1 ∨ firstX a b 0 = 2) := by
  rcases ha with h | h | h <;> rcases hb with h' | h' | h' <;> subst h <;> subst h' <;> decide
theorem not_cases (a : Int) : notX a = 0 ∨ notX a = 1 ∨ notX a = 2 := by unfold notX; (repeat' split) <;> simp
theorem ev4 (i j : Nat) : evalX twoX (L4 (kX i) (kX j)) = (atomX (toldA (notX (firstX (tN i) (tN j) 0))), 0) := by
  unfold evalX
  rw [if_pos (kind4 i j)]
  have t := (turns (tN i) (tN j) (tN_cases i) (tN_cases j)).2.2.2
  have tt := told_truth _ t
  unfold L4
  rw [evalL_cons, if_pos rfl, evalL_cons, if_pos rfl, evalL_cons, if_neg (by show ¬ (6 : Int) = 1; decide), if_neg (by show ¬ (6 : Int) = 4; decide), if_neg (by show ¬ (6 : Int) = 5; decide)]
  have e : twoX (opX 6).op (kX i) (kX j) = (atomX (toldA (firstX (tN i) (tN j) 0)), 0) := by simp [twoX, told_atom, kX_truth]
  simp only [List.nil_append, List.cons_append, List.dropLast_concat, List.getLastD_concat, List.dropLast, List.getLastD, List.getLast]
  rw [e, if_pos rfl, evalL_cons, if_neg (by show ¬ (4 : Int) = 1; decide), if_pos rfl]
  simp only [List.nil_append, List.cons_append, List.dropLast, List.getLastD, List.getLast, evalL, tt, told_atom]
theorem ev5 (i j : Nat) : evalX twoX (L5 (kX i) (kX j)) = (atomX (toldA (firstX (notX (tN i)) (notX (tN j)) 1)), 0) := by
  unfold evalX
  rw [if_pos (kind5 i j)]
  have t1 := told_truth _ (not_cases (tN i))
  have t2 := told_truth _ (not_cases (tN j))
  unfold L5
  rw [evalL_cons, if_pos rfl, evalL_cons, if_neg (by show ¬ (4 : Int) = 1; decide), if_pos rfl, evalL_cons, if_pos rfl, evalL_cons, if_neg (by show ¬ (4 : Int) = 1; decide), if_pos rfl, evalL_cons, if_neg (by show ¬ (7 : Int) = 1; decide), if_neg (by show ¬ (7 : Int) = 4; decide), if_neg (by show ¬ (7 : Int) = 5; decide)]
  simp only [List.nil_append, List.cons_append, List.dropLast, List.getLastD, List.getLast, kX_truth, told_atom]
  have e : twoX (opX 7).op (atomX (toldA (notX (tN i)))) (atomX (toldA (notX (tN j)))) = (atomX (toldA (firstX (notX (tN i)) (notX (tN j)) 1)), 0) := by simp [twoX, told_atom, t1, t2]
  rw [e, if_pos rfl]
  rfl
theorem ev1 : evalX twoX [litX (kX 2)] = (kX 2, 0) := by
  unfold evalX
  rw [if_pos kind1]
  rfl
theorem c_evL (ts : List TX) (r : VX × Int) (hl : ts.length ≤ 10) (h : ∀ t ∈ ts, (∃ i, t = litX (kX i)) ∨ t = opX 4 ∨ t = opX 6 ∨ t = opX 7) (hr : evalX twoX ts = r) : Pure Tryz.prog 10 [.dat (.lst 8 (ts.map TX.row)), .lit (.map none)] (tupX r) := by
  rw [← hr]
  refine c_Eval twoX ts (by omega) (fun t ht => ?_) (fun t ht _ => ?_) (fun t ht => ?_) (fun t ht h5 a b => ?_)
  · rcases h t ht with ⟨i, rfl⟩ | rfl | rfl | rfl <;> exact small_lit _ _
  · rcases h t ht with ⟨i, rfl⟩ | rfl | rfl | rfl
    · have g := kX_good i
      exact okT_lit _ (kX_k i) g.2.2 g.2.1
    all_goals exact okT_op _ (by decide)
  · rcases h t ht with ⟨i, rfl⟩ | rfl | rfl | rfl
    · exact ⟨by show (1 : Int) ≠ 2; decide, by show (1 : Int) ≠ 3; decide⟩
    all_goals exact ⟨by decide, by decide⟩
  · rcases h t ht with ⟨i, rfl⟩ | rfl | rfl | rfl
    · exact absurd (show (1 : Int) ≤ 5 by decide) h5
    · exact absurd (show (4 : Int) ≤ 5 by decide) h5
    · exact c_two6 a b
    · exact c_two7 a b
end Go.Proofs.YtfeacmadnbajfaaGreatDoor.AM
namespace Go.Proofs.YtfeacmadnbajfaaGreatDoor.AM
open Go.RowKit
set_option linter.unusedSimpArgs false
set_option linter.unusedVariables false
set_option maxRecDepth 10000
set_option maxHeartbeats 0
theorem mod3 (a : Int) : ∃ i : Nat, i < 3 ∧ (IntKind.i64.wrap (a.tmod 3 + 3)).tmod 3 = (i : Int) := by
  have h1 := Int.tmod_lt_of_pos a (show (0 : Int) < 3 by decide)
  have h2 : -3 < a.tmod 3 := by
    rcases Int.le_total 0 a with h | h
    · have := Int.tmod_nonneg 3 h; omega
    · have e := Int.neg_tmod (a := -a) (b := 3)
      have h3 := Int.tmod_lt_of_pos (-a) (show (0 : Int) < 3 by decide)
      have h4 := Int.tmod_nonneg 3 (show 0 ≤ -a by omega)
      rw [Int.neg_neg] at e
      omega
  rw [IntWalk.i64_in _ (by omega)]
  have h3 := Int.tmod_lt_of_pos (a.tmod 3 + 3) (show (0 : Int) < 3 by decide)
  have h4 := Int.tmod_nonneg 3 (show 0 ≤ a.tmod 3 + 3 by omega)
  exact ⟨((a.tmod 3 + 3).tmod 3).toNat, by omega, by omega⟩
theorem kinds_at (i : Nat) (h : i < 3) : [[Dat.lit (.int .i64 0), Dat.lit (.int .i64 0), Dat.lit (.float .f64 0), Dat.lit (.string { data := #[] }), Dat.lit (.slice none 0 0)],
    [Dat.lit (.int .i64 1), Dat.lit (.int .i64 0), Dat.lit (.float .f64 0), Dat.lit (.string { data := #[] }), Dat.lit (.slice none 0 0)],
    [Dat.lit (.int .i64 1), Dat.lit (.int .i64 1), Dat.lit (.float .f64 0), Dat.lit (.string { data := #[] }), Dat.lit (.slice none 0 0)]][i]? = some [di (kA i).k, di (kA i).n, df (kA i).f, ds' (kA i).s, nilD] := by
  match i, h with
  | 0, _ => rfl
  | 1, _ => rfl
  | 2, _ => rfl
theorem c_law22t (a b : Int) : Pure Tryz.prog 4 [iv a, iv b] (bv true) := by
  obtain ⟨i, hi, ei⟩ := mod3 a
  obtain ⟨j, hj, ej⟩ := mod3 b
  obtain ⟨t1, t2, t3, _⟩ := turns (tN i) (tN j) (tN_cases i) (tN_cases j)
  have k4 := c_evL (L4 (kX i) (kX j)) _ (by simp [L4, L5]) (fun t ht => by
    simp only [L4, List.mem_cons, List.not_mem_nil, or_false] at ht
    rcases ht with rfl | rfl | rfl | rfl <;> first | exact .inl ⟨_, rfl⟩ | simp) (ev4 i j)
  have k5 := c_evL (L5 (kX i) (kX j)) _ (by simp [L4, L5]) (fun t ht => by
    simp only [L5, List.mem_cons, List.not_mem_nil, or_false] at ht
    rcases ht with rfl | rfl | rfl | rfl | rfl <;> first | exact .inl ⟨_, rfl⟩ | simp) (ev5 i j)
  have m3 : ∀ (x y : Nat) (op : Int), op = 6 ∨ op = 7 → ∀ t ∈ L3 (kX x) (kX y) op, (∃ i, t = litX (kX i)) ∨ t = opX 4 ∨ t = opX 6 ∨ t = opX 7 := fun x y op h t ht => by
    simp only [L3, List.mem_cons, List.not_mem_nil, or_false] at ht
    rcases h with h | h <;> subst h <;> rcases ht with rfl | rfl | rfl <;> first | exact .inl ⟨_, rfl⟩ | simp
  have p1 := c_evL (L3 (kX i) (kX j) 6) _ (by simp [L3]) (m3 _ _ _ (.inl rfl)) (ev3 i j 6 0 (.inl ⟨rfl, rfl⟩))
  have p2 := c_evL (L3 (kX j) (kX i) 6) _ (by simp [L3]) (m3 _ _ _ (.inl rfl)) (ev3 j i 6 0 (.inl ⟨rfl, rfl⟩))
  have p3 := c_evL (L3 (kX i) (kX j) 7) _ (by simp [L3]) (m3 _ _ _ (.inr rfl)) (ev3 i j 7 1 (.inr ⟨rfl, rfl⟩))
  have p4 := c_evL (L3 (kX j) (kX i) 7) _ (by simp [L3]) (m3 _ _ _ (.inr rfl)) (ev3 j i 7 1 (.inr ⟨rfl, rfl⟩))
  rw [← t1] at k5
  rw [← t2] at p2
  rw [← t3] at p4
  generalize toldA (notX (firstX (tN i) (tN j) 0)) = A1 at *
  generalize toldA (firstX (tN i) (tN j) 0) = A2 at *
  generalize toldA (firstX (tN i) (tN j) 1) = A3 at *
  have h1 := c_Holds twoX [litX (kX 2)] (by simp) (by
    have := c_evL [litX (kX 2)] _ (by simp) (fun t ht => by simp at ht; exact .inl ⟨2, ht⟩) ev1
    rw [ev1]; exact this)
  have h2 : holdsX twoX [litX (kX 2)] = (true, 0) := by
    unfold holdsX
    rw [ev1]
    rfl
  rw [h2] at h1
  clear t1 t2 t3 m3 h2
  have hli : ((i : Int) < 3) = True := eq_true (by omega)
  have hlj : ((j : Int) < 3) = True := eq_true (by omega)
  have ri := kinds_at i hi
  have rj := kinds_at j hj
  refine pure_of_awp Tryz.func4 rfl rfl (by simp [Tryz.f4]) ?_; simp only [go_sem, ↓reduceIte, Nat.reduceEqDiff, Nat.reduceAdd, Nat.reduceLeDiff, Nat.reduceBEq, Nat.reduceMul, reduceCtorEq, Int.reduceLE, Int.reduceLT, Int.reduceAdd, Int.reduceSub, Int.reduceNeg, Int.reduceToNat, Int.reduceBEq]
  repeat' (first | refine awp_seq ?_ | refine awp_block ?_ | refine awp_round ?_ | refine awp_text rfl ?_ | refine awp_any rfl mix (by kernel_rfl) ?_ | (refine RunTo.unguard rfl rfl (fun hg => ?_) (fun hg => ?_) <;> ((try simp only [Bool.not_true, Bool.not_false, Bool.not_eq_true', Bool.not_eq_false', Bool.not_eq_eq_eq_not] at hg); (first | (cases hg) | (simp only [hg]) | skip))) | ((first | refine RunTo.plain rfl ?_ | refine RunTo.skipped rfl ?_ | refine RunTo.call (c_lit (kX i)) Tryz.func9 rfl rfl rfl rfl rfl rfl rfl rfl ?_ | refine RunTo.call (c_lit (kX j)) Tryz.func9 rfl rfl rfl rfl rfl rfl rfl rfl ?_ | refine RunTo.call (c_lit (kX 2)) Tryz.func9 rfl rfl rfl rfl rfl rfl rfl rfl ?_ | refine RunTo.call (c_same1 A1) Tryz.func12 rfl rfl rfl rfl rfl rfl rfl rfl ?_ | refine RunTo.call (c_same1 A2) Tryz.func12 rfl rfl rfl rfl rfl rfl rfl rfl ?_ | refine RunTo.call (c_same1 A3) Tryz.func12 rfl rfl rfl rfl rfl rfl rfl rfl ?_); simp only [go_sem, ↓reduceIte, Nat.reduceEqDiff, Nat.reduceAdd, Nat.reduceLeDiff, Nat.reduceBEq, Nat.reduceMul, reduceCtorEq, Int.reduceLE, Int.reduceLT, Int.reduceAdd, Int.reduceSub, Int.reduceNeg, Int.reduceToNat, Int.reduceBEq, List.size_toArray, ei, ej, hli, hlj, ri, rj]) | (refine RunTo.lentE (k4) Tryz.func10 rfl rfl rfl rfl rfl rfl ?_; simp only [go_sem, ↓reduceIte, Nat.reduceEqDiff, Nat.reduceAdd, Nat.reduceLeDiff, Nat.reduceBEq, Nat.reduceMul, reduceCtorEq, Int.reduceLE, Int.reduceLT, Int.reduceAdd, Int.reduceSub, Int.reduceNeg, Int.reduceToNat, Int.reduceBEq, List.size_toArray, ei, ej, hli, hlj, ri, rj, Option.some.injEq, List.cons.injEq]; (repeat' refine And.intro rfl ?_); with_reducible refine RunTo.this ?_) | (refine RunTo.lentE (k5) Tryz.func10 rfl rfl rfl rfl rfl rfl ?_; simp only [go_sem, ↓reduceIte, Nat.reduceEqDiff, Nat.reduceAdd, Nat.reduceLeDiff, Nat.reduceBEq, Nat.reduceMul, reduceCtorEq, Int.reduceLE, Int.reduceLT, Int.reduceAdd, Int.reduceSub, Int.reduceNeg, Int.reduceToNat, Int.reduceBEq, List.size_toArray, ei, ej, hli, hlj, ri, rj, Option.some.injEq, List.cons.injEq]; (repeat' refine And.intro rfl ?_); with_reducible refine RunTo.this ?_) | (refine RunTo.lentE (p1) Tryz.func10 rfl rfl rfl rfl rfl rfl ?_; simp only [go_sem, ↓reduceIte, Nat.reduceEqDiff, Nat.reduceAdd, Nat.reduceLeDiff, Nat.reduceBEq, Nat.reduceMul, reduceCtorEq, Int.reduceLE, Int.reduceLT, Int.reduceAdd, Int.reduceSub, Int.reduceNeg, Int.reduceToNat, Int.reduceBEq, List.size_toArray, ei, ej, hli, hlj, ri, rj, Option.some.injEq, List.cons.injEq]; (repeat' refine And.intro rfl ?_); with_reducible refine RunTo.this ?_) | (refine RunTo.lentE (p2) Tryz.func10 rfl rfl rfl rfl rfl rfl ?_; simp only [go_sem, ↓reduceIte, Nat.reduceEqDiff, Nat.reduceAdd, Nat.reduceLeDiff, Nat.reduceBEq, Nat.reduceMul, reduceCtorEq, Int.reduceLE, Int.reduceLT, Int.reduceAdd, Int.reduceSub, Int.reduceNeg, Int.reduceToNat, Int.reduceBEq, List.size_toArray, ei, ej, hli, hlj, ri, rj, Option.some.injEq, List.cons.injEq]; (repeat' refine And.intro rfl ?_); with_reducible refine RunTo.this ?_) | (refine RunTo.lentE (p3) Tryz.func10 rfl rfl rfl rfl rfl rfl ?_; simp only [go_sem, ↓reduceIte, Nat.reduceEqDiff, Nat.reduceAdd, Nat.reduceLeDiff, Nat.reduceBEq, Nat.reduceMul, reduceCtorEq, Int.reduceLE, Int.reduceLT, Int.reduceAdd, Int.reduceSub, Int.reduceNeg, Int.reduceToNat, Int.reduceBEq, List.size_toArray, ei, ej, hli, hlj, ri, rj, Option.some.injEq, List.cons.injEq]; (repeat' refine And.intro rfl ?_); with_reducible refine RunTo.this ?_) | (refine RunTo.lentE (p4) Tryz.func10 rfl rfl rfl rfl rfl rfl ?_; simp only [go_sem, ↓reduceIte, Nat.reduceEqDiff, Nat.reduceAdd, Nat.reduceLeDiff, Nat.reduceBEq, Nat.reduceMul, reduceCtorEq, Int.reduceLE, Int.reduceLT, Int.reduceAdd, Int.reduceSub, Int.reduceNeg, Int.reduceToNat, Int.reduceBEq, List.size_toArray, ei, ej, hli, hlj, ri, rj, Option.some.injEq, List.cons.injEq]; (repeat' refine And.intro rfl ?_); with_reducible refine RunTo.this ?_) | (refine RunTo.lentE (h1) Tryz.func11 rfl rfl rfl rfl rfl rfl ?_; simp only [go_sem, ↓reduceIte, Nat.reduceEqDiff, Nat.reduceAdd, Nat.reduceLeDiff, Nat.reduceBEq, Nat.reduceMul, reduceCtorEq, Int.reduceLE, Int.reduceLT, Int.reduceAdd, Int.reduceSub, Int.reduceNeg, Int.reduceToNat, Int.reduceBEq, List.size_toArray, ei, ej, hli, hlj, ri, rj, Option.some.injEq, List.cons.injEq]; (repeat' refine And.intro rfl ?_); with_reducible refine RunTo.this ?_) | ((first | refine RunTo.nil ⟨by kernel_rfl, ?_⟩ | refine RunTo.nil ?_ | refine awp_skip ?_ | refine awp_exit ?_); simp only [go_sem, ↓reduceIte, Nat.reduceEqDiff, Nat.reduceAdd, Nat.reduceLeDiff, Nat.reduceBEq, Nat.reduceMul, reduceCtorEq, Int.reduceLE, Int.reduceLT, Int.reduceAdd, Int.reduceSub, Int.reduceNeg, Int.reduceToNat, Int.reduceBEq, List.size_toArray, ei, ej, hli, hlj, ri, rj]) | (refine awp_cond' rfl (of_decide_eq_true rfl) (fun hc => ?_) (fun hc => ?_) <;> ((try simp only [Bool.not_true, Bool.not_false, Bool.not_eq_true', Bool.not_eq_false', Bool.not_eq_eq_eq_not] at hc); (first | (cases hc) | (simp only [hc]) | skip))))
  all_goals
    (first | refine awp_ret ?_ | skip); refine ⟨(by first | exact .inl rfl | exact .inr rfl | exact .inr trivial | trivial), ?_⟩; simp only [go_sem, ↓reduceIte, Nat.reduceEqDiff, Nat.reduceAdd, Nat.reduceLeDiff, Nat.reduceBEq, Nat.reduceMul, reduceCtorEq, Int.reduceLE, Int.reduceLT, Int.reduceAdd, Int.reduceSub, Int.reduceNeg, Int.reduceToNat, Int.reduceBEq, retV, resL, resV, sealV, sealC, sealAll, Tryz.f4]
end Go.Proofs.YtfeacmadnbajfaaGreatDoor.AM
