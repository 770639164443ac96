/- Part 8 of the proof: words, contracts, plain laws. Laid by a program of this session (wip/tool/shake.py): what is needed of own and printed texts, in order. -/
import Derived.Test.YtinpnidokpjfhaaGreatDoorZa0
import Derived.Test.YtinpnidokpjfhaaGreatDoorZa1
import Derived.Test.YtinpnidokpjfhaaGreatDoorZa2
import Derived.Test.YtinpnidokpjfhaaGreatDoorZa3
import Derived.Test.YtinpnidokpjfhaaGreatDoorZa5
import Derived.Test.YtinpnidokpjfhaaGreatDoorZa7
import Derived.Laws.FloatBits
import Derived.Laws.Externs
import Derived.Calls
import Derived.Lib.ItoaNum
import Derived.Orders
import Derived.Tactics
import Derived.Below
import Derived.Laws.Rows
import Derived.Laws.World
import Derived.Laws.CopyRow
import Derived.Lib.FrozenHead
import Derived.Deep.AppendSrc
import Derived.Deep.Upon
import Derived.Laws.BytesArg
import Derived.IntWalk
import Derived.LoopN
import Derived.Scope
import Derived.Test.YtinpnidokpjfhaaGreatDoorProg
import Derived.KernelRfl
import Derived.MapKept
import Derived.RegionTactic
import Derived.Lib.AppendIntMem
import Derived.Lib.Join
import Derived.Shelf.Strings.Builder1
import Derived.Shelf.Strings.Builder2
import Derived.Shelf.Strings.OnBuilder
import Derived.Shelf.Small.Wraps
import Derived.Shelf.Strings.BuilderF
import Derived.Shelf.Strings.BuilderK
import Derived.Shelf.Strings.Builder2Cap
import Derived.Shelf.Strconv.Itoa0
import Derived.Shelf.Strconv.Itoa1
import Derived.Shelf.LaysM
import Derived.Shelf.Strconv.Itoa2
import Derived.Shelf.Strconv.Itoa3
import Derived.Shelf.Strings.BuilderCap
import Derived.Shelf.Slices.Turned
import Derived.Lib.ItoaMem
import Derived.Lib.ItoaLen
import Derived.Test.YtinpnidokpjfhaaGreatDoorZa6
namespace Go.Proofs.YtinpnidokpjfhaaGreatDoor.FL
open Go.RowKit Ieee
set_option linter.unusedVariables false
set_option linter.unusedSimpArgs false
theorem fOrd_eq (a b : Nat) : fOrd a b = if nan a = true ∨ nan b = true then none else some (compare (sv a) (sv b)) := by
  unfold fOrd Format.order
  by_cases ha : INF < rung a
  · rw [if_pos (.inl (by unfold nan; exact decide_eq_true ha)), read_nan a ha]
    rfl
  by_cases hb : INF < rung b
  · rw [if_pos (.inr (by unfold nan; exact decide_eq_true hb)), read_nan b hb]
    cases double.read a <;> rfl
  rw [if_neg (by unfold nan; simp [ha, hb])]
  rcases Nat.lt_or_ge (rung a) INF with h1 | h1
  · obtain ⟨m, e, hr, hv⟩ := read_number a h1
    rcases Nat.lt_or_ge (rung b) INF with h2 | h2
    · obtain ⟨n, f, hr', hv'⟩ := read_number b h2
      rw [hr, hr', order_numbers, hv, hv']
      rfl
    · have h2' : rung b = INF := by omega
      rw [hr, read_inf b h2']
      have hlt := mval_lt (show rung a < rung b by omega)
      show some (if neg b then Ordering.gt else .lt) = _
      unfold sv sgn
      cases neg a <;> cases neg b <;> simp only [Bool.false_eq_true, if_true, if_false] <;> first | rw [Int.compare_eq_lt.2 (by omega)] | rw [Int.compare_eq_gt.2 (by omega)]
  · have h1' : rung a = INF := by omega
    rcases Nat.lt_or_ge (rung b) INF with h2 | h2
    · obtain ⟨n, f, hr', hv'⟩ := read_number b h2
      rw [hr', read_inf a h1']
      have hlt := mval_lt (show rung b < rung a by omega)
      show some (if neg a then Ordering.lt else .gt) = _
      unfold sv sgn
      cases neg a <;> cases neg b <;> simp only [Bool.false_eq_true, if_true, if_false] <;> first | rw [Int.compare_eq_lt.2 (by omega)] | rw [Int.compare_eq_gt.2 (by omega)]
    · have h2' : rung b = INF := by omega
      rw [read_inf a h1', read_inf b h2']
      have hpos := mval_pos (r := INF) (by decide)
      show some (compare (neg b).toNat (neg a).toNat) = _
      unfold sv sgn
      rw [h1', h2']
      cases neg a <;> cases neg b <;> simp only [Bool.false_eq_true, if_true, if_false] <;> first | (rw [Int.compare_eq_eq.2 rfl]; rfl) | (rw [Int.compare_eq_gt.2 (by omega)]; rfl) | (rw [Int.compare_eq_lt.2 (by omega)]; rfl)
theorem ord_cases (x y : Int) : (compare x y = .lt ∧ x < y) ∨ (compare x y = .eq ∧ x = y) ∨ (compare x y = .gt ∧ y < x) := by
  rcases Int.lt_trichotomy x y with h | h | h
  · exact .inl ⟨Int.compare_eq_lt.2 h, h⟩
  · exact .inr (.inl ⟨Int.compare_eq_eq.2 h, h⟩)
  · exact .inr (.inr ⟨Int.compare_eq_gt.2 h, h⟩)
section
variable (a b : Nat)
theorem fLt_eq : fLt a b = (!nan a && !nan b && decide (sv a < sv b)) := by
  unfold fLt
  rw [fOrd_eq]
  cases nan a <;> cases nan b <;> simp
  rcases ord_cases (sv a) (sv b) with ⟨h, h'⟩ | ⟨h, h'⟩ | ⟨h, h'⟩ <;> rw [h] <;> simp <;> omega
theorem fGt_eq : fGt a b = (!nan a && !nan b && decide (sv b < sv a)) := by
  unfold fGt
  rw [fOrd_eq]
  cases nan a <;> cases nan b <;> simp
  rcases ord_cases (sv a) (sv b) with ⟨h, h'⟩ | ⟨h, h'⟩ | ⟨h, h'⟩ <;> rw [h] <;> simp <;> omega
theorem fEq_eq : fEq a b = (!nan a && !nan b && decide (sv a = sv b)) := by
  unfold fEq
  rw [fOrd_eq]
  cases nan a <;> cases nan b <;> simp
  rcases ord_cases (sv a) (sv b) with ⟨h, h'⟩ | ⟨h, h'⟩ | ⟨h, h'⟩ <;> rw [h] <;> simp <;> omega
theorem fNe_eq : fNe a b = !(!nan a && !nan b && decide (sv a = sv b)) := by
  rw [← fEq_eq]
  unfold fNe fEq
  cases fOrd a b <;> rfl
end
theorem mod_sign (b : Nat) (h : b < S63) : rung b = b ∧ neg b = false := by
  have : S63 = 9223372036854775808 := rfl
  unfold rung neg
  rw [Nat.mod_eq_of_lt h, Nat.div_eq_of_lt h]
  exact ⟨rfl, rfl⟩
theorem mod_sign2 (b : Nat) (h : b < S63) : rung (S63 + b) = b ∧ neg (S63 + b) = true := by
  unfold rung neg
  rw [Nat.add_mod_left, Nat.mod_eq_of_lt h, Nat.add_div_left _ (by decide), Nat.div_eq_of_lt h]
  exact ⟨rfl, rfl⟩
theorem sv_pos (b : Nat) (h : b < S63) : sv b = mval b := by
  unfold sv sgn
  rw [(mod_sign b h).1, (mod_sign b h).2]
  rfl
theorem word_cases (b : Nat) (h : b < 18446744073709551616) : (b < S63 ∧ neg b = false ∧ b = rung b) ∨ (S63 ≤ b ∧ neg b = true ∧ b = S63 + rung b) := by
  have hs : S63 = 9223372036854775808 := rfl
  rcases Nat.lt_or_ge b S63 with h1 | h1
  · exact .inl ⟨h1, (mod_sign b h1).2, (mod_sign b h1).1.symm⟩
  · obtain ⟨c, rfl⟩ : ∃ c, b = S63 + c := ⟨b - S63, by omega⟩
    have hc : c < S63 := by omega
    exact .inr ⟨h1, (mod_sign2 c hc).2, by rw [(mod_sign2 c hc).1]⟩
def pl : Nat := 1074
def ONE : Nat := 2 ^ pl
theorem nan_lit3 : nan 9218868437227405311 = false := by decide
theorem nan_lit0 : nan 0 = false := by decide
theorem sv_zero : sv 0 = 0 := by rw [sv_pos 0 (by decide), mval_zero]; rfl
theorem sv_max : sv 9218868437227405311 = mval (INF - 1) := sv_pos _ (by decide)
def fl (b : Nat) : Nat := mval (rung b) / ONE
def classN (b : Nat) : Int := if nan b then 0 else if rung b = INF then (if neg b then 1 else 5) else if rung b = 0 then 3 else if neg b then 2 else 4
def canonN (b : Nat) : Nat := if nan b then 9221120237041090560 else if rung b = 0 then 0 else b
theorem S63_pow : S63 = 2 ^ 63 := rfl
theorem neg_bit (b : Nat) : neg b = b.testBit 63 := by
  rw [Nat.testBit_eq_decide_div_mod_eq]
  unfold neg
  rw [S63_pow]
  cases h : decide (b / 2 ^ 63 % 2 = 1) <;> simp_all
theorem rung_fNeg (b : Nat) : rung (fNeg b) = rung b := by
  unfold rung fNeg
  rw [S63_pow, show (9223372036854775808 : Nat) = 2 ^ 63 from rfl, Nat.xor_mod_two_pow, Nat.mod_self, Nat.xor_zero]
theorem neg_fNeg (b : Nat) : neg (fNeg b) = !neg b := by
  rw [neg_bit, neg_bit]
  unfold fNeg
  rw [Nat.testBit_xor, show (9223372036854775808 : Nat) = 2 ^ 63 from rfl, Nat.testBit_two_pow_self]
  simp
theorem nan_fNeg (b : Nat) : nan (fNeg b) = nan b := by unfold nan; rw [rung_fNeg]
theorem max_lt (b : Nat) (h : nan b = false) : decide ((mval (INF - 1) : Int) < sv b) = decide (rung b = INF ∧ neg b = false) := by
  have h1 : ¬ INF < rung b := by simpa [nan] using h
  have hi : (0 : Nat) < INF := by decide
  have hp : 0 < mval (INF - 1) := mval_pos (by decide)
  unfold sv sgn
  cases hn : neg b
  · simp only [Bool.false_eq_true, if_false, and_true]
    rw [decide_eq_decide]
    constructor
    · intro h2
      rcases Nat.lt_or_ge (rung b) INF with h3 | h3
      · exfalso
        rcases Nat.lt_or_ge (rung b) (INF - 1) with h4 | h4
        · have := mval_lt h4; omega
        · rw [show rung b = INF - 1 by omega] at h2; omega
      · omega
    · intro h2
      have := mval_lt (show INF - 1 < INF by omega)
      rw [h2]
      omega
  · simp only [if_true, Bool.true_eq_false, and_false, decide_false, decide_eq_false_iff_not]
    omega
theorem sv_lt_zero (b : Nat) : decide (sv b < 0) = (neg b && decide (rung b ≠ 0)) := by
  unfold sv sgn
  cases neg b
  · simp only [Bool.false_eq_true, if_false, Bool.false_and, decide_eq_false_iff_not]; omega
  · simp only [if_true, Bool.true_and, decide_eq_decide]
    constructor
    · intro h e
      rw [e, mval_zero] at h
      omega
    · intro h
      have := mval_pos (show 0 < rung b by omega)
      omega
theorem sv_gt_zero (b : Nat) : decide (0 < sv b) = (!neg b && decide (rung b ≠ 0)) := by
  unfold sv sgn
  cases neg b
  · simp only [Bool.false_eq_true, if_false, Bool.not_false, Bool.true_and, decide_eq_decide]
    constructor
    · intro h e
      rw [e, mval_zero] at h
      omega
    · intro h
      have := mval_pos (show 0 < rung b by omega)
      omega
  · simp only [if_true, Bool.not_true, Bool.false_and, decide_eq_false_iff_not]; omega
theorem cls_eq (b : Nat) : AM.clsF b = classN b := by
  have e1 : (AM.ordF b b != some .eq) = fNe b b := rfl
  have e2 : (AM.ordF (Op.negFloat .f64 b) 9218868437227405311 == some .gt) = fGt (fNeg b) 9218868437227405311 := rfl
  have e3 : (AM.ordF b 9218868437227405311 == some .gt) = fGt b 9218868437227405311 := rfl
  have e4 : (AM.ordF b 0 == some .lt) = fLt b 0 := rfl
  have e5 : (AM.ordF b 0 == some .gt) = fGt b 0 := rfl
  unfold AM.clsF classN
  rw [e1, e2, e3, e4, e5, fNe_eq]
  cases hn : nan b
  · simp only [Bool.not_false, Bool.and_self, decide_true, Bool.not_true, Bool.false_eq_true, if_false]
    rw [fGt_eq, fGt_eq, fLt_eq, fGt_eq, nan_fNeg, hn, nan_lit3, nan_lit0, sv_max, sv_zero]
    simp only [Bool.not_false, Bool.true_and]
    rw [max_lt _ (by rw [nan_fNeg]; exact hn), max_lt _ hn, sv_lt_zero, sv_gt_zero, rung_fNeg, neg_fNeg]
    cases neg b <;> simp <;> (repeat' split) <;> simp_all
  · simp
theorem can_eq (b : Nat) : AM.canF b = canonN b := by
  unfold AM.canF canonN
  rw [cls_eq]
  have hi : INF ≠ 0 := by decide
  unfold classN
  cases nan b
  · simp only [Bool.false_eq_true, if_false]
    by_cases h1 : rung b = INF
    · rw [if_pos h1, if_neg (show ¬ rung b = 0 by omega)]
      cases neg b <;> simp
    · rw [if_neg h1]
      by_cases h2 : rung b = 0
      · rw [if_pos h2, if_pos h2]; simp
      · rw [if_neg h2, if_neg h2]
        cases neg b <;> simp
  · simp
theorem S63_lit : S63 = 9223372036854775808 := rfl
theorem INF_lit : INF = 9218868437227405312 := rfl
theorem nan_iff (b : Nat) : nan b = true ↔ INF < rung b := by unfold nan; simp
theorem canon_ref (b : Nat) (hb : b < 18446744073709551616) : canonN b = if 9218868437227405312 < b % 9223372036854775808 then 9221120237041090560 else if b = 9223372036854775808 then 0 else b := by
  unfold canonN
  have er : b % 9223372036854775808 = rung b := rfl
  rw [er]
  have hI := INF_lit
  have hS := S63_lit
  by_cases h : INF < rung b
  · rw [if_pos ((nan_iff b).2 h), if_pos (by omega)]
  · rw [if_neg (fun h2 => h ((nan_iff b).1 h2)), if_neg (show ¬ 9218868437227405312 < rung b by omega)]
    rcases word_cases b hb with ⟨h1, _, h3⟩ | ⟨h1, _, h3⟩
    · rw [if_neg (show ¬ b = 9223372036854775808 by omega)]
      by_cases h4 : rung b = 0
      · rw [if_pos h4]; omega
      · rw [if_neg h4]
    · by_cases h4 : rung b = 0
      · rw [if_pos h4, if_pos (by omega)]
      · rw [if_neg h4, if_neg (by omega)]
end Go.Proofs.YtinpnidokpjfhaaGreatDoor.FL
namespace Go.Proofs.YtinpnidokpjfhaaGreatDoor.AM
open Go.RowKit
set_option linter.unusedSimpArgs false
set_option linter.unusedVariables false
set_option maxRecDepth 10000
set_option maxHeartbeats 0
abbrev uv (n : Nat) : AV := .lit (.int .u64 n)
theorem can_ref (b : Nat) (hb : b < 18446744073709551616) : canF b = if 9218868437227405312 < b % 9223372036854775808 then 9221120237041090560 else if b = 9223372036854775808 then 0 else b := by
  rw [FL.can_eq, FL.canon_ref b hb]
theorem tmod63 (u : Nat) : (u : Int).tmod 9223372036854775808 = ((u % 9223372036854775808 : Nat) : Int) := by rw [Int.tmod_eq_emod_of_nonneg (Int.natCast_nonneg _)]; omega
theorem c_rCanon (u : Nat) (hu : u < 18446744073709551616) : Pure Tryz.prog 104 [uv u] (uv (canF u)) := by
  rw [can_ref u hu]
  refine pure_of_awp Tryz.func104 rfl rfl (by simp [Tryz.f104]) ?_; simp only [go_sem, ↓reduceIte, Nat.reduceEqDiff, Nat.reduceAdd, Nat.reduceLeDiff, Nat.reduceBEq, Nat.reduceMul, reduceCtorEq, Int.reduceLE, Int.reduceLT, Int.reduceAdd, Int.reduceSub, Int.reduceNeg, Int.reduceToNat, Int.reduceBEq]
  repeat' (first | refine awp_seq ?_ | refine awp_block ?_ | refine awp_round ?_ | refine awp_scope ?_ | refine awp_text rfl ?_ | refine awp_any rfl mix (by kernel_rfl) ?_ | (refine RunTo.unguard rfl rfl (fun hg => ?_) (fun hg => ?_) <;> ((try simp only [Bool.not_true, Bool.not_false, Bool.not_eq_true', Bool.not_eq_false', Bool.not_eq_eq_eq_not] at hg); (first | (cases hg) | (simp only [hg]) | skip))) | ((first | refine RunTo.plain rfl ?_ | refine RunTo.skipped rfl ?_); simp only [go_sem, ↓reduceIte, Nat.reduceEqDiff, Nat.reduceAdd, Nat.reduceLeDiff, Nat.reduceBEq, Nat.reduceMul, reduceCtorEq, Int.reduceLE, Int.reduceLT, Int.reduceAdd, Int.reduceSub, Int.reduceNeg, Int.reduceToNat, Int.reduceBEq, tmod63]) | ((first | refine RunTo.nilA (by kernel_rfl) ?_ | refine RunTo.nilT ?_ | refine awp_skip ?_ | refine awp_exit ?_ | refine awp_label ?_); simp only [go_sem, ↓reduceIte, Nat.reduceEqDiff, Nat.reduceAdd, Nat.reduceLeDiff, Nat.reduceBEq, Nat.reduceMul, reduceCtorEq, Int.reduceLE, Int.reduceLT, Int.reduceAdd, Int.reduceSub, Int.reduceNeg, Int.reduceToNat, Int.reduceBEq, tmod63]) | (refine awp_cond' rfl (of_decide_eq_true rfl) (fun hc => ?_) (fun hc => ?_) <;> ((try simp only [Bool.not_true, Bool.not_false, Bool.not_eq_true', Bool.not_eq_false', Bool.not_eq_eq_eq_not] at hc); (first | (cases hc) | (simp only [hc]) | skip))))
  all_goals
    (first | refine awp_ret ?_ | skip); refine ⟨(by first | exact .inl rfl | exact .inr rfl | exact .inr trivial | trivial), ?_⟩; simp only [go_sem, ↓reduceIte, Nat.reduceEqDiff, Nat.reduceAdd, Nat.reduceLeDiff, Nat.reduceBEq, Nat.reduceMul, reduceCtorEq, Int.reduceLE, Int.reduceLT, Int.reduceAdd, Int.reduceSub, Int.reduceNeg, Int.reduceToNat, Int.reduceBEq, retV, resL, resV, sealV, sealC, sealAll, Tryz.f104]
    (try simp only [decide_eq_true_eq, decide_eq_false_iff_not, beq_iff_eq, bne_iff_ne, ne_eq, beq_eq_false_iff_ne, bne_eq_false_iff_eq, Bool.and_eq_true, Bool.or_eq_true, Bool.or_eq_false_iff, Bool.and_eq_false_iff] at *)
    (repeat' split) <;> first | rfl | (exfalso; omega)
theorem c_rBits (f : Nat) : Pure Tryz.prog 86 [fv f] (uv f) := by
  refine pure_of_awp Tryz.func86 rfl rfl (by simp [Tryz.f86]) ?_; simp only [go_sem, ↓reduceIte, Nat.reduceEqDiff, Nat.reduceAdd, Nat.reduceLeDiff, Nat.reduceBEq, Nat.reduceMul, reduceCtorEq, Int.reduceLE, Int.reduceLT, Int.reduceAdd, Int.reduceSub, Int.reduceNeg, Int.reduceToNat, Int.reduceBEq]
  repeat' (first | refine awp_seq ?_ | refine awp_block ?_ | refine awp_round ?_ | refine awp_scope ?_ | refine awp_text rfl ?_ | refine awp_any rfl mix (by kernel_rfl) ?_ | (refine RunTo.unguard rfl rfl (fun hg => ?_) (fun hg => ?_) <;> ((try simp only [Bool.not_true, Bool.not_false, Bool.not_eq_true', Bool.not_eq_false', Bool.not_eq_eq_eq_not] at hg); (first | (cases hg) | (simp only [hg]) | skip))) | ((first | refine RunTo.plain rfl ?_ | refine RunTo.skipped rfl ?_ | refine RunTo.ext (x_bits f) rfl rfl rfl rfl ?_); simp only [go_sem, ↓reduceIte, Nat.reduceEqDiff, Nat.reduceAdd, Nat.reduceLeDiff, Nat.reduceBEq, Nat.reduceMul, reduceCtorEq, Int.reduceLE, Int.reduceLT, Int.reduceAdd, Int.reduceSub, Int.reduceNeg, Int.reduceToNat, Int.reduceBEq]) | ((first | refine RunTo.nilA (by kernel_rfl) ?_ | refine RunTo.nilT ?_ | refine awp_skip ?_ | refine awp_exit ?_ | refine awp_label ?_); simp only [go_sem, ↓reduceIte, Nat.reduceEqDiff, Nat.reduceAdd, Nat.reduceLeDiff, Nat.reduceBEq, Nat.reduceMul, reduceCtorEq, Int.reduceLE, Int.reduceLT, Int.reduceAdd, Int.reduceSub, Int.reduceNeg, Int.reduceToNat, Int.reduceBEq]) | (refine awp_cond' rfl (of_decide_eq_true rfl) (fun hc => ?_) (fun hc => ?_) <;> ((try simp only [Bool.not_true, Bool.not_false, Bool.not_eq_true', Bool.not_eq_false', Bool.not_eq_eq_eq_not] at hc); (first | (cases hc) | (simp only [hc]) | skip))))
  all_goals
    (first | refine awp_ret ?_ | skip); refine ⟨(by first | exact .inl rfl | exact .inr rfl | exact .inr trivial | trivial), ?_⟩; simp only [go_sem, ↓reduceIte, Nat.reduceEqDiff, Nat.reduceAdd, Nat.reduceLeDiff, Nat.reduceBEq, Nat.reduceMul, reduceCtorEq, Int.reduceLE, Int.reduceLT, Int.reduceAdd, Int.reduceSub, Int.reduceNeg, Int.reduceToNat, Int.reduceBEq, retV, resL, resV, sealV, sealC, sealAll, Tryz.f86]
theorem size_nil {s : ByteArray} (h : s.toList = eE.toList) : s.size = 0 := by
  have := congrArg List.length h
  rw [ByteArray.toList_eq, ByteArray.toList_eq] at this
  simpa [eE] using this
theorem c_rAtom (a : AtomD) (hf : a.f < 18446744073709551616) : Pure Tryz.prog 85 [a.av] (bv (validA a)) := by
  obtain ⟨k, n, f, s⟩ := a
  have hf' : f < 18446744073709551616 := hf
  have hk : k < 0 ∨ 5 < k ∨ k = 0 ∨ k = 1 ∨ k = 2 ∨ k = 3 ∨ k = 4 ∨ k = 5 := by omega
  rcases hk with hk | hk | hk | hk | hk | hk | hk | hk
  · have hd : decide (k < 0) = true := decide_eq_true hk
    refine pure_of_awp Tryz.func85 rfl rfl (by simp [Tryz.f85]) ?_; simp only [go_sem, ↓reduceIte, Nat.reduceEqDiff, Nat.reduceAdd, Nat.reduceLeDiff, Nat.reduceBEq, Nat.reduceMul, reduceCtorEq, Int.reduceLE, Int.reduceLT, Int.reduceAdd, Int.reduceSub, Int.reduceNeg, Int.reduceToNat, Int.reduceBEq]
    repeat' (first | refine awp_seq ?_ | refine awp_block ?_ | refine awp_round ?_ | refine awp_scope ?_ | refine awp_text rfl ?_ | refine awp_any rfl mix (by kernel_rfl) ?_ | (refine RunTo.unguard rfl rfl (fun hg => ?_) (fun hg => ?_) <;> ((try simp only [Bool.not_true, Bool.not_false, Bool.not_eq_true', Bool.not_eq_false', Bool.not_eq_eq_eq_not] at hg); (first | (cases hg) | (simp only [hg]) | skip))) | ((first | refine RunTo.plain rfl ?_ | refine RunTo.skipped rfl ?_); simp only [go_sem, ↓reduceIte, Nat.reduceEqDiff, Nat.reduceAdd, Nat.reduceLeDiff, Nat.reduceBEq, Nat.reduceMul, reduceCtorEq, Int.reduceLE, Int.reduceLT, Int.reduceAdd, Int.reduceSub, Int.reduceNeg, Int.reduceToNat, Int.reduceBEq, AtomD.av, hd]) | ((first | refine RunTo.nilA (by kernel_rfl) ?_ | refine RunTo.nilT ?_ | refine awp_skip ?_ | refine awp_exit ?_ | refine awp_label ?_); simp only [go_sem, ↓reduceIte, Nat.reduceEqDiff, Nat.reduceAdd, Nat.reduceLeDiff, Nat.reduceBEq, Nat.reduceMul, reduceCtorEq, Int.reduceLE, Int.reduceLT, Int.reduceAdd, Int.reduceSub, Int.reduceNeg, Int.reduceToNat, Int.reduceBEq, AtomD.av, hd]) | (refine awp_cond' rfl (of_decide_eq_true rfl) (fun hc => ?_) (fun hc => ?_) <;> ((try simp only [Bool.not_true, Bool.not_false, Bool.not_eq_true', Bool.not_eq_false', Bool.not_eq_eq_eq_not] at hc); (first | (cases hc) | (simp only [hc]) | skip))))
    all_goals
      (first | refine awp_ret ?_ | skip); refine ⟨(by first | exact .inl rfl | exact .inr rfl | exact .inr trivial | trivial), ?_⟩; simp only [go_sem, ↓reduceIte, Nat.reduceEqDiff, Nat.reduceAdd, Nat.reduceLeDiff, Nat.reduceBEq, Nat.reduceMul, reduceCtorEq, Int.reduceLE, Int.reduceLT, Int.reduceAdd, Int.reduceSub, Int.reduceNeg, Int.reduceToNat, Int.reduceBEq, retV, resL, resV, sealV, sealC, sealAll, Tryz.f85]
      have h : validA ⟨k, n, f, s⟩ = false := by unfold validA; simp only []; rw [if_neg (by omega), if_neg (by omega), if_neg (by omega), if_neg (by omega), if_neg (by omega)]
      rw [h]
  · have hd : decide (k < 0) = false := decide_eq_false (by omega)
    have hd2 : decide (5 < k) = true := decide_eq_true hk
    refine pure_of_awp Tryz.func85 rfl rfl (by simp [Tryz.f85]) ?_; simp only [go_sem, ↓reduceIte, Nat.reduceEqDiff, Nat.reduceAdd, Nat.reduceLeDiff, Nat.reduceBEq, Nat.reduceMul, reduceCtorEq, Int.reduceLE, Int.reduceLT, Int.reduceAdd, Int.reduceSub, Int.reduceNeg, Int.reduceToNat, Int.reduceBEq]
    repeat' (first | refine awp_seq ?_ | refine awp_block ?_ | refine awp_round ?_ | refine awp_scope ?_ | refine awp_text rfl ?_ | refine awp_any rfl mix (by kernel_rfl) ?_ | (refine RunTo.unguard rfl rfl (fun hg => ?_) (fun hg => ?_) <;> ((try simp only [Bool.not_true, Bool.not_false, Bool.not_eq_true', Bool.not_eq_false', Bool.not_eq_eq_eq_not] at hg); (first | (cases hg) | (simp only [hg]) | skip))) | ((first | refine RunTo.plain rfl ?_ | refine RunTo.skipped rfl ?_); simp only [go_sem, ↓reduceIte, Nat.reduceEqDiff, Nat.reduceAdd, Nat.reduceLeDiff, Nat.reduceBEq, Nat.reduceMul, reduceCtorEq, Int.reduceLE, Int.reduceLT, Int.reduceAdd, Int.reduceSub, Int.reduceNeg, Int.reduceToNat, Int.reduceBEq, AtomD.av, hd, hd2]) | ((first | refine RunTo.nilA (by kernel_rfl) ?_ | refine RunTo.nilT ?_ | refine awp_skip ?_ | refine awp_exit ?_ | refine awp_label ?_); simp only [go_sem, ↓reduceIte, Nat.reduceEqDiff, Nat.reduceAdd, Nat.reduceLeDiff, Nat.reduceBEq, Nat.reduceMul, reduceCtorEq, Int.reduceLE, Int.reduceLT, Int.reduceAdd, Int.reduceSub, Int.reduceNeg, Int.reduceToNat, Int.reduceBEq, AtomD.av, hd, hd2]) | (refine awp_cond' rfl (of_decide_eq_true rfl) (fun hc => ?_) (fun hc => ?_) <;> ((try simp only [Bool.not_true, Bool.not_false, Bool.not_eq_true', Bool.not_eq_false', Bool.not_eq_eq_eq_not] at hc); (first | (cases hc) | (simp only [hc]) | skip))))
    all_goals
      (first | refine awp_ret ?_ | skip); refine ⟨(by first | exact .inl rfl | exact .inr rfl | exact .inr trivial | trivial), ?_⟩; simp only [go_sem, ↓reduceIte, Nat.reduceEqDiff, Nat.reduceAdd, Nat.reduceLeDiff, Nat.reduceBEq, Nat.reduceMul, reduceCtorEq, Int.reduceLE, Int.reduceLT, Int.reduceAdd, Int.reduceSub, Int.reduceNeg, Int.reduceToNat, Int.reduceBEq, retV, resL, resV, sealV, sealC, sealAll, Tryz.f85]
      have h : validA ⟨k, n, f, s⟩ = false := by unfold validA; simp only []; rw [if_neg (by omega), if_neg (by omega), if_neg (by omega), if_neg (by omega), if_neg (by omega)]
      rw [h]
  all_goals
    subst hk
    by_cases hs : s.toList = eE.toList
    · have hz : (s.toList == eE.toList) = true := by rw [hs]; exact beq_self_eq_true _
      have hsz : (s.size : Int) ≤ 256 := by rw [size_nil hs]; decide
      clear hs
      refine pure_of_awp Tryz.func85 rfl rfl (by simp [Tryz.f85]) ?_; simp only [go_sem, ↓reduceIte, Nat.reduceEqDiff, Nat.reduceAdd, Nat.reduceLeDiff, Nat.reduceBEq, Nat.reduceMul, reduceCtorEq, Int.reduceLE, Int.reduceLT, Int.reduceAdd, Int.reduceSub, Int.reduceNeg, Int.reduceToNat, Int.reduceBEq]
      repeat' (first | refine awp_seq ?_ | refine awp_block ?_ | refine awp_round ?_ | refine awp_scope ?_ | refine awp_text rfl ?_ | refine awp_any rfl mix (by kernel_rfl) ?_ | (refine RunTo.unguard rfl rfl (fun hg => ?_) (fun hg => ?_) <;> ((try simp only [Bool.not_true, Bool.not_false, Bool.not_eq_true', Bool.not_eq_false', Bool.not_eq_eq_eq_not] at hg); (first | (cases hg) | (simp only [hg]) | skip))) | ((first | refine RunTo.plain rfl ?_ | refine RunTo.skipped rfl ?_ | refine RunTo.call (c_rBits f) Tryz.func86 rfl rfl rfl rfl rfl rfl rfl rfl ?_ | refine RunTo.call (c_rCanon f hf') Tryz.func104 rfl rfl rfl rfl rfl rfl rfl rfl ?_); simp only [go_sem, ↓reduceIte, Nat.reduceEqDiff, Nat.reduceAdd, Nat.reduceLeDiff, Nat.reduceBEq, Nat.reduceMul, reduceCtorEq, Int.reduceLE, Int.reduceLT, Int.reduceAdd, Int.reduceSub, Int.reduceNeg, Int.reduceToNat, Int.reduceBEq, AtomD.av, bne_self_eq_false, hz, bne]) | ((first | refine RunTo.nilA (by kernel_rfl) ?_ | refine RunTo.nilT ?_ | refine awp_skip ?_ | refine awp_exit ?_ | refine awp_label ?_); simp only [go_sem, ↓reduceIte, Nat.reduceEqDiff, Nat.reduceAdd, Nat.reduceLeDiff, Nat.reduceBEq, Nat.reduceMul, reduceCtorEq, Int.reduceLE, Int.reduceLT, Int.reduceAdd, Int.reduceSub, Int.reduceNeg, Int.reduceToNat, Int.reduceBEq, AtomD.av, bne_self_eq_false, hz, bne]) | (refine awp_cond' rfl (of_decide_eq_true rfl) (fun hc => ?_) (fun hc => ?_) <;> ((try simp only [Bool.not_true, Bool.not_false, Bool.not_eq_true', Bool.not_eq_false', Bool.not_eq_eq_eq_not] at hc); (first | (cases hc) | (simp only [hc]) | skip))))
      all_goals
        (first | refine awp_ret ?_ | skip); refine ⟨(by first | exact .inl rfl | exact .inr rfl | exact .inr trivial | trivial), ?_⟩; simp only [go_sem, ↓reduceIte, Nat.reduceEqDiff, Nat.reduceAdd, Nat.reduceLeDiff, Nat.reduceBEq, Nat.reduceMul, reduceCtorEq, Int.reduceLE, Int.reduceLT, Int.reduceAdd, Int.reduceSub, Int.reduceNeg, Int.reduceToNat, Int.reduceBEq, retV, resL, resV, sealV, sealC, sealAll, Tryz.f85]
        (try simp only [decide_eq_true_eq, decide_eq_false_iff_not, beq_iff_eq, bne_iff_ne, ne_eq, beq_eq_false_iff_ne, bne_eq_false_iff_eq, Bool.and_eq_true, Bool.or_eq_true, Bool.or_eq_false_iff, Bool.and_eq_false_iff] at *)
        unfold validA isA
        simp only [hz]
        first
        | (simp [*]; done)
        | (simp [*]; omega)
        | trace_state
    · have hz : (s.toList == eE.toList) = false := beq_false_of_ne hs
      clear hs
      refine pure_of_awp Tryz.func85 rfl rfl (by simp [Tryz.f85]) ?_; simp only [go_sem, ↓reduceIte, Nat.reduceEqDiff, Nat.reduceAdd, Nat.reduceLeDiff, Nat.reduceBEq, Nat.reduceMul, reduceCtorEq, Int.reduceLE, Int.reduceLT, Int.reduceAdd, Int.reduceSub, Int.reduceNeg, Int.reduceToNat, Int.reduceBEq]
      repeat' (first | refine awp_seq ?_ | refine awp_block ?_ | refine awp_round ?_ | refine awp_scope ?_ | refine awp_text rfl ?_ | refine awp_any rfl mix (by kernel_rfl) ?_ | (refine RunTo.unguard rfl rfl (fun hg => ?_) (fun hg => ?_) <;> ((try simp only [Bool.not_true, Bool.not_false, Bool.not_eq_true', Bool.not_eq_false', Bool.not_eq_eq_eq_not] at hg); (first | (cases hg) | (simp only [hg]) | skip))) | ((first | refine RunTo.plain rfl ?_ | refine RunTo.skipped rfl ?_ | refine RunTo.call (c_rBits f) Tryz.func86 rfl rfl rfl rfl rfl rfl rfl rfl ?_ | refine RunTo.call (c_rCanon f hf') Tryz.func104 rfl rfl rfl rfl rfl rfl rfl rfl ?_); simp only [go_sem, ↓reduceIte, Nat.reduceEqDiff, Nat.reduceAdd, Nat.reduceLeDiff, Nat.reduceBEq, Nat.reduceMul, reduceCtorEq, Int.reduceLE, Int.reduceLT, Int.reduceAdd, Int.reduceSub, Int.reduceNeg, Int.reduceToNat, Int.reduceBEq, AtomD.av, bne_self_eq_false, hz, bne]) | ((first | refine RunTo.nilA (by kernel_rfl) ?_ | refine RunTo.nilT ?_ | refine awp_skip ?_ | refine awp_exit ?_ | refine awp_label ?_); simp only [go_sem, ↓reduceIte, Nat.reduceEqDiff, Nat.reduceAdd, Nat.reduceLeDiff, Nat.reduceBEq, Nat.reduceMul, reduceCtorEq, Int.reduceLE, Int.reduceLT, Int.reduceAdd, Int.reduceSub, Int.reduceNeg, Int.reduceToNat, Int.reduceBEq, AtomD.av, bne_self_eq_false, hz, bne]) | (refine awp_cond' rfl (of_decide_eq_true rfl) (fun hc => ?_) (fun hc => ?_) <;> ((try simp only [Bool.not_true, Bool.not_false, Bool.not_eq_true', Bool.not_eq_false', Bool.not_eq_eq_eq_not] at hc); (first | (cases hc) | (simp only [hc]) | skip))))
      all_goals
        (first | refine awp_ret ?_ | skip); refine ⟨(by first | exact .inl rfl | exact .inr rfl | exact .inr trivial | trivial), ?_⟩; simp only [go_sem, ↓reduceIte, Nat.reduceEqDiff, Nat.reduceAdd, Nat.reduceLeDiff, Nat.reduceBEq, Nat.reduceMul, reduceCtorEq, Int.reduceLE, Int.reduceLT, Int.reduceAdd, Int.reduceSub, Int.reduceNeg, Int.reduceToNat, Int.reduceBEq, retV, resL, resV, sealV, sealC, sealAll, Tryz.f85]
        (try simp only [decide_eq_true_eq, decide_eq_false_iff_not, beq_iff_eq, bne_iff_ne, ne_eq, beq_eq_false_iff_ne, bne_eq_false_iff_eq, Bool.and_eq_true, Bool.or_eq_true, Bool.or_eq_false_iff, Bool.and_eq_false_iff] at *)
        have hz2 : (s.toList == eE.toList) = false := beq_false_of_ne hz
        unfold validA isA
        simp only [hz2]
        first
        | (simp [*]; done)
        | (simp [*]; omega)
        | trace_state
end Go.Proofs.YtinpnidokpjfhaaGreatDoor.AM
namespace Go.Proofs.YtinpnidokpjfhaaGreatDoor.AM
open Go.RowKit
set_option linter.unusedSimpArgs false
set_option linter.unusedVariables false
set_option maxRecDepth 10000
set_option maxHeartbeats 0
abbrev uw (n : Nat) : AV := .lit (.int .u64 n)
def digB : ByteArray := ⟨#[48, 49, 50, 51, 52, 53, 54, 55, 56, 57]⟩
theorem dig_at (m : Nat) (h : m < 10) : digB.extract m (m + 1) = ⟨#[UInt8.ofNat (48 + m)]⟩ := by
  rcases (show m = 0 ∨ m = 1 ∨ m = 2 ∨ m = 3 ∨ m = 4 ∨ m = 5 ∨ m = 6 ∨ m = 7 ∨ m = 8 ∨ m = 9 by omega) with h | h | h | h | h | h | h | h | h | h <;> subst h <;> rfl
theorem tm10 (u : Nat) : (u : Int).tmod 10 = ((u % 10 : Nat) : Int) := by rw [Int.tmod_eq_emod_of_nonneg (Int.natCast_nonneg _)]; omega
theorem td10 (u : Nat) : (u : Int).tdiv 10 = ((u / 10 : Nat) : Int) := by rw [Int.tdiv_eq_ediv_of_nonneg (Int.natCast_nonneg _)]; omega
theorem u64_in (n : Int) (h0 : 0 ≤ n) (h1 : n < 18446744073709551616) : IntKind.u64.wrap n = n := by
  rw [IntKind.wrap_u64]; omega
abbrev SD (u : Nat) (s : ByteArray) (T : Nat) : St := ⟨[(0, uw u), (3, sv s)], [], T⟩
def ID (u0 : Nat) (n : Nat) (st : St) : Prop := ∃ u s T, n = u ∧ s.size * 9 + u ≤ u0 ∧ Lib.decDigits u ++ s.data.toList = Lib.decDigits u0 ∧ st = SD u s T
theorem one_size (x : UInt8) : (⟨#[x]⟩ : ByteArray).size = 1 := rfl
theorem c_rDigits (u0 : Nat) (hu : u0 < 18446744073709551616) : Pure Tryz.prog 87 [uw u0] (sv (bs (Lib.decDigits u0))) := by
  refine pure_of_awp Tryz.func87 rfl rfl (by simp [Tryz.f87]) ?_; simp only [go_sem, ↓reduceIte, Nat.reduceEqDiff, Nat.reduceAdd, Nat.reduceLeDiff, Nat.reduceBEq, Nat.reduceMul, reduceCtorEq, Int.reduceLE, Int.reduceLT, Int.reduceAdd, Int.reduceSub, Int.reduceNeg, Int.reduceToNat, Int.reduceBEq]
  repeat' (first | refine awp_seq ?_ | refine awp_block ?_ | refine awp_round ?_ | refine awp_scope ?_ | refine awp_text rfl ?_ | refine awp_any rfl mix (by kernel_rfl) ?_ | (refine RunTo.unguard rfl rfl (fun hg => ?_) (fun hg => ?_) <;> ((try simp only [Bool.not_true, Bool.not_false, Bool.not_eq_true', Bool.not_eq_false', Bool.not_eq_eq_eq_not] at hg); (first | (cases hg) | (simp only [hg]) | skip))) | ((first | refine RunTo.plain rfl ?_ | refine RunTo.skipped rfl ?_); simp only [go_sem, ↓reduceIte, Nat.reduceEqDiff, Nat.reduceAdd, Nat.reduceLeDiff, Nat.reduceBEq, Nat.reduceMul, reduceCtorEq, Int.reduceLE, Int.reduceLT, Int.reduceAdd, Int.reduceSub, Int.reduceNeg, Int.reduceToNat, Int.reduceBEq]) | ((first | refine RunTo.nilA (by kernel_rfl) ?_ | refine RunTo.nilT ?_ | refine awp_skip ?_ | refine awp_exit ?_ | refine awp_label ?_); simp only [go_sem, ↓reduceIte, Nat.reduceEqDiff, Nat.reduceAdd, Nat.reduceLeDiff, Nat.reduceBEq, Nat.reduceMul, reduceCtorEq, Int.reduceLE, Int.reduceLT, Int.reduceAdd, Int.reduceSub, Int.reduceNeg, Int.reduceToNat, Int.reduceBEq]) | (refine awp_cond' rfl (of_decide_eq_true rfl) (fun hc => ?_) (fun hc => ?_) <;> ((try simp only [Bool.not_true, Bool.not_false, Bool.not_eq_true', Bool.not_eq_false', Bool.not_eq_eq_eq_not] at hc); (first | (cases hc) | (simp only [hc]) | skip))))
  refine awp_loopw (ID u0) u0 (SD u0 eE _) (weak_keep ⟨rfl, rfl, trivial⟩ trivial (Nat.le_refl _)) ⟨u0, eE, _, rfl, by show 0 * 9 + u0 ≤ u0; omega, by simp [eE], rfl⟩ ?_
  rintro n st ⟨u, s, T, rfl, hsz, hd, rfl⟩
  have w1 : IntKind.u64.wrap (((n % 10 : Nat) : Int) + 1) = ((n % 10 + 1 : Nat) : Int) := by rw [u64_in _ (by omega) (by omega)]; omega
  have w2 : IntKind.u64.wrap (((n / 10 : Nat) : Int)) = ((n / 10 : Nat) : Int) := u64_in _ (by omega) (by omega)
  have b1 : (n % 10 + 1 ≤ 10) = True := eq_true (by omega)
  have b3 : (1 + s.size ≤ 9223372036854775807) = True := eq_true (by omega)
  by_cases hlt : 10 ≤ n
  · have hdec : decide ((10 : Int) ≤ (n : Int)) = true := decide_eq_true (by omega)
    have hx := dig_at (n % 10) (by omega)
    unfold digB at hx
    repeat' (first | refine awp_seq ?_ | refine awp_block ?_ | refine awp_round ?_ | refine awp_scope ?_ | refine awp_text rfl ?_ | refine awp_any rfl mix (by kernel_rfl) ?_ | (refine RunTo.unguard rfl rfl (fun hg => ?_) (fun hg => ?_) <;> ((try simp only [Bool.not_true, Bool.not_false, Bool.not_eq_true', Bool.not_eq_false', Bool.not_eq_eq_eq_not] at hg); (first | (cases hg) | (simp only [hg]) | skip))) | ((first | refine RunTo.plain rfl ?_ | refine RunTo.skipped rfl ?_); simp only [go_sem, ↓reduceIte, Nat.reduceEqDiff, Nat.reduceAdd, Nat.reduceLeDiff, Nat.reduceBEq, Nat.reduceMul, reduceCtorEq, Int.reduceLE, Int.reduceLT, Int.reduceAdd, Int.reduceSub, Int.reduceNeg, Int.reduceToNat, Int.reduceBEq, hdec, tm10, td10, w1, w2, Nat.le_succ, b1, hx, one_size, b3, List.size_toArray]) | ((first | refine RunTo.nilA (by kernel_rfl) ?_ | refine RunTo.nilT ?_ | refine awp_skip ?_ | refine awp_exit ?_ | refine awp_label ?_); simp only [go_sem, ↓reduceIte, Nat.reduceEqDiff, Nat.reduceAdd, Nat.reduceLeDiff, Nat.reduceBEq, Nat.reduceMul, reduceCtorEq, Int.reduceLE, Int.reduceLT, Int.reduceAdd, Int.reduceSub, Int.reduceNeg, Int.reduceToNat, Int.reduceBEq, hdec, tm10, td10, w1, w2, Nat.le_succ, b1, hx, one_size, b3, List.size_toArray]) | (refine awp_cond' rfl (of_decide_eq_true rfl) (fun hc => ?_) (fun hc => ?_) <;> ((try simp only [Bool.not_true, Bool.not_false, Bool.not_eq_true', Bool.not_eq_false', Bool.not_eq_eq_eq_not] at hc); (first | (cases hc) | (simp only [hc]) | skip))))
    have hdd : Lib.decDigits n = Lib.decDigits (n / 10) ++ [UInt8.ofNat (48 + n % 10)] := by rw [Lib.decDigits, dif_neg (by omega)]
    exact ⟨n / 10, by omega, SD (n / 10) ((⟨#[UInt8.ofNat (48 + n % 10)]⟩ : ByteArray) ++ s) _, weak_keep ⟨rfl, rfl, trivial⟩ trivial (Nat.le_refl _), n / 10, _, _, rfl, by rw [ByteArray.size_append, one_size]; omega, by rw [← hd, hdd, List.append_assoc, ByteArray.data_append]; simp, rfl⟩
  · have hdec : decide ((10 : Int) ≤ (n : Int)) = false := decide_eq_false (by omega)
    have w3 : IntKind.u64.wrap ((n : Int) + 1) = ((n + 1 : Nat) : Int) := by rw [u64_in _ (by omega) (by omega)]; omega
    have hx := dig_at n (by omega)
    unfold digB at hx
    have b2 : (n + 1 ≤ 10) = True := eq_true (by omega)
    repeat' (first | refine awp_seq ?_ | refine awp_block ?_ | refine awp_round ?_ | refine awp_scope ?_ | refine awp_text rfl ?_ | refine awp_any rfl mix (by kernel_rfl) ?_ | (refine RunTo.unguard rfl rfl (fun hg => ?_) (fun hg => ?_) <;> ((try simp only [Bool.not_true, Bool.not_false, Bool.not_eq_true', Bool.not_eq_false', Bool.not_eq_eq_eq_not] at hg); (first | (cases hg) | (simp only [hg]) | skip))) | ((first | refine RunTo.plain rfl ?_ | refine RunTo.skipped rfl ?_); simp only [go_sem, ↓reduceIte, Nat.reduceEqDiff, Nat.reduceAdd, Nat.reduceLeDiff, Nat.reduceBEq, Nat.reduceMul, reduceCtorEq, Int.reduceLE, Int.reduceLT, Int.reduceAdd, Int.reduceSub, Int.reduceNeg, Int.reduceToNat, Int.reduceBEq, hdec, w3, Nat.le_succ, b2, hx, one_size, b3, List.size_toArray]) | ((first | refine RunTo.nilA (by kernel_rfl) ?_ | refine RunTo.nilT ?_ | refine awp_skip ?_ | refine awp_exit ?_ | refine awp_label ?_); simp only [go_sem, ↓reduceIte, Nat.reduceEqDiff, Nat.reduceAdd, Nat.reduceLeDiff, Nat.reduceBEq, Nat.reduceMul, reduceCtorEq, Int.reduceLE, Int.reduceLT, Int.reduceAdd, Int.reduceSub, Int.reduceNeg, Int.reduceToNat, Int.reduceBEq, hdec, w3, Nat.le_succ, b2, hx, one_size, b3, List.size_toArray]) | (refine awp_cond' rfl (of_decide_eq_true rfl) (fun hc => ?_) (fun hc => ?_) <;> ((try simp only [Bool.not_true, Bool.not_false, Bool.not_eq_true', Bool.not_eq_false', Bool.not_eq_eq_eq_not] at hc); (first | (cases hc) | (simp only [hc]) | skip))))
    all_goals
      (first | refine awp_ret ?_ | skip); refine ⟨(by first | exact .inl rfl | exact .inr rfl | exact .inr trivial | trivial), ?_⟩; simp only [go_sem, ↓reduceIte, Nat.reduceEqDiff, Nat.reduceAdd, Nat.reduceLeDiff, Nat.reduceBEq, Nat.reduceMul, reduceCtorEq, Int.reduceLE, Int.reduceLT, Int.reduceAdd, Int.reduceSub, Int.reduceNeg, Int.reduceToNat, Int.reduceBEq, retV, resL, resV, sealV, sealC, sealAll, Tryz.f87]
      rw [Lib.decDigits_one (by omega)] at hd
      have hb : (⟨#[UInt8.ofNat (48 + n)]⟩ : ByteArray) ++ s = bs (Lib.decDigits u0) := by
        rw [← hd]
        apply ByteArray.ext
        rw [ByteArray.data_append]
        apply Array.ext'
        simp
      rw [hb]
abbrev hexB16 : ByteArray := ⟨#[48, 49, 50, 51, 52, 53, 54, 55, 56, 57, 97, 98, 99, 100, 101, 102]⟩
theorem fdm (u k : Nat) : (u : Int).fdiv (2 ^ min k 64) = ((u / 2 ^ min k 64 : Nat) : Int) := by
  rw [Int.fdiv_eq_ediv_of_nonneg _ (by exact Int.le_of_lt (Int.pow_pos (by decide)))]
  rw [Int.natCast_ediv, Int.natCast_pow]; rfl
theorem u64l (n : Int) (h0 : 0 ≤ n) (h1 : n ≤ 9223372036854775807) : IntKind.u64.wrap n = n := u64_in n h0 (by omega)
theorem w16 (m : Nat) : IntKind.u64.wrap (((m % 16 : Nat) : Int) + 1) = ((m % 16 + 1 : Nat) : Int) := by rw [u64_in _ (by omega) (by omega)]; omega
theorem hex_at (m : Nat) : hexB16.extract (m % 16) (m % 16 + 1) = ⟨#[hexB (m % 16)]⟩ := by
  have h : m % 16 < 16 := Nat.mod_lt _ (by decide)
  generalize m % 16 = m at *
  rcases (show m = 0 ∨ m = 1 ∨ m = 2 ∨ m = 3 ∨ m = 4 ∨ m = 5 ∨ m = 6 ∨ m = 7 ∨ m = 8 ∨ m = 9 ∨ m = 10 ∨ m = 11 ∨ m = 12 ∨ m = 13 ∨ m = 14 ∨ m = 15 by omega) with rfl | rfl | rfl | rfl | rfl | rfl | rfl | rfl | rfl | rfl | rfl | rfl | rfl | rfl | rfl | rfl <;> rfl
theorem hex_join (c : Nat) : ((({ data := #[] } : ByteArray) ++ { data := #[hexB (c / 2 ^ min 60 64 % 16)] } ++ { data := #[hexB (c / 2 ^ min 56 64 % 16)] } ++ { data := #[hexB (c / 2 ^ min 52 64 % 16)] } ++ { data := #[hexB (c / 2 ^ min 48 64 % 16)] } ++ { data := #[hexB (c / 2 ^ min 44 64 % 16)] } ++ { data := #[hexB (c / 2 ^ min 40 64 % 16)] } ++ { data := #[hexB (c / 2 ^ min 36 64 % 16)] } ++ { data := #[hexB (c / 2 ^ min 32 64 % 16)] } ++ { data := #[hexB (c / 2 ^ min 28 64 % 16)] } ++ { data := #[hexB (c / 2 ^ min 24 64 % 16)] } ++ { data := #[hexB (c / 2 ^ min 20 64 % 16)] } ++ { data := #[hexB (c / 2 ^ min 16 64 % 16)] } ++ { data := #[hexB (c / 2 ^ min 12 64 % 16)] } ++ { data := #[hexB (c / 2 ^ min 8 64 % 16)] } ++ { data := #[hexB (c / 2 ^ min 4 64 % 16)] } ++ { data := #[hexB (c / 2 ^ min 0 64 % 16)] })) = strR (hexRows 16 c []) := by
  have key : ∀ n : Nat, UInt8.ofNat (hexD n).toNat = hexB n := fun _ => rfl
  simp only [hexRows, Nat.div_div_eq_div_mul, Nat.reduceMul, Nat.reducePow, Nat.div_one]
  apply ByteArray.ext
  simp only [ByteArray.data_append]
  simp [strR, hexB, unB]
theorem c_rHex (f : Nat) (hf : f < 18446744073709551616) (hc : Pure Tryz.prog 104 [uw f] (uw (canF f))) : Pure Tryz.prog 88 [uw f] (sv (hexS f)) := by
  refine pure_of_awp Tryz.func88 rfl rfl (by simp [Tryz.f88]) ?_; simp only [go_sem, ↓reduceIte, Nat.reduceEqDiff, Nat.reduceAdd, Nat.reduceLeDiff, Nat.reduceBEq, Nat.reduceMul, reduceCtorEq, Int.reduceLE, Int.reduceLT, Int.reduceAdd, Int.reduceSub, Int.reduceNeg, Int.reduceToNat, Int.reduceBEq]
  repeat' (first | refine awp_seq ?_ | refine awp_block ?_ | refine awp_round ?_ | refine awp_scope ?_ | refine awp_text rfl ?_ | refine awp_any rfl mix (by kernel_rfl) ?_ | (refine RunTo.unguard rfl rfl (fun hg => ?_) (fun hg => ?_) <;> ((try simp only [Bool.not_true, Bool.not_false, Bool.not_eq_true', Bool.not_eq_false', Bool.not_eq_eq_eq_not] at hg); (first | (cases hg) | (simp only [hg]) | skip))) | ((first | refine RunTo.plain rfl ?_ | refine RunTo.skipped rfl ?_ | refine RunTo.call (hc) Tryz.func104 rfl rfl rfl rfl rfl rfl rfl rfl ?_); simp only [go_sem, ↓reduceIte, Nat.reduceEqDiff, Nat.reduceAdd, Nat.reduceLeDiff, Nat.reduceBEq, Nat.reduceMul, reduceCtorEq, Int.reduceLE, Int.reduceLT, Int.reduceAdd, Int.reduceSub, Int.reduceNeg, Int.reduceToNat, Int.reduceBEq]) | ((first | refine RunTo.nilA (by kernel_rfl) ?_ | refine RunTo.nilT ?_ | refine awp_skip ?_ | refine awp_exit ?_ | refine awp_label ?_); simp only [go_sem, ↓reduceIte, Nat.reduceEqDiff, Nat.reduceAdd, Nat.reduceLeDiff, Nat.reduceBEq, Nat.reduceMul, reduceCtorEq, Int.reduceLE, Int.reduceLT, Int.reduceAdd, Int.reduceSub, Int.reduceNeg, Int.reduceToNat, Int.reduceBEq]) | (refine awp_cond' rfl (of_decide_eq_true rfl) (fun hc => ?_) (fun hc => ?_) <;> ((try simp only [Bool.not_true, Bool.not_false, Bool.not_eq_true', Bool.not_eq_false', Bool.not_eq_eq_eq_not] at hc); (first | (cases hc) | (simp only [hc]) | skip))))
  refine awp_rounds 17 ?_
  repeat' (first | refine awp_seq ?_ | refine awp_block ?_ | refine awp_round ?_ | refine awp_scope ?_ | refine awp_text rfl ?_ | refine awp_any rfl mix (by kernel_rfl) ?_ | (refine RunTo.unguard rfl rfl (fun hg => ?_) (fun hg => ?_) <;> ((try simp only [Bool.not_true, Bool.not_false, Bool.not_eq_true', Bool.not_eq_false', Bool.not_eq_eq_eq_not] at hg); (first | (cases hg) | (simp only [hg]) | skip))) | ((first | refine RunTo.plain rfl ?_ | refine RunTo.skipped rfl ?_); simp only [go_sem, ↓reduceIte, Nat.reduceEqDiff, Nat.reduceAdd, Nat.reduceLeDiff, Nat.reduceBEq, Nat.reduceMul, reduceCtorEq, Int.reduceLE, Int.reduceLT, Int.reduceAdd, Int.reduceSub, Int.reduceNeg, Int.reduceToNat, Int.reduceBEq, fdm, tm16, Int.reduceMul, u64l, w16, Nat.le_succ, pd1, hex_at, one_size, ByteArray.size_append, List.size_toArray]) | ((first | refine RunTo.nilA (by kernel_rfl) ?_ | refine RunTo.nilT ?_ | refine awp_skip ?_ | refine awp_exit ?_ | refine awp_label ?_); simp only [go_sem, ↓reduceIte, Nat.reduceEqDiff, Nat.reduceAdd, Nat.reduceLeDiff, Nat.reduceBEq, Nat.reduceMul, reduceCtorEq, Int.reduceLE, Int.reduceLT, Int.reduceAdd, Int.reduceSub, Int.reduceNeg, Int.reduceToNat, Int.reduceBEq, fdm, tm16, Int.reduceMul, u64l, w16, Nat.le_succ, pd1, hex_at, one_size, ByteArray.size_append, List.size_toArray]) | (refine awp_cond' rfl (of_decide_eq_true rfl) (fun hc => ?_) (fun hc => ?_) <;> ((try simp only [Bool.not_true, Bool.not_false, Bool.not_eq_true', Bool.not_eq_false', Bool.not_eq_eq_eq_not] at hc); (first | (cases hc) | (simp only [hc]) | skip))))
  all_goals
    (first | refine awp_ret ?_ | skip); refine ⟨(by first | exact .inl rfl | exact .inr rfl | exact .inr trivial | trivial), ?_⟩; simp only [go_sem, ↓reduceIte, Nat.reduceEqDiff, Nat.reduceAdd, Nat.reduceLeDiff, Nat.reduceBEq, Nat.reduceMul, reduceCtorEq, Int.reduceLE, Int.reduceLT, Int.reduceAdd, Int.reduceSub, Int.reduceNeg, Int.reduceToNat, Int.reduceBEq, retV, resL, resV, sealV, sealC, sealAll, Tryz.f88]
    rw [hex_join]; rfl
end Go.Proofs.YtinpnidokpjfhaaGreatDoor.AM
namespace Go.Proofs.YtinpnidokpjfhaaGreatDoor.AM
open Go.RowKit
set_option linter.unusedSimpArgs false
set_option linter.unusedVariables false
set_option maxRecDepth 10000
set_option maxHeartbeats 0
abbrev SR3 (s : ByteArray) (k T e m : Nat) (rows : List (List Dat)) : St := ⟨[(0, sv s), (4, iv k), (3, .slc 100 e 0 m)], [(100, .arr e 1 rows)], T⟩
def IR3 (s : ByteArray) (n : Nat) (st : St) : Prop := ∃ k T e m rows out, k ≤ s.size ∧ n = s.size - k ∧ out = 34 :: (s.data.toList.take k).flatMap escB ∧ m = out.length ∧ rows = brows out ∧ st = SR3 s k T e m rows
theorem td8 (b : UInt8) : IntKind.u8.wrap ((b.toNat : Int).tdiv 16) = ((b.toNat / 16 : Nat) : Int) := by
  have h : ∀ n : Nat, n < 256 → IntKind.u8.wrap ((n : Int).tdiv 16) = ((n / 16 : Nat) : Int) := by decide +kernel
  exact h _ b.toNat_lt
theorem tm8 (b : UInt8) : (b.toNat : Int).tmod 16 = ((b.toNat % 16 : Nat) : Int) := by rw [Int.tmod_eq_emod_of_nonneg (Int.natCast_nonneg _)]; omega
theorem c_rQuoted0 (s : ByteArray) (hs : s.size ≤ 1000000) : Pure Tryz.prog 89 [sv s] (sv (bs (quoteL s.data.toList))) := by
  refine pure_of_awp Tryz.func89 rfl rfl (by simp [Tryz.f89]) ?_; simp only [go_sem, ↓reduceIte, Nat.reduceEqDiff, Nat.reduceAdd, Nat.reduceLeDiff, Nat.reduceBEq, Nat.reduceMul, reduceCtorEq, Int.reduceLE, Int.reduceLT, Int.reduceAdd, Int.reduceSub, Int.reduceNeg, Int.reduceToNat, Int.reduceBEq]
  repeat' (first | refine awp_seq ?_ | refine awp_block ?_ | refine awp_round ?_ | refine awp_scope ?_ | refine awp_text rfl ?_ | refine awp_any rfl mix (by kernel_rfl) ?_ | (refine RunTo.unguard rfl rfl (fun hg => ?_) (fun hg => ?_) <;> ((try simp only [Bool.not_true, Bool.not_false, Bool.not_eq_true', Bool.not_eq_false', Bool.not_eq_eq_eq_not] at hg); (first | (cases hg) | (simp only [hg]) | skip))) | ((first | refine RunTo.plain rfl ?_ | refine RunTo.skipped rfl ?_); simp only [go_sem, ↓reduceIte, Nat.reduceEqDiff, Nat.reduceAdd, Nat.reduceLeDiff, Nat.reduceBEq, Nat.reduceMul, reduceCtorEq, Int.reduceLE, Int.reduceLT, Int.reduceAdd, Int.reduceSub, Int.reduceNeg, Int.reduceToNat, Int.reduceBEq]) | ((first | refine RunTo.nilA (by kernel_rfl) ?_ | refine RunTo.nilT ?_ | refine awp_skip ?_ | refine awp_exit ?_ | refine awp_label ?_); simp only [go_sem, ↓reduceIte, Nat.reduceEqDiff, Nat.reduceAdd, Nat.reduceLeDiff, Nat.reduceBEq, Nat.reduceMul, reduceCtorEq, Int.reduceLE, Int.reduceLT, Int.reduceAdd, Int.reduceSub, Int.reduceNeg, Int.reduceToNat, Int.reduceBEq]) | (refine awp_cond' rfl (of_decide_eq_true rfl) (fun hc => ?_) (fun hc => ?_) <;> ((try simp only [Bool.not_true, Bool.not_false, Bool.not_eq_true', Bool.not_eq_false', Bool.not_eq_eq_eq_not] at hc); (first | (cases hc) | (simp only [hc]) | skip))))
  refine awp_loopw (IR3 s) s.size (SR3 s 0 _ _ _ _) (Weak.trans (weak_ren [(6, 100)] rfl) (weak_keep ⟨rfl, rfl, rfl, trivial⟩ ⟨rfl, trivial⟩ (Nat.le_refl _))) ⟨0, _, _, _, _, _, Nat.zero_le _, rfl, rfl, rfl, rfl, rfl⟩ ?_
  rintro n st ⟨k, T, e, m, rows, out, hk, rfl, ho, rfl, rfl, rfl⟩
  have hlen : out.length ≤ 4000001 := by
    have := flat_len (s.data.toList.take k)
    rw [List.length_take] at this
    rw [ho]
    simp only [List.length_cons]
    omega
  by_cases hlt : k < s.size
  · have hdec := lt_t hlt
    have hb := byte_at s k hlt
    have hwk : IntKind.i64.wrap ((k : Int) + 1) = ((k + 1 : Nat) : Int) := wrap_succ (by omega)
    generalize s[k] = b at *
    have hlb : s.data.toList[k]? = some b := by
      have : s.data[k]? = some b := hb
      rw [Array.getElem?_toList]; exact this
    have hft := flat_take _ _ _ hlb
    have hnx : (34 : UInt8) :: (s.data.toList.take (k + 1)).flatMap escB = out ++ escB b := by rw [hft, ho]; rfl
    have hb8 : b.toNat < 256 := b.toNat_lt
    have hx1 := hexs_at (b.toNat / 16) (by omega)
    have hx2 := hexs_at (b.toNat % 16) (by omega)
    have c1 : (out.length + 1 ≤ 140737488355328) = True := eq_true (by omega)
    have c2 : (out.length + 2 ≤ 140737488355328) = True := eq_true (by omega)
    have c4 : (out.length + 4 ≤ 140737488355328) = True := eq_true (by omega)
    repeat' (first | refine awp_seq ?_ | refine awp_block ?_ | refine awp_round ?_ | refine awp_scope ?_ | refine awp_text rfl ?_ | refine awp_any rfl mix (by kernel_rfl) ?_ | (refine RunTo.unguard rfl rfl (fun hg => ?_) (fun hg => ?_) <;> ((try simp only [Bool.not_true, Bool.not_false, Bool.not_eq_true', Bool.not_eq_false', Bool.not_eq_eq_eq_not] at hg); (first | (cases hg) | (simp only [hg]) | skip))) | ((first | refine RunTo.plain rfl ?_ | refine RunTo.skipped rfl ?_); simp only [go_sem, ↓reduceIte, Nat.reduceEqDiff, Nat.reduceAdd, Nat.reduceLeDiff, Nat.reduceBEq, Nat.reduceMul, reduceCtorEq, Int.reduceLE, Int.reduceLT, Int.reduceAdd, Int.reduceSub, Int.reduceNeg, Int.reduceToNat, Int.reduceBEq, hdec, hb, hwk, take_brows, List.length_map, c1, c2, c4, td8, tm8, hx1, hx2]) | ((first | refine RunTo.nilA (by kernel_rfl) ?_ | refine RunTo.nilT ?_ | refine awp_skip ?_ | refine awp_exit ?_ | refine awp_label ?_); simp only [go_sem, ↓reduceIte, Nat.reduceEqDiff, Nat.reduceAdd, Nat.reduceLeDiff, Nat.reduceBEq, Nat.reduceMul, reduceCtorEq, Int.reduceLE, Int.reduceLT, Int.reduceAdd, Int.reduceSub, Int.reduceNeg, Int.reduceToNat, Int.reduceBEq, hdec, hb, hwk, take_brows, List.length_map, c1, c2, c4, td8, tm8, hx1, hx2]) | (refine awp_cond' rfl (of_decide_eq_true rfl) (fun hc => ?_) (fun hc => ?_) <;> ((try simp only [Bool.not_true, Bool.not_false, Bool.not_eq_true', Bool.not_eq_false', Bool.not_eq_eq_eq_not] at hc); (first | (cases hc) | (simp only [hc]) | skip))))
    all_goals
      (try simp only [decide_eq_true_eq, decide_eq_false_iff_not, beq_iff_eq, bne_iff_ne, ne_eq, beq_eq_false_iff_ne, bne_eq_false_iff_eq, Bool.and_eq_true, Bool.or_eq_true, Bool.or_eq_false_iff, Bool.and_eq_false_iff] at *)
      first
      | (have he : escB b = [92, b] := by unfold escB; first | rw [if_pos (by omega)] | rw [if_neg (by omega), if_pos (by omega)] | rw [if_neg (by omega), if_neg (by omega)]
         rw [he] at hnx
         exact step_mov (st'' := SR3 s (k + 1) _ _ _ _) [(25, 100)] rfl (m := s.size - (k + 1)) (by omega) (by simp only [go_sem, ↓reduceIte, Nat.reduceEqDiff, Nat.reduceAdd, Nat.reduceLeDiff, Nat.reduceBEq, Nat.reduceMul, reduceCtorEq, Int.reduceLE, Int.reduceLT, Int.reduceAdd, Int.reduceSub, Int.reduceNeg, Int.reduceToNat, Int.reduceBEq]; exact weak_keep ⟨rfl, rfl, rfl, trivial⟩ ⟨rfl, trivial⟩ (Nat.le_refl _)) ⟨k + 1, _, _, _, _, out ++ [92, b], by omega, rfl, hnx.symm, by simp, by rw [hexB_app]; rfl, rfl⟩)
      | (have he : escB b = [b] := by unfold escB; first | rw [if_pos (by omega)] | rw [if_neg (by omega), if_pos (by omega)] | rw [if_neg (by omega), if_neg (by omega)]
         rw [he] at hnx
         exact step_mov (st'' := SR3 s (k + 1) _ _ _ _) [(44, 100)] rfl (m := s.size - (k + 1)) (by omega) (by simp only [go_sem, ↓reduceIte, Nat.reduceEqDiff, Nat.reduceAdd, Nat.reduceLeDiff, Nat.reduceBEq, Nat.reduceMul, reduceCtorEq, Int.reduceLE, Int.reduceLT, Int.reduceAdd, Int.reduceSub, Int.reduceNeg, Int.reduceToNat, Int.reduceBEq]; exact weak_keep ⟨rfl, rfl, rfl, trivial⟩ ⟨rfl, trivial⟩ (Nat.le_refl _)) ⟨k + 1, _, _, _, _, out ++ [b], by omega, rfl, hnx.symm, by simp, by rw [hexB_app]; rfl, rfl⟩)
      | (have he : escB b = [92, 120, hexB (b.toNat / 16), hexB (b.toNat % 16)] := by unfold escB; first | rw [if_pos (by omega)] | rw [if_neg (by omega), if_pos (by omega)] | rw [if_neg (by omega), if_neg (by omega)]
         rw [he] at hnx
         exact step_mov (st'' := SR3 s (k + 1) _ _ _ _) [(40, 100)] rfl (m := s.size - (k + 1)) (by omega) (by simp only [go_sem, ↓reduceIte, Nat.reduceEqDiff, Nat.reduceAdd, Nat.reduceLeDiff, Nat.reduceBEq, Nat.reduceMul, reduceCtorEq, Int.reduceLE, Int.reduceLT, Int.reduceAdd, Int.reduceSub, Int.reduceNeg, Int.reduceToNat, Int.reduceBEq]; exact weak_keep ⟨rfl, rfl, rfl, trivial⟩ ⟨rfl, trivial⟩ (Nat.le_refl _)) ⟨k + 1, _, _, _, _, out ++ [92, 120, hexB (b.toNat / 16), hexB (b.toNat % 16)], by omega, rfl, hnx.symm, by simp, by rw [hexB_app]; rfl, rfl⟩)
      | trace_state
  · have hdec := lt_f hlt
    have hsz : s.data.toList.length = s.size := Array.length_toList
    have hall : s.data.toList.take k = s.data.toList := List.take_of_length_le (by rw [hsz]; omega)
    rw [hall] at ho
    have hq : quoteL s.data.toList = out ++ [34] := by rw [ho]; rfl
    rw [hq]
    have c1 : (out.length + 1 ≤ 140737488355328) = True := eq_true (by omega)
    have hB : isB (brows out ++ [[Dat.lit (.int .u8 34)]]) = true := by rw [isB_app, isB_brows]; rfl
    have hS : strR (brows out ++ [[Dat.lit (.int .u8 34)]]) = bs (out ++ [34]) := by
      have := strR_brows (out ++ [34])
      rw [hexB_app] at this
      exact this
    have htk : (brows out ++ [[Dat.lit (.int .u8 34)]]).take (out.length + 1) = brows out ++ [[Dat.lit (.int .u8 34)]] := List.take_of_length_le (by simp)
    repeat' (first | refine awp_seq ?_ | refine awp_block ?_ | refine awp_round ?_ | refine awp_scope ?_ | refine awp_text rfl ?_ | refine awp_any rfl mix (by kernel_rfl) ?_ | (refine RunTo.unguard rfl rfl (fun hg => ?_) (fun hg => ?_) <;> ((try simp only [Bool.not_true, Bool.not_false, Bool.not_eq_true', Bool.not_eq_false', Bool.not_eq_eq_eq_not] at hg); (first | (cases hg) | (simp only [hg]) | skip))) | ((first | refine RunTo.plain rfl ?_ | refine RunTo.skipped rfl ?_); simp only [go_sem, ↓reduceIte, Nat.reduceEqDiff, Nat.reduceAdd, Nat.reduceLeDiff, Nat.reduceBEq, Nat.reduceMul, reduceCtorEq, Int.reduceLE, Int.reduceLT, Int.reduceAdd, Int.reduceSub, Int.reduceNeg, Int.reduceToNat, Int.reduceBEq, hdec, take_brows, htk, List.length_map, List.length_append, c1, hB, hS]) | ((first | refine RunTo.nilA (by kernel_rfl) ?_ | refine RunTo.nilT ?_ | refine awp_skip ?_ | refine awp_exit ?_ | refine awp_label ?_); simp only [go_sem, ↓reduceIte, Nat.reduceEqDiff, Nat.reduceAdd, Nat.reduceLeDiff, Nat.reduceBEq, Nat.reduceMul, reduceCtorEq, Int.reduceLE, Int.reduceLT, Int.reduceAdd, Int.reduceSub, Int.reduceNeg, Int.reduceToNat, Int.reduceBEq, hdec, take_brows, htk, List.length_map, List.length_append, c1, hB, hS]) | (refine awp_cond' rfl (of_decide_eq_true rfl) (fun hc => ?_) (fun hc => ?_) <;> ((try simp only [Bool.not_true, Bool.not_false, Bool.not_eq_true', Bool.not_eq_false', Bool.not_eq_eq_eq_not] at hc); (first | (cases hc) | (simp only [hc]) | skip))))
    all_goals
      (first | refine awp_ret ?_ | skip); refine ⟨(by first | exact .inl rfl | exact .inr rfl | exact .inr trivial | trivial), ?_⟩; simp only [go_sem, ↓reduceIte, Nat.reduceEqDiff, Nat.reduceAdd, Nat.reduceLeDiff, Nat.reduceBEq, Nat.reduceMul, reduceCtorEq, Int.reduceLE, Int.reduceLT, Int.reduceAdd, Int.reduceSub, Int.reduceNeg, Int.reduceToNat, Int.reduceBEq, retV, resL, resV, sealV, sealC, sealAll, Tryz.f89]
theorem c_rQuoted (s : ByteArray) (hs : s.size ≤ 1000000) : Pure Tryz.prog 89 [sv s] (sv (quoteS s)) := c_rQuoted0 s hs
end Go.Proofs.YtinpnidokpjfhaaGreatDoor.AM
namespace Go.Proofs.YtinpnidokpjfhaaGreatDoor.AM
open Go.RowKit
set_option linter.unusedSimpArgs false
set_option linter.unusedVariables false
set_option maxRecDepth 10000
set_option maxHeartbeats 0
theorem c_rPrintA (a : AtomD) (hf : a.f < 18446744073709551616) (hn : i64B a.n) (hs : a.s.size ≤ 1000000) (hk : 0 ≤ a.k ∧ a.k ≤ 5) : Pure Tryz.prog 67 [a.av] (sv (printA a)) := by
  obtain ⟨k, n, f, s⟩ := a
  obtain ⟨n1, n2⟩ := hn
  replace n1 : -9223372036854775808 ≤ n := n1
  replace n2 : n ≤ 9223372036854775807 := n2
  replace hs : s.size ≤ 1000000 := hs
  have hq : (1 + (quoteS s).size ≤ 9223372036854775807) = True := eq_true (by have := quoteS_size s; omega)
  have hx : (2 + (hexS f).size ≤ 9223372036854775807) = True := eq_true (by rw [hexS_size]; omega)
  have c1 := c_rBits f
  have c2 := c_rHex f hf (c_rCanon f hf)
  have c3 := c_rQuoted s hs
  have hk6 : k = 0 ∨ k = 1 ∨ k = 2 ∨ k = 3 ∨ k = 4 ∨ k = 5 := by have := hk.1; have := hk.2; simp only [] at *; omega
  clear hk hf
  rcases hk6 with h | h | h | h | h | h <;> subst h
  · refine pure_of_awp Tryz.func67 rfl rfl (by simp [Tryz.f67]) ?_; simp only [go_sem, ↓reduceIte, Nat.reduceEqDiff, Nat.reduceAdd, Nat.reduceLeDiff, Nat.reduceBEq, Nat.reduceMul, reduceCtorEq, Int.reduceLE, Int.reduceLT, Int.reduceAdd, Int.reduceSub, Int.reduceNeg, Int.reduceToNat, Int.reduceBEq]
    repeat' (first | refine awp_seq ?_ | refine awp_block ?_ | refine awp_round ?_ | refine awp_scope ?_ | refine awp_text rfl ?_ | refine awp_any rfl mix (by kernel_rfl) ?_ | (refine RunTo.unguard rfl rfl (fun hg => ?_) (fun hg => ?_) <;> ((try simp only [Bool.not_true, Bool.not_false, Bool.not_eq_true', Bool.not_eq_false', Bool.not_eq_eq_eq_not] at hg); (first | (cases hg) | (simp only [hg]) | skip))) | ((first | refine RunTo.plain rfl ?_ | refine RunTo.skipped rfl ?_); simp only [go_sem, ↓reduceIte, Nat.reduceEqDiff, Nat.reduceAdd, Nat.reduceLeDiff, Nat.reduceBEq, Nat.reduceMul, reduceCtorEq, Int.reduceLE, Int.reduceLT, Int.reduceAdd, Int.reduceSub, Int.reduceNeg, Int.reduceToNat, Int.reduceBEq, AtomD.av]) | ((first | refine RunTo.nilA (by kernel_rfl) ?_ | refine RunTo.nilT ?_ | refine awp_skip ?_ | refine awp_exit ?_ | refine awp_label ?_); simp only [go_sem, ↓reduceIte, Nat.reduceEqDiff, Nat.reduceAdd, Nat.reduceLeDiff, Nat.reduceBEq, Nat.reduceMul, reduceCtorEq, Int.reduceLE, Int.reduceLT, Int.reduceAdd, Int.reduceSub, Int.reduceNeg, Int.reduceToNat, Int.reduceBEq, AtomD.av]) | (refine awp_cond' rfl (of_decide_eq_true rfl) (fun hc => ?_) (fun hc => ?_) <;> ((try simp only [Bool.not_true, Bool.not_false, Bool.not_eq_true', Bool.not_eq_false', Bool.not_eq_eq_eq_not] at hc); (first | (cases hc) | (simp only [hc]) | skip))))
    all_goals (first | refine awp_ret ?_ | skip); refine ⟨(by first | exact .inl rfl | exact .inr rfl | exact .inr trivial | trivial), ?_⟩; simp only [go_sem, ↓reduceIte, Nat.reduceEqDiff, Nat.reduceAdd, Nat.reduceLeDiff, Nat.reduceBEq, Nat.reduceMul, reduceCtorEq, Int.reduceLE, Int.reduceLT, Int.reduceAdd, Int.reduceSub, Int.reduceNeg, Int.reduceToNat, Int.reduceBEq, retV, resL, resV, sealV, sealC, sealAll, Tryz.f67]
    all_goals rfl
  · refine pure_of_awp Tryz.func67 rfl rfl (by simp [Tryz.f67]) ?_; simp only [go_sem, ↓reduceIte, Nat.reduceEqDiff, Nat.reduceAdd, Nat.reduceLeDiff, Nat.reduceBEq, Nat.reduceMul, reduceCtorEq, Int.reduceLE, Int.reduceLT, Int.reduceAdd, Int.reduceSub, Int.reduceNeg, Int.reduceToNat, Int.reduceBEq]
    repeat' (first | refine awp_seq ?_ | refine awp_block ?_ | refine awp_round ?_ | refine awp_scope ?_ | refine awp_text rfl ?_ | refine awp_any rfl mix (by kernel_rfl) ?_ | (refine RunTo.unguard rfl rfl (fun hg => ?_) (fun hg => ?_) <;> ((try simp only [Bool.not_true, Bool.not_false, Bool.not_eq_true', Bool.not_eq_false', Bool.not_eq_eq_eq_not] at hg); (first | (cases hg) | (simp only [hg]) | skip))) | ((first | refine RunTo.plain rfl ?_ | refine RunTo.skipped rfl ?_); simp only [go_sem, ↓reduceIte, Nat.reduceEqDiff, Nat.reduceAdd, Nat.reduceLeDiff, Nat.reduceBEq, Nat.reduceMul, reduceCtorEq, Int.reduceLE, Int.reduceLT, Int.reduceAdd, Int.reduceSub, Int.reduceNeg, Int.reduceToNat, Int.reduceBEq, AtomD.av]) | ((first | refine RunTo.nilA (by kernel_rfl) ?_ | refine RunTo.nilT ?_ | refine awp_skip ?_ | refine awp_exit ?_ | refine awp_label ?_); simp only [go_sem, ↓reduceIte, Nat.reduceEqDiff, Nat.reduceAdd, Nat.reduceLeDiff, Nat.reduceBEq, Nat.reduceMul, reduceCtorEq, Int.reduceLE, Int.reduceLT, Int.reduceAdd, Int.reduceSub, Int.reduceNeg, Int.reduceToNat, Int.reduceBEq, AtomD.av]) | (refine awp_cond' rfl (of_decide_eq_true rfl) (fun hc => ?_) (fun hc => ?_) <;> ((try simp only [Bool.not_true, Bool.not_false, Bool.not_eq_true', Bool.not_eq_false', Bool.not_eq_eq_eq_not] at hc); (first | (cases hc) | (simp only [hc]) | skip))))
    all_goals (first | refine awp_ret ?_ | skip); refine ⟨(by first | exact .inl rfl | exact .inr rfl | exact .inr trivial | trivial), ?_⟩; simp only [go_sem, ↓reduceIte, Nat.reduceEqDiff, Nat.reduceAdd, Nat.reduceLeDiff, Nat.reduceBEq, Nat.reduceMul, reduceCtorEq, Int.reduceLE, Int.reduceLT, Int.reduceAdd, Int.reduceSub, Int.reduceNeg, Int.reduceToNat, Int.reduceBEq, retV, resL, resV, sealV, sealC, sealAll, Tryz.f67]
    all_goals (rw [show printA ⟨1, n, f, s⟩ = bs (Lib.formatBool (n == 1)) from rfl, hc]; rfl)
  · by_cases hneg : n < 0
    · have hd : decide (n < 0) = true := decide_eq_true hneg
      have hl := Lib.itoa_length_le n n1 n2
      have hi : Lib.itoa n = 45 :: Lib.decDigits n.natAbs := if_pos hneg
      rw [hi] at hl
      have w1 : IntKind.u64.wrap (IntKind.u64.wrap (IntKind.i64.wrap (0 - IntKind.i64.wrap (n + 1))) + 1) = ((n.natAbs : Nat) : Int) := by
        rw [IntWalk.i64_in (n + 1) (by omega), IntWalk.i64_in (0 - (n + 1)) (by omega), u64_in (0 - (n + 1)) (by omega) (by omega), u64_in _ (by omega) (by omega)]; omega
      have c4 := c_rDigits n.natAbs (by omega)
      have z1 : (1 + (Lib.decDigits n.natAbs).length ≤ 9223372036854775807) = True := eq_true (by
        simp only [List.length_cons] at hl
        omega)
      refine pure_of_awp Tryz.func67 rfl rfl (by simp [Tryz.f67]) ?_; simp only [go_sem, ↓reduceIte, Nat.reduceEqDiff, Nat.reduceAdd, Nat.reduceLeDiff, Nat.reduceBEq, Nat.reduceMul, reduceCtorEq, Int.reduceLE, Int.reduceLT, Int.reduceAdd, Int.reduceSub, Int.reduceNeg, Int.reduceToNat, Int.reduceBEq]
      repeat' (first | refine awp_seq ?_ | refine awp_block ?_ | refine awp_round ?_ | refine awp_scope ?_ | refine awp_text rfl ?_ | refine awp_any rfl mix (by kernel_rfl) ?_ | (refine RunTo.unguard rfl rfl (fun hg => ?_) (fun hg => ?_) <;> ((try simp only [Bool.not_true, Bool.not_false, Bool.not_eq_true', Bool.not_eq_false', Bool.not_eq_eq_eq_not] at hg); (first | (cases hg) | (simp only [hg]) | skip))) | ((first | refine RunTo.plain rfl ?_ | refine RunTo.skipped rfl ?_ | refine RunTo.call (c4) Tryz.func87 rfl rfl rfl rfl rfl rfl rfl rfl ?_); simp only [go_sem, ↓reduceIte, Nat.reduceEqDiff, Nat.reduceAdd, Nat.reduceLeDiff, Nat.reduceBEq, Nat.reduceMul, reduceCtorEq, Int.reduceLE, Int.reduceLT, Int.reduceAdd, Int.reduceSub, Int.reduceNeg, Int.reduceToNat, Int.reduceBEq, AtomD.av, hd, w1, z1, List.size_toArray]) | ((first | refine RunTo.nilA (by kernel_rfl) ?_ | refine RunTo.nilT ?_ | refine awp_skip ?_ | refine awp_exit ?_ | refine awp_label ?_); simp only [go_sem, ↓reduceIte, Nat.reduceEqDiff, Nat.reduceAdd, Nat.reduceLeDiff, Nat.reduceBEq, Nat.reduceMul, reduceCtorEq, Int.reduceLE, Int.reduceLT, Int.reduceAdd, Int.reduceSub, Int.reduceNeg, Int.reduceToNat, Int.reduceBEq, AtomD.av, hd, w1, z1, List.size_toArray]) | (refine awp_cond' rfl (of_decide_eq_true rfl) (fun hc => ?_) (fun hc => ?_) <;> ((try simp only [Bool.not_true, Bool.not_false, Bool.not_eq_true', Bool.not_eq_false', Bool.not_eq_eq_eq_not] at hc); (first | (cases hc) | (simp only [hc]) | skip))))
      all_goals (first | refine awp_ret ?_ | skip); refine ⟨(by first | exact .inl rfl | exact .inr rfl | exact .inr trivial | trivial), ?_⟩; simp only [go_sem, ↓reduceIte, Nat.reduceEqDiff, Nat.reduceAdd, Nat.reduceLeDiff, Nat.reduceBEq, Nat.reduceMul, reduceCtorEq, Int.reduceLE, Int.reduceLT, Int.reduceAdd, Int.reduceSub, Int.reduceNeg, Int.reduceToNat, Int.reduceBEq, retV, resL, resV, sealV, sealC, sealAll, Tryz.f67]
      all_goals
        rw [show printA ⟨2, n, f, s⟩ = bs (Lib.itoa n) from rfl, hi]
        have hb : (⟨#[45]⟩ : ByteArray) ++ bs (Lib.decDigits n.natAbs) = bs (45 :: Lib.decDigits n.natAbs) := by
          apply ByteArray.ext
          rw [ByteArray.data_append]
          apply Array.ext'
          simp
        rw [hb]
    · have hd : decide (n < 0) = false := decide_eq_false hneg
      have hi : Lib.itoa n = Lib.decDigits n.toNat := if_neg hneg
      have w1 : IntKind.u64.wrap n = ((n.toNat : Nat) : Int) := by rw [u64_in _ (by omega) (by omega)]; omega
      have c4 := c_rDigits n.toNat (by omega)
      refine pure_of_awp Tryz.func67 rfl rfl (by simp [Tryz.f67]) ?_; simp only [go_sem, ↓reduceIte, Nat.reduceEqDiff, Nat.reduceAdd, Nat.reduceLeDiff, Nat.reduceBEq, Nat.reduceMul, reduceCtorEq, Int.reduceLE, Int.reduceLT, Int.reduceAdd, Int.reduceSub, Int.reduceNeg, Int.reduceToNat, Int.reduceBEq]
      repeat' (first | refine awp_seq ?_ | refine awp_block ?_ | refine awp_round ?_ | refine awp_scope ?_ | refine awp_text rfl ?_ | refine awp_any rfl mix (by kernel_rfl) ?_ | (refine RunTo.unguard rfl rfl (fun hg => ?_) (fun hg => ?_) <;> ((try simp only [Bool.not_true, Bool.not_false, Bool.not_eq_true', Bool.not_eq_false', Bool.not_eq_eq_eq_not] at hg); (first | (cases hg) | (simp only [hg]) | skip))) | ((first | refine RunTo.plain rfl ?_ | refine RunTo.skipped rfl ?_ | refine RunTo.call (c4) Tryz.func87 rfl rfl rfl rfl rfl rfl rfl rfl ?_); simp only [go_sem, ↓reduceIte, Nat.reduceEqDiff, Nat.reduceAdd, Nat.reduceLeDiff, Nat.reduceBEq, Nat.reduceMul, reduceCtorEq, Int.reduceLE, Int.reduceLT, Int.reduceAdd, Int.reduceSub, Int.reduceNeg, Int.reduceToNat, Int.reduceBEq, AtomD.av, hd, w1]) | ((first | refine RunTo.nilA (by kernel_rfl) ?_ | refine RunTo.nilT ?_ | refine awp_skip ?_ | refine awp_exit ?_ | refine awp_label ?_); simp only [go_sem, ↓reduceIte, Nat.reduceEqDiff, Nat.reduceAdd, Nat.reduceLeDiff, Nat.reduceBEq, Nat.reduceMul, reduceCtorEq, Int.reduceLE, Int.reduceLT, Int.reduceAdd, Int.reduceSub, Int.reduceNeg, Int.reduceToNat, Int.reduceBEq, AtomD.av, hd, w1]) | (refine awp_cond' rfl (of_decide_eq_true rfl) (fun hc => ?_) (fun hc => ?_) <;> ((try simp only [Bool.not_true, Bool.not_false, Bool.not_eq_true', Bool.not_eq_false', Bool.not_eq_eq_eq_not] at hc); (first | (cases hc) | (simp only [hc]) | skip))))
      all_goals (first | refine awp_ret ?_ | skip); refine ⟨(by first | exact .inl rfl | exact .inr rfl | exact .inr trivial | trivial), ?_⟩; simp only [go_sem, ↓reduceIte, Nat.reduceEqDiff, Nat.reduceAdd, Nat.reduceLeDiff, Nat.reduceBEq, Nat.reduceMul, reduceCtorEq, Int.reduceLE, Int.reduceLT, Int.reduceAdd, Int.reduceSub, Int.reduceNeg, Int.reduceToNat, Int.reduceBEq, retV, resL, resV, sealV, sealC, sealAll, Tryz.f67]
      all_goals rw [show printA ⟨2, n, f, s⟩ = bs (Lib.itoa n) from rfl, hi]
  all_goals
    refine pure_of_awp Tryz.func67 rfl rfl (by simp [Tryz.f67]) ?_; simp only [go_sem, ↓reduceIte, Nat.reduceEqDiff, Nat.reduceAdd, Nat.reduceLeDiff, Nat.reduceBEq, Nat.reduceMul, reduceCtorEq, Int.reduceLE, Int.reduceLT, Int.reduceAdd, Int.reduceSub, Int.reduceNeg, Int.reduceToNat, Int.reduceBEq]
    repeat' (first | refine awp_seq ?_ | refine awp_block ?_ | refine awp_round ?_ | refine awp_scope ?_ | refine awp_text rfl ?_ | refine awp_any rfl mix (by kernel_rfl) ?_ | (refine RunTo.unguard rfl rfl (fun hg => ?_) (fun hg => ?_) <;> ((try simp only [Bool.not_true, Bool.not_false, Bool.not_eq_true', Bool.not_eq_false', Bool.not_eq_eq_eq_not] at hg); (first | (cases hg) | (simp only [hg]) | skip))) | ((first | refine RunTo.plain rfl ?_ | refine RunTo.skipped rfl ?_ | refine RunTo.call (c1) Tryz.func86 rfl rfl rfl rfl rfl rfl rfl rfl ?_ | refine RunTo.call (c2) Tryz.func88 rfl rfl rfl rfl rfl rfl rfl rfl ?_ | refine RunTo.call (c3) Tryz.func89 rfl rfl rfl rfl rfl rfl rfl rfl ?_); simp only [go_sem, ↓reduceIte, Nat.reduceEqDiff, Nat.reduceAdd, Nat.reduceLeDiff, Nat.reduceBEq, Nat.reduceMul, reduceCtorEq, Int.reduceLE, Int.reduceLT, Int.reduceAdd, Int.reduceSub, Int.reduceNeg, Int.reduceToNat, Int.reduceBEq, AtomD.av, hq, hx, List.size_toArray]) | ((first | refine RunTo.nilA (by kernel_rfl) ?_ | refine RunTo.nilT ?_ | refine awp_skip ?_ | refine awp_exit ?_ | refine awp_label ?_); simp only [go_sem, ↓reduceIte, Nat.reduceEqDiff, Nat.reduceAdd, Nat.reduceLeDiff, Nat.reduceBEq, Nat.reduceMul, reduceCtorEq, Int.reduceLE, Int.reduceLT, Int.reduceAdd, Int.reduceSub, Int.reduceNeg, Int.reduceToNat, Int.reduceBEq, AtomD.av, hq, hx, List.size_toArray]) | (refine awp_cond' rfl (of_decide_eq_true rfl) (fun hc => ?_) (fun hc => ?_) <;> ((try simp only [Bool.not_true, Bool.not_false, Bool.not_eq_true', Bool.not_eq_false', Bool.not_eq_eq_eq_not] at hc); (first | (cases hc) | (simp only [hc]) | skip))))
    all_goals (first | refine awp_ret ?_ | skip); refine ⟨(by first | exact .inl rfl | exact .inr rfl | exact .inr trivial | trivial), ?_⟩; simp only [go_sem, ↓reduceIte, Nat.reduceEqDiff, Nat.reduceAdd, Nat.reduceLeDiff, Nat.reduceBEq, Nat.reduceMul, reduceCtorEq, Int.reduceLE, Int.reduceLT, Int.reduceAdd, Int.reduceSub, Int.reduceNeg, Int.reduceToNat, Int.reduceBEq, retV, resL, resV, sealV, sealC, sealAll, Tryz.f67]
    all_goals rfl
end Go.Proofs.YtinpnidokpjfhaaGreatDoor.AM
namespace Go.Proofs.YtinpnidokpjfhaaGreatDoor.AM
open Go.RowKit
set_option linter.unusedSimpArgs false
set_option linter.unusedVariables false
set_option maxRecDepth 10000
set_option maxHeartbeats 0
def flV (v : ValD) : Prop := v.a.f < 18446744073709551616 ∧ ∀ a ∈ v.l, a.f < 18446744073709551616
abbrev cellsV (v : ValD) : List AV := [iv v.a.k, iv v.a.n, fv v.a.f, sv v.a.s, .dat (.lst 4 (v.l.map AtomD.enc))]
abbrev SW (v : ValD) (k T e : Nat) : St := ⟨[(3, iv k), (1, .ptr 1 e 0 0)], [(1, .box e (cellsV v))], T⟩
def IW (v : ValD) (n : Nat) (st : St) : Prop := ∃ k T e, k ≤ v.l.length ∧ n = v.l.length - k ∧ (v.l.take k).all validA = true ∧ st = SW v k T e
theorem c_rValid (v : ValD) (hf : flV v) : Pure Tryz.prog 66 [v.av] (bv (validV v)) := by
  have ha := c_rAtom v.a hf.1
  have hb := c_rBits v.a.f
  by_cases h6 : v.a.k = 6
  · have hk6 : (v.a.k == 6) = true := by simpa using h6
    refine pure_of_awp Tryz.func66 rfl rfl (by simp [Tryz.f66]) ?_; simp only [go_sem, ↓reduceIte, Nat.reduceEqDiff, Nat.reduceAdd, Nat.reduceLeDiff, Nat.reduceBEq, Nat.reduceMul, reduceCtorEq, Int.reduceLE, Int.reduceLT, Int.reduceAdd, Int.reduceSub, Int.reduceNeg, Int.reduceToNat, Int.reduceBEq]
    repeat' (first | refine awp_seq ?_ | refine awp_block ?_ | refine awp_round ?_ | refine awp_scope ?_ | refine awp_text rfl ?_ | refine awp_any rfl mix (by kernel_rfl) ?_ | (refine RunTo.unguard rfl rfl (fun hg => ?_) (fun hg => ?_) <;> ((try simp only [Bool.not_true, Bool.not_false, Bool.not_eq_true', Bool.not_eq_false', Bool.not_eq_eq_eq_not] at hg); (first | (cases hg) | (simp only [hg]) | skip))) | ((first | refine RunTo.plain rfl ?_ | refine RunTo.skipped rfl ?_ | refine RunTo.call (hb) Tryz.func86 rfl rfl rfl rfl rfl rfl rfl rfl ?_); simp only [go_sem, ↓reduceIte, Nat.reduceEqDiff, Nat.reduceAdd, Nat.reduceLeDiff, Nat.reduceBEq, Nat.reduceMul, reduceCtorEq, Int.reduceLE, Int.reduceLT, Int.reduceAdd, Int.reduceSub, Int.reduceNeg, Int.reduceToNat, Int.reduceBEq, ValD.av, bne, hk6, List.length_map]) | ((first | refine RunTo.nilA (by kernel_rfl) ?_ | refine RunTo.nilT ?_ | refine awp_skip ?_ | refine awp_exit ?_ | refine awp_label ?_); simp only [go_sem, ↓reduceIte, Nat.reduceEqDiff, Nat.reduceAdd, Nat.reduceLeDiff, Nat.reduceBEq, Nat.reduceMul, reduceCtorEq, Int.reduceLE, Int.reduceLT, Int.reduceAdd, Int.reduceSub, Int.reduceNeg, Int.reduceToNat, Int.reduceBEq, ValD.av, bne, hk6, List.length_map]) | (refine awp_cond' rfl (of_decide_eq_true rfl) (fun hc => ?_) (fun hc => ?_) <;> ((try simp only [Bool.not_true, Bool.not_false, Bool.not_eq_true', Bool.not_eq_false', Bool.not_eq_eq_eq_not] at hc); (first | (cases hc) | (simp only [hc]) | skip))))
    · (first | refine awp_ret ?_ | skip); refine ⟨(by first | exact .inl rfl | exact .inr rfl | exact .inr trivial | trivial), ?_⟩; simp only [go_sem, ↓reduceIte, Nat.reduceEqDiff, Nat.reduceAdd, Nat.reduceLeDiff, Nat.reduceBEq, Nat.reduceMul, reduceCtorEq, Int.reduceLE, Int.reduceLT, Int.reduceAdd, Int.reduceSub, Int.reduceNeg, Int.reduceToNat, Int.reduceBEq, retV, resL, resV, sealV, sealC, sealAll, Tryz.f66]
      have hd : decide ((v.l.length : Int) ≤ 16) = false := by have := of_decide_eq_true hc; exact decide_eq_false (by omega)
      rw [validV_list h6, hd, Bool.and_false, Bool.false_and]
    · have hd : decide ((v.l.length : Int) ≤ 16) = true := by have := of_decide_eq_false hc; exact decide_eq_true (by omega)
      have hle : v.l.length ≤ 16 := by have := of_decide_eq_true hd; omega
      have hv : validV v = v.l.all validA := by
        rw [validV_list h6, hd, Bool.and_true]
        have : isA v.a false false false = true := by unfold isA; simp only [*, Bool.false_or, Bool.and_self]
        rw [this, Bool.true_and]
      refine awp_loopw (IW v) v.l.length (SW v 0 _ _) (weak_keep ⟨rfl, rfl, trivial⟩ ⟨rfl, trivial⟩ (Nat.le_refl _)) ⟨0, _, _, Nat.zero_le _, rfl, rfl, rfl⟩ ?_
      clear hg hc
      rintro n st ⟨k, T, e, hk, rfl, hall, rfl⟩
      by_cases hlt : k < v.l.length
      · have hdec := lt_t hlt
        have hget := row_at AtomD.enc v.l k hlt
        have hfa := hf.2 _ (List.getElem_mem hlt)
        have hmem := List.getElem_mem hlt
        have htk := all_take validA v.l k hlt
        have hwk : IntKind.i64.wrap ((k : Int) + 1) = ((k + 1 : Nat) : Int) := wrap_succ (by omega)
        generalize v.l[k] = a at *
        have hca := c_rAtom a hfa
        repeat' (first | refine awp_seq ?_ | refine awp_block ?_ | refine awp_round ?_ | refine awp_scope ?_ | refine awp_text rfl ?_ | refine awp_any rfl mix (by kernel_rfl) ?_ | (refine RunTo.unguard rfl rfl (fun hg => ?_) (fun hg => ?_) <;> ((try simp only [Bool.not_true, Bool.not_false, Bool.not_eq_true', Bool.not_eq_false', Bool.not_eq_eq_eq_not] at hg); (first | (cases hg) | (simp only [hg]) | skip))) | ((first | refine RunTo.plain rfl ?_ | refine RunTo.skipped rfl ?_ | refine RunTo.call (hca) Tryz.func85 rfl rfl rfl rfl rfl rfl rfl rfl ?_); simp only [go_sem, ↓reduceIte, Nat.reduceEqDiff, Nat.reduceAdd, Nat.reduceLeDiff, Nat.reduceBEq, Nat.reduceMul, reduceCtorEq, Int.reduceLE, Int.reduceLT, Int.reduceAdd, Int.reduceSub, Int.reduceNeg, Int.reduceToNat, Int.reduceBEq, hdec, hget, AtomD.enc, hwk, List.length_map]) | ((first | refine RunTo.nilA (by kernel_rfl) ?_ | refine RunTo.nilT ?_ | refine awp_skip ?_ | refine awp_exit ?_ | refine awp_label ?_); simp only [go_sem, ↓reduceIte, Nat.reduceEqDiff, Nat.reduceAdd, Nat.reduceLeDiff, Nat.reduceBEq, Nat.reduceMul, reduceCtorEq, Int.reduceLE, Int.reduceLT, Int.reduceAdd, Int.reduceSub, Int.reduceNeg, Int.reduceToNat, Int.reduceBEq, hdec, hget, AtomD.enc, hwk, List.length_map]) | (refine awp_cond' rfl (of_decide_eq_true rfl) (fun hc => ?_) (fun hc => ?_) <;> ((try simp only [Bool.not_true, Bool.not_false, Bool.not_eq_true', Bool.not_eq_false', Bool.not_eq_eq_eq_not] at hc); (first | (cases hc) | (simp only [hc]) | skip))))
        all_goals
          (try simp only [decide_eq_true_eq, decide_eq_false_iff_not, beq_iff_eq, bne_iff_ne, ne_eq, beq_eq_false_iff_ne, bne_eq_false_iff_eq, Bool.and_eq_true, Bool.or_eq_true, Bool.or_eq_false_iff, Bool.and_eq_false_iff] at *)
          first
          | exact ⟨v.l.length - (k + 1), by omega, SW v (k + 1) _ e, weak_keep ⟨rfl, rfl, trivial⟩ ⟨rfl, trivial⟩ (Nat.le_refl _), k + 1, _, _, by omega, rfl, by rw [htk, hall]; simp [*], rfl⟩
          | (have h2 : v.l.all validA = false := by
               cases hh : v.l.all validA with
               | false => rfl
               | true => have := List.all_eq_true.1 hh a hmem; simp_all
             rw [hv, h2]
             (first | refine awp_ret ?_ | skip); refine ⟨(by first | exact .inl rfl | exact .inr rfl | exact .inr trivial | trivial), ?_⟩; simp only [go_sem, ↓reduceIte, Nat.reduceEqDiff, Nat.reduceAdd, Nat.reduceLeDiff, Nat.reduceBEq, Nat.reduceMul, reduceCtorEq, Int.reduceLE, Int.reduceLT, Int.reduceAdd, Int.reduceSub, Int.reduceNeg, Int.reduceToNat, Int.reduceBEq, retV, resL, resV, sealV, sealC, sealAll, Tryz.f66])
      · have hdec := lt_f hlt
        rw [List.take_of_length_le (by omega)] at hall
        repeat' (first | refine awp_seq ?_ | refine awp_block ?_ | refine awp_round ?_ | refine awp_scope ?_ | refine awp_text rfl ?_ | refine awp_any rfl mix (by kernel_rfl) ?_ | (refine RunTo.unguard rfl rfl (fun hg => ?_) (fun hg => ?_) <;> ((try simp only [Bool.not_true, Bool.not_false, Bool.not_eq_true', Bool.not_eq_false', Bool.not_eq_eq_eq_not] at hg); (first | (cases hg) | (simp only [hg]) | skip))) | ((first | refine RunTo.plain rfl ?_ | refine RunTo.skipped rfl ?_); simp only [go_sem, ↓reduceIte, Nat.reduceEqDiff, Nat.reduceAdd, Nat.reduceLeDiff, Nat.reduceBEq, Nat.reduceMul, reduceCtorEq, Int.reduceLE, Int.reduceLT, Int.reduceAdd, Int.reduceSub, Int.reduceNeg, Int.reduceToNat, Int.reduceBEq, hdec, List.length_map]) | ((first | refine RunTo.nilA (by kernel_rfl) ?_ | refine RunTo.nilT ?_ | refine awp_skip ?_ | refine awp_exit ?_ | refine awp_label ?_); simp only [go_sem, ↓reduceIte, Nat.reduceEqDiff, Nat.reduceAdd, Nat.reduceLeDiff, Nat.reduceBEq, Nat.reduceMul, reduceCtorEq, Int.reduceLE, Int.reduceLT, Int.reduceAdd, Int.reduceSub, Int.reduceNeg, Int.reduceToNat, Int.reduceBEq, hdec, List.length_map]) | (refine awp_cond' rfl (of_decide_eq_true rfl) (fun hc => ?_) (fun hc => ?_) <;> ((try simp only [Bool.not_true, Bool.not_false, Bool.not_eq_true', Bool.not_eq_false', Bool.not_eq_eq_eq_not] at hc); (first | (cases hc) | (simp only [hc]) | skip))))
        all_goals
          (first | refine awp_ret ?_ | skip); refine ⟨(by first | exact .inl rfl | exact .inr rfl | exact .inr trivial | trivial), ?_⟩; simp only [go_sem, ↓reduceIte, Nat.reduceEqDiff, Nat.reduceAdd, Nat.reduceLeDiff, Nat.reduceBEq, Nat.reduceMul, reduceCtorEq, Int.reduceLE, Int.reduceLT, Int.reduceAdd, Int.reduceSub, Int.reduceNeg, Int.reduceToNat, Int.reduceBEq, retV, resL, resV, sealV, sealC, sealAll, Tryz.f66]
          rw [hv, hall]
    · (first | refine awp_ret ?_ | skip); refine ⟨(by first | exact .inl rfl | exact .inr rfl | exact .inr trivial | trivial), ?_⟩; simp only [go_sem, ↓reduceIte, Nat.reduceEqDiff, Nat.reduceAdd, Nat.reduceLeDiff, Nat.reduceBEq, Nat.reduceMul, reduceCtorEq, Int.reduceLE, Int.reduceLT, Int.reduceAdd, Int.reduceSub, Int.reduceNeg, Int.reduceToNat, Int.reduceBEq, retV, resL, resV, sealV, sealC, sealAll, Tryz.f66]
      rw [validV_list h6]
      unfold isA
      simp only [*, Bool.false_or, Bool.and_false, Bool.false_and, Bool.and_true]
    · (first | refine awp_ret ?_ | skip); refine ⟨(by first | exact .inl rfl | exact .inr rfl | exact .inr trivial | trivial), ?_⟩; simp only [go_sem, ↓reduceIte, Nat.reduceEqDiff, Nat.reduceAdd, Nat.reduceLeDiff, Nat.reduceBEq, Nat.reduceMul, reduceCtorEq, Int.reduceLE, Int.reduceLT, Int.reduceAdd, Int.reduceSub, Int.reduceNeg, Int.reduceToNat, Int.reduceBEq, retV, resL, resV, sealV, sealC, sealAll, Tryz.f66]
      rw [validV_list h6]
      unfold isA
      simp only [*, Bool.false_or, Bool.and_false, Bool.false_and, Bool.and_true]
    · (first | refine awp_ret ?_ | skip); refine ⟨(by first | exact .inl rfl | exact .inr rfl | exact .inr trivial | trivial), ?_⟩; simp only [go_sem, ↓reduceIte, Nat.reduceEqDiff, Nat.reduceAdd, Nat.reduceLeDiff, Nat.reduceBEq, Nat.reduceMul, reduceCtorEq, Int.reduceLE, Int.reduceLT, Int.reduceAdd, Int.reduceSub, Int.reduceNeg, Int.reduceToNat, Int.reduceBEq, retV, resL, resV, sealV, sealC, sealAll, Tryz.f66]
      rw [validV_list h6]
      unfold isA
      simp only [*, Bool.false_or, Bool.and_false, Bool.false_and, Bool.and_true]
  · have hk6 : (v.a.k == 6) = false := by simpa using h6
    refine pure_of_awp Tryz.func66 rfl rfl (by simp [Tryz.f66]) ?_; simp only [go_sem, ↓reduceIte, Nat.reduceEqDiff, Nat.reduceAdd, Nat.reduceLeDiff, Nat.reduceBEq, Nat.reduceMul, reduceCtorEq, Int.reduceLE, Int.reduceLT, Int.reduceAdd, Int.reduceSub, Int.reduceNeg, Int.reduceToNat, Int.reduceBEq]
    repeat' (first | refine awp_seq ?_ | refine awp_block ?_ | refine awp_round ?_ | refine awp_scope ?_ | refine awp_text rfl ?_ | refine awp_any rfl mix (by kernel_rfl) ?_ | (refine RunTo.unguard rfl rfl (fun hg => ?_) (fun hg => ?_) <;> ((try simp only [Bool.not_true, Bool.not_false, Bool.not_eq_true', Bool.not_eq_false', Bool.not_eq_eq_eq_not] at hg); (first | (cases hg) | (simp only [hg]) | skip))) | ((first | refine RunTo.plain rfl ?_ | refine RunTo.skipped rfl ?_ | refine RunTo.call (ha) Tryz.func85 rfl rfl rfl rfl rfl rfl rfl rfl ?_); simp only [go_sem, ↓reduceIte, Nat.reduceEqDiff, Nat.reduceAdd, Nat.reduceLeDiff, Nat.reduceBEq, Nat.reduceMul, reduceCtorEq, Int.reduceLE, Int.reduceLT, Int.reduceAdd, Int.reduceSub, Int.reduceNeg, Int.reduceToNat, Int.reduceBEq, ValD.av, bne, hk6, List.length_map]) | ((first | refine RunTo.nilA (by kernel_rfl) ?_ | refine RunTo.nilT ?_ | refine awp_skip ?_ | refine awp_exit ?_ | refine awp_label ?_); simp only [go_sem, ↓reduceIte, Nat.reduceEqDiff, Nat.reduceAdd, Nat.reduceLeDiff, Nat.reduceBEq, Nat.reduceMul, reduceCtorEq, Int.reduceLE, Int.reduceLT, Int.reduceAdd, Int.reduceSub, Int.reduceNeg, Int.reduceToNat, Int.reduceBEq, ValD.av, bne, hk6, List.length_map]) | (refine awp_cond' rfl (of_decide_eq_true rfl) (fun hc => ?_) (fun hc => ?_) <;> ((try simp only [Bool.not_true, Bool.not_false, Bool.not_eq_true', Bool.not_eq_false', Bool.not_eq_eq_eq_not] at hc); (first | (cases hc) | (simp only [hc]) | skip))))
    all_goals
      (first | refine awp_ret ?_ | skip); refine ⟨(by first | exact .inl rfl | exact .inr rfl | exact .inr trivial | trivial), ?_⟩; simp only [go_sem, ↓reduceIte, Nat.reduceEqDiff, Nat.reduceAdd, Nat.reduceLeDiff, Nat.reduceBEq, Nat.reduceMul, reduceCtorEq, Int.reduceLE, Int.reduceLT, Int.reduceAdd, Int.reduceSub, Int.reduceNeg, Int.reduceToNat, Int.reduceBEq, retV, resL, resV, sealV, sealC, sealAll, Tryz.f66]
      rw [validV_atom h6]
      simp [*]
theorem kind_of {a : AtomD} (h : validA a = true) : 0 ≤ a.k ∧ a.k ≤ 5 := by
  unfold validA at h
  (repeat' split at h) <;> first | omega | cases h
theorem app_first (p x : ByteArray) : p ++ joinB ([].map printA) sepB ++ x = p ++ joinB ([].map printA ++ [x]) sepB := by
  apply ByteArray.ext
  simp [joinB, Lib.join_nil, Lib.join_one, ByteArray.data_append]
theorem join_snocL (sep : List UInt8) (x : List UInt8) : ∀ xs : List (List UInt8), xs ≠ [] → Lib.join (xs ++ [x]) sep = Lib.join xs sep ++ sep ++ x
  | [], h => absurd rfl h
  | a :: r, _ => by
    rw [List.cons_append, Lib.join_cons, Lib.join_cons]
    simp [Lib.joinTail]
theorem join_snoc (xs : List ByteArray) (sep x : ByteArray) (h : xs ≠ []) : joinB (xs ++ [x]) sep = joinB xs sep ++ sep ++ x := by
  have := join_snocL sep.data.toList x.data.toList (xs.map (·.data.toList)) (by simpa using h)
  apply ByteArray.ext
  rw [ByteArray.data_append, ByteArray.data_append]
  apply Array.ext'
  simp only [joinB, List.map_append, List.map_cons, List.map_nil]
  rw [this]
  simp
abbrev SWp (v : ValD) (k : Nat) (s : ByteArray) (T e : Nat) : St := ⟨[(3, sv s), (4, iv k), (1, .ptr 1 e 0 0)], [(1, .box e (cellsV v))], T⟩
def IWp (v : ValD) (n : Nat) (st : St) : Prop := ∃ k s T e, k ≤ v.l.length ∧ n = v.l.length - k ∧ s = (⟨#[91]⟩ : ByteArray) ++ joinB ((v.l.take k).map printA) sepB ∧ st = SWp v k s T e
theorem c_rPrint (v : ValD) (hf : flV v) (ho : okV v) : Pure Tryz.prog 52 [v.av] (sv (printV v)) := by
  have hvc := c_rValid v hf
  by_cases hv : validV v = true
  · rw [hv] at hvc
    by_cases h6 : v.a.k = 6
    · have hk6 : (v.a.k == 6) = true := by simpa using h6
      have hl16 : v.l.length ≤ 16 ∧ ∀ a ∈ v.l, validA a = true := by
        rw [validV_list h6] at hv
        simp only [Bool.and_eq_true, decide_eq_true_eq, List.all_eq_true] at hv
        exact ⟨by have := hv.1.2; omega, hv.2⟩
      refine pure_of_awp Tryz.func52 rfl rfl (by simp [Tryz.f52]) ?_; simp only [go_sem, ↓reduceIte, Nat.reduceEqDiff, Nat.reduceAdd, Nat.reduceLeDiff, Nat.reduceBEq, Nat.reduceMul, reduceCtorEq, Int.reduceLE, Int.reduceLT, Int.reduceAdd, Int.reduceSub, Int.reduceNeg, Int.reduceToNat, Int.reduceBEq]
      repeat' (first | refine awp_seq ?_ | refine awp_block ?_ | refine awp_round ?_ | refine awp_scope ?_ | refine awp_text rfl ?_ | refine awp_any rfl mix (by kernel_rfl) ?_ | (refine RunTo.unguard rfl rfl (fun hg => ?_) (fun hg => ?_) <;> ((try simp only [Bool.not_true, Bool.not_false, Bool.not_eq_true', Bool.not_eq_false', Bool.not_eq_eq_eq_not] at hg); (first | (cases hg) | (simp only [hg]) | skip))) | ((first | refine RunTo.plain rfl ?_ | refine RunTo.skipped rfl ?_ | refine RunTo.call (hvc) Tryz.func66 rfl rfl rfl rfl rfl rfl rfl rfl ?_); simp only [go_sem, ↓reduceIte, Nat.reduceEqDiff, Nat.reduceAdd, Nat.reduceLeDiff, Nat.reduceBEq, Nat.reduceMul, reduceCtorEq, Int.reduceLE, Int.reduceLT, Int.reduceAdd, Int.reduceSub, Int.reduceNeg, Int.reduceToNat, Int.reduceBEq, ValD.av, bne, hk6, List.length_map]) | ((first | refine RunTo.nilA (by kernel_rfl) ?_ | refine RunTo.nilT ?_ | refine awp_skip ?_ | refine awp_exit ?_ | refine awp_label ?_); simp only [go_sem, ↓reduceIte, Nat.reduceEqDiff, Nat.reduceAdd, Nat.reduceLeDiff, Nat.reduceBEq, Nat.reduceMul, reduceCtorEq, Int.reduceLE, Int.reduceLT, Int.reduceAdd, Int.reduceSub, Int.reduceNeg, Int.reduceToNat, Int.reduceBEq, ValD.av, bne, hk6, List.length_map]) | (refine awp_cond' rfl (of_decide_eq_true rfl) (fun hc => ?_) (fun hc => ?_) <;> ((try simp only [Bool.not_true, Bool.not_false, Bool.not_eq_true', Bool.not_eq_false', Bool.not_eq_eq_eq_not] at hc); (first | (cases hc) | (simp only [hc]) | skip))))
      refine awp_loopw (IWp v) v.l.length (SWp v 0 ⟨#[91]⟩ _ _) (weak_keep ⟨rfl, rfl, rfl, trivial⟩ ⟨rfl, trivial⟩ (Nat.le_refl _)) ⟨0, _, _, _, Nat.zero_le _, rfl, rfl, rfl⟩ ?_
      rintro n st ⟨k, s, T, e, hk, rfl, hs, rfl⟩
      have hbig := joinB_le ((v.l.take k).map printA) sepB 10000000 (fun x hx => by obtain ⟨a, ha, rfl⟩ := List.mem_map.1 hx; exact printA_big a (ho.2 a (List.mem_of_mem_take ha)))
      have hs2 : sepB.size = 2 := rfl
      have e1 : (⟨#[91]⟩ : ByteArray).size = 1 := rfl
      rw [List.length_map, List.length_take, hs2] at hbig
      have hss : s.size ≤ 1000000000 := by rw [hs, ByteArray.size_append, e1]; omega
      by_cases hlt : k < v.l.length
      · have hdec := lt_t hlt
        have hget := row_at AtomD.enc v.l k hlt
        have hfa := hf.2 _ (List.getElem_mem hlt)
        have hoa := ho.2 _ (List.getElem_mem hlt)
        have hka := kind_of (hl16.2 _ (List.getElem_mem hlt))
        have htk : (v.l.take (k + 1)).map printA = (v.l.take k).map printA ++ [printA v.l[k]] := by rw [List.take_succ_eq_append_getElem hlt, List.map_append]; rfl
        have hwk : IntKind.i64.wrap ((k : Int) + 1) = ((k + 1 : Nat) : Int) := wrap_succ (by omega)
        generalize v.l[k] = a at *
        have hca := c_rPrintA a hfa hoa.1 hoa.2 hka
        have hpb := printA_big a hoa
        have z1 : (s.size + 2 ≤ 9223372036854775807) = True := eq_true (by omega)
        have z2 : (s.size + 2 + (printA a).size ≤ 9223372036854775807) = True := eq_true (by omega)
        have z3 : (s.size + (printA a).size ≤ 9223372036854775807) = True := eq_true (by omega)
        by_cases hk0 : k = 0
        · subst hk0
          have hdec0 : decide ((0 : Int) < (v.l.length : Int)) = true := decide_eq_true (by omega)
          repeat' (first | refine awp_seq ?_ | refine awp_block ?_ | refine awp_round ?_ | refine awp_scope ?_ | refine awp_text rfl ?_ | refine awp_any rfl mix (by kernel_rfl) ?_ | (refine RunTo.unguard rfl rfl (fun hg => ?_) (fun hg => ?_) <;> ((try simp only [Bool.not_true, Bool.not_false, Bool.not_eq_true', Bool.not_eq_false', Bool.not_eq_eq_eq_not] at hg); (first | (cases hg) | (simp only [hg]) | skip))) | ((first | refine RunTo.plain rfl ?_ | refine RunTo.skipped rfl ?_ | refine RunTo.call (hca) Tryz.func67 rfl rfl rfl rfl rfl rfl rfl rfl ?_); simp only [go_sem, ↓reduceIte, Nat.reduceEqDiff, Nat.reduceAdd, Nat.reduceLeDiff, Nat.reduceBEq, Nat.reduceMul, reduceCtorEq, Int.reduceLE, Int.reduceLT, Int.reduceAdd, Int.reduceSub, Int.reduceNeg, Int.reduceToNat, Int.reduceBEq, hdec0, hdec, hget, AtomD.enc, hwk, List.length_map, z3]) | ((first | refine RunTo.nilA (by kernel_rfl) ?_ | refine RunTo.nilT ?_ | refine awp_skip ?_ | refine awp_exit ?_ | refine awp_label ?_); simp only [go_sem, ↓reduceIte, Nat.reduceEqDiff, Nat.reduceAdd, Nat.reduceLeDiff, Nat.reduceBEq, Nat.reduceMul, reduceCtorEq, Int.reduceLE, Int.reduceLT, Int.reduceAdd, Int.reduceSub, Int.reduceNeg, Int.reduceToNat, Int.reduceBEq, hdec0, hdec, hget, AtomD.enc, hwk, List.length_map, z3]) | (refine awp_cond' rfl (of_decide_eq_true rfl) (fun hc => ?_) (fun hc => ?_) <;> ((try simp only [Bool.not_true, Bool.not_false, Bool.not_eq_true', Bool.not_eq_false', Bool.not_eq_eq_eq_not] at hc); (first | (cases hc) | (simp only [hc]) | skip))))
          all_goals exact ⟨v.l.length - (0 + 1), by omega, SWp v (0 + 1) (s ++ printA a) _ e, weak_keep ⟨rfl, rfl, rfl, trivial⟩ ⟨rfl, trivial⟩ (Nat.le_refl _), 0 + 1, _, _, _, by omega, rfl, by rw [htk, hs]; exact app_first _ _, rfl⟩
        · have hd0 : decide ((0 : Int) < (k : Int)) = true := decide_eq_true (by omega)
          repeat' (first | refine awp_seq ?_ | refine awp_block ?_ | refine awp_round ?_ | refine awp_scope ?_ | refine awp_text rfl ?_ | refine awp_any rfl mix (by kernel_rfl) ?_ | (refine RunTo.unguard rfl rfl (fun hg => ?_) (fun hg => ?_) <;> ((try simp only [Bool.not_true, Bool.not_false, Bool.not_eq_true', Bool.not_eq_false', Bool.not_eq_eq_eq_not] at hg); (first | (cases hg) | (simp only [hg]) | skip))) | ((first | refine RunTo.plain rfl ?_ | refine RunTo.skipped rfl ?_ | refine RunTo.call (hca) Tryz.func67 rfl rfl rfl rfl rfl rfl rfl rfl ?_); simp only [go_sem, ↓reduceIte, Nat.reduceEqDiff, Nat.reduceAdd, Nat.reduceLeDiff, Nat.reduceBEq, Nat.reduceMul, reduceCtorEq, Int.reduceLE, Int.reduceLT, Int.reduceAdd, Int.reduceSub, Int.reduceNeg, Int.reduceToNat, Int.reduceBEq, hdec, hget, AtomD.enc, hwk, List.length_map, hd0, z1, z2, ByteArray.size_append, List.size_toArray]) | ((first | refine RunTo.nilA (by kernel_rfl) ?_ | refine RunTo.nilT ?_ | refine awp_skip ?_ | refine awp_exit ?_ | refine awp_label ?_); simp only [go_sem, ↓reduceIte, Nat.reduceEqDiff, Nat.reduceAdd, Nat.reduceLeDiff, Nat.reduceBEq, Nat.reduceMul, reduceCtorEq, Int.reduceLE, Int.reduceLT, Int.reduceAdd, Int.reduceSub, Int.reduceNeg, Int.reduceToNat, Int.reduceBEq, hdec, hget, AtomD.enc, hwk, List.length_map, hd0, z1, z2, ByteArray.size_append, List.size_toArray]) | (refine awp_cond' rfl (of_decide_eq_true rfl) (fun hc => ?_) (fun hc => ?_) <;> ((try simp only [Bool.not_true, Bool.not_false, Bool.not_eq_true', Bool.not_eq_false', Bool.not_eq_eq_eq_not] at hc); (first | (cases hc) | (simp only [hc]) | skip))))
          all_goals exact ⟨v.l.length - (k + 1), by omega, SWp v (k + 1) (s ++ sepB ++ printA a) _ e, weak_keep ⟨rfl, rfl, rfl, trivial⟩ ⟨rfl, trivial⟩ (Nat.le_refl _), k + 1, _, _, _, by omega, rfl, by
            rw [htk, hs, join_snoc _ _ _ (fun h0 => by have h1 := congrArg List.length h0; rw [List.length_map, List.length_take, List.length_nil] at h1; omega)]
            simp only [ByteArray.append_assoc], rfl⟩
      · have hdec := lt_f hlt
        have hall : v.l.take k = v.l := List.take_of_length_le (by omega)
        rw [hall] at hs
        have z1 : (s.size + 1 ≤ 9223372036854775807) = True := eq_true (by omega)
        repeat' (first | refine awp_seq ?_ | refine awp_block ?_ | refine awp_round ?_ | refine awp_scope ?_ | refine awp_text rfl ?_ | refine awp_any rfl mix (by kernel_rfl) ?_ | (refine RunTo.unguard rfl rfl (fun hg => ?_) (fun hg => ?_) <;> ((try simp only [Bool.not_true, Bool.not_false, Bool.not_eq_true', Bool.not_eq_false', Bool.not_eq_eq_eq_not] at hg); (first | (cases hg) | (simp only [hg]) | skip))) | ((first | refine RunTo.plain rfl ?_ | refine RunTo.skipped rfl ?_); simp only [go_sem, ↓reduceIte, Nat.reduceEqDiff, Nat.reduceAdd, Nat.reduceLeDiff, Nat.reduceBEq, Nat.reduceMul, reduceCtorEq, Int.reduceLE, Int.reduceLT, Int.reduceAdd, Int.reduceSub, Int.reduceNeg, Int.reduceToNat, Int.reduceBEq, hdec, List.length_map, z1, List.size_toArray]) | ((first | refine RunTo.nilA (by kernel_rfl) ?_ | refine RunTo.nilT ?_ | refine awp_skip ?_ | refine awp_exit ?_ | refine awp_label ?_); simp only [go_sem, ↓reduceIte, Nat.reduceEqDiff, Nat.reduceAdd, Nat.reduceLeDiff, Nat.reduceBEq, Nat.reduceMul, reduceCtorEq, Int.reduceLE, Int.reduceLT, Int.reduceAdd, Int.reduceSub, Int.reduceNeg, Int.reduceToNat, Int.reduceBEq, hdec, List.length_map, z1, List.size_toArray]) | (refine awp_cond' rfl (of_decide_eq_true rfl) (fun hc => ?_) (fun hc => ?_) <;> ((try simp only [Bool.not_true, Bool.not_false, Bool.not_eq_true', Bool.not_eq_false', Bool.not_eq_eq_eq_not] at hc); (first | (cases hc) | (simp only [hc]) | skip))))
        all_goals (first | refine awp_ret ?_ | skip); refine ⟨(by first | exact .inl rfl | exact .inr rfl | exact .inr trivial | trivial), ?_⟩; simp only [go_sem, ↓reduceIte, Nat.reduceEqDiff, Nat.reduceAdd, Nat.reduceLeDiff, Nat.reduceBEq, Nat.reduceMul, reduceCtorEq, Int.reduceLE, Int.reduceLT, Int.reduceAdd, Int.reduceSub, Int.reduceNeg, Int.reduceToNat, Int.reduceBEq, retV, resL, resV, sealV, sealC, sealAll, Tryz.f52]
        all_goals rw [printV, if_pos hv, if_pos h6, hs]
    · have hk6 : (v.a.k == 6) = false := by simpa using h6
      have hva : validA v.a = true := by
        rw [validV_atom h6] at hv
        simp only [Bool.and_eq_true] at hv
        exact hv.1
      have hca := c_rPrintA v.a hf.1 ho.1.1 ho.1.2 (kind_of hva)
      refine pure_of_awp Tryz.func52 rfl rfl (by simp [Tryz.f52]) ?_; simp only [go_sem, ↓reduceIte, Nat.reduceEqDiff, Nat.reduceAdd, Nat.reduceLeDiff, Nat.reduceBEq, Nat.reduceMul, reduceCtorEq, Int.reduceLE, Int.reduceLT, Int.reduceAdd, Int.reduceSub, Int.reduceNeg, Int.reduceToNat, Int.reduceBEq]
      repeat' (first | refine awp_seq ?_ | refine awp_block ?_ | refine awp_round ?_ | refine awp_scope ?_ | refine awp_text rfl ?_ | refine awp_any rfl mix (by kernel_rfl) ?_ | (refine RunTo.unguard rfl rfl (fun hg => ?_) (fun hg => ?_) <;> ((try simp only [Bool.not_true, Bool.not_false, Bool.not_eq_true', Bool.not_eq_false', Bool.not_eq_eq_eq_not] at hg); (first | (cases hg) | (simp only [hg]) | skip))) | ((first | refine RunTo.plain rfl ?_ | refine RunTo.skipped rfl ?_ | refine RunTo.call (hvc) Tryz.func66 rfl rfl rfl rfl rfl rfl rfl rfl ?_ | refine RunTo.call (hca) Tryz.func67 rfl rfl rfl rfl rfl rfl rfl rfl ?_); simp only [go_sem, ↓reduceIte, Nat.reduceEqDiff, Nat.reduceAdd, Nat.reduceLeDiff, Nat.reduceBEq, Nat.reduceMul, reduceCtorEq, Int.reduceLE, Int.reduceLT, Int.reduceAdd, Int.reduceSub, Int.reduceNeg, Int.reduceToNat, Int.reduceBEq, ValD.av, bne, hk6, List.length_map]) | ((first | refine RunTo.nilA (by kernel_rfl) ?_ | refine RunTo.nilT ?_ | refine awp_skip ?_ | refine awp_exit ?_ | refine awp_label ?_); simp only [go_sem, ↓reduceIte, Nat.reduceEqDiff, Nat.reduceAdd, Nat.reduceLeDiff, Nat.reduceBEq, Nat.reduceMul, reduceCtorEq, Int.reduceLE, Int.reduceLT, Int.reduceAdd, Int.reduceSub, Int.reduceNeg, Int.reduceToNat, Int.reduceBEq, ValD.av, bne, hk6, List.length_map]) | (refine awp_cond' rfl (of_decide_eq_true rfl) (fun hc => ?_) (fun hc => ?_) <;> ((try simp only [Bool.not_true, Bool.not_false, Bool.not_eq_true', Bool.not_eq_false', Bool.not_eq_eq_eq_not] at hc); (first | (cases hc) | (simp only [hc]) | skip))))
      all_goals (first | refine awp_ret ?_ | skip); refine ⟨(by first | exact .inl rfl | exact .inr rfl | exact .inr trivial | trivial), ?_⟩; simp only [go_sem, ↓reduceIte, Nat.reduceEqDiff, Nat.reduceAdd, Nat.reduceLeDiff, Nat.reduceBEq, Nat.reduceMul, reduceCtorEq, Int.reduceLE, Int.reduceLT, Int.reduceAdd, Int.reduceSub, Int.reduceNeg, Int.reduceToNat, Int.reduceBEq, retV, resL, resV, sealV, sealC, sealAll, Tryz.f52]
      all_goals rw [printV, if_pos hv, if_neg h6]
  · have hv' : validV v = false := by simpa using hv
    rw [hv'] at hvc
    refine pure_of_awp Tryz.func52 rfl rfl (by simp [Tryz.f52]) ?_; simp only [go_sem, ↓reduceIte, Nat.reduceEqDiff, Nat.reduceAdd, Nat.reduceLeDiff, Nat.reduceBEq, Nat.reduceMul, reduceCtorEq, Int.reduceLE, Int.reduceLT, Int.reduceAdd, Int.reduceSub, Int.reduceNeg, Int.reduceToNat, Int.reduceBEq]
    repeat' (first | refine awp_seq ?_ | refine awp_block ?_ | refine awp_round ?_ | refine awp_scope ?_ | refine awp_text rfl ?_ | refine awp_any rfl mix (by kernel_rfl) ?_ | (refine RunTo.unguard rfl rfl (fun hg => ?_) (fun hg => ?_) <;> ((try simp only [Bool.not_true, Bool.not_false, Bool.not_eq_true', Bool.not_eq_false', Bool.not_eq_eq_eq_not] at hg); (first | (cases hg) | (simp only [hg]) | skip))) | ((first | refine RunTo.plain rfl ?_ | refine RunTo.skipped rfl ?_ | refine RunTo.call (hvc) Tryz.func66 rfl rfl rfl rfl rfl rfl rfl rfl ?_); simp only [go_sem, ↓reduceIte, Nat.reduceEqDiff, Nat.reduceAdd, Nat.reduceLeDiff, Nat.reduceBEq, Nat.reduceMul, reduceCtorEq, Int.reduceLE, Int.reduceLT, Int.reduceAdd, Int.reduceSub, Int.reduceNeg, Int.reduceToNat, Int.reduceBEq, ValD.av, bne, List.length_map]) | ((first | refine RunTo.nilA (by kernel_rfl) ?_ | refine RunTo.nilT ?_ | refine awp_skip ?_ | refine awp_exit ?_ | refine awp_label ?_); simp only [go_sem, ↓reduceIte, Nat.reduceEqDiff, Nat.reduceAdd, Nat.reduceLeDiff, Nat.reduceBEq, Nat.reduceMul, reduceCtorEq, Int.reduceLE, Int.reduceLT, Int.reduceAdd, Int.reduceSub, Int.reduceNeg, Int.reduceToNat, Int.reduceBEq, ValD.av, bne, List.length_map]) | (refine awp_cond' rfl (of_decide_eq_true rfl) (fun hc => ?_) (fun hc => ?_) <;> ((try simp only [Bool.not_true, Bool.not_false, Bool.not_eq_true', Bool.not_eq_false', Bool.not_eq_eq_eq_not] at hc); (first | (cases hc) | (simp only [hc]) | skip))))
    all_goals (first | refine awp_ret ?_ | skip); refine ⟨(by first | exact .inl rfl | exact .inr rfl | exact .inr trivial | trivial), ?_⟩; simp only [go_sem, ↓reduceIte, Nat.reduceEqDiff, Nat.reduceAdd, Nat.reduceLeDiff, Nat.reduceBEq, Nat.reduceMul, reduceCtorEq, Int.reduceLE, Int.reduceLT, Int.reduceAdd, Int.reduceSub, Int.reduceNeg, Int.reduceToNat, Int.reduceBEq, retV, resL, resV, sealV, sealC, sealAll, Tryz.f52]
    all_goals rw [printV, if_neg hv]
end Go.Proofs.YtinpnidokpjfhaaGreatDoor.AM
namespace Go.Proofs.YtinpnidokpjfhaaGreatDoor.AM
open Go.RowKit
set_option linter.unusedSimpArgs false
set_option linter.unusedVariables false
set_option maxRecDepth 10000
set_option maxHeartbeats 0
theorem c_rIn (n a b : Int) : Pure Tryz.prog 41 [iv n, iv a, iv b] (bv (decide (a ≤ n) && decide (n ≤ b))) := by
  cases h1 : decide (a ≤ n) <;> cases h2 : decide (n ≤ b)
  all_goals
    refine pure_of_awp Tryz.func41 rfl rfl (by simp [Tryz.f41]) ?_; simp only [go_sem, ↓reduceIte, Nat.reduceEqDiff, Nat.reduceAdd, Nat.reduceLeDiff, Nat.reduceBEq, Nat.reduceMul, reduceCtorEq, Int.reduceLE, Int.reduceLT, Int.reduceAdd, Int.reduceSub, Int.reduceNeg, Int.reduceToNat, Int.reduceBEq]
    repeat' (first | refine awp_seq ?_ | refine awp_block ?_ | refine awp_round ?_ | refine awp_scope ?_ | refine awp_text rfl ?_ | refine awp_any rfl mix (by kernel_rfl) ?_ | (refine RunTo.unguard rfl rfl (fun hg => ?_) (fun hg => ?_) <;> ((try simp only [Bool.not_true, Bool.not_false, Bool.not_eq_true', Bool.not_eq_false', Bool.not_eq_eq_eq_not] at hg); (first | (cases hg) | (simp only [hg]) | skip))) | ((first | refine RunTo.plain rfl ?_ | refine RunTo.skipped rfl ?_); simp only [go_sem, ↓reduceIte, Nat.reduceEqDiff, Nat.reduceAdd, Nat.reduceLeDiff, Nat.reduceBEq, Nat.reduceMul, reduceCtorEq, Int.reduceLE, Int.reduceLT, Int.reduceAdd, Int.reduceSub, Int.reduceNeg, Int.reduceToNat, Int.reduceBEq, h1, h2]) | ((first | refine RunTo.nilA (by kernel_rfl) ?_ | refine RunTo.nilT ?_ | refine awp_skip ?_ | refine awp_exit ?_ | refine awp_label ?_); simp only [go_sem, ↓reduceIte, Nat.reduceEqDiff, Nat.reduceAdd, Nat.reduceLeDiff, Nat.reduceBEq, Nat.reduceMul, reduceCtorEq, Int.reduceLE, Int.reduceLT, Int.reduceAdd, Int.reduceSub, Int.reduceNeg, Int.reduceToNat, Int.reduceBEq, h1, h2]) | (refine awp_cond' rfl (of_decide_eq_true rfl) (fun hc => ?_) (fun hc => ?_) <;> ((try simp only [Bool.not_true, Bool.not_false, Bool.not_eq_true', Bool.not_eq_false', Bool.not_eq_eq_eq_not] at hc); (first | (cases hc) | (simp only [hc]) | skip))))
    all_goals (first | refine awp_ret ?_ | skip); refine ⟨(by first | exact .inl rfl | exact .inr rfl | exact .inr trivial | trivial), ?_⟩; simp only [go_sem, ↓reduceIte, Nat.reduceEqDiff, Nat.reduceAdd, Nat.reduceLeDiff, Nat.reduceBEq, Nat.reduceMul, reduceCtorEq, Int.reduceLE, Int.reduceLT, Int.reduceAdd, Int.reduceSub, Int.reduceNeg, Int.reduceToNat, Int.reduceBEq, retV, resL, resV, sealV, sealC, sealAll, Tryz.f41]
    all_goals rfl
theorem c_rPlain (v : ValD) (hf : flV v) : Pure Tryz.prog 58 [v.av] (bv (plainV v)) := by
  have h := c_rValid v hf
  unfold plainV
  generalize validV v = a at *
  cases a <;> cases h6 : (v.a.k == 6)
  all_goals
    refine pure_of_awp Tryz.func58 rfl rfl (by simp [Tryz.f58]) ?_; simp only [go_sem, ↓reduceIte, Nat.reduceEqDiff, Nat.reduceAdd, Nat.reduceLeDiff, Nat.reduceBEq, Nat.reduceMul, reduceCtorEq, Int.reduceLE, Int.reduceLT, Int.reduceAdd, Int.reduceSub, Int.reduceNeg, Int.reduceToNat, Int.reduceBEq]
    repeat' (first | refine awp_seq ?_ | refine awp_block ?_ | refine awp_round ?_ | refine awp_scope ?_ | refine awp_text rfl ?_ | refine awp_any rfl mix (by kernel_rfl) ?_ | (refine RunTo.unguard rfl rfl (fun hg => ?_) (fun hg => ?_) <;> ((try simp only [Bool.not_true, Bool.not_false, Bool.not_eq_true', Bool.not_eq_false', Bool.not_eq_eq_eq_not] at hg); (first | (cases hg) | (simp only [hg]) | skip))) | ((first | refine RunTo.plain rfl ?_ | refine RunTo.skipped rfl ?_ | refine RunTo.call (h) Tryz.func66 rfl rfl rfl rfl rfl rfl rfl rfl ?_); simp only [go_sem, ↓reduceIte, Nat.reduceEqDiff, Nat.reduceAdd, Nat.reduceLeDiff, Nat.reduceBEq, Nat.reduceMul, reduceCtorEq, Int.reduceLE, Int.reduceLT, Int.reduceAdd, Int.reduceSub, Int.reduceNeg, Int.reduceToNat, Int.reduceBEq, ValD.av, bne, h6, Bool.not_true, Bool.not_false]) | ((first | refine RunTo.nilA (by kernel_rfl) ?_ | refine RunTo.nilT ?_ | refine awp_skip ?_ | refine awp_exit ?_ | refine awp_label ?_); simp only [go_sem, ↓reduceIte, Nat.reduceEqDiff, Nat.reduceAdd, Nat.reduceLeDiff, Nat.reduceBEq, Nat.reduceMul, reduceCtorEq, Int.reduceLE, Int.reduceLT, Int.reduceAdd, Int.reduceSub, Int.reduceNeg, Int.reduceToNat, Int.reduceBEq, ValD.av, bne, h6, Bool.not_true, Bool.not_false]) | (refine awp_cond' rfl (of_decide_eq_true rfl) (fun hc => ?_) (fun hc => ?_) <;> ((try simp only [Bool.not_true, Bool.not_false, Bool.not_eq_true', Bool.not_eq_false', Bool.not_eq_eq_eq_not] at hc); (first | (cases hc) | (simp only [hc]) | skip))))
    all_goals (first | refine awp_ret ?_ | skip); refine ⟨(by first | exact .inl rfl | exact .inr rfl | exact .inr trivial | trivial), ?_⟩; simp only [go_sem, ↓reduceIte, Nat.reduceEqDiff, Nat.reduceAdd, Nat.reduceLeDiff, Nat.reduceBEq, Nat.reduceMul, reduceCtorEq, Int.reduceLE, Int.reduceLT, Int.reduceAdd, Int.reduceSub, Int.reduceNeg, Int.reduceToNat, Int.reduceBEq, retV, resL, resV, sealV, sealC, sealAll, Tryz.f58]
    all_goals first | rfl | (simp only [bne, h6]; rfl)
theorem c_rOf (op : Int) : Pure Tryz.prog 30 [iv op] (iv (ofN op : Nat)) := by
  unfold ofN
  by_cases h3 : op ≤ 3
  · have d3 : decide (op ≤ 3) = true := decide_eq_true h3
    rw [if_pos h3]
    refine pure_of_awp Tryz.func30 rfl rfl (by simp [Tryz.f30]) ?_; simp only [go_sem, ↓reduceIte, Nat.reduceEqDiff, Nat.reduceAdd, Nat.reduceLeDiff, Nat.reduceBEq, Nat.reduceMul, reduceCtorEq, Int.reduceLE, Int.reduceLT, Int.reduceAdd, Int.reduceSub, Int.reduceNeg, Int.reduceToNat, Int.reduceBEq]
    repeat' (first | refine awp_seq ?_ | refine awp_block ?_ | refine awp_round ?_ | refine awp_scope ?_ | refine awp_text rfl ?_ | refine awp_any rfl mix (by kernel_rfl) ?_ | (refine RunTo.unguard rfl rfl (fun hg => ?_) (fun hg => ?_) <;> ((try simp only [Bool.not_true, Bool.not_false, Bool.not_eq_true', Bool.not_eq_false', Bool.not_eq_eq_eq_not] at hg); (first | (cases hg) | (simp only [hg]) | skip))) | ((first | refine RunTo.plain rfl ?_ | refine RunTo.skipped rfl ?_); simp only [go_sem, ↓reduceIte, Nat.reduceEqDiff, Nat.reduceAdd, Nat.reduceLeDiff, Nat.reduceBEq, Nat.reduceMul, reduceCtorEq, Int.reduceLE, Int.reduceLT, Int.reduceAdd, Int.reduceSub, Int.reduceNeg, Int.reduceToNat, Int.reduceBEq, d3]) | ((first | refine RunTo.nilA (by kernel_rfl) ?_ | refine RunTo.nilT ?_ | refine awp_skip ?_ | refine awp_exit ?_ | refine awp_label ?_); simp only [go_sem, ↓reduceIte, Nat.reduceEqDiff, Nat.reduceAdd, Nat.reduceLeDiff, Nat.reduceBEq, Nat.reduceMul, reduceCtorEq, Int.reduceLE, Int.reduceLT, Int.reduceAdd, Int.reduceSub, Int.reduceNeg, Int.reduceToNat, Int.reduceBEq, d3]) | (refine awp_cond' rfl (of_decide_eq_true rfl) (fun hc => ?_) (fun hc => ?_) <;> ((try simp only [Bool.not_true, Bool.not_false, Bool.not_eq_true', Bool.not_eq_false', Bool.not_eq_eq_eq_not] at hc); (first | (cases hc) | (simp only [hc]) | skip))))
    all_goals (first | refine awp_ret ?_ | skip); refine ⟨(by first | exact .inl rfl | exact .inr rfl | exact .inr trivial | trivial), ?_⟩; simp only [go_sem, ↓reduceIte, Nat.reduceEqDiff, Nat.reduceAdd, Nat.reduceLeDiff, Nat.reduceBEq, Nat.reduceMul, reduceCtorEq, Int.reduceLE, Int.reduceLT, Int.reduceAdd, Int.reduceSub, Int.reduceNeg, Int.reduceToNat, Int.reduceBEq, retV, resL, resV, sealV, sealC, sealAll, Tryz.f30]
    all_goals rfl
  · have d3 : decide (op ≤ 3) = false := decide_eq_false h3
    rw [if_neg h3]
    by_cases h5 : op ≤ 5
    · have d5 : decide (op ≤ 5) = true := decide_eq_true h5
      rw [if_pos h5]
      refine pure_of_awp Tryz.func30 rfl rfl (by simp [Tryz.f30]) ?_; simp only [go_sem, ↓reduceIte, Nat.reduceEqDiff, Nat.reduceAdd, Nat.reduceLeDiff, Nat.reduceBEq, Nat.reduceMul, reduceCtorEq, Int.reduceLE, Int.reduceLT, Int.reduceAdd, Int.reduceSub, Int.reduceNeg, Int.reduceToNat, Int.reduceBEq]
      repeat' (first | refine awp_seq ?_ | refine awp_block ?_ | refine awp_round ?_ | refine awp_scope ?_ | refine awp_text rfl ?_ | refine awp_any rfl mix (by kernel_rfl) ?_ | (refine RunTo.unguard rfl rfl (fun hg => ?_) (fun hg => ?_) <;> ((try simp only [Bool.not_true, Bool.not_false, Bool.not_eq_true', Bool.not_eq_false', Bool.not_eq_eq_eq_not] at hg); (first | (cases hg) | (simp only [hg]) | skip))) | ((first | refine RunTo.plain rfl ?_ | refine RunTo.skipped rfl ?_); simp only [go_sem, ↓reduceIte, Nat.reduceEqDiff, Nat.reduceAdd, Nat.reduceLeDiff, Nat.reduceBEq, Nat.reduceMul, reduceCtorEq, Int.reduceLE, Int.reduceLT, Int.reduceAdd, Int.reduceSub, Int.reduceNeg, Int.reduceToNat, Int.reduceBEq, d3, d5]) | ((first | refine RunTo.nilA (by kernel_rfl) ?_ | refine RunTo.nilT ?_ | refine awp_skip ?_ | refine awp_exit ?_ | refine awp_label ?_); simp only [go_sem, ↓reduceIte, Nat.reduceEqDiff, Nat.reduceAdd, Nat.reduceLeDiff, Nat.reduceBEq, Nat.reduceMul, reduceCtorEq, Int.reduceLE, Int.reduceLT, Int.reduceAdd, Int.reduceSub, Int.reduceNeg, Int.reduceToNat, Int.reduceBEq, d3, d5]) | (refine awp_cond' rfl (of_decide_eq_true rfl) (fun hc => ?_) (fun hc => ?_) <;> ((try simp only [Bool.not_true, Bool.not_false, Bool.not_eq_true', Bool.not_eq_false', Bool.not_eq_eq_eq_not] at hc); (first | (cases hc) | (simp only [hc]) | skip))))
      all_goals (first | refine awp_ret ?_ | skip); refine ⟨(by first | exact .inl rfl | exact .inr rfl | exact .inr trivial | trivial), ?_⟩; simp only [go_sem, ↓reduceIte, Nat.reduceEqDiff, Nat.reduceAdd, Nat.reduceLeDiff, Nat.reduceBEq, Nat.reduceMul, reduceCtorEq, Int.reduceLE, Int.reduceLT, Int.reduceAdd, Int.reduceSub, Int.reduceNeg, Int.reduceToNat, Int.reduceBEq, retV, resL, resV, sealV, sealC, sealAll, Tryz.f30]
      all_goals rfl
    · have d5 : decide (op ≤ 5) = false := decide_eq_false h5
      rw [if_neg h5]
      refine pure_of_awp Tryz.func30 rfl rfl (by simp [Tryz.f30]) ?_; simp only [go_sem, ↓reduceIte, Nat.reduceEqDiff, Nat.reduceAdd, Nat.reduceLeDiff, Nat.reduceBEq, Nat.reduceMul, reduceCtorEq, Int.reduceLE, Int.reduceLT, Int.reduceAdd, Int.reduceSub, Int.reduceNeg, Int.reduceToNat, Int.reduceBEq]
      repeat' (first | refine awp_seq ?_ | refine awp_block ?_ | refine awp_round ?_ | refine awp_scope ?_ | refine awp_text rfl ?_ | refine awp_any rfl mix (by kernel_rfl) ?_ | (refine RunTo.unguard rfl rfl (fun hg => ?_) (fun hg => ?_) <;> ((try simp only [Bool.not_true, Bool.not_false, Bool.not_eq_true', Bool.not_eq_false', Bool.not_eq_eq_eq_not] at hg); (first | (cases hg) | (simp only [hg]) | skip))) | ((first | refine RunTo.plain rfl ?_ | refine RunTo.skipped rfl ?_); simp only [go_sem, ↓reduceIte, Nat.reduceEqDiff, Nat.reduceAdd, Nat.reduceLeDiff, Nat.reduceBEq, Nat.reduceMul, reduceCtorEq, Int.reduceLE, Int.reduceLT, Int.reduceAdd, Int.reduceSub, Int.reduceNeg, Int.reduceToNat, Int.reduceBEq, d3, d5]) | ((first | refine RunTo.nilA (by kernel_rfl) ?_ | refine RunTo.nilT ?_ | refine awp_skip ?_ | refine awp_exit ?_ | refine awp_label ?_); simp only [go_sem, ↓reduceIte, Nat.reduceEqDiff, Nat.reduceAdd, Nat.reduceLeDiff, Nat.reduceBEq, Nat.reduceMul, reduceCtorEq, Int.reduceLE, Int.reduceLT, Int.reduceAdd, Int.reduceSub, Int.reduceNeg, Int.reduceToNat, Int.reduceBEq, d3, d5]) | (refine awp_cond' rfl (of_decide_eq_true rfl) (fun hc => ?_) (fun hc => ?_) <;> ((try simp only [Bool.not_true, Bool.not_false, Bool.not_eq_true', Bool.not_eq_false', Bool.not_eq_eq_eq_not] at hc); (first | (cases hc) | (simp only [hc]) | skip))))
      all_goals (first | refine awp_ret ?_ | skip); refine ⟨(by first | exact .inl rfl | exact .inr rfl | exact .inr trivial | trivial), ?_⟩; simp only [go_sem, ↓reduceIte, Nat.reduceEqDiff, Nat.reduceAdd, Nat.reduceLeDiff, Nat.reduceBEq, Nat.reduceMul, reduceCtorEq, Int.reduceLE, Int.reduceLT, Int.reduceAdd, Int.reduceSub, Int.reduceNeg, Int.reduceToNat, Int.reduceBEq, retV, resL, resV, sealV, sealC, sealAll, Tryz.f30]
      all_goals rfl
def zatB (a : AtomD) : Bool := a.k == 0 && (a.n == 0 && ((a.f : Int) == 0 && (a.s.toList == eE.toList)))
theorem c_rSameAtZ (a : AtomD) : Pure Tryz.prog 94 [a.av, .agg [iv 0, iv 0, fv 0, sv eE]] (bv (zatB a)) := by
  have b1 := c_rBits a.f
  have b0 := c_rBits 0
  unfold zatB
  cases h1 : (a.k == 0) <;> cases h2 : (a.n == 0) <;> cases h3 : ((a.f : Int) == 0) <;> cases h4 : (a.s.toList == eE.toList)
  all_goals
    have h3' : ((a.f : Int) == ((0 : Nat) : Int)) = _ := h3
    refine pure_of_awp Tryz.func94 rfl rfl (by simp [Tryz.f94]) ?_; simp only [go_sem, ↓reduceIte, Nat.reduceEqDiff, Nat.reduceAdd, Nat.reduceLeDiff, Nat.reduceBEq, Nat.reduceMul, reduceCtorEq, Int.reduceLE, Int.reduceLT, Int.reduceAdd, Int.reduceSub, Int.reduceNeg, Int.reduceToNat, Int.reduceBEq]
    repeat' (first | refine awp_seq ?_ | refine awp_block ?_ | refine awp_round ?_ | refine awp_scope ?_ | refine awp_text rfl ?_ | refine awp_any rfl mix (by kernel_rfl) ?_ | (refine RunTo.unguard rfl rfl (fun hg => ?_) (fun hg => ?_) <;> ((try simp only [Bool.not_true, Bool.not_false, Bool.not_eq_true', Bool.not_eq_false', Bool.not_eq_eq_eq_not] at hg); (first | (cases hg) | (simp only [hg]) | skip))) | ((first | refine RunTo.plain rfl ?_ | refine RunTo.skipped rfl ?_ | refine RunTo.call (b1) Tryz.func86 rfl rfl rfl rfl rfl rfl rfl rfl ?_ | refine RunTo.call (b0) Tryz.func86 rfl rfl rfl rfl rfl rfl rfl rfl ?_); simp only [go_sem, ↓reduceIte, Nat.reduceEqDiff, Nat.reduceAdd, Nat.reduceLeDiff, Nat.reduceBEq, Nat.reduceMul, reduceCtorEq, Int.reduceLE, Int.reduceLT, Int.reduceAdd, Int.reduceSub, Int.reduceNeg, Int.reduceToNat, Int.reduceBEq, AtomD.av, h1, h2, h3, h3', h4]) | ((first | refine RunTo.nilA (by kernel_rfl) ?_ | refine RunTo.nilT ?_ | refine awp_skip ?_ | refine awp_exit ?_ | refine awp_label ?_); simp only [go_sem, ↓reduceIte, Nat.reduceEqDiff, Nat.reduceAdd, Nat.reduceLeDiff, Nat.reduceBEq, Nat.reduceMul, reduceCtorEq, Int.reduceLE, Int.reduceLT, Int.reduceAdd, Int.reduceSub, Int.reduceNeg, Int.reduceToNat, Int.reduceBEq, AtomD.av, h1, h2, h3, h3', h4]) | (refine awp_cond' rfl (of_decide_eq_true rfl) (fun hc => ?_) (fun hc => ?_) <;> ((try simp only [Bool.not_true, Bool.not_false, Bool.not_eq_true', Bool.not_eq_false', Bool.not_eq_eq_eq_not] at hc); (first | (cases hc) | (simp only [hc]) | skip))))
    all_goals (first | refine awp_ret ?_ | skip); refine ⟨(by first | exact .inl rfl | exact .inr rfl | exact .inr trivial | trivial), ?_⟩; simp only [go_sem, ↓reduceIte, Nat.reduceEqDiff, Nat.reduceAdd, Nat.reduceLeDiff, Nat.reduceBEq, Nat.reduceMul, reduceCtorEq, Int.reduceLE, Int.reduceLT, Int.reduceAdd, Int.reduceSub, Int.reduceNeg, Int.reduceToNat, Int.reduceBEq, retV, resL, resV, sealV, sealC, sealAll, Tryz.f94]
    all_goals rfl
end Go.Proofs.YtinpnidokpjfhaaGreatDoor.AM
namespace Go.Proofs.YtinpnidokpjfhaaGreatDoor.AM
open Go.RowKit
set_option linter.unusedSimpArgs false
set_option linter.unusedVariables false
set_option maxRecDepth 10000
set_option maxHeartbeats 0
theorem zeroV_eq (v : ValD) : zeroV v = (zatB v.a && ((v.l.length : Int) == 0)) := by
  unfold zeroV zatB
  simp only [Bool.and_assoc]
theorem c_rSameZ (v : ValD) : Pure Tryz.prog 73 [v.av, .agg [iv 0, iv 0, fv 0, sv eE, .lit (.slice none 0 0)]] (bv (zeroV v)) := by
  have s0 := c_rSameAtZ v.a
  rw [zeroV_eq]
  generalize zatB v.a = z at *
  cases z <;> cases hl : ((v.l.length : Int) == 0)
  all_goals
    refine pure_of_awp Tryz.func73 rfl rfl (by simp [Tryz.f73]) ?_; simp only [go_sem, ↓reduceIte, Nat.reduceEqDiff, Nat.reduceAdd, Nat.reduceLeDiff, Nat.reduceBEq, Nat.reduceMul, reduceCtorEq, Int.reduceLE, Int.reduceLT, Int.reduceAdd, Int.reduceSub, Int.reduceNeg, Int.reduceToNat, Int.reduceBEq]
    repeat' (first | refine awp_seq ?_ | refine awp_block ?_ | refine awp_round ?_ | refine awp_scope ?_ | refine awp_text rfl ?_ | refine awp_any rfl mix (by kernel_rfl) ?_ | (refine RunTo.unguard rfl rfl (fun hg => ?_) (fun hg => ?_) <;> ((try simp only [Bool.not_true, Bool.not_false, Bool.not_eq_true', Bool.not_eq_false', Bool.not_eq_eq_eq_not] at hg); (first | (cases hg) | (simp only [hg]) | skip))) | ((first | refine RunTo.plain rfl ?_ | refine RunTo.skipped rfl ?_ | refine RunTo.call (s0) Tryz.func94 rfl rfl rfl rfl rfl rfl rfl rfl ?_); simp only [go_sem, ↓reduceIte, Nat.reduceEqDiff, Nat.reduceAdd, Nat.reduceLeDiff, Nat.reduceBEq, Nat.reduceMul, reduceCtorEq, Int.reduceLE, Int.reduceLT, Int.reduceAdd, Int.reduceSub, Int.reduceNeg, Int.reduceToNat, Int.reduceBEq, ValD.av, bne, hl, List.length_map, Bool.not_true, Bool.not_false]) | ((first | refine RunTo.nilA (by kernel_rfl) ?_ | refine RunTo.nilT ?_ | refine awp_skip ?_ | refine awp_exit ?_ | refine awp_label ?_); simp only [go_sem, ↓reduceIte, Nat.reduceEqDiff, Nat.reduceAdd, Nat.reduceLeDiff, Nat.reduceBEq, Nat.reduceMul, reduceCtorEq, Int.reduceLE, Int.reduceLT, Int.reduceAdd, Int.reduceSub, Int.reduceNeg, Int.reduceToNat, Int.reduceBEq, ValD.av, bne, hl, List.length_map, Bool.not_true, Bool.not_false]) | (refine awp_cond' rfl (of_decide_eq_true rfl) (fun hc => ?_) (fun hc => ?_) <;> ((try simp only [Bool.not_true, Bool.not_false, Bool.not_eq_true', Bool.not_eq_false', Bool.not_eq_eq_eq_not] at hc); (first | (cases hc) | (simp only [hc]) | skip))))
  case true.true =>
    have hz : v.l.length = 0 := by
      have := beq_iff_eq.1 hl
      omega
    have hd : decide ((0 : Int) < (v.l.length : Int)) = false := decide_eq_false (by omega)
    refine awp_rounds 1 ?_
    repeat' (first | refine awp_seq ?_ | refine awp_block ?_ | refine awp_round ?_ | refine awp_scope ?_ | refine awp_text rfl ?_ | refine awp_any rfl mix (by kernel_rfl) ?_ | (refine RunTo.unguard rfl rfl (fun hg => ?_) (fun hg => ?_) <;> ((try simp only [Bool.not_true, Bool.not_false, Bool.not_eq_true', Bool.not_eq_false', Bool.not_eq_eq_eq_not] at hg); (first | (cases hg) | (simp only [hg]) | skip))) | ((first | refine RunTo.plain rfl ?_ | refine RunTo.skipped rfl ?_); simp only [go_sem, ↓reduceIte, Nat.reduceEqDiff, Nat.reduceAdd, Nat.reduceLeDiff, Nat.reduceBEq, Nat.reduceMul, reduceCtorEq, Int.reduceLE, Int.reduceLT, Int.reduceAdd, Int.reduceSub, Int.reduceNeg, Int.reduceToNat, Int.reduceBEq, hd, List.length_map]) | ((first | refine RunTo.nilA (by kernel_rfl) ?_ | refine RunTo.nilT ?_ | refine awp_skip ?_ | refine awp_exit ?_ | refine awp_label ?_); simp only [go_sem, ↓reduceIte, Nat.reduceEqDiff, Nat.reduceAdd, Nat.reduceLeDiff, Nat.reduceBEq, Nat.reduceMul, reduceCtorEq, Int.reduceLE, Int.reduceLT, Int.reduceAdd, Int.reduceSub, Int.reduceNeg, Int.reduceToNat, Int.reduceBEq, hd, List.length_map]) | (refine awp_cond' rfl (of_decide_eq_true rfl) (fun hc => ?_) (fun hc => ?_) <;> ((try simp only [Bool.not_true, Bool.not_false, Bool.not_eq_true', Bool.not_eq_false', Bool.not_eq_eq_eq_not] at hc); (first | (cases hc) | (simp only [hc]) | skip))))
    all_goals (first | refine awp_ret ?_ | skip); refine ⟨(by first | exact .inl rfl | exact .inr rfl | exact .inr trivial | trivial), ?_⟩; simp only [go_sem, ↓reduceIte, Nat.reduceEqDiff, Nat.reduceAdd, Nat.reduceLeDiff, Nat.reduceBEq, Nat.reduceMul, reduceCtorEq, Int.reduceLE, Int.reduceLT, Int.reduceAdd, Int.reduceSub, Int.reduceNeg, Int.reduceToNat, Int.reduceBEq, retV, resL, resV, sealV, sealC, sealAll, Tryz.f73]
    all_goals rfl
  all_goals (first | refine awp_ret ?_ | skip); refine ⟨(by first | exact .inl rfl | exact .inr rfl | exact .inr trivial | trivial), ?_⟩; simp only [go_sem, ↓reduceIte, Nat.reduceEqDiff, Nat.reduceAdd, Nat.reduceLeDiff, Nat.reduceBEq, Nat.reduceMul, reduceCtorEq, Int.reduceLE, Int.reduceLT, Int.reduceAdd, Int.reduceSub, Int.reduceNeg, Int.reduceToNat, Int.reduceBEq, retV, resL, resV, sealV, sealC, sealAll, Tryz.f73]
  all_goals rfl
def rTerm (t : TermD) : Bool := if t.op = 1 then ((t.var.toList == eE.toList) && (t.name.toList == eE.toList)) && plainV t.v
  else if t.op = 2 then (isName t.var && isName t.name) && zeroV t.v
  else if t.op = 3 then (isName t.var && (t.name.toList == eE.toList)) && zeroV t.v
  else ((t.var.toList == eE.toList) && (t.name.toList == eE.toList)) && zeroV t.v
theorem isName_empty {s : ByteArray} (h : (s.toList == eE.toList) = true) : isName s = false := by
  unfold isName nameS
  have : (s.toList != eE.toList) = false := by rw [bne, h]; rfl
  rw [this]
  simp
theorem rTerm_eq (t : TermD) : rTerm t = rightT t := by
  have e1 := isName_empty (s := t.var)
  have e2 := isName_empty (s := t.name)
  have hr : rightT t = (if (((t.op == 2 || t.op == 3) != isName t.var) || (!(t.op == 2 || t.op == 3) && !(t.var.toList == eE.toList))) = true then false
      else if (((t.op == 2) != isName t.name) || (!(t.op == 2) && !(t.name.toList == eE.toList))) = true then false else if (t.op == 1) = true then plainV t.v else zeroV t.v) := rfl
  rw [hr]
  clear hr
  unfold rTerm
  generalize isName t.var = a at *
  generalize isName t.name = b at *
  generalize (t.var.toList == eE.toList) = c at *
  generalize (t.name.toList == eE.toList) = d at *
  generalize plainV t.v = p at *
  generalize zeroV t.v = z at *
  by_cases h1 : t.op = 1
  · rw [h1]
    cases a <;> cases b <;> cases c <;> cases d <;> cases p <;> simp_all
  · by_cases h2 : t.op = 2
    · rw [h2]
      cases a <;> cases b <;> cases c <;> cases d <;> cases z <;> simp_all
    · by_cases h3 : t.op = 3
      · rw [h3]
        cases a <;> cases b <;> cases c <;> cases d <;> cases z <;> simp_all
      · have q1 : (t.op == 1) = false := by simpa using h1
        have q2 : (t.op == 2) = false := by simpa using h2
        have q3 : (t.op == 3) = false := by simpa using h3
        rw [q1, q2, q3, if_neg h1, if_neg h2, if_neg h3]
        cases a <;> cases b <;> cases c <;> cases d <;> cases z <;> simp_all
end Go.Proofs.YtinpnidokpjfhaaGreatDoor.AM
namespace Go.Proofs.YtinpnidokpjfhaaGreatDoor.AM
open Go.RowKit
set_option linter.unusedSimpArgs false
set_option linter.unusedVariables false
set_option maxRecDepth 10000
set_option maxHeartbeats 0
theorem c_rTerm (t : TermD) (h1 : t.var.size ≤ 1000000000) (h2 : t.name.size ≤ 1000000000) (hf : flV t.v) : Pure Tryz.prog 60 [t.av] (bv (rightT t)) := by
  rw [← rTerm_eq]
  have n1 := c_rname t.var h1
  have n2 := c_rname t.name h2
  have hp := c_rPlain t.v hf
  have hz := c_rSameZ t.v
  unfold rTerm
  obtain ⟨op, var, name, v⟩ := t
  dsimp only at *
  generalize isName var = a at *
  generalize isName name = b at *
  generalize hc : (var.toList == eE.toList) = c at *
  generalize hd : (name.toList == eE.toList) = d at *
  have hc' : (var.toList == ({ data := #[] } : ByteArray).toList) = c := hc
  have hd' : (name.toList == ({ data := #[] } : ByteArray).toList) = d := hd
  generalize plainV v = p at *
  generalize zeroV v = z at *
  by_cases g1 : op = 1
  · subst g1
    rw [if_pos rfl]
    cases c <;> cases d <;> cases p
    all_goals
      refine pure_of_awp Tryz.func60 rfl rfl (by simp [Tryz.f60]) ?_; simp only [go_sem, ↓reduceIte, Nat.reduceEqDiff, Nat.reduceAdd, Nat.reduceLeDiff, Nat.reduceBEq, Nat.reduceMul, reduceCtorEq, Int.reduceLE, Int.reduceLT, Int.reduceAdd, Int.reduceSub, Int.reduceNeg, Int.reduceToNat, Int.reduceBEq]
      repeat' (first | refine awp_seq ?_ | refine awp_block ?_ | refine awp_round ?_ | refine awp_scope ?_ | refine awp_text rfl ?_ | refine awp_any rfl mix (by kernel_rfl) ?_ | (refine RunTo.unguard rfl rfl (fun hg => ?_) (fun hg => ?_) <;> ((try simp only [Bool.not_true, Bool.not_false, Bool.not_eq_true', Bool.not_eq_false', Bool.not_eq_eq_eq_not] at hg); (first | (cases hg) | (simp only [hg]) | skip))) | ((first | refine RunTo.plain rfl ?_ | refine RunTo.skipped rfl ?_ | refine RunTo.call (hz) Tryz.func73 rfl rfl rfl rfl rfl rfl rfl rfl ?_ | refine RunTo.call (n1) Tryz.func57 rfl rfl rfl rfl rfl rfl rfl rfl ?_ | refine RunTo.call (n2) Tryz.func57 rfl rfl rfl rfl rfl rfl rfl rfl ?_ | refine RunTo.call (hp) Tryz.func58 rfl rfl rfl rfl rfl rfl rfl rfl ?_); simp only [go_sem, ↓reduceIte, Nat.reduceEqDiff, Nat.reduceAdd, Nat.reduceLeDiff, Nat.reduceBEq, Nat.reduceMul, reduceCtorEq, Int.reduceLE, Int.reduceLT, Int.reduceAdd, Int.reduceSub, Int.reduceNeg, Int.reduceToNat, Int.reduceBEq, TermD.av, hc', hd']) | ((first | refine RunTo.nilA (by kernel_rfl) ?_ | refine RunTo.nilT ?_ | refine awp_skip ?_ | refine awp_exit ?_ | refine awp_label ?_); simp only [go_sem, ↓reduceIte, Nat.reduceEqDiff, Nat.reduceAdd, Nat.reduceLeDiff, Nat.reduceBEq, Nat.reduceMul, reduceCtorEq, Int.reduceLE, Int.reduceLT, Int.reduceAdd, Int.reduceSub, Int.reduceNeg, Int.reduceToNat, Int.reduceBEq, TermD.av, hc', hd']) | (refine awp_cond' rfl (of_decide_eq_true rfl) (fun hc => ?_) (fun hc => ?_) <;> ((try simp only [Bool.not_true, Bool.not_false, Bool.not_eq_true', Bool.not_eq_false', Bool.not_eq_eq_eq_not] at hc); (first | (cases hc) | (simp only [hc]) | skip))))
      all_goals (first | refine awp_ret ?_ | skip); refine ⟨(by first | exact .inl rfl | exact .inr rfl | exact .inr trivial | trivial), ?_⟩; simp only [go_sem, ↓reduceIte, Nat.reduceEqDiff, Nat.reduceAdd, Nat.reduceLeDiff, Nat.reduceBEq, Nat.reduceMul, reduceCtorEq, Int.reduceLE, Int.reduceLT, Int.reduceAdd, Int.reduceSub, Int.reduceNeg, Int.reduceToNat, Int.reduceBEq, retV, resL, resV, sealV, sealC, sealAll, Tryz.f60]
      all_goals rfl
  rw [if_neg g1]
  have q1 : (op == 1) = false := by simpa using g1
  by_cases g2 : op = 2
  · subst g2
    rw [if_pos rfl]
    cases a <;> cases b <;> cases z
    all_goals
      refine pure_of_awp Tryz.func60 rfl rfl (by simp [Tryz.f60]) ?_; simp only [go_sem, ↓reduceIte, Nat.reduceEqDiff, Nat.reduceAdd, Nat.reduceLeDiff, Nat.reduceBEq, Nat.reduceMul, reduceCtorEq, Int.reduceLE, Int.reduceLT, Int.reduceAdd, Int.reduceSub, Int.reduceNeg, Int.reduceToNat, Int.reduceBEq]
      repeat' (first | refine awp_seq ?_ | refine awp_block ?_ | refine awp_round ?_ | refine awp_scope ?_ | refine awp_text rfl ?_ | refine awp_any rfl mix (by kernel_rfl) ?_ | (refine RunTo.unguard rfl rfl (fun hg => ?_) (fun hg => ?_) <;> ((try simp only [Bool.not_true, Bool.not_false, Bool.not_eq_true', Bool.not_eq_false', Bool.not_eq_eq_eq_not] at hg); (first | (cases hg) | (simp only [hg]) | skip))) | ((first | refine RunTo.plain rfl ?_ | refine RunTo.skipped rfl ?_ | refine RunTo.call (hz) Tryz.func73 rfl rfl rfl rfl rfl rfl rfl rfl ?_ | refine RunTo.call (n1) Tryz.func57 rfl rfl rfl rfl rfl rfl rfl rfl ?_ | refine RunTo.call (n2) Tryz.func57 rfl rfl rfl rfl rfl rfl rfl rfl ?_ | refine RunTo.call (hp) Tryz.func58 rfl rfl rfl rfl rfl rfl rfl rfl ?_); simp only [go_sem, ↓reduceIte, Nat.reduceEqDiff, Nat.reduceAdd, Nat.reduceLeDiff, Nat.reduceBEq, Nat.reduceMul, reduceCtorEq, Int.reduceLE, Int.reduceLT, Int.reduceAdd, Int.reduceSub, Int.reduceNeg, Int.reduceToNat, Int.reduceBEq, TermD.av, hc', hd']) | ((first | refine RunTo.nilA (by kernel_rfl) ?_ | refine RunTo.nilT ?_ | refine awp_skip ?_ | refine awp_exit ?_ | refine awp_label ?_); simp only [go_sem, ↓reduceIte, Nat.reduceEqDiff, Nat.reduceAdd, Nat.reduceLeDiff, Nat.reduceBEq, Nat.reduceMul, reduceCtorEq, Int.reduceLE, Int.reduceLT, Int.reduceAdd, Int.reduceSub, Int.reduceNeg, Int.reduceToNat, Int.reduceBEq, TermD.av, hc', hd']) | (refine awp_cond' rfl (of_decide_eq_true rfl) (fun hc => ?_) (fun hc => ?_) <;> ((try simp only [Bool.not_true, Bool.not_false, Bool.not_eq_true', Bool.not_eq_false', Bool.not_eq_eq_eq_not] at hc); (first | (cases hc) | (simp only [hc]) | skip))))
      all_goals (first | refine awp_ret ?_ | skip); refine ⟨(by first | exact .inl rfl | exact .inr rfl | exact .inr trivial | trivial), ?_⟩; simp only [go_sem, ↓reduceIte, Nat.reduceEqDiff, Nat.reduceAdd, Nat.reduceLeDiff, Nat.reduceBEq, Nat.reduceMul, reduceCtorEq, Int.reduceLE, Int.reduceLT, Int.reduceAdd, Int.reduceSub, Int.reduceNeg, Int.reduceToNat, Int.reduceBEq, retV, resL, resV, sealV, sealC, sealAll, Tryz.f60]
      all_goals rfl
  rw [if_neg g2]
  have q2 : (op == 2) = false := by simpa using g2
  by_cases g3 : op = 3
  · subst g3
    rw [if_pos rfl]
    cases a <;> cases d <;> cases z
    all_goals
      refine pure_of_awp Tryz.func60 rfl rfl (by simp [Tryz.f60]) ?_; simp only [go_sem, ↓reduceIte, Nat.reduceEqDiff, Nat.reduceAdd, Nat.reduceLeDiff, Nat.reduceBEq, Nat.reduceMul, reduceCtorEq, Int.reduceLE, Int.reduceLT, Int.reduceAdd, Int.reduceSub, Int.reduceNeg, Int.reduceToNat, Int.reduceBEq]
      repeat' (first | refine awp_seq ?_ | refine awp_block ?_ | refine awp_round ?_ | refine awp_scope ?_ | refine awp_text rfl ?_ | refine awp_any rfl mix (by kernel_rfl) ?_ | (refine RunTo.unguard rfl rfl (fun hg => ?_) (fun hg => ?_) <;> ((try simp only [Bool.not_true, Bool.not_false, Bool.not_eq_true', Bool.not_eq_false', Bool.not_eq_eq_eq_not] at hg); (first | (cases hg) | (simp only [hg]) | skip))) | ((first | refine RunTo.plain rfl ?_ | refine RunTo.skipped rfl ?_ | refine RunTo.call (hz) Tryz.func73 rfl rfl rfl rfl rfl rfl rfl rfl ?_ | refine RunTo.call (n1) Tryz.func57 rfl rfl rfl rfl rfl rfl rfl rfl ?_ | refine RunTo.call (n2) Tryz.func57 rfl rfl rfl rfl rfl rfl rfl rfl ?_ | refine RunTo.call (hp) Tryz.func58 rfl rfl rfl rfl rfl rfl rfl rfl ?_); simp only [go_sem, ↓reduceIte, Nat.reduceEqDiff, Nat.reduceAdd, Nat.reduceLeDiff, Nat.reduceBEq, Nat.reduceMul, reduceCtorEq, Int.reduceLE, Int.reduceLT, Int.reduceAdd, Int.reduceSub, Int.reduceNeg, Int.reduceToNat, Int.reduceBEq, TermD.av, hc', hd']) | ((first | refine RunTo.nilA (by kernel_rfl) ?_ | refine RunTo.nilT ?_ | refine awp_skip ?_ | refine awp_exit ?_ | refine awp_label ?_); simp only [go_sem, ↓reduceIte, Nat.reduceEqDiff, Nat.reduceAdd, Nat.reduceLeDiff, Nat.reduceBEq, Nat.reduceMul, reduceCtorEq, Int.reduceLE, Int.reduceLT, Int.reduceAdd, Int.reduceSub, Int.reduceNeg, Int.reduceToNat, Int.reduceBEq, TermD.av, hc', hd']) | (refine awp_cond' rfl (of_decide_eq_true rfl) (fun hc => ?_) (fun hc => ?_) <;> ((try simp only [Bool.not_true, Bool.not_false, Bool.not_eq_true', Bool.not_eq_false', Bool.not_eq_eq_eq_not] at hc); (first | (cases hc) | (simp only [hc]) | skip))))
      all_goals (first | refine awp_ret ?_ | skip); refine ⟨(by first | exact .inl rfl | exact .inr rfl | exact .inr trivial | trivial), ?_⟩; simp only [go_sem, ↓reduceIte, Nat.reduceEqDiff, Nat.reduceAdd, Nat.reduceLeDiff, Nat.reduceBEq, Nat.reduceMul, reduceCtorEq, Int.reduceLE, Int.reduceLT, Int.reduceAdd, Int.reduceSub, Int.reduceNeg, Int.reduceToNat, Int.reduceBEq, retV, resL, resV, sealV, sealC, sealAll, Tryz.f60]
      all_goals rfl
  rw [if_neg g3]
  have q3 : (op == 3) = false := by simpa using g3
  cases c <;> cases d <;> cases z
  all_goals
    refine pure_of_awp Tryz.func60 rfl rfl (by simp [Tryz.f60]) ?_; simp only [go_sem, ↓reduceIte, Nat.reduceEqDiff, Nat.reduceAdd, Nat.reduceLeDiff, Nat.reduceBEq, Nat.reduceMul, reduceCtorEq, Int.reduceLE, Int.reduceLT, Int.reduceAdd, Int.reduceSub, Int.reduceNeg, Int.reduceToNat, Int.reduceBEq]
    repeat' (first | refine awp_seq ?_ | refine awp_block ?_ | refine awp_round ?_ | refine awp_scope ?_ | refine awp_text rfl ?_ | refine awp_any rfl mix (by kernel_rfl) ?_ | (refine RunTo.unguard rfl rfl (fun hg => ?_) (fun hg => ?_) <;> ((try simp only [Bool.not_true, Bool.not_false, Bool.not_eq_true', Bool.not_eq_false', Bool.not_eq_eq_eq_not] at hg); (first | (cases hg) | (simp only [hg]) | skip))) | ((first | refine RunTo.plain rfl ?_ | refine RunTo.skipped rfl ?_ | refine RunTo.call (hz) Tryz.func73 rfl rfl rfl rfl rfl rfl rfl rfl ?_ | refine RunTo.call (n1) Tryz.func57 rfl rfl rfl rfl rfl rfl rfl rfl ?_ | refine RunTo.call (n2) Tryz.func57 rfl rfl rfl rfl rfl rfl rfl rfl ?_ | refine RunTo.call (hp) Tryz.func58 rfl rfl rfl rfl rfl rfl rfl rfl ?_); simp only [go_sem, ↓reduceIte, Nat.reduceEqDiff, Nat.reduceAdd, Nat.reduceLeDiff, Nat.reduceBEq, Nat.reduceMul, reduceCtorEq, Int.reduceLE, Int.reduceLT, Int.reduceAdd, Int.reduceSub, Int.reduceNeg, Int.reduceToNat, Int.reduceBEq, TermD.av, hc', hd', q1, q2, q3]) | ((first | refine RunTo.nilA (by kernel_rfl) ?_ | refine RunTo.nilT ?_ | refine awp_skip ?_ | refine awp_exit ?_ | refine awp_label ?_); simp only [go_sem, ↓reduceIte, Nat.reduceEqDiff, Nat.reduceAdd, Nat.reduceLeDiff, Nat.reduceBEq, Nat.reduceMul, reduceCtorEq, Int.reduceLE, Int.reduceLT, Int.reduceAdd, Int.reduceSub, Int.reduceNeg, Int.reduceToNat, Int.reduceBEq, TermD.av, hc', hd', q1, q2, q3]) | (refine awp_cond' rfl (of_decide_eq_true rfl) (fun hc => ?_) (fun hc => ?_) <;> ((try simp only [Bool.not_true, Bool.not_false, Bool.not_eq_true', Bool.not_eq_false', Bool.not_eq_eq_eq_not] at hc); (first | (cases hc) | (simp only [hc]) | skip))))
    all_goals (first | refine awp_ret ?_ | skip); refine ⟨(by first | exact .inl rfl | exact .inr rfl | exact .inr trivial | trivial), ?_⟩; simp only [go_sem, ↓reduceIte, Nat.reduceEqDiff, Nat.reduceAdd, Nat.reduceLeDiff, Nat.reduceBEq, Nat.reduceMul, reduceCtorEq, Int.reduceLE, Int.reduceLT, Int.reduceAdd, Int.reduceSub, Int.reduceNeg, Int.reduceToNat, Int.reduceBEq, retV, resL, resV, sealV, sealC, sealAll, Tryz.f60]
    all_goals rfl
end Go.Proofs.YtinpnidokpjfhaaGreatDoor.AM
namespace Go.Proofs.YtinpnidokpjfhaaGreatDoor.AM
open Go.RowKit
set_option linter.unusedSimpArgs false
set_option linter.unusedVariables false
set_option maxRecDepth 10000
set_option maxHeartbeats 0
theorem beq_f' {a b : Int} (h : a ≠ b) : (a == b) = false := by rw [beq_eq_false_iff_ne]; exact h
abbrev dl (s : List Int) : List (List Dat) := s.map fun x => [di x]
abbrev SDe (ts : List TermD) (k T e : Nat) (s : List Int) : St := ⟨[(0, .dat (.lst 8 (ts.map TermD.enc))), (4, iv k), (3, .slc 66 e 0 s.length)], [(66, .arr e 1 (dl s))], T⟩
def IDe (ts : List TermD) (n : Nat) (st : St) : Prop := ∃ (k T e : Nat) (s : List Int), k ≤ ts.length ∧ n = ts.length - k ∧ deepS [] ts = deepS s (ts.drop k) ∧ (∀ x ∈ s, 0 ≤ x ∧ x ≤ k) ∧ s.length ≤ k ∧ st = SDe ts k T e s
end Go.Proofs.YtinpnidokpjfhaaGreatDoor.AM
