/- Part 10 of the proof: words, contracts, plain laws. Laid by a program of this session (wip/tool/shake.py): what is needed of own and printed texts, in order. -/
import Derived.Test.YtjihcldhjpdnmaaDoorZg0
import Derived.Test.YtjihcldhjpdnmaaDoorZg1
import Derived.Test.YtjihcldhjpdnmaaDoorZg2
import Derived.Test.YtjihcldhjpdnmaaDoorZg3
import Derived.Test.YtjihcldhjpdnmaaDoorZg5
import Derived.Test.YtjihcldhjpdnmaaDoorZg9
import Derived.Lib.ItoaMem
import Derived.Calls
import Derived.Lib.ItoaNum
import Derived.Orders
import Derived.Tactics
import Derived.Below
import Derived.Laws.Rows
import Derived.Laws.World
import Derived.Laws.CopyRow
import Derived.Lib.FrozenHead
import Derived.Deep.AppendSrc
import Derived.Deep.Upon
import Derived.Laws.BytesArg
import Derived.IntWalk
import Derived.Laws.Externs
import Derived.LoopN
import Derived.Scope
import Derived.Test.YtjihcldhjpdnmaaDoorProg
import Derived.KernelRfl
import Derived.MapKept
import Derived.Laws.FloatBits
import Derived.RegionTactic
import Derived.Lib.AppendIntMem
import Derived.Lib.Join
import Derived.Shelf.Strings.Builder1
import Derived.Shelf.Strings.Builder2
import Derived.Shelf.Strings.OnBuilder
import Derived.Shelf.Small.Strs
import Derived.Shelf.Small.Wraps
import Derived.Shelf.Strings.BuilderF
import Derived.Shelf.Strings.BuilderK
import Derived.Shelf.Strings.Builder2Cap
import Derived.Shelf.Strconv.Atoi
import Derived.Shelf.Strconv.Itoa0
import Derived.Shelf.Strconv.Itoa1
import Derived.Shelf.LaysM
import Derived.Shelf.Strconv.Itoa2
import Derived.Shelf.Strconv.Itoa3
import Derived.Shelf.Strconv.AtoiErrFast
import Derived.Shelf.Strconv.ParseIntEmpty
import Derived.Shelf.Strconv.AtoiFail
import Derived.Shelf.Strconv.Clone
import Derived.Shelf.Strconv.SyntaxError
import Derived.Shelf.LaysC
import Derived.Shelf.Strconv.ToError
import Derived.Shelf.Strconv.Lower
import Derived.Shelf.Strconv.ParseUint10
import Derived.Shelf.Strconv.ParseUint10Empty
import Derived.Shelf.Strconv.ParseUint10Any
import Derived.Shelf.Strconv.ParseInt10
import Derived.Shelf.Strconv.AtoiLong
import Derived.Shelf.Strconv.AtoiInnerAll
import Derived.Shelf.Strconv.RangeError
import Derived.Shelf.Strconv.ToErrorRange
import Derived.Shelf.Strconv.AtoiAll
import Derived.Shelf.Strings.Search1
import Derived.Shelf.Strings.Prefix
import Derived.Shelf.Strings.BuilderCap
import Derived.Shelf.Slices.Turned
import Derived.Ground.Names2Prog
import Derived.Shelf.Slices.SearchI
import Derived.Lib.ItoaLen
import Derived.Test.YtjihcldhjpdnmaaDoorZg6
import Derived.Test.YtjihcldhjpdnmaaDoorZg7
import Derived.Test.YtjihcldhjpdnmaaDoorZg8
import Derived.Recover
import Derived.WideLaws
namespace Go.Proofs.YtjihcldhjpdnmaaDoor.AM
open Go.RowKit
set_option linter.unusedSimpArgs false
set_option linter.unusedVariables false
set_option maxRecDepth 10000
set_option maxHeartbeats 0
theorem c_rDigits (u0 : Nat) (hu : u0 < 18446744073709551616) : Pure Tryd.prog 94 [uw u0] (sv (bs (Lib.decDigits u0))) := by
  refine pure_of_awp Tryd.func94 rfl rfl (by simp [Tryd.f94]) ?_; simp only [go_sem, ↓reduceIte, Nat.reduceEqDiff, Nat.reduceAdd, Nat.reduceLeDiff, Nat.reduceBEq, Nat.reduceMul, reduceCtorEq, Int.reduceLE, Int.reduceLT, Int.reduceAdd, Int.reduceSub, Int.reduceNeg, Int.reduceToNat, Int.reduceBEq]
  repeat' (first | refine awp_seq ?_ | refine awp_block ?_ | refine awp_round ?_ | refine awp_scope ?_ | refine awp_text rfl ?_ | refine awp_any rfl mix (by kernel_rfl) ?_ | (refine RunTo.unguard rfl rfl (fun hg => ?_) (fun hg => ?_) <;> ((try simp only [Bool.not_true, Bool.not_false, Bool.not_eq_true', Bool.not_eq_false', Bool.not_eq_eq_eq_not] at hg); (first | (cases hg) | (simp only [hg]) | skip))) | ((first | refine RunTo.plain rfl ?_ | refine RunTo.skipped rfl ?_); simp only [go_sem, ↓reduceIte, Nat.reduceEqDiff, Nat.reduceAdd, Nat.reduceLeDiff, Nat.reduceBEq, Nat.reduceMul, reduceCtorEq, Int.reduceLE, Int.reduceLT, Int.reduceAdd, Int.reduceSub, Int.reduceNeg, Int.reduceToNat, Int.reduceBEq]) | ((first | refine RunTo.nilA (by kernel_rfl) ?_ | refine RunTo.nilT ?_ | refine awp_skip ?_ | refine awp_exit ?_ | refine awp_label ?_); simp only [go_sem, ↓reduceIte, Nat.reduceEqDiff, Nat.reduceAdd, Nat.reduceLeDiff, Nat.reduceBEq, Nat.reduceMul, reduceCtorEq, Int.reduceLE, Int.reduceLT, Int.reduceAdd, Int.reduceSub, Int.reduceNeg, Int.reduceToNat, Int.reduceBEq]) | (refine awp_cond' rfl (of_decide_eq_true rfl) (fun hc => ?_) (fun hc => ?_) <;> ((try simp only [Bool.not_true, Bool.not_false, Bool.not_eq_true', Bool.not_eq_false', Bool.not_eq_eq_eq_not] at hc); (first | (cases hc) | (simp only [hc]) | skip))))
  refine awp_loopw (ID u0) u0 (SD u0 eE _) (weak_keep ⟨rfl, rfl, trivial⟩ trivial (Nat.le_refl _)) ⟨u0, eE, _, rfl, by show 0 * 9 + u0 ≤ u0; omega, by simp [eE], rfl⟩ ?_
  rintro n st ⟨u, s, T, rfl, hsz, hd, rfl⟩
  have w1 : IntKind.u64.wrap (((n % 10 : Nat) : Int) + 1) = ((n % 10 + 1 : Nat) : Int) := by rw [u64_in _ (by omega) (by omega)]; omega
  have w2 : IntKind.u64.wrap (((n / 10 : Nat) : Int)) = ((n / 10 : Nat) : Int) := u64_in _ (by omega) (by omega)
  have b1 : (n % 10 + 1 ≤ 10) = True := eq_true (by omega)
  have b3 : (1 + s.size ≤ 9223372036854775807) = True := eq_true (by omega)
  by_cases hlt : 10 ≤ n
  · have hdec : decide ((10 : Int) ≤ (n : Int)) = true := decide_eq_true (by omega)
    have hx := dig_at (n % 10) (by omega)
    unfold digB at hx
    repeat' (first | refine awp_seq ?_ | refine awp_block ?_ | refine awp_round ?_ | refine awp_scope ?_ | refine awp_text rfl ?_ | refine awp_any rfl mix (by kernel_rfl) ?_ | (refine RunTo.unguard rfl rfl (fun hg => ?_) (fun hg => ?_) <;> ((try simp only [Bool.not_true, Bool.not_false, Bool.not_eq_true', Bool.not_eq_false', Bool.not_eq_eq_eq_not] at hg); (first | (cases hg) | (simp only [hg]) | skip))) | ((first | refine RunTo.plain rfl ?_ | refine RunTo.skipped rfl ?_); simp only [go_sem, ↓reduceIte, Nat.reduceEqDiff, Nat.reduceAdd, Nat.reduceLeDiff, Nat.reduceBEq, Nat.reduceMul, reduceCtorEq, Int.reduceLE, Int.reduceLT, Int.reduceAdd, Int.reduceSub, Int.reduceNeg, Int.reduceToNat, Int.reduceBEq, hdec, tm10, td10, w1, w2, Nat.le_succ, b1, hx, one_size, b3, List.size_toArray]) | ((first | refine RunTo.nilA (by kernel_rfl) ?_ | refine RunTo.nilT ?_ | refine awp_skip ?_ | refine awp_exit ?_ | refine awp_label ?_); simp only [go_sem, ↓reduceIte, Nat.reduceEqDiff, Nat.reduceAdd, Nat.reduceLeDiff, Nat.reduceBEq, Nat.reduceMul, reduceCtorEq, Int.reduceLE, Int.reduceLT, Int.reduceAdd, Int.reduceSub, Int.reduceNeg, Int.reduceToNat, Int.reduceBEq, hdec, tm10, td10, w1, w2, Nat.le_succ, b1, hx, one_size, b3, List.size_toArray]) | (refine awp_cond' rfl (of_decide_eq_true rfl) (fun hc => ?_) (fun hc => ?_) <;> ((try simp only [Bool.not_true, Bool.not_false, Bool.not_eq_true', Bool.not_eq_false', Bool.not_eq_eq_eq_not] at hc); (first | (cases hc) | (simp only [hc]) | skip))))
    have hdd : Lib.decDigits n = Lib.decDigits (n / 10) ++ [UInt8.ofNat (48 + n % 10)] := by rw [Lib.decDigits, dif_neg (by omega)]
    exact ⟨n / 10, by omega, SD (n / 10) ((⟨#[UInt8.ofNat (48 + n % 10)]⟩ : ByteArray) ++ s) _, weak_keep ⟨rfl, rfl, trivial⟩ trivial (Nat.le_refl _), n / 10, _, _, rfl, by rw [ByteArray.size_append, one_size]; omega, by rw [← hd, hdd, List.append_assoc, ByteArray.data_append]; simp, rfl⟩
  · have hdec : decide ((10 : Int) ≤ (n : Int)) = false := decide_eq_false (by omega)
    have w3 : IntKind.u64.wrap ((n : Int) + 1) = ((n + 1 : Nat) : Int) := by rw [u64_in _ (by omega) (by omega)]; omega
    have hx := dig_at n (by omega)
    unfold digB at hx
    have b2 : (n + 1 ≤ 10) = True := eq_true (by omega)
    repeat' (first | refine awp_seq ?_ | refine awp_block ?_ | refine awp_round ?_ | refine awp_scope ?_ | refine awp_text rfl ?_ | refine awp_any rfl mix (by kernel_rfl) ?_ | (refine RunTo.unguard rfl rfl (fun hg => ?_) (fun hg => ?_) <;> ((try simp only [Bool.not_true, Bool.not_false, Bool.not_eq_true', Bool.not_eq_false', Bool.not_eq_eq_eq_not] at hg); (first | (cases hg) | (simp only [hg]) | skip))) | ((first | refine RunTo.plain rfl ?_ | refine RunTo.skipped rfl ?_); simp only [go_sem, ↓reduceIte, Nat.reduceEqDiff, Nat.reduceAdd, Nat.reduceLeDiff, Nat.reduceBEq, Nat.reduceMul, reduceCtorEq, Int.reduceLE, Int.reduceLT, Int.reduceAdd, Int.reduceSub, Int.reduceNeg, Int.reduceToNat, Int.reduceBEq, hdec, w3, Nat.le_succ, b2, hx, one_size, b3, List.size_toArray]) | ((first | refine RunTo.nilA (by kernel_rfl) ?_ | refine RunTo.nilT ?_ | refine awp_skip ?_ | refine awp_exit ?_ | refine awp_label ?_); simp only [go_sem, ↓reduceIte, Nat.reduceEqDiff, Nat.reduceAdd, Nat.reduceLeDiff, Nat.reduceBEq, Nat.reduceMul, reduceCtorEq, Int.reduceLE, Int.reduceLT, Int.reduceAdd, Int.reduceSub, Int.reduceNeg, Int.reduceToNat, Int.reduceBEq, hdec, w3, Nat.le_succ, b2, hx, one_size, b3, List.size_toArray]) | (refine awp_cond' rfl (of_decide_eq_true rfl) (fun hc => ?_) (fun hc => ?_) <;> ((try simp only [Bool.not_true, Bool.not_false, Bool.not_eq_true', Bool.not_eq_false', Bool.not_eq_eq_eq_not] at hc); (first | (cases hc) | (simp only [hc]) | skip))))
    all_goals
      (first | refine awp_ret ?_ | skip); refine ⟨(by first | exact .inl rfl | exact .inr rfl | exact .inr trivial | trivial), ?_⟩; simp only [go_sem, ↓reduceIte, Nat.reduceEqDiff, Nat.reduceAdd, Nat.reduceLeDiff, Nat.reduceBEq, Nat.reduceMul, reduceCtorEq, Int.reduceLE, Int.reduceLT, Int.reduceAdd, Int.reduceSub, Int.reduceNeg, Int.reduceToNat, Int.reduceBEq, retV, resL, resV, sealV, sealC, sealAll, Tryd.f94]
      rw [Lib.decDigits_one (by omega)] at hd
      have hb : (⟨#[UInt8.ofNat (48 + n)]⟩ : ByteArray) ++ s = bs (Lib.decDigits u0) := by
        rw [← hd]
        apply ByteArray.ext
        rw [ByteArray.data_append]
        apply Array.ext'
        simp
      rw [hb]
abbrev hexB16 : ByteArray := ⟨#[48, 49, 50, 51, 52, 53, 54, 55, 56, 57, 97, 98, 99, 100, 101, 102]⟩
theorem fdm (u k : Nat) : (u : Int).fdiv (2 ^ min k 64) = ((u / 2 ^ min k 64 : Nat) : Int) := by
  rw [Int.fdiv_eq_ediv_of_nonneg _ (by exact Int.le_of_lt (Int.pow_pos (by decide)))]
  rw [Int.natCast_ediv, Int.natCast_pow]; rfl
theorem u64l (n : Int) (h0 : 0 ≤ n) (h1 : n ≤ 9223372036854775807) : IntKind.u64.wrap n = n := u64_in n h0 (by omega)
theorem w16 (m : Nat) : IntKind.u64.wrap (((m % 16 : Nat) : Int) + 1) = ((m % 16 + 1 : Nat) : Int) := by rw [u64_in _ (by omega) (by omega)]; omega
theorem hex_at (m : Nat) : hexB16.extract (m % 16) (m % 16 + 1) = ⟨#[hexB (m % 16)]⟩ := by
  have h : m % 16 < 16 := Nat.mod_lt _ (by decide)
  generalize m % 16 = m at *
  rcases (show m = 0 ∨ m = 1 ∨ m = 2 ∨ m = 3 ∨ m = 4 ∨ m = 5 ∨ m = 6 ∨ m = 7 ∨ m = 8 ∨ m = 9 ∨ m = 10 ∨ m = 11 ∨ m = 12 ∨ m = 13 ∨ m = 14 ∨ m = 15 by omega) with rfl | rfl | rfl | rfl | rfl | rfl | rfl | rfl | rfl | rfl | rfl | rfl | rfl | rfl | rfl | rfl <;> rfl
theorem hex_join (c : Nat) : ((({ data := #[] } : ByteArray) ++ { data := #[hexB (c / 2 ^ min 60 64 % 16)] } ++ { data := #[hexB (c / 2 ^ min 56 64 % 16)] } ++ { data := #[hexB (c / 2 ^ min 52 64 % 16)] } ++ { data := #[hexB (c / 2 ^ min 48 64 % 16)] } ++ { data := #[hexB (c / 2 ^ min 44 64 % 16)] } ++ { data := #[hexB (c / 2 ^ min 40 64 % 16)] } ++ { data := #[hexB (c / 2 ^ min 36 64 % 16)] } ++ { data := #[hexB (c / 2 ^ min 32 64 % 16)] } ++ { data := #[hexB (c / 2 ^ min 28 64 % 16)] } ++ { data := #[hexB (c / 2 ^ min 24 64 % 16)] } ++ { data := #[hexB (c / 2 ^ min 20 64 % 16)] } ++ { data := #[hexB (c / 2 ^ min 16 64 % 16)] } ++ { data := #[hexB (c / 2 ^ min 12 64 % 16)] } ++ { data := #[hexB (c / 2 ^ min 8 64 % 16)] } ++ { data := #[hexB (c / 2 ^ min 4 64 % 16)] } ++ { data := #[hexB (c / 2 ^ min 0 64 % 16)] })) = strR (hexRows 16 c []) := by
  have key : ∀ n : Nat, UInt8.ofNat (hexD n).toNat = hexB n := fun _ => rfl
  simp only [hexRows, Nat.div_div_eq_div_mul, Nat.reduceMul, Nat.reducePow, Nat.div_one]
  apply ByteArray.ext
  simp only [ByteArray.data_append]
  simp [strR, hexB, unB]
theorem c_rHex (f : Nat) (hf : f < 18446744073709551616) (hc : Pure Tryd.prog 78 [uw f] (uw (canF f))) : Pure Tryd.prog 95 [uw f] (sv (hexS f)) := by
  refine pure_of_awp Tryd.func95 rfl rfl (by simp [Tryd.f95]) ?_; simp only [go_sem, ↓reduceIte, Nat.reduceEqDiff, Nat.reduceAdd, Nat.reduceLeDiff, Nat.reduceBEq, Nat.reduceMul, reduceCtorEq, Int.reduceLE, Int.reduceLT, Int.reduceAdd, Int.reduceSub, Int.reduceNeg, Int.reduceToNat, Int.reduceBEq]
  repeat' (first | refine awp_seq ?_ | refine awp_block ?_ | refine awp_round ?_ | refine awp_scope ?_ | refine awp_text rfl ?_ | refine awp_any rfl mix (by kernel_rfl) ?_ | (refine RunTo.unguard rfl rfl (fun hg => ?_) (fun hg => ?_) <;> ((try simp only [Bool.not_true, Bool.not_false, Bool.not_eq_true', Bool.not_eq_false', Bool.not_eq_eq_eq_not] at hg); (first | (cases hg) | (simp only [hg]) | skip))) | ((first | refine RunTo.plain rfl ?_ | refine RunTo.skipped rfl ?_ | refine RunTo.call (hc) Tryd.func78 rfl rfl rfl rfl rfl rfl rfl rfl ?_); simp only [go_sem, ↓reduceIte, Nat.reduceEqDiff, Nat.reduceAdd, Nat.reduceLeDiff, Nat.reduceBEq, Nat.reduceMul, reduceCtorEq, Int.reduceLE, Int.reduceLT, Int.reduceAdd, Int.reduceSub, Int.reduceNeg, Int.reduceToNat, Int.reduceBEq]) | ((first | refine RunTo.nilA (by kernel_rfl) ?_ | refine RunTo.nilT ?_ | refine awp_skip ?_ | refine awp_exit ?_ | refine awp_label ?_); simp only [go_sem, ↓reduceIte, Nat.reduceEqDiff, Nat.reduceAdd, Nat.reduceLeDiff, Nat.reduceBEq, Nat.reduceMul, reduceCtorEq, Int.reduceLE, Int.reduceLT, Int.reduceAdd, Int.reduceSub, Int.reduceNeg, Int.reduceToNat, Int.reduceBEq]) | (refine awp_cond' rfl (of_decide_eq_true rfl) (fun hc => ?_) (fun hc => ?_) <;> ((try simp only [Bool.not_true, Bool.not_false, Bool.not_eq_true', Bool.not_eq_false', Bool.not_eq_eq_eq_not] at hc); (first | (cases hc) | (simp only [hc]) | skip))))
  refine awp_rounds 17 ?_
  repeat' (first | refine awp_seq ?_ | refine awp_block ?_ | refine awp_round ?_ | refine awp_scope ?_ | refine awp_text rfl ?_ | refine awp_any rfl mix (by kernel_rfl) ?_ | (refine RunTo.unguard rfl rfl (fun hg => ?_) (fun hg => ?_) <;> ((try simp only [Bool.not_true, Bool.not_false, Bool.not_eq_true', Bool.not_eq_false', Bool.not_eq_eq_eq_not] at hg); (first | (cases hg) | (simp only [hg]) | skip))) | ((first | refine RunTo.plain rfl ?_ | refine RunTo.skipped rfl ?_); simp only [go_sem, ↓reduceIte, Nat.reduceEqDiff, Nat.reduceAdd, Nat.reduceLeDiff, Nat.reduceBEq, Nat.reduceMul, reduceCtorEq, Int.reduceLE, Int.reduceLT, Int.reduceAdd, Int.reduceSub, Int.reduceNeg, Int.reduceToNat, Int.reduceBEq, fdm, tm16, Int.reduceMul, u64l, w16, Nat.le_succ, pd1, hex_at, one_size, ByteArray.size_append, List.size_toArray]) | ((first | refine RunTo.nilA (by kernel_rfl) ?_ | refine RunTo.nilT ?_ | refine awp_skip ?_ | refine awp_exit ?_ | refine awp_label ?_); simp only [go_sem, ↓reduceIte, Nat.reduceEqDiff, Nat.reduceAdd, Nat.reduceLeDiff, Nat.reduceBEq, Nat.reduceMul, reduceCtorEq, Int.reduceLE, Int.reduceLT, Int.reduceAdd, Int.reduceSub, Int.reduceNeg, Int.reduceToNat, Int.reduceBEq, fdm, tm16, Int.reduceMul, u64l, w16, Nat.le_succ, pd1, hex_at, one_size, ByteArray.size_append, List.size_toArray]) | (refine awp_cond' rfl (of_decide_eq_true rfl) (fun hc => ?_) (fun hc => ?_) <;> ((try simp only [Bool.not_true, Bool.not_false, Bool.not_eq_true', Bool.not_eq_false', Bool.not_eq_eq_eq_not] at hc); (first | (cases hc) | (simp only [hc]) | skip))))
  all_goals
    (first | refine awp_ret ?_ | skip); refine ⟨(by first | exact .inl rfl | exact .inr rfl | exact .inr trivial | trivial), ?_⟩; simp only [go_sem, ↓reduceIte, Nat.reduceEqDiff, Nat.reduceAdd, Nat.reduceLeDiff, Nat.reduceBEq, Nat.reduceMul, reduceCtorEq, Int.reduceLE, Int.reduceLT, Int.reduceAdd, Int.reduceSub, Int.reduceNeg, Int.reduceToNat, Int.reduceBEq, retV, resL, resV, sealV, sealC, sealAll, Tryd.f95]
    rw [hex_join]; rfl
end Go.Proofs.YtjihcldhjpdnmaaDoor.AM
namespace Go.Proofs.YtjihcldhjpdnmaaDoor.AM
open Go.RowKit
set_option linter.unusedSimpArgs false
set_option linter.unusedVariables false
set_option maxRecDepth 10000
set_option maxHeartbeats 0
abbrev SR3 (s : ByteArray) (k T e m : Nat) (rows : List (List Dat)) : St := ⟨[(0, sv s), (4, iv k), (3, .slc 100 e 0 m)], [(100, .arr e 1 rows)], T⟩
def IR3 (s : ByteArray) (n : Nat) (st : St) : Prop := ∃ k T e m rows out, k ≤ s.size ∧ n = s.size - k ∧ out = 34 :: (s.data.toList.take k).flatMap escB ∧ m = out.length ∧ rows = brows out ∧ st = SR3 s k T e m rows
theorem td8 (b : UInt8) : IntKind.u8.wrap ((b.toNat : Int).tdiv 16) = ((b.toNat / 16 : Nat) : Int) := by
  have h : ∀ n : Nat, n < 256 → IntKind.u8.wrap ((n : Int).tdiv 16) = ((n / 16 : Nat) : Int) := by decide +kernel
  exact h _ b.toNat_lt
theorem tm8 (b : UInt8) : (b.toNat : Int).tmod 16 = ((b.toNat % 16 : Nat) : Int) := by rw [Int.tmod_eq_emod_of_nonneg (Int.natCast_nonneg _)]; omega
theorem c_rQuoted0 (s : ByteArray) (hs : s.size ≤ 1000000) : Pure Tryd.prog 96 [sv s] (sv (bs (quoteL s.data.toList))) := by
  refine pure_of_awp Tryd.func96 rfl rfl (by simp [Tryd.f96]) ?_; simp only [go_sem, ↓reduceIte, Nat.reduceEqDiff, Nat.reduceAdd, Nat.reduceLeDiff, Nat.reduceBEq, Nat.reduceMul, reduceCtorEq, Int.reduceLE, Int.reduceLT, Int.reduceAdd, Int.reduceSub, Int.reduceNeg, Int.reduceToNat, Int.reduceBEq]
  repeat' (first | refine awp_seq ?_ | refine awp_block ?_ | refine awp_round ?_ | refine awp_scope ?_ | refine awp_text rfl ?_ | refine awp_any rfl mix (by kernel_rfl) ?_ | (refine RunTo.unguard rfl rfl (fun hg => ?_) (fun hg => ?_) <;> ((try simp only [Bool.not_true, Bool.not_false, Bool.not_eq_true', Bool.not_eq_false', Bool.not_eq_eq_eq_not] at hg); (first | (cases hg) | (simp only [hg]) | skip))) | ((first | refine RunTo.plain rfl ?_ | refine RunTo.skipped rfl ?_); simp only [go_sem, ↓reduceIte, Nat.reduceEqDiff, Nat.reduceAdd, Nat.reduceLeDiff, Nat.reduceBEq, Nat.reduceMul, reduceCtorEq, Int.reduceLE, Int.reduceLT, Int.reduceAdd, Int.reduceSub, Int.reduceNeg, Int.reduceToNat, Int.reduceBEq]) | ((first | refine RunTo.nilA (by kernel_rfl) ?_ | refine RunTo.nilT ?_ | refine awp_skip ?_ | refine awp_exit ?_ | refine awp_label ?_); simp only [go_sem, ↓reduceIte, Nat.reduceEqDiff, Nat.reduceAdd, Nat.reduceLeDiff, Nat.reduceBEq, Nat.reduceMul, reduceCtorEq, Int.reduceLE, Int.reduceLT, Int.reduceAdd, Int.reduceSub, Int.reduceNeg, Int.reduceToNat, Int.reduceBEq]) | (refine awp_cond' rfl (of_decide_eq_true rfl) (fun hc => ?_) (fun hc => ?_) <;> ((try simp only [Bool.not_true, Bool.not_false, Bool.not_eq_true', Bool.not_eq_false', Bool.not_eq_eq_eq_not] at hc); (first | (cases hc) | (simp only [hc]) | skip))))
  refine awp_loopw (IR3 s) s.size (SR3 s 0 _ _ _ _) (Weak.trans (weak_ren [(6, 100)] rfl) (weak_keep ⟨rfl, rfl, rfl, trivial⟩ ⟨rfl, trivial⟩ (Nat.le_refl _))) ⟨0, _, _, _, _, _, Nat.zero_le _, rfl, rfl, rfl, rfl, rfl⟩ ?_
  rintro n st ⟨k, T, e, m, rows, out, hk, rfl, ho, rfl, rfl, rfl⟩
  have hlen : out.length ≤ 4000001 := by
    have := flat_len (s.data.toList.take k)
    rw [List.length_take] at this
    rw [ho]
    simp only [List.length_cons]
    omega
  by_cases hlt : k < s.size
  · have hdec := lt_t hlt
    have hb := byte_at s k hlt
    have hwk : IntKind.i64.wrap ((k : Int) + 1) = ((k + 1 : Nat) : Int) := wrap_succ (by omega)
    generalize s[k] = b at *
    have hlb : s.data.toList[k]? = some b := by
      have : s.data[k]? = some b := hb
      rw [Array.getElem?_toList]; exact this
    have hft := flat_take _ _ _ hlb
    have hnx : (34 : UInt8) :: (s.data.toList.take (k + 1)).flatMap escB = out ++ escB b := by rw [hft, ho]; rfl
    have hb8 : b.toNat < 256 := b.toNat_lt
    have hx1 := hexs_at (b.toNat / 16) (by omega)
    have hx2 := hexs_at (b.toNat % 16) (by omega)
    have c1 : (out.length + 1 ≤ 140737488355328) = True := eq_true (by omega)
    have c2 : (out.length + 2 ≤ 140737488355328) = True := eq_true (by omega)
    have c4 : (out.length + 4 ≤ 140737488355328) = True := eq_true (by omega)
    repeat' (first | refine awp_seq ?_ | refine awp_block ?_ | refine awp_round ?_ | refine awp_scope ?_ | refine awp_text rfl ?_ | refine awp_any rfl mix (by kernel_rfl) ?_ | (refine RunTo.unguard rfl rfl (fun hg => ?_) (fun hg => ?_) <;> ((try simp only [Bool.not_true, Bool.not_false, Bool.not_eq_true', Bool.not_eq_false', Bool.not_eq_eq_eq_not] at hg); (first | (cases hg) | (simp only [hg]) | skip))) | ((first | refine RunTo.plain rfl ?_ | refine RunTo.skipped rfl ?_); simp only [go_sem, ↓reduceIte, Nat.reduceEqDiff, Nat.reduceAdd, Nat.reduceLeDiff, Nat.reduceBEq, Nat.reduceMul, reduceCtorEq, Int.reduceLE, Int.reduceLT, Int.reduceAdd, Int.reduceSub, Int.reduceNeg, Int.reduceToNat, Int.reduceBEq, hdec, hb, hwk, take_brows, List.length_map, c1, c2, c4, td8, tm8, hx1, hx2]) | ((first | refine RunTo.nilA (by kernel_rfl) ?_ | refine RunTo.nilT ?_ | refine awp_skip ?_ | refine awp_exit ?_ | refine awp_label ?_); simp only [go_sem, ↓reduceIte, Nat.reduceEqDiff, Nat.reduceAdd, Nat.reduceLeDiff, Nat.reduceBEq, Nat.reduceMul, reduceCtorEq, Int.reduceLE, Int.reduceLT, Int.reduceAdd, Int.reduceSub, Int.reduceNeg, Int.reduceToNat, Int.reduceBEq, hdec, hb, hwk, take_brows, List.length_map, c1, c2, c4, td8, tm8, hx1, hx2]) | (refine awp_cond' rfl (of_decide_eq_true rfl) (fun hc => ?_) (fun hc => ?_) <;> ((try simp only [Bool.not_true, Bool.not_false, Bool.not_eq_true', Bool.not_eq_false', Bool.not_eq_eq_eq_not] at hc); (first | (cases hc) | (simp only [hc]) | skip))))
    all_goals
      (try simp only [decide_eq_true_eq, decide_eq_false_iff_not, beq_iff_eq, bne_iff_ne, ne_eq, beq_eq_false_iff_ne, bne_eq_false_iff_eq, Bool.and_eq_true, Bool.or_eq_true, Bool.or_eq_false_iff, Bool.and_eq_false_iff] at *)
      first
      | (have he : escB b = [92, b] := by unfold escB; first | rw [if_pos (by omega)] | rw [if_neg (by omega), if_pos (by omega)] | rw [if_neg (by omega), if_neg (by omega)]
         rw [he] at hnx
         exact step_mov (st'' := SR3 s (k + 1) _ _ _ _) [(25, 100)] rfl (m := s.size - (k + 1)) (by omega) (by simp only [go_sem, ↓reduceIte, Nat.reduceEqDiff, Nat.reduceAdd, Nat.reduceLeDiff, Nat.reduceBEq, Nat.reduceMul, reduceCtorEq, Int.reduceLE, Int.reduceLT, Int.reduceAdd, Int.reduceSub, Int.reduceNeg, Int.reduceToNat, Int.reduceBEq]; exact weak_keep ⟨rfl, rfl, rfl, trivial⟩ ⟨rfl, trivial⟩ (Nat.le_refl _)) ⟨k + 1, _, _, _, _, out ++ [92, b], by omega, rfl, hnx.symm, by simp, by rw [hexB_app]; rfl, rfl⟩)
      | (have he : escB b = [b] := by unfold escB; first | rw [if_pos (by omega)] | rw [if_neg (by omega), if_pos (by omega)] | rw [if_neg (by omega), if_neg (by omega)]
         rw [he] at hnx
         exact step_mov (st'' := SR3 s (k + 1) _ _ _ _) [(44, 100)] rfl (m := s.size - (k + 1)) (by omega) (by simp only [go_sem, ↓reduceIte, Nat.reduceEqDiff, Nat.reduceAdd, Nat.reduceLeDiff, Nat.reduceBEq, Nat.reduceMul, reduceCtorEq, Int.reduceLE, Int.reduceLT, Int.reduceAdd, Int.reduceSub, Int.reduceNeg, Int.reduceToNat, Int.reduceBEq]; exact weak_keep ⟨rfl, rfl, rfl, trivial⟩ ⟨rfl, trivial⟩ (Nat.le_refl _)) ⟨k + 1, _, _, _, _, out ++ [b], by omega, rfl, hnx.symm, by simp, by rw [hexB_app]; rfl, rfl⟩)
      | (have he : escB b = [92, 120, hexB (b.toNat / 16), hexB (b.toNat % 16)] := by unfold escB; first | rw [if_pos (by omega)] | rw [if_neg (by omega), if_pos (by omega)] | rw [if_neg (by omega), if_neg (by omega)]
         rw [he] at hnx
         exact step_mov (st'' := SR3 s (k + 1) _ _ _ _) [(40, 100)] rfl (m := s.size - (k + 1)) (by omega) (by simp only [go_sem, ↓reduceIte, Nat.reduceEqDiff, Nat.reduceAdd, Nat.reduceLeDiff, Nat.reduceBEq, Nat.reduceMul, reduceCtorEq, Int.reduceLE, Int.reduceLT, Int.reduceAdd, Int.reduceSub, Int.reduceNeg, Int.reduceToNat, Int.reduceBEq]; exact weak_keep ⟨rfl, rfl, rfl, trivial⟩ ⟨rfl, trivial⟩ (Nat.le_refl _)) ⟨k + 1, _, _, _, _, out ++ [92, 120, hexB (b.toNat / 16), hexB (b.toNat % 16)], by omega, rfl, hnx.symm, by simp, by rw [hexB_app]; rfl, rfl⟩)
      | trace_state
  · have hdec := lt_f hlt
    have hsz : s.data.toList.length = s.size := Array.length_toList
    have hall : s.data.toList.take k = s.data.toList := List.take_of_length_le (by rw [hsz]; omega)
    rw [hall] at ho
    have hq : quoteL s.data.toList = out ++ [34] := by rw [ho]; rfl
    rw [hq]
    have c1 : (out.length + 1 ≤ 140737488355328) = True := eq_true (by omega)
    have hB : isB (brows out ++ [[Dat.lit (.int .u8 34)]]) = true := by rw [isB_app, isB_brows]; rfl
    have hS : strR (brows out ++ [[Dat.lit (.int .u8 34)]]) = bs (out ++ [34]) := by
      have := strR_brows (out ++ [34])
      rw [hexB_app] at this
      exact this
    have htk : (brows out ++ [[Dat.lit (.int .u8 34)]]).take (out.length + 1) = brows out ++ [[Dat.lit (.int .u8 34)]] := List.take_of_length_le (by simp)
    repeat' (first | refine awp_seq ?_ | refine awp_block ?_ | refine awp_round ?_ | refine awp_scope ?_ | refine awp_text rfl ?_ | refine awp_any rfl mix (by kernel_rfl) ?_ | (refine RunTo.unguard rfl rfl (fun hg => ?_) (fun hg => ?_) <;> ((try simp only [Bool.not_true, Bool.not_false, Bool.not_eq_true', Bool.not_eq_false', Bool.not_eq_eq_eq_not] at hg); (first | (cases hg) | (simp only [hg]) | skip))) | ((first | refine RunTo.plain rfl ?_ | refine RunTo.skipped rfl ?_); simp only [go_sem, ↓reduceIte, Nat.reduceEqDiff, Nat.reduceAdd, Nat.reduceLeDiff, Nat.reduceBEq, Nat.reduceMul, reduceCtorEq, Int.reduceLE, Int.reduceLT, Int.reduceAdd, Int.reduceSub, Int.reduceNeg, Int.reduceToNat, Int.reduceBEq, hdec, take_brows, htk, List.length_map, List.length_append, c1, hB, hS]) | ((first | refine RunTo.nilA (by kernel_rfl) ?_ | refine RunTo.nilT ?_ | refine awp_skip ?_ | refine awp_exit ?_ | refine awp_label ?_); simp only [go_sem, ↓reduceIte, Nat.reduceEqDiff, Nat.reduceAdd, Nat.reduceLeDiff, Nat.reduceBEq, Nat.reduceMul, reduceCtorEq, Int.reduceLE, Int.reduceLT, Int.reduceAdd, Int.reduceSub, Int.reduceNeg, Int.reduceToNat, Int.reduceBEq, hdec, take_brows, htk, List.length_map, List.length_append, c1, hB, hS]) | (refine awp_cond' rfl (of_decide_eq_true rfl) (fun hc => ?_) (fun hc => ?_) <;> ((try simp only [Bool.not_true, Bool.not_false, Bool.not_eq_true', Bool.not_eq_false', Bool.not_eq_eq_eq_not] at hc); (first | (cases hc) | (simp only [hc]) | skip))))
    all_goals
      (first | refine awp_ret ?_ | skip); refine ⟨(by first | exact .inl rfl | exact .inr rfl | exact .inr trivial | trivial), ?_⟩; simp only [go_sem, ↓reduceIte, Nat.reduceEqDiff, Nat.reduceAdd, Nat.reduceLeDiff, Nat.reduceBEq, Nat.reduceMul, reduceCtorEq, Int.reduceLE, Int.reduceLT, Int.reduceAdd, Int.reduceSub, Int.reduceNeg, Int.reduceToNat, Int.reduceBEq, retV, resL, resV, sealV, sealC, sealAll, Tryd.f96]
theorem c_rQuoted (s : ByteArray) (hs : s.size ≤ 1000000) : Pure Tryd.prog 96 [sv s] (sv (quoteS s)) := c_rQuoted0 s hs
end Go.Proofs.YtjihcldhjpdnmaaDoor.AM
namespace Go.Proofs.YtjihcldhjpdnmaaDoor.AM
open Go.RowKit
set_option linter.unusedSimpArgs false
set_option linter.unusedVariables false
set_option maxRecDepth 10000
set_option maxHeartbeats 0
theorem c_rPrintA (a : AtomD) (hf : a.f < 18446744073709551616) (hn : i64B a.n) (hs : a.s.size ≤ 1000000) (hk : 0 ≤ a.k ∧ a.k ≤ 5) : Pure Tryd.prog 52 [a.av] (sv (printA a)) := by
  obtain ⟨k, n, f, s⟩ := a
  obtain ⟨n1, n2⟩ := hn
  replace n1 : -9223372036854775808 ≤ n := n1
  replace n2 : n ≤ 9223372036854775807 := n2
  replace hs : s.size ≤ 1000000 := hs
  have hq : (1 + (quoteS s).size ≤ 9223372036854775807) = True := eq_true (by have := quoteS_size s; omega)
  have hx : (2 + (hexS f).size ≤ 9223372036854775807) = True := eq_true (by rw [hexS_size]; omega)
  have c1 := c_rBits f
  have c2 := c_rHex f hf (c_rCanon f hf)
  have c3 := c_rQuoted s hs
  have hk6 : k = 0 ∨ k = 1 ∨ k = 2 ∨ k = 3 ∨ k = 4 ∨ k = 5 := by have := hk.1; have := hk.2; simp only [] at *; omega
  clear hk hf
  rcases hk6 with h | h | h | h | h | h <;> subst h
  · refine pure_of_awp Tryd.func52 rfl rfl (by simp [Tryd.f52]) ?_; simp only [go_sem, ↓reduceIte, Nat.reduceEqDiff, Nat.reduceAdd, Nat.reduceLeDiff, Nat.reduceBEq, Nat.reduceMul, reduceCtorEq, Int.reduceLE, Int.reduceLT, Int.reduceAdd, Int.reduceSub, Int.reduceNeg, Int.reduceToNat, Int.reduceBEq]
    repeat' (first | refine awp_seq ?_ | refine awp_block ?_ | refine awp_round ?_ | refine awp_scope ?_ | refine awp_text rfl ?_ | refine awp_any rfl mix (by kernel_rfl) ?_ | (refine RunTo.unguard rfl rfl (fun hg => ?_) (fun hg => ?_) <;> ((try simp only [Bool.not_true, Bool.not_false, Bool.not_eq_true', Bool.not_eq_false', Bool.not_eq_eq_eq_not] at hg); (first | (cases hg) | (simp only [hg]) | skip))) | ((first | refine RunTo.plain rfl ?_ | refine RunTo.skipped rfl ?_); simp only [go_sem, ↓reduceIte, Nat.reduceEqDiff, Nat.reduceAdd, Nat.reduceLeDiff, Nat.reduceBEq, Nat.reduceMul, reduceCtorEq, Int.reduceLE, Int.reduceLT, Int.reduceAdd, Int.reduceSub, Int.reduceNeg, Int.reduceToNat, Int.reduceBEq, AtomD.av]) | ((first | refine RunTo.nilA (by kernel_rfl) ?_ | refine RunTo.nilT ?_ | refine awp_skip ?_ | refine awp_exit ?_ | refine awp_label ?_); simp only [go_sem, ↓reduceIte, Nat.reduceEqDiff, Nat.reduceAdd, Nat.reduceLeDiff, Nat.reduceBEq, Nat.reduceMul, reduceCtorEq, Int.reduceLE, Int.reduceLT, Int.reduceAdd, Int.reduceSub, Int.reduceNeg, Int.reduceToNat, Int.reduceBEq, AtomD.av]) | (refine awp_cond' rfl (of_decide_eq_true rfl) (fun hc => ?_) (fun hc => ?_) <;> ((try simp only [Bool.not_true, Bool.not_false, Bool.not_eq_true', Bool.not_eq_false', Bool.not_eq_eq_eq_not] at hc); (first | (cases hc) | (simp only [hc]) | skip))))
    all_goals (first | refine awp_ret ?_ | skip); refine ⟨(by first | exact .inl rfl | exact .inr rfl | exact .inr trivial | trivial), ?_⟩; simp only [go_sem, ↓reduceIte, Nat.reduceEqDiff, Nat.reduceAdd, Nat.reduceLeDiff, Nat.reduceBEq, Nat.reduceMul, reduceCtorEq, Int.reduceLE, Int.reduceLT, Int.reduceAdd, Int.reduceSub, Int.reduceNeg, Int.reduceToNat, Int.reduceBEq, retV, resL, resV, sealV, sealC, sealAll, Tryd.f52]
    all_goals rfl
  · refine pure_of_awp Tryd.func52 rfl rfl (by simp [Tryd.f52]) ?_; simp only [go_sem, ↓reduceIte, Nat.reduceEqDiff, Nat.reduceAdd, Nat.reduceLeDiff, Nat.reduceBEq, Nat.reduceMul, reduceCtorEq, Int.reduceLE, Int.reduceLT, Int.reduceAdd, Int.reduceSub, Int.reduceNeg, Int.reduceToNat, Int.reduceBEq]
    repeat' (first | refine awp_seq ?_ | refine awp_block ?_ | refine awp_round ?_ | refine awp_scope ?_ | refine awp_text rfl ?_ | refine awp_any rfl mix (by kernel_rfl) ?_ | (refine RunTo.unguard rfl rfl (fun hg => ?_) (fun hg => ?_) <;> ((try simp only [Bool.not_true, Bool.not_false, Bool.not_eq_true', Bool.not_eq_false', Bool.not_eq_eq_eq_not] at hg); (first | (cases hg) | (simp only [hg]) | skip))) | ((first | refine RunTo.plain rfl ?_ | refine RunTo.skipped rfl ?_); simp only [go_sem, ↓reduceIte, Nat.reduceEqDiff, Nat.reduceAdd, Nat.reduceLeDiff, Nat.reduceBEq, Nat.reduceMul, reduceCtorEq, Int.reduceLE, Int.reduceLT, Int.reduceAdd, Int.reduceSub, Int.reduceNeg, Int.reduceToNat, Int.reduceBEq, AtomD.av]) | ((first | refine RunTo.nilA (by kernel_rfl) ?_ | refine RunTo.nilT ?_ | refine awp_skip ?_ | refine awp_exit ?_ | refine awp_label ?_); simp only [go_sem, ↓reduceIte, Nat.reduceEqDiff, Nat.reduceAdd, Nat.reduceLeDiff, Nat.reduceBEq, Nat.reduceMul, reduceCtorEq, Int.reduceLE, Int.reduceLT, Int.reduceAdd, Int.reduceSub, Int.reduceNeg, Int.reduceToNat, Int.reduceBEq, AtomD.av]) | (refine awp_cond' rfl (of_decide_eq_true rfl) (fun hc => ?_) (fun hc => ?_) <;> ((try simp only [Bool.not_true, Bool.not_false, Bool.not_eq_true', Bool.not_eq_false', Bool.not_eq_eq_eq_not] at hc); (first | (cases hc) | (simp only [hc]) | skip))))
    all_goals (first | refine awp_ret ?_ | skip); refine ⟨(by first | exact .inl rfl | exact .inr rfl | exact .inr trivial | trivial), ?_⟩; simp only [go_sem, ↓reduceIte, Nat.reduceEqDiff, Nat.reduceAdd, Nat.reduceLeDiff, Nat.reduceBEq, Nat.reduceMul, reduceCtorEq, Int.reduceLE, Int.reduceLT, Int.reduceAdd, Int.reduceSub, Int.reduceNeg, Int.reduceToNat, Int.reduceBEq, retV, resL, resV, sealV, sealC, sealAll, Tryd.f52]
    all_goals (rw [show printA ⟨1, n, f, s⟩ = bs (Lib.formatBool (n == 1)) from rfl, hc]; rfl)
  · by_cases hneg : n < 0
    · have hd : decide (n < 0) = true := decide_eq_true hneg
      have hl := Lib.itoa_length_le n n1 n2
      have hi : Lib.itoa n = 45 :: Lib.decDigits n.natAbs := if_pos hneg
      rw [hi] at hl
      have w1 : IntKind.u64.wrap (IntKind.u64.wrap (IntKind.i64.wrap (0 - IntKind.i64.wrap (n + 1))) + 1) = ((n.natAbs : Nat) : Int) := by
        rw [IntWalk.i64_in (n + 1) (by omega), IntWalk.i64_in (0 - (n + 1)) (by omega), u64_in (0 - (n + 1)) (by omega) (by omega), u64_in _ (by omega) (by omega)]; omega
      have c4 := c_rDigits n.natAbs (by omega)
      have z1 : (1 + (Lib.decDigits n.natAbs).length ≤ 9223372036854775807) = True := eq_true (by
        simp only [List.length_cons] at hl
        omega)
      refine pure_of_awp Tryd.func52 rfl rfl (by simp [Tryd.f52]) ?_; simp only [go_sem, ↓reduceIte, Nat.reduceEqDiff, Nat.reduceAdd, Nat.reduceLeDiff, Nat.reduceBEq, Nat.reduceMul, reduceCtorEq, Int.reduceLE, Int.reduceLT, Int.reduceAdd, Int.reduceSub, Int.reduceNeg, Int.reduceToNat, Int.reduceBEq]
      repeat' (first | refine awp_seq ?_ | refine awp_block ?_ | refine awp_round ?_ | refine awp_scope ?_ | refine awp_text rfl ?_ | refine awp_any rfl mix (by kernel_rfl) ?_ | (refine RunTo.unguard rfl rfl (fun hg => ?_) (fun hg => ?_) <;> ((try simp only [Bool.not_true, Bool.not_false, Bool.not_eq_true', Bool.not_eq_false', Bool.not_eq_eq_eq_not] at hg); (first | (cases hg) | (simp only [hg]) | skip))) | ((first | refine RunTo.plain rfl ?_ | refine RunTo.skipped rfl ?_ | refine RunTo.call (c4) Tryd.func94 rfl rfl rfl rfl rfl rfl rfl rfl ?_); simp only [go_sem, ↓reduceIte, Nat.reduceEqDiff, Nat.reduceAdd, Nat.reduceLeDiff, Nat.reduceBEq, Nat.reduceMul, reduceCtorEq, Int.reduceLE, Int.reduceLT, Int.reduceAdd, Int.reduceSub, Int.reduceNeg, Int.reduceToNat, Int.reduceBEq, AtomD.av, hd, w1, z1, List.size_toArray]) | ((first | refine RunTo.nilA (by kernel_rfl) ?_ | refine RunTo.nilT ?_ | refine awp_skip ?_ | refine awp_exit ?_ | refine awp_label ?_); simp only [go_sem, ↓reduceIte, Nat.reduceEqDiff, Nat.reduceAdd, Nat.reduceLeDiff, Nat.reduceBEq, Nat.reduceMul, reduceCtorEq, Int.reduceLE, Int.reduceLT, Int.reduceAdd, Int.reduceSub, Int.reduceNeg, Int.reduceToNat, Int.reduceBEq, AtomD.av, hd, w1, z1, List.size_toArray]) | (refine awp_cond' rfl (of_decide_eq_true rfl) (fun hc => ?_) (fun hc => ?_) <;> ((try simp only [Bool.not_true, Bool.not_false, Bool.not_eq_true', Bool.not_eq_false', Bool.not_eq_eq_eq_not] at hc); (first | (cases hc) | (simp only [hc]) | skip))))
      all_goals (first | refine awp_ret ?_ | skip); refine ⟨(by first | exact .inl rfl | exact .inr rfl | exact .inr trivial | trivial), ?_⟩; simp only [go_sem, ↓reduceIte, Nat.reduceEqDiff, Nat.reduceAdd, Nat.reduceLeDiff, Nat.reduceBEq, Nat.reduceMul, reduceCtorEq, Int.reduceLE, Int.reduceLT, Int.reduceAdd, Int.reduceSub, Int.reduceNeg, Int.reduceToNat, Int.reduceBEq, retV, resL, resV, sealV, sealC, sealAll, Tryd.f52]
      all_goals
        rw [show printA ⟨2, n, f, s⟩ = bs (Lib.itoa n) from rfl, hi]
        have hb : (⟨#[45]⟩ : ByteArray) ++ bs (Lib.decDigits n.natAbs) = bs (45 :: Lib.decDigits n.natAbs) := by
          apply ByteArray.ext
          rw [ByteArray.data_append]
          apply Array.ext'
          simp
        rw [hb]
    · have hd : decide (n < 0) = false := decide_eq_false hneg
      have hi : Lib.itoa n = Lib.decDigits n.toNat := if_neg hneg
      have w1 : IntKind.u64.wrap n = ((n.toNat : Nat) : Int) := by rw [u64_in _ (by omega) (by omega)]; omega
      have c4 := c_rDigits n.toNat (by omega)
      refine pure_of_awp Tryd.func52 rfl rfl (by simp [Tryd.f52]) ?_; simp only [go_sem, ↓reduceIte, Nat.reduceEqDiff, Nat.reduceAdd, Nat.reduceLeDiff, Nat.reduceBEq, Nat.reduceMul, reduceCtorEq, Int.reduceLE, Int.reduceLT, Int.reduceAdd, Int.reduceSub, Int.reduceNeg, Int.reduceToNat, Int.reduceBEq]
      repeat' (first | refine awp_seq ?_ | refine awp_block ?_ | refine awp_round ?_ | refine awp_scope ?_ | refine awp_text rfl ?_ | refine awp_any rfl mix (by kernel_rfl) ?_ | (refine RunTo.unguard rfl rfl (fun hg => ?_) (fun hg => ?_) <;> ((try simp only [Bool.not_true, Bool.not_false, Bool.not_eq_true', Bool.not_eq_false', Bool.not_eq_eq_eq_not] at hg); (first | (cases hg) | (simp only [hg]) | skip))) | ((first | refine RunTo.plain rfl ?_ | refine RunTo.skipped rfl ?_ | refine RunTo.call (c4) Tryd.func94 rfl rfl rfl rfl rfl rfl rfl rfl ?_); simp only [go_sem, ↓reduceIte, Nat.reduceEqDiff, Nat.reduceAdd, Nat.reduceLeDiff, Nat.reduceBEq, Nat.reduceMul, reduceCtorEq, Int.reduceLE, Int.reduceLT, Int.reduceAdd, Int.reduceSub, Int.reduceNeg, Int.reduceToNat, Int.reduceBEq, AtomD.av, hd, w1]) | ((first | refine RunTo.nilA (by kernel_rfl) ?_ | refine RunTo.nilT ?_ | refine awp_skip ?_ | refine awp_exit ?_ | refine awp_label ?_); simp only [go_sem, ↓reduceIte, Nat.reduceEqDiff, Nat.reduceAdd, Nat.reduceLeDiff, Nat.reduceBEq, Nat.reduceMul, reduceCtorEq, Int.reduceLE, Int.reduceLT, Int.reduceAdd, Int.reduceSub, Int.reduceNeg, Int.reduceToNat, Int.reduceBEq, AtomD.av, hd, w1]) | (refine awp_cond' rfl (of_decide_eq_true rfl) (fun hc => ?_) (fun hc => ?_) <;> ((try simp only [Bool.not_true, Bool.not_false, Bool.not_eq_true', Bool.not_eq_false', Bool.not_eq_eq_eq_not] at hc); (first | (cases hc) | (simp only [hc]) | skip))))
      all_goals (first | refine awp_ret ?_ | skip); refine ⟨(by first | exact .inl rfl | exact .inr rfl | exact .inr trivial | trivial), ?_⟩; simp only [go_sem, ↓reduceIte, Nat.reduceEqDiff, Nat.reduceAdd, Nat.reduceLeDiff, Nat.reduceBEq, Nat.reduceMul, reduceCtorEq, Int.reduceLE, Int.reduceLT, Int.reduceAdd, Int.reduceSub, Int.reduceNeg, Int.reduceToNat, Int.reduceBEq, retV, resL, resV, sealV, sealC, sealAll, Tryd.f52]
      all_goals rw [show printA ⟨2, n, f, s⟩ = bs (Lib.itoa n) from rfl, hi]
  all_goals
    refine pure_of_awp Tryd.func52 rfl rfl (by simp [Tryd.f52]) ?_; simp only [go_sem, ↓reduceIte, Nat.reduceEqDiff, Nat.reduceAdd, Nat.reduceLeDiff, Nat.reduceBEq, Nat.reduceMul, reduceCtorEq, Int.reduceLE, Int.reduceLT, Int.reduceAdd, Int.reduceSub, Int.reduceNeg, Int.reduceToNat, Int.reduceBEq]
    repeat' (first | refine awp_seq ?_ | refine awp_block ?_ | refine awp_round ?_ | refine awp_scope ?_ | refine awp_text rfl ?_ | refine awp_any rfl mix (by kernel_rfl) ?_ | (refine RunTo.unguard rfl rfl (fun hg => ?_) (fun hg => ?_) <;> ((try simp only [Bool.not_true, Bool.not_false, Bool.not_eq_true', Bool.not_eq_false', Bool.not_eq_eq_eq_not] at hg); (first | (cases hg) | (simp only [hg]) | skip))) | ((first | refine RunTo.plain rfl ?_ | refine RunTo.skipped rfl ?_ | refine RunTo.call (c1) Tryd.func34 rfl rfl rfl rfl rfl rfl rfl rfl ?_ | refine RunTo.call (c2) Tryd.func95 rfl rfl rfl rfl rfl rfl rfl rfl ?_ | refine RunTo.call (c3) Tryd.func96 rfl rfl rfl rfl rfl rfl rfl rfl ?_); simp only [go_sem, ↓reduceIte, Nat.reduceEqDiff, Nat.reduceAdd, Nat.reduceLeDiff, Nat.reduceBEq, Nat.reduceMul, reduceCtorEq, Int.reduceLE, Int.reduceLT, Int.reduceAdd, Int.reduceSub, Int.reduceNeg, Int.reduceToNat, Int.reduceBEq, AtomD.av, hq, hx, List.size_toArray]) | ((first | refine RunTo.nilA (by kernel_rfl) ?_ | refine RunTo.nilT ?_ | refine awp_skip ?_ | refine awp_exit ?_ | refine awp_label ?_); simp only [go_sem, ↓reduceIte, Nat.reduceEqDiff, Nat.reduceAdd, Nat.reduceLeDiff, Nat.reduceBEq, Nat.reduceMul, reduceCtorEq, Int.reduceLE, Int.reduceLT, Int.reduceAdd, Int.reduceSub, Int.reduceNeg, Int.reduceToNat, Int.reduceBEq, AtomD.av, hq, hx, List.size_toArray]) | (refine awp_cond' rfl (of_decide_eq_true rfl) (fun hc => ?_) (fun hc => ?_) <;> ((try simp only [Bool.not_true, Bool.not_false, Bool.not_eq_true', Bool.not_eq_false', Bool.not_eq_eq_eq_not] at hc); (first | (cases hc) | (simp only [hc]) | skip))))
    all_goals (first | refine awp_ret ?_ | skip); refine ⟨(by first | exact .inl rfl | exact .inr rfl | exact .inr trivial | trivial), ?_⟩; simp only [go_sem, ↓reduceIte, Nat.reduceEqDiff, Nat.reduceAdd, Nat.reduceLeDiff, Nat.reduceBEq, Nat.reduceMul, reduceCtorEq, Int.reduceLE, Int.reduceLT, Int.reduceAdd, Int.reduceSub, Int.reduceNeg, Int.reduceToNat, Int.reduceBEq, retV, resL, resV, sealV, sealC, sealAll, Tryd.f52]
    all_goals rfl
end Go.Proofs.YtjihcldhjpdnmaaDoor.AM
namespace Go.Proofs.YtjihcldhjpdnmaaDoor.AM
open Go.RowKit
set_option linter.unusedSimpArgs false
set_option linter.unusedVariables false
set_option maxRecDepth 10000
set_option maxHeartbeats 0
def flV (v : ValD) : Prop := v.a.f < 18446744073709551616 ∧ ∀ a ∈ v.l, a.f < 18446744073709551616
abbrev cellsV (v : ValD) : List AV := [iv v.a.k, iv v.a.n, fv v.a.f, sv v.a.s, .dat (.lst 4 (v.l.map AtomD.enc))]
abbrev SW (v : ValD) (k T e : Nat) : St := ⟨[(3, iv k), (1, .ptr 1 e 0 0)], [(1, .box e (cellsV v))], T⟩
def IW (v : ValD) (n : Nat) (st : St) : Prop := ∃ k T e, k ≤ v.l.length ∧ n = v.l.length - k ∧ (v.l.take k).all validA = true ∧ st = SW v k T e
theorem c_rValid (v : ValD) (hf : flV v) : Pure Tryd.prog 12 [v.av] (bv (validV v)) := by
  have ha := c_rAtom v.a hf.1
  have hb := c_rBits v.a.f
  by_cases h6 : v.a.k = 6
  · have hk6 : (v.a.k == 6) = true := by simpa using h6
    refine pure_of_awp Tryd.func12 rfl rfl (by simp [Tryd.f12]) ?_; simp only [go_sem, ↓reduceIte, Nat.reduceEqDiff, Nat.reduceAdd, Nat.reduceLeDiff, Nat.reduceBEq, Nat.reduceMul, reduceCtorEq, Int.reduceLE, Int.reduceLT, Int.reduceAdd, Int.reduceSub, Int.reduceNeg, Int.reduceToNat, Int.reduceBEq]
    repeat' (first | refine awp_seq ?_ | refine awp_block ?_ | refine awp_round ?_ | refine awp_scope ?_ | refine awp_text rfl ?_ | refine awp_any rfl mix (by kernel_rfl) ?_ | (refine RunTo.unguard rfl rfl (fun hg => ?_) (fun hg => ?_) <;> ((try simp only [Bool.not_true, Bool.not_false, Bool.not_eq_true', Bool.not_eq_false', Bool.not_eq_eq_eq_not] at hg); (first | (cases hg) | (simp only [hg]) | skip))) | ((first | refine RunTo.plain rfl ?_ | refine RunTo.skipped rfl ?_ | refine RunTo.call (hb) Tryd.func34 rfl rfl rfl rfl rfl rfl rfl rfl ?_); simp only [go_sem, ↓reduceIte, Nat.reduceEqDiff, Nat.reduceAdd, Nat.reduceLeDiff, Nat.reduceBEq, Nat.reduceMul, reduceCtorEq, Int.reduceLE, Int.reduceLT, Int.reduceAdd, Int.reduceSub, Int.reduceNeg, Int.reduceToNat, Int.reduceBEq, ValD.av, bne, hk6, List.length_map]) | ((first | refine RunTo.nilA (by kernel_rfl) ?_ | refine RunTo.nilT ?_ | refine awp_skip ?_ | refine awp_exit ?_ | refine awp_label ?_); simp only [go_sem, ↓reduceIte, Nat.reduceEqDiff, Nat.reduceAdd, Nat.reduceLeDiff, Nat.reduceBEq, Nat.reduceMul, reduceCtorEq, Int.reduceLE, Int.reduceLT, Int.reduceAdd, Int.reduceSub, Int.reduceNeg, Int.reduceToNat, Int.reduceBEq, ValD.av, bne, hk6, List.length_map]) | (refine awp_cond' rfl (of_decide_eq_true rfl) (fun hc => ?_) (fun hc => ?_) <;> ((try simp only [Bool.not_true, Bool.not_false, Bool.not_eq_true', Bool.not_eq_false', Bool.not_eq_eq_eq_not] at hc); (first | (cases hc) | (simp only [hc]) | skip))))
    · (first | refine awp_ret ?_ | skip); refine ⟨(by first | exact .inl rfl | exact .inr rfl | exact .inr trivial | trivial), ?_⟩; simp only [go_sem, ↓reduceIte, Nat.reduceEqDiff, Nat.reduceAdd, Nat.reduceLeDiff, Nat.reduceBEq, Nat.reduceMul, reduceCtorEq, Int.reduceLE, Int.reduceLT, Int.reduceAdd, Int.reduceSub, Int.reduceNeg, Int.reduceToNat, Int.reduceBEq, retV, resL, resV, sealV, sealC, sealAll, Tryd.f12]
      have hd : decide ((v.l.length : Int) ≤ 16) = false := by have := of_decide_eq_true hc; exact decide_eq_false (by omega)
      rw [validV_list h6, hd, Bool.and_false, Bool.false_and]
    · have hd : decide ((v.l.length : Int) ≤ 16) = true := by have := of_decide_eq_false hc; exact decide_eq_true (by omega)
      have hle : v.l.length ≤ 16 := by have := of_decide_eq_true hd; omega
      have hv : validV v = v.l.all validA := by
        rw [validV_list h6, hd, Bool.and_true]
        have : isA v.a false false false = true := by unfold isA; simp only [*, Bool.false_or, Bool.and_self]
        rw [this, Bool.true_and]
      refine awp_loopw (IW v) v.l.length (SW v 0 _ _) (weak_keep ⟨rfl, rfl, trivial⟩ ⟨rfl, trivial⟩ (Nat.le_refl _)) ⟨0, _, _, Nat.zero_le _, rfl, rfl, rfl⟩ ?_
      clear hg hc
      rintro n st ⟨k, T, e, hk, rfl, hall, rfl⟩
      by_cases hlt : k < v.l.length
      · have hdec := lt_t hlt
        have hget := row_at AtomD.enc v.l k hlt
        have hfa := hf.2 _ (List.getElem_mem hlt)
        have hmem := List.getElem_mem hlt
        have htk := all_take validA v.l k hlt
        have hwk : IntKind.i64.wrap ((k : Int) + 1) = ((k + 1 : Nat) : Int) := wrap_succ (by omega)
        generalize v.l[k] = a at *
        have hca := c_rAtom a hfa
        repeat' (first | refine awp_seq ?_ | refine awp_block ?_ | refine awp_round ?_ | refine awp_scope ?_ | refine awp_text rfl ?_ | refine awp_any rfl mix (by kernel_rfl) ?_ | (refine RunTo.unguard rfl rfl (fun hg => ?_) (fun hg => ?_) <;> ((try simp only [Bool.not_true, Bool.not_false, Bool.not_eq_true', Bool.not_eq_false', Bool.not_eq_eq_eq_not] at hg); (first | (cases hg) | (simp only [hg]) | skip))) | ((first | refine RunTo.plain rfl ?_ | refine RunTo.skipped rfl ?_ | refine RunTo.call (hca) Tryd.func33 rfl rfl rfl rfl rfl rfl rfl rfl ?_); simp only [go_sem, ↓reduceIte, Nat.reduceEqDiff, Nat.reduceAdd, Nat.reduceLeDiff, Nat.reduceBEq, Nat.reduceMul, reduceCtorEq, Int.reduceLE, Int.reduceLT, Int.reduceAdd, Int.reduceSub, Int.reduceNeg, Int.reduceToNat, Int.reduceBEq, hdec, hget, AtomD.enc, hwk, List.length_map]) | ((first | refine RunTo.nilA (by kernel_rfl) ?_ | refine RunTo.nilT ?_ | refine awp_skip ?_ | refine awp_exit ?_ | refine awp_label ?_); simp only [go_sem, ↓reduceIte, Nat.reduceEqDiff, Nat.reduceAdd, Nat.reduceLeDiff, Nat.reduceBEq, Nat.reduceMul, reduceCtorEq, Int.reduceLE, Int.reduceLT, Int.reduceAdd, Int.reduceSub, Int.reduceNeg, Int.reduceToNat, Int.reduceBEq, hdec, hget, AtomD.enc, hwk, List.length_map]) | (refine awp_cond' rfl (of_decide_eq_true rfl) (fun hc => ?_) (fun hc => ?_) <;> ((try simp only [Bool.not_true, Bool.not_false, Bool.not_eq_true', Bool.not_eq_false', Bool.not_eq_eq_eq_not] at hc); (first | (cases hc) | (simp only [hc]) | skip))))
        all_goals
          (try simp only [decide_eq_true_eq, decide_eq_false_iff_not, beq_iff_eq, bne_iff_ne, ne_eq, beq_eq_false_iff_ne, bne_eq_false_iff_eq, Bool.and_eq_true, Bool.or_eq_true, Bool.or_eq_false_iff, Bool.and_eq_false_iff] at *)
          first
          | exact ⟨v.l.length - (k + 1), by omega, SW v (k + 1) _ e, weak_keep ⟨rfl, rfl, trivial⟩ ⟨rfl, trivial⟩ (Nat.le_refl _), k + 1, _, _, by omega, rfl, by rw [htk, hall]; simp [*], rfl⟩
          | (have h2 : v.l.all validA = false := by
               cases hh : v.l.all validA with
               | false => rfl
               | true => have := List.all_eq_true.1 hh a hmem; simp_all
             rw [hv, h2]
             (first | refine awp_ret ?_ | skip); refine ⟨(by first | exact .inl rfl | exact .inr rfl | exact .inr trivial | trivial), ?_⟩; simp only [go_sem, ↓reduceIte, Nat.reduceEqDiff, Nat.reduceAdd, Nat.reduceLeDiff, Nat.reduceBEq, Nat.reduceMul, reduceCtorEq, Int.reduceLE, Int.reduceLT, Int.reduceAdd, Int.reduceSub, Int.reduceNeg, Int.reduceToNat, Int.reduceBEq, retV, resL, resV, sealV, sealC, sealAll, Tryd.f12])
      · have hdec := lt_f hlt
        rw [List.take_of_length_le (by omega)] at hall
        repeat' (first | refine awp_seq ?_ | refine awp_block ?_ | refine awp_round ?_ | refine awp_scope ?_ | refine awp_text rfl ?_ | refine awp_any rfl mix (by kernel_rfl) ?_ | (refine RunTo.unguard rfl rfl (fun hg => ?_) (fun hg => ?_) <;> ((try simp only [Bool.not_true, Bool.not_false, Bool.not_eq_true', Bool.not_eq_false', Bool.not_eq_eq_eq_not] at hg); (first | (cases hg) | (simp only [hg]) | skip))) | ((first | refine RunTo.plain rfl ?_ | refine RunTo.skipped rfl ?_); simp only [go_sem, ↓reduceIte, Nat.reduceEqDiff, Nat.reduceAdd, Nat.reduceLeDiff, Nat.reduceBEq, Nat.reduceMul, reduceCtorEq, Int.reduceLE, Int.reduceLT, Int.reduceAdd, Int.reduceSub, Int.reduceNeg, Int.reduceToNat, Int.reduceBEq, hdec, List.length_map]) | ((first | refine RunTo.nilA (by kernel_rfl) ?_ | refine RunTo.nilT ?_ | refine awp_skip ?_ | refine awp_exit ?_ | refine awp_label ?_); simp only [go_sem, ↓reduceIte, Nat.reduceEqDiff, Nat.reduceAdd, Nat.reduceLeDiff, Nat.reduceBEq, Nat.reduceMul, reduceCtorEq, Int.reduceLE, Int.reduceLT, Int.reduceAdd, Int.reduceSub, Int.reduceNeg, Int.reduceToNat, Int.reduceBEq, hdec, List.length_map]) | (refine awp_cond' rfl (of_decide_eq_true rfl) (fun hc => ?_) (fun hc => ?_) <;> ((try simp only [Bool.not_true, Bool.not_false, Bool.not_eq_true', Bool.not_eq_false', Bool.not_eq_eq_eq_not] at hc); (first | (cases hc) | (simp only [hc]) | skip))))
        all_goals
          (first | refine awp_ret ?_ | skip); refine ⟨(by first | exact .inl rfl | exact .inr rfl | exact .inr trivial | trivial), ?_⟩; simp only [go_sem, ↓reduceIte, Nat.reduceEqDiff, Nat.reduceAdd, Nat.reduceLeDiff, Nat.reduceBEq, Nat.reduceMul, reduceCtorEq, Int.reduceLE, Int.reduceLT, Int.reduceAdd, Int.reduceSub, Int.reduceNeg, Int.reduceToNat, Int.reduceBEq, retV, resL, resV, sealV, sealC, sealAll, Tryd.f12]
          rw [hv, hall]
    · (first | refine awp_ret ?_ | skip); refine ⟨(by first | exact .inl rfl | exact .inr rfl | exact .inr trivial | trivial), ?_⟩; simp only [go_sem, ↓reduceIte, Nat.reduceEqDiff, Nat.reduceAdd, Nat.reduceLeDiff, Nat.reduceBEq, Nat.reduceMul, reduceCtorEq, Int.reduceLE, Int.reduceLT, Int.reduceAdd, Int.reduceSub, Int.reduceNeg, Int.reduceToNat, Int.reduceBEq, retV, resL, resV, sealV, sealC, sealAll, Tryd.f12]
      rw [validV_list h6]
      unfold isA
      simp only [*, Bool.false_or, Bool.and_false, Bool.false_and, Bool.and_true]
    · (first | refine awp_ret ?_ | skip); refine ⟨(by first | exact .inl rfl | exact .inr rfl | exact .inr trivial | trivial), ?_⟩; simp only [go_sem, ↓reduceIte, Nat.reduceEqDiff, Nat.reduceAdd, Nat.reduceLeDiff, Nat.reduceBEq, Nat.reduceMul, reduceCtorEq, Int.reduceLE, Int.reduceLT, Int.reduceAdd, Int.reduceSub, Int.reduceNeg, Int.reduceToNat, Int.reduceBEq, retV, resL, resV, sealV, sealC, sealAll, Tryd.f12]
      rw [validV_list h6]
      unfold isA
      simp only [*, Bool.false_or, Bool.and_false, Bool.false_and, Bool.and_true]
    · (first | refine awp_ret ?_ | skip); refine ⟨(by first | exact .inl rfl | exact .inr rfl | exact .inr trivial | trivial), ?_⟩; simp only [go_sem, ↓reduceIte, Nat.reduceEqDiff, Nat.reduceAdd, Nat.reduceLeDiff, Nat.reduceBEq, Nat.reduceMul, reduceCtorEq, Int.reduceLE, Int.reduceLT, Int.reduceAdd, Int.reduceSub, Int.reduceNeg, Int.reduceToNat, Int.reduceBEq, retV, resL, resV, sealV, sealC, sealAll, Tryd.f12]
      rw [validV_list h6]
      unfold isA
      simp only [*, Bool.false_or, Bool.and_false, Bool.false_and, Bool.and_true]
  · have hk6 : (v.a.k == 6) = false := by simpa using h6
    refine pure_of_awp Tryd.func12 rfl rfl (by simp [Tryd.f12]) ?_; simp only [go_sem, ↓reduceIte, Nat.reduceEqDiff, Nat.reduceAdd, Nat.reduceLeDiff, Nat.reduceBEq, Nat.reduceMul, reduceCtorEq, Int.reduceLE, Int.reduceLT, Int.reduceAdd, Int.reduceSub, Int.reduceNeg, Int.reduceToNat, Int.reduceBEq]
    repeat' (first | refine awp_seq ?_ | refine awp_block ?_ | refine awp_round ?_ | refine awp_scope ?_ | refine awp_text rfl ?_ | refine awp_any rfl mix (by kernel_rfl) ?_ | (refine RunTo.unguard rfl rfl (fun hg => ?_) (fun hg => ?_) <;> ((try simp only [Bool.not_true, Bool.not_false, Bool.not_eq_true', Bool.not_eq_false', Bool.not_eq_eq_eq_not] at hg); (first | (cases hg) | (simp only [hg]) | skip))) | ((first | refine RunTo.plain rfl ?_ | refine RunTo.skipped rfl ?_ | refine RunTo.call (ha) Tryd.func33 rfl rfl rfl rfl rfl rfl rfl rfl ?_); simp only [go_sem, ↓reduceIte, Nat.reduceEqDiff, Nat.reduceAdd, Nat.reduceLeDiff, Nat.reduceBEq, Nat.reduceMul, reduceCtorEq, Int.reduceLE, Int.reduceLT, Int.reduceAdd, Int.reduceSub, Int.reduceNeg, Int.reduceToNat, Int.reduceBEq, ValD.av, bne, hk6, List.length_map]) | ((first | refine RunTo.nilA (by kernel_rfl) ?_ | refine RunTo.nilT ?_ | refine awp_skip ?_ | refine awp_exit ?_ | refine awp_label ?_); simp only [go_sem, ↓reduceIte, Nat.reduceEqDiff, Nat.reduceAdd, Nat.reduceLeDiff, Nat.reduceBEq, Nat.reduceMul, reduceCtorEq, Int.reduceLE, Int.reduceLT, Int.reduceAdd, Int.reduceSub, Int.reduceNeg, Int.reduceToNat, Int.reduceBEq, ValD.av, bne, hk6, List.length_map]) | (refine awp_cond' rfl (of_decide_eq_true rfl) (fun hc => ?_) (fun hc => ?_) <;> ((try simp only [Bool.not_true, Bool.not_false, Bool.not_eq_true', Bool.not_eq_false', Bool.not_eq_eq_eq_not] at hc); (first | (cases hc) | (simp only [hc]) | skip))))
    all_goals
      (first | refine awp_ret ?_ | skip); refine ⟨(by first | exact .inl rfl | exact .inr rfl | exact .inr trivial | trivial), ?_⟩; simp only [go_sem, ↓reduceIte, Nat.reduceEqDiff, Nat.reduceAdd, Nat.reduceLeDiff, Nat.reduceBEq, Nat.reduceMul, reduceCtorEq, Int.reduceLE, Int.reduceLT, Int.reduceAdd, Int.reduceSub, Int.reduceNeg, Int.reduceToNat, Int.reduceBEq, retV, resL, resV, sealV, sealC, sealAll, Tryd.f12]
      rw [validV_atom h6]
      simp [*]
theorem kind_of {a : AtomD} (h : validA a = true) : 0 ≤ a.k ∧ a.k ≤ 5 := by
  unfold validA at h
  (repeat' split at h) <;> first | omega | cases h
theorem app_first (p x : ByteArray) : p ++ joinB ([].map printA) sepB ++ x = p ++ joinB ([].map printA ++ [x]) sepB := by
  apply ByteArray.ext
  simp [joinB, Lib.join_nil, Lib.join_one, ByteArray.data_append]
theorem join_snocL (sep : List UInt8) (x : List UInt8) : ∀ xs : List (List UInt8), xs ≠ [] → Lib.join (xs ++ [x]) sep = Lib.join xs sep ++ sep ++ x
  | [], h => absurd rfl h
  | a :: r, _ => by
    rw [List.cons_append, Lib.join_cons, Lib.join_cons]
    simp [Lib.joinTail]
theorem join_snoc (xs : List ByteArray) (sep x : ByteArray) (h : xs ≠ []) : joinB (xs ++ [x]) sep = joinB xs sep ++ sep ++ x := by
  have := join_snocL sep.data.toList x.data.toList (xs.map (·.data.toList)) (by simpa using h)
  apply ByteArray.ext
  rw [ByteArray.data_append, ByteArray.data_append]
  apply Array.ext'
  simp only [joinB, List.map_append, List.map_cons, List.map_nil]
  rw [this]
  simp
abbrev SWp (v : ValD) (k : Nat) (s : ByteArray) (T e : Nat) : St := ⟨[(3, sv s), (4, iv k), (1, .ptr 1 e 0 0)], [(1, .box e (cellsV v))], T⟩
def IWp (v : ValD) (n : Nat) (st : St) : Prop := ∃ k s T e, k ≤ v.l.length ∧ n = v.l.length - k ∧ s = (⟨#[91]⟩ : ByteArray) ++ joinB ((v.l.take k).map printA) sepB ∧ st = SWp v k s T e
theorem c_rPrint (v : ValD) (hf : flV v) (ho : okV v) : Pure Tryd.prog 20 [v.av] (sv (printV v)) := by
  have hvc := c_rValid v hf
  by_cases hv : validV v = true
  · rw [hv] at hvc
    by_cases h6 : v.a.k = 6
    · have hk6 : (v.a.k == 6) = true := by simpa using h6
      have hl16 : v.l.length ≤ 16 ∧ ∀ a ∈ v.l, validA a = true := by
        rw [validV_list h6] at hv
        simp only [Bool.and_eq_true, decide_eq_true_eq, List.all_eq_true] at hv
        exact ⟨by have := hv.1.2; omega, hv.2⟩
      refine pure_of_awp Tryd.func20 rfl rfl (by simp [Tryd.f20]) ?_; simp only [go_sem, ↓reduceIte, Nat.reduceEqDiff, Nat.reduceAdd, Nat.reduceLeDiff, Nat.reduceBEq, Nat.reduceMul, reduceCtorEq, Int.reduceLE, Int.reduceLT, Int.reduceAdd, Int.reduceSub, Int.reduceNeg, Int.reduceToNat, Int.reduceBEq]
      repeat' (first | refine awp_seq ?_ | refine awp_block ?_ | refine awp_round ?_ | refine awp_scope ?_ | refine awp_text rfl ?_ | refine awp_any rfl mix (by kernel_rfl) ?_ | (refine RunTo.unguard rfl rfl (fun hg => ?_) (fun hg => ?_) <;> ((try simp only [Bool.not_true, Bool.not_false, Bool.not_eq_true', Bool.not_eq_false', Bool.not_eq_eq_eq_not] at hg); (first | (cases hg) | (simp only [hg]) | skip))) | ((first | refine RunTo.plain rfl ?_ | refine RunTo.skipped rfl ?_ | refine RunTo.call (hvc) Tryd.func12 rfl rfl rfl rfl rfl rfl rfl rfl ?_); simp only [go_sem, ↓reduceIte, Nat.reduceEqDiff, Nat.reduceAdd, Nat.reduceLeDiff, Nat.reduceBEq, Nat.reduceMul, reduceCtorEq, Int.reduceLE, Int.reduceLT, Int.reduceAdd, Int.reduceSub, Int.reduceNeg, Int.reduceToNat, Int.reduceBEq, ValD.av, bne, hk6, List.length_map]) | ((first | refine RunTo.nilA (by kernel_rfl) ?_ | refine RunTo.nilT ?_ | refine awp_skip ?_ | refine awp_exit ?_ | refine awp_label ?_); simp only [go_sem, ↓reduceIte, Nat.reduceEqDiff, Nat.reduceAdd, Nat.reduceLeDiff, Nat.reduceBEq, Nat.reduceMul, reduceCtorEq, Int.reduceLE, Int.reduceLT, Int.reduceAdd, Int.reduceSub, Int.reduceNeg, Int.reduceToNat, Int.reduceBEq, ValD.av, bne, hk6, List.length_map]) | (refine awp_cond' rfl (of_decide_eq_true rfl) (fun hc => ?_) (fun hc => ?_) <;> ((try simp only [Bool.not_true, Bool.not_false, Bool.not_eq_true', Bool.not_eq_false', Bool.not_eq_eq_eq_not] at hc); (first | (cases hc) | (simp only [hc]) | skip))))
      refine awp_loopw (IWp v) v.l.length (SWp v 0 ⟨#[91]⟩ _ _) (weak_keep ⟨rfl, rfl, rfl, trivial⟩ ⟨rfl, trivial⟩ (Nat.le_refl _)) ⟨0, _, _, _, Nat.zero_le _, rfl, rfl, rfl⟩ ?_
      rintro n st ⟨k, s, T, e, hk, rfl, hs, rfl⟩
      have hbig := joinB_le ((v.l.take k).map printA) sepB 10000000 (fun x hx => by obtain ⟨a, ha, rfl⟩ := List.mem_map.1 hx; exact printA_big a (ho.2 a (List.mem_of_mem_take ha)))
      have hs2 : sepB.size = 2 := rfl
      have e1 : (⟨#[91]⟩ : ByteArray).size = 1 := rfl
      rw [List.length_map, List.length_take, hs2] at hbig
      have hss : s.size ≤ 1000000000 := by rw [hs, ByteArray.size_append, e1]; omega
      by_cases hlt : k < v.l.length
      · have hdec := lt_t hlt
        have hget := row_at AtomD.enc v.l k hlt
        have hfa := hf.2 _ (List.getElem_mem hlt)
        have hoa := ho.2 _ (List.getElem_mem hlt)
        have hka := kind_of (hl16.2 _ (List.getElem_mem hlt))
        have htk : (v.l.take (k + 1)).map printA = (v.l.take k).map printA ++ [printA v.l[k]] := by rw [List.take_succ_eq_append_getElem hlt, List.map_append]; rfl
        have hwk : IntKind.i64.wrap ((k : Int) + 1) = ((k + 1 : Nat) : Int) := wrap_succ (by omega)
        generalize v.l[k] = a at *
        have hca := c_rPrintA a hfa hoa.1 hoa.2 hka
        have hpb := printA_big a hoa
        have z1 : (s.size + 2 ≤ 9223372036854775807) = True := eq_true (by omega)
        have z2 : (s.size + 2 + (printA a).size ≤ 9223372036854775807) = True := eq_true (by omega)
        have z3 : (s.size + (printA a).size ≤ 9223372036854775807) = True := eq_true (by omega)
        by_cases hk0 : k = 0
        · subst hk0
          have hdec0 : decide ((0 : Int) < (v.l.length : Int)) = true := decide_eq_true (by omega)
          repeat' (first | refine awp_seq ?_ | refine awp_block ?_ | refine awp_round ?_ | refine awp_scope ?_ | refine awp_text rfl ?_ | refine awp_any rfl mix (by kernel_rfl) ?_ | (refine RunTo.unguard rfl rfl (fun hg => ?_) (fun hg => ?_) <;> ((try simp only [Bool.not_true, Bool.not_false, Bool.not_eq_true', Bool.not_eq_false', Bool.not_eq_eq_eq_not] at hg); (first | (cases hg) | (simp only [hg]) | skip))) | ((first | refine RunTo.plain rfl ?_ | refine RunTo.skipped rfl ?_ | refine RunTo.call (hca) Tryd.func52 rfl rfl rfl rfl rfl rfl rfl rfl ?_); simp only [go_sem, ↓reduceIte, Nat.reduceEqDiff, Nat.reduceAdd, Nat.reduceLeDiff, Nat.reduceBEq, Nat.reduceMul, reduceCtorEq, Int.reduceLE, Int.reduceLT, Int.reduceAdd, Int.reduceSub, Int.reduceNeg, Int.reduceToNat, Int.reduceBEq, hdec0, hdec, hget, AtomD.enc, hwk, List.length_map, z3]) | ((first | refine RunTo.nilA (by kernel_rfl) ?_ | refine RunTo.nilT ?_ | refine awp_skip ?_ | refine awp_exit ?_ | refine awp_label ?_); simp only [go_sem, ↓reduceIte, Nat.reduceEqDiff, Nat.reduceAdd, Nat.reduceLeDiff, Nat.reduceBEq, Nat.reduceMul, reduceCtorEq, Int.reduceLE, Int.reduceLT, Int.reduceAdd, Int.reduceSub, Int.reduceNeg, Int.reduceToNat, Int.reduceBEq, hdec0, hdec, hget, AtomD.enc, hwk, List.length_map, z3]) | (refine awp_cond' rfl (of_decide_eq_true rfl) (fun hc => ?_) (fun hc => ?_) <;> ((try simp only [Bool.not_true, Bool.not_false, Bool.not_eq_true', Bool.not_eq_false', Bool.not_eq_eq_eq_not] at hc); (first | (cases hc) | (simp only [hc]) | skip))))
          all_goals exact ⟨v.l.length - (0 + 1), by omega, SWp v (0 + 1) (s ++ printA a) _ e, weak_keep ⟨rfl, rfl, rfl, trivial⟩ ⟨rfl, trivial⟩ (Nat.le_refl _), 0 + 1, _, _, _, by omega, rfl, by rw [htk, hs]; exact app_first _ _, rfl⟩
        · have hd0 : decide ((0 : Int) < (k : Int)) = true := decide_eq_true (by omega)
          repeat' (first | refine awp_seq ?_ | refine awp_block ?_ | refine awp_round ?_ | refine awp_scope ?_ | refine awp_text rfl ?_ | refine awp_any rfl mix (by kernel_rfl) ?_ | (refine RunTo.unguard rfl rfl (fun hg => ?_) (fun hg => ?_) <;> ((try simp only [Bool.not_true, Bool.not_false, Bool.not_eq_true', Bool.not_eq_false', Bool.not_eq_eq_eq_not] at hg); (first | (cases hg) | (simp only [hg]) | skip))) | ((first | refine RunTo.plain rfl ?_ | refine RunTo.skipped rfl ?_ | refine RunTo.call (hca) Tryd.func52 rfl rfl rfl rfl rfl rfl rfl rfl ?_); simp only [go_sem, ↓reduceIte, Nat.reduceEqDiff, Nat.reduceAdd, Nat.reduceLeDiff, Nat.reduceBEq, Nat.reduceMul, reduceCtorEq, Int.reduceLE, Int.reduceLT, Int.reduceAdd, Int.reduceSub, Int.reduceNeg, Int.reduceToNat, Int.reduceBEq, hdec, hget, AtomD.enc, hwk, List.length_map, hd0, z1, z2, ByteArray.size_append, List.size_toArray]) | ((first | refine RunTo.nilA (by kernel_rfl) ?_ | refine RunTo.nilT ?_ | refine awp_skip ?_ | refine awp_exit ?_ | refine awp_label ?_); simp only [go_sem, ↓reduceIte, Nat.reduceEqDiff, Nat.reduceAdd, Nat.reduceLeDiff, Nat.reduceBEq, Nat.reduceMul, reduceCtorEq, Int.reduceLE, Int.reduceLT, Int.reduceAdd, Int.reduceSub, Int.reduceNeg, Int.reduceToNat, Int.reduceBEq, hdec, hget, AtomD.enc, hwk, List.length_map, hd0, z1, z2, ByteArray.size_append, List.size_toArray]) | (refine awp_cond' rfl (of_decide_eq_true rfl) (fun hc => ?_) (fun hc => ?_) <;> ((try simp only [Bool.not_true, Bool.not_false, Bool.not_eq_true', Bool.not_eq_false', Bool.not_eq_eq_eq_not] at hc); (first | (cases hc) | (simp only [hc]) | skip))))
          all_goals exact ⟨v.l.length - (k + 1), by omega, SWp v (k + 1) (s ++ sepB ++ printA a) _ e, weak_keep ⟨rfl, rfl, rfl, trivial⟩ ⟨rfl, trivial⟩ (Nat.le_refl _), k + 1, _, _, _, by omega, rfl, by
            rw [htk, hs, join_snoc _ _ _ (fun h0 => by have h1 := congrArg List.length h0; rw [List.length_map, List.length_take, List.length_nil] at h1; omega)]
            simp only [ByteArray.append_assoc], rfl⟩
      · have hdec := lt_f hlt
        have hall : v.l.take k = v.l := List.take_of_length_le (by omega)
        rw [hall] at hs
        have z1 : (s.size + 1 ≤ 9223372036854775807) = True := eq_true (by omega)
        repeat' (first | refine awp_seq ?_ | refine awp_block ?_ | refine awp_round ?_ | refine awp_scope ?_ | refine awp_text rfl ?_ | refine awp_any rfl mix (by kernel_rfl) ?_ | (refine RunTo.unguard rfl rfl (fun hg => ?_) (fun hg => ?_) <;> ((try simp only [Bool.not_true, Bool.not_false, Bool.not_eq_true', Bool.not_eq_false', Bool.not_eq_eq_eq_not] at hg); (first | (cases hg) | (simp only [hg]) | skip))) | ((first | refine RunTo.plain rfl ?_ | refine RunTo.skipped rfl ?_); simp only [go_sem, ↓reduceIte, Nat.reduceEqDiff, Nat.reduceAdd, Nat.reduceLeDiff, Nat.reduceBEq, Nat.reduceMul, reduceCtorEq, Int.reduceLE, Int.reduceLT, Int.reduceAdd, Int.reduceSub, Int.reduceNeg, Int.reduceToNat, Int.reduceBEq, hdec, List.length_map, z1, List.size_toArray]) | ((first | refine RunTo.nilA (by kernel_rfl) ?_ | refine RunTo.nilT ?_ | refine awp_skip ?_ | refine awp_exit ?_ | refine awp_label ?_); simp only [go_sem, ↓reduceIte, Nat.reduceEqDiff, Nat.reduceAdd, Nat.reduceLeDiff, Nat.reduceBEq, Nat.reduceMul, reduceCtorEq, Int.reduceLE, Int.reduceLT, Int.reduceAdd, Int.reduceSub, Int.reduceNeg, Int.reduceToNat, Int.reduceBEq, hdec, List.length_map, z1, List.size_toArray]) | (refine awp_cond' rfl (of_decide_eq_true rfl) (fun hc => ?_) (fun hc => ?_) <;> ((try simp only [Bool.not_true, Bool.not_false, Bool.not_eq_true', Bool.not_eq_false', Bool.not_eq_eq_eq_not] at hc); (first | (cases hc) | (simp only [hc]) | skip))))
        all_goals (first | refine awp_ret ?_ | skip); refine ⟨(by first | exact .inl rfl | exact .inr rfl | exact .inr trivial | trivial), ?_⟩; simp only [go_sem, ↓reduceIte, Nat.reduceEqDiff, Nat.reduceAdd, Nat.reduceLeDiff, Nat.reduceBEq, Nat.reduceMul, reduceCtorEq, Int.reduceLE, Int.reduceLT, Int.reduceAdd, Int.reduceSub, Int.reduceNeg, Int.reduceToNat, Int.reduceBEq, retV, resL, resV, sealV, sealC, sealAll, Tryd.f20]
        all_goals rw [printV, if_pos hv, if_pos h6, hs]
    · have hk6 : (v.a.k == 6) = false := by simpa using h6
      have hva : validA v.a = true := by
        rw [validV_atom h6] at hv
        simp only [Bool.and_eq_true] at hv
        exact hv.1
      have hca := c_rPrintA v.a hf.1 ho.1.1 ho.1.2 (kind_of hva)
      refine pure_of_awp Tryd.func20 rfl rfl (by simp [Tryd.f20]) ?_; simp only [go_sem, ↓reduceIte, Nat.reduceEqDiff, Nat.reduceAdd, Nat.reduceLeDiff, Nat.reduceBEq, Nat.reduceMul, reduceCtorEq, Int.reduceLE, Int.reduceLT, Int.reduceAdd, Int.reduceSub, Int.reduceNeg, Int.reduceToNat, Int.reduceBEq]
      repeat' (first | refine awp_seq ?_ | refine awp_block ?_ | refine awp_round ?_ | refine awp_scope ?_ | refine awp_text rfl ?_ | refine awp_any rfl mix (by kernel_rfl) ?_ | (refine RunTo.unguard rfl rfl (fun hg => ?_) (fun hg => ?_) <;> ((try simp only [Bool.not_true, Bool.not_false, Bool.not_eq_true', Bool.not_eq_false', Bool.not_eq_eq_eq_not] at hg); (first | (cases hg) | (simp only [hg]) | skip))) | ((first | refine RunTo.plain rfl ?_ | refine RunTo.skipped rfl ?_ | refine RunTo.call (hvc) Tryd.func12 rfl rfl rfl rfl rfl rfl rfl rfl ?_ | refine RunTo.call (hca) Tryd.func52 rfl rfl rfl rfl rfl rfl rfl rfl ?_); simp only [go_sem, ↓reduceIte, Nat.reduceEqDiff, Nat.reduceAdd, Nat.reduceLeDiff, Nat.reduceBEq, Nat.reduceMul, reduceCtorEq, Int.reduceLE, Int.reduceLT, Int.reduceAdd, Int.reduceSub, Int.reduceNeg, Int.reduceToNat, Int.reduceBEq, ValD.av, bne, hk6, List.length_map]) | ((first | refine RunTo.nilA (by kernel_rfl) ?_ | refine RunTo.nilT ?_ | refine awp_skip ?_ | refine awp_exit ?_ | refine awp_label ?_); simp only [go_sem, ↓reduceIte, Nat.reduceEqDiff, Nat.reduceAdd, Nat.reduceLeDiff, Nat.reduceBEq, Nat.reduceMul, reduceCtorEq, Int.reduceLE, Int.reduceLT, Int.reduceAdd, Int.reduceSub, Int.reduceNeg, Int.reduceToNat, Int.reduceBEq, ValD.av, bne, hk6, List.length_map]) | (refine awp_cond' rfl (of_decide_eq_true rfl) (fun hc => ?_) (fun hc => ?_) <;> ((try simp only [Bool.not_true, Bool.not_false, Bool.not_eq_true', Bool.not_eq_false', Bool.not_eq_eq_eq_not] at hc); (first | (cases hc) | (simp only [hc]) | skip))))
      all_goals (first | refine awp_ret ?_ | skip); refine ⟨(by first | exact .inl rfl | exact .inr rfl | exact .inr trivial | trivial), ?_⟩; simp only [go_sem, ↓reduceIte, Nat.reduceEqDiff, Nat.reduceAdd, Nat.reduceLeDiff, Nat.reduceBEq, Nat.reduceMul, reduceCtorEq, Int.reduceLE, Int.reduceLT, Int.reduceAdd, Int.reduceSub, Int.reduceNeg, Int.reduceToNat, Int.reduceBEq, retV, resL, resV, sealV, sealC, sealAll, Tryd.f20]
      all_goals rw [printV, if_pos hv, if_neg h6]
  · have hv' : validV v = false := by simpa using hv
    rw [hv'] at hvc
    refine pure_of_awp Tryd.func20 rfl rfl (by simp [Tryd.f20]) ?_; simp only [go_sem, ↓reduceIte, Nat.reduceEqDiff, Nat.reduceAdd, Nat.reduceLeDiff, Nat.reduceBEq, Nat.reduceMul, reduceCtorEq, Int.reduceLE, Int.reduceLT, Int.reduceAdd, Int.reduceSub, Int.reduceNeg, Int.reduceToNat, Int.reduceBEq]
    repeat' (first | refine awp_seq ?_ | refine awp_block ?_ | refine awp_round ?_ | refine awp_scope ?_ | refine awp_text rfl ?_ | refine awp_any rfl mix (by kernel_rfl) ?_ | (refine RunTo.unguard rfl rfl (fun hg => ?_) (fun hg => ?_) <;> ((try simp only [Bool.not_true, Bool.not_false, Bool.not_eq_true', Bool.not_eq_false', Bool.not_eq_eq_eq_not] at hg); (first | (cases hg) | (simp only [hg]) | skip))) | ((first | refine RunTo.plain rfl ?_ | refine RunTo.skipped rfl ?_ | refine RunTo.call (hvc) Tryd.func12 rfl rfl rfl rfl rfl rfl rfl rfl ?_); simp only [go_sem, ↓reduceIte, Nat.reduceEqDiff, Nat.reduceAdd, Nat.reduceLeDiff, Nat.reduceBEq, Nat.reduceMul, reduceCtorEq, Int.reduceLE, Int.reduceLT, Int.reduceAdd, Int.reduceSub, Int.reduceNeg, Int.reduceToNat, Int.reduceBEq, ValD.av, bne, List.length_map]) | ((first | refine RunTo.nilA (by kernel_rfl) ?_ | refine RunTo.nilT ?_ | refine awp_skip ?_ | refine awp_exit ?_ | refine awp_label ?_); simp only [go_sem, ↓reduceIte, Nat.reduceEqDiff, Nat.reduceAdd, Nat.reduceLeDiff, Nat.reduceBEq, Nat.reduceMul, reduceCtorEq, Int.reduceLE, Int.reduceLT, Int.reduceAdd, Int.reduceSub, Int.reduceNeg, Int.reduceToNat, Int.reduceBEq, ValD.av, bne, List.length_map]) | (refine awp_cond' rfl (of_decide_eq_true rfl) (fun hc => ?_) (fun hc => ?_) <;> ((try simp only [Bool.not_true, Bool.not_false, Bool.not_eq_true', Bool.not_eq_false', Bool.not_eq_eq_eq_not] at hc); (first | (cases hc) | (simp only [hc]) | skip))))
    all_goals (first | refine awp_ret ?_ | skip); refine ⟨(by first | exact .inl rfl | exact .inr rfl | exact .inr trivial | trivial), ?_⟩; simp only [go_sem, ↓reduceIte, Nat.reduceEqDiff, Nat.reduceAdd, Nat.reduceLeDiff, Nat.reduceBEq, Nat.reduceMul, reduceCtorEq, Int.reduceLE, Int.reduceLT, Int.reduceAdd, Int.reduceSub, Int.reduceNeg, Int.reduceToNat, Int.reduceBEq, retV, resL, resV, sealV, sealC, sealAll, Tryd.f20]
    all_goals rw [printV, if_neg hv]
end Go.Proofs.YtjihcldhjpdnmaaDoor.AM
namespace Go.Proofs.YtjihcldhjpdnmaaDoor.AM
open Go.RowKit
set_option linter.unusedSimpArgs false
set_option linter.unusedVariables false
set_option maxRecDepth 10000
set_option maxHeartbeats 0
theorem zlt : 0 < 18446744073709551616 := by decide
theorem tw_all {p : UInt8 → Bool} : ∀ {l : List UInt8}, ∀ c ∈ l.takeWhile p, p c = true
  | [], c, h => by cases h
  | x :: l, c, h => by
    rw [List.takeWhile_cons] at h
    split at h
    · rename_i hx
      rcases List.mem_cons.1 h with rfl | h
      · exact hx
      · exact tw_all c h
    · cases h
theorem hexU_lt : ∀ (l : List UInt8) (u0 u : Nat), hexU u0 l = some u → u < (u0 + 1) * 16 ^ l.length
  | [], u0, u, h => by
    simp only [hexU, Option.some.injEq] at h
    subst h
    simp
  | c :: l, u0, u, h => by
    unfold hexU at h
    split at h
    · cases h
    · have ih := hexU_lt l _ _ h
      have hb := hexI_bd c
      refine Nat.lt_of_lt_of_le ih ?_
      rw [List.length_cons, Nat.pow_succ, Nat.mul_comm (16 ^ l.length) 16, ← Nat.mul_assoc]
      exact Nat.mul_le_mul_right _ (by omega)
theorem parseF_lt {l : List UInt8} {u : Nat} (h : parseF l = some u) : u < 18446744073709551616 := by
  unfold parseF at h
  split at h
  · rename_i hl
    cases hu : hexU 0 l with
    | none => rw [hu] at h; cases h
    | some w =>
      rw [hu] at h
      simp only at h
      split at h
      · obtain rfl := Option.some.inj h
        have := hexU_lt l 0 _ hu
        rw [hl] at this
        exact Nat.lt_of_lt_of_le this (by decide)
      · cases h
  · cases h
theorem atomL_fl {l : List UInt8} {a : AtomD} {n : Nat} (h : atomL l = .ok a n) : a.f < 18446744073709551616 := by
  unfold atomL at h
  split at h
  · simp only [RA.ok.injEq] at h; rw [← h.1]; decide
  · split at h
    · simp only [RA.ok.injEq] at h; rw [← h.1]; decide
    · split at h
      · simp only [RA.ok.injEq] at h; rw [← h.1]; decide
      · split at h
        · split at h
          · cases h
          · cases hp : parseF ((l.drop 2).take 16) with
            | none => rw [hp] at h; cases h
            | some u =>
              rw [hp] at h
              simp only [RA.ok.injEq] at h
              rw [← h.1]
              exact parseF_lt hp
        · split at h
          · cases hr : textL 257 [] (l.drop 1) with
            | bad e => rw [hr] at h; cases h
            | ok t m => rw [hr] at h; simp only [textA, RA.ok.injEq] at h; rw [← h.1]; exact zlt
          · split at h
            · cases hr : textL 257 [] (l.drop 2) with
              | bad e => rw [hr] at h; cases h
              | ok t m => rw [hr] at h; simp only [textA, RA.ok.injEq] at h; rw [← h.1]; exact zlt
            · cases hr : wholeL l with
              | none => rw [hr] at h; cases h
              | some p => obtain ⟨i, m⟩ := p; rw [hr] at h; simp only [RA.ok.injEq] at h; rw [← h.1]; exact zlt
theorem listL_fl : ∀ (f : Nat) (acc : List AtomD) (l : List UInt8) (res : List AtomD) (n : Nat), (∀ a ∈ acc, a.f < 18446744073709551616) → listL f acc l = .ok res n → ∀ a ∈ res, a.f < 18446744073709551616
  | 0, _, _, _, _, _, h => by cases h
  | f + 1, acc, l, res, n, ha, h => by
    unfold listL at h
    split at h
    · cases h
    · cases hr : atomL l with
      | bad e2 => rw [hr] at h; cases h
      | ok a j =>
        have hf := atomL_fl hr
        have ha' : ∀ x ∈ acc ++ [a], x.f < 18446744073709551616 := fun x hx => by
          rcases List.mem_append.1 hx with hx | hx
          · exact ha x hx
          · rw [List.mem_singleton.1 hx]; exact hf
        rw [hr] at h
        simp only [listN] at h
        split at h
        · simp only [RL.ok.injEq] at h
          rw [← h.1]
          exact ha'
        · split at h
          · cases hr2 : listL f (acc ++ [a]) ((l.drop j).drop 2) with
            | bad e2 => rw [hr2] at h; cases h
            | ok t m =>
              rw [hr2] at h
              simp only [RL.add, RL.ok.injEq] at h
              rw [← h.1]
              exact listL_fl f _ _ _ _ ha' hr2
          · cases h
theorem read_fl {l : List UInt8} {v : ValD} {n : Nat} (h : readL l = .ok v n) : flV v := by
  unfold readL at h
  split at h
  · split at h
    · simp only [RV.ok.injEq] at h
      rw [← h.1]
      exact ⟨by decide, fun a ha => (by cases ha)⟩
    · cases hr : listL 17 [] (l.drop 1) with
      | bad e => rw [hr] at h; cases h
      | ok t m =>
        rw [hr] at h
        simp only [listV, RV.ok.injEq] at h
        rw [← h.1]
        exact ⟨zlt, listL_fl _ _ _ _ _ (fun a ha => (by cases ha)) hr⟩
  · cases hr : atomL l with
    | bad e => rw [hr] at h; cases h
    | ok a m =>
      rw [hr] at h
      simp only [atomV, RV.ok.injEq] at h
      rw [← h.1]
      exact ⟨atomL_fl hr, fun a ha => (by cases ha)⟩
theorem valid_len {v : ValD} (h : validV v = true) : v.l.length ≤ 16 := by
  by_cases h6 : v.a.k = 6
  · rw [validV_list h6] at h
    simp only [Bool.and_eq_true, decide_eq_true_eq] at h
    omega
  · rw [validV_atom h6] at h
    simp only [Bool.and_eq_true, beq_iff_eq] at h
    omega
theorem lit_again {l : List UInt8} {v : ValD} {n : Nat} (h : readL l = .ok v n) (r : List UInt8) : readL (l.take n ++ 32 :: r) = .ok v n := by
  obtain ⟨h1, h2, h3, h4, h5⟩ := read_print h
  have hf := read_fl h
  have := (readL_back v h2 ⟨h5.1.1, hf.1⟩ (fun a ha => ⟨(h5.2 a ha).1, hf.2 a ha⟩) (32 :: r) (by simp [List.takeWhile_cons, dgB]) (.inl (by simp))).1
  have hs : (printV v).size = n := by
    have : (printV v).data.toList.length = (printV v).size := Array.length_toList
    rw [← this, h1, List.length_take]
    omega
  rw [h1, hs] at this
  exact this
structure TokD where
  k : Int
  t : ByteArray
  v : ValD
  p : Int
def partB (c : UInt8) : Bool := okB false (c.toNat : Int)
def hdB (l : List UInt8) : Bool := match l with
  | [] => false
  | c :: _ => partB c
def litT (l : List UInt8) : Option (TokD × Nat) := match readL l with
  | .bad _ => none
  | .ok v n => if hdB (l.drop n) = true then none else some (⟨2, eE, v, 0⟩, n)
def wordW (w : List UInt8) : Option (TokD × Nat) := if bs w = nullB ∨ bs w = trueB ∨ bs w = falseB then litT w
  else if wordS (bs w) = true then some (⟨3, bs w, nulV, 0⟩, w.length)
  else if nameS (bs w) = true then some (⟨1, bs w, nulV, 0⟩, w.length) else none
abbrev marksL : List ByteArray := [⟨#[60, 45, 91]⟩, ⟨#[93, 45, 62]⟩, ⟨#[60, 62]⟩, ⟨#[60, 61]⟩, ⟨#[62, 61]⟩, ⟨#[45, 91]⟩, ⟨#[93, 45]⟩, ⟨#[46, 46]⟩, ⟨#[40]⟩, ⟨#[41]⟩, ⟨#[123]⟩, ⟨#[125]⟩, ⟨#[58]⟩, ⟨#[44]⟩, ⟨#[46]⟩, ⟨#[61]⟩, ⟨#[60]⟩, ⟨#[62]⟩, ⟨#[43]⟩, ⟨#[45]⟩, ⟨#[42]⟩]
def markF (l : List UInt8) : List ByteArray → Option (TokD × Nat)
  | [] => none
  | m :: ms => if preL l m = true then some (⟨3, m, nulV, 0⟩, m.size) else markF l ms
def markT (l : List UInt8) : Option (TokD × Nat) := markF l marksL
def secB : List UInt8 → UInt8
  | [] => 0
  | d :: _ => d
def secN (l : List UInt8) : Nat := (secB l).toNat
def dgN (d : Nat) : Bool := decide (48 ≤ (d : Int)) && decide ((d : Int) ≤ 57)
def isLit (c d : Nat) : Bool := dgN c || decide (c = 34) || (decide (c = 120) && decide (d = 34)) || (decide (c = 45) && dgN d)
def firstT : List UInt8 → Option (TokD × Nat)
  | [] => none
  | c :: r => if isLit c.toNat (secN r) = true then litT (c :: r) else if partB c = true then wordW ((c :: r).takeWhile partB) else markT (c :: r)
def own (t : TokD) : List UInt8 := if t.k = 2 then (printV t.v).data.toList else t.t.data.toList
structure GoodT (t : TokD) : Prop where
  fl : flV t.v
  ok : okV t.v
  ln : t.v.l.length ≤ 16
theorem good_nul : flV nulV ∧ okV nulV ∧ nulV.l.length ≤ 16 := ⟨⟨zlt, fun a ha => (by cases ha)⟩, ⟨⟨⟨by decide, by decide⟩, by decide⟩, fun a ha => (by cases ha)⟩, by decide⟩
theorem first_cons (c : UInt8) (r : List UInt8) : firstT (c :: r) = if isLit c.toNat (secN r) = true then litT (c :: r) else if partB c = true then wordW ((c :: r).takeWhile partB) else markT (c :: r) := rfl
structure Firsts (f : List UInt8 → Option (TokD × Nat)) (l : List UInt8) (t : TokD) (n : Nat) : Prop where
  p : t.p = 0
  own : own t = l.take n
  pos : 0 < n
  le : n ≤ l.length
  good : GoodT t
  k4 : t.k ≠ 4
  again : ∀ r, f (l.take n ++ 32 :: r) = some (t, n)
theorem hdB_blank (r : List UInt8) : hdB (32 :: r) = false := by show partB 32 = false; rfl
theorem litT_first {l : List UInt8} {t : TokD} {n : Nat} (h : litT l = some (t, n)) : Firsts litT l t n := by
  unfold litT at h
  cases hr : readL l with
  | bad e => rw [hr] at h; cases h
  | ok v m =>
    rw [hr] at h
    simp only at h
    split at h
    · cases h
    · simp only [Option.some.injEq, Prod.mk.injEq] at h
      obtain ⟨rfl, rfl⟩ := h
      obtain ⟨h1, h2, h3, h4, h5⟩ := read_print hr
      refine ⟨rfl, ?_, h3, h4, ⟨read_fl hr, h5, valid_len h2⟩, (by show (2 : Int) ≠ 4; decide), fun r => ?_⟩
      · unfold own
        rw [if_pos rfl, h1]
      · unfold litT
        rw [lit_again hr r]
        simp only
        rw [List.drop_append_of_le_length (by rw [List.length_take]; omega), List.drop_of_length_le (by rw [List.length_take]; omega), List.nil_append, hdB_blank, if_neg (by simp)]
theorem sec_take (c : UInt8) (r r' : List UInt8) (n : Nat) (h : 2 ≤ n) (hl : n ≤ r.length + 1) : ∃ q, (c :: r).take n ++ r' = c :: q ∧ secN q = secN r := by
  obtain ⟨m, rfl⟩ : ∃ m, n = m + 2 := ⟨n - 2, by omega⟩
  cases r with
  | nil => simp at hl
  | cons d r => exact ⟨d :: (r.take m ++ r'), by simp, rfl⟩
theorem isLit_part {c d d' : Nat} (h : isLit c d = false) (hc : okB false (c : Int) = true) (h34 : d' ≠ 34) : isLit c d' = false := by
  simp only [isLit, dgN, okB, letB, Bool.or_eq_false_iff, Bool.or_eq_true, Bool.and_eq_true, Bool.and_eq_false_iff, decide_eq_true_eq, decide_eq_false_iff_not, beq_iff_eq, Bool.not_false, true_and] at *
  omega
theorem u8_eq {c : UInt8} {n : Nat} (h : c.toNat = n) (hn : n < 256) : c = UInt8.ofNat n := by
  apply UInt8.toNat_inj.1
  rw [h, UInt8.toNat_ofNat', Nat.mod_eq_of_lt (by omega)]
theorem part_take (l r : List UInt8) : (l.takeWhile partB ++ 32 :: r).takeWhile partB = l.takeWhile partB := by
  rw [List.takeWhile_append_of_pos (fun c hc => tw_all c hc)]
  rw [List.takeWhile_cons, if_neg (by rw [show partB 32 = false from rfl]; simp), List.append_nil]
theorem word_lits (w : List UInt8) (h : bs w = nullB ∨ bs w = trueB ∨ bs w = falseB) : ∃ v, litT w = some (⟨2, eE, v, 0⟩, w.length) := by
  have e : ∀ b : ByteArray, bs w = b → w = b.data.toList := fun b hb => by rw [← hb]
  rcases h with h | h | h
  · rw [e _ h]; exact ⟨_, rfl⟩
  · rw [e _ h]; exact ⟨_, rfl⟩
  · rw [e _ h]; exact ⟨_, rfl⟩
theorem wordW_len {w : List UInt8} {t : TokD} {n : Nat} (h : wordW w = some (t, n)) : n = w.length ∧ t.p = 0 ∧ own t = w ∧ GoodT t ∧ t.k ≠ 4 := by
  unfold wordW at h
  split at h
  · rename_i hw
    obtain ⟨v, hv⟩ := word_lits w hw
    have hf := litT_first h
    rw [hv] at h
    simp only [Option.some.injEq, Prod.mk.injEq] at h
    have hn := h.2.symm
    exact ⟨hn, hf.p, by rw [hf.own, hn, List.take_length], hf.good, hf.k4⟩
  · obtain ⟨g1, g2, g3⟩ := good_nul
    split at h
    · simp only [Option.some.injEq, Prod.mk.injEq] at h
      obtain ⟨rfl, rfl⟩ := h
      exact ⟨rfl, rfl, by unfold own; rw [if_neg (by show ¬ (3 : Int) = 2; decide)], ⟨g1, g2, g3⟩, by show (3 : Int) ≠ 4; decide⟩
    · split at h
      · simp only [Option.some.injEq, Prod.mk.injEq] at h
        obtain ⟨rfl, rfl⟩ := h
        exact ⟨rfl, rfl, by unfold own; rw [if_neg (by show ¬ (1 : Int) = 2; decide)], ⟨g1, g2, g3⟩, by show (1 : Int) ≠ 4; decide⟩
      · cases h
theorem mark_again : ∀ m ∈ marksL, ∀ r, firstT (m.data.toList ++ 32 :: r) = some (⟨3, m, nulV, 0⟩, m.size) := by
  intro m hm r
  simp only [marksL, List.mem_cons, List.not_mem_nil, or_false] at hm
  rcases hm with rfl | rfl | rfl | rfl | rfl | rfl | rfl | rfl | rfl | rfl | rfl | rfl | rfl | rfl | rfl | rfl | rfl | rfl | rfl | rfl | rfl <;> rfl
theorem markF_some {l : List UInt8} {t : TokD} {n : Nat} : ∀ {ms : List ByteArray}, markF l ms = some (t, n) → ∃ m ∈ ms, preL l m = true ∧ t = ⟨3, m, nulV, 0⟩ ∧ n = m.size
  | [], h => by cases h
  | m :: ms, h => by
    unfold markF at h
    split at h
    · rename_i hp
      simp only [Option.some.injEq, Prod.mk.injEq] at h
      exact ⟨m, List.mem_cons_self, hp, h.1.symm, h.2.symm⟩
    · obtain ⟨x, h1, h2⟩ := markF_some h
      exact ⟨x, List.mem_cons_of_mem _ h1, h2⟩
theorem marks_pos : ∀ m ∈ marksL, 0 < m.size := by decide
theorem first_again {l : List UInt8} {t : TokD} {n : Nat} (h : firstT l = some (t, n)) : Firsts firstT l t n := by
  cases l with
  | nil => cases h
  | cons c r =>
    rw [first_cons] at h
    split at h
    · rename_i hl
      have hf := litT_first h
      refine ⟨hf.p, hf.own, hf.pos, hf.le, hf.good, hf.k4, fun r' => ?_⟩
      have ha := hf.again r'
      by_cases h2 : 2 ≤ n
      · obtain ⟨q, e1, e2⟩ := sec_take c r (32 :: r') n h2 hf.le
        rw [e1] at ha ⊢
        rw [first_cons, e2, if_pos hl, ha]
      · have h1 : n = 1 := by have := hf.pos; omega
        subst h1
        have e : (c :: r).take 1 ++ 32 :: r' = c :: 32 :: r' := rfl
        rw [e] at ha ⊢
        rw [first_cons]
        by_cases hc : isLit c.toNat 32 = true
        · rw [show secN (32 :: r') = 32 from rfl, if_pos hc, ha]
        · exfalso
          have : c.toNat = 120 ∨ c.toNat = 45 := by
            simp only [isLit, dgN, Bool.or_eq_true, Bool.and_eq_true, decide_eq_true_eq] at hl hc
            omega
          have hn : litT (c :: 32 :: r') = none := by
            unfold litT
            rcases this with e | e
            · rw [u8_eq e (by omega)]; rfl
            · rw [u8_eq e (by omega)]; rfl
          rw [hn] at ha
          cases ha
    · rename_i hl
      have hl : isLit c.toNat (secN r) = false := by simpa using hl
      split at h
      · rename_i hp
        obtain ⟨h1, h2, h3, h4, h5⟩ := wordW_len h
        have hne : ∃ w, (c :: r).takeWhile partB = c :: w := ⟨r.takeWhile partB, by rw [List.takeWhile_cons, if_pos hp]⟩
        have htk : (c :: r).take n = (c :: r).takeWhile partB := by
          rw [h1]
          exact (List.prefix_iff_eq_take.1 (List.takeWhile_prefix partB)).symm
        have hle : n ≤ (c :: r).length := by rw [h1]; exact (List.takeWhile_sublist partB).length_le
        have hpos : 0 < n := by obtain ⟨w, hw⟩ := hne; rw [h1, hw]; simp
        refine ⟨h2, by rw [h3, htk], hpos, hle, h4, h5, fun r' => ?_⟩
        have hw := part_take (c :: r) r'
        rw [htk]
        obtain ⟨w, hcw⟩ := hne
        have hsec : isLit c.toNat (secN (w ++ 32 :: r')) = false := by
          by_cases h2 : 2 ≤ n
          · obtain ⟨q, e1, e2⟩ := sec_take c r (32 :: r') n h2 hle
            rw [htk, hcw] at e1
            have : w ++ 32 :: r' = q := by simpa using e1
            rw [this, e2]
            exact hl
          · have : w = [] := by
              have h1' := h1
              rw [hcw, List.length_cons] at h1'
              exact List.length_eq_zero_iff.1 (by omega)
            rw [this]
            exact isLit_part hl hp (show (32 : Nat) ≠ 34 by decide)
        rw [hcw] at hw h ⊢
        rw [List.cons_append] at hw ⊢
        rw [first_cons, if_neg (by rw [hsec]; simp), if_pos hp, hw, h]
      · rename_i hp
        obtain ⟨m, hm, h1, rfl, rfl⟩ := markF_some h
        obtain ⟨g1, g2, g3⟩ := good_nul
        refine ⟨rfl, ?_, marks_pos m hm, preL_len h1, ⟨g1, g2, g3⟩, (by show (3 : Int) ≠ 4; decide), fun r' => ?_⟩
        · unfold own
          rw [if_neg (by show ¬ (3 : Int) = 2; decide), pre_take h1]
        · rw [pre_take h1]
          exact mark_again m hm r'
inductive LX where
  | ok (l : List TokD)
  | bad (p : Nat)
def LX.app (a : List TokD) : LX → LX
  | .ok l => .ok (a ++ l)
  | .bad p => .bad p
def blkB (c : UInt8) : Bool := decide (c.toNat = 32) || decide (c.toNat = 9) || decide (c.toNat = 10) || decide (c.toNat = 13)
def endT (p : Nat) : TokD := ⟨4, eE, nulV, p⟩
def lexT : Nat → Nat → List UInt8 → LX
  | 0, p, _ => .bad p
  | _ + 1, p, [] => .ok [endT p]
  | f + 1, p, c :: r => if blkB c = true then lexT f (p + 1) r else match firstT (c :: r) with
    | none => .bad p
    | some (t, n) => LX.app [{ t with p := p }] (lexT f (p + n) ((c :: r).drop n))
theorem lex_nil (f p : Nat) : lexT (f + 1) p [] = .ok [endT p] := rfl
theorem lex_cons (f p : Nat) (c : UInt8) (r : List UInt8) : lexT (f + 1) p (c :: r) = if blkB c = true then lexT f (p + 1) r else match firstT (c :: r) with
    | none => .bad p
    | some (t, n) => LX.app [{ t with p := p }] (lexT f (p + n) ((c :: r).drop n)) := rfl
def txt (us : List TokD) : List UInt8 := us.flatMap (fun u => own u ++ [32])
def TokD.core (t : TokD) : TokD := { t with p := 0 }
structure Lexed (p : Nat) (l : List UInt8) (us : List TokD) : Prop where
  good : ∀ u ∈ us, GoodT u ∧ u.k ≠ 4 ∧ (p : Int) ≤ u.p
  rise : us.Pairwise (fun a b => a.p < b.p)
  len : (txt us).length + us.length ≤ 3 * l.length
  again : ∀ f' p', (txt us).length < f' → ∃ us', lexT f' p' (txt us) = .ok (us' ++ [endT (p' + (txt us).length)]) ∧ us'.map TokD.core = us.map TokD.core
theorem lex_form : ∀ (f p : Nat) (l : List UInt8) (ts : List TokD), lexT f p l = .ok ts → ∃ us, ts = us ++ [endT (p + l.length)] ∧ Lexed p l us
  | 0, _, _, _, h => by cases h
  | f + 1, p, [], ts, h => by
    rw [lex_nil] at h
    simp only [LX.ok.injEq] at h
    subst h
    refine ⟨[], rfl, ⟨fun u hu => (by cases hu), .nil, by simp [txt], fun f' p' hf => ?_⟩⟩
    obtain ⟨g, rfl⟩ : ∃ g, f' = g + 1 := ⟨f' - 1, by omega⟩
    exact ⟨[], rfl, rfl⟩
  | f + 1, p, c :: r, ts, h => by
    rw [lex_cons] at h
    split at h
    · obtain ⟨us, h1, h2⟩ := lex_form f (p + 1) r ts h
      refine ⟨us, by rw [h1, List.length_cons, show p + 1 + r.length = p + (r.length + 1) by omega], ⟨fun u hu => ?_, h2.rise, ?_, h2.again⟩⟩
      · have := h2.good u hu
        exact ⟨this.1, this.2.1, by omega⟩
      · have := h2.len
        rw [List.length_cons]
        omega
    · rename_i hb
      cases hf : firstT (c :: r) with
      | none => rw [hf] at h; cases h
      | some q =>
        obtain ⟨t, n⟩ := q
        rw [hf] at h
        simp only at h
        have hF := first_again hf
        cases hx : lexT f (p + n) ((c :: r).drop n) with
        | bad z => rw [hx] at h; cases h
        | ok ts' =>
          rw [hx] at h
          simp only [LX.app, LX.ok.injEq, List.cons_append, List.nil_append] at h
          obtain ⟨us, h1, h2⟩ := lex_form f (p + n) _ ts' hx
          have hle := hF.le
          have hpos := hF.pos
          have hdl : ((c :: r).drop n).length = (c :: r).length - n := List.length_drop
          have hown : own { t with p := p } = (c :: r).take n := hF.own
          have htxt : txt ({ t with p := (p : Int) } :: us) = (c :: r).take n ++ 32 :: txt us := by
            unfold txt
            rw [List.flatMap_cons, hown, List.append_assoc]
            rfl
          have htl : ((c :: r).take n).length = n := by rw [List.length_take]; omega
          refine ⟨{ t with p := p } :: us, ?_, ⟨?_, ?_, ?_, ?_⟩⟩
          · rw [← h, h1, hdl, List.cons_append, show p + n + ((c :: r).length - n) = p + (c :: r).length by omega]
          · intro u hu
            rcases List.mem_cons.1 hu with rfl | hu
            · exact ⟨⟨hF.good.fl, hF.good.ok, hF.good.ln⟩, hF.k4, Int.le_refl _⟩
            · have := h2.good u hu
              exact ⟨this.1, this.2.1, by omega⟩
          · refine .cons (fun u hu => ?_) h2.rise
            have := (h2.good u hu).2.2
            show (p : Int) < u.p
            omega
          · have := h2.len
            rw [htxt, List.length_append, List.length_cons, List.length_cons, htl]
            omega
          · intro f' p' hf'
            rw [htxt] at hf' ⊢
            rw [List.length_append, List.length_cons, htl] at hf'
            obtain ⟨g, rfl⟩ : ∃ g, f' = g + 2 := ⟨f' - 2, by omega⟩
            obtain ⟨us', k1, k2⟩ := h2.again g (p' + n + 1) (by omega)
            obtain ⟨m, rfl⟩ : ∃ m, n = m + 1 := ⟨n - 1, by omega⟩
            have ha := hF.again (txt us)
            rw [List.take_succ_cons, List.cons_append] at ha ⊢
            refine ⟨{ t with p := p' } :: us', ?_, ?_⟩
            · rw [lex_cons, if_neg hb, ha]
              simp only
              have hd : (c :: (r.take m ++ 32 :: txt us)).drop (m + 1) = 32 :: txt us := by
                have hm : (r.take m).length = m := by rw [List.length_take]; simp at hle; omega
                rw [List.drop_succ_cons, List.drop_append_of_le_length (by omega), List.drop_of_length_le (by omega), List.nil_append]
              rw [hd]
              rw [lex_cons, if_pos (by rfl), k1]
              simp only [LX.app, List.cons_append, List.nil_append, LX.ok.injEq]
              have hm : (r.take m).length = m := by rw [List.length_take]; simp at hle; omega
              rw [List.length_cons, List.length_append, List.length_cons, hm, show p' + (m + 1) + 1 + (txt us).length = p' + (m + ((txt us).length + 1) + 1) by omega]
            · rw [List.map_cons, List.map_cons, k2]
              congr 1
theorem lex_bad : ∀ (f p : Nat) (l : List UInt8) (q : Nat), l.length < f → lexT f p l = .bad q → p ≤ q ∧ q < p + l.length
  | 0, _, _, _, h, _ => by omega
  | f + 1, p, [], q, _, h => by rw [lex_nil] at h; cases h
  | f + 1, p, c :: r, q, hl, h => by
    rw [List.length_cons] at hl ⊢
    rw [lex_cons] at h
    split at h
    · have := lex_bad f (p + 1) r q (by omega) h
      omega
    · cases hf : firstT (c :: r) with
      | none =>
        rw [hf] at h
        simp only [LX.bad.injEq] at h
        omega
      | some z =>
        obtain ⟨t, n⟩ := z
        rw [hf] at h
        simp only at h
        have hF := first_again hf
        have hle := hF.le
        have hpos := hF.pos
        have hdl : ((c :: r).drop n).length = r.length + 1 - n := List.length_drop
        rw [List.length_cons] at hle
        cases hx : lexT f (p + n) ((c :: r).drop n) with
        | ok ts' => rw [hx] at h; cases h
        | bad z =>
          rw [hx] at h
          simp only [LX.app, LX.bad.injEq] at h
          have := lex_bad f (p + n) _ z (by omega) hx
          omega
end Go.Proofs.YtjihcldhjpdnmaaDoor.AM
namespace Go.Proofs.YtjihcldhjpdnmaaDoor.AM
open Go.RowKit
set_option linter.unusedSimpArgs false
set_option linter.unusedVariables false
set_option maxRecDepth 10000
set_option maxHeartbeats 0
def TokD.av (t : TokD) : AV := .agg [iv t.k, sv t.t, iv t.v.a.k, iv t.v.a.n, fv t.v.a.f, sv t.v.a.s, .dat (.lst 4 (t.v.l.map AtomD.enc)), iv t.p]
def TokD.enc (t : TokD) : List Dat := [di t.k, ds' t.t, di t.v.a.k, di t.v.a.n, df t.v.a.f, ds' t.v.a.s, .lst 4 (t.v.l.map AtomD.enc), di t.p]
def tokZ : TokD := ⟨0, eE, nulV, 0⟩
def litU : Option (TokD × Nat) → AV
  | some (t, n) => .tup [t.av, iv n]
  | none => .tup [tokZ.av, iv 0]
theorem tNil_le (k p n : Int) (t : ByteArray) (a : AtomD) : Ale (.tup [.agg [iv k, sv t, iv a.k, iv a.n, fv a.f, sv a.s, nilA, iv p], iv n]) (.tup [TokD.av ⟨k, t, ⟨a, []⟩, p⟩, iv n]) :=
  .tup (.cons (.agg (.cons (.refl _) (.cons (.refl _) (.cons (.refl _) (.cons (.refl _) (.cons (.refl _) (.cons (.refl _) (.cons (.dat (.nil 4)) (.cons (.refl _) .nil))))))))) (.cons (.refl _) .nil))
theorem hdB_in (s : ByteArray) (n : Nat) (h : n < s.size) : hdB (s.data.toList.drop n) = okB false ((s[n]).toNat : Int) := by rw [drop_cons s n h]; rfl
theorem c_litT (s : ByteArray) (hs : s.size ≤ 1000000) : Pure Tryd.prog 121 [sv s] (litU (litT s.data.toList)) := by
  have hr := c_Read s hs
  unfold litT
  cases he : readL s.data.toList with
  | bad e =>
    rw [he] at hr
    have hr : Pure _ _ _ (.tup [nulV.av, iv 0, iv e]) := hr
    have hb := readL_bad he
    have hne := beq_f (show e ≠ 0 by omega)
    refine pure_res ?_ (tNil_le 0 0 0 eE ⟨0, 0, 0, eE⟩)
    refine pure_of_awp Tryd.func121 rfl rfl (by simp [Tryd.f121]) ?_; simp only [go_sem, ↓reduceIte, Nat.reduceEqDiff, Nat.reduceAdd, Nat.reduceLeDiff, Nat.reduceBEq, Nat.reduceMul, reduceCtorEq, Int.reduceLE, Int.reduceLT, Int.reduceAdd, Int.reduceSub, Int.reduceNeg, Int.reduceToNat, Int.reduceBEq]
    repeat' (first | refine awp_seq ?_ | refine awp_block ?_ | refine awp_round ?_ | refine awp_scope ?_ | refine awp_text rfl ?_ | refine awp_any rfl mix (by kernel_rfl) ?_ | (refine RunTo.unguard rfl rfl (fun hg => ?_) (fun hg => ?_) <;> ((try simp only [Bool.not_true, Bool.not_false, Bool.not_eq_true', Bool.not_eq_false', Bool.not_eq_eq_eq_not] at hg); (first | (cases hg) | (simp only [hg]) | skip))) | ((first | refine RunTo.plain rfl ?_ | refine RunTo.skipped rfl ?_ | refine RunTo.call (hr) Tryd.func21 rfl rfl rfl rfl rfl rfl rfl rfl ?_); simp only [go_sem, ↓reduceIte, Nat.reduceEqDiff, Nat.reduceAdd, Nat.reduceLeDiff, Nat.reduceBEq, Nat.reduceMul, reduceCtorEq, Int.reduceLE, Int.reduceLT, Int.reduceAdd, Int.reduceSub, Int.reduceNeg, Int.reduceToNat, Int.reduceBEq, bne, hne, Bool.not_true, Bool.not_false]) | ((first | refine RunTo.nilA (by kernel_rfl) ?_ | refine RunTo.nilT ?_ | refine awp_skip ?_ | refine awp_exit ?_ | refine awp_label ?_); simp only [go_sem, ↓reduceIte, Nat.reduceEqDiff, Nat.reduceAdd, Nat.reduceLeDiff, Nat.reduceBEq, Nat.reduceMul, reduceCtorEq, Int.reduceLE, Int.reduceLT, Int.reduceAdd, Int.reduceSub, Int.reduceNeg, Int.reduceToNat, Int.reduceBEq, bne, hne, Bool.not_true, Bool.not_false]) | (refine awp_cond' rfl (of_decide_eq_true rfl) (fun hc => ?_) (fun hc => ?_) <;> ((try simp only [Bool.not_true, Bool.not_false, Bool.not_eq_true', Bool.not_eq_false', Bool.not_eq_eq_eq_not] at hc); (first | (cases hc) | (simp only [hc]) | skip))))
    all_goals (first | refine awp_ret ?_ | skip); refine ⟨(by first | exact .inl rfl | exact .inr rfl | exact .inr trivial | trivial), ?_⟩; simp only [go_sem, ↓reduceIte, Nat.reduceEqDiff, Nat.reduceAdd, Nat.reduceLeDiff, Nat.reduceBEq, Nat.reduceMul, reduceCtorEq, Int.reduceLE, Int.reduceLT, Int.reduceAdd, Int.reduceSub, Int.reduceNeg, Int.reduceToNat, Int.reduceBEq, retV, resL, resV, sealV, sealC, sealAll, Tryd.f121]
    all_goals rfl
  | ok v n =>
    rw [he] at hr
    have hr : Pure _ _ _ (.tup [v.av, iv n, iv 0]) := hr
    simp only
    by_cases hn : n < s.size
    · have hd := lt_t hn
      have hb := byte_at' s n hn
      have hp := c_isPart s[n]
      rw [hdB_in s n hn]
      generalize s[n] = c at *
      cases ho : okB false (c.toNat : Int) with
      | true =>
        rw [ho] at hp
        rw [if_pos rfl]
        refine pure_res ?_ (tNil_le 0 0 0 eE ⟨0, 0, 0, eE⟩)
        refine pure_of_awp Tryd.func121 rfl rfl (by simp [Tryd.f121]) ?_; simp only [go_sem, ↓reduceIte, Nat.reduceEqDiff, Nat.reduceAdd, Nat.reduceLeDiff, Nat.reduceBEq, Nat.reduceMul, reduceCtorEq, Int.reduceLE, Int.reduceLT, Int.reduceAdd, Int.reduceSub, Int.reduceNeg, Int.reduceToNat, Int.reduceBEq]
        repeat' (first | refine awp_seq ?_ | refine awp_block ?_ | refine awp_round ?_ | refine awp_scope ?_ | refine awp_text rfl ?_ | refine awp_any rfl mix (by kernel_rfl) ?_ | (refine RunTo.unguard rfl rfl (fun hg => ?_) (fun hg => ?_) <;> ((try simp only [Bool.not_true, Bool.not_false, Bool.not_eq_true', Bool.not_eq_false', Bool.not_eq_eq_eq_not] at hg); (first | (cases hg) | (simp only [hg]) | skip))) | ((first | refine RunTo.plain rfl ?_ | refine RunTo.skipped rfl ?_ | refine RunTo.call (hr) Tryd.func21 rfl rfl rfl rfl rfl rfl rfl rfl ?_ | refine RunTo.call (hp) Tryd.func122 rfl rfl rfl rfl rfl rfl rfl rfl ?_); simp only [go_sem, ↓reduceIte, Nat.reduceEqDiff, Nat.reduceAdd, Nat.reduceLeDiff, Nat.reduceBEq, Nat.reduceMul, reduceCtorEq, Int.reduceLE, Int.reduceLT, Int.reduceAdd, Int.reduceSub, Int.reduceNeg, Int.reduceToNat, Int.reduceBEq, bne, hd, hb, ValD.av, Bool.not_true, Bool.not_false]) | ((first | refine RunTo.nilA (by kernel_rfl) ?_ | refine RunTo.nilT ?_ | refine awp_skip ?_ | refine awp_exit ?_ | refine awp_label ?_); simp only [go_sem, ↓reduceIte, Nat.reduceEqDiff, Nat.reduceAdd, Nat.reduceLeDiff, Nat.reduceBEq, Nat.reduceMul, reduceCtorEq, Int.reduceLE, Int.reduceLT, Int.reduceAdd, Int.reduceSub, Int.reduceNeg, Int.reduceToNat, Int.reduceBEq, bne, hd, hb, ValD.av, Bool.not_true, Bool.not_false]) | (refine awp_cond' rfl (of_decide_eq_true rfl) (fun hc => ?_) (fun hc => ?_) <;> ((try simp only [Bool.not_true, Bool.not_false, Bool.not_eq_true', Bool.not_eq_false', Bool.not_eq_eq_eq_not] at hc); (first | (cases hc) | (simp only [hc]) | skip))))
        all_goals (first | refine awp_ret ?_ | skip); refine ⟨(by first | exact .inl rfl | exact .inr rfl | exact .inr trivial | trivial), ?_⟩; simp only [go_sem, ↓reduceIte, Nat.reduceEqDiff, Nat.reduceAdd, Nat.reduceLeDiff, Nat.reduceBEq, Nat.reduceMul, reduceCtorEq, Int.reduceLE, Int.reduceLT, Int.reduceAdd, Int.reduceSub, Int.reduceNeg, Int.reduceToNat, Int.reduceBEq, retV, resL, resV, sealV, sealC, sealAll, Tryd.f121]
        all_goals rfl
      | false =>
        rw [ho] at hp
        rw [if_neg (by simp)]
        refine pure_of_awp Tryd.func121 rfl rfl (by simp [Tryd.f121]) ?_; simp only [go_sem, ↓reduceIte, Nat.reduceEqDiff, Nat.reduceAdd, Nat.reduceLeDiff, Nat.reduceBEq, Nat.reduceMul, reduceCtorEq, Int.reduceLE, Int.reduceLT, Int.reduceAdd, Int.reduceSub, Int.reduceNeg, Int.reduceToNat, Int.reduceBEq]
        repeat' (first | refine awp_seq ?_ | refine awp_block ?_ | refine awp_round ?_ | refine awp_scope ?_ | refine awp_text rfl ?_ | refine awp_any rfl mix (by kernel_rfl) ?_ | (refine RunTo.unguard rfl rfl (fun hg => ?_) (fun hg => ?_) <;> ((try simp only [Bool.not_true, Bool.not_false, Bool.not_eq_true', Bool.not_eq_false', Bool.not_eq_eq_eq_not] at hg); (first | (cases hg) | (simp only [hg]) | skip))) | ((first | refine RunTo.plain rfl ?_ | refine RunTo.skipped rfl ?_ | refine RunTo.call (hr) Tryd.func21 rfl rfl rfl rfl rfl rfl rfl rfl ?_ | refine RunTo.call (hp) Tryd.func122 rfl rfl rfl rfl rfl rfl rfl rfl ?_); simp only [go_sem, ↓reduceIte, Nat.reduceEqDiff, Nat.reduceAdd, Nat.reduceLeDiff, Nat.reduceBEq, Nat.reduceMul, reduceCtorEq, Int.reduceLE, Int.reduceLT, Int.reduceAdd, Int.reduceSub, Int.reduceNeg, Int.reduceToNat, Int.reduceBEq, bne, hd, hb, ValD.av, Bool.not_true, Bool.not_false]) | ((first | refine RunTo.nilA (by kernel_rfl) ?_ | refine RunTo.nilT ?_ | refine awp_skip ?_ | refine awp_exit ?_ | refine awp_label ?_); simp only [go_sem, ↓reduceIte, Nat.reduceEqDiff, Nat.reduceAdd, Nat.reduceLeDiff, Nat.reduceBEq, Nat.reduceMul, reduceCtorEq, Int.reduceLE, Int.reduceLT, Int.reduceAdd, Int.reduceSub, Int.reduceNeg, Int.reduceToNat, Int.reduceBEq, bne, hd, hb, ValD.av, Bool.not_true, Bool.not_false]) | (refine awp_cond' rfl (of_decide_eq_true rfl) (fun hc => ?_) (fun hc => ?_) <;> ((try simp only [Bool.not_true, Bool.not_false, Bool.not_eq_true', Bool.not_eq_false', Bool.not_eq_eq_eq_not] at hc); (first | (cases hc) | (simp only [hc]) | skip))))
        all_goals (first | refine awp_ret ?_ | skip); refine ⟨(by first | exact .inl rfl | exact .inr rfl | exact .inr trivial | trivial), ?_⟩; simp only [go_sem, ↓reduceIte, Nat.reduceEqDiff, Nat.reduceAdd, Nat.reduceLeDiff, Nat.reduceBEq, Nat.reduceMul, reduceCtorEq, Int.reduceLE, Int.reduceLT, Int.reduceAdd, Int.reduceSub, Int.reduceNeg, Int.reduceToNat, Int.reduceBEq, retV, resL, resV, sealV, sealC, sealAll, Tryd.f121]
        all_goals rfl
    · have hd := lt_f hn
      rw [drop_end s n (by omega), show hdB [] = false from rfl, if_neg (by simp)]
      refine pure_of_awp Tryd.func121 rfl rfl (by simp [Tryd.f121]) ?_; simp only [go_sem, ↓reduceIte, Nat.reduceEqDiff, Nat.reduceAdd, Nat.reduceLeDiff, Nat.reduceBEq, Nat.reduceMul, reduceCtorEq, Int.reduceLE, Int.reduceLT, Int.reduceAdd, Int.reduceSub, Int.reduceNeg, Int.reduceToNat, Int.reduceBEq]
      repeat' (first | refine awp_seq ?_ | refine awp_block ?_ | refine awp_round ?_ | refine awp_scope ?_ | refine awp_text rfl ?_ | refine awp_any rfl mix (by kernel_rfl) ?_ | (refine RunTo.unguard rfl rfl (fun hg => ?_) (fun hg => ?_) <;> ((try simp only [Bool.not_true, Bool.not_false, Bool.not_eq_true', Bool.not_eq_false', Bool.not_eq_eq_eq_not] at hg); (first | (cases hg) | (simp only [hg]) | skip))) | ((first | refine RunTo.plain rfl ?_ | refine RunTo.skipped rfl ?_ | refine RunTo.call (hr) Tryd.func21 rfl rfl rfl rfl rfl rfl rfl rfl ?_); simp only [go_sem, ↓reduceIte, Nat.reduceEqDiff, Nat.reduceAdd, Nat.reduceLeDiff, Nat.reduceBEq, Nat.reduceMul, reduceCtorEq, Int.reduceLE, Int.reduceLT, Int.reduceAdd, Int.reduceSub, Int.reduceNeg, Int.reduceToNat, Int.reduceBEq, bne, hd, ValD.av, Bool.not_true, Bool.not_false]) | ((first | refine RunTo.nilA (by kernel_rfl) ?_ | refine RunTo.nilT ?_ | refine awp_skip ?_ | refine awp_exit ?_ | refine awp_label ?_); simp only [go_sem, ↓reduceIte, Nat.reduceEqDiff, Nat.reduceAdd, Nat.reduceLeDiff, Nat.reduceBEq, Nat.reduceMul, reduceCtorEq, Int.reduceLE, Int.reduceLT, Int.reduceAdd, Int.reduceSub, Int.reduceNeg, Int.reduceToNat, Int.reduceBEq, bne, hd, ValD.av, Bool.not_true, Bool.not_false]) | (refine awp_cond' rfl (of_decide_eq_true rfl) (fun hc => ?_) (fun hc => ?_) <;> ((try simp only [Bool.not_true, Bool.not_false, Bool.not_eq_true', Bool.not_eq_false', Bool.not_eq_eq_eq_not] at hc); (first | (cases hc) | (simp only [hc]) | skip))))
      all_goals (first | refine awp_ret ?_ | skip); refine ⟨(by first | exact .inl rfl | exact .inr rfl | exact .inr trivial | trivial), ?_⟩; simp only [go_sem, ↓reduceIte, Nat.reduceEqDiff, Nat.reduceAdd, Nat.reduceLeDiff, Nat.reduceBEq, Nat.reduceMul, reduceCtorEq, Int.reduceLE, Int.reduceLT, Int.reduceAdd, Int.reduceSub, Int.reduceNeg, Int.reduceToNat, Int.reduceBEq, retV, resL, resV, sealV, sealC, sealAll, Tryd.f121]
      all_goals rfl
theorem c_secB (s : ByteArray) (hs : s.size ≤ 1000000) : Pure Tryd.prog 119 [sv s] (b8 (secB (s.data.toList.drop 1))) := by
  by_cases h : 1 < s.size
  · rw [drop_cons s 1 h]
    exact c_second s _ (byte_at' s 1 h) hs
  · rw [drop_end s 1 (by omega)]
    exact c_second0 s (by omega)
def IWt (s : ByteArray) (m : Nat) (st : St) : Prop := ∃ k T e, k ≤ s.size ∧ m = s.size - k ∧ s.data.toList.takeWhile partB = s.data.toList.take k ++ (s.data.toList.drop k).takeWhile partB ∧ st = SWd s k T e
theorem take_snoc (s : ByteArray) (k : Nat) (h : k < s.size) : s.data.toList.take (k + 1) = s.data.toList.take k ++ [s[k]] := by
  have := ext_snoc s 0 k (Nat.zero_le _) h
  simpa using this
theorem hide3 {α : Type} {P : Program} {nt : Nt} {Q : Exit → St → Prop} {st : St} {A B C R : Code} (I : α → Prop) (S : α → St) (tail : ∀ a, I a → AWP P nt R Q (S a))
    (rest : ∀ R', (∀ a, I a → AWP P nt R' Q (S a)) → AWP P nt (.seq A (.seq B (.seq C R'))) Q st) : AWP P nt (.seq A (.seq B (.seq C R))) Q st := rest R tail
abbrev tokN (k : Int) (t : ByteArray) : AV := .agg [iv k, sv t, iv 0, iv 0, fv 0, sv eE, nilA, iv 0]
def wordX (w : List UInt8) : AV := if bs w = nullB ∨ bs w = trueB ∨ bs w = falseB then litU (litT w)
  else if wordS (bs w) = true then .tup [tokN 3 (bs w), iv w.length]
  else if nameS (bs w) = true then .tup [tokN 1 (bs w), iv w.length] else .tup [tokN 0 eE, iv 0]
theorem wordX_le (w : List UInt8) : Ale (wordX w) (litU (wordW w)) := by
  unfold wordX wordW
  split
  · exact Ale.refl _
  · split
    · exact tNil_le 3 0 w.length (bs w) ⟨0, 0, 0, eE⟩
    · split
      · exact tNil_le 1 0 w.length (bs w) ⟨0, 0, 0, eE⟩
      · exact tNil_le 0 0 0 eE ⟨0, 0, 0, eE⟩
theorem c_wordT (s : ByteArray) (hs : s.size ≤ 1000000) : Pure Tryd.prog 123 [sv s] (litU (wordW (s.data.toList.takeWhile partB))) := by
  refine pure_res ?_ (wordX_le _)
  generalize hr : wordX (s.data.toList.takeWhile partB) = R
  refine pure_of_awp Tryd.func123 rfl rfl (by simp [Tryd.f123]) ?_; simp only [go_sem, ↓reduceIte, Nat.reduceEqDiff, Nat.reduceAdd, Nat.reduceLeDiff, Nat.reduceBEq, Nat.reduceMul, reduceCtorEq, Int.reduceLE, Int.reduceLT, Int.reduceAdd, Int.reduceSub, Int.reduceNeg, Int.reduceToNat, Int.reduceBEq]
  refine hide3 (α := Nat × Nat × Nat) (fun a => a.1 ≤ s.size ∧ wordX (s.data.toList.take a.1) = R) (fun a => SWd s a.1 a.2.1 a.2.2) ?_ ?_
  · rintro ⟨k, T, e⟩ ⟨hk, hw⟩
    dsimp only at hk hw ⊢
    have hsz : (s.extract 0 k).data.toList = s.data.toList.take k := by rw [ext_list]; simp
    have hlen : (s.extract 0 k).size = k := by simp only [ByteArray.size_extract]; omega
    have hbs : bs (s.data.toList.take k) = s.extract 0 k := by rw [← hsz]
    have hl := c_litT (s.extract 0 k) (by omega)
    have hwd := c_Word (s.extract 0 k)
    have hn := c_Name (s.extract 0 k) (by omega)
    have hk' : (k ≤ s.size) = True := eq_true hk
    have htl : (s.data.toList.take k).length = k := by rw [← hsz, Array.length_toList]; exact hlen
    unfold wordX at hw
    rw [hbs, htl, ← hsz] at hw
    generalize hgen : s.extract 0 k = w at *
    subst hw
    by_cases hq : w = nullB ∨ w = trueB ∨ w = falseB
    · rw [if_pos hq]
      obtain ⟨v, hv⟩ := word_lits w.data.toList (by rw [bs_back]; exact hq)
      rw [hv] at hl ⊢
      have hl : Pure _ _ _ (.tup [TokD.av ⟨2, eE, v, 0⟩, iv (w.data.toList.length : Nat)]) := hl
      by_cases h1 : w = nullB
      · have q1 := strEq_t h1
        repeat' (first | refine awp_seq ?_ | refine awp_block ?_ | refine awp_round ?_ | refine awp_scope ?_ | refine awp_text rfl ?_ | refine awp_any rfl mix (by kernel_rfl) ?_ | (refine RunTo.unguard rfl rfl (fun hg => ?_) (fun hg => ?_) <;> ((try simp only [Bool.not_true, Bool.not_false, Bool.not_eq_true', Bool.not_eq_false', Bool.not_eq_eq_eq_not] at hg); (first | (cases hg) | (simp only [hg]) | skip))) | ((first | refine RunTo.plain rfl ?_ | refine RunTo.skipped rfl ?_ | refine RunTo.call (hl) Tryd.func121 rfl rfl rfl rfl rfl rfl rfl rfl ?_); simp only [go_sem, ↓reduceIte, Nat.reduceEqDiff, Nat.reduceAdd, Nat.reduceLeDiff, Nat.reduceBEq, Nat.reduceMul, reduceCtorEq, Int.reduceLE, Int.reduceLT, Int.reduceAdd, Int.reduceSub, Int.reduceNeg, Int.reduceToNat, Int.reduceBEq, hk', hgen, TokD.av, q1]) | ((first | refine RunTo.nilA (by kernel_rfl) ?_ | refine RunTo.nilT ?_ | refine awp_skip ?_ | refine awp_exit ?_ | refine awp_label ?_); simp only [go_sem, ↓reduceIte, Nat.reduceEqDiff, Nat.reduceAdd, Nat.reduceLeDiff, Nat.reduceBEq, Nat.reduceMul, reduceCtorEq, Int.reduceLE, Int.reduceLT, Int.reduceAdd, Int.reduceSub, Int.reduceNeg, Int.reduceToNat, Int.reduceBEq, hk', hgen, TokD.av, q1]) | (refine awp_cond' rfl (of_decide_eq_true rfl) (fun hc => ?_) (fun hc => ?_) <;> ((try simp only [Bool.not_true, Bool.not_false, Bool.not_eq_true', Bool.not_eq_false', Bool.not_eq_eq_eq_not] at hc); (first | (cases hc) | (simp only [hc]) | skip))))
        all_goals (first | refine awp_ret ?_ | skip); refine ⟨(by first | exact .inl rfl | exact .inr rfl | exact .inr trivial | trivial), ?_⟩; simp only [go_sem, ↓reduceIte, Nat.reduceEqDiff, Nat.reduceAdd, Nat.reduceLeDiff, Nat.reduceBEq, Nat.reduceMul, reduceCtorEq, Int.reduceLE, Int.reduceLT, Int.reduceAdd, Int.reduceSub, Int.reduceNeg, Int.reduceToNat, Int.reduceBEq, retV, resL, resV, sealV, sealC, sealAll, Tryd.f123]
        all_goals rfl
      · have q1 := strEq_f h1
        by_cases h2 : w = trueB
        · have q2 := strEq_t h2
          repeat' (first | refine awp_seq ?_ | refine awp_block ?_ | refine awp_round ?_ | refine awp_scope ?_ | refine awp_text rfl ?_ | refine awp_any rfl mix (by kernel_rfl) ?_ | (refine RunTo.unguard rfl rfl (fun hg => ?_) (fun hg => ?_) <;> ((try simp only [Bool.not_true, Bool.not_false, Bool.not_eq_true', Bool.not_eq_false', Bool.not_eq_eq_eq_not] at hg); (first | (cases hg) | (simp only [hg]) | skip))) | ((first | refine RunTo.plain rfl ?_ | refine RunTo.skipped rfl ?_ | refine RunTo.call (hl) Tryd.func121 rfl rfl rfl rfl rfl rfl rfl rfl ?_); simp only [go_sem, ↓reduceIte, Nat.reduceEqDiff, Nat.reduceAdd, Nat.reduceLeDiff, Nat.reduceBEq, Nat.reduceMul, reduceCtorEq, Int.reduceLE, Int.reduceLT, Int.reduceAdd, Int.reduceSub, Int.reduceNeg, Int.reduceToNat, Int.reduceBEq, hk', hgen, TokD.av, q1, q2]) | ((first | refine RunTo.nilA (by kernel_rfl) ?_ | refine RunTo.nilT ?_ | refine awp_skip ?_ | refine awp_exit ?_ | refine awp_label ?_); simp only [go_sem, ↓reduceIte, Nat.reduceEqDiff, Nat.reduceAdd, Nat.reduceLeDiff, Nat.reduceBEq, Nat.reduceMul, reduceCtorEq, Int.reduceLE, Int.reduceLT, Int.reduceAdd, Int.reduceSub, Int.reduceNeg, Int.reduceToNat, Int.reduceBEq, hk', hgen, TokD.av, q1, q2]) | (refine awp_cond' rfl (of_decide_eq_true rfl) (fun hc => ?_) (fun hc => ?_) <;> ((try simp only [Bool.not_true, Bool.not_false, Bool.not_eq_true', Bool.not_eq_false', Bool.not_eq_eq_eq_not] at hc); (first | (cases hc) | (simp only [hc]) | skip))))
          all_goals (first | refine awp_ret ?_ | skip); refine ⟨(by first | exact .inl rfl | exact .inr rfl | exact .inr trivial | trivial), ?_⟩; simp only [go_sem, ↓reduceIte, Nat.reduceEqDiff, Nat.reduceAdd, Nat.reduceLeDiff, Nat.reduceBEq, Nat.reduceMul, reduceCtorEq, Int.reduceLE, Int.reduceLT, Int.reduceAdd, Int.reduceSub, Int.reduceNeg, Int.reduceToNat, Int.reduceBEq, retV, resL, resV, sealV, sealC, sealAll, Tryd.f123]
          all_goals rfl
        · have q2 := strEq_f h2
          have q3 := strEq_t (show w = falseB by rcases hq with h | h | h; exact absurd h h1; exact absurd h h2; exact h)
          repeat' (first | refine awp_seq ?_ | refine awp_block ?_ | refine awp_round ?_ | refine awp_scope ?_ | refine awp_text rfl ?_ | refine awp_any rfl mix (by kernel_rfl) ?_ | (refine RunTo.unguard rfl rfl (fun hg => ?_) (fun hg => ?_) <;> ((try simp only [Bool.not_true, Bool.not_false, Bool.not_eq_true', Bool.not_eq_false', Bool.not_eq_eq_eq_not] at hg); (first | (cases hg) | (simp only [hg]) | skip))) | ((first | refine RunTo.plain rfl ?_ | refine RunTo.skipped rfl ?_ | refine RunTo.call (hl) Tryd.func121 rfl rfl rfl rfl rfl rfl rfl rfl ?_); simp only [go_sem, ↓reduceIte, Nat.reduceEqDiff, Nat.reduceAdd, Nat.reduceLeDiff, Nat.reduceBEq, Nat.reduceMul, reduceCtorEq, Int.reduceLE, Int.reduceLT, Int.reduceAdd, Int.reduceSub, Int.reduceNeg, Int.reduceToNat, Int.reduceBEq, hk', hgen, TokD.av, q1, q2, q3]) | ((first | refine RunTo.nilA (by kernel_rfl) ?_ | refine RunTo.nilT ?_ | refine awp_skip ?_ | refine awp_exit ?_ | refine awp_label ?_); simp only [go_sem, ↓reduceIte, Nat.reduceEqDiff, Nat.reduceAdd, Nat.reduceLeDiff, Nat.reduceBEq, Nat.reduceMul, reduceCtorEq, Int.reduceLE, Int.reduceLT, Int.reduceAdd, Int.reduceSub, Int.reduceNeg, Int.reduceToNat, Int.reduceBEq, hk', hgen, TokD.av, q1, q2, q3]) | (refine awp_cond' rfl (of_decide_eq_true rfl) (fun hc => ?_) (fun hc => ?_) <;> ((try simp only [Bool.not_true, Bool.not_false, Bool.not_eq_true', Bool.not_eq_false', Bool.not_eq_eq_eq_not] at hc); (first | (cases hc) | (simp only [hc]) | skip))))
          all_goals (first | refine awp_ret ?_ | skip); refine ⟨(by first | exact .inl rfl | exact .inr rfl | exact .inr trivial | trivial), ?_⟩; simp only [go_sem, ↓reduceIte, Nat.reduceEqDiff, Nat.reduceAdd, Nat.reduceLeDiff, Nat.reduceBEq, Nat.reduceMul, reduceCtorEq, Int.reduceLE, Int.reduceLT, Int.reduceAdd, Int.reduceSub, Int.reduceNeg, Int.reduceToNat, Int.reduceBEq, retV, resL, resV, sealV, sealC, sealAll, Tryd.f123]
          all_goals rfl
    · rw [if_neg hq]
      simp only [not_or] at hq
      have q1 := strEq_f hq.1
      have q2 := strEq_f hq.2.1
      have q3 := strEq_f hq.2.2
      by_cases h4 : wordS w = true
      · rw [if_pos h4]
        rw [h4] at hwd
        repeat' (first | refine awp_seq ?_ | refine awp_block ?_ | refine awp_round ?_ | refine awp_scope ?_ | refine awp_text rfl ?_ | refine awp_any rfl mix (by kernel_rfl) ?_ | (refine RunTo.unguard rfl rfl (fun hg => ?_) (fun hg => ?_) <;> ((try simp only [Bool.not_true, Bool.not_false, Bool.not_eq_true', Bool.not_eq_false', Bool.not_eq_eq_eq_not] at hg); (first | (cases hg) | (simp only [hg]) | skip))) | ((first | refine RunTo.plain rfl ?_ | refine RunTo.skipped rfl ?_ | refine RunTo.call (hwd) Tryd.func30 rfl rfl rfl rfl rfl rfl rfl rfl ?_); simp only [go_sem, ↓reduceIte, Nat.reduceEqDiff, Nat.reduceAdd, Nat.reduceLeDiff, Nat.reduceBEq, Nat.reduceMul, reduceCtorEq, Int.reduceLE, Int.reduceLT, Int.reduceAdd, Int.reduceSub, Int.reduceNeg, Int.reduceToNat, Int.reduceBEq, hk', hgen, TokD.av, q1, q2, q3]) | ((first | refine RunTo.nilA (by kernel_rfl) ?_ | refine RunTo.nilT ?_ | refine awp_skip ?_ | refine awp_exit ?_ | refine awp_label ?_); simp only [go_sem, ↓reduceIte, Nat.reduceEqDiff, Nat.reduceAdd, Nat.reduceLeDiff, Nat.reduceBEq, Nat.reduceMul, reduceCtorEq, Int.reduceLE, Int.reduceLT, Int.reduceAdd, Int.reduceSub, Int.reduceNeg, Int.reduceToNat, Int.reduceBEq, hk', hgen, TokD.av, q1, q2, q3]) | (refine awp_cond' rfl (of_decide_eq_true rfl) (fun hc => ?_) (fun hc => ?_) <;> ((try simp only [Bool.not_true, Bool.not_false, Bool.not_eq_true', Bool.not_eq_false', Bool.not_eq_eq_eq_not] at hc); (first | (cases hc) | (simp only [hc]) | skip))))
        all_goals (first | refine awp_ret ?_ | skip); refine ⟨(by first | exact .inl rfl | exact .inr rfl | exact .inr trivial | trivial), ?_⟩; simp only [go_sem, ↓reduceIte, Nat.reduceEqDiff, Nat.reduceAdd, Nat.reduceLeDiff, Nat.reduceBEq, Nat.reduceMul, reduceCtorEq, Int.reduceLE, Int.reduceLT, Int.reduceAdd, Int.reduceSub, Int.reduceNeg, Int.reduceToNat, Int.reduceBEq, retV, resL, resV, sealV, sealC, sealAll, Tryd.f123]
        all_goals rfl
      · rw [if_neg h4]
        rw [show wordS w = false by simpa using h4] at hwd
        by_cases h5 : nameS w = true
        · rw [if_pos h5]
          rw [h5] at hn
          repeat' (first | refine awp_seq ?_ | refine awp_block ?_ | refine awp_round ?_ | refine awp_scope ?_ | refine awp_text rfl ?_ | refine awp_any rfl mix (by kernel_rfl) ?_ | (refine RunTo.unguard rfl rfl (fun hg => ?_) (fun hg => ?_) <;> ((try simp only [Bool.not_true, Bool.not_false, Bool.not_eq_true', Bool.not_eq_false', Bool.not_eq_eq_eq_not] at hg); (first | (cases hg) | (simp only [hg]) | skip))) | ((first | refine RunTo.plain rfl ?_ | refine RunTo.skipped rfl ?_ | refine RunTo.call (hwd) Tryd.func30 rfl rfl rfl rfl rfl rfl rfl rfl ?_ | refine RunTo.call (hn) Tryd.func146 rfl rfl rfl rfl rfl rfl rfl rfl ?_); simp only [go_sem, ↓reduceIte, Nat.reduceEqDiff, Nat.reduceAdd, Nat.reduceLeDiff, Nat.reduceBEq, Nat.reduceMul, reduceCtorEq, Int.reduceLE, Int.reduceLT, Int.reduceAdd, Int.reduceSub, Int.reduceNeg, Int.reduceToNat, Int.reduceBEq, hk', hgen, TokD.av, q1, q2, q3]) | ((first | refine RunTo.nilA (by kernel_rfl) ?_ | refine RunTo.nilT ?_ | refine awp_skip ?_ | refine awp_exit ?_ | refine awp_label ?_); simp only [go_sem, ↓reduceIte, Nat.reduceEqDiff, Nat.reduceAdd, Nat.reduceLeDiff, Nat.reduceBEq, Nat.reduceMul, reduceCtorEq, Int.reduceLE, Int.reduceLT, Int.reduceAdd, Int.reduceSub, Int.reduceNeg, Int.reduceToNat, Int.reduceBEq, hk', hgen, TokD.av, q1, q2, q3]) | (refine awp_cond' rfl (of_decide_eq_true rfl) (fun hc => ?_) (fun hc => ?_) <;> ((try simp only [Bool.not_true, Bool.not_false, Bool.not_eq_true', Bool.not_eq_false', Bool.not_eq_eq_eq_not] at hc); (first | (cases hc) | (simp only [hc]) | skip))))
          all_goals (first | refine awp_ret ?_ | skip); refine ⟨(by first | exact .inl rfl | exact .inr rfl | exact .inr trivial | trivial), ?_⟩; simp only [go_sem, ↓reduceIte, Nat.reduceEqDiff, Nat.reduceAdd, Nat.reduceLeDiff, Nat.reduceBEq, Nat.reduceMul, reduceCtorEq, Int.reduceLE, Int.reduceLT, Int.reduceAdd, Int.reduceSub, Int.reduceNeg, Int.reduceToNat, Int.reduceBEq, retV, resL, resV, sealV, sealC, sealAll, Tryd.f123]
          all_goals rfl
        · rw [if_neg h5]
          rw [show nameS w = false by simpa using h5] at hn
          repeat' (first | refine awp_seq ?_ | refine awp_block ?_ | refine awp_round ?_ | refine awp_scope ?_ | refine awp_text rfl ?_ | refine awp_any rfl mix (by kernel_rfl) ?_ | (refine RunTo.unguard rfl rfl (fun hg => ?_) (fun hg => ?_) <;> ((try simp only [Bool.not_true, Bool.not_false, Bool.not_eq_true', Bool.not_eq_false', Bool.not_eq_eq_eq_not] at hg); (first | (cases hg) | (simp only [hg]) | skip))) | ((first | refine RunTo.plain rfl ?_ | refine RunTo.skipped rfl ?_ | refine RunTo.call (hwd) Tryd.func30 rfl rfl rfl rfl rfl rfl rfl rfl ?_ | refine RunTo.call (hn) Tryd.func146 rfl rfl rfl rfl rfl rfl rfl rfl ?_); simp only [go_sem, ↓reduceIte, Nat.reduceEqDiff, Nat.reduceAdd, Nat.reduceLeDiff, Nat.reduceBEq, Nat.reduceMul, reduceCtorEq, Int.reduceLE, Int.reduceLT, Int.reduceAdd, Int.reduceSub, Int.reduceNeg, Int.reduceToNat, Int.reduceBEq, hk', hgen, TokD.av, q1, q2, q3]) | ((first | refine RunTo.nilA (by kernel_rfl) ?_ | refine RunTo.nilT ?_ | refine awp_skip ?_ | refine awp_exit ?_ | refine awp_label ?_); simp only [go_sem, ↓reduceIte, Nat.reduceEqDiff, Nat.reduceAdd, Nat.reduceLeDiff, Nat.reduceBEq, Nat.reduceMul, reduceCtorEq, Int.reduceLE, Int.reduceLT, Int.reduceAdd, Int.reduceSub, Int.reduceNeg, Int.reduceToNat, Int.reduceBEq, hk', hgen, TokD.av, q1, q2, q3]) | (refine awp_cond' rfl (of_decide_eq_true rfl) (fun hc => ?_) (fun hc => ?_) <;> ((try simp only [Bool.not_true, Bool.not_false, Bool.not_eq_true', Bool.not_eq_false', Bool.not_eq_eq_eq_not] at hc); (first | (cases hc) | (simp only [hc]) | skip))))
          all_goals (first | refine awp_ret ?_ | skip); refine ⟨(by first | exact .inl rfl | exact .inr rfl | exact .inr trivial | trivial), ?_⟩; simp only [go_sem, ↓reduceIte, Nat.reduceEqDiff, Nat.reduceAdd, Nat.reduceLeDiff, Nat.reduceBEq, Nat.reduceMul, reduceCtorEq, Int.reduceLE, Int.reduceLT, Int.reduceAdd, Int.reduceSub, Int.reduceNeg, Int.reduceToNat, Int.reduceBEq, retV, resL, resV, sealV, sealC, sealAll, Tryd.f123]
          all_goals rfl
  · intro R' main
    repeat' (first | refine awp_seq ?_ | refine awp_block ?_ | refine awp_round ?_ | refine awp_scope ?_ | refine awp_text rfl ?_ | refine awp_any rfl mix (by kernel_rfl) ?_ | (refine RunTo.unguard rfl rfl (fun hg => ?_) (fun hg => ?_) <;> ((try simp only [Bool.not_true, Bool.not_false, Bool.not_eq_true', Bool.not_eq_false', Bool.not_eq_eq_eq_not] at hg); (first | (cases hg) | (simp only [hg]) | skip))) | ((first | refine RunTo.plain rfl ?_ | refine RunTo.skipped rfl ?_); simp only [go_sem, ↓reduceIte, Nat.reduceEqDiff, Nat.reduceAdd, Nat.reduceLeDiff, Nat.reduceBEq, Nat.reduceMul, reduceCtorEq, Int.reduceLE, Int.reduceLT, Int.reduceAdd, Int.reduceSub, Int.reduceNeg, Int.reduceToNat, Int.reduceBEq]) | ((first | refine RunTo.nilA (by kernel_rfl) ?_ | refine RunTo.nilT ?_ | refine awp_skip ?_ | refine awp_exit ?_ | refine awp_label ?_); simp only [go_sem, ↓reduceIte, Nat.reduceEqDiff, Nat.reduceAdd, Nat.reduceLeDiff, Nat.reduceBEq, Nat.reduceMul, reduceCtorEq, Int.reduceLE, Int.reduceLT, Int.reduceAdd, Int.reduceSub, Int.reduceNeg, Int.reduceToNat, Int.reduceBEq]) | (refine awp_cond' rfl (of_decide_eq_true rfl) (fun hc => ?_) (fun hc => ?_) <;> ((try simp only [Bool.not_true, Bool.not_false, Bool.not_eq_true', Bool.not_eq_false', Bool.not_eq_eq_eq_not] at hc); (first | (cases hc) | (simp only [hc]) | skip))))
    refine awp_loopw (IWt s) s.size (SWd s 0 _ _) (weak_keep ⟨rfl, rfl, rfl, rfl, trivial⟩ ⟨rfl, trivial⟩ (Nat.le_refl _)) ⟨0, _, _, Nat.zero_le _, rfl, by simp, rfl⟩ ?_
    rintro m st ⟨k, T, e, hk, rfl, hx, rfl⟩
    have out : ∀ T', (s.data.toList.drop k).takeWhile partB = [] → AWP _ _ R' _ (SWd s k T' e) := fun T' h => main (k, T', e) ⟨hk, by rw [h, List.append_nil] at hx; rw [← hr, hx]⟩
    by_cases hlt : k < s.size
    · have hdec := lt_t hlt
      have hb := byte_at' s k hlt
      have hwk : IntKind.i64.wrap ((k : Int) + 1) = ((k + 1 : Nat) : Int) := wrap_succ (by omega)
      have hc := c_isPart s[k]
      have hts := take_snoc s k hlt
      have hdc := drop_cons s k hlt
      generalize s[k] = b at *
      cases ho : okB false (b.toNat : Int) with
      | true =>
        rw [ho] at hc
        repeat' (first | refine awp_seq ?_ | refine awp_block ?_ | refine awp_round ?_ | refine awp_scope ?_ | refine awp_text rfl ?_ | refine awp_any rfl mix (by kernel_rfl) ?_ | (refine RunTo.unguard rfl rfl (fun hg => ?_) (fun hg => ?_) <;> ((try simp only [Bool.not_true, Bool.not_false, Bool.not_eq_true', Bool.not_eq_false', Bool.not_eq_eq_eq_not] at hg); (first | (cases hg) | (simp only [hg]) | skip))) | ((first | refine RunTo.plain rfl ?_ | refine RunTo.skipped rfl ?_ | refine RunTo.call (hc) Tryd.func122 rfl rfl rfl rfl rfl rfl rfl rfl ?_); simp only [go_sem, ↓reduceIte, Nat.reduceEqDiff, Nat.reduceAdd, Nat.reduceLeDiff, Nat.reduceBEq, Nat.reduceMul, reduceCtorEq, Int.reduceLE, Int.reduceLT, Int.reduceAdd, Int.reduceSub, Int.reduceNeg, Int.reduceToNat, Int.reduceBEq, hdec, hb, hwk]) | ((first | refine RunTo.nilA (by kernel_rfl) ?_ | refine RunTo.nilT ?_ | refine awp_skip ?_ | refine awp_exit ?_ | refine awp_label ?_); simp only [go_sem, ↓reduceIte, Nat.reduceEqDiff, Nat.reduceAdd, Nat.reduceLeDiff, Nat.reduceBEq, Nat.reduceMul, reduceCtorEq, Int.reduceLE, Int.reduceLT, Int.reduceAdd, Int.reduceSub, Int.reduceNeg, Int.reduceToNat, Int.reduceBEq, hdec, hb, hwk]) | (refine awp_cond' rfl (of_decide_eq_true rfl) (fun hc => ?_) (fun hc => ?_) <;> ((try simp only [Bool.not_true, Bool.not_false, Bool.not_eq_true', Bool.not_eq_false', Bool.not_eq_eq_eq_not] at hc); (first | (cases hc) | (simp only [hc]) | skip))))
        all_goals exact ⟨s.size - (k + 1), by omega, SWd s (k + 1) _ e, weak_keep ⟨rfl, rfl, rfl, rfl, trivial⟩ ⟨rfl, trivial⟩ (Nat.le_refl _), k + 1, _, _, by omega, rfl, by rw [hx, hts, hdc, List.takeWhile_cons, if_pos (show partB b = true from ho), List.append_assoc]; rfl, rfl⟩
      | false =>
        rw [ho] at hc
        repeat' (first | refine awp_seq ?_ | refine awp_block ?_ | refine awp_round ?_ | refine awp_scope ?_ | refine awp_text rfl ?_ | refine awp_any rfl mix (by kernel_rfl) ?_ | (refine RunTo.unguard rfl rfl (fun hg => ?_) (fun hg => ?_) <;> ((try simp only [Bool.not_true, Bool.not_false, Bool.not_eq_true', Bool.not_eq_false', Bool.not_eq_eq_eq_not] at hg); (first | (cases hg) | (simp only [hg]) | skip))) | ((first | refine RunTo.plain rfl ?_ | refine RunTo.skipped rfl ?_ | refine RunTo.call (hc) Tryd.func122 rfl rfl rfl rfl rfl rfl rfl rfl ?_); simp only [go_sem, ↓reduceIte, Nat.reduceEqDiff, Nat.reduceAdd, Nat.reduceLeDiff, Nat.reduceBEq, Nat.reduceMul, reduceCtorEq, Int.reduceLE, Int.reduceLT, Int.reduceAdd, Int.reduceSub, Int.reduceNeg, Int.reduceToNat, Int.reduceBEq, hdec, hb, hwk]) | ((first | refine RunTo.nilA (by kernel_rfl) ?_ | refine RunTo.nilT ?_ | refine awp_skip ?_ | refine awp_exit ?_ | refine awp_label ?_); simp only [go_sem, ↓reduceIte, Nat.reduceEqDiff, Nat.reduceAdd, Nat.reduceLeDiff, Nat.reduceBEq, Nat.reduceMul, reduceCtorEq, Int.reduceLE, Int.reduceLT, Int.reduceAdd, Int.reduceSub, Int.reduceNeg, Int.reduceToNat, Int.reduceBEq, hdec, hb, hwk]) | (refine awp_cond' rfl (of_decide_eq_true rfl) (fun hc => ?_) (fun hc => ?_) <;> ((try simp only [Bool.not_true, Bool.not_false, Bool.not_eq_true', Bool.not_eq_false', Bool.not_eq_eq_eq_not] at hc); (first | (cases hc) | (simp only [hc]) | skip))))
        all_goals exact awp_weak (st' := SWd s k _ e) (weak_keep ⟨rfl, rfl, rfl, rfl, trivial⟩ ⟨rfl, trivial⟩ (Nat.le_refl _)) (out _ (by rw [hdc, List.takeWhile_cons, if_neg (by rw [show partB b = false from ho]; simp)]))
    · have hdec := lt_f hlt
      repeat' (first | refine awp_seq ?_ | refine awp_block ?_ | refine awp_round ?_ | refine awp_scope ?_ | refine awp_text rfl ?_ | refine awp_any rfl mix (by kernel_rfl) ?_ | (refine RunTo.unguard rfl rfl (fun hg => ?_) (fun hg => ?_) <;> ((try simp only [Bool.not_true, Bool.not_false, Bool.not_eq_true', Bool.not_eq_false', Bool.not_eq_eq_eq_not] at hg); (first | (cases hg) | (simp only [hg]) | skip))) | ((first | refine RunTo.plain rfl ?_ | refine RunTo.skipped rfl ?_); simp only [go_sem, ↓reduceIte, Nat.reduceEqDiff, Nat.reduceAdd, Nat.reduceLeDiff, Nat.reduceBEq, Nat.reduceMul, reduceCtorEq, Int.reduceLE, Int.reduceLT, Int.reduceAdd, Int.reduceSub, Int.reduceNeg, Int.reduceToNat, Int.reduceBEq, hdec]) | ((first | refine RunTo.nilA (by kernel_rfl) ?_ | refine RunTo.nilT ?_ | refine awp_skip ?_ | refine awp_exit ?_ | refine awp_label ?_); simp only [go_sem, ↓reduceIte, Nat.reduceEqDiff, Nat.reduceAdd, Nat.reduceLeDiff, Nat.reduceBEq, Nat.reduceMul, reduceCtorEq, Int.reduceLE, Int.reduceLT, Int.reduceAdd, Int.reduceSub, Int.reduceNeg, Int.reduceToNat, Int.reduceBEq, hdec]) | (refine awp_cond' rfl (of_decide_eq_true rfl) (fun hc => ?_) (fun hc => ?_) <;> ((try simp only [Bool.not_true, Bool.not_false, Bool.not_eq_true', Bool.not_eq_false', Bool.not_eq_eq_eq_not] at hc); (first | (cases hc) | (simp only [hc]) | skip))))
      all_goals exact awp_weak (st' := SWd s k _ e) (weak_keep ⟨rfl, rfl, rfl, rfl, trivial⟩ ⟨rfl, trivial⟩ (Nat.le_refl _)) (out _ (by rw [drop_end s k (by omega)]; rfl))
end Go.Proofs.YtjihcldhjpdnmaaDoor.AM
namespace Go.Proofs.YtjihcldhjpdnmaaDoor.AM
open Go.RowKit
set_option linter.unusedSimpArgs false
set_option linter.unusedVariables false
set_option maxRecDepth 10000
set_option maxHeartbeats 0
def markX (l : List UInt8) : List ByteArray → AV
  | [] => .tup [tokN 0 eE, iv 0]
  | m :: ms => if preL l m = true then .tup [tokN 3 m, iv m.size] else markX l ms
theorem markX_le (l : List UInt8) : ∀ ms : List ByteArray, Ale (markX l ms) (litU (markF l ms))
  | [] => tNil_le 0 0 0 eE ⟨0, 0, 0, eE⟩
  | m :: ms => by
    unfold markX markF
    split
    · exact tNil_le 3 0 m.size m ⟨0, 0, 0, eE⟩
    · exact markX_le l ms
theorem c_marks : Pure Tryd.prog 147 [] (.agg (marksL.map sv)) := by
  refine pure_of_awp Tryd.func147 rfl rfl (by simp [Tryd.f147]) ?_; simp only [go_sem, ↓reduceIte, Nat.reduceEqDiff, Nat.reduceAdd, Nat.reduceLeDiff, Nat.reduceBEq, Nat.reduceMul, reduceCtorEq, Int.reduceLE, Int.reduceLT, Int.reduceAdd, Int.reduceSub, Int.reduceNeg, Int.reduceToNat, Int.reduceBEq]
  repeat' (first | refine awp_seq ?_ | refine awp_block ?_ | refine awp_round ?_ | refine awp_scope ?_ | refine awp_text rfl ?_ | refine awp_any rfl mix (by kernel_rfl) ?_ | (refine RunTo.unguard rfl rfl (fun hg => ?_) (fun hg => ?_) <;> ((try simp only [Bool.not_true, Bool.not_false, Bool.not_eq_true', Bool.not_eq_false', Bool.not_eq_eq_eq_not] at hg); (first | (cases hg) | (simp only [hg]) | skip))) | ((first | refine RunTo.plain rfl ?_ | refine RunTo.skipped rfl ?_); simp only [go_sem, ↓reduceIte, Nat.reduceEqDiff, Nat.reduceAdd, Nat.reduceLeDiff, Nat.reduceBEq, Nat.reduceMul, reduceCtorEq, Int.reduceLE, Int.reduceLT, Int.reduceAdd, Int.reduceSub, Int.reduceNeg, Int.reduceToNat, Int.reduceBEq]) | ((first | refine RunTo.nilA (by kernel_rfl) ?_ | refine RunTo.nilT ?_ | refine awp_skip ?_ | refine awp_exit ?_ | refine awp_label ?_); simp only [go_sem, ↓reduceIte, Nat.reduceEqDiff, Nat.reduceAdd, Nat.reduceLeDiff, Nat.reduceBEq, Nat.reduceMul, reduceCtorEq, Int.reduceLE, Int.reduceLT, Int.reduceAdd, Int.reduceSub, Int.reduceNeg, Int.reduceToNat, Int.reduceBEq]) | (refine awp_cond' rfl (of_decide_eq_true rfl) (fun hc => ?_) (fun hc => ?_) <;> ((try simp only [Bool.not_true, Bool.not_false, Bool.not_eq_true', Bool.not_eq_false', Bool.not_eq_eq_eq_not] at hc); (first | (cases hc) | (simp only [hc]) | skip))))
  all_goals
    (first | refine awp_ret ?_ | skip); refine ⟨(by first | exact .inl rfl | exact .inr rfl | exact .inr trivial | trivial), ?_⟩; simp only [go_sem, ↓reduceIte, Nat.reduceEqDiff, Nat.reduceAdd, Nat.reduceLeDiff, Nat.reduceBEq, Nat.reduceMul, reduceCtorEq, Int.reduceLE, Int.reduceLT, Int.reduceAdd, Int.reduceSub, Int.reduceNeg, Int.reduceToNat, Int.reduceBEq, retV, resL, resV, sealV, sealC, sealAll, Tryd.f147]
theorem c_pre (s p : ByteArray) : Pure Tryd.prog 97 [sv s, sv p] (bv (preL s.data.toList p)) := c_HasPrefix s p
theorem c_markT (s : ByteArray) : Pure Tryd.prog 124 [sv s] (litU (markT s.data.toList)) := by
  refine pure_res ?_ (markX_le _ _)
  generalize hl : s.data.toList = l
  have hp := c_pre s
  rw [hl] at hp
  generalize hR : markX l marksL = R
  refine pure_of_awp Tryd.func124 rfl rfl (by simp [Tryd.f124]) ?_; simp only [go_sem, ↓reduceIte, Nat.reduceEqDiff, Nat.reduceAdd, Nat.reduceLeDiff, Nat.reduceBEq, Nat.reduceMul, reduceCtorEq, Int.reduceLE, Int.reduceLT, Int.reduceAdd, Int.reduceSub, Int.reduceNeg, Int.reduceToNat, Int.reduceBEq]
  repeat' (first | refine awp_seq ?_ | refine awp_block ?_ | refine awp_round ?_ | refine awp_scope ?_ | refine awp_text rfl ?_ | refine awp_any rfl mix (by kernel_rfl) ?_ | (refine RunTo.unguard rfl rfl (fun hg => ?_) (fun hg => ?_) <;> ((try simp only [Bool.not_true, Bool.not_false, Bool.not_eq_true', Bool.not_eq_false', Bool.not_eq_eq_eq_not] at hg); (first | (cases hg) | (simp only [hg]) | skip))) | ((first | refine RunTo.plain rfl ?_ | refine RunTo.skipped rfl ?_ | refine RunTo.call (c_marks) Tryd.func147 rfl rfl rfl rfl rfl rfl rfl rfl ?_); simp only [go_sem, ↓reduceIte, Nat.reduceEqDiff, Nat.reduceAdd, Nat.reduceLeDiff, Nat.reduceBEq, Nat.reduceMul, reduceCtorEq, Int.reduceLE, Int.reduceLT, Int.reduceAdd, Int.reduceSub, Int.reduceNeg, Int.reduceToNat, Int.reduceBEq, marksL]) | ((first | refine RunTo.nilA (by kernel_rfl) ?_ | refine RunTo.nilT ?_ | refine awp_skip ?_ | refine awp_exit ?_ | refine awp_label ?_); simp only [go_sem, ↓reduceIte, Nat.reduceEqDiff, Nat.reduceAdd, Nat.reduceLeDiff, Nat.reduceBEq, Nat.reduceMul, reduceCtorEq, Int.reduceLE, Int.reduceLT, Int.reduceAdd, Int.reduceSub, Int.reduceNeg, Int.reduceToNat, Int.reduceBEq, marksL]) | (refine awp_cond' rfl (of_decide_eq_true rfl) (fun hc => ?_) (fun hc => ?_) <;> ((try simp only [Bool.not_true, Bool.not_false, Bool.not_eq_true', Bool.not_eq_false', Bool.not_eq_eq_eq_not] at hc); (first | (cases hc) | (simp only [hc]) | skip))))
  refine awp_rounds 22 ?_
  repeat' (first | refine awp_seq ?_ | refine awp_block ?_ | refine awp_round ?_ | refine awp_scope ?_ | refine awp_text rfl ?_ | refine awp_any rfl mix (by kernel_rfl) ?_ | (refine RunTo.unguard rfl rfl (fun hg => ?_) (fun hg => ?_) <;> ((try simp only [Bool.not_true, Bool.not_false, Bool.not_eq_true', Bool.not_eq_false', Bool.not_eq_eq_eq_not] at hg); (first | (cases hg) | (simp only [hg]) | skip))) | ((first | refine RunTo.plain rfl ?_ | refine RunTo.skipped rfl ?_ | refine RunTo.call (hp _) Tryd.func97 rfl rfl rfl rfl rfl rfl rfl rfl ?_); simp only [go_sem, ↓reduceIte, Nat.reduceEqDiff, Nat.reduceAdd, Nat.reduceLeDiff, Nat.reduceBEq, Nat.reduceMul, reduceCtorEq, Int.reduceLE, Int.reduceLT, Int.reduceAdd, Int.reduceSub, Int.reduceNeg, Int.reduceToNat, Int.reduceBEq]) | ((first | refine RunTo.nilA (by kernel_rfl) ?_ | refine RunTo.nilT ?_ | refine awp_skip ?_ | refine awp_exit ?_ | refine awp_label ?_); simp only [go_sem, ↓reduceIte, Nat.reduceEqDiff, Nat.reduceAdd, Nat.reduceLeDiff, Nat.reduceBEq, Nat.reduceMul, reduceCtorEq, Int.reduceLE, Int.reduceLT, Int.reduceAdd, Int.reduceSub, Int.reduceNeg, Int.reduceToNat, Int.reduceBEq]) | (refine awp_cond' rfl (of_decide_eq_true rfl) (fun hc => ?_) (fun hc => ?_) <;> ((try simp only [Bool.not_true, Bool.not_false, Bool.not_eq_true', Bool.not_eq_false', Bool.not_eq_eq_eq_not] at hc); (first | (cases hc) | (simp only [hc]) | skip))))
  all_goals (first | refine awp_ret ?_ | skip); refine ⟨(by first | exact .inl rfl | exact .inr rfl | exact .inr trivial | trivial), ?_⟩; simp only [go_sem, ↓reduceIte, Nat.reduceEqDiff, Nat.reduceAdd, Nat.reduceLeDiff, Nat.reduceBEq, Nat.reduceMul, reduceCtorEq, Int.reduceLE, Int.reduceLT, Int.reduceAdd, Int.reduceSub, Int.reduceNeg, Int.reduceToNat, Int.reduceBEq, retV, resL, resV, sealV, sealC, sealAll, Tryd.f124]
  all_goals
    subst hR
    clear hp
    simp only [marksL, markX, *, Bool.false_eq_true, ↓reduceIte]
  all_goals rfl
end Go.Proofs.YtjihcldhjpdnmaaDoor.AM
namespace Go.Proofs.YtjihcldhjpdnmaaDoor.AM
open Go.RowKit
set_option linter.unusedSimpArgs false
set_option linter.unusedVariables false
set_option maxRecDepth 10000
set_option maxHeartbeats 0
theorem first_cond (c : UInt8) (r : List UInt8) : litU (firstT (c :: r)) = cond (isLit c.toNat (secN r)) (litU (litT (c :: r))) (cond (partB c) (litU (wordW ((c :: r).takeWhile partB))) (litU (markT (c :: r)))) := by
  rw [first_cons]
  cases isLit c.toNat (secN r) <;> cases partB c <;> rfl
theorem c_firstT (s : ByteArray) (hs : s.size ≤ 1000000) (h0 : 0 < s.size) : Pure Tryd.prog 72 [sv s] (litU (firstT s.data.toList)) := by
  have hb := byte_at' s 0 h0
  have hd0 := drop_cons s 0 h0
  rw [List.drop_zero] at hd0
  have hsec := c_secB s hs
  have hlit := c_litT s hs
  have hword := c_wordT s hs
  have hmark := c_markT s
  have hpart := c_isPart s[0]
  have hd1 : Pure Tryd.prog 120 [b8 s[0]] (bv (dgN (s[0]).toNat)) := c_isDigit s[0]
  have hd2 : Pure Tryd.prog 120 [b8 (secB (s.data.toList.drop 1))] (bv (dgN (secB (s.data.toList.drop 1)).toNat)) := c_isDigit (secB (s.data.toList.drop 1))
  have hlen : ∀ o : Option (TokD × Nat), ∃ (a : TokD) (b : Nat), litU o = .tup [a.av, iv b] := fun o => by
    cases o with
    | none => exact ⟨tokZ, 0, rfl⟩
    | some p => exact ⟨p.1, p.2, rfl⟩
  have hf : litU (firstT s.data.toList) = cond (isLit (s[0]).toNat (secN (s.data.toList.drop 1))) (litU (litT s.data.toList)) (cond (partB s[0]) (litU (wordW (s.data.toList.takeWhile partB))) (litU (markT s.data.toList))) := by
    rw [hd0]
    exact first_cond _ _
  rw [hf]
  clear hf hd0
  obtain ⟨a1, b1, e1⟩ := hlen (litT s.data.toList)
  obtain ⟨a2, b2, e2⟩ := hlen (wordW (s.data.toList.takeWhile partB))
  obtain ⟨a3, b3, e3⟩ := hlen (markT s.data.toList)
  rw [e1] at hlit ⊢
  rw [e2] at hword ⊢
  rw [e3] at hmark ⊢
  clear e1 e2 e3 hlen
  rw [show isLit (s[0]).toNat (secN (s.data.toList.drop 1)) = (dgN (s[0]).toNat || decide ((s[0]).toNat = 34) || (decide ((s[0]).toNat = 120) && decide ((secB (s.data.toList.drop 1)).toNat = 34)) || (decide ((s[0]).toNat = 45) && dgN (secB (s.data.toList.drop 1)).toNat)) from rfl, show partB s[0] = okB false ((s[0]).toNat : Int) from rfl]
  generalize secB (s.data.toList.drop 1) = d at *
  generalize s[0] = c at *
  have q34 : ((c.toNat : Int) == 34) = decide (c.toNat = 34) := by rw [Bool.eq_iff_iff]; simp only [beq_iff_eq, decide_eq_true_eq]; omega
  have q120 : ((c.toNat : Int) == 120) = decide (c.toNat = 120) := by rw [Bool.eq_iff_iff]; simp only [beq_iff_eq, decide_eq_true_eq]; omega
  have q45 : ((c.toNat : Int) == 45) = decide (c.toNat = 45) := by rw [Bool.eq_iff_iff]; simp only [beq_iff_eq, decide_eq_true_eq]; omega
  have qd : ((d.toNat : Int) == 34) = decide (d.toNat = 34) := by rw [Bool.eq_iff_iff]; simp only [beq_iff_eq, decide_eq_true_eq]; omega
  generalize decide (c.toNat = 34) = x1 at *
  generalize decide (c.toNat = 120) = x2 at *
  generalize decide (c.toNat = 45) = x3 at *
  generalize decide (d.toNat = 34) = x4 at *
  generalize dgN c.toNat = x5 at *
  generalize dgN d.toNat = x6 at *
  generalize okB false (c.toNat : Int) = x7 at *
  refine pure_of_awp Tryd.func72 rfl rfl (by simp [Tryd.f72]) ?_; simp only [go_sem, ↓reduceIte, Nat.reduceEqDiff, Nat.reduceAdd, Nat.reduceLeDiff, Nat.reduceBEq, Nat.reduceMul, reduceCtorEq, Int.reduceLE, Int.reduceLT, Int.reduceAdd, Int.reduceSub, Int.reduceNeg, Int.reduceToNat, Int.reduceBEq]
  repeat' (first | refine awp_seq ?_ | refine awp_block ?_ | refine awp_round ?_ | refine awp_scope ?_ | refine awp_text rfl ?_ | refine awp_any rfl mix (by kernel_rfl) ?_ | (refine RunTo.unguard rfl rfl (fun hg => ?_) (fun hg => ?_) <;> ((try simp only [Bool.not_true, Bool.not_false, Bool.not_eq_true', Bool.not_eq_false', Bool.not_eq_eq_eq_not] at hg); (first | (cases hg) | (simp only [hg]) | skip))) | ((first | refine RunTo.plain rfl ?_ | refine RunTo.skipped rfl ?_ | refine RunTo.call (hsec) Tryd.func119 rfl rfl rfl rfl rfl rfl rfl rfl ?_ | refine RunTo.call (hd1) Tryd.func120 rfl rfl rfl rfl rfl rfl rfl rfl ?_ | refine RunTo.call (hd2) Tryd.func120 rfl rfl rfl rfl rfl rfl rfl rfl ?_ | refine RunTo.call (hpart) Tryd.func122 rfl rfl rfl rfl rfl rfl rfl rfl ?_ | refine RunTo.call (hlit) Tryd.func121 rfl rfl rfl rfl rfl rfl rfl rfl ?_ | refine RunTo.call (hword) Tryd.func123 rfl rfl rfl rfl rfl rfl rfl rfl ?_ | refine RunTo.call (hmark) Tryd.func124 rfl rfl rfl rfl rfl rfl rfl rfl ?_); simp only [go_sem, ↓reduceIte, Nat.reduceEqDiff, Nat.reduceAdd, Nat.reduceLeDiff, Nat.reduceBEq, Nat.reduceMul, reduceCtorEq, Int.reduceLE, Int.reduceLT, Int.reduceAdd, Int.reduceSub, Int.reduceNeg, Int.reduceToNat, Int.reduceBEq, TokD.av, hb, q34, q120, q45, qd]) | ((first | refine RunTo.nilA (by kernel_rfl) ?_ | refine RunTo.nilT ?_ | refine awp_skip ?_ | refine awp_exit ?_ | refine awp_label ?_); simp only [go_sem, ↓reduceIte, Nat.reduceEqDiff, Nat.reduceAdd, Nat.reduceLeDiff, Nat.reduceBEq, Nat.reduceMul, reduceCtorEq, Int.reduceLE, Int.reduceLT, Int.reduceAdd, Int.reduceSub, Int.reduceNeg, Int.reduceToNat, Int.reduceBEq, TokD.av, hb, q34, q120, q45, qd]) | (refine awp_cond' rfl (of_decide_eq_true rfl) (fun hc => ?_) (fun hc => ?_) <;> ((try simp only [Bool.not_true, Bool.not_false, Bool.not_eq_true', Bool.not_eq_false', Bool.not_eq_eq_eq_not] at hc); (first | (cases hc) | (simp only [hc]) | skip))))
  all_goals (first | refine awp_ret ?_ | skip); refine ⟨(by first | exact .inl rfl | exact .inr rfl | exact .inr trivial | trivial), ?_⟩; simp only [go_sem, ↓reduceIte, Nat.reduceEqDiff, Nat.reduceAdd, Nat.reduceLeDiff, Nat.reduceBEq, Nat.reduceMul, reduceCtorEq, Int.reduceLE, Int.reduceLT, Int.reduceAdd, Int.reduceSub, Int.reduceNeg, Int.reduceToNat, Int.reduceBEq, retV, resL, resV, sealV, sealC, sealAll, Tryd.f72]
  all_goals rfl
end Go.Proofs.YtjihcldhjpdnmaaDoor.AM
namespace Go.Proofs.YtjihcldhjpdnmaaDoor.AM
open Go.RowKit
set_option linter.unusedSimpArgs false
set_option linter.unusedVariables false
set_option maxRecDepth 10000
set_option maxHeartbeats 0
def lexU : LX → AV
  | .ok ts => .tup [.dat (.lst 8 (ts.map TokD.enc)), iv 0, iv 0]
  | .bad p => .tup [.dat (.lst 8 []), iv p, iv 23]
theorem lexBad_le (p : Nat) : Ale (.tup [nilA, iv p, iv 23]) (lexU (.bad p)) := .tup (.cons (.dat (.nil 8)) (.cons (.refl _) (.cons (.refl _) .nil)))
theorem app_nil (x : LX) : LX.app [] x = x := by cases x <;> rfl
theorem app_app (a b : List TokD) (x : LX) : LX.app a (LX.app b x) = LX.app (a ++ b) x := by cases x <;> simp [LX.app]
theorem ext_endH (s : ByteArray) (k : Nat) : (s.extract k s.size).data.toList = s.data.toList.drop k := by
  rw [ext_list, List.take_of_length_le (by rw [List.length_drop, Array.length_toList]; exact Nat.le_refl _)]
abbrev SX4 (s : ByteArray) (p : Nat) (acc : List TokD) (T e : Nat) : St := ⟨[(0, sv s), (5, .slc 41 e 0 acc.length), (6, iv p)], [(41, .arr e 8 (acc.map TokD.enc))], T⟩
def IX4 (s : ByteArray) (R : LX) (n : Nat) (st : St) : Prop := ∃ p acc T e f, p ≤ s.size ∧ n = s.size - p ∧ s.size - p < f ∧ acc.length ≤ p ∧ R = LX.app acc (lexT f p (s.data.toList.drop p)) ∧ st = SX4 s p acc T e
def lexR (s : ByteArray) : LX := lexT (s.size + 1) 0 s.data.toList
theorem DleL.same (l : List Dat) : DleL l l := ⟨rfl, fun j d d' h1 h2 => by rw [h1] at h2; obtain rfl := Option.some.inj h2; exact .refl _⟩
theorem DleR.snoc {a b : List Dat} (h : DleL a b) : ∀ l : List (List Dat), DleR (l ++ [a]) (l ++ [b])
  | [] => .cons h .nil
  | x :: l => .cons (.same x) (DleR.snoc h l)
abbrev endN (p : Int) : List Dat := [di 4, ds' eE, di 0, di 0, df 0, ds' eE, .lit (.slice none 0 0), di p]
theorem endN_le (p : Nat) : DleL (endN p) (endT p).enc := .cons (.refl _) (.cons (.refl _) (.cons (.refl _) (.cons (.refl _) (.cons (.refl _) (.cons (.refl _) (.cons (.nil 4) (.cons (.refl _) .nil)))))))
def lexV : LX → AV
  | .ok ts => .tup [.dat (.lst 8 (ts.dropLast.map TokD.enc ++ [endN (ts.getLastD (endT 0)).p])), iv 0, iv 0]
  | .bad p => .tup [nilA, iv p, iv 23]
theorem lexV_ok (us : List TokD) (p : Nat) : lexV (.ok (us ++ [endT p])) = .tup [.dat (.lst 8 (us.map TokD.enc ++ [endN p])), iv 0, iv 0] := by
  unfold lexV
  simp only [List.dropLast_concat, List.getLastD_concat]
  rfl
theorem lexV_le (s : ByteArray) : Ale (lexV (lexR s)) (lexU (lexR s)) := by
  cases hr : lexR s with
  | bad p => exact lexBad_le p
  | ok ts =>
    obtain ⟨us, h, _⟩ := lex_form _ _ _ _ hr
    subst h
    rw [lexV_ok]
    show Ale _ (.tup [.dat (.lst 8 ((us ++ [endT (0 + s.data.toList.length)]).map TokD.enc)), iv 0, iv 0])
    rw [List.map_append]
    exact .tup (.cons (.dat (DleR.dat (DleR.snoc (endN_le _) _))) (.cons (.refl _) (.cons (.refl _) .nil)))
end Go.Proofs.YtjihcldhjpdnmaaDoor.AM
