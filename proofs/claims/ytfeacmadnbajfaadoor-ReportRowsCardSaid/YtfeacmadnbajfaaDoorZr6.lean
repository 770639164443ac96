/- Part 6 of the proof: words, contracts, plain laws. Laid by a program of this session (wip/tool/shake.py): what is needed of own and printed texts, in order. -/
import Derived.Test.YtfeacmadnbajfaaDoorZr0
import Derived.Test.YtfeacmadnbajfaaDoorZr1
import Derived.Test.YtfeacmadnbajfaaDoorZr2
import Derived.Test.YtfeacmadnbajfaaDoorZr3
import Derived.Test.YtfeacmadnbajfaaDoorZr5
import Derived.Lib.ItoaLen
import Derived.Calls
import Derived.Lib.ItoaNum
import Derived.Orders
import Derived.Tactics
import Derived.Below
import Derived.Laws.Rows
import Derived.Laws.World
import Derived.Laws.CopyRow
import Derived.Lib.FrozenHead
import Derived.Deep.AppendSrc
import Derived.Deep.Upon
import Derived.Laws.BytesArg
import Derived.IntWalk
import Derived.Laws.Externs
import Derived.LoopN
import Derived.Test.YtfeacmadnbajfaaDoorProg
import Derived.KernelRfl
import Derived.MapKept
import Derived.Laws.FloatBits
import Derived.Lib.ItoaMem
import Derived.RegionTactic
import Derived.Lib.AppendIntMem
import Derived.Shelf.Strings.Builder1
import Derived.Shelf.Strings.Builder2
import Derived.Shelf.Strings.OnBuilder
import Derived.Shelf.Small.Wraps
import Derived.Shelf.Strings.BuilderF
import Derived.Shelf.Strings.BuilderK
import Derived.Shelf.Strings.Builder2Cap
import Derived.Shelf.Strconv.Itoa0
import Derived.Shelf.Strconv.Itoa1
import Derived.Shelf.LaysM
import Derived.Shelf.Strconv.Itoa2
import Derived.Shelf.Strconv.Itoa3
import Derived.Shelf.Strings.BuilderCap
import Derived.Shelf.Slices.Turned
import Derived.Ground.Names2Prog
import Derived.Shelf.Slices.SearchI
import Derived.Lib.Join
namespace Go.Proofs.YtfeacmadnbajfaaDoor.AM
open Go.RowKit
set_option linter.unusedSimpArgs false
set_option linter.unusedVariables false
set_option maxRecDepth 10000
set_option maxHeartbeats 0
theorem c_rPrintA (a : AtomD) (hf : a.f < 18446744073709551616) (hn : i64B a.n) (hs : a.s.size ≤ 1000000) (hk : 0 ≤ a.k ∧ a.k ≤ 5) : Pure Tryd.prog 40 [a.av] (sv (printA a)) := by
  obtain ⟨k, n, f, s⟩ := a
  obtain ⟨n1, n2⟩ := hn
  replace n1 : -9223372036854775808 ≤ n := n1
  replace n2 : n ≤ 9223372036854775807 := n2
  replace hs : s.size ≤ 1000000 := hs
  have hq : (1 + (quoteS s).size ≤ 9223372036854775807) = True := eq_true (by have := quoteS_size s; omega)
  have hx : (2 + (hexS f).size ≤ 9223372036854775807) = True := eq_true (by rw [hexS_size]; omega)
  have c1 := c_rBits f
  have c2 := c_rHex f hf (c_rCanon f hf)
  have c3 := c_rQuoted s hs
  have hk6 : k = 0 ∨ k = 1 ∨ k = 2 ∨ k = 3 ∨ k = 4 ∨ k = 5 := by have := hk.1; have := hk.2; simp only [] at *; omega
  clear hk hf
  rcases hk6 with h | h | h | h | h | h <;> subst h
  · refine pure_of_awp Tryd.func40 rfl rfl (by simp [Tryd.f40]) ?_; simp only [go_sem, ↓reduceIte, Nat.reduceEqDiff, Nat.reduceAdd, Nat.reduceLeDiff, Nat.reduceBEq, Nat.reduceMul, reduceCtorEq, Int.reduceLE, Int.reduceLT, Int.reduceAdd, Int.reduceSub, Int.reduceNeg, Int.reduceToNat, Int.reduceBEq]
    repeat' (first | refine awp_seq ?_ | refine awp_block ?_ | refine awp_round ?_ | refine awp_text rfl ?_ | refine awp_any rfl mix (by kernel_rfl) ?_ | (refine RunTo.unguard rfl rfl (fun hg => ?_) (fun hg => ?_) <;> ((try simp only [Bool.not_true, Bool.not_false, Bool.not_eq_true', Bool.not_eq_false', Bool.not_eq_eq_eq_not] at hg); (first | (cases hg) | (simp only [hg]) | skip))) | ((first | refine RunTo.plain rfl ?_ | refine RunTo.skipped rfl ?_); simp only [go_sem, ↓reduceIte, Nat.reduceEqDiff, Nat.reduceAdd, Nat.reduceLeDiff, Nat.reduceBEq, Nat.reduceMul, reduceCtorEq, Int.reduceLE, Int.reduceLT, Int.reduceAdd, Int.reduceSub, Int.reduceNeg, Int.reduceToNat, Int.reduceBEq, AtomD.av]) | ((first | refine RunTo.nil ⟨by kernel_rfl, ?_⟩ | refine RunTo.nil ?_ | refine awp_skip ?_ | refine awp_exit ?_); simp only [go_sem, ↓reduceIte, Nat.reduceEqDiff, Nat.reduceAdd, Nat.reduceLeDiff, Nat.reduceBEq, Nat.reduceMul, reduceCtorEq, Int.reduceLE, Int.reduceLT, Int.reduceAdd, Int.reduceSub, Int.reduceNeg, Int.reduceToNat, Int.reduceBEq, AtomD.av]) | (refine awp_cond' rfl (of_decide_eq_true rfl) (fun hc => ?_) (fun hc => ?_) <;> ((try simp only [Bool.not_true, Bool.not_false, Bool.not_eq_true', Bool.not_eq_false', Bool.not_eq_eq_eq_not] at hc); (first | (cases hc) | (simp only [hc]) | skip))))
    all_goals (first | refine awp_ret ?_ | skip); refine ⟨(by first | exact .inl rfl | exact .inr rfl | exact .inr trivial | trivial), ?_⟩; simp only [go_sem, ↓reduceIte, Nat.reduceEqDiff, Nat.reduceAdd, Nat.reduceLeDiff, Nat.reduceBEq, Nat.reduceMul, reduceCtorEq, Int.reduceLE, Int.reduceLT, Int.reduceAdd, Int.reduceSub, Int.reduceNeg, Int.reduceToNat, Int.reduceBEq, retV, resL, resV, sealV, sealC, sealAll, Tryd.f40]
    all_goals rfl
  · refine pure_of_awp Tryd.func40 rfl rfl (by simp [Tryd.f40]) ?_; simp only [go_sem, ↓reduceIte, Nat.reduceEqDiff, Nat.reduceAdd, Nat.reduceLeDiff, Nat.reduceBEq, Nat.reduceMul, reduceCtorEq, Int.reduceLE, Int.reduceLT, Int.reduceAdd, Int.reduceSub, Int.reduceNeg, Int.reduceToNat, Int.reduceBEq]
    repeat' (first | refine awp_seq ?_ | refine awp_block ?_ | refine awp_round ?_ | refine awp_text rfl ?_ | refine awp_any rfl mix (by kernel_rfl) ?_ | (refine RunTo.unguard rfl rfl (fun hg => ?_) (fun hg => ?_) <;> ((try simp only [Bool.not_true, Bool.not_false, Bool.not_eq_true', Bool.not_eq_false', Bool.not_eq_eq_eq_not] at hg); (first | (cases hg) | (simp only [hg]) | skip))) | ((first | refine RunTo.plain rfl ?_ | refine RunTo.skipped rfl ?_); simp only [go_sem, ↓reduceIte, Nat.reduceEqDiff, Nat.reduceAdd, Nat.reduceLeDiff, Nat.reduceBEq, Nat.reduceMul, reduceCtorEq, Int.reduceLE, Int.reduceLT, Int.reduceAdd, Int.reduceSub, Int.reduceNeg, Int.reduceToNat, Int.reduceBEq, AtomD.av]) | ((first | refine RunTo.nil ⟨by kernel_rfl, ?_⟩ | refine RunTo.nil ?_ | refine awp_skip ?_ | refine awp_exit ?_); simp only [go_sem, ↓reduceIte, Nat.reduceEqDiff, Nat.reduceAdd, Nat.reduceLeDiff, Nat.reduceBEq, Nat.reduceMul, reduceCtorEq, Int.reduceLE, Int.reduceLT, Int.reduceAdd, Int.reduceSub, Int.reduceNeg, Int.reduceToNat, Int.reduceBEq, AtomD.av]) | (refine awp_cond' rfl (of_decide_eq_true rfl) (fun hc => ?_) (fun hc => ?_) <;> ((try simp only [Bool.not_true, Bool.not_false, Bool.not_eq_true', Bool.not_eq_false', Bool.not_eq_eq_eq_not] at hc); (first | (cases hc) | (simp only [hc]) | skip))))
    all_goals (first | refine awp_ret ?_ | skip); refine ⟨(by first | exact .inl rfl | exact .inr rfl | exact .inr trivial | trivial), ?_⟩; simp only [go_sem, ↓reduceIte, Nat.reduceEqDiff, Nat.reduceAdd, Nat.reduceLeDiff, Nat.reduceBEq, Nat.reduceMul, reduceCtorEq, Int.reduceLE, Int.reduceLT, Int.reduceAdd, Int.reduceSub, Int.reduceNeg, Int.reduceToNat, Int.reduceBEq, retV, resL, resV, sealV, sealC, sealAll, Tryd.f40]
    all_goals (rw [show printA ⟨1, n, f, s⟩ = bs (Lib.formatBool (n == 1)) from rfl, hc]; rfl)
  · by_cases hneg : n < 0
    · have hd : decide (n < 0) = true := decide_eq_true hneg
      have hl := Lib.itoa_length_le n n1 n2
      have hi : Lib.itoa n = 45 :: Lib.decDigits n.natAbs := if_pos hneg
      rw [hi] at hl
      have w1 : IntKind.u64.wrap (IntKind.u64.wrap (IntKind.i64.wrap (0 - IntKind.i64.wrap (n + 1))) + 1) = ((n.natAbs : Nat) : Int) := by
        rw [IntWalk.i64_in (n + 1) (by omega), IntWalk.i64_in (0 - (n + 1)) (by omega), u64_in (0 - (n + 1)) (by omega) (by omega), u64_in _ (by omega) (by omega)]; omega
      have c4 := c_rDigits n.natAbs (by omega)
      have z1 : (1 + (Lib.decDigits n.natAbs).length ≤ 9223372036854775807) = True := eq_true (by
        simp only [List.length_cons] at hl
        omega)
      refine pure_of_awp Tryd.func40 rfl rfl (by simp [Tryd.f40]) ?_; simp only [go_sem, ↓reduceIte, Nat.reduceEqDiff, Nat.reduceAdd, Nat.reduceLeDiff, Nat.reduceBEq, Nat.reduceMul, reduceCtorEq, Int.reduceLE, Int.reduceLT, Int.reduceAdd, Int.reduceSub, Int.reduceNeg, Int.reduceToNat, Int.reduceBEq]
      repeat' (first | refine awp_seq ?_ | refine awp_block ?_ | refine awp_round ?_ | refine awp_text rfl ?_ | refine awp_any rfl mix (by kernel_rfl) ?_ | (refine RunTo.unguard rfl rfl (fun hg => ?_) (fun hg => ?_) <;> ((try simp only [Bool.not_true, Bool.not_false, Bool.not_eq_true', Bool.not_eq_false', Bool.not_eq_eq_eq_not] at hg); (first | (cases hg) | (simp only [hg]) | skip))) | ((first | refine RunTo.plain rfl ?_ | refine RunTo.skipped rfl ?_ | refine RunTo.call (c4) Tryd.func80 rfl rfl rfl rfl rfl rfl rfl rfl ?_); simp only [go_sem, ↓reduceIte, Nat.reduceEqDiff, Nat.reduceAdd, Nat.reduceLeDiff, Nat.reduceBEq, Nat.reduceMul, reduceCtorEq, Int.reduceLE, Int.reduceLT, Int.reduceAdd, Int.reduceSub, Int.reduceNeg, Int.reduceToNat, Int.reduceBEq, AtomD.av, hd, w1, z1, List.size_toArray]) | ((first | refine RunTo.nil ⟨by kernel_rfl, ?_⟩ | refine RunTo.nil ?_ | refine awp_skip ?_ | refine awp_exit ?_); simp only [go_sem, ↓reduceIte, Nat.reduceEqDiff, Nat.reduceAdd, Nat.reduceLeDiff, Nat.reduceBEq, Nat.reduceMul, reduceCtorEq, Int.reduceLE, Int.reduceLT, Int.reduceAdd, Int.reduceSub, Int.reduceNeg, Int.reduceToNat, Int.reduceBEq, AtomD.av, hd, w1, z1, List.size_toArray]) | (refine awp_cond' rfl (of_decide_eq_true rfl) (fun hc => ?_) (fun hc => ?_) <;> ((try simp only [Bool.not_true, Bool.not_false, Bool.not_eq_true', Bool.not_eq_false', Bool.not_eq_eq_eq_not] at hc); (first | (cases hc) | (simp only [hc]) | skip))))
      all_goals (first | refine awp_ret ?_ | skip); refine ⟨(by first | exact .inl rfl | exact .inr rfl | exact .inr trivial | trivial), ?_⟩; simp only [go_sem, ↓reduceIte, Nat.reduceEqDiff, Nat.reduceAdd, Nat.reduceLeDiff, Nat.reduceBEq, Nat.reduceMul, reduceCtorEq, Int.reduceLE, Int.reduceLT, Int.reduceAdd, Int.reduceSub, Int.reduceNeg, Int.reduceToNat, Int.reduceBEq, retV, resL, resV, sealV, sealC, sealAll, Tryd.f40]
      all_goals
        rw [show printA ⟨2, n, f, s⟩ = bs (Lib.itoa n) from rfl, hi]
        have hb : (⟨#[45]⟩ : ByteArray) ++ bs (Lib.decDigits n.natAbs) = bs (45 :: Lib.decDigits n.natAbs) := by
          apply ByteArray.ext
          rw [ByteArray.data_append]
          apply Array.ext'
          simp
        rw [hb]
    · have hd : decide (n < 0) = false := decide_eq_false hneg
      have hi : Lib.itoa n = Lib.decDigits n.toNat := if_neg hneg
      have w1 : IntKind.u64.wrap n = ((n.toNat : Nat) : Int) := by rw [u64_in _ (by omega) (by omega)]; omega
      have c4 := c_rDigits n.toNat (by omega)
      refine pure_of_awp Tryd.func40 rfl rfl (by simp [Tryd.f40]) ?_; simp only [go_sem, ↓reduceIte, Nat.reduceEqDiff, Nat.reduceAdd, Nat.reduceLeDiff, Nat.reduceBEq, Nat.reduceMul, reduceCtorEq, Int.reduceLE, Int.reduceLT, Int.reduceAdd, Int.reduceSub, Int.reduceNeg, Int.reduceToNat, Int.reduceBEq]
      repeat' (first | refine awp_seq ?_ | refine awp_block ?_ | refine awp_round ?_ | refine awp_text rfl ?_ | refine awp_any rfl mix (by kernel_rfl) ?_ | (refine RunTo.unguard rfl rfl (fun hg => ?_) (fun hg => ?_) <;> ((try simp only [Bool.not_true, Bool.not_false, Bool.not_eq_true', Bool.not_eq_false', Bool.not_eq_eq_eq_not] at hg); (first | (cases hg) | (simp only [hg]) | skip))) | ((first | refine RunTo.plain rfl ?_ | refine RunTo.skipped rfl ?_ | refine RunTo.call (c4) Tryd.func80 rfl rfl rfl rfl rfl rfl rfl rfl ?_); simp only [go_sem, ↓reduceIte, Nat.reduceEqDiff, Nat.reduceAdd, Nat.reduceLeDiff, Nat.reduceBEq, Nat.reduceMul, reduceCtorEq, Int.reduceLE, Int.reduceLT, Int.reduceAdd, Int.reduceSub, Int.reduceNeg, Int.reduceToNat, Int.reduceBEq, AtomD.av, hd, w1]) | ((first | refine RunTo.nil ⟨by kernel_rfl, ?_⟩ | refine RunTo.nil ?_ | refine awp_skip ?_ | refine awp_exit ?_); simp only [go_sem, ↓reduceIte, Nat.reduceEqDiff, Nat.reduceAdd, Nat.reduceLeDiff, Nat.reduceBEq, Nat.reduceMul, reduceCtorEq, Int.reduceLE, Int.reduceLT, Int.reduceAdd, Int.reduceSub, Int.reduceNeg, Int.reduceToNat, Int.reduceBEq, AtomD.av, hd, w1]) | (refine awp_cond' rfl (of_decide_eq_true rfl) (fun hc => ?_) (fun hc => ?_) <;> ((try simp only [Bool.not_true, Bool.not_false, Bool.not_eq_true', Bool.not_eq_false', Bool.not_eq_eq_eq_not] at hc); (first | (cases hc) | (simp only [hc]) | skip))))
      all_goals (first | refine awp_ret ?_ | skip); refine ⟨(by first | exact .inl rfl | exact .inr rfl | exact .inr trivial | trivial), ?_⟩; simp only [go_sem, ↓reduceIte, Nat.reduceEqDiff, Nat.reduceAdd, Nat.reduceLeDiff, Nat.reduceBEq, Nat.reduceMul, reduceCtorEq, Int.reduceLE, Int.reduceLT, Int.reduceAdd, Int.reduceSub, Int.reduceNeg, Int.reduceToNat, Int.reduceBEq, retV, resL, resV, sealV, sealC, sealAll, Tryd.f40]
      all_goals rw [show printA ⟨2, n, f, s⟩ = bs (Lib.itoa n) from rfl, hi]
  all_goals
    refine pure_of_awp Tryd.func40 rfl rfl (by simp [Tryd.f40]) ?_; simp only [go_sem, ↓reduceIte, Nat.reduceEqDiff, Nat.reduceAdd, Nat.reduceLeDiff, Nat.reduceBEq, Nat.reduceMul, reduceCtorEq, Int.reduceLE, Int.reduceLT, Int.reduceAdd, Int.reduceSub, Int.reduceNeg, Int.reduceToNat, Int.reduceBEq]
    repeat' (first | refine awp_seq ?_ | refine awp_block ?_ | refine awp_round ?_ | refine awp_text rfl ?_ | refine awp_any rfl mix (by kernel_rfl) ?_ | (refine RunTo.unguard rfl rfl (fun hg => ?_) (fun hg => ?_) <;> ((try simp only [Bool.not_true, Bool.not_false, Bool.not_eq_true', Bool.not_eq_false', Bool.not_eq_eq_eq_not] at hg); (first | (cases hg) | (simp only [hg]) | skip))) | ((first | refine RunTo.plain rfl ?_ | refine RunTo.skipped rfl ?_ | refine RunTo.call (c1) Tryd.func44 rfl rfl rfl rfl rfl rfl rfl rfl ?_ | refine RunTo.call (c2) Tryd.func81 rfl rfl rfl rfl rfl rfl rfl rfl ?_ | refine RunTo.call (c3) Tryd.func82 rfl rfl rfl rfl rfl rfl rfl rfl ?_); simp only [go_sem, ↓reduceIte, Nat.reduceEqDiff, Nat.reduceAdd, Nat.reduceLeDiff, Nat.reduceBEq, Nat.reduceMul, reduceCtorEq, Int.reduceLE, Int.reduceLT, Int.reduceAdd, Int.reduceSub, Int.reduceNeg, Int.reduceToNat, Int.reduceBEq, AtomD.av, hq, hx, List.size_toArray]) | ((first | refine RunTo.nil ⟨by kernel_rfl, ?_⟩ | refine RunTo.nil ?_ | refine awp_skip ?_ | refine awp_exit ?_); simp only [go_sem, ↓reduceIte, Nat.reduceEqDiff, Nat.reduceAdd, Nat.reduceLeDiff, Nat.reduceBEq, Nat.reduceMul, reduceCtorEq, Int.reduceLE, Int.reduceLT, Int.reduceAdd, Int.reduceSub, Int.reduceNeg, Int.reduceToNat, Int.reduceBEq, AtomD.av, hq, hx, List.size_toArray]) | (refine awp_cond' rfl (of_decide_eq_true rfl) (fun hc => ?_) (fun hc => ?_) <;> ((try simp only [Bool.not_true, Bool.not_false, Bool.not_eq_true', Bool.not_eq_false', Bool.not_eq_eq_eq_not] at hc); (first | (cases hc) | (simp only [hc]) | skip))))
    all_goals (first | refine awp_ret ?_ | skip); refine ⟨(by first | exact .inl rfl | exact .inr rfl | exact .inr trivial | trivial), ?_⟩; simp only [go_sem, ↓reduceIte, Nat.reduceEqDiff, Nat.reduceAdd, Nat.reduceLeDiff, Nat.reduceBEq, Nat.reduceMul, reduceCtorEq, Int.reduceLE, Int.reduceLT, Int.reduceAdd, Int.reduceSub, Int.reduceNeg, Int.reduceToNat, Int.reduceBEq, retV, resL, resV, sealV, sealC, sealAll, Tryd.f40]
    all_goals rfl
end Go.Proofs.YtfeacmadnbajfaaDoor.AM
namespace Go.Proofs.YtfeacmadnbajfaaDoor.AM
open Go.RowKit
set_option linter.unusedSimpArgs false
set_option linter.unusedVariables false
set_option maxRecDepth 10000
set_option maxHeartbeats 0
abbrev sepB : ByteArray := ⟨#[44, 32]⟩
def printV (v : ValD) : ByteArray := if validV v = true then (if v.a.k = 6 then (⟨#[91]⟩ : ByteArray) ++ joinB (v.l.map printA) sepB ++ ⟨#[93]⟩ else printA v.a) else eE
def okA (a : AtomD) : Prop := i64B a.n ∧ a.s.size ≤ 1000000
def okV (v : ValD) : Prop := okA v.a ∧ ∀ a ∈ v.l, okA a
theorem join_len (sep : List UInt8) : ∀ xs : List (List UInt8), (Lib.join xs sep).length ≤ (xs.map List.length).sum + xs.length * sep.length
  | [] => by simp [Lib.join_nil]
  | [x] => by rw [Lib.join_one]; simp
  | x :: y :: r => by
    have ih := join_len sep (y :: r)
    have e : Lib.join (x :: y :: r) sep = x ++ (sep ++ Lib.join (y :: r) sep) := by
      rw [Lib.join_cons, Lib.join_cons]
      simp [Lib.joinTail]
    rw [e]
    simp only [List.length_append, List.map_cons, List.sum_cons, List.length_cons] at *
    have : (r.length + 1 + 1) * sep.length = (r.length + 1) * sep.length + sep.length := by rw [Nat.add_mul, Nat.one_mul]
    omega
theorem joinB_size (xs : List ByteArray) (sep : ByteArray) : (joinB xs sep).size ≤ (xs.map (·.size)).sum + xs.length * sep.size := by
  have h := join_len sep.data.toList (xs.map (·.data.toList))
  rw [List.map_map, List.length_map] at h
  have e : (xs.map (List.length ∘ fun x : ByteArray => x.data.toList)) = xs.map (·.size) := List.map_congr_left (fun x _ => Array.length_toList)
  rw [e] at h
  have e2 : (joinB xs sep).size = (Lib.join (xs.map (·.data.toList)) sep.data.toList).length := List.size_toArray
  have e3 : sep.data.toList.length = sep.size := Array.length_toList
  rw [e2, ← e3]; exact h
theorem sum_le {α : Type} (f : α → Nat) (b : Nat) : ∀ l : List α, (∀ x ∈ l, f x ≤ b) → (l.map f).sum ≤ l.length * b
  | [], _ => by simp
  | x :: l, h => by
    have ih := sum_le f b l (fun y hy => h y (List.mem_cons_of_mem _ hy))
    have := h x List.mem_cons_self
    rw [List.map_cons, List.sum_cons, List.length_cons, Nat.add_mul, Nat.one_mul]; omega
theorem joinB_le (xs : List ByteArray) (sep : ByteArray) (b : Nat) (h : ∀ x ∈ xs, x.size ≤ b) : (joinB xs sep).size ≤ xs.length * b + xs.length * sep.size :=
  Nat.le_trans (joinB_size xs sep) (Nat.add_le_add_right (sum_le _ b xs h) _)
theorem printA_big (a : AtomD) (h : okA a) : (printA a).size ≤ 10000000 := by
  obtain ⟨hn, hs⟩ := h
  have hq := quoteS_size a.s
  have hi := Lib.itoa_length_le a.n hn.1 hn.2
  unfold printA
  split
  · cases (a.n == 1) <;> decide
  · split
    · simp only [ByteArray.size, List.size_toArray]; omega
    · split
      · rw [ByteArray.size_append, hexS_size]; show 2 + 16 ≤ _; omega
      · split
        · omega
        · split
          · rw [ByteArray.size_append]; show 1 + _ ≤ _; omega
          · show 4 ≤ _; omega
abbrev SP5 (v : ValD) (k T e m : Nat) (rows : List (List Dat)) : St := ⟨[(20, .dat (.lst 4 (v.l.map AtomD.enc))), (21, iv v.l.length), (22, iv k), (3, .slc 31 e 0 m)], [(31, .arr e 1 rows)], T⟩
def IP5 (v : ValD) (n : Nat) (st : St) : Prop := ∃ k T e m rows, k ≤ v.l.length ∧ n = v.l.length - k ∧ m = ((v.l.take k).map printA).length ∧ rows = sl ((v.l.take k).map printA) ∧ st = SP5 v k T e m rows
theorem c_PrintV (v : ValD) (ho : okV v) : Pure Tryd.prog 24 [v.av] (sv (printV v)) := by
  by_cases h6 : v.a.k = 6
  · by_cases hv : validV v = true
    · have hvc := c_Valid v
      rw [hv] at hvc
      have hl16 : v.l.length ≤ 16 := by
        rw [validV_list h6] at hv
        simp only [Bool.and_eq_true, decide_eq_true_eq] at hv
        have := hv.1.2; omega
      have hk6 : (v.a.k == 6) = true := by simpa using h6
      refine pure_of_awp Tryd.func24 rfl rfl (by simp [Tryd.f24]) ?_; simp only [go_sem, ↓reduceIte, Nat.reduceEqDiff, Nat.reduceAdd, Nat.reduceLeDiff, Nat.reduceBEq, Nat.reduceMul, reduceCtorEq, Int.reduceLE, Int.reduceLT, Int.reduceAdd, Int.reduceSub, Int.reduceNeg, Int.reduceToNat, Int.reduceBEq]
      repeat' (first | refine awp_seq ?_ | refine awp_block ?_ | refine awp_round ?_ | refine awp_text rfl ?_ | refine awp_any rfl mix (by kernel_rfl) ?_ | (refine RunTo.unguard rfl rfl (fun hg => ?_) (fun hg => ?_) <;> ((try simp only [Bool.not_true, Bool.not_false, Bool.not_eq_true', Bool.not_eq_false', Bool.not_eq_eq_eq_not] at hg); (first | (cases hg) | (simp only [hg]) | skip))) | ((first | refine RunTo.plain rfl ?_ | refine RunTo.skipped rfl ?_ | refine RunTo.call (hvc) Tryd.func16 rfl rfl rfl rfl rfl rfl rfl rfl ?_); simp only [go_sem, ↓reduceIte, Nat.reduceEqDiff, Nat.reduceAdd, Nat.reduceLeDiff, Nat.reduceBEq, Nat.reduceMul, reduceCtorEq, Int.reduceLE, Int.reduceLT, Int.reduceAdd, Int.reduceSub, Int.reduceNeg, Int.reduceToNat, Int.reduceBEq, ValD.av, bne, hk6, List.length_map]) | ((first | refine RunTo.nil ⟨by kernel_rfl, ?_⟩ | refine RunTo.nil ?_ | refine awp_skip ?_ | refine awp_exit ?_); simp only [go_sem, ↓reduceIte, Nat.reduceEqDiff, Nat.reduceAdd, Nat.reduceLeDiff, Nat.reduceBEq, Nat.reduceMul, reduceCtorEq, Int.reduceLE, Int.reduceLT, Int.reduceAdd, Int.reduceSub, Int.reduceNeg, Int.reduceToNat, Int.reduceBEq, ValD.av, bne, hk6, List.length_map]) | (refine awp_cond' rfl (of_decide_eq_true rfl) (fun hc => ?_) (fun hc => ?_) <;> ((try simp only [Bool.not_true, Bool.not_false, Bool.not_eq_true', Bool.not_eq_false', Bool.not_eq_eq_eq_not] at hc); (first | (cases hc) | (simp only [hc]) | skip))))
      refine awp_weak (weak_nil (t := 3) (s := 31) (sz := 1) (of_decide_eq_true rfl) rfl) ?_
      simp only [go_sem, ↓reduceIte, Nat.reduceEqDiff, Nat.reduceAdd, Nat.reduceLeDiff, Nat.reduceBEq, Nat.reduceMul, reduceCtorEq, Int.reduceLE, Int.reduceLT, Int.reduceAdd, Int.reduceSub, Int.reduceNeg, Int.reduceToNat, Int.reduceBEq]
      refine awp_loopw (IP5 v) v.l.length (SP5 v 0 _ _ _ []) (weak_keep ⟨rfl, rfl, rfl, rfl, trivial⟩ ⟨rfl, trivial⟩ (Nat.le_refl _)) ⟨0, _, _, _, _, Nat.zero_le _, rfl, rfl, rfl, rfl⟩ ?_
      rintro n st ⟨k, T, e, m, rows, hk, rfl, hm, hrows, rfl⟩
      have hml : m = k := by rw [hm]; simp; omega
      by_cases hlt : k < v.l.length
      · have hdec := lt_t hlt
        have hget := row_at AtomD.enc v.l k hlt
        have hoa := ho.2 _ (List.getElem_mem hlt)
        have htk : (v.l.take (k + 1)).map printA = (v.l.take k).map printA ++ [printA v.l[k]] := by rw [List.take_succ_eq_append_getElem hlt, List.map_append]; rfl
        have hwk : IntKind.i64.wrap ((k : Int) + 1) = ((k + 1 : Nat) : Int) := wrap_succ (by omega)
        generalize v.l[k] = a at *
        have hp := c_print a hoa.1 hoa.2
        have hrl : rows.length = m := by rw [hrows, List.length_map, hm]
        have c1 : ((m + 1) * 16 ≤ 140737488355328) = True := eq_true (by omega)
        have htr : List.take m rows = rows := List.take_of_length_le (by omega)
        have hle : (m ≤ rows.length) = True := eq_true (by omega)
        repeat' (first | refine awp_seq ?_ | refine awp_block ?_ | refine awp_round ?_ | refine awp_text rfl ?_ | refine awp_any rfl mix (by kernel_rfl) ?_ | (refine RunTo.unguard rfl rfl (fun hg => ?_) (fun hg => ?_) <;> ((try simp only [Bool.not_true, Bool.not_false, Bool.not_eq_true', Bool.not_eq_false', Bool.not_eq_eq_eq_not] at hg); (first | (cases hg) | (simp only [hg]) | skip))) | ((first | refine RunTo.plain rfl ?_ | refine RunTo.skipped rfl ?_ | refine RunTo.call (hp) Tryd.func60 rfl rfl rfl rfl rfl rfl rfl rfl ?_); simp only [go_sem, ↓reduceIte, Nat.reduceEqDiff, Nat.reduceAdd, Nat.reduceLeDiff, Nat.reduceBEq, Nat.reduceMul, reduceCtorEq, Int.reduceLE, Int.reduceLT, Int.reduceAdd, Int.reduceSub, Int.reduceNeg, Int.reduceToNat, Int.reduceBEq, hdec, hget, AtomD.enc, hwk, c1, htr, hrl, lenTy, implies_true]) | ((first | refine RunTo.nil ⟨by kernel_rfl, ?_⟩ | refine RunTo.nil ?_ | refine awp_skip ?_ | refine awp_exit ?_); simp only [go_sem, ↓reduceIte, Nat.reduceEqDiff, Nat.reduceAdd, Nat.reduceLeDiff, Nat.reduceBEq, Nat.reduceMul, reduceCtorEq, Int.reduceLE, Int.reduceLT, Int.reduceAdd, Int.reduceSub, Int.reduceNeg, Int.reduceToNat, Int.reduceBEq, hdec, hget, AtomD.enc, hwk, c1, htr, hrl, lenTy, implies_true]) | (refine awp_cond' rfl (of_decide_eq_true rfl) (fun hc => ?_) (fun hc => ?_) <;> ((try simp only [Bool.not_true, Bool.not_false, Bool.not_eq_true', Bool.not_eq_false', Bool.not_eq_eq_eq_not] at hc); (first | (cases hc) | (simp only [hc]) | skip))))
        exact ⟨v.l.length - (k + 1), by omega, SP5 v (k + 1) _ _ (m + 1) (rows ++ [[ds' (printA a)]]), weak_keep ⟨rfl, rfl, rfl, rfl, trivial⟩ ⟨rfl, trivial⟩ (Nat.le_refl _), k + 1, _, _, _, _, by omega, rfl, by rw [htk, List.length_append, ← hm]; rfl, by rw [htk, hrows]; simp, rfl⟩
      · have hdec := lt_f hlt
        have hall : v.l.take k = v.l := List.take_of_length_le (by omega)
        rw [hall] at hm hrows
        have hbig := joinB_le (v.l.map printA) sepB 10000000 (fun x hx => by obtain ⟨a, ha, rfl⟩ := List.mem_map.1 hx; exact printA_big a (ho.2 a ha))
        rw [List.length_map] at hbig
        have hs2 : sepB.size = 2 := rfl
        rw [hs2] at hbig
        have hj := c_Join (v.l.map printA) sepB (by simp; omega) (by omega)
        have hrows' : rows = sl (v.l.map printA) := hrows
        have hrl : rows.length = m := by rw [hrows, List.length_map, hm]
        have htr : List.take m rows = rows := List.take_of_length_le (by omega)
        rw [← hrows'] at hj
        have z1 : (1 + (joinB (v.l.map printA) sepB).size ≤ 9223372036854775807) = True := eq_true (by omega)
        have z2 : (1 + (joinB (v.l.map printA) sepB).size + 1 ≤ 9223372036854775807) = True := eq_true (by omega)
        repeat' (first | refine awp_seq ?_ | refine awp_block ?_ | refine awp_round ?_ | refine awp_text rfl ?_ | refine awp_any rfl mix (by kernel_rfl) ?_ | (refine RunTo.unguard rfl rfl (fun hg => ?_) (fun hg => ?_) <;> ((try simp only [Bool.not_true, Bool.not_false, Bool.not_eq_true', Bool.not_eq_false', Bool.not_eq_eq_eq_not] at hg); (first | (cases hg) | (simp only [hg]) | skip))) | ((first | refine RunTo.plain rfl ?_ | refine RunTo.skipped rfl ?_); simp only [go_sem, ↓reduceIte, Nat.reduceEqDiff, Nat.reduceAdd, Nat.reduceLeDiff, Nat.reduceBEq, Nat.reduceMul, reduceCtorEq, Int.reduceLE, Int.reduceLT, Int.reduceAdd, Int.reduceSub, Int.reduceNeg, Int.reduceToNat, Int.reduceBEq, hdec, htr, hrl, z1, z2, ByteArray.size_append, List.size_toArray, Nat.le_refl]) | (refine RunTo.lentE (hj) Tryd.func33 rfl rfl rfl rfl rfl rfl ?_; simp only [go_sem, ↓reduceIte, Nat.reduceEqDiff, Nat.reduceAdd, Nat.reduceLeDiff, Nat.reduceBEq, Nat.reduceMul, reduceCtorEq, Int.reduceLE, Int.reduceLT, Int.reduceAdd, Int.reduceSub, Int.reduceNeg, Int.reduceToNat, Int.reduceBEq, hdec, htr, hrl, z1, z2, ByteArray.size_append, List.size_toArray, Nat.le_refl, Option.some.injEq, List.cons.injEq]; (repeat' refine And.intro rfl ?_); with_reducible refine RunTo.this ?_) | ((first | refine RunTo.nil ⟨by kernel_rfl, ?_⟩ | refine RunTo.nil ?_ | refine awp_skip ?_ | refine awp_exit ?_); simp only [go_sem, ↓reduceIte, Nat.reduceEqDiff, Nat.reduceAdd, Nat.reduceLeDiff, Nat.reduceBEq, Nat.reduceMul, reduceCtorEq, Int.reduceLE, Int.reduceLT, Int.reduceAdd, Int.reduceSub, Int.reduceNeg, Int.reduceToNat, Int.reduceBEq, hdec, htr, hrl, z1, z2, ByteArray.size_append, List.size_toArray, Nat.le_refl]) | (refine awp_cond' rfl (of_decide_eq_true rfl) (fun hc => ?_) (fun hc => ?_) <;> ((try simp only [Bool.not_true, Bool.not_false, Bool.not_eq_true', Bool.not_eq_false', Bool.not_eq_eq_eq_not] at hc); (first | (cases hc) | (simp only [hc]) | skip))))
        all_goals (first | refine awp_ret ?_ | skip); refine ⟨(by first | exact .inl rfl | exact .inr rfl | exact .inr trivial | trivial), ?_⟩; simp only [go_sem, ↓reduceIte, Nat.reduceEqDiff, Nat.reduceAdd, Nat.reduceLeDiff, Nat.reduceBEq, Nat.reduceMul, reduceCtorEq, Int.reduceLE, Int.reduceLT, Int.reduceAdd, Int.reduceSub, Int.reduceNeg, Int.reduceToNat, Int.reduceBEq, retV, resL, resV, sealV, sealC, sealAll, Tryd.f24]
        all_goals rw [printV, if_pos hv, if_pos h6]
    · have hv' : validV v = false := by simpa using hv
      have hvc := c_Valid v
      rw [hv'] at hvc
      rw [printV, if_neg hv]
      refine pure_of_awp Tryd.func24 rfl rfl (by simp [Tryd.f24]) ?_; simp only [go_sem, ↓reduceIte, Nat.reduceEqDiff, Nat.reduceAdd, Nat.reduceLeDiff, Nat.reduceBEq, Nat.reduceMul, reduceCtorEq, Int.reduceLE, Int.reduceLT, Int.reduceAdd, Int.reduceSub, Int.reduceNeg, Int.reduceToNat, Int.reduceBEq]
      repeat' (first | refine awp_seq ?_ | refine awp_block ?_ | refine awp_round ?_ | refine awp_text rfl ?_ | refine awp_any rfl mix (by kernel_rfl) ?_ | (refine RunTo.unguard rfl rfl (fun hg => ?_) (fun hg => ?_) <;> ((try simp only [Bool.not_true, Bool.not_false, Bool.not_eq_true', Bool.not_eq_false', Bool.not_eq_eq_eq_not] at hg); (first | (cases hg) | (simp only [hg]) | skip))) | ((first | refine RunTo.plain rfl ?_ | refine RunTo.skipped rfl ?_ | refine RunTo.call (hvc) Tryd.func16 rfl rfl rfl rfl rfl rfl rfl rfl ?_); simp only [go_sem, ↓reduceIte, Nat.reduceEqDiff, Nat.reduceAdd, Nat.reduceLeDiff, Nat.reduceBEq, Nat.reduceMul, reduceCtorEq, Int.reduceLE, Int.reduceLT, Int.reduceAdd, Int.reduceSub, Int.reduceNeg, Int.reduceToNat, Int.reduceBEq, ValD.av]) | ((first | refine RunTo.nil ⟨by kernel_rfl, ?_⟩ | refine RunTo.nil ?_ | refine awp_skip ?_ | refine awp_exit ?_); simp only [go_sem, ↓reduceIte, Nat.reduceEqDiff, Nat.reduceAdd, Nat.reduceLeDiff, Nat.reduceBEq, Nat.reduceMul, reduceCtorEq, Int.reduceLE, Int.reduceLT, Int.reduceAdd, Int.reduceSub, Int.reduceNeg, Int.reduceToNat, Int.reduceBEq, ValD.av]) | (refine awp_cond' rfl (of_decide_eq_true rfl) (fun hc => ?_) (fun hc => ?_) <;> ((try simp only [Bool.not_true, Bool.not_false, Bool.not_eq_true', Bool.not_eq_false', Bool.not_eq_eq_eq_not] at hc); (first | (cases hc) | (simp only [hc]) | skip))))
      all_goals (first | refine awp_ret ?_ | skip); refine ⟨(by first | exact .inl rfl | exact .inr rfl | exact .inr trivial | trivial), ?_⟩; simp only [go_sem, ↓reduceIte, Nat.reduceEqDiff, Nat.reduceAdd, Nat.reduceLeDiff, Nat.reduceBEq, Nat.reduceMul, reduceCtorEq, Int.reduceLE, Int.reduceLT, Int.reduceAdd, Int.reduceSub, Int.reduceNeg, Int.reduceToNat, Int.reduceBEq, retV, resL, resV, sealV, sealC, sealAll, Tryd.f24]
  · have h := c_Print1 v h6 ho.1.1 ho.1.2
    have e : printV1 v = printV v := by unfold printV1 printV; rw [if_neg h6]
    rw [← e]; exact h
def rowV (vs : List ValD) : ByteArray := joinB (vs.map printV) ⟨#[32, 124, 32]⟩
theorem printV_big (v : ValD) (h : okV v) : (printV v).size ≤ 1000000000 := by
  unfold printV
  split
  · rename_i hv
    split
    · rename_i h6
      have hl16 : v.l.length ≤ 16 := by
        rw [validV_list h6] at hv
        simp only [Bool.and_eq_true, decide_eq_true_eq] at hv
        have := hv.1.2; omega
      have hbig := joinB_le (v.l.map printA) sepB 10000000 (fun x hx => by obtain ⟨a, ha, rfl⟩ := List.mem_map.1 hx; exact printA_big a (h.2 a ha))
      rw [List.length_map] at hbig
      have hs2 : sepB.size = 2 := rfl
      rw [hs2] at hbig
      have e1 : (⟨#[91]⟩ : ByteArray).size = 1 := rfl
      have e2 : (⟨#[93]⟩ : ByteArray).size = 1 := rfl
      rw [ByteArray.size_append, ByteArray.size_append, e1, e2]
      omega
    · have := printA_big v.a h.1; omega
  · show 0 ≤ _; omega
abbrev SP6 (vs : List ValD) (k T e m : Nat) (rows : List (List Dat)) : St := ⟨[(6, .dat (.lst 5 (vs.map ValD.enc))), (7, iv vs.length), (8, iv k), (3, .slc 16 e 0 m)], [(16, .arr e 1 rows)], T⟩
def IP6 (vs : List ValD) (n : Nat) (st : St) : Prop := ∃ k T e m rows, k ≤ vs.length ∧ n = vs.length - k ∧ m = ((vs.take k).map printV).length ∧ rows = sl ((vs.take k).map printV) ∧ st = SP6 vs k T e m rows
theorem c_Row (vs : List ValD) (hl : vs.length ≤ 1000) (ho : ∀ v ∈ vs, okV v) : Pure Tryd.prog 14 [.dat (.lst 5 (vs.map ValD.enc))] (sv (rowV vs)) := by
  refine pure_of_awp Tryd.func14 rfl rfl (by simp [Tryd.f14]) ?_; simp only [go_sem, ↓reduceIte, Nat.reduceEqDiff, Nat.reduceAdd, Nat.reduceLeDiff, Nat.reduceBEq, Nat.reduceMul, reduceCtorEq, Int.reduceLE, Int.reduceLT, Int.reduceAdd, Int.reduceSub, Int.reduceNeg, Int.reduceToNat, Int.reduceBEq]
  repeat' (first | refine awp_seq ?_ | refine awp_block ?_ | refine awp_round ?_ | refine awp_text rfl ?_ | refine awp_any rfl mix (by kernel_rfl) ?_ | (refine RunTo.unguard rfl rfl (fun hg => ?_) (fun hg => ?_) <;> ((try simp only [Bool.not_true, Bool.not_false, Bool.not_eq_true', Bool.not_eq_false', Bool.not_eq_eq_eq_not] at hg); (first | (cases hg) | (simp only [hg]) | skip))) | ((first | refine RunTo.plain rfl ?_ | refine RunTo.skipped rfl ?_); simp only [go_sem, ↓reduceIte, Nat.reduceEqDiff, Nat.reduceAdd, Nat.reduceLeDiff, Nat.reduceBEq, Nat.reduceMul, reduceCtorEq, Int.reduceLE, Int.reduceLT, Int.reduceAdd, Int.reduceSub, Int.reduceNeg, Int.reduceToNat, Int.reduceBEq, List.length_map]) | ((first | refine RunTo.nil ⟨by kernel_rfl, ?_⟩ | refine RunTo.nil ?_ | refine awp_skip ?_ | refine awp_exit ?_); simp only [go_sem, ↓reduceIte, Nat.reduceEqDiff, Nat.reduceAdd, Nat.reduceLeDiff, Nat.reduceBEq, Nat.reduceMul, reduceCtorEq, Int.reduceLE, Int.reduceLT, Int.reduceAdd, Int.reduceSub, Int.reduceNeg, Int.reduceToNat, Int.reduceBEq, List.length_map]) | (refine awp_cond' rfl (of_decide_eq_true rfl) (fun hc => ?_) (fun hc => ?_) <;> ((try simp only [Bool.not_true, Bool.not_false, Bool.not_eq_true', Bool.not_eq_false', Bool.not_eq_eq_eq_not] at hc); (first | (cases hc) | (simp only [hc]) | skip))))
  refine awp_weak (weak_nil (t := 3) (s := 16) (sz := 1) (of_decide_eq_true rfl) rfl) ?_
  simp only [go_sem, ↓reduceIte, Nat.reduceEqDiff, Nat.reduceAdd, Nat.reduceLeDiff, Nat.reduceBEq, Nat.reduceMul, reduceCtorEq, Int.reduceLE, Int.reduceLT, Int.reduceAdd, Int.reduceSub, Int.reduceNeg, Int.reduceToNat, Int.reduceBEq]
  refine awp_loopw (IP6 vs) vs.length (SP6 vs 0 _ _ _ []) (weak_keep ⟨rfl, rfl, rfl, rfl, trivial⟩ ⟨rfl, trivial⟩ (Nat.le_refl _)) ⟨0, _, _, _, _, Nat.zero_le _, rfl, rfl, rfl, rfl⟩ ?_
  rintro n st ⟨k, T, e, m, rows, hk, rfl, hm, hrows, rfl⟩
  have hml : m = k := by rw [hm]; simp; omega
  by_cases hlt : k < vs.length
  · have hdec := lt_t hlt
    have hget := row_at ValD.enc vs k hlt
    have hoa := ho _ (List.getElem_mem hlt)
    have htk : (vs.take (k + 1)).map printV = (vs.take k).map printV ++ [printV vs[k]] := by rw [List.take_succ_eq_append_getElem hlt, List.map_append]; rfl
    have hwk : IntKind.i64.wrap ((k : Int) + 1) = ((k + 1 : Nat) : Int) := wrap_succ (by omega)
    generalize vs[k] = a at *
    have hp := c_PrintV a hoa
    have hrl : rows.length = m := by rw [hrows, List.length_map, hm]
    have c1 : ((m + 1) * 16 ≤ 140737488355328) = True := eq_true (by omega)
    have htr : List.take m rows = rows := List.take_of_length_le (by omega)
    repeat' (first | refine awp_seq ?_ | refine awp_block ?_ | refine awp_round ?_ | refine awp_text rfl ?_ | refine awp_any rfl mix (by kernel_rfl) ?_ | (refine RunTo.unguard rfl rfl (fun hg => ?_) (fun hg => ?_) <;> ((try simp only [Bool.not_true, Bool.not_false, Bool.not_eq_true', Bool.not_eq_false', Bool.not_eq_eq_eq_not] at hg); (first | (cases hg) | (simp only [hg]) | skip))) | ((first | refine RunTo.plain rfl ?_ | refine RunTo.skipped rfl ?_ | refine RunTo.call (hp) Tryd.func24 rfl rfl rfl rfl rfl rfl rfl rfl ?_); simp only [go_sem, ↓reduceIte, Nat.reduceEqDiff, Nat.reduceAdd, Nat.reduceLeDiff, Nat.reduceBEq, Nat.reduceMul, reduceCtorEq, Int.reduceLE, Int.reduceLT, Int.reduceAdd, Int.reduceSub, Int.reduceNeg, Int.reduceToNat, Int.reduceBEq, hdec, hget, ValD.enc, hwk, c1, htr, hrl, lenTy, implies_true]) | ((first | refine RunTo.nil ⟨by kernel_rfl, ?_⟩ | refine RunTo.nil ?_ | refine awp_skip ?_ | refine awp_exit ?_); simp only [go_sem, ↓reduceIte, Nat.reduceEqDiff, Nat.reduceAdd, Nat.reduceLeDiff, Nat.reduceBEq, Nat.reduceMul, reduceCtorEq, Int.reduceLE, Int.reduceLT, Int.reduceAdd, Int.reduceSub, Int.reduceNeg, Int.reduceToNat, Int.reduceBEq, hdec, hget, ValD.enc, hwk, c1, htr, hrl, lenTy, implies_true]) | (refine awp_cond' rfl (of_decide_eq_true rfl) (fun hc => ?_) (fun hc => ?_) <;> ((try simp only [Bool.not_true, Bool.not_false, Bool.not_eq_true', Bool.not_eq_false', Bool.not_eq_eq_eq_not] at hc); (first | (cases hc) | (simp only [hc]) | skip))))
    exact ⟨vs.length - (k + 1), by omega, SP6 vs (k + 1) _ _ (m + 1) (rows ++ [[ds' (printV a)]]), weak_keep ⟨rfl, rfl, rfl, rfl, trivial⟩ ⟨rfl, trivial⟩ (Nat.le_refl _), k + 1, _, _, _, _, by omega, rfl, by rw [htk, List.length_append, ← hm]; rfl, by rw [htk, hrows]; simp, rfl⟩
  · have hdec := lt_f hlt
    have hall : vs.take k = vs := List.take_of_length_le (by omega)
    rw [hall] at hm hrows
    have hbig := joinB_le (vs.map printV) ⟨#[32, 124, 32]⟩ 1000000000 (fun x hx => by obtain ⟨a, ha, rfl⟩ := List.mem_map.1 hx; exact printV_big a (ho a ha))
    rw [List.length_map] at hbig
    have hs2 : (⟨#[32, 124, 32]⟩ : ByteArray).size = 3 := rfl
    rw [hs2] at hbig
    have hj := c_Join (vs.map printV) ⟨#[32, 124, 32]⟩ (by simp; omega) (by omega)
    have hrows' : rows = sl (vs.map printV) := hrows
    have hrl : rows.length = m := by rw [hrows, List.length_map, hm]
    have htr : List.take m rows = rows := List.take_of_length_le (by omega)
    rw [← hrows'] at hj
    repeat' (first | refine awp_seq ?_ | refine awp_block ?_ | refine awp_round ?_ | refine awp_text rfl ?_ | refine awp_any rfl mix (by kernel_rfl) ?_ | (refine RunTo.unguard rfl rfl (fun hg => ?_) (fun hg => ?_) <;> ((try simp only [Bool.not_true, Bool.not_false, Bool.not_eq_true', Bool.not_eq_false', Bool.not_eq_eq_eq_not] at hg); (first | (cases hg) | (simp only [hg]) | skip))) | ((first | refine RunTo.plain rfl ?_ | refine RunTo.skipped rfl ?_); simp only [go_sem, ↓reduceIte, Nat.reduceEqDiff, Nat.reduceAdd, Nat.reduceLeDiff, Nat.reduceBEq, Nat.reduceMul, reduceCtorEq, Int.reduceLE, Int.reduceLT, Int.reduceAdd, Int.reduceSub, Int.reduceNeg, Int.reduceToNat, Int.reduceBEq, hdec, htr, hrl, Nat.le_refl]) | (refine RunTo.lentE (hj) Tryd.func33 rfl rfl rfl rfl rfl rfl ?_; simp only [go_sem, ↓reduceIte, Nat.reduceEqDiff, Nat.reduceAdd, Nat.reduceLeDiff, Nat.reduceBEq, Nat.reduceMul, reduceCtorEq, Int.reduceLE, Int.reduceLT, Int.reduceAdd, Int.reduceSub, Int.reduceNeg, Int.reduceToNat, Int.reduceBEq, hdec, htr, hrl, Nat.le_refl, Option.some.injEq, List.cons.injEq]; (repeat' refine And.intro rfl ?_); with_reducible refine RunTo.this ?_) | ((first | refine RunTo.nil ⟨by kernel_rfl, ?_⟩ | refine RunTo.nil ?_ | refine awp_skip ?_ | refine awp_exit ?_); simp only [go_sem, ↓reduceIte, Nat.reduceEqDiff, Nat.reduceAdd, Nat.reduceLeDiff, Nat.reduceBEq, Nat.reduceMul, reduceCtorEq, Int.reduceLE, Int.reduceLT, Int.reduceAdd, Int.reduceSub, Int.reduceNeg, Int.reduceToNat, Int.reduceBEq, hdec, htr, hrl, Nat.le_refl]) | (refine awp_cond' rfl (of_decide_eq_true rfl) (fun hc => ?_) (fun hc => ?_) <;> ((try simp only [Bool.not_true, Bool.not_false, Bool.not_eq_true', Bool.not_eq_false', Bool.not_eq_eq_eq_not] at hc); (first | (cases hc) | (simp only [hc]) | skip))))
    all_goals (first | refine awp_ret ?_ | skip); refine ⟨(by first | exact .inl rfl | exact .inr rfl | exact .inr trivial | trivial), ?_⟩; simp only [go_sem, ↓reduceIte, Nat.reduceEqDiff, Nat.reduceAdd, Nat.reduceLeDiff, Nat.reduceBEq, Nat.reduceMul, reduceCtorEq, Int.reduceLE, Int.reduceLT, Int.reduceAdd, Int.reduceSub, Int.reduceNeg, Int.reduceToNat, Int.reduceBEq, retV, resL, resV, sealV, sealC, sealAll, Tryd.f14]
    all_goals rfl
end Go.Proofs.YtfeacmadnbajfaaDoor.AM
namespace Go.Proofs.YtfeacmadnbajfaaDoor.AM
open Go.RowKit
set_option linter.unusedSimpArgs false
set_option linter.unusedVariables false
set_option maxRecDepth 10000
set_option maxHeartbeats 0
def flV (v : ValD) : Prop := v.a.f < 18446744073709551616 ∧ ∀ a ∈ v.l, a.f < 18446744073709551616
abbrev cellsV (v : ValD) : List AV := [iv v.a.k, iv v.a.n, fv v.a.f, sv v.a.s, .dat (.lst 4 (v.l.map AtomD.enc))]
abbrev SW (v : ValD) (k T e : Nat) : St := ⟨[(3, iv k), (1, .ptr 1 e 0 0)], [(1, .box e (cellsV v))], T⟩
def IW (v : ValD) (n : Nat) (st : St) : Prop := ∃ k T e, k ≤ v.l.length ∧ n = v.l.length - k ∧ (v.l.take k).all validA = true ∧ st = SW v k T e
theorem c_rValid (v : ValD) (hf : flV v) : Pure Tryd.prog 17 [v.av] (bv (validV v)) := by
  have ha := c_rAtom v.a hf.1
  have hb := c_rBits v.a.f
  by_cases h6 : v.a.k = 6
  · have hk6 : (v.a.k == 6) = true := by simpa using h6
    refine pure_of_awp Tryd.func17 rfl rfl (by simp [Tryd.f17]) ?_; simp only [go_sem, ↓reduceIte, Nat.reduceEqDiff, Nat.reduceAdd, Nat.reduceLeDiff, Nat.reduceBEq, Nat.reduceMul, reduceCtorEq, Int.reduceLE, Int.reduceLT, Int.reduceAdd, Int.reduceSub, Int.reduceNeg, Int.reduceToNat, Int.reduceBEq]
    repeat' (first | refine awp_seq ?_ | refine awp_block ?_ | refine awp_round ?_ | refine awp_text rfl ?_ | refine awp_any rfl mix (by kernel_rfl) ?_ | (refine RunTo.unguard rfl rfl (fun hg => ?_) (fun hg => ?_) <;> ((try simp only [Bool.not_true, Bool.not_false, Bool.not_eq_true', Bool.not_eq_false', Bool.not_eq_eq_eq_not] at hg); (first | (cases hg) | (simp only [hg]) | skip))) | ((first | refine RunTo.plain rfl ?_ | refine RunTo.skipped rfl ?_ | refine RunTo.call (hb) Tryd.func44 rfl rfl rfl rfl rfl rfl rfl rfl ?_); simp only [go_sem, ↓reduceIte, Nat.reduceEqDiff, Nat.reduceAdd, Nat.reduceLeDiff, Nat.reduceBEq, Nat.reduceMul, reduceCtorEq, Int.reduceLE, Int.reduceLT, Int.reduceAdd, Int.reduceSub, Int.reduceNeg, Int.reduceToNat, Int.reduceBEq, ValD.av, bne, hk6, List.length_map]) | ((first | refine RunTo.nil ⟨by kernel_rfl, ?_⟩ | refine RunTo.nil ?_ | refine awp_skip ?_ | refine awp_exit ?_); simp only [go_sem, ↓reduceIte, Nat.reduceEqDiff, Nat.reduceAdd, Nat.reduceLeDiff, Nat.reduceBEq, Nat.reduceMul, reduceCtorEq, Int.reduceLE, Int.reduceLT, Int.reduceAdd, Int.reduceSub, Int.reduceNeg, Int.reduceToNat, Int.reduceBEq, ValD.av, bne, hk6, List.length_map]) | (refine awp_cond' rfl (of_decide_eq_true rfl) (fun hc => ?_) (fun hc => ?_) <;> ((try simp only [Bool.not_true, Bool.not_false, Bool.not_eq_true', Bool.not_eq_false', Bool.not_eq_eq_eq_not] at hc); (first | (cases hc) | (simp only [hc]) | skip))))
    · (first | refine awp_ret ?_ | skip); refine ⟨(by first | exact .inl rfl | exact .inr rfl | exact .inr trivial | trivial), ?_⟩; simp only [go_sem, ↓reduceIte, Nat.reduceEqDiff, Nat.reduceAdd, Nat.reduceLeDiff, Nat.reduceBEq, Nat.reduceMul, reduceCtorEq, Int.reduceLE, Int.reduceLT, Int.reduceAdd, Int.reduceSub, Int.reduceNeg, Int.reduceToNat, Int.reduceBEq, retV, resL, resV, sealV, sealC, sealAll, Tryd.f17]
      have hd : decide ((v.l.length : Int) ≤ 16) = false := by have := of_decide_eq_true hc; exact decide_eq_false (by omega)
      rw [validV_list h6, hd, Bool.and_false, Bool.false_and]
    · have hd : decide ((v.l.length : Int) ≤ 16) = true := by have := of_decide_eq_false hc; exact decide_eq_true (by omega)
      have hle : v.l.length ≤ 16 := by have := of_decide_eq_true hd; omega
      have hv : validV v = v.l.all validA := by
        rw [validV_list h6, hd, Bool.and_true]
        have : isA v.a false false false = true := by unfold isA; simp only [*, Bool.false_or, Bool.and_self]
        rw [this, Bool.true_and]
      refine awp_loopw (IW v) v.l.length (SW v 0 _ _) (weak_keep ⟨rfl, rfl, trivial⟩ ⟨rfl, trivial⟩ (Nat.le_refl _)) ⟨0, _, _, Nat.zero_le _, rfl, rfl, rfl⟩ ?_
      clear hg hc
      rintro n st ⟨k, T, e, hk, rfl, hall, rfl⟩
      by_cases hlt : k < v.l.length
      · have hdec := lt_t hlt
        have hget := row_at AtomD.enc v.l k hlt
        have hfa := hf.2 _ (List.getElem_mem hlt)
        have hmem := List.getElem_mem hlt
        have htk := all_take validA v.l k hlt
        have hwk : IntKind.i64.wrap ((k : Int) + 1) = ((k + 1 : Nat) : Int) := wrap_succ (by omega)
        generalize v.l[k] = a at *
        have hca := c_rAtom a hfa
        repeat' (first | refine awp_seq ?_ | refine awp_block ?_ | refine awp_round ?_ | refine awp_text rfl ?_ | refine awp_any rfl mix (by kernel_rfl) ?_ | (refine RunTo.unguard rfl rfl (fun hg => ?_) (fun hg => ?_) <;> ((try simp only [Bool.not_true, Bool.not_false, Bool.not_eq_true', Bool.not_eq_false', Bool.not_eq_eq_eq_not] at hg); (first | (cases hg) | (simp only [hg]) | skip))) | ((first | refine RunTo.plain rfl ?_ | refine RunTo.skipped rfl ?_ | refine RunTo.call (hca) Tryd.func43 rfl rfl rfl rfl rfl rfl rfl rfl ?_); simp only [go_sem, ↓reduceIte, Nat.reduceEqDiff, Nat.reduceAdd, Nat.reduceLeDiff, Nat.reduceBEq, Nat.reduceMul, reduceCtorEq, Int.reduceLE, Int.reduceLT, Int.reduceAdd, Int.reduceSub, Int.reduceNeg, Int.reduceToNat, Int.reduceBEq, hdec, hget, AtomD.enc, hwk, List.length_map]) | ((first | refine RunTo.nil ⟨by kernel_rfl, ?_⟩ | refine RunTo.nil ?_ | refine awp_skip ?_ | refine awp_exit ?_); simp only [go_sem, ↓reduceIte, Nat.reduceEqDiff, Nat.reduceAdd, Nat.reduceLeDiff, Nat.reduceBEq, Nat.reduceMul, reduceCtorEq, Int.reduceLE, Int.reduceLT, Int.reduceAdd, Int.reduceSub, Int.reduceNeg, Int.reduceToNat, Int.reduceBEq, hdec, hget, AtomD.enc, hwk, List.length_map]) | (refine awp_cond' rfl (of_decide_eq_true rfl) (fun hc => ?_) (fun hc => ?_) <;> ((try simp only [Bool.not_true, Bool.not_false, Bool.not_eq_true', Bool.not_eq_false', Bool.not_eq_eq_eq_not] at hc); (first | (cases hc) | (simp only [hc]) | skip))))
        all_goals
          (try simp only [decide_eq_true_eq, decide_eq_false_iff_not, beq_iff_eq, bne_iff_ne, ne_eq, beq_eq_false_iff_ne, bne_eq_false_iff_eq, Bool.and_eq_true, Bool.or_eq_true, Bool.or_eq_false_iff, Bool.and_eq_false_iff] at *)
          first
          | exact ⟨v.l.length - (k + 1), by omega, SW v (k + 1) _ e, weak_keep ⟨rfl, rfl, trivial⟩ ⟨rfl, trivial⟩ (Nat.le_refl _), k + 1, _, _, by omega, rfl, by rw [htk, hall]; simp [*], rfl⟩
          | (have h2 : v.l.all validA = false := by
               cases hh : v.l.all validA with
               | false => rfl
               | true => have := List.all_eq_true.1 hh a hmem; simp_all
             rw [hv, h2]
             (first | refine awp_ret ?_ | skip); refine ⟨(by first | exact .inl rfl | exact .inr rfl | exact .inr trivial | trivial), ?_⟩; simp only [go_sem, ↓reduceIte, Nat.reduceEqDiff, Nat.reduceAdd, Nat.reduceLeDiff, Nat.reduceBEq, Nat.reduceMul, reduceCtorEq, Int.reduceLE, Int.reduceLT, Int.reduceAdd, Int.reduceSub, Int.reduceNeg, Int.reduceToNat, Int.reduceBEq, retV, resL, resV, sealV, sealC, sealAll, Tryd.f17])
      · have hdec := lt_f hlt
        rw [List.take_of_length_le (by omega)] at hall
        repeat' (first | refine awp_seq ?_ | refine awp_block ?_ | refine awp_round ?_ | refine awp_text rfl ?_ | refine awp_any rfl mix (by kernel_rfl) ?_ | (refine RunTo.unguard rfl rfl (fun hg => ?_) (fun hg => ?_) <;> ((try simp only [Bool.not_true, Bool.not_false, Bool.not_eq_true', Bool.not_eq_false', Bool.not_eq_eq_eq_not] at hg); (first | (cases hg) | (simp only [hg]) | skip))) | ((first | refine RunTo.plain rfl ?_ | refine RunTo.skipped rfl ?_); simp only [go_sem, ↓reduceIte, Nat.reduceEqDiff, Nat.reduceAdd, Nat.reduceLeDiff, Nat.reduceBEq, Nat.reduceMul, reduceCtorEq, Int.reduceLE, Int.reduceLT, Int.reduceAdd, Int.reduceSub, Int.reduceNeg, Int.reduceToNat, Int.reduceBEq, hdec, List.length_map]) | ((first | refine RunTo.nil ⟨by kernel_rfl, ?_⟩ | refine RunTo.nil ?_ | refine awp_skip ?_ | refine awp_exit ?_); simp only [go_sem, ↓reduceIte, Nat.reduceEqDiff, Nat.reduceAdd, Nat.reduceLeDiff, Nat.reduceBEq, Nat.reduceMul, reduceCtorEq, Int.reduceLE, Int.reduceLT, Int.reduceAdd, Int.reduceSub, Int.reduceNeg, Int.reduceToNat, Int.reduceBEq, hdec, List.length_map]) | (refine awp_cond' rfl (of_decide_eq_true rfl) (fun hc => ?_) (fun hc => ?_) <;> ((try simp only [Bool.not_true, Bool.not_false, Bool.not_eq_true', Bool.not_eq_false', Bool.not_eq_eq_eq_not] at hc); (first | (cases hc) | (simp only [hc]) | skip))))
        all_goals
          (first | refine awp_ret ?_ | skip); refine ⟨(by first | exact .inl rfl | exact .inr rfl | exact .inr trivial | trivial), ?_⟩; simp only [go_sem, ↓reduceIte, Nat.reduceEqDiff, Nat.reduceAdd, Nat.reduceLeDiff, Nat.reduceBEq, Nat.reduceMul, reduceCtorEq, Int.reduceLE, Int.reduceLT, Int.reduceAdd, Int.reduceSub, Int.reduceNeg, Int.reduceToNat, Int.reduceBEq, retV, resL, resV, sealV, sealC, sealAll, Tryd.f17]
          rw [hv, hall]
    · (first | refine awp_ret ?_ | skip); refine ⟨(by first | exact .inl rfl | exact .inr rfl | exact .inr trivial | trivial), ?_⟩; simp only [go_sem, ↓reduceIte, Nat.reduceEqDiff, Nat.reduceAdd, Nat.reduceLeDiff, Nat.reduceBEq, Nat.reduceMul, reduceCtorEq, Int.reduceLE, Int.reduceLT, Int.reduceAdd, Int.reduceSub, Int.reduceNeg, Int.reduceToNat, Int.reduceBEq, retV, resL, resV, sealV, sealC, sealAll, Tryd.f17]
      rw [validV_list h6]
      unfold isA
      simp only [*, Bool.false_or, Bool.and_false, Bool.false_and, Bool.and_true]
    · (first | refine awp_ret ?_ | skip); refine ⟨(by first | exact .inl rfl | exact .inr rfl | exact .inr trivial | trivial), ?_⟩; simp only [go_sem, ↓reduceIte, Nat.reduceEqDiff, Nat.reduceAdd, Nat.reduceLeDiff, Nat.reduceBEq, Nat.reduceMul, reduceCtorEq, Int.reduceLE, Int.reduceLT, Int.reduceAdd, Int.reduceSub, Int.reduceNeg, Int.reduceToNat, Int.reduceBEq, retV, resL, resV, sealV, sealC, sealAll, Tryd.f17]
      rw [validV_list h6]
      unfold isA
      simp only [*, Bool.false_or, Bool.and_false, Bool.false_and, Bool.and_true]
    · (first | refine awp_ret ?_ | skip); refine ⟨(by first | exact .inl rfl | exact .inr rfl | exact .inr trivial | trivial), ?_⟩; simp only [go_sem, ↓reduceIte, Nat.reduceEqDiff, Nat.reduceAdd, Nat.reduceLeDiff, Nat.reduceBEq, Nat.reduceMul, reduceCtorEq, Int.reduceLE, Int.reduceLT, Int.reduceAdd, Int.reduceSub, Int.reduceNeg, Int.reduceToNat, Int.reduceBEq, retV, resL, resV, sealV, sealC, sealAll, Tryd.f17]
      rw [validV_list h6]
      unfold isA
      simp only [*, Bool.false_or, Bool.and_false, Bool.false_and, Bool.and_true]
  · have hk6 : (v.a.k == 6) = false := by simpa using h6
    refine pure_of_awp Tryd.func17 rfl rfl (by simp [Tryd.f17]) ?_; simp only [go_sem, ↓reduceIte, Nat.reduceEqDiff, Nat.reduceAdd, Nat.reduceLeDiff, Nat.reduceBEq, Nat.reduceMul, reduceCtorEq, Int.reduceLE, Int.reduceLT, Int.reduceAdd, Int.reduceSub, Int.reduceNeg, Int.reduceToNat, Int.reduceBEq]
    repeat' (first | refine awp_seq ?_ | refine awp_block ?_ | refine awp_round ?_ | refine awp_text rfl ?_ | refine awp_any rfl mix (by kernel_rfl) ?_ | (refine RunTo.unguard rfl rfl (fun hg => ?_) (fun hg => ?_) <;> ((try simp only [Bool.not_true, Bool.not_false, Bool.not_eq_true', Bool.not_eq_false', Bool.not_eq_eq_eq_not] at hg); (first | (cases hg) | (simp only [hg]) | skip))) | ((first | refine RunTo.plain rfl ?_ | refine RunTo.skipped rfl ?_ | refine RunTo.call (ha) Tryd.func43 rfl rfl rfl rfl rfl rfl rfl rfl ?_); simp only [go_sem, ↓reduceIte, Nat.reduceEqDiff, Nat.reduceAdd, Nat.reduceLeDiff, Nat.reduceBEq, Nat.reduceMul, reduceCtorEq, Int.reduceLE, Int.reduceLT, Int.reduceAdd, Int.reduceSub, Int.reduceNeg, Int.reduceToNat, Int.reduceBEq, ValD.av, bne, hk6, List.length_map]) | ((first | refine RunTo.nil ⟨by kernel_rfl, ?_⟩ | refine RunTo.nil ?_ | refine awp_skip ?_ | refine awp_exit ?_); simp only [go_sem, ↓reduceIte, Nat.reduceEqDiff, Nat.reduceAdd, Nat.reduceLeDiff, Nat.reduceBEq, Nat.reduceMul, reduceCtorEq, Int.reduceLE, Int.reduceLT, Int.reduceAdd, Int.reduceSub, Int.reduceNeg, Int.reduceToNat, Int.reduceBEq, ValD.av, bne, hk6, List.length_map]) | (refine awp_cond' rfl (of_decide_eq_true rfl) (fun hc => ?_) (fun hc => ?_) <;> ((try simp only [Bool.not_true, Bool.not_false, Bool.not_eq_true', Bool.not_eq_false', Bool.not_eq_eq_eq_not] at hc); (first | (cases hc) | (simp only [hc]) | skip))))
    all_goals
      (first | refine awp_ret ?_ | skip); refine ⟨(by first | exact .inl rfl | exact .inr rfl | exact .inr trivial | trivial), ?_⟩; simp only [go_sem, ↓reduceIte, Nat.reduceEqDiff, Nat.reduceAdd, Nat.reduceLeDiff, Nat.reduceBEq, Nat.reduceMul, reduceCtorEq, Int.reduceLE, Int.reduceLT, Int.reduceAdd, Int.reduceSub, Int.reduceNeg, Int.reduceToNat, Int.reduceBEq, retV, resL, resV, sealV, sealC, sealAll, Tryd.f17]
      rw [validV_atom h6]
      simp [*]
theorem kind_of {a : AtomD} (h : validA a = true) : 0 ≤ a.k ∧ a.k ≤ 5 := by
  unfold validA at h
  (repeat' split at h) <;> first | omega | cases h
theorem app_first (p x : ByteArray) : p ++ joinB ([].map printA) sepB ++ x = p ++ joinB ([].map printA ++ [x]) sepB := by
  apply ByteArray.ext
  simp [joinB, Lib.join_nil, Lib.join_one, ByteArray.data_append]
theorem join_snocL (sep : List UInt8) (x : List UInt8) : ∀ xs : List (List UInt8), xs ≠ [] → Lib.join (xs ++ [x]) sep = Lib.join xs sep ++ sep ++ x
  | [], h => absurd rfl h
  | a :: r, _ => by
    rw [List.cons_append, Lib.join_cons, Lib.join_cons]
    simp [Lib.joinTail]
theorem join_snoc (xs : List ByteArray) (sep x : ByteArray) (h : xs ≠ []) : joinB (xs ++ [x]) sep = joinB xs sep ++ sep ++ x := by
  have := join_snocL sep.data.toList x.data.toList (xs.map (·.data.toList)) (by simpa using h)
  apply ByteArray.ext
  rw [ByteArray.data_append, ByteArray.data_append]
  apply Array.ext'
  simp only [joinB, List.map_append, List.map_cons, List.map_nil]
  rw [this]
  simp
abbrev SWp (v : ValD) (k : Nat) (s : ByteArray) (T e : Nat) : St := ⟨[(3, sv s), (4, iv k), (1, .ptr 1 e 0 0)], [(1, .box e (cellsV v))], T⟩
def IWp (v : ValD) (n : Nat) (st : St) : Prop := ∃ k s T e, k ≤ v.l.length ∧ n = v.l.length - k ∧ s = (⟨#[91]⟩ : ByteArray) ++ joinB ((v.l.take k).map printA) sepB ∧ st = SWp v k s T e
theorem c_rPrint (v : ValD) (hf : flV v) (ho : okV v) : Pure Tryd.prog 13 [v.av] (sv (printV v)) := by
  have hvc := c_rValid v hf
  by_cases hv : validV v = true
  · rw [hv] at hvc
    by_cases h6 : v.a.k = 6
    · have hk6 : (v.a.k == 6) = true := by simpa using h6
      have hl16 : v.l.length ≤ 16 ∧ ∀ a ∈ v.l, validA a = true := by
        rw [validV_list h6] at hv
        simp only [Bool.and_eq_true, decide_eq_true_eq, List.all_eq_true] at hv
        exact ⟨by have := hv.1.2; omega, hv.2⟩
      refine pure_of_awp Tryd.func13 rfl rfl (by simp [Tryd.f13]) ?_; simp only [go_sem, ↓reduceIte, Nat.reduceEqDiff, Nat.reduceAdd, Nat.reduceLeDiff, Nat.reduceBEq, Nat.reduceMul, reduceCtorEq, Int.reduceLE, Int.reduceLT, Int.reduceAdd, Int.reduceSub, Int.reduceNeg, Int.reduceToNat, Int.reduceBEq]
      repeat' (first | refine awp_seq ?_ | refine awp_block ?_ | refine awp_round ?_ | refine awp_text rfl ?_ | refine awp_any rfl mix (by kernel_rfl) ?_ | (refine RunTo.unguard rfl rfl (fun hg => ?_) (fun hg => ?_) <;> ((try simp only [Bool.not_true, Bool.not_false, Bool.not_eq_true', Bool.not_eq_false', Bool.not_eq_eq_eq_not] at hg); (first | (cases hg) | (simp only [hg]) | skip))) | ((first | refine RunTo.plain rfl ?_ | refine RunTo.skipped rfl ?_ | refine RunTo.call (hvc) Tryd.func17 rfl rfl rfl rfl rfl rfl rfl rfl ?_); simp only [go_sem, ↓reduceIte, Nat.reduceEqDiff, Nat.reduceAdd, Nat.reduceLeDiff, Nat.reduceBEq, Nat.reduceMul, reduceCtorEq, Int.reduceLE, Int.reduceLT, Int.reduceAdd, Int.reduceSub, Int.reduceNeg, Int.reduceToNat, Int.reduceBEq, ValD.av, bne, hk6, List.length_map]) | ((first | refine RunTo.nil ⟨by kernel_rfl, ?_⟩ | refine RunTo.nil ?_ | refine awp_skip ?_ | refine awp_exit ?_); simp only [go_sem, ↓reduceIte, Nat.reduceEqDiff, Nat.reduceAdd, Nat.reduceLeDiff, Nat.reduceBEq, Nat.reduceMul, reduceCtorEq, Int.reduceLE, Int.reduceLT, Int.reduceAdd, Int.reduceSub, Int.reduceNeg, Int.reduceToNat, Int.reduceBEq, ValD.av, bne, hk6, List.length_map]) | (refine awp_cond' rfl (of_decide_eq_true rfl) (fun hc => ?_) (fun hc => ?_) <;> ((try simp only [Bool.not_true, Bool.not_false, Bool.not_eq_true', Bool.not_eq_false', Bool.not_eq_eq_eq_not] at hc); (first | (cases hc) | (simp only [hc]) | skip))))
      refine awp_loopw (IWp v) v.l.length (SWp v 0 ⟨#[91]⟩ _ _) (weak_keep ⟨rfl, rfl, rfl, trivial⟩ ⟨rfl, trivial⟩ (Nat.le_refl _)) ⟨0, _, _, _, Nat.zero_le _, rfl, rfl, rfl⟩ ?_
      rintro n st ⟨k, s, T, e, hk, rfl, hs, rfl⟩
      have hbig := joinB_le ((v.l.take k).map printA) sepB 10000000 (fun x hx => by obtain ⟨a, ha, rfl⟩ := List.mem_map.1 hx; exact printA_big a (ho.2 a (List.mem_of_mem_take ha)))
      have hs2 : sepB.size = 2 := rfl
      have e1 : (⟨#[91]⟩ : ByteArray).size = 1 := rfl
      rw [List.length_map, List.length_take, hs2] at hbig
      have hss : s.size ≤ 1000000000 := by rw [hs, ByteArray.size_append, e1]; omega
      by_cases hlt : k < v.l.length
      · have hdec := lt_t hlt
        have hget := row_at AtomD.enc v.l k hlt
        have hfa := hf.2 _ (List.getElem_mem hlt)
        have hoa := ho.2 _ (List.getElem_mem hlt)
        have hka := kind_of (hl16.2 _ (List.getElem_mem hlt))
        have htk : (v.l.take (k + 1)).map printA = (v.l.take k).map printA ++ [printA v.l[k]] := by rw [List.take_succ_eq_append_getElem hlt, List.map_append]; rfl
        have hwk : IntKind.i64.wrap ((k : Int) + 1) = ((k + 1 : Nat) : Int) := wrap_succ (by omega)
        generalize v.l[k] = a at *
        have hca := c_rPrintA a hfa hoa.1 hoa.2 hka
        have hpb := printA_big a hoa
        have z1 : (s.size + 2 ≤ 9223372036854775807) = True := eq_true (by omega)
        have z2 : (s.size + 2 + (printA a).size ≤ 9223372036854775807) = True := eq_true (by omega)
        have z3 : (s.size + (printA a).size ≤ 9223372036854775807) = True := eq_true (by omega)
        by_cases hk0 : k = 0
        · subst hk0
          have hdec0 : decide ((0 : Int) < (v.l.length : Int)) = true := decide_eq_true (by omega)
          repeat' (first | refine awp_seq ?_ | refine awp_block ?_ | refine awp_round ?_ | refine awp_text rfl ?_ | refine awp_any rfl mix (by kernel_rfl) ?_ | (refine RunTo.unguard rfl rfl (fun hg => ?_) (fun hg => ?_) <;> ((try simp only [Bool.not_true, Bool.not_false, Bool.not_eq_true', Bool.not_eq_false', Bool.not_eq_eq_eq_not] at hg); (first | (cases hg) | (simp only [hg]) | skip))) | ((first | refine RunTo.plain rfl ?_ | refine RunTo.skipped rfl ?_ | refine RunTo.call (hca) Tryd.func40 rfl rfl rfl rfl rfl rfl rfl rfl ?_); simp only [go_sem, ↓reduceIte, Nat.reduceEqDiff, Nat.reduceAdd, Nat.reduceLeDiff, Nat.reduceBEq, Nat.reduceMul, reduceCtorEq, Int.reduceLE, Int.reduceLT, Int.reduceAdd, Int.reduceSub, Int.reduceNeg, Int.reduceToNat, Int.reduceBEq, hdec0, hdec, hget, AtomD.enc, hwk, List.length_map, z3]) | ((first | refine RunTo.nil ⟨by kernel_rfl, ?_⟩ | refine RunTo.nil ?_ | refine awp_skip ?_ | refine awp_exit ?_); simp only [go_sem, ↓reduceIte, Nat.reduceEqDiff, Nat.reduceAdd, Nat.reduceLeDiff, Nat.reduceBEq, Nat.reduceMul, reduceCtorEq, Int.reduceLE, Int.reduceLT, Int.reduceAdd, Int.reduceSub, Int.reduceNeg, Int.reduceToNat, Int.reduceBEq, hdec0, hdec, hget, AtomD.enc, hwk, List.length_map, z3]) | (refine awp_cond' rfl (of_decide_eq_true rfl) (fun hc => ?_) (fun hc => ?_) <;> ((try simp only [Bool.not_true, Bool.not_false, Bool.not_eq_true', Bool.not_eq_false', Bool.not_eq_eq_eq_not] at hc); (first | (cases hc) | (simp only [hc]) | skip))))
          all_goals exact ⟨v.l.length - (0 + 1), by omega, SWp v (0 + 1) (s ++ printA a) _ e, weak_keep ⟨rfl, rfl, rfl, trivial⟩ ⟨rfl, trivial⟩ (Nat.le_refl _), 0 + 1, _, _, _, by omega, rfl, by rw [htk, hs]; exact app_first _ _, rfl⟩
        · have hd0 : decide ((0 : Int) < (k : Int)) = true := decide_eq_true (by omega)
          repeat' (first | refine awp_seq ?_ | refine awp_block ?_ | refine awp_round ?_ | refine awp_text rfl ?_ | refine awp_any rfl mix (by kernel_rfl) ?_ | (refine RunTo.unguard rfl rfl (fun hg => ?_) (fun hg => ?_) <;> ((try simp only [Bool.not_true, Bool.not_false, Bool.not_eq_true', Bool.not_eq_false', Bool.not_eq_eq_eq_not] at hg); (first | (cases hg) | (simp only [hg]) | skip))) | ((first | refine RunTo.plain rfl ?_ | refine RunTo.skipped rfl ?_ | refine RunTo.call (hca) Tryd.func40 rfl rfl rfl rfl rfl rfl rfl rfl ?_); simp only [go_sem, ↓reduceIte, Nat.reduceEqDiff, Nat.reduceAdd, Nat.reduceLeDiff, Nat.reduceBEq, Nat.reduceMul, reduceCtorEq, Int.reduceLE, Int.reduceLT, Int.reduceAdd, Int.reduceSub, Int.reduceNeg, Int.reduceToNat, Int.reduceBEq, hdec, hget, AtomD.enc, hwk, List.length_map, hd0, z1, z2, ByteArray.size_append, List.size_toArray]) | ((first | refine RunTo.nil ⟨by kernel_rfl, ?_⟩ | refine RunTo.nil ?_ | refine awp_skip ?_ | refine awp_exit ?_); simp only [go_sem, ↓reduceIte, Nat.reduceEqDiff, Nat.reduceAdd, Nat.reduceLeDiff, Nat.reduceBEq, Nat.reduceMul, reduceCtorEq, Int.reduceLE, Int.reduceLT, Int.reduceAdd, Int.reduceSub, Int.reduceNeg, Int.reduceToNat, Int.reduceBEq, hdec, hget, AtomD.enc, hwk, List.length_map, hd0, z1, z2, ByteArray.size_append, List.size_toArray]) | (refine awp_cond' rfl (of_decide_eq_true rfl) (fun hc => ?_) (fun hc => ?_) <;> ((try simp only [Bool.not_true, Bool.not_false, Bool.not_eq_true', Bool.not_eq_false', Bool.not_eq_eq_eq_not] at hc); (first | (cases hc) | (simp only [hc]) | skip))))
          all_goals exact ⟨v.l.length - (k + 1), by omega, SWp v (k + 1) (s ++ sepB ++ printA a) _ e, weak_keep ⟨rfl, rfl, rfl, trivial⟩ ⟨rfl, trivial⟩ (Nat.le_refl _), k + 1, _, _, _, by omega, rfl, by
            rw [htk, hs, join_snoc _ _ _ (fun h0 => by have h1 := congrArg List.length h0; rw [List.length_map, List.length_take, List.length_nil] at h1; omega)]
            simp only [ByteArray.append_assoc], rfl⟩
      · have hdec := lt_f hlt
        have hall : v.l.take k = v.l := List.take_of_length_le (by omega)
        rw [hall] at hs
        have z1 : (s.size + 1 ≤ 9223372036854775807) = True := eq_true (by omega)
        repeat' (first | refine awp_seq ?_ | refine awp_block ?_ | refine awp_round ?_ | refine awp_text rfl ?_ | refine awp_any rfl mix (by kernel_rfl) ?_ | (refine RunTo.unguard rfl rfl (fun hg => ?_) (fun hg => ?_) <;> ((try simp only [Bool.not_true, Bool.not_false, Bool.not_eq_true', Bool.not_eq_false', Bool.not_eq_eq_eq_not] at hg); (first | (cases hg) | (simp only [hg]) | skip))) | ((first | refine RunTo.plain rfl ?_ | refine RunTo.skipped rfl ?_); simp only [go_sem, ↓reduceIte, Nat.reduceEqDiff, Nat.reduceAdd, Nat.reduceLeDiff, Nat.reduceBEq, Nat.reduceMul, reduceCtorEq, Int.reduceLE, Int.reduceLT, Int.reduceAdd, Int.reduceSub, Int.reduceNeg, Int.reduceToNat, Int.reduceBEq, hdec, List.length_map, z1, List.size_toArray]) | ((first | refine RunTo.nil ⟨by kernel_rfl, ?_⟩ | refine RunTo.nil ?_ | refine awp_skip ?_ | refine awp_exit ?_); simp only [go_sem, ↓reduceIte, Nat.reduceEqDiff, Nat.reduceAdd, Nat.reduceLeDiff, Nat.reduceBEq, Nat.reduceMul, reduceCtorEq, Int.reduceLE, Int.reduceLT, Int.reduceAdd, Int.reduceSub, Int.reduceNeg, Int.reduceToNat, Int.reduceBEq, hdec, List.length_map, z1, List.size_toArray]) | (refine awp_cond' rfl (of_decide_eq_true rfl) (fun hc => ?_) (fun hc => ?_) <;> ((try simp only [Bool.not_true, Bool.not_false, Bool.not_eq_true', Bool.not_eq_false', Bool.not_eq_eq_eq_not] at hc); (first | (cases hc) | (simp only [hc]) | skip))))
        all_goals (first | refine awp_ret ?_ | skip); refine ⟨(by first | exact .inl rfl | exact .inr rfl | exact .inr trivial | trivial), ?_⟩; simp only [go_sem, ↓reduceIte, Nat.reduceEqDiff, Nat.reduceAdd, Nat.reduceLeDiff, Nat.reduceBEq, Nat.reduceMul, reduceCtorEq, Int.reduceLE, Int.reduceLT, Int.reduceAdd, Int.reduceSub, Int.reduceNeg, Int.reduceToNat, Int.reduceBEq, retV, resL, resV, sealV, sealC, sealAll, Tryd.f13]
        all_goals rw [printV, if_pos hv, if_pos h6, hs]
    · have hk6 : (v.a.k == 6) = false := by simpa using h6
      have hva : validA v.a = true := by
        rw [validV_atom h6] at hv
        simp only [Bool.and_eq_true] at hv
        exact hv.1
      have hca := c_rPrintA v.a hf.1 ho.1.1 ho.1.2 (kind_of hva)
      refine pure_of_awp Tryd.func13 rfl rfl (by simp [Tryd.f13]) ?_; simp only [go_sem, ↓reduceIte, Nat.reduceEqDiff, Nat.reduceAdd, Nat.reduceLeDiff, Nat.reduceBEq, Nat.reduceMul, reduceCtorEq, Int.reduceLE, Int.reduceLT, Int.reduceAdd, Int.reduceSub, Int.reduceNeg, Int.reduceToNat, Int.reduceBEq]
      repeat' (first | refine awp_seq ?_ | refine awp_block ?_ | refine awp_round ?_ | refine awp_text rfl ?_ | refine awp_any rfl mix (by kernel_rfl) ?_ | (refine RunTo.unguard rfl rfl (fun hg => ?_) (fun hg => ?_) <;> ((try simp only [Bool.not_true, Bool.not_false, Bool.not_eq_true', Bool.not_eq_false', Bool.not_eq_eq_eq_not] at hg); (first | (cases hg) | (simp only [hg]) | skip))) | ((first | refine RunTo.plain rfl ?_ | refine RunTo.skipped rfl ?_ | refine RunTo.call (hvc) Tryd.func17 rfl rfl rfl rfl rfl rfl rfl rfl ?_ | refine RunTo.call (hca) Tryd.func40 rfl rfl rfl rfl rfl rfl rfl rfl ?_); simp only [go_sem, ↓reduceIte, Nat.reduceEqDiff, Nat.reduceAdd, Nat.reduceLeDiff, Nat.reduceBEq, Nat.reduceMul, reduceCtorEq, Int.reduceLE, Int.reduceLT, Int.reduceAdd, Int.reduceSub, Int.reduceNeg, Int.reduceToNat, Int.reduceBEq, ValD.av, bne, hk6, List.length_map]) | ((first | refine RunTo.nil ⟨by kernel_rfl, ?_⟩ | refine RunTo.nil ?_ | refine awp_skip ?_ | refine awp_exit ?_); simp only [go_sem, ↓reduceIte, Nat.reduceEqDiff, Nat.reduceAdd, Nat.reduceLeDiff, Nat.reduceBEq, Nat.reduceMul, reduceCtorEq, Int.reduceLE, Int.reduceLT, Int.reduceAdd, Int.reduceSub, Int.reduceNeg, Int.reduceToNat, Int.reduceBEq, ValD.av, bne, hk6, List.length_map]) | (refine awp_cond' rfl (of_decide_eq_true rfl) (fun hc => ?_) (fun hc => ?_) <;> ((try simp only [Bool.not_true, Bool.not_false, Bool.not_eq_true', Bool.not_eq_false', Bool.not_eq_eq_eq_not] at hc); (first | (cases hc) | (simp only [hc]) | skip))))
      all_goals (first | refine awp_ret ?_ | skip); refine ⟨(by first | exact .inl rfl | exact .inr rfl | exact .inr trivial | trivial), ?_⟩; simp only [go_sem, ↓reduceIte, Nat.reduceEqDiff, Nat.reduceAdd, Nat.reduceLeDiff, Nat.reduceBEq, Nat.reduceMul, reduceCtorEq, Int.reduceLE, Int.reduceLT, Int.reduceAdd, Int.reduceSub, Int.reduceNeg, Int.reduceToNat, Int.reduceBEq, retV, resL, resV, sealV, sealC, sealAll, Tryd.f13]
      all_goals rw [printV, if_pos hv, if_neg h6]
  · have hv' : validV v = false := by simpa using hv
    rw [hv'] at hvc
    refine pure_of_awp Tryd.func13 rfl rfl (by simp [Tryd.f13]) ?_; simp only [go_sem, ↓reduceIte, Nat.reduceEqDiff, Nat.reduceAdd, Nat.reduceLeDiff, Nat.reduceBEq, Nat.reduceMul, reduceCtorEq, Int.reduceLE, Int.reduceLT, Int.reduceAdd, Int.reduceSub, Int.reduceNeg, Int.reduceToNat, Int.reduceBEq]
    repeat' (first | refine awp_seq ?_ | refine awp_block ?_ | refine awp_round ?_ | refine awp_text rfl ?_ | refine awp_any rfl mix (by kernel_rfl) ?_ | (refine RunTo.unguard rfl rfl (fun hg => ?_) (fun hg => ?_) <;> ((try simp only [Bool.not_true, Bool.not_false, Bool.not_eq_true', Bool.not_eq_false', Bool.not_eq_eq_eq_not] at hg); (first | (cases hg) | (simp only [hg]) | skip))) | ((first | refine RunTo.plain rfl ?_ | refine RunTo.skipped rfl ?_ | refine RunTo.call (hvc) Tryd.func17 rfl rfl rfl rfl rfl rfl rfl rfl ?_); simp only [go_sem, ↓reduceIte, Nat.reduceEqDiff, Nat.reduceAdd, Nat.reduceLeDiff, Nat.reduceBEq, Nat.reduceMul, reduceCtorEq, Int.reduceLE, Int.reduceLT, Int.reduceAdd, Int.reduceSub, Int.reduceNeg, Int.reduceToNat, Int.reduceBEq, ValD.av, bne, List.length_map]) | ((first | refine RunTo.nil ⟨by kernel_rfl, ?_⟩ | refine RunTo.nil ?_ | refine awp_skip ?_ | refine awp_exit ?_); simp only [go_sem, ↓reduceIte, Nat.reduceEqDiff, Nat.reduceAdd, Nat.reduceLeDiff, Nat.reduceBEq, Nat.reduceMul, reduceCtorEq, Int.reduceLE, Int.reduceLT, Int.reduceAdd, Int.reduceSub, Int.reduceNeg, Int.reduceToNat, Int.reduceBEq, ValD.av, bne, List.length_map]) | (refine awp_cond' rfl (of_decide_eq_true rfl) (fun hc => ?_) (fun hc => ?_) <;> ((try simp only [Bool.not_true, Bool.not_false, Bool.not_eq_true', Bool.not_eq_false', Bool.not_eq_eq_eq_not] at hc); (first | (cases hc) | (simp only [hc]) | skip))))
    all_goals (first | refine awp_ret ?_ | skip); refine ⟨(by first | exact .inl rfl | exact .inr rfl | exact .inr trivial | trivial), ?_⟩; simp only [go_sem, ↓reduceIte, Nat.reduceEqDiff, Nat.reduceAdd, Nat.reduceLeDiff, Nat.reduceBEq, Nat.reduceMul, reduceCtorEq, Int.reduceLE, Int.reduceLT, Int.reduceAdd, Int.reduceSub, Int.reduceNeg, Int.reduceToNat, Int.reduceBEq, retV, resL, resV, sealV, sealC, sealAll, Tryd.f13]
    all_goals rw [printV, if_neg hv]
end Go.Proofs.YtfeacmadnbajfaaDoor.AM
namespace Go.Proofs.YtfeacmadnbajfaaDoor.AM
open Go.RowKit
set_option linter.unusedSimpArgs false
set_option linter.unusedVariables false
set_option maxRecDepth 10000
set_option maxHeartbeats 0
def inA (a : AtomD) : Prop := i64B a.n ∧ a.f < 18446744073709551616
def inV (v : ValD) : Prop := inA v.a ∧ ∀ a ∈ v.l, inA a
theorem hide2 {P : Program} {nt : Nat} {Q : Exit → St → Prop} {st : St} {A B R : Code} (h : ∀ R', R' = R → AWP P nt (.seq A (.seq B R')) Q st) : AWP P nt (.seq A (.seq B R)) Q st := h R rfl
def fewA (a : AtomD) : Prop := a.s.size ≤ 300
def fewV (v : ValD) : Prop := fewA v.a ∧ ∀ a ∈ v.l, fewA a
theorem ok_of {v : ValD} (h : inV v) (k : fewV v) : okV v := ⟨⟨h.1.1, by have : v.a.s.size ≤ 300 := k.1; omega⟩, fun a ha => ⟨(h.2 a ha).1, by have : a.s.size ≤ 300 := k.2 a ha; omega⟩⟩
theorem fl_of {v : ValD} (h : inV v) : flV v := ⟨h.1.2, fun a ha => (h.2 a ha).2⟩
abbrev barB : ByteArray := ⟨#[32, 124, 32]⟩
abbrev M7 (ws : List ValD) (k : Nat) (t : ByteArray) (T : Nat) : St := ⟨[(0, .dat (.lst 5 (ws.map ValD.enc))), (3, sv t), (4, iv k)], [], T⟩
def J7 (ws : List ValD) (n : Nat) (st : St) : Prop := ∃ k t T, k ≤ ws.length ∧ n = ws.length - k ∧ (∀ v ∈ ws.take k, fewV v) ∧ t = joinB ((ws.take k).map printV) barB ∧ st = M7 ws k t T
abbrev N7 (ws : List ValD) (k : Nat) (t : ByteArray) (j T : Nat) : St := ⟨[(0, .dat (.lst 5 (ws.map ValD.enc))), (3, sv t), (4, iv k), (5, iv j)], [], T⟩
def K7 (ws : List ValD) (k : Nat) (t : ByteArray) (v : ValD) (n : Nat) (st : St) : Prop := ∃ j T, j ≤ v.l.length ∧ n = v.l.length - j ∧ (∀ a ∈ v.l.take j, fewA a) ∧ st = N7 ws k t j T
abbrev zV : ValD := ⟨⟨0, 0, 0, eE⟩, []⟩
theorem zV_ok : okV zV := ⟨⟨by show i64B 0; unfold i64B; decide, by show eE.size ≤ _; decide⟩, fun a ha => by cases ha⟩
theorem zV_le : Dle (.lst 5 [[di 0, di 0, df 0, ds' eE, .lit (.slice none 0 0)]]) (.lst 5 ([zV].map ValD.enc)) := DleR.dat (.cons (.cons (.refl _) (.cons (.refl _) (.cons (.refl _) (.cons (.refl _) (.cons (.nil 4) .nil))))) .nil)
theorem zV_row : rowV [zV] = ⟨#[110, 117, 108, 108]⟩ := by
  have h : printV zV = ⟨#[110, 117, 108, 108]⟩ := by decide +kernel
  unfold rowV
  rw [List.map_cons, List.map_nil, h]
  apply ByteArray.ext
  simp [joinB, Lib.join_one]
theorem c_law28 (vs : List ValD) (hi : ∀ v ∈ vs, inV v) : Pure Tryd.prog 5 [.dat (.lst 5 (vs.map ValD.enc))] (bv true) := by
  refine pure_of_awp Tryd.func5 rfl rfl (by simp [Tryd.f5]) ?_; simp only [go_sem, ↓reduceIte, Nat.reduceEqDiff, Nat.reduceAdd, Nat.reduceLeDiff, Nat.reduceBEq, Nat.reduceMul, reduceCtorEq, Int.reduceLE, Int.reduceLT, Int.reduceAdd, Int.reduceSub, Int.reduceNeg, Int.reduceToNat, Int.reduceBEq]
  refine hide2 (fun R hR => ?_)
  have main : ∀ (ws : List ValD) (T : Nat), ws.length ≤ 20 → (∀ v ∈ ws, inV v) → AWP Tryd.prog Tryd.f5.ntmps R (fun ex st => (ex = .ret ∨ ex = .normal) ∧ retV Tryd.prog Tryd.f5.results.toList st = some (bv true)) ⟨[(0, .dat (.lst 5 (ws.map ValD.enc)))], [], T⟩ := by
    intro ws T hl hi
    subst hR
    repeat' (first | refine awp_seq ?_ | refine awp_block ?_ | refine awp_round ?_ | refine awp_text rfl ?_ | refine awp_any rfl mix (by kernel_rfl) ?_ | (refine RunTo.unguard rfl rfl (fun hg => ?_) (fun hg => ?_) <;> ((try simp only [Bool.not_true, Bool.not_false, Bool.not_eq_true', Bool.not_eq_false', Bool.not_eq_eq_eq_not] at hg); (first | (cases hg) | (simp only [hg]) | skip))) | ((first | refine RunTo.plain rfl ?_ | refine RunTo.skipped rfl ?_); simp only [go_sem, ↓reduceIte, Nat.reduceEqDiff, Nat.reduceAdd, Nat.reduceLeDiff, Nat.reduceBEq, Nat.reduceMul, reduceCtorEq, Int.reduceLE, Int.reduceLT, Int.reduceAdd, Int.reduceSub, Int.reduceNeg, Int.reduceToNat, Int.reduceBEq]) | ((first | refine RunTo.nil ⟨by kernel_rfl, ?_⟩ | refine RunTo.nil ?_ | refine awp_skip ?_ | refine awp_exit ?_); simp only [go_sem, ↓reduceIte, Nat.reduceEqDiff, Nat.reduceAdd, Nat.reduceLeDiff, Nat.reduceBEq, Nat.reduceMul, reduceCtorEq, Int.reduceLE, Int.reduceLT, Int.reduceAdd, Int.reduceSub, Int.reduceNeg, Int.reduceToNat, Int.reduceBEq]) | (refine awp_cond' rfl (of_decide_eq_true rfl) (fun hc => ?_) (fun hc => ?_) <;> ((try simp only [Bool.not_true, Bool.not_false, Bool.not_eq_true', Bool.not_eq_false', Bool.not_eq_eq_eq_not] at hc); (first | (cases hc) | (simp only [hc]) | skip))))
    refine awp_loopw (J7 ws) ws.length (M7 ws 0 eE _) (weak_keep ⟨rfl, rfl, rfl, trivial⟩ trivial (Nat.le_refl _)) ⟨0, _, _, Nat.zero_le _, rfl, by simp, rfl, rfl⟩ ?_
    rintro n st ⟨k, t, T, hk, rfl, hfew, ht, rfl⟩
    by_cases hlt : k < ws.length
    · have hdec := lt_t hlt
      have hget := row_at ValD.enc ws k hlt
      have hiv := hi _ (List.getElem_mem hlt)
      have htk : (ws.take (k + 1)).map printV = (ws.take k).map printV ++ [printV ws[k]] := by rw [List.take_succ_eq_append_getElem hlt, List.map_append]; rfl
      have htk2 : ws.take (k + 1) = ws.take k ++ [ws[k]] := List.take_succ_eq_append_getElem hlt
      have hwk : IntKind.i64.wrap ((k : Int) + 1) = ((k + 1 : Nat) : Int) := wrap_succ (by omega)
      generalize ws[k] = v at *
      have hbig := joinB_le ((ws.take k).map printV) barB 1000000000 (fun x hx => by
        obtain ⟨a, ha, rfl⟩ := List.mem_map.1 hx
        exact printV_big a (ok_of (hi a (List.mem_of_mem_take ha)) (hfew a ha)))
      have hs2 : barB.size = 3 := rfl
      rw [List.length_map, List.length_take, hs2, ← ht] at hbig
      have hts : t.size ≤ 100000000000 := by omega
      repeat' (first | refine awp_seq ?_ | refine awp_block ?_ | refine awp_round ?_ | refine awp_text rfl ?_ | refine awp_any rfl mix (by kernel_rfl) ?_ | (refine RunTo.unguard rfl rfl (fun hg => ?_) (fun hg => ?_) <;> ((try simp only [Bool.not_true, Bool.not_false, Bool.not_eq_true', Bool.not_eq_false', Bool.not_eq_eq_eq_not] at hg); (first | (cases hg) | (simp only [hg]) | skip))) | ((first | refine RunTo.plain rfl ?_ | refine RunTo.skipped rfl ?_); simp only [go_sem, ↓reduceIte, Nat.reduceEqDiff, Nat.reduceAdd, Nat.reduceLeDiff, Nat.reduceBEq, Nat.reduceMul, reduceCtorEq, Int.reduceLE, Int.reduceLT, Int.reduceAdd, Int.reduceSub, Int.reduceNeg, Int.reduceToNat, Int.reduceBEq, hdec, hget, ValD.enc, hwk, List.length_map]) | ((first | refine RunTo.nil ⟨by kernel_rfl, ?_⟩ | refine RunTo.nil ?_ | refine awp_skip ?_ | refine awp_exit ?_); simp only [go_sem, ↓reduceIte, Nat.reduceEqDiff, Nat.reduceAdd, Nat.reduceLeDiff, Nat.reduceBEq, Nat.reduceMul, reduceCtorEq, Int.reduceLE, Int.reduceLT, Int.reduceAdd, Int.reduceSub, Int.reduceNeg, Int.reduceToNat, Int.reduceBEq, hdec, hget, ValD.enc, hwk, List.length_map]) | (refine awp_cond' rfl (of_decide_eq_true rfl) (fun hc => ?_) (fun hc => ?_) <;> ((try simp only [Bool.not_true, Bool.not_false, Bool.not_eq_true', Bool.not_eq_false', Bool.not_eq_eq_eq_not] at hc); (first | (cases hc) | (simp only [hc]) | skip))))
      · (first | refine awp_ret ?_ | skip); refine ⟨(by first | exact .inl rfl | exact .inr rfl | exact .inr trivial | trivial), ?_⟩; simp only [go_sem, ↓reduceIte, Nat.reduceEqDiff, Nat.reduceAdd, Nat.reduceLeDiff, Nat.reduceBEq, Nat.reduceMul, reduceCtorEq, Int.reduceLE, Int.reduceLT, Int.reduceAdd, Int.reduceSub, Int.reduceNeg, Int.reduceToNat, Int.reduceBEq, retV, resL, resV, sealV, sealC, sealAll, Tryd.f5]
      · have hs3 : v.a.s.size ≤ 300 := by have := of_decide_eq_false hg; omega
        have hl20 : v.l.length ≤ 20 := by have := of_decide_eq_false hc; omega
        clear hg hc
        refine awp_loopw (K7 ws k t v) v.l.length (N7 ws k t 0 _) (weak_keep ⟨rfl, rfl, rfl, rfl, trivial⟩ trivial (Nat.le_refl _)) ⟨0, _, Nat.zero_le _, rfl, by simp, rfl⟩ ?_
        rintro m st ⟨j, T', hj, rfl, hfa, rfl⟩
        by_cases hjl : j < v.l.length
        · have hdj := lt_t hjl
          have hget2 := row_at AtomD.enc v.l j hjl
          have hwj : IntKind.i64.wrap ((j : Int) + 1) = ((j + 1 : Nat) : Int) := wrap_succ (by omega)
          have htj : v.l.take (j + 1) = v.l.take j ++ [v.l[j]] := List.take_succ_eq_append_getElem hjl
          generalize v.l[j] = a at *
          repeat' (first | refine awp_seq ?_ | refine awp_block ?_ | refine awp_round ?_ | refine awp_text rfl ?_ | refine awp_any rfl mix (by kernel_rfl) ?_ | (refine RunTo.unguard rfl rfl (fun hg => ?_) (fun hg => ?_) <;> ((try simp only [Bool.not_true, Bool.not_false, Bool.not_eq_true', Bool.not_eq_false', Bool.not_eq_eq_eq_not] at hg); (first | (cases hg) | (simp only [hg]) | skip))) | ((first | refine RunTo.plain rfl ?_ | refine RunTo.skipped rfl ?_); simp only [go_sem, ↓reduceIte, Nat.reduceEqDiff, Nat.reduceAdd, Nat.reduceLeDiff, Nat.reduceBEq, Nat.reduceMul, reduceCtorEq, Int.reduceLE, Int.reduceLT, Int.reduceAdd, Int.reduceSub, Int.reduceNeg, Int.reduceToNat, Int.reduceBEq, hdec, hget, ValD.enc, hdj, hget2, AtomD.enc, hwj, List.length_map]) | ((first | refine RunTo.nil ⟨by kernel_rfl, ?_⟩ | refine RunTo.nil ?_ | refine awp_skip ?_ | refine awp_exit ?_); simp only [go_sem, ↓reduceIte, Nat.reduceEqDiff, Nat.reduceAdd, Nat.reduceLeDiff, Nat.reduceBEq, Nat.reduceMul, reduceCtorEq, Int.reduceLE, Int.reduceLT, Int.reduceAdd, Int.reduceSub, Int.reduceNeg, Int.reduceToNat, Int.reduceBEq, hdec, hget, ValD.enc, hdj, hget2, AtomD.enc, hwj, List.length_map]) | (refine awp_cond' rfl (of_decide_eq_true rfl) (fun hc => ?_) (fun hc => ?_) <;> ((try simp only [Bool.not_true, Bool.not_false, Bool.not_eq_true', Bool.not_eq_false', Bool.not_eq_eq_eq_not] at hc); (first | (cases hc) | (simp only [hc]) | skip))))
          all_goals
            (try simp only [decide_eq_true_eq, decide_eq_false_iff_not, beq_iff_eq, bne_iff_ne, ne_eq, beq_eq_false_iff_ne, bne_eq_false_iff_eq, Bool.and_eq_true, Bool.or_eq_true, Bool.or_eq_false_iff, Bool.and_eq_false_iff] at *)
            first
            | exact ⟨v.l.length - (j + 1), by omega, N7 ws k t (j + 1) _, weak_keep ⟨rfl, rfl, rfl, rfl, trivial⟩ trivial (Nat.le_refl _), j + 1, _, by omega, rfl, fun x hx => by
                rw [htj] at hx
                rcases List.mem_append.1 hx with h | h
                · exact hfa x h
                · rw [show x = a by simpa using h]; show a.s.size ≤ 300; omega, rfl⟩
            | ((first | refine awp_ret ?_ | skip); refine ⟨(by first | exact .inl rfl | exact .inr rfl | exact .inr trivial | trivial), ?_⟩; simp only [go_sem, ↓reduceIte, Nat.reduceEqDiff, Nat.reduceAdd, Nat.reduceLeDiff, Nat.reduceBEq, Nat.reduceMul, reduceCtorEq, Int.reduceLE, Int.reduceLT, Int.reduceAdd, Int.reduceSub, Int.reduceNeg, Int.reduceToNat, Int.reduceBEq, retV, resL, resV, sealV, sealC, sealAll, Tryd.f5])
        · have hdj := lt_f hjl
          rw [List.take_of_length_le (by omega)] at hfa
          have hfv : fewV v := ⟨hs3, hfa⟩
          have hov := ok_of hiv hfv
          have hp := c_rPrint v (fl_of hiv) hov
          have hpb := printV_big v hov
          have hnew : ∀ x ∈ ws.take (k + 1), fewV x := fun x hx => by
            rw [htk2] at hx
            rcases List.mem_append.1 hx with h | h
            · exact hfew x h
            · simp at h; subst h; exact hfv
          have z1 : (t.size + 3 ≤ 9223372036854775807) = True := eq_true (by omega)
          have z2 : (t.size + 3 + (printV v).size ≤ 9223372036854775807) = True := eq_true (by omega)
          have z3 : (t.size + (printV v).size ≤ 9223372036854775807) = True := eq_true (by omega)
          by_cases hk0 : k = 0
          · subst hk0
            have hwk0 : IntKind.i64.wrap ((0 : Int) + 1) = ((0 + 1 : Nat) : Int) := rfl
            repeat' (first | refine awp_seq ?_ | refine awp_block ?_ | refine awp_round ?_ | refine awp_text rfl ?_ | refine awp_any rfl mix (by kernel_rfl) ?_ | (refine RunTo.unguard rfl rfl (fun hg => ?_) (fun hg => ?_) <;> ((try simp only [Bool.not_true, Bool.not_false, Bool.not_eq_true', Bool.not_eq_false', Bool.not_eq_eq_eq_not] at hg); (first | (cases hg) | (simp only [hg]) | skip))) | ((first | refine RunTo.plain rfl ?_ | refine RunTo.skipped rfl ?_ | refine RunTo.call (hp) Tryd.func13 rfl rfl rfl rfl rfl rfl rfl rfl ?_); simp only [go_sem, ↓reduceIte, Nat.reduceEqDiff, Nat.reduceAdd, Nat.reduceLeDiff, Nat.reduceBEq, Nat.reduceMul, reduceCtorEq, Int.reduceLE, Int.reduceLT, Int.reduceAdd, Int.reduceSub, Int.reduceNeg, Int.reduceToNat, Int.reduceBEq, hdec, hget, ValD.enc, hwk, hwk0, hdj, z3, List.length_map]) | ((first | refine RunTo.nil ⟨by kernel_rfl, ?_⟩ | refine RunTo.nil ?_ | refine awp_skip ?_ | refine awp_exit ?_); simp only [go_sem, ↓reduceIte, Nat.reduceEqDiff, Nat.reduceAdd, Nat.reduceLeDiff, Nat.reduceBEq, Nat.reduceMul, reduceCtorEq, Int.reduceLE, Int.reduceLT, Int.reduceAdd, Int.reduceSub, Int.reduceNeg, Int.reduceToNat, Int.reduceBEq, hdec, hget, ValD.enc, hwk, hwk0, hdj, z3, List.length_map]) | (refine awp_cond' rfl (of_decide_eq_true rfl) (fun hc => ?_) (fun hc => ?_) <;> ((try simp only [Bool.not_true, Bool.not_false, Bool.not_eq_true', Bool.not_eq_false', Bool.not_eq_eq_eq_not] at hc); (first | (cases hc) | (simp only [hc]) | skip))))
            all_goals exact ⟨ws.length - (0 + 1), by omega, M7 ws (0 + 1) (t ++ printV v) _, weak_keep ⟨rfl, rfl, rfl, trivial⟩ trivial (Nat.le_refl _), 0 + 1, _, _, by omega, rfl, hnew, by
              rw [htk, ht]
              apply ByteArray.ext
              simp [joinB, Lib.join_nil, Lib.join_one, ByteArray.data_append], rfl⟩
          · have hd0 : decide ((0 : Int) < (k : Int)) = true := decide_eq_true (by omega)
            repeat' (first | refine awp_seq ?_ | refine awp_block ?_ | refine awp_round ?_ | refine awp_text rfl ?_ | refine awp_any rfl mix (by kernel_rfl) ?_ | (refine RunTo.unguard rfl rfl (fun hg => ?_) (fun hg => ?_) <;> ((try simp only [Bool.not_true, Bool.not_false, Bool.not_eq_true', Bool.not_eq_false', Bool.not_eq_eq_eq_not] at hg); (first | (cases hg) | (simp only [hg]) | skip))) | ((first | refine RunTo.plain rfl ?_ | refine RunTo.skipped rfl ?_ | refine RunTo.call (hp) Tryd.func13 rfl rfl rfl rfl rfl rfl rfl rfl ?_); simp only [go_sem, ↓reduceIte, Nat.reduceEqDiff, Nat.reduceAdd, Nat.reduceLeDiff, Nat.reduceBEq, Nat.reduceMul, reduceCtorEq, Int.reduceLE, Int.reduceLT, Int.reduceAdd, Int.reduceSub, Int.reduceNeg, Int.reduceToNat, Int.reduceBEq, hdec, hget, ValD.enc, hwk, hdj, hd0, z1, z2, ByteArray.size_append, List.size_toArray, List.length_map]) | ((first | refine RunTo.nil ⟨by kernel_rfl, ?_⟩ | refine RunTo.nil ?_ | refine awp_skip ?_ | refine awp_exit ?_); simp only [go_sem, ↓reduceIte, Nat.reduceEqDiff, Nat.reduceAdd, Nat.reduceLeDiff, Nat.reduceBEq, Nat.reduceMul, reduceCtorEq, Int.reduceLE, Int.reduceLT, Int.reduceAdd, Int.reduceSub, Int.reduceNeg, Int.reduceToNat, Int.reduceBEq, hdec, hget, ValD.enc, hwk, hdj, hd0, z1, z2, ByteArray.size_append, List.size_toArray, List.length_map]) | (refine awp_cond' rfl (of_decide_eq_true rfl) (fun hc => ?_) (fun hc => ?_) <;> ((try simp only [Bool.not_true, Bool.not_false, Bool.not_eq_true', Bool.not_eq_false', Bool.not_eq_eq_eq_not] at hc); (first | (cases hc) | (simp only [hc]) | skip))))
            all_goals exact ⟨ws.length - (k + 1), by omega, M7 ws (k + 1) (t ++ barB ++ printV v) _, weak_keep ⟨rfl, rfl, rfl, trivial⟩ trivial (Nat.le_refl _), k + 1, _, _, by omega, rfl, hnew, by
              rw [htk, ht, join_snoc _ _ _ (fun h0 => by have h1 := congrArg List.length h0; rw [List.length_map, List.length_take, List.length_nil] at h1; omega)], rfl⟩
      · (first | refine awp_ret ?_ | skip); refine ⟨(by first | exact .inl rfl | exact .inr rfl | exact .inr trivial | trivial), ?_⟩; simp only [go_sem, ↓reduceIte, Nat.reduceEqDiff, Nat.reduceAdd, Nat.reduceLeDiff, Nat.reduceBEq, Nat.reduceMul, reduceCtorEq, Int.reduceLE, Int.reduceLT, Int.reduceAdd, Int.reduceSub, Int.reduceNeg, Int.reduceToNat, Int.reduceBEq, retV, resL, resV, sealV, sealC, sealAll, Tryd.f5]
    · have hdec := lt_f hlt
      rw [List.take_of_length_le (by omega)] at ht hfew
      have hr := c_Row ws (by omega) (fun v hv => ok_of (hi v hv) (hfew v hv))
      have htr : t = rowV ws := ht
      subst htr
      have hz := pure_le (c_Row [zV] (by simp) (fun v hv => by simp at hv; subst hv; exact zV_ok)) (.cons (.dat zV_le) .nil)
      rw [zV_row] at hz
      repeat' (first | refine awp_seq ?_ | refine awp_block ?_ | refine awp_round ?_ | refine awp_text rfl ?_ | refine awp_any rfl mix (by kernel_rfl) ?_ | (refine RunTo.unguard rfl rfl (fun hg => ?_) (fun hg => ?_) <;> ((try simp only [Bool.not_true, Bool.not_false, Bool.not_eq_true', Bool.not_eq_false', Bool.not_eq_eq_eq_not] at hg); (first | (cases hg) | (simp only [hg]) | skip))) | ((first | refine RunTo.plain rfl ?_ | refine RunTo.skipped rfl ?_ | refine RunTo.call (hr) Tryd.func14 rfl rfl rfl rfl rfl rfl rfl rfl ?_); simp only [go_sem, ↓reduceIte, Nat.reduceEqDiff, Nat.reduceAdd, Nat.reduceLeDiff, Nat.reduceBEq, Nat.reduceMul, reduceCtorEq, Int.reduceLE, Int.reduceLT, Int.reduceAdd, Int.reduceSub, Int.reduceNeg, Int.reduceToNat, Int.reduceBEq, hdec, List.length_map, List.size_toArray]) | (refine RunTo.lentE (hz) Tryd.func14 rfl rfl rfl rfl rfl rfl ?_; simp only [go_sem, ↓reduceIte, Nat.reduceEqDiff, Nat.reduceAdd, Nat.reduceLeDiff, Nat.reduceBEq, Nat.reduceMul, reduceCtorEq, Int.reduceLE, Int.reduceLT, Int.reduceAdd, Int.reduceSub, Int.reduceNeg, Int.reduceToNat, Int.reduceBEq, hdec, List.length_map, List.size_toArray, Option.some.injEq, List.cons.injEq]; (repeat' refine And.intro rfl ?_); with_reducible refine RunTo.this ?_) | ((first | refine RunTo.nil ⟨by kernel_rfl, ?_⟩ | refine RunTo.nil ?_ | refine awp_skip ?_ | refine awp_exit ?_); simp only [go_sem, ↓reduceIte, Nat.reduceEqDiff, Nat.reduceAdd, Nat.reduceLeDiff, Nat.reduceBEq, Nat.reduceMul, reduceCtorEq, Int.reduceLE, Int.reduceLT, Int.reduceAdd, Int.reduceSub, Int.reduceNeg, Int.reduceToNat, Int.reduceBEq, hdec, List.length_map, List.size_toArray]) | (refine awp_cond' rfl (of_decide_eq_true rfl) (fun hc => ?_) (fun hc => ?_) <;> ((try simp only [Bool.not_true, Bool.not_false, Bool.not_eq_true', Bool.not_eq_false', Bool.not_eq_eq_eq_not] at hc); (first | (cases hc) | (simp only [hc]) | skip))))
      all_goals (first | refine awp_ret ?_ | skip); refine ⟨(by first | exact .inl rfl | exact .inr rfl | exact .inr trivial | trivial), ?_⟩; simp only [go_sem, ↓reduceIte, Nat.reduceEqDiff, Nat.reduceAdd, Nat.reduceLeDiff, Nat.reduceBEq, Nat.reduceMul, reduceCtorEq, Int.reduceLE, Int.reduceLT, Int.reduceAdd, Int.reduceSub, Int.reduceNeg, Int.reduceToNat, Int.reduceBEq, retV, resL, resV, sealV, sealC, sealAll, Tryd.f5]
  by_cases hl : 20 < vs.length
  · have hd : decide ((20 : Int) < (vs.length : Int)) = true := decide_eq_true (by omega)
    have hle : (20 ≤ vs.length) = True := eq_true (by omega)
    have hmt : List.take 20 (vs.map ValD.enc) = (vs.take 20).map ValD.enc := List.map_take.symm
    repeat' (first | refine awp_seq ?_ | refine awp_block ?_ | refine awp_round ?_ | refine awp_text rfl ?_ | refine awp_any rfl mix (by kernel_rfl) ?_ | (refine RunTo.unguard rfl rfl (fun hg => ?_) (fun hg => ?_) <;> ((try simp only [Bool.not_true, Bool.not_false, Bool.not_eq_true', Bool.not_eq_false', Bool.not_eq_eq_eq_not] at hg); (first | (cases hg) | (simp only [hg]) | skip))) | ((first | refine RunTo.plain rfl ?_ | refine RunTo.skipped rfl ?_); simp only [go_sem, ↓reduceIte, Nat.reduceEqDiff, Nat.reduceAdd, Nat.reduceLeDiff, Nat.reduceBEq, Nat.reduceMul, reduceCtorEq, Int.reduceLE, Int.reduceLT, Int.reduceAdd, Int.reduceSub, Int.reduceNeg, Int.reduceToNat, Int.reduceBEq, hd, hle, hmt, List.length_map]) | ((first | refine RunTo.nil ⟨by kernel_rfl, ?_⟩ | refine RunTo.nil ?_ | refine awp_skip ?_ | refine awp_exit ?_); simp only [go_sem, ↓reduceIte, Nat.reduceEqDiff, Nat.reduceAdd, Nat.reduceLeDiff, Nat.reduceBEq, Nat.reduceMul, reduceCtorEq, Int.reduceLE, Int.reduceLT, Int.reduceAdd, Int.reduceSub, Int.reduceNeg, Int.reduceToNat, Int.reduceBEq, hd, hle, hmt, List.length_map]) | (refine awp_cond' rfl (of_decide_eq_true rfl) (fun hc => ?_) (fun hc => ?_) <;> ((try simp only [Bool.not_true, Bool.not_false, Bool.not_eq_true', Bool.not_eq_false', Bool.not_eq_eq_eq_not] at hc); (first | (cases hc) | (simp only [hc]) | skip))))
    all_goals exact awp_weak (st' := ⟨[(0, .dat (.lst 5 ((vs.take 20).map ValD.enc)))], [], _⟩) (weak_keep ⟨rfl, trivial⟩ trivial (Nat.le_refl _)) (main _ _ (by simp; omega) (fun v hv => hi v (List.mem_of_mem_take hv)))
  · have hd : decide ((20 : Int) < (vs.length : Int)) = false := decide_eq_false (by omega)
    repeat' (first | refine awp_seq ?_ | refine awp_block ?_ | refine awp_round ?_ | refine awp_text rfl ?_ | refine awp_any rfl mix (by kernel_rfl) ?_ | (refine RunTo.unguard rfl rfl (fun hg => ?_) (fun hg => ?_) <;> ((try simp only [Bool.not_true, Bool.not_false, Bool.not_eq_true', Bool.not_eq_false', Bool.not_eq_eq_eq_not] at hg); (first | (cases hg) | (simp only [hg]) | skip))) | ((first | refine RunTo.plain rfl ?_ | refine RunTo.skipped rfl ?_); simp only [go_sem, ↓reduceIte, Nat.reduceEqDiff, Nat.reduceAdd, Nat.reduceLeDiff, Nat.reduceBEq, Nat.reduceMul, reduceCtorEq, Int.reduceLE, Int.reduceLT, Int.reduceAdd, Int.reduceSub, Int.reduceNeg, Int.reduceToNat, Int.reduceBEq, hd, List.length_map]) | ((first | refine RunTo.nil ⟨by kernel_rfl, ?_⟩ | refine RunTo.nil ?_ | refine awp_skip ?_ | refine awp_exit ?_); simp only [go_sem, ↓reduceIte, Nat.reduceEqDiff, Nat.reduceAdd, Nat.reduceLeDiff, Nat.reduceBEq, Nat.reduceMul, reduceCtorEq, Int.reduceLE, Int.reduceLT, Int.reduceAdd, Int.reduceSub, Int.reduceNeg, Int.reduceToNat, Int.reduceBEq, hd, List.length_map]) | (refine awp_cond' rfl (of_decide_eq_true rfl) (fun hc => ?_) (fun hc => ?_) <;> ((try simp only [Bool.not_true, Bool.not_false, Bool.not_eq_true', Bool.not_eq_false', Bool.not_eq_eq_eq_not] at hc); (first | (cases hc) | (simp only [hc]) | skip))))
    all_goals exact awp_weak (st' := ⟨[(0, .dat (.lst 5 (vs.map ValD.enc)))], [], _⟩) (weak_keep ⟨rfl, trivial⟩ trivial (Nat.le_refl _)) (main _ _ (by omega) hi)
end Go.Proofs.YtfeacmadnbajfaaDoor.AM
