/- Part 6 of the proof: words, contracts, plain laws. Laid by a program of this session (wip/tool/shake.py): what is needed of own and printed texts, in order. -/
import Derived.Test.YtnfapjkffofcaaaZc0
import Derived.Test.YtnfapjkffofcaaaZc1
import Derived.Test.YtnfapjkffofcaaaZc3
import Derived.Test.YtnfapjkffofcaaaZc4
import Derived.Test.YtnfapjkffofcaaaZc5
import Derived.Laws.Bits64
import Derived.Laws.FloatBits
import Derived.Laws.Externs
import Derived.Test.YtnfapjkffofcaaaProg
import Derived.Below
import Derived.Deep.Draws
import Derived.Deep.AppendLies
import Derived.Maps.AppendAt
import Derived.OwnWalk
import Derived.Laws.BytesArg
import Derived.Laws.MakeOwn
import Derived.Laws.OwnMore
import Derived.Deep.OwnRows
import Derived.Tactics
import Derived.Lib.ConvBytes
import Derived.Laws.Slices
import Derived.WalkKit
import Derived.KernelRfl
import Derived.RowKit3
import Derived.Deep.LoopGhost
import Derived.Deep.QuietTactic
import Derived.BigQuiet
import Derived.WideLaws
import Derived.Deep.DeepCutAuto
import Derived.Deep.CutBlock
import Derived.Deep.RegionHeld3
import Derived.Laws.Rows
import Derived.Lib.AppendStr
import Derived.ArgAppend
import Derived.Laws.IdiomCopy
import Derived.OrdersHeld
import Derived.Laws.BitsLemmas
import Derived.RowKit
import Derived.Laws.StructEq
import Derived.Deep.RegionWith
namespace Go.Proofs.Ytnfapjkffofcaaa.G
open Go.RowKit Go.Proofs.YtnfapjkffofcaaaW.PrintWords Go.Proofs.Ytnfapjkffofcaaa.FW Go.Proofs.Ytnfapjkffofcaaa.FL Go.Proofs.Ytnfapjkffofcaaa.EV
set_option linter.unusedVariables false
set_option linter.unusedSimpArgs false
theorem refClass_eq (b : Nat) (hb : b < 18446744073709551616) : PR.cobwebref02_Class.f (b : Int) = some (classN b) := by
  unfold PR.cobwebref02_Class.f classN
  rw [refCanon_eq b hb, Option.bind_some]
  have hI := INF_lit
  have hS := S63_lit
  rcases canon_parts b hb with ⟨h1, h2⟩ | ⟨h1, h2, h3⟩ | ⟨h1, h2, h3, h4, h5⟩ | ⟨h1, h2, h3, h4, h5⟩
  · rw [h2, h1]; rfl
  · rw [h3, h1, h2]; rfl
  · rw [h5, h1, h4, if_neg (by omega)]
    simp only [Bool.false_eq_true, if_false]
    by_cases h6 : rung b = INF
    · rw [if_pos (by omega), if_pos h6]
    · rw [if_neg (by omega), if_neg (by omega), if_neg (by omega), if_neg (by omega), if_neg h6, if_neg (by omega)]
  · rw [h5, h1, h4, if_neg (by omega), if_neg (by omega)]
    simp only [Bool.false_eq_true, if_false, if_true]
    by_cases h6 : rung b = INF
    · rw [if_pos (by omega), if_pos h6]
    · rw [if_neg (by omega), if_neg (by omega), if_pos (by omega), if_neg h6, if_neg (by omega)]
def keyN (b : Nat) : Int := if nan b then 18446744073709551615 else if rung b = 0 then 9223372036854775808 else if neg b then 9223372036854775807 - rung b else 9223372036854775808 + rung b
theorem refKey_eq (b : Nat) (hb : b < 18446744073709551616) : PR.cobwebref02_Key.f (b : Int) = some (keyN b) := by
  unfold PR.cobwebref02_Key.f keyN
  rw [refCanon_eq b hb, Option.bind_some]
  have hI := INF_lit
  have hS := S63_lit
  rcases canon_parts b hb with ⟨h1, h2⟩ | ⟨h1, h2, h3⟩ | ⟨h1, h2, h3, h4, h5⟩ | ⟨h1, h2, h3, h4, h5⟩
  · rw [h2, h1]; rfl
  · rw [h3, h1, h2]; rfl
  · rw [h5, h1, h4, if_neg (by omega), if_neg (by omega), wrap_u64_id (by omega) (by omega)]
    simp only [Bool.false_eq_true, if_false]
    rw [if_neg (by omega)]
    congr 1
    omega
  · rw [h5, h1, h4, if_neg (by omega), if_pos (by omega), wrap_u64_id (by omega) (by omega)]
    simp only [Bool.false_eq_true, if_false, if_true]
    rw [if_neg (by omega)]
    congr 1
    omega
theorem mval_le_iff (r s : Nat) : mval r < mval s ↔ r < s := by
  constructor
  · intro h
    rcases Nat.lt_or_ge r s with h1 | h1
    · exact h1
    · exfalso
      rcases Nat.lt_or_ge s r with h2 | h2
      · have := mval_lt h2; omega
      · rw [show r = s by omega] at h; omega
  · exact mval_lt
theorem key_lt (a b : Nat) : keyN a < keyN b ↔ fkey a < fkey b := by
  have hI := INF_lit
  have h1 := mval_le_iff (rung a) (rung b)
  have h2 := mval_le_iff (rung b) (rung a)
  have h3 := mval_le_iff (rung a) INF
  have h4 := mval_le_iff (rung b) INF
  have h5 := mval_le_iff INF (rung a)
  have h6 := mval_le_iff INF (rung b)
  have h7 := mval_le_iff 0 (rung a)
  have h8 := mval_le_iff 0 (rung b)
  rw [mval_zero] at h7 h8
  have na := nan_iff a
  have nb := nan_iff b
  unfold keyN fkey TOP sv sgn
  cases hna : nan a <;> cases hnb : nan b <;> rw [hna] at na <;> rw [hnb] at nb <;> simp only [Bool.false_eq_true, if_false, if_true, false_iff, true_iff] at na nb ⊢
  · cases neg a <;> cases neg b <;> simp only [Bool.false_eq_true, if_false, if_true] <;> (repeat' split) <;> omega
  · cases neg a <;> simp only [Bool.false_eq_true, if_false, if_true] <;> (repeat' split) <;> omega
  · cases neg b <;> simp only [Bool.false_eq_true, if_false, if_true] <;> (repeat' split) <;> omega
  · omega
theorem refCompare_eq (a b : Nat) (ha : a < 18446744073709551616) (hb : b < 18446744073709551616) : PR.cobwebref02_Compare.f (a : Int) (b : Int) = some (compareN a b) := by
  unfold PR.cobwebref02_Compare.f compareN cmp3
  rw [refKey_eq a ha, refKey_eq b hb, Option.bind_some, Option.bind_some]
  have h1 := key_lt a b
  have h2 := key_lt b a
  (repeat' split) <;> first | rfl | omega
def partsN (b : Nat) : Int × Bool × Bool := if 18446744073709551616 * ONE ≤ mval (rung b) then (0, false, true) else ((fl b : Int), decide (0 < mval (rung b) % ONE), false)
theorem fl_shift (m s : Nat) (x : Nat) (hx : x * 2 ^ s = m * ONE) : x / ONE = m / 2 ^ s ∧ (0 < x % ONE ↔ 0 < m % 2 ^ s) := by
  have ho := one_pos
  have hs := Nat.two_pow_pos s
  have e1 : x / ONE = m / 2 ^ s := by
    rw [← Nat.mul_div_mul_right x ONE hs, hx, Nat.mul_comm ONE, Nat.mul_div_mul_right m (2 ^ s) ho]
  refine ⟨e1, ?_⟩
  have h1 := Nat.div_add_mod x ONE
  have h2 := Nat.div_add_mod m (2 ^ s)
  have h3 : (x % ONE) * 2 ^ s = (m % 2 ^ s) * ONE := by
    have e2 : (ONE * (x / ONE) + x % ONE) * 2 ^ s = (2 ^ s * (m / 2 ^ s) + m % 2 ^ s) * ONE := by rw [h1, h2, hx]
    rw [Nat.add_mul, Nat.add_mul, e1] at e2
    have e3 : ONE * (m / 2 ^ s) * 2 ^ s = 2 ^ s * (m / 2 ^ s) * ONE := by
      rw [Nat.mul_comm ONE, Nat.mul_assoc, Nat.mul_comm ONE, ← Nat.mul_assoc, Nat.mul_comm (m / 2 ^ s)]
    omega
  constructor
  · intro h
    have := Nat.mul_pos h hs
    rw [h3] at this
    exact Nat.pos_iff_ne_zero.2 fun e => by rw [e, Nat.zero_mul] at this; omega
  · intro h
    have := Nat.mul_pos h ho
    rw [← h3] at this
    exact Nat.pos_iff_ne_zero.2 fun e => by rw [e, Nat.zero_mul] at this; omega
theorem min_nat (s : Nat) (h : s ≤ 64) : min ((s : Int)).toNat (IntKind.bits .u64) = s := by
  have : IntKind.bits .u64 = 64 := rfl
  rw [this, Int.toNat_natCast]
  omega
theorem shl_nat (m s : Nat) (h : s ≤ 64) (hb : m * 2 ^ s < 18446744073709551616) : shl .u64 (m : Int) (s : Int) = ((m * 2 ^ s : Nat) : Int) := by
  unfold shl
  rw [min_nat s h]
  have e : (m : Int) * 2 ^ s = ((m * 2 ^ s : Nat) : Int) := by rw [Int.natCast_mul, Int.natCast_pow]; rfl
  rw [e, wrap_u64_id (by omega) (by omega)]
theorem shr_nat (m s : Nat) (h : s ≤ 64) : shr .u64 (m : Int) (s : Int) = ((m / 2 ^ s : Nat) : Int) := by
  unfold shr
  rw [min_nat s h, Int.natCast_ediv, Int.natCast_pow]
  rfl
theorem parts_j0 (m e : Nat) (hm : m < 9007199254740992) (h1 : 1 ≤ e) (h2 : e ≤ 2046) (hbig : 1087 ≤ e → 4503599627370496 ≤ m) (v : Nat) (hv : v = m * 2 ^ (e - 1)) :
    Ev (fun k => PR.cobwebref02_parts.j0 k (m : Int) (e : Int)) (if 18446744073709551616 * ONE ≤ v then (0, false, true) else (((v / ONE : Nat) : Int), decide (0 < v % ONE), false)) := by
  have ho := one_pos
  refine Ev.step (fun _ => rfl) ?_
  simp only [PR.cobwebref02_parts.j0]
  rw [wrap64_id (x := (e : Int) - 1075) (by omega) (by omega)]
  by_cases c1 : (e : Int) - 1075 > 11
  · refine ite_t c1 ?_
    have hm2 := hbig (by omega)
    have : 18446744073709551616 * ONE ≤ v := by
      rw [hv]
      refine Nat.le_trans ?_ (Nat.mul_le_mul hm2 (Nat.pow_le_pow_right (show 0 < 2 by omega) (show 1086 ≤ e - 1 by omega)))
      unfold ONE
      have key := pow_help 64 pl 52 1086 (by rw [pl_eq])
      have e1 : (18446744073709551616 : Nat) = 2 ^ 64 := rfl
      have e2 : (4503599627370496 : Nat) = 2 ^ 52 := rfl
      rw [e1, e2, key]
      exact Nat.le_refl _
    rw [if_pos this]
    exact Ev.now _
  refine ite_f c1 ?_
  have hnb : ¬ 18446744073709551616 * ONE ≤ v := by
    rw [hv]
    have h3 : m * 2 ^ (e - 1) < 9007199254740992 * 2 ^ (e - 1) := Nat.mul_lt_mul_of_pos_right hm (Nat.two_pow_pos _)
    obtain ⟨g, hg⟩ : ∃ g : Nat, g = 1085 := ⟨_, rfl⟩
    have h4 : 9007199254740992 * 2 ^ (e - 1) ≤ 9007199254740992 * 2 ^ g := Nat.mul_le_mul_left _ (Nat.pow_le_pow_right (show 0 < 2 by omega) (show e - 1 ≤ g by omega))
    have key := pow_help 64 pl 53 g (by rw [pl_eq]; omega)
    have e1 : (18446744073709551616 : Nat) = 2 ^ 64 := rfl
    have e2 : (9007199254740992 : Nat) = 2 ^ 53 := rfl
    unfold ONE
    rw [e1, key]
    rw [e2] at h3 h4
    omega
  rw [if_neg hnb]
  by_cases c2 : (e : Int) - 1075 ≥ 0
  · obtain ⟨s, rfl⟩ : ∃ s, e = 1075 + s := ⟨e - 1075, by omega⟩
    have e3 : ((1075 + s : Nat) : Int) - 1075 = (s : Int) := by omega
    rw [e3] at c1 c2 ⊢
    refine ite_t c2 ?_
    rw [wrap_u64_id (n := (s : Int)) (by omega) (by omega)]
    refine ite_t c2 ?_
    have hp : 2 ^ s ≤ 2 ^ 11 := Nat.pow_le_pow_right (by omega) (by omega)
    have hlt : m * 2 ^ s < 18446744073709551616 := by
      have : m * 2 ^ s ≤ m * 2 ^ 11 := Nat.mul_le_mul_left _ hp
      omega
    rw [shl_nat m s (by omega) hlt]
    have e4 : v = m * 2 ^ s * ONE := by
      rw [hv, Nat.mul_assoc]
      unfold ONE
      rw [← Nat.pow_add]
      congr 2
      rw [pl_eq]
      omega
    rw [e4, Nat.mul_div_cancel _ ho, Nat.mul_mod_left]
    exact Ev.now _
  refine ite_f c2 ?_
  obtain ⟨s, hs⟩ : ∃ s, s = 1075 - e := ⟨_, rfl⟩
  have e5 : v * 2 ^ s = m * ONE := by
    rw [hv, Nat.mul_assoc]
    unfold ONE
    rw [← Nat.pow_add]
    congr 2
    rw [pl_eq]
    omega
  obtain ⟨f1, f2⟩ := fl_shift m s v e5
  rw [f1]
  by_cases c3 : (e : Int) - 1075 < -60
  · refine ite_t c3 ?_
    have hp : 2 ^ 61 ≤ 2 ^ s := Nat.pow_le_pow_right (by omega) (by omega)
    have hlt : m < 2 ^ s := by omega
    rw [Nat.mod_eq_of_lt hlt] at f2
    rw [Nat.div_eq_of_lt hlt]
    have : decide ((m : Int) > 0) = decide (0 < v % ONE) := by rw [decide_eq_decide]; omega
    rw [this]
    exact Ev.now _
  refine ite_f c3 ?_
  have e6 : -((e : Int) - 1075) = (s : Int) := by omega
  rw [e6, wrap64_id (x := (s : Int)) (by omega) (by omega), wrap_u64_id (n := (s : Int)) (by omega) (by omega)]
  refine ite_t (by omega) ?_
  have hp60 : 2 ^ s ≤ 2 ^ 60 := Nat.pow_le_pow_right (by omega) (by omega)
  have e7 := shl_nat 1 s (by omega) (by omega)
  rw [Nat.one_mul] at e7
  have e8 : ((1 : Nat) : Int) = 1 := rfl
  rw [e8] at e7
  have hp := Nat.two_pow_pos s
  rw [e7]
  refine ite_f (by omega) ?_
  rw [shr_nat m s (by omega), tmod_nat]
  have : decide (((m % 2 ^ s : Nat) : Int) > 0) = decide (0 < v % ONE) := by rw [decide_eq_decide]; omega
  rw [this]
  exact Ev.now _
theorem refParts_eq (b : Nat) (hb : b < 18446744073709551616) (hr : rung b < INF) : Ev (fun k => PR.cobwebref02_parts.f k (b : Int)) (partsN b) := by
  have hI := INF_lit
  have hS := S63_lit
  have hB := B52_lit
  have em : Int.tmod (b : Int) 4503599627370496 = ((rung b % B52 : Nat) : Int) := by
    rw [show (4503599627370496 : Int) = ((4503599627370496 : Nat) : Int) from rfl, tmod_nat]
    unfold rung
    rw [Nat.mod_mod_of_dvd b (show B52 ∣ S63 by decide)]
    rfl
  have ee : Int.tdiv (Int.tmod (b : Int) 9223372036854775808) 4503599627370496 = ((rung b / B52 : Nat) : Int) := by
    rw [show (9223372036854775808 : Int) = ((9223372036854775808 : Nat) : Int) from rfl, tmod_nat, show (4503599627370496 : Int) = ((4503599627370496 : Nat) : Int) from rfl, tdiv_nat]
    rfl
  have hm := Nat.mod_lt (rung b) (show 0 < B52 by decide)
  have he : rung b / B52 ≤ 2046 := by
    have := Nat.div_lt_of_lt_mul (show rung b < B52 * 2047 by rw [hB]; omega)
    omega
  unfold PR.cobwebref02_parts.f partsN fl
  rw [em, ee]
  obtain ⟨eq, heq⟩ : ∃ eq, eq = rung b / B52 := ⟨_, rfl⟩
  obtain ⟨mq, hmq⟩ : ∃ mq, mq = rung b % B52 := ⟨_, rfl⟩
  rw [← hmq] at hm
  rw [← heq] at he
  rw [← heq, ← hmq, wrap_u64_id (n := ((eq : Nat) : Int)) (by omega) (by omega), wrap64_id (x := ((eq : Nat) : Int)) (by omega) (by omega)]
  by_cases c : eq = 0
  · refine ite_f (by omega) ?_
    have hlt : rung b < B52 := by
      rcases Nat.lt_or_ge (rung b) B52 with h | h
      · exact h
      · have := (Nat.le_div_iff_mul_le (show 0 < B52 by decide)).2 (show 1 * B52 ≤ rung b by omega)
        rw [← heq] at this
        omega
    have := parts_j0 mq 1 (by omega) (by omega) (by omega) (by omega) (mval (rung b)) (by unfold mval; rw [if_pos hlt, hmq, Nat.mod_eq_of_lt hlt]; simp)
    exact this
  · refine ite_t (by omega) ?_
    have hge : ¬ rung b < B52 := fun h => c (heq.trans (Nat.div_eq_of_lt h))
    have e1 : IntKind.u64.wrap (((mq : Nat) : Int) + 4503599627370496) = ((B52 + mq : Nat) : Int) := by
      rw [wrap_u64_id (by omega) (by omega)]
      omega
    rw [e1]
    exact parts_j0 (B52 + mq) eq (by omega) (by omega) he (by omega) (mval (rung b)) (by unfold mval; rw [if_neg hge, hmq, heq])
theorem ikey_inf (n : Int) (h1 : -9223372036854775808 ≤ n) (h2 : n ≤ 9223372036854775807) : -(mval INF : Int) < ikey n ∧ ikey n < mval INF := by
  have h : (9223372036854775808 * ONE : Nat) < mval INF := by
    rw [← mval_twoTo63]
    exact mval_lt (by decide)
  have ho := one_posI
  have h3 : (9223372036854775808 : Int) * ONE < mval INF := by
    have := Int.ofNat_lt.2 h
    rw [Int.natCast_mul] at this
    exact this
  have h4 : n * ONE ≤ 9223372036854775808 * (ONE : Int) := Int.mul_le_mul_of_nonneg_right (by omega) (by omega)
  have h5 : -9223372036854775808 * (ONE : Int) ≤ n * ONE := Int.mul_le_mul_of_nonneg_right (by omega) (by omega)
  unfold ikey
  omega
theorem cmp_neg_big (n : Int) (v : Nat) (h : 0 ≤ n ∧ 0 < v ∨ -n * ONE < v) : cmp3 (ikey n) (-(v : Int)) = 1 := by
  have ho := one_posI
  refine cmp3_gt ?_
  unfold ikey
  rcases h with ⟨h, h2⟩ | h
  · have : 0 ≤ n * ONE := Int.mul_nonneg h (by omega)
    omega
  · rw [Int.neg_mul] at h
    omega
theorem refCompareInt_eq (n : Int) (b : Nat) (hn : -9223372036854775808 ≤ n ∧ n ≤ 9223372036854775807) (hb : b < 18446744073709551616) : Ev (fun k => PR.cobwebref02_CompareInt.f k n (b : Int)) (compareIntN n b) := by
  have hI := INF_lit
  have hS := S63_lit
  have ho := one_posI
  have hk := ikey_bound n hn.1 hn.2
  unfold PR.cobwebref02_CompareInt.f
  rw [refClass_eq b hb]
  refine some_bind ?_
  have j0t : ∀ c : Int, Ev (fun k => PR.cobwebref02_CompareInt.j0 k n (b : Int) c true) (-1) := fun c => by
    refine Ev.step (fun _ => rfl) ?_
    simp only [PR.cobwebref02_CompareInt.j0]
    exact ite_t trivial (Ev.now _)
  have hmI := ikey_inf n hn.1 hn.2
  unfold compareIntN fkey classN
  cases hna : nan b
  · simp only [Bool.false_eq_true, if_false]
    by_cases hri : rung b = INF
    · rw [if_pos hri]
      unfold sv sgn
      cases hne : neg b
      · simp only [Bool.false_eq_true, if_false]
        rw [hri, cmp3_lt (by omega)]
        exact ite_f (by omega) (j0t _)
      · simp only [if_true]
        rw [hri, cmp3_gt (by omega)]
        refine ite_f (by omega) ?_
        refine Ev.step (fun _ => rfl) ?_
        simp only [PR.cobwebref02_CompareInt.j0]
        exact ite_f (by decide) (ite_t trivial (Ev.now _))
    rw [if_neg hri]
    have hr : rung b < INF := by
      have : ¬ INF < rung b := by rw [← nan_iff, hna]; decide
      omega
    obtain ⟨c, hc, c0, c5, c1⟩ : ∃ c : Int, (if rung b = 0 then (3 : Int) else if neg b = true then 2 else 4) = c ∧ c ≠ 0 ∧ c ≠ 5 ∧ c ≠ 1 := by
      refine ⟨_, rfl, ?_⟩
      (repeat' split) <;> omega
    rw [hc]
    refine ite_f c0 ?_
    rw [beq_eq_false_iff_ne.2 c5]
    refine Ev.step (fun _ => rfl) ?_
    simp only [PR.cobwebref02_CompareInt.j0]
    refine ite_f (by decide) (ite_f c1 (Ev.bind (refParts_eq b hb hr) ?_))
    obtain ⟨whole, more, beyond, hp, hw⟩ : ∃ (whole : Nat) (more beyond : Bool), partsN b = ((whole : Int), more, beyond) ∧
        ((beyond = true ∧ 18446744073709551616 * ONE ≤ mval (rung b)) ∨ (beyond = false ∧ whole < 18446744073709551616 ∧ ∃ q : Nat, (mval (rung b) : Int) = (whole : Int) * ONE + q ∧ (q : Int) < ONE ∧ (more = true ↔ 0 < q))) := by
      unfold partsN
      by_cases hbe : 18446744073709551616 * ONE ≤ mval (rung b)
      · rw [if_pos hbe]
        exact ⟨0, false, true, rfl, .inl ⟨rfl, hbe⟩⟩
      · rw [if_neg hbe]
        refine ⟨fl b, _, false, rfl, .inr ⟨rfl, ?_, mval (rung b) % ONE, ?_, ?_, by simp⟩⟩
        · exact Nat.div_lt_of_lt_mul (by rw [Nat.mul_comm]; omega)
        · unfold fl
          rw [← Int.natCast_mul, ← Int.natCast_add, Nat.mul_comm]
          exact congrArg Int.ofNat (Nat.div_add_mod (mval (rung b)) ONE).symm
        · exact Int.ofNat_lt.2 (Nat.mod_lt _ one_pos)
    rw [hp]
    simp only []
    have hneg : (((b : Int) ≥ 9223372036854775808 ∧ (b : Int) ≠ 9223372036854775808) ↔ (neg b = true ∧ 0 < rung b)) := by
      rcases word_cases b hb with ⟨h1, h2, h3⟩ | ⟨h1, h2, h3⟩ <;> rw [h2] <;> simp <;> omega
    have bigI : beyond = true → 18446744073709551616 * (ONE : Int) ≤ mval (rung b) := fun hbt => by
      rcases hw with ⟨_, h⟩ | ⟨h, _⟩
      · have := Int.ofNat_le.2 h
        rw [Int.natCast_mul] at this
        exact this
      · rw [hbt] at h; cases h
    have hnO1 : n * ONE ≤ 9223372036854775807 * (ONE : Int) := Int.mul_le_mul_of_nonneg_right hn.2 (by omega)
    have hnO2 : -9223372036854775808 * (ONE : Int) ≤ n * ONE := Int.mul_le_mul_of_nonneg_right hn.1 (by omega)
    have below : neg b = true → 0 < rung b → Ev (fun k => PR.cobwebref02_CompareInt.j1 k n (whole : Int) more beyond true) (cmp3 (ikey n) (sv b)) := fun h1 h2 => by
      have hv : sv b = -(mval (rung b) : Int) := by unfold sv sgn; rw [h1]; rfl
      have hvp := mval_pos h2
      rw [hv]
      have j2t : cmp3 (ikey n) (-(mval (rung b) : Int)) = 1 → Ev (fun k => PR.cobwebref02_CompareInt.j2 k n (whole : Int) more true) (cmp3 (ikey n) (-(mval (rung b) : Int))) := fun h => by
        rw [h]
        refine Ev.step (fun _ => rfl) ?_
        simp only [PR.cobwebref02_CompareInt.j2]
        exact ite_t trivial (Ev.now _)
      refine Ev.step (fun _ => rfl) ?_
      simp only [PR.cobwebref02_CompareInt.j1]
      refine ite_t trivial ?_
      cases hbe : beyond
      · refine ite_f (by decide) ?_
        by_cases hn0 : n ≥ 0
        · rw [decide_eq_true hn0]
          exact j2t (cmp_neg_big n _ (.inl ⟨hn0, by omega⟩))
        · rw [decide_eq_false hn0]
          rcases hw with ⟨h, _⟩ | ⟨_, hwl, q, hq1, hq2, hq3⟩
          · rw [hbe] at h; cases h
          refine Ev.step (fun _ => rfl) ?_
          simp only [PR.cobwebref02_CompareInt.j2]
          refine ite_f (by decide) ?_
          have e1 : IntKind.u64.wrap ((IntKind.u64.wrap (wrap64 (-(wrap64 (n + 1))))) + 1) = -n := by
            rw [wrap64_id (x := n + 1) (by omega) (by omega), wrap64_id (x := -(n + 1)) (by omega) (by omega), wrap_u64_id (n := -(n + 1)) (by omega) (by omega), wrap_u64_id (n := -(n + 1) + 1) (by omega) (by omega)]
            omega
          rw [e1]
          have e2 : -(mval (rung b) : Int) = -(whole : Int) * ONE - q := by rw [hq1, Int.neg_mul]; omega
          rw [e2]
          by_cases g1 : -n > (whole : Int)
          · have := Int.mul_le_mul_of_nonneg_right (show n ≤ -(whole : Int) - 1 by omega) (Int.le_of_lt ho)
            rw [Int.sub_mul, Int.one_mul] at this
            rw [cmp3_lt (by unfold ikey; omega)]
            exact ite_t g1 (Ev.now _)
          refine ite_f g1 ?_
          by_cases g2 : -n < (whole : Int)
          · have := Int.mul_le_mul_of_nonneg_right (show -(whole : Int) + 1 ≤ n by omega) (Int.le_of_lt ho)
            rw [Int.add_mul, Int.one_mul] at this
            rw [cmp3_gt (by unfold ikey; omega)]
            exact ite_t g2 (Ev.now _)
          refine ite_f g2 ?_
          have hnw : n = -(whole : Int) := by omega
          cases hmo : more
          · have hq0 : q = 0 := by
              rcases Nat.eq_zero_or_pos q with h | h
              · exact h
              · have := hq3.2 h; rw [hmo] at this; cases this
            have : cmp3 (ikey n) (-(whole : Int) * ONE - q) = 0 := by
              unfold ikey
              rw [hnw, hq0]
              unfold cmp3
              rw [if_neg (by omega), if_neg (by omega)]
            rw [this]
            exact ite_f (by decide) (Ev.now _)
          · have := hq3.1 hmo
            rw [cmp3_gt (by unfold ikey; rw [hnw]; omega)]
            exact ite_t rfl (Ev.now _)
      · have := bigI hbe
        exact ite_t rfl (j2t (cmp_neg_big n _ (.inr (by rw [Int.neg_mul]; omega))))
    have above : neg b = false ∨ rung b = 0 → Ev (fun k => PR.cobwebref02_CompareInt.j1 k n (whole : Int) more beyond false) (cmp3 (ikey n) (sv b)) := fun h1 => by
      have hv : sv b = (mval (rung b) : Int) := by
        unfold sv sgn
        rcases h1 with h1 | h1
        · rw [h1]; rfl
        · rw [h1, mval_zero]; split <;> rfl
      rw [hv]
      have j3t : cmp3 (ikey n) (mval (rung b) : Int) = -1 → Ev (fun k => PR.cobwebref02_CompareInt.j3 k n (whole : Int) more true) (cmp3 (ikey n) (mval (rung b) : Int)) := fun h => by
        rw [h]
        refine Ev.step (fun _ => rfl) ?_
        simp only [PR.cobwebref02_CompareInt.j3]
        exact ite_t trivial (Ev.now _)
      refine Ev.step (fun _ => rfl) ?_
      simp only [PR.cobwebref02_CompareInt.j1]
      refine ite_f (by decide) ?_
      cases hbe : beyond
      · refine ite_f (by decide) ?_
        by_cases hn0 : n < 0
        · rw [decide_eq_true hn0]
          have := Int.mul_lt_mul_of_pos_right hn0 ho
          exact j3t (cmp3_lt (by unfold ikey; omega))
        · rw [decide_eq_false hn0]
          rcases hw with ⟨h, _⟩ | ⟨_, hwl, q, hq1, hq2, hq3⟩
          · rw [hbe] at h; cases h
          refine Ev.step (fun _ => rfl) ?_
          simp only [PR.cobwebref02_CompareInt.j3]
          refine ite_f (by decide) ?_
          rw [wrap_u64_id (n := n) (by omega) (by omega), hq1]
          by_cases g1 : n > (whole : Int)
          · have := Int.mul_le_mul_of_nonneg_right (show (whole : Int) + 1 ≤ n by omega) (Int.le_of_lt ho)
            rw [Int.add_mul, Int.one_mul] at this
            rw [cmp3_gt (by unfold ikey; omega)]
            exact ite_t g1 (Ev.now _)
          refine ite_f g1 ?_
          by_cases g2 : n < (whole : Int)
          · have := Int.mul_lt_mul_of_pos_right g2 ho
            rw [cmp3_lt (by unfold ikey; omega)]
            exact ite_t g2 (Ev.now _)
          refine ite_f g2 ?_
          have hnw : n = (whole : Int) := by omega
          cases hmo : more
          · have hq0 : q = 0 := by
              rcases Nat.eq_zero_or_pos q with h | h
              · exact h
              · have := hq3.2 h; rw [hmo] at this; cases this
            have : cmp3 (ikey n) ((whole : Int) * ONE + q) = 0 := by
              unfold ikey
              rw [hnw, hq0]
              unfold cmp3
              rw [if_neg (by omega), if_neg (by omega)]
            rw [this]
            exact ite_f (by decide) (Ev.now _)
          · have := hq3.1 hmo
            rw [cmp3_lt (by unfold ikey; rw [hnw]; omega)]
            exact ite_t rfl (Ev.now _)
      · have := bigI hbe
        exact ite_t rfl (j3t (cmp3_lt (by unfold ikey; omega)))
    by_cases g : (b : Int) ≥ 9223372036854775808
    · refine ite_t g ?_
      by_cases g2 : (b : Int) = 9223372036854775808
      · rw [show ((b : Int) != 9223372036854775808) = false by simp [g2]]
        refine above ?_
        rcases word_cases b hb with ⟨h1, h2, h3⟩ | ⟨h1, h2, h3⟩ <;> omega
      · rw [show ((b : Int) != 9223372036854775808) = true by simp [g2]]
        obtain ⟨h1, h2⟩ := hneg.1 ⟨g, g2⟩
        exact below h1 h2
    · refine ite_f g (above (.inl ?_))
      rcases word_cases b hb with ⟨h1, h2, h3⟩ | ⟨h1, h2, h3⟩
      · exact h2
      · omega
  · simp only [if_true]
    rw [cmp3_lt hk.2]
    exact j0t _
def cobwebref02_Canon.f (a0 : Int) : Option Int := if 0 ≤ a0 ∧ a0 < 18446744073709551616 then some ((canonN a0.toNat : Nat) : Int) else none
theorem cobwebref02_Canon.of {a0 r : Int} (h : cobwebref02_Canon.f a0 = some r) : PR.cobwebref02_Canon.f a0 = some r := by
  unfold cobwebref02_Canon.f at h
  split at h
  · rename_i hb
    obtain ⟨b, rfl⟩ := Int.eq_ofNat_of_zero_le hb.1
    rw [Int.toNat_natCast] at h
    exact (refCanon_eq b (by omega)).trans h
  · cases h
theorem cobwebref02_Canon.calls (a0 : Int) (r : Int) (w : World) (h : cobwebref02_Canon.f a0 = some r) :
    Calls Try.prog 49 #[.int .u64 a0] w fun e w' => e = .returned (.int .u64 r) ∧ Drawn0 w w' := by
  exact PR.cobwebref02_Canon.calls a0 r w (cobwebref02_Canon.of h)
def cobwebref02_Class.f (a0 : Int) : Option Int := if 0 ≤ a0 ∧ a0 < 18446744073709551616 then some (classN a0.toNat) else none
theorem cobwebref02_Class.of {a0 r : Int} (h : cobwebref02_Class.f a0 = some r) : PR.cobwebref02_Class.f a0 = some r := by
  unfold cobwebref02_Class.f at h
  split at h
  · rename_i hb
    obtain ⟨b, rfl⟩ := Int.eq_ofNat_of_zero_le hb.1
    rw [Int.toNat_natCast] at h
    exact (refClass_eq b (by omega)).trans h
  · cases h
theorem cobwebref02_Class.calls (a0 : Int) (r : Int) (w : World) (h : cobwebref02_Class.f a0 = some r) :
    Calls Try.prog 73 #[.int .u64 a0] w fun e w' => e = .returned (.int .i64 r) ∧ Drawn0 w w' := by
  exact PR.cobwebref02_Class.calls a0 r w (cobwebref02_Class.of h)
def cobwebref02_Compare.f (a0 a1 : Int) : Option Int := if (0 ≤ a0 ∧ a0 < 18446744073709551616) ∧ 0 ≤ a1 ∧ a1 < 18446744073709551616 then some (compareN a0.toNat a1.toNat) else none
theorem cobwebref02_Compare.of {a0 a1 r : Int} (h : cobwebref02_Compare.f a0 a1 = some r) : PR.cobwebref02_Compare.f a0 a1 = some r := by
  unfold cobwebref02_Compare.f at h
  split at h
  · rename_i hb
    obtain ⟨b, rfl⟩ := Int.eq_ofNat_of_zero_le hb.1.1
    obtain ⟨c, rfl⟩ := Int.eq_ofNat_of_zero_le hb.2.1
    rw [Int.toNat_natCast, Int.toNat_natCast] at h
    exact (refCompare_eq b c (by omega) (by omega)).trans h
  · cases h
theorem cobwebref02_Compare.calls (a0 : Int) (a1 : Int) (r : Int) (w : World) (h : cobwebref02_Compare.f a0 a1 = some r) :
    Calls Try.prog 75 #[.int .u64 a0, .int .u64 a1] w fun e w' => e = .returned (.int .i64 r) ∧ Drawn0 w w' := by
  exact PR.cobwebref02_Compare.calls a0 a1 r w (cobwebref02_Compare.of h)
def cobwebref02_CompareInt.f (a0 a1 : Int) : Option Int := if (-9223372036854775808 ≤ a0 ∧ a0 ≤ 9223372036854775807) ∧ 0 ≤ a1 ∧ a1 < 18446744073709551616 then some (compareIntN a0 a1.toNat) else none
theorem cobwebref02_CompareInt.of {a0 a1 r : Int} (h : cobwebref02_CompareInt.f a0 a1 = some r) : ∃ k, PR.cobwebref02_CompareInt.f k a0 a1 = some r := by
  unfold cobwebref02_CompareInt.f at h
  split at h
  · rename_i hb
    obtain ⟨b, rfl⟩ := Int.eq_ofNat_of_zero_le hb.2.1
    rw [Int.toNat_natCast] at h
    injection h with h
    rw [← h]
    exact (refCompareInt_eq a0 b hb.1 (by omega)).rounds
  · cases h
theorem cobwebref02_CompareInt.calls (a0 : Int) (a1 : Int) (r : Int) (w : World) (h : cobwebref02_CompareInt.f a0 a1 = some r) :
    Calls Try.prog 74 #[.int .i64 a0, .int .u64 a1] w fun e w' => e = .returned (.int .i64 r) ∧ Drawn0 w w' := by
  obtain ⟨k, hk⟩ := cobwebref02_CompareInt.of h
  exact PR.cobwebref02_CompareInt.calls k a0 a1 r w hk
end Go.Proofs.Ytnfapjkffofcaaa.G
namespace Go.Proofs.Ytnfapjkffofcaaa.G
open Go.RowKit Go.Proofs.YtnfapjkffofcaaaW.PrintWords Go.Proofs.YtnfapjkffofcaaaW.PrintLast Go.Proofs.Ytnfapjkffofcaaa.FW Go.Proofs.Ytnfapjkffofcaaa.FL Go.Proofs.Ytnfapjkffofcaaa.EV Go.Proofs.Ytnfapjkffofcaaa.PK
set_option linter.unusedVariables false
set_option linter.unusedSimpArgs false
abbrev Atom := S26
abbrev Val := S29
def In64 (n : Int) : Prop := -9223372036854775808 ≤ n ∧ n ≤ 9223372036854775807
instance (n : Int) : Decidable (In64 n) := inferInstanceAs (Decidable (_ ∧ _))
def validA (a : Atom) : Bool :=
  if a.f0 = 0 then decide (a.f1 = 0) && decide (a.f2 = 0) && a.f3.toList.isEmpty
  else if a.f0 = 1 then decide (a.f2 = 0) && a.f3.toList.isEmpty && (decide (a.f1 = 0) || decide (a.f1 = 1))
  else if a.f0 = 2 then decide (a.f2 = 0) && a.f3.toList.isEmpty
  else if a.f0 = 3 then decide (a.f1 = 0) && a.f3.toList.isEmpty && decide (canonN a.f2 = a.f2)
  else if a.f0 = 4 ∨ a.f0 = 5 then decide (a.f1 = 0) && decide (a.f2 = 0) && decide (a.f3.size ≤ 256)
  else false
def plainA (a : Atom) : Bool := decide (a.f1 = 0) && decide (a.f2 = 0) && a.f3.toList.isEmpty
def rankN (k : Int) : Int := if k = 3 then 2 else k
def isNum (k : Int) : Bool := decide (k = 2) || decide (k = 3)
def nanA (a : Atom) : Bool := decide (a.f0 = 3) && nan a.f2
def nkey (a : Atom) : Int := if a.f0 = 2 then ikey a.f1 else fkey a.f2
def atomsN (a b : Atom) : Int :=
  if rankN a.f0 ≠ rankN b.f0 then cmp3 (rankN a.f0) (rankN b.f0)
  else if isNum a.f0 = true then orN [cmp3 (nkey a) (nkey b), cmp3 a.f0 b.f0]
  else orN [cmp3 a.f1 b.f1, cmpText a.f3 b.f3]
def alikeN (a b : Atom) : Bool :=
  if nanA a = true ∨ nanA b = true ∨ a.f0 = 0 ∨ b.f0 = 0 then false
  else if isNum a.f0 = true ∧ isNum b.f0 = true then decide (nkey a = nkey b)
  else decide (atomsN a b = 0)
def In64A (a : Atom) : Prop := In64 a.f1
instance (a : Atom) : Decidable (In64A a) := inferInstanceAs (Decidable (In64 _))
theorem nanCases (b : Nat) : classN b = 0 ↔ nan b = true := by
  unfold classN
  cases nan b
  · simp only [Bool.false_eq_true, if_false, iff_false]
    (repeat' split) <;> omega
  · simp
theorem ikey_lt (n m : Int) : ikey n < ikey m ↔ n < m := by
  have ho := one_posI
  unfold ikey
  constructor
  · intro h
    exact Int.lt_of_mul_lt_mul_right h (by omega)
  · intro h
    exact Int.mul_lt_mul_of_pos_right h ho
theorem cmp_ikey (n m : Int) : cmp3 (ikey n) (ikey m) = cmp3 n m := by
  have h1 := ikey_lt n m
  have h2 := ikey_lt m n
  unfold cmp3
  (repeat' split) <;> first | rfl | omega
def sameA (a b : Atom) : Bool := decide (a.f0 = b.f0) && decide (a.f1 = b.f1) && decide (a.f2 = b.f2) && decide (a.f3 = b.f3)
theorem bel_drawn {n : Nat} {w W w' : World} (h : Below n w W) (hd : Drawn0 W w') : Below n w w' := by
  obtain ⟨m, rfl⟩ := hd.out
  exact pw_below_drewN h m
theorem bel1 (w : World) (o : Obj) : Below w.heap.size w (w.alloc o) := below_alloc (Below.refl _ _) _
theorem bel2 (w : World) (o p : Obj) : Below w.heap.size w ((w.alloc o).alloc p) := below_alloc (below_alloc (Below.refl _ _) _) _
abbrev vAtom (k n : Int) (f : Nat) (s : ByteArray) : Value := .agg #[.int .i64 k, .int .i64 n, .float .f64 f, .string s]
def Box (w : World) (g : Nat) (k n : Int) (f : Nat) (s : ByteArray) (t : TypeId) : Prop := w.heap[g]? = some (.cells #[.int .i64 k, .int .i64 n, .float .f64 f, .string s] t (0, 0))
theorem Box.cells {w : World} {g : Nat} {k n : Int} {f : Nat} {s : ByteArray} {t : TypeId} (h : Box w g k n f s t) : w.cell? ⟨g, 0, none⟩ = some (.int .i64 k) ∧ w.cell? ⟨g, 1, none⟩ = some (.int .i64 n) ∧ w.cell? ⟨g, 2, none⟩ = some (.float .f64 f) ∧ w.cell? ⟨g, 3, none⟩ = some (.string s) :=
  ⟨blk_cell h 0, blk_cell h 1, blk_cell h 2, blk_cell h 3⟩
theorem Box.below {w w' : World} {g : Nat} {k n : Int} {f : Nat} {s : ByteArray} {t : TypeId} (h : Box w g k n f s t) (hb : Below w.heap.size w w') : Box w' g k n f s t := blk_below h hb
theorem Box.drawn {w w' : World} {g : Nat} {k n : Int} {f : Nat} {s : ByteArray} {t : TypeId} (h : Box w g k n f s t) (hb : Drawn0 w w') : Box w' g k n f s t := by
  obtain ⟨m, rfl⟩ := hb.out
  exact h
theorem Box.new {w : World} {k n : Int} {f : Nat} {s : ByteArray} {t : TypeId} : Box (w.alloc (.cells #[.int .i64 k, .int .i64 n, .float .f64 f, .string s] t)) w.heap.size k n f s t := blk_new w _
theorem Box.old {w : World} {g : Nat} {k n : Int} {f : Nat} {s : ByteArray} {t : TypeId} (h : Box w g k n f s t) (o : Obj) : Box (w.alloc o) g k n f s t := blk_alloc h o
theorem size_alloc (w : World) (o : Obj) : (w.alloc o).heap.size = w.heap.size + 1 := by simp
theorem Box.two {w : World} {k n : Int} {f : Nat} {s : ByteArray} {t : TypeId} {o : Obj} : Box ((w.alloc o).alloc (.cells #[.int .i64 k, .int .i64 n, .float .f64 f, .string s] t)) (w.heap.size + 1) k n f s t := by
  have h := @Box.new (w.alloc o) k n f s t
  rwa [size_alloc] at h
theorem h_bits (k n : Int) (f : Nat) (s : ByteArray) (w : World) : Calls Try.prog 66 #[vAtom k n f s] w fun e w' => e = .returned (.int .u64 f) ∧ Below w.heap.size w w' := by
  have hx50 := call50
  go_enter Try.func66, Try.ntmps66
  go_wp2
  go_ret
  exact ⟨rfl, bel1 _ _⟩
theorem h_number (k n : Int) (f : Nat) (s : ByteArray) (w : World) : Calls Try.prog 39 #[vAtom k n f s] w fun e w' => e = .returned (.bool (isNum k)) ∧ Below w.heap.size w w' := by
  have e : isNum k = (k == 2 || k == 3) := by unfold isNum; rw [Bool.eq_iff_iff]; simp
  rw [e]
  clear e
  go_enter Try.func39, Try.ntmps39
  cases h : (k == 2)
  all_goals
    go_wp2
    go_ret
    exact ⟨rfl, bel1 _ _⟩
theorem h_rank (k n : Int) (f : Nat) (s : ByteArray) (w : World) : Calls Try.prog 37 #[vAtom k n f s] w fun e w' => e = .returned (.int .i64 (rankN k)) ∧ Below w.heap.size w w' := by
  go_enter Try.func37, Try.ntmps37
  go_wp2
  all_goals go_ret
  all_goals exact ⟨by simp_all [rankN], bel1 _ _⟩
set_option maxHeartbeats 8000000 in
theorem h_is (k n : Int) (f : Nat) (s : ByteArray) (x y z : Bool) (w : World) : Calls Try.prog 52 #[vAtom k n f s, .bool x, .bool y, .bool z] w fun e w' => e = .returned (.bool ((x || decide (n = 0)) && (y || decide (f = 0)) && (z || s.toList.isEmpty))) ∧ Below w.heap.size w w' := by
  have e1 : decide (n = 0) = (n == 0) := by rw [Bool.eq_iff_iff, decide_eq_true_eq, beq_iff_eq]
  have e2 : decide (f = 0) = ((f : Int) == 0) := by rw [Bool.eq_iff_iff, decide_eq_true_eq, beq_iff_eq]; omega
  rw [e1, e2]
  clear e1 e2
  go_enter Try.func52, Try.ntmps52
  cases hn : (n == 0) <;> cases hf : ((f : Int) == 0) <;> cases hs : s.toList.isEmpty <;> cases x <;> cases y <;> cases z
  all_goals
    go_wp2_with (go_at_call 66; refine (h_bits k n f s _).mono ?_; rintro e w' ⟨rfl, hb⟩; obtain ⟨c0, c1, c2, c3⟩ := (Box.below Box.new hb).cells)
    go_ret
    first
      | exact ⟨rfl, bel1 _ _⟩
      | exact ⟨rfl, below_step (bel1 _ _) hb⟩
theorem c_cmp (a b : Int) (w : World) : Calls Try.prog 33 #[.int .i64 a, .int .i64 b] w fun e w' => e = .returned (.int .i64 (cmp3 a b)) ∧ Drawn0 w w' := cmp_Compare_int.calls a b _ w rfl
theorem c_cmpS (a b : ByteArray) (w : World) : Calls Try.prog 54 #[.string a, .string b] w fun e w' => e = .returned (.int .i64 (cmpText a b)) ∧ Drawn0 w w' := cmp_Compare_string.calls a b _ w rfl
theorem c_cmpI (a : Int) (b : Nat) (w : World) (h : In64 a) : Calls Try.prog 57 #[.int .i64 a, .float .f64 b] w fun e w' => e = .returned (.int .i64 (compareIntN a b)) ∧ Drawn0 w w' := floats_CompareInt.calls a b _ w (if_pos h)
theorem c_cmpF (a b : Nat) (w : World) : Calls Try.prog 58 #[.float .f64 a, .float .f64 b] w fun e w' => e = .returned (.int .i64 (compareN a b)) ∧ Drawn0 w w' := floats_Compare.calls a b _ w rfl
theorem c_class (a : Nat) (w : World) : Calls Try.prog 19 #[.float .f64 a] w fun e w' => e = .returned (.int .i64 (classN a)) ∧ Drawn0 w w' := floats_Class.calls a _ w rfl
theorem c_canon (a : Nat) (w : World) : Calls Try.prog 34 #[.float .f64 a] w fun e w' => e = .returned (.float .f64 (canonN a)) ∧ Drawn0 w w' := floats_Canon.calls a _ w rfl
theorem h_nan (k n : Int) (f : Nat) (s : ByteArray) (w : World) : Calls Try.prog 38 #[vAtom k n f s] w fun e w' => e = .returned (.bool (nanA ⟨k, n, f, s⟩)) ∧ Below w.heap.size w w' := by
  go_enter Try.func38, Try.ntmps38
  by_cases hk : k = 3
  · subst hk
    go_wp2_with (go_at_call 19; refine (c_class _ _).mono ?_; rintro e w' ⟨rfl, hd⟩)
    go_ret
    refine ⟨?_, bel_drawn (bel1 _ _) hd⟩
    have e : nanA ⟨3, n, f, s⟩ = decide (classN f = 0) := by
      unfold nanA
      rw [Bool.eq_iff_iff, decide_eq_true_eq, nanCases]
      simp
    rw [e]
    rfl
  · have hk' : decide (k = 3) = false := decide_eq_false hk
    have hk2 : (k == 3) = false := beq_eq_false_iff_ne.2 hk
    go_wp2
    go_ret
    refine ⟨?_, bel1 _ _⟩
    unfold nanA
    rw [decide_eq_false hk]
    rfl
theorem h_exactly (k n : Int) (f : Nat) (s : ByteArray) (l m : Int) (g : Nat) (t : ByteArray) (hn : In64 n) (hm : In64 m) (w : World) :
    Calls Try.prog 41 #[vAtom k n f s, vAtom l m g t] w fun e w' => e = .returned (.int .i64 (cmp3 (nkey ⟨k, n, f, s⟩) (nkey ⟨l, m, g, t⟩))) ∧ Below w.heap.size w w' := by
  go_enter Try.func41, Try.ntmps41
  by_cases hk : k = 2 <;> by_cases hl : l = 2
  · subst hk hl
    go_wp2_with (go_at_call 33; refine (c_cmp _ _ _).mono ?_; rintro e w' ⟨rfl, hd⟩)
    go_ret
    exact ⟨by unfold nkey; rw [if_pos rfl, if_pos rfl, cmp_ikey]; rfl, bel_drawn (bel2 _ _ _) hd⟩
  · subst hk
    have hl' : decide (l = 2) = false := decide_eq_false hl
    go_wp2_with (go_at_call 57; refine (c_cmpI _ _ _ hn).mono ?_; rintro e w' ⟨rfl, hd⟩)
    go_ret
    exact ⟨by unfold nkey; rw [if_pos rfl, if_neg hl]; rfl, bel_drawn (bel2 _ _ _) hd⟩
  · subst hl
    have hk' : decide (k = 2) = false := decide_eq_false hk
    go_wp2_with (go_at_call 57; refine (c_cmpI _ _ _ hm).mono ?_; rintro e w' ⟨rfl, hd⟩)
    go_ret
    refine ⟨?_, bel_drawn (bel2 _ _ _) hd⟩
    have e : wrap64 (-compareIntN m f) = cmp3 (nkey ⟨k, n, f, s⟩) (nkey ⟨2, m, g, t⟩) := by
      unfold nkey compareIntN
      rw [if_neg hk, if_pos rfl, wrap_neg (by rcases cmp3_cases (ikey m) (fkey f) with ⟨h, _⟩ | ⟨h, _⟩ | ⟨h, _⟩ <;> rw [h] <;> simp), cmp3_neg]
    rw [← e]
    rfl
  · have hk' : decide (k = 2) = false := decide_eq_false hk
    have hl' : decide (l = 2) = false := decide_eq_false hl
    go_wp2_with (go_at_call 58; refine (c_cmpF _ _ _).mono ?_; rintro e w' ⟨rfl, hd⟩)
    go_ret
    exact ⟨by unfold nkey; rw [if_neg hk, if_neg hl]; rfl, bel_drawn (bel2 _ _ _) hd⟩
end Go.Proofs.Ytnfapjkffofcaaa.G
namespace Go.Proofs.Ytnfapjkffofcaaa.G
open Go.RowKit Go.Proofs.YtnfapjkffofcaaaW.PrintWords Go.Proofs.YtnfapjkffofcaaaW.PrintLast Go.Proofs.Ytnfapjkffofcaaa.FW Go.Proofs.Ytnfapjkffofcaaa.FL Go.Proofs.Ytnfapjkffofcaaa.EV Go.Proofs.Ytnfapjkffofcaaa.PK
set_option linter.unusedVariables false
set_option linter.unusedSimpArgs false
structure SB (W : World) (p : Nat) (k n : Int) (f : Nat) (s : ByteArray) (q : Nat) (l m : Int) (g : Nat) (t : ByteArray) (ty : TypeId) (w : World) : Prop where
  bel : Below W.heap.size W w
  b1 : Box w p k n f s ty
  b2 : Box w q l m g t ty
section
variable {W : World} {p : Nat} {k n : Int} {f : Nat} {s : ByteArray} {q : Nat} {l m : Int} {g : Nat} {t : ByteArray} {ty : TypeId} {w w' : World}
theorem SB.step (h : SB W p k n f s q l m g t ty w) (hb : Below w.heap.size w w') : SB W p k n f s q l m g t ty w' := ⟨below_step h.1 hb, h.2.below hb, h.3.below hb⟩
theorem SB.drew (h : SB W p k n f s q l m g t ty w) : SB W p k n f s q l m g t ty w.drew := h.step (Below.refl _ _).drew
theorem SB.alloc (h : SB W p k n f s q l m g t ty w) (o : Obj) : SB W p k n f s q l m g t ty (w.alloc o) := h.step (bel1 _ _)
theorem SB.drawn (h : SB W p k n f s q l m g t ty w) (hd : Drawn0 w w') : SB W p k n f s q l m g t ty w' := h.step (bel_drawn (Below.refl _ _) hd)
abbrev SA (W : World) (p : Nat) (k n : Int) (f : Nat) (s : ByteArray) (q : Nat) (l m : Int) (g : Nat) (t : ByteArray) (ty : TypeId) (w' : World) : Prop :=
  w'.cell? ⟨p, 0, none⟩ = some (.int .i64 k) ∧ w'.cell? ⟨p, 1, none⟩ = some (.int .i64 n) ∧ w'.cell? ⟨p, 2, none⟩ = some (.float .f64 f) ∧ w'.cell? ⟨p, 3, none⟩ = some (.string s) ∧
      w'.cell? ⟨q, 0, none⟩ = some (.int .i64 l) ∧ w'.cell? ⟨q, 1, none⟩ = some (.int .i64 m) ∧ w'.cell? ⟨q, 2, none⟩ = some (.float .f64 g) ∧ w'.cell? ⟨q, 3, none⟩ = some (.string t) ∧ SB W p k n f s q l m g t ty w'
theorem SB.all (h : SB W p k n f s q l m g t ty w) : SA W p k n f s q l m g t ty w := by
  obtain ⟨a0, a1, a2, a3⟩ := h.b1.cells
  obtain ⟨b0, b1, b2, b3⟩ := h.b2.cells
  exact ⟨a0, a1, a2, a3, b0, b1, b2, b3, h⟩
theorem SB.two {w : World} {ty : TypeId} {k n : Int} {f : Nat} {s : ByteArray} {l m : Int} {g : Nat} {t : ByteArray} : SB w w.heap.size k n f s (w.heap.size + 1) l m g t ty ((w.alloc (.cells #[.int .i64 k, .int .i64 n, .float .f64 f, .string s] ty)).alloc (.cells #[.int .i64 l, .int .i64 m, .float .f64 g, .string t] ty)) := ⟨bel2 _ _ _, Box.old Box.new _, Box.two⟩
end
theorem C_two {w : World} {b : Nat} {x y : Int} (h0 : w.cell? ⟨b, 0, none⟩ = some (.int .i64 x)) (h1 : w.cell? ⟨b, 1, none⟩ = some (.int .i64 y)) : Kd.C (Kd.int .i64) w (some ⟨b, 0, none⟩) 2 [x, y] := by
  refine ⟨rfl, by omega, fun _ => ⟨_, rfl, fun j p hp => ?_⟩⟩
  match j, hp with
  | 0, hp =>
    obtain rfl := Option.some.inj hp
    exact ⟨[.int .i64 x], rfl, rfl, fun q u hu => by
      match q, hu with
      | 0, hu => obtain rfl := Option.some.inj hu; exact h0⟩
  | 1, hp =>
    obtain rfl := Option.some.inj hp
    exact ⟨[.int .i64 y], rfl, rfl, fun q u hu => by
      match q, hu with
      | 0, hu => obtain rfl := Option.some.inj hu; exact h1⟩
theorem c_or2 (b c : Nat) (x y : Int) (w : World) (hc : 2 ≤ c) (h0 : w.cell? ⟨b, 0, none⟩ = some (.int .i64 x)) (h1 : w.cell? ⟨b, 1, none⟩ = some (.int .i64 y)) : Calls Try.prog 53 #[.slice (some ⟨b, 0, none⟩) 2 c] w fun e w' => e = .returned (.int .i64 (orN [x, y])) ∧ Drawn0 w w' :=
  cmp_Or_int.calls _ c [x, y] _ w (C_two h0 h1) hc rfl
theorem c_or2n (x y : Int) (w : World) : Calls Try.prog 53 #[.slice (some ⟨w.heap.size, 0, none⟩) 2 2] (w.alloc (.cells #[.int .i64 x, .int .i64 y] 3)) fun e w' => e = .returned (.int .i64 (orN [x, y])) ∧ Drawn0 (w.alloc (.cells #[.int .i64 x, .int .i64 y] 3)) w' :=
  c_or2 _ 2 x y _ (Nat.le_refl _) (by simp) (by simp)
theorem h_atoms (k n : Int) (f : Nat) (s : ByteArray) (l m : Int) (g : Nat) (t : ByteArray) (hn : In64 n) (hm : In64 m) (w : World) :
    Calls Try.prog 32 #[vAtom k n f s, vAtom l m g t] w fun e w' => e = .returned (.int .i64 (atomsN ⟨k, n, f, s⟩ ⟨l, m, g, t⟩)) ∧ Below w.heap.size w w' := by
  have ex : atomsN ⟨k, n, f, s⟩ ⟨l, m, g, t⟩ = if (rankN k != rankN l) = true then cmp3 (rankN k) (rankN l) else if isNum k = true then orN [cmp3 (nkey ⟨k, n, f, s⟩) (nkey ⟨l, m, g, t⟩), cmp3 k l] else orN [cmp3 n m, cmpText s t] := by
    unfold atomsN
    by_cases h : rankN k = rankN l
    · rw [if_neg (show ¬ (rankN k ≠ rankN l) by simpa using h), if_neg (show ¬ ((rankN k != rankN l) = true) by simp [h])]
    · rw [if_pos (show rankN k ≠ rankN l from h), if_pos (show (rankN k != rankN l) = true by simpa using h)]
  rw [ex]
  clear ex
  have HX := Aside0.mk (h_exactly k n f s l m g t hn hm)
  clear hn hm
  go_enter Try.func32, Try.ntmps32
  go_wp2_with fail
  have HS : SB w w.heap.size k n f s (w.heap.size + 1) l m g t 78 ((w.alloc (.cells #[.int .i64 k, .int .i64 n, .float .f64 f, .string s] 78)).alloc (.cells #[.int .i64 l, .int .i64 m, .float .f64 g, .string t] 78)) := SB.two
  generalize (w.alloc (.cells #[.int .i64 k, .int .i64 n, .float .f64 f, .string s] 78)).alloc (.cells #[.int .i64 l, .int .i64 m, .float .f64 g, .string t] 78) = W at HS ⊢
  cases hr : (rankN k != rankN l)
  all_goals
    try simp only [Bool.false_eq_true, if_false, if_true]
    go_region_held3 (fun w' => SA w w.heap.size k n f s (w.heap.size + 1) l m g t 78 w')
      (first | (with_reducible exact SB.all HS) | (with_reducible exact SB.all HS.drew) | (with_reducible exact SB.all (HS.alloc _)))
      ((first | (go_at_call 37; ((with_reducible refine (h_rank k n f s _).mono ?_)); rintro e w' ⟨rfl, hb⟩; first | (with_reducible replace HS := SB.step HS hb) | (with_reducible replace HS := SB.step HS.drew hb) | (with_reducible replace HS := SB.step (HS.alloc _) hb)) | (go_at_call 37; ((with_reducible refine (h_rank l m g t _).mono ?_)); rintro e w' ⟨rfl, hb⟩; first | (with_reducible replace HS := SB.step HS hb) | (with_reducible replace HS := SB.step HS.drew hb) | (with_reducible replace HS := SB.step (HS.alloc _) hb))))
  · cases hm : isNum k
    all_goals
      try simp only [Bool.false_eq_true, if_false, if_true]
      go_wp2_with (go_at_call 39; ((with_reducible refine (h_number k n f s _).mono ?_)); rintro e w' ⟨rfl, hb⟩; replace HS := SB.step HS hb; obtain ⟨q0, q1, q2, q3, p0, p1, p2, p3, _⟩ := SB.all HS)
    · go_region_held3 (fun w' => SA w w.heap.size k n f s (w.heap.size + 1) l m g t 78 w')
        (first | (with_reducible exact SB.all HS) | (with_reducible exact SB.all HS.drew) | (with_reducible exact SB.all (HS.alloc _)))
        ((first | (go_at_call 33; ((with_reducible refine (c_cmp _ _ _).mono ?_)); rintro e w' ⟨rfl, hd⟩; first | (with_reducible replace HS := SB.drawn HS hd) | (with_reducible replace HS := SB.drawn HS.drew hd) | (with_reducible replace HS := SB.drawn (HS.alloc _) hd)) | (go_at_call 54; ((with_reducible refine (c_cmpS _ _ _).mono ?_)); rintro e w' ⟨rfl, hd⟩; first | (with_reducible replace HS := SB.drawn HS hd) | (with_reducible replace HS := SB.drawn HS.drew hd) | (with_reducible replace HS := SB.drawn (HS.alloc _) hd)) | (go_at_call 53; ((with_reducible refine (c_or2n _ _ _).mono ?_)); rintro e w' ⟨rfl, hd⟩; first | (with_reducible replace HS := SB.drawn HS hd) | (with_reducible replace HS := SB.drawn HS.drew hd) | (with_reducible replace HS := SB.drawn (HS.alloc _) hd))))
      go_wp2
      go_ret
      exact ⟨rfl, HS.bel⟩
    · go_region_held3 (fun w' => SA w w.heap.size k n f s (w.heap.size + 1) l m g t 78 w')
        (first | (with_reducible exact SB.all HS) | (with_reducible exact SB.all HS.drew) | (with_reducible exact SB.all (HS.alloc _)))
        ((first | (go_at_call 41; ((with_reducible refine (HX.out _).mono ?_)); rintro e w' ⟨rfl, hb⟩; first | (with_reducible replace HS := SB.step HS hb) | (with_reducible replace HS := SB.step HS.drew hb) | (with_reducible replace HS := SB.step (HS.alloc _) hb)) | (go_at_call 33; ((with_reducible refine (c_cmp _ _ _).mono ?_)); rintro e w' ⟨rfl, hd⟩; first | (with_reducible replace HS := SB.drawn HS hd) | (with_reducible replace HS := SB.drawn HS.drew hd) | (with_reducible replace HS := SB.drawn (HS.alloc _) hd)) | (go_at_call 53; ((with_reducible refine (c_or2n _ _ _).mono ?_)); rintro e w' ⟨rfl, hd⟩; first | (with_reducible replace HS := SB.drawn HS hd) | (with_reducible replace HS := SB.drawn HS.drew hd) | (with_reducible replace HS := SB.drawn (HS.alloc _) hd))))
      go_wp2
      go_ret
      exact ⟨rfl, HS.bel⟩
  · go_wp2_with fail
    go_region_held3 (fun w' => SA w w.heap.size k n f s (w.heap.size + 1) l m g t 78 w')
      (first | (with_reducible exact SB.all HS) | (with_reducible exact SB.all HS.drew) | (with_reducible exact SB.all (HS.alloc _)))
      ((first | (go_at_call 37; ((with_reducible refine (h_rank k n f s _).mono ?_)); rintro e w' ⟨rfl, hb⟩; first | (with_reducible replace HS := SB.step HS hb) | (with_reducible replace HS := SB.step HS.drew hb) | (with_reducible replace HS := SB.step (HS.alloc _) hb)) | (go_at_call 37; ((with_reducible refine (h_rank l m g t _).mono ?_)); rintro e w' ⟨rfl, hb⟩; first | (with_reducible replace HS := SB.step HS hb) | (with_reducible replace HS := SB.step HS.drew hb) | (with_reducible replace HS := SB.step (HS.alloc _) hb)) | (go_at_call 33; ((with_reducible refine (c_cmp _ _ _).mono ?_)); rintro e w' ⟨rfl, hd⟩; first | (with_reducible replace HS := SB.drawn HS hd) | (with_reducible replace HS := SB.drawn HS.drew hd) | (with_reducible replace HS := SB.drawn (HS.alloc _) hd))))
    go_wp2
    go_ret
    exact ⟨rfl, HS.bel⟩
theorem h_valid0 (n : Int) (f : Nat) (s : ByteArray) (w : World) : Calls Try.prog 51 #[vAtom 0 n f s] w fun e w' => e = .returned (.bool (validA ⟨0, n, f, s⟩)) ∧ Below w.heap.size w w' := by
  rw [show validA ⟨0, n, f, s⟩ = (decide (n = 0) && decide (f = 0) && s.toList.isEmpty) from rfl]
  have c := fun W => h_is 0 n f s false false false W
  simp only [Bool.true_or, Bool.true_and, Bool.and_true, Bool.false_or] at c
  go_enter Try.func51, Try.ntmps51
  go_wp2_with (go_at_call 52; ((with_reducible refine (c _).mono ?_)); rintro e w' ⟨rfl, hb⟩; obtain ⟨c0, c1, c2, c3⟩ := (Box.below Box.new hb).cells)
  go_ret
  exact ⟨rfl, below_step (bel1 _ _) hb⟩
theorem h_valid1 (n : Int) (f : Nat) (s : ByteArray) (w : World) : Calls Try.prog 51 #[vAtom 1 n f s] w fun e w' => e = .returned (.bool (validA ⟨1, n, f, s⟩)) ∧ Below w.heap.size w w' := by
  rw [show validA ⟨1, n, f, s⟩ = ((decide (f = 0) && s.toList.isEmpty) && (n == 0 || n == 1)) from rfl]
  have c := fun W => h_is 1 n f s true false false W
  simp only [Bool.true_or, Bool.true_and, Bool.and_true, Bool.false_or] at c
  go_enter Try.func51, Try.ntmps51
  cases hv : (decide (f = 0) && s.toList.isEmpty) <;> cases h0 : (n == 0) <;> rw [hv] at c
  all_goals
    go_wp2_with (go_at_call 52; ((with_reducible refine (c _).mono ?_)); rintro e w' ⟨rfl, hb⟩; obtain ⟨c0, c1, c2, c3⟩ := (Box.below Box.new hb).cells)
    go_ret
    exact ⟨rfl, below_step (bel1 _ _) hb⟩
theorem h_valid2 (n : Int) (f : Nat) (s : ByteArray) (w : World) : Calls Try.prog 51 #[vAtom 2 n f s] w fun e w' => e = .returned (.bool (validA ⟨2, n, f, s⟩)) ∧ Below w.heap.size w w' := by
  rw [show validA ⟨2, n, f, s⟩ = (decide (f = 0) && s.toList.isEmpty) from rfl]
  have c := fun W => h_is 2 n f s true false false W
  simp only [Bool.true_or, Bool.true_and, Bool.and_true, Bool.false_or] at c
  go_enter Try.func51, Try.ntmps51
  go_wp2_with (go_at_call 52; ((with_reducible refine (c _).mono ?_)); rintro e w' ⟨rfl, hb⟩; obtain ⟨c0, c1, c2, c3⟩ := (Box.below Box.new hb).cells)
  go_ret
  exact ⟨rfl, below_step (bel1 _ _) hb⟩
theorem h_valid4 (n : Int) (f : Nat) (s : ByteArray) (w : World) : Calls Try.prog 51 #[vAtom 4 n f s] w fun e w' => e = .returned (.bool (validA ⟨4, n, f, s⟩)) ∧ Below w.heap.size w w' := by
  have e : decide (s.size ≤ 256) = decide ((s.size : Int) ≤ 256) := by rw [Bool.eq_iff_iff, decide_eq_true_eq, decide_eq_true_eq]; omega
  rw [show validA ⟨4, n, f, s⟩ = ((decide (n = 0) && decide (f = 0)) && decide (s.size ≤ 256)) from rfl, e]
  clear e
  have c := fun W => h_is 4 n f s false false true W
  simp only [Bool.true_or, Bool.true_and, Bool.and_true, Bool.false_or] at c
  go_enter Try.func51, Try.ntmps51
  cases hv : (decide (n = 0) && decide (f = 0)) <;> cases h0 : decide ((s.size : Int) ≤ 256) <;> rw [hv] at c
  all_goals
    go_wp2_with (go_at_call 52; ((with_reducible refine (c _).mono ?_)); rintro e w' ⟨rfl, hb⟩; obtain ⟨c0, c1, c2, c3⟩ := (Box.below Box.new hb).cells)
    go_ret
    exact ⟨rfl, below_step (bel1 _ _) hb⟩
theorem h_valid5 (n : Int) (f : Nat) (s : ByteArray) (w : World) : Calls Try.prog 51 #[vAtom 5 n f s] w fun e w' => e = .returned (.bool (validA ⟨5, n, f, s⟩)) ∧ Below w.heap.size w w' := by
  have e : decide (s.size ≤ 256) = decide ((s.size : Int) ≤ 256) := by rw [Bool.eq_iff_iff, decide_eq_true_eq, decide_eq_true_eq]; omega
  rw [show validA ⟨5, n, f, s⟩ = ((decide (n = 0) && decide (f = 0)) && decide (s.size ≤ 256)) from rfl, e]
  clear e
  have c := fun W => h_is 5 n f s false false true W
  simp only [Bool.true_or, Bool.true_and, Bool.and_true, Bool.false_or] at c
  go_enter Try.func51, Try.ntmps51
  cases hv : (decide (n = 0) && decide (f = 0)) <;> cases h0 : decide ((s.size : Int) ≤ 256) <;> rw [hv] at c
  all_goals
    go_wp2_with (go_at_call 52; ((with_reducible refine (c _).mono ?_)); rintro e w' ⟨rfl, hb⟩; obtain ⟨c0, c1, c2, c3⟩ := (Box.below Box.new hb).cells)
    go_ret
    exact ⟨rfl, below_step (bel1 _ _) hb⟩
theorem h_valid9 (k : Int) (h0 : k ≠ 0) (h1 : k ≠ 1) (h2 : k ≠ 2) (h3 : k ≠ 3) (h4 : k ≠ 4) (h5 : k ≠ 5) (n : Int) (f : Nat) (s : ByteArray) (w : World) : Calls Try.prog 51 #[vAtom k n f s] w fun e w' => e = .returned (.bool (validA ⟨k, n, f, s⟩)) ∧ Below w.heap.size w w' := by
  rw [show validA ⟨k, n, f, s⟩ = false by unfold validA; simp only []; rw [if_neg h0, if_neg h1, if_neg h2, if_neg h3, if_neg (by omega)]]
  have g0 := beq_eq_false_iff_ne.2 h0
  have g1 := beq_eq_false_iff_ne.2 h1
  have g2 := beq_eq_false_iff_ne.2 h2
  have g3 := beq_eq_false_iff_ne.2 h3
  have g4 := beq_eq_false_iff_ne.2 h4
  have g5 := beq_eq_false_iff_ne.2 h5
  go_enter Try.func51, Try.ntmps51
  go_wp2
  go_ret
  exact ⟨rfl, bel1 _ _⟩
set_option maxHeartbeats 8000000 in
theorem h_valid3 (n : Int) (f : Nat) (s : ByteArray) (w : World) : Calls Try.prog 51 #[vAtom 3 n f s] w fun e w' => e = .returned (.bool (validA ⟨3, n, f, s⟩)) ∧ Below w.heap.size w w' := by
  rw [show validA ⟨3, n, f, s⟩ = ((decide (n = 0) && s.toList.isEmpty) && decide (canonN f = f)) from rfl]
  have e : decide (canonN f = f) = ((f : Int) == ((canonN f : Nat) : Int)) := by
    rw [Bool.eq_iff_iff, beq_iff_eq, decide_eq_true_eq, Int.natCast_inj]
    exact eq_comm
  rw [e]
  clear e
  have c := fun W => h_is 3 n f s false true false W
  simp only [Bool.true_or, Bool.true_and, Bool.and_true, Bool.false_or] at c
  have hx := call50
  go_enter Try.func51, Try.ntmps51
  cases hv : (decide (n = 0) && s.toList.isEmpty) <;> rw [hv] at c
  · go_wp2_with fail
    have HS : SB w w.heap.size 3 n f s w.heap.size 3 n f s 78 (w.alloc (.cells #[.int .i64 3, .int .i64 n, .float .f64 f, .string s] 78)) := ⟨bel1 _ _, Box.new, Box.new⟩
    generalize w.alloc (.cells #[.int .i64 3, .int .i64 n, .float .f64 f, .string s] 78) = W at HS ⊢
    obtain ⟨q0, q1, q2, q3, _⟩ := SB.all HS
    clear hx hv
    first | go_region_with ((go_at_call 52; ((with_reducible refine (c _).mono ?_)); rintro e w' ⟨rfl, hb⟩; replace HS := SB.step HS.drew hb; clear q0 q1 q2 q3 hb c)) | fail
    all_goals
      go_wp2
      go_ret
      exact ⟨rfl, HS.bel⟩
  · go_wp2_with fail
    have HS : SB w w.heap.size 3 n f s w.heap.size 3 n f s 78 (w.alloc (.cells #[.int .i64 3, .int .i64 n, .float .f64 f, .string s] 78)) := ⟨bel1 _ _, Box.new, Box.new⟩
    generalize w.alloc (.cells #[.int .i64 3, .int .i64 n, .float .f64 f, .string s] 78) = W at HS ⊢
    go_region_held3 (fun w' => SA w w.heap.size 3 n f s w.heap.size 3 n f s 78 w')
      (first | (with_reducible exact SB.all HS) | (with_reducible exact SB.all HS.drew) | (with_reducible exact SB.all (HS.alloc _)))
      ((first | (go_at_call 52; ((with_reducible refine (c _).mono ?_)); rintro e w' ⟨rfl, hb⟩; first | (with_reducible replace HS := SB.step HS hb) | (with_reducible replace HS := SB.step HS.drew hb) | (with_reducible replace HS := SB.step (HS.alloc _) hb)) | (go_at_call 66; ((with_reducible refine (h_bits _ _ _ _ _).mono ?_)); rintro e w' ⟨rfl, hb⟩; first | (with_reducible replace HS := SB.step HS hb) | (with_reducible replace HS := SB.step HS.drew hb) | (with_reducible replace HS := SB.step (HS.alloc _) hb)) | (go_at_call 34; ((with_reducible refine (c_canon _ _).mono ?_)); rintro e w' ⟨rfl, hd⟩; first | (with_reducible replace HS := SB.drawn HS hd) | (with_reducible replace HS := SB.drawn HS.drew hd) | (with_reducible replace HS := SB.drawn (HS.alloc _) hd))))
    go_wp2
    go_ret
    exact ⟨rfl, HS.bel⟩
theorem h_valid (k n : Int) (f : Nat) (s : ByteArray) (w : World) : Calls Try.prog 51 #[vAtom k n f s] w fun e w' => e = .returned (.bool (validA ⟨k, n, f, s⟩)) ∧ Below w.heap.size w w' := by
  by_cases h0 : k = 0
  · subst h0; exact h_valid0 n f s w
  by_cases h1 : k = 1
  · subst h1; exact h_valid1 n f s w
  by_cases h2 : k = 2
  · subst h2; exact h_valid2 n f s w
  by_cases h3 : k = 3
  · subst h3; exact h_valid3 n f s w
  by_cases h4 : k = 4
  · subst h4; exact h_valid4 n f s w
  by_cases h5 : k = 5
  · subst h5; exact h_valid5 n f s w
  exact h_valid9 k h0 h1 h2 h3 h4 h5 n f s w
set_option maxHeartbeats 8000000 in
theorem h_alike (k n : Int) (f : Nat) (s : ByteArray) (l m : Int) (g : Nat) (t : ByteArray) (hn : In64 n) (hm : In64 m) (w : World) :
    Calls Try.prog 42 #[vAtom k n f s, vAtom l m g t] w fun e w' => e = .returned (.bool (alikeN ⟨k, n, f, s⟩ ⟨l, m, g, t⟩)) ∧ Below w.heap.size w w' := by
  have ex : alikeN ⟨k, n, f, s⟩ ⟨l, m, g, t⟩ = if nanA ⟨k, n, f, s⟩ || nanA ⟨l, m, g, t⟩ || (k == 0) || (l == 0) then false else if isNum k && isNum l then (cmp3 (nkey ⟨k, n, f, s⟩) (nkey ⟨l, m, g, t⟩) == 0) else (atomsN ⟨k, n, f, s⟩ ⟨l, m, g, t⟩ == 0) := by
    have e1 : (cmp3 (nkey ⟨k, n, f, s⟩) (nkey ⟨l, m, g, t⟩) == 0) = decide (nkey ⟨k, n, f, s⟩ = nkey ⟨l, m, g, t⟩) := by
      rw [Bool.eq_iff_iff, beq_iff_eq, decide_eq_true_eq]
      rcases cmp3_cases (nkey ⟨k, n, f, s⟩) (nkey ⟨l, m, g, t⟩) with ⟨h, h'⟩ | ⟨h, h'⟩ | ⟨h, h'⟩ <;> rw [h] <;> omega
    have e2 : (atomsN ⟨k, n, f, s⟩ ⟨l, m, g, t⟩ == 0) = decide (atomsN ⟨k, n, f, s⟩ ⟨l, m, g, t⟩ = 0) := by
      rw [Bool.eq_iff_iff, beq_iff_eq, decide_eq_true_eq]
    rw [e1, e2]
    unfold alikeN
    by_cases h0 : k = 0 <;> by_cases h1 : l = 0 <;> simp [h0, h1]
  rw [ex]
  clear ex
  have hnan := h_nan
  have hnum := h_number
  go_enter Try.func42, Try.ntmps42
  cases na : nanA ⟨k, n, f, s⟩ <;> cases nb : nanA ⟨l, m, g, t⟩ <;> cases h0 : (k == 0) <;> cases h1 : (l == 0) <;> cases ma : isNum k <;> cases mb : isNum l
  all_goals
    go_wp2_with ((first | (go_at_call 38; ((with_reducible refine (hnan _ _ _ _ _).mono ?_)); rintro e w' ⟨rfl, hb⟩; first | rw [na] | rw [nb]) | (go_at_call 39; ((with_reducible refine (hnum _ _ _ _ _).mono ?_)); rintro e w' ⟨rfl, hb⟩; first | rw [ma] | rw [mb]) | (go_at_call 41; ((with_reducible refine (h_exactly _ _ _ _ _ _ _ _ hn hm _).mono ?_)); rintro e w' ⟨rfl, hb⟩) | (go_at_call 32; ((with_reducible refine (h_atoms _ _ _ _ _ _ _ _ hn hm _).mono ?_)); rintro e w' ⟨rfl, hb⟩)); (have B1 : Box w' w.heap.size k n f s 78 := by first | exact Box.below B1 hb | exact Box.below (Box.old Box.new _) hb); (have B2 : Box w' (w.heap.size + 1) l m g t 78 := by first | exact Box.below B2 hb | exact Box.below Box.two hb); (have HB : Below w.heap.size w w' := by first | exact below_step HB hb | exact below_step (bel2 _ _ _) hb); obtain ⟨c0, c1, c2, c3⟩ := Box.cells B1; obtain ⟨d0, d1, d2, d3⟩ := Box.cells B2; clear hb)
    go_ret
    exact ⟨rfl, HB⟩
theorem h_rbits (f : Nat) (w : World) : Calls Try.prog 30 #[.float .f64 f] w fun e w' => e = .returned (.int .u64 f) ∧ w' = w := by
  have hx50 := call50
  go_enter Try.func30, Try.ntmps30
  go_wp2
  go_ret
  exact ⟨rfl, rfl⟩
def value_item_valid.f (a0_0 : Int) (a0_1 : Int) (a0_2 : Nat) (a0_3 : ByteArray) : Option (Bool) := some (validA ⟨a0_0, a0_1, a0_2, a0_3⟩)
theorem value_item_valid.calls (a0_0 : Int) (a0_1 : Int) (a0_2 : Nat) (a0_3 : ByteArray) (r : Bool) (w : World) (h : value_item_valid.f a0_0 a0_1 a0_2 a0_3 = some r) :
    Calls Try.prog 51 #[.agg #[.int .i64 a0_0, .int .i64 a0_1, .float .f64 a0_2, .string a0_3]] w fun e w' => e = .returned (.bool r) ∧ Below w.heap.size w w' := by
  obtain rfl := Option.some.inj h
  exact h_valid _ _ _ _ _
def value_item_is.f (a0_0 : Int) (a0_1 : Int) (a0_2 : Nat) (a0_3 : ByteArray) (a1 : Bool) (a2 : Bool) (a3 : Bool) : Option (Bool) := some ((a1 || decide (a0_1 = 0)) && (a2 || decide (a0_2 = 0)) && (a3 || a0_3.toList.isEmpty))
theorem value_item_is.calls (a0_0 : Int) (a0_1 : Int) (a0_2 : Nat) (a0_3 : ByteArray) (a1 : Bool) (a2 : Bool) (a3 : Bool) (r : Bool) (w : World) (h : value_item_is.f a0_0 a0_1 a0_2 a0_3 a1 a2 a3 = some r) :
    Calls Try.prog 52 #[.agg #[.int .i64 a0_0, .int .i64 a0_1, .float .f64 a0_2, .string a0_3], .bool a1, .bool a2, .bool a3] w fun e w' => e = .returned (.bool r) ∧ Below w.heap.size w w' := by
  obtain rfl := Option.some.inj h
  exact h_is _ _ _ _ _ _ _ _
def value_item_rank.f (a0_0 : Int) (a0_1 : Int) (a0_2 : Nat) (a0_3 : ByteArray) : Option (Int) := some (rankN a0_0)
def value_item_number.f (a0_0 : Int) (a0_1 : Int) (a0_2 : Nat) (a0_3 : ByteArray) : Option (Bool) := some (isNum a0_0)
def value_item_nan.f (a0_0 : Int) (a0_1 : Int) (a0_2 : Nat) (a0_3 : ByteArray) : Option (Bool) := some (nanA ⟨a0_0, a0_1, a0_2, a0_3⟩)
def value_exactly.f (a0_0 : Int) (a0_1 : Int) (a0_2 : Nat) (a0_3 : ByteArray) (a1_0 : Int) (a1_1 : Int) (a1_2 : Nat) (a1_3 : ByteArray) : Option (Int) := if In64 a0_1 ∧ In64 a1_1 then some (cmp3 (nkey ⟨a0_0, a0_1, a0_2, a0_3⟩) (nkey ⟨a1_0, a1_1, a1_2, a1_3⟩)) else none
def value_atoms.f (a0_0 : Int) (a0_1 : Int) (a0_2 : Nat) (a0_3 : ByteArray) (a1_0 : Int) (a1_1 : Int) (a1_2 : Nat) (a1_3 : ByteArray) : Option (Int) := if In64 a0_1 ∧ In64 a1_1 then some (atomsN ⟨a0_0, a0_1, a0_2, a0_3⟩ ⟨a1_0, a1_1, a1_2, a1_3⟩) else none
def value_alike.f (a0_0 : Int) (a0_1 : Int) (a0_2 : Nat) (a0_3 : ByteArray) (a1_0 : Int) (a1_1 : Int) (a1_2 : Nat) (a1_3 : ByteArray) : Option (Bool) := if In64 a0_1 ∧ In64 a1_1 then some (alikeN ⟨a0_0, a0_1, a0_2, a0_3⟩ ⟨a1_0, a1_1, a1_2, a1_3⟩) else none
theorem value_alike.calls (a0_0 : Int) (a0_1 : Int) (a0_2 : Nat) (a0_3 : ByteArray) (a1_0 : Int) (a1_1 : Int) (a1_2 : Nat) (a1_3 : ByteArray) (r : Bool) (w : World) (h : value_alike.f a0_0 a0_1 a0_2 a0_3 a1_0 a1_1 a1_2 a1_3 = some r) :
    Calls Try.prog 42 #[.agg #[.int .i64 a0_0, .int .i64 a0_1, .float .f64 a0_2, .string a0_3], .agg #[.int .i64 a1_0, .int .i64 a1_1, .float .f64 a1_2, .string a1_3]] w fun e w' => e = .returned (.bool r) ∧ Below w.heap.size w w' := by
  unfold value_alike.f at h
  split at h
  · rename_i hb
    obtain rfl := Option.some.inj h
    exact h_alike _ _ _ _ _ _ _ _ hb.1 hb.2 _
  · cases h
def cobwebref03_sameAtom.f (a0_0 : Int) (a0_1 : Int) (a0_2 : Nat) (a0_3 : ByteArray) (a1_0 : Int) (a1_1 : Int) (a1_2 : Nat) (a1_3 : ByteArray) : Option (Bool) := some (sameA ⟨a0_0, a0_1, a0_2, a0_3⟩ ⟨a1_0, a1_1, a1_2, a1_3⟩)
def cobwebref03_bits.f (a0 : Nat) : Option Int := some ((a0 : Nat) : Int)
theorem cobwebref03_bits.calls (a0 : Nat) (r : Int) (w : World) (h : cobwebref03_bits.f a0 = some r) :
    Calls Try.prog 30 #[.float .f64 a0] w fun e w' => e = .returned (.int .u64 r) ∧ Drawn0 w w' := by
  obtain rfl := Option.some.inj h
  exact (h_rbits _ _).mono fun e w' h => ⟨h.1, ⟨0, h.2⟩⟩
end Go.Proofs.Ytnfapjkffofcaaa.G
namespace Go.Proofs.Ytnfapjkffofcaaa.G
open Go.RowKit Go.Proofs.YtnfapjkffofcaaaW.PrintWords Go.Proofs.YtnfapjkffofcaaaW.PrintLast Go.Proofs.Ytnfapjkffofcaaa.FW Go.Proofs.Ytnfapjkffofcaaa.FL Go.Proofs.Ytnfapjkffofcaaa.EV Go.Proofs.Ytnfapjkffofcaaa.PK
set_option linter.unusedVariables false
set_option linter.unusedSimpArgs false
set_option maxRecDepth 100000
theorem b_ne (x y : Int) : (!(x != y)) = decide (x = y) := by rw [Bool.eq_iff_iff]; simp
theorem b_nat (f : Nat) : (!((f : Int) != 0)) = decide (f = 0) := by rw [b_ne, Bool.eq_iff_iff, decide_eq_true_eq, decide_eq_true_eq]; omega
theorem empty_small {s : ByteArray} (h : s.toList.isEmpty = true) : decide ((s.size : Int) ≤ 256) = true := by
  have e : s.size = 0 := by
    have := List.isEmpty_iff.1 h
    rw [ByteArray.toList_eq] at this
    have h2 : s.data.toList.length = 0 := by rw [this]; rfl
    simpa using h2
  rw [decide_eq_true_eq, e]
  decide
theorem c_rcanon (f : Nat) (hf : f < 18446744073709551616) (W : World) : Calls Try.prog 49 #[.int .u64 f] W fun e w' => e = .returned (.int .u64 (canonN f : Nat)) ∧ Drawn0 W w' := cobwebref02_Canon.calls f _ W (by
  have h0 : (0 : Int) ≤ (f : Int) := Int.natCast_nonneg f
  have h1 : (f : Int) < 18446744073709551616 := by omega
  unfold cobwebref02_Canon.f
  rw [if_pos ⟨h0, h1⟩, Int.toNat_natCast])
set_option maxHeartbeats 4000000 in
theorem h_ratom0 (n : Int) (f : Nat) (s : ByteArray) (hf : f < 18446744073709551616) (w : World) : Calls Try.prog 29 #[vAtom 0 n f s] w fun e w' => e = .returned (.bool (validA ⟨0, n, f, s⟩)) ∧ Below w.heap.size w w' := by
  have ex : validA ⟨0, n, f, s⟩ = (!((f : Int) != 0) && !(n != 0) && s.toList.isEmpty) := by
    rw [b_nat, b_ne]; unfold validA; cases decide (f = 0) <;> cases decide (n = 0) <;> rfl
  rw [ex]
  clear ex
  have hcan := fun W => c_rcanon f hf W
  go_enter Try.func29, Try.ntmps29
  cases h0 : ((f : Int) != 0) <;> cases h1 : (n != 0) <;> cases hs : s.toList.isEmpty
  all_goals
    try (have hz := empty_small hs)
    go_wp2_with (go_at_call 30; ((with_reducible refine (h_rbits _ _).mono ?_)); rintro e w1 ⟨rfl, rfl⟩)
    first
      | (go_ret; exact ⟨rfl, bel1 _ _⟩)
      | (go_quiet ((first | (go_at_call 30; exact Calls.quiet_of_same (h_rbits _ _)) | (go_at_call 49; refine (hcan _).mono ?_; rintro e w1 ⟨rfl, ⟨nd, rfl⟩⟩; first | exact ⟨rfl, _, World.drewN_drewN _ _ _⟩ | exact ⟨rfl, _, rfl⟩)))
         go_wp2
         go_ret
         exact ⟨rfl, pw_below_drewN (bel1 _ _) _⟩)
set_option maxHeartbeats 4000000 in
theorem h_ratom1 (n : Int) (f : Nat) (s : ByteArray) (hf : f < 18446744073709551616) (w : World) : Calls Try.prog 29 #[vAtom 1 n f s] w fun e w' => e = .returned (.bool (validA ⟨1, n, f, s⟩)) ∧ Below w.heap.size w w' := by
  have ex : validA ⟨1, n, f, s⟩ = (!((f : Int) != 0) && s.toList.isEmpty && (!(n != 0) || !(n != 1))) := by
    rw [b_nat, b_ne, b_ne]; rfl
  rw [ex]
  clear ex
  have hcan := fun W => c_rcanon f hf W
  go_enter Try.func29, Try.ntmps29
  cases h0 : ((f : Int) != 0) <;> cases h1 : (n != 0) <;> cases h2 : (n != 1) <;> cases hs : s.toList.isEmpty
  all_goals
    try (have hz := empty_small hs)
    go_wp2_with (go_at_call 30; ((with_reducible refine (h_rbits _ _).mono ?_)); rintro e w1 ⟨rfl, rfl⟩)
    first
      | (go_ret; exact ⟨rfl, bel1 _ _⟩)
      | (go_quiet ((first | (go_at_call 30; exact Calls.quiet_of_same (h_rbits _ _)) | (go_at_call 49; refine (hcan _).mono ?_; rintro e w1 ⟨rfl, ⟨nd, rfl⟩⟩; first | exact ⟨rfl, _, World.drewN_drewN _ _ _⟩ | exact ⟨rfl, _, rfl⟩)))
         go_wp2
         go_ret
         exact ⟨rfl, pw_below_drewN (bel1 _ _) _⟩)
set_option maxHeartbeats 4000000 in
theorem h_ratom2 (n : Int) (f : Nat) (s : ByteArray) (hf : f < 18446744073709551616) (w : World) : Calls Try.prog 29 #[vAtom 2 n f s] w fun e w' => e = .returned (.bool (validA ⟨2, n, f, s⟩)) ∧ Below w.heap.size w w' := by
  have ex : validA ⟨2, n, f, s⟩ = (!((f : Int) != 0) && s.toList.isEmpty) := by
    rw [b_nat]; rfl
  rw [ex]
  clear ex
  have hcan := fun W => c_rcanon f hf W
  go_enter Try.func29, Try.ntmps29
  cases h0 : ((f : Int) != 0) <;> cases hs : s.toList.isEmpty
  all_goals
    try (have hz := empty_small hs)
    go_wp2_with (go_at_call 30; ((with_reducible refine (h_rbits _ _).mono ?_)); rintro e w1 ⟨rfl, rfl⟩)
    first
      | (go_ret; exact ⟨rfl, bel1 _ _⟩)
      | (go_quiet ((first | (go_at_call 30; exact Calls.quiet_of_same (h_rbits _ _)) | (go_at_call 49; refine (hcan _).mono ?_; rintro e w1 ⟨rfl, ⟨nd, rfl⟩⟩; first | exact ⟨rfl, _, World.drewN_drewN _ _ _⟩ | exact ⟨rfl, _, rfl⟩)))
         go_wp2
         go_ret
         exact ⟨rfl, pw_below_drewN (bel1 _ _) _⟩)
set_option maxHeartbeats 4000000 in
theorem h_ratom3 (n : Int) (f : Nat) (s : ByteArray) (hf : f < 18446744073709551616) (w : World) : Calls Try.prog 29 #[vAtom 3 n f s] w fun e w' => e = .returned (.bool (validA ⟨3, n, f, s⟩)) ∧ Below w.heap.size w w' := by
  have ex : validA ⟨3, n, f, s⟩ = (!(n != 0) && s.toList.isEmpty && !(((canonN f : Nat) : Int) != (f : Int))) := by
    rw [b_ne, b_ne, show decide (((canonN f : Nat) : Int) = (f : Int)) = decide (canonN f = f) by rw [Bool.eq_iff_iff, decide_eq_true_eq, decide_eq_true_eq]; omega]; rfl
  rw [ex]
  clear ex
  have hcan := fun W => c_rcanon f hf W
  go_enter Try.func29, Try.ntmps29
  cases h1 : (n != 0) <;> cases h2 : (((canonN f : Nat) : Int) != (f : Int)) <;> cases hs : s.toList.isEmpty
  all_goals
    try (have hz := empty_small hs)
    go_wp2_with (go_at_call 30; ((with_reducible refine (h_rbits _ _).mono ?_)); rintro e w1 ⟨rfl, rfl⟩)
    first
      | (go_ret; exact ⟨rfl, bel1 _ _⟩)
      | (go_quiet ((first | (go_at_call 30; exact Calls.quiet_of_same (h_rbits _ _)) | (go_at_call 49; refine (hcan _).mono ?_; rintro e w1 ⟨rfl, ⟨nd, rfl⟩⟩; first | exact ⟨rfl, _, World.drewN_drewN _ _ _⟩ | exact ⟨rfl, _, rfl⟩)))
         go_wp2
         go_ret
         exact ⟨rfl, pw_below_drewN (bel1 _ _) _⟩)
set_option maxHeartbeats 4000000 in
theorem h_ratom4 (n : Int) (f : Nat) (s : ByteArray) (hf : f < 18446744073709551616) (w : World) : Calls Try.prog 29 #[vAtom 4 n f s] w fun e w' => e = .returned (.bool (validA ⟨4, n, f, s⟩)) ∧ Below w.heap.size w w' := by
  have ex : validA ⟨4, n, f, s⟩ = (!((f : Int) != 0) && !(n != 0) && decide ((s.size : Int) ≤ 256)) := by
    rw [b_nat, b_ne, show decide ((s.size : Int) ≤ 256) = decide (s.size ≤ 256) by rw [Bool.eq_iff_iff, decide_eq_true_eq, decide_eq_true_eq]; omega]; unfold validA; cases decide (f = 0) <;> cases decide (n = 0) <;> rfl
  rw [ex]
  clear ex
  have hcan := fun W => c_rcanon f hf W
  go_enter Try.func29, Try.ntmps29
  cases h0 : ((f : Int) != 0) <;> cases h1 : (n != 0) <;> cases hz : decide ((s.size : Int) ≤ 256)
  all_goals
    try (have hz := empty_small hs)
    go_wp2_with (go_at_call 30; ((with_reducible refine (h_rbits _ _).mono ?_)); rintro e w1 ⟨rfl, rfl⟩)
    first
      | (go_ret; exact ⟨rfl, bel1 _ _⟩)
      | (go_quiet ((first | (go_at_call 30; exact Calls.quiet_of_same (h_rbits _ _)) | (go_at_call 49; refine (hcan _).mono ?_; rintro e w1 ⟨rfl, ⟨nd, rfl⟩⟩; first | exact ⟨rfl, _, World.drewN_drewN _ _ _⟩ | exact ⟨rfl, _, rfl⟩)))
         go_wp2
         go_ret
         exact ⟨rfl, pw_below_drewN (bel1 _ _) _⟩)
set_option maxHeartbeats 4000000 in
theorem h_ratom5 (n : Int) (f : Nat) (s : ByteArray) (hf : f < 18446744073709551616) (w : World) : Calls Try.prog 29 #[vAtom 5 n f s] w fun e w' => e = .returned (.bool (validA ⟨5, n, f, s⟩)) ∧ Below w.heap.size w w' := by
  have ex : validA ⟨5, n, f, s⟩ = (!((f : Int) != 0) && !(n != 0) && decide ((s.size : Int) ≤ 256)) := by
    rw [b_nat, b_ne, show decide ((s.size : Int) ≤ 256) = decide (s.size ≤ 256) by rw [Bool.eq_iff_iff, decide_eq_true_eq, decide_eq_true_eq]; omega]; unfold validA; cases decide (f = 0) <;> cases decide (n = 0) <;> rfl
  rw [ex]
  clear ex
  have hcan := fun W => c_rcanon f hf W
  go_enter Try.func29, Try.ntmps29
  cases h0 : ((f : Int) != 0) <;> cases h1 : (n != 0) <;> cases hz : decide ((s.size : Int) ≤ 256)
  all_goals
    try (have hz := empty_small hs)
    go_wp2_with (go_at_call 30; ((with_reducible refine (h_rbits _ _).mono ?_)); rintro e w1 ⟨rfl, rfl⟩)
    first
      | (go_ret; exact ⟨rfl, bel1 _ _⟩)
      | (go_quiet ((first | (go_at_call 30; exact Calls.quiet_of_same (h_rbits _ _)) | (go_at_call 49; refine (hcan _).mono ?_; rintro e w1 ⟨rfl, ⟨nd, rfl⟩⟩; first | exact ⟨rfl, _, World.drewN_drewN _ _ _⟩ | exact ⟨rfl, _, rfl⟩)))
         go_wp2
         go_ret
         exact ⟨rfl, pw_below_drewN (bel1 _ _) _⟩)
theorem h_ratom9 (k : Int) (h : k < 0 ∨ 5 < k) (n : Int) (f : Nat) (s : ByteArray) (w : World) : Calls Try.prog 29 #[vAtom k n f s] w fun e w' => e = .returned (.bool (validA ⟨k, n, f, s⟩)) ∧ Below w.heap.size w w' := by
  rw [show validA ⟨k, n, f, s⟩ = false by unfold validA; simp only []; rw [if_neg (by omega), if_neg (by omega), if_neg (by omega), if_neg (by omega), if_neg (by omega)]]
  go_enter Try.func29, Try.ntmps29
  rcases h with h | h
  · go_wp2
    go_ret
    exact ⟨rfl, bel1 _ _⟩
  · have h0 : ¬ k < 0 := by omega
    go_wp2
    go_ret
    exact ⟨rfl, bel1 _ _⟩
theorem h_ratom (k n : Int) (f : Nat) (s : ByteArray) (hf : f < 18446744073709551616) (w : World) : Calls Try.prog 29 #[vAtom k n f s] w fun e w' => e = .returned (.bool (validA ⟨k, n, f, s⟩)) ∧ Below w.heap.size w w' := by
  by_cases h : k < 0 ∨ 5 < k
  · exact h_ratom9 k h n f s w
  · rcases (by omega : k = 0 ∨ k = 1 ∨ k = 2 ∨ k = 3 ∨ k = 4 ∨ k = 5) with rfl | rfl | rfl | rfl | rfl | rfl
    · exact h_ratom0 n f s hf w
    · exact h_ratom1 n f s hf w
    · exact h_ratom2 n f s hf w
    · exact h_ratom3 n f s hf w
    · exact h_ratom4 n f s hf w
    · exact h_ratom5 n f s hf w
end Go.Proofs.Ytnfapjkffofcaaa.G
namespace Go.Proofs.Ytnfapjkffofcaaa.PX
open Go.RowKit Go.Proofs.YtnfapjkffofcaaaW.PrintWords Go.Proofs.YtnfapjkffofcaaaW.PrintLast Go.Proofs.Ytnfapjkffofcaaa.FW Go.Proofs.Ytnfapjkffofcaaa.PK
set_option linter.unusedVariables false
set_option linter.unusedSimpArgs false
def errW : Option Int → Value
  | none => .nilIface
  | some c => .iface 0 (.int .i64 c)
theorem errW_none : errW none = .nilIface := rfl
theorem errW_some (c : Int) : errW (some c) = .iface 0 (.int .i64 c) := rfl
end Go.Proofs.Ytnfapjkffofcaaa.PX
namespace Go.Proofs.Ytnfapjkffofcaaa.PX
open Go.RowKit Go.Proofs.YtnfapjkffofcaaaW.PrintWords Go.Proofs.YtnfapjkffofcaaaW.PrintLast Go.Proofs.Ytnfapjkffofcaaa.FW Go.Proofs.Ytnfapjkffofcaaa.PK Go.Proofs.Ytnfapjkffofcaaa.G
set_option linter.unusedVariables false
set_option linter.unusedSimpArgs false
mutual
def value_Valid.j0 : Nat → Bool → Int → Int → Nat → ByteArray → List (S26) → Option (Bool)
  | 0, _, _, _, _, _, _ => none
  | k + 1, x3, x102000, x102001, x102002, x102003, x102004 => value_Valid.l0 k x3 0 x102000 x102001 x102002 x102003 x102004
def value_Valid.l0 : Nat → Bool → Int → Int → Int → Nat → ByteArray → List (S26) → Option (Bool)
  | 0, _, _, _, _, _, _, _ => none
  | k + 1, x3, x4, x102000, x102001, x102002, x102003, x102004 => if x3 = true then (if x4 < (x102004.length : Int) then (if 0 ≤ x4 then ((value_item_valid.f ((rd_T26 x102004 x4).f0) ((rd_T26 x102004 x4).f1) ((rd_T26 x102004 x4).f2) ((rd_T26 x102004 x4).f3)).bind fun t105 => (value_Valid.l0 k t105 (wrap64 (x4 + 1)) x102000 x102001 x102002 x102003 x102004)) else (none)) else (some x3)) else (some x3)
end
def value_Valid.f (k : Nat) (a0_0 : Int) (a0_1 : Int) (a0_2 : Nat) (a0_3 : ByteArray) (l0_4 : List (S26)) : Option (Bool) := if a0_0 = 6 then ((value_item_is.f a0_0 a0_1 a0_2 a0_3 false false false).bind fun t103 => (if t103 = true then (value_Valid.j0 k (decide ((l0_4.length : Int) ≤ 16)) a0_0 a0_1 a0_2 a0_3 l0_4) else (value_Valid.j0 k false a0_0 a0_1 a0_2 a0_3 l0_4))) else ((value_item_valid.f a0_0 a0_1 a0_2 a0_3).bind fun t102 => (if t102 = true then (some ((l0_4.length : Int) == 0)) else (some false)))
theorem value_Valid.mono_l : ∀ k, (∀ y0 y1 y2 y3 y4 y5, LeO (value_Valid.j0 k y0 y1 y2 y3 y4 y5) (value_Valid.j0 (k + 1) y0 y1 y2 y3 y4 y5)) ∧ (∀ y0 y1 y2 y3 y4 y5 y6, LeO (value_Valid.l0 k y0 y1 y2 y3 y4 y5 y6) (value_Valid.l0 (k + 1) y0 y1 y2 y3 y4 y5 y6))
  | 0 => ⟨fun _ _ _ _ _ _ r h => by simp [value_Valid.j0] at h, fun _ _ _ _ _ _ _ r h => by simp [value_Valid.l0] at h⟩
  | k + 1 => by
    obtain ⟨ih0, ih1⟩ := value_Valid.mono_l k
    refine ⟨?_, ?_⟩
    · intro y0 y1 y2 y3 y4 y5
      unfold value_Valid.j0
      repeat' first
      | (with_reducible exact ih0 _ _ _ _ _ _)
      | (with_reducible exact ih1 _ _ _ _ _ _ _)
      | (with_reducible exact LeO.refl _)
      | (with_reducible exact LeO.none _)
      | (with_reducible refine LeO.ite ?_ ?_)
      | (with_reducible refine LeO.bind ?_ (fun _ => ?_))
      | exact ih0 _ _ _ _ _ _
      | exact ih1 _ _ _ _ _ _ _
      | exact LeO.none _
      | refine LeO.ite ?_ ?_
      | refine LeO.bind ?_ (fun _ => ?_)
    · intro y0 y1 y2 y3 y4 y5 y6
      unfold value_Valid.l0
      repeat' first
      | (with_reducible exact ih0 _ _ _ _ _ _)
      | (with_reducible exact ih1 _ _ _ _ _ _ _)
      | (with_reducible exact LeO.refl _)
      | (with_reducible exact LeO.none _)
      | (with_reducible refine LeO.ite ?_ ?_)
      | (with_reducible refine LeO.bind ?_ (fun _ => ?_))
      | exact ih0 _ _ _ _ _ _
      | exact ih1 _ _ _ _ _ _ _
      | exact LeO.none _
      | refine LeO.ite ?_ ?_
      | refine LeO.bind ?_ (fun _ => ?_)
theorem value_Valid.mono : ∀ a0 a1 a2 a3 a4 k, LeO (value_Valid.f k a0 a1 a2 a3 a4) (value_Valid.f (k + 1) a0 a1 a2 a3 a4) := by
  intro a0 a1 a2 a3 a4 k
  obtain ⟨ih0, ih1⟩ := value_Valid.mono_l k
  unfold value_Valid.f
  repeat' first
      | (with_reducible exact ih0 _ _ _ _ _ _)
      | (with_reducible exact ih1 _ _ _ _ _ _ _)
      | (with_reducible exact LeO.refl _)
      | (with_reducible exact LeO.none _)
      | (with_reducible refine LeO.ite ?_ ?_)
      | (with_reducible refine LeO.bind ?_ (fun _ => ?_))
      | exact ih0 _ _ _ _ _ _
      | exact ih1 _ _ _ _ _ _ _
      | exact LeO.none _
      | refine LeO.ite ?_ ?_
      | refine LeO.bind ?_ (fun _ => ?_)
set_option maxHeartbeats 8000000 in
set_option maxRecDepth 100000 in
theorem value_Valid.calls (k : Nat) (a0_0 : Int) (a0_1 : Int) (a0_2 : Nat) (a0_3 : ByteArray) (A0_4 : Option Addr) (c0_4 : Nat) (l0_4 : List (S26)) (r : Bool) (w : World) (hr0_4 : Kd.C k26 w A0_4 l0_4.length l0_4) (hc0_4 : l0_4.length ≤ c0_4) (h : value_Valid.f k a0_0 a0_1 a0_2 a0_3 l0_4 = some r) :
    Calls Try.prog 31 #[.agg #[.int .i64 a0_0, .int .i64 a0_1, .float .f64 a0_2, .string a0_3, .slice A0_4 l0_4.length c0_4]] w fun e w' => e = .returned (.bool r) ∧ Below w.heap.size w w' := by
  have hu29 := Try.underlying29
  have hu26 := Try.underlying26
  have hu78 := Try.underlying78
  have HR0_4 := Aside0.mk hr0_4
  have HC0_4 := Aside0.mk hc0_4
  clear hr0_4 hc0_4
  have HB := Aside0.mk (Below.refl w.heap.size w)
  have H : (if a0_0 = 6 then ((value_item_is.f a0_0 a0_1 a0_2 a0_3 false false false).bind fun t103 => (if t103 = true then (value_Valid.j0 k (decide ((l0_4.length : Int) ≤ 16)) a0_0 a0_1 a0_2 a0_3 l0_4) else (value_Valid.j0 k false a0_0 a0_1 a0_2 a0_3 l0_4))) else ((value_item_valid.f a0_0 a0_1 a0_2 a0_3).bind fun t102 => (if t102 = true then (some ((l0_4.length : Int) == 0)) else (some false)))) = some r := h
  clear h
  by_cases c2 : a0_0 = 6
  · rw [if_pos c2] at H
    have c2b0 : (a0_0 == 6) = true := beq_iff_eq.mpr c2
    have c2b1 : (a0_0 != 6) = false := bne_eq_false_iff_eq.mpr c2
    clear c2
    have HC3 := Aside0.mk H
    clear H
    go_enter Try.func31, Try.ntmps31
    go_upto_region 3 with (first | ((with_reducible refine gate_dst (N := 1) rfl ?_); (try (refine gate_guard (by rfl) ?_; dsimp only)); refine box_event ?hg (N := 1) ?hd (cs := #[.int .i64 a0_0, .int .i64 a0_1, .float .f64 a0_2, .string a0_3, .slice A0_4 l0_4.length c0_4]) (t := 29) ?hr ?_; (case hd => rfl); (case hg => rfl); (case hr => first | (go_simp; done) | (go_simp; rfl)); intro gb101 hg w4 hbox hb; have n0_ := Aside0.mk (below_step (by repeat (first | (with_reducible first | exact HB.out | apply below_alloc | apply pw_below_drewN | apply below_drew1) | exact HB.out)) hb); have n1_ := Aside0.mk (hbox); have n2_ := Aside0.mk ((by rw [hg]; exact (below_size (by repeat (first | (with_reducible first | exact HB.out | apply below_alloc | apply pw_below_drewN | apply below_drew1) | exact HB.out))) : w.heap.size ≤ gb101)); have n3_ := Aside0.mk ((by rw [hg]; exact (below_size (by repeat (first | (with_reducible first | exact HB.out | apply below_alloc | apply pw_below_drewN | apply below_drew1) | exact HB.out))) : w.heap.size ≤ gb101)); clear HB; have HB := n0_; have BK101 := n1_; have GW101 := n2_; have GE101 := n3_; clear n0_ n1_ n2_ n3_; clear hb hbox hg; have hcz5_0 : w4.cell? ⟨gb101, 0, none⟩ = some (.int .i64 a0_0) := (blk_cell BK101.out 0).trans rfl; have hcz5_1 : w4.cell? ⟨gb101, 1, none⟩ = some (.int .i64 a0_1) := (blk_cell BK101.out 1).trans rfl; have hcz5_2 : w4.cell? ⟨gb101, 2, none⟩ = some (.float .f64 a0_2) := (blk_cell BK101.out 2).trans rfl; have hcz5_3 : w4.cell? ⟨gb101, 3, none⟩ = some (.string a0_3) := (blk_cell BK101.out 3).trans rfl; have hcz5_4 : w4.cell? ⟨gb101, 4, none⟩ = some (.slice A0_4 l0_4.length c0_4) := (blk_cell BK101.out 4).trans rfl; have hfz5_0 := blk_frozen BK101.out 0; have hfz5_1 := blk_frozen BK101.out 1; have hfz5_2 := blk_frozen BK101.out 2; have hfz5_3 := blk_frozen BK101.out 3; have hfz5_4 := blk_frozen BK101.out 4))
    (try simp only [Act.put, List.setIfInBounds_toArray, List.set_cons_zero, List.set_cons_succ])
    go_cut [3] (fun v3 wc => ∃ (kq : Nat) (x3_2 : Bool), v3 = .bool x3_2 ∧ Aside0 (value_Valid.j0 kq x3_2 a0_0 a0_1 a0_2 a0_3 l0_4 = some r) ∧ Aside0 (kq ≤ k) ∧ Aside0 (wc.heap[gb101]? = some (.cells #[.int .i64 a0_0, .int .i64 a0_1, .float .f64 a0_2, .string a0_3, (.slice A0_4 l0_4.length c0_4)] 29 (0, 0))) ∧ Aside0 (Below w.heap.size w wc))
    case first =>
      have H := HC3.out
      clear HC3
      replace H := Option.bind_eq_some_iff.mp H
      obtain ⟨t103, A60, H⟩ := H
      replace H : (if t103 = true then (value_Valid.j0 k (decide ((l0_4.length : Int) ≤ 16)) a0_0 a0_1 a0_2 a0_3 l0_4) else (value_Valid.j0 k false a0_0 a0_1 a0_2 a0_3 l0_4)) = some r := H
      have A6 := Aside0.mk A60
      clear A60
      by_cases c7 : t103 = true
      · subst c7
        have H1 : (value_Valid.j0 k (decide ((l0_4.length : Int) ≤ 16)) a0_0 a0_1 a0_2 a0_3 l0_4) = some r := by rw [if_pos rfl] at H; exact H
        clear H
        have H := H1
        clear H1
        have H' := Aside0.mk H
        clear H
        have hcz8_0 : w4.cell? ⟨gb101, 0, none⟩ = some (.int .i64 a0_0) := (blk_cell BK101.out 0).trans rfl
        have hcz8_1 : w4.cell? ⟨gb101, 1, none⟩ = some (.int .i64 a0_1) := (blk_cell BK101.out 1).trans rfl
        have hcz8_2 : w4.cell? ⟨gb101, 2, none⟩ = some (.float .f64 a0_2) := (blk_cell BK101.out 2).trans rfl
        have hcz8_3 : w4.cell? ⟨gb101, 3, none⟩ = some (.string a0_3) := (blk_cell BK101.out 3).trans rfl
        have hcz8_4 : w4.cell? ⟨gb101, 4, none⟩ = some (.slice A0_4 l0_4.length c0_4) := (blk_cell BK101.out 4).trans rfl
        have hfz8_0 := blk_frozen BK101.out 0
        have hfz8_1 := blk_frozen BK101.out 1
        have hfz8_2 := blk_frozen BK101.out 2
        have hfz8_3 := blk_frozen BK101.out 3
        have hfz8_4 := blk_frozen BK101.out 4
        go_wp2_with (first | ((with_reducible refine gate_callee (f := 52) rfl ?_); refine goesL_ (some 22) rfl rfl Try.func52 (by kernel_rfl) rfl #[.agg #[.int .i64 a0_0, .int .i64 a0_1, .float .f64 a0_2, .string a0_3], .bool false, .bool false, .bool false] rfl (by (try simp only [List.map_toArray, List.map_cons, List.map_nil]); first | done | rfl | (simp only [List.length_drop, List.length_take]; rfl)) ?_; (with_reducible refine (value_item_is.calls a0_0 a0_1 a0_2 a0_3 false false false true _ A6.out).mono ?_); rintro e w9 ⟨rfl, hb⟩; refine ⟨_, rfl, ?_⟩; have n0_ := Aside0.mk (blk_below (g := gb101) (o := .cells #[.int .i64 a0_0, .int .i64 a0_1, .float .f64 a0_2, .string a0_3, .slice A0_4 l0_4.length c0_4] 29 (0, 0)) (by (with_reducible repeat (first | refine blk_drewN ?_ _ | refine blk_drew ?_ | refine blk_alloc ?_ _)); exact BK101.out) hb); have n1_ := Aside0.mk (below_step (by repeat (first | (with_reducible first | exact HB.out | apply below_alloc | apply pw_below_drewN | apply below_drew1 | refine below_set ?_ GE101.out) | exact HB.out)) hb); clear BK101; clear HB; have BK101 := n0_; have HB := n1_; clear n0_ n1_; (try clear hb); (try clear hb2); (try clear hk); (try clear hi); have hcz10_0 : w9.cell? ⟨gb101, 0, none⟩ = some (.int .i64 a0_0) := (blk_cell BK101.out 0).trans rfl; have hcz10_1 : w9.cell? ⟨gb101, 1, none⟩ = some (.int .i64 a0_1) := (blk_cell BK101.out 1).trans rfl; have hcz10_2 : w9.cell? ⟨gb101, 2, none⟩ = some (.float .f64 a0_2) := (blk_cell BK101.out 2).trans rfl; have hcz10_3 : w9.cell? ⟨gb101, 3, none⟩ = some (.string a0_3) := (blk_cell BK101.out 3).trans rfl; have hcz10_4 : w9.cell? ⟨gb101, 4, none⟩ = some (.slice A0_4 l0_4.length c0_4) := (blk_cell BK101.out 4).trans rfl; have hfz10_0 := blk_frozen BK101.out 0; have hfz10_1 := blk_frozen BK101.out 1; have hfz10_2 := blk_frozen BK101.out 2; have hfz10_3 := blk_frozen BK101.out 3; have hfz10_4 := blk_frozen BK101.out 4))
        go_meet
        case rel => exact ⟨_, (decide ((l0_4.length : Int) ≤ 16)), (by first | rfl | (simp; done) | (simp [*]; done)), H', ⟨by first | omega | exact Nat.le_refl _⟩, ⟨by (with_reducible repeat (first | refine blk_drewN ?_ _ | refine blk_drew ?_ | refine blk_alloc ?_ _)); exact BK101.out⟩, ⟨by repeat (first | (with_reducible first | exact HB.out | apply below_alloc | apply pw_below_drewN | apply below_drew1 | refine below_set ?_ GE101.out) | exact HB.out)⟩⟩
      · replace c7 := Bool.eq_false_iff.mpr c7
        subst c7
        have H1 : (value_Valid.j0 k false a0_0 a0_1 a0_2 a0_3 l0_4) = some r := by rw [if_neg (show ¬ (false = true) by decide)] at H; exact H
        clear H
        have H := H1
        clear H1
        have H' := Aside0.mk H
        clear H
        have hcz11_0 : w4.cell? ⟨gb101, 0, none⟩ = some (.int .i64 a0_0) := (blk_cell BK101.out 0).trans rfl
        have hcz11_1 : w4.cell? ⟨gb101, 1, none⟩ = some (.int .i64 a0_1) := (blk_cell BK101.out 1).trans rfl
        have hcz11_2 : w4.cell? ⟨gb101, 2, none⟩ = some (.float .f64 a0_2) := (blk_cell BK101.out 2).trans rfl
        have hcz11_3 : w4.cell? ⟨gb101, 3, none⟩ = some (.string a0_3) := (blk_cell BK101.out 3).trans rfl
        have hcz11_4 : w4.cell? ⟨gb101, 4, none⟩ = some (.slice A0_4 l0_4.length c0_4) := (blk_cell BK101.out 4).trans rfl
        have hfz11_0 := blk_frozen BK101.out 0
        have hfz11_1 := blk_frozen BK101.out 1
        have hfz11_2 := blk_frozen BK101.out 2
        have hfz11_3 := blk_frozen BK101.out 3
        have hfz11_4 := blk_frozen BK101.out 4
        go_wp2_with (first | ((with_reducible refine gate_callee (f := 52) rfl ?_); refine goesL_ (some 22) rfl rfl Try.func52 (by kernel_rfl) rfl #[.agg #[.int .i64 a0_0, .int .i64 a0_1, .float .f64 a0_2, .string a0_3], .bool false, .bool false, .bool false] rfl (by (try simp only [List.map_toArray, List.map_cons, List.map_nil]); first | done | rfl | (simp only [List.length_drop, List.length_take]; rfl)) ?_; (with_reducible refine (value_item_is.calls a0_0 a0_1 a0_2 a0_3 false false false false _ A6.out).mono ?_); rintro e w12 ⟨rfl, hb⟩; refine ⟨_, rfl, ?_⟩; have n0_ := Aside0.mk (blk_below (g := gb101) (o := .cells #[.int .i64 a0_0, .int .i64 a0_1, .float .f64 a0_2, .string a0_3, .slice A0_4 l0_4.length c0_4] 29 (0, 0)) (by (with_reducible repeat (first | refine blk_drewN ?_ _ | refine blk_drew ?_ | refine blk_alloc ?_ _)); exact BK101.out) hb); have n1_ := Aside0.mk (below_step (by repeat (first | (with_reducible first | exact HB.out | apply below_alloc | apply pw_below_drewN | apply below_drew1 | refine below_set ?_ GE101.out) | exact HB.out)) hb); clear BK101; clear HB; have BK101 := n0_; have HB := n1_; clear n0_ n1_; (try clear hb); (try clear hb2); (try clear hk); (try clear hi)))
        go_meet
        case rel => exact ⟨_, (false), (by first | rfl | (simp; done) | (simp [*]; done)), H', ⟨by first | omega | exact Nat.le_refl _⟩, ⟨by (with_reducible repeat (first | refine blk_drewN ?_ _ | refine blk_drew ?_ | refine blk_alloc ?_ _)); exact BK101.out⟩, ⟨by repeat (first | (with_reducible first | exact HB.out | apply below_alloc | apply pw_below_drewN | apply below_drew1 | refine below_set ?_ GE101.out) | exact HB.out)⟩⟩
    case rest =>
      clear HC3
      try clear c2
      try clear c2b0
      try clear c2b1
      try clear p2
      try clear c3
      try clear c5
      try clear c7
      try clear hcz10_0
      try clear hcz10_1
      try clear hcz10_2
      try clear hcz10_3
      try clear hcz10_4
      try clear hcz11_0
      try clear hcz11_1
      try clear hcz11_2
      try clear hcz11_3
      try clear hcz11_4
      try clear hcz5_0
      try clear hcz5_1
      try clear hcz5_2
      try clear hcz5_3
      try clear hcz5_4
      try clear hcz8_0
      try clear hcz8_1
      try clear hcz8_2
      try clear hcz8_3
      try clear hcz8_4
      try clear hfz10_0
      try clear hfz10_1
      try clear hfz10_2
      try clear hfz10_3
      try clear hfz10_4
      try clear hfz11_0
      try clear hfz11_1
      try clear hfz11_2
      try clear hfz11_3
      try clear hfz11_4
      try clear hfz5_0
      try clear hfz5_1
      try clear hfz5_2
      try clear hfz5_3
      try clear hfz5_4
      try clear hfz8_0
      try clear hfz8_1
      try clear hfz8_2
      try clear hfz8_3
      try clear hfz8_4
      obtain ⟨kq, x3_2, rfl, HA, HJ2, BK101, HB⟩ := hcut
      cases kq with
      | zero => exact absurd HA.out (by simp [value_Valid.j0])
      | succ kj2 =>
        have H := HA.out
        clear HA
        simp only [value_Valid.j0] at H
        have H' := Aside0.mk H
        clear H
        go_wp2
        go_loopg [3, 4] kj2 (fun kq v3 v4 w' => ∃ (x3_2 : Bool) (x4_2 : Int), v3 = .bool x3_2 ∧ v4 = .int .i64 x4_2 ∧ Aside0 (value_Valid.l0 kq x3_2 x4_2 a0_0 a0_1 a0_2 a0_3 l0_4 = some r) ∧ Aside0 (kq ≤ kj2) ∧ Aside0 (w'.heap[gb101]? = some (.cells #[.int .i64 a0_0, .int .i64 a0_1, .float .f64 a0_2, .string a0_3, (.slice A0_4 l0_4.length c0_4)] 29 (0, 0))) ∧ Aside0 (Below w.heap.size w w'))
        case atStart => exact ⟨(x3_2), (0), (by first | rfl | (simp; done) | (simp [*]; done)), (by first | rfl | (simp; done) | (simp [*]; done)), H', ⟨Nat.le_refl _⟩, ⟨by (with_reducible repeat (first | refine blk_drewN ?_ _ | refine blk_drew ?_ | refine blk_alloc ?_ _)); exact BK101.out⟩, ⟨by repeat (first | (with_reducible first | exact HB.out | apply below_alloc | apply pw_below_drewN | apply below_drew1 | refine below_set ?_ GE101.out) | exact HB.out)⟩⟩
        case round =>
          clear H'
          try clear c2
          try clear c2b0
          try clear c2b1
          try clear p2
          try clear c3
          try clear c5
          try clear c7
          try clear hcz10_0
          try clear hcz10_1
          try clear hcz10_2
          try clear hcz10_3
          try clear hcz10_4
          try clear hcz11_0
          try clear hcz11_1
          try clear hcz11_2
          try clear hcz11_3
          try clear hcz11_4
          try clear hcz5_0
          try clear hcz5_1
          try clear hcz5_2
          try clear hcz5_3
          try clear hcz5_4
          try clear hcz8_0
          try clear hcz8_1
          try clear hcz8_2
          try clear hcz8_3
          try clear hcz8_4
          try clear hfz10_0
          try clear hfz10_1
          try clear hfz10_2
          try clear hfz10_3
          try clear hfz10_4
          try clear hfz11_0
          try clear hfz11_1
          try clear hfz11_2
          try clear hfz11_3
          try clear hfz11_4
          try clear hfz5_0
          try clear hfz5_1
          try clear hfz5_2
          try clear hfz5_3
          try clear hfz5_4
          try clear hfz8_0
          try clear hfz8_1
          try clear hfz8_2
          try clear hfz8_3
          try clear hfz8_4
          try clear p2
          obtain ⟨x3_2, x4_2, rfl, rfl, HA, HK2, BK101, HB⟩ := hrel
          cases gk with
          | zero => exact absurd HA.out (by simp [value_Valid.l0])
          | succ k2 =>
            have H := HA.out
            clear HA
            simp only [value_Valid.l0] at H
            by_cases c13 : x3_2 = true
            · subst c13
              have H1 : (if x4_2 < (l0_4.length : Int) then (if 0 ≤ x4_2 then ((value_item_valid.f ((rd_T26 l0_4 x4_2).f0) ((rd_T26 l0_4 x4_2).f1) ((rd_T26 l0_4 x4_2).f2) ((rd_T26 l0_4 x4_2).f3)).bind fun t105 => (value_Valid.l0 k2 t105 (wrap64 (x4_2 + 1)) a0_0 a0_1 a0_2 a0_3 l0_4)) else (none)) else (some true)) = some r := by rw [if_pos rfl] at H; exact H
              clear H
              have H := H1
              clear H1
              by_cases c14 : x4_2 < (l0_4.length : Int)
              · rw [if_pos c14] at H
                have c14b0 : decide (x4_2 < (l0_4.length : Int)) = true := decide_eq_true c14
                clear c14
                by_cases c15 : 0 ≤ x4_2
                · rw [if_pos c15] at H
                  have c15b0 : decide (0 ≤ x4_2) = true := decide_eq_true c15
                  clear c15
                  replace H := Option.bind_eq_some_iff.mp H
                  obtain ⟨t105, A160, H⟩ := H
                  replace H : (value_Valid.l0 k2 t105 (wrap64 (x4_2 + 1)) a0_0 a0_1 a0_2 a0_3 l0_4) = some r := H
                  have A16 := Aside0.mk A160
                  clear A160
                  have H' := Aside0.mk H
                  clear H
                  have hcz17_0 : wr.cell? ⟨gb101, 0, none⟩ = some (.int .i64 a0_0) := (blk_cell BK101.out 0).trans rfl
                  have hcz17_1 : wr.cell? ⟨gb101, 1, none⟩ = some (.int .i64 a0_1) := (blk_cell BK101.out 1).trans rfl
                  have hcz17_2 : wr.cell? ⟨gb101, 2, none⟩ = some (.float .f64 a0_2) := (blk_cell BK101.out 2).trans rfl
                  have hcz17_3 : wr.cell? ⟨gb101, 3, none⟩ = some (.string a0_3) := (blk_cell BK101.out 3).trans rfl
                  have hcz17_4 : wr.cell? ⟨gb101, 4, none⟩ = some (.slice A0_4 l0_4.length c0_4) := (blk_cell BK101.out 4).trans rfl
                  have hfz17_0 := blk_frozen BK101.out 0
                  have hfz17_1 := blk_frozen BK101.out 1
                  have hfz17_2 := blk_frozen BK101.out 2
                  have hfz17_3 := blk_frozen BK101.out 3
                  have hfz17_4 := blk_frozen BK101.out 4
                  have p104 : 0 ≤ (x4_2 : Int) := of_decide_eq_true (by first | (with_reducible assumption) | assumption)
                  have q104 : x4_2 < (l0_4.length : Int) := of_decide_eq_true (by first | (with_reducible assumption) | assumption)
                  obtain ⟨ad104, e104, hx104_0, hx104_1, hx104_2, hx104_3⟩ := at_T26 HR0_4.out x4_2 p104 q104
                  cases e104
                  replace hx104_0 := (HB.out.cell (World.block_lt_of_cell? w _ hx104_0)).trans hx104_0
                  replace hx104_1 := (HB.out.cell (World.block_lt_of_cell? w _ hx104_1)).trans hx104_1
                  replace hx104_2 := (HB.out.cell (World.block_lt_of_cell? w _ hx104_2)).trans hx104_2
                  replace hx104_3 := (HB.out.cell (World.block_lt_of_cell? w _ hx104_3)).trans hx104_3
                  replace p104 := eq_true p104
                  replace q104 := eq_true q104
                  go_wp2_with (first | ((with_reducible refine gate_callee (f := 51) rfl ?_); refine goesL_ (some 45) rfl rfl Try.func51 (by kernel_rfl) rfl #[.agg #[.int .i64 ((rd_T26 l0_4 x4_2).f0), .int .i64 ((rd_T26 l0_4 x4_2).f1), .float .f64 ((rd_T26 l0_4 x4_2).f2), .string ((rd_T26 l0_4 x4_2).f3)]] rfl (by (try simp only [List.map_toArray, List.map_cons, List.map_nil]); first | done | rfl | (simp only [List.length_drop, List.length_take]; rfl)) ?_; (with_reducible refine (value_item_valid.calls ((rd_T26 l0_4 x4_2).f0) ((rd_T26 l0_4 x4_2).f1) ((rd_T26 l0_4 x4_2).f2) ((rd_T26 l0_4 x4_2).f3) t105 _ A16.out).mono ?_); rintro e w18 ⟨rfl, hb⟩; refine ⟨_, rfl, ?_⟩; have n0_ := Aside0.mk (blk_below (g := gb101) (o := .cells #[.int .i64 a0_0, .int .i64 a0_1, .float .f64 a0_2, .string a0_3, .slice (some ad104) l0_4.length c0_4] 29 (0, 0)) (by (with_reducible repeat (first | refine blk_drewN ?_ _ | refine blk_drew ?_ | refine blk_alloc ?_ _)); exact BK101.out) hb); have n1_ := Aside0.mk (below_step (by repeat (first | (with_reducible first | exact HB.out | apply below_alloc | apply pw_below_drewN | apply below_drew1 | refine below_set ?_ GE101.out) | exact HB.out)) hb); clear BK101; clear HB; have BK101 := n0_; have HB := n1_; clear n0_ n1_; (try clear hb); (try clear hb2); (try clear hk); (try clear hi)))
                  go_roundg k2
                  case measure => have := HJ2.out; have := HK2.out; omega
                  case rel => exact ⟨(t105), (wrap64 (x4_2 + 1)), (by first | rfl | (simp; done) | (simp [*]; done)), (by first | rfl | (simp; done) | (simp [*]; done)), H', ⟨by have := HJ2.out; have := HK2.out; omega⟩, ⟨by (with_reducible repeat (first | refine blk_drewN ?_ _ | refine blk_drew ?_ | refine blk_alloc ?_ _)); exact BK101.out⟩, ⟨by repeat (first | (with_reducible first | exact HB.out | apply below_alloc | apply pw_below_drewN | apply below_drew1 | refine below_set ?_ GE101.out) | exact HB.out)⟩⟩
                · rw [if_neg c15] at H
                  exact absurd H (by simp)
              · rw [if_neg c14] at H
                have c14b0 : decide (x4_2 < (l0_4.length : Int)) = false := decide_eq_false c14
                clear c14
                obtain rfl := Option.some.inj H
                have hcz19_0 : wr.cell? ⟨gb101, 0, none⟩ = some (.int .i64 a0_0) := (blk_cell BK101.out 0).trans rfl
                have hcz19_1 : wr.cell? ⟨gb101, 1, none⟩ = some (.int .i64 a0_1) := (blk_cell BK101.out 1).trans rfl
                have hcz19_2 : wr.cell? ⟨gb101, 2, none⟩ = some (.float .f64 a0_2) := (blk_cell BK101.out 2).trans rfl
                have hcz19_3 : wr.cell? ⟨gb101, 3, none⟩ = some (.string a0_3) := (blk_cell BK101.out 3).trans rfl
                have hcz19_4 : wr.cell? ⟨gb101, 4, none⟩ = some (.slice A0_4 l0_4.length c0_4) := (blk_cell BK101.out 4).trans rfl
                have hfz19_0 := blk_frozen BK101.out 0
                have hfz19_1 := blk_frozen BK101.out 1
                have hfz19_2 := blk_frozen BK101.out 2
                have hfz19_3 := blk_frozen BK101.out 3
                have hfz19_4 := blk_frozen BK101.out 4
                go_wp2
                go_ret
                exact ⟨by first | rfl | (simp [errW_none, errW_some] <;> rfl) | (simp [*, errW_none, errW_some] <;> rfl), by repeat (first | (with_reducible first | exact HB.out | apply below_alloc | apply pw_below_drewN | apply below_drew1 | refine below_set ?_ GE101.out) | exact HB.out)⟩
            · replace c13 := Bool.eq_false_iff.mpr c13
              subst c13
              have H1 : (some false) = some r := by rw [if_neg (show ¬ (false = true) by decide)] at H; exact H
              clear H
              have H := H1
              clear H1
              obtain rfl := Option.some.inj H
              go_wp2
              go_ret
              exact ⟨by first | rfl | (simp [errW_none, errW_some] <;> rfl) | (simp [*, errW_none, errW_some] <;> rfl), by repeat (first | (with_reducible first | exact HB.out | apply below_alloc | apply pw_below_drewN | apply below_drew1 | refine below_set ?_ GE101.out) | exact HB.out)⟩
  · rw [if_neg c2] at H
    have c2b0 : (a0_0 == 6) = false := beq_eq_false_iff_ne.mpr c2
    have c2b1 : (a0_0 != 6) = true := bne_iff_ne.mpr c2
    replace H := Option.bind_eq_some_iff.mp H
    obtain ⟨t102, A200, H⟩ := H
    replace H : (if t102 = true then (some ((l0_4.length : Int) == 0)) else (some false)) = some r := H
    have A20 := Aside0.mk A200
    clear A200
    by_cases c21 : t102 = true
    · subst c21
      have H1 : (some ((l0_4.length : Int) == 0)) = some r := by rw [if_pos rfl] at H; exact H
      clear H
      have H := H1
      clear H1
      obtain rfl := Option.some.inj H
      go_enter Try.func31, Try.ntmps31
      go_wp2_with (first | ((with_reducible refine gate_dst (N := 1) rfl ?_); (try (refine gate_guard (by rfl) ?_; dsimp only)); refine box_event ?hg (N := 1) ?hd (cs := #[.int .i64 a0_0, .int .i64 a0_1, .float .f64 a0_2, .string a0_3, .slice A0_4 l0_4.length c0_4]) (t := 29) ?hr ?_; (case hd => rfl); (case hg => rfl); (case hr => first | (go_simp; done) | (go_simp; rfl)); intro gb101 hg w22 hbox hb; have n0_ := Aside0.mk (below_step (by repeat (first | (with_reducible first | exact HB.out | apply below_alloc | apply pw_below_drewN | apply below_drew1) | exact HB.out)) hb); have n1_ := Aside0.mk (hbox); have n2_ := Aside0.mk ((by rw [hg]; exact (below_size (by repeat (first | (with_reducible first | exact HB.out | apply below_alloc | apply pw_below_drewN | apply below_drew1) | exact HB.out))) : w.heap.size ≤ gb101)); have n3_ := Aside0.mk ((by rw [hg]; exact (below_size (by repeat (first | (with_reducible first | exact HB.out | apply below_alloc | apply pw_below_drewN | apply below_drew1) | exact HB.out))) : w.heap.size ≤ gb101)); clear HB; have HB := n0_; have BK101 := n1_; have GW101 := n2_; have GE101 := n3_; clear n0_ n1_ n2_ n3_; clear hb hbox hg; have hcz23_0 : w22.cell? ⟨gb101, 0, none⟩ = some (.int .i64 a0_0) := (blk_cell BK101.out 0).trans rfl; have hcz23_1 : w22.cell? ⟨gb101, 1, none⟩ = some (.int .i64 a0_1) := (blk_cell BK101.out 1).trans rfl; have hcz23_2 : w22.cell? ⟨gb101, 2, none⟩ = some (.float .f64 a0_2) := (blk_cell BK101.out 2).trans rfl; have hcz23_3 : w22.cell? ⟨gb101, 3, none⟩ = some (.string a0_3) := (blk_cell BK101.out 3).trans rfl; have hcz23_4 : w22.cell? ⟨gb101, 4, none⟩ = some (.slice A0_4 l0_4.length c0_4) := (blk_cell BK101.out 4).trans rfl; have hfz23_0 := blk_frozen BK101.out 0; have hfz23_1 := blk_frozen BK101.out 1; have hfz23_2 := blk_frozen BK101.out 2; have hfz23_3 := blk_frozen BK101.out 3; have hfz23_4 := blk_frozen BK101.out 4) | ((with_reducible refine gate_callee (f := 51) rfl ?_); refine goesL_ (some 12) rfl rfl Try.func51 (by kernel_rfl) rfl #[.agg #[.int .i64 a0_0, .int .i64 a0_1, .float .f64 a0_2, .string a0_3]] rfl (by (try simp only [List.map_toArray, List.map_cons, List.map_nil]); first | done | rfl | (simp only [List.length_drop, List.length_take]; rfl)) ?_; (with_reducible refine (value_item_valid.calls a0_0 a0_1 a0_2 a0_3 true _ A20.out).mono ?_); rintro e w24 ⟨rfl, hb⟩; refine ⟨_, rfl, ?_⟩; have n0_ := Aside0.mk (blk_below (g := gb101) (o := .cells #[.int .i64 a0_0, .int .i64 a0_1, .float .f64 a0_2, .string a0_3, .slice A0_4 l0_4.length c0_4] 29 (0, 0)) (by (with_reducible repeat (first | refine blk_drewN ?_ _ | refine blk_drew ?_ | refine blk_alloc ?_ _)); exact BK101.out) hb); have n1_ := Aside0.mk (below_step (by repeat (first | (with_reducible first | exact HB.out | apply below_alloc | apply pw_below_drewN | apply below_drew1 | refine below_set ?_ GE101.out) | exact HB.out)) hb); clear BK101; clear HB; have BK101 := n0_; have HB := n1_; clear n0_ n1_; (try clear hb); (try clear hb2); (try clear hk); (try clear hi); have hcz25_0 : w24.cell? ⟨gb101, 0, none⟩ = some (.int .i64 a0_0) := (blk_cell BK101.out 0).trans rfl; have hcz25_1 : w24.cell? ⟨gb101, 1, none⟩ = some (.int .i64 a0_1) := (blk_cell BK101.out 1).trans rfl; have hcz25_2 : w24.cell? ⟨gb101, 2, none⟩ = some (.float .f64 a0_2) := (blk_cell BK101.out 2).trans rfl; have hcz25_3 : w24.cell? ⟨gb101, 3, none⟩ = some (.string a0_3) := (blk_cell BK101.out 3).trans rfl; have hcz25_4 : w24.cell? ⟨gb101, 4, none⟩ = some (.slice A0_4 l0_4.length c0_4) := (blk_cell BK101.out 4).trans rfl; have hfz25_0 := blk_frozen BK101.out 0; have hfz25_1 := blk_frozen BK101.out 1; have hfz25_2 := blk_frozen BK101.out 2; have hfz25_3 := blk_frozen BK101.out 3; have hfz25_4 := blk_frozen BK101.out 4))
      go_ret
      exact ⟨by first | rfl | (simp [errW_none, errW_some] <;> rfl) | (simp [*, errW_none, errW_some] <;> rfl), by repeat (first | (with_reducible first | exact HB.out | apply below_alloc | apply pw_below_drewN | apply below_drew1 | refine below_set ?_ GE101.out) | exact HB.out)⟩
    · replace c21 := Bool.eq_false_iff.mpr c21
      subst c21
      have H1 : (some false) = some r := by rw [if_neg (show ¬ (false = true) by decide)] at H; exact H
      clear H
      have H := H1
      clear H1
      obtain rfl := Option.some.inj H
      go_enter Try.func31, Try.ntmps31
      go_wp2_with (first | ((with_reducible refine gate_dst (N := 1) rfl ?_); (try (refine gate_guard (by rfl) ?_; dsimp only)); refine box_event ?hg (N := 1) ?hd (cs := #[.int .i64 a0_0, .int .i64 a0_1, .float .f64 a0_2, .string a0_3, .slice A0_4 l0_4.length c0_4]) (t := 29) ?hr ?_; (case hd => rfl); (case hg => rfl); (case hr => first | (go_simp; done) | (go_simp; rfl)); intro gb101 hg w26 hbox hb; have n0_ := Aside0.mk (below_step (by repeat (first | (with_reducible first | exact HB.out | apply below_alloc | apply pw_below_drewN | apply below_drew1) | exact HB.out)) hb); have n1_ := Aside0.mk (hbox); have n2_ := Aside0.mk ((by rw [hg]; exact (below_size (by repeat (first | (with_reducible first | exact HB.out | apply below_alloc | apply pw_below_drewN | apply below_drew1) | exact HB.out))) : w.heap.size ≤ gb101)); have n3_ := Aside0.mk ((by rw [hg]; exact (below_size (by repeat (first | (with_reducible first | exact HB.out | apply below_alloc | apply pw_below_drewN | apply below_drew1) | exact HB.out))) : w.heap.size ≤ gb101)); clear HB; have HB := n0_; have BK101 := n1_; have GW101 := n2_; have GE101 := n3_; clear n0_ n1_ n2_ n3_; clear hb hbox hg; have hcz27_0 : w26.cell? ⟨gb101, 0, none⟩ = some (.int .i64 a0_0) := (blk_cell BK101.out 0).trans rfl; have hcz27_1 : w26.cell? ⟨gb101, 1, none⟩ = some (.int .i64 a0_1) := (blk_cell BK101.out 1).trans rfl; have hcz27_2 : w26.cell? ⟨gb101, 2, none⟩ = some (.float .f64 a0_2) := (blk_cell BK101.out 2).trans rfl; have hcz27_3 : w26.cell? ⟨gb101, 3, none⟩ = some (.string a0_3) := (blk_cell BK101.out 3).trans rfl; have hcz27_4 : w26.cell? ⟨gb101, 4, none⟩ = some (.slice A0_4 l0_4.length c0_4) := (blk_cell BK101.out 4).trans rfl; have hfz27_0 := blk_frozen BK101.out 0; have hfz27_1 := blk_frozen BK101.out 1; have hfz27_2 := blk_frozen BK101.out 2; have hfz27_3 := blk_frozen BK101.out 3; have hfz27_4 := blk_frozen BK101.out 4) | ((with_reducible refine gate_callee (f := 51) rfl ?_); refine goesL_ (some 12) rfl rfl Try.func51 (by kernel_rfl) rfl #[.agg #[.int .i64 a0_0, .int .i64 a0_1, .float .f64 a0_2, .string a0_3]] rfl (by (try simp only [List.map_toArray, List.map_cons, List.map_nil]); first | done | rfl | (simp only [List.length_drop, List.length_take]; rfl)) ?_; (with_reducible refine (value_item_valid.calls a0_0 a0_1 a0_2 a0_3 false _ A20.out).mono ?_); rintro e w28 ⟨rfl, hb⟩; refine ⟨_, rfl, ?_⟩; have n0_ := Aside0.mk (blk_below (g := gb101) (o := .cells #[.int .i64 a0_0, .int .i64 a0_1, .float .f64 a0_2, .string a0_3, .slice A0_4 l0_4.length c0_4] 29 (0, 0)) (by (with_reducible repeat (first | refine blk_drewN ?_ _ | refine blk_drew ?_ | refine blk_alloc ?_ _)); exact BK101.out) hb); have n1_ := Aside0.mk (below_step (by repeat (first | (with_reducible first | exact HB.out | apply below_alloc | apply pw_below_drewN | apply below_drew1 | refine below_set ?_ GE101.out) | exact HB.out)) hb); clear BK101; clear HB; have BK101 := n0_; have HB := n1_; clear n0_ n1_; (try clear hb); (try clear hb2); (try clear hk); (try clear hi)))
      go_ret
      exact ⟨by first | rfl | (simp [errW_none, errW_some] <;> rfl) | (simp [*, errW_none, errW_some] <;> rfl), by repeat (first | (with_reducible first | exact HB.out | apply below_alloc | apply pw_below_drewN | apply below_drew1 | refine below_set ?_ GE101.out) | exact HB.out)⟩
end Go.Proofs.Ytnfapjkffofcaaa.PX
namespace Go.Proofs.Ytnfapjkffofcaaa.G
open Go.RowKit Go.Proofs.YtnfapjkffofcaaaW.PrintWords Go.Proofs.Ytnfapjkffofcaaa.FW Go.Proofs.Ytnfapjkffofcaaa.FL Go.Proofs.Ytnfapjkffofcaaa.EV Go.Proofs.Ytnfapjkffofcaaa.PK
set_option linter.unusedVariables false
set_option linter.unusedSimpArgs false
theorem bits_some (f : Nat) : cobwebref03_bits.f f = some ((f : Nat) : Int) := (show cobwebref03_bits.f f = some ((f : Nat) : Int) from rfl).trans (Eq.symm (Eq.refl _))
def validV (v : Val) : Bool := if v.f0.f0 = 6 then plainA v.f0 && decide (v.f1.length ≤ 16) && v.f1.all validA else validA v.f0 && decide (v.f1.length = 0)
theorem rdA (l : List Atom) (i : Nat) (h : i < l.length) : rd_T26 l (i : Int) = l[i] := by simp [rd_T26, List.getElem?_eq_getElem h]
theorem valid_loop (l : List Atom) (hl : l.length ≤ 16) (k n : Int) (f : Nat) (s : ByteArray) : ∀ (d : Nat) (i : Nat) (x : Bool), i ≤ l.length → l.length - i = d →
    Ev (fun K => PX.value_Valid.l0 K x i k n f s l) (x && (l.drop i).all validA) := by
  intro d
  induction d with
  | zero =>
    intro i x hi hd
    refine Ev.step (fun _ => rfl) ?_
    simp only [PX.value_Valid.l0]
    rw [List.drop_of_length_le (by omega), List.all_nil, Bool.and_true]
    cases x
    · exact ite_f (by decide) (Ev.now _)
    · exact ite_t rfl (ite_f (by omega) (Ev.now _))
  | succ d ih =>
    intro i x hi hd
    refine Ev.step (fun _ => rfl) ?_
    simp only [PX.value_Valid.l0]
    have hlt : i < l.length := by omega
    cases x
    · rw [Bool.false_and]
      exact ite_f (by decide) (Ev.now _)
    · refine ite_t rfl (ite_t (by omega) (ite_t (by omega) ?_))
      rw [rdA l i hlt, List.drop_eq_getElem_cons hlt, List.all_cons, Bool.true_and]
      refine some_bind ?_
      rw [wrap64_id (by omega) (by omega)]
      exact ih (i + 1) _ (by omega) (by omega)
theorem validV_eq (k n : Int) (f : Nat) (s : ByteArray) (l : List Atom) : Ev (fun K => PX.value_Valid.f K k n f s l) (validV ⟨⟨k, n, f, s⟩, l⟩) := by
  unfold PX.value_Valid.f validV
  simp only []
  by_cases h6 : k = 6
  · rw [if_pos h6]
    refine ite_t h6 (some_bind ?_)
    have e : ((false || decide (n = 0)) && (false || decide (f = 0)) && (false || s.toList.isEmpty)) = plainA ⟨k, n, f, s⟩ := by
      unfold plainA
      simp
    rw [e]
    have j0 : ∀ x : Bool, (x = true → l.length ≤ 16) → Ev (fun K => PX.value_Valid.j0 K x k n f s l) (x && l.all validA) := fun x hx => by
      refine Ev.step (fun _ => rfl) ?_
      simp only [PX.value_Valid.j0]
      cases x
      · rw [Bool.false_and]
        refine Ev.step (fun _ => rfl) ?_
        simp only [PX.value_Valid.l0]
        exact ite_f (by decide) (Ev.now _)
      · exact valid_loop l (hx rfl) k n f s l.length 0 true (by omega) (by omega)
    have hd : decide ((l.length : Int) ≤ 16) = decide (l.length ≤ 16) := by rw [decide_eq_decide]; omega
    cases hp : plainA ⟨k, n, f, s⟩
    · rw [Bool.false_and, Bool.false_and]
      exact ite_f (by decide) (j0 false (by simp))
    · rw [Bool.true_and, ← hd]
      exact ite_t rfl (j0 _ (by simp; omega))
  · rw [if_neg h6]
    refine ite_f h6 (some_bind ?_)
    have hd : ((l.length : Int) == 0) = decide (l.length = 0) := by rw [Bool.eq_iff_iff, beq_iff_eq, decide_eq_true_eq]; omega
    rw [← hd]
    cases validA ⟨k, n, f, s⟩
    · rw [Bool.false_and]
      exact ite_f (by decide) (Ev.now _)
    · rw [Bool.true_and]
      exact ite_t rfl (Ev.now _)
def cobwebref03_atom.f (a0_0 a0_1 : Int) (a0_2 : Nat) (a0_3 : ByteArray) : Option Bool := if a0_2 < 18446744073709551616 then some (validA ⟨a0_0, a0_1, a0_2, a0_3⟩) else none
theorem cobwebref03_atom.calls (a0_0 : Int) (a0_1 : Int) (a0_2 : Nat) (a0_3 : ByteArray) (r : Bool) (w : World) (h : cobwebref03_atom.f a0_0 a0_1 a0_2 a0_3 = some r) :
    Calls Try.prog 29 #[.agg #[.int .i64 a0_0, .int .i64 a0_1, .float .f64 a0_2, .string a0_3]] w fun e w' => e = .returned (.bool r) ∧ Below w.heap.size w w' := by
  unfold cobwebref03_atom.f at h
  split at h
  · rename_i hf
    obtain rfl := Option.some.inj h
    exact h_ratom _ _ _ _ hf _
  · cases h
def value_Valid.f (a0_0 a0_1 : Int) (a0_2 : Nat) (a0_3 : ByteArray) (l0_4 : List Atom) : Option Bool := some (validV ⟨⟨a0_0, a0_1, a0_2, a0_3⟩, l0_4⟩)
theorem value_Valid.of {a0_0 a0_1 : Int} {a0_2 : Nat} {a0_3 : ByteArray} {l0_4 : List Atom} {r : Bool} (h : value_Valid.f a0_0 a0_1 a0_2 a0_3 l0_4 = some r) : ∃ k, PX.value_Valid.f k a0_0 a0_1 a0_2 a0_3 l0_4 = some r := by
  injection h with h
  rw [← h]
  exact (validV_eq a0_0 a0_1 a0_2 a0_3 l0_4).rounds
theorem value_Valid.calls (a0_0 : Int) (a0_1 : Int) (a0_2 : Nat) (a0_3 : ByteArray) (A0_4 : Option Addr) (c0_4 : Nat) (l0_4 : List (S26)) (r : Bool) (w : World) (hr0_4 : Kd.C k26 w A0_4 l0_4.length l0_4) (hc0_4 : l0_4.length ≤ c0_4) (h : value_Valid.f a0_0 a0_1 a0_2 a0_3 l0_4 = some r) :
    Calls Try.prog 31 #[.agg #[.int .i64 a0_0, .int .i64 a0_1, .float .f64 a0_2, .string a0_3, .slice A0_4 l0_4.length c0_4]] w fun e w' => e = .returned (.bool r) ∧ Below w.heap.size w w' := by
  obtain ⟨k, hk⟩ := value_Valid.of h
  exact PX.value_Valid.calls k a0_0 a0_1 a0_2 a0_3 A0_4 c0_4 l0_4 r w hr0_4 hc0_4 hk
end Go.Proofs.Ytnfapjkffofcaaa.G
namespace Go.Proofs.Ytnfapjkffofcaaa.G
open Go.RowKit Go.Proofs.YtnfapjkffofcaaaW.PrintWords Go.Proofs.YtnfapjkffofcaaaW.PrintLast Go.Proofs.Ytnfapjkffofcaaa.FW Go.Proofs.Ytnfapjkffofcaaa.FL Go.Proofs.Ytnfapjkffofcaaa.EV Go.Proofs.Ytnfapjkffofcaaa.PK
set_option linter.unusedVariables false
set_option linter.unusedSimpArgs false
abbrev Prp := S61
def isName (s : ByteArray) (p : Prp) : Bool := p.f0.toList == s.toList
theorem getHas (s : ByteArray) (B : Nat) (p : Prp) (A : Option Addr) (c : Nat) (W : World) (hB : B < W.heap.size) (hc : W.cell? ⟨B, 0, none⟩ = some (.string s)) :
    Calls Try.prog 63 #[.agg #[.string p.f0, .int .i64 p.f1.f0.f0, .int .i64 p.f1.f0.f1, .float .f64 p.f1.f0.f2, .string p.f1.f0.f3, .slice A p.f1.f1.length c], .pointer (some ⟨B, 0, none⟩)] W
      fun e w' => e = .returned (.bool (isName s p)) ∧ Below W.heap.size W w' := by
  have hne : B ≠ W.heap.size := by omega
  go_enter Try.func63, Try.ntmps63
  go_wp2
  all_goals (go_ret; exact ⟨by simp_all [isName], below_alloc (Below.refl _ _) _⟩)
def idxN (s : ByteArray) : List Prp → Int → Int
  | [], _ => -1
  | p :: l, i => if isName s p = true then i else idxN s l (i + 1)
theorem getIdx (s : ByteArray) (B : Nat) (l : List Prp) (A : Option Addr) (c : Nat) (w : World) (ok : Nat → Prop) (base : Nat) (hB : B < w.heap.size) (hc : w.cell? ⟨B, 0, none⟩ = some (.string s))
    (hv : Kd.V k61 61 w base ok (.slice A l.length c) l) (hl : l.length ≤ 140737488351232) :
    Calls Try.prog 62 #[.slice A l.length c, .func (.func 63) #[] #[.pointer (some ⟨B, 0, none⟩)]] w
      fun e w' => e = .returned (.int .i64 (idxN s l 0)) ∧ Below w.heap.size w w' := by
  go_enter Try.func62, Try.ntmps62
  go_wp2
  go_loopg [5, 8] l.length (fun gg _ s8 wr => ∃ kk : Nat, kk ≤ l.length ∧ l.length - kk ≤ gg ∧ s8 = .int .i64 kk ∧ Aside0 (Below w.heap.size w wr) ∧ Aside0 (idxN s l 0 = idxN s (l.drop kk) kk))
  case atStart => exact ⟨0, Nat.zero_le _, by omega, rfl, ⟨Below.refl _ w⟩, ⟨rfl⟩⟩
  case round =>
    obtain ⟨kk, hkk, hg, rfl, BW, HA⟩ := hrel
    have HV := Aside0.mk (Kd.V_below hv BW.out)
    have HC := Aside0.mk ((BW.out.cell (p := ⟨B, 0, none⟩) hB).trans hc)
    have hBr : B < wr.heap.size := Nat.lt_of_lt_of_le hB BW.out.size
    clear hv hc
    by_cases hlt : kk < l.length
    · have hltz : (kk : Int) < (l.length : Int) := by omega
      obtain ⟨ad, A5, c5, rfl, hx0, hx1, hx2, hx3, hx4, hx5, hl5, hr5⟩ := at_T61 (Kd.V_reads' HV.out).2.2 (kk : Int) (by omega) hltz
      simp only [Int.toNat_natCast] at hx0 hx1 hx2 hx3 hx4 hx5
      have hrd : rd_T61 l (kk : Int) = l[kk] := by simp [rd_T61, List.getElem?_eq_getElem hlt]
      have hcall := getHas s B (rd_T61 l (kk : Int)) A5 c5 wr hBr HC.out
      have HI : Aside0 (idxN s l 0 = if isName s (rd_T61 l (kk : Int)) = true then (kk : Int) else idxN s (l.drop (kk + 1)) ((kk : Int) + 1)) := ⟨by rw [HA.out, List.drop_eq_getElem_cons hlt, idxN, hrd]⟩
      clear hrd HA HC
      generalize rd_T61 l (kk : Int) = y at *
      cases hq : isName s y with
      | true =>
        rw [hq] at hcall
        go_wp2_with (go_at_call 63; refine hcall.mono ?_; rintro e w' ⟨rfl, hb'⟩)
        go_ret
        refine ⟨?_, BW.out.trans (hb'.mono BW.out.size)⟩
        rw [HI.out, if_pos hq]
        rfl
      | false =>
        rw [hq] at hcall
        go_wp2_with (go_at_call 63; refine hcall.mono ?_; rintro e w' ⟨rfl, hb'⟩)
        go_roundg (l.length - (kk + 1))
        case measure => omega
        case rel =>
          exact ⟨kk + 1, by omega, by omega, by go_num, ⟨BW.out.trans (hb'.mono BW.out.size)⟩, ⟨by rw [HI.out, if_neg (by rw [hq]; decide)]; rfl⟩⟩
    · have hltz : ¬ (kk : Int) < (l.length : Int) := by omega
      have e : kk = l.length := by omega
      subst e
      go_wp2
      go_ret
      refine ⟨?_, BW.out⟩
      rw [HA.out, List.drop_length]
      rfl
def findP (s : ByteArray) (l : List Prp) : Option Prp := l.find? (isName s)
def getP (s : ByteArray) (l : List Prp) : Int × Int × Nat × ByteArray × List Atom × Bool :=
  match findP s l with
  | some p => (p.f1.f0.f0, p.f1.f0.f1, p.f1.f0.f2, p.f1.f0.f3, p.f1.f1, true)
  | none => (0, 0, 0, ⟨#[]⟩, [], false)
theorem idxN_cases (s : ByteArray) : ∀ (l : List Prp) (i : Int), (idxN s l i = -1 ∧ findP s l = none) ∨ ∃ k : Nat, ∃ h : k < l.length, idxN s l i = i + k ∧ findP s l = some l[k]
  | [], i => .inl ⟨rfl, rfl⟩
  | p :: l, i => by
    unfold idxN findP
    rw [List.find?_cons]
    cases hp : isName s p
    · simp only [Bool.false_eq_true, if_false]
      rcases idxN_cases s l (i + 1) with ⟨h1, h2⟩ | ⟨k, hk, h1, h2⟩
      · exact .inl ⟨h1, h2⟩
      · refine .inr ⟨k + 1, by simpa using hk, by rw [h1]; omega, ?_⟩
        exact h2
    · exact .inr ⟨0, by simp, by simp, rfl⟩
theorem rowAt {W : World} {base : Nat} {ok : Nat → Prop} {A : Option Addr} {c : Nat} {l : List Prp} (h : Kd.V k61 61 W base ok (.slice A l.length c) l) (k : Nat) (hk : k < l.length) :
    ∃ ad A5 c5, A = some ad ∧ W.cell? ⟨(ad.add (k * 6)).block, (ad.add (k * 6)).off + 1, none⟩ = some (.int .i64 l[k].f1.f0.f0) ∧ W.cell? ⟨(ad.add (k * 6)).block, (ad.add (k * 6)).off + 2, none⟩ = some (.int .i64 l[k].f1.f0.f1) ∧
      W.cell? ⟨(ad.add (k * 6)).block, (ad.add (k * 6)).off + 3, none⟩ = some (.float .f64 l[k].f1.f0.f2) ∧ W.cell? ⟨(ad.add (k * 6)).block, (ad.add (k * 6)).off + 4, none⟩ = some (.string l[k].f1.f0.f3) ∧
      W.cell? ⟨(ad.add (k * 6)).block, (ad.add (k * 6)).off + 5, none⟩ = some (.slice A5 l[k].f1.f1.length c5) ∧ Aside0 (Kd.V k26 26 W base ok (.slice A5 l[k].f1.f1.length c5) l[k].f1.f1) := by
  obtain ⟨ad, A5, c5, rfl, hx0, hx1, hx2, hx3, hx4, hx5, hl5, hr5⟩ := at_T61 (Kd.V_reads' h).2.2 (k : Int) (by omega) (by omega)
  obtain ⟨ce, hce, hMe, hcc⟩ := Kd.V_get h z61 (k : Int) (by omega) (by omega)
  obtain ⟨ua, uc, rfl, ul, ge⟩ := k61_openF hMe
  have hv := hcc 5 _ rfl
  rw [add_field _ _ 5 (by omega)] at hv
  replace hv := Option.some.inj (hv.symm.trans hx5)
  injection hv with hva hvn hvc
  rw [hva] at ge
  rw [hvc] at ul
  have hrd : rd_T61 l (k : Int) = l[k] := by simp [rd_T61, List.getElem?_eq_getElem hk]
  have hgd : l.getD ((k : Int)).toNat z61 = l[k] := hrd
  rw [hgd] at ul ge
  simp only [Int.toNat_natCast, hrd] at hx1 hx2 hx3 hx4 hx5
  exact ⟨ad, A5, c5, rfl, hx1, hx2, hx3, hx4, hx5, ⟨Kd.V_mk ul ge⟩⟩
def record_Get.f (l0 : List Prp) (a1 : ByteArray) : Option (Int × Int × Nat × ByteArray × List Atom × Bool) := if l0.length ≤ 140737488351232 then some (getP a1 l0) else none
set_option maxHeartbeats 4000000 in
theorem record_Get.calls (P0_ : Nat → Prop) (A0 : Option Addr) (c0 : Nat) (l0 : List Prp) (a1 : ByteArray) (r1 : Int) (r2 : Int) (r3 : Nat) (r4 : ByteArray) (r5 : List Atom) (r6 : Bool) (w : World) (hs0 : Kd.V k61 61 w w.heap.size (fun k_ => P0_ k_) (.slice A0 l0.length c0) l0) (h : record_Get.f l0 a1 = some (r1, r2, r3, r4, r5, r6)) :
    Calls Try.prog 45 #[.slice A0 l0.length c0, .string a1] w fun e w' => ∃ v4_ : Value, e = .returned (.tuple #[.agg #[.int .i64 r1, .int .i64 r2, .float .f64 r3, .string r4, v4_], .bool r6]) ∧ Kd.V k26 26 w' w.heap.size (fun k_ => (P0_ k_ ∨ w.heap.size ≤ k_)) v4_ r5 ∧ Below w.heap.size w w' := by
  unfold record_Get.f at h
  split at h
  case isFalse => cases h
  rename_i hl
  injection h with h
  have hcon : ∀ W B, Below w.heap.size w W → B < W.heap.size → W.cell? ⟨B, 0, none⟩ = some (.string a1) → _ := fun W B hb hB hc => getIdx a1 B l0 A0 c0 W _ _ hB hc (Kd.V_below hs0 hb) hl
  have HV := Aside0.mk (Kd.V_elderB hs0 (w.heap.size + 1) (by omega))
  clear hs0
  unfold getP at h
  have hsz : ∀ o, (w.alloc o).heap.size = w.heap.size + 1 := fun o => by simp
  have hbk : ∀ w', Below ((w.alloc (.cells #[.string a1] 9)).alloc (.cells #[.int .i64 0, .int .i64 0, .float .f64 0, .string (⟨#[]⟩ : ByteArray), .slice none 0 0] 29)).heap.size ((w.alloc (.cells #[.string a1] 9)).alloc (.cells #[.int .i64 0, .int .i64 0, .float .f64 0, .string (⟨#[]⟩ : ByteArray), .slice none 0 0] 29)) w' → w'.heap[w.heap.size + 1]? = some (.cells #[.int .i64 0, .int .i64 0, .float .f64 0, .string (⟨#[]⟩ : ByteArray), .slice none 0 0] 29 (0, 0)) ∧ Below w.heap.size w w' ∧ Aside0 (Kd.V k61 61 w' w.heap.size (fun k => P0_ k ∧ k ≠ w.heap.size + 1) (.slice A0 l0.length c0) l0) := fun w' hb => by
    have h1 := blk_new (w.alloc (.cells #[.string a1] 9)) (.cells #[.int .i64 0, .int .i64 0, .float .f64 0, .string (⟨#[]⟩ : ByteArray), .slice none 0 0] 29)
    rw [hsz] at h1
    exact ⟨blk_below h1 hb, (below_alloc (below_alloc (Below.refl _ _) _) _).trans (hb.mono (by simp; omega)), ⟨Kd.V_below (Kd.V_alloc (Kd.V_alloc HV.out _) _) hb⟩⟩
  clear HV
  rcases idxN_cases a1 l0 0 with ⟨hi, hf⟩ | ⟨k, hk, hi, hf⟩
  · rw [hf] at h
    simp only [Prod.mk.injEq] at h
    obtain ⟨rfl, rfl, rfl, rfl, rfl, rfl⟩ := h
    rw [hi] at hcon
    go_enter Try.func45, Try.ntmps45
    go_wp2_with (go_at_call 62; refine (hcon _ _ (below_alloc (below_alloc (Below.refl _ _) _) _) (by simp; omega) (by simp)).mono ?_; rintro e w' ⟨rfl, hb'⟩; obtain ⟨BK, HB, HV⟩ := hbk w' hb'; have HB := Aside0.mk HB; clear hb' hbk hcon; have hc0 : w'.cell? ⟨w.heap.size + 1, 0, none⟩ = some (.int .i64 0) := (blk_cell BK 0).trans rfl; have hc1 : w'.cell? ⟨w.heap.size + 1, 1, none⟩ = some (.int .i64 0) := (blk_cell BK 1).trans rfl; have hc2 : w'.cell? ⟨w.heap.size + 1, 2, none⟩ = some (.float .f64 0) := (blk_cell BK 2).trans rfl; have hc3 : w'.cell? ⟨w.heap.size + 1, 3, none⟩ = some (.string (⟨#[]⟩ : ByteArray)) := (blk_cell BK 3).trans rfl; have hc4 : w'.cell? ⟨w.heap.size + 1, 4, none⟩ = some (.slice none 0 0) := (blk_cell BK 4).trans rfl; have hf0 := blk_frozen BK 0; have hf1 := blk_frozen BK 1; have hf2 := blk_frozen BK 2; have hf3 := blk_frozen BK 3; have hf4 := blk_frozen BK 4; have BK := Aside0.mk BK)
    apply bodyPost_ret
    · exact results_ct rfl _ _ (w.heap.size + 1) 29 #[.int .i64 0, .int .i64 0, .float .f64 0, .string (⟨#[]⟩ : ByteArray), .slice none 0 0] (0, 0) _ rfl (blk_put (blk_put (blk_put (blk_put (blk_put BK.out 0 _ rfl) 1 _ rfl) 2 _ rfl) 3 _ rfl) 4 _ rfl) Try.underlying29 rfl (by kernel_rfl)
    · rfl
    · exact ⟨_, rfl, Kd.V_nil _ _ _ _ _, below_set (below_set (below_set (below_set (below_set HB.out (by omega)) (by omega)) (by omega)) (by omega)) (by omega)⟩
  · rw [hf] at h
    simp only [Prod.mk.injEq] at h
    obtain ⟨rfl, rfl, rfl, rfl, rfl, rfl⟩ := h
    rw [hi, Int.zero_add] at hcon
    have hkz : ¬ (k : Int) < 0 := by omega
    have hkl : (k : Int) < (l0.length : Int) := by omega
    have hk0 : (0 : Int) ≤ (k : Int) := by omega
    go_enter Try.func45, Try.ntmps45
    go_wp2_with (go_at_call 62; refine (hcon _ _ (below_alloc (below_alloc (Below.refl _ _) _) _) (by simp; omega) (by simp)).mono ?_; rintro e w' ⟨rfl, hb'⟩; obtain ⟨BK, HB, HV⟩ := hbk w' hb'; have HB := Aside0.mk HB; clear hb' hbk hcon; have hc0 : w'.cell? ⟨w.heap.size + 1, 0, none⟩ = some (.int .i64 0) := (blk_cell BK 0).trans rfl; have hc1 : w'.cell? ⟨w.heap.size + 1, 1, none⟩ = some (.int .i64 0) := (blk_cell BK 1).trans rfl; have hc2 : w'.cell? ⟨w.heap.size + 1, 2, none⟩ = some (.float .f64 0) := (blk_cell BK 2).trans rfl; have hc3 : w'.cell? ⟨w.heap.size + 1, 3, none⟩ = some (.string (⟨#[]⟩ : ByteArray)) := (blk_cell BK 3).trans rfl; have hc4 : w'.cell? ⟨w.heap.size + 1, 4, none⟩ = some (.slice none 0 0) := (blk_cell BK 4).trans rfl; have hf0 := blk_frozen BK 0; have hf1 := blk_frozen BK 1; have hf2 := blk_frozen BK 2; have hf3 := blk_frozen BK 3; have hf4 := blk_frozen BK 4; have BK := Aside0.mk BK; obtain ⟨ad, A5, c5, rfl, hx1, hx2, hx3, hx4, hx5, HL⟩ := rowAt HV.out k hk; clear HV)
    apply bodyPost_ret
    · exact results_ct rfl _ _ (w.heap.size + 1) 29 #[.int .i64 l0[k].f1.f0.f0, .int .i64 l0[k].f1.f0.f1, .float .f64 l0[k].f1.f0.f2, .string l0[k].f1.f0.f3, .slice A5 l0[k].f1.f1.length c5] (0, 0) _ rfl (blk_put (blk_put (blk_put (blk_put (blk_put BK.out 0 _ rfl) 1 _ rfl) 2 _ rfl) 3 _ rfl) 4 _ rfl) Try.underlying29 rfl (by kernel_rfl)
    · rfl
    · exact ⟨_, rfl, Kd.V_mono (Kd.V_far (Kd.V_far (Kd.V_far (Kd.V_far (Kd.V_far HL.out (fun _ h_ => h_.2) _) (fun _ h_ => h_.2) _) (fun _ h_ => h_.2) _) (fun _ h_ => h_.2) _) (fun _ h_ => h_.2) _) (fun _ h_ => .inl h_.1), below_set (below_set (below_set (below_set (below_set HB.out (by omega)) (by omega)) (by omega)) (by omega)) (by omega)⟩
end Go.Proofs.Ytnfapjkffofcaaa.G
namespace Go.Proofs.Ytnfapjkffofcaaa.PY
open Go.RowKit Go.Proofs.YtnfapjkffofcaaaW.PrintWords Go.Proofs.YtnfapjkffofcaaaW.PrintLast Go.Proofs.Ytnfapjkffofcaaa.FW Go.Proofs.Ytnfapjkffofcaaa.PK
set_option linter.unusedVariables false
set_option linter.unusedSimpArgs false
def errW : Option Int → Value
  | none => .nilIface
  | some c => .iface 0 (.int .i64 c)
theorem errW_none : errW none = .nilIface := rfl
theorem errW_some (c : Int) : errW (some c) = .iface 0 (.int .i64 c) := rfl
end Go.Proofs.Ytnfapjkffofcaaa.PY
namespace Go.Proofs.Ytnfapjkffofcaaa.PY
open Go.RowKit Go.Proofs.YtnfapjkffofcaaaW.PrintWords Go.Proofs.YtnfapjkffofcaaaW.PrintLast Go.Proofs.Ytnfapjkffofcaaa.FW Go.Proofs.Ytnfapjkffofcaaa.PK Go.Proofs.Ytnfapjkffofcaaa.G
set_option linter.unusedVariables false
set_option linter.unusedSimpArgs false
mutual
def cobwebref03_Valid.j0 : Nat → Bool → Int → Int → Nat → ByteArray → List (S26) → Option (Bool)
  | 0, _, _, _, _, _, _ => none
  | k + 1, x39, x102000, x102001, x102002, x102003, x102004 => if x39 = true then (some false) else (cobwebref03_Valid.l0 k 0 x102000 x102001 x102002 x102003 x102004)
def cobwebref03_Valid.l0 : Nat → Int → Int → Int → Nat → ByteArray → List (S26) → Option (Bool)
  | 0, _, _, _, _, _, _ => none
  | k + 1, x3, x102000, x102001, x102002, x102003, x102004 => if x3 < (x102004.length : Int) then (if 0 ≤ x3 then ((cobwebref03_atom.f ((rd_T26 x102004 x3).f0) ((rd_T26 x102004 x3).f1) ((rd_T26 x102004 x3).f2) ((rd_T26 x102004 x3).f3)).bind fun t105 => (if t105 = true then (cobwebref03_Valid.l0 k (wrap64 (x3 + 1)) x102000 x102001 x102002 x102003 x102004) else (some false))) else (none)) else (some true)
end
def cobwebref03_Valid.f (k : Nat) (a0_0 : Int) (a0_1 : Int) (a0_2 : Nat) (a0_3 : ByteArray) (l0_4 : List (S26)) : Option (Bool) := if a0_0 = 6 then (if a0_1 = 0 then ((cobwebref03_bits.f a0_2).bind fun t103 => (if t103 = 0 then (if ((a0_3.toList.isEmpty) = true) then (cobwebref03_Valid.j0 k (decide ((l0_4.length : Int) > 16)) a0_0 a0_1 a0_2 a0_3 l0_4) else (cobwebref03_Valid.j0 k true a0_0 a0_1 a0_2 a0_3 l0_4)) else (cobwebref03_Valid.j0 k true a0_0 a0_1 a0_2 a0_3 l0_4))) else (cobwebref03_Valid.j0 k true a0_0 a0_1 a0_2 a0_3 l0_4)) else ((cobwebref03_atom.f a0_0 a0_1 a0_2 a0_3).bind fun t102 => (if t102 = true then (some ((l0_4.length : Int) == 0)) else (some false)))
theorem cobwebref03_Valid.mono_l : ∀ k, (∀ y0 y1 y2 y3 y4 y5, LeO (cobwebref03_Valid.j0 k y0 y1 y2 y3 y4 y5) (cobwebref03_Valid.j0 (k + 1) y0 y1 y2 y3 y4 y5)) ∧ (∀ y0 y1 y2 y3 y4 y5, LeO (cobwebref03_Valid.l0 k y0 y1 y2 y3 y4 y5) (cobwebref03_Valid.l0 (k + 1) y0 y1 y2 y3 y4 y5))
  | 0 => ⟨fun _ _ _ _ _ _ r h => by simp [cobwebref03_Valid.j0] at h, fun _ _ _ _ _ _ r h => by simp [cobwebref03_Valid.l0] at h⟩
  | k + 1 => by
    obtain ⟨ih0, ih1⟩ := cobwebref03_Valid.mono_l k
    refine ⟨?_, ?_⟩
    · intro y0 y1 y2 y3 y4 y5
      unfold cobwebref03_Valid.j0
      repeat' first
      | (with_reducible exact ih0 _ _ _ _ _ _)
      | (with_reducible exact ih1 _ _ _ _ _ _)
      | (with_reducible exact LeO.refl _)
      | (with_reducible exact LeO.none _)
      | (with_reducible refine LeO.ite ?_ ?_)
      | (with_reducible refine LeO.bind ?_ (fun _ => ?_))
      | exact ih0 _ _ _ _ _ _
      | exact ih1 _ _ _ _ _ _
      | exact LeO.none _
      | refine LeO.ite ?_ ?_
      | refine LeO.bind ?_ (fun _ => ?_)
    · intro y0 y1 y2 y3 y4 y5
      unfold cobwebref03_Valid.l0
      repeat' first
      | (with_reducible exact ih0 _ _ _ _ _ _)
      | (with_reducible exact ih1 _ _ _ _ _ _)
      | (with_reducible exact LeO.refl _)
      | (with_reducible exact LeO.none _)
      | (with_reducible refine LeO.ite ?_ ?_)
      | (with_reducible refine LeO.bind ?_ (fun _ => ?_))
      | exact ih0 _ _ _ _ _ _
      | exact ih1 _ _ _ _ _ _
      | exact LeO.none _
      | refine LeO.ite ?_ ?_
      | refine LeO.bind ?_ (fun _ => ?_)
theorem cobwebref03_Valid.mono : ∀ a0 a1 a2 a3 a4 k, LeO (cobwebref03_Valid.f k a0 a1 a2 a3 a4) (cobwebref03_Valid.f (k + 1) a0 a1 a2 a3 a4) := by
  intro a0 a1 a2 a3 a4 k
  obtain ⟨ih0, ih1⟩ := cobwebref03_Valid.mono_l k
  unfold cobwebref03_Valid.f
  repeat' first
      | (with_reducible exact ih0 _ _ _ _ _ _)
      | (with_reducible exact ih1 _ _ _ _ _ _)
      | (with_reducible exact LeO.refl _)
      | (with_reducible exact LeO.none _)
      | (with_reducible refine LeO.ite ?_ ?_)
      | (with_reducible refine LeO.bind ?_ (fun _ => ?_))
      | exact ih0 _ _ _ _ _ _
      | exact ih1 _ _ _ _ _ _
      | exact LeO.none _
      | refine LeO.ite ?_ ?_
      | refine LeO.bind ?_ (fun _ => ?_)
end Go.Proofs.Ytnfapjkffofcaaa.PY
