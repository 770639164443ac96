/- Part 3 of the proof: words, contracts, plain laws. Laid by a program of this session (wip/tool/shake.py): what is needed of own and printed texts, in order. -/
import Derived.Test.YtnfapjkffofcaaaZc0
import Derived.Test.YtnfapjkffofcaaaZc1
import Derived.Test.YtnfapjkffofcaaaZc2
import Derived.Laws.FloatBits
import Derived.Laws.Externs
import Derived.Test.YtnfapjkffofcaaaProg
import Derived.Below
import Derived.Deep.Draws
import Derived.Deep.AppendLies
import Derived.Maps.AppendAt
import Derived.OwnWalk
import Derived.Laws.BytesArg
import Derived.Laws.MakeOwn
import Derived.Laws.OwnMore
import Derived.Deep.OwnRows
import Derived.Tactics
import Derived.Lib.ConvBytes
import Derived.Laws.Slices
import Derived.WalkKit
import Derived.KernelRfl
import Derived.RowKit3
import Derived.Deep.LoopGhost
import Derived.Deep.QuietTactic
import Derived.BigQuiet
import Derived.WideLaws
import Derived.Deep.DeepCutAuto
import Derived.Deep.CutBlock
import Derived.Deep.RegionHeld3
import Derived.Laws.Rows
import Derived.Lib.AppendStr
import Derived.ArgAppend
import Derived.Laws.IdiomCopy
import Derived.OrdersHeld
import Derived.Laws.BitsLemmas
import Derived.RowKit
import Derived.Laws.StructEq
namespace Go.Proofs.Ytnfapjkffofcaaa.PM
open Go.RowKit Go.Proofs.YtnfapjkffofcaaaW.PrintWords Go.Proofs.YtnfapjkffofcaaaW.PrintLast Go.Proofs.Ytnfapjkffofcaaa.FW Go.Proofs.Ytnfapjkffofcaaa.PK
set_option linter.unusedVariables false
set_option linter.unusedSimpArgs false
set_option maxHeartbeats 8000000 in
set_option maxRecDepth 100000 in
theorem cobwebref24_Follows.calls (a0_0 : Int) (a0_1 : ByteArray) (a0_2 : Int) (a0_3 : Int) (A0_4 : Option Addr) (c0_4 : Nat) (l0_4 : List (S61)) (a1_0 : ByteArray) (a1_1 : ByteArray) (a1_2 : Bool) (a1_3 : Bool) (a1_4 : Int) (a1_5 : Int) (r : Bool) (w : World) (hr0_4 : Kd.C k61 w A0_4 l0_4.length l0_4) (hc0_4 : l0_4.length ≤ c0_4) (h : cobwebref24_Follows.f a0_0 a0_1 a0_2 a0_3 l0_4 a1_0 a1_1 a1_2 a1_3 a1_4 a1_5 = some r) :
    Calls Try.prog 27 #[.agg #[.int .i64 a0_0, .string a0_1, .int .i64 a0_2, .int .i64 a0_3, .slice A0_4 l0_4.length c0_4], .agg #[.string a1_0, .string a1_1, .bool a1_2, .bool a1_3, .int .i64 a1_4, .int .i64 a1_5]] w fun e w' => e = .returned (.bool r) ∧ Below w.heap.size w w' := by
  have hu54 := Try.underlying54
  have hu69 := Try.underlying69
  have HR0_4 := Aside0.mk hr0_4
  have HC0_4 := Aside0.mk hc0_4
  clear hr0_4 hc0_4
  have HB := Aside0.mk (Below.refl w.heap.size w)
  have H : (if (a1_1.toList.isEmpty) = true then (some true) else (some (a0_1.toList == a1_1.toList))) = some r := h
  clear h
  by_cases c3 : (a1_1.toList.isEmpty) = true
  · rw [if_pos c3] at H
    have c3b0 : (a1_1.toList.isEmpty) = true := c3
    clear c3
    obtain rfl := Option.some.inj H
    go_enter Try.func27, Try.ntmps27
    go_wp2_with (first | ((with_reducible refine gate_dst (N := 2) rfl ?_); refine box_event ?hg (N := 2) ?hd (cs := #[.int .i64 a0_0, .string a0_1, .int .i64 a0_2, .int .i64 a0_3, .slice A0_4 l0_4.length c0_4]) (t := 54) ?hr ?_; (case hd => rfl); (case hg => rfl); (case hr => first | (go_simp; done) | (go_simp; rfl)); intro gb125 hg w4 hbox hb; have n0_ := Aside0.mk (below_step (by repeat (first | (with_reducible first | exact HB.out | apply below_alloc | apply pw_below_drewN | apply below_drew1) | exact HB.out)) hb); have n1_ := Aside0.mk (hbox); have n2_ := Aside0.mk ((by rw [hg]; exact (below_size (by repeat (first | (with_reducible first | exact HB.out | apply below_alloc | apply pw_below_drewN | apply below_drew1) | exact HB.out))) : w.heap.size ≤ gb125)); have n3_ := Aside0.mk ((by rw [hg]; exact (below_size (by repeat (first | (with_reducible first | exact HB.out | apply below_alloc | apply pw_below_drewN | apply below_drew1) | exact HB.out))) : w.heap.size ≤ gb125)); clear HB; have HB := n0_; have BK125 := n1_; have GW125 := n2_; have GE125 := n3_; clear n0_ n1_ n2_ n3_; clear hb hbox hg) | ((with_reducible refine gate_dst (N := 3) rfl ?_); refine box_event ?hg (N := 3) ?hd (cs := #[.string a1_0, .string a1_1, .bool a1_2, .bool a1_3, .int .i64 a1_4, .int .i64 a1_5]) (t := 69) ?hr ?_; (case hd => rfl); (case hg => rfl); (case hr => first | (go_simp; done) | (go_simp; rfl)); intro gb126 hg w5 hbox hb; have n0_ := Aside0.mk (blk_below (g := gb125) (o := .cells #[.int .i64 a0_0, .string a0_1, .int .i64 a0_2, .int .i64 a0_3, .slice A0_4 l0_4.length c0_4] 54 (0, 0)) (by (with_reducible repeat (first | refine blk_drewN ?_ _ | refine blk_drew ?_ | refine blk_alloc ?_ _)); exact BK125.out) hb); have n1_ := Aside0.mk (below_step (by repeat (first | (with_reducible first | exact HB.out | apply below_alloc | apply pw_below_drewN | apply below_drew1 | refine below_set ?_ GE125.out) | exact HB.out)) hb); have n2_ := Aside0.mk (hbox); have n3_ := Aside0.mk ((by rw [hg]; exact (below_size (by repeat (first | (with_reducible first | exact HB.out | apply below_alloc | apply pw_below_drewN | apply below_drew1 | refine below_set ?_ GE125.out) | exact HB.out))) : w.heap.size ≤ gb126)); have n4_ := Aside0.mk ((by rw [hg]; exact (below_size (by repeat (first | (with_reducible first | exact HB.out | apply below_alloc | apply pw_below_drewN | apply below_drew1 | refine below_set ?_ GE125.out) | exact HB.out))) : w.heap.size ≤ gb126)); have n5_ := Aside0.mk ((by rw [hg]; exact Nat.ne_of_lt (blk_lt (g := gb125) (o := .cells #[.int .i64 a0_0, .string a0_1, .int .i64 a0_2, .int .i64 a0_3, .slice A0_4 l0_4.length c0_4] 54 (0, 0)) (by (with_reducible repeat (first | refine blk_drewN ?_ _ | refine blk_drew ?_ | refine blk_alloc ?_ _)); exact BK125.out)) : gb125 ≠ gb126)); have n6_ := Aside0.mk ((by rw [hg]; exact Nat.ne_of_gt (blk_lt (g := gb125) (o := .cells #[.int .i64 a0_0, .string a0_1, .int .i64 a0_2, .int .i64 a0_3, .slice A0_4 l0_4.length c0_4] 54 (0, 0)) (by (with_reducible repeat (first | refine blk_drewN ?_ _ | refine blk_drew ?_ | refine blk_alloc ?_ _)); exact BK125.out)) : gb126 ≠ gb125)); clear BK125; clear HB; have BK125 := n0_; have HB := n1_; have BK126 := n2_; have GW126 := n3_; have GE126 := n4_; have NB125_126 := n5_; have NB126_125 := n6_; clear n0_ n1_ n2_ n3_ n4_ n5_ n6_; clear hb hbox hg; have hnb6 := NB126_125.out; have hnc6 := NB125_126.out; have hcz7_0 : w5.cell? ⟨gb126, 0, none⟩ = some (.string a1_0) := (blk_cell BK126.out 0).trans rfl; have hcz7_1 : w5.cell? ⟨gb126, 1, none⟩ = some (.string a1_1) := (blk_cell BK126.out 1).trans rfl; have hcz7_2 : w5.cell? ⟨gb126, 2, none⟩ = some (.bool a1_2) := (blk_cell BK126.out 2).trans rfl; have hcz7_3 : w5.cell? ⟨gb126, 3, none⟩ = some (.bool a1_3) := (blk_cell BK126.out 3).trans rfl; have hcz7_4 : w5.cell? ⟨gb126, 4, none⟩ = some (.int .i64 a1_4) := (blk_cell BK126.out 4).trans rfl; have hcz7_5 : w5.cell? ⟨gb126, 5, none⟩ = some (.int .i64 a1_5) := (blk_cell BK126.out 5).trans rfl; have hfz7_0 := blk_frozen BK126.out 0; have hfz7_1 := blk_frozen BK126.out 1; have hfz7_2 := blk_frozen BK126.out 2; have hfz7_3 := blk_frozen BK126.out 3; have hfz7_4 := blk_frozen BK126.out 4; have hfz7_5 := blk_frozen BK126.out 5))
    go_ret
    exact ⟨by first | rfl | (simp [errW_none, errW_some] <;> rfl) | (simp [*, errW_none, errW_some] <;> rfl), by repeat (first | (with_reducible first | exact HB.out | apply below_alloc | apply pw_below_drewN | apply below_drew1 | refine below_set ?_ GE125.out | refine below_set ?_ GE126.out) | exact HB.out)⟩
  · rw [if_neg c3] at H
    have c3b0 : (a1_1.toList.isEmpty) = false := by simpa using c3
    clear c3
    obtain rfl := Option.some.inj H
    go_enter Try.func27, Try.ntmps27
    go_wp2_with (first | ((with_reducible refine gate_dst (N := 2) rfl ?_); refine box_event ?hg (N := 2) ?hd (cs := #[.int .i64 a0_0, .string a0_1, .int .i64 a0_2, .int .i64 a0_3, .slice A0_4 l0_4.length c0_4]) (t := 54) ?hr ?_; (case hd => rfl); (case hg => rfl); (case hr => first | (go_simp; done) | (go_simp; rfl)); intro gb125 hg w8 hbox hb; have n0_ := Aside0.mk (below_step (by repeat (first | (with_reducible first | exact HB.out | apply below_alloc | apply pw_below_drewN | apply below_drew1) | exact HB.out)) hb); have n1_ := Aside0.mk (hbox); have n2_ := Aside0.mk ((by rw [hg]; exact (below_size (by repeat (first | (with_reducible first | exact HB.out | apply below_alloc | apply pw_below_drewN | apply below_drew1) | exact HB.out))) : w.heap.size ≤ gb125)); have n3_ := Aside0.mk ((by rw [hg]; exact (below_size (by repeat (first | (with_reducible first | exact HB.out | apply below_alloc | apply pw_below_drewN | apply below_drew1) | exact HB.out))) : w.heap.size ≤ gb125)); clear HB; have HB := n0_; have BK125 := n1_; have GW125 := n2_; have GE125 := n3_; clear n0_ n1_ n2_ n3_; clear hb hbox hg) | ((with_reducible refine gate_dst (N := 3) rfl ?_); refine box_event ?hg (N := 3) ?hd (cs := #[.string a1_0, .string a1_1, .bool a1_2, .bool a1_3, .int .i64 a1_4, .int .i64 a1_5]) (t := 69) ?hr ?_; (case hd => rfl); (case hg => rfl); (case hr => first | (go_simp; done) | (go_simp; rfl)); intro gb126 hg w9 hbox hb; have n0_ := Aside0.mk (blk_below (g := gb125) (o := .cells #[.int .i64 a0_0, .string a0_1, .int .i64 a0_2, .int .i64 a0_3, .slice A0_4 l0_4.length c0_4] 54 (0, 0)) (by (with_reducible repeat (first | refine blk_drewN ?_ _ | refine blk_drew ?_ | refine blk_alloc ?_ _)); exact BK125.out) hb); have n1_ := Aside0.mk (below_step (by repeat (first | (with_reducible first | exact HB.out | apply below_alloc | apply pw_below_drewN | apply below_drew1 | refine below_set ?_ GE125.out) | exact HB.out)) hb); have n2_ := Aside0.mk (hbox); have n3_ := Aside0.mk ((by rw [hg]; exact (below_size (by repeat (first | (with_reducible first | exact HB.out | apply below_alloc | apply pw_below_drewN | apply below_drew1 | refine below_set ?_ GE125.out) | exact HB.out))) : w.heap.size ≤ gb126)); have n4_ := Aside0.mk ((by rw [hg]; exact (below_size (by repeat (first | (with_reducible first | exact HB.out | apply below_alloc | apply pw_below_drewN | apply below_drew1 | refine below_set ?_ GE125.out) | exact HB.out))) : w.heap.size ≤ gb126)); have n5_ := Aside0.mk ((by rw [hg]; exact Nat.ne_of_lt (blk_lt (g := gb125) (o := .cells #[.int .i64 a0_0, .string a0_1, .int .i64 a0_2, .int .i64 a0_3, .slice A0_4 l0_4.length c0_4] 54 (0, 0)) (by (with_reducible repeat (first | refine blk_drewN ?_ _ | refine blk_drew ?_ | refine blk_alloc ?_ _)); exact BK125.out)) : gb125 ≠ gb126)); have n6_ := Aside0.mk ((by rw [hg]; exact Nat.ne_of_gt (blk_lt (g := gb125) (o := .cells #[.int .i64 a0_0, .string a0_1, .int .i64 a0_2, .int .i64 a0_3, .slice A0_4 l0_4.length c0_4] 54 (0, 0)) (by (with_reducible repeat (first | refine blk_drewN ?_ _ | refine blk_drew ?_ | refine blk_alloc ?_ _)); exact BK125.out)) : gb126 ≠ gb125)); clear BK125; clear HB; have BK125 := n0_; have HB := n1_; have BK126 := n2_; have GW126 := n3_; have GE126 := n4_; have NB125_126 := n5_; have NB126_125 := n6_; clear n0_ n1_ n2_ n3_ n4_ n5_ n6_; clear hb hbox hg; have hnb10 := NB126_125.out; have hnc10 := NB125_126.out; have hcz11_0 : w9.cell? ⟨gb126, 0, none⟩ = some (.string a1_0) := (blk_cell BK126.out 0).trans rfl; have hcz11_1 : w9.cell? ⟨gb126, 1, none⟩ = some (.string a1_1) := (blk_cell BK126.out 1).trans rfl; have hcz11_2 : w9.cell? ⟨gb126, 2, none⟩ = some (.bool a1_2) := (blk_cell BK126.out 2).trans rfl; have hcz11_3 : w9.cell? ⟨gb126, 3, none⟩ = some (.bool a1_3) := (blk_cell BK126.out 3).trans rfl; have hcz11_4 : w9.cell? ⟨gb126, 4, none⟩ = some (.int .i64 a1_4) := (blk_cell BK126.out 4).trans rfl; have hcz11_5 : w9.cell? ⟨gb126, 5, none⟩ = some (.int .i64 a1_5) := (blk_cell BK126.out 5).trans rfl; have hfz11_0 := blk_frozen BK126.out 0; have hfz11_1 := blk_frozen BK126.out 1; have hfz11_2 := blk_frozen BK126.out 2; have hfz11_3 := blk_frozen BK126.out 3; have hfz11_4 := blk_frozen BK126.out 4; have hfz11_5 := blk_frozen BK126.out 5; have hcz12_0 : w9.cell? ⟨gb125, 0, none⟩ = some (.int .i64 a0_0) := (blk_cell BK125.out 0).trans rfl; have hcz12_1 : w9.cell? ⟨gb125, 1, none⟩ = some (.string a0_1) := (blk_cell BK125.out 1).trans rfl; have hcz12_2 : w9.cell? ⟨gb125, 2, none⟩ = some (.int .i64 a0_2) := (blk_cell BK125.out 2).trans rfl; have hcz12_3 : w9.cell? ⟨gb125, 3, none⟩ = some (.int .i64 a0_3) := (blk_cell BK125.out 3).trans rfl; have hcz12_4 : w9.cell? ⟨gb125, 4, none⟩ = some (.slice A0_4 l0_4.length c0_4) := (blk_cell BK125.out 4).trans rfl; have hfz12_0 := blk_frozen BK125.out 0; have hfz12_1 := blk_frozen BK125.out 1; have hfz12_2 := blk_frozen BK125.out 2; have hfz12_3 := blk_frozen BK125.out 3; have hfz12_4 := blk_frozen BK125.out 4))
    go_ret
    exact ⟨by first | rfl | (simp [errW_none, errW_some] <;> rfl) | (simp [*, errW_none, errW_some] <;> rfl), by repeat (first | (with_reducible first | exact HB.out | apply below_alloc | apply pw_below_drewN | apply below_drew1 | refine below_set ?_ GE125.out | refine below_set ?_ GE126.out) | exact HB.out)⟩
end Go.Proofs.Ytnfapjkffofcaaa.PM
namespace Go.Proofs.Ytnfapjkffofcaaa.FL
open Go.Proofs.Ytnfapjkffofcaaa.FW Ieee
set_option linter.unusedVariables false
set_option linter.unusedSimpArgs false
def B52 : Nat := 4503599627370496
def S63 : Nat := 9223372036854775808
def INF : Nat := 9218868437227405312
theorem signWeight_eq : double.signWeight = S63 := rfl
theorem binade_eq : double.binade = B52 := rfl
theorem infRung_eq : double.infRung = INF := rfl
theorem leastPlace_eq : double.leastPlace = -1074 := rfl
def rung (b : Nat) : Nat := b % S63
def neg (b : Nat) : Bool := b / S63 % 2 == 1
def mval (r : Nat) : Nat := if r < B52 then r else (B52 + r % B52) * 2 ^ (r / B52 - 1)
def nan (b : Nat) : Bool := decide (INF < rung b)
def sgn (s : Bool) (n : Nat) : Int := if s then -(n : Int) else n
def sv (b : Nat) : Int := sgn (neg b) (mval (rung b))
theorem mval_bounds (r : Nat) (h : B52 ≤ r) : B52 * 2 ^ (r / B52 - 1) ≤ mval r ∧ mval r < B52 * 2 ^ (r / B52) := by
  have hp : 0 < B52 := by decide
  have hm : r % B52 < B52 := Nat.mod_lt _ hp
  have hq : 1 ≤ r / B52 := (Nat.le_div_iff_mul_le hp).2 (by omega)
  unfold mval
  rw [if_neg (by omega)]
  refine ⟨Nat.mul_le_mul_right _ (by omega), ?_⟩
  obtain ⟨q, hq'⟩ : ∃ q, r / B52 = q + 1 := ⟨r / B52 - 1, by omega⟩
  rw [hq', Nat.add_sub_cancel, Nat.pow_succ, ← Nat.mul_assoc, Nat.mul_comm _ 2, ← Nat.mul_assoc]
  exact Nat.mul_lt_mul_of_pos_right (by omega) (Nat.two_pow_pos q)
theorem mval_lt {r s : Nat} (h : r < s) : mval r < mval s := by
  have hp : 0 < B52 := by decide
  by_cases hs : s < B52
  · unfold mval
    rw [if_pos (by omega), if_pos hs]
    exact h
  have hsb := mval_bounds s (by omega)
  have hq : 1 ≤ s / B52 := (Nat.le_div_iff_mul_le hp).2 (by omega)
  by_cases hr : r < B52
  · have : mval r = r := by unfold mval; rw [if_pos hr]
    rw [this]
    have : B52 * 1 ≤ B52 * 2 ^ (s / B52 - 1) := Nat.mul_le_mul_left _ (Nat.two_pow_pos _)
    omega
  have hrb := mval_bounds r (by omega)
  have hle : r / B52 ≤ s / B52 := Nat.div_le_div_right (by omega)
  by_cases e : r / B52 = s / B52
  · unfold mval
    rw [if_neg hr, if_neg hs, e]
    refine Nat.mul_lt_mul_of_pos_right ?_ (Nat.two_pow_pos _)
    have h1 := Nat.div_add_mod r B52
    have h2 := Nat.div_add_mod s B52
    rw [e] at h1
    omega
  · have : B52 * 2 ^ (r / B52) ≤ B52 * 2 ^ (s / B52 - 1) := Nat.mul_le_mul_left _ (Nat.pow_le_pow_right (by omega) (by omega))
    omega
theorem mval_zero : mval 0 = 0 := rfl
theorem mval_pos {r : Nat} (h : 0 < r) : 0 < mval r := by
  have := mval_lt h
  omega
theorem read_number (b : Nat) (h : rung b < INF) : ∃ (m e : Nat), double.read b = .number (neg b) m (-1074 + (e : Int)) ∧ m * 2 ^ e = mval (rung b) := by
  unfold Format.read mval
  rw [signWeight_eq, binade_eq, infRung_eq, leastPlace_eq]
  show ∃ m e, (if rung b < B52 then Datum.number (neg b) (rung b) (-1074) else if rung b < INF then .number (neg b) (B52 + rung b % B52) (-1074 + ((rung b / B52 - 1 : Nat) : Int)) else if rung b = INF then .infinity (neg b) else .nan (neg b) (rung b - INF)) = _ ∧ _
  by_cases h1 : rung b < B52
  · rw [if_pos h1, if_pos h1]
    exact ⟨rung b, 0, rfl, by simp⟩
  · rw [if_neg h1, if_neg h1, if_pos h]
    exact ⟨_, _, rfl, rfl⟩
theorem read_inf (b : Nat) (h : rung b = INF) : double.read b = .infinity (neg b) := by
  unfold Format.read
  rw [signWeight_eq, binade_eq, infRung_eq, leastPlace_eq]
  show (if rung b < B52 then Datum.number (neg b) (rung b) (-1074) else if rung b < INF then .number (neg b) (B52 + rung b % B52) (-1074 + ((rung b / B52 - 1 : Nat) : Int)) else if rung b = INF then .infinity (neg b) else .nan (neg b) (rung b - INF)) = _
  rw [if_neg (by rw [h]; decide), if_neg (by omega), if_pos h]
theorem read_nan (b : Nat) (h : INF < rung b) : double.read b = .nan (neg b) (rung b - INF) := by
  unfold Format.read
  rw [signWeight_eq, binade_eq, infRung_eq, leastPlace_eq]
  show (if rung b < B52 then Datum.number (neg b) (rung b) (-1074) else if rung b < INF then .number (neg b) (B52 + rung b % B52) (-1074 + ((rung b / B52 - 1 : Nat) : Int)) else if rung b = INF then .infinity (neg b) else .nan (neg b) (rung b - INF)) = _
  rw [if_neg (by have : B52 < INF := by decide
                 omega), if_neg (by omega), if_neg (by omega)]
theorem fNaN_eq (b : Nat) : fNaN b = nan b := by
  unfold fNaN nan
  rcases Nat.lt_trichotomy (rung b) INF with h | h | h
  · obtain ⟨m, e, hr, _⟩ := read_number b h
    rw [hr, decide_eq_false (by omega)]
    rfl
  · rw [read_inf b h, decide_eq_false (by omega)]
    rfl
  · rw [read_nan b h, decide_eq_true h]
    rfl
theorem cmp_scale (x y : Int) (c : Nat) (hc : 0 < c) : compare (x * c) (y * c) = compare x y := by
  have hc' : (0 : Int) < (c : Int) := by omega
  rcases Int.lt_trichotomy x y with h | h | h
  · rw [Int.compare_eq_lt.2 h, Int.compare_eq_lt.2 (Int.mul_lt_mul_of_pos_right h hc')]
  · rw [h]
    rw [Int.compare_eq_eq.2 rfl, Int.compare_eq_eq.2 rfl]
  · rw [Int.compare_eq_gt.2 h, Int.compare_eq_gt.2 (Int.mul_lt_mul_of_pos_right h hc')]
theorem signed_eq (s : Bool) (m u : Nat) : signed s m u = sgn s (m * 2 ^ u) := by
  unfold signed sgn
  rw [Nat.shiftLeft_eq]
theorem sgn_mul (s : Bool) (m c : Nat) : sgn s m * (c : Int) = sgn s (m * c) := by
  unfold sgn
  split
  · rw [Int.neg_mul, Int.natCast_mul]
  · rw [Int.natCast_mul]
theorem order_numbers (s t : Bool) (m n e f : Nat) : (Datum.number s m (-1074 + (e : Int))).order (.number t n (-1074 + (f : Int))) = some (compare (sgn s (m * 2 ^ e)) (sgn t (n * 2 ^ f))) := by
  show some (compare (signed s m ((-1074 + (e : Int)) - min (-1074 + (e : Int)) (-1074 + (f : Int))).toNat) (signed t n ((-1074 + (f : Int)) - min (-1074 + (e : Int)) (-1074 + (f : Int))).toNat)) = _
  obtain ⟨g, hg⟩ : ∃ g : Nat, g = min e f := ⟨_, rfl⟩
  have e1 : ((-1074 + (e : Int)) - min (-1074 + (e : Int)) (-1074 + (f : Int))).toNat = e - g := by omega
  have e2 : ((-1074 + (f : Int)) - min (-1074 + (e : Int)) (-1074 + (f : Int))).toNat = f - g := by omega
  rw [e1, e2, signed_eq, signed_eq, ← cmp_scale _ _ (2 ^ g) (Nat.two_pow_pos g), sgn_mul, sgn_mul, Nat.mul_assoc, Nat.mul_assoc, ← Nat.pow_add, ← Nat.pow_add,
    show e - g + g = e by omega, show f - g + g = f by omega]
theorem fOrd_eq (a b : Nat) : fOrd a b = if nan a = true ∨ nan b = true then none else some (compare (sv a) (sv b)) := by
  unfold fOrd Format.order
  by_cases ha : INF < rung a
  · rw [if_pos (.inl (by unfold nan; exact decide_eq_true ha)), read_nan a ha]
    rfl
  by_cases hb : INF < rung b
  · rw [if_pos (.inr (by unfold nan; exact decide_eq_true hb)), read_nan b hb]
    cases double.read a <;> rfl
  rw [if_neg (by unfold nan; simp [ha, hb])]
  rcases Nat.lt_or_ge (rung a) INF with h1 | h1
  · obtain ⟨m, e, hr, hv⟩ := read_number a h1
    rcases Nat.lt_or_ge (rung b) INF with h2 | h2
    · obtain ⟨n, f, hr', hv'⟩ := read_number b h2
      rw [hr, hr', order_numbers, hv, hv']
      rfl
    · have h2' : rung b = INF := by omega
      rw [hr, read_inf b h2']
      have hlt := mval_lt (show rung a < rung b by omega)
      show some (if neg b then Ordering.gt else .lt) = _
      unfold sv sgn
      cases neg a <;> cases neg b <;> simp only [Bool.false_eq_true, if_true, if_false] <;> first | rw [Int.compare_eq_lt.2 (by omega)] | rw [Int.compare_eq_gt.2 (by omega)]
  · have h1' : rung a = INF := by omega
    rcases Nat.lt_or_ge (rung b) INF with h2 | h2
    · obtain ⟨n, f, hr', hv'⟩ := read_number b h2
      rw [hr', read_inf a h1']
      have hlt := mval_lt (show rung b < rung a by omega)
      show some (if neg a then Ordering.lt else .gt) = _
      unfold sv sgn
      cases neg a <;> cases neg b <;> simp only [Bool.false_eq_true, if_true, if_false] <;> first | rw [Int.compare_eq_lt.2 (by omega)] | rw [Int.compare_eq_gt.2 (by omega)]
    · have h2' : rung b = INF := by omega
      rw [read_inf a h1', read_inf b h2']
      have hpos := mval_pos (r := INF) (by decide)
      show some (compare (neg b).toNat (neg a).toNat) = _
      unfold sv sgn
      rw [h1', h2']
      cases neg a <;> cases neg b <;> simp only [Bool.false_eq_true, if_true, if_false] <;> first | (rw [Int.compare_eq_eq.2 rfl]; rfl) | (rw [Int.compare_eq_gt.2 (by omega)]; rfl) | (rw [Int.compare_eq_lt.2 (by omega)]; rfl)
theorem ord_cases (x y : Int) : (compare x y = .lt ∧ x < y) ∨ (compare x y = .eq ∧ x = y) ∨ (compare x y = .gt ∧ y < x) := by
  rcases Int.lt_trichotomy x y with h | h | h
  · exact .inl ⟨Int.compare_eq_lt.2 h, h⟩
  · exact .inr (.inl ⟨Int.compare_eq_eq.2 h, h⟩)
  · exact .inr (.inr ⟨Int.compare_eq_gt.2 h, h⟩)
section
variable (a b : Nat)
theorem fLt_eq : fLt a b = (!nan a && !nan b && decide (sv a < sv b)) := by
  unfold fLt
  rw [fOrd_eq]
  cases nan a <;> cases nan b <;> simp
  rcases ord_cases (sv a) (sv b) with ⟨h, h'⟩ | ⟨h, h'⟩ | ⟨h, h'⟩ <;> rw [h] <;> simp <;> omega
theorem fGt_eq : fGt a b = (!nan a && !nan b && decide (sv b < sv a)) := by
  unfold fGt
  rw [fOrd_eq]
  cases nan a <;> cases nan b <;> simp
  rcases ord_cases (sv a) (sv b) with ⟨h, h'⟩ | ⟨h, h'⟩ | ⟨h, h'⟩ <;> rw [h] <;> simp <;> omega
theorem fEq_eq : fEq a b = (!nan a && !nan b && decide (sv a = sv b)) := by
  unfold fEq
  rw [fOrd_eq]
  cases nan a <;> cases nan b <;> simp
  rcases ord_cases (sv a) (sv b) with ⟨h, h'⟩ | ⟨h, h'⟩ | ⟨h, h'⟩ <;> rw [h] <;> simp <;> omega
theorem fNe_eq : fNe a b = !(!nan a && !nan b && decide (sv a = sv b)) := by
  rw [← fEq_eq]
  unfold fNe fEq
  cases fOrd a b <;> rfl
theorem fGe_eq : fGe a b = (!nan a && !nan b && decide (sv b ≤ sv a)) := by
  unfold fGe
  rw [fOrd_eq]
  cases nan a <;> cases nan b <;> simp
  rcases ord_cases (sv a) (sv b) with ⟨h, h'⟩ | ⟨h, h'⟩ | ⟨h, h'⟩ <;> rw [h] <;> simp <;> omega
end
theorem mod_sign (b : Nat) (h : b < S63) : rung b = b ∧ neg b = false := by
  have : S63 = 9223372036854775808 := rfl
  unfold rung neg
  rw [Nat.mod_eq_of_lt h, Nat.div_eq_of_lt h]
  exact ⟨rfl, rfl⟩
theorem mod_sign2 (b : Nat) (h : b < S63) : rung (S63 + b) = b ∧ neg (S63 + b) = true := by
  unfold rung neg
  rw [Nat.add_mod_left, Nat.mod_eq_of_lt h, Nat.add_div_left _ (by decide), Nat.div_eq_of_lt h]
  exact ⟨rfl, rfl⟩
theorem sv_pos (b : Nat) (h : b < S63) : sv b = mval b := by
  unfold sv sgn
  rw [(mod_sign b h).1, (mod_sign b h).2]
  rfl
theorem sv_neg (b : Nat) (h : b < S63) : sv (S63 + b) = -(mval b : Int) := by
  unfold sv sgn
  rw [(mod_sign2 b h).1, (mod_sign2 b h).2]
  rfl
theorem word_cases (b : Nat) (h : b < 18446744073709551616) : (b < S63 ∧ neg b = false ∧ b = rung b) ∨ (S63 ≤ b ∧ neg b = true ∧ b = S63 + rung b) := by
  have hs : S63 = 9223372036854775808 := rfl
  rcases Nat.lt_or_ge b S63 with h1 | h1
  · exact .inl ⟨h1, (mod_sign b h1).2, (mod_sign b h1).1.symm⟩
  · obtain ⟨c, rfl⟩ : ∃ c, b = S63 + c := ⟨b - S63, by omega⟩
    have hc : c < S63 := by omega
    exact .inr ⟨h1, (mod_sign2 c hc).2, by rw [(mod_sign2 c hc).1]⟩
def pl : Nat := 1074
def ONE : Nat := 2 ^ pl
theorem pl_eq : pl = 1074 := rfl
theorem pow_help (a b c d : Nat) (h : a + b = c + d) : 2 ^ a * 2 ^ b = 2 ^ c * 2 ^ d := by rw [← Nat.pow_add, ← Nat.pow_add, h]
theorem one_pos : 0 < ONE := Nat.two_pow_pos _
theorem mval_twoTo63 : mval 4890909195324358656 = 9223372036854775808 * ONE := by
  have h1 : ¬ 4890909195324358656 < B52 := by decide
  have h2 : 4890909195324358656 % B52 = 0 := by decide
  have h3 : 4890909195324358656 / B52 = 1086 := by decide
  have e1 : B52 = 2 ^ 52 := rfl
  have e2 : (9223372036854775808 : Nat) = 2 ^ 63 := by decide
  unfold mval ONE
  rw [if_neg h1, h2, h3, e1, e2, Nat.add_zero]
  have key := pow_help 52 1085 63 pl (by rw [pl_eq])
  rw [show (1086 - 1 : Nat) = 1085 from rfl]
  exact key
theorem sv_twoTo63 : sv 4890909195324358656 = 9223372036854775808 * (ONE : Int) := by
  rw [sv_pos _ (by decide), mval_twoTo63, Int.natCast_mul]
  rfl
theorem sv_minusTwoTo63 : sv 14114281232179134464 = -(9223372036854775808 * (ONE : Int)) := by
  have e : (14114281232179134464 : Nat) = S63 + 4890909195324358656 := by decide
  rw [e, sv_neg _ (by decide), mval_twoTo63, Int.natCast_mul]
  rfl
theorem nan_lit1 : nan 4890909195324358656 = false := by decide
theorem nan_lit2 : nan 14114281232179134464 = false := by decide
theorem nan_lit3 : nan 9218868437227405311 = false := by decide
theorem nan_lit0 : nan 0 = false := by decide
theorem sv_zero : sv 0 = 0 := by rw [sv_pos 0 (by decide), mval_zero]; rfl
theorem sv_max : sv 9218868437227405311 = mval (INF - 1) := sv_pos _ (by decide)
theorem cut_zero (s : Bool) (n d : Nat) : Toward.zero.cut s n d = n / 2 ^ d := by
  unfold Toward.cut
  simp only [Bool.toNat_false, Nat.add_zero]
  rw [Nat.shiftLeft_eq, Nat.one_mul]
  by_cases h : d ≤ n.log2 + 2
  · rw [Nat.min_eq_left h]
  · rw [Nat.min_eq_right (by omega)]
    have h1 : n < 2 ^ (n.log2 + 2) := Nat.lt_of_lt_of_le (Nat.lt_log2_self) (Nat.pow_le_pow_right (by omega) (by omega))
    rw [Nat.div_eq_of_lt h1, Nat.div_eq_of_lt (Nat.lt_of_lt_of_le h1 (Nat.pow_le_pow_right (by omega) (by omega)))]
def fl (b : Nat) : Nat := mval (rung b) / ONE
theorem integral_zero (b : Nat) (h : rung b < INF) : (double.read b).integral .zero = .number (neg b) (fl b) 0 := by
  obtain ⟨m, e, hr, hv⟩ := read_number b h
  rw [hr]
  show Datum.number (neg b) (Toward.zero.cut (neg b) (m <<< (-1074 + (e : Int)).toNat) (-(-1074 + (e : Int))).toNat) 0 = _
  rw [cut_zero, Nat.shiftLeft_eq]
  unfold fl ONE
  rw [← hv]
  congr 1
  by_cases he : e ≤ 1074
  · have e1 : (-1074 + (e : Int)).toNat = 0 := by omega
    have e2 : (-(-1074 + (e : Int))).toNat = 1074 - e := by omega
    rw [e1, e2, Nat.pow_zero, Nat.mul_one]
    have e3 : 2 ^ pl = 2 ^ (1074 - e) * 2 ^ e := by rw [← Nat.pow_add]; congr 1; rw [pl_eq]; omega
    rw [e3, Nat.mul_div_mul_right _ _ (Nat.two_pow_pos e)]
  · have e1 : (-1074 + (e : Int)).toNat = e - 1074 := by omega
    have e2 : (-(-1074 + (e : Int))).toNat = 0 := by omega
    have e3 : 2 ^ e = 2 ^ (e - 1074) * 2 ^ pl := by rw [← Nat.pow_add]; congr 1; rw [pl_eq]; omega
    rw [e1, e2, Nat.pow_zero, Nat.div_one, e3, ← Nat.mul_assoc, Nat.mul_div_cancel _ (Nat.two_pow_pos pl)]
theorem toInt_eq (b : Nat) (h : rung b < INF) : (double.read b).toInt .zero = some (sgn (neg b) (fl b)) := by
  unfold Datum.toInt
  rw [integral_zero b h]
  show some (signed (neg b) (fl b) 0) = _
  rw [signed_eq, Nat.pow_zero, Nat.mul_one]
theorem write_whole (s : Bool) (w : Nat) (hw : 0 < w) (h63 : w ≤ 9223372036854775808) (hd : ∀ d, w.log2 = 52 + d → 2 ^ d ∣ w) :
    ∃ r, double.write (.number s w 0) = double.word s r ∧ r < INF ∧ mval r = w * ONE := by
  have hl : 2 ^ w.log2 ≤ w := Nat.log2_self_le (by omega)
  have hu : w < 2 ^ (w.log2 + 1) := Nat.lt_log2_self
  have hlog : w.log2 ≤ 63 := by
    rcases Nat.lt_or_ge 63 w.log2 with h | h
    · have : 2 ^ 64 ≤ 2 ^ w.log2 := Nat.pow_le_pow_right (by omega) (by omega)
      omega
    · exact h
  have hword : ∀ (k : Nat) (lg : Int), double.leastPlace + (lg - double.leastPlace) = lg := fun _ _ => by omega
  show ∃ r, double.nearest s w 0 = _ ∧ _
  unfold Format.nearest
  rw [if_neg (by omega), leastPlace_eq, binade_eq, infRung_eq]
  have hf : (double.fractionBits : Int) = 52 := rfl
  rw [hf]
  have hmx : max (0 + (w.log2 : Int) - 52) (-1074) = (w.log2 : Int) - 52 := by omega
  rw [hmx]
  obtain ⟨kp, hk, hk1, hk2, hk3⟩ : ∃ kp, Toward.even.cut s (w <<< (0 - ((w.log2 : Int) - 52)).toNat) ((w.log2 : Int) - 52 - 0).toNat = kp ∧ B52 ≤ kp ∧ kp < 2 * B52 ∧ kp * 2 ^ (w.log2 + 1022) = w * ONE := by
    have hB : B52 = 2 ^ 52 := rfl
    rcases Nat.lt_or_ge 52 w.log2 with h | h
    · obtain ⟨d, hd'⟩ : ∃ d, w.log2 = 52 + d := ⟨w.log2 - 52, by omega⟩
      obtain ⟨c, hc⟩ := hd d hd'
      have e1 : (0 - ((w.log2 : Int) - 52)).toNat = 0 := by omega
      have e2 : ((w.log2 : Int) - 52 - 0).toNat = d := by omega
      have hp := Nat.two_pow_pos d
      refine ⟨c, ?_, ?_, ?_, ?_⟩
      · rw [e1, e2, Nat.shiftLeft_zero]
        unfold Toward.cut
        simp only []
        rw [Nat.min_eq_left (by omega), Nat.shiftLeft_eq, Nat.one_mul, hc, Nat.mul_mod_right, Nat.mul_div_cancel_left _ hp]
        simp [Nat.ne_of_gt hp]
      · have : 2 ^ d * B52 ≤ 2 ^ d * c := by rw [← hc, hB, ← Nat.pow_add, Nat.add_comm d, ← hd']; exact hl
        exact Nat.le_of_mul_le_mul_left this hp
      · have : 2 ^ d * c < 2 ^ d * (2 * B52) := by
          rw [← hc, hB, show 2 * 2 ^ 52 = 2 ^ 53 by rfl, ← Nat.pow_add, show d + 53 = w.log2 + 1 by omega]
          exact hu
        exact Nat.lt_of_mul_lt_mul_left this
      · conv => rhs; rw [hc]
        unfold ONE
        rw [show w.log2 + 1022 = d + pl by rw [pl_eq]; omega, Nat.pow_add, ← Nat.mul_assoc, Nat.mul_comm c]
    · have e1 : (0 - ((w.log2 : Int) - 52)).toNat = 52 - w.log2 := by omega
      have e2 : ((w.log2 : Int) - 52 - 0).toNat = 0 := by omega
      have hp := Nat.two_pow_pos (52 - w.log2)
      refine ⟨w * 2 ^ (52 - w.log2), ?_, ?_, ?_, ?_⟩
      · rw [e1, e2, Nat.shiftLeft_eq]
        unfold Toward.cut
        simp only []
        rw [Nat.min_eq_left (by omega), Nat.shiftLeft_eq, Nat.one_mul, Nat.pow_zero, Nat.mod_one, Nat.div_one]
        simp
      · rw [hB, show (2 : Nat) ^ 52 = 2 ^ w.log2 * 2 ^ (52 - w.log2) by rw [← Nat.pow_add]; congr 1; omega]
        exact Nat.mul_le_mul_right _ hl
      · rw [hB, show 2 * (2 : Nat) ^ 52 = 2 ^ (w.log2 + 1) * 2 ^ (52 - w.log2) by rw [← Nat.pow_add, show w.log2 + 1 + (52 - w.log2) = 53 by omega]]
        exact Nat.mul_lt_mul_of_pos_right hu hp
      · unfold ONE
        rw [Nat.mul_assoc, ← Nat.pow_add, show 52 - w.log2 + (w.log2 + 1022) = pl by rw [pl_eq]; omega]
  simp only []
  rw [hk]
  have e4 : ((w.log2 : Int) - 52 - -1074).toNat = w.log2 + 1022 := by omega
  rw [e4]
  have hB : B52 = 4503599627370496 := rfl
  have hI : INF = 9218868437227405312 := rfl
  have hlt : (w.log2 + 1022) * B52 + kp < INF := by rw [hB, hI]; rw [hB] at hk2; omega
  rw [Nat.min_eq_left (by omega)]
  refine ⟨_, rfl, hlt, ?_⟩
  have hq : ((w.log2 + 1022) * B52 + kp) / B52 = w.log2 + 1023 := by
    have h1 : kp / B52 = 1 := Nat.div_eq_of_lt_le (by omega) (by omega)
    rw [Nat.mul_comm, Nat.mul_add_div (by decide), h1]
  have hm : ((w.log2 + 1022) * B52 + kp) % B52 = kp - B52 := by
    rw [Nat.mul_comm, Nat.mul_add_mod, Nat.mod_eq_sub_mod hk1, Nat.mod_eq_of_lt (by omega)]
  unfold mval
  rw [if_neg (by omega), hq, hm, show B52 + (kp - B52) = kp by omega, show w.log2 + 1023 - 1 = w.log2 + 1022 by omega, ← hk3]
theorem fl_digits (b : Nat) (h : rung b < INF) : ∀ d, (fl b).log2 = 52 + d → fl b ≠ 0 → 2 ^ d ∣ fl b := by
  intro d hd h0
  by_cases hd0 : d = 0
  · rw [hd0]; exact ⟨_, (Nat.one_mul _).symm⟩
  have hl : 2 ^ (fl b).log2 ≤ fl b := Nat.log2_self_le h0
  have hB : B52 = 2 ^ 52 := rfl
  have hm : 2 ^ (52 + d) * ONE ≤ mval (rung b) := by
    rw [← hd]
    exact Nat.le_trans (Nat.mul_le_mul_right _ hl) (Nat.div_mul_le_self _ _)
  have hb : B52 ≤ rung b := by
    rcases Nat.lt_or_ge (rung b) B52 with h1 | h1
    · have h2 : mval (rung b) = rung b := by unfold mval; rw [if_pos h1]
      have h3 : 2 ^ 52 * 1 ≤ 2 ^ (52 + d) * ONE := Nat.mul_le_mul (Nat.pow_le_pow_right (by omega) (by omega)) one_pos
      omega
    · exact h1
  have h4 := (mval_bounds _ hb).2
  have h5 : 2 ^ (52 + d) * ONE < B52 * 2 ^ (rung b / B52) := Nat.lt_of_le_of_lt hm h4
  unfold ONE at h5
  rw [hB, ← Nat.pow_add, ← Nat.pow_add] at h5
  have h6 := (Nat.pow_lt_pow_iff_right (by omega : 1 < 2)).1 h5
  rw [pl_eq] at h6
  rw [← hB] at h6
  obtain ⟨g, hg⟩ : ∃ g, rung b / B52 - 1 = g + d + pl := ⟨rung b / B52 - 1 - d - 1074, by rw [pl_eq]; omega⟩
  have h7 : fl b = (B52 + rung b % B52) * 2 ^ g * 2 ^ d := by
    unfold fl mval ONE
    rw [if_neg (by omega), hg, Nat.pow_add, Nat.pow_add, ← Nat.mul_assoc, ← Nat.mul_assoc, Nat.mul_div_cancel _ (Nat.two_pow_pos pl)]
  exact ⟨_, by rw [h7, Nat.mul_comm]⟩
theorem word_parts (s : Bool) (r : Nat) (h : r < S63) : neg (double.word s r) = s ∧ rung (double.word s r) = r := by
  unfold Format.word
  rw [signWeight_eq]
  cases s
  · exact ⟨(mod_sign r h).2, (mod_sign r h).1⟩
  · exact ⟨(mod_sign2 r h).2, (mod_sign2 r h).1⟩
theorem trunc_eq (b : Nat) (h : rung b < INF) (hle : fl b ≤ 9223372036854775808) :
    rung (fTrunc b) < INF ∧ mval (rung (fTrunc b)) = fl b * ONE ∧ neg (fTrunc b) = neg b := by
  unfold fTrunc
  rw [integral_zero b h]
  by_cases h0 : fl b = 0
  · have e : double.write (.number (neg b) (fl b) 0) = double.word (neg b) 0 := by
      rw [h0]
      rfl
    obtain ⟨h1, h2⟩ := word_parts (neg b) 0 (by decide)
    rw [e, h1, h2, h0, Nat.zero_mul]
    exact ⟨by decide, rfl, rfl⟩
  · obtain ⟨r, e, h1, h2⟩ := write_whole (neg b) (fl b) (by omega) hle (fun d hd => fl_digits b h d hd h0)
    have hs : INF < S63 := by decide
    obtain ⟨h3, h4⟩ := word_parts (neg b) r (by omega)
    rw [e, h3, h4]
    exact ⟨h1, h2, rfl⟩
def cmp3 (x y : Int) : Int := if x < y then -1 else if y < x then 1 else 0
def TOP : Int := mval INF + 1
def fkey (b : Nat) : Int := if nan b then TOP else sv b
def ikey (n : Int) : Int := n * ONE
theorem sv_bound (b : Nat) (h : nan b = false) : -TOP < sv b ∧ sv b < TOP := by
  have h1 : ¬ INF < rung b := by simpa [nan] using h
  have h2 : mval (rung b) ≤ mval INF := by
    rcases Nat.lt_or_ge (rung b) INF with h3 | h3
    · exact Nat.le_of_lt (mval_lt h3)
    · rw [show rung b = INF by omega]; exact Nat.le_refl _
  unfold sv sgn TOP
  split <;> omega
theorem ikey_bound (n : Int) (h1 : -9223372036854775808 ≤ n) (h2 : n ≤ 9223372036854775807) : -TOP < ikey n ∧ ikey n < TOP := by
  have h : (9223372036854775808 * ONE : Nat) ≤ mval INF := by
    rw [← mval_twoTo63]
    exact Nat.le_of_lt (mval_lt (by decide))
  have ho : (0 : Int) < (ONE : Int) := by have := one_pos; omega
  have h3 : (9223372036854775808 : Int) * ONE ≤ mval INF := by
    have := Int.ofNat_le.2 h
    rw [Int.natCast_mul] at this
    exact this
  have h4 : n * ONE ≤ 9223372036854775808 * (ONE : Int) := Int.mul_le_mul_of_nonneg_right (by omega) (by omega)
  have h5 : -9223372036854775808 * (ONE : Int) ≤ n * ONE := Int.mul_le_mul_of_nonneg_right (by omega) (by omega)
  unfold ikey TOP
  omega
def compareN (a b : Nat) : Int := cmp3 (fkey a) (fkey b)
def compareIntN (n : Int) (b : Nat) : Int := cmp3 (ikey n) (fkey b)
def classN (b : Nat) : Int := if nan b then 0 else if rung b = INF then (if neg b then 1 else 5) else if rung b = 0 then 3 else if neg b then 2 else 4
def canonN (b : Nat) : Nat := if nan b then 9221120237041090560 else if rung b = 0 then 0 else b
end Go.Proofs.Ytnfapjkffofcaaa.FL
