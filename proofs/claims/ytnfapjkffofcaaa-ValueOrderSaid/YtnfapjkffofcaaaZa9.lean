/- Part 9 of the proof: words, contracts, plain laws. Laid by a program of this session (wip/tool/shake.py): what is needed of own and printed texts, in order. -/
import Derived.Test.YtnfapjkffofcaaaZa0
import Derived.Test.YtnfapjkffofcaaaZa1
import Derived.Test.YtnfapjkffofcaaaZa2
import Derived.Test.YtnfapjkffofcaaaZa3
import Derived.Test.YtnfapjkffofcaaaZa4
import Derived.Test.YtnfapjkffofcaaaZa5
import Derived.Test.YtnfapjkffofcaaaZa6
import Derived.Test.YtnfapjkffofcaaaZa7
import Derived.Laws.FloatBits
import Derived.Laws.Externs
import Derived.Test.YtnfapjkffofcaaaProg
import Derived.Laws.Bits64
import Derived.Below
import Derived.Deep.Draws
import Derived.Deep.AppendLies
import Derived.Maps.AppendAt
import Derived.OwnWalk
import Derived.Laws.BytesArg
import Derived.Laws.MakeOwn
import Derived.Laws.OwnMore
import Derived.Deep.OwnRows
import Derived.Tactics
import Derived.Lib.ConvBytes
import Derived.Laws.Slices
import Derived.WalkKit
import Derived.KernelRfl
import Derived.RowKit3
import Derived.Deep.LoopGhost
import Derived.Deep.QuietTactic
import Derived.BigQuiet
import Derived.WideLaws
import Derived.Deep.DeepCutAuto
import Derived.Deep.CutBlock
import Derived.Deep.RegionHeld3
import Derived.Laws.Rows
import Derived.Lib.AppendStr
import Derived.ArgAppend
import Derived.Laws.IdiomCopy
import Derived.OrdersHeld
import Derived.Laws.BitsLemmas
import Derived.RowKit
import Derived.Laws.StructEq
import Derived.Test.YtnfapjkffofcaaaZa8
namespace Go.Proofs.Ytnfapjkffofcaaa.PY
open Go.RowKit Go.Proofs.YtnfapjkffofcaaaW.PrintWords Go.Proofs.YtnfapjkffofcaaaW.PrintLast Go.Proofs.Ytnfapjkffofcaaa.FW Go.Proofs.Ytnfapjkffofcaaa.PK Go.Proofs.Ytnfapjkffofcaaa.G
set_option linter.unusedVariables false
set_option linter.unusedSimpArgs false
mutual
def cobwebref03_Same.j0 : Nat → Bool → Int → Int → Nat → ByteArray → List (S26) → Int → Int → Nat → ByteArray → List (S26) → Option (Bool)
  | 0, _, _, _, _, _, _, _, _, _, _, _ => none
  | k + 1, x20, x121000, x121001, x121002, x121003, x121004, x122000, x122001, x122002, x122003, x122004 => if x20 = true then (some false) else (cobwebref03_Same.l0 k 0 x121000 x121001 x121002 x121003 x121004 x122000 x122001 x122002 x122003 x122004)
def cobwebref03_Same.l0 : Nat → Int → Int → Int → Nat → ByteArray → List (S26) → Int → Int → Nat → ByteArray → List (S26) → Option (Bool)
  | 0, _, _, _, _, _, _, _, _, _, _, _ => none
  | k + 1, x5, x121000, x121001, x121002, x121003, x121004, x122000, x122001, x122002, x122003, x122004 => if x5 < (x121004.length : Int) then (if 0 ≤ x5 then (if x5 < (x122004.length : Int) then ((cobwebref03_sameAtom.f ((rd_T26 x121004 x5).f0) ((rd_T26 x121004 x5).f1) ((rd_T26 x121004 x5).f2) ((rd_T26 x121004 x5).f3) ((rd_T26 x122004 x5).f0) ((rd_T26 x122004 x5).f1) ((rd_T26 x122004 x5).f2) ((rd_T26 x122004 x5).f3)).bind fun t125 => (if t125 = true then (cobwebref03_Same.l0 k (wrap64 (x5 + 1)) x121000 x121001 x121002 x121003 x121004 x122000 x122001 x122002 x122003 x122004) else (some false))) else (none)) else (none)) else (some true)
end
def cobwebref03_Same.f (k : Nat) (a0_0 : Int) (a0_1 : Int) (a0_2 : Nat) (a0_3 : ByteArray) (l0_4 : List (S26)) (a1_0 : Int) (a1_1 : Int) (a1_2 : Nat) (a1_3 : ByteArray) (l1_4 : List (S26)) : Option (Bool) := (cobwebref03_sameAtom.f a0_0 a0_1 a0_2 a0_3 a1_0 a1_1 a1_2 a1_3).bind fun t122 => (if t122 = true then (cobwebref03_Same.j0 k ((l0_4.length : Int) != (l1_4.length : Int)) a0_0 a0_1 a0_2 a0_3 l0_4 a1_0 a1_1 a1_2 a1_3 l1_4) else (cobwebref03_Same.j0 k true a0_0 a0_1 a0_2 a0_3 l0_4 a1_0 a1_1 a1_2 a1_3 l1_4))
theorem cobwebref03_Same.mono_l : ∀ k, (∀ y0 y1 y2 y3 y4 y5 y6 y7 y8 y9 y10, LeO (cobwebref03_Same.j0 k y0 y1 y2 y3 y4 y5 y6 y7 y8 y9 y10) (cobwebref03_Same.j0 (k + 1) y0 y1 y2 y3 y4 y5 y6 y7 y8 y9 y10)) ∧ (∀ y0 y1 y2 y3 y4 y5 y6 y7 y8 y9 y10, LeO (cobwebref03_Same.l0 k y0 y1 y2 y3 y4 y5 y6 y7 y8 y9 y10) (cobwebref03_Same.l0 (k + 1) y0 y1 y2 y3 y4 y5 y6 y7 y8 y9 y10))
  | 0 => ⟨fun _ _ _ _ _ _ _ _ _ _ _ r h => by simp [cobwebref03_Same.j0] at h, fun _ _ _ _ _ _ _ _ _ _ _ r h => by simp [cobwebref03_Same.l0] at h⟩
  | k + 1 => by
    obtain ⟨ih0, ih1⟩ := cobwebref03_Same.mono_l k
    refine ⟨?_, ?_⟩
    · intro y0 y1 y2 y3 y4 y5 y6 y7 y8 y9 y10
      unfold cobwebref03_Same.j0
      repeat' first
      | (with_reducible exact ih0 _ _ _ _ _ _ _ _ _ _ _)
      | (with_reducible exact ih1 _ _ _ _ _ _ _ _ _ _ _)
      | (with_reducible exact LeO.refl _)
      | (with_reducible exact LeO.none _)
      | (with_reducible refine LeO.ite ?_ ?_)
      | (with_reducible refine LeO.bind ?_ (fun _ => ?_))
      | exact ih0 _ _ _ _ _ _ _ _ _ _ _
      | exact ih1 _ _ _ _ _ _ _ _ _ _ _
      | exact LeO.none _
      | refine LeO.ite ?_ ?_
      | refine LeO.bind ?_ (fun _ => ?_)
    · intro y0 y1 y2 y3 y4 y5 y6 y7 y8 y9 y10
      unfold cobwebref03_Same.l0
      repeat' first
      | (with_reducible exact ih0 _ _ _ _ _ _ _ _ _ _ _)
      | (with_reducible exact ih1 _ _ _ _ _ _ _ _ _ _ _)
      | (with_reducible exact LeO.refl _)
      | (with_reducible exact LeO.none _)
      | (with_reducible refine LeO.ite ?_ ?_)
      | (with_reducible refine LeO.bind ?_ (fun _ => ?_))
      | exact ih0 _ _ _ _ _ _ _ _ _ _ _
      | exact ih1 _ _ _ _ _ _ _ _ _ _ _
      | exact LeO.none _
      | refine LeO.ite ?_ ?_
      | refine LeO.bind ?_ (fun _ => ?_)
theorem cobwebref03_Same.mono : ∀ a0 a1 a2 a3 a4 a5 a6 a7 a8 a9 k, LeO (cobwebref03_Same.f k a0 a1 a2 a3 a4 a5 a6 a7 a8 a9) (cobwebref03_Same.f (k + 1) a0 a1 a2 a3 a4 a5 a6 a7 a8 a9) := by
  intro a0 a1 a2 a3 a4 a5 a6 a7 a8 a9 k
  obtain ⟨ih0, ih1⟩ := cobwebref03_Same.mono_l k
  unfold cobwebref03_Same.f
  repeat' first
      | (with_reducible exact ih0 _ _ _ _ _ _ _ _ _ _ _)
      | (with_reducible exact ih1 _ _ _ _ _ _ _ _ _ _ _)
      | (with_reducible exact LeO.refl _)
      | (with_reducible exact LeO.none _)
      | (with_reducible refine LeO.ite ?_ ?_)
      | (with_reducible refine LeO.bind ?_ (fun _ => ?_))
      | exact ih0 _ _ _ _ _ _ _ _ _ _ _
      | exact ih1 _ _ _ _ _ _ _ _ _ _ _
      | exact LeO.none _
      | refine LeO.ite ?_ ?_
      | refine LeO.bind ?_ (fun _ => ?_)
def cobwebref03_Same.T6 : Bool × List (List Nat × List Nat) := (true, [([], []), ([0], [0]), ([], []), ([1, 2], [1, 2]), ([3], [3]), ([], []), ([5], [5]), ([], []), ([6, 7], [6, 7]), ([8], [8]), ([4, 9], [4, 9]), ([10], [10])])
def cobwebref03_Same.B6 : List Nat := [0, 1, 0, 7, 15, 0, 32, 0, 224, 480, 1023, 2047]
theorem cobwebref03_Same.tab6 : rtab .any (opsOf Try.f16 6) = cobwebref03_Same.T6 := by kernel_rfl
theorem cobwebref03_Same.bits6 : waitsOk cobwebref03_Same.T6.2 cobwebref03_Same.B6 = true := by kernel_rfl
set_option maxHeartbeats 8000000 in
set_option maxRecDepth 100000 in
theorem cobwebref03_Same.calls (k : Nat) (a0_0 : Int) (a0_1 : Int) (a0_2 : Nat) (a0_3 : ByteArray) (A0_4 : Option Addr) (c0_4 : Nat) (l0_4 : List (S26)) (a1_0 : Int) (a1_1 : Int) (a1_2 : Nat) (a1_3 : ByteArray) (A1_4 : Option Addr) (c1_4 : Nat) (l1_4 : List (S26)) (r : Bool) (w : World) (hr0_4 : Kd.C k26 w A0_4 l0_4.length l0_4) (hc0_4 : l0_4.length ≤ c0_4) (hr1_4 : Kd.C k26 w A1_4 l1_4.length l1_4) (hc1_4 : l1_4.length ≤ c1_4) (h : cobwebref03_Same.f k a0_0 a0_1 a0_2 a0_3 l0_4 a1_0 a1_1 a1_2 a1_3 l1_4 = some r) :
    Calls Try.prog 16 #[.agg #[.int .i64 a0_0, .int .i64 a0_1, .float .f64 a0_2, .string a0_3, .slice A0_4 l0_4.length c0_4], .agg #[.int .i64 a1_0, .int .i64 a1_1, .float .f64 a1_2, .string a1_3, .slice A1_4 l1_4.length c1_4]] w fun e w' => e = .returned (.bool r) ∧ Below w.heap.size w w' := by
  have hu29 := Try.underlying29
  have hu26 := Try.underlying26
  have HR0_4 := Aside0.mk hr0_4
  have HC0_4 := Aside0.mk hc0_4
  clear hr0_4 hc0_4
  have HR1_4 := Aside0.mk hr1_4
  have HC1_4 := Aside0.mk hc1_4
  clear hr1_4 hc1_4
  have HB := Aside0.mk (Below.refl w.heap.size w)
  have H : ((cobwebref03_sameAtom.f a0_0 a0_1 a0_2 a0_3 a1_0 a1_1 a1_2 a1_3).bind fun t122 => (if t122 = true then (cobwebref03_Same.j0 k ((l0_4.length : Int) != (l1_4.length : Int)) a0_0 a0_1 a0_2 a0_3 l0_4 a1_0 a1_1 a1_2 a1_3 l1_4) else (cobwebref03_Same.j0 k true a0_0 a0_1 a0_2 a0_3 l0_4 a1_0 a1_1 a1_2 a1_3 l1_4))) = some r := h
  clear h
  have HC3 := Aside0.mk H
  clear H
  go_enter Try.func16, Try.ntmps16
  go_upto_region 1 with (first | ((with_reducible refine gate_dst (N := 2) rfl ?_); (try (refine gate_guard (by rfl) ?_; dsimp only)); refine box_event ?hg (N := 2) ?hd (cs := #[.int .i64 a0_0, .int .i64 a0_1, .float .f64 a0_2, .string a0_3, .slice A0_4 l0_4.length c0_4]) (t := 29) ?hr ?_; (case hd => rfl); (case hg => rfl); (case hr => first | (go_simp; done) | (go_simp; rfl)); intro gb120 hg w4 hbox hb; have n0_ := Aside0.mk (below_step (by repeat (first | (with_reducible first | exact HB.out | apply below_alloc | apply pw_below_drewN | apply below_drew1) | exact HB.out)) hb); have n1_ := Aside0.mk (hbox); have n2_ := Aside0.mk ((by rw [hg]; exact (below_size (by repeat (first | (with_reducible first | exact HB.out | apply below_alloc | apply pw_below_drewN | apply below_drew1) | exact HB.out))) : w.heap.size ≤ gb120)); have n3_ := Aside0.mk ((by rw [hg]; exact (below_size (by repeat (first | (with_reducible first | exact HB.out | apply below_alloc | apply pw_below_drewN | apply below_drew1) | exact HB.out))) : w.heap.size ≤ gb120)); clear HB; have HB := n0_; have BK120 := n1_; have GW120 := n2_; have GE120 := n3_; clear n0_ n1_ n2_ n3_; clear hb hbox hg) | ((with_reducible refine gate_dst (N := 3) rfl ?_); (try (refine gate_guard (by rfl) ?_; dsimp only)); refine box_event ?hg (N := 3) ?hd (cs := #[.int .i64 a1_0, .int .i64 a1_1, .float .f64 a1_2, .string a1_3, .slice A1_4 l1_4.length c1_4]) (t := 29) ?hr ?_; (case hd => rfl); (case hg => rfl); (case hr => first | (go_simp; done) | (go_simp; rfl)); intro gb121 hg w5 hbox hb; have n0_ := Aside0.mk (blk_below (g := gb120) (o := .cells #[.int .i64 a0_0, .int .i64 a0_1, .float .f64 a0_2, .string a0_3, .slice A0_4 l0_4.length c0_4] 29 (0, 0)) (by (with_reducible repeat (first | refine blk_drewN ?_ _ | refine blk_drew ?_ | refine blk_alloc ?_ _)); exact BK120.out) hb); have n1_ := Aside0.mk (below_step (by repeat (first | (with_reducible first | exact HB.out | apply below_alloc | apply pw_below_drewN | apply below_drew1 | refine below_set ?_ GE120.out) | exact HB.out)) hb); have n2_ := Aside0.mk (hbox); have n3_ := Aside0.mk ((by rw [hg]; exact (below_size (by repeat (first | (with_reducible first | exact HB.out | apply below_alloc | apply pw_below_drewN | apply below_drew1 | refine below_set ?_ GE120.out) | exact HB.out))) : w.heap.size ≤ gb121)); have n4_ := Aside0.mk ((by rw [hg]; exact (below_size (by repeat (first | (with_reducible first | exact HB.out | apply below_alloc | apply pw_below_drewN | apply below_drew1 | refine below_set ?_ GE120.out) | exact HB.out))) : w.heap.size ≤ gb121)); have n5_ := Aside0.mk ((by rw [hg]; exact Nat.ne_of_lt (blk_lt (g := gb120) (o := .cells #[.int .i64 a0_0, .int .i64 a0_1, .float .f64 a0_2, .string a0_3, .slice A0_4 l0_4.length c0_4] 29 (0, 0)) (by (with_reducible repeat (first | refine blk_drewN ?_ _ | refine blk_drew ?_ | refine blk_alloc ?_ _)); exact BK120.out)) : gb120 ≠ gb121)); have n6_ := Aside0.mk ((by rw [hg]; exact Nat.ne_of_gt (blk_lt (g := gb120) (o := .cells #[.int .i64 a0_0, .int .i64 a0_1, .float .f64 a0_2, .string a0_3, .slice A0_4 l0_4.length c0_4] 29 (0, 0)) (by (with_reducible repeat (first | refine blk_drewN ?_ _ | refine blk_drew ?_ | refine blk_alloc ?_ _)); exact BK120.out)) : gb121 ≠ gb120)); clear BK120; clear HB; have BK120 := n0_; have HB := n1_; have BK121 := n2_; have GW121 := n3_; have GE121 := n4_; have NB120_121 := n5_; have NB121_120 := n6_; clear n0_ n1_ n2_ n3_ n4_ n5_ n6_; clear hb hbox hg))
  (try simp only [Act.put, List.setIfInBounds_toArray, List.set_cons_zero, List.set_cons_succ])
  go_cut [20] (fun v20 wc => ∃ (kq : Nat) (x20_2 : Bool), v20 = .bool x20_2 ∧ Aside0 (cobwebref03_Same.j0 kq x20_2 a0_0 a0_1 a0_2 a0_3 l0_4 a1_0 a1_1 a1_2 a1_3 l1_4 = some r) ∧ Aside0 (kq ≤ k) ∧ Aside0 (wc.heap[gb120]? = some (.cells #[.int .i64 a0_0, .int .i64 a0_1, .float .f64 a0_2, .string a0_3, (.slice A0_4 l0_4.length c0_4)] 29 (0, 0))) ∧ Aside0 (wc.heap[gb121]? = some (.cells #[.int .i64 a1_0, .int .i64 a1_1, .float .f64 a1_2, .string a1_3, (.slice A1_4 l1_4.length c1_4)] 29 (0, 0))) ∧ Aside0 (Below w.heap.size w wc))
  case first =>
    have H := HC3.out
    clear HC3
    replace H := Option.bind_eq_some_iff.mp H
    obtain ⟨t122, A60, H⟩ := H
    replace H : (if t122 = true then (cobwebref03_Same.j0 k ((l0_4.length : Int) != (l1_4.length : Int)) a0_0 a0_1 a0_2 a0_3 l0_4 a1_0 a1_1 a1_2 a1_3 l1_4) else (cobwebref03_Same.j0 k true a0_0 a0_1 a0_2 a0_3 l0_4 a1_0 a1_1 a1_2 a1_3 l1_4)) = some r := H
    have A6 := Aside0.mk A60
    clear A60
    by_cases c7 : t122 = true
    · subst c7
      have H1 : (cobwebref03_Same.j0 k ((l0_4.length : Int) != (l1_4.length : Int)) a0_0 a0_1 a0_2 a0_3 l0_4 a1_0 a1_1 a1_2 a1_3 l1_4) = some r := by rw [if_pos rfl] at H; exact H
      clear H
      have H := H1
      clear H1
      have H' := Aside0.mk H
      clear H
      have hnb8 := NB120_121.out
      have hnc8 := NB121_120.out
      have hcz9_0 : w5.cell? ⟨gb120, 0, none⟩ = some (.int .i64 a0_0) := (blk_cell BK120.out 0).trans rfl
      have hcz9_1 : w5.cell? ⟨gb120, 1, none⟩ = some (.int .i64 a0_1) := (blk_cell BK120.out 1).trans rfl
      have hcz9_2 : w5.cell? ⟨gb120, 2, none⟩ = some (.float .f64 a0_2) := (blk_cell BK120.out 2).trans rfl
      have hcz9_3 : w5.cell? ⟨gb120, 3, none⟩ = some (.string a0_3) := (blk_cell BK120.out 3).trans rfl
      have hcz9_4 : w5.cell? ⟨gb120, 4, none⟩ = some (.slice A0_4 l0_4.length c0_4) := (blk_cell BK120.out 4).trans rfl
      have hfz9_0 := blk_frozen BK120.out 0
      have hfz9_1 := blk_frozen BK120.out 1
      have hfz9_2 := blk_frozen BK120.out 2
      have hfz9_3 := blk_frozen BK120.out 3
      have hfz9_4 := blk_frozen BK120.out 4
      have hcz10_0 : w5.cell? ⟨gb121, 0, none⟩ = some (.int .i64 a1_0) := (blk_cell BK121.out 0).trans rfl
      have hcz10_1 : w5.cell? ⟨gb121, 1, none⟩ = some (.int .i64 a1_1) := (blk_cell BK121.out 1).trans rfl
      have hcz10_2 : w5.cell? ⟨gb121, 2, none⟩ = some (.float .f64 a1_2) := (blk_cell BK121.out 2).trans rfl
      have hcz10_3 : w5.cell? ⟨gb121, 3, none⟩ = some (.string a1_3) := (blk_cell BK121.out 3).trans rfl
      have hcz10_4 : w5.cell? ⟨gb121, 4, none⟩ = some (.slice A1_4 l1_4.length c1_4) := (blk_cell BK121.out 4).trans rfl
      have hfz10_0 := blk_frozen BK121.out 0
      have hfz10_1 := blk_frozen BK121.out 1
      have hfz10_2 := blk_frozen BK121.out 2
      have hfz10_3 := blk_frozen BK121.out 3
      have hfz10_4 := blk_frozen BK121.out 4
      go_wp2_with (first | ((with_reducible refine gate_callee (f := 35) rfl ?_); refine goesL_ (some 10) rfl rfl Try.func35 (by kernel_rfl) rfl #[.agg #[.int .i64 a0_0, .int .i64 a0_1, .float .f64 a0_2, .string a0_3], .agg #[.int .i64 a1_0, .int .i64 a1_1, .float .f64 a1_2, .string a1_3]] rfl (by (try simp only [List.map_toArray, List.map_cons, List.map_nil]); first | done | rfl | (simp only [List.length_drop, List.length_take]; rfl)) ?_; (with_reducible refine (cobwebref03_sameAtom.calls a0_0 a0_1 a0_2 a0_3 a1_0 a1_1 a1_2 a1_3 true _ A6.out).mono ?_); rintro e w11 ⟨rfl, hb⟩; refine ⟨_, rfl, ?_⟩; have n0_ := Aside0.mk (blk_below (g := gb120) (o := .cells #[.int .i64 a0_0, .int .i64 a0_1, .float .f64 a0_2, .string a0_3, .slice A0_4 l0_4.length c0_4] 29 (0, 0)) (by (with_reducible repeat (first | refine blk_drewN ?_ _ | refine blk_drew ?_ | refine blk_alloc ?_ _)); exact BK120.out) hb); have n1_ := Aside0.mk (blk_below (g := gb121) (o := .cells #[.int .i64 a1_0, .int .i64 a1_1, .float .f64 a1_2, .string a1_3, .slice A1_4 l1_4.length c1_4] 29 (0, 0)) (by (with_reducible repeat (first | refine blk_drewN ?_ _ | refine blk_drew ?_ | refine blk_alloc ?_ _)); exact BK121.out) hb); have n2_ := Aside0.mk (below_step (by repeat (first | (with_reducible first | exact HB.out | apply below_alloc | apply pw_below_drewN | apply below_drew1 | refine below_set ?_ GE120.out | refine below_set ?_ GE121.out) | exact HB.out)) hb); clear BK120; clear BK121; clear HB; have BK120 := n0_; have BK121 := n1_; have HB := n2_; clear n0_ n1_ n2_; (try clear hb); (try clear hb2); (try clear hk); (try clear hi); have hcz12_0 : w11.cell? ⟨gb120, 0, none⟩ = some (.int .i64 a0_0) := (blk_cell BK120.out 0).trans rfl; have hcz12_1 : w11.cell? ⟨gb120, 1, none⟩ = some (.int .i64 a0_1) := (blk_cell BK120.out 1).trans rfl; have hcz12_2 : w11.cell? ⟨gb120, 2, none⟩ = some (.float .f64 a0_2) := (blk_cell BK120.out 2).trans rfl; have hcz12_3 : w11.cell? ⟨gb120, 3, none⟩ = some (.string a0_3) := (blk_cell BK120.out 3).trans rfl; have hcz12_4 : w11.cell? ⟨gb120, 4, none⟩ = some (.slice A0_4 l0_4.length c0_4) := (blk_cell BK120.out 4).trans rfl; have hfz12_0 := blk_frozen BK120.out 0; have hfz12_1 := blk_frozen BK120.out 1; have hfz12_2 := blk_frozen BK120.out 2; have hfz12_3 := blk_frozen BK120.out 3; have hfz12_4 := blk_frozen BK120.out 4; have hcz13_0 : w11.cell? ⟨gb121, 0, none⟩ = some (.int .i64 a1_0) := (blk_cell BK121.out 0).trans rfl; have hcz13_1 : w11.cell? ⟨gb121, 1, none⟩ = some (.int .i64 a1_1) := (blk_cell BK121.out 1).trans rfl; have hcz13_2 : w11.cell? ⟨gb121, 2, none⟩ = some (.float .f64 a1_2) := (blk_cell BK121.out 2).trans rfl; have hcz13_3 : w11.cell? ⟨gb121, 3, none⟩ = some (.string a1_3) := (blk_cell BK121.out 3).trans rfl; have hcz13_4 : w11.cell? ⟨gb121, 4, none⟩ = some (.slice A1_4 l1_4.length c1_4) := (blk_cell BK121.out 4).trans rfl; have hfz13_0 := blk_frozen BK121.out 0; have hfz13_1 := blk_frozen BK121.out 1; have hfz13_2 := blk_frozen BK121.out 2; have hfz13_3 := blk_frozen BK121.out 3; have hfz13_4 := blk_frozen BK121.out 4))
      go_meet
      case rel => exact ⟨_, (((l0_4.length : Int) != (l1_4.length : Int))), (by first | rfl | (simp; done) | (simp [*]; done)), H', ⟨by first | omega | exact Nat.le_refl _⟩, ⟨by (with_reducible repeat (first | refine blk_drewN ?_ _ | refine blk_drew ?_ | refine blk_alloc ?_ _)); exact BK120.out⟩, ⟨by (with_reducible repeat (first | refine blk_drewN ?_ _ | refine blk_drew ?_ | refine blk_alloc ?_ _)); exact BK121.out⟩, ⟨by repeat (first | (with_reducible first | exact HB.out | apply below_alloc | apply pw_below_drewN | apply below_drew1 | refine below_set ?_ GE120.out | refine below_set ?_ GE121.out) | exact HB.out)⟩⟩
    · replace c7 := Bool.eq_false_iff.mpr c7
      subst c7
      have H1 : (cobwebref03_Same.j0 k true a0_0 a0_1 a0_2 a0_3 l0_4 a1_0 a1_1 a1_2 a1_3 l1_4) = some r := by rw [if_neg (show ¬ (false = true) by decide)] at H; exact H
      clear H
      have H := H1
      clear H1
      have H' := Aside0.mk H
      clear H
      have hnb14 := NB120_121.out
      have hnc14 := NB121_120.out
      have hcz15_0 : w5.cell? ⟨gb120, 0, none⟩ = some (.int .i64 a0_0) := (blk_cell BK120.out 0).trans rfl
      have hcz15_1 : w5.cell? ⟨gb120, 1, none⟩ = some (.int .i64 a0_1) := (blk_cell BK120.out 1).trans rfl
      have hcz15_2 : w5.cell? ⟨gb120, 2, none⟩ = some (.float .f64 a0_2) := (blk_cell BK120.out 2).trans rfl
      have hcz15_3 : w5.cell? ⟨gb120, 3, none⟩ = some (.string a0_3) := (blk_cell BK120.out 3).trans rfl
      have hcz15_4 : w5.cell? ⟨gb120, 4, none⟩ = some (.slice A0_4 l0_4.length c0_4) := (blk_cell BK120.out 4).trans rfl
      have hfz15_0 := blk_frozen BK120.out 0
      have hfz15_1 := blk_frozen BK120.out 1
      have hfz15_2 := blk_frozen BK120.out 2
      have hfz15_3 := blk_frozen BK120.out 3
      have hfz15_4 := blk_frozen BK120.out 4
      have hcz16_0 : w5.cell? ⟨gb121, 0, none⟩ = some (.int .i64 a1_0) := (blk_cell BK121.out 0).trans rfl
      have hcz16_1 : w5.cell? ⟨gb121, 1, none⟩ = some (.int .i64 a1_1) := (blk_cell BK121.out 1).trans rfl
      have hcz16_2 : w5.cell? ⟨gb121, 2, none⟩ = some (.float .f64 a1_2) := (blk_cell BK121.out 2).trans rfl
      have hcz16_3 : w5.cell? ⟨gb121, 3, none⟩ = some (.string a1_3) := (blk_cell BK121.out 3).trans rfl
      have hcz16_4 : w5.cell? ⟨gb121, 4, none⟩ = some (.slice A1_4 l1_4.length c1_4) := (blk_cell BK121.out 4).trans rfl
      have hfz16_0 := blk_frozen BK121.out 0
      have hfz16_1 := blk_frozen BK121.out 1
      have hfz16_2 := blk_frozen BK121.out 2
      have hfz16_3 := blk_frozen BK121.out 3
      have hfz16_4 := blk_frozen BK121.out 4
      go_wp2_with (first | ((with_reducible refine gate_callee (f := 35) rfl ?_); refine goesL_ (some 10) rfl rfl Try.func35 (by kernel_rfl) rfl #[.agg #[.int .i64 a0_0, .int .i64 a0_1, .float .f64 a0_2, .string a0_3], .agg #[.int .i64 a1_0, .int .i64 a1_1, .float .f64 a1_2, .string a1_3]] rfl (by (try simp only [List.map_toArray, List.map_cons, List.map_nil]); first | done | rfl | (simp only [List.length_drop, List.length_take]; rfl)) ?_; (with_reducible refine (cobwebref03_sameAtom.calls a0_0 a0_1 a0_2 a0_3 a1_0 a1_1 a1_2 a1_3 false _ A6.out).mono ?_); rintro e w17 ⟨rfl, hb⟩; refine ⟨_, rfl, ?_⟩; have n0_ := Aside0.mk (blk_below (g := gb120) (o := .cells #[.int .i64 a0_0, .int .i64 a0_1, .float .f64 a0_2, .string a0_3, .slice A0_4 l0_4.length c0_4] 29 (0, 0)) (by (with_reducible repeat (first | refine blk_drewN ?_ _ | refine blk_drew ?_ | refine blk_alloc ?_ _)); exact BK120.out) hb); have n1_ := Aside0.mk (blk_below (g := gb121) (o := .cells #[.int .i64 a1_0, .int .i64 a1_1, .float .f64 a1_2, .string a1_3, .slice A1_4 l1_4.length c1_4] 29 (0, 0)) (by (with_reducible repeat (first | refine blk_drewN ?_ _ | refine blk_drew ?_ | refine blk_alloc ?_ _)); exact BK121.out) hb); have n2_ := Aside0.mk (below_step (by repeat (first | (with_reducible first | exact HB.out | apply below_alloc | apply pw_below_drewN | apply below_drew1 | refine below_set ?_ GE120.out | refine below_set ?_ GE121.out) | exact HB.out)) hb); clear BK120; clear BK121; clear HB; have BK120 := n0_; have BK121 := n1_; have HB := n2_; clear n0_ n1_ n2_; (try clear hb); (try clear hb2); (try clear hk); (try clear hi)))
      go_meet
      case rel => exact ⟨_, (true), (by first | rfl | (simp; done) | (simp [*]; done)), H', ⟨by first | omega | exact Nat.le_refl _⟩, ⟨by (with_reducible repeat (first | refine blk_drewN ?_ _ | refine blk_drew ?_ | refine blk_alloc ?_ _)); exact BK120.out⟩, ⟨by (with_reducible repeat (first | refine blk_drewN ?_ _ | refine blk_drew ?_ | refine blk_alloc ?_ _)); exact BK121.out⟩, ⟨by repeat (first | (with_reducible first | exact HB.out | apply below_alloc | apply pw_below_drewN | apply below_drew1 | refine below_set ?_ GE120.out | refine below_set ?_ GE121.out) | exact HB.out)⟩⟩
  case rest =>
    clear HC3
    try clear c1
    try clear p2
    try clear c3
    try clear c7
    try clear c8
    try clear c14
    try clear c16
    try clear hcz10_0
    try clear hcz10_1
    try clear hcz10_2
    try clear hcz10_3
    try clear hcz10_4
    try clear hcz12_0
    try clear hcz12_1
    try clear hcz12_2
    try clear hcz12_3
    try clear hcz12_4
    try clear hcz13_0
    try clear hcz13_1
    try clear hcz13_2
    try clear hcz13_3
    try clear hcz13_4
    try clear hcz15_0
    try clear hcz15_1
    try clear hcz15_2
    try clear hcz15_3
    try clear hcz15_4
    try clear hcz16_0
    try clear hcz16_1
    try clear hcz16_2
    try clear hcz16_3
    try clear hcz16_4
    try clear hcz9_0
    try clear hcz9_1
    try clear hcz9_2
    try clear hcz9_3
    try clear hcz9_4
    try clear hfz10_0
    try clear hfz10_1
    try clear hfz10_2
    try clear hfz10_3
    try clear hfz10_4
    try clear hfz12_0
    try clear hfz12_1
    try clear hfz12_2
    try clear hfz12_3
    try clear hfz12_4
    try clear hfz13_0
    try clear hfz13_1
    try clear hfz13_2
    try clear hfz13_3
    try clear hfz13_4
    try clear hfz15_0
    try clear hfz15_1
    try clear hfz15_2
    try clear hfz15_3
    try clear hfz15_4
    try clear hfz16_0
    try clear hfz16_1
    try clear hfz16_2
    try clear hfz16_3
    try clear hfz16_4
    try clear hfz9_0
    try clear hfz9_1
    try clear hfz9_2
    try clear hfz9_3
    try clear hfz9_4
    obtain ⟨kq, x20_2, rfl, HA, HJ2, BK120, BK121, HB⟩ := hcut
    cases kq with
    | zero => exact absurd HA.out (by simp [cobwebref03_Same.j0])
    | succ kj2 =>
      have H := HA.out
      clear HA
      simp only [cobwebref03_Same.j0] at H
      by_cases c18 : x20_2 = true
      · subst c18
        have H1 : (some false) = some r := by rw [if_pos rfl] at H; exact H
        clear H
        have H := H1
        clear H1
        obtain rfl := Option.some.inj H
        go_wp2
        go_ret
        exact ⟨by first | rfl | (simp [errW_none, errW_some] <;> rfl) | (simp [*, errW_none, errW_some] <;> rfl), by repeat (first | (with_reducible first | exact HB.out | apply below_alloc | apply pw_below_drewN | apply below_drew1 | refine below_set ?_ GE120.out | refine below_set ?_ GE121.out) | exact HB.out)⟩
      · replace c18 := Bool.eq_false_iff.mpr c18
        subst c18
        have H1 : (cobwebref03_Same.l0 kj2 0 a0_0 a0_1 a0_2 a0_3 l0_4 a1_0 a1_1 a1_2 a1_3 l1_4) = some r := by rw [if_neg (show ¬ (false = true) by decide)] at H; exact H
        clear H
        have H := H1
        clear H1
        have H' := Aside0.mk H
        clear H
        go_wp2
        go_loopg [5] kj2 (fun kq v5 w' => ∃ (x5_2 : Int), v5 = .int .i64 x5_2 ∧ Aside0 (cobwebref03_Same.l0 kq x5_2 a0_0 a0_1 a0_2 a0_3 l0_4 a1_0 a1_1 a1_2 a1_3 l1_4 = some r) ∧ Aside0 (kq ≤ kj2) ∧ Aside0 (w'.heap[gb120]? = some (.cells #[.int .i64 a0_0, .int .i64 a0_1, .float .f64 a0_2, .string a0_3, (.slice A0_4 l0_4.length c0_4)] 29 (0, 0))) ∧ Aside0 (w'.heap[gb121]? = some (.cells #[.int .i64 a1_0, .int .i64 a1_1, .float .f64 a1_2, .string a1_3, (.slice A1_4 l1_4.length c1_4)] 29 (0, 0))) ∧ Aside0 (Below w.heap.size w w'))
        case atStart => exact ⟨(0), (by first | rfl | (simp; done) | (simp [*]; done)), H', ⟨Nat.le_refl _⟩, ⟨by (with_reducible repeat (first | refine blk_drewN ?_ _ | refine blk_drew ?_ | refine blk_alloc ?_ _)); exact BK120.out⟩, ⟨by (with_reducible repeat (first | refine blk_drewN ?_ _ | refine blk_drew ?_ | refine blk_alloc ?_ _)); exact BK121.out⟩, ⟨by repeat (first | (with_reducible first | exact HB.out | apply below_alloc | apply pw_below_drewN | apply below_drew1 | refine below_set ?_ GE120.out | refine below_set ?_ GE121.out) | exact HB.out)⟩⟩
        case round =>
          clear H'
          try clear c1
          try clear p2
          try clear c3
          try clear c7
          try clear c8
          try clear c14
          try clear c16
          try clear c18
          try clear hcz10_0
          try clear hcz10_1
          try clear hcz10_2
          try clear hcz10_3
          try clear hcz10_4
          try clear hcz12_0
          try clear hcz12_1
          try clear hcz12_2
          try clear hcz12_3
          try clear hcz12_4
          try clear hcz13_0
          try clear hcz13_1
          try clear hcz13_2
          try clear hcz13_3
          try clear hcz13_4
          try clear hcz15_0
          try clear hcz15_1
          try clear hcz15_2
          try clear hcz15_3
          try clear hcz15_4
          try clear hcz16_0
          try clear hcz16_1
          try clear hcz16_2
          try clear hcz16_3
          try clear hcz16_4
          try clear hcz9_0
          try clear hcz9_1
          try clear hcz9_2
          try clear hcz9_3
          try clear hcz9_4
          try clear hfz10_0
          try clear hfz10_1
          try clear hfz10_2
          try clear hfz10_3
          try clear hfz10_4
          try clear hfz12_0
          try clear hfz12_1
          try clear hfz12_2
          try clear hfz12_3
          try clear hfz12_4
          try clear hfz13_0
          try clear hfz13_1
          try clear hfz13_2
          try clear hfz13_3
          try clear hfz13_4
          try clear hfz15_0
          try clear hfz15_1
          try clear hfz15_2
          try clear hfz15_3
          try clear hfz15_4
          try clear hfz16_0
          try clear hfz16_1
          try clear hfz16_2
          try clear hfz16_3
          try clear hfz16_4
          try clear hfz9_0
          try clear hfz9_1
          try clear hfz9_2
          try clear hfz9_3
          try clear hfz9_4
          try clear p2
          obtain ⟨x5_2, rfl, HA, HK2, BK120, BK121, HB⟩ := hrel
          cases gk with
          | zero => exact absurd HA.out (by simp [cobwebref03_Same.l0])
          | succ k2 =>
            have H := HA.out
            clear HA
            simp only [cobwebref03_Same.l0] at H
            by_cases c19 : x5_2 < (l0_4.length : Int)
            · rw [if_pos c19] at H
              have c19b0 : decide (x5_2 < (l0_4.length : Int)) = true := decide_eq_true c19
              clear c19
              by_cases c20 : 0 ≤ x5_2
              · rw [if_pos c20] at H
                have c20b0 : decide (0 ≤ x5_2) = true := decide_eq_true c20
                clear c20
                by_cases c21 : x5_2 < (l1_4.length : Int)
                · rw [if_pos c21] at H
                  have c21b0 : decide (x5_2 < (l1_4.length : Int)) = true := decide_eq_true c21
                  clear c21
                  replace H := Option.bind_eq_some_iff.mp H
                  obtain ⟨t125, A220, H⟩ := H
                  replace H : (if t125 = true then (cobwebref03_Same.l0 k2 (wrap64 (x5_2 + 1)) a0_0 a0_1 a0_2 a0_3 l0_4 a1_0 a1_1 a1_2 a1_3 l1_4) else (some false)) = some r := H
                  have A22 := Aside0.mk A220
                  clear A220
                  by_cases c23 : t125 = true
                  · subst c23
                    have H1 : (cobwebref03_Same.l0 k2 (wrap64 (x5_2 + 1)) a0_0 a0_1 a0_2 a0_3 l0_4 a1_0 a1_1 a1_2 a1_3 l1_4) = some r := by rw [if_pos rfl] at H; exact H
                    clear H
                    have H := H1
                    clear H1
                    have H' := Aside0.mk H
                    clear H
                    have hnb24 := NB120_121.out
                    have hnc24 := NB121_120.out
                    have hcz25_0 : wr.cell? ⟨gb120, 0, none⟩ = some (.int .i64 a0_0) := (blk_cell BK120.out 0).trans rfl
                    have hcz25_1 : wr.cell? ⟨gb120, 1, none⟩ = some (.int .i64 a0_1) := (blk_cell BK120.out 1).trans rfl
                    have hcz25_2 : wr.cell? ⟨gb120, 2, none⟩ = some (.float .f64 a0_2) := (blk_cell BK120.out 2).trans rfl
                    have hcz25_3 : wr.cell? ⟨gb120, 3, none⟩ = some (.string a0_3) := (blk_cell BK120.out 3).trans rfl
                    have hcz25_4 : wr.cell? ⟨gb120, 4, none⟩ = some (.slice A0_4 l0_4.length c0_4) := (blk_cell BK120.out 4).trans rfl
                    have hfz25_0 := blk_frozen BK120.out 0
                    have hfz25_1 := blk_frozen BK120.out 1
                    have hfz25_2 := blk_frozen BK120.out 2
                    have hfz25_3 := blk_frozen BK120.out 3
                    have hfz25_4 := blk_frozen BK120.out 4
                    try go_wp2
                    have n0_ := Aside0.mk (blk_drew BK120.out)
                    have n1_ := Aside0.mk (blk_drew BK121.out)
                    have n2_ := Aside0.mk (below_drew1 HB.out)
                    clear BK120
                    clear BK121
                    clear HB
                    have BK120 := n0_
                    have BK121 := n1_
                    have HB := n2_
                    clear n0_ n1_ n2_
                    have p123 : 0 ≤ (x5_2 : Int) := of_decide_eq_true (by first | (with_reducible assumption) | assumption)
                    have q123 : x5_2 < (l0_4.length : Int) := of_decide_eq_true (by first | (with_reducible assumption) | assumption)
                    obtain ⟨ad123, e123, hx123_0, hx123_1, hx123_2, hx123_3⟩ := at_T26 HR0_4.out x5_2 p123 q123
                    have hw123_3 := hx123_3
                    have hw123_2 := hx123_2
                    have hw123_1 := hx123_1
                    have hw123_0 := hx123_0
                    cases e123
                    replace hx123_0 := (HB.out.cell (World.block_lt_of_cell? w _ hx123_0)).trans hx123_0
                    replace hx123_1 := (HB.out.cell (World.block_lt_of_cell? w _ hx123_1)).trans hx123_1
                    replace hx123_2 := (HB.out.cell (World.block_lt_of_cell? w _ hx123_2)).trans hx123_2
                    replace hx123_3 := (HB.out.cell (World.block_lt_of_cell? w _ hx123_3)).trans hx123_3
                    replace p123 := eq_true p123
                    replace q123 := eq_true q123
                    have p124 : 0 ≤ (x5_2 : Int) := of_decide_eq_true (by first | (with_reducible assumption) | assumption)
                    have q124 : x5_2 < (l1_4.length : Int) := of_decide_eq_true (by first | (with_reducible assumption) | assumption)
                    obtain ⟨ad124, e124, hx124_0, hx124_1, hx124_2, hx124_3⟩ := at_T26 HR1_4.out x5_2 p124 q124
                    have hw124_3 := hx124_3
                    have hw124_2 := hx124_2
                    have hw124_1 := hx124_1
                    have hw124_0 := hx124_0
                    cases e124
                    replace hx124_0 := (HB.out.cell (World.block_lt_of_cell? w _ hx124_0)).trans hx124_0
                    replace hx124_1 := (HB.out.cell (World.block_lt_of_cell? w _ hx124_1)).trans hx124_1
                    replace hx124_2 := (HB.out.cell (World.block_lt_of_cell? w _ hx124_2)).trans hx124_2
                    replace hx124_3 := (HB.out.cell (World.block_lt_of_cell? w _ hx124_3)).trans hx124_3
                    replace p124 := eq_true p124
                    replace q124 := eq_true q124
                    refine start_ (n := 12) (S := fun w' => w'.cell? ⟨gb120, 0, none⟩ = some (.int .i64 a0_0) ∧ w'.cell? ⟨gb120, 1, none⟩ = some (.int .i64 a0_1) ∧ w'.cell? ⟨gb120, 2, none⟩ = some (.float .f64 a0_2) ∧ w'.cell? ⟨gb120, 3, none⟩ = some (.string a0_3) ∧ w'.cell? ⟨gb120, 4, none⟩ = some (.slice (some ad123) l0_4.length c0_4) ∧ w'.cell? ⟨gb121, 0, none⟩ = some (.int .i64 a1_0) ∧ w'.cell? ⟨gb121, 1, none⟩ = some (.int .i64 a1_1) ∧ w'.cell? ⟨gb121, 2, none⟩ = some (.float .f64 a1_2) ∧ w'.cell? ⟨gb121, 3, none⟩ = some (.string a1_3) ∧ w'.cell? ⟨gb121, 4, none⟩ = some (.slice (some ad124) l1_4.length c1_4) ∧ w'.cell? (ad123.add ((x5_2).toNat * 4)) = some (.int .i64 ((rd_T26 l0_4 x5_2).f0)) ∧ w'.cell? ⟨(ad123.add ((x5_2).toNat * 4)).block, (ad123.add ((x5_2).toNat * 4)).off + 1, none⟩ = some (.int .i64 ((rd_T26 l0_4 x5_2).f1)) ∧ w'.cell? ⟨(ad123.add ((x5_2).toNat * 4)).block, (ad123.add ((x5_2).toNat * 4)).off + 2, none⟩ = some (.float .f64 ((rd_T26 l0_4 x5_2).f2)) ∧ w'.cell? ⟨(ad123.add ((x5_2).toNat * 4)).block, (ad123.add ((x5_2).toNat * 4)).off + 3, none⟩ = some (.string ((rd_T26 l0_4 x5_2).f3)) ∧ w'.cell? (ad124.add ((x5_2).toNat * 4)) = some (.int .i64 ((rd_T26 l1_4 x5_2).f0)) ∧ w'.cell? ⟨(ad124.add ((x5_2).toNat * 4)).block, (ad124.add ((x5_2).toNat * 4)).off + 1, none⟩ = some (.int .i64 ((rd_T26 l1_4 x5_2).f1)) ∧ w'.cell? ⟨(ad124.add ((x5_2).toNat * 4)).block, (ad124.add ((x5_2).toNat * 4)).off + 2, none⟩ = some (.float .f64 ((rd_T26 l1_4 x5_2).f2)) ∧ w'.cell? ⟨(ad124.add ((x5_2).toNat * 4)).block, (ad124.add ((x5_2).toNat * 4)).off + 3, none⟩ = some (.string ((rd_T26 l1_4 x5_2).f3))) (ds := []) #[false, false, false, false, false, false, false, false, false, false, false, false] (by kernel_rfl) rfl rfl ⟨(blk_cell BK120.out 0).trans rfl, (blk_cell BK120.out 1).trans rfl, (blk_cell BK120.out 2).trans rfl, (blk_cell BK120.out 3).trans rfl, (blk_cell BK120.out 4).trans rfl, (blk_cell BK121.out 0).trans rfl, (blk_cell BK121.out 1).trans rfl, (blk_cell BK121.out 2).trans rfl, (blk_cell BK121.out 3).trans rfl, (blk_cell BK121.out 4).trans rfl, ((HB.out.cell (World.block_lt_of_cell? w _ hw123_0)).trans hw123_0), ((HB.out.cell (World.block_lt_of_cell? w _ hw123_1)).trans hw123_1), ((HB.out.cell (World.block_lt_of_cell? w _ hw123_2)).trans hw123_2), ((HB.out.cell (World.block_lt_of_cell? w _ hw123_3)).trans hw123_3), ((HB.out.cell (World.block_lt_of_cell? w _ hw124_0)).trans hw124_0), ((HB.out.cell (World.block_lt_of_cell? w _ hw124_1)).trans hw124_1), ((HB.out.cell (World.block_lt_of_cell? w _ hw124_2)).trans hw124_2), ((HB.out.cell (World.block_lt_of_cell? w _ hw124_3)).trans hw124_3)⟩ (fun hHeld => ?_); refine with_tabW cobwebref03_Same.tab6 cobwebref03_Same.bits6 (fun HT_ HW_ => ?_)
                    generalize wr.drew = w26 at BK120 BK121 HB hx123_0 hx123_1 hx123_2 hx123_3 hx124_0 hx124_1 hx124_2 hx124_3 hHeld ⊢
                    refine pure_ (i := 0) (N := some 28) (v := ?_) (a' := ?_) #[true, false, false, false, false, false, false, false, false, false, false, false] rfl rfl (any_of HT_.out (by kernel_rfl)) (fun _ _ _ h => h) (Or.inl ⟨by rfl, ?_⟩) ?_ ?_
                    rotate_left
                    · intro w'
                      go_simp
                      with_reducible rfl
                    rotate_left
                    · simp only [Act.put, List.setIfInBounds_toArray, List.set_cons_zero, List.set_cons_succ, i64_w, i32_w]
                      rfl
                    refine pure_ (i := 2) (N := some 30) (v := ?_) (a' := ?_) #[true, false, true, false, false, false, false, false, false, false, false, false] rfl rfl (any_of HT_.out (by kernel_rfl)) (fun _ _ _ h => h) (Or.inl ⟨by rfl, ?_⟩) ?_ ?_
                    rotate_left
                    · intro w'
                      go_simp
                      with_reducible rfl
                    rotate_left
                    · simp only [Act.put, List.setIfInBounds_toArray, List.set_cons_zero, List.set_cons_succ, i64_w, i32_w]
                      rfl
                    refine pure_ (i := 5) (N := some 33) (v := ?_) (a' := ?_) #[true, false, true, false, false, true, false, false, false, false, false, false] rfl rfl (any_of HT_.out (by kernel_rfl)) (fun _ _ _ h => h) (Or.inl ⟨by rfl, ?_⟩) ?_ ?_
                    rotate_left
                    · intro w'
                      go_simp
                      with_reducible rfl
                    rotate_left
                    · simp only [Act.put, List.setIfInBounds_toArray, List.set_cons_zero, List.set_cons_succ, i64_w, i32_w]
                      rfl
                    refine pure_ (i := 7) (N := some 35) (v := ?_) (a' := ?_) #[true, false, true, false, false, true, false, true, false, false, false, false] rfl rfl (any_of HT_.out (by kernel_rfl)) (fun _ _ _ h => h) (Or.inl ⟨by rfl, ?_⟩) ?_ ?_
                    rotate_left
                    · intro w'
                      go_simp
                      with_reducible rfl
                    rotate_left
                    · simp only [Act.put, List.setIfInBounds_toArray, List.set_cons_zero, List.set_cons_succ, i64_w, i32_w]
                      rfl
                    refine take_ (i := 1) (N := some 29) (v := ?_) (a' := ?_) #[true, true, true, false, false, true, false, true, false, false, false, false] rfl rfl (take_ofW HT_.out HW_.out (by kernel_rfl)) (fun _ _ _ h => h) (Or.inl ⟨by rfl, ?_⟩) hHeld ?_ ?_
                    rotate_left
                    · rintro w' ⟨s0, s1, s2, s3, s4, s5, s6, s7, s8, s9, s10, s11, s12, s13, s14, s15, s16, s17⟩
                      go_simp
                      with_reducible rfl
                    rotate_left
                    · simp only [Act.put, List.setIfInBounds_toArray, List.set_cons_zero, List.set_cons_succ, i64_w, i32_w]
                      rfl
                    refine pure_ (i := 3) (N := some 31) (v := ?_) (a' := ?_) #[true, true, true, true, false, true, false, true, false, false, false, false] rfl rfl (any_of HT_.out (by kernel_rfl)) (fun _ _ _ h => h) (Or.inl ⟨by rfl, ?_⟩) ?_ ?_
                    rotate_left
                    · intro w'
                      go_simp
                      with_reducible rfl
                    rotate_left
                    · simp only [Act.put, List.setIfInBounds_toArray, List.set_cons_zero, List.set_cons_succ, i64_w, i32_w]
                      rfl
                    refine take_ (i := 4) (N := some 32) (v := ?_) (a' := ?_) #[true, true, true, true, true, true, false, true, false, false, false, false] rfl rfl (take_ofW HT_.out HW_.out (by kernel_rfl)) (fun _ _ _ h => h) (Or.inl ⟨by rfl, ?_⟩) hHeld ?_ ?_
                    rotate_left
                    · rintro w' ⟨s0, s1, s2, s3, s4, s5, s6, s7, s8, s9, s10, s11, s12, s13, s14, s15, s16, s17⟩
                      go_simp
                      with_reducible rfl
                    rotate_left
                    · simp only [Act.put, List.setIfInBounds_toArray, List.set_cons_zero, List.set_cons_succ, i64_w, i32_w]
                      rfl
                    refine take_ (i := 6) (N := some 34) (v := ?_) (a' := ?_) #[true, true, true, true, true, true, true, true, false, false, false, false] rfl rfl (take_ofW HT_.out HW_.out (by kernel_rfl)) (fun _ _ _ h => h) (Or.inl ⟨by rfl, ?_⟩) hHeld ?_ ?_
                    rotate_left
                    · rintro w' ⟨s0, s1, s2, s3, s4, s5, s6, s7, s8, s9, s10, s11, s12, s13, s14, s15, s16, s17⟩
                      go_simp
                      with_reducible rfl
                    rotate_left
                    · simp only [Act.put, List.setIfInBounds_toArray, List.set_cons_zero, List.set_cons_succ, i64_w, i32_w]
                      rfl
                    refine pure_ (i := 8) (N := some 36) (v := ?_) (a' := ?_) #[true, true, true, true, true, true, true, true, true, false, false, false] rfl rfl (any_of HT_.out (by kernel_rfl)) (fun _ _ _ h => h) (Or.inl ⟨by rfl, ?_⟩) ?_ ?_
                    rotate_left
                    · intro w'
                      go_simp
                      with_reducible rfl
                    rotate_left
                    · simp only [Act.put, List.setIfInBounds_toArray, List.set_cons_zero, List.set_cons_succ, i64_w, i32_w]
                      rfl
                    refine take_ (i := 9) (N := some 37) (v := ?_) (a' := ?_) #[true, true, true, true, true, true, true, true, true, true, false, false] rfl rfl (take_ofW HT_.out HW_.out (by kernel_rfl)) (fun _ _ _ h => h) (Or.inl ⟨by rfl, ?_⟩) hHeld ?_ ?_
                    rotate_left
                    · rintro w' ⟨s0, s1, s2, s3, s4, s5, s6, s7, s8, s9, s10, s11, s12, s13, s14, s15, s16, s17⟩
                      go_simp
                      with_reducible rfl
                    rotate_left
                    · simp only [Act.put, List.setIfInBounds_toArray, List.set_cons_zero, List.set_cons_succ, i64_w, i32_w]
                      rfl
                    refine one_ (i := 10) (N := some 38) #[true, true, true, true, true, true, true, true, true, true, true, false] rfl rfl (one_of HT_.out (by kernel_rfl)) (by decide) (fun K hK => ?_)
                    refine goes_ Try.func35 (by kernel_rfl) rfl #[.agg #[.int .i64 ((rd_T26 l0_4 x5_2).f0), .int .i64 ((rd_T26 l0_4 x5_2).f1), .float .f64 ((rd_T26 l0_4 x5_2).f2), .string ((rd_T26 l0_4 x5_2).f3)], .agg #[.int .i64 ((rd_T26 l1_4 x5_2).f0), .int .i64 ((rd_T26 l1_4 x5_2).f1), .float .f64 ((rd_T26 l1_4 x5_2).f2), .string ((rd_T26 l1_4 x5_2).f3)]] (by rfl) rfl rfl (by (try simp only [List.map_toArray, List.map_cons, List.map_nil]); first | done | rfl | (simp only [List.length_drop, List.length_take]; rfl)) ?_
                    with_reducible refine (cobwebref03_sameAtom.calls ((rd_T26 l0_4 x5_2).f0) ((rd_T26 l0_4 x5_2).f1) ((rd_T26 l0_4 x5_2).f2) ((rd_T26 l0_4 x5_2).f3) ((rd_T26 l1_4 x5_2).f0) ((rd_T26 l1_4 x5_2).f1) ((rd_T26 l1_4 x5_2).f2) ((rd_T26 l1_4 x5_2).f3) true _ A22.out).mono ?_
                    rintro e w27 ⟨rfl, hb⟩
                    refine ⟨_, rfl, ?_⟩
                    have n0_ := Aside0.mk (blk_below (g := gb120) (o := .cells #[.int .i64 a0_0, .int .i64 a0_1, .float .f64 a0_2, .string a0_3, .slice (some ad123) l0_4.length c0_4] 29 (0, 0)) (by (with_reducible repeat (first | refine blk_drewN ?_ _ | refine blk_drew ?_ | refine blk_alloc ?_ _)); exact BK120.out) hb)
                    have n1_ := Aside0.mk (blk_below (g := gb121) (o := .cells #[.int .i64 a1_0, .int .i64 a1_1, .float .f64 a1_2, .string a1_3, .slice (some ad124) l1_4.length c1_4] 29 (0, 0)) (by (with_reducible repeat (first | refine blk_drewN ?_ _ | refine blk_drew ?_ | refine blk_alloc ?_ _)); exact BK121.out) hb)
                    have n2_ := Aside0.mk (below_step (by repeat (first | (with_reducible first | exact HB.out | apply below_alloc | apply pw_below_drewN | apply below_drew1 | refine below_set ?_ GE120.out | refine below_set ?_ GE121.out) | exact HB.out)) hb)
                    clear BK120
                    clear BK121
                    clear HB
                    have BK120 := n0_
                    have BK121 := n1_
                    have HB := n2_
                    clear n0_ n1_ n2_
                    (try clear hb)
                    (try clear hb2)
                    (try clear hk)
                    (try clear hi)
                    refine hK.out _ _ ⟨(blk_cell BK120.out 0).trans rfl, (blk_cell BK120.out 1).trans rfl, (blk_cell BK120.out 2).trans rfl, (blk_cell BK120.out 3).trans rfl, (blk_cell BK120.out 4).trans rfl, (blk_cell BK121.out 0).trans rfl, (blk_cell BK121.out 1).trans rfl, (blk_cell BK121.out 2).trans rfl, (blk_cell BK121.out 3).trans rfl, (blk_cell BK121.out 4).trans rfl, ((HB.out.cell (World.block_lt_of_cell? w _ hw123_0)).trans hw123_0), ((HB.out.cell (World.block_lt_of_cell? w _ hw123_1)).trans hw123_1), ((HB.out.cell (World.block_lt_of_cell? w _ hw123_2)).trans hw123_2), ((HB.out.cell (World.block_lt_of_cell? w _ hw123_3)).trans hw123_3), ((HB.out.cell (World.block_lt_of_cell? w _ hw124_0)).trans hw124_0), ((HB.out.cell (World.block_lt_of_cell? w _ hw124_1)).trans hw124_1), ((HB.out.cell (World.block_lt_of_cell? w _ hw124_2)).trans hw124_2), ((HB.out.cell (World.block_lt_of_cell? w _ hw124_3)).trans hw124_3)⟩ (fun hHeld => ?_)
                    clear hK K
                    refine norm_ (a' := ?_) ?_ ?_
                    rotate_left
                    · show Act.put _ (some 38) _ = _
                      simp only [Act.put, List.setIfInBounds_toArray, List.set_cons_zero, List.set_cons_succ, i64_w, i32_w]
                      rfl
                    refine pure_ (i := 11) (N := some 39) (v := ?_) (a' := ?_) #[true, true, true, true, true, true, true, true, true, true, true, true] rfl rfl (any_of HT_.out (by kernel_rfl)) (fun _ _ _ h => h) (Or.inl ⟨by rfl, ?_⟩) ?_ ?_
                    rotate_left
                    · intro w'
                      go_simp
                      with_reducible rfl
                    rotate_left
                    · simp only [Act.put, List.setIfInBounds_toArray, List.set_cons_zero, List.set_cons_succ, i64_w, i32_w]
                      rfl
                    refine done_ (done_of HT_.out (by kernel_rfl)) ?_
                    try go_wp2
                    go_roundg k2
                    case measure => have := HJ2.out; have := HK2.out; omega
                    case rel => exact ⟨(wrap64 (x5_2 + 1)), (by first | rfl | (simp; done) | (simp [*]; done)), H', ⟨by have := HJ2.out; have := HK2.out; omega⟩, ⟨by (with_reducible repeat (first | refine blk_drewN ?_ _ | refine blk_drew ?_ | refine blk_alloc ?_ _)); exact BK120.out⟩, ⟨by (with_reducible repeat (first | refine blk_drewN ?_ _ | refine blk_drew ?_ | refine blk_alloc ?_ _)); exact BK121.out⟩, ⟨by repeat (first | (with_reducible first | exact HB.out | apply below_alloc | apply pw_below_drewN | apply below_drew1 | refine below_set ?_ GE120.out | refine below_set ?_ GE121.out) | exact HB.out)⟩⟩
                  · replace c23 := Bool.eq_false_iff.mpr c23
                    subst c23
                    have H1 : (some false) = some r := by rw [if_neg (show ¬ (false = true) by decide)] at H; exact H
                    clear H
                    have H := H1
                    clear H1
                    obtain rfl := Option.some.inj H
                    have hnb28 := NB120_121.out
                    have hnc28 := NB121_120.out
                    have hcz29_0 : wr.cell? ⟨gb120, 0, none⟩ = some (.int .i64 a0_0) := (blk_cell BK120.out 0).trans rfl
                    have hcz29_1 : wr.cell? ⟨gb120, 1, none⟩ = some (.int .i64 a0_1) := (blk_cell BK120.out 1).trans rfl
                    have hcz29_2 : wr.cell? ⟨gb120, 2, none⟩ = some (.float .f64 a0_2) := (blk_cell BK120.out 2).trans rfl
                    have hcz29_3 : wr.cell? ⟨gb120, 3, none⟩ = some (.string a0_3) := (blk_cell BK120.out 3).trans rfl
                    have hcz29_4 : wr.cell? ⟨gb120, 4, none⟩ = some (.slice A0_4 l0_4.length c0_4) := (blk_cell BK120.out 4).trans rfl
                    have hfz29_0 := blk_frozen BK120.out 0
                    have hfz29_1 := blk_frozen BK120.out 1
                    have hfz29_2 := blk_frozen BK120.out 2
                    have hfz29_3 := blk_frozen BK120.out 3
                    have hfz29_4 := blk_frozen BK120.out 4
                    try go_wp2
                    have n0_ := Aside0.mk (blk_drew BK120.out)
                    have n1_ := Aside0.mk (blk_drew BK121.out)
                    have n2_ := Aside0.mk (below_drew1 HB.out)
                    clear BK120
                    clear BK121
                    clear HB
                    have BK120 := n0_
                    have BK121 := n1_
                    have HB := n2_
                    clear n0_ n1_ n2_
                    have p123 : 0 ≤ (x5_2 : Int) := of_decide_eq_true (by first | (with_reducible assumption) | assumption)
                    have q123 : x5_2 < (l0_4.length : Int) := of_decide_eq_true (by first | (with_reducible assumption) | assumption)
                    obtain ⟨ad123, e123, hx123_0, hx123_1, hx123_2, hx123_3⟩ := at_T26 HR0_4.out x5_2 p123 q123
                    have hw123_3 := hx123_3
                    have hw123_2 := hx123_2
                    have hw123_1 := hx123_1
                    have hw123_0 := hx123_0
                    cases e123
                    replace hx123_0 := (HB.out.cell (World.block_lt_of_cell? w _ hx123_0)).trans hx123_0
                    replace hx123_1 := (HB.out.cell (World.block_lt_of_cell? w _ hx123_1)).trans hx123_1
                    replace hx123_2 := (HB.out.cell (World.block_lt_of_cell? w _ hx123_2)).trans hx123_2
                    replace hx123_3 := (HB.out.cell (World.block_lt_of_cell? w _ hx123_3)).trans hx123_3
                    replace p123 := eq_true p123
                    replace q123 := eq_true q123
                    have p124 : 0 ≤ (x5_2 : Int) := of_decide_eq_true (by first | (with_reducible assumption) | assumption)
                    have q124 : x5_2 < (l1_4.length : Int) := of_decide_eq_true (by first | (with_reducible assumption) | assumption)
                    obtain ⟨ad124, e124, hx124_0, hx124_1, hx124_2, hx124_3⟩ := at_T26 HR1_4.out x5_2 p124 q124
                    have hw124_3 := hx124_3
                    have hw124_2 := hx124_2
                    have hw124_1 := hx124_1
                    have hw124_0 := hx124_0
                    cases e124
                    replace hx124_0 := (HB.out.cell (World.block_lt_of_cell? w _ hx124_0)).trans hx124_0
                    replace hx124_1 := (HB.out.cell (World.block_lt_of_cell? w _ hx124_1)).trans hx124_1
                    replace hx124_2 := (HB.out.cell (World.block_lt_of_cell? w _ hx124_2)).trans hx124_2
                    replace hx124_3 := (HB.out.cell (World.block_lt_of_cell? w _ hx124_3)).trans hx124_3
                    replace p124 := eq_true p124
                    replace q124 := eq_true q124
                    refine start_ (n := 12) (S := fun w' => w'.cell? ⟨gb120, 0, none⟩ = some (.int .i64 a0_0) ∧ w'.cell? ⟨gb120, 1, none⟩ = some (.int .i64 a0_1) ∧ w'.cell? ⟨gb120, 2, none⟩ = some (.float .f64 a0_2) ∧ w'.cell? ⟨gb120, 3, none⟩ = some (.string a0_3) ∧ w'.cell? ⟨gb120, 4, none⟩ = some (.slice (some ad123) l0_4.length c0_4) ∧ w'.cell? ⟨gb121, 0, none⟩ = some (.int .i64 a1_0) ∧ w'.cell? ⟨gb121, 1, none⟩ = some (.int .i64 a1_1) ∧ w'.cell? ⟨gb121, 2, none⟩ = some (.float .f64 a1_2) ∧ w'.cell? ⟨gb121, 3, none⟩ = some (.string a1_3) ∧ w'.cell? ⟨gb121, 4, none⟩ = some (.slice (some ad124) l1_4.length c1_4) ∧ w'.cell? (ad123.add ((x5_2).toNat * 4)) = some (.int .i64 ((rd_T26 l0_4 x5_2).f0)) ∧ w'.cell? ⟨(ad123.add ((x5_2).toNat * 4)).block, (ad123.add ((x5_2).toNat * 4)).off + 1, none⟩ = some (.int .i64 ((rd_T26 l0_4 x5_2).f1)) ∧ w'.cell? ⟨(ad123.add ((x5_2).toNat * 4)).block, (ad123.add ((x5_2).toNat * 4)).off + 2, none⟩ = some (.float .f64 ((rd_T26 l0_4 x5_2).f2)) ∧ w'.cell? ⟨(ad123.add ((x5_2).toNat * 4)).block, (ad123.add ((x5_2).toNat * 4)).off + 3, none⟩ = some (.string ((rd_T26 l0_4 x5_2).f3)) ∧ w'.cell? (ad124.add ((x5_2).toNat * 4)) = some (.int .i64 ((rd_T26 l1_4 x5_2).f0)) ∧ w'.cell? ⟨(ad124.add ((x5_2).toNat * 4)).block, (ad124.add ((x5_2).toNat * 4)).off + 1, none⟩ = some (.int .i64 ((rd_T26 l1_4 x5_2).f1)) ∧ w'.cell? ⟨(ad124.add ((x5_2).toNat * 4)).block, (ad124.add ((x5_2).toNat * 4)).off + 2, none⟩ = some (.float .f64 ((rd_T26 l1_4 x5_2).f2)) ∧ w'.cell? ⟨(ad124.add ((x5_2).toNat * 4)).block, (ad124.add ((x5_2).toNat * 4)).off + 3, none⟩ = some (.string ((rd_T26 l1_4 x5_2).f3))) (ds := []) #[false, false, false, false, false, false, false, false, false, false, false, false] (by kernel_rfl) rfl rfl ⟨(blk_cell BK120.out 0).trans rfl, (blk_cell BK120.out 1).trans rfl, (blk_cell BK120.out 2).trans rfl, (blk_cell BK120.out 3).trans rfl, (blk_cell BK120.out 4).trans rfl, (blk_cell BK121.out 0).trans rfl, (blk_cell BK121.out 1).trans rfl, (blk_cell BK121.out 2).trans rfl, (blk_cell BK121.out 3).trans rfl, (blk_cell BK121.out 4).trans rfl, ((HB.out.cell (World.block_lt_of_cell? w _ hw123_0)).trans hw123_0), ((HB.out.cell (World.block_lt_of_cell? w _ hw123_1)).trans hw123_1), ((HB.out.cell (World.block_lt_of_cell? w _ hw123_2)).trans hw123_2), ((HB.out.cell (World.block_lt_of_cell? w _ hw123_3)).trans hw123_3), ((HB.out.cell (World.block_lt_of_cell? w _ hw124_0)).trans hw124_0), ((HB.out.cell (World.block_lt_of_cell? w _ hw124_1)).trans hw124_1), ((HB.out.cell (World.block_lt_of_cell? w _ hw124_2)).trans hw124_2), ((HB.out.cell (World.block_lt_of_cell? w _ hw124_3)).trans hw124_3)⟩ (fun hHeld => ?_); refine with_tabW cobwebref03_Same.tab6 cobwebref03_Same.bits6 (fun HT_ HW_ => ?_)
                    generalize wr.drew = w30 at BK120 BK121 HB hx123_0 hx123_1 hx123_2 hx123_3 hx124_0 hx124_1 hx124_2 hx124_3 hHeld ⊢
                    refine pure_ (i := 0) (N := some 28) (v := ?_) (a' := ?_) #[true, false, false, false, false, false, false, false, false, false, false, false] rfl rfl (any_of HT_.out (by kernel_rfl)) (fun _ _ _ h => h) (Or.inl ⟨by rfl, ?_⟩) ?_ ?_
                    rotate_left
                    · intro w'
                      go_simp
                      with_reducible rfl
                    rotate_left
                    · simp only [Act.put, List.setIfInBounds_toArray, List.set_cons_zero, List.set_cons_succ, i64_w, i32_w]
                      rfl
                    refine pure_ (i := 2) (N := some 30) (v := ?_) (a' := ?_) #[true, false, true, false, false, false, false, false, false, false, false, false] rfl rfl (any_of HT_.out (by kernel_rfl)) (fun _ _ _ h => h) (Or.inl ⟨by rfl, ?_⟩) ?_ ?_
                    rotate_left
                    · intro w'
                      go_simp
                      with_reducible rfl
                    rotate_left
                    · simp only [Act.put, List.setIfInBounds_toArray, List.set_cons_zero, List.set_cons_succ, i64_w, i32_w]
                      rfl
                    refine pure_ (i := 5) (N := some 33) (v := ?_) (a' := ?_) #[true, false, true, false, false, true, false, false, false, false, false, false] rfl rfl (any_of HT_.out (by kernel_rfl)) (fun _ _ _ h => h) (Or.inl ⟨by rfl, ?_⟩) ?_ ?_
                    rotate_left
                    · intro w'
                      go_simp
                      with_reducible rfl
                    rotate_left
                    · simp only [Act.put, List.setIfInBounds_toArray, List.set_cons_zero, List.set_cons_succ, i64_w, i32_w]
                      rfl
                    refine pure_ (i := 7) (N := some 35) (v := ?_) (a' := ?_) #[true, false, true, false, false, true, false, true, false, false, false, false] rfl rfl (any_of HT_.out (by kernel_rfl)) (fun _ _ _ h => h) (Or.inl ⟨by rfl, ?_⟩) ?_ ?_
                    rotate_left
                    · intro w'
                      go_simp
                      with_reducible rfl
                    rotate_left
                    · simp only [Act.put, List.setIfInBounds_toArray, List.set_cons_zero, List.set_cons_succ, i64_w, i32_w]
                      rfl
                    refine take_ (i := 1) (N := some 29) (v := ?_) (a' := ?_) #[true, true, true, false, false, true, false, true, false, false, false, false] rfl rfl (take_ofW HT_.out HW_.out (by kernel_rfl)) (fun _ _ _ h => h) (Or.inl ⟨by rfl, ?_⟩) hHeld ?_ ?_
                    rotate_left
                    · rintro w' ⟨s0, s1, s2, s3, s4, s5, s6, s7, s8, s9, s10, s11, s12, s13, s14, s15, s16, s17⟩
                      go_simp
                      with_reducible rfl
                    rotate_left
                    · simp only [Act.put, List.setIfInBounds_toArray, List.set_cons_zero, List.set_cons_succ, i64_w, i32_w]
                      rfl
                    refine pure_ (i := 3) (N := some 31) (v := ?_) (a' := ?_) #[true, true, true, true, false, true, false, true, false, false, false, false] rfl rfl (any_of HT_.out (by kernel_rfl)) (fun _ _ _ h => h) (Or.inl ⟨by rfl, ?_⟩) ?_ ?_
                    rotate_left
                    · intro w'
                      go_simp
                      with_reducible rfl
                    rotate_left
                    · simp only [Act.put, List.setIfInBounds_toArray, List.set_cons_zero, List.set_cons_succ, i64_w, i32_w]
                      rfl
                    refine take_ (i := 4) (N := some 32) (v := ?_) (a' := ?_) #[true, true, true, true, true, true, false, true, false, false, false, false] rfl rfl (take_ofW HT_.out HW_.out (by kernel_rfl)) (fun _ _ _ h => h) (Or.inl ⟨by rfl, ?_⟩) hHeld ?_ ?_
                    rotate_left
                    · rintro w' ⟨s0, s1, s2, s3, s4, s5, s6, s7, s8, s9, s10, s11, s12, s13, s14, s15, s16, s17⟩
                      go_simp
                      with_reducible rfl
                    rotate_left
                    · simp only [Act.put, List.setIfInBounds_toArray, List.set_cons_zero, List.set_cons_succ, i64_w, i32_w]
                      rfl
                    refine take_ (i := 6) (N := some 34) (v := ?_) (a' := ?_) #[true, true, true, true, true, true, true, true, false, false, false, false] rfl rfl (take_ofW HT_.out HW_.out (by kernel_rfl)) (fun _ _ _ h => h) (Or.inl ⟨by rfl, ?_⟩) hHeld ?_ ?_
                    rotate_left
                    · rintro w' ⟨s0, s1, s2, s3, s4, s5, s6, s7, s8, s9, s10, s11, s12, s13, s14, s15, s16, s17⟩
                      go_simp
                      with_reducible rfl
                    rotate_left
                    · simp only [Act.put, List.setIfInBounds_toArray, List.set_cons_zero, List.set_cons_succ, i64_w, i32_w]
                      rfl
                    refine pure_ (i := 8) (N := some 36) (v := ?_) (a' := ?_) #[true, true, true, true, true, true, true, true, true, false, false, false] rfl rfl (any_of HT_.out (by kernel_rfl)) (fun _ _ _ h => h) (Or.inl ⟨by rfl, ?_⟩) ?_ ?_
                    rotate_left
                    · intro w'
                      go_simp
                      with_reducible rfl
                    rotate_left
                    · simp only [Act.put, List.setIfInBounds_toArray, List.set_cons_zero, List.set_cons_succ, i64_w, i32_w]
                      rfl
                    refine take_ (i := 9) (N := some 37) (v := ?_) (a' := ?_) #[true, true, true, true, true, true, true, true, true, true, false, false] rfl rfl (take_ofW HT_.out HW_.out (by kernel_rfl)) (fun _ _ _ h => h) (Or.inl ⟨by rfl, ?_⟩) hHeld ?_ ?_
                    rotate_left
                    · rintro w' ⟨s0, s1, s2, s3, s4, s5, s6, s7, s8, s9, s10, s11, s12, s13, s14, s15, s16, s17⟩
                      go_simp
                      with_reducible rfl
                    rotate_left
                    · simp only [Act.put, List.setIfInBounds_toArray, List.set_cons_zero, List.set_cons_succ, i64_w, i32_w]
                      rfl
                    refine one_ (i := 10) (N := some 38) #[true, true, true, true, true, true, true, true, true, true, true, false] rfl rfl (one_of HT_.out (by kernel_rfl)) (by decide) (fun K hK => ?_)
                    refine goes_ Try.func35 (by kernel_rfl) rfl #[.agg #[.int .i64 ((rd_T26 l0_4 x5_2).f0), .int .i64 ((rd_T26 l0_4 x5_2).f1), .float .f64 ((rd_T26 l0_4 x5_2).f2), .string ((rd_T26 l0_4 x5_2).f3)], .agg #[.int .i64 ((rd_T26 l1_4 x5_2).f0), .int .i64 ((rd_T26 l1_4 x5_2).f1), .float .f64 ((rd_T26 l1_4 x5_2).f2), .string ((rd_T26 l1_4 x5_2).f3)]] (by rfl) rfl rfl (by (try simp only [List.map_toArray, List.map_cons, List.map_nil]); first | done | rfl | (simp only [List.length_drop, List.length_take]; rfl)) ?_
                    with_reducible refine (cobwebref03_sameAtom.calls ((rd_T26 l0_4 x5_2).f0) ((rd_T26 l0_4 x5_2).f1) ((rd_T26 l0_4 x5_2).f2) ((rd_T26 l0_4 x5_2).f3) ((rd_T26 l1_4 x5_2).f0) ((rd_T26 l1_4 x5_2).f1) ((rd_T26 l1_4 x5_2).f2) ((rd_T26 l1_4 x5_2).f3) false _ A22.out).mono ?_
                    rintro e w31 ⟨rfl, hb⟩
                    refine ⟨_, rfl, ?_⟩
                    have n0_ := Aside0.mk (blk_below (g := gb120) (o := .cells #[.int .i64 a0_0, .int .i64 a0_1, .float .f64 a0_2, .string a0_3, .slice (some ad123) l0_4.length c0_4] 29 (0, 0)) (by (with_reducible repeat (first | refine blk_drewN ?_ _ | refine blk_drew ?_ | refine blk_alloc ?_ _)); exact BK120.out) hb)
                    have n1_ := Aside0.mk (blk_below (g := gb121) (o := .cells #[.int .i64 a1_0, .int .i64 a1_1, .float .f64 a1_2, .string a1_3, .slice (some ad124) l1_4.length c1_4] 29 (0, 0)) (by (with_reducible repeat (first | refine blk_drewN ?_ _ | refine blk_drew ?_ | refine blk_alloc ?_ _)); exact BK121.out) hb)
                    have n2_ := Aside0.mk (below_step (by repeat (first | (with_reducible first | exact HB.out | apply below_alloc | apply pw_below_drewN | apply below_drew1 | refine below_set ?_ GE120.out | refine below_set ?_ GE121.out) | exact HB.out)) hb)
                    clear BK120
                    clear BK121
                    clear HB
                    have BK120 := n0_
                    have BK121 := n1_
                    have HB := n2_
                    clear n0_ n1_ n2_
                    (try clear hb)
                    (try clear hb2)
                    (try clear hk)
                    (try clear hi)
                    refine hK.out _ _ ⟨(blk_cell BK120.out 0).trans rfl, (blk_cell BK120.out 1).trans rfl, (blk_cell BK120.out 2).trans rfl, (blk_cell BK120.out 3).trans rfl, (blk_cell BK120.out 4).trans rfl, (blk_cell BK121.out 0).trans rfl, (blk_cell BK121.out 1).trans rfl, (blk_cell BK121.out 2).trans rfl, (blk_cell BK121.out 3).trans rfl, (blk_cell BK121.out 4).trans rfl, ((HB.out.cell (World.block_lt_of_cell? w _ hw123_0)).trans hw123_0), ((HB.out.cell (World.block_lt_of_cell? w _ hw123_1)).trans hw123_1), ((HB.out.cell (World.block_lt_of_cell? w _ hw123_2)).trans hw123_2), ((HB.out.cell (World.block_lt_of_cell? w _ hw123_3)).trans hw123_3), ((HB.out.cell (World.block_lt_of_cell? w _ hw124_0)).trans hw124_0), ((HB.out.cell (World.block_lt_of_cell? w _ hw124_1)).trans hw124_1), ((HB.out.cell (World.block_lt_of_cell? w _ hw124_2)).trans hw124_2), ((HB.out.cell (World.block_lt_of_cell? w _ hw124_3)).trans hw124_3)⟩ (fun hHeld => ?_)
                    clear hK K
                    refine norm_ (a' := ?_) ?_ ?_
                    rotate_left
                    · show Act.put _ (some 38) _ = _
                      simp only [Act.put, List.setIfInBounds_toArray, List.set_cons_zero, List.set_cons_succ, i64_w, i32_w]
                      rfl
                    refine pure_ (i := 11) (N := some 39) (v := ?_) (a' := ?_) #[true, true, true, true, true, true, true, true, true, true, true, true] rfl rfl (any_of HT_.out (by kernel_rfl)) (fun _ _ _ h => h) (Or.inl ⟨by rfl, ?_⟩) ?_ ?_
                    rotate_left
                    · intro w'
                      go_simp
                      with_reducible rfl
                    rotate_left
                    · simp only [Act.put, List.setIfInBounds_toArray, List.set_cons_zero, List.set_cons_succ, i64_w, i32_w]
                      rfl
                    refine done_ (done_of HT_.out (by kernel_rfl)) ?_
                    try go_wp2
                    go_ret
                    exact ⟨by first | rfl | (simp [errW_none, errW_some] <;> rfl) | (simp [*, errW_none, errW_some] <;> rfl), by repeat (first | (with_reducible first | exact HB.out | apply below_alloc | apply pw_below_drewN | apply below_drew1 | refine below_set ?_ GE120.out | refine below_set ?_ GE121.out) | exact HB.out)⟩
                · rw [if_neg c21] at H
                  exact absurd H (by simp)
              · rw [if_neg c20] at H
                exact absurd H (by simp)
            · rw [if_neg c19] at H
              have c19b0 : decide (x5_2 < (l0_4.length : Int)) = false := decide_eq_false c19
              clear c19
              obtain rfl := Option.some.inj H
              have hnb32 := NB120_121.out
              have hnc32 := NB121_120.out
              have hcz33_0 : wr.cell? ⟨gb120, 0, none⟩ = some (.int .i64 a0_0) := (blk_cell BK120.out 0).trans rfl
              have hcz33_1 : wr.cell? ⟨gb120, 1, none⟩ = some (.int .i64 a0_1) := (blk_cell BK120.out 1).trans rfl
              have hcz33_2 : wr.cell? ⟨gb120, 2, none⟩ = some (.float .f64 a0_2) := (blk_cell BK120.out 2).trans rfl
              have hcz33_3 : wr.cell? ⟨gb120, 3, none⟩ = some (.string a0_3) := (blk_cell BK120.out 3).trans rfl
              have hcz33_4 : wr.cell? ⟨gb120, 4, none⟩ = some (.slice A0_4 l0_4.length c0_4) := (blk_cell BK120.out 4).trans rfl
              have hfz33_0 := blk_frozen BK120.out 0
              have hfz33_1 := blk_frozen BK120.out 1
              have hfz33_2 := blk_frozen BK120.out 2
              have hfz33_3 := blk_frozen BK120.out 3
              have hfz33_4 := blk_frozen BK120.out 4
              go_wp2
              go_ret
              exact ⟨by first | rfl | (simp [errW_none, errW_some] <;> rfl) | (simp [*, errW_none, errW_some] <;> rfl), by repeat (first | (with_reducible first | exact HB.out | apply below_alloc | apply pw_below_drewN | apply below_drew1 | refine below_set ?_ GE120.out | refine below_set ?_ GE121.out) | exact HB.out)⟩
end Go.Proofs.Ytnfapjkffofcaaa.PY
namespace Go.Proofs.Ytnfapjkffofcaaa.PY
open Go.RowKit Go.Proofs.YtnfapjkffofcaaaW.PrintWords Go.Proofs.YtnfapjkffofcaaaW.PrintLast Go.Proofs.Ytnfapjkffofcaaa.FW Go.Proofs.Ytnfapjkffofcaaa.PK Go.Proofs.Ytnfapjkffofcaaa.G
set_option linter.unusedVariables false
set_option linter.unusedSimpArgs false
def value_unknown.f (a0_0 : Int) (a0_1 : Int) (a0_2 : Nat) (a0_3 : ByteArray) (l0_4 : List (S26)) (a1_0 : Int) (a1_1 : Int) (a1_2 : Nat) (a1_3 : ByteArray) (l1_4 : List (S26)) : Option (Bool) := (value_Valid.f a0_0 a0_1 a0_2 a0_3 l0_4).bind fun t128 => (if t128 = true then ((value_Valid.f a1_0 a1_1 a1_2 a1_3 l1_4).bind fun t129 => (if t129 = true then (if a0_0 = 0 then (some true) else (some (a1_0 == 0))) else (some true))) else (some true))
def value_told.f (a0 : Bool) : Option (Int) := if a0 = true then (some 1) else (some 0)
end Go.Proofs.Ytnfapjkffofcaaa.PY
namespace Go.Proofs.Ytnfapjkffofcaaa.PY
open Go.RowKit Go.Proofs.YtnfapjkffofcaaaW.PrintWords Go.Proofs.YtnfapjkffofcaaaW.PrintLast Go.Proofs.Ytnfapjkffofcaaa.FW Go.Proofs.Ytnfapjkffofcaaa.PK Go.Proofs.Ytnfapjkffofcaaa.G
set_option linter.unusedVariables false
set_option linter.unusedSimpArgs false
mutual
def value_Less.j0 : Nat → Bool → Int → Int → Nat → ByteArray → Int → Int → Nat → ByteArray → Option (Int)
  | 0, _, _, _, _, _, _, _, _, _ => none
  | k + 1, x13, x133000, x133001, x133002, x133003, x134000, x134001, x134002, x134003 => if x13 = true then (some 2) else ((value_item_nan.f x133000 x133001 x133002 x133003).bind fun t137 => (if t137 = true then (value_Less.j1 k true x133000 x133001 x133002 x133003 x134000 x134001 x134002 x134003) else ((value_item_nan.f x134000 x134001 x134002 x134003).bind fun t138 => (value_Less.j1 k t138 x133000 x133001 x133002 x133003 x134000 x134001 x134002 x134003))))
def value_Less.j1 : Nat → Bool → Int → Int → Nat → ByteArray → Int → Int → Nat → ByteArray → Option (Int)
  | 0, _, _, _, _, _, _, _, _, _ => none
  | k + 1, x30, x133000, x133001, x133002, x133003, x134000, x134001, x134002, x134003 => if x30 = true then (some 0) else ((value_item_number.f x133000 x133001 x133002 x133003).bind fun t139 => (if t139 = true then ((value_exactly.f x133000 x133001 x133002 x133003 x134000 x134001 x134002 x134003).bind fun t140 => ((value_told.f (decide (t140 < 0))).bind fun t141 => (some t141))) else ((value_atoms.f x133000 x133001 x133002 x133003 x134000 x134001 x134002 x134003).bind fun t142 => ((value_told.f (decide (t142 < 0))).bind fun t143 => (some t143)))))
end
def value_Less.f (k : Nat) (a0_0 : Int) (a0_1 : Int) (a0_2 : Nat) (a0_3 : ByteArray) (l0_4 : List (S26)) (a1_0 : Int) (a1_1 : Int) (a1_2 : Nat) (a1_3 : ByteArray) (l1_4 : List (S26)) : Option (Int) := (value_unknown.f a0_0 a0_1 a0_2 a0_3 l0_4 a1_0 a1_1 a1_2 a1_3 l1_4).bind fun t134 => (if t134 = true then (value_Less.j0 k true a0_0 a0_1 a0_2 a0_3 a1_0 a1_1 a1_2 a1_3) else (if a0_0 = 6 then (value_Less.j0 k true a0_0 a0_1 a0_2 a0_3 a1_0 a1_1 a1_2 a1_3) else ((value_item_rank.f a0_0 a0_1 a0_2 a0_3).bind fun t135 => ((value_item_rank.f a1_0 a1_1 a1_2 a1_3).bind fun t136 => (value_Less.j0 k (t135 != t136) a0_0 a0_1 a0_2 a0_3 a1_0 a1_1 a1_2 a1_3)))))
theorem value_Less.mono_l : ∀ k, (∀ y0 y1 y2 y3 y4 y5 y6 y7 y8, LeO (value_Less.j0 k y0 y1 y2 y3 y4 y5 y6 y7 y8) (value_Less.j0 (k + 1) y0 y1 y2 y3 y4 y5 y6 y7 y8)) ∧ (∀ y0 y1 y2 y3 y4 y5 y6 y7 y8, LeO (value_Less.j1 k y0 y1 y2 y3 y4 y5 y6 y7 y8) (value_Less.j1 (k + 1) y0 y1 y2 y3 y4 y5 y6 y7 y8))
  | 0 => ⟨fun _ _ _ _ _ _ _ _ _ r h => by simp [value_Less.j0] at h, fun _ _ _ _ _ _ _ _ _ r h => by simp [value_Less.j1] at h⟩
  | k + 1 => by
    obtain ⟨ih0, ih1⟩ := value_Less.mono_l k
    refine ⟨?_, ?_⟩
    · intro y0 y1 y2 y3 y4 y5 y6 y7 y8
      unfold value_Less.j0
      repeat' first
      | (with_reducible exact ih0 _ _ _ _ _ _ _ _ _)
      | (with_reducible exact ih1 _ _ _ _ _ _ _ _ _)
      | (with_reducible exact LeO.refl _)
      | (with_reducible exact LeO.none _)
      | (with_reducible refine LeO.ite ?_ ?_)
      | (with_reducible refine LeO.bind ?_ (fun _ => ?_))
      | exact ih0 _ _ _ _ _ _ _ _ _
      | exact ih1 _ _ _ _ _ _ _ _ _
      | exact LeO.none _
      | refine LeO.ite ?_ ?_
      | refine LeO.bind ?_ (fun _ => ?_)
    · intro y0 y1 y2 y3 y4 y5 y6 y7 y8
      unfold value_Less.j1
      repeat' first
      | (with_reducible exact ih0 _ _ _ _ _ _ _ _ _)
      | (with_reducible exact ih1 _ _ _ _ _ _ _ _ _)
      | (with_reducible exact LeO.refl _)
      | (with_reducible exact LeO.none _)
      | (with_reducible refine LeO.ite ?_ ?_)
      | (with_reducible refine LeO.bind ?_ (fun _ => ?_))
      | exact ih0 _ _ _ _ _ _ _ _ _
      | exact ih1 _ _ _ _ _ _ _ _ _
      | exact LeO.none _
      | refine LeO.ite ?_ ?_
      | refine LeO.bind ?_ (fun _ => ?_)
theorem value_Less.mono : ∀ a0 a1 a2 a3 a4 a5 a6 a7 a8 a9 k, LeO (value_Less.f k a0 a1 a2 a3 a4 a5 a6 a7 a8 a9) (value_Less.f (k + 1) a0 a1 a2 a3 a4 a5 a6 a7 a8 a9) := by
  intro a0 a1 a2 a3 a4 a5 a6 a7 a8 a9 k
  obtain ⟨ih0, ih1⟩ := value_Less.mono_l k
  unfold value_Less.f
  repeat' first
      | (with_reducible exact ih0 _ _ _ _ _ _ _ _ _)
      | (with_reducible exact ih1 _ _ _ _ _ _ _ _ _)
      | (with_reducible exact LeO.refl _)
      | (with_reducible exact LeO.none _)
      | (with_reducible refine LeO.ite ?_ ?_)
      | (with_reducible refine LeO.bind ?_ (fun _ => ?_))
      | exact ih0 _ _ _ _ _ _ _ _ _
      | exact ih1 _ _ _ _ _ _ _ _ _
      | exact LeO.none _
      | refine LeO.ite ?_ ?_
      | refine LeO.bind ?_ (fun _ => ?_)
end Go.Proofs.Ytnfapjkffofcaaa.PY
namespace Go.Proofs.Ytnfapjkffofcaaa.PY
open Go.RowKit Go.Proofs.YtnfapjkffofcaaaW.PrintWords Go.Proofs.YtnfapjkffofcaaaW.PrintLast Go.Proofs.Ytnfapjkffofcaaa.FW Go.Proofs.Ytnfapjkffofcaaa.PK Go.Proofs.Ytnfapjkffofcaaa.G
set_option linter.unusedVariables false
set_option linter.unusedSimpArgs false
mutual
def value_Equal.j0 : Nat → Bool → Int → Int → Nat → ByteArray → List (S26) → Int → Int → Nat → ByteArray → List (S26) → Option (Int)
  | 0, _, _, _, _, _, _, _, _, _, _, _ => none
  | k + 1, x11, x145000, x145001, x145002, x145003, x145004, x146000, x146001, x146002, x146003, x146004 => if x11 = true then ((value_alike.f x145000 x145001 x145002 x145003 x146000 x146001 x146002 x146003).bind fun t147 => ((value_told.f t147).bind fun t148 => (some t148))) else (value_Equal.l0 k ((x145004.length : Int) == (x146004.length : Int)) 0 x145000 x145001 x145002 x145003 x145004 x146000 x146001 x146002 x146003 x146004)
def value_Equal.l0 : Nat → Bool → Int → Int → Int → Nat → ByteArray → List (S26) → Int → Int → Nat → ByteArray → List (S26) → Option (Int)
  | 0, _, _, _, _, _, _, _, _, _, _, _, _ => none
  | k + 1, x5, x6, x145000, x145001, x145002, x145003, x145004, x146000, x146001, x146002, x146003, x146004 => if x5 = true then (if x6 < (x145004.length : Int) then (if 0 ≤ x6 then (if x6 < (x146004.length : Int) then ((value_alike.f ((rd_T26 x145004 x6).f0) ((rd_T26 x145004 x6).f1) ((rd_T26 x145004 x6).f2) ((rd_T26 x145004 x6).f3) ((rd_T26 x146004 x6).f0) ((rd_T26 x146004 x6).f1) ((rd_T26 x146004 x6).f2) ((rd_T26 x146004 x6).f3)).bind fun t151 => (value_Equal.l0 k t151 (wrap64 (x6 + 1)) x145000 x145001 x145002 x145003 x145004 x146000 x146001 x146002 x146003 x146004)) else (none)) else (none)) else ((value_told.f x5).bind fun t152 => (some t152))) else ((value_told.f x5).bind fun t153 => (some t153))
end
def value_Equal.f (k : Nat) (a0_0 : Int) (a0_1 : Int) (a0_2 : Nat) (a0_3 : ByteArray) (l0_4 : List (S26)) (a1_0 : Int) (a1_1 : Int) (a1_2 : Nat) (a1_3 : ByteArray) (l1_4 : List (S26)) : Option (Int) := (value_unknown.f a0_0 a0_1 a0_2 a0_3 l0_4 a1_0 a1_1 a1_2 a1_3 l1_4).bind fun t146 => (if t146 = true then (some 2) else (if a0_0 = 6 then (value_Equal.j0 k (a1_0 != 6) a0_0 a0_1 a0_2 a0_3 l0_4 a1_0 a1_1 a1_2 a1_3 l1_4) else (value_Equal.j0 k true a0_0 a0_1 a0_2 a0_3 l0_4 a1_0 a1_1 a1_2 a1_3 l1_4)))
theorem value_Equal.mono_l : ∀ k, (∀ y0 y1 y2 y3 y4 y5 y6 y7 y8 y9 y10, LeO (value_Equal.j0 k y0 y1 y2 y3 y4 y5 y6 y7 y8 y9 y10) (value_Equal.j0 (k + 1) y0 y1 y2 y3 y4 y5 y6 y7 y8 y9 y10)) ∧ (∀ y0 y1 y2 y3 y4 y5 y6 y7 y8 y9 y10 y11, LeO (value_Equal.l0 k y0 y1 y2 y3 y4 y5 y6 y7 y8 y9 y10 y11) (value_Equal.l0 (k + 1) y0 y1 y2 y3 y4 y5 y6 y7 y8 y9 y10 y11))
  | 0 => ⟨fun _ _ _ _ _ _ _ _ _ _ _ r h => by simp [value_Equal.j0] at h, fun _ _ _ _ _ _ _ _ _ _ _ _ r h => by simp [value_Equal.l0] at h⟩
  | k + 1 => by
    obtain ⟨ih0, ih1⟩ := value_Equal.mono_l k
    refine ⟨?_, ?_⟩
    · intro y0 y1 y2 y3 y4 y5 y6 y7 y8 y9 y10
      unfold value_Equal.j0
      repeat' first
      | (with_reducible exact ih0 _ _ _ _ _ _ _ _ _ _ _)
      | (with_reducible exact ih1 _ _ _ _ _ _ _ _ _ _ _ _)
      | (with_reducible exact LeO.refl _)
      | (with_reducible exact LeO.none _)
      | (with_reducible refine LeO.ite ?_ ?_)
      | (with_reducible refine LeO.bind ?_ (fun _ => ?_))
      | exact ih0 _ _ _ _ _ _ _ _ _ _ _
      | exact ih1 _ _ _ _ _ _ _ _ _ _ _ _
      | exact LeO.none _
      | refine LeO.ite ?_ ?_
      | refine LeO.bind ?_ (fun _ => ?_)
    · intro y0 y1 y2 y3 y4 y5 y6 y7 y8 y9 y10 y11
      unfold value_Equal.l0
      repeat' first
      | (with_reducible exact ih0 _ _ _ _ _ _ _ _ _ _ _)
      | (with_reducible exact ih1 _ _ _ _ _ _ _ _ _ _ _ _)
      | (with_reducible exact LeO.refl _)
      | (with_reducible exact LeO.none _)
      | (with_reducible refine LeO.ite ?_ ?_)
      | (with_reducible refine LeO.bind ?_ (fun _ => ?_))
      | exact ih0 _ _ _ _ _ _ _ _ _ _ _
      | exact ih1 _ _ _ _ _ _ _ _ _ _ _ _
      | exact LeO.none _
      | refine LeO.ite ?_ ?_
      | refine LeO.bind ?_ (fun _ => ?_)
theorem value_Equal.mono : ∀ a0 a1 a2 a3 a4 a5 a6 a7 a8 a9 k, LeO (value_Equal.f k a0 a1 a2 a3 a4 a5 a6 a7 a8 a9) (value_Equal.f (k + 1) a0 a1 a2 a3 a4 a5 a6 a7 a8 a9) := by
  intro a0 a1 a2 a3 a4 a5 a6 a7 a8 a9 k
  obtain ⟨ih0, ih1⟩ := value_Equal.mono_l k
  unfold value_Equal.f
  repeat' first
      | (with_reducible exact ih0 _ _ _ _ _ _ _ _ _ _ _)
      | (with_reducible exact ih1 _ _ _ _ _ _ _ _ _ _ _ _)
      | (with_reducible exact LeO.refl _)
      | (with_reducible exact LeO.none _)
      | (with_reducible refine LeO.ite ?_ ?_)
      | (with_reducible refine LeO.bind ?_ (fun _ => ?_))
      | exact ih0 _ _ _ _ _ _ _ _ _ _ _
      | exact ih1 _ _ _ _ _ _ _ _ _ _ _ _
      | exact LeO.none _
      | refine LeO.ite ?_ ?_
      | refine LeO.bind ?_ (fun _ => ?_)
end Go.Proofs.Ytnfapjkffofcaaa.PY
namespace Go.Proofs.Ytnfapjkffofcaaa.G
open Go.RowKit Go.Proofs.YtnfapjkffofcaaaW.PrintWords Go.Proofs.Ytnfapjkffofcaaa.FW Go.Proofs.Ytnfapjkffofcaaa.FL Go.Proofs.Ytnfapjkffofcaaa.EV Go.Proofs.Ytnfapjkffofcaaa.PK
set_option linter.unusedVariables false
set_option linter.unusedSimpArgs false
def Fl (a : Atom) : Prop := a.f2 < 18446744073709551616
instance (a : Atom) : Decidable (Fl a) := inferInstanceAs (Decidable (_ < _))
def FlV (v : Val) : Prop := Fl v.f0 ∧ ∀ a ∈ v.f1, Fl a
instance (v : Val) : Decidable (FlV v) := inferInstanceAs (Decidable (_ ∧ _))
def InV (v : Val) : Prop := In64 v.f0.f1 ∧ ∀ a ∈ v.f1, In64 a.f1
instance (v : Val) : Decidable (InV v) := inferInstanceAs (Decidable (_ ∧ _))
theorem refAtom_some {k n : Int} {f : Nat} {s : ByteArray} (hf : f < 18446744073709551616) : cobwebref03_atom.f k n f s = some (validA ⟨k, n, f, s⟩) := by
  unfold cobwebref03_atom.f; rw [if_pos hf]
theorem refValid_loop (l : List Atom) (hl : l.length ≤ 16) (hf : ∀ a ∈ l, Fl a) (k n : Int) (f : Nat) (s : ByteArray) : ∀ (d : Nat) (i : Nat), i ≤ l.length → l.length - i = d →
    Ev (fun K => PY.cobwebref03_Valid.l0 K i k n f s l) ((l.drop i).all validA) := by
  intro d
  induction d with
  | zero =>
    intro i hi hd
    refine Ev.step (fun _ => rfl) ?_
    simp only [PY.cobwebref03_Valid.l0]
    rw [List.drop_of_length_le (by omega), List.all_nil]
    exact ite_f (by omega) (Ev.now _)
  | succ d ih =>
    intro i hi hd
    refine Ev.step (fun _ => rfl) ?_
    simp only [PY.cobwebref03_Valid.l0]
    have hlt : i < l.length := by omega
    refine ite_t (by omega) (ite_t (by omega) ?_)
    rw [rdA l i hlt, refAtom_some (hf l[i] (List.getElem_mem hlt)), List.drop_eq_getElem_cons hlt, List.all_cons]
    refine some_bind ?_
    cases h : validA ⟨l[i].f0, l[i].f1, l[i].f2, l[i].f3⟩
    · rw [Bool.false_and]
      exact ite_f (by decide) (Ev.now _)
    · rw [Bool.true_and]
      refine ite_t rfl ?_
      rw [wrap64_id (by omega) (by omega)]
      exact ih (i + 1) (by omega) (by omega)
theorem refValid_eq (k n : Int) (f : Nat) (s : ByteArray) (l : List Atom) (hf : FlV ⟨⟨k, n, f, s⟩, l⟩) : Ev (fun K => PY.cobwebref03_Valid.f K k n f s l) (validV ⟨⟨k, n, f, s⟩, l⟩) := by
  unfold PY.cobwebref03_Valid.f validV
  simp only []
  have hf0 : f < 18446744073709551616 := hf.1
  have hfl := hf.2
  by_cases h6 : k = 6
  · rw [if_pos h6]
    refine ite_t h6 ?_
    have j0 : ∀ x : Bool, (x = false → l.length ≤ 16) → Ev (fun K => PY.cobwebref03_Valid.j0 K x k n f s l) (!x && l.all validA) := fun x hx => by
      refine Ev.step (fun _ => rfl) ?_
      simp only [PY.cobwebref03_Valid.j0]
      cases x
      · exact ite_f (by decide) (refValid_loop l (hx rfl) hfl k n f s l.length 0 (by omega) (by omega))
      · exact ite_t rfl (Ev.now _)
    have e : plainA ⟨k, n, f, s⟩ = (decide (n = 0) && decide (f = 0) && s.toList.isEmpty) := rfl
    rw [e]
    simp only [show cobwebref03_bits.f f = some ((f : Nat) : Int) from rfl, obs, Int.natCast_eq_zero]
    by_cases hn : n = 0
    · rw [decide_eq_true hn, Bool.true_and]
      refine ite_t hn ?_
      by_cases hf : f = 0
      · rw [decide_eq_true hf, Bool.true_and]
        refine ite_t hf ?_
        cases hs : s.toList.isEmpty
        · rw [Bool.false_and, Bool.false_and]
          exact ite_f (by decide) (j0 true (by simp))
        · rw [Bool.true_and]
          refine ite_t rfl ?_
          have := j0 (decide ((l.length : Int) > 16)) (by simp; omega)
          have e2 : (!decide ((l.length : Int) > 16)) = decide (l.length ≤ 16) := by
            by_cases h : l.length ≤ 16
            · rw [decide_eq_true h, decide_eq_false (by omega)]; rfl
            · rw [decide_eq_false h, decide_eq_true (by omega)]; rfl
          rw [e2] at this
          exact this
      · rw [decide_eq_false hf, Bool.false_and, Bool.false_and, Bool.false_and]
        exact ite_f hf (j0 true (by simp))
    · rw [decide_eq_false hn, Bool.false_and, Bool.false_and, Bool.false_and, Bool.false_and]
      exact ite_f hn (j0 true (by simp))
  · rw [if_neg h6]
    refine ite_f h6 ?_
    rw [refAtom_some hf0]
    refine some_bind ?_
    have hd : ((l.length : Int) == 0) = decide (l.length = 0) := by rw [Bool.eq_iff_iff, beq_iff_eq, decide_eq_true_eq]; omega
    rw [← hd]
    cases validA ⟨k, n, f, s⟩
    · rw [Bool.false_and]
      exact ite_f (by decide) (Ev.now _)
    · rw [Bool.true_and]
      exact ite_t rfl (Ev.now _)
def lexN : List Atom → List Atom → Int
  | [], [] => 0
  | [], _ :: _ => -1
  | _ :: _, [] => 1
  | a :: s, b :: t => if atomsN a b = 0 then lexN s t else atomsN a b
def orderV (v w : Val) : Int := if atomsN v.f0 w.f0 = 0 then lexN v.f1 w.f1 else atomsN v.f0 w.f0
def compareV (v w : Val) : Int := if validV v = true ∧ validV w = true then orderV v w else 0
theorem validV_len {v : Val} (h : validV v = true) : v.f1.length ≤ 16 := by
  unfold validV at h
  split at h
  · simp only [Bool.and_eq_true, decide_eq_true_eq] at h; exact h.1.2
  · simp only [Bool.and_eq_true, decide_eq_true_eq] at h; omega
theorem atoms_some {a b : Atom} (ha : In64 a.f1) (hb : In64 b.f1) : value_atoms.f a.f0 a.f1 a.f2 a.f3 b.f0 b.f1 b.f2 b.f3 = some (atomsN a b) := by
  unfold value_atoms.f; rw [if_pos ⟨ha, hb⟩]
theorem lex_end (l m : List Atom) (i : Nat) (hi : i = min l.length m.length) : lexN (l.drop i) (m.drop i) = cmp3 (l.length : Int) (m.length : Int) := by
  subst hi
  by_cases h : l.length < m.length
  · rw [Nat.min_eq_left (by omega), List.drop_length, List.drop_eq_getElem_cons h, cmp3_lt (by omega)]; rfl
  · by_cases h2 : m.length < l.length
    · rw [Nat.min_eq_right (by omega), List.drop_length, List.drop_eq_getElem_cons h2, cmp3_gt (by omega)]; rfl
    · have e : l.length = m.length := by omega
      rw [e, Nat.min_self, List.drop_length, ← e, List.drop_length]
      unfold cmp3
      rw [if_neg (by omega), if_neg (by omega)]; rfl
theorem mn_nat (a b : Nat) : mn (a : Int) (b : Int) = ((min a b : Nat) : Int) := by
  unfold mn
  split <;> omega
theorem compare_loop (l m : List Atom) (hl : l.length ≤ 16) (hm : m.length ≤ 16) (ha : ∀ a ∈ l, In64 a.f1) (hb : ∀ a ∈ m, In64 a.f1) (k n : Int) (f : Nat) (s : ByteArray) (k' n' : Int) (f' : Nat) (s' : ByteArray) :
    ∀ (d : Nat) (i : Nat), i ≤ min l.length m.length → min l.length m.length - i = d →
    Ev (fun K => PY.value_Compare.l0 K (mn (l.length : Int) (m.length : Int)) i k n f s l k' n' f' s' m) (lexN (l.drop i) (m.drop i)) := by
  intro d
  induction d with
  | zero =>
    intro i hi hd
    refine Ev.step (fun _ => rfl) ?_
    simp only [PY.value_Compare.l0]
    rw [mn_nat, lex_end l m i (by omega)]
    refine ite_f (by omega) (some_bind (Ev.now _))
  | succ d ih =>
    intro i hi hd
    refine Ev.step (fun _ => rfl) ?_
    simp only [PY.value_Compare.l0]
    have h1 : i < l.length := by omega
    have h2 : i < m.length := by omega
    have ih' := ih (i + 1) (by omega) (by omega)
    rw [mn_nat] at ih' ⊢
    refine ite_t (by omega) (ite_t (by omega) (ite_t (by omega) (ite_t (by omega) ?_)))
    rw [rdA l i h1, rdA m i h2, atoms_some (ha _ (List.getElem_mem h1)) (hb _ (List.getElem_mem h2)), List.drop_eq_getElem_cons h1, List.drop_eq_getElem_cons h2, lexN]
    refine some_bind (ite_v (fun hc => ?_) (fun hc => Ev.now _))
    rw [wrap64_id (by omega) (by omega)]
    exact ih'
theorem valueValid_some (v : Val) : value_Valid.f v.f0.f0 v.f0.f1 v.f0.f2 v.f0.f3 v.f1 = some (validV v) := rfl
theorem compareV_eq (v w : Val) (hv : InV v) (hw : InV w) : Ev (fun K => PY.value_Compare.f K v.f0.f0 v.f0.f1 v.f0.f2 v.f0.f3 v.f1 w.f0.f0 w.f0.f1 w.f0.f2 w.f0.f3 w.f1) (compareV v w) := by
  unfold PY.value_Compare.f compareV
  rw [valueValid_some, valueValid_some]
  have j0 : ∀ x : Bool, (x = false → v.f1.length ≤ 16 ∧ w.f1.length ≤ 16) → Ev (fun K => PY.value_Compare.j0 K x v.f0.f0 v.f0.f1 v.f0.f2 v.f0.f3 v.f1 w.f0.f0 w.f0.f1 w.f0.f2 w.f0.f3 w.f1) (if x = true then 0 else orderV v w) := fun x hx => by
    refine Ev.step (fun _ => rfl) ?_
    simp only [PY.value_Compare.j0]
    refine ite_v (fun _ => Ev.now _) (fun h => ?_)
    have hx := hx (by simpa using h)
    rw [atoms_some hv.1 hw.1]
    unfold orderV
    exact some_bind (ite_v (fun _ => compare_loop v.f1 w.f1 hx.1 hx.2 hv.2 hw.2 _ _ _ _ _ _ _ _ _ 0 (by omega) rfl) (fun _ => Ev.now _))
  refine some_bind ?_
  cases h1 : validV v
  · rw [if_neg (by simp)]
    exact ite_f (by decide) (by have := j0 true (by simp); rw [if_pos rfl] at this; exact this)
  · refine ite_t rfl (some_bind ?_)
    cases h2 : validV w
    · rw [if_neg (by simp)]
      have := j0 true (by simp); rw [if_pos rfl] at this; exact this
    · rw [if_pos ⟨rfl, rfl⟩]
      have := j0 false (fun _ => ⟨validV_len h1, validV_len h2⟩); rw [if_neg (by decide)] at this; exact this
def shortL : Int → List Atom → Bool
  | x, [] => decide (x < 6000)
  | x, a :: l => if x < 6000 then shortL (wrap64 (x + (a.f3.size : Int))) l else decide (x < 6000)
def shortV (v : Val) : Bool := shortL (wrap64 ((v.f0.f3.size : Int) + (wrap64 (10 * (v.f1.length : Int))))) v.f1
theorem short_loop (l : List Atom) (hl : l.length ≤ 140737488351232) (k n : Int) (f : Nat) (s : ByteArray) : ∀ (d : Nat) (i : Nat) (x : Int), i ≤ l.length → l.length - i = d →
    Ev (fun K => PY.cobweblaw03_short.l0 K x i k n f s l) (shortL x (l.drop i)) := by
  intro d
  induction d with
  | zero =>
    intro i x hi hd
    refine Ev.step (fun _ => rfl) ?_
    simp only [PY.cobweblaw03_short.l0]
    rw [List.drop_of_length_le (by omega)]
    exact ite_f (by omega) (Ev.now _)
  | succ d ih =>
    intro i x hi hd
    refine Ev.step (fun _ => rfl) ?_
    simp only [PY.cobweblaw03_short.l0]
    have hlt : i < l.length := by omega
    rw [List.drop_eq_getElem_cons hlt, shortL, rdA l i hlt]
    refine ite_t (by omega) (ite_v (fun _ => ite_t (by omega) ?_) (fun _ => Ev.now _))
    rw [wrap64_id (x := (i : Int) + 1) (by omega) (by omega)]
    exact ih (i + 1) _ (by omega) (by omega)
theorem shortV_eq (v : Val) (hl : v.f1.length ≤ 140737488351232) : Ev (fun K => PY.cobweblaw03_short.f K v.f0.f0 v.f0.f1 v.f0.f2 v.f0.f3 v.f1) (shortV v) := short_loop v.f1 hl _ _ _ _ _ 0 _ (by omega) rfl
def sameL : List Atom → List Atom → Bool
  | [], [] => true
  | a :: s, b :: t => sameA a b && sameL s t
  | _, _ => false
def sameV (v w : Val) : Bool := sameA v.f0 w.f0 && sameL v.f1 w.f1
theorem sameA_iff {a b : Atom} : sameA a b = true ↔ a = b := by
  cases a; cases b
  simp [sameA, and_assoc]
theorem sameL_iff : ∀ {l m : List Atom}, sameL l m = true ↔ l = m
  | [], [] => by simp [sameL]
  | [], _ :: _ => by simp [sameL]
  | _ :: _, [] => by simp [sameL]
  | a :: s, b :: t => by simp only [sameL, Bool.and_eq_true, sameA_iff, sameL_iff, List.cons.injEq]
theorem sameV_iff {v w : Val} : sameV v w = true ↔ v = w := by
  cases v; cases w
  simp [sameV, sameA_iff, sameL_iff]
theorem sameL_len : ∀ {l m : List Atom}, sameL l m = true → l.length = m.length := fun h => by rw [sameL_iff.1 h]
theorem same_loop (l m : List Atom) (hl : l.length ≤ 140737488351232) (hm : l.length = m.length) (k n : Int) (f : Nat) (s : ByteArray) (k' n' : Int) (f' : Nat) (s' : ByteArray) : ∀ (d : Nat) (i : Nat), i ≤ l.length → l.length - i = d →
    Ev (fun K => PY.cobwebref03_Same.l0 K i k n f s l k' n' f' s' m) (sameL (l.drop i) (m.drop i)) := by
  intro d
  induction d with
  | zero =>
    intro i hi hd
    refine Ev.step (fun _ => rfl) ?_
    simp only [PY.cobwebref03_Same.l0]
    rw [List.drop_of_length_le (by omega), List.drop_of_length_le (by omega)]
    exact ite_f (by omega) (Ev.now _)
  | succ d ih =>
    intro i hi hd
    refine Ev.step (fun _ => rfl) ?_
    simp only [PY.cobwebref03_Same.l0]
    have h1 : i < l.length := by omega
    have h2 : i < m.length := by omega
    rw [rdA l i h1, rdA m i h2, List.drop_eq_getElem_cons h1, List.drop_eq_getElem_cons h2, sameL]
    refine ite_t (by omega) (ite_t (by omega) (ite_t (by omega) ?_))
    refine some_bind (r := sameA l[i] m[i] && sameL (List.drop (i + 1) l) (List.drop (i + 1) m)) (x := sameA l[i] m[i]) ?_
    cases sameA l[i] m[i]
    · rw [Bool.false_and]; exact ite_f (by decide) (Ev.now _)
    · rw [Bool.true_and]
      refine ite_t rfl ?_
      rw [wrap64_id (by omega) (by omega)]
      exact ih (i + 1) (by omega) (by omega)
theorem sameV_eq (v w : Val) (hl : v.f1.length ≤ 140737488351232) : Ev (fun K => PY.cobwebref03_Same.f K v.f0.f0 v.f0.f1 v.f0.f2 v.f0.f3 v.f1 w.f0.f0 w.f0.f1 w.f0.f2 w.f0.f3 w.f1) (sameV v w) := by
  unfold PY.cobwebref03_Same.f sameV
  have j0 : ∀ x : Bool, (x = false → v.f1.length = w.f1.length) → Ev (fun K => PY.cobwebref03_Same.j0 K x v.f0.f0 v.f0.f1 v.f0.f2 v.f0.f3 v.f1 w.f0.f0 w.f0.f1 w.f0.f2 w.f0.f3 w.f1) (!x && sameL v.f1 w.f1) := fun x hx => by
    refine Ev.step (fun _ => rfl) ?_
    simp only [PY.cobwebref03_Same.j0]
    cases x
    · exact ite_f (by decide) (same_loop v.f1 w.f1 hl (hx rfl) _ _ _ _ _ _ _ _ _ 0 (by omega) rfl)
    · exact ite_t rfl (Ev.now _)
  refine some_bind (x := sameA v.f0 w.f0) (r := sameA v.f0 w.f0 && sameL v.f1 w.f1) ?_
  cases sameA v.f0 w.f0
  · rw [Bool.false_and]
    exact ite_f (by decide) (j0 true (by simp))
  · rw [Bool.true_and]
    refine ite_t rfl ?_
    by_cases h : v.f1.length = w.f1.length
    · have e : ((v.f1.length : Int) != (w.f1.length : Int)) = false := by rw [h]; simp
      rw [e]
      exact j0 false (fun _ => h)
    · have e : ((v.f1.length : Int) != (w.f1.length : Int)) = true := by simp; omega
      have e2 : sameL v.f1 w.f1 = false := by
        cases h2 : sameL v.f1 w.f1
        · rfl
        · exact absurd (sameL_len h2) h
      rw [e, e2]
      exact j0 true (by simp)
def toldN (b : Bool) : Int := if b = true then 1 else 0
def unknownV (v w : Val) : Bool := !(validV v && validV w) || decide (v.f0.f0 = 0) || decide (w.f0.f0 = 0)
def lessV (v w : Val) : Int :=
  if unknownV v w = true ∨ v.f0.f0 = 6 ∨ rankN v.f0.f0 ≠ rankN w.f0.f0 then 2
  else if nanA v.f0 = true ∨ nanA w.f0 = true then 0
  else if isNum v.f0.f0 = true then toldN (decide (cmp3 (nkey v.f0) (nkey w.f0) < 0)) else toldN (decide (atomsN v.f0 w.f0 < 0))
def alikeL : List Atom → List Atom → Bool
  | [], [] => true
  | a :: s, b :: t => alikeN a b && alikeL s t
  | _, _ => false
def equalV (v w : Val) : Int :=
  if unknownV v w = true then 2
  else if v.f0.f0 = 6 ∧ w.f0.f0 = 6 then toldN (alikeL v.f1 w.f1) else toldN (alikeN v.f0 w.f0)
def cobwebref03_Valid.f (a0_0 a0_1 : Int) (a0_2 : Nat) (a0_3 : ByteArray) (l0_4 : List Atom) : Option Bool := if FlV ⟨⟨a0_0, a0_1, a0_2, a0_3⟩, l0_4⟩ then some (validV ⟨⟨a0_0, a0_1, a0_2, a0_3⟩, l0_4⟩) else none
theorem cobwebref03_Valid.of {a0_0 a0_1 : Int} {a0_2 : Nat} {a0_3 : ByteArray} {l0_4 : List Atom} {r : Bool} (h : cobwebref03_Valid.f a0_0 a0_1 a0_2 a0_3 l0_4 = some r) : ∃ k, PY.cobwebref03_Valid.f k a0_0 a0_1 a0_2 a0_3 l0_4 = some r := by
  unfold cobwebref03_Valid.f at h
  split at h
  · rename_i hb
    injection h with h
    rw [← h]
    exact (refValid_eq a0_0 a0_1 a0_2 a0_3 l0_4 hb).rounds
  · cases h
theorem cobwebref03_Valid.calls (a0_0 : Int) (a0_1 : Int) (a0_2 : Nat) (a0_3 : ByteArray) (A0_4 : Option Addr) (c0_4 : Nat) (l0_4 : List (S26)) (r : Bool) (w : World) (hr0_4 : Kd.C k26 w A0_4 l0_4.length l0_4) (hc0_4 : l0_4.length ≤ c0_4) (h : cobwebref03_Valid.f a0_0 a0_1 a0_2 a0_3 l0_4 = some r) :
    Calls Try.prog 11 #[.agg #[.int .i64 a0_0, .int .i64 a0_1, .float .f64 a0_2, .string a0_3, .slice A0_4 l0_4.length c0_4]] w fun e w' => e = .returned (.bool r) ∧ Below w.heap.size w w' := by
  obtain ⟨k, hk⟩ := cobwebref03_Valid.of h
  exact PY.cobwebref03_Valid.calls k a0_0 a0_1 a0_2 a0_3 A0_4 c0_4 l0_4 r w hr0_4 hc0_4 hk
def value_Compare.f (a0_0 a0_1 : Int) (a0_2 : Nat) (a0_3 : ByteArray) (l0_4 : List Atom) (a1_0 a1_1 : Int) (a1_2 : Nat) (a1_3 : ByteArray) (l1_4 : List Atom) : Option Int := if InV ⟨⟨a0_0, a0_1, a0_2, a0_3⟩, l0_4⟩ ∧ InV ⟨⟨a1_0, a1_1, a1_2, a1_3⟩, l1_4⟩ then some (compareV ⟨⟨a0_0, a0_1, a0_2, a0_3⟩, l0_4⟩ ⟨⟨a1_0, a1_1, a1_2, a1_3⟩, l1_4⟩) else none
theorem value_Compare.of {a0_0 a0_1 : Int} {a0_2 : Nat} {a0_3 : ByteArray} {l0_4 : List Atom} {a1_0 a1_1 : Int} {a1_2 : Nat} {a1_3 : ByteArray} {l1_4 : List Atom} {r : Int} (h : value_Compare.f a0_0 a0_1 a0_2 a0_3 l0_4 a1_0 a1_1 a1_2 a1_3 l1_4 = some r) : ∃ k, PY.value_Compare.f k a0_0 a0_1 a0_2 a0_3 l0_4 a1_0 a1_1 a1_2 a1_3 l1_4 = some r := by
  unfold value_Compare.f at h
  split at h
  · rename_i hb
    injection h with h
    rw [← h]
    exact (compareV_eq ⟨⟨a0_0, a0_1, a0_2, a0_3⟩, l0_4⟩ ⟨⟨a1_0, a1_1, a1_2, a1_3⟩, l1_4⟩ hb.1 hb.2).rounds
  · cases h
theorem value_Compare.calls (a0_0 : Int) (a0_1 : Int) (a0_2 : Nat) (a0_3 : ByteArray) (A0_4 : Option Addr) (c0_4 : Nat) (l0_4 : List (S26)) (a1_0 : Int) (a1_1 : Int) (a1_2 : Nat) (a1_3 : ByteArray) (A1_4 : Option Addr) (c1_4 : Nat) (l1_4 : List (S26)) (r : Int) (w : World) (hr0_4 : Kd.C k26 w A0_4 l0_4.length l0_4) (hc0_4 : l0_4.length ≤ c0_4) (hr1_4 : Kd.C k26 w A1_4 l1_4.length l1_4) (hc1_4 : l1_4.length ≤ c1_4) (h : value_Compare.f a0_0 a0_1 a0_2 a0_3 l0_4 a1_0 a1_1 a1_2 a1_3 l1_4 = some r) :
    Calls Try.prog 12 #[.agg #[.int .i64 a0_0, .int .i64 a0_1, .float .f64 a0_2, .string a0_3, .slice A0_4 l0_4.length c0_4], .agg #[.int .i64 a1_0, .int .i64 a1_1, .float .f64 a1_2, .string a1_3, .slice A1_4 l1_4.length c1_4]] w fun e w' => e = .returned (.int .i64 r) ∧ Below w.heap.size w w' := by
  obtain ⟨k, hk⟩ := value_Compare.of h
  exact PY.value_Compare.calls k a0_0 a0_1 a0_2 a0_3 A0_4 c0_4 l0_4 a1_0 a1_1 a1_2 a1_3 A1_4 c1_4 l1_4 r w hr0_4 hc0_4 hr1_4 hc1_4 hk
def value_Less.f (a0_0 a0_1 : Int) (a0_2 : Nat) (a0_3 : ByteArray) (l0_4 : List Atom) (a1_0 a1_1 : Int) (a1_2 : Nat) (a1_3 : ByteArray) (l1_4 : List Atom) : Option Int := if InV ⟨⟨a0_0, a0_1, a0_2, a0_3⟩, l0_4⟩ ∧ InV ⟨⟨a1_0, a1_1, a1_2, a1_3⟩, l1_4⟩ then some (lessV ⟨⟨a0_0, a0_1, a0_2, a0_3⟩, l0_4⟩ ⟨⟨a1_0, a1_1, a1_2, a1_3⟩, l1_4⟩) else none
def value_Equal.f (a0_0 a0_1 : Int) (a0_2 : Nat) (a0_3 : ByteArray) (l0_4 : List Atom) (a1_0 a1_1 : Int) (a1_2 : Nat) (a1_3 : ByteArray) (l1_4 : List Atom) : Option Int := if InV ⟨⟨a0_0, a0_1, a0_2, a0_3⟩, l0_4⟩ ∧ InV ⟨⟨a1_0, a1_1, a1_2, a1_3⟩, l1_4⟩ then some (equalV ⟨⟨a0_0, a0_1, a0_2, a0_3⟩, l0_4⟩ ⟨⟨a1_0, a1_1, a1_2, a1_3⟩, l1_4⟩) else none
def cobweblaw03_short.f (a0_0 a0_1 : Int) (a0_2 : Nat) (a0_3 : ByteArray) (l0_4 : List Atom) : Option Bool := if l0_4.length ≤ 140737488351232 then some (shortV ⟨⟨a0_0, a0_1, a0_2, a0_3⟩, l0_4⟩) else none
theorem cobweblaw03_short.of {a0_0 a0_1 : Int} {a0_2 : Nat} {a0_3 : ByteArray} {l0_4 : List Atom} {r : Bool} (h : cobweblaw03_short.f a0_0 a0_1 a0_2 a0_3 l0_4 = some r) : ∃ k, PY.cobweblaw03_short.f k a0_0 a0_1 a0_2 a0_3 l0_4 = some r := by
  unfold cobweblaw03_short.f at h
  split at h
  · rename_i hb
    injection h with h
    rw [← h]
    exact (shortV_eq ⟨⟨a0_0, a0_1, a0_2, a0_3⟩, l0_4⟩ hb).rounds
  · cases h
theorem cobweblaw03_short.calls (a0_0 : Int) (a0_1 : Int) (a0_2 : Nat) (a0_3 : ByteArray) (A0_4 : Option Addr) (c0_4 : Nat) (l0_4 : List (S26)) (r : Bool) (w : World) (hr0_4 : Kd.C k26 w A0_4 l0_4.length l0_4) (hc0_4 : l0_4.length ≤ c0_4) (h : cobweblaw03_short.f a0_0 a0_1 a0_2 a0_3 l0_4 = some r) :
    Calls Try.prog 14 #[.agg #[.int .i64 a0_0, .int .i64 a0_1, .float .f64 a0_2, .string a0_3, .slice A0_4 l0_4.length c0_4]] w fun e w' => e = .returned (.bool r) ∧ Below w.heap.size w w' := by
  obtain ⟨k, hk⟩ := cobweblaw03_short.of h
  exact PY.cobweblaw03_short.calls k a0_0 a0_1 a0_2 a0_3 A0_4 c0_4 l0_4 r w hr0_4 hc0_4 hk
def cobwebref03_Same.f (a0_0 a0_1 : Int) (a0_2 : Nat) (a0_3 : ByteArray) (l0_4 : List Atom) (a1_0 a1_1 : Int) (a1_2 : Nat) (a1_3 : ByteArray) (l1_4 : List Atom) : Option Bool := if l0_4.length ≤ 140737488351232 then some (sameV ⟨⟨a0_0, a0_1, a0_2, a0_3⟩, l0_4⟩ ⟨⟨a1_0, a1_1, a1_2, a1_3⟩, l1_4⟩) else none
theorem cobwebref03_Same.of {a0_0 a0_1 : Int} {a0_2 : Nat} {a0_3 : ByteArray} {l0_4 : List Atom} {a1_0 a1_1 : Int} {a1_2 : Nat} {a1_3 : ByteArray} {l1_4 : List Atom} {r : Bool} (h : cobwebref03_Same.f a0_0 a0_1 a0_2 a0_3 l0_4 a1_0 a1_1 a1_2 a1_3 l1_4 = some r) : ∃ k, PY.cobwebref03_Same.f k a0_0 a0_1 a0_2 a0_3 l0_4 a1_0 a1_1 a1_2 a1_3 l1_4 = some r := by
  unfold cobwebref03_Same.f at h
  split at h
  · rename_i hb
    injection h with h
    rw [← h]
    exact (sameV_eq ⟨⟨a0_0, a0_1, a0_2, a0_3⟩, l0_4⟩ ⟨⟨a1_0, a1_1, a1_2, a1_3⟩, l1_4⟩ hb).rounds
  · cases h
theorem cobwebref03_Same.calls (a0_0 : Int) (a0_1 : Int) (a0_2 : Nat) (a0_3 : ByteArray) (A0_4 : Option Addr) (c0_4 : Nat) (l0_4 : List (S26)) (a1_0 : Int) (a1_1 : Int) (a1_2 : Nat) (a1_3 : ByteArray) (A1_4 : Option Addr) (c1_4 : Nat) (l1_4 : List (S26)) (r : Bool) (w : World) (hr0_4 : Kd.C k26 w A0_4 l0_4.length l0_4) (hc0_4 : l0_4.length ≤ c0_4) (hr1_4 : Kd.C k26 w A1_4 l1_4.length l1_4) (hc1_4 : l1_4.length ≤ c1_4) (h : cobwebref03_Same.f a0_0 a0_1 a0_2 a0_3 l0_4 a1_0 a1_1 a1_2 a1_3 l1_4 = some r) :
    Calls Try.prog 16 #[.agg #[.int .i64 a0_0, .int .i64 a0_1, .float .f64 a0_2, .string a0_3, .slice A0_4 l0_4.length c0_4], .agg #[.int .i64 a1_0, .int .i64 a1_1, .float .f64 a1_2, .string a1_3, .slice A1_4 l1_4.length c1_4]] w fun e w' => e = .returned (.bool r) ∧ Below w.heap.size w w' := by
  obtain ⟨k, hk⟩ := cobwebref03_Same.of h
  exact PY.cobwebref03_Same.calls k a0_0 a0_1 a0_2 a0_3 A0_4 c0_4 l0_4 a1_0 a1_1 a1_2 a1_3 A1_4 c1_4 l1_4 r w hr0_4 hc0_4 hr1_4 hc1_4 hk
def value_OfInt.f (a0 : Int) : Option (Int × Int × Nat × ByteArray × (List Atom)) := some (2, a0, 0, (⟨#[]⟩ : ByteArray), ([] : List Atom))
theorem value_OfInt.of {a0 : Int} {r : Int × Int × Nat × ByteArray × (List Atom)} (h : value_OfInt.f a0 = some r) : PY.value_OfInt.f a0 = some r := h
theorem value_OfInt.calls (a0 : Int) (r1 : Int) (r2 : Int) (r3 : Nat) (r4 : ByteArray) (r5 : List (S26)) (w : World) (h : value_OfInt.f a0 = some (r1, r2, r3, r4, r5)) :
    Calls Try.prog 13 #[.int .i64 a0] w fun e w' => ∃ v4_ : Value, e = .returned (.agg #[.int .i64 r1, .int .i64 r2, .float .f64 r3, .string r4, v4_]) ∧ Kd.R k26 26 w' w.heap.size (fun _ => True) v4_ r5 ∧ Below w.heap.size w w' := by
  exact PY.value_OfInt.calls a0 r1 r2 r3 r4 r5 w (value_OfInt.of h)
def value_OfReal.f (a0 : Nat) : Option (Int × Int × Nat × ByteArray × (List Atom)) := some (3, 0, canonN a0, (⟨#[]⟩ : ByteArray), ([] : List Atom))
theorem value_OfReal.of {a0 : Nat} {r : Int × Int × Nat × ByteArray × (List Atom)} (h : value_OfReal.f a0 = some r) : PY.value_OfReal.f a0 = some r := h
theorem value_OfReal.calls (a0 : Nat) (r1 : Int) (r2 : Int) (r3 : Nat) (r4 : ByteArray) (r5 : List (S26)) (w : World) (h : value_OfReal.f a0 = some (r1, r2, r3, r4, r5)) :
    Calls Try.prog 15 #[.float .f64 a0] w fun e w' => ∃ v4_ : Value, e = .returned (.agg #[.int .i64 r1, .int .i64 r2, .float .f64 r3, .string r4, v4_]) ∧ Kd.R k26 26 w' w.heap.size (fun _ => True) v4_ r5 ∧ Below w.heap.size w w' := by
  exact PY.value_OfReal.calls a0 r1 r2 r3 r4 r5 w (value_OfReal.of h)
end Go.Proofs.Ytnfapjkffofcaaa.G
namespace Go.Proofs.Ytnfapjkffofcaaa.PO
open Go.RowKit Go.Proofs.YtnfapjkffofcaaaW.PrintWords Go.Proofs.YtnfapjkffofcaaaW.PrintLast Go.Proofs.Ytnfapjkffofcaaa.FW Go.Proofs.Ytnfapjkffofcaaa.PK Go.Proofs.Ytnfapjkffofcaaa.G
set_option linter.unusedVariables false
set_option linter.unusedSimpArgs false
mutual
def cobweblaw03_ValueOrder.j0 : Nat → Bool → Int → Int → Nat → ByteArray → List (S26) → Int → Int → Nat → ByteArray → List (S26) → Int → Int → Nat → ByteArray → List (S26) → Option (Bool)
  | 0, _, _, _, _, _, _, _, _, _, _, _, _, _, _, _, _ => none
  | k + 1, x22, x102000, x102001, x102002, x102003, x102004, x103000, x103001, x103002, x103003, x103004, x104000, x104001, x104002, x104003, x104004 => if x22 = true then (some true) else ((value_Compare.f x102000 x102001 x102002 x102003 x102004 x103000 x103001 x103002 x103003 x103004).bind fun t107 => ((value_Compare.f x103000 x103001 x103002 x103003 x103004 x104000 x104001 x104002 x104003 x104004).bind fun t108 => ((value_Compare.f x102000 x102001 x102002 x102003 x102004 x104000 x104001 x104002 x104003 x104004).bind fun t109 => ((value_OfInt.f 1).bind fun bt110 => ((value_OfInt.f 2).bind fun bt117 => ((value_Compare.f bt110.1 bt110.2.1 bt110.2.2.1 bt110.2.2.2.1 bt110.2.2.2.2 bt117.1 bt117.2.1 bt117.2.2.1 bt117.2.2.2.1 bt117.2.2.2.2).bind fun t124 => (if t124 = (-1) then ((value_OfInt.f 2).bind fun bt125 => ((value_OfReal.f 4611686018427387904).bind fun bt132 => ((value_Compare.f bt125.1 bt125.2.1 bt125.2.2.1 bt125.2.2.2.1 bt125.2.2.2.2 bt132.1 bt132.2.1 bt132.2.2.1 bt132.2.2.2.1 bt132.2.2.2.2).bind fun t139 => (cobweblaw03_ValueOrder.j1 k t107 t108 t109 (t139 != (-1)) x102000 x102001 x102002 x102003 x102004 x103000 x103001 x103002 x103003 x103004 x104000 x104001 x104002 x104003 x104004)))) else (cobweblaw03_ValueOrder.j1 k t107 t108 t109 true x102000 x102001 x102002 x102003 x102004 x103000 x103001 x103002 x103003 x103004 x104000 x104001 x104002 x104003 x104004))))))))
def cobweblaw03_ValueOrder.j1 : Nat → Int → Int → Int → Bool → Int → Int → Nat → ByteArray → List (S26) → Int → Int → Nat → ByteArray → List (S26) → Int → Int → Nat → ByteArray → List (S26) → Option (Bool)
  | 0, _, _, _, _, _, _, _, _, _, _, _, _, _, _, _, _, _, _, _ => none
  | k + 1, x7, x8, x9, x41, x102000, x102001, x102002, x102003, x102004, x103000, x103001, x103002, x103003, x103004, x104000, x104001, x104002, x104003, x104004 => if x41 = true then (some false) else ((cobwebref03_Valid.f x102000 x102001 x102002 x102003 x102004).bind fun t140 => (if t140 = true then ((cobwebref03_Valid.f x103000 x103001 x103002 x103003 x103004).bind fun t141 => (if t141 = true then ((cobwebref03_Valid.f x104000 x104001 x104002 x104003 x104004).bind fun t142 => (cobweblaw03_ValueOrder.j2 k x7 x8 x9 (!t142) x102000 x102001 x102002 x102003 x102004 x103000 x103001 x103002 x103003 x103004)) else (cobweblaw03_ValueOrder.j2 k x7 x8 x9 true x102000 x102001 x102002 x102003 x102004 x103000 x103001 x103002 x103003 x103004))) else (cobweblaw03_ValueOrder.j2 k x7 x8 x9 true x102000 x102001 x102002 x102003 x102004 x103000 x103001 x103002 x103003 x103004)))
def cobweblaw03_ValueOrder.j2 : Nat → Int → Int → Int → Bool → Int → Int → Nat → ByteArray → List (S26) → Int → Int → Nat → ByteArray → List (S26) → Option (Bool)
  | 0, _, _, _, _, _, _, _, _, _, _, _, _, _, _ => none
  | k + 1, x7, x8, x9, x54, x102000, x102001, x102002, x102003, x102004, x103000, x103001, x103002, x103003, x103004 => if x54 = true then ((value_Compare.f x102000 x102001 x102002 x102003 x102004 x102000 x102001 x102002 x102003 x102004).bind fun t143 => (some (t143 == 0))) else ((value_Compare.f x103000 x103001 x103002 x103003 x103004 x102000 x102001 x102002 x102003 x102004).bind fun t144 => (if x7 = (wrap64 (-t144)) then ((cobwebref03_Same.f x102000 x102001 x102002 x102003 x102004 x103000 x103001 x103002 x103003 x103004).bind fun t145 => (if ((x7 == 0) == t145) = true then (if x7 > 0 then (if x7 ≥ 0 then (some true) else (if x8 > 0 then (some true) else (some (decide (x9 < 0))))) else (if x8 > 0 then (if x7 ≥ 0 then (some true) else (some true)) else (if x9 ≤ 0 then (if x7 ≥ 0 then (some true) else (some (decide (x9 < 0)))) else (some false)))) else (some false))) else (some false)))
end
def cobweblaw03_ValueOrder.f (k : Nat) (a0_0 : Int) (a0_1 : Int) (a0_2 : Nat) (a0_3 : ByteArray) (l0_4 : List (S26)) (a1_0 : Int) (a1_1 : Int) (a1_2 : Nat) (a1_3 : ByteArray) (l1_4 : List (S26)) (a2_0 : Int) (a2_1 : Int) (a2_2 : Nat) (a2_3 : ByteArray) (l2_4 : List (S26)) : Option (Bool) := (cobweblaw03_short.f a0_0 a0_1 a0_2 a0_3 l0_4).bind fun t104 => (if t104 = true then ((cobweblaw03_short.f a1_0 a1_1 a1_2 a1_3 l1_4).bind fun t105 => (if t105 = true then ((cobweblaw03_short.f a2_0 a2_1 a2_2 a2_3 l2_4).bind fun t106 => (cobweblaw03_ValueOrder.j0 k (!t106) a0_0 a0_1 a0_2 a0_3 l0_4 a1_0 a1_1 a1_2 a1_3 l1_4 a2_0 a2_1 a2_2 a2_3 l2_4)) else (cobweblaw03_ValueOrder.j0 k true a0_0 a0_1 a0_2 a0_3 l0_4 a1_0 a1_1 a1_2 a1_3 l1_4 a2_0 a2_1 a2_2 a2_3 l2_4))) else (cobweblaw03_ValueOrder.j0 k true a0_0 a0_1 a0_2 a0_3 l0_4 a1_0 a1_1 a1_2 a1_3 l1_4 a2_0 a2_1 a2_2 a2_3 l2_4))
theorem cobweblaw03_ValueOrder.mono_l : ∀ k, (∀ y0 y1 y2 y3 y4 y5 y6 y7 y8 y9 y10 y11 y12 y13 y14 y15, LeO (cobweblaw03_ValueOrder.j0 k y0 y1 y2 y3 y4 y5 y6 y7 y8 y9 y10 y11 y12 y13 y14 y15) (cobweblaw03_ValueOrder.j0 (k + 1) y0 y1 y2 y3 y4 y5 y6 y7 y8 y9 y10 y11 y12 y13 y14 y15)) ∧ (∀ y0 y1 y2 y3 y4 y5 y6 y7 y8 y9 y10 y11 y12 y13 y14 y15 y16 y17 y18, LeO (cobweblaw03_ValueOrder.j1 k y0 y1 y2 y3 y4 y5 y6 y7 y8 y9 y10 y11 y12 y13 y14 y15 y16 y17 y18) (cobweblaw03_ValueOrder.j1 (k + 1) y0 y1 y2 y3 y4 y5 y6 y7 y8 y9 y10 y11 y12 y13 y14 y15 y16 y17 y18)) ∧ (∀ y0 y1 y2 y3 y4 y5 y6 y7 y8 y9 y10 y11 y12 y13, LeO (cobweblaw03_ValueOrder.j2 k y0 y1 y2 y3 y4 y5 y6 y7 y8 y9 y10 y11 y12 y13) (cobweblaw03_ValueOrder.j2 (k + 1) y0 y1 y2 y3 y4 y5 y6 y7 y8 y9 y10 y11 y12 y13))
  | 0 => ⟨fun _ _ _ _ _ _ _ _ _ _ _ _ _ _ _ _ r h => by simp [cobweblaw03_ValueOrder.j0] at h, fun _ _ _ _ _ _ _ _ _ _ _ _ _ _ _ _ _ _ _ r h => by simp [cobweblaw03_ValueOrder.j1] at h, fun _ _ _ _ _ _ _ _ _ _ _ _ _ _ r h => by simp [cobweblaw03_ValueOrder.j2] at h⟩
  | k + 1 => by
    obtain ⟨ih0, ih1, ih2⟩ := cobweblaw03_ValueOrder.mono_l k
    refine ⟨?_, ?_, ?_⟩
    · intro y0 y1 y2 y3 y4 y5 y6 y7 y8 y9 y10 y11 y12 y13 y14 y15
      unfold cobweblaw03_ValueOrder.j0
      repeat' first
      | (with_reducible exact ih0 _ _ _ _ _ _ _ _ _ _ _ _ _ _ _ _)
      | (with_reducible exact ih1 _ _ _ _ _ _ _ _ _ _ _ _ _ _ _ _ _ _ _)
      | (with_reducible exact ih2 _ _ _ _ _ _ _ _ _ _ _ _ _ _)
      | (with_reducible exact LeO.refl _)
      | (with_reducible exact LeO.none _)
      | (with_reducible refine LeO.ite ?_ ?_)
      | (with_reducible refine LeO.bind ?_ (fun _ => ?_))
      | exact ih0 _ _ _ _ _ _ _ _ _ _ _ _ _ _ _ _
      | exact ih1 _ _ _ _ _ _ _ _ _ _ _ _ _ _ _ _ _ _ _
      | exact ih2 _ _ _ _ _ _ _ _ _ _ _ _ _ _
      | exact LeO.none _
      | refine LeO.ite ?_ ?_
      | refine LeO.bind ?_ (fun _ => ?_)
    · intro y0 y1 y2 y3 y4 y5 y6 y7 y8 y9 y10 y11 y12 y13 y14 y15 y16 y17 y18
      unfold cobweblaw03_ValueOrder.j1
      repeat' first
      | (with_reducible exact ih0 _ _ _ _ _ _ _ _ _ _ _ _ _ _ _ _)
      | (with_reducible exact ih1 _ _ _ _ _ _ _ _ _ _ _ _ _ _ _ _ _ _ _)
      | (with_reducible exact ih2 _ _ _ _ _ _ _ _ _ _ _ _ _ _)
      | (with_reducible exact LeO.refl _)
      | (with_reducible exact LeO.none _)
      | (with_reducible refine LeO.ite ?_ ?_)
      | (with_reducible refine LeO.bind ?_ (fun _ => ?_))
      | exact ih0 _ _ _ _ _ _ _ _ _ _ _ _ _ _ _ _
      | exact ih1 _ _ _ _ _ _ _ _ _ _ _ _ _ _ _ _ _ _ _
      | exact ih2 _ _ _ _ _ _ _ _ _ _ _ _ _ _
      | exact LeO.none _
      | refine LeO.ite ?_ ?_
      | refine LeO.bind ?_ (fun _ => ?_)
    · intro y0 y1 y2 y3 y4 y5 y6 y7 y8 y9 y10 y11 y12 y13
      unfold cobweblaw03_ValueOrder.j2
      repeat' first
      | (with_reducible exact ih0 _ _ _ _ _ _ _ _ _ _ _ _ _ _ _ _)
      | (with_reducible exact ih1 _ _ _ _ _ _ _ _ _ _ _ _ _ _ _ _ _ _ _)
      | (with_reducible exact ih2 _ _ _ _ _ _ _ _ _ _ _ _ _ _)
      | (with_reducible exact LeO.refl _)
      | (with_reducible exact LeO.none _)
      | (with_reducible refine LeO.ite ?_ ?_)
      | (with_reducible refine LeO.bind ?_ (fun _ => ?_))
      | exact ih0 _ _ _ _ _ _ _ _ _ _ _ _ _ _ _ _
      | exact ih1 _ _ _ _ _ _ _ _ _ _ _ _ _ _ _ _ _ _ _
      | exact ih2 _ _ _ _ _ _ _ _ _ _ _ _ _ _
      | exact LeO.none _
      | refine LeO.ite ?_ ?_
      | refine LeO.bind ?_ (fun _ => ?_)
theorem cobweblaw03_ValueOrder.mono : ∀ a0 a1 a2 a3 a4 a5 a6 a7 a8 a9 a10 a11 a12 a13 a14 k, LeO (cobweblaw03_ValueOrder.f k a0 a1 a2 a3 a4 a5 a6 a7 a8 a9 a10 a11 a12 a13 a14) (cobweblaw03_ValueOrder.f (k + 1) a0 a1 a2 a3 a4 a5 a6 a7 a8 a9 a10 a11 a12 a13 a14) := by
  intro a0 a1 a2 a3 a4 a5 a6 a7 a8 a9 a10 a11 a12 a13 a14 k
  obtain ⟨ih0, ih1, ih2⟩ := cobweblaw03_ValueOrder.mono_l k
  unfold cobweblaw03_ValueOrder.f
  repeat' first
      | (with_reducible exact ih0 _ _ _ _ _ _ _ _ _ _ _ _ _ _ _ _)
      | (with_reducible exact ih1 _ _ _ _ _ _ _ _ _ _ _ _ _ _ _ _ _ _ _)
      | (with_reducible exact ih2 _ _ _ _ _ _ _ _ _ _ _ _ _ _)
      | (with_reducible exact LeO.refl _)
      | (with_reducible exact LeO.none _)
      | (with_reducible refine LeO.ite ?_ ?_)
      | (with_reducible refine LeO.bind ?_ (fun _ => ?_))
      | exact ih0 _ _ _ _ _ _ _ _ _ _ _ _ _ _ _ _
      | exact ih1 _ _ _ _ _ _ _ _ _ _ _ _ _ _ _ _ _ _ _
      | exact ih2 _ _ _ _ _ _ _ _ _ _ _ _ _ _
      | exact LeO.none _
      | refine LeO.ite ?_ ?_
      | refine LeO.bind ?_ (fun _ => ?_)
def cobweblaw03_ValueOrder.T3 : Bool × List (List Nat × List Nat) := (true, [([], []), ([], []), ([0, 1], [0, 1]), ([], []), ([], []), ([3, 4, 2], [3, 4]), ([], []), ([], []), ([6, 7, 5], [6, 7]), ([2, 8, 0, 1, 2], [2]), ([5, 9, 0, 1, 2, 3, 4, 5, 9], [5]), ([8, 10, 0, 1, 2, 3, 4, 5, 6, 7, 8, 9, 10], [8])])
def cobweblaw03_ValueOrder.B3 : List Nat := [0, 0, 3, 0, 0, 31, 0, 0, 255, 511, 1023, 2047]
theorem cobweblaw03_ValueOrder.tab3 : rtab .any (opsOf Try.f5 3) = cobweblaw03_ValueOrder.T3 := by kernel_rfl
theorem cobweblaw03_ValueOrder.bits3 : waitsOk cobweblaw03_ValueOrder.T3.2 cobweblaw03_ValueOrder.B3 = true := by kernel_rfl
end Go.Proofs.Ytnfapjkffofcaaa.PO
