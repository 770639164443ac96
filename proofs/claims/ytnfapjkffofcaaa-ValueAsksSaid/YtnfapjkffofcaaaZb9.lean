/- Part 9 of the proof: words, contracts, plain laws. Laid by a program of this session (wip/tool/shake.py): what is needed of own and printed texts, in order. -/
import Derived.Test.YtnfapjkffofcaaaZb0
import Derived.Test.YtnfapjkffofcaaaZb1
import Derived.Test.YtnfapjkffofcaaaZb2
import Derived.Test.YtnfapjkffofcaaaZb3
import Derived.Test.YtnfapjkffofcaaaZb4
import Derived.Test.YtnfapjkffofcaaaZb5
import Derived.Test.YtnfapjkffofcaaaZb6
import Derived.Test.YtnfapjkffofcaaaZb7
import Derived.Laws.FloatBits
import Derived.Laws.Externs
import Derived.Test.YtnfapjkffofcaaaProg
import Derived.Laws.Bits64
import Derived.Below
import Derived.Deep.Draws
import Derived.Deep.AppendLies
import Derived.Maps.AppendAt
import Derived.OwnWalk
import Derived.Laws.BytesArg
import Derived.Laws.MakeOwn
import Derived.Laws.OwnMore
import Derived.Deep.OwnRows
import Derived.Tactics
import Derived.Lib.ConvBytes
import Derived.Laws.Slices
import Derived.WalkKit
import Derived.KernelRfl
import Derived.RowKit3
import Derived.Deep.LoopGhost
import Derived.Deep.QuietTactic
import Derived.BigQuiet
import Derived.WideLaws
import Derived.Deep.DeepCutAuto
import Derived.Deep.CutBlock
import Derived.Deep.RegionHeld3
import Derived.Laws.Rows
import Derived.Lib.AppendStr
import Derived.ArgAppend
import Derived.Laws.IdiomCopy
import Derived.OrdersHeld
import Derived.Laws.BitsLemmas
import Derived.RowKit
import Derived.Laws.StructEq
import Derived.Test.YtnfapjkffofcaaaZb8
namespace Go.Proofs.Ytnfapjkffofcaaa.PY
open Go.RowKit Go.Proofs.YtnfapjkffofcaaaW.PrintWords Go.Proofs.YtnfapjkffofcaaaW.PrintLast Go.Proofs.Ytnfapjkffofcaaa.FW Go.Proofs.Ytnfapjkffofcaaa.PK Go.Proofs.Ytnfapjkffofcaaa.G
set_option linter.unusedVariables false
set_option linter.unusedSimpArgs false
mutual
def value_Equal.j0 : Nat → Bool → Int → Int → Nat → ByteArray → List (S26) → Int → Int → Nat → ByteArray → List (S26) → Option (Int)
  | 0, _, _, _, _, _, _, _, _, _, _, _ => none
  | k + 1, x11, x145000, x145001, x145002, x145003, x145004, x146000, x146001, x146002, x146003, x146004 => if x11 = true then ((value_alike.f x145000 x145001 x145002 x145003 x146000 x146001 x146002 x146003).bind fun t147 => ((value_told.f t147).bind fun t148 => (some t148))) else (value_Equal.l0 k ((x145004.length : Int) == (x146004.length : Int)) 0 x145000 x145001 x145002 x145003 x145004 x146000 x146001 x146002 x146003 x146004)
def value_Equal.l0 : Nat → Bool → Int → Int → Int → Nat → ByteArray → List (S26) → Int → Int → Nat → ByteArray → List (S26) → Option (Int)
  | 0, _, _, _, _, _, _, _, _, _, _, _, _ => none
  | k + 1, x5, x6, x145000, x145001, x145002, x145003, x145004, x146000, x146001, x146002, x146003, x146004 => if x5 = true then (if x6 < (x145004.length : Int) then (if 0 ≤ x6 then (if x6 < (x146004.length : Int) then ((value_alike.f ((rd_T26 x145004 x6).f0) ((rd_T26 x145004 x6).f1) ((rd_T26 x145004 x6).f2) ((rd_T26 x145004 x6).f3) ((rd_T26 x146004 x6).f0) ((rd_T26 x146004 x6).f1) ((rd_T26 x146004 x6).f2) ((rd_T26 x146004 x6).f3)).bind fun t151 => (value_Equal.l0 k t151 (wrap64 (x6 + 1)) x145000 x145001 x145002 x145003 x145004 x146000 x146001 x146002 x146003 x146004)) else (none)) else (none)) else ((value_told.f x5).bind fun t152 => (some t152))) else ((value_told.f x5).bind fun t153 => (some t153))
end
def value_Equal.f (k : Nat) (a0_0 : Int) (a0_1 : Int) (a0_2 : Nat) (a0_3 : ByteArray) (l0_4 : List (S26)) (a1_0 : Int) (a1_1 : Int) (a1_2 : Nat) (a1_3 : ByteArray) (l1_4 : List (S26)) : Option (Int) := (value_unknown.f a0_0 a0_1 a0_2 a0_3 l0_4 a1_0 a1_1 a1_2 a1_3 l1_4).bind fun t146 => (if t146 = true then (some 2) else (if a0_0 = 6 then (value_Equal.j0 k (a1_0 != 6) a0_0 a0_1 a0_2 a0_3 l0_4 a1_0 a1_1 a1_2 a1_3 l1_4) else (value_Equal.j0 k true a0_0 a0_1 a0_2 a0_3 l0_4 a1_0 a1_1 a1_2 a1_3 l1_4)))
theorem value_Equal.mono_l : ∀ k, (∀ y0 y1 y2 y3 y4 y5 y6 y7 y8 y9 y10, LeO (value_Equal.j0 k y0 y1 y2 y3 y4 y5 y6 y7 y8 y9 y10) (value_Equal.j0 (k + 1) y0 y1 y2 y3 y4 y5 y6 y7 y8 y9 y10)) ∧ (∀ y0 y1 y2 y3 y4 y5 y6 y7 y8 y9 y10 y11, LeO (value_Equal.l0 k y0 y1 y2 y3 y4 y5 y6 y7 y8 y9 y10 y11) (value_Equal.l0 (k + 1) y0 y1 y2 y3 y4 y5 y6 y7 y8 y9 y10 y11))
  | 0 => ⟨fun _ _ _ _ _ _ _ _ _ _ _ r h => by simp [value_Equal.j0] at h, fun _ _ _ _ _ _ _ _ _ _ _ _ r h => by simp [value_Equal.l0] at h⟩
  | k + 1 => by
    obtain ⟨ih0, ih1⟩ := value_Equal.mono_l k
    refine ⟨?_, ?_⟩
    · intro y0 y1 y2 y3 y4 y5 y6 y7 y8 y9 y10
      unfold value_Equal.j0
      repeat' first
      | (with_reducible exact ih0 _ _ _ _ _ _ _ _ _ _ _)
      | (with_reducible exact ih1 _ _ _ _ _ _ _ _ _ _ _ _)
      | (with_reducible exact LeO.refl _)
      | (with_reducible exact LeO.none _)
      | (with_reducible refine LeO.ite ?_ ?_)
      | (with_reducible refine LeO.bind ?_ (fun _ => ?_))
      | exact ih0 _ _ _ _ _ _ _ _ _ _ _
      | exact ih1 _ _ _ _ _ _ _ _ _ _ _ _
      | exact LeO.none _
      | refine LeO.ite ?_ ?_
      | refine LeO.bind ?_ (fun _ => ?_)
    · intro y0 y1 y2 y3 y4 y5 y6 y7 y8 y9 y10 y11
      unfold value_Equal.l0
      repeat' first
      | (with_reducible exact ih0 _ _ _ _ _ _ _ _ _ _ _)
      | (with_reducible exact ih1 _ _ _ _ _ _ _ _ _ _ _ _)
      | (with_reducible exact LeO.refl _)
      | (with_reducible exact LeO.none _)
      | (with_reducible refine LeO.ite ?_ ?_)
      | (with_reducible refine LeO.bind ?_ (fun _ => ?_))
      | exact ih0 _ _ _ _ _ _ _ _ _ _ _
      | exact ih1 _ _ _ _ _ _ _ _ _ _ _ _
      | exact LeO.none _
      | refine LeO.ite ?_ ?_
      | refine LeO.bind ?_ (fun _ => ?_)
theorem value_Equal.mono : ∀ a0 a1 a2 a3 a4 a5 a6 a7 a8 a9 k, LeO (value_Equal.f k a0 a1 a2 a3 a4 a5 a6 a7 a8 a9) (value_Equal.f (k + 1) a0 a1 a2 a3 a4 a5 a6 a7 a8 a9) := by
  intro a0 a1 a2 a3 a4 a5 a6 a7 a8 a9 k
  obtain ⟨ih0, ih1⟩ := value_Equal.mono_l k
  unfold value_Equal.f
  repeat' first
      | (with_reducible exact ih0 _ _ _ _ _ _ _ _ _ _ _)
      | (with_reducible exact ih1 _ _ _ _ _ _ _ _ _ _ _ _)
      | (with_reducible exact LeO.refl _)
      | (with_reducible exact LeO.none _)
      | (with_reducible refine LeO.ite ?_ ?_)
      | (with_reducible refine LeO.bind ?_ (fun _ => ?_))
      | exact ih0 _ _ _ _ _ _ _ _ _ _ _
      | exact ih1 _ _ _ _ _ _ _ _ _ _ _ _
      | exact LeO.none _
      | refine LeO.ite ?_ ?_
      | refine LeO.bind ?_ (fun _ => ?_)
def value_Equal.T9 : Bool × List (List Nat × List Nat) := (true, [([], []), ([0], [0]), ([], []), ([1, 2], [1, 2]), ([3], [3]), ([4], [4]), ([], []), ([6], [6]), ([], []), ([7, 8], [7, 8]), ([9], [9]), ([10], [10]), ([5, 11], [5, 11]), ([12, 12, 0, 1, 2, 3, 4, 5, 6, 7, 8, 9, 10, 11, 12], [12])])
def value_Equal.B9 : List Nat := [0, 1, 0, 7, 15, 31, 0, 64, 0, 448, 960, 1984, 4095, 8191]
theorem value_Equal.tab9 : rtab .any (opsOf Try.f18 9) = value_Equal.T9 := by kernel_rfl
theorem value_Equal.bits9 : waitsOk value_Equal.T9.2 value_Equal.B9 = true := by kernel_rfl
set_option maxHeartbeats 8000000 in
set_option maxRecDepth 100000 in
theorem value_Equal.calls (k : Nat) (a0_0 : Int) (a0_1 : Int) (a0_2 : Nat) (a0_3 : ByteArray) (A0_4 : Option Addr) (c0_4 : Nat) (l0_4 : List (S26)) (a1_0 : Int) (a1_1 : Int) (a1_2 : Nat) (a1_3 : ByteArray) (A1_4 : Option Addr) (c1_4 : Nat) (l1_4 : List (S26)) (r : Int) (w : World) (hr0_4 : Kd.C k26 w A0_4 l0_4.length l0_4) (hc0_4 : l0_4.length ≤ c0_4) (hr1_4 : Kd.C k26 w A1_4 l1_4.length l1_4) (hc1_4 : l1_4.length ≤ c1_4) (h : value_Equal.f k a0_0 a0_1 a0_2 a0_3 l0_4 a1_0 a1_1 a1_2 a1_3 l1_4 = some r) :
    Calls Try.prog 18 #[.agg #[.int .i64 a0_0, .int .i64 a0_1, .float .f64 a0_2, .string a0_3, .slice A0_4 l0_4.length c0_4], .agg #[.int .i64 a1_0, .int .i64 a1_1, .float .f64 a1_2, .string a1_3, .slice A1_4 l1_4.length c1_4]] w fun e w' => e = .returned (.int .i64 r) ∧ Below w.heap.size w w' := by
  have hu29 := Try.underlying29
  have hu26 := Try.underlying26
  have hu78 := Try.underlying78
  have HR0_4 := Aside0.mk hr0_4
  have HC0_4 := Aside0.mk hc0_4
  clear hr0_4 hc0_4
  have HR1_4 := Aside0.mk hr1_4
  have HC1_4 := Aside0.mk hc1_4
  clear hr1_4 hc1_4
  have HB := Aside0.mk (Below.refl w.heap.size w)
  have H : ((value_unknown.f a0_0 a0_1 a0_2 a0_3 l0_4 a1_0 a1_1 a1_2 a1_3 l1_4).bind fun t146 => (if t146 = true then (some 2) else (if a0_0 = 6 then (value_Equal.j0 k (a1_0 != 6) a0_0 a0_1 a0_2 a0_3 l0_4 a1_0 a1_1 a1_2 a1_3 l1_4) else (value_Equal.j0 k true a0_0 a0_1 a0_2 a0_3 l0_4 a1_0 a1_1 a1_2 a1_3 l1_4)))) = some r := h
  clear h
  replace H := Option.bind_eq_some_iff.mp H
  obtain ⟨t146, A30, H⟩ := H
  replace H : (if t146 = true then (some 2) else (if a0_0 = 6 then (value_Equal.j0 k (a1_0 != 6) a0_0 a0_1 a0_2 a0_3 l0_4 a1_0 a1_1 a1_2 a1_3 l1_4) else (value_Equal.j0 k true a0_0 a0_1 a0_2 a0_3 l0_4 a1_0 a1_1 a1_2 a1_3 l1_4))) = some r := H
  have A3 := Aside0.mk A30
  clear A30
  by_cases c4 : t146 = true
  · subst c4
    have H1 : (some 2) = some r := by rw [if_pos rfl] at H; exact H
    clear H
    have H := H1
    clear H1
    obtain rfl := Option.some.inj H
    go_enter Try.func18, Try.ntmps18
    go_wp2_with (first | ((with_reducible refine gate_dst (N := 2) rfl ?_); (try (refine gate_guard (by rfl) ?_; dsimp only)); refine box_event ?hg (N := 2) ?hd (cs := #[.int .i64 a0_0, .int .i64 a0_1, .float .f64 a0_2, .string a0_3, .slice A0_4 l0_4.length c0_4]) (t := 29) ?hr ?_; (case hd => rfl); (case hg => rfl); (case hr => first | (go_simp; done) | (go_simp; rfl)); intro gb144 hg w5 hbox hb; have n0_ := Aside0.mk (below_step (by repeat (first | (with_reducible first | exact HB.out | apply below_alloc | apply pw_below_drewN | apply below_drew1) | exact HB.out)) hb); have n1_ := Aside0.mk (hbox); have n2_ := Aside0.mk ((by rw [hg]; exact (below_size (by repeat (first | (with_reducible first | exact HB.out | apply below_alloc | apply pw_below_drewN | apply below_drew1) | exact HB.out))) : w.heap.size ≤ gb144)); have n3_ := Aside0.mk ((by rw [hg]; exact (below_size (by repeat (first | (with_reducible first | exact HB.out | apply below_alloc | apply pw_below_drewN | apply below_drew1) | exact HB.out))) : w.heap.size ≤ gb144)); clear HB; have HB := n0_; have BK144 := n1_; have GW144 := n2_; have GE144 := n3_; clear n0_ n1_ n2_ n3_; clear hb hbox hg) | ((with_reducible refine gate_dst (N := 3) rfl ?_); (try (refine gate_guard (by rfl) ?_; dsimp only)); refine box_event ?hg (N := 3) ?hd (cs := #[.int .i64 a1_0, .int .i64 a1_1, .float .f64 a1_2, .string a1_3, .slice A1_4 l1_4.length c1_4]) (t := 29) ?hr ?_; (case hd => rfl); (case hg => rfl); (case hr => first | (go_simp; done) | (go_simp; rfl)); intro gb145 hg w6 hbox hb; have n0_ := Aside0.mk (blk_below (g := gb144) (o := .cells #[.int .i64 a0_0, .int .i64 a0_1, .float .f64 a0_2, .string a0_3, .slice A0_4 l0_4.length c0_4] 29 (0, 0)) (by (with_reducible repeat (first | refine blk_drewN ?_ _ | refine blk_drew ?_ | refine blk_alloc ?_ _)); exact BK144.out) hb); have n1_ := Aside0.mk (below_step (by repeat (first | (with_reducible first | exact HB.out | apply below_alloc | apply pw_below_drewN | apply below_drew1 | refine below_set ?_ GE144.out) | exact HB.out)) hb); have n2_ := Aside0.mk (hbox); have n3_ := Aside0.mk ((by rw [hg]; exact (below_size (by repeat (first | (with_reducible first | exact HB.out | apply below_alloc | apply pw_below_drewN | apply below_drew1 | refine below_set ?_ GE144.out) | exact HB.out))) : w.heap.size ≤ gb145)); have n4_ := Aside0.mk ((by rw [hg]; exact (below_size (by repeat (first | (with_reducible first | exact HB.out | apply below_alloc | apply pw_below_drewN | apply below_drew1 | refine below_set ?_ GE144.out) | exact HB.out))) : w.heap.size ≤ gb145)); have n5_ := Aside0.mk ((by rw [hg]; exact Nat.ne_of_lt (blk_lt (g := gb144) (o := .cells #[.int .i64 a0_0, .int .i64 a0_1, .float .f64 a0_2, .string a0_3, .slice A0_4 l0_4.length c0_4] 29 (0, 0)) (by (with_reducible repeat (first | refine blk_drewN ?_ _ | refine blk_drew ?_ | refine blk_alloc ?_ _)); exact BK144.out)) : gb144 ≠ gb145)); have n6_ := Aside0.mk ((by rw [hg]; exact Nat.ne_of_gt (blk_lt (g := gb144) (o := .cells #[.int .i64 a0_0, .int .i64 a0_1, .float .f64 a0_2, .string a0_3, .slice A0_4 l0_4.length c0_4] 29 (0, 0)) (by (with_reducible repeat (first | refine blk_drewN ?_ _ | refine blk_drew ?_ | refine blk_alloc ?_ _)); exact BK144.out)) : gb145 ≠ gb144)); clear BK144; clear HB; have BK144 := n0_; have HB := n1_; have BK145 := n2_; have GW145 := n3_; have GE145 := n4_; have NB144_145 := n5_; have NB145_144 := n6_; clear n0_ n1_ n2_ n3_ n4_ n5_ n6_; clear hb hbox hg; have hnb7 := NB144_145.out; have hnc7 := NB145_144.out; have hcz8_0 : w6.cell? ⟨gb144, 0, none⟩ = some (.int .i64 a0_0) := (blk_cell BK144.out 0).trans rfl; have hcz8_1 : w6.cell? ⟨gb144, 1, none⟩ = some (.int .i64 a0_1) := (blk_cell BK144.out 1).trans rfl; have hcz8_2 : w6.cell? ⟨gb144, 2, none⟩ = some (.float .f64 a0_2) := (blk_cell BK144.out 2).trans rfl; have hcz8_3 : w6.cell? ⟨gb144, 3, none⟩ = some (.string a0_3) := (blk_cell BK144.out 3).trans rfl; have hcz8_4 : w6.cell? ⟨gb144, 4, none⟩ = some (.slice A0_4 l0_4.length c0_4) := (blk_cell BK144.out 4).trans rfl; have hfz8_0 := blk_frozen BK144.out 0; have hfz8_1 := blk_frozen BK144.out 1; have hfz8_2 := blk_frozen BK144.out 2; have hfz8_3 := blk_frozen BK144.out 3; have hfz8_4 := blk_frozen BK144.out 4; have hcz9_0 : w6.cell? ⟨gb145, 0, none⟩ = some (.int .i64 a1_0) := (blk_cell BK145.out 0).trans rfl; have hcz9_1 : w6.cell? ⟨gb145, 1, none⟩ = some (.int .i64 a1_1) := (blk_cell BK145.out 1).trans rfl; have hcz9_2 : w6.cell? ⟨gb145, 2, none⟩ = some (.float .f64 a1_2) := (blk_cell BK145.out 2).trans rfl; have hcz9_3 : w6.cell? ⟨gb145, 3, none⟩ = some (.string a1_3) := (blk_cell BK145.out 3).trans rfl; have hcz9_4 : w6.cell? ⟨gb145, 4, none⟩ = some (.slice A1_4 l1_4.length c1_4) := (blk_cell BK145.out 4).trans rfl; have hfz9_0 := blk_frozen BK145.out 0; have hfz9_1 := blk_frozen BK145.out 1; have hfz9_2 := blk_frozen BK145.out 2; have hfz9_3 := blk_frozen BK145.out 3; have hfz9_4 := blk_frozen BK145.out 4) | ((with_reducible refine gate_callee (f := 36) rfl ?_); refine goesL_ (some 10) rfl rfl Try.func36 (by kernel_rfl) rfl #[.agg #[.int .i64 a0_0, .int .i64 a0_1, .float .f64 a0_2, .string a0_3, .slice A0_4 l0_4.length c0_4], .agg #[.int .i64 a1_0, .int .i64 a1_1, .float .f64 a1_2, .string a1_3, .slice A1_4 l1_4.length c1_4]] rfl (by (try simp only [List.map_toArray, List.map_cons, List.map_nil]); first | done | rfl | (simp only [List.length_drop, List.length_take]; rfl)) ?_; (with_reducible refine (value_unknown.calls a0_0 a0_1 a0_2 a0_3 _ _ l0_4 a1_0 a1_1 a1_2 a1_3 _ _ l1_4 true _ ?side1 ?side2 ?side3 ?side4 A3.out).mono ?_); (case side1 => repeat (first | exact (Kd.C_below HR0_4.out HB.out) | (with_reducible refine Kd.C_alloc ?_ _) | (with_reducible refine Kd.C_drewN ?_ _) | (with_reducible refine Kd.C_drew ?_))); (case side2 => exact HC0_4.out); (case side3 => repeat (first | exact (Kd.C_below HR1_4.out HB.out) | (with_reducible refine Kd.C_alloc ?_ _) | (with_reducible refine Kd.C_drewN ?_ _) | (with_reducible refine Kd.C_drew ?_))); (case side4 => exact HC1_4.out); rintro e w10 ⟨rfl, hb⟩; refine ⟨_, rfl, ?_⟩; have n0_ := Aside0.mk (blk_below (g := gb144) (o := .cells #[.int .i64 a0_0, .int .i64 a0_1, .float .f64 a0_2, .string a0_3, .slice A0_4 l0_4.length c0_4] 29 (0, 0)) (by (with_reducible repeat (first | refine blk_drewN ?_ _ | refine blk_drew ?_ | refine blk_alloc ?_ _)); exact BK144.out) hb); have n1_ := Aside0.mk (blk_below (g := gb145) (o := .cells #[.int .i64 a1_0, .int .i64 a1_1, .float .f64 a1_2, .string a1_3, .slice A1_4 l1_4.length c1_4] 29 (0, 0)) (by (with_reducible repeat (first | refine blk_drewN ?_ _ | refine blk_drew ?_ | refine blk_alloc ?_ _)); exact BK145.out) hb); have n2_ := Aside0.mk (below_step (by repeat (first | (with_reducible first | exact HB.out | apply below_alloc | apply pw_below_drewN | apply below_drew1 | refine below_set ?_ GE144.out | refine below_set ?_ GE145.out) | exact HB.out)) hb); clear BK144; clear BK145; clear HB; have BK144 := n0_; have BK145 := n1_; have HB := n2_; clear n0_ n1_ n2_; (try clear hb); (try clear hb2); (try clear hk); (try clear hi)))
    go_ret
    exact ⟨by first | rfl | (simp [errW_none, errW_some] <;> rfl) | (simp [*, errW_none, errW_some] <;> rfl), by repeat (first | (with_reducible first | exact HB.out | apply below_alloc | apply pw_below_drewN | apply below_drew1 | refine below_set ?_ GE144.out | refine below_set ?_ GE145.out) | exact HB.out)⟩
  · replace c4 := Bool.eq_false_iff.mpr c4
    subst c4
    have H1 : (if a0_0 = 6 then (value_Equal.j0 k (a1_0 != 6) a0_0 a0_1 a0_2 a0_3 l0_4 a1_0 a1_1 a1_2 a1_3 l1_4) else (value_Equal.j0 k true a0_0 a0_1 a0_2 a0_3 l0_4 a1_0 a1_1 a1_2 a1_3 l1_4)) = some r := by rw [if_neg (show ¬ (false = true) by decide)] at H; exact H
    clear H
    have H := H1
    clear H1
    have HC11 := Aside0.mk H
    clear H
    go_enter Try.func18, Try.ntmps18
    go_upto_region 3 with (first | ((with_reducible refine gate_dst (N := 2) rfl ?_); (try (refine gate_guard (by rfl) ?_; dsimp only)); refine box_event ?hg (N := 2) ?hd (cs := #[.int .i64 a0_0, .int .i64 a0_1, .float .f64 a0_2, .string a0_3, .slice A0_4 l0_4.length c0_4]) (t := 29) ?hr ?_; (case hd => rfl); (case hg => rfl); (case hr => first | (go_simp; done) | (go_simp; rfl)); intro gb144 hg w12 hbox hb; have n0_ := Aside0.mk (below_step (by repeat (first | (with_reducible first | exact HB.out | apply below_alloc | apply pw_below_drewN | apply below_drew1) | exact HB.out)) hb); have n1_ := Aside0.mk (hbox); have n2_ := Aside0.mk ((by rw [hg]; exact (below_size (by repeat (first | (with_reducible first | exact HB.out | apply below_alloc | apply pw_below_drewN | apply below_drew1) | exact HB.out))) : w.heap.size ≤ gb144)); have n3_ := Aside0.mk ((by rw [hg]; exact (below_size (by repeat (first | (with_reducible first | exact HB.out | apply below_alloc | apply pw_below_drewN | apply below_drew1) | exact HB.out))) : w.heap.size ≤ gb144)); clear HB; have HB := n0_; have BK144 := n1_; have GW144 := n2_; have GE144 := n3_; clear n0_ n1_ n2_ n3_; clear hb hbox hg) | ((with_reducible refine gate_dst (N := 3) rfl ?_); (try (refine gate_guard (by rfl) ?_; dsimp only)); refine box_event ?hg (N := 3) ?hd (cs := #[.int .i64 a1_0, .int .i64 a1_1, .float .f64 a1_2, .string a1_3, .slice A1_4 l1_4.length c1_4]) (t := 29) ?hr ?_; (case hd => rfl); (case hg => rfl); (case hr => first | (go_simp; done) | (go_simp; rfl)); intro gb145 hg w13 hbox hb; have n0_ := Aside0.mk (blk_below (g := gb144) (o := .cells #[.int .i64 a0_0, .int .i64 a0_1, .float .f64 a0_2, .string a0_3, .slice A0_4 l0_4.length c0_4] 29 (0, 0)) (by (with_reducible repeat (first | refine blk_drewN ?_ _ | refine blk_drew ?_ | refine blk_alloc ?_ _)); exact BK144.out) hb); have n1_ := Aside0.mk (below_step (by repeat (first | (with_reducible first | exact HB.out | apply below_alloc | apply pw_below_drewN | apply below_drew1 | refine below_set ?_ GE144.out) | exact HB.out)) hb); have n2_ := Aside0.mk (hbox); have n3_ := Aside0.mk ((by rw [hg]; exact (below_size (by repeat (first | (with_reducible first | exact HB.out | apply below_alloc | apply pw_below_drewN | apply below_drew1 | refine below_set ?_ GE144.out) | exact HB.out))) : w.heap.size ≤ gb145)); have n4_ := Aside0.mk ((by rw [hg]; exact (below_size (by repeat (first | (with_reducible first | exact HB.out | apply below_alloc | apply pw_below_drewN | apply below_drew1 | refine below_set ?_ GE144.out) | exact HB.out))) : w.heap.size ≤ gb145)); have n5_ := Aside0.mk ((by rw [hg]; exact Nat.ne_of_lt (blk_lt (g := gb144) (o := .cells #[.int .i64 a0_0, .int .i64 a0_1, .float .f64 a0_2, .string a0_3, .slice A0_4 l0_4.length c0_4] 29 (0, 0)) (by (with_reducible repeat (first | refine blk_drewN ?_ _ | refine blk_drew ?_ | refine blk_alloc ?_ _)); exact BK144.out)) : gb144 ≠ gb145)); have n6_ := Aside0.mk ((by rw [hg]; exact Nat.ne_of_gt (blk_lt (g := gb144) (o := .cells #[.int .i64 a0_0, .int .i64 a0_1, .float .f64 a0_2, .string a0_3, .slice A0_4 l0_4.length c0_4] 29 (0, 0)) (by (with_reducible repeat (first | refine blk_drewN ?_ _ | refine blk_drew ?_ | refine blk_alloc ?_ _)); exact BK144.out)) : gb145 ≠ gb144)); clear BK144; clear HB; have BK144 := n0_; have HB := n1_; have BK145 := n2_; have GW145 := n3_; have GE145 := n4_; have NB144_145 := n5_; have NB145_144 := n6_; clear n0_ n1_ n2_ n3_ n4_ n5_ n6_; clear hb hbox hg; have hnb14 := NB144_145.out; have hnc14 := NB145_144.out; have hcz15_0 : w13.cell? ⟨gb144, 0, none⟩ = some (.int .i64 a0_0) := (blk_cell BK144.out 0).trans rfl; have hcz15_1 : w13.cell? ⟨gb144, 1, none⟩ = some (.int .i64 a0_1) := (blk_cell BK144.out 1).trans rfl; have hcz15_2 : w13.cell? ⟨gb144, 2, none⟩ = some (.float .f64 a0_2) := (blk_cell BK144.out 2).trans rfl; have hcz15_3 : w13.cell? ⟨gb144, 3, none⟩ = some (.string a0_3) := (blk_cell BK144.out 3).trans rfl; have hcz15_4 : w13.cell? ⟨gb144, 4, none⟩ = some (.slice A0_4 l0_4.length c0_4) := (blk_cell BK144.out 4).trans rfl; have hfz15_0 := blk_frozen BK144.out 0; have hfz15_1 := blk_frozen BK144.out 1; have hfz15_2 := blk_frozen BK144.out 2; have hfz15_3 := blk_frozen BK144.out 3; have hfz15_4 := blk_frozen BK144.out 4; have hcz16_0 : w13.cell? ⟨gb145, 0, none⟩ = some (.int .i64 a1_0) := (blk_cell BK145.out 0).trans rfl; have hcz16_1 : w13.cell? ⟨gb145, 1, none⟩ = some (.int .i64 a1_1) := (blk_cell BK145.out 1).trans rfl; have hcz16_2 : w13.cell? ⟨gb145, 2, none⟩ = some (.float .f64 a1_2) := (blk_cell BK145.out 2).trans rfl; have hcz16_3 : w13.cell? ⟨gb145, 3, none⟩ = some (.string a1_3) := (blk_cell BK145.out 3).trans rfl; have hcz16_4 : w13.cell? ⟨gb145, 4, none⟩ = some (.slice A1_4 l1_4.length c1_4) := (blk_cell BK145.out 4).trans rfl; have hfz16_0 := blk_frozen BK145.out 0; have hfz16_1 := blk_frozen BK145.out 1; have hfz16_2 := blk_frozen BK145.out 2; have hfz16_3 := blk_frozen BK145.out 3; have hfz16_4 := blk_frozen BK145.out 4) | ((with_reducible refine gate_callee (f := 36) rfl ?_); refine goesL_ (some 10) rfl rfl Try.func36 (by kernel_rfl) rfl #[.agg #[.int .i64 a0_0, .int .i64 a0_1, .float .f64 a0_2, .string a0_3, .slice A0_4 l0_4.length c0_4], .agg #[.int .i64 a1_0, .int .i64 a1_1, .float .f64 a1_2, .string a1_3, .slice A1_4 l1_4.length c1_4]] rfl (by (try simp only [List.map_toArray, List.map_cons, List.map_nil]); first | done | rfl | (simp only [List.length_drop, List.length_take]; rfl)) ?_; (with_reducible refine (value_unknown.calls a0_0 a0_1 a0_2 a0_3 _ _ l0_4 a1_0 a1_1 a1_2 a1_3 _ _ l1_4 false _ ?side1 ?side2 ?side3 ?side4 A3.out).mono ?_); (case side1 => repeat (first | exact (Kd.C_below HR0_4.out HB.out) | (with_reducible refine Kd.C_alloc ?_ _) | (with_reducible refine Kd.C_drewN ?_ _) | (with_reducible refine Kd.C_drew ?_))); (case side2 => exact HC0_4.out); (case side3 => repeat (first | exact (Kd.C_below HR1_4.out HB.out) | (with_reducible refine Kd.C_alloc ?_ _) | (with_reducible refine Kd.C_drewN ?_ _) | (with_reducible refine Kd.C_drew ?_))); (case side4 => exact HC1_4.out); rintro e w17 ⟨rfl, hb⟩; refine ⟨_, rfl, ?_⟩; have n0_ := Aside0.mk (blk_below (g := gb144) (o := .cells #[.int .i64 a0_0, .int .i64 a0_1, .float .f64 a0_2, .string a0_3, .slice A0_4 l0_4.length c0_4] 29 (0, 0)) (by (with_reducible repeat (first | refine blk_drewN ?_ _ | refine blk_drew ?_ | refine blk_alloc ?_ _)); exact BK144.out) hb); have n1_ := Aside0.mk (blk_below (g := gb145) (o := .cells #[.int .i64 a1_0, .int .i64 a1_1, .float .f64 a1_2, .string a1_3, .slice A1_4 l1_4.length c1_4] 29 (0, 0)) (by (with_reducible repeat (first | refine blk_drewN ?_ _ | refine blk_drew ?_ | refine blk_alloc ?_ _)); exact BK145.out) hb); have n2_ := Aside0.mk (below_step (by repeat (first | (with_reducible first | exact HB.out | apply below_alloc | apply pw_below_drewN | apply below_drew1 | refine below_set ?_ GE144.out | refine below_set ?_ GE145.out) | exact HB.out)) hb); clear BK144; clear BK145; clear HB; have BK144 := n0_; have BK145 := n1_; have HB := n2_; clear n0_ n1_ n2_; (try clear hb); (try clear hb2); (try clear hk); (try clear hi)))
    (try simp only [Act.put, List.setIfInBounds_toArray, List.set_cons_zero, List.set_cons_succ])
    go_cut [11] (fun v11 wc => ∃ (kq : Nat) (x11_10 : Bool), v11 = .bool x11_10 ∧ Aside0 (value_Equal.j0 kq x11_10 a0_0 a0_1 a0_2 a0_3 l0_4 a1_0 a1_1 a1_2 a1_3 l1_4 = some r) ∧ Aside0 (kq ≤ k) ∧ Aside0 (wc.heap[gb144]? = some (.cells #[.int .i64 a0_0, .int .i64 a0_1, .float .f64 a0_2, .string a0_3, (.slice A0_4 l0_4.length c0_4)] 29 (0, 0))) ∧ Aside0 (wc.heap[gb145]? = some (.cells #[.int .i64 a1_0, .int .i64 a1_1, .float .f64 a1_2, .string a1_3, (.slice A1_4 l1_4.length c1_4)] 29 (0, 0))) ∧ Aside0 (Below w.heap.size w wc))
    case first =>
      have H := HC11.out
      clear HC11
      by_cases c18 : a0_0 = 6
      · rw [if_pos c18] at H
        have c18b0 : (a0_0 == 6) = true := beq_iff_eq.mpr c18
        have c18b1 : (a0_0 != 6) = false := bne_eq_false_iff_eq.mpr c18
        clear c18
        (first | rw [c18b0] | (simp only [i64_w, i32_w]; rw [c18b0]) | skip)
        have H' := Aside0.mk H
        clear H
        have hnb19 := NB144_145.out
        have hnc19 := NB145_144.out
        have hcz20_0 : w17.cell? ⟨gb144, 0, none⟩ = some (.int .i64 a0_0) := (blk_cell BK144.out 0).trans rfl
        have hcz20_1 : w17.cell? ⟨gb144, 1, none⟩ = some (.int .i64 a0_1) := (blk_cell BK144.out 1).trans rfl
        have hcz20_2 : w17.cell? ⟨gb144, 2, none⟩ = some (.float .f64 a0_2) := (blk_cell BK144.out 2).trans rfl
        have hcz20_3 : w17.cell? ⟨gb144, 3, none⟩ = some (.string a0_3) := (blk_cell BK144.out 3).trans rfl
        have hcz20_4 : w17.cell? ⟨gb144, 4, none⟩ = some (.slice A0_4 l0_4.length c0_4) := (blk_cell BK144.out 4).trans rfl
        have hfz20_0 := blk_frozen BK144.out 0
        have hfz20_1 := blk_frozen BK144.out 1
        have hfz20_2 := blk_frozen BK144.out 2
        have hfz20_3 := blk_frozen BK144.out 3
        have hfz20_4 := blk_frozen BK144.out 4
        have hcz21_0 : w17.cell? ⟨gb145, 0, none⟩ = some (.int .i64 a1_0) := (blk_cell BK145.out 0).trans rfl
        have hcz21_1 : w17.cell? ⟨gb145, 1, none⟩ = some (.int .i64 a1_1) := (blk_cell BK145.out 1).trans rfl
        have hcz21_2 : w17.cell? ⟨gb145, 2, none⟩ = some (.float .f64 a1_2) := (blk_cell BK145.out 2).trans rfl
        have hcz21_3 : w17.cell? ⟨gb145, 3, none⟩ = some (.string a1_3) := (blk_cell BK145.out 3).trans rfl
        have hcz21_4 : w17.cell? ⟨gb145, 4, none⟩ = some (.slice A1_4 l1_4.length c1_4) := (blk_cell BK145.out 4).trans rfl
        have hfz21_0 := blk_frozen BK145.out 0
        have hfz21_1 := blk_frozen BK145.out 1
        have hfz21_2 := blk_frozen BK145.out 2
        have hfz21_3 := blk_frozen BK145.out 3
        have hfz21_4 := blk_frozen BK145.out 4
        go_wp2
        go_meet
        case rel => exact ⟨_, ((a1_0 != 6)), (by first | rfl | (simp; done) | (simp [*]; done)), H', ⟨by first | omega | exact Nat.le_refl _⟩, ⟨by (with_reducible repeat (first | refine blk_drewN ?_ _ | refine blk_drew ?_ | refine blk_alloc ?_ _)); exact BK144.out⟩, ⟨by (with_reducible repeat (first | refine blk_drewN ?_ _ | refine blk_drew ?_ | refine blk_alloc ?_ _)); exact BK145.out⟩, ⟨by repeat (first | (with_reducible first | exact HB.out | apply below_alloc | apply pw_below_drewN | apply below_drew1 | refine below_set ?_ GE144.out | refine below_set ?_ GE145.out) | exact HB.out)⟩⟩
      · rw [if_neg c18] at H
        have c18b0 : (a0_0 == 6) = false := beq_eq_false_iff_ne.mpr c18
        have c18b1 : (a0_0 != 6) = true := bne_iff_ne.mpr c18
        (first | rw [c18b0] | (simp only [i64_w, i32_w]; rw [c18b0]) | skip)
        have H' := Aside0.mk H
        clear H
        have hnb22 := NB144_145.out
        have hnc22 := NB145_144.out
        have hcz23_0 : w17.cell? ⟨gb144, 0, none⟩ = some (.int .i64 a0_0) := (blk_cell BK144.out 0).trans rfl
        have hcz23_1 : w17.cell? ⟨gb144, 1, none⟩ = some (.int .i64 a0_1) := (blk_cell BK144.out 1).trans rfl
        have hcz23_2 : w17.cell? ⟨gb144, 2, none⟩ = some (.float .f64 a0_2) := (blk_cell BK144.out 2).trans rfl
        have hcz23_3 : w17.cell? ⟨gb144, 3, none⟩ = some (.string a0_3) := (blk_cell BK144.out 3).trans rfl
        have hcz23_4 : w17.cell? ⟨gb144, 4, none⟩ = some (.slice A0_4 l0_4.length c0_4) := (blk_cell BK144.out 4).trans rfl
        have hfz23_0 := blk_frozen BK144.out 0
        have hfz23_1 := blk_frozen BK144.out 1
        have hfz23_2 := blk_frozen BK144.out 2
        have hfz23_3 := blk_frozen BK144.out 3
        have hfz23_4 := blk_frozen BK144.out 4
        go_wp2
        go_meet
        case rel => exact ⟨_, (true), (by first | rfl | (simp; done) | (simp [*]; done)), H', ⟨by first | omega | exact Nat.le_refl _⟩, ⟨by (with_reducible repeat (first | refine blk_drewN ?_ _ | refine blk_drew ?_ | refine blk_alloc ?_ _)); exact BK144.out⟩, ⟨by (with_reducible repeat (first | refine blk_drewN ?_ _ | refine blk_drew ?_ | refine blk_alloc ?_ _)); exact BK145.out⟩, ⟨by repeat (first | (with_reducible first | exact HB.out | apply below_alloc | apply pw_below_drewN | apply below_drew1 | refine below_set ?_ GE144.out | refine below_set ?_ GE145.out) | exact HB.out)⟩⟩
    case rest =>
      clear HC11
      try clear c1
      try clear c2
      try clear p2
      try clear c3
      try clear c4
      try clear c7
      try clear c14
      try clear c18
      try clear c18b0
      try clear c18b1
      try clear c19
      try clear c22
      try clear hcz15_0
      try clear hcz15_1
      try clear hcz15_2
      try clear hcz15_3
      try clear hcz15_4
      try clear hcz16_0
      try clear hcz16_1
      try clear hcz16_2
      try clear hcz16_3
      try clear hcz16_4
      try clear hcz20_0
      try clear hcz20_1
      try clear hcz20_2
      try clear hcz20_3
      try clear hcz20_4
      try clear hcz21_0
      try clear hcz21_1
      try clear hcz21_2
      try clear hcz21_3
      try clear hcz21_4
      try clear hcz23_0
      try clear hcz23_1
      try clear hcz23_2
      try clear hcz23_3
      try clear hcz23_4
      try clear hcz8_0
      try clear hcz8_1
      try clear hcz8_2
      try clear hcz8_3
      try clear hcz8_4
      try clear hcz9_0
      try clear hcz9_1
      try clear hcz9_2
      try clear hcz9_3
      try clear hcz9_4
      try clear hfz15_0
      try clear hfz15_1
      try clear hfz15_2
      try clear hfz15_3
      try clear hfz15_4
      try clear hfz16_0
      try clear hfz16_1
      try clear hfz16_2
      try clear hfz16_3
      try clear hfz16_4
      try clear hfz20_0
      try clear hfz20_1
      try clear hfz20_2
      try clear hfz20_3
      try clear hfz20_4
      try clear hfz21_0
      try clear hfz21_1
      try clear hfz21_2
      try clear hfz21_3
      try clear hfz21_4
      try clear hfz23_0
      try clear hfz23_1
      try clear hfz23_2
      try clear hfz23_3
      try clear hfz23_4
      try clear hfz8_0
      try clear hfz8_1
      try clear hfz8_2
      try clear hfz8_3
      try clear hfz8_4
      try clear hfz9_0
      try clear hfz9_1
      try clear hfz9_2
      try clear hfz9_3
      try clear hfz9_4
      obtain ⟨kq, x11_10, rfl, HA, HJ10, BK144, BK145, HB⟩ := hcut
      cases kq with
      | zero => exact absurd HA.out (by simp [value_Equal.j0])
      | succ kj10 =>
        have H := HA.out
        clear HA
        simp only [value_Equal.j0] at H
        by_cases c24 : x11_10 = true
        · subst c24
          have H1 : ((value_alike.f a0_0 a0_1 a0_2 a0_3 a1_0 a1_1 a1_2 a1_3).bind fun t147 => ((value_told.f t147).bind fun t148 => (some t148))) = some r := by rw [if_pos rfl] at H; exact H
          clear H
          have H := H1
          clear H1
          replace H := Option.bind_eq_some_iff.mp H
          obtain ⟨t147, A250, H⟩ := H
          replace H : ((value_told.f t147).bind fun t148 => (some t148)) = some r := H
          have A25 := Aside0.mk A250
          clear A250
          replace H := Option.bind_eq_some_iff.mp H
          obtain ⟨t148, A260, H⟩ := H
          replace H : (some t148) = some r := H
          have A26 := Aside0.mk A260
          clear A260
          obtain rfl := Option.some.inj H
          have hnb27 := NB144_145.out
          have hnc27 := NB145_144.out
          have hcz28_0 : wc.cell? ⟨gb144, 0, none⟩ = some (.int .i64 a0_0) := (blk_cell BK144.out 0).trans rfl
          have hcz28_1 : wc.cell? ⟨gb144, 1, none⟩ = some (.int .i64 a0_1) := (blk_cell BK144.out 1).trans rfl
          have hcz28_2 : wc.cell? ⟨gb144, 2, none⟩ = some (.float .f64 a0_2) := (blk_cell BK144.out 2).trans rfl
          have hcz28_3 : wc.cell? ⟨gb144, 3, none⟩ = some (.string a0_3) := (blk_cell BK144.out 3).trans rfl
          have hcz28_4 : wc.cell? ⟨gb144, 4, none⟩ = some (.slice A0_4 l0_4.length c0_4) := (blk_cell BK144.out 4).trans rfl
          have hfz28_0 := blk_frozen BK144.out 0
          have hfz28_1 := blk_frozen BK144.out 1
          have hfz28_2 := blk_frozen BK144.out 2
          have hfz28_3 := blk_frozen BK144.out 3
          have hfz28_4 := blk_frozen BK144.out 4
          have hcz29_0 : wc.cell? ⟨gb145, 0, none⟩ = some (.int .i64 a1_0) := (blk_cell BK145.out 0).trans rfl
          have hcz29_1 : wc.cell? ⟨gb145, 1, none⟩ = some (.int .i64 a1_1) := (blk_cell BK145.out 1).trans rfl
          have hcz29_2 : wc.cell? ⟨gb145, 2, none⟩ = some (.float .f64 a1_2) := (blk_cell BK145.out 2).trans rfl
          have hcz29_3 : wc.cell? ⟨gb145, 3, none⟩ = some (.string a1_3) := (blk_cell BK145.out 3).trans rfl
          have hcz29_4 : wc.cell? ⟨gb145, 4, none⟩ = some (.slice A1_4 l1_4.length c1_4) := (blk_cell BK145.out 4).trans rfl
          have hfz29_0 := blk_frozen BK145.out 0
          have hfz29_1 := blk_frozen BK145.out 1
          have hfz29_2 := blk_frozen BK145.out 2
          have hfz29_3 := blk_frozen BK145.out 3
          have hfz29_4 := blk_frozen BK145.out 4
          go_wp2_with (first | ((with_reducible refine gate_callee (f := 42) rfl ?_); refine goesL_ (some 28) rfl rfl Try.func42 (by kernel_rfl) rfl #[.agg #[.int .i64 a0_0, .int .i64 a0_1, .float .f64 a0_2, .string a0_3], .agg #[.int .i64 a1_0, .int .i64 a1_1, .float .f64 a1_2, .string a1_3]] rfl (by (try simp only [List.map_toArray, List.map_cons, List.map_nil]); first | done | rfl | (simp only [List.length_drop, List.length_take]; rfl)) ?_; (with_reducible refine (value_alike.calls a0_0 a0_1 a0_2 a0_3 a1_0 a1_1 a1_2 a1_3 t147 _ A25.out).mono ?_); rintro e w30 ⟨rfl, hb⟩; refine ⟨_, rfl, ?_⟩; have n0_ := Aside0.mk (blk_below (g := gb144) (o := .cells #[.int .i64 a0_0, .int .i64 a0_1, .float .f64 a0_2, .string a0_3, .slice A0_4 l0_4.length c0_4] 29 (0, 0)) (by (with_reducible repeat (first | refine blk_drewN ?_ _ | refine blk_drew ?_ | refine blk_alloc ?_ _)); exact BK144.out) hb); have n1_ := Aside0.mk (blk_below (g := gb145) (o := .cells #[.int .i64 a1_0, .int .i64 a1_1, .float .f64 a1_2, .string a1_3, .slice A1_4 l1_4.length c1_4] 29 (0, 0)) (by (with_reducible repeat (first | refine blk_drewN ?_ _ | refine blk_drew ?_ | refine blk_alloc ?_ _)); exact BK145.out) hb); have n2_ := Aside0.mk (below_step (by repeat (first | (with_reducible first | exact HB.out | apply below_alloc | apply pw_below_drewN | apply below_drew1 | refine below_set ?_ GE144.out | refine below_set ?_ GE145.out) | exact HB.out)) hb); clear BK144; clear BK145; clear HB; have BK144 := n0_; have BK145 := n1_; have HB := n2_; clear n0_ n1_ n2_; (try clear hb); (try clear hb2); (try clear hk); (try clear hi)) | ((with_reducible refine gate_callee (f := 40) rfl ?_); refine goesL_ (some 29) rfl rfl Try.func40 (by kernel_rfl) rfl #[.bool t147] rfl (by (try simp only [List.map_toArray, List.map_cons, List.map_nil]); first | done | rfl | (simp only [List.length_drop, List.length_take]; rfl)) ?_; (with_reducible refine (value_told.calls t147 t148 _ A26.out).mono ?_); rintro e w' ⟨rfl, ⟨nd, rfl⟩⟩; refine ⟨_, rfl, ?_⟩))
          go_ret
          exact ⟨by first | rfl | (simp [errW_none, errW_some] <;> rfl) | (simp [*, errW_none, errW_some] <;> rfl), by repeat (first | (with_reducible first | exact HB.out | apply below_alloc | apply pw_below_drewN | apply below_drew1 | refine below_set ?_ GE144.out | refine below_set ?_ GE145.out) | exact HB.out)⟩
        · replace c24 := Bool.eq_false_iff.mpr c24
          subst c24
          have H1 : (value_Equal.l0 kj10 ((l0_4.length : Int) == (l1_4.length : Int)) 0 a0_0 a0_1 a0_2 a0_3 l0_4 a1_0 a1_1 a1_2 a1_3 l1_4) = some r := by rw [if_neg (show ¬ (false = true) by decide)] at H; exact H
          clear H
          have H := H1
          clear H1
          have H' := Aside0.mk H
          clear H
          have hnb31 := NB144_145.out
          have hnc31 := NB145_144.out
          have hcz32_0 : wc.cell? ⟨gb144, 0, none⟩ = some (.int .i64 a0_0) := (blk_cell BK144.out 0).trans rfl
          have hcz32_1 : wc.cell? ⟨gb144, 1, none⟩ = some (.int .i64 a0_1) := (blk_cell BK144.out 1).trans rfl
          have hcz32_2 : wc.cell? ⟨gb144, 2, none⟩ = some (.float .f64 a0_2) := (blk_cell BK144.out 2).trans rfl
          have hcz32_3 : wc.cell? ⟨gb144, 3, none⟩ = some (.string a0_3) := (blk_cell BK144.out 3).trans rfl
          have hcz32_4 : wc.cell? ⟨gb144, 4, none⟩ = some (.slice A0_4 l0_4.length c0_4) := (blk_cell BK144.out 4).trans rfl
          have hfz32_0 := blk_frozen BK144.out 0
          have hfz32_1 := blk_frozen BK144.out 1
          have hfz32_2 := blk_frozen BK144.out 2
          have hfz32_3 := blk_frozen BK144.out 3
          have hfz32_4 := blk_frozen BK144.out 4
          have hcz33_0 : wc.cell? ⟨gb145, 0, none⟩ = some (.int .i64 a1_0) := (blk_cell BK145.out 0).trans rfl
          have hcz33_1 : wc.cell? ⟨gb145, 1, none⟩ = some (.int .i64 a1_1) := (blk_cell BK145.out 1).trans rfl
          have hcz33_2 : wc.cell? ⟨gb145, 2, none⟩ = some (.float .f64 a1_2) := (blk_cell BK145.out 2).trans rfl
          have hcz33_3 : wc.cell? ⟨gb145, 3, none⟩ = some (.string a1_3) := (blk_cell BK145.out 3).trans rfl
          have hcz33_4 : wc.cell? ⟨gb145, 4, none⟩ = some (.slice A1_4 l1_4.length c1_4) := (blk_cell BK145.out 4).trans rfl
          have hfz33_0 := blk_frozen BK145.out 0
          have hfz33_1 := blk_frozen BK145.out 1
          have hfz33_2 := blk_frozen BK145.out 2
          have hfz33_3 := blk_frozen BK145.out 3
          have hfz33_4 := blk_frozen BK145.out 4
          go_wp2
          go_loopg [5, 6] kj10 (fun kq v5 v6 w' => ∃ (x5_2 : Bool) (x6_2 : Int), v5 = .bool x5_2 ∧ v6 = .int .i64 x6_2 ∧ Aside0 (value_Equal.l0 kq x5_2 x6_2 a0_0 a0_1 a0_2 a0_3 l0_4 a1_0 a1_1 a1_2 a1_3 l1_4 = some r) ∧ Aside0 (kq ≤ kj10) ∧ Aside0 (w'.heap[gb144]? = some (.cells #[.int .i64 a0_0, .int .i64 a0_1, .float .f64 a0_2, .string a0_3, (.slice A0_4 l0_4.length c0_4)] 29 (0, 0))) ∧ Aside0 (w'.heap[gb145]? = some (.cells #[.int .i64 a1_0, .int .i64 a1_1, .float .f64 a1_2, .string a1_3, (.slice A1_4 l1_4.length c1_4)] 29 (0, 0))) ∧ Aside0 (Below w.heap.size w w'))
          case atStart => exact ⟨(((l0_4.length : Int) == (l1_4.length : Int))), (0), (by first | rfl | (simp; done) | (simp [*]; done)), (by first | rfl | (simp; done) | (simp [*]; done)), H', ⟨Nat.le_refl _⟩, ⟨by (with_reducible repeat (first | refine blk_drewN ?_ _ | refine blk_drew ?_ | refine blk_alloc ?_ _)); exact BK144.out⟩, ⟨by (with_reducible repeat (first | refine blk_drewN ?_ _ | refine blk_drew ?_ | refine blk_alloc ?_ _)); exact BK145.out⟩, ⟨by repeat (first | (with_reducible first | exact HB.out | apply below_alloc | apply pw_below_drewN | apply below_drew1 | refine below_set ?_ GE144.out | refine below_set ?_ GE145.out) | exact HB.out)⟩⟩
          case round =>
            clear H'
            try clear c1
            try clear c2
            try clear p2
            try clear c3
            try clear c4
            try clear c7
            try clear c14
            try clear c18
            try clear c18b0
            try clear c18b1
            try clear c19
            try clear c22
            try clear c24
            try clear c27
            try clear c31
            try clear hcz15_0
            try clear hcz15_1
            try clear hcz15_2
            try clear hcz15_3
            try clear hcz15_4
            try clear hcz16_0
            try clear hcz16_1
            try clear hcz16_2
            try clear hcz16_3
            try clear hcz16_4
            try clear hcz20_0
            try clear hcz20_1
            try clear hcz20_2
            try clear hcz20_3
            try clear hcz20_4
            try clear hcz21_0
            try clear hcz21_1
            try clear hcz21_2
            try clear hcz21_3
            try clear hcz21_4
            try clear hcz23_0
            try clear hcz23_1
            try clear hcz23_2
            try clear hcz23_3
            try clear hcz23_4
            try clear hcz28_0
            try clear hcz28_1
            try clear hcz28_2
            try clear hcz28_3
            try clear hcz28_4
            try clear hcz29_0
            try clear hcz29_1
            try clear hcz29_2
            try clear hcz29_3
            try clear hcz29_4
            try clear hcz32_0
            try clear hcz32_1
            try clear hcz32_2
            try clear hcz32_3
            try clear hcz32_4
            try clear hcz33_0
            try clear hcz33_1
            try clear hcz33_2
            try clear hcz33_3
            try clear hcz33_4
            try clear hcz8_0
            try clear hcz8_1
            try clear hcz8_2
            try clear hcz8_3
            try clear hcz8_4
            try clear hcz9_0
            try clear hcz9_1
            try clear hcz9_2
            try clear hcz9_3
            try clear hcz9_4
            try clear hfz15_0
            try clear hfz15_1
            try clear hfz15_2
            try clear hfz15_3
            try clear hfz15_4
            try clear hfz16_0
            try clear hfz16_1
            try clear hfz16_2
            try clear hfz16_3
            try clear hfz16_4
            try clear hfz20_0
            try clear hfz20_1
            try clear hfz20_2
            try clear hfz20_3
            try clear hfz20_4
            try clear hfz21_0
            try clear hfz21_1
            try clear hfz21_2
            try clear hfz21_3
            try clear hfz21_4
            try clear hfz23_0
            try clear hfz23_1
            try clear hfz23_2
            try clear hfz23_3
            try clear hfz23_4
            try clear hfz28_0
            try clear hfz28_1
            try clear hfz28_2
            try clear hfz28_3
            try clear hfz28_4
            try clear hfz29_0
            try clear hfz29_1
            try clear hfz29_2
            try clear hfz29_3
            try clear hfz29_4
            try clear hfz32_0
            try clear hfz32_1
            try clear hfz32_2
            try clear hfz32_3
            try clear hfz32_4
            try clear hfz33_0
            try clear hfz33_1
            try clear hfz33_2
            try clear hfz33_3
            try clear hfz33_4
            try clear hfz8_0
            try clear hfz8_1
            try clear hfz8_2
            try clear hfz8_3
            try clear hfz8_4
            try clear hfz9_0
            try clear hfz9_1
            try clear hfz9_2
            try clear hfz9_3
            try clear hfz9_4
            try clear p2
            obtain ⟨x5_2, x6_2, rfl, rfl, HA, HK2, BK144, BK145, HB⟩ := hrel
            cases gk with
            | zero => exact absurd HA.out (by simp [value_Equal.l0])
            | succ k2 =>
              have H := HA.out
              clear HA
              simp only [value_Equal.l0] at H
              by_cases c34 : x5_2 = true
              · subst c34
                have H1 : (if x6_2 < (l0_4.length : Int) then (if 0 ≤ x6_2 then (if x6_2 < (l1_4.length : Int) then ((value_alike.f ((rd_T26 l0_4 x6_2).f0) ((rd_T26 l0_4 x6_2).f1) ((rd_T26 l0_4 x6_2).f2) ((rd_T26 l0_4 x6_2).f3) ((rd_T26 l1_4 x6_2).f0) ((rd_T26 l1_4 x6_2).f1) ((rd_T26 l1_4 x6_2).f2) ((rd_T26 l1_4 x6_2).f3)).bind fun t151 => (value_Equal.l0 k2 t151 (wrap64 (x6_2 + 1)) a0_0 a0_1 a0_2 a0_3 l0_4 a1_0 a1_1 a1_2 a1_3 l1_4)) else (none)) else (none)) else ((value_told.f true).bind fun t152 => (some t152))) = some r := by rw [if_pos rfl] at H; exact H
                clear H
                have H := H1
                clear H1
                by_cases c35 : x6_2 < (l0_4.length : Int)
                · rw [if_pos c35] at H
                  have c35b0 : decide (x6_2 < (l0_4.length : Int)) = true := decide_eq_true c35
                  clear c35
                  by_cases c36 : 0 ≤ x6_2
                  · rw [if_pos c36] at H
                    have c36b0 : decide (0 ≤ x6_2) = true := decide_eq_true c36
                    clear c36
                    by_cases c37 : x6_2 < (l1_4.length : Int)
                    · rw [if_pos c37] at H
                      have c37b0 : decide (x6_2 < (l1_4.length : Int)) = true := decide_eq_true c37
                      clear c37
                      replace H := Option.bind_eq_some_iff.mp H
                      obtain ⟨t151, A380, H⟩ := H
                      replace H : (value_Equal.l0 k2 t151 (wrap64 (x6_2 + 1)) a0_0 a0_1 a0_2 a0_3 l0_4 a1_0 a1_1 a1_2 a1_3 l1_4) = some r := H
                      have A38 := Aside0.mk A380
                      clear A380
                      have H' := Aside0.mk H
                      clear H
                      have hnb39 := NB144_145.out
                      have hnc39 := NB145_144.out
                      have hcz40_0 : wr.cell? ⟨gb144, 0, none⟩ = some (.int .i64 a0_0) := (blk_cell BK144.out 0).trans rfl
                      have hcz40_1 : wr.cell? ⟨gb144, 1, none⟩ = some (.int .i64 a0_1) := (blk_cell BK144.out 1).trans rfl
                      have hcz40_2 : wr.cell? ⟨gb144, 2, none⟩ = some (.float .f64 a0_2) := (blk_cell BK144.out 2).trans rfl
                      have hcz40_3 : wr.cell? ⟨gb144, 3, none⟩ = some (.string a0_3) := (blk_cell BK144.out 3).trans rfl
                      have hcz40_4 : wr.cell? ⟨gb144, 4, none⟩ = some (.slice A0_4 l0_4.length c0_4) := (blk_cell BK144.out 4).trans rfl
                      have hfz40_0 := blk_frozen BK144.out 0
                      have hfz40_1 := blk_frozen BK144.out 1
                      have hfz40_2 := blk_frozen BK144.out 2
                      have hfz40_3 := blk_frozen BK144.out 3
                      have hfz40_4 := blk_frozen BK144.out 4
                      try go_wp2
                      have n0_ := Aside0.mk (blk_drew BK144.out)
                      have n1_ := Aside0.mk (blk_drew BK145.out)
                      have n2_ := Aside0.mk (below_drew1 HB.out)
                      clear BK144
                      clear BK145
                      clear HB
                      have BK144 := n0_
                      have BK145 := n1_
                      have HB := n2_
                      clear n0_ n1_ n2_
                      have p149 : 0 ≤ (x6_2 : Int) := of_decide_eq_true (by first | (with_reducible assumption) | assumption)
                      have q149 : x6_2 < (l0_4.length : Int) := of_decide_eq_true (by first | (with_reducible assumption) | assumption)
                      obtain ⟨ad149, e149, hx149_0, hx149_1, hx149_2, hx149_3⟩ := at_T26 HR0_4.out x6_2 p149 q149
                      have hw149_3 := hx149_3
                      have hw149_2 := hx149_2
                      have hw149_1 := hx149_1
                      have hw149_0 := hx149_0
                      cases e149
                      replace hx149_0 := (HB.out.cell (World.block_lt_of_cell? w _ hx149_0)).trans hx149_0
                      replace hx149_1 := (HB.out.cell (World.block_lt_of_cell? w _ hx149_1)).trans hx149_1
                      replace hx149_2 := (HB.out.cell (World.block_lt_of_cell? w _ hx149_2)).trans hx149_2
                      replace hx149_3 := (HB.out.cell (World.block_lt_of_cell? w _ hx149_3)).trans hx149_3
                      replace p149 := eq_true p149
                      replace q149 := eq_true q149
                      have p150 : 0 ≤ (x6_2 : Int) := of_decide_eq_true (by first | (with_reducible assumption) | assumption)
                      have q150 : x6_2 < (l1_4.length : Int) := of_decide_eq_true (by first | (with_reducible assumption) | assumption)
                      obtain ⟨ad150, e150, hx150_0, hx150_1, hx150_2, hx150_3⟩ := at_T26 HR1_4.out x6_2 p150 q150
                      have hw150_3 := hx150_3
                      have hw150_2 := hx150_2
                      have hw150_1 := hx150_1
                      have hw150_0 := hx150_0
                      cases e150
                      replace hx150_0 := (HB.out.cell (World.block_lt_of_cell? w _ hx150_0)).trans hx150_0
                      replace hx150_1 := (HB.out.cell (World.block_lt_of_cell? w _ hx150_1)).trans hx150_1
                      replace hx150_2 := (HB.out.cell (World.block_lt_of_cell? w _ hx150_2)).trans hx150_2
                      replace hx150_3 := (HB.out.cell (World.block_lt_of_cell? w _ hx150_3)).trans hx150_3
                      replace p150 := eq_true p150
                      replace q150 := eq_true q150
                      refine start_ (n := 14) (S := fun w' => w'.cell? ⟨gb144, 0, none⟩ = some (.int .i64 a0_0) ∧ w'.cell? ⟨gb144, 1, none⟩ = some (.int .i64 a0_1) ∧ w'.cell? ⟨gb144, 2, none⟩ = some (.float .f64 a0_2) ∧ w'.cell? ⟨gb144, 3, none⟩ = some (.string a0_3) ∧ w'.cell? ⟨gb144, 4, none⟩ = some (.slice (some ad149) l0_4.length c0_4) ∧ w'.cell? ⟨gb145, 0, none⟩ = some (.int .i64 a1_0) ∧ w'.cell? ⟨gb145, 1, none⟩ = some (.int .i64 a1_1) ∧ w'.cell? ⟨gb145, 2, none⟩ = some (.float .f64 a1_2) ∧ w'.cell? ⟨gb145, 3, none⟩ = some (.string a1_3) ∧ w'.cell? ⟨gb145, 4, none⟩ = some (.slice (some ad150) l1_4.length c1_4) ∧ w'.cell? (ad149.add ((x6_2).toNat * 4)) = some (.int .i64 ((rd_T26 l0_4 x6_2).f0)) ∧ w'.cell? ⟨(ad149.add ((x6_2).toNat * 4)).block, (ad149.add ((x6_2).toNat * 4)).off + 1, none⟩ = some (.int .i64 ((rd_T26 l0_4 x6_2).f1)) ∧ w'.cell? ⟨(ad149.add ((x6_2).toNat * 4)).block, (ad149.add ((x6_2).toNat * 4)).off + 2, none⟩ = some (.float .f64 ((rd_T26 l0_4 x6_2).f2)) ∧ w'.cell? ⟨(ad149.add ((x6_2).toNat * 4)).block, (ad149.add ((x6_2).toNat * 4)).off + 3, none⟩ = some (.string ((rd_T26 l0_4 x6_2).f3)) ∧ w'.cell? (ad150.add ((x6_2).toNat * 4)) = some (.int .i64 ((rd_T26 l1_4 x6_2).f0)) ∧ w'.cell? ⟨(ad150.add ((x6_2).toNat * 4)).block, (ad150.add ((x6_2).toNat * 4)).off + 1, none⟩ = some (.int .i64 ((rd_T26 l1_4 x6_2).f1)) ∧ w'.cell? ⟨(ad150.add ((x6_2).toNat * 4)).block, (ad150.add ((x6_2).toNat * 4)).off + 2, none⟩ = some (.float .f64 ((rd_T26 l1_4 x6_2).f2)) ∧ w'.cell? ⟨(ad150.add ((x6_2).toNat * 4)).block, (ad150.add ((x6_2).toNat * 4)).off + 3, none⟩ = some (.string ((rd_T26 l1_4 x6_2).f3))) (ds := []) #[false, false, false, false, false, false, false, false, false, false, false, false, false, false] (by kernel_rfl) rfl rfl ⟨(blk_cell BK144.out 0).trans rfl, (blk_cell BK144.out 1).trans rfl, (blk_cell BK144.out 2).trans rfl, (blk_cell BK144.out 3).trans rfl, (blk_cell BK144.out 4).trans rfl, (blk_cell BK145.out 0).trans rfl, (blk_cell BK145.out 1).trans rfl, (blk_cell BK145.out 2).trans rfl, (blk_cell BK145.out 3).trans rfl, (blk_cell BK145.out 4).trans rfl, ((HB.out.cell (World.block_lt_of_cell? w _ hw149_0)).trans hw149_0), ((HB.out.cell (World.block_lt_of_cell? w _ hw149_1)).trans hw149_1), ((HB.out.cell (World.block_lt_of_cell? w _ hw149_2)).trans hw149_2), ((HB.out.cell (World.block_lt_of_cell? w _ hw149_3)).trans hw149_3), ((HB.out.cell (World.block_lt_of_cell? w _ hw150_0)).trans hw150_0), ((HB.out.cell (World.block_lt_of_cell? w _ hw150_1)).trans hw150_1), ((HB.out.cell (World.block_lt_of_cell? w _ hw150_2)).trans hw150_2), ((HB.out.cell (World.block_lt_of_cell? w _ hw150_3)).trans hw150_3)⟩ (fun hHeld => ?_); refine with_tabW value_Equal.tab9 value_Equal.bits9 (fun HT_ HW_ => ?_)
                      generalize wr.drew = w41 at BK144 BK145 HB hx149_0 hx149_1 hx149_2 hx149_3 hx150_0 hx150_1 hx150_2 hx150_3 hHeld ⊢
                      refine pure_ (i := 0) (N := some 47) (v := ?_) (a' := ?_) #[true, false, false, false, false, false, false, false, false, false, false, false, false, false] rfl rfl (any_of HT_.out (by kernel_rfl)) (fun _ _ _ h => h) (Or.inl ⟨by rfl, ?_⟩) ?_ ?_
                      rotate_left
                      · intro w'
                        go_simp
                        with_reducible rfl
                      rotate_left
                      · simp only [Act.put, List.setIfInBounds_toArray, List.set_cons_zero, List.set_cons_succ, i64_w, i32_w]
                        rfl
                      refine pure_ (i := 2) (N := some 49) (v := ?_) (a' := ?_) #[true, false, true, false, false, false, false, false, false, false, false, false, false, false] rfl rfl (any_of HT_.out (by kernel_rfl)) (fun _ _ _ h => h) (Or.inl ⟨by rfl, ?_⟩) ?_ ?_
                      rotate_left
                      · intro w'
                        go_simp
                        with_reducible rfl
                      rotate_left
                      · simp only [Act.put, List.setIfInBounds_toArray, List.set_cons_zero, List.set_cons_succ, i64_w, i32_w]
                        rfl
                      refine pure_ (i := 6) (N := some 53) (v := ?_) (a' := ?_) #[true, false, true, false, false, false, true, false, false, false, false, false, false, false] rfl rfl (any_of HT_.out (by kernel_rfl)) (fun _ _ _ h => h) (Or.inl ⟨by rfl, ?_⟩) ?_ ?_
                      rotate_left
                      · intro w'
                        go_simp
                        with_reducible rfl
                      rotate_left
                      · simp only [Act.put, List.setIfInBounds_toArray, List.set_cons_zero, List.set_cons_succ, i64_w, i32_w]
                        rfl
                      refine pure_ (i := 8) (N := some 55) (v := ?_) (a' := ?_) #[true, false, true, false, false, false, true, false, true, false, false, false, false, false] rfl rfl (any_of HT_.out (by kernel_rfl)) (fun _ _ _ h => h) (Or.inl ⟨by rfl, ?_⟩) ?_ ?_
                      rotate_left
                      · intro w'
                        go_simp
                        with_reducible rfl
                      rotate_left
                      · simp only [Act.put, List.setIfInBounds_toArray, List.set_cons_zero, List.set_cons_succ, i64_w, i32_w]
                        rfl
                      refine take_ (i := 1) (N := some 48) (v := ?_) (a' := ?_) #[true, true, true, false, false, false, true, false, true, false, false, false, false, false] rfl rfl (take_ofW HT_.out HW_.out (by kernel_rfl)) (fun _ _ _ h => h) (Or.inl ⟨by rfl, ?_⟩) hHeld ?_ ?_
                      rotate_left
                      · rintro w' ⟨s0, s1, s2, s3, s4, s5, s6, s7, s8, s9, s10, s11, s12, s13, s14, s15, s16, s17⟩
                        go_simp
                        with_reducible rfl
                      rotate_left
                      · simp only [Act.put, List.setIfInBounds_toArray, List.set_cons_zero, List.set_cons_succ, i64_w, i32_w]
                        rfl
                      refine pure_ (i := 3) (N := some 50) (v := ?_) (a' := ?_) #[true, true, true, true, false, false, true, false, true, false, false, false, false, false] rfl rfl (any_of HT_.out (by kernel_rfl)) (fun _ _ _ h => h) (Or.inl ⟨by rfl, ?_⟩) ?_ ?_
                      rotate_left
                      · intro w'
                        go_simp
                        with_reducible rfl
                      rotate_left
                      · simp only [Act.put, List.setIfInBounds_toArray, List.set_cons_zero, List.set_cons_succ, i64_w, i32_w]
                        rfl
                      refine take_ (i := 4) (N := some 51) (v := ?_) (a' := ?_) #[true, true, true, true, true, false, true, false, true, false, false, false, false, false] rfl rfl (take_ofW HT_.out HW_.out (by kernel_rfl)) (fun _ _ _ h => h) (Or.inl ⟨by rfl, ?_⟩) hHeld ?_ ?_
                      rotate_left
                      · rintro w' ⟨s0, s1, s2, s3, s4, s5, s6, s7, s8, s9, s10, s11, s12, s13, s14, s15, s16, s17⟩
                        go_simp
                        with_reducible rfl
                      rotate_left
                      · simp only [Act.put, List.setIfInBounds_toArray, List.set_cons_zero, List.set_cons_succ, i64_w, i32_w]
                        rfl
                      refine pure_ (i := 5) (N := some 52) (v := ?_) (a' := ?_) #[true, true, true, true, true, true, true, false, true, false, false, false, false, false] rfl rfl (any_of HT_.out (by kernel_rfl)) (fun _ _ _ h => h) (Or.inl ⟨by rfl, ?_⟩) ?_ ?_
                      rotate_left
                      · intro w'
                        go_simp
                        with_reducible rfl
                      rotate_left
                      · simp only [Act.put, List.setIfInBounds_toArray, List.set_cons_zero, List.set_cons_succ, i64_w, i32_w]
                        rfl
                      refine take_ (i := 7) (N := some 54) (v := ?_) (a' := ?_) #[true, true, true, true, true, true, true, true, true, false, false, false, false, false] rfl rfl (take_ofW HT_.out HW_.out (by kernel_rfl)) (fun _ _ _ h => h) (Or.inl ⟨by rfl, ?_⟩) hHeld ?_ ?_
                      rotate_left
                      · rintro w' ⟨s0, s1, s2, s3, s4, s5, s6, s7, s8, s9, s10, s11, s12, s13, s14, s15, s16, s17⟩
                        go_simp
                        with_reducible rfl
                      rotate_left
                      · simp only [Act.put, List.setIfInBounds_toArray, List.set_cons_zero, List.set_cons_succ, i64_w, i32_w]
                        rfl
                      refine pure_ (i := 9) (N := some 56) (v := ?_) (a' := ?_) #[true, true, true, true, true, true, true, true, true, true, false, false, false, false] rfl rfl (any_of HT_.out (by kernel_rfl)) (fun _ _ _ h => h) (Or.inl ⟨by rfl, ?_⟩) ?_ ?_
                      rotate_left
                      · intro w'
                        go_simp
                        with_reducible rfl
                      rotate_left
                      · simp only [Act.put, List.setIfInBounds_toArray, List.set_cons_zero, List.set_cons_succ, i64_w, i32_w]
                        rfl
                      refine take_ (i := 10) (N := some 57) (v := ?_) (a' := ?_) #[true, true, true, true, true, true, true, true, true, true, true, false, false, false] rfl rfl (take_ofW HT_.out HW_.out (by kernel_rfl)) (fun _ _ _ h => h) (Or.inl ⟨by rfl, ?_⟩) hHeld ?_ ?_
                      rotate_left
                      · rintro w' ⟨s0, s1, s2, s3, s4, s5, s6, s7, s8, s9, s10, s11, s12, s13, s14, s15, s16, s17⟩
                        go_simp
                        with_reducible rfl
                      rotate_left
                      · simp only [Act.put, List.setIfInBounds_toArray, List.set_cons_zero, List.set_cons_succ, i64_w, i32_w]
                        rfl
                      refine pure_ (i := 11) (N := some 58) (v := ?_) (a' := ?_) #[true, true, true, true, true, true, true, true, true, true, true, true, false, false] rfl rfl (any_of HT_.out (by kernel_rfl)) (fun _ _ _ h => h) (Or.inl ⟨by rfl, ?_⟩) ?_ ?_
                      rotate_left
                      · intro w'
                        go_simp
                        with_reducible rfl
                      rotate_left
                      · simp only [Act.put, List.setIfInBounds_toArray, List.set_cons_zero, List.set_cons_succ, i64_w, i32_w]
                        rfl
                      refine one_ (i := 12) (N := some 59) #[true, true, true, true, true, true, true, true, true, true, true, true, true, false] rfl rfl (one_of HT_.out (by kernel_rfl)) (by decide) (fun K hK => ?_)
                      refine goes_ Try.func42 (by kernel_rfl) rfl #[.agg #[.int .i64 ((rd_T26 l0_4 x6_2).f0), .int .i64 ((rd_T26 l0_4 x6_2).f1), .float .f64 ((rd_T26 l0_4 x6_2).f2), .string ((rd_T26 l0_4 x6_2).f3)], .agg #[.int .i64 ((rd_T26 l1_4 x6_2).f0), .int .i64 ((rd_T26 l1_4 x6_2).f1), .float .f64 ((rd_T26 l1_4 x6_2).f2), .string ((rd_T26 l1_4 x6_2).f3)]] (by rfl) rfl rfl (by (try simp only [List.map_toArray, List.map_cons, List.map_nil]); first | done | rfl | (simp only [List.length_drop, List.length_take]; rfl)) ?_
                      with_reducible refine (value_alike.calls ((rd_T26 l0_4 x6_2).f0) ((rd_T26 l0_4 x6_2).f1) ((rd_T26 l0_4 x6_2).f2) ((rd_T26 l0_4 x6_2).f3) ((rd_T26 l1_4 x6_2).f0) ((rd_T26 l1_4 x6_2).f1) ((rd_T26 l1_4 x6_2).f2) ((rd_T26 l1_4 x6_2).f3) t151 _ A38.out).mono ?_
                      rintro e w42 ⟨rfl, hb⟩
                      refine ⟨_, rfl, ?_⟩
                      have n0_ := Aside0.mk (blk_below (g := gb144) (o := .cells #[.int .i64 a0_0, .int .i64 a0_1, .float .f64 a0_2, .string a0_3, .slice (some ad149) l0_4.length c0_4] 29 (0, 0)) (by (with_reducible repeat (first | refine blk_drewN ?_ _ | refine blk_drew ?_ | refine blk_alloc ?_ _)); exact BK144.out) hb)
                      have n1_ := Aside0.mk (blk_below (g := gb145) (o := .cells #[.int .i64 a1_0, .int .i64 a1_1, .float .f64 a1_2, .string a1_3, .slice (some ad150) l1_4.length c1_4] 29 (0, 0)) (by (with_reducible repeat (first | refine blk_drewN ?_ _ | refine blk_drew ?_ | refine blk_alloc ?_ _)); exact BK145.out) hb)
                      have n2_ := Aside0.mk (below_step (by repeat (first | (with_reducible first | exact HB.out | apply below_alloc | apply pw_below_drewN | apply below_drew1 | refine below_set ?_ GE144.out | refine below_set ?_ GE145.out) | exact HB.out)) hb)
                      clear BK144
                      clear BK145
                      clear HB
                      have BK144 := n0_
                      have BK145 := n1_
                      have HB := n2_
                      clear n0_ n1_ n2_
                      (try clear hb)
                      (try clear hb2)
                      (try clear hk)
                      (try clear hi)
                      refine hK.out _ _ ⟨(blk_cell BK144.out 0).trans rfl, (blk_cell BK144.out 1).trans rfl, (blk_cell BK144.out 2).trans rfl, (blk_cell BK144.out 3).trans rfl, (blk_cell BK144.out 4).trans rfl, (blk_cell BK145.out 0).trans rfl, (blk_cell BK145.out 1).trans rfl, (blk_cell BK145.out 2).trans rfl, (blk_cell BK145.out 3).trans rfl, (blk_cell BK145.out 4).trans rfl, ((HB.out.cell (World.block_lt_of_cell? w _ hw149_0)).trans hw149_0), ((HB.out.cell (World.block_lt_of_cell? w _ hw149_1)).trans hw149_1), ((HB.out.cell (World.block_lt_of_cell? w _ hw149_2)).trans hw149_2), ((HB.out.cell (World.block_lt_of_cell? w _ hw149_3)).trans hw149_3), ((HB.out.cell (World.block_lt_of_cell? w _ hw150_0)).trans hw150_0), ((HB.out.cell (World.block_lt_of_cell? w _ hw150_1)).trans hw150_1), ((HB.out.cell (World.block_lt_of_cell? w _ hw150_2)).trans hw150_2), ((HB.out.cell (World.block_lt_of_cell? w _ hw150_3)).trans hw150_3)⟩ (fun hHeld => ?_)
                      clear hK K
                      refine norm_ (a' := ?_) ?_ ?_
                      rotate_left
                      · show Act.put _ (some 59) _ = _
                        simp only [Act.put, List.setIfInBounds_toArray, List.set_cons_zero, List.set_cons_succ, i64_w, i32_w]
                        rfl
                      refine pure_ (i := 13) (N := some 5) (v := ?_) (a' := ?_) #[true, true, true, true, true, true, true, true, true, true, true, true, true, true] rfl rfl (any_of HT_.out (by kernel_rfl)) (fun _ _ _ h => h) (Or.inl ⟨by rfl, ?_⟩) ?_ ?_
                      rotate_left
                      · intro w'
                        go_simp
                        with_reducible rfl
                      rotate_left
                      · simp only [Act.put, List.setIfInBounds_toArray, List.set_cons_zero, List.set_cons_succ, i64_w, i32_w]
                        rfl
                      refine done_ (done_of HT_.out (by kernel_rfl)) ?_
                      try go_wp2
                      go_roundg k2
                      case measure => have := HJ10.out; have := HK2.out; omega
                      case rel => exact ⟨(t151), (wrap64 (x6_2 + 1)), (by first | rfl | (simp; done) | (simp [*]; done)), (by first | rfl | (simp; done) | (simp [*]; done)), H', ⟨by have := HJ10.out; have := HK2.out; omega⟩, ⟨by (with_reducible repeat (first | refine blk_drewN ?_ _ | refine blk_drew ?_ | refine blk_alloc ?_ _)); exact BK144.out⟩, ⟨by (with_reducible repeat (first | refine blk_drewN ?_ _ | refine blk_drew ?_ | refine blk_alloc ?_ _)); exact BK145.out⟩, ⟨by repeat (first | (with_reducible first | exact HB.out | apply below_alloc | apply pw_below_drewN | apply below_drew1 | refine below_set ?_ GE144.out | refine below_set ?_ GE145.out) | exact HB.out)⟩⟩
                    · rw [if_neg c37] at H
                      exact absurd H (by simp)
                  · rw [if_neg c36] at H
                    exact absurd H (by simp)
                · rw [if_neg c35] at H
                  have c35b0 : decide (x6_2 < (l0_4.length : Int)) = false := decide_eq_false c35
                  clear c35
                  replace H := Option.bind_eq_some_iff.mp H
                  obtain ⟨t152, A430, H⟩ := H
                  replace H : (some t152) = some r := H
                  have A43 := Aside0.mk A430
                  clear A430
                  obtain rfl := Option.some.inj H
                  have hnb44 := NB144_145.out
                  have hnc44 := NB145_144.out
                  have hcz45_0 : wr.cell? ⟨gb144, 0, none⟩ = some (.int .i64 a0_0) := (blk_cell BK144.out 0).trans rfl
                  have hcz45_1 : wr.cell? ⟨gb144, 1, none⟩ = some (.int .i64 a0_1) := (blk_cell BK144.out 1).trans rfl
                  have hcz45_2 : wr.cell? ⟨gb144, 2, none⟩ = some (.float .f64 a0_2) := (blk_cell BK144.out 2).trans rfl
                  have hcz45_3 : wr.cell? ⟨gb144, 3, none⟩ = some (.string a0_3) := (blk_cell BK144.out 3).trans rfl
                  have hcz45_4 : wr.cell? ⟨gb144, 4, none⟩ = some (.slice A0_4 l0_4.length c0_4) := (blk_cell BK144.out 4).trans rfl
                  have hfz45_0 := blk_frozen BK144.out 0
                  have hfz45_1 := blk_frozen BK144.out 1
                  have hfz45_2 := blk_frozen BK144.out 2
                  have hfz45_3 := blk_frozen BK144.out 3
                  have hfz45_4 := blk_frozen BK144.out 4
                  go_wp2_with (first | ((with_reducible refine gate_callee (f := 40) rfl ?_); refine goesL_ (some 61) rfl rfl Try.func40 (by kernel_rfl) rfl #[.bool true] rfl (by (try simp only [List.map_toArray, List.map_cons, List.map_nil]); first | done | rfl | (simp only [List.length_drop, List.length_take]; rfl)) ?_; (with_reducible refine (value_told.calls true t152 _ A43.out).mono ?_); rintro e w' ⟨rfl, ⟨nd, rfl⟩⟩; refine ⟨_, rfl, ?_⟩))
                  go_ret
                  exact ⟨by first | rfl | (simp [errW_none, errW_some] <;> rfl) | (simp [*, errW_none, errW_some] <;> rfl), by repeat (first | (with_reducible first | exact HB.out | apply below_alloc | apply pw_below_drewN | apply below_drew1 | refine below_set ?_ GE144.out | refine below_set ?_ GE145.out) | exact HB.out)⟩
              · replace c34 := Bool.eq_false_iff.mpr c34
                subst c34
                have H1 : ((value_told.f false).bind fun t153 => (some t153)) = some r := by rw [if_neg (show ¬ (false = true) by decide)] at H; exact H
                clear H
                have H := H1
                clear H1
                replace H := Option.bind_eq_some_iff.mp H
                obtain ⟨t153, A460, H⟩ := H
                replace H : (some t153) = some r := H
                have A46 := Aside0.mk A460
                clear A460
                obtain rfl := Option.some.inj H
                go_wp2_with (first | ((with_reducible refine gate_callee (f := 40) rfl ?_); refine goesL_ (some 61) rfl rfl Try.func40 (by kernel_rfl) rfl #[.bool false] rfl (by (try simp only [List.map_toArray, List.map_cons, List.map_nil]); first | done | rfl | (simp only [List.length_drop, List.length_take]; rfl)) ?_; (with_reducible refine (value_told.calls false t153 _ A46.out).mono ?_); rintro e w' ⟨rfl, ⟨nd, rfl⟩⟩; refine ⟨_, rfl, ?_⟩))
                go_ret
                exact ⟨by first | rfl | (simp [errW_none, errW_some] <;> rfl) | (simp [*, errW_none, errW_some] <;> rfl), by repeat (first | (with_reducible first | exact HB.out | apply below_alloc | apply pw_below_drewN | apply below_drew1 | refine below_set ?_ GE144.out | refine below_set ?_ GE145.out) | exact HB.out)⟩
end Go.Proofs.Ytnfapjkffofcaaa.PY
namespace Go.Proofs.Ytnfapjkffofcaaa.PY
open Go.RowKit Go.Proofs.YtnfapjkffofcaaaW.PrintWords Go.Proofs.YtnfapjkffofcaaaW.PrintLast Go.Proofs.Ytnfapjkffofcaaa.FW Go.Proofs.Ytnfapjkffofcaaa.PK
set_option linter.unusedVariables false
set_option linter.unusedSimpArgs false
def value_OfText.f (a0 : ByteArray) : Option (Int × Int × Nat × ByteArray × (List (S26))) := if (a0.size : Int) > 256 then (some (0, 0, 0, (⟨#[]⟩ : ByteArray), ([] : List (S26)))) else (some (4, 0, 0, a0, ([] : List (S26))))
set_option maxHeartbeats 8000000 in
set_option maxRecDepth 100000 in
theorem value_OfText.calls (a0 : ByteArray) (r1 : Int) (r2 : Int) (r3 : Nat) (r4 : ByteArray) (r5 : List (S26)) (w : World) (h : value_OfText.f a0 = some (r1, r2, r3, r4, r5)) :
    Calls Try.prog 22 #[.string a0] w fun e w' => ∃ v4_ : Value, e = .returned (.agg #[.int .i64 r1, .int .i64 r2, .float .f64 r3, .string r4, v4_]) ∧ Kd.R k26 26 w' w.heap.size (fun _ => True) v4_ r5 ∧ Below w.heap.size w w' := by
  have hu29 := Try.underlying29
  have hu26 := Try.underlying26
  have HB := Aside0.mk (Below.refl w.heap.size w)
  have H : (if (a0.size : Int) > 256 then (some (0, 0, 0, (⟨#[]⟩ : ByteArray), ([] : List (S26)))) else (some (4, 0, 0, a0, ([] : List (S26))))) = some (r1, r2, r3, r4, r5) := h
  clear h
  by_cases c2 : (a0.size : Int) > 256
  · rw [if_pos c2] at H
    have c2b0 : decide (256 < (a0.size : Int)) = true := decide_eq_true c2
    have c2b1 : decide (256 < a0.size) = true := decide_eq_true (by omega)
    clear c2
    simp only [Option.some.injEq, Prod.mk.injEq] at H
    obtain ⟨rfl, rfl, rfl, rfl, rfl⟩ := H
    go_enter Try.func22, Try.ntmps22
    go_wp2_with (first | ((with_reducible refine gate_dst (N := 2) rfl ?_); refine box_event ?hg (N := 2) ?hd (cs := #[.int .i64 0, .int .i64 0, .float .f64 0, .string (⟨#[]⟩ : ByteArray), .slice none 0 0]) (t := 29) ?hr ?_; (case hd => rfl); (case hg => rfl); (case hr => first | (go_simp; done) | (go_simp; rfl)); intro gb154 hg w3 hbox hb; have n0_ := Aside0.mk (below_step (by repeat (first | (with_reducible first | exact HB.out | apply below_alloc | apply pw_below_drewN | apply below_drew1) | exact HB.out)) hb); have n1_ := Aside0.mk (hbox); have n2_ := Aside0.mk ((by rw [hg]; exact (below_size (by repeat (first | (with_reducible first | exact HB.out | apply below_alloc | apply pw_below_drewN | apply below_drew1) | exact HB.out))) : w.heap.size ≤ gb154)); have n3_ := Aside0.mk ((by rw [hg]; exact (below_size (by repeat (first | (with_reducible first | exact HB.out | apply below_alloc | apply pw_below_drewN | apply below_drew1) | exact HB.out))) : w.heap.size ≤ gb154)); clear HB; have HB := n0_; have BK154 := n1_; have GW154 := n2_; have GE154 := n3_; clear n0_ n1_ n2_ n3_; clear hb hbox hg; have hcz4_0 : w3.cell? ⟨gb154, 0, none⟩ = some (.int .i64 0) := (blk_cell BK154.out 0).trans rfl; have hcz4_1 : w3.cell? ⟨gb154, 1, none⟩ = some (.int .i64 0) := (blk_cell BK154.out 1).trans rfl; have hcz4_2 : w3.cell? ⟨gb154, 2, none⟩ = some (.float .f64 0) := (blk_cell BK154.out 2).trans rfl; have hcz4_3 : w3.cell? ⟨gb154, 3, none⟩ = some (.string (⟨#[]⟩ : ByteArray)) := (blk_cell BK154.out 3).trans rfl; have hcz4_4 : w3.cell? ⟨gb154, 4, none⟩ = some (.slice none 0 0) := (blk_cell BK154.out 4).trans rfl; have hfz4_0 := blk_frozen BK154.out 0; have hfz4_1 := blk_frozen BK154.out 1; have hfz4_2 := blk_frozen BK154.out 2; have hfz4_3 := blk_frozen BK154.out 3; have hfz4_4 := blk_frozen BK154.out 4))
    refine bodyPost_ret (results_cell_row rfl _ _ gb154 29 #[.int .i64 0, .int .i64 0, .float .f64 0, .string (⟨#[]⟩ : ByteArray), .slice none 0 0] (0, 0) _ rfl (by (with_reducible repeat (first | refine blk_drewN ?_ _ | refine blk_drew ?_ | refine blk_alloc ?_ _)); refine blk_put (cs := #[.int .i64 0, .int .i64 0, .float .f64 0, .string (⟨#[]⟩ : ByteArray), .slice none 0 0]) ?_ 4 _ rfl; (with_reducible repeat (first | refine blk_drewN ?_ _ | refine blk_drew ?_ | refine blk_alloc ?_ _)); refine blk_put (cs := #[.int .i64 0, .int .i64 0, .float .f64 0, .string (⟨#[]⟩ : ByteArray), .slice none 0 0]) ?_ 3 _ rfl; (with_reducible repeat (first | refine blk_drewN ?_ _ | refine blk_drew ?_ | refine blk_alloc ?_ _)); refine blk_put (cs := #[.int .i64 0, .int .i64 0, .float .f64 0, .string (⟨#[]⟩ : ByteArray), .slice none 0 0]) ?_ 2 _ rfl; (with_reducible repeat (first | refine blk_drewN ?_ _ | refine blk_drew ?_ | refine blk_alloc ?_ _)); refine blk_put (cs := #[.int .i64 0, .int .i64 0, .float .f64 0, .string (⟨#[]⟩ : ByteArray), .slice none 0 0]) ?_ 1 _ rfl; (with_reducible repeat (first | refine blk_drewN ?_ _ | refine blk_drew ?_ | refine blk_alloc ?_ _)); refine blk_put (cs := #[.int .i64 0, .int .i64 0, .float .f64 0, .string (⟨#[]⟩ : ByteArray), .slice none 0 0]) ?_ 0 _ rfl; (with_reducible repeat (first | refine blk_drewN ?_ _ | refine blk_drew ?_ | refine blk_alloc ?_ _)); exact BK154.out) Try.underlying29 rfl (by kernel_rfl)) rfl ?_
    exact ⟨_, by first | rfl | (simp [errW_none, errW_some] <;> rfl) | (simp [*, errW_none, errW_some] <;> rfl), by first | exact Kd.R_nil _ _ _ _ _ | exact Kd.N_nil _ _ _ _ _ | exact Kd.V_nil _ _ _ _ _ | exact Kd.Q_nil _ _ _ _ _ | exact Kd.S_nil _ _ _ _ _, by repeat (first | (with_reducible first | exact HB.out | apply below_alloc | apply pw_below_drewN | apply below_drew1 | refine below_set ?_ GE154.out) | exact HB.out)⟩
  · rw [if_neg c2] at H
    have c2b0 : decide (256 < (a0.size : Int)) = false := decide_eq_false c2
    have c2b1 : decide (256 < a0.size) = false := decide_eq_false (by omega)
    clear c2
    simp only [Option.some.injEq, Prod.mk.injEq] at H
    obtain ⟨rfl, rfl, rfl, rfl, rfl⟩ := H
    go_enter Try.func22, Try.ntmps22
    go_wp2_with (first | ((with_reducible refine gate_dst (N := 2) rfl ?_); refine box_event ?hg (N := 2) ?hd (cs := #[.int .i64 0, .int .i64 0, .float .f64 0, .string (⟨#[]⟩ : ByteArray), .slice none 0 0]) (t := 29) ?hr ?_; (case hd => rfl); (case hg => rfl); (case hr => first | (go_simp; done) | (go_simp; rfl)); intro gb154 hg w5 hbox hb; have n0_ := Aside0.mk (below_step (by repeat (first | (with_reducible first | exact HB.out | apply below_alloc | apply pw_below_drewN | apply below_drew1) | exact HB.out)) hb); have n1_ := Aside0.mk (hbox); have n2_ := Aside0.mk ((by rw [hg]; exact (below_size (by repeat (first | (with_reducible first | exact HB.out | apply below_alloc | apply pw_below_drewN | apply below_drew1) | exact HB.out))) : w.heap.size ≤ gb154)); have n3_ := Aside0.mk ((by rw [hg]; exact (below_size (by repeat (first | (with_reducible first | exact HB.out | apply below_alloc | apply pw_below_drewN | apply below_drew1) | exact HB.out))) : w.heap.size ≤ gb154)); clear HB; have HB := n0_; have BK154 := n1_; have GW154 := n2_; have GE154 := n3_; clear n0_ n1_ n2_ n3_; clear hb hbox hg; have hcz6_0 : w5.cell? ⟨gb154, 0, none⟩ = some (.int .i64 0) := (blk_cell BK154.out 0).trans rfl; have hcz6_1 : w5.cell? ⟨gb154, 1, none⟩ = some (.int .i64 0) := (blk_cell BK154.out 1).trans rfl; have hcz6_2 : w5.cell? ⟨gb154, 2, none⟩ = some (.float .f64 0) := (blk_cell BK154.out 2).trans rfl; have hcz6_3 : w5.cell? ⟨gb154, 3, none⟩ = some (.string (⟨#[]⟩ : ByteArray)) := (blk_cell BK154.out 3).trans rfl; have hcz6_4 : w5.cell? ⟨gb154, 4, none⟩ = some (.slice none 0 0) := (blk_cell BK154.out 4).trans rfl; have hfz6_0 := blk_frozen BK154.out 0; have hfz6_1 := blk_frozen BK154.out 1; have hfz6_2 := blk_frozen BK154.out 2; have hfz6_3 := blk_frozen BK154.out 3; have hfz6_4 := blk_frozen BK154.out 4))
    refine bodyPost_ret (results_cell_row rfl _ _ gb154 29 #[.int .i64 4, .int .i64 0, .float .f64 0, .string a0, .slice none 0 0] (0, 0) _ rfl (by (with_reducible repeat (first | refine blk_drewN ?_ _ | refine blk_drew ?_ | refine blk_alloc ?_ _)); refine blk_put (cs := #[.int .i64 4, .int .i64 0, .float .f64 0, .string a0, .slice none 0 0]) ?_ 4 _ rfl; (with_reducible repeat (first | refine blk_drewN ?_ _ | refine blk_drew ?_ | refine blk_alloc ?_ _)); refine blk_put (cs := #[.int .i64 4, .int .i64 0, .float .f64 0, .string (⟨#[]⟩ : ByteArray), .slice none 0 0]) ?_ 3 _ rfl; (with_reducible repeat (first | refine blk_drewN ?_ _ | refine blk_drew ?_ | refine blk_alloc ?_ _)); refine blk_put (cs := #[.int .i64 4, .int .i64 0, .float .f64 0, .string (⟨#[]⟩ : ByteArray), .slice none 0 0]) ?_ 2 _ rfl; (with_reducible repeat (first | refine blk_drewN ?_ _ | refine blk_drew ?_ | refine blk_alloc ?_ _)); refine blk_put (cs := #[.int .i64 4, .int .i64 0, .float .f64 0, .string (⟨#[]⟩ : ByteArray), .slice none 0 0]) ?_ 1 _ rfl; (with_reducible repeat (first | refine blk_drewN ?_ _ | refine blk_drew ?_ | refine blk_alloc ?_ _)); refine blk_put (cs := #[.int .i64 0, .int .i64 0, .float .f64 0, .string (⟨#[]⟩ : ByteArray), .slice none 0 0]) ?_ 0 _ rfl; (with_reducible repeat (first | refine blk_drewN ?_ _ | refine blk_drew ?_ | refine blk_alloc ?_ _)); exact BK154.out) Try.underlying29 rfl (by kernel_rfl)) rfl ?_
    exact ⟨_, by first | rfl | (simp [errW_none, errW_some] <;> rfl) | (simp [*, errW_none, errW_some] <;> rfl), by first | exact Kd.R_nil _ _ _ _ _ | exact Kd.N_nil _ _ _ _ _ | exact Kd.V_nil _ _ _ _ _ | exact Kd.Q_nil _ _ _ _ _ | exact Kd.S_nil _ _ _ _ _, by repeat (first | (with_reducible first | exact HB.out | apply below_alloc | apply pw_below_drewN | apply below_drew1 | refine below_set ?_ GE154.out) | exact HB.out)⟩
end Go.Proofs.Ytnfapjkffofcaaa.PY
namespace Go.Proofs.Ytnfapjkffofcaaa.G
open Go.RowKit Go.Proofs.YtnfapjkffofcaaaW.PrintWords Go.Proofs.Ytnfapjkffofcaaa.FW Go.Proofs.Ytnfapjkffofcaaa.FL Go.Proofs.Ytnfapjkffofcaaa.EV Go.Proofs.Ytnfapjkffofcaaa.PK
set_option linter.unusedVariables false
set_option linter.unusedSimpArgs false
def Fl (a : Atom) : Prop := a.f2 < 18446744073709551616
instance (a : Atom) : Decidable (Fl a) := inferInstanceAs (Decidable (_ < _))
def FlV (v : Val) : Prop := Fl v.f0 ∧ ∀ a ∈ v.f1, Fl a
instance (v : Val) : Decidable (FlV v) := inferInstanceAs (Decidable (_ ∧ _))
def InV (v : Val) : Prop := In64 v.f0.f1 ∧ ∀ a ∈ v.f1, In64 a.f1
instance (v : Val) : Decidable (InV v) := inferInstanceAs (Decidable (_ ∧ _))
def lexN : List Atom → List Atom → Int
  | [], [] => 0
  | [], _ :: _ => -1
  | _ :: _, [] => 1
  | a :: s, b :: t => if atomsN a b = 0 then lexN s t else atomsN a b
def orderV (v w : Val) : Int := if atomsN v.f0 w.f0 = 0 then lexN v.f1 w.f1 else atomsN v.f0 w.f0
def compareV (v w : Val) : Int := if validV v = true ∧ validV w = true then orderV v w else 0
theorem validV_len {v : Val} (h : validV v = true) : v.f1.length ≤ 16 := by
  unfold validV at h
  split at h
  · simp only [Bool.and_eq_true, decide_eq_true_eq] at h; exact h.1.2
  · simp only [Bool.and_eq_true, decide_eq_true_eq] at h; omega
theorem atoms_some {a b : Atom} (ha : In64 a.f1) (hb : In64 b.f1) : value_atoms.f a.f0 a.f1 a.f2 a.f3 b.f0 b.f1 b.f2 b.f3 = some (atomsN a b) := by
  unfold value_atoms.f; rw [if_pos ⟨ha, hb⟩]
theorem valueValid_some (v : Val) : value_Valid.f v.f0.f0 v.f0.f1 v.f0.f2 v.f0.f3 v.f1 = some (validV v) := rfl
def shortL : Int → List Atom → Bool
  | x, [] => decide (x < 6000)
  | x, a :: l => if x < 6000 then shortL (wrap64 (x + (a.f3.size : Int))) l else decide (x < 6000)
def shortV (v : Val) : Bool := shortL (wrap64 ((v.f0.f3.size : Int) + (wrap64 (10 * (v.f1.length : Int))))) v.f1
def sameL : List Atom → List Atom → Bool
  | [], [] => true
  | a :: s, b :: t => sameA a b && sameL s t
  | _, _ => false
def sameV (v w : Val) : Bool := sameA v.f0 w.f0 && sameL v.f1 w.f1
def toldN (b : Bool) : Int := if b = true then 1 else 0
def unknownV (v w : Val) : Bool := !(validV v && validV w) || decide (v.f0.f0 = 0) || decide (w.f0.f0 = 0)
def lessV (v w : Val) : Int :=
  if unknownV v w = true ∨ v.f0.f0 = 6 ∨ rankN v.f0.f0 ≠ rankN w.f0.f0 then 2
  else if nanA v.f0 = true ∨ nanA w.f0 = true then 0
  else if isNum v.f0.f0 = true then toldN (decide (cmp3 (nkey v.f0) (nkey w.f0) < 0)) else toldN (decide (atomsN v.f0 w.f0 < 0))
def alikeL : List Atom → List Atom → Bool
  | [], [] => true
  | a :: s, b :: t => alikeN a b && alikeL s t
  | _, _ => false
def equalV (v w : Val) : Int :=
  if unknownV v w = true then 2
  else if v.f0.f0 = 6 ∧ w.f0.f0 = 6 then toldN (alikeL v.f1 w.f1) else toldN (alikeN v.f0 w.f0)
theorem unknownV_eq (v w : Val) : PY.value_unknown.f v.f0.f0 v.f0.f1 v.f0.f2 v.f0.f3 v.f1 w.f0.f0 w.f0.f1 w.f0.f2 w.f0.f3 w.f1 = some (unknownV v w) := by
  unfold PY.value_unknown.f unknownV
  rw [valueValid_some, valueValid_some]
  cases validV v <;> cases validV w <;> by_cases h : v.f0.f0 = 0 <;> by_cases h2 : w.f0.f0 = 0 <;> simp [h, h2]
theorem toldV_eq (b : Bool) : PY.value_told.f b = some (toldN b) := by cases b <;> rfl
theorem lessV_eq (v w : Val) (hv : InV v) (hw : InV w) : Ev (fun K => PY.value_Less.f K v.f0.f0 v.f0.f1 v.f0.f2 v.f0.f3 v.f1 w.f0.f0 w.f0.f1 w.f0.f2 w.f0.f3 w.f1) (lessV v w) := by
  unfold PY.value_Less.f lessV
  rw [unknownV_eq]
  have j1 : ∀ x : Bool, Ev (fun K => PY.value_Less.j1 K x v.f0.f0 v.f0.f1 v.f0.f2 v.f0.f3 w.f0.f0 w.f0.f1 w.f0.f2 w.f0.f3) (if x = true then 0 else if isNum v.f0.f0 = true then toldN (decide (cmp3 (nkey v.f0) (nkey w.f0) < 0)) else toldN (decide (atomsN v.f0 w.f0 < 0))) := fun x => by
    refine Ev.step (fun _ => rfl) ?_
    simp only [PY.value_Less.j1]
    refine ite_v (fun _ => Ev.now _) (fun _ => ?_)
    refine some_bind (x := isNum v.f0.f0) (ite_v (fun _ => ?_) (fun _ => ?_))
    · rw [show value_exactly.f v.f0.f0 v.f0.f1 v.f0.f2 v.f0.f3 w.f0.f0 w.f0.f1 w.f0.f2 w.f0.f3 = some (cmp3 (nkey v.f0) (nkey w.f0)) from if_pos ⟨hv.1, hw.1⟩]
      refine some_bind ?_
      rw [toldV_eq]
      exact some_bind (Ev.now _)
    · rw [atoms_some hv.1 hw.1]
      refine some_bind ?_
      rw [toldV_eq]
      exact some_bind (Ev.now _)
  have j0 : ∀ x : Bool, Ev (fun K => PY.value_Less.j0 K x v.f0.f0 v.f0.f1 v.f0.f2 v.f0.f3 w.f0.f0 w.f0.f1 w.f0.f2 w.f0.f3) (if x = true then 2 else if nanA v.f0 = true ∨ nanA w.f0 = true then 0 else if isNum v.f0.f0 = true then toldN (decide (cmp3 (nkey v.f0) (nkey w.f0) < 0)) else toldN (decide (atomsN v.f0 w.f0 < 0))) := fun x => by
    refine Ev.step (fun _ => rfl) ?_
    simp only [PY.value_Less.j0]
    refine ite_v (fun _ => Ev.now _) (fun _ => ?_)
    refine some_bind (x := nanA v.f0) ?_
    cases hn : nanA v.f0
    · refine ite_f (by decide) (some_bind (x := nanA w.f0) ?_)
      have := j1 (nanA w.f0)
      simpa using this
    · refine ite_t rfl ?_
      have := j1 true
      simpa using this
  refine some_bind ?_
  cases hu : unknownV v w
  · refine ite_f (by decide) ?_
    by_cases h6 : v.f0.f0 = 6
    · refine ite_t h6 ?_
      have := j0 true
      rw [if_pos rfl] at this
      rw [if_pos (by simp [h6])]
      exact this
    · refine ite_f h6 (some_bind (x := rankN v.f0.f0) (some_bind (x := rankN w.f0.f0) ?_))
      have := j0 (rankN v.f0.f0 != rankN w.f0.f0)
      by_cases hr : rankN v.f0.f0 = rankN w.f0.f0
      · rw [if_neg (by simp [h6, hr])]
        simpa [hr] using this
      · rw [if_pos (by simp [hr])]
        simpa [hr] using this
  · refine ite_t rfl ?_
    have := j0 true
    rw [if_pos rfl] at this
    rw [if_pos (by simp)]
    exact this
theorem alike_some {a b : Atom} (ha : In64 a.f1) (hb : In64 b.f1) : value_alike.f a.f0 a.f1 a.f2 a.f3 b.f0 b.f1 b.f2 b.f3 = some (alikeN a b) := by
  unfold value_alike.f; rw [if_pos ⟨ha, hb⟩]
theorem equal_loop (l m : List Atom) (hl : l.length ≤ 16) (ha : ∀ a ∈ l, In64 a.f1) (hb : ∀ a ∈ m, In64 a.f1) (k n : Int) (f : Nat) (s : ByteArray) (k' n' : Int) (f' : Nat) (s' : ByteArray) : ∀ (d : Nat) (i : Nat) (x : Bool), i ≤ l.length → l.length - i = d → (x = true → l.length = m.length) →
    Ev (fun K => PY.value_Equal.l0 K x i k n f s l k' n' f' s' m) (toldN (x && alikeL (l.drop i) (m.drop i))) := by
  intro d
  induction d with
  | zero =>
    intro i x hi hd hm
    refine Ev.step (fun _ => rfl) ?_
    simp only [PY.value_Equal.l0, toldV_eq, obs]
    cases x
    · rw [Bool.false_and]; exact ite_f (by decide) (Ev.now _)
    · have hm := hm rfl
      rw [List.drop_of_length_le (by omega), List.drop_of_length_le (by omega)]
      exact ite_t (by decide) (ite_f (by omega) (Ev.now _))
  | succ d ih =>
    intro i x hi hd hm
    refine Ev.step (fun _ => rfl) ?_
    simp only [PY.value_Equal.l0, toldV_eq, obs]
    cases x
    · rw [Bool.false_and]; exact ite_f (by decide) (Ev.now _)
    · have hm := hm rfl
      have h1 : i < l.length := by omega
      have h2 : i < m.length := by omega
      rw [rdA l i h1, rdA m i h2, List.drop_eq_getElem_cons h1, List.drop_eq_getElem_cons h2, alikeL, Bool.true_and]
      refine ite_t (by decide) (ite_t (by omega) (ite_t (by omega) (ite_t (by omega) ?_)))
      rw [alike_some (ha _ (List.getElem_mem h1)) (hb _ (List.getElem_mem h2))]
      refine some_bind ?_
      rw [wrap64_id (by omega) (by omega)]
      exact ih (i + 1) _ (by omega) (by omega) (fun _ => hm)
theorem equalV_eq (v w : Val) (hv : InV v) (hw : InV w) : Ev (fun K => PY.value_Equal.f K v.f0.f0 v.f0.f1 v.f0.f2 v.f0.f3 v.f1 w.f0.f0 w.f0.f1 w.f0.f2 w.f0.f3 w.f1) (equalV v w) := by
  unfold PY.value_Equal.f equalV
  rw [unknownV_eq]
  refine some_bind (ite_v (fun _ => Ev.now _) (fun hu => ?_))
  have hl : v.f1.length ≤ 16 := by
    refine validV_len (v := v) ?_
    cases h : validV v
    · simp [unknownV, h] at hu
    · rfl
  have jt : Ev (fun K => PY.value_Equal.j0 K true v.f0.f0 v.f0.f1 v.f0.f2 v.f0.f3 v.f1 w.f0.f0 w.f0.f1 w.f0.f2 w.f0.f3 w.f1) (toldN (alikeN v.f0 w.f0)) := by
    refine Ev.step (fun _ => rfl) ?_
    simp only [PY.value_Equal.j0]
    refine ite_t (by decide) ?_
    rw [alike_some hv.1 hw.1]
    refine some_bind ?_
    rw [toldV_eq]
    exact some_bind (Ev.now _)
  by_cases h6 : v.f0.f0 = 6
  · refine ite_t h6 ?_
    by_cases h7 : w.f0.f0 = 6
    · rw [if_pos ⟨h6, h7⟩]
      have e : (w.f0.f0 != 6) = false := by rw [h7]; rfl
      rw [e]
      refine Ev.step (fun _ => rfl) ?_
      simp only [PY.value_Equal.j0]
      refine ite_f (by decide) ?_
      by_cases hm : v.f1.length = w.f1.length
      · have e : ((v.f1.length : Int) == (w.f1.length : Int)) = true := by rw [hm]; simp
        rw [e]
        exact equal_loop v.f1 w.f1 hl hv.2 hw.2 _ _ _ _ _ _ _ _ _ 0 true (by omega) rfl (fun _ => hm)
      · have e : ((v.f1.length : Int) == (w.f1.length : Int)) = false := by simp; omega
        rw [e]
        have hh : ∀ l m : List Atom, alikeL l m = true → l.length = m.length := fun l => by
          induction l with
          | nil => intro m h; cases m with
            | nil => rfl
            | cons b t => simp [alikeL] at h
          | cons a s ih => intro m h; cases m with
            | nil => simp [alikeL] at h
            | cons b t =>
              simp only [alikeL, Bool.and_eq_true] at h
              simp [ih t h.2]
        have e2 : alikeL v.f1 w.f1 = false := by
          cases h : alikeL v.f1 w.f1
          · rfl
          · exact absurd (hh _ _ h) hm
        have := equal_loop v.f1 w.f1 hl hv.2 hw.2 v.f0.f0 v.f0.f1 v.f0.f2 v.f0.f3 w.f0.f0 w.f0.f1 w.f0.f2 w.f0.f3 _ 0 false (by omega) rfl (by simp)
        rw [e2]
        exact this
    · rw [if_neg (by simp [h7])]
      have e : (w.f0.f0 != 6) = true := by simp [h7]
      rw [e]
      exact jt
  · rw [if_neg (by simp [h6])]
    exact ite_f h6 jt
def cobwebref03_Valid.f (a0_0 a0_1 : Int) (a0_2 : Nat) (a0_3 : ByteArray) (l0_4 : List Atom) : Option Bool := if FlV ⟨⟨a0_0, a0_1, a0_2, a0_3⟩, l0_4⟩ then some (validV ⟨⟨a0_0, a0_1, a0_2, a0_3⟩, l0_4⟩) else none
def value_Compare.f (a0_0 a0_1 : Int) (a0_2 : Nat) (a0_3 : ByteArray) (l0_4 : List Atom) (a1_0 a1_1 : Int) (a1_2 : Nat) (a1_3 : ByteArray) (l1_4 : List Atom) : Option Int := if InV ⟨⟨a0_0, a0_1, a0_2, a0_3⟩, l0_4⟩ ∧ InV ⟨⟨a1_0, a1_1, a1_2, a1_3⟩, l1_4⟩ then some (compareV ⟨⟨a0_0, a0_1, a0_2, a0_3⟩, l0_4⟩ ⟨⟨a1_0, a1_1, a1_2, a1_3⟩, l1_4⟩) else none
def value_Less.f (a0_0 a0_1 : Int) (a0_2 : Nat) (a0_3 : ByteArray) (l0_4 : List Atom) (a1_0 a1_1 : Int) (a1_2 : Nat) (a1_3 : ByteArray) (l1_4 : List Atom) : Option Int := if InV ⟨⟨a0_0, a0_1, a0_2, a0_3⟩, l0_4⟩ ∧ InV ⟨⟨a1_0, a1_1, a1_2, a1_3⟩, l1_4⟩ then some (lessV ⟨⟨a0_0, a0_1, a0_2, a0_3⟩, l0_4⟩ ⟨⟨a1_0, a1_1, a1_2, a1_3⟩, l1_4⟩) else none
theorem value_Less.of {a0_0 a0_1 : Int} {a0_2 : Nat} {a0_3 : ByteArray} {l0_4 : List Atom} {a1_0 a1_1 : Int} {a1_2 : Nat} {a1_3 : ByteArray} {l1_4 : List Atom} {r : Int} (h : value_Less.f a0_0 a0_1 a0_2 a0_3 l0_4 a1_0 a1_1 a1_2 a1_3 l1_4 = some r) : ∃ k, PY.value_Less.f k a0_0 a0_1 a0_2 a0_3 l0_4 a1_0 a1_1 a1_2 a1_3 l1_4 = some r := by
  unfold value_Less.f at h
  split at h
  · rename_i hb
    injection h with h
    rw [← h]
    exact (lessV_eq ⟨⟨a0_0, a0_1, a0_2, a0_3⟩, l0_4⟩ ⟨⟨a1_0, a1_1, a1_2, a1_3⟩, l1_4⟩ hb.1 hb.2).rounds
  · cases h
theorem value_Less.calls (a0_0 : Int) (a0_1 : Int) (a0_2 : Nat) (a0_3 : ByteArray) (A0_4 : Option Addr) (c0_4 : Nat) (l0_4 : List (S26)) (a1_0 : Int) (a1_1 : Int) (a1_2 : Nat) (a1_3 : ByteArray) (A1_4 : Option Addr) (c1_4 : Nat) (l1_4 : List (S26)) (r : Int) (w : World) (hr0_4 : Kd.C k26 w A0_4 l0_4.length l0_4) (hc0_4 : l0_4.length ≤ c0_4) (hr1_4 : Kd.C k26 w A1_4 l1_4.length l1_4) (hc1_4 : l1_4.length ≤ c1_4) (h : value_Less.f a0_0 a0_1 a0_2 a0_3 l0_4 a1_0 a1_1 a1_2 a1_3 l1_4 = some r) :
    Calls Try.prog 17 #[.agg #[.int .i64 a0_0, .int .i64 a0_1, .float .f64 a0_2, .string a0_3, .slice A0_4 l0_4.length c0_4], .agg #[.int .i64 a1_0, .int .i64 a1_1, .float .f64 a1_2, .string a1_3, .slice A1_4 l1_4.length c1_4]] w fun e w' => e = .returned (.int .i64 r) ∧ Below w.heap.size w w' := by
  obtain ⟨k, hk⟩ := value_Less.of h
  exact PY.value_Less.calls k a0_0 a0_1 a0_2 a0_3 A0_4 c0_4 l0_4 a1_0 a1_1 a1_2 a1_3 A1_4 c1_4 l1_4 r w hr0_4 hc0_4 hr1_4 hc1_4 hk
def value_Equal.f (a0_0 a0_1 : Int) (a0_2 : Nat) (a0_3 : ByteArray) (l0_4 : List Atom) (a1_0 a1_1 : Int) (a1_2 : Nat) (a1_3 : ByteArray) (l1_4 : List Atom) : Option Int := if InV ⟨⟨a0_0, a0_1, a0_2, a0_3⟩, l0_4⟩ ∧ InV ⟨⟨a1_0, a1_1, a1_2, a1_3⟩, l1_4⟩ then some (equalV ⟨⟨a0_0, a0_1, a0_2, a0_3⟩, l0_4⟩ ⟨⟨a1_0, a1_1, a1_2, a1_3⟩, l1_4⟩) else none
theorem value_Equal.of {a0_0 a0_1 : Int} {a0_2 : Nat} {a0_3 : ByteArray} {l0_4 : List Atom} {a1_0 a1_1 : Int} {a1_2 : Nat} {a1_3 : ByteArray} {l1_4 : List Atom} {r : Int} (h : value_Equal.f a0_0 a0_1 a0_2 a0_3 l0_4 a1_0 a1_1 a1_2 a1_3 l1_4 = some r) : ∃ k, PY.value_Equal.f k a0_0 a0_1 a0_2 a0_3 l0_4 a1_0 a1_1 a1_2 a1_3 l1_4 = some r := by
  unfold value_Equal.f at h
  split at h
  · rename_i hb
    injection h with h
    rw [← h]
    exact (equalV_eq ⟨⟨a0_0, a0_1, a0_2, a0_3⟩, l0_4⟩ ⟨⟨a1_0, a1_1, a1_2, a1_3⟩, l1_4⟩ hb.1 hb.2).rounds
  · cases h
theorem value_Equal.calls (a0_0 : Int) (a0_1 : Int) (a0_2 : Nat) (a0_3 : ByteArray) (A0_4 : Option Addr) (c0_4 : Nat) (l0_4 : List (S26)) (a1_0 : Int) (a1_1 : Int) (a1_2 : Nat) (a1_3 : ByteArray) (A1_4 : Option Addr) (c1_4 : Nat) (l1_4 : List (S26)) (r : Int) (w : World) (hr0_4 : Kd.C k26 w A0_4 l0_4.length l0_4) (hc0_4 : l0_4.length ≤ c0_4) (hr1_4 : Kd.C k26 w A1_4 l1_4.length l1_4) (hc1_4 : l1_4.length ≤ c1_4) (h : value_Equal.f a0_0 a0_1 a0_2 a0_3 l0_4 a1_0 a1_1 a1_2 a1_3 l1_4 = some r) :
    Calls Try.prog 18 #[.agg #[.int .i64 a0_0, .int .i64 a0_1, .float .f64 a0_2, .string a0_3, .slice A0_4 l0_4.length c0_4], .agg #[.int .i64 a1_0, .int .i64 a1_1, .float .f64 a1_2, .string a1_3, .slice A1_4 l1_4.length c1_4]] w fun e w' => e = .returned (.int .i64 r) ∧ Below w.heap.size w w' := by
  obtain ⟨k, hk⟩ := value_Equal.of h
  exact PY.value_Equal.calls k a0_0 a0_1 a0_2 a0_3 A0_4 c0_4 l0_4 a1_0 a1_1 a1_2 a1_3 A1_4 c1_4 l1_4 r w hr0_4 hc0_4 hr1_4 hc1_4 hk
def cobweblaw03_short.f (a0_0 a0_1 : Int) (a0_2 : Nat) (a0_3 : ByteArray) (l0_4 : List Atom) : Option Bool := if l0_4.length ≤ 140737488351232 then some (shortV ⟨⟨a0_0, a0_1, a0_2, a0_3⟩, l0_4⟩) else none
def cobwebref03_Same.f (a0_0 a0_1 : Int) (a0_2 : Nat) (a0_3 : ByteArray) (l0_4 : List Atom) (a1_0 a1_1 : Int) (a1_2 : Nat) (a1_3 : ByteArray) (l1_4 : List Atom) : Option Bool := if l0_4.length ≤ 140737488351232 then some (sameV ⟨⟨a0_0, a0_1, a0_2, a0_3⟩, l0_4⟩ ⟨⟨a1_0, a1_1, a1_2, a1_3⟩, l1_4⟩) else none
def value_OfInt.f (a0 : Int) : Option (Int × Int × Nat × ByteArray × (List Atom)) := some (2, a0, 0, (⟨#[]⟩ : ByteArray), ([] : List Atom))
theorem value_OfInt.of {a0 : Int} {r : Int × Int × Nat × ByteArray × (List Atom)} (h : value_OfInt.f a0 = some r) : PY.value_OfInt.f a0 = some r := h
theorem value_OfInt.calls (a0 : Int) (r1 : Int) (r2 : Int) (r3 : Nat) (r4 : ByteArray) (r5 : List (S26)) (w : World) (h : value_OfInt.f a0 = some (r1, r2, r3, r4, r5)) :
    Calls Try.prog 13 #[.int .i64 a0] w fun e w' => ∃ v4_ : Value, e = .returned (.agg #[.int .i64 r1, .int .i64 r2, .float .f64 r3, .string r4, v4_]) ∧ Kd.R k26 26 w' w.heap.size (fun _ => True) v4_ r5 ∧ Below w.heap.size w w' := by
  exact PY.value_OfInt.calls a0 r1 r2 r3 r4 r5 w (value_OfInt.of h)
def value_OfReal.f (a0 : Nat) : Option (Int × Int × Nat × ByteArray × (List Atom)) := some (3, 0, canonN a0, (⟨#[]⟩ : ByteArray), ([] : List Atom))
theorem value_OfReal.of {a0 : Nat} {r : Int × Int × Nat × ByteArray × (List Atom)} (h : value_OfReal.f a0 = some r) : PY.value_OfReal.f a0 = some r := h
theorem value_OfReal.calls (a0 : Nat) (r1 : Int) (r2 : Int) (r3 : Nat) (r4 : ByteArray) (r5 : List (S26)) (w : World) (h : value_OfReal.f a0 = some (r1, r2, r3, r4, r5)) :
    Calls Try.prog 15 #[.float .f64 a0] w fun e w' => ∃ v4_ : Value, e = .returned (.agg #[.int .i64 r1, .int .i64 r2, .float .f64 r3, .string r4, v4_]) ∧ Kd.R k26 26 w' w.heap.size (fun _ => True) v4_ r5 ∧ Below w.heap.size w w' := by
  exact PY.value_OfReal.calls a0 r1 r2 r3 r4 r5 w (value_OfReal.of h)
def value_OfText.f (a0 : ByteArray) : Option (Int × Int × Nat × ByteArray × (List Atom)) := if (a0.size : Int) > 256 then (some (0, 0, 0, (⟨#[]⟩ : ByteArray), ([] : List Atom))) else (some (4, 0, 0, a0, ([] : List Atom)))
theorem value_OfText.of {a0 : ByteArray} {r : Int × Int × Nat × ByteArray × (List Atom)} (h : value_OfText.f a0 = some r) : PY.value_OfText.f a0 = some r := h
theorem value_OfText.calls (a0 : ByteArray) (r1 : Int) (r2 : Int) (r3 : Nat) (r4 : ByteArray) (r5 : List (S26)) (w : World) (h : value_OfText.f a0 = some (r1, r2, r3, r4, r5)) :
    Calls Try.prog 22 #[.string a0] w fun e w' => ∃ v4_ : Value, e = .returned (.agg #[.int .i64 r1, .int .i64 r2, .float .f64 r3, .string r4, v4_]) ∧ Kd.R k26 26 w' w.heap.size (fun _ => True) v4_ r5 ∧ Below w.heap.size w w' := by
  exact PY.value_OfText.calls a0 r1 r2 r3 r4 r5 w (value_OfText.of h)
end Go.Proofs.Ytnfapjkffofcaaa.G
namespace Go.Proofs.Ytnfapjkffofcaaa.G
open Go.RowKit Go.Proofs.YtnfapjkffofcaaaW.PrintWords Go.Proofs.YtnfapjkffofcaaaW.PrintLast Go.Proofs.Ytnfapjkffofcaaa.FW Go.Proofs.Ytnfapjkffofcaaa.FL Go.Proofs.Ytnfapjkffofcaaa.EV Go.Proofs.Ytnfapjkffofcaaa.PK
set_option linter.unusedVariables false
set_option linter.unusedSimpArgs false
def value_OfBool.f (a0 : Bool) : Option (Int × Int × Nat × ByteArray × (List Atom)) := some (1, (if a0 = true then 1 else 0), 0, (⟨#[]⟩ : ByteArray), ([] : List Atom))
set_option maxHeartbeats 2000000 in
theorem value_OfBool.calls (a0 : Bool) (r1 : Int) (r2 : Int) (r3 : Nat) (r4 : ByteArray) (r5 : List Atom) (w : World) (h : value_OfBool.f a0 = some (r1, r2, r3, r4, r5)) :
    Calls Try.prog 21 #[.bool a0] w fun e w' => ∃ v4_ : Value, e = .returned (.agg #[.int .i64 r1, .int .i64 r2, .float .f64 r3, .string r4, v4_]) ∧ Kd.R k26 26 w' w.heap.size (fun _ => True) v4_ r5 ∧ Below w.heap.size w w' := by
  simp only [value_OfBool.f, Option.some.injEq, Prod.mk.injEq] at h
  obtain ⟨rfl, rfl, rfl, rfl, rfl⟩ := h
  go_enter Try.func21, Try.ntmps21
  cases a0
  · go_wp2
    apply bodyPost_ret
    · exact results_cell_row rfl _ _ w.heap.size 29 #[.int .i64 1, .int .i64 0, .float .f64 0, .string (⟨#[]⟩ : ByteArray), .slice none 0 0] (0, 0) _ rfl (blk_alloc (blk_new _ _) _) Try.underlying29 rfl (by kernel_rfl)
    · rfl
    · exact ⟨_, rfl, Kd.R_nil _ _ _ _ _, below_alloc (below_alloc (Below.refl _ _) _) _⟩
  · go_wp2
    apply bodyPost_ret
    · exact results_cell_row rfl _ _ w.heap.size 29 #[.int .i64 1, .int .i64 1, .float .f64 0, .string (⟨#[]⟩ : ByteArray), .slice none 0 0] (0, 0) _ rfl (blk_alloc (blk_new _ _) _) Try.underlying29 rfl (by kernel_rfl)
    · rfl
    · exact ⟨_, rfl, Kd.R_nil _ _ _ _ _, below_alloc (below_alloc (Below.refl _ _) _) _⟩
end Go.Proofs.Ytnfapjkffofcaaa.G
namespace Go.Proofs.Ytnfapjkffofcaaa.PA3
open Go.RowKit Go.Proofs.YtnfapjkffofcaaaW.PrintWords Go.Proofs.YtnfapjkffofcaaaW.PrintLast Go.Proofs.Ytnfapjkffofcaaa.FW Go.Proofs.Ytnfapjkffofcaaa.PK Go.Proofs.Ytnfapjkffofcaaa.G
set_option linter.unusedVariables false
set_option linter.unusedSimpArgs false
mutual
def cobweblaw03_ValueAsks.j0 : Nat → Int → Nat → Int → Int → Int → Int → Int → Nat → ByteArray → List (S26) → Int → Int → Nat → ByteArray → List (S26) → Option (Bool)
  | 0, _, _, _, _, _, _, _, _, _, _, _, _, _, _, _ => none
  | k + 1, x0, x1, x7, x8, x9, x116000, x116001, x116002, x116003, x116004, x117000, x117001, x117002, x117003, x117004 => (floats_Class.f x1).bind fun t121 => (if t121 = 0 then (if x7 = 0 then (if x8 = 0 then (if x9 = 0 then ((value_Equal.f x117000 x117001 x117002 x117003 x117004 x117000 x117001 x117002 x117003 x117004).bind fun t122 => (some (t122 == 0))) else (some false)) else (some false)) else (some false)) else (cobweblaw03_ValueAsks.j1 k x0 x1 x7 x8 x9 x116000 x116001 x116002 x116003 x116004))
def cobweblaw03_ValueAsks.j1 : Nat → Int → Nat → Int → Int → Int → Int → Int → Nat → ByteArray → List (S26) → Option (Bool)
  | 0, _, _, _, _, _, _, _, _, _, _ => none
  | k + 1, x0, x1, x7, x8, x9, x116000, x116001, x116002, x116003, x116004 => (floats_Whole.f x1).bind fun bt123 => (if (wrap64 ((wrap64 (x7 + x8)) + x9)) = 1 then (if bt123.2 = true then (if ((x8 == 1) == (bt123.1 == x0)) = true then ((value_OfBool.f true).bind fun bt125 => ((value_OfBool.f true).bind fun bt132 => ((value_Equal.f bt125.1 bt125.2.1 bt125.2.2.1 bt125.2.2.2.1 bt125.2.2.2.2 bt132.1 bt132.2.1 bt132.2.2.1 bt132.2.2.2.1 bt132.2.2.2.2).bind fun t139 => (if t139 = 1 then ((value_OfText.f (⟨#[]⟩ : ByteArray)).bind fun bt140 => ((value_Less.f x116000 x116001 x116002 x116003 x116004 bt140.1 bt140.2.1 bt140.2.2.1 bt140.2.2.2.1 bt140.2.2.2.2).bind fun t147 => (some (t147 == 2)))) else (some false))))) else (some false)) else (if ((x8 == 1) == false) = true then ((value_OfBool.f true).bind fun bt148 => ((value_OfBool.f true).bind fun bt155 => ((value_Equal.f bt148.1 bt148.2.1 bt148.2.2.1 bt148.2.2.2.1 bt148.2.2.2.2 bt155.1 bt155.2.1 bt155.2.2.1 bt155.2.2.2.1 bt155.2.2.2.2).bind fun t162 => (if t162 = 1 then ((value_OfText.f (⟨#[]⟩ : ByteArray)).bind fun bt163 => ((value_Less.f x116000 x116001 x116002 x116003 x116004 bt163.1 bt163.2.1 bt163.2.2.1 bt163.2.2.2.1 bt163.2.2.2.2).bind fun t170 => (some (t170 == 2)))) else (some false))))) else (some false))) else (some false))
end
def cobweblaw03_ValueAsks.f (k : Nat) (a0 : Int) (a1 : Nat) : Option (Bool) := (value_OfInt.f a0).bind fun bt101 => ((value_OfReal.f a1).bind fun bt108 => ((value_Less.f bt101.1 bt101.2.1 bt101.2.2.1 bt101.2.2.2.1 bt101.2.2.2.2 bt108.1 bt108.2.1 bt108.2.2.1 bt108.2.2.2.1 bt108.2.2.2.2).bind fun t117 => ((value_Equal.f bt101.1 bt101.2.1 bt101.2.2.1 bt101.2.2.2.1 bt101.2.2.2.2 bt108.1 bt108.2.1 bt108.2.2.1 bt108.2.2.2.1 bt108.2.2.2.2).bind fun t118 => ((value_Less.f bt108.1 bt108.2.1 bt108.2.2.1 bt108.2.2.2.1 bt108.2.2.2.2 bt101.1 bt101.2.1 bt101.2.2.1 bt101.2.2.2.1 bt101.2.2.2.2).bind fun t119 => ((value_Equal.f bt101.1 bt101.2.1 bt101.2.2.1 bt101.2.2.2.1 bt101.2.2.2.2 bt101.1 bt101.2.1 bt101.2.2.1 bt101.2.2.2.1 bt101.2.2.2.2).bind fun t120 => (if t120 = 1 then (cobweblaw03_ValueAsks.j0 k a0 a1 t117 t118 t119 bt101.1 bt101.2.1 bt101.2.2.1 bt101.2.2.2.1 bt101.2.2.2.2 bt108.1 bt108.2.1 bt108.2.2.1 bt108.2.2.2.1 bt108.2.2.2.2) else (some false)))))))
theorem cobweblaw03_ValueAsks.mono_l : ∀ k, (∀ y0 y1 y2 y3 y4 y5 y6 y7 y8 y9 y10 y11 y12 y13 y14, LeO (cobweblaw03_ValueAsks.j0 k y0 y1 y2 y3 y4 y5 y6 y7 y8 y9 y10 y11 y12 y13 y14) (cobweblaw03_ValueAsks.j0 (k + 1) y0 y1 y2 y3 y4 y5 y6 y7 y8 y9 y10 y11 y12 y13 y14)) ∧ (∀ y0 y1 y2 y3 y4 y5 y6 y7 y8 y9, LeO (cobweblaw03_ValueAsks.j1 k y0 y1 y2 y3 y4 y5 y6 y7 y8 y9) (cobweblaw03_ValueAsks.j1 (k + 1) y0 y1 y2 y3 y4 y5 y6 y7 y8 y9))
  | 0 => ⟨fun _ _ _ _ _ _ _ _ _ _ _ _ _ _ _ r h => by simp [cobweblaw03_ValueAsks.j0] at h, fun _ _ _ _ _ _ _ _ _ _ r h => by simp [cobweblaw03_ValueAsks.j1] at h⟩
  | k + 1 => by
    obtain ⟨ih0, ih1⟩ := cobweblaw03_ValueAsks.mono_l k
    refine ⟨?_, ?_⟩
    · intro y0 y1 y2 y3 y4 y5 y6 y7 y8 y9 y10 y11 y12 y13 y14
      unfold cobweblaw03_ValueAsks.j0
      repeat' first
      | (with_reducible exact ih0 _ _ _ _ _ _ _ _ _ _ _ _ _ _ _)
      | (with_reducible exact ih1 _ _ _ _ _ _ _ _ _ _)
      | (with_reducible exact LeO.refl _)
      | (with_reducible exact LeO.none _)
      | (with_reducible refine LeO.ite ?_ ?_)
      | (with_reducible refine LeO.bind ?_ (fun _ => ?_))
      | exact ih0 _ _ _ _ _ _ _ _ _ _ _ _ _ _ _
      | exact ih1 _ _ _ _ _ _ _ _ _ _
      | exact LeO.none _
      | refine LeO.ite ?_ ?_
      | refine LeO.bind ?_ (fun _ => ?_)
    · intro y0 y1 y2 y3 y4 y5 y6 y7 y8 y9
      unfold cobweblaw03_ValueAsks.j1
      repeat' first
      | (with_reducible exact ih0 _ _ _ _ _ _ _ _ _ _ _ _ _ _ _)
      | (with_reducible exact ih1 _ _ _ _ _ _ _ _ _ _)
      | (with_reducible exact LeO.refl _)
      | (with_reducible exact LeO.none _)
      | (with_reducible refine LeO.ite ?_ ?_)
      | (with_reducible refine LeO.bind ?_ (fun _ => ?_))
      | exact ih0 _ _ _ _ _ _ _ _ _ _ _ _ _ _ _
      | exact ih1 _ _ _ _ _ _ _ _ _ _
      | exact LeO.none _
      | refine LeO.ite ?_ ?_
      | refine LeO.bind ?_ (fun _ => ?_)
theorem cobweblaw03_ValueAsks.mono : ∀ a0 a1 k, LeO (cobweblaw03_ValueAsks.f k a0 a1) (cobweblaw03_ValueAsks.f (k + 1) a0 a1) := by
  intro a0 a1 k
  obtain ⟨ih0, ih1⟩ := cobweblaw03_ValueAsks.mono_l k
  unfold cobweblaw03_ValueAsks.f
  repeat' first
      | (with_reducible exact ih0 _ _ _ _ _ _ _ _ _ _ _ _ _ _ _)
      | (with_reducible exact ih1 _ _ _ _ _ _ _ _ _ _)
      | (with_reducible exact LeO.refl _)
      | (with_reducible exact LeO.none _)
      | (with_reducible refine LeO.ite ?_ ?_)
      | (with_reducible refine LeO.bind ?_ (fun _ => ?_))
      | exact ih0 _ _ _ _ _ _ _ _ _ _ _ _ _ _ _
      | exact ih1 _ _ _ _ _ _ _ _ _ _
      | exact LeO.none _
      | refine LeO.ite ?_ ?_
      | refine LeO.bind ?_ (fun _ => ?_)
def cobweblaw03_ValueAsks.T2 : Bool × List (List Nat × List Nat) := (true, [([], []), ([], []), ([0, 1], [0, 1]), ([], []), ([], []), ([3, 4, 2], [3, 4]), ([], []), ([], []), ([6, 7, 5], [6, 7]), ([2, 8, 0, 1, 2], [2]), ([5, 9, 0, 1, 2, 3, 4, 5, 9], [5]), ([8, 10, 0, 1, 2, 3, 4, 5, 6, 7, 8, 9, 10], [8])])
def cobweblaw03_ValueAsks.B2 : List Nat := [0, 0, 3, 0, 0, 31, 0, 0, 255, 511, 1023, 2047]
theorem cobweblaw03_ValueAsks.tab2 : rtab .any (opsOf Try.f6 2) = cobweblaw03_ValueAsks.T2 := by kernel_rfl
theorem cobweblaw03_ValueAsks.bits2 : waitsOk cobweblaw03_ValueAsks.T2.2 cobweblaw03_ValueAsks.B2 = true := by kernel_rfl
def cobweblaw03_ValueAsks.T8 : Bool × List (List Nat × List Nat) := (true, [([], []), ([], []), ([0, 1], [0, 1]), ([], []), ([2, 3], [2, 3]), ([4], [4]), ([5], [5]), ([6], [6]), ([7, 6], [6, 7]), ([6], [6]), ([9, 6, 6], [6, 9]), ([10], [10]), ([10], [10]), ([11, 12, 10], [10, 11, 12]), ([10, 13, 6], [6, 10, 13]), ([8, 14, 6], [6, 8, 14]), ([6, 15], [6, 15]), ([16, 10], [16]), ([17, 17], [17]), ([18, 17], [17]), ([18, 19, 19, 17], [17, 18, 19]), ([20, 17], [17, 20]), ([17, 21], [17, 21]), ([22, 20], [22]), ([23], [23]), ([23, 23], [23]), ([24, 25, 25, 23], [23, 24, 25]), ([26, 23], [23, 26]), ([23, 27], [23, 27]), ([28, 26, 0, 1, 2, 3, 4, 5, 6, 7, 8, 9, 10, 11, 12, 13, 14, 15, 16, 17, 18, 19, 20, 21, 22, 23, 24, 25, 26, 27, 28], [28])])
def cobweblaw03_ValueAsks.B8 : List Nat := [0, 0, 3, 0, 15, 31, 63, 127, 255, 127, 639, 1663, 1663, 7807, 15999, 32767, 65535, 131071, 262143, 524287, 1048575, 2097151, 4194303, 8388607, 16777215, 16777215, 67108863, 134217727, 268435455, 536870911]
theorem cobweblaw03_ValueAsks.tab8 : rtab .any (opsOf Try.f6 8) = cobweblaw03_ValueAsks.T8 := by kernel_rfl
theorem cobweblaw03_ValueAsks.bits8 : waitsOk cobweblaw03_ValueAsks.T8.2 cobweblaw03_ValueAsks.B8 = true := by kernel_rfl
end Go.Proofs.Ytnfapjkffofcaaa.PA3
