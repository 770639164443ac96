-- Laid by a program of this session (wip/tool/mkfp.py over the kit's printer).
import Derived.Test.YtnfapjkffofcaaaPAx0
import Derived.Test.YtnfapjkffofcaaaPAx1
namespace Go.Proofs.Ytnfapjkffofcaaa.PA
open Go.RowKit Go.Proofs.YtnfapjkffofcaaaW.PrintWords Go.Proofs.YtnfapjkffofcaaaW.PrintLast Go.Proofs.YtnfapjkffofcaaaW.PrintMore Go.Proofs.Ytnfapjkffofcaaa.FW
attribute [local go_sem] max2_int min2_int max_two min_two max_three min_three max_four min_four   -- for this text's walks alone
set_option linter.unusedVariables false
set_option linter.unusedSimpArgs false

/-! ### syntax_Deep: function 9 -/
mutual
def syntax_Deep.l0 : Nat → List Int → List (S31) → Int → Int → Option (Int)
  | 0, _, _, _, _ => none
  | k + 1, x3, x13, x14, x15 => if x15 < x14 then (if 0 ≤ x15 then (if x15 < (x13.length : Int) then ((syntax_of.f ((rd_T31 x13 x15).f0)).bind fun t108 => (if ((rd_T31 x13 x15).f0) ≤ 0 then (syntax_Deep.j1 k x3 (wrap64 ((x3.length : Int) - t108)) x13 x14 x15 true) else (if ((rd_T31 x13 x15).f0) ≥ 16 then (syntax_Deep.j1 k x3 (wrap64 ((x3.length : Int) - t108)) x13 x14 x15 true) else (syntax_Deep.j1 k x3 (wrap64 ((x3.length : Int) - t108)) x13 x14 x15 (decide ((wrap64 ((x3.length : Int) - t108)) < 0)))))) else (none)) else (none)) else (if (x3.length : Int) = 1 then (if 0 < (x3.length : Int) then (some (rd x3 0)) else (none)) else (some 0))
def syntax_Deep.j1 : Nat → List Int → Int → List (S31) → Int → Int → Bool → Option (Int)
  | 0, _, _, _, _, _, _ => none
  | k + 1, x3, x6, x13, x14, x15, x36 => if x36 = true then (some 0) else (if 0 ≤ x6 then (if x6 ≤ (x3.length : Int) then ((some (x3.drop (x6 : Int).toNat : List Int)).bind fun y109 => (syntax_Deep.l1 k x3 x6 0 x13 x14 x15 y109 (y109.length : Int) 0)) else (none)) else (none))
def syntax_Deep.l1 : Nat → List Int → Int → Int → List (S31) → Int → Int → List Int → Int → Int → Option (Int)
  | 0, _, _, _, _, _, _, _, _, _ => none
  | k + 1, x3, x6, x7, x13, x14, x15, x39, x40, x41 => if x41 < x40 then (if 0 ≤ x41 then (if x41 < (x39.length : Int) then (syntax_Deep.l1 k x3 x6 (mx x7 (rd x39 x41)) x13 x14 x15 x39 x40 (wrap64 (x41 + 1))) else (none)) else (none)) else (if 0 ≤ x6 then (if x6 ≤ (x3.length : Int) then ((some (x3.take (x6 : Int).toNat : List Int)).bind fun y114 => (if y114.length < 17592186044416 then (syntax_Deep.l0 k (y114 ++ [wrap64 (x7 + 1)]) x13 x14 (wrap64 (x15 + 1))) else (none))) else (none)) else (none))
end
def syntax_Deep.f (k : Nat) (l0 : List (S31)) : Option (Int) := if (l0.length : Int) > 1000 then (some 0) else (syntax_Deep.l0 k ([] : List Int) l0 (l0.length : Int) 0)
theorem syntax_Deep.mono_l : ∀ k, (∀ y0 y1 y2 y3, LeO (syntax_Deep.l0 k y0 y1 y2 y3) (syntax_Deep.l0 (k + 1) y0 y1 y2 y3)) ∧ (∀ y0 y1 y2 y3 y4 y5, LeO (syntax_Deep.j1 k y0 y1 y2 y3 y4 y5) (syntax_Deep.j1 (k + 1) y0 y1 y2 y3 y4 y5)) ∧ (∀ y0 y1 y2 y3 y4 y5 y6 y7 y8, LeO (syntax_Deep.l1 k y0 y1 y2 y3 y4 y5 y6 y7 y8) (syntax_Deep.l1 (k + 1) y0 y1 y2 y3 y4 y5 y6 y7 y8))
  | 0 => ⟨fun _ _ _ _ r h => by simp [syntax_Deep.l0] at h, fun _ _ _ _ _ _ r h => by simp [syntax_Deep.j1] at h, fun _ _ _ _ _ _ _ _ _ r h => by simp [syntax_Deep.l1] at h⟩
  | k + 1 => by
    obtain ⟨ih0, ih1, ih2⟩ := syntax_Deep.mono_l k
    refine ⟨?_, ?_, ?_⟩
    · intro y0 y1 y2 y3
      unfold syntax_Deep.l0
      repeat' first
      | (with_reducible exact ih0 _ _ _ _)
      | (with_reducible exact ih1 _ _ _ _ _ _)
      | (with_reducible exact ih2 _ _ _ _ _ _ _ _ _)
      | (with_reducible exact LeO.refl _)
      | (with_reducible exact LeO.none _)
      | (with_reducible refine LeO.ite ?_ ?_)
      | (with_reducible refine LeO.bind ?_ (fun _ => ?_))
      | exact ih0 _ _ _ _
      | exact ih1 _ _ _ _ _ _
      | exact ih2 _ _ _ _ _ _ _ _ _
      | exact LeO.none _
      | refine LeO.ite ?_ ?_
      | refine LeO.bind ?_ (fun _ => ?_)
    · intro y0 y1 y2 y3 y4 y5
      unfold syntax_Deep.j1
      repeat' first
      | (with_reducible exact ih0 _ _ _ _)
      | (with_reducible exact ih1 _ _ _ _ _ _)
      | (with_reducible exact ih2 _ _ _ _ _ _ _ _ _)
      | (with_reducible exact LeO.refl _)
      | (with_reducible exact LeO.none _)
      | (with_reducible refine LeO.ite ?_ ?_)
      | (with_reducible refine LeO.bind ?_ (fun _ => ?_))
      | exact ih0 _ _ _ _
      | exact ih1 _ _ _ _ _ _
      | exact ih2 _ _ _ _ _ _ _ _ _
      | exact LeO.none _
      | refine LeO.ite ?_ ?_
      | refine LeO.bind ?_ (fun _ => ?_)
    · intro y0 y1 y2 y3 y4 y5 y6 y7 y8
      unfold syntax_Deep.l1
      repeat' first
      | (with_reducible exact ih0 _ _ _ _)
      | (with_reducible exact ih1 _ _ _ _ _ _)
      | (with_reducible exact ih2 _ _ _ _ _ _ _ _ _)
      | (with_reducible exact LeO.refl _)
      | (with_reducible exact LeO.none _)
      | (with_reducible refine LeO.ite ?_ ?_)
      | (with_reducible refine LeO.bind ?_ (fun _ => ?_))
      | exact ih0 _ _ _ _
      | exact ih1 _ _ _ _ _ _
      | exact ih2 _ _ _ _ _ _ _ _ _
      | exact LeO.none _
      | refine LeO.ite ?_ ?_
      | refine LeO.bind ?_ (fun _ => ?_)
theorem syntax_Deep.mono : ∀ a0 k, LeO (syntax_Deep.f k a0) (syntax_Deep.f (k + 1) a0) := by
  intro a0 k
  obtain ⟨ih0, ih1, ih2⟩ := syntax_Deep.mono_l k
  unfold syntax_Deep.f
  repeat' first
      | (with_reducible exact ih0 _ _ _ _)
      | (with_reducible exact ih1 _ _ _ _ _ _)
      | (with_reducible exact ih2 _ _ _ _ _ _ _ _ _)
      | (with_reducible exact LeO.refl _)
      | (with_reducible exact LeO.none _)
      | (with_reducible refine LeO.ite ?_ ?_)
      | (with_reducible refine LeO.bind ?_ (fun _ => ?_))
      | exact ih0 _ _ _ _
      | exact ih1 _ _ _ _ _ _
      | exact ih2 _ _ _ _ _ _ _ _ _
      | exact LeO.none _
      | refine LeO.ite ?_ ?_
      | refine LeO.bind ?_ (fun _ => ?_)
set_option maxHeartbeats 8000000 in
set_option maxRecDepth 100000 in
theorem syntax_Deep.calls (k : Nat) (A0 : Option Addr) (c0 : Nat) (l0 : List (S31)) (r : Int) (w : World) (hr0 : Kd.C k31 w A0 l0.length l0) (hc0 : l0.length ≤ c0) (h : syntax_Deep.f k l0 = some r) :
    Calls Try.prog 9 #[.slice A0 l0.length c0] w fun e w' => e = .returned (.int .i64 r) ∧ Below w.heap.size w w' := by
  have hu31 := Try.underlying31
  have HR0 := Aside0.mk hr0
  have HC0 := Aside0.mk hc0
  clear hr0 hc0
  have HB := Aside0.mk (Below.refl w.heap.size w)
  have H : (if (l0.length : Int) > 1000 then (some 0) else (syntax_Deep.l0 k ([] : List Int) l0 (l0.length : Int) 0)) = some r := h
  clear h
  by_cases c2 : (l0.length : Int) > 1000
  · rw [if_pos c2] at H
    have c2b0 : decide (1000 < (l0.length : Int)) = true := decide_eq_true c2
    have c2b1 : decide (1000 < l0.length) = true := decide_eq_true (by omega)
    clear c2
    obtain rfl := Option.some.inj H
    go_enter Try.func9, Try.ntmps9
    go_wp2
    go_ret
    exact ⟨by first | rfl | (simp [errW_none, errW_some] <;> rfl) | (simp [*, errW_none, errW_some] <;> rfl), by repeat (first | (with_reducible first | exact HB.out | apply below_alloc | apply pw_below_drewN | apply below_drew1) | exact HB.out)⟩
  · rw [if_neg c2] at H
    have c2b0 : decide (1000 < (l0.length : Int)) = false := decide_eq_false c2
    have c2b1 : decide (1000 < l0.length) = false := decide_eq_false (by omega)
    clear c2
    have H' := Aside0.mk H
    clear H
    go_enter Try.func9, Try.ntmps9
    go_wp2
    go_loopg [3, 15] k (fun kq v3 v15 w' => ∃ (x3_1 : List Int) (x15_1 : Int), v15 = .int .i64 x15_1 ∧ Aside0 (syntax_Deep.l0 kq x3_1 l0 (l0.length : Int) x15_1 = some r) ∧ Aside0 (kq ≤ k) ∧ Aside0 (Kd.R (Kd.int .i64) 3 w' w.heap.size (fun _ => True) v3 x3_1) ∧ Aside0 (Below w.heap.size w w'))
    case atStart => exact ⟨(([] : List Int)), (0), (by first | rfl | (simp; done) | (simp [*]; done)), H', ⟨Nat.le_refl _⟩, ⟨by first | exact Kd.R_nil _ _ _ _ _ | exact Kd.N_nil _ _ _ _ _ | exact Kd.V_nil _ _ _ _ _ | exact Kd.Q_nil _ _ _ _ _ | exact Kd.S_nil _ _ _ _ _⟩, ⟨by repeat (first | (with_reducible first | exact HB.out | apply below_alloc | apply pw_below_drewN | apply below_drew1) | exact HB.out)⟩⟩
    case round =>
      clear H'
      try clear c2
      try clear c2b0
      try clear c2b1
      try clear p2
      obtain ⟨x3_1, x15_1, rfl, HA, HK1, HO_3, HB⟩ := hrel
      cases gk with
      | zero => exact absurd HA.out (by simp [syntax_Deep.l0])
      | succ k1 =>
        have H := HA.out
        clear HA
        simp only [syntax_Deep.l0] at H
        by_cases c3 : x15_1 < (l0.length : Int)
        · rw [if_pos c3] at H
          have c3b0 : decide (x15_1 < (l0.length : Int)) = true := decide_eq_true c3
          clear c3
          by_cases c4 : 0 ≤ x15_1
          · rw [if_pos c4] at H
            have c4b0 : decide (0 ≤ x15_1) = true := decide_eq_true c4
            clear c4
            by_cases c5 : x15_1 < (l0.length : Int)
            · rw [if_pos c5] at H
              have c5b0 : decide (x15_1 < (l0.length : Int)) = true := decide_eq_true c5
              clear c5
              replace H := Option.bind_eq_some_iff.mp H
              obtain ⟨t108, A60, H⟩ := H
              replace H : (if ((rd_T31 l0 x15_1).f0) ≤ 0 then (syntax_Deep.j1 k1 x3_1 (wrap64 ((x3_1.length : Int) - t108)) l0 (l0.length : Int) x15_1 true) else (if ((rd_T31 l0 x15_1).f0) ≥ 16 then (syntax_Deep.j1 k1 x3_1 (wrap64 ((x3_1.length : Int) - t108)) l0 (l0.length : Int) x15_1 true) else (syntax_Deep.j1 k1 x3_1 (wrap64 ((x3_1.length : Int) - t108)) l0 (l0.length : Int) x15_1 (decide ((wrap64 ((x3_1.length : Int) - t108)) < 0))))) = some r := H
              have A6 := Aside0.mk A60
              clear A60
              have HC7 := Aside0.mk H
              clear H
              have p106 : 0 ≤ (x15_1 : Int) := of_decide_eq_true (by first | (with_reducible assumption) | assumption)
              have q106 : x15_1 < (l0.length : Int) := of_decide_eq_true (by first | (with_reducible assumption) | assumption)
              obtain ⟨ad106, A106_7, c106_7, e106, hx106_0, hx106_1, hx106_2, hx106_3, hx106_4, hx106_5, hx106_6, hx106_7, hl106_7, hi106_7⟩ := at_T31 HR0.out x15_1 p106 q106
              cases e106
              replace hx106_0 := (HB.out.cell (World.block_lt_of_cell? w _ hx106_0)).trans hx106_0
              replace hx106_1 := (HB.out.cell (World.block_lt_of_cell? w _ hx106_1)).trans hx106_1
              replace hx106_2 := (HB.out.cell (World.block_lt_of_cell? w _ hx106_2)).trans hx106_2
              replace hx106_3 := (HB.out.cell (World.block_lt_of_cell? w _ hx106_3)).trans hx106_3
              replace hx106_4 := (HB.out.cell (World.block_lt_of_cell? w _ hx106_4)).trans hx106_4
              replace hx106_5 := (HB.out.cell (World.block_lt_of_cell? w _ hx106_5)).trans hx106_5
              replace hx106_6 := (HB.out.cell (World.block_lt_of_cell? w _ hx106_6)).trans hx106_6
              replace hx106_7 := (HB.out.cell (World.block_lt_of_cell? w _ hx106_7)).trans hx106_7
              have HR106_7 := Aside0.mk hi106_7
              have HC106_7 := Aside0.mk hl106_7
              clear hi106_7 hl106_7
              replace p106 := eq_true p106
              replace q106 := eq_true q106
              go_upto_region 8 with (first | ((with_reducible refine gate_dst (N := 5) rfl ?_); refine box_event ?hg (N := 5) ?hd (cs := #[.int .i64 0, .string (⟨#[]⟩ : ByteArray), .string (⟨#[]⟩ : ByteArray), .int .i64 0, .int .i64 0, .float .f64 0, .string (⟨#[]⟩ : ByteArray), .slice none 0 0]) (t := 31) ?hr ?_; (case hd => rfl); (case hg => rfl); (case hr => first | (go_simp; done) | (go_simp; rfl)); intro gb107 hg w8 hbox hb; have n0_ := Aside0.mk (Kd.R_below (by (with_reducible repeat (first | apply Kd.R_alloc | apply Kd.R_drewN | apply Kd.R_drew)); exact HO_3.out) hb); have n1_ := Aside0.mk (below_step (by repeat (first | (with_reducible first | exact HB.out | apply below_alloc | apply pw_below_drewN | apply below_drew1) | exact HB.out)) hb); have n2_ := Aside0.mk (hbox); have n3_ := Aside0.mk ((by rw [hg]; exact (below_size (by repeat (first | (with_reducible first | exact HB.out | apply below_alloc | apply pw_below_drewN | apply below_drew1) | exact HB.out))) : w.heap.size ≤ gb107)); have n4_ := Aside0.mk ((by rw [hg]; exact (below_size (by repeat (first | (with_reducible first | exact HB.out | apply below_alloc | apply pw_below_drewN | apply below_drew1) | exact HB.out))) : w.heap.size ≤ gb107)); clear HO_3; clear HB; have HO_3 := n0_; have HB := n1_; have BK107 := n2_; have GW107 := n3_; have GE107 := n4_; clear n0_ n1_ n2_ n3_ n4_; clear hb hbox hg; have hcz9_0 : w8.cell? ⟨gb107, 0, none⟩ = some (.int .i64 0) := (blk_cell BK107.out 0).trans rfl; have hcz9_1 : w8.cell? ⟨gb107, 1, none⟩ = some (.string (⟨#[]⟩ : ByteArray)) := (blk_cell BK107.out 1).trans rfl; have hcz9_2 : w8.cell? ⟨gb107, 2, none⟩ = some (.string (⟨#[]⟩ : ByteArray)) := (blk_cell BK107.out 2).trans rfl; have hcz9_3 : w8.cell? ⟨gb107, 3, none⟩ = some (.int .i64 0) := (blk_cell BK107.out 3).trans rfl; have hcz9_4 : w8.cell? ⟨gb107, 4, none⟩ = some (.int .i64 0) := (blk_cell BK107.out 4).trans rfl; have hcz9_5 : w8.cell? ⟨gb107, 5, none⟩ = some (.float .f64 0) := (blk_cell BK107.out 5).trans rfl; have hcz9_6 : w8.cell? ⟨gb107, 6, none⟩ = some (.string (⟨#[]⟩ : ByteArray)) := (blk_cell BK107.out 6).trans rfl; have hcz9_7 : w8.cell? ⟨gb107, 7, none⟩ = some (.slice none 0 0) := (blk_cell BK107.out 7).trans rfl; have hfz9_0 := blk_frozen BK107.out 0; have hfz9_1 := blk_frozen BK107.out 1; have hfz9_2 := blk_frozen BK107.out 2; have hfz9_3 := blk_frozen BK107.out 3; have hfz9_4 := blk_frozen BK107.out 4; have hfz9_5 := blk_frozen BK107.out 5; have hfz9_6 := blk_frozen BK107.out 6; have hfz9_7 := blk_frozen BK107.out 7; obtain ⟨Ao10, co10, eo10⟩ := Kd.R_slice HO_3.out; subst eo10) | ((with_reducible refine gate_callee (f := 28) rfl ?_); refine goesL_ (some 23) rfl rfl Try.func28 (by kernel_rfl) rfl #[.int .i64 ((rd_T31 l0 x15_1).f0)] rfl (by (try simp only [List.map_toArray, List.map_cons, List.map_nil]); first | done | rfl | (simp only [List.length_drop, List.length_take]; rfl)) ?_; (with_reducible refine (syntax_of.calls ((rd_T31 l0 x15_1).f0) t108 _ A6.out).mono ?_); rintro e w' ⟨rfl, ⟨nd, rfl⟩⟩; refine ⟨_, rfl, ?_⟩))
              (try simp only [Act.put, List.setIfInBounds_toArray, List.set_cons_zero, List.set_cons_succ])
              go_cut [36] (fun v36 wc => ∃ (kq : Nat) (x36_6 : Bool), v36 = .bool x36_6 ∧ Aside0 (syntax_Deep.j1 kq x3_1 (wrap64 ((x3_1.length : Int) - t108)) l0 (l0.length : Int) x15_1 x36_6 = some r) ∧ Aside0 (kq ≤ k1) ∧ Aside0 (Kd.R (Kd.int .i64) 3 wc w.heap.size (fun _ => True) (.slice Ao10 x3_1.length co10) x3_1) ∧ Aside0 (wc.heap[gb107]? = some (.cells #[.int .i64 ((rd_T31 l0 x15_1).f0), .string ((rd_T31 l0 x15_1).f1), .string ((rd_T31 l0 x15_1).f2), .int .i64 ((rd_T31 l0 x15_1).f3.f0.f0), .int .i64 ((rd_T31 l0 x15_1).f3.f0.f1), .float .f64 ((rd_T31 l0 x15_1).f3.f0.f2), .string ((rd_T31 l0 x15_1).f3.f0.f3), (.slice A106_7 ((rd_T31 l0 x15_1).f3.f1).length c106_7)] 31 (0, 0))) ∧ Aside0 (Below w.heap.size w wc))
              case first =>
                have H := HC7.out
                clear HC7
                by_cases c11 : ((rd_T31 l0 x15_1).f0) ≤ 0
                · rw [if_pos c11] at H
                  have c11b0 : decide (((rd_T31 l0 x15_1).f0) ≤ 0) = true := decide_eq_true c11
                  clear c11
                  (first | rw [c11b0] | (simp only [i64_w, i32_w]; rw [c11b0]) | skip)
                  have H' := Aside0.mk H
                  clear H
                  have hcz12_0 : w8.cell? ⟨gb107, 0, none⟩ = some (.int .i64 0) := (blk_cell BK107.out 0).trans rfl
                  have hcz12_1 : w8.cell? ⟨gb107, 1, none⟩ = some (.string (⟨#[]⟩ : ByteArray)) := (blk_cell BK107.out 1).trans rfl
                  have hcz12_2 : w8.cell? ⟨gb107, 2, none⟩ = some (.string (⟨#[]⟩ : ByteArray)) := (blk_cell BK107.out 2).trans rfl
                  have hcz12_3 : w8.cell? ⟨gb107, 3, none⟩ = some (.int .i64 0) := (blk_cell BK107.out 3).trans rfl
                  have hcz12_4 : w8.cell? ⟨gb107, 4, none⟩ = some (.int .i64 0) := (blk_cell BK107.out 4).trans rfl
                  have hcz12_5 : w8.cell? ⟨gb107, 5, none⟩ = some (.float .f64 0) := (blk_cell BK107.out 5).trans rfl
                  have hcz12_6 : w8.cell? ⟨gb107, 6, none⟩ = some (.string (⟨#[]⟩ : ByteArray)) := (blk_cell BK107.out 6).trans rfl
                  have hcz12_7 : w8.cell? ⟨gb107, 7, none⟩ = some (.slice none 0 0) := (blk_cell BK107.out 7).trans rfl
                  have hfz12_0 := blk_frozen BK107.out 0
                  have hfz12_1 := blk_frozen BK107.out 1
                  have hfz12_2 := blk_frozen BK107.out 2
                  have hfz12_3 := blk_frozen BK107.out 3
                  have hfz12_4 := blk_frozen BK107.out 4
                  have hfz12_5 := blk_frozen BK107.out 5
                  have hfz12_6 := blk_frozen BK107.out 6
                  have hfz12_7 := blk_frozen BK107.out 7
                  go_wp2
                  go_meet
                  case rel => exact ⟨_, (true), (by first | rfl | (simp; done) | (simp [*]; done)), H', ⟨by have := HK1.out; first | omega | exact Nat.le_refl _⟩, ⟨by (with_reducible repeat (first | apply Kd.R_alloc | apply Kd.R_drewN | apply Kd.R_drew)); exact Kd.R_mono (Kd.R_far (p := ⟨gb107, 7, none⟩) (Kd.R_far (p := ⟨gb107, 6, none⟩) (Kd.R_far (p := ⟨gb107, 5, none⟩) (Kd.R_far (p := ⟨gb107, 4, none⟩) (Kd.R_far (p := ⟨gb107, 3, none⟩) (Kd.R_far (p := ⟨gb107, 2, none⟩) (Kd.R_far (p := ⟨gb107, 1, none⟩) (Kd.R_far (p := ⟨gb107, 0, none⟩) (Kd.R_types HO_3.out BK107.out (by decide)) (fun _ hk => hk.2) (.int .i64 ((rd_T31 l0 x15_1).f0))) (fun _ hk => hk.2) (.string ((rd_T31 l0 x15_1).f1))) (fun _ hk => hk.2) (.string ((rd_T31 l0 x15_1).f2))) (fun _ hk => hk.2) (.int .i64 ((rd_T31 l0 x15_1).f3.f0.f0))) (fun _ hk => hk.2) (.int .i64 ((rd_T31 l0 x15_1).f3.f0.f1))) (fun _ hk => hk.2) (.float .f64 ((rd_T31 l0 x15_1).f3.f0.f2))) (fun _ hk => hk.2) (.string ((rd_T31 l0 x15_1).f3.f0.f3))) (fun _ hk => hk.2) (.slice A106_7 ((rd_T31 l0 x15_1).f3.f1).length c106_7)) (fun _ hk => trivial)⟩, ⟨by (with_reducible repeat (first | refine blk_drewN ?_ _ | refine blk_drew ?_ | refine blk_alloc ?_ _)); refine blk_put (cs := #[.int .i64 ((rd_T31 l0 x15_1).f0), .string ((rd_T31 l0 x15_1).f1), .string ((rd_T31 l0 x15_1).f2), .int .i64 ((rd_T31 l0 x15_1).f3.f0.f0), .int .i64 ((rd_T31 l0 x15_1).f3.f0.f1), .float .f64 ((rd_T31 l0 x15_1).f3.f0.f2), .string ((rd_T31 l0 x15_1).f3.f0.f3), .slice none 0 0]) ?_ 7 _ rfl; (with_reducible repeat (first | refine blk_drewN ?_ _ | refine blk_drew ?_ | refine blk_alloc ?_ _)); refine blk_put (cs := #[.int .i64 ((rd_T31 l0 x15_1).f0), .string ((rd_T31 l0 x15_1).f1), .string ((rd_T31 l0 x15_1).f2), .int .i64 ((rd_T31 l0 x15_1).f3.f0.f0), .int .i64 ((rd_T31 l0 x15_1).f3.f0.f1), .float .f64 ((rd_T31 l0 x15_1).f3.f0.f2), .string (⟨#[]⟩ : ByteArray), .slice none 0 0]) ?_ 6 _ rfl; (with_reducible repeat (first | refine blk_drewN ?_ _ | refine blk_drew ?_ | refine blk_alloc ?_ _)); refine blk_put (cs := #[.int .i64 ((rd_T31 l0 x15_1).f0), .string ((rd_T31 l0 x15_1).f1), .string ((rd_T31 l0 x15_1).f2), .int .i64 ((rd_T31 l0 x15_1).f3.f0.f0), .int .i64 ((rd_T31 l0 x15_1).f3.f0.f1), .float .f64 0, .string (⟨#[]⟩ : ByteArray), .slice none 0 0]) ?_ 5 _ rfl; (with_reducible repeat (first | refine blk_drewN ?_ _ | refine blk_drew ?_ | refine blk_alloc ?_ _)); refine blk_put (cs := #[.int .i64 ((rd_T31 l0 x15_1).f0), .string ((rd_T31 l0 x15_1).f1), .string ((rd_T31 l0 x15_1).f2), .int .i64 ((rd_T31 l0 x15_1).f3.f0.f0), .int .i64 0, .float .f64 0, .string (⟨#[]⟩ : ByteArray), .slice none 0 0]) ?_ 4 _ rfl; (with_reducible repeat (first | refine blk_drewN ?_ _ | refine blk_drew ?_ | refine blk_alloc ?_ _)); refine blk_put (cs := #[.int .i64 ((rd_T31 l0 x15_1).f0), .string ((rd_T31 l0 x15_1).f1), .string ((rd_T31 l0 x15_1).f2), .int .i64 0, .int .i64 0, .float .f64 0, .string (⟨#[]⟩ : ByteArray), .slice none 0 0]) ?_ 3 _ rfl; (with_reducible repeat (first | refine blk_drewN ?_ _ | refine blk_drew ?_ | refine blk_alloc ?_ _)); refine blk_put (cs := #[.int .i64 ((rd_T31 l0 x15_1).f0), .string ((rd_T31 l0 x15_1).f1), .string (⟨#[]⟩ : ByteArray), .int .i64 0, .int .i64 0, .float .f64 0, .string (⟨#[]⟩ : ByteArray), .slice none 0 0]) ?_ 2 _ rfl; (with_reducible repeat (first | refine blk_drewN ?_ _ | refine blk_drew ?_ | refine blk_alloc ?_ _)); refine blk_put (cs := #[.int .i64 ((rd_T31 l0 x15_1).f0), .string (⟨#[]⟩ : ByteArray), .string (⟨#[]⟩ : ByteArray), .int .i64 0, .int .i64 0, .float .f64 0, .string (⟨#[]⟩ : ByteArray), .slice none 0 0]) ?_ 1 _ rfl; (with_reducible repeat (first | refine blk_drewN ?_ _ | refine blk_drew ?_ | refine blk_alloc ?_ _)); refine blk_put (cs := #[.int .i64 0, .string (⟨#[]⟩ : ByteArray), .string (⟨#[]⟩ : ByteArray), .int .i64 0, .int .i64 0, .float .f64 0, .string (⟨#[]⟩ : ByteArray), .slice none 0 0]) ?_ 0 _ rfl; (with_reducible repeat (first | refine blk_drewN ?_ _ | refine blk_drew ?_ | refine blk_alloc ?_ _)); exact BK107.out⟩, ⟨by repeat (first | (with_reducible first | exact HB.out | apply below_alloc | apply pw_below_drewN | apply below_drew1 | refine below_set ?_ GE107.out) | exact HB.out)⟩⟩
                · rw [if_neg c11] at H
                  have c11b0 : decide (((rd_T31 l0 x15_1).f0) ≤ 0) = false := decide_eq_false c11
                  clear c11
                  (first | rw [c11b0] | (simp only [i64_w, i32_w]; rw [c11b0]) | skip)
                  by_cases c13 : ((rd_T31 l0 x15_1).f0) ≥ 16
                  · rw [if_pos c13] at H
                    have c13b0 : decide (16 ≤ ((rd_T31 l0 x15_1).f0)) = true := decide_eq_true c13
                    clear c13
                    have H' := Aside0.mk H
                    clear H
                    have hcz14_0 : w8.cell? ⟨gb107, 0, none⟩ = some (.int .i64 0) := (blk_cell BK107.out 0).trans rfl
                    have hcz14_1 : w8.cell? ⟨gb107, 1, none⟩ = some (.string (⟨#[]⟩ : ByteArray)) := (blk_cell BK107.out 1).trans rfl
                    have hcz14_2 : w8.cell? ⟨gb107, 2, none⟩ = some (.string (⟨#[]⟩ : ByteArray)) := (blk_cell BK107.out 2).trans rfl
                    have hcz14_3 : w8.cell? ⟨gb107, 3, none⟩ = some (.int .i64 0) := (blk_cell BK107.out 3).trans rfl
                    have hcz14_4 : w8.cell? ⟨gb107, 4, none⟩ = some (.int .i64 0) := (blk_cell BK107.out 4).trans rfl
                    have hcz14_5 : w8.cell? ⟨gb107, 5, none⟩ = some (.float .f64 0) := (blk_cell BK107.out 5).trans rfl
                    have hcz14_6 : w8.cell? ⟨gb107, 6, none⟩ = some (.string (⟨#[]⟩ : ByteArray)) := (blk_cell BK107.out 6).trans rfl
                    have hcz14_7 : w8.cell? ⟨gb107, 7, none⟩ = some (.slice none 0 0) := (blk_cell BK107.out 7).trans rfl
                    have hfz14_0 := blk_frozen BK107.out 0
                    have hfz14_1 := blk_frozen BK107.out 1
                    have hfz14_2 := blk_frozen BK107.out 2
                    have hfz14_3 := blk_frozen BK107.out 3
                    have hfz14_4 := blk_frozen BK107.out 4
                    have hfz14_5 := blk_frozen BK107.out 5
                    have hfz14_6 := blk_frozen BK107.out 6
                    have hfz14_7 := blk_frozen BK107.out 7
                    go_wp2
                    go_meet
                    case rel => exact ⟨_, (true), (by first | rfl | (simp; done) | (simp [*]; done)), H', ⟨by have := HK1.out; first | omega | exact Nat.le_refl _⟩, ⟨by (with_reducible repeat (first | apply Kd.R_alloc | apply Kd.R_drewN | apply Kd.R_drew)); exact Kd.R_mono (Kd.R_far (p := ⟨gb107, 7, none⟩) (Kd.R_far (p := ⟨gb107, 6, none⟩) (Kd.R_far (p := ⟨gb107, 5, none⟩) (Kd.R_far (p := ⟨gb107, 4, none⟩) (Kd.R_far (p := ⟨gb107, 3, none⟩) (Kd.R_far (p := ⟨gb107, 2, none⟩) (Kd.R_far (p := ⟨gb107, 1, none⟩) (Kd.R_far (p := ⟨gb107, 0, none⟩) (Kd.R_types HO_3.out BK107.out (by decide)) (fun _ hk => hk.2) (.int .i64 ((rd_T31 l0 x15_1).f0))) (fun _ hk => hk.2) (.string ((rd_T31 l0 x15_1).f1))) (fun _ hk => hk.2) (.string ((rd_T31 l0 x15_1).f2))) (fun _ hk => hk.2) (.int .i64 ((rd_T31 l0 x15_1).f3.f0.f0))) (fun _ hk => hk.2) (.int .i64 ((rd_T31 l0 x15_1).f3.f0.f1))) (fun _ hk => hk.2) (.float .f64 ((rd_T31 l0 x15_1).f3.f0.f2))) (fun _ hk => hk.2) (.string ((rd_T31 l0 x15_1).f3.f0.f3))) (fun _ hk => hk.2) (.slice A106_7 ((rd_T31 l0 x15_1).f3.f1).length c106_7)) (fun _ hk => trivial)⟩, ⟨by (with_reducible repeat (first | refine blk_drewN ?_ _ | refine blk_drew ?_ | refine blk_alloc ?_ _)); refine blk_put (cs := #[.int .i64 ((rd_T31 l0 x15_1).f0), .string ((rd_T31 l0 x15_1).f1), .string ((rd_T31 l0 x15_1).f2), .int .i64 ((rd_T31 l0 x15_1).f3.f0.f0), .int .i64 ((rd_T31 l0 x15_1).f3.f0.f1), .float .f64 ((rd_T31 l0 x15_1).f3.f0.f2), .string ((rd_T31 l0 x15_1).f3.f0.f3), .slice none 0 0]) ?_ 7 _ rfl; (with_reducible repeat (first | refine blk_drewN ?_ _ | refine blk_drew ?_ | refine blk_alloc ?_ _)); refine blk_put (cs := #[.int .i64 ((rd_T31 l0 x15_1).f0), .string ((rd_T31 l0 x15_1).f1), .string ((rd_T31 l0 x15_1).f2), .int .i64 ((rd_T31 l0 x15_1).f3.f0.f0), .int .i64 ((rd_T31 l0 x15_1).f3.f0.f1), .float .f64 ((rd_T31 l0 x15_1).f3.f0.f2), .string (⟨#[]⟩ : ByteArray), .slice none 0 0]) ?_ 6 _ rfl; (with_reducible repeat (first | refine blk_drewN ?_ _ | refine blk_drew ?_ | refine blk_alloc ?_ _)); refine blk_put (cs := #[.int .i64 ((rd_T31 l0 x15_1).f0), .string ((rd_T31 l0 x15_1).f1), .string ((rd_T31 l0 x15_1).f2), .int .i64 ((rd_T31 l0 x15_1).f3.f0.f0), .int .i64 ((rd_T31 l0 x15_1).f3.f0.f1), .float .f64 0, .string (⟨#[]⟩ : ByteArray), .slice none 0 0]) ?_ 5 _ rfl; (with_reducible repeat (first | refine blk_drewN ?_ _ | refine blk_drew ?_ | refine blk_alloc ?_ _)); refine blk_put (cs := #[.int .i64 ((rd_T31 l0 x15_1).f0), .string ((rd_T31 l0 x15_1).f1), .string ((rd_T31 l0 x15_1).f2), .int .i64 ((rd_T31 l0 x15_1).f3.f0.f0), .int .i64 0, .float .f64 0, .string (⟨#[]⟩ : ByteArray), .slice none 0 0]) ?_ 4 _ rfl; (with_reducible repeat (first | refine blk_drewN ?_ _ | refine blk_drew ?_ | refine blk_alloc ?_ _)); refine blk_put (cs := #[.int .i64 ((rd_T31 l0 x15_1).f0), .string ((rd_T31 l0 x15_1).f1), .string ((rd_T31 l0 x15_1).f2), .int .i64 0, .int .i64 0, .float .f64 0, .string (⟨#[]⟩ : ByteArray), .slice none 0 0]) ?_ 3 _ rfl; (with_reducible repeat (first | refine blk_drewN ?_ _ | refine blk_drew ?_ | refine blk_alloc ?_ _)); refine blk_put (cs := #[.int .i64 ((rd_T31 l0 x15_1).f0), .string ((rd_T31 l0 x15_1).f1), .string (⟨#[]⟩ : ByteArray), .int .i64 0, .int .i64 0, .float .f64 0, .string (⟨#[]⟩ : ByteArray), .slice none 0 0]) ?_ 2 _ rfl; (with_reducible repeat (first | refine blk_drewN ?_ _ | refine blk_drew ?_ | refine blk_alloc ?_ _)); refine blk_put (cs := #[.int .i64 ((rd_T31 l0 x15_1).f0), .string (⟨#[]⟩ : ByteArray), .string (⟨#[]⟩ : ByteArray), .int .i64 0, .int .i64 0, .float .f64 0, .string (⟨#[]⟩ : ByteArray), .slice none 0 0]) ?_ 1 _ rfl; (with_reducible repeat (first | refine blk_drewN ?_ _ | refine blk_drew ?_ | refine blk_alloc ?_ _)); refine blk_put (cs := #[.int .i64 0, .string (⟨#[]⟩ : ByteArray), .string (⟨#[]⟩ : ByteArray), .int .i64 0, .int .i64 0, .float .f64 0, .string (⟨#[]⟩ : ByteArray), .slice none 0 0]) ?_ 0 _ rfl; (with_reducible repeat (first | refine blk_drewN ?_ _ | refine blk_drew ?_ | refine blk_alloc ?_ _)); exact BK107.out⟩, ⟨by repeat (first | (with_reducible first | exact HB.out | apply below_alloc | apply pw_below_drewN | apply below_drew1 | refine below_set ?_ GE107.out) | exact HB.out)⟩⟩
                  · rw [if_neg c13] at H
                    have c13b0 : decide (16 ≤ ((rd_T31 l0 x15_1).f0)) = false := decide_eq_false c13
                    clear c13
                    have H' := Aside0.mk H
                    clear H
                    have hcz15_0 : w8.cell? ⟨gb107, 0, none⟩ = some (.int .i64 0) := (blk_cell BK107.out 0).trans rfl
                    have hcz15_1 : w8.cell? ⟨gb107, 1, none⟩ = some (.string (⟨#[]⟩ : ByteArray)) := (blk_cell BK107.out 1).trans rfl
                    have hcz15_2 : w8.cell? ⟨gb107, 2, none⟩ = some (.string (⟨#[]⟩ : ByteArray)) := (blk_cell BK107.out 2).trans rfl
                    have hcz15_3 : w8.cell? ⟨gb107, 3, none⟩ = some (.int .i64 0) := (blk_cell BK107.out 3).trans rfl
                    have hcz15_4 : w8.cell? ⟨gb107, 4, none⟩ = some (.int .i64 0) := (blk_cell BK107.out 4).trans rfl
                    have hcz15_5 : w8.cell? ⟨gb107, 5, none⟩ = some (.float .f64 0) := (blk_cell BK107.out 5).trans rfl
                    have hcz15_6 : w8.cell? ⟨gb107, 6, none⟩ = some (.string (⟨#[]⟩ : ByteArray)) := (blk_cell BK107.out 6).trans rfl
                    have hcz15_7 : w8.cell? ⟨gb107, 7, none⟩ = some (.slice none 0 0) := (blk_cell BK107.out 7).trans rfl
                    have hfz15_0 := blk_frozen BK107.out 0
                    have hfz15_1 := blk_frozen BK107.out 1
                    have hfz15_2 := blk_frozen BK107.out 2
                    have hfz15_3 := blk_frozen BK107.out 3
                    have hfz15_4 := blk_frozen BK107.out 4
                    have hfz15_5 := blk_frozen BK107.out 5
                    have hfz15_6 := blk_frozen BK107.out 6
                    have hfz15_7 := blk_frozen BK107.out 7
                    go_wp2
                    go_meet
                    case rel => exact ⟨_, (decide ((wrap64 ((x3_1.length : Int) - t108)) < 0)), (by first | rfl | (simp; done) | (simp [*]; done)), H', ⟨by have := HK1.out; first | omega | exact Nat.le_refl _⟩, ⟨by (with_reducible repeat (first | apply Kd.R_alloc | apply Kd.R_drewN | apply Kd.R_drew)); exact Kd.R_mono (Kd.R_far (p := ⟨gb107, 7, none⟩) (Kd.R_far (p := ⟨gb107, 6, none⟩) (Kd.R_far (p := ⟨gb107, 5, none⟩) (Kd.R_far (p := ⟨gb107, 4, none⟩) (Kd.R_far (p := ⟨gb107, 3, none⟩) (Kd.R_far (p := ⟨gb107, 2, none⟩) (Kd.R_far (p := ⟨gb107, 1, none⟩) (Kd.R_far (p := ⟨gb107, 0, none⟩) (Kd.R_types HO_3.out BK107.out (by decide)) (fun _ hk => hk.2) (.int .i64 ((rd_T31 l0 x15_1).f0))) (fun _ hk => hk.2) (.string ((rd_T31 l0 x15_1).f1))) (fun _ hk => hk.2) (.string ((rd_T31 l0 x15_1).f2))) (fun _ hk => hk.2) (.int .i64 ((rd_T31 l0 x15_1).f3.f0.f0))) (fun _ hk => hk.2) (.int .i64 ((rd_T31 l0 x15_1).f3.f0.f1))) (fun _ hk => hk.2) (.float .f64 ((rd_T31 l0 x15_1).f3.f0.f2))) (fun _ hk => hk.2) (.string ((rd_T31 l0 x15_1).f3.f0.f3))) (fun _ hk => hk.2) (.slice A106_7 ((rd_T31 l0 x15_1).f3.f1).length c106_7)) (fun _ hk => trivial)⟩, ⟨by (with_reducible repeat (first | refine blk_drewN ?_ _ | refine blk_drew ?_ | refine blk_alloc ?_ _)); refine blk_put (cs := #[.int .i64 ((rd_T31 l0 x15_1).f0), .string ((rd_T31 l0 x15_1).f1), .string ((rd_T31 l0 x15_1).f2), .int .i64 ((rd_T31 l0 x15_1).f3.f0.f0), .int .i64 ((rd_T31 l0 x15_1).f3.f0.f1), .float .f64 ((rd_T31 l0 x15_1).f3.f0.f2), .string ((rd_T31 l0 x15_1).f3.f0.f3), .slice none 0 0]) ?_ 7 _ rfl; (with_reducible repeat (first | refine blk_drewN ?_ _ | refine blk_drew ?_ | refine blk_alloc ?_ _)); refine blk_put (cs := #[.int .i64 ((rd_T31 l0 x15_1).f0), .string ((rd_T31 l0 x15_1).f1), .string ((rd_T31 l0 x15_1).f2), .int .i64 ((rd_T31 l0 x15_1).f3.f0.f0), .int .i64 ((rd_T31 l0 x15_1).f3.f0.f1), .float .f64 ((rd_T31 l0 x15_1).f3.f0.f2), .string (⟨#[]⟩ : ByteArray), .slice none 0 0]) ?_ 6 _ rfl; (with_reducible repeat (first | refine blk_drewN ?_ _ | refine blk_drew ?_ | refine blk_alloc ?_ _)); refine blk_put (cs := #[.int .i64 ((rd_T31 l0 x15_1).f0), .string ((rd_T31 l0 x15_1).f1), .string ((rd_T31 l0 x15_1).f2), .int .i64 ((rd_T31 l0 x15_1).f3.f0.f0), .int .i64 ((rd_T31 l0 x15_1).f3.f0.f1), .float .f64 0, .string (⟨#[]⟩ : ByteArray), .slice none 0 0]) ?_ 5 _ rfl; (with_reducible repeat (first | refine blk_drewN ?_ _ | refine blk_drew ?_ | refine blk_alloc ?_ _)); refine blk_put (cs := #[.int .i64 ((rd_T31 l0 x15_1).f0), .string ((rd_T31 l0 x15_1).f1), .string ((rd_T31 l0 x15_1).f2), .int .i64 ((rd_T31 l0 x15_1).f3.f0.f0), .int .i64 0, .float .f64 0, .string (⟨#[]⟩ : ByteArray), .slice none 0 0]) ?_ 4 _ rfl; (with_reducible repeat (first | refine blk_drewN ?_ _ | refine blk_drew ?_ | refine blk_alloc ?_ _)); refine blk_put (cs := #[.int .i64 ((rd_T31 l0 x15_1).f0), .string ((rd_T31 l0 x15_1).f1), .string ((rd_T31 l0 x15_1).f2), .int .i64 0, .int .i64 0, .float .f64 0, .string (⟨#[]⟩ : ByteArray), .slice none 0 0]) ?_ 3 _ rfl; (with_reducible repeat (first | refine blk_drewN ?_ _ | refine blk_drew ?_ | refine blk_alloc ?_ _)); refine blk_put (cs := #[.int .i64 ((rd_T31 l0 x15_1).f0), .string ((rd_T31 l0 x15_1).f1), .string (⟨#[]⟩ : ByteArray), .int .i64 0, .int .i64 0, .float .f64 0, .string (⟨#[]⟩ : ByteArray), .slice none 0 0]) ?_ 2 _ rfl; (with_reducible repeat (first | refine blk_drewN ?_ _ | refine blk_drew ?_ | refine blk_alloc ?_ _)); refine blk_put (cs := #[.int .i64 ((rd_T31 l0 x15_1).f0), .string (⟨#[]⟩ : ByteArray), .string (⟨#[]⟩ : ByteArray), .int .i64 0, .int .i64 0, .float .f64 0, .string (⟨#[]⟩ : ByteArray), .slice none 0 0]) ?_ 1 _ rfl; (with_reducible repeat (first | refine blk_drewN ?_ _ | refine blk_drew ?_ | refine blk_alloc ?_ _)); refine blk_put (cs := #[.int .i64 0, .string (⟨#[]⟩ : ByteArray), .string (⟨#[]⟩ : ByteArray), .int .i64 0, .int .i64 0, .float .f64 0, .string (⟨#[]⟩ : ByteArray), .slice none 0 0]) ?_ 0 _ rfl; (with_reducible repeat (first | refine blk_drewN ?_ _ | refine blk_drew ?_ | refine blk_alloc ?_ _)); exact BK107.out⟩, ⟨by repeat (first | (with_reducible first | exact HB.out | apply below_alloc | apply pw_below_drewN | apply below_drew1 | refine below_set ?_ GE107.out) | exact HB.out)⟩⟩
              case rest =>
                clear HC7
                try clear c1
                try clear p1
                try clear q1
                try clear hx1
                try clear c2
                try clear c2b0
                try clear c2b1
                try clear p2
                try clear c3
                try clear c3b0
                try clear c4
                try clear c4b0
                try clear c5
                try clear c5b0
                try clear p6
                try clear c9
                try clear c10
                try clear p10
                try clear q10
                try clear hx10
                try clear c11
                try clear c11b0
                try clear c13
                try clear c13b0
                try clear hcz12_0
                try clear hcz12_1
                try clear hcz12_2
                try clear hcz12_3
                try clear hcz12_4
                try clear hcz12_5
                try clear hcz12_6
                try clear hcz12_7
                try clear hcz14_0
                try clear hcz14_1
                try clear hcz14_2
                try clear hcz14_3
                try clear hcz14_4
                try clear hcz14_5
                try clear hcz14_6
                try clear hcz14_7
                try clear hcz15_0
                try clear hcz15_1
                try clear hcz15_2
                try clear hcz15_3
                try clear hcz15_4
                try clear hcz15_5
                try clear hcz15_6
                try clear hcz15_7
                try clear hcz9_0
                try clear hcz9_1
                try clear hcz9_2
                try clear hcz9_3
                try clear hcz9_4
                try clear hcz9_5
                try clear hcz9_6
                try clear hcz9_7
                try clear hfz12_0
                try clear hfz12_1
                try clear hfz12_2
                try clear hfz12_3
                try clear hfz12_4
                try clear hfz12_5
                try clear hfz12_6
                try clear hfz12_7
                try clear hfz14_0
                try clear hfz14_1
                try clear hfz14_2
                try clear hfz14_3
                try clear hfz14_4
                try clear hfz14_5
                try clear hfz14_6
                try clear hfz14_7
                try clear hfz15_0
                try clear hfz15_1
                try clear hfz15_2
                try clear hfz15_3
                try clear hfz15_4
                try clear hfz15_5
                try clear hfz15_6
                try clear hfz15_7
                try clear hfz9_0
                try clear hfz9_1
                try clear hfz9_2
                try clear hfz9_3
                try clear hfz9_4
                try clear hfz9_5
                try clear hfz9_6
                try clear hfz9_7
                try clear hx106_0
                try clear hx106_1
                try clear hx106_2
                try clear hx106_3
                try clear hx106_4
                try clear hx106_5
                try clear hx106_6
                try clear hx106_7
                try clear p106
                try clear p2
                try clear q106
                obtain ⟨kq, x36_6, rfl, HA, HJ6, HO_3, BK107, HB⟩ := hcut
                cases kq with
                | zero => exact absurd HA.out (by simp [syntax_Deep.j1])
                | succ kj6 =>
                  have H := HA.out
                  clear HA
                  simp only [syntax_Deep.j1] at H
                  by_cases c16 : x36_6 = true
                  · subst c16
                    have H1 : (some 0) = some r := by rw [if_pos rfl] at H; exact H
                    clear H
                    have H := H1
                    clear H1
                    obtain rfl := Option.some.inj H
                    go_wp2
                    go_ret
                    exact ⟨by first | rfl | (simp [errW_none, errW_some] <;> rfl) | (simp [*, errW_none, errW_some] <;> rfl), by repeat (first | (with_reducible first | exact HB.out | apply below_alloc | apply pw_below_drewN | apply below_drew1 | refine below_set ?_ GE107.out) | exact HB.out)⟩
                  · replace c16 := Bool.eq_false_iff.mpr c16
                    subst c16
                    have H1 : (if 0 ≤ (wrap64 ((x3_1.length : Int) - t108)) then (if (wrap64 ((x3_1.length : Int) - t108)) ≤ (x3_1.length : Int) then ((some (x3_1.drop ((wrap64 ((x3_1.length : Int) - t108)) : Int).toNat : List Int)).bind fun y109 => (syntax_Deep.l1 kj6 x3_1 (wrap64 ((x3_1.length : Int) - t108)) 0 l0 (l0.length : Int) x15_1 y109 (y109.length : Int) 0)) else (none)) else (none)) = some r := by rw [if_neg (show ¬ (false = true) by decide)] at H; exact H
                    clear H
                    have H := H1
                    clear H1
                    obtain ⟨ji17, hji17⟩ : ∃ j_ : Int, (wrap64 ((x3_1.length : Int) - t108)) = j_ := ⟨_, rfl⟩
                    replace H : (if 0 ≤ (ji17) then (if (ji17) ≤ (x3_1.length : Int) then ((some (x3_1.drop ((ji17) : Int).toNat : List Int)).bind fun y109 => (syntax_Deep.l1 kj6 x3_1 (ji17) 0 l0 (l0.length : Int) x15_1 y109 (y109.length : Int) 0)) else (none)) else (none)) = some r := by first | (rw [hji17] at H; exact H) | (simp only [hji17] at H ⊢; exact H)
                    have hji17w : (IntKind.i64.wrap ((x3_1.length : Int) - t108)) = ji17 := (i64_w _).trans hji17
                    by_cases c18 : 0 ≤ (ji17)
                    · rw [if_pos c18] at H
                      have c18b0 := eq_true c18
                      have c18b1 : decide (0 ≤ (ji17)) = true := decide_eq_true c18
                      clear c18
                      by_cases c19 : (ji17) ≤ (x3_1.length : Int)
                      · rw [if_pos c19] at H
                        have c19b0 := eq_true c19
                        have c19b1 : decide ((ji17) ≤ (x3_1.length : Int)) = true := decide_eq_true c19
                        clear c19
                        obtain ⟨y109, hy109⟩ : ∃ y_ : List Int, y_ = (x3_1.drop ((ji17) : Int).toNat) := ⟨_, rfl⟩
                        replace H : (syntax_Deep.l1 kj6 x3_1 (ji17) 0 l0 (l0.length : Int) x15_1 y109 (y109.length : Int) 0) = some r := by first | (rw [hy109]; with_reducible exact H) | (have H2_ := (Option.bind_some _ _).symm.trans H; rw [hy109]; with_reducible exact H2_) | (have H2_ := (Option.bind_some _ _).symm.trans H; with_reducible exact H2_) | with_reducible exact H | (rw [hy109]; exact H) | exact H
                        have Ny109 := Aside0.mk hy109
                        clear hy109
                        have H' := Aside0.mk H
                        clear H
                        have q20 : ((ji17) : Int) ≤ ((x3_1.length : Int) : Int) := of_decide_eq_true (by first | (with_reducible assumption) | assumption)
                        obtain ⟨i020, hi020, _, hsz20, _⟩ := info_parts info3
                        have hroom20 : x3_1.length ≤ co10 := (Kd.R_reads' HO_3.out).2.1
                        have hC20 : Kd.C (Kd.int .i64) _ Ao10 x3_1.length x3_1 := (Kd.R_reads' HO_3.out).2.2
                        have q020 : (0 : Int) ≤ ((ji17) : Int) := of_decide_eq_true (by first | (with_reducible assumption) | assumption)
                        have hcut20 := cut_from (P := Try.prog) 71 3 .i64 Try.underlying71 hi020 1 hsz20 Ao10 x3_1.length co10 (ji17) q020 q20
                        have hr20 := Kd.C_drop (m := ((ji17) : Int).toNat) (c := co10) hC20 (by omega) hroom20
                        obtain ⟨A20, hA20⟩ : ∃ A1, A1 = (if co10 = ((ji17) : Int).toNat then Ao10 else (Ao10 : Option Addr).map (·.add (((ji17) : Int).toNat * 1))) := ⟨_, rfl⟩
                        obtain ⟨c20, hc20⟩ : ∃ c1, c1 = co10 - ((ji17) : Int).toNat := ⟨_, rfl⟩
                        have hy20 : y109.length = x3_1.length - ((ji17) : Int).toNat := (by rw [Ny109.out, List.length_drop] <;> omega)
                        rw [show (x3_1).drop ((ji17) : Int).toNat = y109 from Ny109.out.symm] at hr20
                        replace hr20 : Kd.C (Kd.int .i64) _ A20 y109.length y109 := (by rw [hA20]; exact hr20)
                        rw [← hy20, ← hA20, ← hc20] at hcut20
                        have HR112 := Aside0.mk hr20
                        have HC112 := Aside0.mk (show y109.length ≤ c20 from by rw [hy20, hc20]; exact Nat.sub_le_sub_right hroom20 _)
                        clear hr20 hC20 hroom20 hi020 hsz20 hc20
                        have KY20 := Aside0.mk hy20
                        have KA20 := Aside0.mk hA20
                        clear hy20 hA20
                        have KL20 := Aside0.mk (show ((ji17) : Int).toNat ≤ x3_1.length from by omega)
                        replace q20 := eq_true q20
                        go_wp2
                        go_loopg [7, 41] kj6 (fun kq v7 v41 w' => ∃ (x7_3 : Int) (x41_3 : Int), v7 = .int .i64 x7_3 ∧ v41 = .int .i64 x41_3 ∧ Aside0 (syntax_Deep.l1 kq x3_1 (ji17) x7_3 l0 (l0.length : Int) x15_1 y109 (y109.length : Int) x41_3 = some r) ∧ Aside0 (kq ≤ kj6) ∧ Aside0 (Kd.R (Kd.int .i64) 3 w' w.heap.size (fun _ => True) (.slice Ao10 x3_1.length co10) x3_1) ∧ Aside0 (w'.heap[gb107]? = some (.cells #[.int .i64 ((rd_T31 l0 x15_1).f0), .string ((rd_T31 l0 x15_1).f1), .string ((rd_T31 l0 x15_1).f2), .int .i64 ((rd_T31 l0 x15_1).f3.f0.f0), .int .i64 ((rd_T31 l0 x15_1).f3.f0.f1), .float .f64 ((rd_T31 l0 x15_1).f3.f0.f2), .string ((rd_T31 l0 x15_1).f3.f0.f3), (.slice A106_7 ((rd_T31 l0 x15_1).f3.f1).length c106_7)] 31 (0, 0))) ∧ Aside0 (Kd.C (Kd.int .i64) w' A20 y109.length y109) ∧ Aside0 (Below w.heap.size w w'))
                        case atStart => exact ⟨(0), (0), (by first | rfl | (simp; done) | (simp [*]; done)), (by first | rfl | (simp; done) | (simp [*]; done)), H', ⟨Nat.le_refl _⟩, ⟨by (with_reducible repeat (first | apply Kd.R_alloc | apply Kd.R_drewN | apply Kd.R_drew)); exact HO_3.out⟩, ⟨by (with_reducible repeat (first | refine blk_drewN ?_ _ | refine blk_drew ?_ | refine blk_alloc ?_ _)); exact BK107.out⟩, ⟨by repeat (first | (with_reducible exact HR112.out) | (with_reducible refine Kd.C_alloc ?_ _) | (with_reducible refine Kd.C_drewN ?_ _) | (with_reducible refine Kd.C_drew ?_) | exact HR112.out)⟩, ⟨by repeat (first | (with_reducible first | exact HB.out | apply below_alloc | apply pw_below_drewN | apply below_drew1 | refine below_set ?_ GE107.out) | exact HB.out)⟩⟩
                        case round =>
                          clear H'
                          try clear c1
                          try clear p1
                          try clear q1
                          try clear hx1
                          try clear c2
                          try clear c2b0
                          try clear c2b1
                          try clear p2
                          try clear q2
                          try clear c3
                          try clear c3b0
                          try clear c4
                          try clear c4b0
                          try clear c5
                          try clear c5b0
                          try clear p6
                          try clear c9
                          try clear c10
                          try clear p10
                          try clear q10
                          try clear hx10
                          try clear c11
                          try clear c11b0
                          try clear c13
                          try clear c13b0
                          try clear c16
                          try clear c18
                          try clear c18b0
                          try clear c18b1
                          try clear c19
                          try clear c19b0
                          try clear c19b1
                          try clear c20
                          try clear q20
                          try clear hcz12_0
                          try clear hcz12_1
                          try clear hcz12_2
                          try clear hcz12_3
                          try clear hcz12_4
                          try clear hcz12_5
                          try clear hcz12_6
                          try clear hcz12_7
                          try clear hcz14_0
                          try clear hcz14_1
                          try clear hcz14_2
                          try clear hcz14_3
                          try clear hcz14_4
                          try clear hcz14_5
                          try clear hcz14_6
                          try clear hcz14_7
                          try clear hcz15_0
                          try clear hcz15_1
                          try clear hcz15_2
                          try clear hcz15_3
                          try clear hcz15_4
                          try clear hcz15_5
                          try clear hcz15_6
                          try clear hcz15_7
                          try clear hcz9_0
                          try clear hcz9_1
                          try clear hcz9_2
                          try clear hcz9_3
                          try clear hcz9_4
                          try clear hcz9_5
                          try clear hcz9_6
                          try clear hcz9_7
                          try clear hfz12_0
                          try clear hfz12_1
                          try clear hfz12_2
                          try clear hfz12_3
                          try clear hfz12_4
                          try clear hfz12_5
                          try clear hfz12_6
                          try clear hfz12_7
                          try clear hfz14_0
                          try clear hfz14_1
                          try clear hfz14_2
                          try clear hfz14_3
                          try clear hfz14_4
                          try clear hfz14_5
                          try clear hfz14_6
                          try clear hfz14_7
                          try clear hfz15_0
                          try clear hfz15_1
                          try clear hfz15_2
                          try clear hfz15_3
                          try clear hfz15_4
                          try clear hfz15_5
                          try clear hfz15_6
                          try clear hfz15_7
                          try clear hfz9_0
                          try clear hfz9_1
                          try clear hfz9_2
                          try clear hfz9_3
                          try clear hfz9_4
                          try clear hfz9_5
                          try clear hfz9_6
                          try clear hfz9_7
                          try clear hx106_0
                          try clear hx106_1
                          try clear hx106_2
                          try clear hx106_3
                          try clear hx106_4
                          try clear hx106_5
                          try clear hx106_6
                          try clear hx106_7
                          try clear p1
                          try clear p10
                          try clear p106
                          try clear p2
                          try clear p6
                          try clear q020
                          try clear q1
                          try clear q10
                          try clear q106
                          try clear q20
                          obtain ⟨x7_3, x41_3, rfl, rfl, HA, HK3, HO_3, BK107, HR112, HB⟩ := hrel
                          cases gk with
                          | zero => exact absurd HA.out (by simp [syntax_Deep.l1])
                          | succ k3 =>
                            have H := HA.out
                            clear HA
                            simp only [syntax_Deep.l1] at H
                            by_cases c21 : x41_3 < (y109.length : Int)
                            · rw [if_pos c21] at H
                              have c21b0 : decide (x41_3 < (y109.length : Int)) = true := decide_eq_true c21
                              clear c21
                              by_cases c22 : 0 ≤ x41_3
                              · rw [if_pos c22] at H
                                have c22b0 : decide (0 ≤ x41_3) = true := decide_eq_true c22
                                clear c22
                                by_cases c23 : x41_3 < (y109.length : Int)
                                · rw [if_pos c23] at H
                                  have c23b0 : decide (x41_3 < (y109.length : Int)) = true := decide_eq_true c23
                                  clear c23
                                  obtain ⟨ji24, hji24⟩ : ∃ j_ : Int, (mx x7_3 (rd y109 x41_3)) = j_ := ⟨_, rfl⟩
                                  replace H : (syntax_Deep.l1 k3 x3_1 (ji17) ji24 l0 (l0.length : Int) x15_1 y109 (y109.length : Int) (wrap64 (x41_3 + 1))) = some r := by first | (rw [hji24] at H; exact H) | (simp only [hji24] at H ⊢; exact H)
                                  have hji24_ : (if x7_3 < (rd y109 x41_3) then (rd y109 x41_3) else x7_3) = ji24 := hji24
                                  have H' := Aside0.mk H
                                  clear H
                                  have p113 : 0 ≤ (x41_3 : Int) := of_decide_eq_true (by first | (with_reducible assumption) | assumption)
                                  have q113 : x41_3 < (y109.length : Int) := of_decide_eq_true (by first | (with_reducible assumption) | assumption)
                                  obtain ⟨ad113, e113, hx113_0⟩ := Kd.at_int (by repeat (first | (with_reducible exact HR112.out) | (with_reducible refine Kd.C_alloc ?_ _) | (with_reducible refine Kd.C_drewN ?_ _) | (with_reducible refine Kd.C_drew ?_) | exact HR112.out)) x41_3 p113 q113
                                  cases e113
                                  replace p113 := eq_true p113
                                  replace q113 := eq_true q113
                                  go_wp2
                                  go_roundg k3
                                  case measure => have := HK1.out; have := HJ6.out; have := HK3.out; omega
                                  case rel => exact ⟨(ji24), (wrap64 (x41_3 + 1)), (by first | rfl | (simp; done) | (simp only [← hji24] <;> (first | rfl | simp)) | (simp [*]; done)), (by first | rfl | (simp; done) | (simp [*]; done)), H', ⟨by have := HK1.out; have := HJ6.out; have := HK3.out; omega⟩, ⟨by (with_reducible repeat (first | apply Kd.R_alloc | apply Kd.R_drewN | apply Kd.R_drew)); exact HO_3.out⟩, ⟨by (with_reducible repeat (first | refine blk_drewN ?_ _ | refine blk_drew ?_ | refine blk_alloc ?_ _)); exact BK107.out⟩, ⟨by repeat (first | (with_reducible exact HR112.out) | (with_reducible refine Kd.C_alloc ?_ _) | (with_reducible refine Kd.C_drewN ?_ _) | (with_reducible refine Kd.C_drew ?_) | exact HR112.out)⟩, ⟨by repeat (first | (with_reducible first | exact HB.out | apply below_alloc | apply pw_below_drewN | apply below_drew1 | refine below_set ?_ GE107.out) | exact HB.out)⟩⟩
                                · rw [if_neg c23] at H
                                  exact absurd H (by simp)
                              · rw [if_neg c22] at H
                                exact absurd H (by simp)
                            · rw [if_neg c21] at H
                              have c21b0 : decide (x41_3 < (y109.length : Int)) = false := decide_eq_false c21
                              clear c21
                              by_cases c25 : 0 ≤ (ji17)
                              · rw [if_pos c25] at H
                                have c25b0 := eq_true c25
                                have c25b1 : decide (0 ≤ (ji17)) = true := decide_eq_true c25
                                clear c25
                                by_cases c26 : (ji17) ≤ (x3_1.length : Int)
                                · rw [if_pos c26] at H
                                  have c26b0 := eq_true c26
                                  have c26b1 : decide ((ji17) ≤ (x3_1.length : Int)) = true := decide_eq_true c26
                                  clear c26
                                  obtain ⟨y114, hy114⟩ : ∃ y_ : List Int, y_ = (x3_1.take ((ji17) : Int).toNat) := ⟨_, rfl⟩
                                  replace H : (if y114.length < 17592186044416 then (syntax_Deep.l0 k3 (y114 ++ [wrap64 (x7_3 + 1)]) l0 (l0.length : Int) (wrap64 (x15_1 + 1))) else (none)) = some r := by first | (rw [hy114]; with_reducible exact H) | (have H2_ := (Option.bind_some _ _).symm.trans H; rw [hy114]; with_reducible exact H2_) | (have H2_ := (Option.bind_some _ _).symm.trans H; with_reducible exact H2_) | with_reducible exact H | (rw [hy114]; exact H) | exact H
                                  have Ny114 := Aside0.mk hy114
                                  clear hy114
                                  by_cases c27 : y114.length < 17592186044416
                                  · rw [if_pos c27] at H
                                    have LMc27 := Aside0.mk c27
                                    clear c27
                                    obtain ⟨y117, hy117⟩ : ∃ y_ : List Int, y_ = (y114 ++ [wrap64 (x7_3 + 1)]) := ⟨_, rfl⟩
                                    replace H : (syntax_Deep.l0 k3 y117 l0 (l0.length : Int) (wrap64 (x15_1 + 1))) = some r := by first | (rw [hy117]; with_reducible exact H) | (have H2_ := (Option.bind_some _ _).symm.trans H; rw [hy117]; with_reducible exact H2_) | (have H2_ := (Option.bind_some _ _).symm.trans H; with_reducible exact H2_) | with_reducible exact H | (rw [hy117]; exact H) | exact H
                                    have Ny117 := Aside0.mk hy117
                                    clear hy117
                                    have H' := Aside0.mk H
                                    clear H
                                    have q28 : ((ji17) : Int) ≤ ((x3_1.length : Int) : Int) := of_decide_eq_true (by first | (with_reducible assumption) | assumption)
                                    obtain ⟨i028, hi028, _, hsz28, _⟩ := info_parts info3
                                    have hcut28 := cut_to (P := Try.prog) 71 3 .i64 Try.underlying71 hi028 Ao10 x3_1.length co10 (ji17) (of_decide_eq_true (by first | (with_reducible assumption) | assumption)) q28 (Kd.R_reads' HO_3.out).2.1
                                    have hr28 := Kd.R_take (m := ((ji17) : Int).toNat) HO_3.out (by omega)
                                    have hy28 : y114.length = ((ji17) : Int).toNat := (by rw [Ny114.out, List.length_take]; omega)
                                    rw [← Ny114.out] at hr28
                                    rw [← hy28] at hr28 hcut28
                                    clear hy28 hi028 hsz28 HO_3
                                    have HO116 := Aside0.mk hr28
                                    clear hr28
                                    replace q28 := eq_true q28
                                    go_wp2_with (first | ((with_reducible refine gate_builtin (b := .append) (xs := #[.tmp 51, .tmp 54]) rfl ?_); at_builtin; refine Kd.R_append (Kd.int .i64) (w0 := w) w.heap.size rfl (.tmp 51) (.tmp 54) 71 3 (.int .i64 0) 8 rfl Try.underlying71 info3 rfl (by decide) (by omega) (.slice Ao10 y114.length co10) y114 (wrap64 (x7_3 + 1)) [.int .i64 (wrap64 (x7_3 + 1))] (fun _ => True) (fun _ => False) rfl rfl ?aP (fun _ hk => hk.elim) ?aF ?aO ?aB ?aS ?aL ?_; (case aP => exact rfl); (case aB => exact (by repeat (first | (with_reducible first | exact HB.out | apply below_alloc | apply pw_below_drewN | apply below_drew1 | refine below_set ?_ GE107.out) | exact HB.out))); (case aF => exact (fun _ _ => trivial)); (case aO => exact (by (with_reducible repeat (first | apply Kd.R_alloc | apply Kd.R_drewN | apply Kd.R_drew)); exact HO116.out)); (case aS => exact (below_size (by repeat (first | (with_reducible first | exact HB.out | apply below_alloc | apply pw_below_drewN | apply below_drew1 | refine below_set ?_ GE107.out) | exact HB.out)))); (case aL => have := LMc27.out; omega); intro v118 w29 ho hb hg hat; rw [← Ny117.out] at ho; have n0_ := Aside0.mk (blk_grown (g := gb107) (o := .cells #[.int .i64 ((rd_T31 l0 x15_1).f0), .string ((rd_T31 l0 x15_1).f1), .string ((rd_T31 l0 x15_1).f2), .int .i64 ((rd_T31 l0 x15_1).f3.f0.f0), .int .i64 ((rd_T31 l0 x15_1).f3.f0.f1), .float .f64 ((rd_T31 l0 x15_1).f3.f0.f2), .string ((rd_T31 l0 x15_1).f3.f0.f3), .slice A106_7 ((rd_T31 l0 x15_1).f3.f1).length c106_7] 31 (0, 0)) (by (with_reducible repeat (first | refine blk_drewN ?_ _ | refine blk_drew ?_ | refine blk_alloc ?_ _)); exact BK107.out) hg (Kd.R_ne HO116.out BK107.out (by decide))); have n1_ := Aside0.mk (hb); have n2_ := Aside0.mk (ho); clear BK107; clear HB; clear HO116; have BK107 := n0_; have HB := n1_; have HO119 := n2_; clear n0_ n1_ n2_; clear ho hb hg hat))
                                    go_roundg k3
                                    case measure => have := HK1.out; have := HJ6.out; have := HK3.out; omega
                                    case rel => exact ⟨(y117), (wrap64 (x15_1 + 1)), (by first | rfl | (simp; done) | (simp [*]; done)), H', ⟨by have := HK1.out; have := HJ6.out; have := HK3.out; omega⟩, ⟨by (with_reducible repeat (first | apply Kd.R_alloc | apply Kd.R_drewN | apply Kd.R_drew)); exact HO119.out⟩, ⟨by repeat (first | (with_reducible first | exact HB.out | apply below_alloc | apply pw_below_drewN | apply below_drew1 | refine below_set ?_ GE107.out) | exact HB.out)⟩⟩
                                  · rw [if_neg c27] at H
                                    exact absurd H (by simp)
                                · rw [if_neg c26] at H
                                  exact absurd H (by simp)
                              · rw [if_neg c25] at H
                                exact absurd H (by simp)
                      · rw [if_neg c19] at H
                        exact absurd H (by simp)
                    · rw [if_neg c18] at H
                      exact absurd H (by simp)
            · rw [if_neg c5] at H
              exact absurd H (by simp)
          · rw [if_neg c4] at H
            exact absurd H (by simp)
        · rw [if_neg c3] at H
          have c3b0 : decide (x15_1 < (l0.length : Int)) = false := decide_eq_false c3
          clear c3
          by_cases c30 : (x3_1.length : Int) = 1
          · rw [if_pos c30] at H
            have c30b0 : ((x3_1.length : Int) == 1) = true := beq_iff_eq.mpr c30
            have c30b1 : ((x3_1.length : Int) != 1) = false := bne_eq_false_iff_eq.mpr c30
            clear c30
            by_cases c31 : 0 < (x3_1.length : Int)
            · rw [if_pos c31] at H
              have c31b0 : decide (0 < (x3_1.length : Int)) = true := decide_eq_true c31
              have c31b1 : decide (0 < x3_1.length) = true := decide_eq_true (by omega)
              clear c31
              obtain rfl := Option.some.inj H
              obtain ⟨Ao32, co32, eo32⟩ := Kd.R_slice HO_3.out
              subst eo32
              have p105 : 0 ≤ (0 : Int) := (by omega)
              have q105 : 0 < (x3_1.length : Int) := of_decide_eq_true (by first | (with_reducible assumption) | assumption)
              obtain ⟨ad105, e105, hx105_0⟩ := Kd.at_int (Kd.R_reads' HO_3.out).2.2 0 p105 q105
              cases e105
              have qi105 : (0 < x3_1.length) = True := eq_true (by omega)
              (try rw [show ((0 : Int)).toNat = 0 from rfl] at hx105_0)
              (try rw [Addr.add_zero'] at hx105_0)
              replace p105 := eq_true p105
              replace q105 := eq_true q105
              go_wp2
              go_ret
              exact ⟨by first | rfl | (simp [errW_none, errW_some] <;> rfl) | (simp [*, errW_none, errW_some] <;> rfl), by repeat (first | (with_reducible first | exact HB.out | apply below_alloc | apply pw_below_drewN | apply below_drew1) | exact HB.out)⟩
            · rw [if_neg c31] at H
              exact absurd H (by simp)
          · rw [if_neg c30] at H
            have c30b0 : ((x3_1.length : Int) == 1) = false := beq_eq_false_iff_ne.mpr c30
            have c30b1 : ((x3_1.length : Int) != 1) = true := bne_iff_ne.mpr c30
            obtain rfl := Option.some.inj H
            obtain ⟨Ao33, co33, eo33⟩ := Kd.R_slice HO_3.out
            subst eo33
            go_wp2
            go_ret
            exact ⟨by first | rfl | (simp [errW_none, errW_some] <;> rfl) | (simp [*, errW_none, errW_some] <;> rfl), by repeat (first | (with_reducible first | exact HB.out | apply below_alloc | apply pw_below_drewN | apply below_drew1) | exact HB.out)⟩

end Go.Proofs.Ytnfapjkffofcaaa.PA
