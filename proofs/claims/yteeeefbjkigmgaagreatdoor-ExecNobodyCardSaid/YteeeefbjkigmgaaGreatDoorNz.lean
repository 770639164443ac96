/- What packages exec and db tell where there is no graph, no disk, no database. -/
import Derived.Test.YteeeefbjkigmgaaGreatDoorProg
import Derived.WalkKit
import Derived.WalkSpells
import Derived.Below
import Derived.KernelRfl
import Derived.Deep.LoopGhost
import Derived.Defers
import Derived.Deep.QuietTactic
import Derived.BigQuiet
namespace Go.Proofs.YteeeefbjkigmgaaGreatDoor.NB
open Go.RowKit
set_option linter.unusedVariables false
set_option maxRecDepth 100000
set_option linter.unusedSimpArgs false
structure Hd (p : Prop) : Prop where
  out : p
theorem nb0 (w : World) : Below w.heap.size w w := Below.refl _ _
theorem nb_alloc {w W : World} (h : Below w.heap.size w W) (o : Obj) : Below w.heap.size w (W.alloc o) := h.alloc h.size o
theorem nb_step {w W w' : World} (h : Below w.heap.size w W) (hb : Below W.heap.size W w') : Below w.heap.size w w' := h.trans (hb.mono h.size)
theorem nb_set {w W : World} (h : Below w.heap.size w W) {p : Addr} (hp : w.heap.size ≤ p.block) (u : Value) : Below w.heap.size w (W.setCell p u) := h.setCell hp u
/-- No pager: nil, or one of no disk. -/
def NoPg (w : World) (v : Value) : Prop := v = .pointer none ∨ ∃ b, v = .pointer (some ⟨b, 0, none⟩) ∧ b < w.heap.size ∧ w.cell? ⟨b, 0, none⟩ = some (.pointer none)
theorem NoPg.step {w W : World} {v : Value} (h : NoPg w v) (hb : Below w.heap.size w W) : NoPg W v := by
  rcases h with rfl | ⟨b, rfl, hl, hc⟩
  · exact .inl rfl
  · exact .inr ⟨b, rfl, Nat.lt_of_lt_of_le hl hb.size, (hb.cell (p := ⟨b, 0, none⟩) hl).trans hc⟩
/-- No disk: nil, or one of no sectors. -/
def NoDk (w : World) (v : Value) : Prop := v = .pointer none ∨ ∃ b, v = .pointer (some ⟨b, 0, none⟩) ∧ b < w.heap.size ∧ w.cell? ⟨b, 1, none⟩ = some (.map none)
theorem dk_none {w : World} {v : Value} (h : NoDk w v) : Calls Tryz.prog 328 #[v] w fun e w' => e = .returned (.bool true) ∧ w = w' := by
  have hm := fun W => Go.run_eql_map_nil (P := Tryz.prog) W 437 _ _ none Tryz.underlying437
  rcases h with rfl | ⟨b, rfl, hl, hc⟩
  all_goals
    go_enter Tryz.func328, Tryz.ntmps328
    go_wp2
    go_ret
    exact ⟨rfl, rfl⟩
theorem st_none {w : World} {v : Value} (h : NoPg w v) : Calls Tryz.prog 105 #[v] w fun e w' => e = .returned (.bool true) ∧ w = w' := by
  rcases h with rfl | ⟨b, rfl, hl, hc⟩
  all_goals
    go_enter Tryz.func105, Tryz.ntmps105
    go_wp2
    go_ret
    exact ⟨rfl, rfl⟩
theorem dk_read {w : World} {v : Value} (k : Int) (h : NoDk w v) : Calls Tryz.prog 314 #[v, .int .i64 k] w fun e w' => e = .returned (.tuple #[.slice none 0 0, .int .i64 1]) ∧ w = w' := by
  go_enter Tryz.func314, Tryz.ntmps314
  go_wp2_with (go_at_call 328; refine (dk_none  h).mono ?_; rintro e w' ⟨rfl, rfl⟩)
  go_ret2
  exact ⟨rfl, rfl⟩
theorem st_Gen {w : World} {v : Value}  (h : NoPg w v) : Calls Tryz.prog 46 #[v] w fun e w' => e = .returned (.int .i64 0) ∧ w = w' := by
  go_enter Tryz.func46, Tryz.ntmps46
  go_wp2_with (go_at_call 105; refine (st_none  h).mono ?_; rintro e w' ⟨rfl, rfl⟩)
  go_ret
  exact ⟨rfl, rfl⟩
theorem NoPg.of {w : World} {b : Nat} (hc : w.cell? ⟨b, 0, none⟩ = some (.pointer none)) (hl : b < w.heap.size) : NoPg w (.pointer (some ⟨b, 0, none⟩)) := .inr ⟨b, rfl, hl, hc⟩
theorem NoDk.of {w : World} {b : Nat} (hc : w.cell? ⟨b, 1, none⟩ = some (.map none)) (hl : b < w.heap.size) : NoDk w (.pointer (some ⟨b, 0, none⟩)) := .inr ⟨b, rfl, hl, hc⟩
/-- What a loop over the two of a kind holds: the slice, and the one of nothing. -/
structure Two (B i : Nat) (u : Value) (wr : World) : Prop where
  c0 : wr.cell? ⟨B + 1, 0, none⟩ = some (.pointer none)
  c1 : wr.cell? ⟨B + 1, 1, none⟩ = some (.pointer (some ⟨B, 0, none⟩))
  cz : wr.cell? ⟨B, i, none⟩ = some u
  lt : B + 1 < wr.heap.size
/-- No graph: nil, or one of no store. -/
def NoGr (w : World) (v : Value) : Prop := v = .pointer none ∨ ∃ b s, v = .pointer (some ⟨b, 0, none⟩) ∧ b < w.heap.size ∧ w.cell? ⟨b, 0, none⟩ = some s ∧ NoPg w s
theorem NoGr.step {w W : World} {v : Value} (h : NoGr w v) (hb : Below w.heap.size w W) : NoGr W v := by
  rcases h with rfl | ⟨b, s, rfl, hl, hc, hs⟩
  · exact .inl rfl
  · exact .inr ⟨b, s, rfl, Nat.lt_of_lt_of_le hl hb.size, (hb.cell (p := ⟨b, 0, none⟩) hl).trans hc, hs.step hb⟩
theorem gr_none {w : World} {v : Value} (h : NoGr w v) : Calls Tryz.prog 18 #[v] w fun e w' => e = .returned (.bool true) ∧ w = w' := by
  rcases h with rfl | ⟨b, s, rfl, hl, hc, hs⟩
  · go_enter Tryz.func18, Tryz.ntmps18
    go_wp2
    go_ret
    exact ⟨rfl, rfl⟩
  · go_enter Tryz.func18, Tryz.ntmps18
    go_wp2_with (go_at_call 46; refine (st_Gen hs).mono ?_; rintro e w' ⟨rfl, rfl⟩)
    go_ret
    exact ⟨rfl, rfl⟩
theorem gr_New {w : World} {p : Option Addr} : Calls Tryz.prog 4 #[.pointer p] w fun e w' => e = .returned (.pointer (some ⟨w.heap.size, 0, none⟩)) ∧ w' = w.alloc (.cells #[.pointer p] 34) := by
  go_enter Tryz.func4, Tryz.ntmps4
  go_wp2
  go_ret
  exact ⟨rfl, rfl⟩
theorem gr_Rules {w : World} {v : Value} (x : Int) (h : NoGr w v) : Calls Tryz.prog 7 #[v, .int .i64 x] w fun e w' => e = .returned (.tuple #[.slice none 0 0, .int .i64 1]) ∧ Below w.heap.size w w' := by
  go_enter Tryz.func7, Tryz.ntmps7
  go_wp2_with (go_at_call 18; refine (gr_none (h.step (nb0 _))).mono ?_; rintro e w' ⟨rfl, rfl⟩)
  go_ret2
  exact ⟨rfl, nb0 _⟩
theorem nb_drewN {w W : World} (h : Below w.heap.size w W) (m : Nat) : Below w.heap.size w (W.drewN m) := ⟨h.os, h.tape, h.output, h.size, h.block⟩
theorem gr_Rules0 {w : World} {v : Value} (x : Int) (h : NoGr w v) : Calls Tryz.prog 7 #[v, .int .i64 x] w fun e w' => e = .returned (.tuple #[.slice none 0 0, .int .i64 1]) ∧ w = w' := by
  go_enter Tryz.func7, Tryz.ntmps7
  go_wp2_with (go_at_call 18; refine (gr_none h).mono ?_; rintro e w' ⟨rfl, rfl⟩)
  go_ret2
  exact ⟨rfl, rfl⟩
theorem ex_Find {w : World} {v : Value} (vw : Int) (b1 : Option Addr) (m1 e1 : Nat) (b2 : Option Addr) (m2 e2 : Nat) (b3 : Option Addr) (m3 e3 : Nat) (b4 : Option Addr) (m4 e4 : Nat) (dd : Bool) (b5 : Option Addr) (m5 e5 : Nat) (sk lm i1 i2 i3 : Int) (h : NoGr w v) : Calls Tryz.prog 5 #[v, .int .i64 vw, .agg #[.slice b1 m1 e1, .slice b2 m2 e2, .slice b3 m3 e3, .slice b4 m4 e4, .bool dd, .slice b5 m5 e5, .int .i64 sk, .int .i64 lm], .agg #[.int .i64 i1, .int .i64 i2, .int .i64 i3]] w fun e w' => e = .returned (.tuple #[.slice none 0 0, .int .i64 1]) ∧ Below w.heap.size w w' := by
  go_enter Tryz.func5, Tryz.ntmps5
  go_wp2_with (go_at_call 7; ((with_reducible refine (gr_Rules0 _ (h.step (nb_alloc (nb_alloc (nb_alloc (nb_alloc (nb0 _) _) _) _) _))).mono ?_)); rintro e w' ⟨rfl, rfl⟩)
  exact bodyPost_ret (v := .tuple #[.slice none 0 0, .int .i64 1]) (by simp [results, Tryz.results5, go_sem]) rfl ⟨rfl, nb_alloc (nb_alloc (nb_alloc (nb_alloc (nb0 _) _) _) _) _⟩
theorem ex_Rows {w : World} {v : Value} (vw : Int) (b1 : Option Addr) (m1 e1 : Nat) (b2 : Option Addr) (m2 e2 : Nat) (b3 : Option Addr) (m3 e3 : Nat) (b4 : Option Addr) (m4 e4 : Nat) (dd : Bool) (b5 : Option Addr) (m5 e5 : Nat) (sk lm i1 i2 i3 : Int) (h : NoGr w v) : Calls Tryz.prog 6 #[v, .int .i64 vw, .agg #[.slice b1 m1 e1, .slice b2 m2 e2, .slice b3 m3 e3, .slice b4 m4 e4, .bool dd, .slice b5 m5 e5, .int .i64 sk, .int .i64 lm], .agg #[.int .i64 i1, .int .i64 i2, .int .i64 i3]] w fun e w' => e = .returned (.tuple #[.slice none 0 0, .int .i64 1]) ∧ Below w.heap.size w w' := by
  go_enter Tryz.func6, Tryz.ntmps6
  go_wp2_with (go_at_call 5; ((with_reducible refine (ex_Find _ _ _ _ _ _ _ _ _ _ _ _ _ _ _ _ _ _ _ _ _ _ (h.step (nb_alloc (nb_alloc (nb0 _) _) _))).mono ?_)); rintro e w' ⟨rfl, hb⟩)
  go_ret2
  exact ⟨rfl, nb_step (nb_alloc (nb_alloc (nb0 _) _) _) hb⟩
end Go.Proofs.YteeeefbjkigmgaaGreatDoor.NB
