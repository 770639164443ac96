/- Without a pager there are no trees: the walks of what package tree tells without a pager, and of the law TreeNobody. -/
import Derived.Test.YtehonclbmffkfaaGreatProg
import Derived.WalkKit
import Derived.Below
import Derived.KernelRfl
import Derived.Outline
import Derived.Deep.LoopGhost
namespace Go.Proofs.YtehonclbmffkfaaGreat.NB
open Go.RowKit
set_option linter.unusedVariables false
set_option maxRecDepth 100000
set_option linter.unusedSimpArgs false
structure Hd (p : Prop) : Prop where
  out : p
theorem nb0 (w : World) : Below w.heap.size w w := Below.refl _ _
theorem nb_alloc {w W : World} (h : Below w.heap.size w W) (o : Obj) : Below w.heap.size w (W.alloc o) := h.alloc h.size o
theorem nb_step {w W w' : World} (h : Below w.heap.size w W) (hb : Below W.heap.size W w') : Below w.heap.size w w' := h.trans (hb.mono h.size)
theorem nb_set {w W : World} (h : Below w.heap.size w W) {p : Addr} (hp : w.heap.size ≤ p.block) (u : Value) : Below w.heap.size w (W.setCell p u) := h.setCell hp u
/-- No pager: nil, or one of no disk. -/
def NoPg (w : World) (v : Value) : Prop := v = .pointer none ∨ ∃ b, v = .pointer (some ⟨b, 0, none⟩) ∧ b < w.heap.size ∧ w.cell? ⟨b, 0, none⟩ = some (.pointer none)
theorem NoPg.step {w W : World} {v : Value} (h : NoPg w v) (hb : Below w.heap.size w W) : NoPg W v := by
  rcases h with rfl | ⟨b, rfl, hl, hc⟩
  · exact .inl rfl
  · exact .inr ⟨b, rfl, Nat.lt_of_lt_of_le hl hb.size, (hb.cell (p := ⟨b, 0, none⟩) hl).trans hc⟩
theorem pg_none {w : World} {v : Value} (h : NoPg w v) : Calls Tryz.prog 123 #[v] w fun e w' => e = .returned (.bool true) ∧ w = w' := by
  rcases h with rfl | ⟨b, rfl, hl, hc⟩
  all_goals
    go_enter Tryz.func123, Tryz.ntmps123
    go_wp2
    go_ret
    exact ⟨rfl, rfl⟩
theorem pg_meta {w : World} {v : Value} (h : NoPg w v) : Calls Tryz.prog 60 #[v] w fun e w' => e = .returned (.agg #[.int .i64 0, .int .i64 0, .int .i64 0, .int .i64 0]) ∧ Below w.heap.size w w' := by
  go_enter Tryz.func60, Tryz.ntmps60
  go_wp2_with (go_at_call 123; refine (pg_none (h.step (nb_alloc (nb0 _) _))).mono ?_; rintro e w' ⟨rfl, rfl⟩)
  exact bodyPost_ret (v := .agg #[.int .i64 0, .int .i64 0, .int .i64 0, .int .i64 0]) (by simp [results, Tryz.results60, go_sem]) rfl ⟨rfl, nb_alloc (nb0 _) _⟩
theorem tr_none {w : World} {v : Value} (h : NoPg w v) : Calls Tryz.prog 42 #[v] w fun e w' => e = .returned (.bool true) ∧ Below w.heap.size w w' := by
  have hfd : ∀ w : World, (Instr.field 26 (.agg #[.int .i64 0, .int .i64 0, .int .i64 0, .int .i64 0]) 0).run Tryz.prog w = .ok (.int .i64 0) w := fun _ => by kernel_rfl
  go_enter Tryz.func42, Tryz.ntmps42
  go_wp2_with (go_at_call 60; refine (pg_meta h).mono ?_; rintro e w' ⟨rfl, hb⟩)
  go_ret
  exact ⟨rfl, hb⟩
theorem tr_Get {w : World} {v : Value} (r : Int) (a : Option Addr) (n c : Nat) (h : NoPg w v) : Calls Tryz.prog 6 #[v, .int .i64 r, .slice a n c] w fun e w' => e = .returned (.tuple #[.slice none 0 0, .bool false, .int .i64 1]) ∧ Below w.heap.size w w' := by
  have hn := fun W (hW : Below w.heap.size w W) => @tr_none W v (h.step hW)
  have hv : ∃ p, v = .pointer p := by rcases h with rfl | ⟨b, rfl, _⟩ <;> exact ⟨_, rfl⟩
  obtain ⟨p, rfl⟩ := hv
  clear h
  go_enter Tryz.func6, Tryz.ntmps6
  go_wp2_with (go_at_call 42; refine (hn _ (nb0 _)).mono ?_; rintro e w' ⟨rfl, hb⟩)
  go_ret3
  exact ⟨rfl, nb_step (nb0 _) hb⟩
theorem tr_Put {w : World} {v : Value} (r : Int) (a : Option Addr) (n c : Nat) (h : NoPg w v) : Calls Tryz.prog 7 #[v, .int .i64 r, .slice a n c, .slice none 0 0] w fun e w' => e = .returned (.tuple #[.int .i64 0, .int .i64 1]) ∧ Below w.heap.size w w' := by
  have hn := fun W (hW : Below w.heap.size w W) => @tr_none W v (h.step hW)
  have hv : ∃ p, v = .pointer p := by rcases h with rfl | ⟨b, rfl, _⟩ <;> exact ⟨_, rfl⟩
  obtain ⟨p, rfl⟩ := hv
  clear h
  go_enter Tryz.func7, Tryz.ntmps7
  go_wp2_with (go_at_call 42; refine (hn _ (nb0 _)).mono ?_; rintro e w' ⟨rfl, hb⟩)
  go_ret2
  exact ⟨rfl, nb_step (nb0 _) hb⟩
theorem tr_Del {w : World} {v : Value} (r : Int) (a : Option Addr) (n c : Nat) (h : NoPg w v) : Calls Tryz.prog 8 #[v, .int .i64 r, .slice a n c] w fun e w' => e = .returned (.tuple #[.int .i64 0, .bool false, .int .i64 1]) ∧ Below w.heap.size w w' := by
  have hn := fun W (hW : Below w.heap.size w W) => @tr_none W v (h.step hW)
  have hv : ∃ p, v = .pointer p := by rcases h with rfl | ⟨b, rfl, _⟩ <;> exact ⟨_, rfl⟩
  obtain ⟨p, rfl⟩ := hv
  clear h
  go_enter Tryz.func8, Tryz.ntmps8
  go_wp2_with (go_at_call 42; refine (hn _ (nb0 _)).mono ?_; rintro e w' ⟨rfl, hb⟩)
  go_ret3
  exact ⟨rfl, nb_step (nb0 _) hb⟩
theorem tr_Scan {w : World} {v : Value} (r : Int) (h : NoPg w v) : Calls Tryz.prog 9 #[v, .int .i64 r, .slice none 0 0, .slice none 0 0, .int .i64 5] w fun e w' => e = .returned (.tuple #[.slice none 0 0, .int .i64 1]) ∧ Below w.heap.size w w' := by
  have hn := fun W (hW : Below w.heap.size w W) => @tr_none W v (h.step hW)
  have hv : ∃ p, v = .pointer p := by rcases h with rfl | ⟨b, rfl, _⟩ <;> exact ⟨_, rfl⟩
  obtain ⟨p, rfl⟩ := hv
  clear h
  go_enter Tryz.func9, Tryz.ntmps9
  go_wp2_with (go_at_call 42; refine (hn _ (nb_alloc (nb_alloc (nb_alloc (nb_alloc (nb0 _) _) _) _) _)).mono ?_; rintro e w' ⟨rfl, hb⟩)
  go_ret2
  exact ⟨rfl, nb_step (nb_alloc (nb_alloc (nb_alloc (nb_alloc (nb0 _) _) _) _) _) hb⟩
theorem tr_Pages {w : World} {v : Value} (r : Int) (h : NoPg w v) : Calls Tryz.prog 10 #[v, .int .i64 r] w fun e w' => e = .returned (.tuple #[.slice none 0 0, .int .i64 1]) ∧ Below w.heap.size w w' := by
  have hn := fun W (hW : Below w.heap.size w W) => @tr_none W v (h.step hW)
  have hv : ∃ p, v = .pointer p := by rcases h with rfl | ⟨b, rfl, _⟩ <;> exact ⟨_, rfl⟩
  obtain ⟨p, rfl⟩ := hv
  clear h
  go_enter Tryz.func10, Tryz.ntmps10
  go_wp2_with (go_at_call 42; refine (hn _ (nb_alloc (nb0 _) _)).mono ?_; rintro e w' ⟨rfl, hb⟩)
  go_ret2
  exact ⟨rfl, nb_step (nb_alloc (nb0 _) _) hb⟩
theorem tr_Depth {w : World} {v : Value} (r : Int) (h : NoPg w v) : Calls Tryz.prog 11 #[v, .int .i64 r] w fun e w' => e = .returned (.tuple #[.int .i64 0, .int .i64 1]) ∧ Below w.heap.size w w' := by
  have hn := fun W (hW : Below w.heap.size w W) => @tr_none W v (h.step hW)
  have hv : ∃ p, v = .pointer p := by rcases h with rfl | ⟨b, rfl, _⟩ <;> exact ⟨_, rfl⟩
  obtain ⟨p, rfl⟩ := hv
  clear h
  go_enter Tryz.func11, Tryz.ntmps11
  go_wp2_with (go_at_call 42; refine (hn _ (nb0 _)).mono ?_; rintro e w' ⟨rfl, hb⟩)
  go_ret2
  exact ⟨rfl, nb_step (nb0 _) hb⟩
end Go.Proofs.YtehonclbmffkfaaGreat.NB
