/- Graphs that no call made, and of no store, have no nodes: the walks of what package graph tells then, and of the law GraphNobody. -/
import Derived.Test.YtehonclbmffkfaaGreatNb
namespace Go.Proofs.YtehonclbmffkfaaGreat.NB
open Go.RowKit
set_option linter.unusedVariables false
set_option maxRecDepth 100000
set_option linter.unusedSimpArgs false
/-- No graph: nil, or one of no store. -/
def NoGr (w : World) (v : Value) : Prop := v = .pointer none ∨ ∃ b s, v = .pointer (some ⟨b, 0, none⟩) ∧ b < w.heap.size ∧ w.cell? ⟨b, 0, none⟩ = some s ∧ NoPg w s
theorem NoGr.step {w W : World} {v : Value} (h : NoGr w v) (hb : Below w.heap.size w W) : NoGr W v := by
  rcases h with rfl | ⟨b, s, rfl, hl, hc, hs⟩
  · exact .inl rfl
  · exact .inr ⟨b, s, rfl, Nat.lt_of_lt_of_le hl hb.size, (hb.cell (p := ⟨b, 0, none⟩) hl).trans hc, hs.step hb⟩
theorem gr_none {w : World} {v : Value} (h : NoGr w v) : Calls Tryz.prog 79 #[v] w fun e w' => e = .returned (.bool true) ∧ w = w' := by
  rcases h with rfl | ⟨b, s, rfl, hl, hc, hs⟩
  · go_enter Tryz.func79, Tryz.ntmps79
    go_wp2
    go_ret
    exact ⟨rfl, rfl⟩
  · go_enter Tryz.func79, Tryz.ntmps79
    go_wp2_with (go_at_call 28; refine (st_Gen hs).mono ?_; rintro e w' ⟨rfl, rfl⟩)
    go_ret
    exact ⟨rfl, rfl⟩
theorem gr_New {w : World} {p : Option Addr} : Calls Tryz.prog 32 #[.pointer p] w fun e w' => e = .returned (.pointer (some ⟨w.heap.size, 0, none⟩)) ∧ w' = w.alloc (.cells #[.pointer p] 86) := by
  go_enter Tryz.func32, Tryz.ntmps32
  go_wp2
  go_ret
  exact ⟨rfl, rfl⟩
theorem gr_Do {w : World} {v : Value} (ok oid oto : Int) (onm : ByteArray) (oa : Option Addr) (on oc : Nat) (pa : Option Addr) (pn pc : Nat) (k n : Int) (f : Nat) (s : ByteArray) (la : Option Addr) (ln lc : Nat) (fl : Bool) (h : NoGr w v) : Calls Tryz.prog 33 #[v, .agg #[.int .i64 ok, .int .i64 oid, .int .i64 oto, .string onm, .slice oa on oc, .slice pa pn pc, .int .i64 k, .int .i64 n, .float .f64 f, .string s, .slice la ln lc, .bool fl]] w fun e w' => e = .returned (.tuple #[.int .i64 0, .int .i64 1]) ∧ Below w.heap.size w w' := by
  go_enter Tryz.func33, Tryz.ntmps33
  go_wp2_with (go_at_call 79; refine (gr_none (h.step (nb_alloc (nb0 _) _))).mono ?_; rintro e w' ⟨rfl, rfl⟩)
  go_ret2
  exact ⟨rfl, nb_alloc (nb0 _) _⟩
theorem gr_Node {w : World} {v : Value} (x y : Int) (h : NoGr w v) : Calls Tryz.prog 34 #[v, .int .i64 x, .int .i64 y] w fun e w' => e = .returned (.tuple #[.agg #[.int .i64 0, .slice none 0 0, .slice none 0 0], .bool false, .int .i64 1]) ∧ Below w.heap.size w w' := by
  go_enter Tryz.func34, Tryz.ntmps34
  go_wp2_with (go_at_call 79; refine (gr_none (h.step (nb_alloc (nb0 _) _))).mono ?_; rintro e w' ⟨rfl, rfl⟩)
  exact bodyPost_ret (v := .tuple #[.agg #[.int .i64 0, .slice none 0 0, .slice none 0 0], .bool false, .int .i64 1]) (by simp [results, Tryz.results34, go_sem]) rfl ⟨rfl, nb_alloc (nb0 _) _⟩
theorem gr_Edge {w : World} {v : Value} (x y : Int) (h : NoGr w v) : Calls Tryz.prog 35 #[v, .int .i64 x, .int .i64 y] w fun e w' => e = .returned (.tuple #[.agg #[.int .i64 0, .string (⟨#[]⟩ : ByteArray), .int .i64 0, .int .i64 0, .slice none 0 0], .bool false, .int .i64 1]) ∧ Below w.heap.size w w' := by
  go_enter Tryz.func35, Tryz.ntmps35
  go_wp2_with (go_at_call 79; refine (gr_none (h.step (nb_alloc (nb0 _) _))).mono ?_; rintro e w' ⟨rfl, rfl⟩)
  exact bodyPost_ret (v := .tuple #[.agg #[.int .i64 0, .string (⟨#[]⟩ : ByteArray), .int .i64 0, .int .i64 0, .slice none 0 0], .bool false, .int .i64 1]) (by simp [results, Tryz.results35, go_sem]) rfl ⟨rfl, nb_alloc (nb0 _) _⟩
theorem gr_Out {w : World} {v : Value} (x y : Int) (h : NoGr w v) : Calls Tryz.prog 36 #[v, .int .i64 x, .int .i64 y] w fun e w' => e = .returned (.tuple #[.slice none 0 0, .int .i64 1]) ∧ Below w.heap.size w w' := by
  go_enter Tryz.func36, Tryz.ntmps36
  go_wp2_with (go_at_call 79; refine (gr_none (h.step (nb0 _))).mono ?_; rintro e w' ⟨rfl, rfl⟩)
  go_ret2
  exact ⟨rfl, nb0 _⟩
theorem gr_In {w : World} {v : Value} (x y : Int) (h : NoGr w v) : Calls Tryz.prog 37 #[v, .int .i64 x, .int .i64 y] w fun e w' => e = .returned (.tuple #[.slice none 0 0, .int .i64 1]) ∧ Below w.heap.size w w' := by
  go_enter Tryz.func37, Tryz.ntmps37
  go_wp2_with (go_at_call 79; refine (gr_none (h.step (nb0 _))).mono ?_; rintro e w' ⟨rfl, rfl⟩)
  go_ret2
  exact ⟨rfl, nb0 _⟩
theorem gr_ByLabel {w : World} {v : Value} (x : Int) (t : ByteArray) (h : NoGr w v) : Calls Tryz.prog 38 #[v, .int .i64 x, .string t] w fun e w' => e = .returned (.tuple #[.slice none 0 0, .int .i64 1]) ∧ Below w.heap.size w w' := by
  go_enter Tryz.func38, Tryz.ntmps38
  go_wp2_with (go_at_call 79; refine (gr_none (h.step (nb0 _))).mono ?_; rintro e w' ⟨rfl, rfl⟩)
  go_ret2
  exact ⟨rfl, nb0 _⟩
theorem gr_ByProp {w : World} {v : Value} (x : Int) (t u : ByteArray) (k n : Int) (f : Nat) (s : ByteArray) (la : Option Addr) (ln lc : Nat) (h : NoGr w v) : Calls Tryz.prog 39 #[v, .int .i64 x, .string t, .string u, .agg #[.int .i64 k, .int .i64 n, .float .f64 f, .string s, .slice la ln lc]] w fun e w' => e = .returned (.tuple #[.slice none 0 0, .bool false, .int .i64 1]) ∧ Below w.heap.size w w' := by
  go_enter Tryz.func39, Tryz.ntmps39
  go_wp2_with (go_at_call 79; refine (gr_none (h.step (nb_alloc (nb0 _) _))).mono ?_; rintro e w' ⟨rfl, rfl⟩)
  go_ret3
  exact ⟨rfl, nb_alloc (nb0 _) _⟩
theorem gr_All {w : World} {v : Value} (x : Int) (h : NoGr w v) : Calls Tryz.prog 40 #[v, .int .i64 x] w fun e w' => e = .returned (.tuple #[.agg #[.slice none 0 0, .slice none 0 0], .int .i64 1]) ∧ Below w.heap.size w w' := by
  go_enter Tryz.func40, Tryz.ntmps40
  go_wp2_with (go_at_call 79; refine (gr_none (h.step (nb_alloc (nb_alloc (nb0 _) _) _))).mono ?_; rintro e w' ⟨rfl, rfl⟩)
  exact bodyPost_ret (v := .tuple #[.agg #[.slice none 0 0, .slice none 0 0], .int .i64 1]) (by simp [results, Tryz.results40, go_sem]) rfl ⟨rfl, nb_alloc (nb_alloc (nb0 _) _) _⟩
theorem gr_Rules {w : World} {v : Value} (x : Int) (h : NoGr w v) : Calls Tryz.prog 41 #[v, .int .i64 x] w fun e w' => e = .returned (.tuple #[.slice none 0 0, .int .i64 1]) ∧ Below w.heap.size w w' := by
  go_enter Tryz.func41, Tryz.ntmps41
  go_wp2_with (go_at_call 79; refine (gr_none (h.step (nb0 _))).mono ?_; rintro e w' ⟨rfl, rfl⟩)
  go_ret2
  exact ⟨rfl, nb0 _⟩
end Go.Proofs.YtehonclbmffkfaaGreat.NB
