/- Stores that no call made, and of no disk, have no keys: the walks of what package txn tells then, and of the law TxnNobody. -/
import Derived.Test.YtehonclbmffkfaaGreatNa
import Derived.WalkSpells
namespace Go.Proofs.YtehonclbmffkfaaGreat.NB
open Go.RowKit
set_option linter.unusedVariables false
set_option maxRecDepth 100000
set_option linter.unusedSimpArgs false
/-- No disk: nil, or one of no sectors. -/
def NoDk (w : World) (v : Value) : Prop := v = .pointer none ∨ ∃ b, v = .pointer (some ⟨b, 0, none⟩) ∧ b < w.heap.size ∧ w.cell? ⟨b, 1, none⟩ = some (.map none)
theorem dk_none {w : World} {v : Value} (h : NoDk w v) : Calls Tryz.prog 202 #[v] w fun e w' => e = .returned (.bool true) ∧ w = w' := by
  have hm := fun W => Go.run_eql_map_nil (P := Tryz.prog) W 48 _ _ none Tryz.underlying48
  rcases h with rfl | ⟨b, rfl, hl, hc⟩
  all_goals
    go_enter Tryz.func202, Tryz.ntmps202
    go_wp2
    go_ret
    exact ⟨rfl, rfl⟩
theorem st_none {w : World} {v : Value} (h : NoPg w v) : Calls Tryz.prog 63 #[v] w fun e w' => e = .returned (.bool true) ∧ w = w' := by
  rcases h with rfl | ⟨b, rfl, hl, hc⟩
  all_goals
    go_enter Tryz.func63, Tryz.ntmps63
    go_wp2
    go_ret
    exact ⟨rfl, rfl⟩
theorem dk_read {w : World} {v : Value} (k : Int) (h : NoDk w v) : Calls Tryz.prog 118 #[v, .int .i64 k] w fun e w' => e = .returned (.tuple #[.slice none 0 0, .int .i64 1]) ∧ w = w' := by
  go_enter Tryz.func118, Tryz.ntmps118
  go_wp2_with (go_at_call 202; refine (dk_none  h).mono ?_; rintro e w' ⟨rfl, rfl⟩)
  go_ret2
  exact ⟨rfl, rfl⟩
theorem pg_open {w : World} {v : Value}  (h : NoDk w v) : Calls Tryz.prog 59 #[v] w fun e w' => e = .returned (.tuple #[.pointer none, .int .i64 1]) ∧ w = w' := by
  go_enter Tryz.func59, Tryz.ntmps59
  go_wp2_with (go_at_call 118; refine (dk_read _ h).mono ?_; rintro e w' ⟨rfl, rfl⟩)
  go_ret2
  exact ⟨rfl, rfl⟩
theorem pg_format {w : World} {v : Value}  (h : NoDk w v) : Calls Tryz.prog 62 #[v] w fun e w' => e = .returned (.int .i64 1) ∧ w = w' := by
  go_enter Tryz.func62, Tryz.ntmps62
  go_wp2_with (go_at_call 118; refine (dk_read _ h).mono ?_; rintro e w' ⟨rfl, rfl⟩)
  go_ret
  exact ⟨rfl, rfl⟩
theorem tx_open {w : World} {v : Value}  (h : NoDk w v) : Calls Tryz.prog 12 #[v] w fun e w' => e = .returned (.tuple #[.pointer none, .int .i64 1]) ∧ w = w' := by
  go_enter Tryz.func12, Tryz.ntmps12
  go_wp2_with (go_at_call 59; refine (pg_open  h).mono ?_; rintro e w' ⟨rfl, rfl⟩)
  go_ret2
  exact ⟨rfl, rfl⟩
theorem tx_create {w : World} {v : Value}  (h : NoDk w v) : Calls Tryz.prog 13 #[v] w fun e w' => e = .returned (.int .i64 1) ∧ w = w' := by
  go_enter Tryz.func13, Tryz.ntmps13
  go_wp2_with (go_at_call 62; refine (pg_format  h).mono ?_; rintro e w' ⟨rfl, rfl⟩)
  go_ret
  exact ⟨rfl, rfl⟩
theorem st_fit {w : World} {v : Value}  (h : NoPg w v) : Calls Tryz.prog 68 #[v] w fun e w' => e = .returned (.int .i64 1) ∧ w = w' := by
  go_enter Tryz.func68, Tryz.ntmps68
  go_wp2_with (go_at_call 63; refine (st_none  h).mono ?_; rintro e w' ⟨rfl, rfl⟩)
  go_ret
  exact ⟨rfl, rfl⟩
theorem st_Get {w : World} {v : Value} (n : Int) (s : ByteArray) (a : Option Addr) (m c : Nat) (h : NoPg w v) : Calls Tryz.prog 14 #[v, .int .i64 n, .string s, .slice a m c] w fun e w' => e = .returned (.tuple #[.slice none 0 0, .bool false, .int .i64 1]) ∧ w = w' := by
  go_enter Tryz.func14, Tryz.ntmps14
  go_wp2_with (go_at_call 63; refine (st_none  h).mono ?_; rintro e w' ⟨rfl, rfl⟩)
  go_ret3
  exact ⟨rfl, rfl⟩
theorem st_Scan {w : World} {v : Value} (n : Int) (s : ByteArray) (a : Option Addr) (m c : Nat) (b : Option Addr) (p q : Nat) (k : Int) (h : NoPg w v) : Calls Tryz.prog 15 #[v, .int .i64 n, .string s, .slice a m c, .slice b p q, .int .i64 k] w fun e w' => e = .returned (.tuple #[.slice none 0 0, .int .i64 1]) ∧ w = w' := by
  go_enter Tryz.func15, Tryz.ntmps15
  go_wp2_with (go_at_call 63; refine (st_none  h).mono ?_; rintro e w' ⟨rfl, rfl⟩)
  go_ret2
  exact ⟨rfl, rfl⟩
theorem st_Del {w : World} {v : Value} (s : ByteArray) (a : Option Addr) (m c : Nat) (h : NoPg w v) : Calls Tryz.prog 16 #[v, .string s, .slice a m c] w fun e w' => e = .returned (.tuple #[.bool false, .int .i64 1]) ∧ w = w' := by
  go_enter Tryz.func16, Tryz.ntmps16
  go_wp2_with (go_at_call 68; refine (st_fit  h).mono ?_; rintro e w' ⟨rfl, rfl⟩)
  go_ret2
  exact ⟨rfl, rfl⟩
theorem st_Save {w : World} {v : Value}  (h : NoPg w v) : Calls Tryz.prog 17 #[v] w fun e w' => e = .returned (.tuple #[.int .i64 0, .int .i64 1]) ∧ w = w' := by
  go_enter Tryz.func17, Tryz.ntmps17
  go_wp2_with (go_at_call 68; refine (st_fit  h).mono ?_; rintro e w' ⟨rfl, rfl⟩)
  go_ret2
  exact ⟨rfl, rfl⟩
theorem st_Pin {w : World} {v : Value}  (h : NoPg w v) : Calls Tryz.prog 18 #[v] w fun e w' => e = .returned (.tuple #[.int .i64 0, .int .i64 1]) ∧ w = w' := by
  go_enter Tryz.func18, Tryz.ntmps18
  go_wp2_with (go_at_call 63; refine (st_none  h).mono ?_; rintro e w' ⟨rfl, rfl⟩)
  go_ret2
  exact ⟨rfl, rfl⟩
theorem st_Next {w : World} {v : Value} (n : Int) (h : NoPg w v) : Calls Tryz.prog 19 #[v, .int .i64 n] w fun e w' => e = .returned (.tuple #[.int .i64 0, .int .i64 1]) ∧ w = w' := by
  go_enter Tryz.func19, Tryz.ntmps19
  go_wp2_with (go_at_call 68; refine (st_fit  h).mono ?_; rintro e w' ⟨rfl, rfl⟩)
  go_ret2
  exact ⟨rfl, rfl⟩
theorem st_Peek {w : World} {v : Value} (n : Int) (h : NoPg w v) : Calls Tryz.prog 20 #[v, .int .i64 n] w fun e w' => e = .returned (.tuple #[.int .i64 0, .int .i64 1]) ∧ w = w' := by
  go_enter Tryz.func20, Tryz.ntmps20
  go_wp2_with (go_at_call 68; refine (st_fit  h).mono ?_; rintro e w' ⟨rfl, rfl⟩)
  go_ret2
  exact ⟨rfl, rfl⟩
theorem st_Begin {w : World} {v : Value}  (h : NoPg w v) : Calls Tryz.prog 21 #[v] w fun e w' => e = .returned (.int .i64 1) ∧ w = w' := by
  go_enter Tryz.func21, Tryz.ntmps21
  go_wp2_with (go_at_call 63; refine (st_none  h).mono ?_; rintro e w' ⟨rfl, rfl⟩)
  go_ret
  exact ⟨rfl, rfl⟩
theorem st_Commit {w : World} {v : Value}  (h : NoPg w v) : Calls Tryz.prog 22 #[v] w fun e w' => e = .returned (.int .i64 1) ∧ w = w' := by
  go_enter Tryz.func22, Tryz.ntmps22
  go_wp2_with (go_at_call 68; refine (st_fit  h).mono ?_; rintro e w' ⟨rfl, rfl⟩)
  go_ret
  exact ⟨rfl, rfl⟩
theorem st_Back {w : World} {v : Value} (n : Int) (h : NoPg w v) : Calls Tryz.prog 24 #[v, .int .i64 n] w fun e w' => e = .returned (.int .i64 1) ∧ w = w' := by
  go_enter Tryz.func24, Tryz.ntmps24
  go_wp2_with (go_at_call 68; refine (st_fit  h).mono ?_; rintro e w' ⟨rfl, rfl⟩)
  go_ret
  exact ⟨rfl, rfl⟩
theorem st_Release {w : World} {v : Value} (n : Int) (h : NoPg w v) : Calls Tryz.prog 25 #[v, .int .i64 n] w fun e w' => e = .returned (.int .i64 1) ∧ w = w' := by
  go_enter Tryz.func25, Tryz.ntmps25
  go_wp2_with (go_at_call 63; refine (st_none  h).mono ?_; rintro e w' ⟨rfl, rfl⟩)
  go_ret
  exact ⟨rfl, rfl⟩
theorem st_Put {w : World} {v : Value} (s : ByteArray) (a : Option Addr) (m c : Nat) (b : Option Addr) (p q : Nat) (h : NoPg w v) : Calls Tryz.prog 26 #[v, .string s, .slice a m c, .slice b p q] w fun e w' => e = .returned (.int .i64 1) ∧ w = w' := by
  go_enter Tryz.func26, Tryz.ntmps26
  go_wp2_with (go_at_call 68; refine (st_fit  h).mono ?_; rintro e w' ⟨rfl, rfl⟩)
  go_ret
  exact ⟨rfl, rfl⟩
theorem st_Active {w : World} {v : Value}  (h : NoPg w v) : Calls Tryz.prog 27 #[v] w fun e w' => e = .returned (.bool false) ∧ w = w' := by
  go_enter Tryz.func27, Tryz.ntmps27
  go_wp2_with (go_at_call 63; refine (st_none  h).mono ?_; rintro e w' ⟨rfl, rfl⟩)
  go_ret
  exact ⟨rfl, rfl⟩
theorem st_Gen {w : World} {v : Value}  (h : NoPg w v) : Calls Tryz.prog 28 #[v] w fun e w' => e = .returned (.int .i64 0) ∧ w = w' := by
  go_enter Tryz.func28, Tryz.ntmps28
  go_wp2_with (go_at_call 63; refine (st_none  h).mono ?_; rintro e w' ⟨rfl, rfl⟩)
  go_ret
  exact ⟨rfl, rfl⟩
theorem st_Used {w : World} {v : Value}  (h : NoPg w v) : Calls Tryz.prog 29 #[v] w fun e w' => e = .returned (.int .i64 0) ∧ w = w' := by
  go_enter Tryz.func29, Tryz.ntmps29
  go_wp2_with (go_at_call 63; refine (st_none  h).mono ?_; rintro e w' ⟨rfl, rfl⟩)
  go_ret
  exact ⟨rfl, rfl⟩
theorem st_Waiting {w : World} {v : Value}  (h : NoPg w v) : Calls Tryz.prog 30 #[v] w fun e w' => e = .returned (.int .i64 0) ∧ w = w' := by
  go_enter Tryz.func30, Tryz.ntmps30
  go_wp2_with (go_at_call 63; refine (st_none  h).mono ?_; rintro e w' ⟨rfl, rfl⟩)
  go_ret
  exact ⟨rfl, rfl⟩
theorem st_Free {w : World} {v : Value}  (h : NoPg w v) : Calls Tryz.prog 31 #[v] w fun e w' => e = .returned (.int .i64 0) ∧ w = w' := by
  go_enter Tryz.func31, Tryz.ntmps31
  go_wp2_with (go_at_call 63; refine (st_none  h).mono ?_; rintro e w' ⟨rfl, rfl⟩)
  go_ret
  exact ⟨rfl, rfl⟩
theorem st_Abort {w : World} {v : Value} (h : NoPg w v) : Calls Tryz.prog 23 #[v] w fun e w' => e = .returned (.int .i64 1) ∧ w = w' := by
  go_enter Tryz.func23, Tryz.ntmps23
  go_wp2_with (first | (go_at_call 27; refine (st_Active h).mono ?_; rintro e w' ⟨rfl, rfl⟩) | (go_at_call 63; refine (st_none h).mono ?_; rintro e w' ⟨rfl, rfl⟩))
  go_ret
  exact ⟨rfl, rfl⟩
theorem NoPg.of {w : World} {b : Nat} (hc : w.cell? ⟨b, 0, none⟩ = some (.pointer none)) (hl : b < w.heap.size) : NoPg w (.pointer (some ⟨b, 0, none⟩)) := .inr ⟨b, rfl, hl, hc⟩
theorem NoDk.of {w : World} {b : Nat} (hc : w.cell? ⟨b, 1, none⟩ = some (.map none)) (hl : b < w.heap.size) : NoDk w (.pointer (some ⟨b, 0, none⟩)) := .inr ⟨b, rfl, hl, hc⟩
/-- What a loop over the two of a kind holds: the slice, and the one of nothing. -/
structure Two (B i : Nat) (u : Value) (wr : World) : Prop where
  c0 : wr.cell? ⟨B + 1, 0, none⟩ = some (.pointer none)
  c1 : wr.cell? ⟨B + 1, 1, none⟩ = some (.pointer (some ⟨B, 0, none⟩))
  cz : wr.cell? ⟨B, i, none⟩ = some u
  lt : B + 1 < wr.heap.size
end Go.Proofs.YtehonclbmffkfaaGreat.NB
