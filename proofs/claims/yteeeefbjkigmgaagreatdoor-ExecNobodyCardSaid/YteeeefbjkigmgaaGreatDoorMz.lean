/- The walks of ExecNobody and DbNobody. -/
import Derived.Test.YteeeefbjkigmgaaGreatDoorNz
namespace Go.Proofs.YteeeefbjkigmgaaGreatDoor.NB
open Go.RowKit
set_option linter.unusedVariables false
set_option maxRecDepth 100000
set_option linter.unusedSimpArgs false
theorem sz (w : World) (o : Obj) : (w.alloc o).heap.size = w.heap.size + 1 := by simp
theorem past {w : World} {o : Obj} {n i : Nat} {v : Option Value} (hn : n < w.heap.size) (h : w.cell? ⟨n, i, none⟩ = v) : (w.alloc o).cell? ⟨n, i, none⟩ = v := (World.cell?_alloc_past o n i hn).trans h
theorem newc {w : World} {c : Array Value} {t : TypeId} {n i : Nat} (hn : n = w.heap.size) : (w.alloc (.cells c t)).cell? ⟨n, i, none⟩ = c[i]? := World.cell?_alloc_at c t n i hn
theorem kept_new {w w' : World} {c : Array Value} {t : TypeId} (hb : Below (w.alloc (.cells c t)).heap.size (w.alloc (.cells c t)) w') (i : Nat) : w'.cell? ⟨w.heap.size, i, none⟩ = c[i]? := (hb.cell (p := ⟨w.heap.size, i, none⟩) (by simp only [sz]; omega)).trans (newc rfl)
/-- The query's and the plan's cells. -/
structure QC (B : Nat) (b1 : Option Addr) (m1 e1 : Nat) (b2 : Option Addr) (m2 e2 : Nat) (b3 : Option Addr) (m3 e3 : Nat) (b4 : Option Addr) (m4 e4 : Nat) (dd : Bool) (b5 : Option Addr) (m5 e5 : Nat) (sk lm i1 i2 i3 : Int) (w : World) : Prop where
  c0 : w.cell? ⟨B, 0, none⟩ = some (.slice b1 m1 e1)
  c1 : w.cell? ⟨B, 1, none⟩ = some (.slice b2 m2 e2)
  c2 : w.cell? ⟨B, 2, none⟩ = some (.slice b3 m3 e3)
  c3 : w.cell? ⟨B, 3, none⟩ = some (.slice b4 m4 e4)
  c4 : w.cell? ⟨B, 4, none⟩ = some (.bool dd)
  c5 : w.cell? ⟨B, 5, none⟩ = some (.slice b5 m5 e5)
  c6 : w.cell? ⟨B, 6, none⟩ = some (.int .i64 sk)
  c7 : w.cell? ⟨B, 7, none⟩ = some (.int .i64 lm)
  c8 : w.cell? ⟨B + 1, 0, none⟩ = some (.int .i64 i1)
  c9 : w.cell? ⟨B + 1, 1, none⟩ = some (.int .i64 i2)
  c10 : w.cell? ⟨B + 1, 2, none⟩ = some (.int .i64 i3)
  lt : B + 1 < w.heap.size
theorem QC.step {B : Nat} {b1 : Option Addr} {m1 e1 : Nat} {b2 : Option Addr} {m2 e2 : Nat} {b3 : Option Addr} {m3 e3 : Nat} {b4 : Option Addr} {m4 e4 : Nat} {dd : Bool} {b5 : Option Addr} {m5 e5 : Nat} {sk lm i1 i2 i3 : Int} {w W : World} (h : QC B b1 m1 e1 b2 m2 e2 b3 m3 e3 b4 m4 e4 dd b5 m5 e5 sk lm i1 i2 i3 w) (hb : Below w.heap.size w W) : QC B b1 m1 e1 b2 m2 e2 b3 m3 e3 b4 m4 e4 dd b5 m5 e5 sk lm i1 i2 i3 W :=
  have l0 : B < w.heap.size := by have := h.lt; omega
  ⟨(hb.cell (p := ⟨B, 0, none⟩) l0).trans h.c0, (hb.cell (p := ⟨B, 1, none⟩) l0).trans h.c1, (hb.cell (p := ⟨B, 2, none⟩) l0).trans h.c2, (hb.cell (p := ⟨B, 3, none⟩) l0).trans h.c3, (hb.cell (p := ⟨B, 4, none⟩) l0).trans h.c4, (hb.cell (p := ⟨B, 5, none⟩) l0).trans h.c5, (hb.cell (p := ⟨B, 6, none⟩) l0).trans h.c6, (hb.cell (p := ⟨B, 7, none⟩) l0).trans h.c7, (hb.cell (p := ⟨B + 1, 0, none⟩) h.lt).trans h.c8, (hb.cell (p := ⟨B + 1, 1, none⟩) h.lt).trans h.c9, (hb.cell (p := ⟨B + 1, 2, none⟩) h.lt).trans h.c10, Nat.lt_of_lt_of_le h.lt hb.size⟩
theorem QC.new {b1 : Option Addr} {m1 e1 : Nat} {b2 : Option Addr} {m2 e2 : Nat} {b3 : Option Addr} {m3 e3 : Nat} {b4 : Option Addr} {m4 e4 : Nat} {dd : Bool} {b5 : Option Addr} {m5 e5 : Nat} {sk lm i1 i2 i3 : Int} (w : World) : QC w.heap.size b1 m1 e1 b2 m2 e2 b3 m3 e3 b4 m4 e4 dd b5 m5 e5 sk lm i1 i2 i3 ((w.alloc (.cells #[.slice b1 m1 e1, .slice b2 m2 e2, .slice b3 m3 e3, .slice b4 m4 e4, .bool dd, .slice b5 m5 e5, .int .i64 sk, .int .i64 lm] 28)).alloc (.cells #[.int .i64 i1, .int .i64 i2, .int .i64 i3] 30)) :=
  ⟨past (by simp only [sz]; omega) (newc rfl), past (by simp only [sz]; omega) (newc rfl), past (by simp only [sz]; omega) (newc rfl), past (by simp only [sz]; omega) (newc rfl), past (by simp only [sz]; omega) (newc rfl), past (by simp only [sz]; omega) (newc rfl), past (by simp only [sz]; omega) (newc rfl), past (by simp only [sz]; omega) (newc rfl), newc (by simp only [sz]), newc (by simp only [sz]), newc (by simp only [sz]), by simp only [sz]; omega⟩
theorem QC.old {b1 : Option Addr} {m1 e1 : Nat} {b2 : Option Addr} {m2 e2 : Nat} {b3 : Option Addr} {m3 e3 : Nat} {b4 : Option Addr} {m4 e4 : Nat} {dd : Bool} {b5 : Option Addr} {m5 e5 : Nat} {sk lm i1 i2 i3 : Int} {B : Nat} {w : World} (o : Obj) (h : QC B b1 m1 e1 b2 m2 e2 b3 m3 e3 b4 m4 e4 dd b5 m5 e5 sk lm i1 i2 i3 w) : QC B b1 m1 e1 b2 m2 e2 b3 m3 e3 b4 m4 e4 dd b5 m5 e5 sk lm i1 i2 i3 (w.alloc o) := h.step ((Below.refl _ _).alloc (Nat.le_refl _) o)
structure Three (B : Nat) (w : World) : Prop where
  c0 : w.cell? ⟨B + 1 + 1 + 1 + 1, 0, none⟩ = some (.pointer none)
  c1 : w.cell? ⟨B + 1 + 1 + 1 + 1, 1, none⟩ = some (.pointer (some ⟨B + 1 + 1, 0, none⟩))
  c2 : w.cell? ⟨B + 1 + 1 + 1 + 1, 2, none⟩ = some (.pointer (some ⟨B + 1 + 1 + 1, 0, none⟩))
  z1 : w.cell? ⟨B + 1 + 1, 0, none⟩ = some (.pointer none)
  z2 : w.cell? ⟨B + 1 + 1 + 1, 0, none⟩ = some (.pointer none)
  lt : B + 1 + 1 + 1 + 1 < w.heap.size
theorem Three.step {B : Nat} {w W : World} (h : Three B w) (hb : Below w.heap.size w W) : Three B W := by
  have hl := h.lt
  exact ⟨(hb.cell (p := ⟨B + 1 + 1 + 1 + 1, 0, none⟩) hl).trans h.c0, (hb.cell (p := ⟨B + 1 + 1 + 1 + 1, 1, none⟩) hl).trans h.c1, (hb.cell (p := ⟨B + 1 + 1 + 1 + 1, 2, none⟩) hl).trans h.c2,
    (hb.cell (p := ⟨B + 1 + 1, 0, none⟩) (by show B + 1 + 1 < _; omega)).trans h.z1, (hb.cell (p := ⟨B + 1 + 1 + 1, 0, none⟩) (by show B + 1 + 1 + 1 < _; omega)).trans h.z2, Nat.lt_of_lt_of_le hl hb.size⟩
theorem three0 (w : World) (o p : Obj) : Three w.heap.size (((((w.alloc o).alloc p).alloc (.cells #[.pointer none] 34)).alloc (.cells #[.pointer none] 34)).alloc (.cells #[.pointer none, .pointer (some ⟨w.heap.size + 1 + 1, 0, none⟩), .pointer (some ⟨w.heap.size + 1 + 1 + 1, 0, none⟩)] 31)) :=
  ⟨newc (by simp only [sz]), newc (by simp only [sz]), newc (by simp only [sz]), past (by simp only [sz]; omega) (past (by simp only [sz]; omega) (newc (by simp only [sz]))), past (by simp only [sz]; omega) (newc (by simp only [sz])), by simp only [sz]; omega⟩
set_option maxHeartbeats 4000000 in
theorem lawExec (b1 : Option Addr) (m1 e1 : Nat) (b2 : Option Addr) (m2 e2 : Nat) (b3 : Option Addr) (m3 e3 : Nat) (b4 : Option Addr) (m4 e4 : Nat) (dd : Bool) (b5 : Option Addr) (m5 e5 : Nat) (sk lm i1 i2 i3 : Int) (w : World) : Calls Tryz.prog 3 #[.agg #[.slice b1 m1 e1, .slice b2 m2 e2, .slice b3 m3 e3, .slice b4 m4 e4, .bool dd, .slice b5 m5 e5, .int .i64 sk, .int .i64 lm], .agg #[.int .i64 i1, .int .i64 i2, .int .i64 i3]] w fun e w' => e = .returned (.bool true) ∧ Below w.heap.size w w' := by
  go_enter Tryz.func3, Tryz.ntmps3
  go_wp2_with (go_at_call 4; refine gr_New.mono ?_; rintro e w' ⟨rfl, rfl⟩)
  go_loopg [16] 3 (fun gg s16 wr => ∃ kk : Nat, kk ≤ 3 ∧ 3 - kk ≤ gg ∧ s16 = .int .i64 kk ∧ Hd (Below w.heap.size w wr) ∧ Hd (Three w.heap.size wr) ∧ Hd (QC w.heap.size b1 m1 e1 b2 m2 e2 b3 m3 e3 b4 m4 e4 dd b5 m5 e5 sk lm i1 i2 i3 wr))
  case atStart => exact ⟨0, by omega, by omega, rfl, ⟨nb_alloc (nb_alloc (nb_alloc (nb_alloc (nb_alloc (nb0 _) _) _) _) _) _⟩, ⟨three0 _ _ _⟩, ⟨QC.old _ (QC.old _ (QC.old _ (QC.new w)))⟩⟩
  case round =>
    obtain ⟨kk, hk, hg, rfl, HW, HL, HOC⟩ := hrel
    obtain ⟨h0, h1, h2, z1, z2, hlt⟩ := HL.out
    obtain ⟨q0, q1, q2, q3, q4, q5, q6, q7, q8, q9, q10, q11⟩ := HOC.out
    have HO := HOC.out
    have HB := nb0 wr
    by_cases hlt4 : kk < 3
    · obtain ⟨v, hload, hp⟩ : ∃ v, wr.cell? ⟨w.heap.size + 1 + 1 + 1 + 1, kk, none⟩ = some v ∧ NoGr wr v := by
        rcases (by omega : kk = 0 ∨ kk = 1 ∨ kk = 2) with rfl | rfl | rfl
        · exact ⟨_, h0, .inl rfl⟩
        · exact ⟨_, h1, .inr ⟨_, _, rfl, by omega, z1, .inl rfl⟩⟩
        · exact ⟨_, h2, .inr ⟨_, _, rfl, by omega, z2, .inl rfl⟩⟩
      clear h0 h1 h2 z1 z2
      have k0 : (0 : Int) ≤ (kk : Int) := by omega
      have k4 : (kk : Int) < 3 := by omega
      go_wp2_with (first | (go_at_call 5; ((with_reducible refine (ex_Find _ _ _ _ _ _ _ _ _ _ _ _ _ _ _ _ _ _ _ _ _ _ (hp.step HB)).mono ?_)); rintro e w' ⟨rfl, hb⟩; replace HB := nb_step HB hb; clear hb q0 q1 q2 q3 q4 q5 q6 q7 q8 q9 q10 q11; obtain ⟨q0, q1, q2, q3, q4, q5, q6, q7, q8, q9, q10, q11⟩ := HO.step HB) | (go_at_call 6; ((with_reducible refine (ex_Rows _ _ _ _ _ _ _ _ _ _ _ _ _ _ _ _ _ _ _ _ _ _ (hp.step HB)).mono ?_)); rintro e w' ⟨rfl, hb⟩; replace HB := nb_step HB hb; clear hb q0 q1 q2 q3 q4 q5 q6 q7 q8 q9 q10 q11; obtain ⟨q0, q1, q2, q3, q4, q5, q6, q7, q8, q9, q10, q11⟩ := HO.step HB))
      go_roundg (3 - (kk + 1))
      case measure => omega
      case rel => exact ⟨kk + 1, by omega, by omega, by go_num, ⟨nb_step HW.out HB⟩, ⟨HL.out.step HB⟩, ⟨HOC.out.step HB⟩⟩
    · obtain rfl : kk = 3 := by omega
      go_wp2
      go_ret
      exact ⟨rfl, HW.out⟩
theorem cell_on {w w' : World} {b i : Nat} {u : Option Value} (hb : Below w.heap.size w w') (hl : b < w.heap.size) (h : w.cell? ⟨b, i, none⟩ = u) : w'.cell? ⟨b, i, none⟩ = u := (hb.cell (p := ⟨b, i, none⟩) hl).trans h
theorem kept_lt {w w' : World} {c : Array Value} {t : TypeId} (hb : Below (w.alloc (.cells c t)).heap.size (w.alloc (.cells c t)) w') : w.heap.size < w'.heap.size := by
  have := hb.size
  rw [sz] at this
  omega
theorem Two.step {B i : Nat} {u : Value} {w W : World} (h : Two B i u w) (hb : Below w.heap.size w W) : Two B i u W := by
  have hl := h.lt
  exact ⟨(hb.cell (p := ⟨B + 1, 0, none⟩) hl).trans h.c0, (hb.cell (p := ⟨B + 1, 1, none⟩) hl).trans h.c1, (hb.cell (p := ⟨B, i, none⟩) (by show B < _; omega)).trans h.cz, Nat.lt_of_lt_of_le hl hb.size⟩
end Go.Proofs.YteeeefbjkigmgaaGreatDoor.NB
