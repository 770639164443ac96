/- The walk of GraphNobody. -/
import Derived.Test.YtehonclbmffkfaaGreatNc
namespace Go.Proofs.YtehonclbmffkfaaGreat.NB
open Go.RowKit
set_option linter.unusedVariables false
set_option maxRecDepth 100000
set_option linter.unusedSimpArgs false
/-- The op's cells. -/
structure OC (B : Nat) (ok oid oto : Int) (onm : ByteArray) (oa : Option Addr) (on oc : Nat) (pa : Option Addr) (pn pc : Nat) (k n : Int) (f : Nat) (s : ByteArray) (la : Option Addr) (ln lc : Nat) (fl : Bool) (w : World) : Prop where
  c0 : w.cell? ⟨B, 0, none⟩ = some (.int .i64 ok)
  c1 : w.cell? ⟨B, 1, none⟩ = some (.int .i64 oid)
  c2 : w.cell? ⟨B, 2, none⟩ = some (.int .i64 oto)
  c3 : w.cell? ⟨B, 3, none⟩ = some (.string onm)
  c4 : w.cell? ⟨B, 4, none⟩ = some (.slice oa on oc)
  c5 : w.cell? ⟨B, 5, none⟩ = some (.slice pa pn pc)
  c6 : w.cell? ⟨B, 6, none⟩ = some (.int .i64 k)
  c7 : w.cell? ⟨B, 7, none⟩ = some (.int .i64 n)
  c8 : w.cell? ⟨B, 8, none⟩ = some (.float .f64 f)
  c9 : w.cell? ⟨B, 9, none⟩ = some (.string s)
  c10 : w.cell? ⟨B, 10, none⟩ = some (.slice la ln lc)
  c11 : w.cell? ⟨B, 11, none⟩ = some (.bool fl)
  lt : B < w.heap.size
theorem OC.step {B : Nat} {ok oid oto : Int} {onm : ByteArray} {oa : Option Addr} {on oc : Nat} {pa : Option Addr} {pn pc : Nat} {k n : Int} {f : Nat} {s : ByteArray} {la : Option Addr} {ln lc : Nat} {fl : Bool} {w W : World} (h : OC B ok oid oto onm oa on oc pa pn pc k n f s la ln lc fl w) (hb : Below w.heap.size w W) : OC B ok oid oto onm oa on oc pa pn pc k n f s la ln lc fl W :=
  ⟨(hb.cell (p := ⟨B, 0, none⟩) h.lt).trans h.c0, (hb.cell (p := ⟨B, 1, none⟩) h.lt).trans h.c1, (hb.cell (p := ⟨B, 2, none⟩) h.lt).trans h.c2, (hb.cell (p := ⟨B, 3, none⟩) h.lt).trans h.c3, (hb.cell (p := ⟨B, 4, none⟩) h.lt).trans h.c4, (hb.cell (p := ⟨B, 5, none⟩) h.lt).trans h.c5, (hb.cell (p := ⟨B, 6, none⟩) h.lt).trans h.c6, (hb.cell (p := ⟨B, 7, none⟩) h.lt).trans h.c7, (hb.cell (p := ⟨B, 8, none⟩) h.lt).trans h.c8, (hb.cell (p := ⟨B, 9, none⟩) h.lt).trans h.c9, (hb.cell (p := ⟨B, 10, none⟩) h.lt).trans h.c10, (hb.cell (p := ⟨B, 11, none⟩) h.lt).trans h.c11, Nat.lt_of_lt_of_le h.lt hb.size⟩
/-- What the law's loop holds of the four graphs. -/
structure Four (B : Nat) (w : World) : Prop where
  c0 : w.cell? ⟨B + 1 + 1 + 1 + 1 + 1, 0, none⟩ = some (.pointer none)
  c1 : w.cell? ⟨B + 1 + 1 + 1 + 1 + 1, 1, none⟩ = some (.pointer (some ⟨B + 1, 0, none⟩))
  c2 : w.cell? ⟨B + 1 + 1 + 1 + 1 + 1, 2, none⟩ = some (.pointer (some ⟨B + 1 + 1, 0, none⟩))
  c3 : w.cell? ⟨B + 1 + 1 + 1 + 1 + 1, 3, none⟩ = some (.pointer (some ⟨B + 1 + 1 + 1 + 1, 0, none⟩))
  z1 : w.cell? ⟨B + 1, 0, none⟩ = some (.pointer none)
  z2 : w.cell? ⟨B + 1 + 1, 0, none⟩ = some (.pointer none)
  z3 : w.cell? ⟨B + 1 + 1 + 1 + 1, 0, none⟩ = some (.pointer (some ⟨B + 1 + 1 + 1, 0, none⟩))
  z4 : w.cell? ⟨B + 1 + 1 + 1, 0, none⟩ = some (.pointer none)
  lt : B + 1 + 1 + 1 + 1 + 1 < w.heap.size
theorem Four.step {B : Nat} {w W : World} (h : Four B w) (hb : Below w.heap.size w W) : Four B W := by
  have hl := h.lt
  exact ⟨(hb.cell (p := ⟨B + 1 + 1 + 1 + 1 + 1, 0, none⟩) hl).trans h.c0, (hb.cell (p := ⟨B + 1 + 1 + 1 + 1 + 1, 1, none⟩) hl).trans h.c1, (hb.cell (p := ⟨B + 1 + 1 + 1 + 1 + 1, 2, none⟩) hl).trans h.c2, (hb.cell (p := ⟨B + 1 + 1 + 1 + 1 + 1, 3, none⟩) hl).trans h.c3,
    (hb.cell (p := ⟨B + 1, 0, none⟩) (by show B + 1 < _; omega)).trans h.z1, (hb.cell (p := ⟨B + 1 + 1, 0, none⟩) (by show B + 1 + 1 < _; omega)).trans h.z2, (hb.cell (p := ⟨B + 1 + 1 + 1 + 1, 0, none⟩) (by show B + 1 + 1 + 1 + 1 < _; omega)).trans h.z3, (hb.cell (p := ⟨B + 1 + 1 + 1, 0, none⟩) (by show B + 1 + 1 + 1 < _; omega)).trans h.z4, Nat.lt_of_lt_of_le hl hb.size⟩
theorem sz (w : World) (o : Obj) : (w.alloc o).heap.size = w.heap.size + 1 := by simp
theorem past {w : World} {o : Obj} {n i : Nat} {v : Option Value} (hn : n < w.heap.size) (h : w.cell? ⟨n, i, none⟩ = v) : (w.alloc o).cell? ⟨n, i, none⟩ = v := (World.cell?_alloc_past o n i hn).trans h
theorem newc {w : World} {c : Array Value} {t : TypeId} {n i : Nat} (hn : n = w.heap.size) : (w.alloc (.cells c t)).cell? ⟨n, i, none⟩ = c[i]? := World.cell?_alloc_at c t n i hn
theorem four0 (w : World) (o : Obj) : Four w.heap.size ((((((w.alloc o).alloc (.cells #[.pointer none] 86)).alloc (.cells #[.pointer none] 86)).alloc (.cells #[.pointer none, .pointer none, .map none, .bool false] 60)).alloc (.cells #[.pointer (some ⟨w.heap.size + 1 + 1 + 1, 0, none⟩)] 86)).alloc (.cells #[.pointer none, .pointer (some ⟨w.heap.size + 1, 0, none⟩), .pointer (some ⟨w.heap.size + 1 + 1, 0, none⟩), .pointer (some ⟨w.heap.size + 1 + 1 + 1 + 1, 0, none⟩)] 84)) := by
  constructor
  · exact newc (by simp only [sz])
  · exact newc (by simp only [sz])
  · exact newc (by simp only [sz])
  · exact newc (by simp only [sz])
  · exact past (by simp only [sz]; omega) (past (by simp only [sz]; omega) (past (by simp only [sz]; omega) (past (by simp only [sz]; omega) (newc (by simp only [sz])))))
  · exact past (by simp only [sz]; omega) (past (by simp only [sz]; omega) (past (by simp only [sz]; omega) (newc (by simp only [sz]))))
  · exact past (by simp only [sz]; omega) (newc (by simp only [sz]))
  · exact past (by simp only [sz]; omega) (past (by simp only [sz]; omega) (newc (by simp only [sz])))
  · simp only [sz]; omega
theorem kept_new {w w' : World} {c : Array Value} {t : TypeId} (hb : Below (w.alloc (.cells c t)).heap.size (w.alloc (.cells c t)) w') (i : Nat) : w'.cell? ⟨w.heap.size, i, none⟩ = c[i]? := (hb.cell (p := ⟨w.heap.size, i, none⟩) (by simp only [sz]; omega)).trans (newc rfl)
theorem OC.new {ok oid oto : Int} {onm : ByteArray} {oa : Option Addr} {on oc : Nat} {pa : Option Addr} {pn pc : Nat} {k n : Int} {f : Nat} {s : ByteArray} {la : Option Addr} {ln lc : Nat} {fl : Bool} (w : World) : OC w.heap.size ok oid oto onm oa on oc pa pn pc k n f s la ln lc fl (w.alloc (.cells #[.int .i64 ok, .int .i64 oid, .int .i64 oto, .string onm, .slice oa on oc, .slice pa pn pc, .int .i64 k, .int .i64 n, .float .f64 f, .string s, .slice la ln lc, .bool fl] 83)) :=
  ⟨newc rfl, newc rfl, newc rfl, newc rfl, newc rfl, newc rfl, newc rfl, newc rfl, newc rfl, newc rfl, newc rfl, newc rfl, by simp only [sz]; omega⟩
theorem OC.old {ok oid oto : Int} {onm : ByteArray} {oa : Option Addr} {on oc : Nat} {pa : Option Addr} {pn pc : Nat} {k n : Int} {f : Nat} {s : ByteArray} {la : Option Addr} {ln lc : Nat} {fl : Bool} {B : Nat} {w : World} (o : Obj) (h : OC B ok oid oto onm oa on oc pa pn pc k n f s la ln lc fl w) : OC B ok oid oto onm oa on oc pa pn pc k n f s la ln lc fl (w.alloc o) :=
  ⟨past h.lt h.c0, past h.lt h.c1, past h.lt h.c2, past h.lt h.c3, past h.lt h.c4, past h.lt h.c5, past h.lt h.c6, past h.lt h.c7, past h.lt h.c8, past h.lt h.c9, past h.lt h.c10, past h.lt h.c11, by have := h.lt; simp only [sz]; omega⟩
set_option maxHeartbeats 4000000 in
theorem lawGr (ok oid oto : Int) (onm : ByteArray) (oa : Option Addr) (on oc : Nat) (pa : Option Addr) (pn pc : Nat) (k n : Int) (f : Nat) (s : ByteArray) (la : Option Addr) (ln lc : Nat) (fl : Bool) (id : Int) (w : World) : Calls Tryz.prog 5 #[.agg #[.int .i64 ok, .int .i64 oid, .int .i64 oto, .string onm, .slice oa on oc, .slice pa pn pc, .int .i64 k, .int .i64 n, .float .f64 f, .string s, .slice la ln lc, .bool fl], .int .i64 id] w fun e w' => e = .returned (.bool true) ∧ Below w.heap.size w w' := by
  go_enter Tryz.func5, Tryz.ntmps5
  go_wp2_with (go_at_call 32; refine gr_New.mono ?_; rintro e w' ⟨rfl, rfl⟩)
  go_loopg [36] 4 (fun gg s36 wr => ∃ kk : Nat, kk ≤ 4 ∧ 4 - kk ≤ gg ∧ s36 = .int .i64 kk ∧ Hd (Below w.heap.size w wr) ∧ Hd (Four w.heap.size wr) ∧ Hd (OC w.heap.size ok oid oto onm oa on oc pa pn pc k n f s la ln lc fl wr))
  case atStart => exact ⟨0, by omega, by omega, rfl, ⟨nb_alloc (nb_alloc (nb_alloc (nb_alloc (nb_alloc (nb_alloc (nb0 _) _) _) _) _) _) _⟩, ⟨four0 _ _⟩, ⟨OC.old _ (OC.old _ (OC.old _ (OC.old _ (OC.old _ (OC.new w)))))⟩⟩
  case round =>
    obtain ⟨kk, hk, hg, rfl, HW, HL, HOC⟩ := hrel
    have HO := HOC.out
    obtain ⟨h0, h1, h2, h3, z1, z2, z3, z4, hlt⟩ := HL.out
    obtain ⟨q0, q1, q2, q3, q4, q5, q6, q7, q8, q9, q10, q11, q12⟩ := HO
    have HO := HOC.out
    have HB := nb0 wr
    by_cases hlt4 : kk < 4
    · obtain ⟨v, hload, hp⟩ : ∃ v, wr.cell? ⟨w.heap.size + 1 + 1 + 1 + 1 + 1, kk, none⟩ = some v ∧ NoGr wr v := by
        rcases (by omega : kk = 0 ∨ kk = 1 ∨ kk = 2 ∨ kk = 3) with rfl | rfl | rfl | rfl
        · exact ⟨_, h0, .inl rfl⟩
        · exact ⟨_, h1, .inr ⟨_, _, rfl, by omega, z1, .inl rfl⟩⟩
        · exact ⟨_, h2, .inr ⟨_, _, rfl, by omega, z2, .inl rfl⟩⟩
        · exact ⟨_, h3, .inr ⟨_, _, rfl, by omega, z3, .of z4 (by omega)⟩⟩
      clear h0 h1 h2 h3 z1 z2 z3 z4
      have k0 : (0 : Int) ≤ (kk : Int) := by omega
      have k4 : (kk : Int) < 4 := by omega
      go_wp2_with (first | (go_at_call 33; ((with_reducible refine (gr_Do _ _ _ _ _ _ _ _ _ _ _ _ _ _ _ _ _ _ (hp.step HB)).mono ?_)); rintro e w' ⟨rfl, hb⟩; replace HB := nb_step HB hb; clear hb) | (go_at_call 34; ((with_reducible refine (gr_Node _ _ (hp.step HB)).mono ?_)); rintro e w' ⟨rfl, hb⟩; replace HB := nb_step HB hb; clear hb) | (go_at_call 35; ((with_reducible refine (gr_Edge _ _ (hp.step (nb_alloc HB _))).mono ?_)); rintro e w' ⟨rfl, hb⟩; replace HB := nb_step (nb_alloc HB _) hb; clear hb) | (go_at_call 36; ((with_reducible refine (gr_Out _ _ (hp.step (nb_alloc HB _))).mono ?_)); rintro e w' ⟨rfl, hb⟩; replace HB := nb_step (nb_alloc HB _) hb; clear hb) | (go_at_call 37; ((with_reducible refine (gr_In _ _ (hp.step HB)).mono ?_)); rintro e w' ⟨rfl, hb⟩; replace HB := nb_step HB hb; clear hb) | (go_at_call 38; ((with_reducible refine (gr_ByLabel _ _ (hp.step HB)).mono ?_)); rintro e w' ⟨rfl, hb⟩; clear q0 q1 q2 q3 q4 q5 q6 q7 q8 q9 q10 q11 q12; obtain ⟨q0, q1, q2, q3, q4, q5, q6, q7, q8, q9, q10, q11, q12⟩ := HO.step (nb_step HB hb); replace HB := nb_step HB hb; clear hb) | (go_at_call 39; ((with_reducible refine (gr_ByProp _ _ _ _ _ _ _ _ _ _ (hp.step HB)).mono ?_)); rintro e w' ⟨rfl, hb⟩; replace HB := nb_step HB hb; clear hb) | (go_at_call 40; ((with_reducible refine (gr_All _ (hp.step HB)).mono ?_)); rintro e w' ⟨rfl, hb⟩; replace HB := nb_step HB hb; clear hb) | (go_at_call 41; ((with_reducible refine (gr_Rules _ (hp.step (nb_alloc HB _))).mono ?_)); rintro e w' ⟨rfl, hb⟩; have qa : _ = some (Value.slice none 0 0) := (kept_new hb 0).trans rfl; replace HB := nb_step (nb_alloc HB _) hb; clear hb))
      go_roundg (4 - (kk + 1))
      case measure => omega
      case rel => exact ⟨kk + 1, by omega, by omega, by go_num, ⟨nb_step HW.out HB⟩, ⟨HL.out.step HB⟩, ⟨HOC.out.step HB⟩⟩
    · obtain rfl : kk = 4 := by omega
      go_wp2
      go_ret
      exact ⟨rfl, HW.out⟩
end Go.Proofs.YtehonclbmffkfaaGreat.NB
