/- The walk of TreeNobody. -/
import Derived.Test.YtehonclbmffkfaaGreatNa
namespace Go.Proofs.YtehonclbmffkfaaGreat.NB
open Go.RowKit
set_option linter.unusedVariables false
set_option maxRecDepth 100000
set_option linter.unusedSimpArgs false
/-- What the law's loop holds: the slice of the two pagers, and the one of no disk. -/
def Lw (B : Nat) (wr : World) : Prop := wr.cell? ⟨B + 1, 0, none⟩ = some (.pointer none) ∧ wr.cell? ⟨B + 1, 1, none⟩ = some (.pointer (some ⟨B, 0, none⟩)) ∧ wr.cell? ⟨B, 0, none⟩ = some (.pointer none) ∧ B + 1 < wr.heap.size
theorem Lw.step {B : Nat} {w W : World} (h : Lw B w) (hb : Below w.heap.size w W) : Lw B W :=
  ⟨(hb.cell (p := ⟨B + 1, 0, none⟩) h.2.2.2).trans h.1, (hb.cell (p := ⟨B + 1, 1, none⟩) h.2.2.2).trans h.2.1, (hb.cell (p := ⟨B, 0, none⟩) (by have := h.2.2.2; show B < _; omega)).trans h.2.2.1, Nat.lt_of_lt_of_le h.2.2.2 hb.size⟩
theorem law (r : Int) (a : Option Addr) (n c : Nat) (w : World) : Calls Tryz.prog 3 #[.int .i64 r, .slice a n c] w fun e w' => e = .returned (.bool true) ∧ Below w.heap.size w w' := by
  go_enter Tryz.func3, Tryz.ntmps3
  go_wp2
  go_loopg [25] 2 (fun gg s25 wr => ∃ kk : Nat, kk ≤ 2 ∧ 2 - kk ≤ gg ∧ s25 = .int .i64 kk ∧ Hd (Below w.heap.size w wr) ∧ Hd (Lw w.heap.size wr))
  case atStart => exact ⟨0, by omega, by omega, rfl, ⟨nb_alloc (nb_alloc (nb0 _) _) _⟩, ⟨by simp [Lw]⟩⟩
  case round =>
    obtain ⟨kk, hk, hg, rfl, HW, HL⟩ := hrel
    obtain ⟨h0, h1, h2, h3⟩ := HL.out
    have HB := nb0 wr
    rcases (by omega : kk = 0 ∨ kk = 1 ∨ kk = 2) with rfl | rfl | rfl
    · have hp : NoPg wr (.pointer none) := .inl rfl
      go_wp2_with (first | (go_at_call 6; refine (tr_Get r a n c (hp.step HB)).mono ?_; rintro e w' ⟨rfl, hb⟩; replace HB := nb_step HB hb; clear hb) | (go_at_call 7; refine (tr_Put r a n c (hp.step HB)).mono ?_; rintro e w' ⟨rfl, hb⟩; replace HB := nb_step HB hb; clear hb) | (go_at_call 8; refine (tr_Del r a n c (hp.step HB)).mono ?_; rintro e w' ⟨rfl, hb⟩; replace HB := nb_step HB hb; clear hb) | (go_at_call 9; refine (tr_Scan r (hp.step HB)).mono ?_; rintro e w' ⟨rfl, hb⟩; replace HB := nb_step HB hb; clear hb) | (go_at_call 10; refine (tr_Pages r (hp.step HB)).mono ?_; rintro e w' ⟨rfl, hb⟩; replace HB := nb_step HB hb; clear hb) | (go_at_call 11; refine (tr_Depth r (hp.step HB)).mono ?_; rintro e w' ⟨rfl, hb⟩; replace HB := nb_step HB hb; clear hb))
      go_roundg 1
      case measure => omega
      case rel => exact ⟨1, by omega, by omega, rfl, ⟨nb_step HW.out HB⟩, ⟨HL.out.step HB⟩⟩
    · have hp : NoPg wr (.pointer (some ⟨w.heap.size, 0, none⟩)) := .inr ⟨_, rfl, by omega, h2⟩
      go_wp2_with (first | (go_at_call 6; refine (tr_Get r a n c (hp.step HB)).mono ?_; rintro e w' ⟨rfl, hb⟩; replace HB := nb_step HB hb; clear hb) | (go_at_call 7; refine (tr_Put r a n c (hp.step HB)).mono ?_; rintro e w' ⟨rfl, hb⟩; replace HB := nb_step HB hb; clear hb) | (go_at_call 8; refine (tr_Del r a n c (hp.step HB)).mono ?_; rintro e w' ⟨rfl, hb⟩; replace HB := nb_step HB hb; clear hb) | (go_at_call 9; refine (tr_Scan r (hp.step HB)).mono ?_; rintro e w' ⟨rfl, hb⟩; replace HB := nb_step HB hb; clear hb) | (go_at_call 10; refine (tr_Pages r (hp.step HB)).mono ?_; rintro e w' ⟨rfl, hb⟩; replace HB := nb_step HB hb; clear hb) | (go_at_call 11; refine (tr_Depth r (hp.step HB)).mono ?_; rintro e w' ⟨rfl, hb⟩; replace HB := nb_step HB hb; clear hb))
      go_roundg 0
      case measure => omega
      case rel => exact ⟨2, by omega, by omega, rfl, ⟨nb_step HW.out HB⟩, ⟨HL.out.step HB⟩⟩
    · go_wp2
      go_ret
      exact ⟨rfl, HW.out⟩
end Go.Proofs.YtehonclbmffkfaaGreat.NB
