/- The walk of TxnNobody. -/
import Derived.Test.YtehonclbmffkfaaGreatNb
namespace Go.Proofs.YtehonclbmffkfaaGreat.NB
open Go.RowKit
set_option linter.unusedVariables false
set_option maxRecDepth 100000
set_option linter.unusedSimpArgs false
set_option maxHeartbeats 1000000 in
theorem lawTxn (a : Option Addr) (m c : Nat) (n : Int) (w : World) : Calls Tryz.prog 4 #[.slice a m c, .int .i64 n] w fun e w' => e = .returned (.bool true) ∧ Below w.heap.size w w' := by
  go_enter Tryz.func4, Tryz.ntmps4
  go_wp2
  go_loopg [30] 2 (fun gg s wr => ∃ kk : Nat, kk ≤ 2 ∧ 2 - kk ≤ gg ∧ s = .int .i64 kk ∧ Hd (Below w.heap.size w wr) ∧ Hd (Two w.heap.size 1 (.map none) wr))
  case atStart => exact ⟨0, by omega, by omega, rfl, ⟨nb_alloc (nb_alloc (nb0 _) _) _⟩, ⟨⟨by simp, by simp, by simp, by simp⟩⟩⟩
  case round =>
    obtain ⟨kk, hk, hg, rfl, HW, HL⟩ := hrel
    obtain ⟨h0, h1, h2, h3⟩ := HL.out
    rcases (by omega : kk = 0 ∨ kk = 1 ∨ kk = 2) with rfl | rfl | rfl
    · have hp : NoDk wr (.pointer none) := .inl rfl
      go_wp2_with (first | (go_at_call 12; ((with_reducible refine (tx_open hp).mono ?_)); rintro e w' ⟨rfl, rfl⟩) | (go_at_call 13; ((with_reducible refine (tx_create hp).mono ?_)); rintro e w' ⟨rfl, rfl⟩))
      go_roundg 1
      case measure => omega
      case rel => exact ⟨1, by omega, by omega, rfl, HW, HL⟩
    · have hp : NoDk wr (.pointer (some ⟨w.heap.size, 0, none⟩)) := .of h2 (by omega)
      go_wp2_with (first | (go_at_call 12; ((with_reducible refine (tx_open hp).mono ?_)); rintro e w' ⟨rfl, rfl⟩) | (go_at_call 13; ((with_reducible refine (tx_create hp).mono ?_)); rintro e w' ⟨rfl, rfl⟩))
      go_roundg 0
      case measure => omega
      case rel => exact ⟨2, by omega, by omega, rfl, HW, HL⟩
    · clear h0 h1 h2 h3 HL
      obtain ⟨wo, rfl⟩ : ∃ wo : World, wo = wr := ⟨_, rfl⟩
      go_wp2
      go_loopg [55] 2 (fun gg s wr => ∃ kk : Nat, kk ≤ 2 ∧ 2 - kk ≤ gg ∧ s = .int .i64 kk ∧ Hd (Below w.heap.size w wr) ∧ Hd (Two wo.heap.size 0 (.pointer none) wr))
      case atStart => exact ⟨0, by omega, by omega, rfl, ⟨nb_alloc (nb_alloc HW.out _) _⟩, ⟨⟨by simp, by simp, by simp, by simp⟩⟩⟩
      case round =>
        obtain ⟨kk, hk, hg, rfl, HW, HL⟩ := hrel
        obtain ⟨h0, h1, h2, h3⟩ := HL.out
        rcases (by omega : kk = 0 ∨ kk = 1 ∨ kk = 2) with rfl | rfl | rfl
        · have hp : NoPg wr (.pointer none) := .inl rfl
          go_wp2_with (first | (go_at_call 14; ((with_reducible refine (st_Get _ _ _ _ _ hp).mono ?_)); rintro e w' ⟨rfl, rfl⟩) | (go_at_call 15; ((with_reducible refine (st_Scan _ _ _ _ _ _ _ _ _ hp).mono ?_)); rintro e w' ⟨rfl, rfl⟩) | (go_at_call 16; ((with_reducible refine (st_Del _ _ _ _ hp).mono ?_)); rintro e w' ⟨rfl, rfl⟩) | (go_at_call 17; ((with_reducible refine (st_Save  hp).mono ?_)); rintro e w' ⟨rfl, rfl⟩) | (go_at_call 18; ((with_reducible refine (st_Pin  hp).mono ?_)); rintro e w' ⟨rfl, rfl⟩) | (go_at_call 19; ((with_reducible refine (st_Next _ hp).mono ?_)); rintro e w' ⟨rfl, rfl⟩) | (go_at_call 20; ((with_reducible refine (st_Peek _ hp).mono ?_)); rintro e w' ⟨rfl, rfl⟩) | (go_at_call 21; ((with_reducible refine (st_Begin  hp).mono ?_)); rintro e w' ⟨rfl, rfl⟩) | (go_at_call 22; ((with_reducible refine (st_Commit  hp).mono ?_)); rintro e w' ⟨rfl, rfl⟩) | (go_at_call 23; ((with_reducible refine (st_Abort  hp).mono ?_)); rintro e w' ⟨rfl, rfl⟩) | (go_at_call 24; ((with_reducible refine (st_Back _ hp).mono ?_)); rintro e w' ⟨rfl, rfl⟩) | (go_at_call 25; ((with_reducible refine (st_Release _ hp).mono ?_)); rintro e w' ⟨rfl, rfl⟩) | (go_at_call 26; ((with_reducible refine (st_Put _ _ _ _ _ _ _ hp).mono ?_)); rintro e w' ⟨rfl, rfl⟩) | (go_at_call 27; ((with_reducible refine (st_Active  hp).mono ?_)); rintro e w' ⟨rfl, rfl⟩) | (go_at_call 28; ((with_reducible refine (st_Gen  hp).mono ?_)); rintro e w' ⟨rfl, rfl⟩) | (go_at_call 29; ((with_reducible refine (st_Used  hp).mono ?_)); rintro e w' ⟨rfl, rfl⟩) | (go_at_call 30; ((with_reducible refine (st_Waiting  hp).mono ?_)); rintro e w' ⟨rfl, rfl⟩) | (go_at_call 31; ((with_reducible refine (st_Free  hp).mono ?_)); rintro e w' ⟨rfl, rfl⟩))
          go_roundg 1
          case measure => omega
          case rel => exact ⟨1, by omega, by omega, rfl, HW, HL⟩
        · have hp : NoPg wr (.pointer (some ⟨wo.heap.size, 0, none⟩)) := .of h2 (by omega)
          go_wp2_with (first | (go_at_call 14; ((with_reducible refine (st_Get _ _ _ _ _ hp).mono ?_)); rintro e w' ⟨rfl, rfl⟩) | (go_at_call 15; ((with_reducible refine (st_Scan _ _ _ _ _ _ _ _ _ hp).mono ?_)); rintro e w' ⟨rfl, rfl⟩) | (go_at_call 16; ((with_reducible refine (st_Del _ _ _ _ hp).mono ?_)); rintro e w' ⟨rfl, rfl⟩) | (go_at_call 17; ((with_reducible refine (st_Save  hp).mono ?_)); rintro e w' ⟨rfl, rfl⟩) | (go_at_call 18; ((with_reducible refine (st_Pin  hp).mono ?_)); rintro e w' ⟨rfl, rfl⟩) | (go_at_call 19; ((with_reducible refine (st_Next _ hp).mono ?_)); rintro e w' ⟨rfl, rfl⟩) | (go_at_call 20; ((with_reducible refine (st_Peek _ hp).mono ?_)); rintro e w' ⟨rfl, rfl⟩) | (go_at_call 21; ((with_reducible refine (st_Begin  hp).mono ?_)); rintro e w' ⟨rfl, rfl⟩) | (go_at_call 22; ((with_reducible refine (st_Commit  hp).mono ?_)); rintro e w' ⟨rfl, rfl⟩) | (go_at_call 23; ((with_reducible refine (st_Abort  hp).mono ?_)); rintro e w' ⟨rfl, rfl⟩) | (go_at_call 24; ((with_reducible refine (st_Back _ hp).mono ?_)); rintro e w' ⟨rfl, rfl⟩) | (go_at_call 25; ((with_reducible refine (st_Release _ hp).mono ?_)); rintro e w' ⟨rfl, rfl⟩) | (go_at_call 26; ((with_reducible refine (st_Put _ _ _ _ _ _ _ hp).mono ?_)); rintro e w' ⟨rfl, rfl⟩) | (go_at_call 27; ((with_reducible refine (st_Active  hp).mono ?_)); rintro e w' ⟨rfl, rfl⟩) | (go_at_call 28; ((with_reducible refine (st_Gen  hp).mono ?_)); rintro e w' ⟨rfl, rfl⟩) | (go_at_call 29; ((with_reducible refine (st_Used  hp).mono ?_)); rintro e w' ⟨rfl, rfl⟩) | (go_at_call 30; ((with_reducible refine (st_Waiting  hp).mono ?_)); rintro e w' ⟨rfl, rfl⟩) | (go_at_call 31; ((with_reducible refine (st_Free  hp).mono ?_)); rintro e w' ⟨rfl, rfl⟩))
          go_roundg 0
          case measure => omega
          case rel => exact ⟨2, by omega, by omega, rfl, HW, HL⟩
        · go_wp2
          go_ret
          exact ⟨rfl, HW.out⟩
end Go.Proofs.YtehonclbmffkfaaGreat.NB
