/- Part 12 of the proof: words, contracts, plain laws. Laid by a program of this session (wip/tool/shake.py): what is needed of own and printed texts, in order. -/
import Derived.Test.YtnfapjkffofcaaaZc0
import Derived.Test.YtnfapjkffofcaaaZc1
import Derived.Test.YtnfapjkffofcaaaZc8
import Derived.Laws.FloatBits
import Derived.Laws.Externs
import Derived.Test.YtnfapjkffofcaaaProg
import Derived.Below
import Derived.Deep.Draws
import Derived.Deep.AppendLies
import Derived.Maps.AppendAt
import Derived.OwnWalk
import Derived.Laws.BytesArg
import Derived.Laws.MakeOwn
import Derived.Laws.OwnMore
import Derived.Deep.OwnRows
import Derived.Tactics
import Derived.Lib.ConvBytes
import Derived.Laws.Slices
import Derived.WalkKit
import Derived.KernelRfl
import Derived.RowKit3
import Derived.Deep.LoopGhost
import Derived.Deep.QuietTactic
import Derived.BigQuiet
import Derived.WideLaws
import Derived.Deep.DeepCutAuto
import Derived.Deep.CutBlock
import Derived.Deep.RegionHeld3
import Derived.Laws.Rows
import Derived.Lib.AppendStr
import Derived.ArgAppend
import Derived.Laws.IdiomCopy
import Derived.OrdersHeld
import Derived.Laws.BitsLemmas
import Derived.RowKit
import Derived.Laws.StructEq
import Derived.Test.YtnfapjkffofcaaaZc3
import Derived.Test.YtnfapjkffofcaaaZc4
import Derived.Test.YtnfapjkffofcaaaZc5
import Derived.Test.YtnfapjkffofcaaaZc6
import Derived.Test.YtnfapjkffofcaaaZc7
import Derived.Test.YtnfapjkffofcaaaZc9
import Derived.Test.YtnfapjkffofcaaaZc10
import Derived.Test.YtnfapjkffofcaaaZc11
import Derived.Laws.Bits64
import Derived.Deep.RegionWith
import Derived.SizedLaws
import Derived.ChangeArms
import Derived.WideShapes
import Derived.Deep.Slices
import Derived.Test.YtnfapjkffofcaaaZc2
namespace Go.Proofs.Ytnfapjkffofcaaa.PQ
open Go.RowKit Go.Proofs.YtnfapjkffofcaaaW.PrintWords Go.Proofs.YtnfapjkffofcaaaW.PrintLast Go.Proofs.Ytnfapjkffofcaaa.FW Go.Proofs.Ytnfapjkffofcaaa.PK
set_option linter.unusedVariables false
set_option linter.unusedSimpArgs false
def slices_Index_string_string.l0 : Nat → List ByteArray → ByteArray → Int → Int → Option (Int)
  | 0, _, _, _, _ => none
  | k + 1, x0, x1, x7, x8 => if x8 < x7 then (if 0 ≤ x8 then (if x8 < (x0.length : Int) then (if x1.toList = (rdOf ByteArray.empty x0 x8).toList then (some x8) else (slices_Index_string_string.l0 k x0 x1 x7 (wrap64 (x8 + 1)))) else (none)) else (none)) else (some (-1))
def slices_Index_string_string.f (k : Nat) (l0 : List ByteArray) (a1 : ByteArray) : Option (Int) := slices_Index_string_string.l0 k l0 a1 (l0.length : Int) 0
theorem slices_Index_string_string.mono_l : ∀ k, (∀ y0 y1 y2 y3, LeO (slices_Index_string_string.l0 k y0 y1 y2 y3) (slices_Index_string_string.l0 (k + 1) y0 y1 y2 y3))
  | 0 => fun _ _ _ _ r h => by simp [slices_Index_string_string.l0] at h
  | k + 1 => by
    have ih0 := slices_Index_string_string.mono_l k
    · intro y0 y1 y2 y3
      unfold slices_Index_string_string.l0
      repeat' first
      | (with_reducible exact ih0 _ _ _ _)
      | (with_reducible exact LeO.refl _)
      | (with_reducible exact LeO.none _)
      | (with_reducible refine LeO.ite ?_ ?_)
      | (with_reducible refine LeO.bind ?_ (fun _ => ?_))
      | exact ih0 _ _ _ _
      | exact LeO.none _
      | refine LeO.ite ?_ ?_
      | refine LeO.bind ?_ (fun _ => ?_)
theorem slices_Index_string_string.mono : ∀ a0 a1 k, LeO (slices_Index_string_string.f k a0 a1) (slices_Index_string_string.f (k + 1) a0 a1) := by
  intro a0 a1 k
  have ih0 := slices_Index_string_string.mono_l k
  unfold slices_Index_string_string.f
  repeat' first
      | (with_reducible exact ih0 _ _ _ _)
      | (with_reducible exact LeO.refl _)
      | (with_reducible exact LeO.none _)
      | (with_reducible refine LeO.ite ?_ ?_)
      | (with_reducible refine LeO.bind ?_ (fun _ => ?_))
      | exact ih0 _ _ _ _
      | exact LeO.none _
      | refine LeO.ite ?_ ?_
      | refine LeO.bind ?_ (fun _ => ?_)
set_option maxHeartbeats 8000000 in
set_option maxRecDepth 100000 in
theorem slices_Index_string_string.calls (k : Nat) (A0 : Option Addr) (c0 : Nat) (l0 : List ByteArray) (a1 : ByteArray) (r : Int) (w : World) (hr0 : Kd.C Kd.string w A0 l0.length l0) (hc0 : l0.length ≤ c0) (h : slices_Index_string_string.f k l0 a1 = some r) :
    Calls Try.prog 64 #[.slice A0 l0.length c0, .string a1] w fun e w' => e = .returned (.int .i64 r) ∧ Drawn0 w w' := by
  have HR0 := Aside0.mk hr0
  have HC0 := Aside0.mk hc0
  clear hr0 hc0
  have H : (slices_Index_string_string.l0 k l0 a1 (l0.length : Int) 0) = some r := h
  clear h
  have H' := Aside0.mk H
  clear H
  go_enter Try.func64, Try.ntmps64
  go_wp2
  go_loopg [8] k (fun kq v8 w' => ∃ (x8_1 : Int), v8 = .int .i64 x8_1 ∧ Aside0 (slices_Index_string_string.l0 kq l0 a1 (l0.length : Int) x8_1 = some r) ∧ Aside0 (kq ≤ k) ∧ Drawn0 w w')
  case atStart => exact ⟨(0), (by first | rfl | (simp; done) | (simp [*]; done)), H', ⟨Nat.le_refl _⟩, by repeat (first | exact Drawn0.refl _ | apply Drawn0.step)⟩
  case round =>
    clear H'
    try clear p2
    obtain ⟨x8_1, rfl, HA, HK1, ⟨m1, rfl⟩⟩ := hrel
    cases gk with
    | zero => exact absurd HA.out (by simp [slices_Index_string_string.l0])
    | succ k1 =>
      have H := HA.out
      clear HA
      simp only [slices_Index_string_string.l0] at H
      by_cases c3 : x8_1 < (l0.length : Int)
      · rw [if_pos c3] at H
        have c3b0 : decide (x8_1 < (l0.length : Int)) = true := decide_eq_true c3
        clear c3
        by_cases c4 : 0 ≤ x8_1
        · rw [if_pos c4] at H
          have c4b0 : decide (0 ≤ x8_1) = true := decide_eq_true c4
          clear c4
          by_cases c5 : x8_1 < (l0.length : Int)
          · rw [if_pos c5] at H
            have c5b0 : decide (x8_1 < (l0.length : Int)) = true := decide_eq_true c5
            clear c5
            by_cases c6 : a1.toList = (rdOf ByteArray.empty l0 x8_1).toList
            · rw [if_pos c6] at H
              have c6b0 : (a1.toList == (rdOf ByteArray.empty l0 x8_1).toList) = true := beq_iff_eq.mpr c6
              have c6b1 : (a1.toList != (rdOf ByteArray.empty l0 x8_1).toList) = false := bne_eq_false_iff_eq.mpr c6
              clear c6
              obtain rfl := Option.some.inj H
              have p140 : 0 ≤ (x8_1 : Int) := of_decide_eq_true (by first | (with_reducible assumption) | assumption)
              have q140 : x8_1 < (l0.length : Int) := of_decide_eq_true (by first | (with_reducible assumption) | assumption)
              obtain ⟨ad140, e140, hx140_0⟩ := Kd.at_string HR0.out x8_1 p140 q140
              cases e140
              replace p140 := eq_true p140
              replace q140 := eq_true q140
              go_wp2
              go_ret
              exact ⟨by first | rfl | (simp; done) | (simp [*]; done), by repeat (first | exact Drawn0.refl _ | apply Drawn0.step)⟩
            · rw [if_neg c6] at H
              have c6b0 : (a1.toList == (rdOf ByteArray.empty l0 x8_1).toList) = false := beq_eq_false_iff_ne.mpr c6
              have c6b1 : (a1.toList != (rdOf ByteArray.empty l0 x8_1).toList) = true := bne_iff_ne.mpr c6
              have H' := Aside0.mk H
              clear H
              have p140 : 0 ≤ (x8_1 : Int) := of_decide_eq_true (by first | (with_reducible assumption) | assumption)
              have q140 : x8_1 < (l0.length : Int) := of_decide_eq_true (by first | (with_reducible assumption) | assumption)
              obtain ⟨ad140, e140, hx140_0⟩ := Kd.at_string HR0.out x8_1 p140 q140
              cases e140
              replace p140 := eq_true p140
              replace q140 := eq_true q140
              go_wp2
              go_roundg k1
              case measure => have := HK1.out; omega
              case rel => exact ⟨(wrap64 (x8_1 + 1)), (by first | rfl | (simp; done) | (simp [*]; done)), H', ⟨by have := HK1.out; omega⟩, by repeat (first | exact Drawn0.refl _ | apply Drawn0.step)⟩
          · rw [if_neg c5] at H
            exact absurd H (by simp)
        · rw [if_neg c4] at H
          exact absurd H (by simp)
      · rw [if_neg c3] at H
        have c3b0 : decide (x8_1 < (l0.length : Int)) = false := decide_eq_false c3
        clear c3
        obtain rfl := Option.some.inj H
        go_wp2
        go_ret
        exact ⟨by first | rfl | (simp; done) | (simp [*]; done), by repeat (first | exact Drawn0.refl _ | apply Drawn0.step)⟩
def slices_Contains_string_string.f (k : Nat) (l0 : List ByteArray) (a1 : ByteArray) : Option (Bool) := (slices_Index_string_string.f k l0 a1).bind fun t141 => (some (decide (t141 ≥ 0)))
theorem slices_Contains_string_string.mono : ∀ a0 a1 k, LeO (slices_Contains_string_string.f k a0 a1) (slices_Contains_string_string.f (k + 1) a0 a1) := by
  intro a0 a1 k
  unfold slices_Contains_string_string.f
  repeat' first
      | (with_reducible exact slices_Index_string_string.mono _ _ _)
      | (with_reducible exact LeO.refl _)
      | (with_reducible exact LeO.none _)
      | (with_reducible refine LeO.ite ?_ ?_)
      | (with_reducible refine LeO.bind ?_ (fun _ => ?_))
      | exact slices_Index_string_string.mono _ _ _
      | exact LeO.none _
      | refine LeO.ite ?_ ?_
      | refine LeO.bind ?_ (fun _ => ?_)
set_option maxHeartbeats 8000000 in
set_option maxRecDepth 100000 in
theorem slices_Contains_string_string.calls (k : Nat) (A0 : Option Addr) (c0 : Nat) (l0 : List ByteArray) (a1 : ByteArray) (r : Bool) (w : World) (hr0 : Kd.C Kd.string w A0 l0.length l0) (hc0 : l0.length ≤ c0) (h : slices_Contains_string_string.f k l0 a1 = some r) :
    Calls Try.prog 46 #[.slice A0 l0.length c0, .string a1] w fun e w' => e = .returned (.bool r) ∧ Drawn0 w w' := by
  have HR0 := Aside0.mk hr0
  have HC0 := Aside0.mk hc0
  clear hr0 hc0
  have H : ((slices_Index_string_string.f k l0 a1).bind fun t141 => (some (decide (t141 ≥ 0)))) = some r := h
  clear h
  replace H := Option.bind_eq_some_iff.mp H
  obtain ⟨t141, A30, H⟩ := H
  replace H : (some (decide (t141 ≥ 0))) = some r := H
  have A3 := Aside0.mk A30
  clear A30
  obtain rfl := Option.some.inj H
  go_enter Try.func46, Try.ntmps46
  go_wp2_with (first | ((with_reducible refine gate_callee (f := 64) rfl ?_); refine goesL_ (some 7) rfl rfl Try.func64 (by kernel_rfl) rfl #[.slice A0 l0.length c0, .string a1] rfl (by (try simp only [List.map_toArray, List.map_cons, List.map_nil]); first | done | rfl | (simp only [List.length_drop, List.length_take]; rfl)) ?_; (with_reducible refine (slices_Index_string_string.calls k _ _ l0 a1 t141 _ ?side1 ?side2 A3.out).mono ?_); (case side1 => repeat (first | exact HR0.out | (with_reducible refine Kd.C_alloc ?_ _) | (with_reducible refine Kd.C_drewN ?_ _) | (with_reducible refine Kd.C_drew ?_))); (case side2 => exact HC0.out); rintro e w' ⟨rfl, ⟨nd, rfl⟩⟩; refine ⟨_, rfl, ?_⟩))
  go_ret
  exact ⟨by first | rfl | (simp; done) | (simp [*]; done), by repeat (first | exact Drawn0.refl _ | apply Drawn0.step)⟩
end Go.Proofs.Ytnfapjkffofcaaa.PQ
namespace Go.Proofs.Ytnfapjkffofcaaa.G
open Go.RowKit Go.Proofs.YtnfapjkffofcaaaW.PrintWords Go.Proofs.Ytnfapjkffofcaaa.FW Go.Proofs.Ytnfapjkffofcaaa.FL Go.Proofs.Ytnfapjkffofcaaa.EV Go.Proofs.Ytnfapjkffofcaaa.PK Go.Proofs.Ytnfapjkffofcaaa.ORD
set_option linter.unusedVariables false
set_option linter.unusedSimpArgs false
theorem class_some {f : Nat} (hf : f < 18446744073709551616) : cobwebref02_Class.f ((f : Nat) : Int) = some (classN f) := by
  have h0 : (0 : Int) ≤ (f : Int) := Int.natCast_nonneg f
  have h1 : (f : Int) < 18446744073709551616 := by omega
  unfold cobwebref02_Class.f
  rw [if_pos ⟨h0, h1⟩, Int.toNat_natCast]
theorem cmpF_some {f g : Nat} (hf : f < 18446744073709551616) (hg : g < 18446744073709551616) : cobwebref02_Compare.f ((f : Nat) : Int) ((g : Nat) : Int) = some (compareN f g) := by
  have h0 : (0 : Int) ≤ (f : Int) := Int.natCast_nonneg f
  have h1 : (f : Int) < 18446744073709551616 := by omega
  have h2 : (0 : Int) ≤ (g : Int) := Int.natCast_nonneg g
  have h3 : (g : Int) < 18446744073709551616 := by omega
  unfold cobwebref02_Compare.f
  rw [if_pos ⟨⟨h0, h1⟩, h2, h3⟩, Int.toNat_natCast, Int.toNat_natCast]
theorem cmpI_some {n : Int} {g : Nat} (hn : In64 n) (hg : g < 18446744073709551616) : cobwebref02_CompareInt.f n ((g : Nat) : Int) = some (compareIntN n g) := by
  have h2 : (0 : Int) ≤ (g : Int) := Int.natCast_nonneg g
  have h3 : (g : Int) < 18446744073709551616 := by omega
  unfold cobwebref02_CompareInt.f
  rw [if_pos ⟨hn, h2, h3⟩, Int.toNat_natCast]
theorem refNan_eq (a : Atom) (ha : Fl a) : PQ.cobwebref03_nan.f a.f0 a.f1 a.f2 a.f3 = some (nanA a) := by
  unfold PQ.cobwebref03_nan.f nanA
  rw [bits_some, obs, class_some ha, obs]
  by_cases h : a.f0 = 3
  · rw [if_pos h, decide_eq_true h, Bool.true_and]
    congr 1
    rw [Bool.eq_iff_iff, beq_iff_eq]
    exact nanCases a.f2
  · rw [if_neg h, decide_eq_false h]; rfl
theorem refNumber_eq (a : Atom) : PQ.cobwebref03_number.f a.f0 a.f1 a.f2 a.f3 = some (isNum a.f0) := by
  unfold PQ.cobwebref03_number.f isNum
  by_cases h : a.f0 = 2
  · rw [if_pos h, decide_eq_true h]; rfl
  · rw [if_neg h, decide_eq_false h]
    congr 1
theorem refNumbers_eq (a b : Atom) (ha : Fl a) (hb : Fl b) (ia : In64 a.f1) (ib : In64 b.f1) (na : isNum a.f0 = true) (nb : isNum b.f0 = true) :
    Ev (fun K => PQ.cobwebref03_numbers.f K a.f0 a.f1 a.f2 a.f3 b.f0 b.f1 b.f2 b.f3) (cmp3 (nkey a) (nkey b)) := by
  unfold PQ.cobwebref03_numbers.f
  have kinds : ∀ k : Int, isNum k = true → k = 2 ∨ k = 3 := fun k h => by unfold isNum at h; simpa using h
  have wn : ∀ x y : Int, wrap64 (-cmp3 x y) = cmp3 y x := fun x y => by rw [wrap_neg (by rcases cmp3_cases x y with ⟨h, _⟩ | ⟨h, _⟩ | ⟨h, _⟩ <;> rw [h] <;> simp), cmp3_neg]
  rcases kinds _ na with h2 | h3
  · refine ite_t h2 ?_
    rcases kinds _ nb with g2 | g3
    · have e : (b.f0 == 2) = true := by rw [g2]; rfl
      rw [e]
      refine Ev.step (fun _ => rfl) ?_
      simp only [PQ.cobwebref03_numbers.j0]
      refine ite_t (by decide) ?_
      have ek : cmp3 (nkey a) (nkey b) = cmp3 a.f1 b.f1 := by unfold nkey; rw [if_pos h2, if_pos g2, cmp_ikey]
      rw [ek]
      unfold cmp3
      refine ite_v (fun _ => Ev.now _) (fun _ => ?_)
      exact ite_v (fun _ => Ev.now _) (fun _ => Ev.now _)
    · have e : (b.f0 == 2) = false := by rw [g3]; rfl
      rw [e]
      refine Ev.step (fun _ => rfl) ?_
      simp only [PQ.cobwebref03_numbers.j0]
      refine ite_f (by decide) (ite_t h2 ?_)
      rw [bits_some]
      refine some_bind ?_
      rw [cmpI_some ia hb]
      refine some_bind ?_
      have ek : cmp3 (nkey a) (nkey b) = compareIntN a.f1 b.f2 := by unfold nkey compareIntN; rw [if_pos h2, if_neg (by omega)]
      rw [ek]
      exact Ev.now _
  · refine ite_f (by omega) ?_
    refine Ev.step (fun _ => rfl) ?_
    simp only [PQ.cobwebref03_numbers.j0]
    refine ite_f (by decide) (ite_f (by omega) ?_)
    rcases kinds _ nb with g2 | g3
    · refine ite_t g2 ?_
      rw [bits_some]
      refine some_bind ?_
      rw [cmpI_some ib ha]
      refine some_bind ?_
      have ek : cmp3 (nkey a) (nkey b) = wrap64 (-compareIntN b.f1 a.f2) := by unfold nkey compareIntN; rw [if_neg (by omega), if_pos g2, wn]
      rw [ek]
      exact Ev.now _
    · refine ite_f (by omega) ?_
      rw [bits_some, bits_some]
      refine some_bind (some_bind ?_)
      rw [cmpF_some ha hb]
      refine some_bind ?_
      have ek : cmp3 (nkey a) (nkey b) = compareN a.f2 b.f2 := by unfold nkey compareN; rw [if_neg (by omega), if_neg (by omega)]
      rw [ek]
      exact Ev.now _
def rankR (k : Int) : Int := if k ≥ 3 then k - 1 else k
theorem refRank_eq (k : Int) (hk : In64 k) : PQ.cobwebref03_rank.f k = some (rankR k) := by
  unfold PQ.cobwebref03_rank.f rankR
  by_cases h : k ≥ 3
  · rw [if_pos h, if_pos h, wrap64_id (by omega) (by have := hk.2; omega)]
  · rw [if_neg h, if_neg h]
theorem rankR_iff (k l : Int) : rankR k = rankR l ↔ rankN k = rankN l := by
  unfold rankR rankN
  (repeat' split) <;> omega
theorem refAtoms_ev (a b : Atom) (ha : Fl a) (hb : Fl b) (ia : In64 a.f1) (ib : In64 b.f1) (ka : In64 a.f0) (kb : In64 b.f0) :
    ∃ r, Ev (fun K => PQ.cobwebref03_Atoms.f K a.f0 a.f1 a.f2 a.f3 b.f0 b.f1 b.f2 b.f3) r ∧ (r = 0 ↔ atomsN a b = 0) := by
  unfold PQ.cobwebref03_Atoms.f
  rw [refRank_eq _ ka, refRank_eq _ kb]
  have hr := rankR_iff a.f0 b.f0
  by_cases hk : rankN a.f0 = rankN b.f0
  · have hk' := hr.2 hk
    have e0 : atomsN a b = (if isNum a.f0 = true then orN [cmp3 (nkey a) (nkey b), cmp3 a.f0 b.f0] else orN [cmp3 a.f1 b.f1, cmpText a.f3 b.f3]) := by unfold atomsN; rw [if_neg (by simpa using hk)]
    by_cases hn : isNum a.f0 = true
    · have hnb : isNum b.f0 = true := by rw [← isNum_rank hk]; exact hn
      have k2 : rankR a.f0 = 2 := by
        have : a.f0 = 2 ∨ a.f0 = 3 := by unfold isNum at hn; simpa using hn
        unfold rankR
        split <;> omega
      rw [if_pos hn] at e0
      simp only [orN] at e0
      have hz := (cmp3_iff a.f0 b.f0).2
      by_cases hc : cmp3 (nkey a) (nkey b) = 0
      · rw [if_pos hc] at e0
        by_cases he : a.f0 = b.f0
        · refine ⟨cmp3 (nkey a) (nkey b), ?_, ?_⟩
          · refine some_bind (some_bind (ite_f (by omega) (ite_f (by omega) (ite_t k2 ?_))))
            refine Ev.bind (refNumbers_eq a b ha hb ia ib hn hnb) ?_
            exact ite_t hc (ite_t he (Ev.now _))
          · rw [e0, if_pos (hz.2 he)]; simp [hc]
        · refine ⟨wrap64 (a.f0 - b.f0), ?_, ?_⟩
          · refine some_bind (some_bind (ite_f (by omega) (ite_f (by omega) (ite_t k2 ?_))))
            refine Ev.bind (refNumbers_eq a b ha hb ia ib hn hnb) ?_
            exact ite_t hc (ite_f he (Ev.now _))
          · rw [e0, if_neg (fun h => he (hz.1 h))]
            have h1 : a.f0 = 2 ∨ a.f0 = 3 := by unfold isNum at hn; simpa using hn
            have h2 : b.f0 = 2 ∨ b.f0 = 3 := by unfold isNum at hnb; simpa using hnb
            rw [wrap64_id (by omega) (by omega), hz]
            omega
      · rw [if_neg hc] at e0
        refine ⟨cmp3 (nkey a) (nkey b), ?_, by rw [e0]⟩
        refine some_bind (some_bind (ite_f (by omega) (ite_f (by omega) (ite_t k2 ?_))))
        refine Ev.bind (refNumbers_eq a b ha hb ia ib hn hnb) ?_
        exact ite_f hc (Ev.now _)
    · have k2 : ¬ rankR a.f0 = 2 := by
        intro h
        apply hn
        unfold rankR at h
        unfold isNum
        split at h
        · rw [show a.f0 = 3 by omega]; rfl
        · rw [h]; rfl
      rw [if_neg hn] at e0
      simp only [orN] at e0
      have hz := (cmp3_iff a.f1 b.f1).2
      have hneg := Cmp_text.neg a.f3 b.f3
      have hct : cmpText a.f3 b.f3 = if Op.bytesLess a.f3.toList b.f3.toList = true then -1 else if Op.bytesLess b.f3.toList a.f3.toList = true then 1 else 0 := rfl
      have jT : Ev (fun K => PQ.cobwebref03_Atoms.j0 K true a.f0 a.f1 a.f2 a.f3 b.f0 b.f1 b.f2 b.f3) (-1) := by
        refine Ev.step (fun _ => rfl) ?_
        simp only [PQ.cobwebref03_Atoms.j0]
        exact ite_t (by decide) (Ev.now _)
      by_cases h1 : a.f1 < b.f1
      · refine ⟨-1, some_bind (some_bind (ite_f (by omega) (ite_f (by omega) (ite_f k2 (ite_t h1 jT))))), ?_⟩
        rw [e0, if_neg (by rw [hz]; omega), hz]
        omega
      · cases h2 : Op.bytesLess a.f3.toList b.f3.toList
        · have jF : Ev (fun K => PQ.cobwebref03_Atoms.j0 K false a.f0 a.f1 a.f2 a.f3 b.f0 b.f1 b.f2 b.f3) (if a.f1 > b.f1 then 1 else if Op.bytesLess b.f3.toList a.f3.toList = true then 1 else 0) := by
            refine Ev.step (fun _ => rfl) ?_
            simp only [PQ.cobwebref03_Atoms.j0]
            exact ite_f (by decide) (ite_v (fun _ => Ev.now _) (fun _ => ite_v (fun _ => Ev.now _) (fun _ => Ev.now _)))
          refine ⟨_, some_bind (some_bind (ite_f (by omega) (ite_f (by omega) (ite_f k2 (ite_f h1 jF))))), ?_⟩
          rw [e0, hct, h2]
          by_cases h3 : a.f1 > b.f1
          · rw [if_pos h3, if_neg (by rw [hz]; omega), hz]
            omega
          · rw [if_neg h3, if_pos (hz.2 (by omega)), if_neg (show ¬ (false = true) by decide)]
            cases Op.bytesLess b.f3.toList a.f3.toList <;> simp
        · refine ⟨-1, some_bind (some_bind (ite_f (by omega) (ite_f (by omega) (ite_f k2 (ite_f h1 jT))))), ?_⟩
          rw [e0, hct, h2]
          by_cases h3 : cmp3 a.f1 b.f1 = 0
          · rw [if_pos h3]; simp
          · rw [if_neg h3]; simp [h3]
  · have e0 : atomsN a b = cmp3 (rankN a.f0) (rankN b.f0) := by unfold atomsN; rw [if_pos hk]
    have hz := (cmp3_iff (rankN a.f0) (rankN b.f0)).2
    by_cases h1 : rankR a.f0 < rankR b.f0
    · refine ⟨-1, some_bind (some_bind (ite_t h1 (Ev.now _))), ?_⟩
      rw [e0, hz]
      omega
    · refine ⟨1, some_bind (some_bind (ite_f h1 (ite_t (by omega) (Ev.now _)))), ?_⟩
      rw [e0, hz]
      omega
theorem refSame_eq (a b : Atom) (ha : Fl a) (hb : Fl b) (ia : In64 a.f1) (ib : In64 b.f1) (ka : In64 a.f0) (kb : In64 b.f0) (za : a.f0 ≠ 0) (zb : b.f0 ≠ 0) :
    Ev (fun K => PQ.cobwebref03_same.f K a.f0 a.f1 a.f2 a.f3 b.f0 b.f1 b.f2 b.f3) (alikeN a b) := by
  unfold PQ.cobwebref03_same.f alikeN
  rw [refNan_eq a ha, refNan_eq b hb]
  have jt : Ev (fun K => PQ.cobwebref03_same.j0 K true a.f0 a.f1 a.f2 a.f3 b.f0 b.f1 b.f2 b.f3) false := by
    refine Ev.step (fun _ => rfl) ?_
    simp only [PQ.cobwebref03_same.j0]
    exact ite_t (by decide) (Ev.now _)
  refine some_bind ?_
  cases h1 : nanA a
  · refine ite_f (by decide) (some_bind ?_)
    cases h2 : nanA b
    · rw [if_neg (by simp [za, zb])]
      refine Ev.step (fun _ => rfl) ?_
      simp only [PQ.cobwebref03_same.j0]
      rw [refNumber_eq a, refNumber_eq b]
      refine ite_f (by decide) (some_bind ?_)
      have j1f : ¬ (isNum a.f0 = true ∧ isNum b.f0 = true) → Ev (fun K => PQ.cobwebref03_same.j1 K false a.f0 a.f1 a.f2 a.f3 b.f0 b.f1 b.f2 b.f3) (if isNum a.f0 = true ∧ isNum b.f0 = true then decide (nkey a = nkey b) else decide (atomsN a b = 0)) := fun hh => by
        refine Ev.step (fun _ => rfl) ?_
        simp only [PQ.cobwebref03_same.j1]
        refine ite_f (by decide) ?_
        obtain ⟨r, hr, hz⟩ := refAtoms_ev a b ha hb ia ib ka kb
        refine Ev.bind hr ?_
        rw [if_neg hh]
        have e : decide (atomsN a b = 0) = (r == 0) := by rw [Bool.eq_iff_iff, beq_iff_eq, decide_eq_true_eq]; exact hz.symm
        rw [e]
        exact Ev.now _
      cases na : isNum a.f0
      · rw [na] at j1f
        exact ite_f (by decide) (j1f (by simp))
      · refine ite_t rfl (some_bind ?_)
        rw [na] at j1f
        cases nb : isNum b.f0
        · rw [nb] at j1f
          exact j1f (by simp)
        · refine Ev.step (fun _ => rfl) ?_
          simp only [PQ.cobwebref03_same.j1]
          refine ite_t (by decide) (Ev.bind (refNumbers_eq a b ha hb ia ib na nb) ?_)
          rw [if_pos (by simp)]
          have e : decide (nkey a = nkey b) = (cmp3 (nkey a) (nkey b) == 0) := by rw [Bool.eq_iff_iff, beq_iff_eq, decide_eq_true_eq]; exact (cmp3_iff _ _).2.symm
          rw [e]
          exact Ev.now _
    · rw [if_pos (by simp)]
      exact jt
  · rw [if_pos (by simp)]
    exact ite_t rfl jt
def KindV (v : Val) : Prop := In64 v.f0.f0 ∧ ∀ a ∈ v.f1, In64 a.f0
instance (v : Val) : Decidable (KindV v) := inferInstanceAs (Decidable (_ ∧ _))
theorem refValid_val {v : Val} (hv : FlV v) : cobwebref03_Valid.f v.f0.f0 v.f0.f1 v.f0.f2 v.f0.f3 v.f1 = some (validV v) := by
  unfold cobwebref03_Valid.f; exact if_pos hv
theorem refEq_loop (l m : List Atom) (hl : l.length ≤ 16) (hm : l.length = m.length) (fa : ∀ a ∈ l, Fl a) (fb : ∀ a ∈ m, Fl a) (ia : ∀ a ∈ l, In64 a.f1) (ib : ∀ a ∈ m, In64 a.f1) (ka : ∀ a ∈ l, In64 a.f0) (kb : ∀ a ∈ m, In64 a.f0)
    (k n : Int) (f : Nat) (s : ByteArray) (k' n' : Int) (f' : Nat) (s' : ByteArray) : ∀ (d : Nat) (i : Nat), i ≤ l.length → l.length - i = d →
    Ev (fun K => PQ.cobwebref03_Equal.l0 K i k n f s l k' n' f' s' m) (toldN (alikeL (l.drop i) (m.drop i))) := by
  intro d
  induction d with
  | zero =>
    intro i hi hd
    refine Ev.step (fun _ => rfl) ?_
    simp only [PQ.cobwebref03_Equal.l0]
    rw [List.drop_of_length_le (by omega), List.drop_of_length_le (by omega)]
    exact ite_f (by omega) (Ev.now _)
  | succ d ih =>
    intro i hi hd
    refine Ev.step (fun _ => rfl) ?_
    simp only [PQ.cobwebref03_Equal.l0]
    have h1 : i < l.length := by omega
    have h2 : i < m.length := by omega
    rw [rdA l i h1, rdA m i h2, List.drop_eq_getElem_cons h1, List.drop_eq_getElem_cons h2, alikeL]
    have m1 := List.getElem_mem h1
    have m2 := List.getElem_mem h2
    refine ite_t (by omega) (ite_t (by omega) ?_)
    by_cases z1 : l[i].f0 = 0
    · have e : alikeN l[i] m[i] = false := by unfold alikeN; rw [if_pos (by simp [z1])]
      rw [e, Bool.false_and]
      exact ite_t z1 (Ev.now _)
    · refine ite_f z1 (ite_t (by omega) ?_)
      by_cases z2 : m[i].f0 = 0
      · have e : alikeN l[i] m[i] = false := by unfold alikeN; rw [if_pos (by simp [z2])]
        rw [e, Bool.false_and]
        exact ite_t z2 (Ev.now _)
      · refine ite_f z2 (Ev.bind (refSame_eq _ _ (fa _ m1) (fb _ m2) (ia _ m1) (ib _ m2) (ka _ m1) (kb _ m2) z1 z2) ?_)
        cases alikeN l[i] m[i]
        · rw [Bool.false_and]; exact ite_f (by decide) (Ev.now _)
        · rw [Bool.true_and]
          refine ite_t rfl ?_
          rw [wrap64_id (by omega) (by omega)]
          exact ih (i + 1) (by omega) (by omega)
theorem alikeL_len : ∀ {l m : List Atom}, alikeL l m = true → l.length = m.length
  | [], [], _ => rfl
  | [], _ :: _, h => by simp [alikeL] at h
  | _ :: _, [], h => by simp [alikeL] at h
  | a :: s, b :: t, h => by
    simp only [alikeL, Bool.and_eq_true] at h
    simp [alikeL_len h.2]
theorem refEqual_eq (v w : Val) (fv : FlV v) (fw : FlV w) (iv : InV v) (iw : InV w) (kv : KindV v) (kw : KindV w) :
    Ev (fun K => PQ.cobwebref03_Equal.f K v.f0.f0 v.f0.f1 v.f0.f2 v.f0.f3 v.f1 w.f0.f0 w.f0.f1 w.f0.f2 w.f0.f3 w.f1) (equalV v w) := by
  unfold PQ.cobwebref03_Equal.f equalV
  rw [refValid_val fv, refValid_val fw]
  have jt : Ev (fun K => PQ.cobwebref03_Equal.j0 K true v.f0.f0 v.f0.f1 v.f0.f2 v.f0.f3 v.f1 w.f0.f0 w.f0.f1 w.f0.f2 w.f0.f3 w.f1) 2 := by
    refine Ev.step (fun _ => rfl) ?_
    simp only [PQ.cobwebref03_Equal.j0]
    exact ite_t (by decide) (Ev.now _)
  refine some_bind ?_
  cases hv : validV v
  · rw [if_pos (by simp [unknownV, hv])]
    exact ite_f (by decide) jt
  · refine ite_t rfl (some_bind ?_)
    cases hw : validV w
    · rw [if_pos (by simp [unknownV, hw])]
      exact ite_f (by decide) jt
    · refine ite_t rfl ?_
      by_cases z1 : v.f0.f0 = 0
      · rw [if_pos (by simp [unknownV, z1])]
        exact ite_t z1 jt
      · refine ite_f z1 ?_
        by_cases z2 : w.f0.f0 = 0
        · rw [if_pos (by simp [unknownV, z2])]
          have e : (w.f0.f0 == 0) = true := by rw [z2]; rfl
          rw [e]
          exact jt
        · rw [if_neg (by simp [unknownV, hv, hw, z1, z2])]
          have e : (w.f0.f0 == 0) = false := by simp [z2]
          rw [e]
          refine Ev.step (fun _ => rfl) ?_
          simp only [PQ.cobwebref03_Equal.j0]
          refine ite_f (by decide) ?_
          have j1 : Ev (fun K => PQ.cobwebref03_Equal.j1 K true v.f0.f0 v.f0.f1 v.f0.f2 v.f0.f3 v.f1 w.f0.f0 w.f0.f1 w.f0.f2 w.f0.f3 w.f1) (toldN (alikeN v.f0 w.f0)) := by
            refine Ev.step (fun _ => rfl) ?_
            simp only [PQ.cobwebref03_Equal.j1]
            refine ite_t (by decide) (Ev.bind (refSame_eq _ _ fv.1 fw.1 iv.1 iw.1 kv.1 kw.1 z1 z2) ?_)
            cases alikeN v.f0 w.f0
            · exact ite_f (by decide) (Ev.now _)
            · exact ite_t rfl (Ev.now _)
          by_cases h6 : v.f0.f0 = 6
          · refine ite_t h6 ?_
            by_cases h7 : w.f0.f0 = 6
            · rw [if_pos ⟨h6, h7⟩]
              have e : (w.f0.f0 != 6) = false := by rw [h7]; rfl
              rw [e]
              refine Ev.step (fun _ => rfl) ?_
              simp only [PQ.cobwebref03_Equal.j1]
              refine ite_f (by decide) ?_
              by_cases hm : v.f1.length = w.f1.length
              · exact ite_t (by omega) (refEq_loop v.f1 w.f1 (validV_len hv) hm fv.2 fw.2 iv.2 iw.2 kv.2 kw.2 _ _ _ _ _ _ _ _ _ 0 (by omega) rfl)
              · have e2 : alikeL v.f1 w.f1 = false := by
                  cases h : alikeL v.f1 w.f1
                  · rfl
                  · exact absurd (alikeL_len h) hm
                rw [e2]
                exact ite_f (by omega) (Ev.now _)
            · rw [if_neg (by simp [h7])]
              have e : (w.f0.f0 != 6) = true := by simp [h7]
              rw [e]
              exact j1
          · rw [if_neg (by simp [h6])]
            exact ite_f h6 j1
theorem refGet_loop (l : List Prp) (hl : l.length ≤ 140737488351232) (s : ByteArray) : ∀ (d : Nat) (i : Nat), i ≤ l.length → l.length - i = d → Ev (fun K => PQ.cobwebref05_Get.l0 K l s i) (getP s (l.drop i)) := by
  intro d
  induction d with
  | zero =>
    intro i hi hd
    refine Ev.step (fun _ => rfl) ?_
    simp only [PQ.cobwebref05_Get.l0]
    rw [List.drop_of_length_le (by omega)]
    exact ite_f (by omega) (Ev.now _)
  | succ d ih =>
    intro i hi hd
    refine Ev.step (fun _ => rfl) ?_
    simp only [PQ.cobwebref05_Get.l0]
    have hlt : i < l.length := by omega
    have hrd : rd_T61 l (i : Int) = l[i] := by simp [rd_T61, List.getElem?_eq_getElem hlt]
    rw [hrd, List.drop_eq_getElem_cons hlt]
    unfold getP findP
    rw [List.find?_cons]
    refine ite_t (by omega) (ite_t (by omega) ?_)
    by_cases h : l[i].f0.toList = s.toList
    · have e : isName s l[i] = true := beq_iff_eq.2 h
      rw [e]
      exact ite_t h (Ev.now _)
    · have e : isName s l[i] = false := beq_eq_false_iff_ne.2 h
      rw [e]
      refine ite_f h ?_
      rw [wrap64_id (by omega) (by omega)]
      exact ih (i + 1) (by omega) (by omega)
def hasS (l : List ByteArray) (s : ByteArray) : Bool := l.any (fun x => s.toList == x.toList)
theorem index_loop (l : List ByteArray) (hl : l.length ≤ 140737488351232) (s : ByteArray) : ∀ (d : Nat) (i : Nat), i ≤ l.length → l.length - i = d → ∃ r, Ev (fun K => PQ.slices_Index_string_string.l0 K l s (l.length : Int) i) r ∧ (0 ≤ r ↔ hasS (l.drop i) s = true) := by
  intro d
  induction d with
  | zero =>
    intro i hi hd
    refine ⟨-1, Ev.step (fun _ => rfl) ?_, ?_⟩
    · simp only [PQ.slices_Index_string_string.l0]
      exact ite_f (by omega) (Ev.now _)
    · rw [List.drop_of_length_le (by omega)]
      simp [hasS]
  | succ d ih =>
    intro i hi hd
    have hlt : i < l.length := by omega
    have hrd : rdOf ByteArray.empty l (i : Int) = l[i] := by simp [rdOf, List.getElem?_eq_getElem hlt]
    by_cases h : s.toList = l[i].toList
    · refine ⟨i, Ev.step (fun _ => rfl) ?_, ?_⟩
      · simp only [PQ.slices_Index_string_string.l0]
        rw [hrd]
        exact ite_t (by omega) (ite_t (by omega) (ite_t (by omega) (ite_t h (Ev.now _))))
      · rw [List.drop_eq_getElem_cons hlt]
        unfold hasS
        rw [List.any_cons, beq_iff_eq.2 h, Bool.true_or]
        exact ⟨fun _ => rfl, fun _ => by omega⟩
    · obtain ⟨r, hr, hz⟩ := ih (i + 1) (by omega) (by omega)
      refine ⟨r, Ev.step (fun _ => rfl) ?_, ?_⟩
      · simp only [PQ.slices_Index_string_string.l0]
        rw [hrd]
        refine ite_t (by omega) (ite_t (by omega) (ite_t (by omega) (ite_f h ?_)))
        rw [wrap64_id (by omega) (by omega)]
        exact hr
      · rw [hz, List.drop_eq_getElem_cons hlt]
        unfold hasS
        rw [List.any_cons, beq_eq_false_iff_ne.2 h, Bool.false_or]
theorem contains_eq (l : List ByteArray) (hl : l.length ≤ 140737488351232) (s : ByteArray) : Ev (fun K => PQ.slices_Contains_string_string.f K l s) (hasS l s) := by
  unfold PQ.slices_Contains_string_string.f
  obtain ⟨r, hr, hz⟩ := index_loop l hl s l.length 0 (by omega) rfl
  refine Ev.bind hr ?_
  have e : hasS l s = decide (r ≥ 0) := by rw [Bool.eq_iff_iff, decide_eq_true_eq, ge_iff_le, hz, List.drop_zero]
  rw [e]
  exact Ev.now _
def cobwebref03_Equal.f (a0_0 a0_1 : Int) (a0_2 : Nat) (a0_3 : ByteArray) (l0_4 : List Atom) (a1_0 a1_1 : Int) (a1_2 : Nat) (a1_3 : ByteArray) (l1_4 : List Atom) : Option Int :=
  if (FlV ⟨⟨a0_0, a0_1, a0_2, a0_3⟩, l0_4⟩ ∧ FlV ⟨⟨a1_0, a1_1, a1_2, a1_3⟩, l1_4⟩) ∧ (InV ⟨⟨a0_0, a0_1, a0_2, a0_3⟩, l0_4⟩ ∧ InV ⟨⟨a1_0, a1_1, a1_2, a1_3⟩, l1_4⟩) ∧ KindV ⟨⟨a0_0, a0_1, a0_2, a0_3⟩, l0_4⟩ ∧ KindV ⟨⟨a1_0, a1_1, a1_2, a1_3⟩, l1_4⟩ then some (equalV ⟨⟨a0_0, a0_1, a0_2, a0_3⟩, l0_4⟩ ⟨⟨a1_0, a1_1, a1_2, a1_3⟩, l1_4⟩) else none
theorem cobwebref03_Equal.of {a0_0 a0_1 : Int} {a0_2 : Nat} {a0_3 : ByteArray} {l0_4 : List Atom} {a1_0 a1_1 : Int} {a1_2 : Nat} {a1_3 : ByteArray} {l1_4 : List Atom} {r : Int} (h : cobwebref03_Equal.f a0_0 a0_1 a0_2 a0_3 l0_4 a1_0 a1_1 a1_2 a1_3 l1_4 = some r) : ∃ k, PQ.cobwebref03_Equal.f k a0_0 a0_1 a0_2 a0_3 l0_4 a1_0 a1_1 a1_2 a1_3 l1_4 = some r := by
  unfold cobwebref03_Equal.f at h
  split at h
  · rename_i hb
    injection h with h
    rw [← h]
    exact (refEqual_eq ⟨⟨a0_0, a0_1, a0_2, a0_3⟩, l0_4⟩ ⟨⟨a1_0, a1_1, a1_2, a1_3⟩, l1_4⟩ hb.1.1 hb.1.2 hb.2.1.1 hb.2.1.2 hb.2.2.1 hb.2.2.2).rounds
  · cases h
theorem cobwebref03_Equal.calls (a0_0 : Int) (a0_1 : Int) (a0_2 : Nat) (a0_3 : ByteArray) (A0_4 : Option Addr) (c0_4 : Nat) (l0_4 : List (S26)) (a1_0 : Int) (a1_1 : Int) (a1_2 : Nat) (a1_3 : ByteArray) (A1_4 : Option Addr) (c1_4 : Nat) (l1_4 : List (S26)) (r : Int) (w : World) (hr0_4 : Kd.C k26 w A0_4 l0_4.length l0_4) (hc0_4 : l0_4.length ≤ c0_4) (hr1_4 : Kd.C k26 w A1_4 l1_4.length l1_4) (hc1_4 : l1_4.length ≤ c1_4) (h : cobwebref03_Equal.f a0_0 a0_1 a0_2 a0_3 l0_4 a1_0 a1_1 a1_2 a1_3 l1_4 = some r) :
    Calls Try.prog 48 #[.agg #[.int .i64 a0_0, .int .i64 a0_1, .float .f64 a0_2, .string a0_3, .slice A0_4 l0_4.length c0_4], .agg #[.int .i64 a1_0, .int .i64 a1_1, .float .f64 a1_2, .string a1_3, .slice A1_4 l1_4.length c1_4]] w fun e w' => e = .returned (.int .i64 r) ∧ Below w.heap.size w w' := by
  obtain ⟨k, hk⟩ := cobwebref03_Equal.of h
  exact PQ.cobwebref03_Equal.calls k a0_0 a0_1 a0_2 a0_3 A0_4 c0_4 l0_4 a1_0 a1_1 a1_2 a1_3 A1_4 c1_4 l1_4 r w hr0_4 hc0_4 hr1_4 hc1_4 hk
def cobwebref05_Get.f (l0 : List Prp) (a1 : ByteArray) : Option (Int × Int × Nat × ByteArray × List Atom × Bool) := if l0.length ≤ 140737488351232 then some (getP a1 l0) else none
theorem cobwebref05_Get.of {l0 : List Prp} {a1 : ByteArray} {r : Int × Int × Nat × ByteArray × List Atom × Bool} (h : cobwebref05_Get.f l0 a1 = some r) : ∃ k, PQ.cobwebref05_Get.f k l0 a1 = some r := by
  unfold cobwebref05_Get.f at h
  split at h
  · rename_i hb
    injection h with h
    rw [← h]
    exact (refGet_loop l0 hb a1 l0.length 0 (by omega) rfl).rounds
  · cases h
theorem cobwebref05_Get.calls (P0_ : Nat → Prop) (A0 : Option Addr) (c0 : Nat) (l0 : List (S61)) (a1 : ByteArray) (r1 : Int) (r2 : Int) (r3 : Nat) (r4 : ByteArray) (r5 : List (S26)) (r6 : Bool) (w : World) (hs0 : Kd.V k61 61 w w.heap.size (fun k_ => P0_ k_) (.slice A0 l0.length c0) l0) (h : cobwebref05_Get.f l0 a1 = some (r1, r2, r3, r4, r5, r6)) :
    Calls Try.prog 47 #[.slice A0 l0.length c0, .string a1] w fun e w' => ∃ v4_ : Value, e = .returned (.tuple #[.agg #[.int .i64 r1, .int .i64 r2, .float .f64 r3, .string r4, v4_], .bool r6]) ∧ Kd.V k26 26 w' w.heap.size (fun k_ => (P0_ k_ ∨ w.heap.size ≤ k_)) v4_ r5 ∧ Below w.heap.size w w' := by
  obtain ⟨k, hk⟩ := cobwebref05_Get.of h
  exact PQ.cobwebref05_Get.calls k P0_ A0 c0 l0 a1 r1 r2 r3 r4 r5 r6 w hs0 hk
def slices_Contains_string_string.f (l0 : List ByteArray) (a1 : ByteArray) : Option Bool := if l0.length ≤ 140737488351232 then some (hasS l0 a1) else none
theorem slices_Contains_string_string.of {l0 : List ByteArray} {a1 : ByteArray} {r : Bool} (h : slices_Contains_string_string.f l0 a1 = some r) : ∃ k, PQ.slices_Contains_string_string.f k l0 a1 = some r := by
  unfold slices_Contains_string_string.f at h
  split at h
  · rename_i hb
    injection h with h
    rw [← h]
    exact (contains_eq l0 hb a1).rounds
  · cases h
theorem slices_Contains_string_string.calls (A0 : Option Addr) (c0 : Nat) (l0 : List ByteArray) (a1 : ByteArray) (r : Bool) (w : World) (hr0 : Kd.C Kd.string w A0 l0.length l0) (hc0 : l0.length ≤ c0) (h : slices_Contains_string_string.f l0 a1 = some r) :
    Calls Try.prog 46 #[.slice A0 l0.length c0, .string a1] w fun e w' => e = .returned (.bool r) ∧ Drawn0 w w' := by
  obtain ⟨k, hk⟩ := slices_Contains_string_string.of h
  exact PQ.slices_Contains_string_string.calls k A0 c0 l0 a1 r w hr0 hc0 hk
end Go.Proofs.Ytnfapjkffofcaaa.G
namespace Go.Proofs.Ytnfapjkffofcaaa.OW
open Go.RowKit Go.WideShapes Go.Proofs.YtnfapjkffofcaaaW.PrintWords Go.Proofs.Ytnfapjkffofcaaa.FW
set_option linter.unusedVariables false
set_option linter.unusedSimpArgs false
structure Opens (P : Program) (t : TypeId) {α : Type} (d : Kd α) (B : α → Prop) : Prop where
  sz : P.cellsOf t = d.sz
  get : ∀ {H : Type} {enc : TypeId × Value → H} {w : World} {base : Nat} {spare : Nat → Bool} {held : Bool} {fuel : Nat} {cs : List Value} {x : DataW H × List MemPlace},
    DataW.trod enc P w base spare held fuel t cs = some x → (∀ n ∈ x.1.weights P t, n ≤ reachBytes) → ∃ y : α, d.K w y cs ∧ B y
section
variable {P : Program} {t e : TypeId} {α β γ : Type}
theorem opens_int {k : IntKind} (ht : P.underlying t = some (.int k)) (hs : P.cellsOf t = 1) : Opens P t (Kd.int k) (fun n => (Lit.int k n).wf = true) where
  sz := hs
  get := by
    intro H enc w base spare held fuel cs x h _
    obtain ⟨n, rfl, _, hw⟩ := DataW.trod_int ht h
    exact ⟨n, rfl, hw⟩
theorem opens_string (ht : P.underlying t = some .string) (hs : P.cellsOf t = 1) : Opens P t Kd.string (fun s => s.size ≤ 140737488351232) where
  sz := hs
  get := by
    intro H enc w base spare held fuel cs x h hw
    obtain ⟨s, rfl, rfl, _⟩ := DataW.trod_string ht h
    refine ⟨s, rfl, ?_⟩
    have := hw s.data.toList.length (by simp [DataW.weights])
    have h2 : reachBytes = 140737488351232 := rfl
    rw [h2, Array.length_toList] at this
    exact this
theorem opens_float (ht : P.underlying t = some (.float .f64)) (hs : P.cellsOf t = 1) : Opens P t Kd.float (fun b => b < 18446744073709551616) where
  sz := hs
  get := by
    intro H enc w base spare held fuel cs x h _
    cases fuel with
    | zero => simp [DataW.trod] at h
    | succ n =>
      unfold DataW.trod at h
      rw [ht] at h
      split at h <;> simp_all
      rename_i k b h1 k'
      obtain ⟨⟨h3, h4⟩, _⟩ := h
      subst h3
      subst k'
      exact ⟨b, rfl, by simpa [Lit.wf] using h4⟩
theorem list_of {α : Type} (n : Nat) (Q : Nat → α → Prop) (h : ∀ i, i < n → ∃ y, Q i y) : ∃ ys : List α, ys.length = n ∧ ∀ i y, ys[i]? = some y → Q i y := by
  induction n with
  | zero => exact ⟨[], rfl, fun i y hy => by simp at hy⟩
  | succ n ih =>
    obtain ⟨ys, hl, hq⟩ := ih (fun i hi => h i (by omega))
    obtain ⟨y, hy⟩ := h n (by omega)
    refine ⟨ys ++ [y], by simp [hl], fun i z hz => ?_⟩
    by_cases hi : i < n
    · rw [List.getElem?_append_left (by omega)] at hz
      exact hq i z hz
    · rw [List.getElem?_append_right (by omega)] at hz
      have : i - ys.length = 0 := by
        rcases Nat.eq_zero_or_pos (i - ys.length) with h0 | h0
        · exact h0
        · rw [List.getElem?_eq_none (by simp; omega)] at hz
          cases hz
      rw [this] at hz
      have : i = n := by omega
      subst this
      simp at hz
      subst hz
      exact hy
theorem mem_weightsAll {H : Type} : ∀ {ds : List (DataW H)} {d : DataW H}, d ∈ ds → ∀ n ∈ d.weights P e, n ∈ DataW.weightsAll P e ds
  | d0 :: ds, d, hd, n, hn => by
    simp only [DataW.weightsAll, List.mem_append]
    rcases List.mem_cons.1 hd with rfl | hd
    · exact .inl hn
    · exact .inr (mem_weightsAll hd n hn)
theorem cells?_at {w : World} {base : Nat} {a : Addr} {n : Nat} {cs : List Value} (h : w.cells? base a n = some cs) : cs.length = n ∧ ∀ i u, cs[i]? = some u → w.cell? (a.add i) = some u := by
  obtain ⟨_, h1, h2⟩ := World.cells?_some h
  refine ⟨h1, fun i u hu => ?_⟩
  have hi : i < cs.length := (List.getElem?_eq_some_iff.1 hu).1
  rw [h2 i (by omega)]
  exact hu
theorem opens_slice {d : Kd α} {B : α → Prop} (ht : P.underlying t = some (.slice e)) (hs : P.cellsOf t = 1) (he : Opens P e d B) (hp : 0 < d.sz) :
    Opens P t (Kd.slice e d) (fun xs => xs.length * P.bytesOf e ≤ 140737488351232 ∧ xs.length ≤ maxLen ∧ ∀ x ∈ xs, B x) where
  sz := hs
  get := by
    intro H enc w base spare held fuel cs x h hw
    rcases DataW.trod_slice ht h with ⟨rfl, _⟩ | ⟨a, len, cap, elems, rest, n, _, rfl, rfl, hb, hl, hm, hlen, hel, _, _⟩
    · exact ⟨[], ⟨none, 0, rfl, Nat.le_refl _, Kd.C_nil d w⟩, by simp, by simp, by simp⟩
    · have hw0 : ∀ n ∈ (DataW.slice (elems.map (·.1)) (rest.map (·.1))).weights P t, n ≤ reachBytes := hw
      simp only [DataW.weights, ht] at hw0
      have hex : ∀ i, i < len → ∃ y, (∃ c, c.length = d.sz ∧ d.K w y c ∧ ∀ j u, c[j]? = some u → w.cell? (a.add (i * d.sz + j)) = some u) ∧ B y := by
        intro i hi
        have h1 := hel i hi
        rw [List.getElem?_eq_getElem (by omega)] at h1
        obtain ⟨cs', hc, hx⟩ := Option.bind_eq_some_iff.1 h1
        obtain ⟨y, hk, hB⟩ := he.get hx (fun m hm' => hw0 m (List.mem_cons_of_mem _ (List.mem_append_left _ (mem_weightsAll (d := (elems[i]'(by omega)).1) (List.mem_map.2 ⟨_, List.getElem_mem _, rfl⟩) m hm'))))
        obtain ⟨hcl, hcc⟩ := cells?_at hc
        rw [he.sz] at hcl hcc
        refine ⟨y, ⟨cs', hcl, hk, fun j u hu => ?_⟩, hB⟩
        rw [← Deep.add_add]
        exact hcc j u hu
      obtain ⟨ys, hyl, hyq⟩ := list_of len _ hex
      subst hyl
      refine ⟨ys, ⟨some a, cap, rfl, hl, rfl, ?_, fun _ => ⟨a, rfl, fun j p hp => (hyq j p hp).1⟩⟩, ?_, ?_, ?_⟩
      · unfold maxLen at hm; omega
      · have h2 := hw0 _ List.mem_cons_self
        have h3 : reachBytes = 140737488351232 := rfl
        rw [h3, List.length_map, hlen] at h2
        exact Nat.le_trans (Nat.mul_le_mul_right _ (Nat.le_add_right _ _)) h2
      · exact Nat.le_trans hl hm
      · intro x hx
        obtain ⟨i, hi⟩ := List.mem_iff_getElem?.1 hx
        exact (hyq i x hi).2
structure OpensF (P : Program) (fs : List Field) (off : Nat) {α : Type} (d : Kd α) (B : α → Prop) : Prop where
  get : ∀ {H : Type} {enc : TypeId × Value → H} {w : World} {base : Nat} {spare : Nat → Bool} {held : Bool} {fuel : Nat} {cs : List Value} {xs : List (DataW H × List MemPlace)},
    xs.length = fs.length → (∀ (i : Nat) (f : Field), fs[i]? = some f → DataW.trod enc P w base spare held fuel f.type ((cs.drop f.offset).take (P.cellsOf f.type)) = xs[i]?) →
    (∀ n ∈ DataW.weightsEach P (fs.map (·.type)) (xs.map (·.1)), n ≤ reachBytes) → ∃ y : α, d.K w y ((cs.drop off).take d.sz) ∧ B y
theorem opensF_one {f : Field} {off : Nat} {d : Kd α} {B : α → Prop} (ho : f.offset = off) (hf : Opens P f.type d B) : OpensF P [f] off d B where
  get := by
    intro H enc w base spare held fuel cs xs hl h hw
    match xs, hl with
    | [x], _ =>
      have h0 := h 0 f rfl
      simp only [List.getElem?_cons_zero] at h0
      obtain ⟨y, hk, hB⟩ := hf.get h0 (fun n hn => hw n (by simp [DataW.weightsEach, hn]))
      rw [ho, hf.sz] at hk
      exact ⟨y, hk, hB⟩
theorem opensF_cons {f : Field} {fs : List Field} {off off' : Nat} {d : Kd α} {d' : Kd β} {B : α → Prop} {B' : β → Prop} (ho : f.offset = off) (hf : Opens P f.type d B) (hn : off' = off + d.sz) (hr : OpensF P fs off' d' B') :
    OpensF P (f :: fs) off (Kd.pair d d') (fun x => B x.1 ∧ B' x.2) where
  get := by
    intro H enc w base spare held fuel cs xs hl h hw
    match xs, hl with
    | x :: xs, hl =>
      have h0 := h 0 f rfl
      simp only [List.getElem?_cons_zero] at h0
      obtain ⟨y, hk, hB⟩ := hf.get h0 (fun n hn => hw n (by simp [DataW.weightsEach, hn]))
      obtain ⟨z, hk', hB'⟩ := hr.get (xs := xs) (by simpa using hl) (fun i g hg => by simpa using h (i + 1) g (by simpa using hg)) (fun n hn => hw n (by
        simp only [List.map_cons, DataW.weightsEach, List.mem_append]
        exact .inr hn))
      rw [ho, hf.sz] at hk
      refine ⟨(y, z), ⟨_, _, ?_, hk, hk'⟩, hB, hB'⟩
      subst hn
      show (cs.drop off).take (d.sz + d'.sz) = _
      rw [List.take_add, List.drop_drop]
theorem opens_struct {fs : Array Field} {d : Kd α} {B : α → Prop} (f : β → α) (g : α → β) (hg : ∀ a, f (g a) = a) (ht : P.underlying t = some (.struct fs)) (hs : P.cellsOf t = d.sz) (hf : OpensF P fs.toList 0 d B) :
    Opens P t (Kd.iso d f) (fun x => B (f x)) where
  sz := hs
  get := by
    intro H enc w base spare held fuel cs x h hw
    obtain ⟨xs, n, _, rfl, hl, hlen, hx⟩ := DataW.trod_struct ht h
    have hw0 : ∀ n ∈ (DataW.agg (xs.map (·.1))).weights P t, n ≤ reachBytes := hw
    simp only [DataW.weights, ht] at hw0
    obtain ⟨y, hk, hB⟩ := hf.get (cs := cs) (by simpa using hlen) (fun i f hf' => hx i f (by simpa using hf')) hw0
    refine ⟨g y, ?_, by rw [hg]; exact hB⟩
    show d.K w (f (g y)) cs
    rw [hg]
    rw [List.drop_zero, List.take_of_length_le (by rw [hl, hs]; exact Nat.le_refl _)] at hk
    exact hk
end
end Go.Proofs.Ytnfapjkffofcaaa.OW
namespace Go.Proofs.Ytnfapjkffofcaaa.TY
open Go.RowKit Go.WideShapes Go.Proofs.YtnfapjkffofcaaaW.PrintWords Go.Proofs.Ytnfapjkffofcaaa.FW Go.Proofs.Ytnfapjkffofcaaa.OW Go.Proofs.Ytnfapjkffofcaaa.PK
def B3 (n : Int) : Prop := (Lit.int .i64 n).wf = true
theorem op3 : Opens Try.prog 3 (Kd.int .i64) B3 := opens_int Try.underlying3 (by kernel_rfl)
def B9 (s : ByteArray) : Prop := s.size ≤ 140737488351232
theorem op9 : Opens Try.prog 9 Kd.string B9 := opens_string Try.underlying9 (by kernel_rfl)
def B47 (xs : (List ByteArray)) : Prop := xs.length * 16 ≤ 140737488351232 ∧ xs.length ≤ maxLen ∧ ∀ x ∈ xs, B9 x
theorem by47 : Try.prog.bytesOf 9 = 16 := by kernel_rfl
theorem op47 : Opens Try.prog 47 (Kd.slice 9 Kd.string) B47 where
  sz := by kernel_rfl
  get := fun h hw => by
    obtain ⟨y, hK, h1, h2⟩ := (opens_slice Try.underlying47 (by kernel_rfl) op9 (by decide)).get h hw
    rw [by47] at h1
    exact ⟨y, hK, h1, h2⟩
def B24 (b : Nat) : Prop := b < 18446744073709551616
theorem op24 : Opens Try.prog 24 Kd.float B24 := opens_float Try.underlying24 (by kernel_rfl)
def B26 (x : S26) : Prop := B3 x.f0 ∧ B3 x.f1 ∧ B24 x.f2 ∧ B9 x.f3
theorem op26 : Opens Try.prog 26 k26 B26 := opens_struct _ (fun p => ⟨p.1, p.2.1, p.2.2.1, p.2.2.2⟩) (fun _ => rfl) Try.underlying26 (by kernel_rfl) (opensF_cons (off := 0) (off' := 1) rfl op3 rfl (opensF_cons (off := 1) (off' := 2) rfl op3 rfl (opensF_cons (off := 2) (off' := 3) rfl op24 rfl (opensF_one rfl op9))))
theorem hp26 : Kd.Heap k26 := Kd.heap_iso _ (Kd.heap_pair (Kd.heap_int .i64) (Kd.heap_pair (Kd.heap_int .i64) (Kd.heap_pair Kd.heap_float Kd.heap_string)))
def B27 (xs : (List S26)) : Prop := xs.length * 40 ≤ 140737488351232 ∧ xs.length ≤ maxLen ∧ ∀ x ∈ xs, B26 x
theorem by27 : Try.prog.bytesOf 26 = 40 := by kernel_rfl
theorem op27 : Opens Try.prog 27 (Kd.slice 26 k26) B27 where
  sz := by kernel_rfl
  get := fun h hw => by
    obtain ⟨y, hK, h1, h2⟩ := (opens_slice Try.underlying27 (by kernel_rfl) op26 (by decide)).get h hw
    rw [by27] at h1
    exact ⟨y, hK, h1, h2⟩
def B29 (x : S29) : Prop := B26 x.f0 ∧ B27 x.f1
theorem op29 : Opens Try.prog 29 k29 B29 := opens_struct _ (fun p => ⟨p.1, p.2⟩) (fun _ => rfl) Try.underlying29 (by kernel_rfl) (opensF_cons (off := 0) (off' := 4) rfl op26 rfl (opensF_one rfl op27))
theorem hp29 : Kd.Heap k29 := Kd.heap_iso _ (Kd.heap_pair hp26 (Kd.heap_slice 26 hp26))
def B61 (x : S61) : Prop := B9 x.f0 ∧ B29 x.f1
theorem op61 : Opens Try.prog 61 k61 B61 := opens_struct _ (fun p => ⟨p.1, p.2⟩) (fun _ => rfl) Try.underlying61 (by kernel_rfl) (opensF_cons (off := 0) (off' := 1) rfl op9 rfl (opensF_one rfl op29))
theorem hp61 : Kd.Heap k61 := Kd.heap_iso _ (Kd.heap_pair Kd.heap_string hp29)
def B48 (xs : (List S61)) : Prop := xs.length * 80 ≤ 140737488351232 ∧ xs.length ≤ maxLen ∧ ∀ x ∈ xs, B61 x
theorem by48 : Try.prog.bytesOf 61 = 80 := by kernel_rfl
theorem op48 : Opens Try.prog 48 (Kd.slice 61 k61) B48 where
  sz := by kernel_rfl
  get := fun h hw => by
    obtain ⟨y, hK, h1, h2⟩ := (opens_slice Try.underlying48 (by kernel_rfl) op61 (by decide)).get h hw
    rw [by48] at h1
    exact ⟨y, hK, h1, h2⟩
def B50 (x : S50) : Prop := B3 x.f0 ∧ B47 x.f1 ∧ B48 x.f2
theorem op50 : Opens Try.prog 50 k50 B50 := opens_struct _ (fun p => ⟨p.1, p.2.1, p.2.2⟩) (fun _ => rfl) Try.underlying50 (by kernel_rfl) (opensF_cons (off := 0) (off' := 1) rfl op3 rfl (opensF_cons (off := 1) (off' := 2) rfl op47 rfl (opensF_one rfl op48)))
def B52 (x : S52) : Prop := B9 x.f0 ∧ B9 x.f1 ∧ B48 x.f2
theorem op52 : Opens Try.prog 52 k52 B52 := opens_struct _ (fun p => ⟨p.1, p.2.1, p.2.2⟩) (fun _ => rfl) Try.underlying52 (by kernel_rfl) (opensF_cons (off := 0) (off' := 1) rfl op9 rfl (opensF_cons (off := 1) (off' := 2) rfl op9 rfl (opensF_one rfl op48)))
def B54 (x : S54) : Prop := B3 x.f0 ∧ B9 x.f1 ∧ B3 x.f2 ∧ B3 x.f3 ∧ B48 x.f4
theorem op54 : Opens Try.prog 54 k54 B54 := opens_struct _ (fun p => ⟨p.1, p.2.1, p.2.2.1, p.2.2.2.1, p.2.2.2.2⟩) (fun _ => rfl) Try.underlying54 (by kernel_rfl) (opensF_cons (off := 0) (off' := 1) rfl op3 rfl (opensF_cons (off := 1) (off' := 2) rfl op9 rfl (opensF_cons (off := 2) (off' := 3) rfl op3 rfl (opensF_cons (off := 3) (off' := 4) rfl op3 rfl (opensF_one rfl op48)))))
theorem V_of_C {α : Type} {d : Kd α} (hd : Kd.Heap d) {w : World} {e b c : Nat} {A : Option Addr} {xs : List α} (hl : xs.length ≤ c) (h : d.C w A xs.length xs) : Kd.V d e w b (fun _ => True) (.slice A xs.length c) xs :=
  Kd.V_mk hl (fun _ hW => hd.C (fun k hk => hW k trivial hk) h)
end Go.Proofs.Ytnfapjkffofcaaa.TY
namespace Go.Proofs.Ytnfapjkffofcaaa.G
open Go.RowKit Go.Proofs.YtnfapjkffofcaaaW.PrintWords Go.Proofs.YtnfapjkffofcaaaW.PrintLast Go.Proofs.Ytnfapjkffofcaaa.FW Go.Proofs.Ytnfapjkffofcaaa.FL Go.Proofs.Ytnfapjkffofcaaa.EV Go.Proofs.Ytnfapjkffofcaaa.PK Go.Proofs.Ytnfapjkffofcaaa.TY Go.Proofs.Ytnfapjkffofcaaa.ORD
set_option linter.unusedVariables false
set_option linter.unusedSimpArgs false
set_option maxRecDepth 100000
def okP (np : List Prp) (p : Prp) : Bool := match findP p.f0 np with
  | some q => equalV q.f1 p.f1 == 1
  | none => false
def lab (ls : List ByteArray) (s : ByteArray) : Bool := s.toList.isEmpty || hasS ls s
theorem m_alloc {w W : World} (h : Below w.heap.size w W) (o : Obj) : Below w.heap.size w (W.alloc o) := h.alloc h.size o
theorem m_step {w W w' : World} (h : Below w.heap.size w W) (hb : Below W.heap.size W w') : Below w.heap.size w w' := h.trans (hb.mono h.size)
theorem kept_new {w w' : World} {c : Array Value} {t : TypeId} (hb : Below (w.alloc (.cells c t)).heap.size (w.alloc (.cells c t)) w') (i : Nat) : w'.cell? ⟨w.heap.size, i, none⟩ = c[i]? := (hb.cell (p := ⟨w.heap.size, i, none⟩) (by simp)).trans (World.cell?_alloc_at c t _ i rfl)
structure NS (p : Nat) (id : Int) (A1 : Option Addr) (n1 c1 : Nat) (A2 : Option Addr) (n2 c2 : Nat) (q : Nat) (sn sl : ByteArray) (A3 : Option Addr) (n3 c3 : Nat) (w : World) : Prop where
  p0 : w.cell? ⟨p, 0, none⟩ = some (.int .i64 id)
  p1 : w.cell? ⟨p, 1, none⟩ = some (.slice A1 n1 c1)
  p2 : w.cell? ⟨p, 2, none⟩ = some (.slice A2 n2 c2)
  q0 : w.cell? ⟨q, 0, none⟩ = some (.string sn)
  q1 : w.cell? ⟨q, 1, none⟩ = some (.string sl)
  q2 : w.cell? ⟨q, 2, none⟩ = some (.slice A3 n3 c3)
  hp : p < w.heap.size
  hq : q < w.heap.size
theorem NS.step {p : Nat} {id : Int} {A1 : Option Addr} {n1 c1 : Nat} {A2 : Option Addr} {n2 c2 : Nat} {q : Nat} {sn sl : ByteArray} {A3 : Option Addr} {n3 c3 : Nat} {w W : World} (h : NS p id A1 n1 c1 A2 n2 c2 q sn sl A3 n3 c3 w) (hb : Below w.heap.size w W) : NS p id A1 n1 c1 A2 n2 c2 q sn sl A3 n3 c3 W :=
  ⟨(hb.cell (p := ⟨p, 0, none⟩) h.hp).trans h.p0, (hb.cell (p := ⟨p, 1, none⟩) h.hp).trans h.p1, (hb.cell (p := ⟨p, 2, none⟩) h.hp).trans h.p2, (hb.cell (p := ⟨q, 0, none⟩) h.hq).trans h.q0, (hb.cell (p := ⟨q, 1, none⟩) h.hq).trans h.q1, (hb.cell (p := ⟨q, 2, none⟩) h.hq).trans h.q2, Nat.lt_of_lt_of_le h.hp hb.size, Nat.lt_of_lt_of_le h.hq hb.size⟩
set_option maxHeartbeats 4000000 in
theorem h_mfits (id : Int) (A1 : Option Addr) (c1 : Nat) (ls : List ByteArray) (A2 : Option Addr) (c2 : Nat) (np : List Prp) (sn sl : ByteArray) (A3 : Option Addr) (c3 : Nat) (sp : List Prp) (w : World)
    (hls : Kd.C Kd.string w A1 ls.length ls) (lls : ls.length ≤ c1) (hnp : Kd.C k61 w A2 np.length np) (lnp : np.length ≤ c2) (hsp : Kd.C k61 w A3 sp.length sp) (lsp : sp.length ≤ c3)
    (bls : ls.length ≤ 140737488351232) (bnp : np.length ≤ 140737488351232) (bsp : sp.length ≤ 140737488351232) (gn : ∀ p ∈ np, InV p.f1) (gs : ∀ p ∈ sp, InV p.f1) :
    Calls Try.prog 24 #[.agg #[.int .i64 id, .slice A1 ls.length c1, .slice A2 np.length c2], .agg #[.string sn, .string sl, .slice A3 sp.length c3]] w
      fun e w' => e = .returned (.bool (sp.all (okP np) && lab ls sl)) ∧ Below w.heap.size w w' := by
  have hV := Aside0.mk (fun W (hb : Below w.heap.size w W) => Kd.V_below (V_of_C (e := 61) (b := w.heap.size) hp61 lnp hnp) hb)
  have hS := Aside0.mk (fun W (hb : Below w.heap.size w W) => Kd.C_below hsp hb)
  have hL := Aside0.mk (fun W (hb : Below w.heap.size w W) => Kd.C_below hls hb)
  clear hnp hsp hls
  go_enter Try.func24, Try.ntmps24
  go_wp2
  go_loopg [12] sp.length (fun gg s12 wr => ∃ kk : Nat, kk ≤ sp.length ∧ sp.length - kk ≤ gg ∧ s12 = .int .i64 kk ∧ Aside0 (Below w.heap.size w wr) ∧ Aside0 (NS w.heap.size id A1 ls.length c1 A2 np.length c2 (w.heap.size + 1) sn sl A3 sp.length c3 wr) ∧ Aside0 (sp.all (okP np) = (sp.drop kk).all (okP np)))
  case atStart => exact ⟨0, Nat.zero_le _, by omega, rfl, ⟨m_alloc (m_alloc (Below.refl _ _) _) _⟩, ⟨by constructor <;> simp <;> omega⟩, ⟨by rw [List.drop_zero]⟩⟩
  case round =>
    obtain ⟨kk, hk, hg, rfl, HW, HN, HA⟩ := hrel
    obtain ⟨p0, p1, p2, q0, q1, q2, hpl, hql⟩ := HN.out
    by_cases hlt : kk < sp.length
    · have hltz : (kk : Int) < (sp.length : Int) := by omega
      have hk0 : (0 : Int) ≤ (kk : Int) := by omega
      have hmem := Aside0.mk (List.getElem_mem hlt)
      have hdrop := Aside0.mk (HA.out.trans (by rw [List.drop_eq_getElem_cons hlt, List.all_cons]) : sp.all (okP np) = (okP np sp[kk] && (sp.drop (kk + 1)).all (okP np)))
      obtain ⟨ad, A5, c5, hA3, hx0, hx1, hx2, hx3, hx4, hx5, hl5, hr5⟩ := at_T61 (hS.out wr HW.out) (kk : Int) (by omega) hltz
      have hA3 := Aside0.mk hA3
      have hrd : rd_T61 sp (kk : Int) = sp[kk] := by simp [rd_T61, List.getElem?_eq_getElem hlt]
      rw [hrd] at hx0 hx1 hx2 hx3 hx4 hx5 hl5 hr5
      clear hrd
      obtain rfl := hA3.out
      clear hA3 HA
      simp only [Int.toNat_natCast] at hx0 hx1 hx2 hx3 hx4 hx5
      have hgs := Aside0.mk (gs _ hmem.out)
      have hr5 := Aside0.mk hr5
      generalize sp[kk] = p at *
      clear hmem
      have HV := Aside0.mk (hV.out wr HW.out)
      cases hf : findP p.f0 np with
      | none =>
        have hf := Aside0.mk hf
        have hget := Aside0.mk (fun W (hb : Below wr.heap.size wr W) => record_Get.calls (fun _ => True) A2 c2 np p.f0 0 0 0 ⟨#[]⟩ [] false W (Kd.V_below HV.out hb) (by unfold record_Get.f getP; rw [if_pos bnp, hf.out]))
        go_wp2_with (first | (go_at_call 45; ((with_reducible refine (hget.out _ (m_alloc (Below.refl _ _) _)).mono ?_)); rintro e w' ⟨v4, rfl, hv, hb⟩; obtain ⟨A4, c4, rfl⟩ := Kd.V_slice hv; clear hv))
        go_ret
        exact ⟨by rw [hdrop.out]; unfold okP; rw [hf.out]; rfl, m_alloc (m_step (m_alloc HW.out _) hb) _⟩
      | some q =>
        have hgq := Aside0.mk (gn q (List.mem_of_find?_eq_some hf))
        have hf := Aside0.mk hf
        have hget := Aside0.mk (fun W (hb : Below wr.heap.size wr W) => record_Get.calls (fun _ => True) A2 c2 np p.f0 q.f1.f0.f0 q.f1.f0.f1 q.f1.f0.f2 q.f1.f0.f3 q.f1.f1 true W (Kd.V_below HV.out hb) (by unfold record_Get.f getP; rw [if_pos bnp, hf.out]))
        have heq := Aside0.mk (show value_Equal.f q.f1.f0.f0 q.f1.f0.f1 q.f1.f0.f2 q.f1.f0.f3 q.f1.f1 p.f1.f0.f0 p.f1.f0.f1 p.f1.f0.f2 p.f1.f0.f3 p.f1.f1 = some (equalV q.f1 p.f1) from if_pos ⟨hgq.out, hgs.out⟩)
        have hok : okP np p = (equalV q.f1 p.f1 == 1) := by unfold okP; rw [hf.out]
        rw [hok] at hdrop
        clear hok hf hgq
        generalize equalV q.f1 p.f1 = x at *
        cases hx : (x != 1)
        all_goals
          go_wp2_with (first | (go_at_call 45; ((with_reducible refine (hget.out _ (m_alloc (Below.refl _ _) _)).mono ?_)); rintro e w' ⟨v4, rfl, hv, hb⟩; obtain ⟨A4, c4, rfl⟩ := Kd.V_slice hv; have hq4 := Aside0.mk (Kd.V_reads' hv); have HB5 := Aside0.mk (m_step (m_alloc (Below.refl _ _) _) hb); have k1 := (kept_new hb 1).trans rfl; have k2 := (kept_new hb 2).trans rfl; have k3 := (kept_new hb 3).trans rfl; have k4 := (kept_new hb 4).trans rfl; have k5 := (kept_new hb 5).trans rfl; have ksz : wr.heap.size < w'.heap.size := (by have := hb.size; simp at this; omega); clear hv hb) | (go_at_call 18; ((with_reducible refine (value_Equal.calls _ _ _ _ _ _ _ _ _ _ _ _ _ _ _ _ (Kd.C_below hq4.out.2.2 (m_alloc (Below.refl _ _) _)) hq4.out.2.1 (Kd.C_below hr5.out (m_alloc HB5.out _)) hl5 heq.out).mono ?_)); rintro e w2 ⟨rfl, hb2⟩; have HB6 := m_step (m_alloc (m_step HW.out HB5.out) _) hb2))
        · go_roundg (sp.length - (kk + 1))
          case measure => omega
          case rel =>
            exact ⟨kk + 1, by omega, by omega, by go_num, ⟨HB6⟩, ⟨HN.out.step (m_step (m_alloc HB5.out _) hb2)⟩, ⟨by rw [hdrop.out, show (x == 1) = true by simpa using hx, Bool.true_and]⟩⟩
        · go_ret
          exact ⟨by rw [hdrop.out, show (x == 1) = false by simpa using hx]; rfl, HB6⟩
    · have e : kk = sp.length := by omega
      subst e
      have hA : sp.all (okP np) = true := by rw [HA.out, List.drop_length]; rfl
      have hA := Aside0.mk hA
      have hcon := Aside0.mk (slices_Contains_string_string.calls A1 c1 ls sl (hasS ls sl) wr (hL.out wr HW.out) lls (by unfold slices_Contains_string_string.f; exact if_pos bls))
      clear HA hk hg
      cases hs : sl.toList.isEmpty
      all_goals
        go_wp2_with (go_at_call 46; ((with_reducible refine hcon.out.mono ?_)); rintro e w' ⟨rfl, ⟨nd, rfl⟩⟩)
        go_ret
        first
          | exact ⟨by unfold lab; rw [hA.out, hs]; rfl, HW.out⟩
          | exact ⟨by unfold lab; rw [hA.out, hs]; rfl, pw_below_drewN HW.out _⟩
end Go.Proofs.Ytnfapjkffofcaaa.G
namespace Go.Proofs.Ytnfapjkffofcaaa.G
open Go.RowKit Go.Proofs.YtnfapjkffofcaaaW.PrintWords Go.Proofs.YtnfapjkffofcaaaW.PrintLast Go.Proofs.Ytnfapjkffofcaaa.FW Go.Proofs.Ytnfapjkffofcaaa.FL Go.Proofs.Ytnfapjkffofcaaa.EV Go.Proofs.Ytnfapjkffofcaaa.PK Go.Proofs.Ytnfapjkffofcaaa.TY Go.Proofs.Ytnfapjkffofcaaa.ORD
set_option linter.unusedVariables false
set_option linter.unusedSimpArgs false
set_option maxRecDepth 100000
def GoodV (v : Val) : Prop := FlV v ∧ InV v ∧ KindV v
structure ES (w0 : World) (p : Nat) (id : Int) (A1 : Option Addr) (n1 c1 : Nat) (A2 : Option Addr) (n2 c2 : Nat) (q : Nat) (sn sl : ByteArray) (A3 : Option Addr) (n3 c3 : Nat) (a : Addr) (x : Prp) (A5 : Option Addr) (c5 : Nat) (w : World) : Prop where
  bel : Below w0.heap.size w0 w
  ns : NS p id A1 n1 c1 A2 n2 c2 q sn sl A3 n3 c3 w
  la : a.block < w.heap.size
  x0 : w.cell? a = some (.string x.f0)
  x1 : w.cell? ⟨a.block, a.off + 1, none⟩ = some (.int .i64 x.f1.f0.f0)
  x2 : w.cell? ⟨a.block, a.off + 2, none⟩ = some (.int .i64 x.f1.f0.f1)
  x3 : w.cell? ⟨a.block, a.off + 3, none⟩ = some (.float .f64 x.f1.f0.f2)
  x4 : w.cell? ⟨a.block, a.off + 4, none⟩ = some (.string x.f1.f0.f3)
  x5 : w.cell? ⟨a.block, a.off + 5, none⟩ = some (.slice A5 x.f1.f1.length c5)
section
variable {w0 : World} {p : Nat} {id : Int} {A1 : Option Addr} {n1 c1 : Nat} {A2 : Option Addr} {n2 c2 : Nat} {q : Nat} {sn sl : ByteArray} {A3 : Option Addr} {n3 c3 : Nat} {a : Addr} {x : Prp} {A5 : Option Addr} {c5 : Nat} {w w' : World}
theorem ES.step (h : ES w0 p id A1 n1 c1 A2 n2 c2 q sn sl A3 n3 c3 a x A5 c5 w) (hb : Below w.heap.size w w') : ES w0 p id A1 n1 c1 A2 n2 c2 q sn sl A3 n3 c3 a x A5 c5 w' :=
  ⟨m_step h.bel hb, h.ns.step hb, Nat.lt_of_lt_of_le h.la hb.size, (hb.cell h.la).trans h.x0, (hb.cell (p := ⟨a.block, a.off + 1, none⟩) h.la).trans h.x1, (hb.cell (p := ⟨a.block, a.off + 2, none⟩) h.la).trans h.x2, (hb.cell (p := ⟨a.block, a.off + 3, none⟩) h.la).trans h.x3, (hb.cell (p := ⟨a.block, a.off + 4, none⟩) h.la).trans h.x4, (hb.cell (p := ⟨a.block, a.off + 5, none⟩) h.la).trans h.x5⟩
theorem ES.drew (h : ES w0 p id A1 n1 c1 A2 n2 c2 q sn sl A3 n3 c3 a x A5 c5 w) : ES w0 p id A1 n1 c1 A2 n2 c2 q sn sl A3 n3 c3 a x A5 c5 w.drew := h.step (Below.refl _ _).drew
theorem ES.alloc (h : ES w0 p id A1 n1 c1 A2 n2 c2 q sn sl A3 n3 c3 a x A5 c5 w) (o : Obj) : ES w0 p id A1 n1 c1 A2 n2 c2 q sn sl A3 n3 c3 a x A5 c5 (w.alloc o) := h.step ((Below.refl _ _).alloc (Nat.le_refl _) o)
theorem ES.set (h : ES w0 p id A1 n1 c1 A2 n2 c2 q sn sl A3 n3 c3 a x A5 c5 w) {g i : Nat} (hg : w0.heap.size ≤ g ∧ p < g ∧ q < g ∧ a.block < g) (u : Value) : ES w0 p id A1 n1 c1 A2 n2 c2 q sn sl A3 n3 c3 a x A5 c5 (w.setCell ⟨g, i, none⟩ u) := by
  have c : ∀ b o, b < g → (w.setCell ⟨g, i, none⟩ u).cell? ⟨b, o, none⟩ = w.cell? ⟨b, o, none⟩ := fun b o hb => cell_far (by show b ≠ g; omega) _
  have sz : (w.setCell ⟨g, i, none⟩ u).heap.size = w.heap.size := by simp [World.setCell]
  obtain ⟨n1, n2, n3, n4, n5, n6, n7, n8⟩ := h.ns
  refine ⟨h.bel.setCell hg.1 u, ⟨(c _ _ hg.2.1).trans n1, (c _ _ hg.2.1).trans n2, (c _ _ hg.2.1).trans n3, (c _ _ hg.2.2.1).trans n4, (c _ _ hg.2.2.1).trans n5, (c _ _ hg.2.2.1).trans n6, by rw [sz]; exact n7, by rw [sz]; exact n8⟩, by rw [sz]; exact h.la, ?_, (c _ _ hg.2.2.2).trans h.x1, (c _ _ hg.2.2.2).trans h.x2, (c _ _ hg.2.2.2).trans h.x3, (c _ _ hg.2.2.2).trans h.x4, (c _ _ hg.2.2.2).trans h.x5⟩
  exact (cell_far (by show a.block ≠ g; omega) _).trans h.x0
abbrev EA (w0 : World) (p : Nat) (id : Int) (A1 : Option Addr) (n1 c1 : Nat) (A2 : Option Addr) (n2 c2 : Nat) (q : Nat) (sn sl : ByteArray) (A3 : Option Addr) (n3 c3 : Nat) (a : Addr) (x : Prp) (A5 : Option Addr) (c5 : Nat) (w : World) : Prop :=
  w.cell? ⟨p, 2, none⟩ = some (.slice A2 n2 c2) ∧ w.cell? ⟨q, 2, none⟩ = some (.slice A3 n3 c3) ∧ w.cell? a = some (.string x.f0) ∧ w.cell? ⟨a.block, a.off + 1, none⟩ = some (.int .i64 x.f1.f0.f0) ∧ w.cell? ⟨a.block, a.off + 2, none⟩ = some (.int .i64 x.f1.f0.f1) ∧ w.cell? ⟨a.block, a.off + 3, none⟩ = some (.float .f64 x.f1.f0.f2) ∧ w.cell? ⟨a.block, a.off + 4, none⟩ = some (.string x.f1.f0.f3) ∧ w.cell? ⟨a.block, a.off + 5, none⟩ = some (.slice A5 x.f1.f1.length c5) ∧ ES w0 p id A1 n1 c1 A2 n2 c2 q sn sl A3 n3 c3 a x A5 c5 w
theorem ES.all (h : ES w0 p id A1 n1 c1 A2 n2 c2 q sn sl A3 n3 c3 a x A5 c5 w) : EA w0 p id A1 n1 c1 A2 n2 c2 q sn sl A3 n3 c3 a x A5 c5 w := ⟨h.ns.p2, h.ns.q2, h.x0, h.x1, h.x2, h.x3, h.x4, h.x5, h⟩
end
theorem ES.drewN {w0 : World} {p : Nat} {id : Int} {A1 : Option Addr} {n1 c1 : Nat} {A2 : Option Addr} {n2 c2 : Nat} {q : Nat} {sn sl : ByteArray} {A3 : Option Addr} {n3 c3 : Nat} {a : Addr} {x : Prp} {A5 : Option Addr} {c5 : Nat} {w : World} (h : ES w0 p id A1 n1 c1 A2 n2 c2 q sn sl A3 n3 c3 a x A5 c5 w) (m : Nat) : ES w0 p id A1 n1 c1 A2 n2 c2 q sn sl A3 n3 c3 a x A5 c5 (w.drewN m) := h.step (pw_below_drewN (Below.refl _ _) m)
structure TV (g : Nat) (r1 r2 : Int) (r3 : Nat) (r4 : ByteArray) (A4 : Option Addr) (c4 : Nat) (r5 : List Atom) (w : World) : Prop where
  c0 : w.cell? ⟨g, 0, none⟩ = some (.int .i64 r1)
  c1 : w.cell? ⟨g, 1, none⟩ = some (.int .i64 r2)
  c2 : w.cell? ⟨g, 2, none⟩ = some (.float .f64 r3)
  c3 : w.cell? ⟨g, 3, none⟩ = some (.string r4)
  c4 : w.cell? ⟨g, 4, none⟩ = some (.slice A4 r5.length c4)
  kc : Kd.C k26 w A4 r5.length r5
abbrev TVA (g : Nat) (r1 r2 : Int) (r3 : Nat) (r4 : ByteArray) (A4 : Option Addr) (c4 : Nat) (r5 : List Atom) (w : World) : Prop :=
  w.cell? ⟨g, 0, none⟩ = some (.int .i64 r1) ∧ w.cell? ⟨g, 1, none⟩ = some (.int .i64 r2) ∧ w.cell? ⟨g, 2, none⟩ = some (.float .f64 r3) ∧ w.cell? ⟨g, 3, none⟩ = some (.string r4) ∧ w.cell? ⟨g, 4, none⟩ = some (.slice A4 r5.length c4) ∧ TV g r1 r2 r3 r4 A4 c4 r5 w
theorem TV.all {w : World} {g : Nat} {r1 r2 : Int} {r3 : Nat} {r4 : ByteArray} {A4 : Option Addr} {c4 : Nat} {r5 : List Atom} (h : TV g r1 r2 r3 r4 A4 c4 r5 w) : TVA g r1 r2 r3 r4 A4 c4 r5 w := ⟨h.c0, h.c1, h.c2, h.c3, h.c4, h⟩
theorem TV.new {w : World} {r1 r2 : Int} {r3 : Nat} {r4 : ByteArray} {A4 : Option Addr} {c4 : Nat} {r5 : List Atom} (h : Kd.C k26 w A4 r5.length r5) : TV w.heap.size r1 r2 r3 r4 A4 c4 r5 (w.alloc (.cells #[.int .i64 r1, .int .i64 r2, .float .f64 r3, .string r4, .slice A4 r5.length c4] 29)) :=
  ⟨by simp, by simp, by simp, by simp, by simp, Kd.C_below h ((Below.refl _ _).alloc (Nat.le_refl _) _)⟩
theorem TV.put {w : World} {g : Nat} {r1 r2 : Int} {r3 : Nat} {r4 : ByteArray} {A4 : Option Addr} {c4 : Nat} {r5 : List Atom} {ok : Nat → Prop} {b : Nat} (hb : w.heap[g]? = some (.cells #[.int .i64 0, .int .i64 0, .float .f64 0, .string (⟨#[]⟩ : ByteArray), .slice none 0 0] 29 (0, 0))) (hv : Kd.V k26 26 w b ok (.slice A4 r5.length c4) r5) (hok : ∀ k, ok k → k ≠ g) :
    TV g r1 r2 r3 r4 A4 c4 r5 (((((w.setCell ⟨g, 0, none⟩ (.int .i64 r1)).setCell ⟨g, 1, none⟩ (.int .i64 r2)).setCell ⟨g, 2, none⟩ (.float .f64 r3)).setCell ⟨g, 3, none⟩ (.string r4)).setCell ⟨g, 4, none⟩ (.slice A4 r5.length c4)) := by
  have hp := blk_put (blk_put (blk_put (blk_put (blk_put hb 0 (.int .i64 r1) rfl) 1 (.int .i64 r2) rfl) 2 (.float .f64 r3) rfl) 3 (.string r4) rfl) 4 (.slice A4 r5.length c4) rfl
  exact ⟨(blk_cell hp 0).trans rfl, (blk_cell hp 1).trans rfl, (blk_cell hp 2).trans rfl, (blk_cell hp 3).trans rfl, (blk_cell hp 4).trans rfl, (Kd.V_reads' (Kd.V_far (Kd.V_far (Kd.V_far (Kd.V_far (Kd.V_far hv hok _) hok _) hok _) hok _) hok _)).2.2⟩
theorem TV.step {w w' : World} {g : Nat} {r1 r2 : Int} {r3 : Nat} {r4 : ByteArray} {A4 : Option Addr} {c4 : Nat} {r5 : List Atom} (h : TV g r1 r2 r3 r4 A4 c4 r5 w) (hb : Below w.heap.size w w') : TV g r1 r2 r3 r4 A4 c4 r5 w' := by
  have hg : g < w.heap.size := World.block_lt_of_cell? w _ h.c0
  exact ⟨(hb.cell (p := ⟨g, 0, none⟩) hg).trans h.c0, (hb.cell (p := ⟨g, 1, none⟩) hg).trans h.c1, (hb.cell (p := ⟨g, 2, none⟩) hg).trans h.c2, (hb.cell (p := ⟨g, 3, none⟩) hg).trans h.c3, (hb.cell (p := ⟨g, 4, none⟩) hg).trans h.c4, Kd.C_below h.kc hb⟩
theorem TV.drew {w : World} {g : Nat} {r1 r2 : Int} {r3 : Nat} {r4 : ByteArray} {A4 : Option Addr} {c4 : Nat} {r5 : List Atom} (h : TV g r1 r2 r3 r4 A4 c4 r5 w) : TV g r1 r2 r3 r4 A4 c4 r5 w.drew := h.step (Below.refl _ _).drew
set_option maxHeartbeats 4000000 in
theorem h_rfits (id : Int) (A1 : Option Addr) (c1 : Nat) (ls : List ByteArray) (A2 : Option Addr) (c2 : Nat) (np : List Prp) (sn sl : ByteArray) (A3 : Option Addr) (c3 : Nat) (sp : List Prp) (w : World)
    (hls : Kd.C Kd.string w A1 ls.length ls) (lls : ls.length ≤ c1) (hnp : Kd.C k61 w A2 np.length np) (lnp : np.length ≤ c2) (hsp : Kd.C k61 w A3 sp.length sp) (lsp : sp.length ≤ c3)
    (bls : ls.length ≤ 140737488351232) (bnp : np.length ≤ 140737488351232) (bsp : sp.length ≤ 140737488351232) (gn : ∀ p ∈ np, GoodV p.f1) (gs : ∀ p ∈ sp, GoodV p.f1) :
    Calls Try.prog 25 #[.agg #[.int .i64 id, .slice A1 ls.length c1, .slice A2 np.length c2], .agg #[.string sn, .string sl, .slice A3 sp.length c3]] w
      fun e w' => e = .returned (.bool (lab ls sl && sp.all (okP np))) ∧ Below w.heap.size w w' := by
  have hV := Aside0.mk (fun W (hb : Below w.heap.size w W) => Kd.V_below (V_of_C (e := 61) (b := w.heap.size) hp61 lnp hnp) hb)
  have hS := Aside0.mk (fun W (hb : Below w.heap.size w W) => Kd.C_below hsp hb)
  have hL := Aside0.mk (fun W (hb : Below w.heap.size w W) => Kd.C_below hls hb)
  clear hnp hsp hls
  go_enter Try.func25, Try.ntmps25
  go_wp2
  go_loopg [5, 6] ls.length (fun gg s5 s6 wr => ∃ (kk : Nat) (b : Bool), kk ≤ ls.length ∧ ls.length - kk ≤ gg ∧ s6 = .int .i64 kk ∧ s5 = .bool b ∧ Aside0 (Below w.heap.size w wr) ∧ Aside0 (NS w.heap.size id A1 ls.length c1 A2 np.length c2 (w.heap.size + 1) sn sl A3 sp.length c3 wr) ∧ Aside0 (lab ls sl = (b || hasS (ls.drop kk) sl)))
  case atStart => exact ⟨0, _, Nat.zero_le _, by omega, rfl, rfl, ⟨m_alloc (m_alloc (Below.refl _ _) _) _⟩, ⟨by constructor <;> simp <;> omega⟩, ⟨by rw [List.drop_zero]; rfl⟩⟩
  case round =>
    obtain ⟨kk, b, hk, hg, rfl, rfl, HW, HN, HA⟩ := hrel
    obtain ⟨p0, p1, p2, q0, q1, q2, hpl, hql⟩ := HN.out
    by_cases hlt : kk < ls.length
    · have hltz : (kk : Int) < (ls.length : Int) := by omega
      have hk0 : (0 : Int) ≤ (kk : Int) := by omega
      obtain ⟨ad, hA1, hx⟩ := Kd.at_string (hL.out wr HW.out) (kk : Int) (by omega) hltz
      have hrd : rdOf ByteArray.empty ls (kk : Int) = ls[kk] := by simp [rdOf, List.getElem?_eq_getElem hlt]
      have hd := Aside0.mk (HA.out.trans (by rw [List.drop_eq_getElem_cons hlt]; rfl) : lab ls sl = (b || ((sl.toList == ls[kk].toList) || hasS (ls.drop (kk + 1)) sl)))
      rw [hrd, Int.toNat_natCast] at hx
      clear hrd HA
      subst hA1
      have he : (sl.toList == ls[kk].toList) = (ls[kk].toList == sl.toList) := by rw [Bool.eq_iff_iff, beq_iff_eq, beq_iff_eq]; exact eq_comm
      rw [he] at hd
      clear he
      generalize ls[kk] = x at *
      cases b
      all_goals
        go_wp2_with fail
        go_quiet (fail)
        go_wp2
        go_roundg (ls.length - (kk + 1))
        case measure => omega
        case rel =>
          first
            | exact ⟨kk + 1, true, by omega, by omega, by go_num, rfl, ⟨pw_below_drewN HW.out _⟩, ⟨HN.out.step (pw_below_drewN (Below.refl _ _) _)⟩, ⟨by rw [hd.out]; rfl⟩⟩
            | exact ⟨kk + 1, (x.toList == sl.toList), by omega, by omega, by go_num, rfl, ⟨pw_below_drewN HW.out _⟩, ⟨HN.out.step (pw_below_drewN (Below.refl _ _) _)⟩, ⟨by rw [hd.out]; rfl⟩⟩
    · have e : kk = ls.length := by omega
      subst e
      have hA := Aside0.mk (HA.out.trans (by rw [List.drop_length]; unfold hasS; rw [List.any_nil, Bool.or_false]) : lab ls sl = b)
      clear HA hk hg hlt
      obtain ⟨wo, rfl⟩ : ∃ wo : World, wo = wr := ⟨_, rfl⟩
      go_wp2
      go_loopg [5, 7] sp.length (fun gg s5 s7 wr => ∃ (kk : Nat) (b : Bool), kk ≤ sp.length ∧ sp.length - kk ≤ gg ∧ s7 = .int .i64 kk ∧ s5 = .bool b ∧ Aside0 (Below w.heap.size w wr) ∧ Aside0 (NS w.heap.size id A1 ls.length c1 A2 np.length c2 (w.heap.size + 1) sn sl A3 sp.length c3 wr) ∧ Aside0 ((lab ls sl && sp.all (okP np)) = (b && (sp.drop kk).all (okP np))))
      case atStart => exact ⟨0, _, Nat.zero_le _, by omega, rfl, rfl, HW, HN, ⟨by rw [List.drop_zero, hA.out]⟩⟩
      case round =>
        clear HW HN p0 p1 p2 q0 q1 q2 hpl hql hA
        obtain ⟨kk, b, hk, hg, rfl, rfl, HW, HN, HA⟩ := hrel
        obtain ⟨p0, p1, p2, q0, q1, q2, hpl, hql⟩ := HN.out
        by_cases hlt : kk < sp.length
        · have hltz : (kk : Int) < (sp.length : Int) := by omega
          have hk0 : (0 : Int) ≤ (kk : Int) := by omega
          have hmem := Aside0.mk (List.getElem_mem hlt)
          have hdrop := Aside0.mk (HA.out.trans (by rw [List.drop_eq_getElem_cons hlt, List.all_cons]) : (lab ls sl && sp.all (okP np)) = (b && (okP np sp[kk] && (sp.drop (kk + 1)).all (okP np))))
          obtain ⟨ad, A5, c5, hA3, hx0, hx1, hx2, hx3, hx4, hx5, hl5, hr5⟩ := at_T61 (hS.out wr HW.out) (kk : Int) (by omega) hltz
          have hA3 := Aside0.mk hA3
          have hrd : rd_T61 sp (kk : Int) = sp[kk] := by simp [rd_T61, List.getElem?_eq_getElem hlt]
          rw [hrd] at hx0 hx1 hx2 hx3 hx4 hx5 hl5 hr5
          clear hrd
          obtain rfl := hA3.out
          clear hA3 HA
          simp only [Int.toNat_natCast] at hx0 hx1 hx2 hx3 hx4 hx5
          have hgs := Aside0.mk (gs _ hmem.out)
          have hr5 := Aside0.mk hr5
          generalize sp[kk] = x at *
          clear hmem
          have HV := Aside0.mk (hV.out wr HW.out)
          have HS : ES wr w.heap.size id A1 ls.length c1 A2 np.length c2 (w.heap.size + 1) sn sl (some ad) sp.length c3 (ad.add (kk * 6)) x A5 c5 wr := ⟨Below.refl _ _, HN.out, World.block_lt_of_cell? wr _ hx0, hx0, hx1, hx2, hx3, hx4, hx5⟩
          have hG : wr.heap.size ≤ wr.heap.size ∧ w.heap.size < wr.heap.size ∧ w.heap.size + 1 < wr.heap.size ∧ (ad.add (kk * 6)).block < wr.heap.size := ⟨Nat.le_refl _, hpl, hql, HS.la⟩
          have HR := fun W (HF : ES wr w.heap.size id A1 ls.length c1 A2 np.length c2 (w.heap.size + 1) sn sl (some ad) sp.length c3 (ad.add (kk * 6)) x A5 c5 W) => (⟨m_step HW.out HF.bel, HF.ns⟩ : Below w.heap.size w W ∧ NS w.heap.size id A1 ls.length c1 A2 np.length c2 (w.heap.size + 1) sn sl (some ad) sp.length c3 W)
          have HVE := Aside0.mk (Kd.V_elderB HV.out wr.heap.size (Nat.le_refl _))
          clear HV
          cases hf : findP x.f0 np with
          | none =>
            have hok : okP np x = false := by unfold okP; rw [hf]
            have hget := Aside0.mk (fun W (hb : ES wr w.heap.size id A1 ls.length c1 A2 np.length c2 (w.heap.size + 1) sn sl (some ad) sp.length c3 (ad.add (kk * 6)) x A5 c5 W) => cobwebref05_Get.calls (fun k => True ∧ k ≠ wr.heap.size) A2 c2 np x.f0 0 0 0 ⟨#[]⟩ [] false W (Kd.V_below HVE.out hb.bel) (by unfold cobwebref05_Get.f getP; rw [if_pos bnp, hf]))
            replace hdrop : Aside0 ((lab ls sl && sp.all (okP np)) = (false && (sp.drop (kk + 1)).all (okP np))) := ⟨by rw [hdrop.out, hok]; cases b <;> rfl⟩
            clear hok hf
            cases b
            all_goals
              go_wp2_with fail
              clear hx0 hx1 hx2 hx3 hx4 hx5 p0 p1 p2 q0 q1 q2
              go_region_held3 (fun w' => EA wr w.heap.size id A1 ls.length c1 A2 np.length c2 (w.heap.size + 1) sn sl (some ad) sp.length c3 (ad.add (kk * 6)) x A5 c5 w')
                (first | (with_reducible exact ES.all HS) | (with_reducible exact ES.all HS.drew) | (with_reducible exact ES.all (HS.alloc _)) | (with_reducible exact ES.all (HS.alloc _).drew) | (refine ES.all ?_; (repeat (with_reducible refine ES.set ?_ hG _)); with_reducible exact HS))
                ((first | (go_at_call 47; ((with_reducible refine (hget.out _ HS.drew).mono ?_)); rintro e w' ⟨v4, rfl, hv, hb⟩; obtain ⟨A4, c4, rfl⟩ := Kd.V_slice hv; have hv := Aside0.mk hv; replace HS := ES.step HS.drew hb; clear hb) | (go_at_call 47; ((with_reducible refine (hget.out _ (HS.alloc _).drew).mono ?_)); rintro e w' ⟨v4, rfl, hv, hb⟩; obtain ⟨A4, c4, rfl⟩ := Kd.V_slice hv; have hv := Aside0.mk hv; replace HS := ES.step (HS.alloc _).drew hb; have BK := blk_below (blk_drew (blk_new wr (.cells #[.int .i64 0, .int .i64 0, .float .f64 0, .string (⟨#[]⟩ : ByteArray), .slice none 0 0] 29))) hb; have z0 := (blk_cell BK 0).trans rfl; have z1 := (blk_cell BK 1).trans rfl; have z2 := (blk_cell BK 2).trans rfl; have z3 := (blk_cell BK 3).trans rfl; have z4 := (blk_cell BK 4).trans rfl; have f0 := blk_frozen BK 0; have f1 := blk_frozen BK 1; have f2 := blk_frozen BK 2; have f3 := blk_frozen BK 3; have f4 := blk_frozen BK 4; have BK := Aside0.mk BK; clear hb)))
            all_goals
              go_wp2_with fail
              go_quiet (fail)
              go_wp2
              go_roundg (sp.length - (kk + 1))
              case measure => omega
              case rel => exact ⟨kk + 1, false, by omega, by omega, by go_num, rfl, ⟨(HR _ (by (repeat (first | (with_reducible exact HS) | (with_reducible refine ES.drewN ?_ _) | (with_reducible refine ES.set ?_ hG _) | (with_reducible refine ES.alloc ?_ _))))).1⟩, ⟨(HR _ (by (repeat (first | (with_reducible exact HS) | (with_reducible refine ES.drewN ?_ _) | (with_reducible refine ES.set ?_ hG _) | (with_reducible refine ES.alloc ?_ _))))).2⟩, ⟨hdrop.out⟩⟩
          | some q =>
            have hgq := gn q (List.mem_of_find?_eq_some hf)
            have hok : okP np x = (equalV q.f1 x.f1 == 1) := by unfold okP; rw [hf]
            have hget := Aside0.mk (fun W (hb : ES wr w.heap.size id A1 ls.length c1 A2 np.length c2 (w.heap.size + 1) sn sl (some ad) sp.length c3 (ad.add (kk * 6)) x A5 c5 W) => cobwebref05_Get.calls (fun k => True ∧ k ≠ wr.heap.size) A2 c2 np x.f0 q.f1.f0.f0 q.f1.f0.f1 q.f1.f0.f2 q.f1.f0.f3 q.f1.f1 true W (Kd.V_below HVE.out hb.bel) (by unfold cobwebref05_Get.f getP; rw [if_pos bnp, hf]))
            have heq := Aside0.mk (show cobwebref03_Equal.f q.f1.f0.f0 q.f1.f0.f1 q.f1.f0.f2 q.f1.f0.f3 q.f1.f1 x.f1.f0.f0 x.f1.f0.f1 x.f1.f0.f2 x.f1.f0.f3 x.f1.f1 = some (equalV q.f1 x.f1) from if_pos ⟨⟨hgq.1, hgs.out.1⟩, ⟨hgq.2.1, hgs.out.2.1⟩, hgq.2.2, hgs.out.2.2⟩)
            rw [hok] at hdrop
            clear hok hf hgq
            generalize equalV q.f1 x.f1 = y at *
            cases b with
            | false =>
              replace hdrop : Aside0 ((lab ls sl && sp.all (okP np)) = (false && (sp.drop (kk + 1)).all (okP np))) := ⟨hdrop.out⟩
              go_wp2_with fail
              clear hx0 hx1 hx2 hx3 hx4 hx5 p0 p1 p2 q0 q1 q2
              go_region_held3 (fun w' => EA wr w.heap.size id A1 ls.length c1 A2 np.length c2 (w.heap.size + 1) sn sl (some ad) sp.length c3 (ad.add (kk * 6)) x A5 c5 w')
                (first | (with_reducible exact ES.all HS) | (with_reducible exact ES.all HS.drew) | (with_reducible exact ES.all (HS.alloc _)) | (with_reducible exact ES.all (HS.alloc _).drew) | (refine ES.all ?_; (repeat (with_reducible refine ES.set ?_ hG _)); with_reducible exact HS))
                ((first | (go_at_call 47; ((with_reducible refine (hget.out _ HS.drew).mono ?_)); rintro e w' ⟨v4, rfl, hv, hb⟩; obtain ⟨A4, c4, rfl⟩ := Kd.V_slice hv; have hv := Aside0.mk hv; replace HS := ES.step HS.drew hb; clear hb) | (go_at_call 47; ((with_reducible refine (hget.out _ (HS.alloc _).drew).mono ?_)); rintro e w' ⟨v4, rfl, hv, hb⟩; obtain ⟨A4, c4, rfl⟩ := Kd.V_slice hv; have hv := Aside0.mk hv; replace HS := ES.step (HS.alloc _).drew hb; have BK := blk_below (blk_drew (blk_new wr (.cells #[.int .i64 0, .int .i64 0, .float .f64 0, .string (⟨#[]⟩ : ByteArray), .slice none 0 0] 29))) hb; have z0 := (blk_cell BK 0).trans rfl; have z1 := (blk_cell BK 1).trans rfl; have z2 := (blk_cell BK 2).trans rfl; have z3 := (blk_cell BK 3).trans rfl; have z4 := (blk_cell BK 4).trans rfl; have f0 := blk_frozen BK 0; have f1 := blk_frozen BK 1; have f2 := blk_frozen BK 2; have f3 := blk_frozen BK 3; have f4 := blk_frozen BK 4; have BK := Aside0.mk BK; clear hb)))
              all_goals
                go_wp2_with fail
                go_quiet (fail)
                go_wp2
                go_roundg (sp.length - (kk + 1))
                case measure => omega
                case rel => exact ⟨kk + 1, false, by omega, by omega, by go_num, rfl, ⟨(HR _ (by (repeat (first | (with_reducible exact HS) | (with_reducible refine ES.drewN ?_ _) | (with_reducible refine ES.set ?_ hG _) | (with_reducible refine ES.alloc ?_ _))))).1⟩, ⟨(HR _ (by (repeat (first | (with_reducible exact HS) | (with_reducible refine ES.drewN ?_ _) | (with_reducible refine ES.set ?_ hG _) | (with_reducible refine ES.alloc ?_ _))))).2⟩, ⟨hdrop.out⟩⟩
            | true =>
              replace hdrop : Aside0 ((lab ls sl && sp.all (okP np)) = ((y == 1) && (sp.drop (kk + 1)).all (okP np))) := ⟨hdrop.out⟩
              go_wp2_with fail
              clear hx0 hx1 hx2 hx3 hx4 hx5 p0 p1 p2 q0 q1 q2
              go_region_held3 (fun w' => EA wr w.heap.size id A1 ls.length c1 A2 np.length c2 (w.heap.size + 1) sn sl (some ad) sp.length c3 (ad.add (kk * 6)) x A5 c5 w')
                (first | (with_reducible exact ES.all HS) | (with_reducible exact ES.all HS.drew) | (with_reducible exact ES.all (HS.alloc _)) | (with_reducible exact ES.all (HS.alloc _).drew) | (refine ES.all ?_; (repeat (with_reducible refine ES.set ?_ hG _)); with_reducible exact HS))
                ((first | (go_at_call 47; ((with_reducible refine (hget.out _ HS.drew).mono ?_)); rintro e w' ⟨v4, rfl, hv, hb⟩; obtain ⟨A4, c4, rfl⟩ := Kd.V_slice hv; have hv := Aside0.mk hv; replace HS := ES.step HS.drew hb; clear hb) | (go_at_call 47; ((with_reducible refine (hget.out _ (HS.alloc _).drew).mono ?_)); rintro e w' ⟨v4, rfl, hv, hb⟩; obtain ⟨A4, c4, rfl⟩ := Kd.V_slice hv; have hv := Aside0.mk hv; replace HS := ES.step (HS.alloc _).drew hb; have BK := blk_below (blk_drew (blk_new wr (.cells #[.int .i64 0, .int .i64 0, .float .f64 0, .string (⟨#[]⟩ : ByteArray), .slice none 0 0] 29))) hb; have z0 := (blk_cell BK 0).trans rfl; have z1 := (blk_cell BK 1).trans rfl; have z2 := (blk_cell BK 2).trans rfl; have z3 := (blk_cell BK 3).trans rfl; have z4 := (blk_cell BK 4).trans rfl; have f0 := blk_frozen BK 0; have f1 := blk_frozen BK 1; have f2 := blk_frozen BK 2; have f3 := blk_frozen BK 3; have f4 := blk_frozen BK 4; have BK := Aside0.mk BK; clear hb)))
              all_goals
                go_wp2_with fail
                have hl4 := (Kd.V_reads' hv.out).2.1
                first
                  | (have HT := TV.put (r1 := q.f1.f0.f0) (r2 := q.f1.f0.f1) (r3 := q.f1.f0.f2) (r4 := q.f1.f0.f3) BK.out hv.out (fun k hk => hk.elim (fun h => h.2) (fun h => by simp at h; omega))
                     replace HS := ES.set (ES.set (ES.set (ES.set (ES.set HS hG (i := 0) (.int .i64 q.f1.f0.f0)) hG (i := 1) (.int .i64 q.f1.f0.f1)) hG (i := 2) (.float .f64 q.f1.f0.f2)) hG (i := 3) (.string q.f1.f0.f3)) hG (i := 4) (.slice A4 q.f1.f1.length c4)
                     clear z0 z1 z2 z3 z4 f0 f1 f2 f3 f4 BK hv
                     go_region_held3 (fun W' => EA wr w.heap.size id A1 ls.length c1 A2 np.length c2 (w.heap.size + 1) sn sl (some ad) sp.length c3 (ad.add (kk * 6)) x A5 c5 W' ∧ TVA wr.heap.size q.f1.f0.f0 q.f1.f0.f1 q.f1.f0.f2 q.f1.f0.f3 A4 c4 q.f1.f1 W')
                       (first | (with_reducible exact ⟨ES.all HS, TV.all HT⟩) | (with_reducible exact ⟨ES.all HS.drew, TV.all HT.drew⟩))
                       ((first | (go_at_call 48; ((with_reducible refine (cobwebref03_Equal.calls _ _ _ _ _ _ _ _ _ _ _ _ _ _ _ _ HT.drew.kc hl4 (Kd.C_below hr5.out HS.drew.bel) hl5 heq.out).mono ?_)); rintro e' w2 ⟨rfl, hb⟩; replace HS := ES.step HS.drew hb; replace HT := TV.step HT.drew hb; clear hb)))
                     go_wp2
                     go_roundg (sp.length - (kk + 1))
                     case measure => omega
                     case rel => exact ⟨kk + 1, (y == 1), by omega, by omega, by go_num, rfl, ⟨(HR _ HS).1⟩, ⟨(HR _ HS).2⟩, ⟨hdrop.out⟩⟩)
                  | (have HT := TV.new (r1 := q.f1.f0.f0) (r2 := q.f1.f0.f1) (r3 := q.f1.f0.f2) (r4 := q.f1.f0.f3) (c4 := c4) (Kd.V_reads' hv.out).2.2
                     replace HS := ES.alloc HS (.cells #[.int .i64 q.f1.f0.f0, .int .i64 q.f1.f0.f1, .float .f64 q.f1.f0.f2, .string q.f1.f0.f3, .slice A4 q.f1.f1.length c4] 29)
                     clear hv
                     go_region_held3 (fun W' => EA wr w.heap.size id A1 ls.length c1 A2 np.length c2 (w.heap.size + 1) sn sl (some ad) sp.length c3 (ad.add (kk * 6)) x A5 c5 W' ∧ TVA w'.heap.size q.f1.f0.f0 q.f1.f0.f1 q.f1.f0.f2 q.f1.f0.f3 A4 c4 q.f1.f1 W')
                       (first | (with_reducible exact ⟨ES.all HS, TV.all HT⟩) | (with_reducible exact ⟨ES.all HS.drew, TV.all HT.drew⟩))
                       ((first | (go_at_call 48; ((with_reducible refine (cobwebref03_Equal.calls _ _ _ _ _ _ _ _ _ _ _ _ _ _ _ _ HT.drew.kc hl4 (Kd.C_below hr5.out HS.drew.bel) hl5 heq.out).mono ?_)); rintro e' w2 ⟨rfl, hb⟩; replace HS := ES.step HS.drew hb; replace HT := TV.step HT.drew hb; clear hb)))
                     go_wp2
                     go_roundg (sp.length - (kk + 1))
                     case measure => omega
                     case rel => exact ⟨kk + 1, (y == 1), by omega, by omega, by go_num, rfl, ⟨(HR _ HS).1⟩, ⟨(HR _ HS).2⟩, ⟨hdrop.out⟩⟩)
        · have e : kk = sp.length := by omega
          subst e
          have hA := Aside0.mk (HA.out.trans (by rw [List.drop_length, List.all_nil, Bool.and_true]) : (lab ls sl && sp.all (okP np)) = b)
          clear HA hk hg hlt
          go_wp2
          go_ret
          exact ⟨by rw [hA.out]; rfl, HW.out⟩
end Go.Proofs.Ytnfapjkffofcaaa.G
namespace Go.Proofs.Ytnfapjkffofcaaa.G
open Go.RowKit Go.Proofs.YtnfapjkffofcaaaW.PrintWords Go.Proofs.YtnfapjkffofcaaaW.PrintLast Go.Proofs.Ytnfapjkffofcaaa.FW Go.Proofs.Ytnfapjkffofcaaa.FL Go.Proofs.Ytnfapjkffofcaaa.EV Go.Proofs.Ytnfapjkffofcaaa.PK Go.Proofs.Ytnfapjkffofcaaa.TY Go.Proofs.Ytnfapjkffofcaaa.ORD
set_option linter.unusedVariables false
def FitOk (ls : List ByteArray) (np sp : List Prp) : Prop := (ls.length ≤ 140737488351232 ∧ np.length ≤ 140737488351232 ∧ sp.length ≤ 140737488351232) ∧ (∀ p ∈ np, GoodV p.f1) ∧ ∀ p ∈ sp, GoodV p.f1
instance (v : Val) : Decidable (GoodV v) := inferInstanceAs (Decidable (_ ∧ _ ∧ _))
instance (ls : List ByteArray) (np sp : List Prp) : Decidable (FitOk ls np sp) := inferInstanceAs (Decidable ((_ ∧ _ ∧ _) ∧ (∀ p ∈ np, GoodV p.f1) ∧ ∀ p ∈ sp, GoodV p.f1))
def match_Fits.f (a0_0 : Int) (l0_1 : List ByteArray) (l0_2 : List Prp) (a1_0 : ByteArray) (a1_1 : ByteArray) (l1_2 : List Prp) : Option Bool := if FitOk l0_1 l0_2 l1_2 then some (l1_2.all (okP l0_2) && lab l0_1 a1_1) else none
def cobwebref24_Fits.f (a0_0 : Int) (l0_1 : List ByteArray) (l0_2 : List Prp) (a1_0 : ByteArray) (a1_1 : ByteArray) (l1_2 : List Prp) : Option Bool := if FitOk l0_1 l0_2 l1_2 then some (lab l0_1 a1_1 && l1_2.all (okP l0_2)) else none
theorem match_Fits.calls (a0_0 : Int) (A0_1 : Option Addr) (c0_1 : Nat) (l0_1 : List ByteArray) (A0_2 : Option Addr) (c0_2 : Nat) (l0_2 : List (S61)) (a1_0 : ByteArray) (a1_1 : ByteArray) (A1_2 : Option Addr) (c1_2 : Nat) (l1_2 : List (S61)) (r : Bool) (w : World) (hr0_1 : Kd.C Kd.string w A0_1 l0_1.length l0_1) (hc0_1 : l0_1.length ≤ c0_1) (hr0_2 : Kd.C k61 w A0_2 l0_2.length l0_2) (hc0_2 : l0_2.length ≤ c0_2) (hr1_2 : Kd.C k61 w A1_2 l1_2.length l1_2) (hc1_2 : l1_2.length ≤ c1_2) (h : match_Fits.f a0_0 l0_1 l0_2 a1_0 a1_1 l1_2 = some r) :
    Calls Try.prog 24 #[.agg #[.int .i64 a0_0, .slice A0_1 l0_1.length c0_1, .slice A0_2 l0_2.length c0_2], .agg #[.string a1_0, .string a1_1, .slice A1_2 l1_2.length c1_2]] w fun e w' => e = .returned (.bool r) ∧ Below w.heap.size w w' := by
  unfold match_Fits.f at h
  split at h
  · rename_i hb
    obtain rfl := Option.some.inj h
    exact h_mfits a0_0 A0_1 c0_1 l0_1 A0_2 c0_2 l0_2 a1_0 a1_1 A1_2 c1_2 l1_2 w hr0_1 hc0_1 hr0_2 hc0_2 hr1_2 hc1_2 hb.1.1 hb.1.2.1 hb.1.2.2 (fun p hp => (hb.2.1 p hp).2.1) (fun p hp => (hb.2.2 p hp).2.1)
  · cases h
theorem cobwebref24_Fits.calls (a0_0 : Int) (A0_1 : Option Addr) (c0_1 : Nat) (l0_1 : List ByteArray) (A0_2 : Option Addr) (c0_2 : Nat) (l0_2 : List (S61)) (a1_0 : ByteArray) (a1_1 : ByteArray) (A1_2 : Option Addr) (c1_2 : Nat) (l1_2 : List (S61)) (r : Bool) (w : World) (hr0_1 : Kd.C Kd.string w A0_1 l0_1.length l0_1) (hc0_1 : l0_1.length ≤ c0_1) (hr0_2 : Kd.C k61 w A0_2 l0_2.length l0_2) (hc0_2 : l0_2.length ≤ c0_2) (hr1_2 : Kd.C k61 w A1_2 l1_2.length l1_2) (hc1_2 : l1_2.length ≤ c1_2) (h : cobwebref24_Fits.f a0_0 l0_1 l0_2 a1_0 a1_1 l1_2 = some r) :
    Calls Try.prog 25 #[.agg #[.int .i64 a0_0, .slice A0_1 l0_1.length c0_1, .slice A0_2 l0_2.length c0_2], .agg #[.string a1_0, .string a1_1, .slice A1_2 l1_2.length c1_2]] w fun e w' => e = .returned (.bool r) ∧ Below w.heap.size w w' := by
  unfold cobwebref24_Fits.f at h
  split at h
  · rename_i hb
    obtain rfl := Option.some.inj h
    exact h_rfits a0_0 A0_1 c0_1 l0_1 A0_2 c0_2 l0_2 a1_0 a1_1 A1_2 c1_2 l1_2 w hr0_1 hc0_1 hr0_2 hc0_2 hr1_2 hc1_2 hb.1.1 hb.1.2.1 hb.1.2.2 hb.2.1 hb.2.2
  · cases h
end Go.Proofs.Ytnfapjkffofcaaa.G
namespace Go.Proofs.Ytnfapjkffofcaaa.PM
open Go.RowKit Go.Proofs.YtnfapjkffofcaaaW.PrintWords Go.Proofs.YtnfapjkffofcaaaW.PrintLast Go.Proofs.Ytnfapjkffofcaaa.FW Go.Proofs.Ytnfapjkffofcaaa.PK Go.Proofs.Ytnfapjkffofcaaa.G
set_option linter.unusedVariables false
set_option linter.unusedSimpArgs false
mutual
def cobweblaw24_MatchAsks.j0 : Nat → Bool → Int → List ByteArray → List (S61) → ByteArray → ByteArray → List (S61) → Int → ByteArray → Int → Int → List (S61) → Option (Bool)
  | 0, _, _, _, _, _, _, _, _, _, _, _, _ => none
  | k + 1, x19, x128000, x128001, x128002, x129000, x129001, x129002, x130000, x130001, x130002, x130003, x130004 => if x19 = true then (some true) else (cobweblaw24_MatchAsks.l0 k 0 x128000 x128001 x128002 x129000 x129001 x129002 x130000 x130001 x130002 x130003 x130004)
def cobweblaw24_MatchAsks.l0 : Nat → Int → Int → List ByteArray → List (S61) → ByteArray → ByteArray → List (S61) → Int → ByteArray → Int → Int → List (S61) → Option (Bool)
  | 0, _, _, _, _, _, _, _, _, _, _, _, _ => none
  | k + 1, x7, x128000, x128001, x128002, x129000, x129001, x129002, x130000, x130001, x130002, x130003, x130004 => if x7 < (x129002.length : Int) then (if 0 ≤ x7 then (if (((rd_T61 x129002 x7).f1.f0.f3).size : Int) > 300 then (some true) else (if (((rd_T61 x129002 x7).f1.f1).length : Int) > 20 then (some true) else (cobweblaw24_MatchAsks.l0 k (wrap64 (x7 + 1)) x128000 x128001 x128002 x129000 x129001 x129002 x130000 x130001 x130002 x130003 x130004))) else (none)) else ((match_Fits.f x128000 x128001 x128002 x129000 x129001 x129002).bind fun t137 => ((cobwebref24_Fits.f x128000 x128001 x128002 x129000 x129001 x129002).bind fun t138 => (if (t137 == t138) = true then ((match_Follows.f x130000 x130001 x130002 x130003 x130004 (⟨#[]⟩ : ByteArray) x129001 false false 0 0).bind fun t139 => ((cobwebref24_Follows.f x130000 x130001 x130002 x130003 x130004 (⟨#[]⟩ : ByteArray) x129001 false false 0 0).bind fun t140 => (if (t139 == t140) = true then ((match_Fits.f x128000 x128001 x128002 (⟨#[]⟩ : ByteArray) (⟨#[]⟩ : ByteArray) ([] : List (S61))).bind fun t141 => (some t141)) else (some false)))) else (some false))))
end
def cobweblaw24_MatchAsks.f (k : Nat) (a0_0 : Int) (l0_1 : List ByteArray) (l0_2 : List (S61)) (a1_0 : ByteArray) (a1_1 : ByteArray) (l1_2 : List (S61)) (a2_0 : Int) (a2_1 : ByteArray) (a2_2 : Int) (a2_3 : Int) (l2_4 : List (S61)) : Option (Bool) := (cobweblaw24_Few.f k (([(⟨a0_0, l0_1, l0_2⟩ : S50)] : List (S50))) ([] : List (S54))).bind fun t133 => (if t133 = 0 then (cobweblaw24_MatchAsks.j0 k true a0_0 l0_1 l0_2 a1_0 a1_1 l1_2 a2_0 a2_1 a2_2 a2_3 l2_4) else (cobweblaw24_MatchAsks.j0 k (decide ((l1_2.length : Int) > 50)) a0_0 l0_1 l0_2 a1_0 a1_1 l1_2 a2_0 a2_1 a2_2 a2_3 l2_4))
theorem cobweblaw24_MatchAsks.mono_l : ∀ k, (∀ y0 y1 y2 y3 y4 y5 y6 y7 y8 y9 y10 y11, LeO (cobweblaw24_MatchAsks.j0 k y0 y1 y2 y3 y4 y5 y6 y7 y8 y9 y10 y11) (cobweblaw24_MatchAsks.j0 (k + 1) y0 y1 y2 y3 y4 y5 y6 y7 y8 y9 y10 y11)) ∧ (∀ y0 y1 y2 y3 y4 y5 y6 y7 y8 y9 y10 y11, LeO (cobweblaw24_MatchAsks.l0 k y0 y1 y2 y3 y4 y5 y6 y7 y8 y9 y10 y11) (cobweblaw24_MatchAsks.l0 (k + 1) y0 y1 y2 y3 y4 y5 y6 y7 y8 y9 y10 y11))
  | 0 => ⟨fun _ _ _ _ _ _ _ _ _ _ _ _ r h => by simp [cobweblaw24_MatchAsks.j0] at h, fun _ _ _ _ _ _ _ _ _ _ _ _ r h => by simp [cobweblaw24_MatchAsks.l0] at h⟩
  | k + 1 => by
    obtain ⟨ih0, ih1⟩ := cobweblaw24_MatchAsks.mono_l k
    refine ⟨?_, ?_⟩
    · intro y0 y1 y2 y3 y4 y5 y6 y7 y8 y9 y10 y11
      unfold cobweblaw24_MatchAsks.j0
      repeat' first
      | (with_reducible exact ih0 _ _ _ _ _ _ _ _ _ _ _ _)
      | (with_reducible exact ih1 _ _ _ _ _ _ _ _ _ _ _ _)
      | (with_reducible exact cobweblaw24_Few.mono _ _ _)
      | (with_reducible exact LeO.refl _)
      | (with_reducible exact LeO.none _)
      | (with_reducible refine LeO.ite ?_ ?_)
      | (with_reducible refine LeO.bind ?_ (fun _ => ?_))
      | exact ih0 _ _ _ _ _ _ _ _ _ _ _ _
      | exact ih1 _ _ _ _ _ _ _ _ _ _ _ _
      | exact cobweblaw24_Few.mono _ _ _
      | exact LeO.none _
      | refine LeO.ite ?_ ?_
      | refine LeO.bind ?_ (fun _ => ?_)
    · intro y0 y1 y2 y3 y4 y5 y6 y7 y8 y9 y10 y11
      unfold cobweblaw24_MatchAsks.l0
      repeat' first
      | (with_reducible exact ih0 _ _ _ _ _ _ _ _ _ _ _ _)
      | (with_reducible exact ih1 _ _ _ _ _ _ _ _ _ _ _ _)
      | (with_reducible exact cobweblaw24_Few.mono _ _ _)
      | (with_reducible exact LeO.refl _)
      | (with_reducible exact LeO.none _)
      | (with_reducible refine LeO.ite ?_ ?_)
      | (with_reducible refine LeO.bind ?_ (fun _ => ?_))
      | exact ih0 _ _ _ _ _ _ _ _ _ _ _ _
      | exact ih1 _ _ _ _ _ _ _ _ _ _ _ _
      | exact cobweblaw24_Few.mono _ _ _
      | exact LeO.none _
      | refine LeO.ite ?_ ?_
      | refine LeO.bind ?_ (fun _ => ?_)
theorem cobweblaw24_MatchAsks.mono : ∀ a0 a1 a2 a3 a4 a5 a6 a7 a8 a9 a10 k, LeO (cobweblaw24_MatchAsks.f k a0 a1 a2 a3 a4 a5 a6 a7 a8 a9 a10) (cobweblaw24_MatchAsks.f (k + 1) a0 a1 a2 a3 a4 a5 a6 a7 a8 a9 a10) := by
  intro a0 a1 a2 a3 a4 a5 a6 a7 a8 a9 a10 k
  obtain ⟨ih0, ih1⟩ := cobweblaw24_MatchAsks.mono_l k
  unfold cobweblaw24_MatchAsks.f
  repeat' first
      | (with_reducible exact ih0 _ _ _ _ _ _ _ _ _ _ _ _)
      | (with_reducible exact ih1 _ _ _ _ _ _ _ _ _ _ _ _)
      | (with_reducible exact cobweblaw24_Few.mono _ _ _)
      | (with_reducible exact LeO.refl _)
      | (with_reducible exact LeO.none _)
      | (with_reducible refine LeO.ite ?_ ?_)
      | (with_reducible refine LeO.bind ?_ (fun _ => ?_))
      | exact ih0 _ _ _ _ _ _ _ _ _ _ _ _
      | exact ih1 _ _ _ _ _ _ _ _ _ _ _ _
      | exact cobweblaw24_Few.mono _ _ _
      | exact LeO.none _
      | refine LeO.ite ?_ ?_
      | refine LeO.bind ?_ (fun _ => ?_)
def cobweblaw24_MatchAsks.T9 : Bool × List (List Nat × List Nat) := (true, [([], []), ([], []), ([0, 1], [0, 1]), ([], []), ([], []), ([3, 4, 2], [3, 4]), ([2, 5], [2, 5]), ([6, 5], [6]), ([7], [7]), ([7], [7]), ([8, 9, 7, 7], [7, 8, 9]), ([7], [7]), ([7], [7]), ([11, 12, 10, 7], [7, 11, 12]), ([10, 13, 7], [7, 10, 13]), ([7, 14], [7, 14]), ([15, 13], [15]), ([16], [16]), ([16], [16]), ([17, 18, 16, 16], [16, 17, 18]), ([16, 19], [16, 19]), ([20, 19, 0, 1, 2, 3, 4, 5, 6, 7, 8, 9, 10, 11, 12, 13, 14, 15, 16, 17, 18, 19, 20], [20])])
def cobweblaw24_MatchAsks.B9 : List Nat := [0, 0, 3, 0, 0, 31, 63, 127, 255, 255, 1023, 255, 255, 8191, 16383, 32767, 65535, 131071, 131071, 524287, 1048575, 2097151]
theorem cobweblaw24_MatchAsks.tab9 : rtab .any (opsOf Try.f7 9) = cobweblaw24_MatchAsks.T9 := by kernel_rfl
theorem cobweblaw24_MatchAsks.bits9 : waitsOk cobweblaw24_MatchAsks.T9.2 cobweblaw24_MatchAsks.B9 = true := by kernel_rfl
end Go.Proofs.Ytnfapjkffofcaaa.PM
