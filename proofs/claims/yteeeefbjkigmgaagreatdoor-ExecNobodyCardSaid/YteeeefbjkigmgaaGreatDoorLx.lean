/- ExecNobody: for every input the call returns true, and each argument reads as it read before; the variables that the row lists are tied to the program's text. Conditions: none but the row's own. -/
import Derived.Test.YteeeefbjkigmgaaGreatDoorRows
import Derived.Test.YteeeefbjkigmgaaGreatDoorCards
import Derived.Test.YteeeefbjkigmgaaGreatDoorTie
import Derived.Test.YteeeefbjkigmgaaGreatDoorMz
import Derived.Test.YteeeefbjkigmgaaGreatDoorLj
import Derived.ProofKit
import Derived.LaidMore
import Derived.OpenShut
import Derived.ShutString
import Derived.Stop.Joined
import Derived.SevenTiedAt
import Derived.ChangeOld
import Derived.Below
import Derived.SizedLaws
import Derived.Carry
import Derived.Laws.Cover2
import Derived.WideShapes
import Derived.KernelRfl
namespace Go.Proofs.YteeeefbjkigmgaaGreatDoor.execNobody
open Go.ChangeShapes Go.WideShapes Go.ChangeAt Go.WideMaps Go.WideElems Go.RowKit
set_option linter.unusedVariables false
/-- A struct that came in, cell by cell. -/
theorem agg_open {P : Program} {w : World} {r : Reach} {base : Nat} {t : TypeId} {v : Value} {fs : Array Field} {ts : List TypeId} (hu : P.underlying t = some (.struct fs)) (hts : P.cellTypes P.depth t = some ts) (hn : P.cellsOf t = ts.length) (h : Value.okWide P w r base t v) :
    ∃ cs : Array Value, v = .agg cs ∧ cs.size = ts.length ∧ ∀ (i : Nat) (u : TypeId) (x : Value), ts[i]? = some u → cs[i]? = some x → Cell.okWide P w r base u x := by
  simp only [Value.okWide, hu] at h
  obtain ⟨cs, rfl, hs, ts', h1, _, h2⟩ := h
  rw [hts] at h1
  obtain rfl := Option.some.inj h1
  refine ⟨cs, rfl, by rw [hs, hn], fun i u x hi hx => ?_⟩
  obtain ⟨u', e, hc⟩ := h2 i x hx
  have hl : i < ts.length := (List.getElem?_eq_some_iff.1 hi).1
  rw [Nat.mod_eq_of_lt hl, hi] at e
  obtain rfl := Option.some.inj e
  exact hc
theorem c_int {P : Program} {w : World} {r : Reach} {base : Nat} {t : TypeId} {v : Value} {k : IntKind} (hu : P.underlying t = some (.int k)) (h : Cell.okWide P w r base t v) : ∃ n, v = .int k n := okWide_int hu (by simp only [Value.okWide, hu]; exact h)
theorem c_string {P : Program} {w : World} {r : Reach} {base : Nat} {t : TypeId} {v : Value} (hu : P.underlying t = some .string) (h : Cell.okWide P w r base t v) : ∃ s, v = .string s := okWide_string hu (by simp only [Value.okWide, hu]; exact h)
theorem c_bool {P : Program} {w : World} {r : Reach} {base : Nat} {t : TypeId} {v : Value} (hu : P.underlying t = some .bool) (h : Cell.okWide P w r base t v) : ∃ b, v = .bool b := okWide_bool hu (by simp only [Value.okWide, hu]; exact h)
theorem c_float {P : Program} {w : World} {r : Reach} {base : Nat} {t : TypeId} {v : Value} {k : FloatKind} (hu : P.underlying t = some (.float k)) (h : Cell.okWide P w r base t v) : ∃ b, v = .float k b := okWide_float hu (by simp only [Value.okWide, hu]; exact h)
theorem c_slice {P : Program} {w : World} {r : Reach} {base : Nat} {t e : TypeId} {v : Value} (hu : P.underlying t = some (.slice e)) (h : Cell.okWide P w r base t v) : ∃ a n c, v = .slice a n c := okWide_slice hu (by simp only [Value.okWide, hu]; exact h)
set_option maxRecDepth 100000 in
theorem opened0 {w : World} {base : Nat} {v : Value} (h : Value.okWide Tryz.prog w .any base 28 v) : ∃ a0_0 l0_0 c0_0 a0_1 l0_1 c0_1 a0_2 l0_2 c0_2 a0_3 l0_3 c0_3 b0_4 a0_5 l0_5 c0_5 n0_6 n0_7, v = .agg #[.slice a0_0 l0_0 c0_0, .slice a0_1 l0_1 c0_1, .slice a0_2 l0_2 c0_2, .slice a0_3 l0_3 c0_3, .bool b0_4, .slice a0_5 l0_5 c0_5, .int .i64 n0_6, .int .i64 n0_7] := by
  obtain ⟨cs, rfl, hcs, hcell⟩ := agg_open (ts := [22, 23, 24, 25, 4, 26, 3, 3]) Tryz.underlying28 (by kernel_rfl) (by kernel_rfl) h
  obtain ⟨xs⟩ := cs
  match xs, hcs with
  | [x0, x1, x2, x3, x4, x5, x6, x7], _ =>
    obtain ⟨a0_0, l0_0, c0_0, rfl⟩ := c_slice Tryz.underlying22 (hcell 0 _ _ rfl rfl)
    obtain ⟨a0_1, l0_1, c0_1, rfl⟩ := c_slice Tryz.underlying23 (hcell 1 _ _ rfl rfl)
    obtain ⟨a0_2, l0_2, c0_2, rfl⟩ := c_slice Tryz.underlying24 (hcell 2 _ _ rfl rfl)
    obtain ⟨a0_3, l0_3, c0_3, rfl⟩ := c_slice Tryz.underlying25 (hcell 3 _ _ rfl rfl)
    obtain ⟨b0_4, rfl⟩ := c_bool Tryz.underlying4 (hcell 4 _ _ rfl rfl)
    obtain ⟨a0_5, l0_5, c0_5, rfl⟩ := c_slice Tryz.underlying26 (hcell 5 _ _ rfl rfl)
    obtain ⟨n0_6, rfl⟩ := c_int Tryz.underlying3 (hcell 6 _ _ rfl rfl)
    obtain ⟨n0_7, rfl⟩ := c_int Tryz.underlying3 (hcell 7 _ _ rfl rfl)
    exact ⟨a0_0, l0_0, c0_0, a0_1, l0_1, c0_1, a0_2, l0_2, c0_2, a0_3, l0_3, c0_3, b0_4, a0_5, l0_5, c0_5, n0_6, n0_7, rfl⟩
set_option maxRecDepth 100000 in
theorem opened1 {w : World} {base : Nat} {v : Value} (h : Value.okWide Tryz.prog w .any base 30 v) : ∃ n1_0 n1_1 n1_2, v = .agg #[.int .i64 n1_0, .int .i64 n1_1, .int .i64 n1_2] := by
  obtain ⟨cs, rfl, hcs, hcell⟩ := agg_open (ts := [3, 3, 3]) Tryz.underlying30 (by kernel_rfl) (by kernel_rfl) h
  obtain ⟨xs⟩ := cs
  match xs, hcs with
  | [x0, x1, x2], _ =>
    obtain ⟨n1_0, rfl⟩ := c_int Tryz.underlying3 (hcell 0 _ _ rfl rfl)
    obtain ⟨n1_1, rfl⟩ := c_int Tryz.underlying3 (hcell 1 _ _ rfl rfl)
    obtain ⟨n1_2, rfl⟩ := c_int Tryz.underlying3 (hcell 2 _ _ rfl rfl)
    exact ⟨n1_0, n1_1, n1_2, rfl⟩
theorem own : ownKnob Tryz.prog.godebug = none := by kernel_rfl
theorem laidOut : laidOutB Tryz.prog = true := by kernel_rfl
/-- The door's own heap meets the condition. -/
theorem door_met (os : Os) (args : Array Value) : laidMetH Tryz.prog Rows.execNobodyRow.laid ((World.doorLaid Tryz.prog 400 os).forCall (fun _ _ => 0) ⟨#[], args, []⟩).memory :=
  laidMetH_of_parts3 (fuel := 8) (laidMet_of_run' 8 (by kernel_rfl) (by kernel_rfl)) (by kernel_rfl) (by kernel_rfl)
set_option maxRecDepth 100000 in
set_option maxHeartbeats 1000000 in
theorem lifted (os : Os) (started : os.Started) (H : Type) (enc : TypeId × Value → H) :
    ReturnsInHanded {} Tryz.checked os 3 .any (fun w args => (Rows.execNobodySpec.pre enc Tryz.prog Tryz.f3 [] false w args ∧ laidMetH Tryz.prog Rows.execNobodyRow.laid w) ∧ sizedMet enc Tryz.prog Tryz.f3 (OpenSpec.ofChange Rows.execNobodySpec) false w args)
      (Rows.execNobodySpec.post enc Tryz.prog Tryz.f3 false true false false) := by
  refine returnsInHanded_of_change_and (C := Tryz.checked) (X := fun w _ => laidMetH Tryz.prog Rows.execNobodyRow.laid w) (fun _ _ _ hh h => h.of_heap hh) own started (by kernel_rfl) Tryz.func3
    (ChangeSpec.witness_shaped (enc := enc) (C := Tryz.checked) (os := os) (X := fun w _ => laidMetH Tryz.prog Rows.execNobodyRow.laid w) false (World.doorLaid Tryz.prog 400 os) #[.agg #[.slice none 0 0, .slice none 0 0, .slice none 0 0, .slice none 0 0, .bool false, .slice none 0 0, .int .i64 0, .int .i64 0], .agg #[.int .i64 0, .int .i64 0, .int .i64 0]] 8 rfl (World.shaped_of_RefB (by kernel_rfl) (by kernel_rfl)) (by kernel_rfl) (by kernel_rfl) (by kernel_rfl) (door_met os _)) ?_
  intro W base args ds gs before hval0 hW _ _ _ _
  have hval : ∀ (j : Nat) t v, Tryz.f3.params[j]? = some t → args[j]? = some v → Value.okWide Tryz.prog W .any base t v := hval0
  have hW' := hW
  obtain ⟨p, q, hA0, hV, rfl, hfz, hnd⟩ := hW
  have hA : DataW.TrodAll enc Tryz.prog W 0 (fun _ => true) true Tryz.f3.params.toList args.toList ds p := hA0
  rw [Tryz.params3] at hA hval
  obtain ⟨v0, vs0, d0, ds0, p0, q0, hargs, rfl, rfl, h0, r0⟩ := trodAll_cons hA
  obtain ⟨v1, vs1, d1, ds1, p1, q1, rfl, rfl, rfl, h1, r1⟩ := trodAll_cons r0
  obtain ⟨rfl, rfl, rfl⟩ := trodAll_nil r1
  obtain rfl : args = #[v0, v1] := by cases args; simp_all
  obtain ⟨rfl, rfl⟩ := trodVars_none hV
  have t0 := h0
  have lt0 : ∀ x ∈ p0, x.block < W.heap.size := by obtain ⟨m, hm⟩ := t0; exact DataW.trod_lt m _ _ _ hm
  have t1 := h1
  have lt1 : ∀ x ∈ p1, x.block < W.heap.size := by obtain ⟨m, hm⟩ := t1; exact DataW.trod_lt m _ _ _ hm
  obtain ⟨a0_0, l0_0, c0_0, a0_1, l0_1, c0_1, a0_2, l0_2, c0_2, a0_3, l0_3, c0_3, b0_4, a0_5, l0_5, c0_5, n0_6, n0_7, rfl⟩ := opened0 (hval 0 28 v0 rfl rfl)
  obtain ⟨n1_0, n1_1, n1_2, rfl⟩ := opened1 (hval 1 30 v1 rfl rfl)
  clear hA0 hval0
  refine (NB.lawExec a0_0 l0_0 c0_0 a0_1 l0_1 c0_1 a0_2 l0_2 c0_2 a0_3 l0_3 c0_3 b0_4 a0_5 l0_5 c0_5 n0_6 n0_7 n1_0 n1_1 n1_2 W).mono fun e W' hh => ?_
  have he := hh.1
  have bel : Below W.heap.size W W' := hh.2
  subst he
  exact ⟨_, rfl, _, _, _, [], _, [], hW', trodAll_mk1 (shut_bool Tryz.underlying4 _), (trodAll_cons_mk (Below.trod laidOut (by kernel_rfl) (of_decide_eq_true (by kernel_rfl)) t0 bel lt0) (trodAll_cons_mk (Below.trod laidOut (by kernel_rfl) (of_decide_eq_true (by kernel_rfl)) t1 bel lt1) trodAll_mk0)), rfl, bel.frame _, fun h => by cases h⟩
theorem over : Rows.ExecNobodySaid :=
  OpenClaim.holds_of_wide 3 Tryz.f3 rfl rfl rfl rfl rfl rfl rfl ⟨rfl, rfl, rfl, rfl, rfl⟩ rfl rfl rfl rfl rfl (by kernel_rfl) Tryz.func3 joined
    (of_decide_eq_true (by kernel_rfl)) (by unfold Func.isWrapper; first | (rw [if_pos (by decide +kernel)]; kernel_rfl) | (rw [if_neg (by decide +kernel)]; exact ⟨rfl, rfl⟩))
    (fun os started H enc _ => lifted os started H enc)
set_option maxRecDepth 100000 in
theorem card : Rows.ExecNobodyCardSaid :=
  Claim7.holds_tied_plain_at .later [] [.data, .data, .data] true (true, "5f91f6bf6714c21e4513ad7069a974a21837a0822dbdf85305e4a52d4bd1bab7") true
    over (fun _ h => by cases h) (by kernel_rfl) (fun _ h => by cases h) execNobody_row_tie rfl ⟨rfl, rfl⟩ (by kernel_rfl) rfl
    (fun f fn hf hfn => by
      obtain rfl : f = 3 := Option.some.inj ((show Tryz.prog.funcNamed "cobweb/cobweblaw26.ExecNobody" = some 3 by kernel_rfl).symm.trans hf) |>.symm
      obtain rfl : fn = Tryz.f3 := (Option.some.inj (Tryz.func3.symm.trans hfn)).symm
      exact ⟨by kernel_rfl, fun j t ht => by
        rw [Tryz.params3] at ht
        have hm : t ∈ [28, 30] := by simpa using Array.mem_of_getElem? ht
        have hall : ([28, 30].all fun u => !Tryz.prog.wantsStandIn u) = true := by kernel_rfl
        exact (show Tryz.prog.wantsStandIn t = false by simpa using List.all_eq_true.1 hall t hm)⟩)
    (by kernel_rfl)
#print axioms card
end Go.Proofs.YteeeefbjkigmgaaGreatDoor.execNobody
namespace Go.Proofs.YteeeefbjkigmgaaGreatDoor
/-- The card, under a short name, for the claim. -/
theorem execNobody_card : Rows.ExecNobodyCardSaid := execNobody.card
end Go.Proofs.YteeeefbjkigmgaaGreatDoor
