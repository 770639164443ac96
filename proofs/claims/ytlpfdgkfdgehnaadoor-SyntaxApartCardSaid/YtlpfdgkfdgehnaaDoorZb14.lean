/- The claim's last text: for every input the law returns true; conditions: none but the row's own. Laid by a program of this session (wip/tool/shake.py): what is needed of own and printed texts, in order. -/
import Derived.Test.YtlpfdgkfdgehnaaDoorZb0
import Derived.Test.YtlpfdgkfdgehnaaDoorZb1
import Derived.Test.YtlpfdgkfdgehnaaDoorZb2
import Derived.Test.YtlpfdgkfdgehnaaDoorZb3
import Derived.Test.YtlpfdgkfdgehnaaDoorZb4
import Derived.Test.YtlpfdgkfdgehnaaDoorZb5
import Derived.Test.YtlpfdgkfdgehnaaDoorZb6
import Derived.Test.YtlpfdgkfdgehnaaDoorZb7
import Derived.Test.YtlpfdgkfdgehnaaDoorZb8
import Derived.Test.YtlpfdgkfdgehnaaDoorZb9
import Derived.Test.YtlpfdgkfdgehnaaDoorZb10
import Derived.Test.YtlpfdgkfdgehnaaDoorZb11
import Derived.Test.YtlpfdgkfdgehnaaDoorZb12
import Derived.Test.YtlpfdgkfdgehnaaDoorZb13
import Derived.Test.YtlpfdgkfdgehnaaDoorRows
import Derived.Test.YtlpfdgkfdgehnaaDoorCards
import Derived.Test.YtlpfdgkfdgehnaaDoorTie
import Derived.ProofKit
import Derived.LaidMore
import Derived.OpenShut
import Derived.ShutString
import Derived.Stop.Joined
import Derived.SevenTiedAt
import Derived.ChangeOld
import Derived.Below
import Derived.SizedLaws
import Derived.Carry
import Derived.Laws.Cover2
import Derived.WideShapes
import Derived.KernelRfl
import Derived.MakeChecks
import Derived.Lib.LaidTab
import Derived.Calls
import Derived.Lib.ItoaNum
import Derived.Orders
import Derived.Tactics
import Derived.Laws.Rows
import Derived.Laws.World
import Derived.Laws.CopyRow
import Derived.Lib.FrozenHead
import Derived.Deep.AppendSrc
import Derived.Deep.Upon
import Derived.Laws.BytesArg
import Derived.IntWalk
import Derived.Laws.Externs
import Derived.LoopN
import Derived.Scope
import Derived.Test.YtlpfdgkfdgehnaaDoorProg
import Derived.MapKept
import Derived.Recover
import Derived.Laws.StructEq
import Derived.Laws.FloatBits
import Derived.Lib.Bytealg
import Derived.Lib.AtoiAllCases
import Derived.Lib.Strings
import Derived.WideLaws
import Derived.ChangeArms
import Derived.Deep.Slices
import Derived.Lib.ItoaMem
import Derived.Lib.ItoaLen
import Derived.Lib.Join
import Derived.RegionTactic
import Derived.Lib.AppendIntMem
import Derived.Shelf.Strings.Builder1
import Derived.Shelf.Strings.Builder2
import Derived.Shelf.Strings.OnBuilder
import Derived.Shelf.Small.Wraps
import Derived.Shelf.Strings.BuilderF
import Derived.Shelf.Strings.BuilderK
import Derived.Shelf.Strings.Builder2Cap
import Derived.Shelf.Strconv.Itoa0
import Derived.Shelf.Strconv.Itoa1
import Derived.Shelf.LaysM
import Derived.Shelf.Strconv.Itoa2
import Derived.Shelf.Strconv.Itoa3
import Derived.Shelf.Strings.BuilderCap
import Derived.Shelf.Slices.Turned
namespace Go.Proofs.YtlpfdgkfdgehnaaDoor.syntaxApart
open Go.ChangeShapes Go.WideShapes Go.ChangeAt Go.WideMaps Go.WideElems Go.RowKit Go.Proofs.YtlpfdgkfdgehnaaDoor.AM
set_option linter.unusedVariables false
theorem own : ownKnob Tryd.prog.godebug = none := by kernel_rfl
theorem laidOut : laidOutB Tryd.prog = true := by kernel_rfl
theorem door_met (os : Os) (args : Array Value) : laidMetH Tryd.prog Rows.syntaxApartRow.laid ((World.doorLaid Tryd.prog 400 os).forCall (fun _ _ => 0) ⟨#[], args, []⟩).memory :=
  laidMetH_of_parts3 (fuel := 8) (laidMet_of_run' 8 (by kernel_rfl) (by kernel_rfl)) (by kernel_rfl) (by kernel_rfl)
theorem glob (W : World) (h : laidMetH Tryd.prog Rows.syntaxApartRow.laid W) : ∀ g o, G0 g = some o → HasG W g o ∧ ¬ (fun _ : Nat => False) g := by
  rw [MakeChecks.laidMetH_plain _ _ _ (by kernel_rfl)] at h
  obtain ⟨ps, hv, _⟩ := h
  have key : ∀ {l : List (String × DataW Unit)} {ps : List MemPlace}, DataW.LaidVars Tryd.prog W l ps → ∀ n d, (n, d) ∈ l → ∃ g t cs fuel p, Tryd.prog.globalNamed n = some g ∧ (Tryd.prog.globals[g]?).map (·.type) = some t ∧ W.var? Tryd.prog n = some cs ∧ DataW.trod (fun _ => ()) Tryd.prog W 0 (fun _ => true) false fuel t cs.toList = some (d, p) := by
    intro l
    induction l with
    | nil => intro ps _ n d hm; cases hm
    | cons a l ih =>
      intro ps h n d hm
      obtain ⟨g, t, cs, fuel, p, q, h1, h2, h3, h4, h5, _⟩ := h
      rcases List.mem_cons.1 hm with e | e
      · cases e
        exact ⟨g, t, cs, fuel, p, h1, h2, h3, h4⟩
      · exact ih h5 n d e
  have place : ∀ n g cs, Tryd.prog.globalNamed n = some g → W.var? Tryd.prog n = some cs → ∃ el fz, W.heap[g]? = some (.cells cs el fz) := by
    intro n g cs h1 h2
    unfold World.var? at h2
    rw [h1, Option.bind_some] at h2
    split at h2
    · rename_i cs' el fz hh
      obtain rfl := Option.some.inj h2
      exact ⟨el, fz, hh⟩
    · cases h2
  have h0 : HasG W 1 (fun o => o = (Lib.pow10Tab.map fun z => Value.int .u64 z).toArray) := by
    obtain ⟨g, t, cs, fuel, p, k1, k2, k3, k4⟩ := key hv "internal/strconv.uint64pow10" (Lib.tabData .u64 Lib.pow10Tab) (.tail _ (.tail _ (.head _)))
    obtain rfl := Option.some.inj ((show Tryd.prog.globalNamed "internal/strconv.uint64pow10" = some 1 by kernel_rfl).symm.trans k1)
    obtain rfl := Option.some.inj ((show (Tryd.prog.globals[1]?).map (·.type) = some 126 by kernel_rfl).symm.trans k2)
    obtain ⟨el, fz, hh⟩ := place _ _ _ k1 k3
    have hcs := Lib.cells_of_tab (n := 20) Tryd.underlying126 Tryd.underlying111 (by kernel_rfl) (by kernel_rfl) k4
    exact ⟨cs, el, fz, hh, by rw [← hcs]⟩
  intro g o hg
  unfold G0 at hg
  by_cases e0 : g = 1
  · rw [if_pos e0] at hg
    obtain rfl := Option.some.inj hg
    subst e0
    exact ⟨h0, fun h => h⟩
  rw [if_neg e0] at hg
  cases hg
set_option maxRecDepth 100000 in
set_option maxHeartbeats 1000000 in
theorem lifted (os : Os) (started : os.Started) (H : Type) (enc : TypeId × Value → H) :
    ReturnsInHanded {} Tryd.checked os 3 .any (fun w args => (Rows.syntaxApartSpec.pre enc Tryd.prog Tryd.f3 [] false w args ∧ laidMetH Tryd.prog Rows.syntaxApartRow.laid w) ∧ sizedMet enc Tryd.prog Tryd.f3 (OpenSpec.ofChange Rows.syntaxApartSpec) false w args)
      (Rows.syntaxApartSpec.post enc Tryd.prog Tryd.f3 false true false false) := by
  refine returnsInHanded_of_change_and (C := Tryd.checked) (X := fun w _ => laidMetH Tryd.prog Rows.syntaxApartRow.laid w) (fun _ _ _ hh h => h.of_heap hh) own started (by kernel_rfl) Tryd.func3
    (ChangeSpec.witness_shaped (enc := enc) (C := Tryd.checked) (os := os) (X := fun w _ => laidMetH Tryd.prog Rows.syntaxApartRow.laid w) false (World.doorLaid Tryd.prog 400 os) #[.agg #[.slice none 0 0, .slice none 0 0, .slice none 0 0, .slice none 0 0, .bool false, .slice none 0 0, .int .i64 0, .int .i64 0], .agg #[.slice none 0 0, .slice none 0 0, .slice none 0 0, .slice none 0 0, .bool false, .slice none 0 0, .int .i64 0, .int .i64 0]] 8 rfl (World.shaped_of_RefB (by kernel_rfl) (by kernel_rfl)) (by kernel_rfl) (by kernel_rfl) (by kernel_rfl) (door_met os _)) ?_
  intro W base args ds gs before hval0 hW _ hsz0 hL _
  have hsz : (DataW.weightsEach Tryd.prog (Tryd.f3.params.toList ++ Rows.syntaxApartSpec.plain.varTypes Tryd.prog) (ds ++ gs)).all (· ≤ reachBytes) = true := hsz0
  have hval : ∀ (j : Nat) t v, Tryd.f3.params[j]? = some t → args[j]? = some v → Value.okWide Tryd.prog W .any base t v := hval0
  have hW' := hW
  obtain ⟨p, q, hA0, hV, rfl, hfz, hnd⟩ := hW
  have hA : DataW.TrodAll enc Tryd.prog W 0 (fun _ => true) true Tryd.f3.params.toList args.toList ds p := hA0
  rw [Tryd.params3] at hA hval hsz
  obtain ⟨v0, vs0, d0, ds0, p0, q0, hargs, rfl, rfl, h0, r0⟩ := trodAll_cons hA
  obtain ⟨v1, vs1, d1, ds1, p1, q1, rfl, rfl, rfl, h1, r1⟩ := trodAll_cons r0
  obtain ⟨rfl, rfl, rfl⟩ := trodAll_nil r1
  obtain rfl : args = #[v0, v1] := by cases args; simp_all
  obtain ⟨rfl, rfl⟩ := trodVars_none hV
  have t0 := h0
  have lt0 : ∀ x ∈ p0, x.block < W.heap.size := by obtain ⟨m, hm⟩ := t0; exact DataW.trod_lt m _ _ _ hm
  have hw0 : ∀ n ∈ d0.weights Tryd.prog 28, n ≤ reachBytes := fun n hn => by simpa using List.all_eq_true.1 hsz n (DataW.weights_mem_each (j := 0) rfl rfl n hn)
  obtain ⟨fu0, hf0⟩ := h0
  obtain ⟨y0, hK0, hB0⟩ := op28.get hf0 hw0
  obtain ⟨cs0, rfl, _⟩ := okWide_struct Tryd.underlying28 (hval 0 28 v0 rfl rfl)
  have R0 := VR.of_row hK0
  have t1 := h1
  have lt1 : ∀ x ∈ p1, x.block < W.heap.size := by obtain ⟨m, hm⟩ := t1; exact DataW.trod_lt m _ _ _ hm
  have hw1 : ∀ n ∈ d1.weights Tryd.prog 28, n ≤ reachBytes := fun n hn => by simpa using List.all_eq_true.1 hsz n (DataW.weights_mem_each (j := 1) rfl rfl n hn)
  obtain ⟨fu1, hf1⟩ := h1
  obtain ⟨y1, hK1, hB1⟩ := op28.get hf1 hw1
  obtain ⟨cs1, rfl, _⟩ := okWide_struct Tryd.underlying28 (hval 1 28 v1 rfl rfl)
  have R1 := VR.of_row hK1
  clear hA0 hval0
  refine (lawSApart y0 y1 hB0 hB1 W (fun _ => False) #[_, _] (fun _ h => h.elim) (glob W hL) rfl (VRs.cons R0 (VRs.cons R1 VRs.nil))).mono fun e W' hh => ?_
  obtain ⟨u, he, bel, hv⟩ := hh
  subst he
  obtain rfl := hv.lit_inv
  exact ⟨_, rfl, _, _, _, [], _, [], hW', trodAll_mk1 (shut_bool Tryd.underlying4 _), (trodAll_cons_mk (Below.trod laidOut (by kernel_rfl) (of_decide_eq_true (by kernel_rfl)) t0 bel lt0) (trodAll_cons_mk (Below.trod laidOut (by kernel_rfl) (of_decide_eq_true (by kernel_rfl)) t1 bel lt1) trodAll_mk0)), rfl, bel.frame _, fun h => by cases h⟩
theorem over : Rows.SyntaxApartSaid :=
  OpenClaim.holds_of_wide 3 Tryd.f3 rfl rfl rfl rfl rfl rfl rfl ⟨rfl, rfl, rfl, rfl, rfl⟩ rfl rfl rfl rfl rfl (by kernel_rfl) Tryd.func3 (by kernel_rfl)
    (of_decide_eq_true (by kernel_rfl)) (by unfold Func.isWrapper; first | (rw [if_pos (by decide +kernel)]; kernel_rfl) | (rw [if_neg (by decide +kernel)]; exact ⟨rfl, rfl⟩))
    (fun os started H enc _ => lifted os started H enc)
set_option maxRecDepth 100000 in
theorem card : Rows.SyntaxApartCardSaid :=
  Claim7.holds_tied_plain_at .later [] [.data, .data, .data] true (true, "a3fce499bd088b4576b71c43709e8f50847a23db03466610ccb8e06333c53093") false
    over (fun _ h => by cases h) (by kernel_rfl) (fun _ h => by cases h) syntaxApart_row_tie rfl ⟨rfl, rfl⟩ (by kernel_rfl) rfl
    (fun f fn hf hfn => by
      obtain rfl : f = 3 := Option.some.inj ((show Tryd.prog.funcNamed "cobweb/cobweblaw19.SyntaxApart" = some 3 by kernel_rfl).symm.trans hf) |>.symm
      obtain rfl : fn = Tryd.f3 := (Option.some.inj (Tryd.func3.symm.trans hfn)).symm
      exact ⟨by kernel_rfl, fun j t ht => by
        rw [Tryd.params3] at ht
        have hm : t ∈ [28, 28] := by simpa using Array.mem_of_getElem? ht
        have hall : ([28, 28].all fun u => !Tryd.prog.wantsStandIn u) = true := by kernel_rfl
        exact (show Tryd.prog.wantsStandIn t = false by simpa using List.all_eq_true.1 hall t hm)⟩)
    (by kernel_rfl)
end Go.Proofs.YtlpfdgkfdgehnaaDoor.syntaxApart
namespace Go.Proofs.YtlpfdgkfdgehnaaDoor
theorem syntaxApart_card : Rows.SyntaxApartCardSaid := syntaxApart.card
end Go.Proofs.YtlpfdgkfdgehnaaDoor
#print axioms Go.Proofs.YtlpfdgkfdgehnaaDoor.syntaxApart_card
