/- The claim's last text: for every input the law returns true; conditions: none but the row's own. Laid by a program of this session (wip/tool/shake.py): what is needed of own and printed texts, in order. -/
import Derived.Test.YtinpnidokpjfhaaGreatDoorZa0
import Derived.Test.YtinpnidokpjfhaaGreatDoorZa1
import Derived.Test.YtinpnidokpjfhaaGreatDoorZa2
import Derived.Test.YtinpnidokpjfhaaGreatDoorZa3
import Derived.Test.YtinpnidokpjfhaaGreatDoorZa4
import Derived.Test.YtinpnidokpjfhaaGreatDoorZa5
import Derived.Test.YtinpnidokpjfhaaGreatDoorZa6
import Derived.Test.YtinpnidokpjfhaaGreatDoorZa7
import Derived.Test.YtinpnidokpjfhaaGreatDoorZa8
import Derived.Test.YtinpnidokpjfhaaGreatDoorZa9
import Derived.Test.YtinpnidokpjfhaaGreatDoorZa10
import Derived.Test.YtinpnidokpjfhaaGreatDoorZa11
import Derived.Test.YtinpnidokpjfhaaGreatDoorZa12
import Derived.Test.YtinpnidokpjfhaaGreatDoorZa13
import Derived.Test.YtinpnidokpjfhaaGreatDoorRows
import Derived.Test.YtinpnidokpjfhaaGreatDoorCards
import Derived.Test.YtinpnidokpjfhaaGreatDoorTie
import Derived.ProofKit
import Derived.LaidMore
import Derived.OpenShut
import Derived.ShutString
import Derived.Stop.Joined
import Derived.SevenTiedAt
import Derived.ChangeOld
import Derived.Below
import Derived.SizedLaws
import Derived.Carry
import Derived.Laws.Cover2
import Derived.WideShapes
import Derived.KernelRfl
import Derived.MakeChecks
import Derived.Lib.LaidTab
import Derived.Calls
import Derived.Lib.ItoaNum
import Derived.Orders
import Derived.Tactics
import Derived.Laws.Rows
import Derived.Laws.World
import Derived.Laws.CopyRow
import Derived.Lib.FrozenHead
import Derived.Deep.AppendSrc
import Derived.Deep.Upon
import Derived.Laws.BytesArg
import Derived.IntWalk
import Derived.Laws.Externs
import Derived.LoopN
import Derived.Scope
import Derived.Test.YtinpnidokpjfhaaGreatDoorProg
import Derived.MapKept
import Derived.Laws.FloatBits
import Derived.ChangeArms
import Derived.Deep.Slices
import Derived.Lib.ItoaMem
import Derived.Lib.ItoaLen
import Derived.Lib.Join
import Derived.RegionTactic
import Derived.Lib.AppendIntMem
import Derived.Shelf.Strings.Builder1
import Derived.Shelf.Strings.Builder2
import Derived.Shelf.Strings.OnBuilder
import Derived.Shelf.Small.Wraps
import Derived.Shelf.Strings.BuilderF
import Derived.Shelf.Strings.BuilderK
import Derived.Shelf.Strings.Builder2Cap
import Derived.Shelf.Strconv.Itoa0
import Derived.Shelf.Strconv.Itoa1
import Derived.Shelf.LaysM
import Derived.Shelf.Strconv.Itoa2
import Derived.Shelf.Strconv.Itoa3
import Derived.Shelf.Strings.BuilderCap
import Derived.Shelf.Slices.Turned
namespace Go.Proofs.YtinpnidokpjfhaaGreatDoor.syntaxTells
open Go.ChangeShapes Go.WideShapes Go.ChangeAt Go.WideMaps Go.WideElems Go.RowKit Go.Proofs.YtinpnidokpjfhaaGreatDoor.AM
set_option linter.unusedVariables false
theorem own : ownKnob Tryz.prog.godebug = none := by kernel_rfl
theorem laidOut : laidOutB Tryz.prog = true := by kernel_rfl
theorem door_met (os : Os) (args : Array Value) : laidMetH Tryz.prog Rows.syntaxTellsRow.laid ((World.doorLaid Tryz.prog 400 os).forCall (fun _ _ => 0) ⟨#[], args, []⟩).memory :=
  laidMetH_of_parts3 (fuel := 8) (laidMet_of_run' 8 (by kernel_rfl) (by kernel_rfl)) (by kernel_rfl) (by kernel_rfl)
theorem glob (W : World) (h : laidMetH Tryz.prog Rows.syntaxTellsRow.laid W) : ∀ g o, G0 g = some o → HasG W g o ∧ ¬ (fun _ : Nat => False) g := by
  rw [MakeChecks.laidMetH_plain _ _ _ (by kernel_rfl)] at h
  obtain ⟨ps, hv, _⟩ := h
  have key : ∀ {l : List (String × DataW Unit)} {ps : List MemPlace}, DataW.LaidVars Tryz.prog W l ps → ∀ n d, (n, d) ∈ l → ∃ g t cs fuel p, Tryz.prog.globalNamed n = some g ∧ (Tryz.prog.globals[g]?).map (·.type) = some t ∧ W.var? Tryz.prog n = some cs ∧ DataW.trod (fun _ => ()) Tryz.prog W 0 (fun _ => true) false fuel t cs.toList = some (d, p) := by
    intro l
    induction l with
    | nil => intro ps _ n d hm; cases hm
    | cons a l ih =>
      intro ps h n d hm
      obtain ⟨g, t, cs, fuel, p, q, h1, h2, h3, h4, h5, _⟩ := h
      rcases List.mem_cons.1 hm with e | e
      · cases e
        exact ⟨g, t, cs, fuel, p, h1, h2, h3, h4⟩
      · exact ih h5 n d e
  have place : ∀ n g cs, Tryz.prog.globalNamed n = some g → W.var? Tryz.prog n = some cs → ∃ el fz, W.heap[g]? = some (.cells cs el fz) := by
    intro n g cs h1 h2
    unfold World.var? at h2
    rw [h1, Option.bind_some] at h2
    split at h2
    · rename_i cs' el fz hh
      obtain rfl := Option.some.inj h2
      exact ⟨el, fz, hh⟩
    · cases h2
  have h0 : HasG W 1 (fun o => o = (Lib.pow10Tab.map fun z => Value.int .u64 z).toArray) := by
    obtain ⟨g, t, cs, fuel, p, k1, k2, k3, k4⟩ := key hv "internal/strconv.uint64pow10" (Lib.tabData .u64 Lib.pow10Tab) (.tail _ (.tail _ (.head _)))
    obtain rfl := Option.some.inj ((show Tryz.prog.globalNamed "internal/strconv.uint64pow10" = some 1 by kernel_rfl).symm.trans k1)
    obtain rfl := Option.some.inj ((show (Tryz.prog.globals[1]?).map (·.type) = some 137 by kernel_rfl).symm.trans k2)
    obtain ⟨el, fz, hh⟩ := place _ _ _ k1 k3
    have hcs := Lib.cells_of_tab (n := 20) Tryz.underlying137 Tryz.underlying118 (by kernel_rfl) (by kernel_rfl) k4
    exact ⟨cs, el, fz, hh, by rw [← hcs]⟩
  intro g o hg
  unfold G0 at hg
  by_cases e0 : g = 1
  · rw [if_pos e0] at hg
    obtain rfl := Option.some.inj hg
    subst e0
    exact ⟨h0, fun h => h⟩
  rw [if_neg e0] at hg
  cases hg
set_option maxRecDepth 100000 in
set_option maxHeartbeats 1000000 in
theorem lifted (os : Os) (started : os.Started) (H : Type) (enc : TypeId × Value → H) :
    ReturnsInHanded {} Tryz.checked os 3 .any (fun w args => (Rows.syntaxTellsSpec.pre enc Tryz.prog Tryz.f3 [] false w args ∧ laidMetH Tryz.prog Rows.syntaxTellsRow.laid w) ∧ sizedMet enc Tryz.prog Tryz.f3 (OpenSpec.ofChange Rows.syntaxTellsSpec) false w args)
      (Rows.syntaxTellsSpec.post enc Tryz.prog Tryz.f3 false true false false) := by
  refine returnsInHanded_of_change_and (C := Tryz.checked) (X := fun w _ => laidMetH Tryz.prog Rows.syntaxTellsRow.laid w) (fun _ _ _ hh h => h.of_heap hh) own started (by kernel_rfl) Tryz.func3
    (ChangeSpec.witness_shaped (enc := enc) (C := Tryz.checked) (os := os) (X := fun w _ => laidMetH Tryz.prog Rows.syntaxTellsRow.laid w) false (World.doorLaid Tryz.prog 400 os) #[.agg #[.slice none 0 0, .slice none 0 0, .slice none 0 0, .slice none 0 0, .bool false, .slice none 0 0, .int .i64 0, .int .i64 0]] 8 rfl (World.shaped_of_RefB (by kernel_rfl) (by kernel_rfl)) (by kernel_rfl) (by kernel_rfl) (by kernel_rfl) (door_met os _)) ?_
  intro W base args ds gs before hval0 hW _ hsz0 hL _
  have hsz : (DataW.weightsEach Tryz.prog (Tryz.f3.params.toList ++ Rows.syntaxTellsSpec.plain.varTypes Tryz.prog) (ds ++ gs)).all (· ≤ reachBytes) = true := hsz0
  have hval : ∀ (j : Nat) t v, Tryz.f3.params[j]? = some t → args[j]? = some v → Value.okWide Tryz.prog W .any base t v := hval0
  have hW' := hW
  obtain ⟨p, q, hA0, hV, rfl, hfz, hnd⟩ := hW
  have hA : DataW.TrodAll enc Tryz.prog W 0 (fun _ => true) true Tryz.f3.params.toList args.toList ds p := hA0
  rw [Tryz.params3] at hA hval hsz
  obtain ⟨v0, vs0, d0, ds0, p0, q0, hargs, rfl, rfl, h0, r0⟩ := trodAll_cons hA
  obtain ⟨rfl, rfl, rfl⟩ := trodAll_nil r0
  obtain rfl : args = #[v0] := by cases args; simp_all
  obtain ⟨rfl, rfl⟩ := trodVars_none hV
  have t0 := h0
  have lt0 : ∀ x ∈ p0, x.block < W.heap.size := by obtain ⟨m, hm⟩ := t0; exact DataW.trod_lt m _ _ _ hm
  have hw0 : ∀ n ∈ d0.weights Tryz.prog 28, n ≤ reachBytes := fun n hn => by simpa using List.all_eq_true.1 hsz n (DataW.weights_mem_each (j := 0) rfl rfl n hn)
  obtain ⟨fu0, hf0⟩ := h0
  obtain ⟨y0, hK0, hB0⟩ := op28.get hf0 hw0
  obtain ⟨cs0, rfl, _⟩ := okWide_struct Tryz.underlying28 (hval 0 28 v0 rfl rfl)
  have R0 := VR.of_row hK0
  clear hA0 hval0
  refine (lawSTells y0 hB0 W (fun _ => False) #[_] (fun _ h => h.elim) (glob W hL) rfl (VRs.cons R0 VRs.nil)).mono fun e W' hh => ?_
  obtain ⟨u, he, bel, hv⟩ := hh
  subst he
  obtain rfl := hv.lit_inv
  exact ⟨_, rfl, _, _, _, [], _, [], hW', trodAll_mk1 (shut_bool Tryz.underlying4 _), (trodAll_cons_mk (Below.trod laidOut (by kernel_rfl) (of_decide_eq_true (by kernel_rfl)) t0 bel lt0) trodAll_mk0), rfl, bel.frame _, fun h => by cases h⟩
theorem over : Rows.SyntaxTellsSaid :=
  OpenClaim.holds_of_wide 3 Tryz.f3 rfl rfl rfl rfl rfl rfl rfl ⟨rfl, rfl, rfl, rfl, rfl⟩ rfl rfl rfl rfl rfl (by kernel_rfl) Tryz.func3 (by kernel_rfl)
    (of_decide_eq_true (by kernel_rfl)) (by unfold Func.isWrapper; first | (rw [if_pos (by decide +kernel)]; kernel_rfl) | (rw [if_neg (by decide +kernel)]; exact ⟨rfl, rfl⟩))
    (fun os started H enc _ => lifted os started H enc)
set_option maxRecDepth 100000 in
theorem card : Rows.SyntaxTellsCardSaid :=
  Claim7.holds_tied_plain_at .later [] [.data, .data, .data] true (true, "13252a63ca8a50fdef3712141dfffa505fd297845ab870a77d00c78433cfb7b8") false
    over (fun _ h => by cases h) (by kernel_rfl) (fun _ h => by cases h) syntaxTells_row_tie rfl ⟨rfl, rfl⟩ (by kernel_rfl) rfl
    (fun f fn hf hfn => by
      obtain rfl : f = 3 := Option.some.inj ((show Tryz.prog.funcNamed "cobweb/cobweblaw19.SyntaxTells" = some 3 by kernel_rfl).symm.trans hf) |>.symm
      obtain rfl : fn = Tryz.f3 := (Option.some.inj (Tryz.func3.symm.trans hfn)).symm
      exact ⟨by kernel_rfl, fun j t ht => by
        rw [Tryz.params3] at ht
        have hm : t ∈ [28] := by simpa using Array.mem_of_getElem? ht
        have hall : ([28].all fun u => !Tryz.prog.wantsStandIn u) = true := by kernel_rfl
        exact (show Tryz.prog.wantsStandIn t = false by simpa using List.all_eq_true.1 hall t hm)⟩)
    (by kernel_rfl)
end Go.Proofs.YtinpnidokpjfhaaGreatDoor.syntaxTells
namespace Go.Proofs.YtinpnidokpjfhaaGreatDoor
theorem syntaxTells_card : Rows.SyntaxTellsCardSaid := syntaxTells.card
end Go.Proofs.YtinpnidokpjfhaaGreatDoor
#print axioms Go.Proofs.YtinpnidokpjfhaaGreatDoor.syntaxTells_card
