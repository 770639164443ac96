/- The claim's last text: for every input the law returns true; conditions: none but the row's own. Laid by a program of this session (wip/tool/shake.py): what is needed of own and printed texts, in order. -/
import Derived.Test.YtjihcldhjpdnmaaDoorZg0
import Derived.Test.YtjihcldhjpdnmaaDoorZg1
import Derived.Test.YtjihcldhjpdnmaaDoorZg2
import Derived.Test.YtjihcldhjpdnmaaDoorZg3
import Derived.Test.YtjihcldhjpdnmaaDoorZg4
import Derived.Test.YtjihcldhjpdnmaaDoorZg5
import Derived.Test.YtjihcldhjpdnmaaDoorZg6
import Derived.Test.YtjihcldhjpdnmaaDoorZg7
import Derived.Test.YtjihcldhjpdnmaaDoorZg8
import Derived.Test.YtjihcldhjpdnmaaDoorZg9
import Derived.Test.YtjihcldhjpdnmaaDoorZg10
import Derived.Test.YtjihcldhjpdnmaaDoorZg11
import Derived.Test.YtjihcldhjpdnmaaDoorZg12
import Derived.Test.YtjihcldhjpdnmaaDoorRows
import Derived.Test.YtjihcldhjpdnmaaDoorCards
import Derived.Test.YtjihcldhjpdnmaaDoorTie
import Derived.ProofKit
import Derived.LaidMore
import Derived.OpenShut
import Derived.ShutString
import Derived.Stop.Joined
import Derived.SevenTiedAt
import Derived.ChangeOld
import Derived.Below
import Derived.SizedLaws
import Derived.Carry
import Derived.Laws.Cover2
import Derived.WideShapes
import Derived.KernelRfl
import Derived.MakeChecks
import Derived.Lib.LaidTab
import Derived.Calls
import Derived.Lib.ItoaNum
import Derived.Orders
import Derived.Tactics
import Derived.Laws.Rows
import Derived.Laws.World
import Derived.Laws.CopyRow
import Derived.Lib.FrozenHead
import Derived.Deep.AppendSrc
import Derived.Deep.Upon
import Derived.Laws.BytesArg
import Derived.IntWalk
import Derived.Laws.Externs
import Derived.LoopN
import Derived.Scope
import Derived.Test.YtjihcldhjpdnmaaDoorProg
import Derived.MapKept
import Derived.Recover
import Derived.Laws.FloatBits
import Derived.WideLaws
import Derived.ChangeArms
import Derived.Deep.Slices
import Derived.Lib.ItoaMem
import Derived.Lib.ItoaLen
import Derived.Lib.Join
import Derived.RegionTactic
import Derived.Lib.AppendIntMem
import Derived.Shelf.Strings.Builder1
import Derived.Shelf.Strings.Builder2
import Derived.Shelf.Strings.OnBuilder
import Derived.Shelf.Small.Strs
import Derived.Shelf.Small.Wraps
import Derived.Shelf.Strings.BuilderF
import Derived.Shelf.Strings.BuilderK
import Derived.Shelf.Strings.Builder2Cap
import Derived.Shelf.Strconv.Atoi
import Derived.Shelf.Strconv.Itoa0
import Derived.Shelf.Strconv.Itoa1
import Derived.Shelf.LaysM
import Derived.Shelf.Strconv.Itoa2
import Derived.Shelf.Strconv.Itoa3
import Derived.Shelf.Strconv.AtoiErrFast
import Derived.Shelf.Strconv.ParseIntEmpty
import Derived.Shelf.Strconv.AtoiFail
import Derived.Shelf.Strconv.Clone
import Derived.Shelf.Strconv.SyntaxError
import Derived.Shelf.LaysC
import Derived.Shelf.Strconv.ToError
import Derived.Shelf.Strconv.Lower
import Derived.Shelf.Strconv.ParseUint10
import Derived.Shelf.Strconv.ParseUint10Empty
import Derived.Shelf.Strconv.ParseUint10Any
import Derived.Shelf.Strconv.ParseInt10
import Derived.Shelf.Strconv.AtoiLong
import Derived.Shelf.Strconv.AtoiInnerAll
import Derived.Shelf.Strconv.RangeError
import Derived.Shelf.Strconv.ToErrorRange
import Derived.Shelf.Strconv.AtoiAll
import Derived.Shelf.Strings.Search1
import Derived.Shelf.Strings.Prefix
import Derived.Shelf.Strings.BuilderCap
import Derived.Shelf.Slices.Turned
import Derived.Ground.Names2Prog
import Derived.Shelf.Slices.SearchI
namespace Go.Proofs.YtjihcldhjpdnmaaDoor.tokenAgain
open Go.ChangeShapes Go.WideShapes Go.ChangeAt Go.WideMaps Go.WideElems Go.RowKit Go.Proofs.YtjihcldhjpdnmaaDoor.AM
set_option linter.unusedVariables false
theorem own : ownKnob Tryd.prog.godebug = none := by kernel_rfl
theorem laidOut : laidOutB Tryd.prog = true := by kernel_rfl
theorem door_met (os : Os) (args : Array Value) : laidMetH Tryd.prog Rows.tokenAgainRow.laid ((World.doorLaid Tryd.prog 400 os).forCall (fun _ _ => 0) ⟨#[], args, []⟩).memory :=
  laidMetH_of_parts3 (fuel := 8) (laidMet_of_run' 8 (by kernel_rfl) (by kernel_rfl)) (by kernel_rfl) (by kernel_rfl)
theorem glob (W : World) (h : laidMetH Tryd.prog Rows.tokenAgainRow.laid W) : ∀ g o, G0 g = some o → HasG W g o ∧ ¬ (fun _ : Nat => False) g := by
  rw [MakeChecks.laidMetH_plain _ _ _ (by kernel_rfl)] at h
  obtain ⟨ps, hv, _⟩ := h
  have key : ∀ {l : List (String × DataW Unit)} {ps : List MemPlace}, DataW.LaidVars Tryd.prog W l ps → ∀ n d, (n, d) ∈ l → ∃ g t cs fuel p, Tryd.prog.globalNamed n = some g ∧ (Tryd.prog.globals[g]?).map (·.type) = some t ∧ W.var? Tryd.prog n = some cs ∧ DataW.trod (fun _ => ()) Tryd.prog W 0 (fun _ => true) false fuel t cs.toList = some (d, p) := by
    intro l
    induction l with
    | nil => intro ps _ n d hm; cases hm
    | cons a l ih =>
      intro ps h n d hm
      obtain ⟨g, t, cs, fuel, p, q, h1, h2, h3, h4, h5, _⟩ := h
      rcases List.mem_cons.1 hm with e | e
      · cases e
        exact ⟨g, t, cs, fuel, p, h1, h2, h3, h4⟩
      · exact ih h5 n d e
  have place : ∀ n g cs, Tryd.prog.globalNamed n = some g → W.var? Tryd.prog n = some cs → ∃ el fz, W.heap[g]? = some (.cells cs el fz) := by
    intro n g cs h1 h2
    unfold World.var? at h2
    rw [h1, Option.bind_some] at h2
    split at h2
    · rename_i cs' el fz hh
      obtain rfl := Option.some.inj h2
      exact ⟨el, fz, hh⟩
    · cases h2
  have h0 : HasG W 2 (fun o => o = (Lib.pow10Tab.map fun z => Value.int .u64 z).toArray) := by
    obtain ⟨g, t, cs, fuel, p, k1, k2, k3, k4⟩ := key hv "internal/strconv.uint64pow10" (Lib.tabData .u64 Lib.pow10Tab) (.tail _ (.tail _ (.head _)))
    obtain rfl := Option.some.inj ((show Tryd.prog.globalNamed "internal/strconv.uint64pow10" = some 2 by kernel_rfl).symm.trans k1)
    obtain rfl := Option.some.inj ((show (Tryd.prog.globals[2]?).map (·.type) = some 194 by kernel_rfl).symm.trans k2)
    obtain ⟨el, fz, hh⟩ := place _ _ _ k1 k3
    have hcs := Lib.cells_of_tab (n := 20) Tryd.underlying194 Tryd.underlying74 (by kernel_rfl) (by kernel_rfl) k4
    exact ⟨cs, el, fz, hh, by rw [← hcs]⟩
  have h1 : HasG W 3 (isErr) := by
    obtain ⟨g, t, cs, fuel, p, k1, k2, k3, k4⟩ := key hv "strconv.ErrSyntax" Rows.laid_strconv_ErrSyntax (.tail _ (.tail _ (.tail _ (.tail _ (.head _)))))
    obtain rfl := Option.some.inj ((show Tryd.prog.globalNamed "strconv.ErrSyntax" = some 3 by kernel_rfl).symm.trans k1)
    obtain rfl := Option.some.inj ((show (Tryd.prog.globals[3]?).map (·.type) = some 141 by kernel_rfl).symm.trans k2)
    obtain ⟨el, fz, hh⟩ := place _ _ _ k1 k3
    obtain ⟨f', u, w, hcs, _⟩ := iface_of_trod Tryd.underlying141 k4
    exact ⟨cs, el, fz, hh, u, w, by rw [← Array.toArray_toList (xs := cs), hcs]⟩
  have h2 : HasG W 4 (isErr) := by
    obtain ⟨g, t, cs, fuel, p, k1, k2, k3, k4⟩ := key hv "strconv.ErrRange" Rows.laid_strconv_ErrRange (.tail _ (.tail _ (.tail _ (.head _))))
    obtain rfl := Option.some.inj ((show Tryd.prog.globalNamed "strconv.ErrRange" = some 4 by kernel_rfl).symm.trans k1)
    obtain rfl := Option.some.inj ((show (Tryd.prog.globals[4]?).map (·.type) = some 141 by kernel_rfl).symm.trans k2)
    obtain ⟨el, fz, hh⟩ := place _ _ _ k1 k3
    obtain ⟨f', u, w, hcs, _⟩ := iface_of_trod Tryd.underlying141 k4
    exact ⟨cs, el, fz, hh, u, w, by rw [← Array.toArray_toList (xs := cs), hcs]⟩
  intro g o hg
  unfold G0 at hg
  by_cases e0 : g = 2
  · rw [if_pos e0] at hg
    obtain rfl := Option.some.inj hg
    subst e0
    exact ⟨h0, fun h => h⟩
  rw [if_neg e0] at hg
  by_cases e1 : g = 3
  · rw [if_pos e1] at hg
    obtain rfl := Option.some.inj hg
    subst e1
    exact ⟨h1, fun h => h⟩
  rw [if_neg e1] at hg
  by_cases e2 : g = 4
  · rw [if_pos e2] at hg
    obtain rfl := Option.some.inj hg
    subst e2
    exact ⟨h2, fun h => h⟩
  rw [if_neg e2] at hg
  cases hg
set_option maxRecDepth 100000 in
set_option maxHeartbeats 1000000 in
theorem lifted (os : Os) (started : os.Started) (H : Type) (enc : TypeId × Value → H) :
    ReturnsInHanded {} Tryd.checked os 8 .any (fun w args => (Rows.tokenAgainSpec.pre enc Tryd.prog Tryd.f8 [] false w args ∧ laidMetH Tryd.prog Rows.tokenAgainRow.laid w) ∧ sizedMet enc Tryd.prog Tryd.f8 (OpenSpec.ofChange Rows.tokenAgainSpec) false w args)
      (Rows.tokenAgainSpec.post enc Tryd.prog Tryd.f8 false true false false) := by
  refine returnsInHanded_of_change_and (C := Tryd.checked) (X := fun w _ => laidMetH Tryd.prog Rows.tokenAgainRow.laid w) (fun _ _ _ hh h => h.of_heap hh) own started (by kernel_rfl) Tryd.func8
    (ChangeSpec.witness_shaped (enc := enc) (C := Tryd.checked) (os := os) (X := fun w _ => laidMetH Tryd.prog Rows.tokenAgainRow.laid w) false (World.doorLaid Tryd.prog 400 os) #[.string ByteArray.empty] 8 rfl (World.shaped_of_RefB (by kernel_rfl) (by kernel_rfl)) (by kernel_rfl) (by kernel_rfl) (by kernel_rfl) (door_met os _)) ?_
  intro W base args ds gs before hval0 hW _ hsz0 hL _
  have hsz : (DataW.weightsEach Tryd.prog (Tryd.f8.params.toList ++ Rows.tokenAgainSpec.plain.varTypes Tryd.prog) (ds ++ gs)).all (· ≤ reachBytes) = true := hsz0
  have hval : ∀ (j : Nat) t v, Tryd.f8.params[j]? = some t → args[j]? = some v → Value.okWide Tryd.prog W .any base t v := hval0
  have hW' := hW
  obtain ⟨p, q, hA0, hV, rfl, hfz, hnd⟩ := hW
  have hA : DataW.TrodAll enc Tryd.prog W 0 (fun _ => true) true Tryd.f8.params.toList args.toList ds p := hA0
  rw [Tryd.params8] at hA hval hsz
  obtain ⟨v0, vs0, d0, ds0, p0, q0, hargs, rfl, rfl, h0, r0⟩ := trodAll_cons hA
  obtain ⟨rfl, rfl, rfl⟩ := trodAll_nil r0
  obtain rfl : args = #[v0] := by cases args; simp_all
  obtain ⟨rfl, rfl⟩ := trodVars_none hV
  have t0 := h0
  have lt0 : ∀ x ∈ p0, x.block < W.heap.size := by obtain ⟨m, hm⟩ := t0; exact DataW.trod_lt m _ _ _ hm
  have hw0 : ∀ n ∈ d0.weights Tryd.prog 9, n ≤ reachBytes := fun n hn => by simpa using List.all_eq_true.1 hsz n (DataW.weights_mem_each (j := 0) rfl rfl n hn)
  obtain ⟨fu0, hf0⟩ := h0
  obtain ⟨y0, hK0, hB0⟩ := op9.get hf0 hw0
  obtain ⟨s0, rfl⟩ := okWide_string Tryd.underlying9 (hval 0 9 v0 rfl rfl)
  have R0 := VR.of_row1 hK0
  clear hA0 hval0
  refine (lawAgain y0 hB0 W (fun _ => False) #[_] (fun _ h => h.elim) (glob W hL) rfl (VRs.cons R0 VRs.nil)).mono fun e W' hh => ?_
  obtain ⟨u, he, bel, hv⟩ := hh
  subst he
  obtain rfl := hv.lit_inv
  exact ⟨_, rfl, _, _, _, [], _, [], hW', trodAll_mk1 (shut_bool Tryd.underlying4 _), (trodAll_cons_mk (Below.trod laidOut (by kernel_rfl) (of_decide_eq_true (by kernel_rfl)) t0 bel lt0) trodAll_mk0), rfl, bel.frame _, fun h => by cases h⟩
theorem over : Rows.TokenAgainSaid :=
  OpenClaim.holds_of_wide 8 Tryd.f8 rfl rfl rfl rfl rfl rfl rfl ⟨rfl, rfl, rfl, rfl, rfl⟩ rfl rfl rfl rfl rfl (by kernel_rfl) Tryd.func8 (by kernel_rfl)
    (of_decide_eq_true (by kernel_rfl)) (by unfold Func.isWrapper; first | (rw [if_pos (by decide +kernel)]; kernel_rfl) | (rw [if_neg (by decide +kernel)]; exact ⟨rfl, rfl⟩))
    (fun os started H enc _ => lifted os started H enc)
set_option maxRecDepth 100000 in
theorem card : Rows.TokenAgainCardSaid :=
  Claim7.holds_tied_plain_at .later [] [.data, .data, .data, .sentinel, .sentinel] true (true, "670ac48ac8a6ee51ecfa36635d3f04e5b66455ec9ae0baba434061aeaae44e25") true
    over (fun _ h => by cases h) (by kernel_rfl) (fun _ h => by cases h) tokenAgain_row_tie rfl ⟨rfl, rfl⟩ (by kernel_rfl) rfl
    (fun f fn hf hfn => by
      obtain rfl : f = 8 := Option.some.inj ((show Tryd.prog.funcNamed "cobweb/cobweblaw18.TokenAgain" = some 8 by kernel_rfl).symm.trans hf) |>.symm
      obtain rfl : fn = Tryd.f8 := (Option.some.inj (Tryd.func8.symm.trans hfn)).symm
      exact ⟨by kernel_rfl, fun j t ht => by
        rw [Tryd.params8] at ht
        have hm : t ∈ [9] := by simpa using Array.mem_of_getElem? ht
        have hall : ([9].all fun u => !Tryd.prog.wantsStandIn u) = true := by kernel_rfl
        exact (show Tryd.prog.wantsStandIn t = false by simpa using List.all_eq_true.1 hall t hm)⟩)
    (by kernel_rfl)
end Go.Proofs.YtjihcldhjpdnmaaDoor.tokenAgain
namespace Go.Proofs.YtjihcldhjpdnmaaDoor
theorem tokenAgain_card : Rows.TokenAgainCardSaid := tokenAgain.card
end Go.Proofs.YtjihcldhjpdnmaaDoor
#print axioms Go.Proofs.YtjihcldhjpdnmaaDoor.tokenAgain_card
