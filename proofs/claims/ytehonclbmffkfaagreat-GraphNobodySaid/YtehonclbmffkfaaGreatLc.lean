/- GraphNobody: for every input the call returns true, and each argument reads as it read before. Conditions: none but the row's own. -/
import Derived.Test.YtehonclbmffkfaaGreatRows
import Derived.Test.YtehonclbmffkfaaGreatMc
import Derived.WalkKit
import Derived.ProofKit
import Derived.OpenShut
import Derived.ShutString
import Derived.ChangeOld
import Derived.Below
import Derived.SizedLaws
import Derived.Carry
import Derived.Laws.Cover2
import Derived.WideShapes
import Derived.KernelRfl
import Derived.Laws.Cover2
namespace Go.Proofs.YtehonclbmffkfaaGreat.graphNobody
open Go.ChangeShapes Go.WideShapes Go.ChangeAt Go.RowKit
open Go.ChangeMaps (open_string shut_string)
set_option linter.unusedVariables false
/-- A struct that came in, cell by cell. -/
theorem agg_open {P : Program} {w : World} {r : Reach} {base : Nat} {t : TypeId} {v : Value} {fs : Array Field} {ts : List TypeId} (hu : P.underlying t = some (.struct fs)) (hts : P.cellTypes P.depth t = some ts) (hn : P.cellsOf t = ts.length) (h : Value.okWide P w r base t v) :
    ∃ cs : Array Value, v = .agg cs ∧ cs.size = ts.length ∧ ∀ (i : Nat) (u : TypeId) (x : Value), ts[i]? = some u → cs[i]? = some x → Cell.okWide P w r base u x := by
  simp only [Value.okWide, hu] at h
  obtain ⟨cs, rfl, hs, ts', h1, _, h2⟩ := h
  rw [hts] at h1
  obtain rfl := Option.some.inj h1
  refine ⟨cs, rfl, by rw [hs, hn], fun i u x hi hx => ?_⟩
  obtain ⟨u', e, hc⟩ := h2 i x hx
  have hl : i < ts.length := (List.getElem?_eq_some_iff.1 hi).1
  rw [Nat.mod_eq_of_lt hl, hi] at e
  obtain rfl := Option.some.inj e
  exact hc
theorem c_int {P : Program} {w : World} {r : Reach} {base : Nat} {t : TypeId} {v : Value} {k : IntKind} (hu : P.underlying t = some (.int k)) (h : Cell.okWide P w r base t v) : ∃ n, v = .int k n := okWide_int hu (by simp only [Value.okWide, hu]; exact h)
theorem c_string {P : Program} {w : World} {r : Reach} {base : Nat} {t : TypeId} {v : Value} (hu : P.underlying t = some .string) (h : Cell.okWide P w r base t v) : ∃ s, v = .string s := okWide_string hu (by simp only [Value.okWide, hu]; exact h)
theorem c_bool {P : Program} {w : World} {r : Reach} {base : Nat} {t : TypeId} {v : Value} (hu : P.underlying t = some .bool) (h : Cell.okWide P w r base t v) : ∃ b, v = .bool b := okWide_bool hu (by simp only [Value.okWide, hu]; exact h)
theorem c_float {P : Program} {w : World} {r : Reach} {base : Nat} {t : TypeId} {v : Value} {k : FloatKind} (hu : P.underlying t = some (.float k)) (h : Cell.okWide P w r base t v) : ∃ b, v = .float k b := okWide_float hu (by simp only [Value.okWide, hu]; exact h)
theorem c_slice {P : Program} {w : World} {r : Reach} {base : Nat} {t e : TypeId} {v : Value} (hu : P.underlying t = some (.slice e)) (h : Cell.okWide P w r base t v) : ∃ a n c, v = .slice a n c := okWide_slice hu (by simp only [Value.okWide, hu]; exact h)
set_option maxRecDepth 100000 in
theorem opened {w : World} {base : Nat} {v : Value} (h : Value.okWide Tryz.prog w .any base 83 v) : ∃ n_0 n_1 n_2 s_3 a_4 l_4 c_4 a_5 l_5 c_5 n_6 n_7 f_8 s_9 a_10 l_10 c_10 b_11, v = .agg #[.int .i64 n_0, .int .i64 n_1, .int .i64 n_2, .string s_3, .slice a_4 l_4 c_4, .slice a_5 l_5 c_5, .int .i64 n_6, .int .i64 n_7, .float .f64 f_8, .string s_9, .slice a_10 l_10 c_10, .bool b_11] := by
  obtain ⟨cs, rfl, hcs, hcell⟩ := agg_open (ts := [3, 3, 3, 9, 74, 75, 3, 3, 76, 9, 79, 4]) Tryz.underlying83 (by kernel_rfl) (by kernel_rfl) h
  obtain ⟨xs⟩ := cs
  match xs, hcs with
  | [x0, x1, x2, x3, x4, x5, x6, x7, x8, x9, x10, x11], _ =>
    obtain ⟨n_0, rfl⟩ := c_int Tryz.underlying3 (hcell 0 _ _ rfl rfl)
    obtain ⟨n_1, rfl⟩ := c_int Tryz.underlying3 (hcell 1 _ _ rfl rfl)
    obtain ⟨n_2, rfl⟩ := c_int Tryz.underlying3 (hcell 2 _ _ rfl rfl)
    obtain ⟨s_3, rfl⟩ := c_string Tryz.underlying9 (hcell 3 _ _ rfl rfl)
    obtain ⟨a_4, l_4, c_4, rfl⟩ := c_slice Tryz.underlying74 (hcell 4 _ _ rfl rfl)
    obtain ⟨a_5, l_5, c_5, rfl⟩ := c_slice Tryz.underlying75 (hcell 5 _ _ rfl rfl)
    obtain ⟨n_6, rfl⟩ := c_int Tryz.underlying3 (hcell 6 _ _ rfl rfl)
    obtain ⟨n_7, rfl⟩ := c_int Tryz.underlying3 (hcell 7 _ _ rfl rfl)
    obtain ⟨f_8, rfl⟩ := c_float Tryz.underlying76 (hcell 8 _ _ rfl rfl)
    obtain ⟨s_9, rfl⟩ := c_string Tryz.underlying9 (hcell 9 _ _ rfl rfl)
    obtain ⟨a_10, l_10, c_10, rfl⟩ := c_slice Tryz.underlying79 (hcell 10 _ _ rfl rfl)
    obtain ⟨b_11, rfl⟩ := c_bool Tryz.underlying4 (hcell 11 _ _ rfl rfl)
    exact ⟨n_0, n_1, n_2, s_3, a_4, l_4, c_4, a_5, l_5, c_5, n_6, n_7, f_8, s_9, a_10, l_10, c_10, b_11, rfl⟩
theorem own : ownKnob Tryz.prog.godebug = none := by kernel_rfl
theorem laidOut : laidOutB Tryz.prog = true := by kernel_rfl
set_option maxRecDepth 100000 in
set_option maxHeartbeats 1000000 in
theorem lifted (os : Os) (started : os.Started) (H : Type) (enc : TypeId × Value → H) :
    ReturnsInHanded {} Tryz.checked os 5 .any (Rows.graphNobodySpec.pre6 enc Tryz.prog Tryz.f5 Rows.graphNobodyRow.domain false) (Rows.graphNobodySpec.post enc Tryz.prog Tryz.f5 false true false false) := by
  refine returnsInHanded_of_change_sized (C := Tryz.checked) own started (by kernel_rfl) Tryz.func5
    (ChangeSpec.witness6 (enc := enc) (C := Tryz.checked) false ⟨#[], #[.agg #[.int .i64 0, .int .i64 0, .int .i64 0, .string ByteArray.empty, .slice none 0 0, .slice none 0 0, .int .i64 0, .int .i64 0, .float .f64 0, .string ByteArray.empty, .slice none 0 0, .bool false], .int .i64 0], []⟩ 8 (by kernel_rfl) (by kernel_rfl) (by kernel_rfl) (by kernel_rfl)) ?_
  intro W base args ds gs before hval0 hW hcnd hsz0 _
  have hval : ∀ (j : Nat) t v, Tryz.f5.params[j]? = some t → args[j]? = some v → Value.okWide Tryz.prog W .any base t v := hval0
  have hW' := hW
  obtain ⟨p, q, hA0, hV, rfl, hfz, hnd⟩ := hW
  have hA : DataW.TrodAll enc Tryz.prog W 0 (fun _ => true) true Tryz.f5.params.toList args.toList ds p := hA0
  rw [Tryz.params5] at hA hval
  obtain ⟨v0, vs0, d0, ds0, p0, q0, hargs, rfl, rfl, h0, r0⟩ := trodAll_cons hA
  obtain ⟨v1, vs1, d1, ds1, p1, q1, rfl, rfl, rfl, h1, r1⟩ := trodAll_cons r0
  obtain ⟨rfl, rfl, rfl⟩ := trodAll_nil r1
  obtain rfl : args = #[v0, v1] := by cases args; simp_all
  obtain ⟨rfl, rfl⟩ := trodVars_none hV
  have t0 := h0
  have lt0 : ∀ x ∈ p0, x.block < W.heap.size := by obtain ⟨m, hm⟩ := t0; exact DataW.trod_lt m _ _ _ hm
  obtain ⟨n_0, n_1, n_2, s_3, a_4, l_4, c_4, a_5, l_5, c_5, n_6, n_7, f_8, s_9, a_10, l_10, c_10, b_11, rfl⟩ := opened (hval 0 83 v0 rfl rfl)
  have t1 := h1
  have lt1 : ∀ x ∈ p1, x.block < W.heap.size := by obtain ⟨m, hm⟩ := t1; exact DataW.trod_lt m _ _ _ hm
  obtain ⟨n1, rfl⟩ := okWide_int Tryz.underlying3 (hval 1 3 v1 rfl rfl)
  clear hA0 hval0 hsz0
  refine (NB.lawGr n_0 n_1 n_2 s_3 a_4 l_4 c_4 a_5 l_5 c_5 n_6 n_7 f_8 s_9 a_10 l_10 c_10 b_11 n1 W).mono fun e W' hh => ?_
  have he := hh.1
  have bel : Below W.heap.size W W' := hh.2
  subst he
  exact ⟨_, rfl, _, _, _, [], _, [], hW', trodAll_mk1 (shut_bool Tryz.underlying4 _), (trodAll_cons_mk (Below.trod laidOut (by kernel_rfl) (of_decide_eq_true (by kernel_rfl)) t0 bel lt0) (trodAll_cons_mk (Below.trod laidOut (by kernel_rfl) (of_decide_eq_true (by kernel_rfl)) t1 bel lt1) trodAll_mk0)), rfl, bel.frame _, fun h => by cases h⟩
theorem over : Rows.graphNobodyRow.holds Tryz.pinned (OpenSpec.ofChange Rows.graphNobodySpec) :=
  OpenClaim.holds_of_wide 5 Tryz.f5 rfl rfl rfl rfl rfl rfl rfl ⟨rfl, rfl, rfl, rfl, rfl⟩ rfl rfl rfl rfl rfl (by kernel_rfl) Tryz.func5 (by kernel_rfl)
    (of_decide_eq_true (by kernel_rfl)) (by unfold Func.isWrapper; first | (rw [if_pos (by decide +kernel)]; kernel_rfl) | (rw [if_neg (by decide +kernel)]; exact ⟨rfl, rfl⟩))
    (fun os started H enc _ => lifted os started H enc)
theorem proved : Rows.GraphNobodySaid := over
#print axioms proved
end Go.Proofs.YtehonclbmffkfaaGreat.graphNobody
namespace Go.Proofs.YtehonclbmffkfaaGreat
/-- The row, under a short name, for the claim. -/
theorem graphNobody_holds : Rows.GraphNobodySaid := graphNobody.proved
end Go.Proofs.YtehonclbmffkfaaGreat
