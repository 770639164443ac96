/- Part 14 of the proof: words, contracts, plain laws. Laid by a program of this session (wip/tool/shake.py): what is needed of own and printed texts, in order. -/
import Derived.Test.YtnfapjkffofcaaaZc0
import Derived.Test.YtnfapjkffofcaaaZc1
import Derived.Test.YtnfapjkffofcaaaZc2
import Derived.Test.YtnfapjkffofcaaaZc3
import Derived.Test.YtnfapjkffofcaaaZc4
import Derived.Test.YtnfapjkffofcaaaZc5
import Derived.Test.YtnfapjkffofcaaaZc6
import Derived.Test.YtnfapjkffofcaaaZc7
import Derived.Test.YtnfapjkffofcaaaZc8
import Derived.Test.YtnfapjkffofcaaaZc9
import Derived.Test.YtnfapjkffofcaaaZc10
import Derived.Test.YtnfapjkffofcaaaZc11
import Derived.Test.YtnfapjkffofcaaaZc12
import Derived.Test.YtnfapjkffofcaaaZc13
import Derived.Laws.FloatBits
import Derived.Laws.Externs
import Derived.Test.YtnfapjkffofcaaaProg
import Derived.Deep.QuietTactic
import Derived.BigQuiet
import Derived.WalkKit
import Derived.Deep.LoopGhost
import Derived.Deep.RegionHeld3
import Derived.Laws.Bits64
import Derived.Deep.RegionWith
import Derived.SizedLaws
import Derived.ChangeArms
import Derived.WideShapes
import Derived.Deep.Slices
import Derived.Below
import Derived.Deep.Draws
import Derived.Deep.AppendLies
import Derived.Maps.AppendAt
import Derived.OwnWalk
import Derived.Laws.BytesArg
import Derived.Laws.MakeOwn
import Derived.Laws.OwnMore
import Derived.Deep.OwnRows
import Derived.Tactics
import Derived.Lib.ConvBytes
import Derived.Laws.Slices
import Derived.KernelRfl
import Derived.RowKit3
import Derived.WideLaws
import Derived.Deep.DeepCutAuto
import Derived.Deep.CutBlock
import Derived.Laws.Rows
import Derived.Lib.AppendStr
import Derived.ArgAppend
import Derived.Laws.IdiomCopy
import Derived.OrdersHeld
import Derived.Laws.BitsLemmas
import Derived.RowKit
import Derived.Laws.StructEq
namespace Go.Proofs.Ytnfapjkffofcaaa.SMatchAsks
open Go.RowKit Go.Proofs.YtnfapjkffofcaaaW.PrintWords Go.Proofs.Ytnfapjkffofcaaa.FW Go.Proofs.Ytnfapjkffofcaaa.OW Go.Proofs.Ytnfapjkffofcaaa.TY Go.Proofs.Ytnfapjkffofcaaa.PM Go.Proofs.Ytnfapjkffofcaaa.PK Go.Proofs.Ytnfapjkffofcaaa.G
def Pure : Prop := ∀ (y0 : S50) (y1 : S52) (y2 : S54), B50 y0 → B52 y1 → B54 y2 → ∃ k, cobweblaw24_MatchAsks.f k y0.f0 y0.f1 y0.f2 y1.f0 y1.f1 y1.f2 y2.f0 y2.f1 y2.f2 y2.f3 y2.f4 = some true
end Go.Proofs.Ytnfapjkffofcaaa.SMatchAsks
namespace Go.Proofs.Ytnfapjkffofcaaa.BD
open Go.RowKit Go.Proofs.YtnfapjkffofcaaaW.PrintWords Go.Proofs.Ytnfapjkffofcaaa.FW Go.Proofs.Ytnfapjkffofcaaa.FL Go.Proofs.Ytnfapjkffofcaaa.EV Go.Proofs.Ytnfapjkffofcaaa.TY Go.Proofs.Ytnfapjkffofcaaa.PK Go.Proofs.Ytnfapjkffofcaaa.G Go.Proofs.Ytnfapjkffofcaaa.ORD
set_option linter.unusedVariables false
set_option linter.unusedSimpArgs false
theorem int_in {n : Int} (h : B3 n) : In64 n := by
  have h1 : (decide (IntKind.min .i64 ≤ n) && decide (n ≤ IntKind.max .i64)) = true := h
  simp only [Bool.and_eq_true, decide_eq_true_eq] at h1
  exact h1
theorem val {v : Val} (h : B29 v) : FlV v ∧ InV v ∧ v.f1.length ≤ 140737488351232 := by
  obtain ⟨⟨k, n, f, s⟩, l1, _, l2⟩ := h
  exact ⟨⟨f, fun a ha => (l2 a ha).2.2.1⟩, ⟨int_in n, fun a ha => int_in (l2 a ha).2.1⟩, by omega⟩
end Go.Proofs.Ytnfapjkffofcaaa.BD
namespace Go.Proofs.Ytnfapjkffofcaaa.PureMatchAsks
open Go.RowKit Go.Proofs.YtnfapjkffofcaaaW.PrintWords Go.Proofs.Ytnfapjkffofcaaa.FW Go.Proofs.Ytnfapjkffofcaaa.FL Go.Proofs.Ytnfapjkffofcaaa.EV Go.Proofs.Ytnfapjkffofcaaa.TY Go.Proofs.Ytnfapjkffofcaaa.PM Go.Proofs.Ytnfapjkffofcaaa.PK Go.Proofs.Ytnfapjkffofcaaa.G Go.Proofs.Ytnfapjkffofcaaa.ORD Go.Proofs.Ytnfapjkffofcaaa.BD
set_option linter.unusedVariables false
set_option linter.unusedSimpArgs false
abbrev Nod := S50
theorem few_end (n : Nod) (x : Int) : ∃ r, Ev (fun K => cobweblaw24_Few.l3 K x 0 [n] []) r := by
  refine ⟨if x < 300 then 1 else 0, Ev.step (fun _ => rfl) ?_⟩
  simp only [cobweblaw24_Few.l3]
  refine ite_f (by decide) (Ev.step (fun _ => rfl) ?_)
  simp only [cobweblaw24_Few.j6]
  exact ite_f (by decide) (ite_v (fun _ => Ev.now _) (fun _ => Ev.now _))
theorem few_one (n : Nod) (x : Int) : ∃ r, Ev (fun K => cobweblaw24_Few.l0 K x 1 [n] []) r := by
  obtain ⟨r, hr⟩ := few_end n x
  refine ⟨r, Ev.step (fun _ => rfl) ?_⟩
  simp only [cobweblaw24_Few.l0]
  refine ite_f (by simp) (Ev.step (fun _ => rfl) ?_)
  simp only [cobweblaw24_Few.j1]
  exact ite_f (by decide) hr
theorem rd_one (n : Nod) : rd_T50 [n] 0 = n := rfl
theorem w01 : wrap64 (0 + 1) = 1 := wrap64_id (by decide) (by decide)
theorem few_l2 (n : Nod) (hl : n.f1.length ≤ 140737488351232) : ∀ (d i : Nat) (x : Int), i ≤ n.f1.length → n.f1.length - i = d → ∃ r, Ev (fun K => cobweblaw24_Few.l2 K x 0 i [n] []) r := by
  intro d
  induction d with
  | zero =>
    intro i x hi hd
    obtain ⟨r, hr⟩ := few_one n x
    refine ⟨r, Ev.step (fun _ => rfl) ?_⟩
    simp only [cobweblaw24_Few.l2, w01, rd_one]
    exact ite_t (by decide) (ite_t (by simp) (ite_f (by omega) hr))
  | succ d ih =>
    intro i x hi hd
    by_cases hx : x < 300
    · obtain ⟨r, hr⟩ := ih (i + 1) _ (by omega) (by omega)
      refine ⟨r, Ev.step (fun _ => rfl) ?_⟩
      simp only [cobweblaw24_Few.l2, w01, rd_one]
      refine ite_t (by decide) (ite_t (by simp) (ite_t (by omega) (ite_t hx (ite_t (by omega) ?_))))
      rw [wrap64_id (x := (i : Int) + 1) (by omega) (by omega)]
      exact hr
    · obtain ⟨r, hr⟩ := few_one n x
      refine ⟨r, Ev.step (fun _ => rfl) ?_⟩
      simp only [cobweblaw24_Few.l2, w01, rd_one]
      exact ite_t (by decide) (ite_t (by simp) (ite_t (by omega) (ite_f hx hr)))
theorem few_j3 (n : Nod) (hl : n.f1.length ≤ 140737488351232) (x : Int) : ∃ r, Ev (fun K => cobweblaw24_Few.j3 K x 0 [n] []) r := by
  obtain ⟨r, hr⟩ := few_l2 n hl n.f1.length 0 x (by omega) rfl
  refine ⟨r, Ev.step (fun _ => rfl) ?_⟩
  simp only [cobweblaw24_Few.j3]
  exact hr
theorem few_l1 (n : Nod) (hl : n.f1.length ≤ 140737488351232) (hp : n.f2.length ≤ 140737488351232) : ∀ (d i : Nat) (x : Int), i ≤ n.f2.length → n.f2.length - i = d → ∃ r, Ev (fun K => cobweblaw24_Few.l1 K x 0 i [n] []) r := by
  intro d
  induction d with
  | zero =>
    intro i x hi hd
    obtain ⟨r, hr⟩ := few_j3 n hl x
    refine ⟨r, Ev.step (fun _ => rfl) ?_⟩
    simp only [cobweblaw24_Few.l1, rd_one]
    exact ite_t (by decide) (ite_t (by simp) (ite_f (by omega) hr))
  | succ d ih =>
    intro i x hi hd
    by_cases hx : x < 300
    · obtain ⟨r, hr⟩ := ih (i + 1) _ (by omega) (by omega)
      refine ⟨r, Ev.step (fun _ => rfl) ?_⟩
      simp only [cobweblaw24_Few.l1, rd_one]
      refine ite_t (by decide) (ite_t (by simp) (ite_t (by omega) (ite_t hx (ite_t (by omega) ?_))))
      rw [wrap64_id (x := (i : Int) + 1) (by omega) (by omega)]
      exact hr
    · obtain ⟨r, hr⟩ := few_j3 n hl x
      refine ⟨r, Ev.step (fun _ => rfl) ?_⟩
      simp only [cobweblaw24_Few.l1, rd_one]
      exact ite_t (by decide) (ite_t (by simp) (ite_t (by omega) (ite_f hx hr)))
theorem few_some (n : Nod) (hl : n.f1.length ≤ 140737488351232) (hp : n.f2.length ≤ 140737488351232) : ∃ r, Ev (fun K => cobweblaw24_Few.f K [n] []) r := by
  unfold cobweblaw24_Few.f
  generalize wrap64 ((wrap64 (10 * (([n] : List Nod).length : Int))) + (wrap64 (20 * (([] : List S54).length : Int)))) = x
  by_cases hx : x < 300
  · obtain ⟨r, hr⟩ := few_l1 n hl hp n.f2.length 0 (wrap64 ((wrap64 (x + ((n.f1).length : Int))) + ((n.f2).length : Int))) (by omega) rfl
    refine ⟨r, Ev.step (fun _ => rfl) ?_⟩
    simp only [cobweblaw24_Few.l0]
    refine ite_t (by simp) (Ev.step (fun _ => rfl) ?_)
    simp only [cobweblaw24_Few.j1, rd_one]
    rw [decide_eq_true hx]
    exact ite_t rfl (ite_t (by decide) (ite_t (by simp) hr))
  · obtain ⟨r, hr⟩ := few_end n x
    refine ⟨r, Ev.step (fun _ => rfl) ?_⟩
    simp only [cobweblaw24_Few.l0]
    refine ite_t (by simp) (Ev.step (fun _ => rfl) ?_)
    simp only [cobweblaw24_Few.j1]
    rw [decide_eq_false hx]
    exact ite_f (by decide) hr
theorem good {v : Val} (h : B29 v) : GoodV v := ⟨(BD.val h).1, (BD.val h).2.1, int_in h.1.1, fun a ha => int_in (h.2.2.2 a ha).1⟩
theorem rdP (l : List Prp) (i : Nat) (h : i < l.length) : rd_T61 l (i : Int) = l[i] := by simp [rd_T61, List.getElem?_eq_getElem h]
theorem MatchAsks : SMatchAsks.Pure := by
  intro n s e hn hs he
  obtain ⟨n0, n1, n2⟩ := hn
  obtain ⟨s0, s1, s2⟩ := hs
  have l1 : n.f1.length ≤ 140737488351232 := by have := n1.1; omega
  have l2 : n.f2.length ≤ 140737488351232 := by have := n2.1; omega
  have l3 : s.f2.length ≤ 140737488351232 := by have := s2.1; omega
  have gn : ∀ p ∈ n.f2, GoodV p.f1 := fun p hp => good (n2.2.2 p hp).2
  have gs : ∀ p ∈ s.f2, GoodV p.f1 := fun p hp => good (s2.2.2 p hp).2
  suffices h : Ev (fun k => cobweblaw24_MatchAsks.f k n.f0 n.f1 n.f2 s.f0 s.f1 s.f2 e.f0 e.f1 e.f2 e.f3 e.f4) true from h.rounds
  have hm : match_Fits.f n.f0 n.f1 n.f2 s.f0 s.f1 s.f2 = some (s.f2.all (okP n.f2) && lab n.f1 s.f1) := if_pos ⟨⟨l1, l2, l3⟩, gn, gs⟩
  have hr : cobwebref24_Fits.f n.f0 n.f1 n.f2 s.f0 s.f1 s.f2 = some (lab n.f1 s.f1 && s.f2.all (okP n.f2)) := if_pos ⟨⟨l1, l2, l3⟩, gn, gs⟩
  have ez : (([] : List Prp).all (okP n.f2) && lab n.f1 ⟨#[]⟩) = true := by
    unfold lab
    simp [ByteArray.toList_eq]
  have hz : match_Fits.f n.f0 n.f1 n.f2 ⟨#[]⟩ ⟨#[]⟩ [] = some true := (if_pos ⟨⟨l1, l2, by simp⟩, gn, fun _ h => by cases h⟩).trans (by rw [ez])
  have fol : ∃ b, match_Follows.f e.f0 e.f1 e.f2 e.f3 e.f4 (⟨#[]⟩ : ByteArray) s.f1 false false 0 0 = some b ∧ cobwebref24_Follows.f e.f0 e.f1 e.f2 e.f3 e.f4 (⟨#[]⟩ : ByteArray) s.f1 false false 0 0 = some b := by
    unfold match_Follows.f cobwebref24_Follows.f
    cases s.f1.toList.isEmpty
    · exact ⟨_, rfl, rfl⟩
    · exact ⟨_, rfl, rfl⟩
  obtain ⟨b, f1, f2⟩ := fol
  have loop : ∀ (d i : Nat), i ≤ s.f2.length → s.f2.length - i = d → Ev (fun k => cobweblaw24_MatchAsks.l0 k i n.f0 n.f1 n.f2 s.f0 s.f1 s.f2 e.f0 e.f1 e.f2 e.f3 e.f4) true := by
    intro d
    induction d with
    | zero =>
      intro i hi hd
      refine Ev.step (fun _ => rfl) ?_
      simp only [cobweblaw24_MatchAsks.l0]
      rw [hm, hr]
      refine ite_f (by omega) (some_bind (some_bind (ite_t ?_ ?_)))
      · rw [beq_iff_eq, Bool.and_comm]
      · rw [f1, f2, hz]
        refine some_bind (some_bind (ite_t (by simp) (some_bind (Ev.now _))))
    | succ d ih =>
      intro i hi hd
      refine Ev.step (fun _ => rfl) ?_
      simp only [cobweblaw24_MatchAsks.l0]
      have hlt : i < s.f2.length := by omega
      rw [rdP s.f2 i hlt]
      refine ite_t (by omega) (ite_t (by omega) ?_)
      by_cases h1 : (s.f2[i].f1.f0.f3.size : Int) > 300
      · exact ite_t h1 (Ev.now _)
      · refine ite_f h1 ?_
        by_cases h2 : (s.f2[i].f1.f1.length : Int) > 20
        · exact ite_t h2 (Ev.now _)
        · refine ite_f h2 ?_
          rw [wrap64_id (by omega) (by omega)]
          exact ih (i + 1) (by omega) (by omega)
  have j0 : ∀ x : Bool, Ev (fun k => cobweblaw24_MatchAsks.j0 k x n.f0 n.f1 n.f2 s.f0 s.f1 s.f2 e.f0 e.f1 e.f2 e.f3 e.f4) true := fun x => by
    refine Ev.step (fun _ => rfl) ?_
    simp only [cobweblaw24_MatchAsks.j0]
    cases x
    · exact ite_f (by decide) (loop s.f2.length 0 (by omega) rfl)
    · exact ite_t rfl (Ev.now _)
  unfold cobweblaw24_MatchAsks.f
  obtain ⟨r, hr⟩ := few_some n l1 l2
  refine Ev.bind hr ?_
  by_cases h : r = 0
  · exact ite_t h (j0 true)
  · exact ite_f h (j0 _)
end Go.Proofs.Ytnfapjkffofcaaa.PureMatchAsks
