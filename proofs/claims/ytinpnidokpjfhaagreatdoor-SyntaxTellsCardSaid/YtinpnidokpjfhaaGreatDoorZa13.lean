/- Part 13 of the proof: words, contracts, plain laws. Laid by a program of this session (wip/tool/shake.py): what is needed of own and printed texts, in order. -/
import Derived.Test.YtinpnidokpjfhaaGreatDoorZa0
import Derived.Test.YtinpnidokpjfhaaGreatDoorZa1
import Derived.Test.YtinpnidokpjfhaaGreatDoorZa2
import Derived.Test.YtinpnidokpjfhaaGreatDoorZa3
import Derived.Test.YtinpnidokpjfhaaGreatDoorZa4
import Derived.Test.YtinpnidokpjfhaaGreatDoorZa5
import Derived.Test.YtinpnidokpjfhaaGreatDoorZa6
import Derived.Test.YtinpnidokpjfhaaGreatDoorZa7
import Derived.Test.YtinpnidokpjfhaaGreatDoorZa8
import Derived.Test.YtinpnidokpjfhaaGreatDoorZa9
import Derived.Test.YtinpnidokpjfhaaGreatDoorZa10
import Derived.Test.YtinpnidokpjfhaaGreatDoorZa11
import Derived.Calls
import Derived.Lib.ItoaNum
import Derived.Orders
import Derived.Tactics
import Derived.Below
import Derived.Laws.Rows
import Derived.Laws.World
import Derived.Laws.CopyRow
import Derived.Lib.FrozenHead
import Derived.Deep.AppendSrc
import Derived.Deep.Upon
import Derived.Laws.BytesArg
import Derived.IntWalk
import Derived.Laws.Externs
import Derived.LoopN
import Derived.Scope
import Derived.Test.YtinpnidokpjfhaaGreatDoorProg
import Derived.KernelRfl
import Derived.MapKept
import Derived.Laws.FloatBits
import Derived.SizedLaws
import Derived.ChangeArms
import Derived.WideShapes
import Derived.Deep.Slices
import Derived.Lib.ItoaMem
import Derived.Lib.ItoaLen
import Derived.Lib.Join
import Derived.RegionTactic
import Derived.Lib.AppendIntMem
import Derived.Shelf.Strings.Builder1
import Derived.Shelf.Strings.Builder2
import Derived.Shelf.Strings.OnBuilder
import Derived.Shelf.Small.Wraps
import Derived.Shelf.Strings.BuilderF
import Derived.Shelf.Strings.BuilderK
import Derived.Shelf.Strings.Builder2Cap
import Derived.Shelf.Strconv.Itoa0
import Derived.Shelf.Strconv.Itoa1
import Derived.Shelf.LaysM
import Derived.Shelf.Strconv.Itoa2
import Derived.Shelf.Strconv.Itoa3
import Derived.Shelf.Strings.BuilderCap
import Derived.Shelf.Slices.Turned
import Derived.Test.YtinpnidokpjfhaaGreatDoorRows
import Derived.Lib.LaidTab
import Derived.MakeChecks
import Derived.Test.YtinpnidokpjfhaaGreatDoorZa12
namespace Go.Proofs.YtinpnidokpjfhaaGreatDoor.AM
open Go.RowKit
set_option linter.unusedVariables false
theorem i64_ofQ {n : Int} (h : B3 n) : i64B n := by
  have h1 : (decide (IntKind.i64.min ≤ n) && decide (n ≤ IntKind.i64.max)) = true := h
  have e1 : IntKind.i64.min = -9223372036854775808 := by decide
  have e2 : IntKind.i64.max = 9223372036854775807 := by decide
  rw [e1, e2] at h1
  simpa [i64B] using h1
theorem len_ofQ {α : Type} {xs : List α} {b : Nat} (hb : 1 ≤ b) (h : xs.length * b ≤ 140737488351232) : xs.length ≤ 140737488351232 := Nat.le_trans (Nat.le_mul_of_pos_right _ hb) h
theorem val_ofQ {v : ValD} (h : B54 v) : i64B v.a.n ∧ v.a.s.size ≤ 140737488351232 ∧ v.l.length ≤ 140737488351232 ∧ flV v :=
  ⟨i64_ofQ h.1.2.1, h.1.2.2.2, len_ofQ (by decide +kernel) h.2.1, h.1.2.2.1, fun a ha => (h.2.2.2 a ha).2.2.1⟩
theorem term_ofQ {t : TermD} (h : B79 t) : i64B t.v.a.n ∧ termW t ≤ 100000000000000000 ∧ flV t.v := by
  have hv := val_ofQ h.2.2.2
  have h1 : t.var.size ≤ 140737488351232 := h.2.1
  have h2 : t.name.size ≤ 140737488351232 := h.2.2.1
  have h3 := hv.2.1
  have h4 := hv.2.2.1
  refine ⟨hv.1, ?_, hv.2.2.2⟩
  unfold termW
  omega
theorem terms_ofQ {l : List TermD} (h : B24 l) : BigL l ∧ (∀ t ∈ l, i64B t.v.a.n) ∧ ∀ t ∈ l, flV t.v :=
  ⟨⟨by have := len_ofQ (by decide +kernel) h.1; omega, fun t ht => (term_ofQ (h.2.2 t ht)).2.1⟩, fun t ht => (term_ofQ (h.2.2 t ht)).1, fun t ht => (term_ofQ (h.2.2 t ht)).2.2⟩
theorem prop_ofQ {p : PropD} (h : B56 p) : i64B p.v.a.n ∧ propW p ≤ 100000000000000000 ∧ flV p.v := by
  have hv := val_ofQ h.2
  have h1 : p.name.size ≤ 140737488351232 := h.1
  have h3 := hv.2.1
  have h4 := hv.2.2.1
  refine ⟨hv.1, ?_, hv.2.2.2⟩
  unfold propW
  omega
theorem spot_ofQ {s : SpotD} (h : B40 s) : BigS s ∧ (∀ p ∈ s.props, i64B p.v.a.n) ∧ ∀ p ∈ s.props, flV p.v := by
  have h1 : s.var.size ≤ 140737488351232 := h.1
  have h2 : s.label.size ≤ 140737488351232 := h.2.1
  have h3 := len_ofQ (by decide +kernel) h.2.2.1
  exact ⟨⟨by omega, by omega, by omega, fun p hp => (prop_ofQ (h.2.2.2.2 p hp)).2.1⟩, fun p hp => (prop_ofQ (h.2.2.2.2 p hp)).1, fun p hp => (prop_ofQ (h.2.2.2.2 p hp)).2.2⟩
theorem hop_ofQ {x : HopD} (h : B58 x) : hopW x ≤ 100000000000000000 ∧ i64B x.least ∧ i64B x.most := by
  have h1 : x.var.size ≤ 140737488351232 := h.1
  have h2 : x.type.size ≤ 140737488351232 := h.2.1
  refine ⟨?_, i64_ofQ h.2.2.2.2.1, i64_ofQ h.2.2.2.2.2⟩
  unfold hopW
  omega
theorem query_ofQ {q : QueryD} (h : B28 q) : BigQ q ∧ KindQ q ∧ FlQ q := by
  obtain ⟨a, b, c, d, e, f, g, i⟩ := h
  have a1 := len_ofQ (by decide +kernel) a.1
  have b1 := len_ofQ (by decide +kernel) b.1
  have d1 := len_ofQ (by decide +kernel) d.1
  have f1 := len_ofQ (by decide +kernel) f.1
  have tw := terms_ofQ c
  refine ⟨⟨by omega, fun s hs => (spot_ofQ (a.2.2 s hs)).1, by omega, fun x hx => (hop_ofQ (b.2.2 x hx)).1, tw.1, by omega, fun x hx => (terms_ofQ (d.2.2 x hx).2).1, by omega⟩,
    ⟨fun s hs => (spot_ofQ (a.2.2 s hs)).2.1, fun x hx => (hop_ofQ (b.2.2 x hx)).2, tw.2.1, fun x hx => (terms_ofQ (d.2.2 x hx).2).2.1, fun x hx => i64_ofQ (f.2.2 x hx).1, i64_ofQ g, i64_ofQ i⟩,
    ⟨fun s hs => (spot_ofQ (a.2.2 s hs)).2.2, tw.2.2, fun x hx => (terms_ofQ (d.2.2 x hx).2).2.2⟩⟩
end Go.Proofs.YtinpnidokpjfhaaGreatDoor.AM
namespace Go.Proofs.YtinpnidokpjfhaaGreatDoor.AM
open Go.RowKit
theorem lawSTells (q : QueryD) (h0 : B28 q) : Pure Tryz.prog 3 [q.av] (bv true) := c_lawTells q (query_ofQ h0).1 (query_ofQ h0).2.1 (query_ofQ h0).2.2
end Go.Proofs.YtinpnidokpjfhaaGreatDoor.AM
