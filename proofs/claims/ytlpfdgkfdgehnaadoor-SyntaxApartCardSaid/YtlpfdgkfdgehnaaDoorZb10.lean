/- Part 10 of the proof: words, contracts, plain laws. Laid by a program of this session (wip/tool/shake.py): what is needed of own and printed texts, in order. -/
import Derived.Test.YtlpfdgkfdgehnaaDoorZb0
import Derived.Test.YtlpfdgkfdgehnaaDoorZb1
import Derived.Test.YtlpfdgkfdgehnaaDoorZb2
import Derived.Recover
import Derived.Calls
import Derived.Lib.ItoaNum
import Derived.Orders
import Derived.Tactics
import Derived.Below
import Derived.Laws.Rows
import Derived.Laws.World
import Derived.Laws.CopyRow
import Derived.Lib.FrozenHead
import Derived.Deep.AppendSrc
import Derived.Deep.Upon
import Derived.Laws.BytesArg
import Derived.IntWalk
import Derived.Laws.Externs
import Derived.LoopN
import Derived.Scope
import Derived.MapKept
import Derived.RegionTactic
namespace Go.Proofs.YtlpfdgkfdgehnaaDoor.AM
open Go.RowKit
set_option linter.unusedVariables false
set_option linter.unusedSimpArgs false
set_option maxHeartbeats 0
def concL : List AV → Option (List Value)
  | [] => some []
  | .dat (.lit v) :: l => (concL l).map (v :: ·)
  | _ :: _ => none
def concB : AV → Option Value
  | .dat (.lit v) => some v
  | .agg l => (concL l).map fun m => .agg m.toArray
  | _ => none
def conc : AV → Option Value
  | .ifc t x => (concB x).map (.iface t)
  | _ => none
theorem concL_spec {c : Cx} : ∀ {l : List AV} {m : List Value}, concL l = some m → m.length = l.length ∧ ∀ (i : Nat) x u, l[i]? = some x → VR c x u → m[i]? = some u
  | [], m, h => by obtain rfl := Option.some.inj h; exact ⟨rfl, fun i x u hx => by simp at hx⟩
  | y :: l, m, h => by
    unfold concL at h
    split at h
    · rename_i h0; cases h0
    · rename_i v l' h0
      obtain ⟨rfl, rfl⟩ := List.cons.inj h0
      cases hm : concL l with
      | none => rw [hm] at h; cases h
      | some m' =>
        rw [hm] at h
        obtain rfl := Option.some.inj h
        obtain ⟨k1, k2⟩ := concL_spec (c := c) hm
        refine ⟨by simp [k1], fun i x u hx hv => ?_⟩
        match i, hx with
        | 0, hx =>
          obtain rfl := Option.some.inj hx
          rw [hv.lit_inv]; rfl
        | i + 1, hx => simpa using k2 i x u (by simpa using hx) hv
    · cases h
theorem concB_spec {c : Cx} {x : AV} {u w : Value} (h : concB x = some u) (hv : VR c x w) : w = u := by
  unfold concB at h
  split at h
  · obtain rfl := Option.some.inj h; exact hv.lit_inv
  · rename_i l
    cases hm : concL l with
    | none => rw [hm] at h; cases h
    | some m =>
      rw [hm] at h
      obtain rfl := Option.some.inj h
      obtain ⟨k1, k2⟩ := concL_spec (c := c) hm
      cases hv with
      | agg _ us h1 h2 =>
        congr 1
        apply Array.ext'
        apply List.ext_getElem?
        intro i
        by_cases hi : i < l.length
        · have h3 := k2 i _ _ (List.getElem?_eq_getElem hi) (h2 i _ (List.getElem?_eq_getElem hi))
          rw [List.toList_toArray, h3]
          have hlt : i < us.size := by omega
          rw [Array.getElem?_toList, Array.getElem?_eq_getElem hlt]
          simp [Array.getD_eq_getD_getElem?, hlt]
        · rw [List.getElem?_eq_none (by rw [Array.length_toList]; omega), List.getElem?_eq_none (by rw [List.toList_toArray]; omega)]
  · cases h
theorem conc_spec {c : Cx} {x : AV} {u w : Value} (h : conc x = some u) (hv : VR c x w) : w = u := by
  unfold conc at h
  split at h
  · rename_i t x
    cases hm : concB x with
    | none => rw [hm] at h; cases h
    | some m =>
      rw [hm] at h
      obtain rfl := Option.some.inj h
      cases hv with
      | ifc _ _ u' h1 => rw [concB_spec hm h1]
  · cases h
abbrev pch (u : Value) : List PanicEntry := [{ v := u, recovered := false }]
theorem hget_keys {h : List (Nat × Blk)} {b : Nat} {blk : Blk} (hb : hget h b = some blk) : b ∈ h.map (·.1) := by
  induction h with
  | nil => cases hb
  | cons p h ih =>
    obtain ⟨k, x⟩ := p
    simp only [hget] at hb
    split at hb
    · rename_i e; rw [← e]; exact List.mem_cons_self
    · exact List.mem_cons_of_mem _ (ih hb)
theorem op_panic {P : Program} {o : Oper} {ρ : Operand → AV} {h : List (Nat × Blk)} {E : Nat} {x : Operand} {t : TypeId} {u : Value} (ho : o.op = .panic x) (hx : conc (ρ x) = some (.iface t u)) : OPan P o ρ h (h.map (·.1)) E (pch (.iface t u)) h := by
  intro c a ok hops hblk hE K Q hQ
  unfold Oper.wp
  have hv := conc_spec hx (hops x (by rw [ho]; simp [Op.operands]))
  have hrun : (execOp a.eval o).run P c.W = .halt (.panic (.iface t u)) c.W := by
    simp [execOp, ho, Instr.panic, goPanic, hv, Sem.run_bind]
  rw [hrun]
  exact hQ c ok (Ev.refl _ _ _) (fun b blk hb => hblk b (hget_keys hb) blk hb)
theorem RunTo.panic {P : Program} {ds : List (Option Tmp)} {T i : Nat} {o : Oper} {os : List Oper} {st : St} {acc : Log} {K : Kont} {x : Operand} {t : TypeId} {u : Value} (ho : o.op = .panic x) (hw : wantedA ds o st.env = some true) (hx : conc (opv st.env x) = some (.iface t u))
    (h : K.s i (pch (.iface t u)) st.heap (acc ++ [(st.heap.map (·.1), [])])) : RunTo P ds T i (o :: os) st acc K :=
  RunTo.stop ⟨hw, op_panic ho hx⟩ h
section
end
end Go.Proofs.YtlpfdgkfdgehnaaDoor.AM
namespace Go.Proofs.YtlpfdgkfdgehnaaDoor.AM
open Go.RowKit
set_option linter.unusedVariables false
set_option linter.unusedSimpArgs false
set_option maxHeartbeats 0
abbrev DL := List (FuncId × List AV)
def DefR (c : Cx) : DL → List Deferred → Prop
  | [], [] => True
  | (g, xs) :: l, d :: ds => (d.args = #[] ∧ ∃ cap : Array Value, d.target = .fn (.func g) cap ∧ cap.size = xs.length ∧ ∀ (i : Nat) x, xs[i]? = some x → VR c x (cap.getD i undef)) ∧ DefR c l ds
  | _, _ => False
theorem DefR.mono {F N : Nat → Prop} {c c' : Cx} (ok : c.Ok) (ev : Ev F N c c') : ∀ {l : DL} {ds : List Deferred}, DefR c l ds → DefR c' l ds
  | [], [], _ => trivial
  | (g, xs) :: l, d :: ds, h => ⟨⟨h.1.1, by
      obtain ⟨cap, h1, h2, h3⟩ := h.1.2
      exact ⟨cap, h1, h2, fun i x hx => (h3 i x hx).mono ok ev⟩⟩, DefR.mono ok ev h.2⟩
  | [], _ :: _, h => h.elim
  | _ :: _, [], h => h.elim
section
end
end Go.Proofs.YtlpfdgkfdgehnaaDoor.AM
