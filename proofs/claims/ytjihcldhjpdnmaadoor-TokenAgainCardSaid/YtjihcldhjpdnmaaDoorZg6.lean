/- Part 6 of the proof: words, contracts, plain laws. Laid by a program of this session (wip/tool/shake.py): what is needed of own and printed texts, in order. -/
import Derived.Test.YtjihcldhjpdnmaaDoorZg0
import Derived.Test.YtjihcldhjpdnmaaDoorZg1
import Derived.Test.YtjihcldhjpdnmaaDoorZg2
import Derived.Recover
import Derived.Calls
import Derived.Lib.ItoaNum
import Derived.Orders
import Derived.Tactics
import Derived.Below
import Derived.Laws.Rows
import Derived.Laws.World
import Derived.Laws.CopyRow
import Derived.Lib.FrozenHead
import Derived.Deep.AppendSrc
import Derived.Deep.Upon
import Derived.Laws.BytesArg
import Derived.IntWalk
import Derived.Laws.Externs
import Derived.LoopN
import Derived.Scope
import Derived.MapKept
import Derived.RegionTactic
namespace Go.Proofs.YtjihcldhjpdnmaaDoor.AM
open Go.RowKit
set_option linter.unusedVariables false
set_option linter.unusedSimpArgs false
set_option maxHeartbeats 0
def concL : List AV → Option (List Value)
  | [] => some []
  | .dat (.lit v) :: l => (concL l).map (v :: ·)
  | _ :: _ => none
def concB : AV → Option Value
  | .dat (.lit v) => some v
  | .agg l => (concL l).map fun m => .agg m.toArray
  | _ => none
def conc : AV → Option Value
  | .ifc t x => (concB x).map (.iface t)
  | _ => none
theorem concL_spec {c : Cx} : ∀ {l : List AV} {m : List Value}, concL l = some m → m.length = l.length ∧ ∀ (i : Nat) x u, l[i]? = some x → VR c x u → m[i]? = some u
  | [], m, h => by obtain rfl := Option.some.inj h; exact ⟨rfl, fun i x u hx => by simp at hx⟩
  | y :: l, m, h => by
    unfold concL at h
    split at h
    · rename_i h0; cases h0
    · rename_i v l' h0
      obtain ⟨rfl, rfl⟩ := List.cons.inj h0
      cases hm : concL l with
      | none => rw [hm] at h; cases h
      | some m' =>
        rw [hm] at h
        obtain rfl := Option.some.inj h
        obtain ⟨k1, k2⟩ := concL_spec (c := c) hm
        refine ⟨by simp [k1], fun i x u hx hv => ?_⟩
        match i, hx with
        | 0, hx =>
          obtain rfl := Option.some.inj hx
          rw [hv.lit_inv]; rfl
        | i + 1, hx => simpa using k2 i x u (by simpa using hx) hv
    · cases h
theorem concB_spec {c : Cx} {x : AV} {u w : Value} (h : concB x = some u) (hv : VR c x w) : w = u := by
  unfold concB at h
  split at h
  · obtain rfl := Option.some.inj h; exact hv.lit_inv
  · rename_i l
    cases hm : concL l with
    | none => rw [hm] at h; cases h
    | some m =>
      rw [hm] at h
      obtain rfl := Option.some.inj h
      obtain ⟨k1, k2⟩ := concL_spec (c := c) hm
      cases hv with
      | agg _ us h1 h2 =>
        congr 1
        apply Array.ext'
        apply List.ext_getElem?
        intro i
        by_cases hi : i < l.length
        · have h3 := k2 i _ _ (List.getElem?_eq_getElem hi) (h2 i _ (List.getElem?_eq_getElem hi))
          rw [List.toList_toArray, h3]
          have hlt : i < us.size := by omega
          rw [Array.getElem?_toList, Array.getElem?_eq_getElem hlt]
          simp [Array.getD_eq_getD_getElem?, hlt]
        · rw [List.getElem?_eq_none (by rw [Array.length_toList]; omega), List.getElem?_eq_none (by rw [List.toList_toArray]; omega)]
  · cases h
theorem conc_spec {c : Cx} {x : AV} {u w : Value} (h : conc x = some u) (hv : VR c x w) : w = u := by
  unfold conc at h
  split at h
  · rename_i t x
    cases hm : concB x with
    | none => rw [hm] at h; cases h
    | some m =>
      rw [hm] at h
      obtain rfl := Option.some.inj h
      cases hv with
      | ifc _ _ u' h1 => rw [concB_spec hm h1]
  · cases h
theorem concL_rel (c : Cx) : ∀ {l : List AV} {m : List Value}, concL l = some m → ∀ (i : Nat) x, l[i]? = some x → VR c x (m.toArray.getD i undef)
  | [], m, h => fun i x hx => by simp at hx
  | y :: l, m, h => by
    unfold concL at h
    split at h
    · rename_i h0; cases h0
    · rename_i v l' h0
      obtain ⟨rfl, rfl⟩ := List.cons.inj h0
      cases hm : concL l with
      | none => rw [hm] at h; cases h
      | some m' =>
        rw [hm] at h
        obtain rfl := Option.some.inj h
        intro i x hx
        match i, hx with
        | 0, hx =>
          obtain rfl := Option.some.inj hx
          exact .dat _ _ (.lit v)
        | i + 1, hx =>
          have := concL_rel c hm i x (by simpa using hx)
          simpa [Array.getD_eq_getD_getElem?] using this
    · cases h
theorem conc_rel (c : Cx) {x : AV} {u : Value} (h : conc x = some u) : VR c x u := by
  unfold conc at h
  split at h
  · rename_i t x
    cases hm : concB x with
    | none => rw [hm] at h; cases h
    | some m =>
      rw [hm] at h
      obtain rfl := Option.some.inj h
      refine .ifc t x m ?_
      unfold concB at hm
      split at hm
      · obtain rfl := Option.some.inj hm; exact .dat _ _ (.lit _)
      · rename_i l
        cases hk : concL l with
        | none => rw [hk] at hm; cases hm
        | some k =>
          rw [hk] at hm
          obtain rfl := Option.some.inj hm
          exact .agg l _ (by have := (concL_spec (c := c) hk).1; simpa using this) (concL_rel c hk)
      · cases hm
  · cases h
abbrev pch (u : Value) : List PanicEntry := [{ v := u, recovered := false }]
theorem hget_keys {h : List (Nat × Blk)} {b : Nat} {blk : Blk} (hb : hget h b = some blk) : b ∈ h.map (·.1) := by
  induction h with
  | nil => cases hb
  | cons p h ih =>
    obtain ⟨k, x⟩ := p
    simp only [hget] at hb
    split at hb
    · rename_i e; rw [← e]; exact List.mem_cons_self
    · exact List.mem_cons_of_mem _ (ih hb)
theorem op_panic {P : Program} {o : Oper} {ρ : Operand → AV} {h : List (Nat × Blk)} {E : Nat} {x : Operand} {t : TypeId} {u : Value} (ho : o.op = .panic x) (hx : conc (ρ x) = some (.iface t u)) : OPan P o ρ h (h.map (·.1)) E (pch (.iface t u)) h := by
  intro c a ok hops hblk hE K Q hQ
  unfold Oper.wp
  have hv := conc_spec hx (hops x (by rw [ho]; simp [Op.operands]))
  have hrun : (execOp a.eval o).run P c.W = .halt (.panic (.iface t u)) c.W := by
    simp [execOp, ho, Instr.panic, goPanic, hv, Sem.run_bind]
  rw [hrun]
  exact hQ c ok (Ev.refl _ _ _) (fun b blk hb => hblk b (hget_keys hb) blk hb)
theorem RunTo.panic {P : Program} {ds : List (Option Tmp)} {T i : Nat} {o : Oper} {os : List Oper} {st : St} {acc : Log} {K : Kont} {x : Operand} {t : TypeId} {u : Value} (ho : o.op = .panic x) (hw : wantedA ds o st.env = some true) (hx : conc (opv st.env x) = some (.iface t u))
    (h : K.s i (pch (.iface t u)) st.heap (acc ++ [(st.heap.map (·.1), [])])) : RunTo P ds T i (o :: os) st acc K :=
  RunTo.stop ⟨hw, op_panic ho hx⟩ h
def Pans (P : Program) (f : FuncId) (args : List AV) (h : List (Nat × Blk)) (u : Value) : Prop :=
  ∀ (c : Cx) (us : Array Value), c.Ok → (∀ e, c.U e → e = 0) → us.size = args.length → (∀ (i : Nat) x, args[i]? = some x → VR c x (us.getD i undef)) → (∀ b blk, hget h b = some blk → BR c b blk) →
    Calls P f us c.W fun e W' => ∃ c', e = .panicked (pch u) ∧ c'.W = W' ∧ c'.Ok ∧ Ev All All c c'
theorem pans_of_awp {P : Program} {f : FuncId} {fn : Func} {cd : Code} {args : List AV} {h : List (Nat × Blk)} {u : Value} (hf : P.funcs[f]? = some fn) (hb : fn.body = some cd) (hn : args.length ≤ fn.ntmps)
    (hw : AWP P fn.ntmps cd (fun ex st => ex = .panic (pch u)) { env := envOf 0 args, heap := h, T := 1 }) : Pans P f args h u := fun c us ok hU hus hargs hblk => by
  refine calls_of_wp hf hb ?_
  have hrel : ({ env := envOf 0 args, heap := h, T := 1 } : St).Rel fn.ntmps { tmps := us ++ Array.replicate (fn.ntmps - us.size) undef, defers := [] } c := by
    refine ⟨ok, by simp; omega, rfl, fun k hk => ?_, hblk, fun e he => by have := hU e he; show e < 1; omega⟩
    rw [aget_envOf]
    split
    · rename_i hlt
      have h1 : k < args.length := by omega
      have h2 := hargs k _ (List.getElem?_eq_getElem h1)
      have e : (us ++ Array.replicate (fn.ntmps - us.size) undef).getD k undef = us.getD k undef := by
        rw [Array.getD_eq_getD_getElem?, Array.getElem?_append_left (by omega), Array.getD_eq_getD_getElem?]
      rw [e, Nat.sub_zero, List.getD_eq_getElem?_getD, List.getElem?_eq_getElem h1]
      exact h2
    · exact .top _
  refine wp_mono (hw _ c hrel) (fun ex a' w' ⟨st', c', hw, hex, hr', ev⟩ => ?_)
  subst hw hex
  exact ⟨hr'.defers, c', rfl, rfl, hr'.ok, ev⟩
theorem os_pans {P : Program} {o : Oper} {ρ : Operand → AV} {h h0 h' : List (Nat × Blk)} {E : Nat} {u : Value} {f : FuncId} {fn : Func} {c0 : Call} {x : Operand} {l m args : List AV} {τ : List Row4} {F : List Nat} (hp : Pans P f args h0 u)
    (ho : o.op = .call c0) (hcal : c0.callee = .value x) (hx : ρ x = .fn (.func f) l m) (hf : P.funcs[f]? = some fn) (hb : fn.body.isNone = false) (hng : (fn.name == "runtime.NumGoroutine") = false)
    (ht : tabOK τ = true) (hl : liveOK h τ = true) (hargs : renL τ (l ++ (c0.args.toList.map ρ ++ m)) = args) (hh : renH τ h τ = h0) (hF : ∀ b ∈ τ.map (·.1), b ∈ F)
    (hh' : ∀ b blk, hget h' b = some blk → b ∈ F ∧ hget h b = some blk ∧ b ∉ τ.map (·.1)) : OPan P o ρ h F E (pch u) h' := by
  intro c a ok hops hblk hE K Q hQ
  have hz : ∀ b e b' z, (b, e, b', z) ∈ τ → z = 0 := fun b e b' z hm => (liveOK_spec hl hm).1
  let c1 : Cx := ⟨c.W, c.X, rι c.ι τ, fun e => e = 0⟩
  have hu1 : ∀ b e b' e', (b, e, b', e') ∈ τ → c.U e → e' = 0 := fun b e b' e' hm _ => hz _ _ _ _ hm
  have r1 : Ren c c1 τ := Ren.of_rι ht hu1
  have ok1 : c1.Ok := rι_ok ok ht hu1
  have hxx : x ∈ o.op.operands.toList := by rw [ho]; simp [Op.operands, Call.operands, hcal]
  have hvx := hops x hxx
  rw [hx] at hvx
  generalize hev : a.eval x = ux at hvx
  cases hvx with
  | fn _ _ _ us vs s1 s2 k1 k2 =>
  unfold Oper.wp
  have hng' : ¬ fn.name = "runtime.NumGoroutine" := by simpa using hng
  have hb' : ¬ fn.body = none := fun e => by rw [e] at hb; cases hb
  have hrun : (execOp a.eval o).run P c.W = .ok (.enter f ((us ++ c0.args.map a.eval) ++ vs)) c.W := by
    simp [execOp, ho, resolve, hcal, hev, Deferred.ofValue, invoke, callFunc, hf, hb', hng']
  rw [hrun]
  have hlen : ((us ++ c0.args.map a.eval) ++ vs).size = args.length := by rw [← hargs, renL_eq]; simp [s1, s2]
  refine (hp c1 _ ok1 (fun e he => he) hlen (fun i y hy => ?_) (fun b blk hblk0 => ?_)).mono ?_
  · rw [← hargs, renL_eq, List.getElem?_map] at hy
    cases hyy : (l ++ (c0.args.toList.map ρ ++ m))[i]? with
    | none => rw [hyy] at hy; cases hy
    | some y0 =>
      rw [hyy] at hy
      obtain rfl := Option.some.inj hy
      refine VR.ren r1 ?_
      rw [Array.getD_eq_getD_getElem?]
      by_cases hi : i < l.length
      · rw [List.getElem?_append_left hi] at hyy
        rw [Array.append_assoc, Array.getElem?_append_left (by omega), ← Array.getD_eq_getD_getElem?]
        exact k1 i y0 hyy
      · rw [List.getElem?_append_right (by omega)] at hyy
        rw [Array.append_assoc, Array.getElem?_append_right (by omega), s1]
        by_cases hj : i - l.length < c0.args.size
        · rw [List.getElem?_append_left (by simpa using hj), List.getElem?_map] at hyy
          rw [Array.getElem?_append_left (by simpa using hj)]
          cases hy2 : c0.args.toList[i - l.length]? with
          | none => rw [hy2] at hyy; cases hyy
          | some z =>
            rw [hy2] at hyy
            obtain rfl := Option.some.inj hyy
            have hmem : z ∈ o.op.operands.toList := by
              rw [ho]
              have := List.mem_of_getElem? hy2
              simp [Op.operands, Call.operands, hcal]
              exact .inr (Array.mem_toList_iff.1 this)
            rw [Array.getElem?_toList] at hy2
            rw [Array.getElem?_map, hy2]
            exact hops z hmem
        · rw [List.getElem?_append_right (by simpa using hj)] at hyy
          rw [Array.getElem?_append_right (by simpa using hj)]
          simp only [List.length_map, Array.length_toList, Array.size_map] at hyy ⊢
          rw [← Array.getD_eq_getD_getElem?]
          exact k2 _ y0 hyy
  · rw [← hh] at hblk0
    exact heap_ren' r1 τ (fun y hy => ⟨hy, fun blk hg => hblk _ (hF _ (List.mem_map.2 ⟨y, hy, rfl⟩)) blk hg⟩) b blk hblk0
  · rintro e W' ⟨c2, rfl, hW, ok2, ev⟩
    subst hW
    let G : List Nat := τ.map (·.1)
    let ι' : Nat → Option Loc := fun b => if b ∈ G then none else c.ι b
    let c3 : Cx := ⟨c2.W, c2.X, ι', c.U⟩
    have hιin : ∀ b, b ∈ G → c3.ι b = none := fun b hb => if_pos hb
    have hιout : ∀ b, b ∉ G → c3.ι b = c.ι b := fun b hb => if_neg hb
    have hlent : ∀ b1 L1, c1.ι b1 = some L1 → ∃ b L, b ∈ G ∧ c.ι b = some L ∧ L.rb = L1.rb := fun b1 L1 hb1 => by
      obtain ⟨b0, e0, e1, L0, q1, q2, q3, rfl⟩ := rι_inv hb1
      exact ⟨b0, L0, List.mem_map.2 ⟨_, q1, rfl⟩, q2, rfl⟩
    have hoff : ∀ k, c.off (· ∈ G) k → c1.off All k := fun k hk b1 L1 _ hb1 hr1 => by
      obtain ⟨b, L, q1, q2, q3⟩ := hlent b1 L1 hb1
      exact hk b L q1 q2 (q3.trans hr1)
    have hoffG : ∀ b L r, b ∉ G → c.ι b = some L → L.rb = some r → c.off (· ∈ G) r := fun b L r hb hL hr b' L' hb' hL' hr' => by
      have := ok.inj b b' L L' r hL hL' hr hr'
      subst this
      exact hb hb'
    have hc3 : ∀ b L, c3.ι b = some L → b ∉ G ∧ c.ι b = some L := fun b L hL => by
      by_cases hb : b ∈ G
      · rw [hιin b hb] at hL; cases hL
      · rw [hιout b hb] at hL; exact ⟨hb, hL⟩
    have ok3 : c3.Ok := by
      refine ⟨fun b b' L L' r hL hL' hr hr' => ?_, fun b L r hL hr => ?_, ok2.bnd, fun b L hL => ?_, ok2.glob⟩
      · exact ok.inj b b' L L' r (hc3 b L hL).2 (hc3 b' L' hL').2 hr hr'
      · obtain ⟨h1, h2⟩ := hc3 b L hL
        exact ev.x2 r (ok.sub b L r h2 hr) (hoff r (hoffG b L r h1 h2 hr))
      · exact ok.used b L (hc3 b L hL).2
    have ev3 : Ev (· ∈ G) (· = E) c c3 := by
      refine ⟨ev.os, ev.tape, ev.output, ev.size, fun k hk ho => ev.keep k hk (hoff k ho), ev.x1, fun k hk ho => ev.x2 k hk (hoff k ho), fun b L' hL' hU => (hc3 b L' hL').2, fun b hb => hιout b hb, fun b L r hb hL hr => ?_, fun e he => he, fun e he => .inl he⟩
      exact absurd hb (hc3 b L hL).1
    refine hQ c3 ok3 (ev3.wide (fun b hb => hF b hb) (fun _ h => h)) (fun b blk hb => ?_)
    obtain ⟨h1, h2, h3⟩ := hh' b blk hb
    exact (hblk b h1 blk h2).mono ok ev3 h3
theorem RunTo.pansE {P : Program} {ds : List (Option Tmp)} {T i : Nat} {o : Oper} {os : List Oper} {st : St} {acc : Log} {K : Kont} {u : Value} {f : FuncId} {args : List AV} {h0 : List (Nat × Blk)} (hp : Pans P f args h0 u) {fn : Func}
    (hf : P.funcs[f]? = some fn) {c0 : Call} {x : Operand} {l m : List AV} (ho : o.op = .call c0) (hcal : c0.callee = .value x) (hb : fn.body.isNone = false) (hng : (fn.name == "runtime.NumGoroutine") = false)
    (hw : wantedA ds o st.env = some true) (hx : opv st.env x = .fn (.func f) l m)
    (h : (fun τ => tabOK τ = true ∧ liveOK st.heap τ = true ∧ renL τ (l ++ (c0.args.toList.map (opv st.env) ++ m)) = args ∧ renH τ st.heap τ = h0 ∧
      K.s i (pch u) (hdels (τ.map (·.1)) st.heap) (acc ++ [(st.heap.map (·.1), [])])) (reach st.heap 40 (slotsL (l ++ (c0.args.toList.map (opv st.env) ++ m))) [] 1001)) : RunTo P ds T i (o :: os) st acc K := by
  obtain ⟨h1, h2, h3, h4, h5⟩ := h
  refine RunTo.stop ⟨hw, os_pans hp ho hcal hx hf hb hng h1 h2 h3 h4 (fun b hb => ?_) (fun b blk hb => ?_)⟩ h5
  · obtain ⟨⟨b0, e, b', z⟩, hr, rfl⟩ := List.mem_map.1 hb
    obtain ⟨_, blk, hg, _⟩ := liveOK_spec h2 hr
    exact hget_keys hg
  · rw [hget_hdels] at hb
    split at hb
    · cases hb
    · rename_i hn; exact ⟨hget_keys hb, hb, hn⟩
theorem os_asYes {P : Program} {o : Oper} {ρ : Operand → AV} {h : List (Nat × Blk)} {E : Nat} {x : Operand} {xt t : TypeId} {y : AV} (ho : o.op = .typeAssert x xt t true) (hi : isIfaceT P t = some false) (hx : ρ x = .ifc t y) : OStep P o ρ h [] E (.tup [y, .lit (.bool true)]) h :=
  ostep_value (fun c a ok hops _ => by
    have h1 := hops x (by rw [ho]; simp [Op.operands])
    rw [hx] at h1
    generalize hev : a.eval x = ux at h1
    cases h1 with
    | ifc _ _ u hu =>
      refine ⟨.tuple #[u, .bool true], ?_, .tup _ _ rfl (fun i z hz => ?_)⟩
      · unfold isIfaceT at hi
        cases hd : P.underlying t with
        | none => rw [hd] at hi; cases hi
        | some d =>
          rw [hd] at hi
          cases d <;> simp_all [execOp, Instr.typeAssert, run_underlying hd]
      · match i, hz with
        | 0, hz => obtain rfl := Option.some.inj hz; exact hu
        | 1, hz => obtain rfl := Option.some.inj hz; exact .dat _ _ (.lit _)
        | i + 2, hz => simp at hz)
theorem os_asNil {P : Program} {o : Oper} {ρ : Operand → AV} {h : List (Nat × Blk)} {E : Nat} {x : Operand} {xt t : TypeId} {z : Value} (ho : o.op = .typeAssert x xt t true) (hi : isIfaceT P t = some false) (hz : zeroOf P t = some z) (hx : ρ x = .lit .nilIface) : OStep P o ρ h [] E (.tup [ofConst z, .lit (.bool false)]) h :=
  ostep_value (fun c a ok hops _ => by
    have h1 := hops x (by rw [ho]; simp [Op.operands])
    rw [hx] at h1
    have hev := h1.lit_inv
    refine ⟨.tuple #[z, .bool false], ?_, .tup _ _ rfl (fun i y hy => ?_)⟩
    · unfold isIfaceT at hi
      cases hd : P.underlying t with
      | none => rw [hd] at hi; cases hi
      | some d =>
        rw [hd] at hi
        cases d <;> simp_all [execOp, Instr.typeAssert, run_underlying hd, Sem.run_bind, run_zeroOf c.W hz]
    · match i, hy with
      | 0, hy => obtain rfl := Option.some.inj hy; exact VR.ofConst _ _
      | 1, hy => obtain rfl := Option.some.inj hy; exact .dat _ _ (.lit _)
      | i + 2, hy => simp at hy)
section
variable {P : Program} {ds : List (Option Tmp)} {T i : Nat} {o : Oper} {os : List Oper} {st : St} {acc : Log} {K : Kont} {x : Operand} {xt t : TypeId}
theorem RunTo.asYes {y : AV} (ho : o.op = .typeAssert x xt t true) (hi : isIfaceT P t = some false) (hw : wantedA ds o st.env = some true) (hx : opv st.env x = .ifc t y)
    (h : RunTo P ds T (i + 1) os (st.put o.dst (.tup [y, .lit (.bool true)])) (acc ++ [([], [])]) K) : RunTo P ds T i (o :: os) st acc K :=
  RunTo.cons ⟨.inr ⟨hw, _, st.heap, os_asYes ho hi hx, by cases st; rfl⟩, fun b _ => by rw [heap_put], fun b hb => (by cases hb)⟩ h
theorem RunTo.asNil {z : Value} (ho : o.op = .typeAssert x xt t true) (hi : isIfaceT P t = some false) (hz : zeroOf P t = some z) (hw : wantedA ds o st.env = some true) (hx : opv st.env x = .lit .nilIface)
    (h : RunTo P ds T (i + 1) os (st.put o.dst (.tup [ofConst z, .lit (.bool false)])) (acc ++ [([], [])]) K) : RunTo P ds T i (o :: os) st acc K :=
  RunTo.cons ⟨.inr ⟨hw, _, st.heap, os_asNil ho hi hz hx, by cases st; rfl⟩, fun b _ => by rw [heap_put], fun b hb => (by cases hb)⟩ h
end
end Go.Proofs.YtjihcldhjpdnmaaDoor.AM
namespace Go.Proofs.YtjihcldhjpdnmaaDoor.AM
open Go.RowKit
set_option linter.unusedVariables false
set_option linter.unusedSimpArgs false
set_option maxHeartbeats 0
abbrev DL := List (FuncId × List AV)
def DefR (c : Cx) : DL → List Deferred → Prop
  | [], [] => True
  | (g, xs) :: l, d :: ds => (d.args = #[] ∧ ∃ cap : Array Value, d.target = .fn (.func g) cap ∧ cap.size = xs.length ∧ ∀ (i : Nat) x, xs[i]? = some x → VR c x (cap.getD i undef)) ∧ DefR c l ds
  | _, _ => False
theorem DefR.mono {F N : Nat → Prop} {c c' : Cx} (ok : c.Ok) (ev : Ev F N c c') : ∀ {l : DL} {ds : List Deferred}, DefR c l ds → DefR c' l ds
  | [], [], _ => trivial
  | (g, xs) :: l, d :: ds, h => ⟨⟨h.1.1, by
      obtain ⟨cap, h1, h2, h3⟩ := h.1.2
      exact ⟨cap, h1, h2, fun i x hx => (h3 i x hx).mono ok ev⟩⟩, DefR.mono ok ev h.2⟩
  | [], _ :: _, h => h.elim
  | _ :: _, [], h => h.elim
def postD (n : Nat) (Q : Exit → DL → St → Prop) (c : Cx) : Exit → Act → World → Prop := fun ex a' w' => ∃ st' c' dl D, c'.W = w' ∧ Q ex dl st' ∧ st'.Rel ⟨n, D⟩ a' c' ∧ DefR c' dl D ∧ Ev All All c c'
def AWPD (P : Program) (n : Nat) (dl : DL) (cd : Code) (Q : Exit → DL → St → Prop) (st : St) : Prop :=
  ∀ (D : List Deferred) (a : Act) (c : Cx), st.Rel ⟨n, D⟩ a c → DefR c dl D → cd.wp P (postD n Q c) a c.W
section
variable {P : Program} {n : Nat} {dl : DL} {Q : Exit → DL → St → Prop} {st : St}
theorem awpd_of {cd : Code} (h : ∀ D, AWP P ⟨n, D⟩ cd (fun ex st' => Q ex dl st') st) : AWPD P n dl cd Q st := fun D a c hr hd =>
  wp_mono (h D a c hr) (fun e a' w' ⟨st', c', h1, h2, h3, h4⟩ => ⟨st', c', dl, D, h1, h2, h3, hd.mono hr.ok h4, h4⟩)
theorem postD_trans {c c1 : Cx} (ok : c.Ok) (ev : Ev All All c c1) {e : Exit} {a : Act} {w : World} (h : postD n Q c1 e a w) : postD n Q c e a w := by
  obtain ⟨st', c', dl, D, h1, h2, h3, h4, h5⟩ := h
  exact ⟨st', c', dl, D, h1, h2, h3, h4, (Ev.trans ok ev h5).wide (fun _ _ => trivial) (fun _ _ => trivial)⟩
def dthen (next : DL → St → Prop) (Q : Exit → DL → St → Prop) : Exit → DL → St → Prop
  | .normal, dl, st => next dl st
  | e, dl, st => Q e dl st
theorem awpd_seq {x y : Code} (h : AWPD P n dl x (dthen (fun dl' st' => AWPD P n dl' y Q st') Q) st) : AWPD P n dl (.seq x y) Q st := fun D a c hr hd => by
  refine wp_seq (wp_mono (h D a c hr hd) (fun e a1 w1 ⟨st1, c1, dl1, D1, h1, h2, h3, h4, h5⟩ => ?_))
  subst h1
  cases e with
  | normal => exact wp_mono (h2 D1 a1 c1 h3 h4) (fun e a2 w2 hp => postD_trans hr.ok h5 hp)
  | exit id => exact ⟨st1, c1, dl1, D1, rfl, h2, h3, h4, h5⟩
  | goto l => exact ⟨st1, c1, dl1, D1, rfl, h2, h3, h4, h5⟩
  | ret => exact ⟨st1, c1, dl1, D1, rfl, h2, h3, h4, h5⟩
  | panic ch => exact ⟨st1, c1, dl1, D1, rfl, h2, h3, h4, h5⟩
  | outgrown => exact ⟨st1, c1, dl1, D1, rfl, h2, h3, h4, h5⟩
theorem awpd_seqA {x y : Code} (h : ∀ D, AWP P ⟨n, D⟩ x (qthen (fun st' => AWPD P n dl y Q st') (fun e st' => Q e dl st')) st) : AWPD P n dl (.seq x y) Q st :=
  awpd_seq (awpd_of (fun D => awp_mono (fun e st' hq => by cases e <;> exact hq) (h D)))
theorem awpd_defer {id : Nat} {o1 o2 : Oper} {g : FuncId} {m : Array Operand} {t : Nat} {c0 : Call} {xs : List AV} (h1 : o1.op = .makeFunc (.func g) #[] m) (d1 : o1.dst = some t) (g1 : o1.guard = none) (h2 : o2.op = .defer c0) (hc : c0.callee = .value (.tmp t)) (ha : c0.args = #[]) (d2 : o2.dst = none) (g2 : o2.guard = none)
    (hreg : regOK n [o1, o2].toArray = true) (ht : t < n) (hxs : m.toList.map (opv st.env) = xs)
    (h : Q .normal ((g, xs) :: dl) ⟨(t, .fn (.func g) [] xs) :: st.env, st.heap, st.T + 1⟩) : AWPD P n dl (.region id [o1, o2].toArray false) Q st := fun D a c hr hd => by
  refine wp_region_list ?_
  show wpList P _ _ [o1, o2] a c.W
  refine wpList_step (fun K hK => ?_)
  have hrun : OpRun P (dsts [o1, o2].toArray) st.T o1 st [] [] (st.put o1.dst (.fn (.func g) [] xs)) := by
    refine ⟨.inr ⟨by unfold wantedA; rw [g1], _, st.heap, os_makeFunc h1, ?_⟩, fun b _ => by rw [heap_put], fun b hb => (by cases hb)⟩
    cases st
    simp only [hxs]
    rfl
  refine op_step (regOK_spec hreg 0 o1 rfl) hrun hr (fun _ _ => rfl) (fun _ _ => rfl) (by simp) K _ (fun a1 c1 hr1 ev1 => hK a1 c1.W ?_)
  refine wpList_step (fun K2 hK2 => ?_)
  have hv := hr1.env t ht
  simp only [d1, if_true, St.put, aget] at hv
  rw [if_pos (by unfold Region.wanted; rw [g2])]
  unfold Oper.wp
  generalize hev : a1.tmps.getD t undef = u at hv
  cases hv with
  | fn _ _ _ us vs s1 s2 k1 k2 =>
    obtain rfl : us = #[] := Array.eq_empty_of_size_eq_zero (by simpa using s1)
    have hrun2 : (execOp a1.eval o2).run P c1.W = .ok (.defer { target := .fn (.func g) vs, args := #[] }) c1.W := by
      simp [execOp, h2, resolve, hc, ha, Act.eval, hev, Deferred.ofValue]
    rw [hrun2]
    refine hK2 _ _ ?_
    refine ⟨⟨(t, .fn (.func g) [] xs) :: st.env, st.heap, st.T + 1⟩, c1, (g, xs) :: dl, { target := .fn (.func g) vs, args := #[] } :: D, rfl, h, ?_, ⟨⟨rfl, vs, rfl, s2, k2⟩, hd.mono hr.ok ev1⟩, ev1⟩
    rw [d2]
    refine ⟨hr1.ok, hr1.tmps, by show _ :: a1.defers = _ :: D; rw [hr1.defers], fun k hk => ?_, fun b blk hb => ?_, fun e he => ?_⟩
    · have := hr1.env k hk
      simp only [d1, St.put] at this
      show VR c1 (aget ((t, .fn (.func g) [] xs) :: st.env) k) (a1.tmps.getD k undef)
      simp only [aget] at this ⊢
      by_cases hk' : t = k
      · subst hk'; simpa using this
      · simpa [hk'] using this
    · exact hr1.heap b blk (by simpa using hb)
    · rcases hr1.used e he with h1 | h1
      · exact Nat.lt_succ_of_lt h1
      · show e < st.T + 1; omega
def DefC (P : Program) (g : FuncId) (u : FrameMode) (xs : List AV) (T : Nat) (h : List (Nat × Blk)) (u' : FrameMode) (h' : List (Nat × Blk)) : Prop :=
  (∃ fg, P.funcs[g]? = some fg ∧ fg.body.isNone = false ∧ (fg.name == "runtime.NumGoroutine") = false) ∧ ∀ (c : Cx) (us : Array Value), c.Ok → (∀ e, c.U e → e < T) → us.size = xs.length → (∀ (i : Nat) x, xs[i]? = some x → VR c x (us.getD i undef)) → (∀ b blk, hget h b = some blk → BR c b blk) →
    CallsD P g us u c.W fun e u2 W' => ∃ v c', e = .returned v ∧ u2 = u' ∧ c'.W = W' ∧ c'.Ok ∧ Ev All All c c' ∧ (∃ T', ∀ e, c'.U e → e < T') ∧ ∀ b blk, hget h' b = some blk → BR c' b blk
def EndD (P : Program) (rs : List ResultVar) (v : AV) : Exit → DL → St → Prop := fun ex dl st =>
  (dl = [] ∧ (ex = .ret ∨ ex = .normal) ∧ retV P rs st = some v) ∨
  ∃ g xs u u' h', dl = [(g, xs)] ∧ ((ex = .ret ∨ ex = .normal) ∧ u = .returning ∨ ∃ ch, ex = .panic ch ∧ u = .panicking ch) ∧ DefC P g u xs st.T st.heap u' h' ∧ settle u' = .returning ∧ ∀ T', retV P rs ⟨st.env, h', T'⟩ = some v
end
theorem pure_of_awpd {P : Program} {f : FuncId} {fn : Func} {cd : Code} {args : List AV} {v : AV} (hf : P.funcs[f]? = some fn) (hb : fn.body = some cd) (ht : (fn.results.toList.all fun r => resTmp r < fn.ntmps) = true) (hn : args.length ≤ fn.ntmps)
    (h : AWPD P fn.ntmps [] cd (EndD P fn.results.toList v) { env := envOf 0 args, heap := [], T := 0 }) : Pure P f args v := fun W X us hX hG hus hargs => by
  refine calls_of_wp_defers hf hb ?_
  have hrel : ({ env := envOf 0 args, heap := [], T := 0 } : St).Rel fn.ntmps { tmps := us ++ Array.replicate (fn.ntmps - us.size) undef, defers := [] } (bare W X) := by
    refine ⟨⟨fun b b' L L' r h => (by cases h), fun b L r h => (by cases h), hX, fun b L h => (by cases h), hG⟩, by simp; omega, rfl, fun k hk => ?_, fun b blk h => by simp [hget] at h, fun e h => h.elim⟩
    rw [aget_envOf]
    split
    · rename_i hlt
      have h1 : k < args.length := by omega
      have h2 := hargs k _ (List.getElem?_eq_getElem h1)
      have e : (us ++ Array.replicate (fn.ntmps - us.size) undef).getD k undef = us.getD k undef := by
        rw [Array.getD_eq_getD_getElem?, Array.getElem?_append_left (by omega), Array.getD_eq_getD_getElem?]
      rw [e, Nat.sub_zero, List.getD_eq_getElem?_getD, List.getElem?_eq_getElem h1]
      exact h2
    · exact .top _
  have fin : ∀ (st' : St) (a' : Act) (c' : Cx) , st'.Rel fn.ntmps a' c' → Ev All All (bare W X) c' → retV P fn.results.toList st' = some v → ∃ u, (results fn a'.tmps).run P c'.W = .ok u c'.W ∧ ∃ u', Ending.returned u = Ending.returned u' ∧ Below W.heap.size W c'.W ∧ VR (bare c'.W X) v u' := fun st' a' c' hr' ev hv => by
    have hX' : Ends c' X := ⟨fun k hk hs hx => hk (ev.x2 k hx (fun b L _ hL => (by cases hL))), fun b L r hL hr hx => by
      rcases ev.blk b L r trivial hL hr with ⟨_, _, _, h0, _⟩ | h0
      · cases h0
      · have := hX r hx; have h2 : W.heap.size ≤ r := h0; omega⟩
    obtain ⟨u, hres, hvr, _⟩ := ret_run hr' hX' (fun r hr => by simpa using List.all_eq_true.1 ht r hr) hv
    exact ⟨u, hres, u, rfl, ⟨ev.os, ev.tape, ev.output, ev.size, fun k hk => ev.keep k hk (fun b L _ hL => (by cases hL))⟩, hvr⟩
  refine wp_mono (h [] _ (bare W X) hrel trivial) (fun ex a' w' ⟨st', c', dl, D, hw, hend, hr', hd, ev⟩ => ?_)
  subst hw
  rcases hend with ⟨rfl, hex, hv⟩ | ⟨g, xs, u, u', h', rfl, hex, hdc, hset, hv⟩
  · have hD : D = [] := by cases D with | nil => rfl | cons _ _ => exact hd.elim
    subst hD
    obtain ⟨w, h1, h2⟩ := fin st' a' c' hr' ev hv
    rcases hex with rfl | rfl
    · show Go.Leaves P fn a'.tmps _ a'.defers .returning c'.W
      rw [hr'.defers]
      exact ⟨w, h1, h2⟩
    · show Go.Leaves P fn a'.tmps _ a'.defers .returning c'.W
      rw [hr'.defers]
      exact ⟨w, h1, h2⟩
  · obtain ⟨d, hD⟩ : ∃ d, D = [d] := by
      cases D with
      | nil => exact hd.elim
      | cons d D =>
        cases D with
        | nil => exact ⟨d, rfl⟩
        | cons _ _ => exact hd.2.elim
    subst hD
    obtain ⟨⟨e1, cap, e2, e3, e4⟩, _⟩ := hd
    have key : u ≠ .run → Go.Leaves P fn a'.tmps (fun e w' => ∃ u, e = Ending.returned u ∧ Below W.heap.size W w' ∧ VR (bare w' X) v u) [d] u c'.W := fun hne => by
      obtain ⟨dt, da⟩ := d
      simp only at e1 e2
      subst e1 e2
      obtain ⟨⟨fg, q1, q2, q3⟩, hdc⟩ := hdc
      refine leaves_cons (f := g) (args := cap) hne ?_ ?_
      · have hng' : ¬ fg.name = "runtime.NumGoroutine" := by simpa using q3
        have hb' : ¬ fg.body = none := fun e => by rw [e] at q2; cases q2
        simp [invoke, callFunc, q1, hb', hng']
      · refine (hdc c' cap hr'.ok hr'.used e3 e4 hr'.heap).mono ?_
        rintro e u2 W' ⟨v0, c2, rfl, rfl, rfl, ok2, ev2, ⟨T', hT'⟩, hblk2⟩
        show Go.Leaves P fn a'.tmps _ [] (settle u2) c2.W
        rw [hset]
        have evt := (Ev.trans (show (bare W X).Ok from hrel.ok) ev ev2).wide (F' := All) (N' := All) (fun _ _ => trivial) (fun _ _ => trivial)
        have hr2 : (⟨st'.env, h', T'⟩ : St).Rel fn.ntmps { a' with defers := [] } c2 :=
          ⟨ok2, hr'.tmps, rfl, fun t ht => (hr'.env t ht).mono hr'.ok ev2, hblk2, hT'⟩
        obtain ⟨w, h1, h2⟩ := fin _ _ c2 hr2 evt (hv T')
        exact ⟨w, h1, h2⟩
    rcases hex with ⟨hex, rfl⟩ | ⟨ch, rfl, rfl⟩
    · have k := key (by intro h; cases h)
      have hde : a'.defers = [d] := hr'.defers
      rcases hex with rfl | rfl
      · show Go.Leaves P fn a'.tmps _ a'.defers .returning c'.W
        rw [hde]; exact k
      · show Go.Leaves P fn a'.tmps _ a'.defers .returning c'.W
        rw [hde]; exact k
    · have k := key (by intro h; cases h)
      have hde : a'.defers = [d] := hr'.defers
      show Go.Leaves P fn a'.tmps _ a'.defers (.panicking ch) c'.W
      rw [hde]; exact k
theorem wpOpsS_step {P : Program} {ops : Array Oper} {Q : Exit → Act → List Frame → World → Prop} {i : Nat} {rest : List Nat} {o : Oper} {a : Act} {cs : List Frame} {w : World} (ho : ops[i]? = some o)
    (h : ∀ K : Act → World → Prop, (∀ a w, wpOpsS P ops Q rest a cs w → K a w) → if Region.wanted o (yielded ops a.tmps) = true then o.wp P a w K (fun e a' w' => Q e a' cs w') else K (a.put o.dst undef) w) : wpOpsS P ops Q (i :: rest) a cs w := by
  have h1 := h _ (fun _ _ h => h)
  unfold wpOpsS
  rw [ho]
  simp only
  split
  · rename_i hw
    rw [if_pos hw] at h1
    unfold Oper.wp at h1
    split
    · rename_i w' hr
      rw [hr] at h1
      exact h1.elim
    · exact h1
  · rename_i hw
    rw [if_neg hw] at h1
    exact h1
theorem text_preS {P : Program} {nt : Nt} {ops : Array Oper} {Q : Exit → Act → List Frame → World → Prop} {cs : List Frame} (T : Nat) : ∀ (os : List Oper) (i : Nat) (sts : Nat → St) (F Wr : Nat → List Nat), (∀ (j : Nat) (o : Oper), os[j]? = some o → ops[i + j]? = some o) →
    (∀ (j : Nat) (o : Oper), os[j]? = some o → ∀ t ∈ o.looksAt ops, t < nt.n) → (∀ (j : Nat) (o : Oper), os[j]? = some o → OpRun P (dsts ops) (T + i + j) o (sts j) (F j) (Wr j) (sts (j + 1))) →
    ∀ a c, Rel nt (aget (sts 0).env) (hget (sts 0).heap) (fun e => e < T + i) a c →
      (∀ a' c', Rel nt (aget (sts os.length).env) (hget (sts os.length).heap) (fun e => e < T + i + os.length) a' c' → Ev All All c c' → Q .normal a' cs c'.W) → wpOpsS P ops Q (List.range' i os.length) a cs c.W := by
  intro os
  induction os with
  | nil => intro i sts F Wr _ _ _ a c hr hQ; exact hQ a c hr (Ev.refl _ _ _)
  | cons o os ih =>
    intro i sts F Wr hat hlk h a c hr hQ
    rw [List.length_cons, List.range'_succ]
    refine wpOpsS_step (by have := hat 0 o rfl; rwa [Nat.add_zero] at this) (fun K hK => ?_)
    have h0 := h 0 o rfl
    refine op_step (hlk 0 o rfl) h0 hr (fun _ _ => rfl) (fun _ _ => rfl) (by simp) K _ (fun a' c' hr' ev => hK a' c'.W ?_)
    refine ih (i + 1) (fun j => sts (j + 1)) (fun j => F (j + 1)) (fun j => Wr (j + 1)) (fun j o' hj => by have := hat (j + 1) o' (by simpa using hj); rwa [show i + (j + 1) = i + 1 + j by omega] at this) (fun j o' hj => hlk (j + 1) o' (by simpa using hj)) (fun j o' hj => ?_) a' c' ?_ (fun a'' c'' hr'' ev' => hQ a'' c'' ?_ ?_)
    · have := h (j + 1) o' (by simpa using hj)
      rw [show T + i + (j + 1) = T + (i + 1) + j by omega] at this
      exact this
    · refine ⟨hr'.ok, hr'.tmps, hr'.defers, fun t ht => ?_, fun b blk hb => ?_, fun e he => ?_⟩
      · have h1 := hr'.env t ht
        by_cases hd : o.dst = some t
        · simp only [if_pos hd] at h1; exact h1
        · simp only [if_neg hd] at h1
          rcases h0.run with ⟨_, hst, _, _⟩ | ⟨_, v, h', _, hst⟩
          · rw [hst, aget_put, if_neg hd]; exact h1
          · rw [hst, aget_put, if_neg hd]; exact h1
      · refine hr'.heap b blk ?_
        by_cases hbW : b ∈ Wr 0
        · simp only [if_pos hbW]; exact hb
        · simp only [if_neg hbW]; rw [← h0.wr b hbW]; exact hb
      · show e < T + (i + 1)
        rcases hr'.used e he with h1 | h1 <;> omega
    · refine ⟨hr''.ok, hr''.tmps, hr''.defers, hr''.env, hr''.heap, fun e he => ?_⟩
      have := hr''.used e he
      rw [List.length_cons]
      omega
    · exact ((Ev.trans hr.ok ev ev').wide (fun _ _ => trivial) (fun _ _ => trivial))
def Recs (u : FrameMode) (x : AV) (u' : FrameMode) : Prop :=
  (∃ v, u = .panicking (pch v) ∧ conc x = some v ∧ u' = .panicking [{ v := v, recovered := true }]) ∨ (u = .returning ∧ x = .lit .nilIface ∧ u' = .returning)
def kRec (P : Program) (n : Nat) (cd : Code) (h' : List (Nat × Blk)) (T : Nat) : Kont := ⟨fun st2 _ => AWP P n cd (fun ex st3 => (ex = .ret ∨ ex = .normal) ∧ st3.heap = h') { st2 with T := T }, fun _ _ _ _ => False⟩
theorem RunTo.nilR {P : Program} {ds : List (Option Tmp)} {T i T0 n : Nat} {acc : Log} {cd : Code} {h' : List (Nat × Blk)} {st : St} (h : AWP P n cd (fun ex st3 => (ex = .ret ∨ ex = .normal) ∧ st3.heap = h') { st with T := T0 }) : RunTo P ds T i [] st acc (kRec P n cd h' T0) := RunTo.nil h
theorem defc_of_awp {P : Program} {g : FuncId} {fn : Func} {id : Nat} {o0 : Oper} {l : List Oper} {cd : Code} {c0 : Call} {t0 T : Nat} {u u' : FrameMode} {x : AV} {xs : List AV} {h h' : List (Nat × Blk)} (hf : P.funcs[g]? = some fn) (hb : fn.body = some (.seq (.region id (o0 :: l).toArray false) cd)) (hng : (fn.name == "runtime.NumGoroutine") = false)
    (ho : o0.op = .call c0) (hc : c0.callee = .builtin .recover) (hca : c0.args = #[]) (hd : o0.dst = some t0) (hg : o0.guard = none) (hres : fn.results = #[]) (hreg : regOK fn.ntmps (o0 :: l).toArray = true) (hn : xs.length ≤ fn.ntmps) (ht0 : t0 < fn.ntmps) (hu : Recs u x u')
    (hw : RunTo P ((o0 :: l).map (·.dst)) T 1 l ⟨(t0, x) :: envOf 0 xs, h, T⟩ [([], [])] (kRec P fn.ntmps cd h' (T + (l.length + 1)))) : DefC P g u xs T h u' h' := by
  refine ⟨⟨fn, hf, by rw [hb]; rfl, hng⟩, fun c us ok hU hus hargs hblk => ?_⟩
  refine callsD_of_wpS hf hb (fun f0 cs hu0 => wpS_seq (wpS_region ?_))
  have hsz : (o0 :: l).toArray.size = l.length + 1 := by simp
  rw [hsz, List.range_eq_range', List.range'_succ]
  unfold wpOpsS
  have h00 : (o0 :: l).toArray[0]? = some o0 := rfl
  rw [h00]
  simp only
  rw [if_pos (by unfold Region.wanted; rw [hg])]
  have hrun : (execOp (Act.eval { tmps := us ++ Array.replicate (fn.ntmps - us.size) undef, defers := [] }) o0).run P c.W = .ok .recover c.W := by
    simp [execOp, ho, resolve, hc, hca, invoke, builtin]
  rw [hrun]
  simp only
  have hcs : ∃ v cs', (recoverD (f0 :: cs) = some (v, cs') ∨ (recoverD (f0 :: cs) = none ∧ v = .nilIface ∧ cs' = f0 :: cs)) ∧ VR c x v ∧ cs' = { f0 with mode := u' } :: cs := by
    rcases hu with ⟨v, rfl, hx, rfl⟩ | ⟨rfl, rfl, rfl⟩
    · exact ⟨v, _, .inl (by simp [recoverD, hu0]), conc_rel c hx, rfl⟩
    · exact ⟨.nilIface, _, .inr ⟨by simp [recoverD, hu0], rfl, rfl⟩, .dat _ _ (.lit _), by rw [← hu0]⟩
  obtain ⟨v, cs', hrec, hvx, hcs'⟩ := hcs
  have main : wpOpsS P (o0 :: l).toArray (Exit.thenS (cd.wpS P (bodyPostS P fn f0 cs fun e u2 W' => ∃ v c', e = .returned v ∧ u2 = u' ∧ c'.W = W' ∧ c'.Ok ∧ Ev All All c c' ∧ (∃ T', ∀ e, c'.U e → e < T') ∧ ∀ b blk, hget h' b = some blk → BR c' b blk)) (bodyPostS P fn f0 cs fun e u2 W' => ∃ v c', e = .returned v ∧ u2 = u' ∧ c'.W = W' ∧ c'.Ok ∧ Ev All All c c' ∧ (∃ T', ∀ e, c'.U e → e < T') ∧ ∀ b blk, hget h' b = some blk → BR c' b blk))
      (List.range' 1 l.length) (Act.put { tmps := us ++ Array.replicate (fn.ntmps - us.size) undef, defers := [] } o0.dst v) cs' c.W := by
    rcases hw with ⟨lg, st2, k1, k2⟩ | ⟨_, _, _, _, _, _, _, _, _, _, _, k⟩
    · obtain ⟨sts, q0, q1, q2⟩ := k1.fns
      refine text_preS (nt := fn.ntmps) T l 1 sts (fun j => (lg.getD j ([], [])).1) (fun j => (lg.getD j ([], [])).2) (fun j o hj => by rw [Nat.add_comm]; simpa using hj) (fun j o hj => regOK_spec hreg (j + 1) o (by simpa using hj)) (fun j o hj => q2 j o hj) _ c ?_ (fun a' c' hr' ev => ?_)
      · rw [q0, hd]
        refine ⟨ok, by simp [Act.put]; omega, rfl, fun k hk => ?_, hblk, fun e he => Nat.lt_succ_of_lt (hU e he)⟩
        simp only [aget]
        by_cases hkt : t0 = k
        · subst hkt
          rw [if_pos rfl]
          have e : (Act.put { tmps := us ++ Array.replicate (fn.ntmps - us.size) undef, defers := [] } (some t0) v).tmps.getD t0 undef = v := put_at _ _ _ (by simp; omega)
          rw [e]; exact hvx
        · rw [if_neg hkt, put_ne _ _ _ _ (fun e => hkt (Option.some.inj e))]
          rw [aget_envOf]
          split
          · rename_i hlt
            have h1 : k < xs.length := by omega
            have h2 := hargs k _ (List.getElem?_eq_getElem h1)
            have e : (us ++ Array.replicate (fn.ntmps - us.size) undef).getD k undef = us.getD k undef := by
              rw [Array.getD_eq_getD_getElem?, Array.getElem?_append_left (by omega), Array.getD_eq_getD_getElem?]
            rw [e, Nat.sub_zero, List.getD_eq_getElem?_getD, List.getElem?_eq_getElem h1]
            exact h2
          · exact .top _
      · refine wpS_of_wp ?_
        have k3 : AWP P fn.ntmps cd (fun ex st3 => (ex = .ret ∨ ex = .normal) ∧ st3.heap = h') { st2 with T := T + (l.length + 1) } := k2
        have hr2 : ({ st2 with T := T + (l.length + 1) } : St).Rel fn.ntmps a' c' := by
          rw [← q1]
          exact ⟨hr'.ok, hr'.tmps, hr'.defers, hr'.env, hr'.heap, fun e he => by have := hr'.used e he; show e < T + (l.length + 1); omega⟩
        refine wp_mono (k3 a' c' hr2) (fun e a3 w3 ⟨st3, c3, w1, ⟨w2, w4⟩, w5, w6⟩ => ?_)
        subst w1
        obtain ⟨v', hv', _⟩ := raw_run (fn := fn) w5 (by rw [hres]; simp) (v := .tup []) (by rw [hres]; rfl)
        have hR : ∃ v c', Ending.returned v' = Ending.returned v ∧ u' = u' ∧ c'.W = c3.W ∧ c'.Ok ∧ Ev All All c c' ∧ (∃ T', ∀ e, c'.U e → e < T') ∧ ∀ b blk, hget h' b = some blk → BR c' b blk :=
          ⟨v', c3, rfl, rfl, rfl, w5.ok, (Ev.trans ok ev w6).wide (fun _ _ => trivial) (fun _ _ => trivial), ⟨st3.T, w5.used⟩, fun b blk hb => w5.heap b blk (by rw [w4]; exact hb)⟩
        rcases w2 with rfl | rfl
        · exact ⟨w5.defers, u', hcs', v', hv', hR⟩
        · exact ⟨w5.defers, u', hcs', v', hv', hR⟩
    · exact k.elim
  rcases hrec with h1 | ⟨h1, rfl, rfl⟩
  · rw [h1]; exact main
  · rw [h1]; exact main
end Go.Proofs.YtjihcldhjpdnmaaDoor.AM
