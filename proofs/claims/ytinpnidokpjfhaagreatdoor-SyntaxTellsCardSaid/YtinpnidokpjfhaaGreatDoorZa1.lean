/- Part 1 of the proof: words, contracts, plain laws. Laid by a program of this session (wip/tool/shake.py): what is needed of own and printed texts, in order. -/
import Derived.Test.YtinpnidokpjfhaaGreatDoorZa0
import Derived.Calls
import Derived.Lib.ItoaNum
import Derived.Orders
import Derived.Tactics
import Derived.Below
import Derived.Laws.Rows
import Derived.Laws.World
import Derived.Laws.CopyRow
import Derived.Lib.FrozenHead
import Derived.RegionTactic
import Derived.Deep.AppendSrc
import Derived.Deep.Upon
import Derived.Laws.BytesArg
import Derived.MapKept
namespace Go.Proofs.YtinpnidokpjfhaaGreatDoor.AM
open Go.RowKit
set_option linter.unusedVariables false
set_option linter.unusedSimpArgs false
section
variable {P : Program} {nt : Nt} {Q : Exit → St → Prop} {st : St}
theorem Closed.rel {x : AV} (hx : Closed x) {c c' : Cx} {u : Value} (hv : VR c x u) (h1 : c'.W = c.W) (h2 : ∀ k, ¬ c.X k → k < c.W.heap.size → ¬ c'.X k) : VR c' x u := by
  have md : ∀ {d : Dat} {u : Value}, DR c.W c.X d u → DR c'.W c'.X d u := fun {d u} hd => hd.mono (by rw [h1]; exact Nat.le_refl _) (fun k hk hs => ⟨by rw [h1], h2 k hk hs⟩)
  induction hv with
  | top u => cases hx
  | dat d u hd => exact .dat d u (md hd)
  | fp cs k o f hk hs hf hone hv => exact .fp cs k o f (h2 k hk hs) (by rw [h1]; exact hs) (fun j v hj => by rw [h1]; exact hf j v hj) hone (fun j v hj => md (hv j v hj))
  | ptr => cases hx
  | slc => cases hx
  | mp => cases hx
  | fn f first captured us vs e1 e2 k1 k2 i1 i2 =>
    cases hx with
    | fn _ _ _ hc1 hc2 => exact .fn f first captured us vs e1 e2 (fun i y hy => i1 i y hy (hc1 y (List.mem_of_getElem? hy))) (fun i y hy => i2 i y hy (hc2 y (List.mem_of_getElem? hy)))
  | agg cs us e1 k1 i1 =>
    cases hx with
    | agg _ hc => exact .agg cs us e1 (fun i y hy => i1 i y hy (hc y (List.mem_of_getElem? hy)))
  | tup cs us e1 k1 i1 =>
    cases hx with
    | tup _ hc => exact .tup cs us e1 (fun i y hy => i1 i y hy (hc y (List.mem_of_getElem? hy)))
  | ifc t x u h ih =>
    cases hx with
    | ifc _ _ hc => exact .ifc t x u (ih hc)
def Pure (P : Program) (f : FuncId) (args : List AV) (v : AV) : Prop :=
  ∀ (W : World) (X : Nat → Prop) (us : Array Value), (∀ k, X k → k < W.heap.size) → Glob W X → us.size = args.length → (∀ (i : Nat) x, args[i]? = some x → VR (bare W X) x (us.getD i undef)) →
    Calls P f us W fun e W' => ∃ u, e = .returned u ∧ Below W.heap.size W W' ∧ VR (bare W' X) v u
def envOf : Nat → List AV → List (Nat × AV)
  | _, [] => []
  | i, x :: l => (i, x) :: envOf (i + 1) l
theorem aget_envOf : ∀ (l : List AV) (i t : Nat), aget (envOf i l) t = if i ≤ t ∧ t < i + l.length then l.getD (t - i) .top else .top
  | [], i, t => by simp [envOf, aget]
  | x :: l, i, t => by
    simp only [envOf, aget, aget_envOf l (i + 1) t]
    by_cases h : i = t
    · subst h; simp
    · rw [if_neg h]
      by_cases h2 : i + 1 ≤ t ∧ t < i + 1 + l.length
      · rw [if_pos h2, if_pos ⟨by omega, by simp; omega⟩, show t - i = (t - (i + 1)) + 1 by omega, List.getD_cons_succ]
      · rw [if_neg h2, if_neg (by simp; omega)]
theorem os_pure {o : Oper} {ρ : Operand → AV} {h : List (Nat × Blk)} {E : Nat} {v : AV} {f : FuncId} {fn : Func} {c0 : Call} (ho : o.op = .call c0) (hcal : c0.callee = .value (.func f)) (hf : P.funcs[f]? = some fn) (hb : fn.body.isNone = false) (hng : (fn.name == "runtime.NumGoroutine") = false)
    {args : List AV} (hargs : c0.args.toList.map ρ = args) (hcl : ∀ x ∈ args, Closed x) (hvc : Closed v) (hp : Pure P f args v) : OStep P o ρ h [] E v h := by
  intro c a ok hops hblk hE K Q hK
  subst hargs
  unfold Oper.wp
  have hrun : (execOp a.eval o).run P c.W = .ok (.enter f (c0.args.map a.eval)) c.W := by
    have hng' : ¬ fn.name = "runtime.NumGoroutine" := by simpa using hng
    have hb' : ¬ fn.body = none := fun e => by rw [e] at hb; cases hb
    simp [execOp, ho, resolve, hcal, Act.eval, Deferred.ofValue, invoke, callFunc, hf, hb', hng']
  rw [hrun]
  refine (hp c.W c.X (c0.args.map a.eval) ok.bnd ok.glob (by simp) (fun i x hx => ?_)).mono ?_
  · have hx' := hx
    rw [List.getElem?_map] at hx
    cases hy : c0.args.toList[i]? with
    | none => rw [hy] at hx; cases hx
    | some y =>
      rw [hy] at hx
      obtain rfl := Option.some.inj hx
      have hm : y ∈ o.op.operands.toList := by
        rw [ho]
        have := List.mem_of_getElem? hy
        simp [Op.operands, Call.operands, hcal]
        exact .inr (Array.mem_toList_iff.1 this)
      have e : (c0.args.map a.eval).getD i undef = a.eval y := by
        rw [Array.getElem?_toList] at hy
        simp [Array.getD_eq_getD_getElem?, hy]
      rw [e]
      exact (hcl _ (List.mem_of_getElem? hx')).rel (hops y hm) rfl (fun _ hk _ => hk)
  · rintro e W' ⟨u, rfl, hbel, hv⟩
    have ev : Ev (· ∈ ([] : List Nat)) (· = E) c (c.wrote W') := ⟨hbel.os, hbel.tape, hbel.output, hbel.size, fun k hk _ => hbel.block k hk, fun _ h => .inl h, fun _ h _ => h, fun _ _ h _ => h, fun _ _ => rfl, fun b L r hF => by simp at hF, fun _ h => h, fun _ h => .inl h⟩
    refine hK u (c.wrote W') ⟨ok.inj, ok.sub, fun k hk => Nat.lt_of_lt_of_le (ok.bnd k hk) hbel.size, ok.used, glob_kept ok (fun k hk hs => ⟨hbel.block k hs, hk⟩)⟩ ev ?_ (fun b hb => by simp at hb)
    exact hvc.rel hv rfl (fun _ hk _ => hk)
end
end Go.Proofs.YtinpnidokpjfhaaGreatDoor.AM
namespace Go.Proofs.YtinpnidokpjfhaaGreatDoor.AM
open Go.RowKit
set_option linter.unusedVariables false
set_option linter.unusedSimpArgs false
def aint (op : BinOp) (k : IntKind) (a b : Int) : Option Value := match op with
  | .add => some (.int k (k.wrap (a + b)))
  | .sub => some (.int k (k.wrap (a - b)))
  | .mul => some (.int k (k.wrap (a * b)))
  | .eql => some (.bool (a == b))
  | .neq => some (.bool (a != b))
  | .lss => some (.bool (decide (a < b)))
  | .leq => some (.bool (decide (a ≤ b)))
  | .gtr => some (.bool (decide (a > b)))
  | .geq => some (.bool (decide (a ≥ b)))
  | .quo => if b = 0 then none else some (.int k (k.wrap (a.tdiv b)))
  | .rem => if b = 0 then none else some (.int k (a.tmod b))
  | .and => some (.int k (k.wrap ((BitVec.ofInt k.bits a &&& BitVec.ofInt k.bits b).toNat)))
  | .or => some (.int k (k.wrap ((BitVec.ofInt k.bits a ||| BitVec.ofInt k.bits b).toNat)))
  | .xor => some (.int k (k.wrap ((BitVec.ofInt k.bits a ^^^ BitVec.ofInt k.bits b).toNat)))
  | _ => none
def astr (op : BinOp) (a b : ByteArray) : Option Value := match op with
  | .add => if a.size + b.size ≤ 9223372036854775807 then some (.string (a ++ b)) else none
  | .eql => some (.bool (a.toList == b.toList))
  | .neq => some (.bool (!(a.toList == b.toList)))
  | .lss => some (.bool (Op.bytesLess a.toList b.toList))
  | .leq => some (.bool (Op.bytesLess a.toList b.toList || a.toList == b.toList))
  | .gtr => some (.bool (!(Op.bytesLess a.toList b.toList || a.toList == b.toList)))
  | .geq => some (.bool (!(Op.bytesLess a.toList b.toList)))
  | _ => none
def afloat (op : BinOp) (k : FloatKind) (a b : Nat) : Option Value := match op with
  | .eql => some (.bool (k.format.order a b == some .eq))
  | .neq => some (.bool (k.format.order a b != some .eq))
  | .lss => some (.bool (k.format.order a b == some .lt))
  | .leq => some (.bool (k.format.order a b == some .lt || k.format.order a b == some .eq))
  | .gtr => some (.bool (k.format.order a b == some .gt))
  | .geq => some (.bool (k.format.order a b == some .gt || k.format.order a b == some .eq))
  | _ => none
def ashift (op : BinOp) (k : IntKind) (a b : Int) : Option Value := if b < 0 then none else match op with
  | .shl => some (.int k (k.wrap (a * 2 ^ (min b.toNat k.bits))))
  | .shr => some (.int k (a.fdiv (2 ^ (min b.toNat k.bits))))
  | _ => none
def abool (P : Program) (t : TypeId) (op : BinOp) (a b : Bool) : Option Value := match P.underlying t, op with
  | some .bool, .eql => some (.bool (a == b))
  | some .bool, .neq => some (.bool (!(a == b)))
  | _, _ => none
def abin (P : Program) (t : TypeId) (op : BinOp) (x y : Value) : Option Value := match x, y with
  | .int k a, .int k' b => match op with
    | .shl => ashift .shl k a b
    | .shr => ashift .shr k a b
    | _ => if k = k' then aint op k a b else none
  | .string a, .string b => astr op a b
  | .float k a, .float k' b => if k = k' then afloat op k a b else none
  | .bool a, .bool b => abool P t op a b
  | _, _ => none
section
variable {P : Program} {o : Oper} {ρ : Operand → AV} {h : List (Nat × Blk)} {E : Nat} {v : AV}
theorem run_equal_bool {t : TypeId} (hu : P.underlying t = some .bool) (a b : Bool) (W : World) : (Op.equal t (.bool a) (.bool b)).run P W = .ok (a == b) W := by
  show (Op.equalIn (9999 + 1) t (.bool a) (.bool b)).run P W = _
  unfold Op.equalIn
  rw [Sem.run_bind, run_underlying hu]
  rfl
theorem run_abin {t : TypeId} {op : BinOp} {x y : Value} {u : Value} (W : World) (h : abin P t op x y = some u) (p q : Operand) : (do eqGuard op t p q x y; binOp op t x y : Sem Value).run P W = .ok u W := by
  unfold abin at h
  split at h
  · rename_i k a k' b
    have hg : (eqGuard op t p q (.int k a) (.int k' b)).run P W = .ok () W := by cases op <;> simp [eqGuard]
    rw [Sem.run_bind, hg, Result.andThen_ok]
    split at h
    · unfold ashift at h
      split at h
      · cases h
      · rename_i hb
        simp only [Option.some.injEq] at h
        subst h
        simp [binOp, Op.shift, hb]
    · unfold ashift at h
      split at h
      · cases h
      · rename_i hb
        simp only [Option.some.injEq] at h
        subst h
        simp [binOp, Op.shift, hb]
    · split at h
      · rename_i hk
        subst hk
        unfold aint at h
        cases op <;> simp only [Option.some.injEq, reduceCtorEq] at h <;> first
          | (subst h; simp [binOp, Op.intArith, Op.intCmp, Op.intBits]; done)
          | (split at h
             · cases h
             · rename_i hb
               simp only [Option.some.injEq] at h
               subst h
               simp [binOp, Op.intDiv, hb])
      · cases h
  · rename_i a b
    have hg : (eqGuard op t p q (.string a) (.string b)).run P W = .ok () W := by cases op <;> simp [eqGuard]
    rw [Sem.run_bind, hg, Result.andThen_ok]
    unfold astr at h
    cases op <;> simp only [Option.some.injEq, reduceCtorEq] at h <;> first
      | (subst h; simp [binOp, Op.stringOp]; done)
      | (split at h
         · rename_i hs
           simp only [Option.some.injEq] at h
           subst h
           have : ¬ (((a.size + b.size : Nat) : Int) > IntKind.i64.max) := by
             show ¬ (((a.size + b.size : Nat) : Int) > 9223372036854775807)
             omega
           simp only [binOp, Op.stringOp, if_neg this]
           rfl
         · cases h)
  · rename_i k a k' b
    have hg : (eqGuard op t p q (.float k a) (.float k' b)).run P W = .ok () W := by cases op <;> simp [eqGuard]
    rw [Sem.run_bind, hg, Result.andThen_ok]
    split at h
    · rename_i hk
      subst hk
      unfold afloat at h
      cases op <;> simp only [Option.some.injEq, reduceCtorEq] at h <;> (subst h; simp [binOp, Op.floatCmp])
    · cases h
  · rename_i a b
    have hg : (eqGuard op t p q (.bool a) (.bool b)).run P W = .ok () W := by cases op <;> simp [eqGuard]
    rw [Sem.run_bind, hg, Result.andThen_ok]
    unfold abool at h
    split at h
    · rename_i hu
      obtain rfl := Option.some.inj h
      show ((do pure (Value.bool (← Op.equal t (.bool a) (.bool b)))) : Sem Value).run P W = _
      rw [Sem.run_bind, run_equal_bool hu]
      rfl
    · rename_i hu
      obtain rfl := Option.some.inj h
      show ((do pure (Value.bool (!(← Op.equal t (.bool a) (.bool b))))) : Sem Value).run P W = _
      rw [Sem.run_bind, run_equal_bool hu]
      rfl
    · cases h
  · cases h
theorem os_bin {t t' : TypeId} {op : BinOp} {x y : Operand} {u w r : Value} (ho : o.op = .binOp op t x y t') (hx : ρ x = .lit u) (hy : ρ y = .lit w) (hr : abin P t op u w = some r) : OStep P o ρ h [] E (.lit r) h :=
  ostep_value (fun c a ok hops _ => by
    have h1 := hops x (by rw [ho]; simp [Op.operands])
    have h2 := hops y (by rw [ho]; simp [Op.operands])
    rw [hx] at h1
    rw [hy] at h2
    have e1 := h1.lit_inv
    have e2 := h2.lit_inv
    refine ⟨r, ?_, .dat _ _ (.lit r)⟩
    simp only [execOp, ho, e1, e2, Sem.run_bind, run_abin c.W hr x y, Result.andThen_ok]
    rfl)
def aun (op : UnOp) (x : Value) : Option Value := match op, x with
  | .neg, .int k n => some (.int k (k.wrap (0 - n)))
  | .neg, .float k b => some (.float k (Op.negFloat k b))
  | .not, .bool b => some (.bool (!b))
  | _, _ => none
theorem os_un {t : TypeId} {op : UnOp} {x : Operand} {u r : Value} (ho : o.op = .unOp op t x) (hx : ρ x = .lit u) (hr : aun op u = some r) : OStep P o ρ h [] E (.lit r) h :=
  ostep_value (fun c a ok hops _ => by
    have h1 := hops x (by rw [ho]; simp [Op.operands])
    rw [hx] at h1
    have e1 := h1.lit_inv
    refine ⟨r, ?_, .dat _ _ (.lit r)⟩
    unfold aun at hr
    split at hr <;> first | cases hr | skip
    all_goals
      try obtain rfl := Option.some.inj hr
      simp [execOp, ho, e1, Op.unary, Op.intArith])
theorem os_extract {x : Operand} {i : Nat} {l : List AV} (ho : o.op = .extract x i) (hx : ρ x = .tup l) (hv : l[i]? = some v) : OStep P o ρ h [] E v h :=
  ostep_value (fun c a ok hops _ => by
    have h1 := hops x (by rw [ho]; simp [Op.operands])
    rw [hx] at h1
    generalize hu : a.eval x = u at h1
    cases h1 with
    | tup _ us hs k1 =>
      have hlt : i < us.size := by rw [hs]; exact (List.getElem?_eq_some_iff.1 hv).1
      refine ⟨us[i], by simp [execOp, ho, hu, Instr.extract, hlt], ?_⟩
      have := k1 i v hv
      simpa [Array.getD_eq_getD_getElem?, hlt] using this)
theorem os_makeFunc {f : Fn} {l m : Array Operand} (ho : o.op = .makeFunc f l m) : OStep P o ρ h [] E (.fn f (l.toList.map ρ) (m.toList.map ρ)) h :=
  ostep_value (fun c a ok hops _ => by
    have key : ∀ (r : Array Operand), (∀ x ∈ r, x ∈ o.op.operands.toList) → ∀ (i : Nat) x, (r.toList.map ρ)[i]? = some x → VR c x ((r.map a.eval).getD i undef) := fun r hr i x hx => by
      rw [List.getElem?_map] at hx
      cases hy : r.toList[i]? with
      | none => rw [hy] at hx; cases hx
      | some y =>
        rw [hy] at hx
        obtain rfl := Option.some.inj hx
        have e : (r.map a.eval).getD i undef = a.eval y := by
          rw [Array.getElem?_toList] at hy
          simp [Array.getD_eq_getD_getElem?, hy]
        rw [e]
        exact hops y (hr y (Array.mem_toList_iff.1 (List.mem_of_getElem? hy)))
    refine ⟨.func f (l.map a.eval) (m.map a.eval), by simp [execOp, ho, Instr.makeFunc], .fn f _ _ _ _ (by simp) (by simp) (key l (fun x hx => ?_)) (key m (fun x hx => ?_))⟩
    · rw [ho]; simp [Op.operands, hx]
    · rw [ho]; simp [Op.operands, hx])
def isIfaceT (P : Program) (t : TypeId) : Option Bool := match P.underlying t with
  | some (.interface _) => some true
  | some _ => some false
  | none => none
theorem os_makeInterface {t : TypeId} {x : Operand} (ho : o.op = .makeInterface t x) (hi : isIfaceT P t = some false) : OStep P o ρ h [] E (.ifc t (ρ x)) h :=
  ostep_value (fun c a ok hops _ => by
    refine ⟨.iface t (a.eval x), ?_, .ifc t _ _ (hops x (by rw [ho]; simp [Op.operands]))⟩
    unfold isIfaceT at hi
    cases hd : P.underlying t with
    | none => rw [hd] at hi; cases hi
    | some d =>
      rw [hd] at hi
      cases d <;> simp_all [execOp, Instr.makeInterface, run_underlying hd])
def alen (x : AV) : Option Nat := match x with
  | .dat (.lit (.string s)) => some s.size
  | .dat (.lit (.slice none 0 0)) => some 0
  | .dat (.lst _ es) => some es.length
  | .slc _ _ _ n => some n
  | _ => none
def lenTy (P : Program) (t : TypeId) (x : AV) : Bool := match P.underlying t, x with
  | some .string, .dat (.lit (.string _)) => true
  | some (.slice _), .dat (.lit (.slice _ _ _)) => true
  | some (.slice _), .dat (.lst _ _) => true
  | some (.slice _), .slc _ _ _ _ => true
  | _, _ => false
theorem os_len {c0 : Call} {x : Operand} {t : TypeId} {n : Nat} (ho : o.op = .call c0) (h0 : c0.callee = .builtin .len) (h1 : c0.args = #[x]) (h2 : c0.argTypes = #[t]) (hn : alen (ρ x) = some n) (ht : lenTy P t (ρ x) = true) : OStep P o ρ h [] E (.lit (.int .i64 n)) h :=
  ostep_value (fun c a ok hops _ => by
    have hx := hops x (by rw [ho]; simp [Op.operands, Call.operands, h0, h1])
    refine ⟨.int .i64 n, ?_, .dat _ _ (.lit _)⟩
    have hrun : (Builtin.len_ #[t] o.type #[a.eval x]).run P c.W = .ok (.int .i64 n) c.W := by
      generalize ρ x = y at hx hn ht
      generalize a.eval x = u at hx
      unfold alen at hn
      unfold lenTy at ht
      split at hn
      · obtain rfl := Option.some.inj hn
        obtain rfl := hx.lit_inv
        split at ht <;> simp_all [Builtin.len_, run_underlying, goInt]
      · obtain rfl := Option.some.inj hn
        obtain rfl := hx.lit_inv
        split at ht <;> simp_all [Builtin.len_, run_underlying, goInt]
      · rename_i sz es
        obtain rfl := Option.some.inj hn
        cases hx with
        | dat _ _ hd =>
          cases hd with
          | lst _ _ A n cap f k o hn _ _ _ _ _ _ => split at ht <;> simp_all [Builtin.len_, run_underlying, goInt]
      · obtain rfl := Option.some.inj hn
        cases hx with
        | slc => split at ht <;> simp_all [Builtin.len_, run_underlying, goInt]
      · cases hn
    simp [execOp, ho, resolve, h0, h1, h2, invoke, builtin, hrun])
end
end Go.Proofs.YtinpnidokpjfhaaGreatDoor.AM
namespace Go.Proofs.YtinpnidokpjfhaaGreatDoor.AM
open Go.RowKit
set_option linter.unusedVariables false
set_option linter.unusedSimpArgs false
section
variable {P : Program} {o : Oper} {ρ : Operand → AV} {h : List (Nat × Blk)} {E : Nat} {v : AV}
theorem os_indexAddr_lst {t e : TypeId} {x y : Operand} {sz : Nat} {es : List (List Dat)} {k : IntKind} {i : Int} {row : List Dat} (ho : o.op = .indexAddr t x y) (he : elemT P t = some e) (hz : tsz P e = some sz) (hx : ρ x = .dat (.lst sz es)) (hy : ρ y = .lit (.int k i)) (h0 : 0 ≤ i) (hr : es[i.toNat]? = some row) :
    OStep P o ρ h [] E (.fp row) h :=
  ostep_value (fun c a ok hops _ => by
    have h1 := hops x (by rw [ho]; simp [Op.operands])
    have h2 := hops y (by rw [ho]; simp [Op.operands])
    rw [hx] at h1
    rw [hy] at h2
    have e2 := h2.lit_inv
    generalize hu : a.eval x = u at h1
    have hlt := (List.getElem?_eq_some_iff.1 hr).1
    cases h1 with
    | dat _ _ hd =>
      cases hd with
      | lst _ _ A n cap f k' o' hn hc hrow hA hf hone hv =>
        rcases hA with rfl | ⟨rfl, hk, hk2⟩
        · simp at hlt
        · have hi : i < (n : Int) := by omega
          refine ⟨.pointer (some ⟨k', o' + i.toNat * sz, none⟩), ?_, .fp _ k' _ (fun j => f i.toNat j) hk hk2 (fun j v hj => hf _ row hr j v hj) (fun j v hj => hone _ row hr j v hj) (fun j v hj => hv _ row hr j v hj)⟩
          simp [execOp, ho, hu, e2, Instr.indexAt, asIntOf, run_underlying (elem_of he), h0, hi, run_tsz c.W hz, add_at])
theorem os_indexAddr_slc {t e : TypeId} {x y : Operand} {b ep lo n sz : Nat} {ds : List (List Dat)} {k : IntKind} {i : Int} (ho : o.op = .indexAddr t x y) (he : elemT P t = some e) (hz : tsz P e = some sz) (hx : ρ x = .slc b ep lo n) (hy : ρ y = .lit (.int k i)) (h0 : 0 ≤ i) (hi : i < (n : Int)) (hb : hget h b = some (.arr ep sz ds)) :
    OStep P o ρ h [b] E (.ptr b ep (lo + i.toNat) 0) h :=
  ostep_value (fun c a ok hops hblk => by
    have h1 := hops x (by rw [ho]; simp [Op.operands])
    have h2 := hops y (by rw [ho]; simp [Op.operands])
    rw [hx] at h1
    rw [hy] at h2
    have e2 := h2.lit_inv
    generalize hu : a.eval x = u at h1
    obtain ⟨L, hL, hep, hlz, hrows, hnone, hcell⟩ := hblk b (by simp) _ hb
    cases h1 with
    | slc _ _ _ _ A cap hU hn hp =>
      rcases hp L hL hep with ⟨rfl, _⟩ | ⟨r, hr, rfl, hcap⟩
      · omega
      · refine ⟨.pointer (some ⟨r, L.base + lo * L.sz + i.toNat * sz, none⟩), ?_, .ptr _ _ _ _ _ hU (fun L' hL' he' => ?_)⟩
        · simp [execOp, ho, hu, e2, Instr.indexAt, asIntOf, run_underlying (elem_of he), h0, hi, run_tsz c.W hz, add_at]
        · rw [hL] at hL'
          obtain rfl := Option.some.inj hL'
          refine ⟨r, hr, ?_⟩
          rw [hlz, Nat.add_mul]
          simp only [Nat.add_zero, Nat.add_assoc])
theorem os_index_str {t : TypeId} {x y : Operand} {s : ByteArray} {k : IntKind} {i : Int} {b : UInt8} (ho : o.op = .index t x y) (hd : P.underlying t = some .string) (hx : ρ x = .lit (.string s)) (hy : ρ y = .lit (.int k i)) (hb : (if 0 ≤ i then s[i.toNat]? else none) = some b) :
    OStep P o ρ h [] E (.lit (.int .u8 b.toNat)) h :=
  ostep_value (fun c a ok hops _ => by
    have h1 := hops x (by rw [ho]; simp [Op.operands])
    have h2 := hops y (by rw [ho]; simp [Op.operands])
    rw [hx] at h1
    rw [hy] at h2
    have e1 := h1.lit_inv
    have e2 := h2.lit_inv
    refine ⟨_, ?_, .dat _ _ (.lit _)⟩
    simp only [execOp, ho, e1, e2, Instr.index, asIntOf]
    simp only [Sem.run_bind, Sem.run_pure, Result.andThen_ok, run_underlying hd, hb])
def abnd (ρ : Operand → AV) (d : Nat) : Option Operand → Option Nat
  | none => some d
  | some x => match ρ x with
    | .dat (.lit (.int _ i)) => if 0 ≤ i then some i.toNat else none
    | _ => none
theorem abnd_spec {x : Option Operand} {d n : Nat} (hb : abnd ρ d x = some n) {c : Cx} {a : Act} (hr : ∀ y, x = some y → VR c (ρ y) (a.eval y)) : (x = none ∧ n = d) ∨ ∃ k i, x.map a.eval = some (.int k i) ∧ 0 ≤ i ∧ i.toNat = n := by
  unfold abnd at hb
  split at hb
  · exact .inl ⟨rfl, (Option.some.inj hb).symm⟩
  · rename_i y
    split at hb
    · rename_i k i hy
      split at hb
      · rename_i h0
        have := hr y rfl
        rw [hy] at this
        exact .inr ⟨k, i, by simp [this.lit_inv], h0, Option.some.inj hb⟩
      · cases hb
    · cases hb
theorem run_bounds {a : Act} {W : World} {lo hi : Option Operand} {isS : Bool} {len cap l m : Nat} (hl : (lo = none ∧ l = 0) ∨ ∃ k i, lo.map a.eval = some (.int k i) ∧ 0 ≤ i ∧ i.toNat = l) (hh : (hi = none ∧ m = len) ∨ ∃ k i, hi.map a.eval = some (.int k i) ∧ 0 ≤ i ∧ i.toNat = m)
    (h1 : l ≤ m) (h2 : m ≤ len) (h3 : len ≤ cap) : (Instr.sliceBounds isS len cap (lo.map a.eval) (hi.map a.eval) none).run P W = .ok (l, m, cap) W := by
  have key : ∀ (k : IntKind) (i : Int) (n y : Nat) (code : BoundsCode), 0 ≤ i → i.toNat = n → n ≤ y → (Instr.sliceBound (.int k i) y code).run P W = .ok n W := fun k i n y code h0 hn hle => by
    have hi : i ≤ (y : Int) := by omega
    simp [Instr.sliceBound, asIntOf, h0, hi, hn]
  rcases hh with ⟨rfl, rfl⟩ | ⟨k, i, hm, hi0, him⟩
  · rcases hl with ⟨rfl, rfl⟩ | ⟨k', i', hm', hi0', him'⟩
    · simp [Instr.sliceBounds]
    · simp only [Instr.sliceBounds, hm', Option.map_none]
      simp [key k' i' l m .sliceB hi0' him' h1]
  · rcases hl with ⟨rfl, rfl⟩ | ⟨k', i', hm', hi0', him'⟩
    · simp only [Instr.sliceBounds, hm, Option.map_none]
      cases isS <;> simp [key k i m cap _ hi0 him (by omega)]
    · simp only [Instr.sliceBounds, hm, hm', Option.map_none]
      cases isS <;> simp [key k i m cap _ hi0 him (by omega), key k' i' l m .sliceB hi0' him' h1]
theorem os_slice_str {t : TypeId} {x : Operand} {lo hi : Option Operand} {s : ByteArray} {l m : Nat} (ho : o.op = .slice t x lo hi none) (hd : P.underlying t = some .string) (hx : ρ x = .lit (.string s)) (hl : abnd ρ 0 lo = some l) (hh : abnd ρ s.size hi = some m) (h1 : l ≤ m) (h2 : m ≤ s.size) :
    OStep P o ρ h [] E (.lit (.string (s.extract l m))) h :=
  ostep_value (fun c a ok hops _ => by
    have k1 := hops x (by rw [ho]; simp [Op.operands])
    rw [hx] at k1
    have e1 := k1.lit_inv
    have hl' := abnd_spec hl (c := c) (a := a) (fun y hy => hops y (by rw [ho, hy]; simp [Op.operands]))
    have hh' := abnd_spec hh (c := c) (a := a) (fun y hy => hops y (by rw [ho, hy]; cases lo <;> simp [Op.operands]))
    refine ⟨_, ?_, .dat _ _ (.lit _)⟩
    have := run_bounds (P := P) (a := a) (W := c.W) (isS := false) (cap := s.size) hl' hh' h1 h2 (Nat.le_refl _)
    simp [execOp, ho, e1, Instr.sliceAt, Instr.slice, run_underlying hd, this])
theorem os_slice_lst {t e : TypeId} {x : Operand} {lo hi : Option Operand} {sz : Nat} {es : List (List Dat)} {l m : Nat} (ho : o.op = .slice t x lo hi none) (he : elemT P t = some e) (hz : tsz P e = some sz) (hx : ρ x = .dat (.lst sz es)) (hl : abnd ρ 0 lo = some l) (hh : abnd ρ es.length hi = some m) (h1 : l ≤ m) (h2 : m ≤ es.length) :
    OStep P o ρ h [] E (.dat (.lst sz ((es.drop l).take (m - l)))) h :=
  ostep_value (fun c a ok hops _ => by
    have k1 := hops x (by rw [ho]; simp [Op.operands])
    rw [hx] at k1
    generalize hu : a.eval x = u at k1
    have hl' := abnd_spec hl (c := c) (a := a) (fun y hy => hops y (by rw [ho, hy]; simp [Op.operands]))
    have hh' := abnd_spec hh (c := c) (a := a) (fun y hy => hops y (by rw [ho, hy]; cases lo <;> simp [Op.operands]))
    cases k1 with
    | dat _ _ hd =>
      cases hd with
      | lst _ _ A n cap f k o' hn hc hrow hA hf hone hv =>
        subst hn
        have := run_bounds (P := P) (a := a) (W := c.W) (isS := true) (cap := cap) hl' hh' h1 h2 hc
        have hlen : m - l = ((es.drop l).take (m - l)).length := by rw [List.length_take, List.length_drop]; omega
        have hget : ∀ (i : Nat) r, ((es.drop l).take (m - l))[i]? = some r → es[l + i]? = some r := fun i r hi => by
          rw [List.getElem?_take] at hi
          split at hi
          · rwa [List.getElem?_drop] at hi
          · cases hi
        refine ⟨.slice (if cap = l then A else A.map (·.add (l * sz))) (m - l) (cap - l), ?_, .dat _ _ (.lst _ _ _ _ _ (fun i j => f (l + i) j) k (o' + l * sz) hlen (by omega) (fun r hr => ?_) ?_ (fun i r hi j v hj => ?_) (fun i r hi j v hj => hone _ r (hget i r hi) j v hj) (fun i r hi j v hj => ?_))⟩
        · simp [execOp, ho, hu, Instr.sliceAt, Instr.slice, run_underlying (elem_of he), this, run_tsz c.W hz]
        · exact hrow r (List.drop_subset _ _ (List.take_subset _ _ hr))
        · rcases hA with rfl | ⟨rfl, hk, hk2⟩
          · exact .inl (by simp)
          · by_cases hcl : cap = l
            · refine .inl ?_
              have : m - l = 0 := by omega
              rw [this]; rfl
            · refine .inr ⟨?_, hk, hk2⟩
              rw [if_neg hcl, Option.map_some, add_at]
        · have := hf _ r (hget i r hi) j v hj
          rw [Nat.add_mul] at this
          simp only [Nat.add_assoc] at this ⊢
          exact this
        · exact hv _ r (hget i r hi) j v hj)
theorem os_slice_slc {t e : TypeId} {x : Operand} {lo hi : Option Operand} {b ep lo0 n sz : Nat} {ds : List (List Dat)} {l m : Nat} (ho : o.op = .slice t x lo hi none) (he : elemT P t = some e) (hz : tsz P e = some sz) (hx : ρ x = .slc b ep lo0 n) (hb : hget h b = some (.arr ep sz ds)) (hl : abnd ρ 0 lo = some l) (hh : abnd ρ n hi = some m) (h1 : l ≤ m) (h2 : m ≤ n) :
    OStep P o ρ h [b] E (.slc b ep (lo0 + l) (m - l)) h :=
  ostep_value (fun c a ok hops hblk => by
    have k1 := hops x (by rw [ho]; simp [Op.operands])
    rw [hx] at k1
    generalize hu : a.eval x = u at k1
    have hl' := abnd_spec hl (c := c) (a := a) (fun y hy => hops y (by rw [ho, hy]; simp [Op.operands]))
    have hh' := abnd_spec hh (c := c) (a := a) (fun y hy => hops y (by rw [ho, hy]; cases lo <;> simp [Op.operands]))
    obtain ⟨L, hL, hep, hlz, hrows, hnone, hcell⟩ := hblk b (by simp) _ hb
    cases k1 with
    | slc _ _ _ _ A cap hU hn hp =>
      have := run_bounds (P := P) (a := a) (W := c.W) (isS := true) (cap := cap) hl' hh' h1 h2 hn
      refine ⟨.slice (if cap = l then A else A.map (·.add (l * sz))) (m - l) (cap - l), ?_, .slc _ _ _ _ _ _ hU (by omega) (fun L' hL' he' => ?_)⟩
      · simp [execOp, ho, hu, Instr.sliceAt, Instr.slice, run_underlying (elem_of he), this, run_tsz c.W hz]
      · rw [hL] at hL'
        obtain rfl := Option.some.inj hL'
        rcases hp L hL hep with ⟨h3, h4⟩ | ⟨r, hr, rfl, hcap⟩
        · exact .inl ⟨by omega, by omega⟩
        · by_cases hcl : cap = l
          · exact .inl ⟨by omega, by omega⟩
          · refine .inr ⟨r, hr, ?_, ?_⟩
            · rw [if_neg hcl, Option.map_some, add_at, hlz, Nat.add_mul]
              simp only [Nat.add_assoc]
            · rw [show lo0 + l + (cap - l) = lo0 + cap by omega]; exact hcap)
theorem os_slice_nil {t e : TypeId} {x : Operand} {lo hi : Option Operand} {sz : Nat} (ho : o.op = .slice t x lo hi none) (he : elemT P t = some e) (hz : tsz P e = some sz) (hx : ρ x = .lit (.slice none 0 0)) (hl : abnd ρ 0 lo = some 0) (hh : abnd ρ 0 hi = some 0) :
    OStep P o ρ h [] E (.lit (.slice none 0 0)) h :=
  ostep_value (fun c a ok hops hblk => by
    have k1 := hops x (by rw [ho]; simp [Op.operands])
    rw [hx] at k1
    have e1 := k1.lit_inv
    have hl' := abnd_spec hl (c := c) (a := a) (fun y hy => hops y (by rw [ho, hy]; simp [Op.operands]))
    have hh' := abnd_spec hh (c := c) (a := a) (fun y hy => hops y (by rw [ho, hy]; cases lo <;> simp [Op.operands]))
    have := run_bounds (P := P) (a := a) (W := c.W) (isS := true) (cap := 0) hl' hh' (Nat.le_refl _) (Nat.le_refl _) (Nat.le_refl _)
    refine ⟨.slice none 0 0, ?_, .dat _ _ (.lit _)⟩
    simp [execOp, ho, e1, Instr.sliceAt, Instr.slice, run_underlying (elem_of he), this, run_tsz c.W hz])
def amm (isMax : Bool) (x y : Value) : Option Value := match x, y with
  | .int k a, .int _ b => some (.int k (if isMax then (if b > a then b else a) else (if b < a then b else a)))
  | _, _ => none
theorem os_minmax {c0 : Call} {x y : Operand} {m : Bool} {u w r : Value} (ho : o.op = .call c0) (h0 : c0.callee = .builtin (if m then .max else .min)) (h1 : c0.args = #[x, y]) (hx : ρ x = .lit u) (hy : ρ y = .lit w) (hr : amm m u w = some r) : OStep P o ρ h [] E (.lit r) h :=
  ostep_value (fun c a ok hops _ => by
    have q1 := hops x (by rw [ho]; cases m <;> simp [Op.operands, Call.operands, h0, h1])
    have q2 := hops y (by rw [ho]; cases m <;> simp [Op.operands, Call.operands, h0, h1])
    rw [hx] at q1
    rw [hy] at q2
    have e1 := q1.lit_inv
    have e2 := q2.lit_inv
    unfold amm at hr
    split at hr
    · rename_i k a' k' b'
      obtain rfl := Option.some.inj hr
      refine ⟨_, ?_, .dat _ _ (.lit _)⟩
      cases m with
      | true =>
        have h0' : c0.callee = .builtin .max := h0
        simp [execOp, ho, resolve, h0', h1, invoke, builtin, Builtin.max_, Builtin.max2, e1, e2]
      | false =>
        have h0' : c0.callee = .builtin .min := h0
        simp [execOp, ho, resolve, h0', h1, invoke, builtin, Builtin.min_, Builtin.min2, e1, e2]
    · cases hr)
theorem os_convert_int {s d : TypeId} {x : Operand} {k k' : IntKind} {n : Int} {ds : TypeDesc} (ho : o.op = .convert s d x) (hs : P.underlying s = some ds) (hd : P.underlying d = some (.int k')) (hx : ρ x = .lit (.int k n)) : OStep P o ρ h [] E (.lit (.int k' (k'.wrap n))) h :=
  ostep_value (fun c a ok hops _ => by
    have k1 := hops x (by rw [ho]; simp [Op.operands])
    rw [hx] at k1
    have e1 := k1.lit_inv
    refine ⟨_, ?_, .dat _ _ (.lit _)⟩
    simp [execOp, ho, e1, convert, run_underlying hs, run_underlying hd, Conv.intToInt])
theorem os_convert_str {s d : TypeId} {x : Operand} {b : ByteArray} (ho : o.op = .convert s d x) (hs : P.underlying s = some .string) (hd : P.underlying d = some .string) (hx : ρ x = .lit (.string b)) : OStep P o ρ h [] E (.lit (.string b)) h :=
  ostep_value (fun c a ok hops _ => by
    have k1 := hops x (by rw [ho]; simp [Op.operands])
    rw [hx] at k1
    have e1 := k1.lit_inv
    refine ⟨.string b, ?_, .dat _ _ (.lit _)⟩
    simp [execOp, ho, e1, convert, run_underlying hs, run_underlying hd])
end
end Go.Proofs.YtinpnidokpjfhaaGreatDoor.AM
namespace Go.Proofs.YtinpnidokpjfhaaGreatDoor.AM
open Go.RowKit
set_option linter.unusedVariables false
set_option linter.unusedSimpArgs false
def Cx.moved (c : Cx) (W : World) (s : Nat) (D : List Nat) (L : Loc) : Cx := { W := W, X := fun k => c.X k ∨ L.rb = some k, ι := fun b => if b = s then some L else if b ∈ D then none else c.ι b, U := fun e => c.U e ∨ e = L.ep }
structure Moves (c : Cx) (W : World) (s : Nat) (D : List Nat) (L : Loc) : Prop where
  os : W.os = c.W.os
  tape : W.tape = c.W.tape
  output : W.output = c.W.output
  size : c.W.heap.size ≤ W.heap.size
  keep : ∀ k, k < c.W.heap.size → L.rb ≠ some k → W.heap[k]? = c.W.heap[k]?
  lt : ∀ r, L.rb = some r → r < W.heap.size
  src : ∀ r, L.rb = some r → c.W.heap.size ≤ r ∨ ∃ b L0, b ∈ D ∧ c.ι b = some L0 ∧ L0.rb = some r
section
variable {c : Cx} {W : World} {s : Nat} {D : List Nat} {L : Loc}
theorem Moves.ok (ok : c.Ok) (m : Moves c W s D L) : (c.moved W s D L).Ok where
  inj := fun b b' L1 L2 r hb hb' hr1 hr2 => by
    have key : ∀ b2 L2', (c.moved W s D L).ι b2 = some L2' → b2 ≠ s → c.ι b2 = some L2' ∧ b2 ∉ D := fun b2 L2' h hn => by
      simp only [Cx.moved, if_neg hn] at h
      split at h
      · cases h
      · rename_i hD; exact ⟨h, hD⟩
    have other : ∀ b2 L2', (c.moved W s D L).ι b2 = some L2' → b2 ≠ s → L2'.rb = some r → L.rb = some r → False := fun b2 L2' h hn hr hL => by
      obtain ⟨h1, h2⟩ := key b2 L2' h hn
      rcases m.src r hL with h3 | ⟨b0, L0, hb0, h4, h5⟩
      · have := ok.bnd _ (ok.sub b2 L2' r h1 hr); omega
      · have := ok.inj b0 b2 L0 L2' r h4 h1 h5 hr
        rw [this] at hb0; exact h2 hb0
    by_cases e1 : b = s
    · by_cases e2 : b' = s
      · rw [e1, e2]
      · subst e1
        have hL : L1 = L := by simp only [Cx.moved, if_true] at hb; exact (Option.some.inj hb).symm
        exact (other b' L2 hb' e2 hr2 (by rw [← hL]; exact hr1)).elim
    · by_cases e2 : b' = s
      · subst e2
        have hL : L2 = L := by simp only [Cx.moved, if_true] at hb'; exact (Option.some.inj hb').symm
        exact (other b L1 hb e1 hr1 (by rw [← hL]; exact hr2)).elim
      · exact ok.inj b b' L1 L2 r (key b L1 hb e1).1 (key b' L2 hb' e2).1 hr1 hr2
  sub := fun b L1 r hb hr => by
    simp only [Cx.moved] at hb ⊢
    split at hb
    · obtain rfl := Option.some.inj hb; exact .inr hr
    · split at hb
      · cases hb
      · exact .inl (ok.sub b L1 r hb hr)
  bnd := fun k hk => by
    rcases hk with hk | hk
    · exact Nat.lt_of_lt_of_le (ok.bnd k hk) m.size
    · exact m.lt k hk
  used := fun b L1 hb => by
    simp only [Cx.moved] at hb ⊢
    split at hb
    · obtain rfl := Option.some.inj hb; exact .inr rfl
    · split at hb
      · cases hb
      · exact .inl (ok.used b L1 hb)
  glob := glob_kept ok (fun k hk hs => by
    have hne : L.rb ≠ some k := fun hr => by
      rcases m.src k hr with h1 | ⟨b0, L0, hb0, h4, h5⟩
      · omega
      · exact hk (ok.sub b0 L0 k h4 h5)
    exact ⟨m.keep k hs hne, fun hx => by
      rcases hx with hx | hx
      · exact hk hx
      · exact hne hx⟩)
theorem Moves.ev (ok : c.Ok) (m : Moves c W s D L) (hE : ¬ c.U L.ep) : Ev (· ∈ s :: D) (· = L.ep) c (c.moved W s D L) where
  os := m.os
  tape := m.tape
  output := m.output
  size := m.size
  keep := fun k hk ho => m.keep k hk (fun hr => by
    rcases m.src k hr with h1 | ⟨b0, L0, hb0, h4, h5⟩
    · omega
    · exact ho b0 L0 (List.mem_cons_of_mem _ hb0) h4 h5)
  x1 := fun k hk => by
    rcases hk with hk | hk
    · exact .inl hk
    · rcases m.src k hk with h1 | ⟨b0, L0, hb0, h4, h5⟩
      · exact .inr h1
      · exact .inl (ok.sub b0 L0 k h4 h5)
  x2 := fun k hk _ => .inl hk
  loc := fun b L' hb hU => by
    simp only [Cx.moved] at hb
    split at hb
    · obtain rfl := Option.some.inj hb; exact absurd hU hE
    · split at hb
      · cases hb
      · exact hb
  far := fun b hb => by
    have h1 : b ≠ s := fun e => hb (by rw [e]; simp)
    have h2 : b ∉ D := fun e => hb (List.mem_cons_of_mem _ e)
    simp only [Cx.moved, if_neg h1, if_neg h2]
  blk := fun b L' r hF hb hr => by
    simp only [Cx.moved] at hb
    split at hb
    · obtain rfl := Option.some.inj hb
      rcases m.src r hr with h1 | ⟨b0, L0, hb0, h4, h5⟩
      · exact .inr h1
      · exact .inl ⟨b0, L0, List.mem_cons_of_mem _ hb0, h4, h5⟩
    · split at hb
      · cases hb
      · exact .inl ⟨b, L', hF, hb, hr⟩
  u1 := fun e he => .inl he
  u2 := fun e he => he
end
def rowsOf (sz : Nat) (h : List (Nat × Blk)) : AV → Option (List (List Dat) × List Nat)
  | .dat (.lst s es) => if s = sz then some (es, []) else none
  | .dat (.lit (.slice none 0 0)) => some ([], [])
  | .dat (.lit (.string s)) => if sz = 1 then some (s.data.toList.map fun b => [.lit (.int .u8 b.toNat)], []) else none
  | .slc b e lo n => match hget h b with
    | some (.arr ep s ds) => if ep = e ∧ s = sz ∧ lo + n ≤ ds.length then some ((ds.drop lo).take n, [b]) else none
    | _ => none
  | _ => none
theorem flatten_take {α : Type} (ds : List (List α)) (sz : Nat) (h : ∀ r ∈ ds, r.length = sz) (lo n : Nat) : ((ds.drop lo).take n).flatten = (ds.flatten.drop (lo * sz)).take (n * sz) := by
  have hd : ∀ (ds : List (List α)) (lo : Nat), (∀ r ∈ ds, r.length = sz) → (ds.drop lo).flatten = ds.flatten.drop (lo * sz) := by
    intro ds
    induction ds with
    | nil => intro lo _; simp
    | cons d ds ih =>
      intro lo hl
      cases lo with
      | zero => simp
      | succ lo =>
        have hdl : d.length = sz := hl d List.mem_cons_self
        have e1 : d.drop ((lo + 1) * sz) = [] := List.drop_of_length_le (by rw [hdl, Nat.succ_mul]; omega)
        have e2 : (lo + 1) * sz - d.length = lo * sz := by rw [hdl, Nat.succ_mul]; omega
        rw [List.drop_succ_cons, ih lo (fun r hr => hl r (List.mem_cons_of_mem _ hr)), List.flatten_cons, List.drop_append, e1, e2, List.nil_append]
  have ht : ∀ (ds : List (List α)) (n : Nat), (∀ r ∈ ds, r.length = sz) → (ds.take n).flatten = ds.flatten.take (n * sz) := by
    intro ds
    induction ds with
    | nil => intro n _; simp
    | cons d ds ih =>
      intro n hl
      cases n with
      | zero => simp
      | succ n =>
        have hdl : d.length = sz := hl d List.mem_cons_self
        have e1 : d.take ((n + 1) * sz) = d := List.take_of_length_le (by rw [hdl, Nat.succ_mul]; omega)
        have e2 : (n + 1) * sz - d.length = n * sz := by rw [hdl, Nat.succ_mul]; omega
        rw [List.take_succ_cons, List.flatten_cons, ih n (fun r hr => hl r (List.mem_cons_of_mem _ hr)), List.flatten_cons, List.take_append, e1, e2]
  rw [ht _ n (fun r hr => h r (List.mem_of_mem_drop hr)), hd ds lo h]
theorem flatten_split {α : Type} : ∀ (es : List (List α)) (sz : Nat), (∀ r ∈ es, r.length = sz) → ∀ (j : Nat) d, es.flatten[j]? = some d → ∃ (i : Nat) (r : List α) (q : Nat), es[i]? = some r ∧ r[q]? = some d ∧ j = i * sz + q
  | [], _, _, j, d, hd => by simp at hd
  | e0 :: es, sz, hl, j, d, hd => by
    have he0 : e0.length = sz := hl e0 List.mem_cons_self
    rw [List.flatten_cons] at hd
    by_cases hjl : j < e0.length
    · rw [List.getElem?_append_left hjl] at hd
      exact ⟨0, e0, j, rfl, hd, by omega⟩
    · rw [List.getElem?_append_right (by omega)] at hd
      obtain ⟨i, r, q, h1, h2, h3⟩ := flatten_split es sz (fun r hr => hl r (List.mem_cons_of_mem _ hr)) (j - e0.length) d hd
      exact ⟨i + 1, r, q, by simpa using h1, h2, by rw [Nat.succ_mul]; omega⟩
structure Rows (P : Program) (c : Cx) (size : Nat) (t : TypeId) (rs : List (List Dat)) (u : Value) (news : List Value) : Prop where
  src : Src P size t u rs.length news c.W
  len : ∀ r ∈ rs, r.length = size
  rel : ∀ (j : Nat) d, rs.flatten[j]? = some d → VR c (.dat d) (news.getD j undef)
section
variable {P : Program} {o : Oper} {ρ : Operand → AV} {h : List (Nat × Blk)} {E : Nat} {v : AV}
theorem slice_news {c : Cx} {k o' sz : Nat} {rs : List (List Dat)} (hl : ∀ r ∈ rs, r.length = sz) (hc : ∀ (j : Nat) d, rs.flatten[j]? = some d → ∃ u, c.W.cell? ⟨k, o' + j, none⟩ = some u ∧ VR c (.dat d) u ∧ u.oneCell' = true) :
    ∃ news : List Value, news.length = rs.length * sz ∧ (∀ (j : Nat) u, news[j]? = some u → c.W.cell? ⟨k, o' + j, none⟩ = some u) ∧ (∀ (j : Nat) d, rs.flatten[j]? = some d → VR c (.dat d) (news.getD j undef)) ∧ ∀ u ∈ news, u.oneCell' = true := by
  obtain ⟨us, hus⟩ := reads_of (c := c) (k := k) (o := o') (cs := rs.flatten.map .dat) (fun j v hj => by
    rw [List.getElem?_map] at hj
    cases hx : rs.flatten[j]? with
    | none => rw [hx] at hj; cases hj
    | some d => rw [hx] at hj; obtain rfl := Option.some.inj hj; exact hc j d hx)
  exact ⟨us, by rw [hus.len, List.length_map, flatten_len rs sz hl], hus.cell, fun j d hj => hus.rel j _ (by rw [List.getElem?_map, hj]; rfl), hus.one⟩
theorem rows_len {x : AV} {rs : List (List Dat)} {F : List Nat} {sz : Nat} (hr : rowsOf sz h x = some (rs, F)) {c : Cx} {u : Value} (hv : VR c x u) (hb : ∀ b ∈ F, ∀ blk, hget h b = some blk → BR c b blk) : ∀ r ∈ rs, r.length = sz := by
  unfold rowsOf at hr
  split at hr
  · split at hr
    · rename_i hs
      subst hs
      simp only [Option.some.injEq, Prod.mk.injEq] at hr
      obtain ⟨rfl, rfl⟩ := hr
      cases hv with
      | dat _ _ hd =>
        cases hd with
        | lst _ _ A n cap f k o' hn hc hrow hA hf hone hv => exact hrow
    · cases hr
  · simp only [Option.some.injEq, Prod.mk.injEq] at hr
    obtain ⟨rfl, rfl⟩ := hr
    simp
  · split at hr
    · rename_i hs
      simp only [Option.some.injEq, Prod.mk.injEq] at hr
      obtain ⟨rfl, rfl⟩ := hr
      intro r hr
      obtain ⟨b, _, rfl⟩ := List.mem_map.1 hr
      rw [hs]; rfl
    · cases hr
  · split at hr
    · rename_i ep s ds hg
      split at hr
      · rename_i hc
        obtain ⟨rfl, rfl, hle⟩ := hc
        simp only [Option.some.injEq, Prod.mk.injEq] at hr
        obtain ⟨rfl, rfl⟩ := hr
        obtain ⟨L, hL, hep, hlz, hrows, _⟩ := hb _ (by simp) _ hg
        exact fun r hr => hrows r (List.mem_of_mem_drop (List.mem_of_mem_take hr))
      · cases hr
    · cases hr
  · cases hr
theorem rows_spec {x : AV} {rs : List (List Dat)} {F : List Nat} {sz : Nat} (hr : rowsOf sz h x = some (rs, F)) {c : Cx} {u : Value} (hv : VR c x u) (hb : ∀ b ∈ F, ∀ blk, hget h b = some blk → BR c b blk) {t : TypeId}
    (ht : (∃ e, P.underlying t = some (.slice e)) ∨ (P.underlying t = some .string ∧ sz = 1)) (hk : lenTy P t x = true) : ∃ news, Rows P c sz t rs u news := by
  have hl := rows_len hr hv hb
  unfold rowsOf at hr
  split at hr
  · rename_i sz' es
    split at hr
    case isFalse => cases hr
    rename_i hs
    subst hs
    simp only [Option.some.injEq, Prod.mk.injEq] at hr
    obtain ⟨rfl, rfl⟩ := hr
    have hst : ∃ e, P.underlying t = some (.slice e) := by
      rcases ht with ht | ⟨ht, _⟩
      · exact ht
      · unfold lenTy at hk; rw [ht] at hk; cases hk
    obtain ⟨e, hte⟩ := hst
    cases hv with
    | dat _ _ hd =>
      cases hd with
      | lst _ _ A n cap f k o' hn hc hrow hA hf hone hv =>
        subst hn
        rcases hA with rfl | ⟨rfl, hk1, hk2⟩
        · refine ⟨[], ?_, by simp, by simp⟩
          cases A with
          | none => exact Src.ofNil c.W hte cap
          | some a => exact Src.ofSlice c.W hte a 0 cap [] (by simp) (by simp) (by simp)
        · by_cases hz : es = []
          · subst hz
            exact ⟨[], Src.ofSlice c.W hte _ 0 cap [] (by simp) (by simp) (by simp), by simp, by simp⟩
          · obtain ⟨news, n1, n2, n3, n4⟩ := slice_news (c := c) (k := k) (o' := o') hl (fun j d hd => by
              obtain ⟨i, r, q, h1, h2, h3⟩ := flatten_split es sz' hrow j d hd
              refine ⟨f i q, ?_, .dat _ _ (hv i r h1 q d h2), hone i r h1 q d h2⟩
              rw [h3, ← Nat.add_assoc]
              exact hf i r h1 q d h2)
            exact ⟨news, Src.ofSlice c.W hte _ _ cap news n1 (fun j u hj => by rw [add_at]; exact n2 j u hj) n4, hl, n3⟩
  · simp only [Option.some.injEq, Prod.mk.injEq] at hr
    obtain ⟨rfl, rfl⟩ := hr
    obtain rfl := hv.lit_inv
    rcases ht with ⟨e, hte⟩ | ⟨ht, _⟩
    · exact ⟨[], Src.ofNil c.W hte 0, by simp, by simp⟩
    · unfold lenTy at hk; rw [ht] at hk; cases hk
  · rename_i s
    split at hr
    case isFalse => cases hr
    rename_i hs
    subst hs
    simp only [Option.some.injEq, Prod.mk.injEq] at hr
    obtain ⟨rfl, rfl⟩ := hr
    obtain rfl := hv.lit_inv
    rcases ht with ⟨e, hte⟩ | ⟨ht, _⟩
    · unfold lenTy at hk; rw [hte] at hk; cases hk
    · refine ⟨byteCells s, ?_, hl, fun j d hd => ?_⟩
      · have := Src.ofString c.W ht s
        rw [List.length_map, Array.length_toList]
        exact this
      · have e : (s.data.toList.map fun b => ([Dat.lit (.int .u8 b.toNat)] : List Dat)).flatten = s.data.toList.map fun b => Dat.lit (.int .u8 b.toNat) := by
          induction s.data.toList with
          | nil => rfl
          | cons a l ih => simp [ih]
        rw [e, List.getElem?_map] at hd
        unfold byteCells
        rw [List.getD_eq_getElem?_getD, List.getElem?_map]
        cases hx : s.data.toList[j]? with
        | none => rw [hx] at hd; cases hd
        | some b => rw [hx] at hd; obtain rfl := Option.some.inj hd; exact .dat _ _ (.lit _)
  · rename_i b e lo n
    split at hr
    · rename_i ep sz' ds hg
      split at hr
      · rename_i hc
        obtain ⟨rfl, rfl, hle⟩ := hc
        simp only [Option.some.injEq, Prod.mk.injEq] at hr
        obtain ⟨rfl, rfl⟩ := hr
        have hst : ∃ e, P.underlying t = some (.slice e) := by
          rcases ht with ht | ⟨ht, _⟩
          · exact ht
          · unfold lenTy at hk; rw [ht] at hk; cases hk
        obtain ⟨e', hte⟩ := hst
        obtain ⟨L, hL, hep, hlz, hrows, hnone, hcell⟩ := hb b (by simp) _ hg
        have hlen : ((ds.drop lo).take n).length = n := by rw [List.length_take, List.length_drop]; omega
        cases hv with
        | slc _ _ _ _ A cap hU hn hp =>
          rcases hp L hL hep with ⟨rfl, rfl⟩ | ⟨r, hr, rfl, hcap⟩
          · refine ⟨[], ?_, by simp, by simp⟩
            cases A with
            | none => exact Src.ofNil c.W hte 0
            | some a => exact Src.ofSlice c.W hte a 0 0 [] (by simp) (by simp) (by simp)
          · by_cases hz : n = 0
            · subst hz
              exact ⟨[], Src.ofSlice c.W hte _ 0 cap [] (by simp) (by simp) (by simp), by simp, by simp⟩
            · obtain ⟨news, n1, n2, n3, n4⟩ := slice_news (c := c) (k := r) (o' := L.base + lo * L.sz) hl (fun j d hd => by
                rw [flatten_take ds sz' hrows, List.getElem?_take] at hd
                split at hd
                · rw [List.getElem?_drop] at hd
                  have := (hcell r hr).cell (lo * sz' + j) (.dat d) (by rw [List.getElem?_map, hd]; rfl)
                  rw [hlz, Nat.add_assoc]
                  exact this
                · cases hd)
              rw [hlen] at n1
              refine ⟨news, ?_, hl, n3⟩
              rw [hlen]
              exact Src.ofSlice c.W hte _ n cap news n1 (fun j u hj => by rw [add_at]; exact n2 j u hj) n4
      · cases hr
    · cases hr
  · cases hr
theorem lenTy_kind {t : TypeId} {x : AV} (hk : lenTy P t x = true) : (∃ e, P.underlying t = some (.slice e)) ∨ P.underlying t = some .string := by
  unfold lenTy at hk
  split at hk
  · rename_i h; exact .inr h
  · rename_i h; exact .inl ⟨_, h⟩
  · rename_i h; exact .inl ⟨_, h⟩
  · rename_i h; exact .inl ⟨_, h⟩
  · cases hk
def growB : AV → Bool
  | .dat (.lit (.slice none 0 0)) => true
  | .slc _ _ _ _ => true
  | _ => false
theorem os_append {c0 : Call} {x y : Operand} {t t' e : TypeId} {s sz by_ : Nat} {z : Value} {r0 r1 : List (List Dat)} {F0 F1 : List Nat} (ho : o.op = .call c0) (h0 : c0.callee = .builtin .append) (h1 : c0.args = #[x, y]) (h2 : c0.argTypes = #[t, t']) (he : elemT P t = some e) (hz : tsz P e = some sz) (hb : tby P e = some by_) (hzero : zeroOf P e = some z) (hzs : z.cells.size = sz) (hpos' : 0 < by_)
    (hsl : growB (ρ x) = true) (hx : rowsOf sz h (ρ x) = some (r0, F0)) (hy : rowsOf sz h (ρ y) = some (r1, F1)) (hk1 : lenTy P t' (ρ y) = true) (hstr : P.underlying t' = some .string → sz = 1) (hbound : (r0.length + r1.length) * by_ ≤ 140737488355328) :
    OStep P o ρ h (s :: (F0 ++ F1)) E (.slc s E 0 (r0.length + r1.length)) (hset (F0.foldl hdel h) s (.arr E sz (r0 ++ r1))) := by
  intro c a ok hops hblk hE K Q hK
  have q1 := hops x (by rw [ho]; simp [Op.operands, Call.operands, h0, h1])
  have q2 := hops y (by rw [ho]; simp [Op.operands, Call.operands, h0, h1])
  have hl0 := rows_len hx q1 (fun b hb => hblk b (by simp [hb]))
  have hl1 := rows_len hy q2 (fun b hb => hblk b (by simp [hb]))
  obtain ⟨news, hnews⟩ := rows_spec (P := P) hy q2 (fun b hb => hblk b (by simp [hb])) (t := t') (by
    rcases lenTy_kind hk1 with h3 | h3
    · exact .inl h3
    · exact .inr ⟨h3, hstr h3⟩) hk1
  obtain ⟨i, hi, hib⟩ := run_tinfo hb
  have his : i.size = sz := by unfold tsz at hz; rw [hi] at hz; simpa using hz
  have hiz : i.zero = some z := by unfold zeroOf at hzero; rw [hi] at hzero; simpa using hzero
  subst his hib
  have hte := elem_of he
  have hnl : news.length = r1.length * i.size := hnews.src.newsLen
  have hF0 : ∀ b ∈ F0, ∀ k, hget (F0.foldl hdel h) b = some k → False := fun b hb k hk => by
    have key : ∀ (l : List Nat) (h : List (Nat × Blk)), hget (l.foldl hdel h) b = if b ∈ l then none else hget h b := by
      intro l
      induction l with
      | nil => intro h; simp
      | cons d l ih =>
        intro h
        rw [List.foldl_cons, ih, hget_hdel]
        by_cases h1 : b ∈ l
        · simp [h1]
        · by_cases h2 : d = b
          · simp [h2]
          · simp [h1, h2, Ne.symm h2]
    rw [key, if_pos hb] at hk; cases hk
  have close : ∀ (u : Value) (W : World) (L : Loc), (Builtin.append_ #[t, t'] o.type #[a.eval x, a.eval y]).run P c.W = .ok u W → L.ep = E → L.sz = i.size → Moves c W s F0 L →
      (∀ c' : Cx, c' = c.moved W s F0 L → c'.Ok → Ev (· ∈ s :: F0) (· = E) c c' → VR c' (.slc s E 0 (r0.length + r1.length)) u ∧ (L.rb = none → r0 ++ r1 = []) ∧ ∀ r, L.rb = some r → CellsAt c' r L.base L.size ((r0 ++ r1).flatten.map .dat)) → o.wp P a c.W K Q := by
    intro u W L hrun hep hlz hm hfin
    have ok' := hm.ok ok
    have ev' := hm.ev ok (by rw [hep]; exact hE)
    rw [hep] at ev'
    obtain ⟨k1, k2, k3⟩ := hfin _ rfl ok' ev'
    unfold Oper.wp
    have hr : (execOp a.eval o).run P c.W = .ok (.value u) W := by
      simp [execOp, ho, resolve, h0, h1, h2, invoke, builtin, hrun]
    rw [hr]
    refine hK u _ ok' (ev'.wide (fun b hb => by simp at hb ⊢; rcases hb with hb | hb <;> simp [hb]) (fun _ hx => hx)) k1 (fun b hb' blk hblk' => ?_)
    rw [hget_hset] at hblk'
    split at hblk'
    · rename_i hsb
      obtain rfl := Option.some.inj hblk'
      subst hsb
      exact ⟨L, by simp [Cx.moved], hep, hlz, fun r hr => by
        rcases List.mem_append.1 hr with h3 | h3
        · exact hl0 r h3
        · exact hl1 r h3, k2, k3⟩
    · rename_i hsb
      by_cases hbF : b ∈ F0
      · exact (hF0 b hbF _ hblk').elim
      · have hb1 : b ∈ F1 := by
          simp at hb'
          rcases hb' with h3 | h3 | h3
          · exact absurd h3.symm hsb
          · exact absurd h3 hbF
          · exact h3
        have hblk'' : hget h b = some blk := by
          have key : ∀ (l : List Nat) (h : List (Nat × Blk)), b ∉ l → hget (l.foldl hdel h) b = hget h b := by
            intro l
            induction l with
            | nil => intro h _; rfl
            | cons d l ih =>
              intro h hn
              rw [List.foldl_cons, ih _ (fun e => hn (List.mem_cons_of_mem _ e)), hget_hdel, if_neg (fun e => hn (by rw [e]; simp))]
          rw [key F0 h hbF] at hblk'; exact hblk'
        refine (hblk b (by simp [hb1]) blk hblk'').mono ok ev' (fun hh => ?_)
        rcases List.mem_cons.1 hh with h3 | h3
        · exact hsb h3.symm
        · exact hbF h3
  have grow : ∀ (base : Option Addr) (n cap : Nat) (olds : List Value), a.eval x = .slice base n cap → n = r0.length → (Builtin.firstCells i.size n (.slice base n cap)).run P c.W.drew = .ok olds.toArray c.W.drew → olds.length = n * i.size → (∀ (j : Nat) d, r0.flatten[j]? = some d → VR c (.dat d) (olds.getD j undef)) → (∀ u ∈ olds, u.oneCell' = true) → cap < n + r1.length → o.wp P a c.W K Q := by
    intro base n cap olds hu hn hold hol hrel hone hg
    subst hn
    have h63 : ((r0.length + r1.length : Nat) : Int) ≤ 9223372036854775807 := by
      have : r0.length + r1.length ≤ (r0.length + r1.length) * i.bytes := Nat.le_mul_of_pos_right _ hpos'
      omega
    have hrun := run_append_grow_src (P := P) c.W t t' o.type e i z hte hi hiz base r0.length cap olds hold (a.eval y) r1.length news hnews.src hg h63 (growslice_fits hg hbound)
    rw [← hu] at hrun
    have fl : (r0 ++ r1).flatten.length = (r0.length + r1.length) * i.size := by rw [flatten_len (r0 ++ r1) i.size (fun r hr => by
      rcases List.mem_append.1 hr with h3 | h3
      · exact hl0 r h3
      · exact hl1 r h3), List.length_append]
    refine close _ _ ⟨some c.W.heap.size, 0, ((olds ++ news).toArray ++ Builtin.zeroCells z.cells (grownCap c.W (r0.length + r1.length) cap e - (r0.length + r1.length))).size, E, i.size⟩ hrun rfl rfl ⟨rfl, rfl, rfl, by simp, fun k hk _ => Below.heap_alloc _ _ _ (by simpa using hk), fun r hr => by obtain rfl := Option.some.inj hr; simp, fun r hr => by obtain rfl := Option.some.inj hr; exact .inl (Nat.le_refl _)⟩ ?_
    rintro c' rfl ok' ev'
    have hcap : r0.length + r1.length ≤ grownCap c.W (r0.length + r1.length) cap e := by
      unfold grownCap
      simp only [Question.cut]
      omega
    refine ⟨.slc _ _ _ _ _ _ (.inr rfl) hcap (fun L hL he' => .inr ?_), fun hn => (by cases hn), fun r hr => ?_⟩
    · simp only [Cx.moved, if_true] at hL
      obtain rfl := Option.some.inj hL
      refine ⟨_, rfl, by simp, ?_⟩
      have hzz : z.cells.size = i.size := hzs
      simp only [Builtin.zeroCells, List.size_toArray, Array.size_append, Array.size_map, Array.size_range, List.length_append, hol, hnl, hzz, Nat.zero_add]
      rw [← Nat.add_mul, ← Nat.add_mul]
      exact Nat.mul_le_mul_right _ (by omega)
    · obtain rfl := Option.some.inj hr
      refine ⟨_, e, (0, 0), heap_new _ _, rfl, by simp, ?_, fun j v hj => ?_⟩
      · rw [List.length_map, fl]
        simp only [List.size_toArray, Array.size_append, List.length_append, hol, hnl]
        rw [← Nat.add_mul]; omega
      · rw [List.getElem?_map] at hj
        cases hx' : (r0 ++ r1).flatten[j]? with
        | none => rw [hx'] at hj; cases hj
        | some d =>
          rw [hx'] at hj
          obtain rfl := Option.some.inj hj
          have hjl : j < (r0.length + r1.length) * i.size := by rw [← fl]; exact (List.getElem?_eq_some_iff.1 hx').1
          rw [Nat.zero_add, Array.getElem?_append_left (by rw [List.size_toArray, List.length_append, hol, hnl, ← Nat.add_mul]; exact hjl), List.getElem?_toArray]
          rw [List.flatten_append] at hx'
          have f0 : r0.flatten.length = r0.length * i.size := flatten_len r0 i.size hl0
          by_cases hj0 : j < r0.flatten.length
          · rw [List.getElem?_append_left hj0] at hx'
            have hlt : j < olds.length := by rw [hol, ← f0]; exact hj0
            have hr' := (hrel j d hx').mono ok ev'
            rw [List.getElem?_append_left hlt, List.getElem?_eq_getElem hlt]
            rw [List.getD_eq_getElem?_getD, List.getElem?_eq_getElem hlt] at hr'
            exact ⟨_, rfl, hr', hone _ (List.getElem_mem hlt)⟩
          · rw [List.getElem?_append_right (by omega)] at hx'
            have hlt : j - olds.length < news.length := by rw [hol, hnl]; rw [Nat.add_mul] at hjl; omega
            have e1 : j - r0.flatten.length = j - olds.length := by rw [f0, hol]
            rw [e1] at hx'
            have hr' := (hnews.rel _ d hx').mono ok ev'
            rw [List.getElem?_append_right (by rw [hol, ← f0]; omega), List.getElem?_eq_getElem hlt]
            rw [List.getD_eq_getElem?_getD, List.getElem?_eq_getElem hlt] at hr'
            exact ⟨_, rfl, hr', hnews.src.one _ (List.getElem_mem hlt)⟩
  have none_ : ∀ (base : Option Addr), a.eval x = .slice base 0 0 → r0.length = 0 → r1.length = 0 → o.wp P a c.W K Q := by
    intro base hu hn hm
    have e0 : r0 = [] := List.eq_nil_of_length_eq_zero hn
    have e1 : r1 = [] := List.eq_nil_of_length_eq_zero hm
    have hs := hnews.src
    have hnw : news = [] := List.eq_nil_of_length_eq_zero (by rw [hnl, hm, Nat.zero_mul])
    rw [hm, hnw] at hs
    have hrun := run_append_nothing (P := P) c.W t t' o.type e i hte hi base 0 0 (Nat.le_refl _) (a.eval y) hs
    rw [← hu] at hrun
    refine close _ _ ⟨none, 0, 0, E, i.size⟩ hrun rfl rfl ⟨rfl, rfl, rfl, Nat.le_refl _, fun k hk _ => rfl, fun r hr => (by cases hr), fun r hr => (by cases hr)⟩ ?_
    rintro c' rfl ok' ev'
    rw [hu, hn, hm]
    exact ⟨.slc _ _ _ _ _ _ (.inr rfl) (Nat.le_refl _) (fun L hL he' => .inl ⟨rfl, rfl⟩), fun _ => by rw [e0, e1]; rfl, fun r hr => (by cases hr)⟩
  generalize ρ x = vx at hsl hx q1
  unfold rowsOf at hx
  split at hx
  · cases hsl
  · simp only [Option.some.injEq, Prod.mk.injEq] at hx
    obtain ⟨rfl, rfl⟩ := hx
    have hu := q1.lit_inv
    by_cases hm : r1.length = 0
    · exact none_ none hu rfl hm
    · exact grow none 0 0 [] hu rfl (run_firstCells_none c.W.drew i.size 0 0 0) (by simp) (by simp) (by simp) (by omega)
  · cases hsl
  · rename_i b ep lo n
    split at hx
    · rename_i ep' sz' ds hg
      split at hx
      · rename_i hcnd
        obtain ⟨rfl, rfl, hle⟩ := hcnd
        simp only [Option.some.injEq, Prod.mk.injEq] at hx
        obtain ⟨rfl, rfl⟩ := hx
        obtain ⟨L, hL, hep, hlz, hrows, hnone, hcell⟩ := hblk b (by simp) _ hg
        have hlen : ((ds.drop lo).take n).length = n := by rw [List.length_take, List.length_drop]; omega
        generalize hu : a.eval x = u at q1
        cases q1 with
        | slc _ _ _ _ A cap hU hn hp =>
          rcases hp L hL hep with ⟨rfl, rfl⟩ | ⟨r, hr, rfl, hcap⟩
          · by_cases hm : r1.length = 0
            · exact none_ A hu hlen hm
            · refine grow A 0 0 [] hu hlen.symm ?_ (by simp) (by simp [List.eq_nil_of_length_eq_zero hlen]) (by simp) (by omega)
              cases A with
              | none => exact run_firstCells_none c.W.drew i.size 0 0 0
              | some ad => exact run_firstCells_some c.W.drew i.size 0 ad 0 0 [] (by simp) (by simp)
          ·
            obtain ⟨olds, n1, n2, n3, n4⟩ := slice_news (c := c) (k := r) (o' := L.base + lo * L.sz) hl0 (fun j d hd => by
              rw [flatten_take ds i.size hrows, List.getElem?_take] at hd
              split at hd
              · rw [List.getElem?_drop] at hd
                have := (hcell r hr).cell (lo * i.size + j) (.dat d) (by rw [List.getElem?_map, hd]; rfl)
                rw [hlz, Nat.add_assoc]
                exact this
              · cases hd)
            rw [hlen] at n1
            by_cases hroom : n + r1.length ≤ cap
            · obtain ⟨cur, el, fz, hgr, hsz, hfz, hbs, hcells⟩ := hcell r hr
              have hend : L.base + lo * L.sz + n * i.size + news.length ≤ L.size := by
                have h3 : (lo + (n + r1.length)) * L.sz ≤ (lo + cap) * L.sz := Nat.mul_le_mul_right _ (by omega)
                rw [Nat.add_mul, Nat.add_mul] at h3
                rw [hnl]
                rw [hlz] at h3 hcap ⊢
                omega
              have hst := run_storeCells_own (P := P) r (L.base + lo * L.sz + n * i.size) el fz news 0 cur c.W hgr (by rw [hsz]; exact hfz) (by rw [hsz]; omega) hnews.src.one
              have hrun : (Builtin.append_ #[t, t'] o.type #[.slice (some ⟨r, L.base + lo * L.sz, none⟩) n cap, a.eval y]).run P c.W = .ok (.slice (some ⟨r, L.base + lo * L.sz, none⟩) (n + r1.length) cap) (c.W.setRow r (lput cur.toList (L.base + lo * L.sz + n * i.size + 0) news).toArray) := by
                rcases hnews.src.kind with ⟨e', hk⟩ | hk <;> simp [Builtin.append_, run_underlying hte, run_underlying hk, sizeOf, typeInfo, hi, hnews.src.len, hroom, hnews.src.cells, add_at, hst]
              rw [← hu] at hrun
              refine close _ _ ⟨some r, L.base + lo * L.sz, L.size, E, i.size⟩ hrun rfl rfl ⟨rfl, rfl, rfl, by simp, fun k hk hne => setRow_other _ _ _ _ (fun e => hne (by rw [e])), fun r' hr' => ?_, fun r' hr' => ?_⟩ ?_
              · obtain rfl := Option.some.inj hr'
                rw [setRow_size]
                exact ok.bnd _ (ok.sub b L _ hL hr)
              · obtain rfl := Option.some.inj hr'
                exact .inr ⟨b, L, by simp, hL, hr⟩
              · rintro c' rfl ok' ev'
                have f0 : ((ds.drop lo).take n).flatten.length = n * i.size := by rw [flatten_len _ i.size hl0, hlen]
                have f1 : r1.flatten.length = r1.length * i.size := flatten_len r1 i.size hl1
                rw [hlen]
                refine ⟨.slc _ _ _ _ _ _ (.inr rfl) hroom (fun L' hL' he' => .inr ?_), fun hn => (by cases hn), fun r' hr' => ?_⟩
                · simp only [Cx.moved, if_true] at hL'
                  obtain rfl := Option.some.inj hL'
                  refine ⟨r, rfl, by simp, ?_⟩
                  simp only [Nat.zero_add]
                  rw [Nat.add_mul] at hcap
                  rw [← hlz]; omega
                · obtain rfl := Option.some.inj hr'
                  refine ⟨_, el, fz, setRow_heap _ _ cur _ el fz hgr, ?_, hfz, ?_, fun j v hj => ?_⟩
                  · rw [List.size_toArray, lput_length _ _ _ (by rw [show cur.toList.length = L.size by simpa using hsz]; omega)]
                    simpa using hsz
                  · rw [List.length_map, List.flatten_append, List.length_append, f0, f1, ← hnl]
                    show L.base + lo * L.sz + (n * i.size + news.length) ≤ L.size
                    omega
                  · show ∃ u, (lput cur.toList (L.base + lo * L.sz + n * i.size + 0) news).toArray[L.base + lo * L.sz + j]? = some u ∧ _
                    rw [List.getElem?_map] at hj
                    rw [List.getElem?_toArray, lput_get _ _ _ (by rw [show cur.toList.length = L.size by simpa using hsz]; omega)]
                    cases hxj : ((ds.drop lo).take n ++ r1).flatten[j]? with
                    | none => rw [hxj] at hj; cases hj
                    | some d =>
                      rw [hxj] at hj
                      obtain rfl := Option.some.inj hj
                      rw [List.flatten_append] at hxj
                      by_cases hj0 : j < n * i.size
                      · rw [if_neg (by omega)]
                        rw [List.getElem?_append_left (by rw [f0]; exact hj0), flatten_take ds i.size hrows, List.getElem?_take, if_pos hj0, List.getElem?_drop] at hxj
                        obtain ⟨u, hu1, hu2, hu3⟩ := hcells (lo * i.size + j) (.dat d) (by rw [List.getElem?_map, hxj]; rfl)
                        refine ⟨u, ?_, hu2.mono ok ev', hu3⟩
                        rw [hlz, Nat.add_assoc]
                        simpa using hu1
                      · rw [List.getElem?_append_right (by rw [f0]; omega), f0] at hxj
                        have hlt : j - n * i.size < news.length := by rw [hnl, ← f1]; exact (List.getElem?_eq_some_iff.1 hxj).1
                        rw [if_pos ⟨by omega, by omega⟩, show L.base + lo * L.sz + j - (L.base + lo * L.sz + n * i.size + 0) = j - n * i.size by omega, List.getElem?_eq_getElem hlt]
                        have hr' := (hnews.rel _ d hxj).mono ok ev'
                        rw [List.getD_eq_getElem?_getD, List.getElem?_eq_getElem hlt] at hr'
                        exact ⟨_, rfl, hr', hnews.src.one _ (List.getElem_mem hlt)⟩
            · exact grow _ n cap olds hu hlen.symm (run_firstCells_some c.W.drew i.size n _ n cap olds n1 (fun j u hj => by rw [add_at]; simpa using n2 j u hj)) n1 n3 n4 (by omega)
      · cases hx
    · cases hx
  · cases hx
end
end Go.Proofs.YtinpnidokpjfhaaGreatDoor.AM
namespace Go.Proofs.YtinpnidokpjfhaaGreatDoor.AM
open Go.RowKit
set_option linter.unusedVariables false
set_option linter.unusedSimpArgs false
theorem foldl_cells : ∀ (l : List Value) (k off : Nat) (A : Array Value), off + k + l.length ≤ A.size → (l.zipIdx k).foldl (fun cs (x : Value × Nat) => cs.setIfInBounds (off + x.2) x.1) A = (lput A.toList (off + k) l).toArray
  | [], k, off, A, _ => by simp [lput]
  | v :: l, k, off, A, h => by
    have hi : off + k < A.size := by simp at h; omega
    rw [List.zipIdx_cons, List.foldl_cons, foldl_cells l (k + 1) off _ (by simp at h ⊢; omega)]
    congr 1
    apply List.ext_getElem?
    intro j
    have hA : (A.setIfInBounds (off + k) v).toList = A.toList.set (off + k) v := by simp
    simp only [hA]
    rw [lput_get _ _ _ (by simp at h ⊢; omega), lput_get _ _ _ (by simpa using h)]
    by_cases hj : j = off + k
    · subst hj
      rw [if_neg (by omega), if_pos ⟨Nat.le_refl _, by simp⟩]
      simp [hi]
    · by_cases hj2 : off + (k + 1) ≤ j ∧ j < off + (k + 1) + l.length
      · rw [if_pos hj2, if_pos ⟨by omega, by simp; omega⟩, show j - (off + k) = (j - (off + (k + 1))) + 1 by omega, List.getElem?_cons_succ]
      · rw [if_neg hj2, if_neg (by simp; omega), List.getElem?_set_ne (Ne.symm hj)]
def afill (place : Nat → Option (Nat × Nat)) (cs : List AV) : List (Nat × AV) → Option (List AV)
  | [] => some cs
  | (i, x) :: rest => match place i, flat x with
    | some (off, size), some l => if l.length = size ∧ off + l.length ≤ cs.length then afill place (lput cs off l) rest else none
    | _, _ => none
structure CellsRel (c : Cx) (cs : List AV) (A : Array Value) : Prop where
  size : A.size = cs.length
  rel : ∀ (j : Nat) v, cs[j]? = some v → VR c v (A.getD j undef)
  one : ∀ u ∈ A.toList, u.oneCell' = true
theorem fill_rel {c : Cx} {place : Nat → Option (Nat × Nat)} : ∀ (ps : List (Nat × AV)) (us : List (Nat × Value)) (cs : List AV) (A : Array Value) (cs' : List AV), us.length = ps.length →
    (∀ (j : Nat) p u, ps[j]? = some p → us[j]? = some u → p.1 = u.1 ∧ VR c p.2 u.2) → CellsRel c cs A → afill place cs ps = some cs' → ∃ A', Instr.fill place A us = some A' ∧ CellsRel c cs' A'
  | [], [], cs, A, cs', _, _, hA, hf => by
    obtain rfl := Option.some.inj hf
    exact ⟨A, rfl, hA⟩
  | (i, x) :: ps, (k, u) :: us, cs, A, cs', hl, hr, hA, hf => by
    obtain ⟨rfl, hv⟩ := hr 0 _ _ rfl rfl
    simp only [afill] at hf
    split at hf
    · rename_i off size l hp hfl
      split at hf
      · rename_i hc
        obtain ⟨rfl, hle⟩ := hc
        obtain ⟨h1, h2, h3⟩ := flat_spec hfl hv
        have hcl : u.cells.toList.length = l.length := by simpa using h1
        have hlA : A.toList.length = cs.length := by simpa using hA.size
        have key : (u.cells.zipIdx.foldl (fun cs (x : Value × Nat) => cs.setIfInBounds (off + x.2) x.1) A) = (lput A.toList off u.cells.toList).toArray := by
          rw [← Array.foldl_toList, Array.toList_zipIdx, foldl_cells u.cells.toList 0 off A (by rw [hcl, hA.size]; omega), Nat.add_zero]
        have hA' : CellsRel c (lput cs off l) (lput A.toList off u.cells.toList).toArray := by
          refine ⟨?_, fun j v hj => ?_, fun y hy => ?_⟩
          · rw [List.size_toArray, lput_length _ _ _ (by rw [hcl, hlA]; exact hle), lput_length _ _ _ hle, hlA]
          · rw [lput_get _ _ _ hle] at hj
            have e : (lput A.toList off u.cells.toList).toArray.getD j undef = (lput A.toList off u.cells.toList)[j]?.getD undef := by simp [Array.getD_eq_getD_getElem?]
            rw [e, lput_get _ _ _ (by rw [hcl, hlA]; exact hle), hcl]
            split at hj
            · rename_i hin
              rw [if_pos hin]
              have := h2 _ v hj
              simpa [Array.getD_eq_getD_getElem?] using this
            · rename_i hout
              rw [if_neg hout]
              have := hA.rel j v hj
              simpa [Array.getD_eq_getD_getElem?] using this
          · obtain ⟨j, hj⟩ := List.mem_iff_getElem?.1 hy
            have hj' : (lput A.toList off u.cells.toList)[j]? = some y := by simpa using hj
            rw [lput_get _ _ _ (by rw [hcl, hlA]; exact hle)] at hj'
            split at hj'
            · exact h3 y (List.mem_of_getElem? hj')
            · exact hA.one y (List.mem_of_getElem? hj')
        obtain ⟨A', k1, k2⟩ := fill_rel ps us _ _ cs' (by simpa using hl) (fun j p u hp hu => hr (j + 1) p u (by simpa using hp) (by simpa using hu)) hA' hf
        refine ⟨A', ?_, k2⟩
        have hc1 : ¬ (u.cells.size ≠ l.length || decide (off + u.cells.size > A.size)) = true := by
          simp [h1, hA.size]; omega
        simp only [Instr.fill, hp]
        rw [if_neg (by simpa using hc1), key]
        exact k1
      · cases hf
    · cases hf
  | [], _ :: _, _, _, _, hl, _, _, _ => by simp at hl
  | _ :: _, [], _, _, _, hl, _, _, _ => by simp at hl
section
variable {P : Program} {o : Oper} {ρ : Operand → AV} {h : List (Nat × Blk)} {E : Nat} {v : AV}
theorem parts_rel {c : Cx} {a : Act} {ps : Array (Nat × Operand)} (hops : ∀ x ∈ (ps.toList.map (·.2)), VR c (ρ x) (a.eval x)) : ((ps.map fun (i, x) => (i, a.eval x)).toList.length = (ps.toList.map fun (i, x) => (i, ρ x)).length) ∧
    ∀ (j : Nat) p u, (ps.toList.map fun (i, x) => (i, ρ x))[j]? = some p → (ps.map fun (i, x) => (i, a.eval x)).toList[j]? = some u → p.1 = u.1 ∧ VR c p.2 u.2 := by
  refine ⟨by simp, fun j p u hp hu => ?_⟩
  rw [List.getElem?_map] at hp
  rw [Array.toList_map, List.getElem?_map] at hu
  cases hx : ps.toList[j]? with
  | none => rw [hx] at hp; cases hp
  | some y =>
    rw [hx] at hp hu
    obtain rfl := Option.some.inj hp
    obtain rfl := Option.some.inj hu
    exact ⟨rfl, hops _ (List.mem_map.2 ⟨y, List.mem_of_getElem? hx, rfl⟩)⟩
def placesOf (P : Program) (t : TypeId) : Option (List (Nat × Nat)) := match P.underlying t with
  | some (.struct fs) => fs.toList.mapM fun f => (tsz P f.type).map (f.offset, ·)
  | _ => none
theorem run_places (W : World) : ∀ (l : List Field) (pl : List (Nat × Nat)), (l.mapM fun f => (tsz P f.type).map (f.offset, ·)) = some pl → (l.mapM (fun f => do pure (f.offset, ← sizeOf f.type)) : Sem (List (Nat × Nat))).run P W = .ok pl W
  | [], pl, h => by obtain rfl := Option.some.inj h; rfl
  | f :: l, pl, h => by
    rw [List.mapM_cons] at h ⊢
    cases hf : tsz P f.type with
    | none => rw [hf] at h; cases h
    | some n =>
      cases hr : (l.mapM fun f => (tsz P f.type).map (f.offset, ·)) with
      | none => rw [hf, hr] at h; cases h
      | some r =>
        rw [hf, hr] at h
        obtain rfl := Option.some.inj h
        simp only [Sem.run_bind, run_tsz W hf, Result.andThen_ok, Sem.run_pure, run_places W l r hr]
theorem os_build {t : TypeId} {ps : Array (Nat × Operand)} {z : Value} {pl : List (Nat × Nat)} {zs cs : List AV} (ho : o.op = .build t ps) (hz : zeroOf P t = some z) (hpl : placesOf P t = some pl) (hzs : flat (ofConst z) = some zs) (hf : afill (pl[·]?) zs (ps.toList.map fun (i, x) => (i, ρ x)) = some cs) :
    OStep P o ρ h [] E (.agg cs) h :=
  ostep_value (fun c a ok hops _ => by
    have hops' : ∀ x ∈ (ps.toList.map (·.2)), VR c (ρ x) (a.eval x) := fun x hx => hops x (by rw [ho]; simpa [Op.operands] using hx)
    obtain ⟨p1, p2⟩ := parts_rel (ps := ps) hops'
    obtain ⟨z1, z2, z3⟩ := flat_spec hzs (VR.ofConst c z)
    unfold placesOf at hpl
    split at hpl
    · rename_i fs hfs
      obtain ⟨A', k1, k2⟩ := fill_rel (c := c) (place := (pl[·]?)) _ _ zs z.cells cs p1 p2 ⟨z1, z2, z3⟩ hf
      refine ⟨.agg A', ?_, .agg cs A' k2.size k2.rel⟩
      have hm : (fs.mapM (fun f => do pure (f.offset, ← sizeOf f.type)) : Sem (Array (Nat × Nat))).run P c.W = .ok pl.toArray c.W := by
        rw [Array.mapM_eq_mapM_toList]
        have := run_places c.W fs.toList pl hpl
        show ((fs.toList.mapM (fun f => do pure (f.offset, ← sizeOf f.type)) : Sem (List (Nat × Nat))) >>= fun l => pure l.toArray).run P c.W = _
        rw [Sem.run_bind, this]
        rfl
      have k1' : Instr.fill (fun x => pl.toArray[x]?) z.cells (ps.map fun (i, x) => (i, a.eval x)).toList = some A' := by
        have : (fun x : Nat => pl.toArray[x]?) = (pl[·]?) := by funext x; simp
        rw [this]; exact k1
      simp only [execOp, ho, Instr.build, Sem.run_bind, run_zeroOf c.W hz, Result.andThen_ok, run_underlying hfs, hm, k1']
      rfl
    · cases hpl)
def arows (sz : Nat) : Nat → List (Nat × AV) → Option (List (List Dat))
  | _, [] => some []
  | k, (i, x) :: rest => match flat x with
    | some l => match dats l, arows sz (k + 1) rest with
      | some d, some rs => if i = k ∧ d.length = sz then some (d :: rs) else none
      | _, _ => none
    | none => none
theorem fill_rows {c : Cx} {sz : Nat} : ∀ (ps : List (Nat × AV)) (us : List (Nat × Value)) (k : Nat) (A : Array Value) (rs : List (List Dat)), us.length = ps.length →
    (∀ (j : Nat) p u, ps[j]? = some p → us[j]? = some u → p.1 = u.1 ∧ VR c p.2 u.2) → (∀ y ∈ A.toList, y.oneCell' = true) → (k + ps.length) * sz ≤ A.size → arows sz k ps = some rs →
    ∃ A', Instr.fill (fun i => some (i * sz, sz)) A us = some A' ∧ A'.size = A.size ∧ (∀ y ∈ A'.toList, y.oneCell' = true) ∧ (∀ j, j < k * sz → A'[j]? = A[j]?) ∧ (∀ r ∈ rs, r.length = sz) ∧ rs.length = ps.length ∧ ∀ (j : Nat) d, rs.flatten[j]? = some d → VR c (.dat d) (A'.getD (k * sz + j) undef)
  | [], [], k, A, rs, _, _, h1, _, hf => by
    obtain rfl := Option.some.inj hf
    exact ⟨A, rfl, rfl, h1, fun _ _ => rfl, by simp, rfl, by simp⟩
  | (i, x) :: ps, (k', u) :: us, k, A, rs, hl, hr, h1, hsz, hf => by
    obtain ⟨rfl, hv⟩ := hr 0 _ _ rfl rfl
    simp only [arows] at hf
    split at hf
    · rename_i l hfl
      split at hf
      · rename_i d rs' hd hrs
        split at hf
        · rename_i hc
          obtain ⟨rfl, hdl⟩ := hc
          obtain rfl := Option.some.inj hf
          obtain ⟨f1, f2, f3⟩ := flat_spec hfl hv
          have hld := dats_spec hd
          have hll : l.length = sz := by rw [hld, List.length_map, hdl]
          have hcl : u.cells.toList.length = sz := by rw [← hll]; simpa using f1
          have hs2 : (i + 1) * sz + ps.length * sz ≤ A.size := by
            rw [List.length_cons, show i + (ps.length + 1) = (i + 1) + ps.length by omega, Nat.add_mul] at hsz; exact hsz
          have hs3 : i * sz + sz ≤ A.size := by rw [Nat.succ_mul] at hs2; omega
          have key : (u.cells.zipIdx.foldl (fun cs (x : Value × Nat) => cs.setIfInBounds (i * sz + x.2) x.1) A) = (lput A.toList (i * sz) u.cells.toList).toArray := by
            rw [← Array.foldl_toList, Array.toList_zipIdx, foldl_cells u.cells.toList 0 (i * sz) A (by rw [hcl]; omega), Nat.add_zero]
          have hle : i * sz + u.cells.toList.length ≤ A.toList.length := by rw [hcl]; simpa using hs3
          have hBs : (lput A.toList (i * sz) u.cells.toList).toArray.size = A.size := by rw [List.size_toArray, lput_length _ _ _ hle]; simp
          obtain ⟨A', k1, k2, k3, k4, k5, k6, k7⟩ := fill_rows ps us (i + 1) (lput A.toList (i * sz) u.cells.toList).toArray rs' (by simpa using hl) (fun j p u hp hu => hr (j + 1) p u (by simpa using hp) (by simpa using hu)) (fun y hy => by
            obtain ⟨j, hj⟩ := List.mem_iff_getElem?.1 hy
            have hj' : (lput A.toList (i * sz) u.cells.toList)[j]? = some y := by simpa using hj
            rw [lput_get _ _ _ hle] at hj'
            split at hj'
            · exact f3 y (List.mem_of_getElem? hj')
            · exact h1 y (List.mem_of_getElem? hj')) (by rw [hBs, Nat.add_mul]; exact hs2) hrs
          refine ⟨A', ?_, k2.trans hBs, k3, fun j hj => ?_, fun r hr' => ?_, by simp [k6], fun j d' hj => ?_⟩
          · have hc1 : ¬ (u.cells.size ≠ sz || decide (i * sz + u.cells.size > A.size)) = true := by
              have : u.cells.size = sz := by rw [← hll]; exact f1
              simp [this]; omega
            simp only [Instr.fill]
            rw [if_neg (by simpa using hc1), key]
            exact k1
          · rw [k4 j (by rw [Nat.succ_mul]; omega), List.getElem?_toArray, lput_get _ _ _ hle, if_neg (by omega)]
            simp
          · rcases List.mem_cons.1 hr' with h3 | h3
            · rw [h3]; exact hdl
            · exact k5 r h3
          · rw [List.flatten_cons] at hj
            by_cases hjl : j < d.length
            · rw [List.getElem?_append_left hjl] at hj
              have e : A'.getD (i * sz + j) undef = u.cells.getD j undef := by
                rw [Array.getD_eq_getD_getElem?, k4 _ (by rw [Nat.succ_mul]; omega), List.getElem?_toArray, lput_get _ _ _ hle, if_pos ⟨by omega, by rw [hcl]; omega⟩, show i * sz + j - i * sz = j by omega]
                simp [Array.getD_eq_getD_getElem?]
              rw [e]
              exact f2 j _ (by rw [hld, List.getElem?_map, hj]; rfl)
            · rw [List.getElem?_append_right (by omega)] at hj
              have := k7 _ d' hj
              rw [show (i + 1) * sz + (j - d.length) = i * sz + j by rw [Nat.succ_mul]; omega] at this
              exact this
        · cases hf
      · cases hf
    · cases hf
  | [], _ :: _, _, _, _, hl, _, _, _, _ => by simp at hl
  | _ :: _, [], _, _, _, hl, _, _, _, _ => by simp at hl
theorem os_buildSlice {s : Nat} {t e : TypeId} {n sz : Nat} {ps : Array (Nat × Operand)} {z : Value} {rs : List (List Dat)} (ho : o.op = .buildSlice t n ps) (he : elemT P t = some e) (hsz : tsz P e = some sz) (hz : zeroOf P e = some z) (hzs : z.cells.size = sz) (hz1 : z.cells.toList.all Value.oneCell' = true) (hpos : 0 < sz) (hn : n = ps.size) (hmax : n * sz ≤ 16777216)
    (hr : arows sz 0 (ps.toList.map fun (i, x) => (i, ρ x)) = some rs) : OStep P o ρ h [s] E (.slc s E 0 n) (hset h s (.arr E sz rs)) := by
  refine ostep_new (fun c a ok hops => ?_)
  have hops' : ∀ x ∈ (ps.toList.map (·.2)), VR c (ρ x) (a.eval x) := fun x hx => hops x (by rw [ho]; simpa [Op.operands] using hx)
  obtain ⟨p1, p2⟩ := parts_rel (ps := ps) hops'
  have hmax' : ¬ (n * sz > 2 ^ 24) := by omega
  let zero : Array Value := if n * sz = 0 then #[] else z.cells
  have hA0 : ∀ y ∈ ((Array.range (n * sz)).map (zero[· % zero.size]!)).toList, y.oneCell' = true := fun y hy => by
    rw [Array.toList_map] at hy
    obtain ⟨j, hj, rfl⟩ := List.mem_map.1 hy
    have hj' : j < n * sz := by simpa using hj
    have h0 : ¬ (n * sz = 0) := by omega
    have hzero : zero = z.cells := if_neg h0
    rw [hzero]
    have hlt : j % z.cells.size < z.cells.size := Nat.mod_lt _ (by omega)
    rw [getElem!_pos z.cells _ hlt]
    exact List.all_eq_true.1 hz1 _ (by simp)
  obtain ⟨A', k1, k2, k3, k4, k5, k6, k7⟩ := fill_rows (c := c) (sz := sz) _ _ 0 ((Array.range (n * sz)).map (zero[· % zero.size]!)) rs p1 p2 hA0 (by simp [hn]) hr
  have hAs : A'.size = n * sz := by rw [k2]; simp
  have hrl : rs.length = n := by rw [k6, hn]; simp
  refine ⟨.slice (some ⟨c.W.heap.size, 0, none⟩) n n, c.W.alloc (.cells A' e), ⟨some c.W.heap.size, 0, n * sz, E, sz⟩, c.W.heap.size, ?_, Grows.alloc _ _, rfl, rfl, Nat.le_refl _, by simp, ?_⟩
  · simp only [execOp, ho, Instr.buildSlice, Sem.run_bind, run_underlying (elem_of he), Result.andThen_ok, run_tsz c.W hsz]
    rw [if_neg hmax']
    by_cases h0 : n * sz = 0
    · have hzero : zero = #[] := if_pos h0
      rw [hzero] at k1
      have k1' : Instr.fill (fun i => some (i * sz, sz)) ((Array.range (n * sz)).map ((#[] : Array Value)[· % (#[] : Array Value).size]!)) (ps.map fun x => (x.fst, a.eval x.snd)).toList = some A' := k1
      rw [if_pos h0]
      simp only [Sem.run_bind, Sem.run_pure, Result.andThen_ok]
      rw [k1']
      simp [newRow, newObj, Sem.run]
    · have hzero : zero = z.cells := if_neg h0
      rw [hzero] at k1
      have k1' : Instr.fill (fun i => some (i * sz, sz)) ((Array.range (n * sz)).map (z.cells[· % z.cells.size]!)) (ps.map fun x => (x.fst, a.eval x.snd)).toList = some A' := k1
      rw [if_neg h0]
      simp only [Sem.run_bind, run_zeroOf c.W hz, Sem.run_pure, Result.andThen_ok]
      rw [k1']
      simp [newRow, newObj, Sem.run]
  · rintro c' rfl ok' ev
    refine ⟨.slc s E 0 n _ _ (.inr rfl) (Nat.le_refl _) (fun L hL he' => .inr ?_), ?_⟩
    · simp only [Cx.own, if_true] at hL
      obtain rfl := Option.some.inj hL
      exact ⟨_, rfl, by simp, by simp⟩
    · refine ⟨⟨some c.W.heap.size, 0, n * sz, E, sz⟩, by simp [Cx.own], rfl, rfl, k5, fun hn => (by cases hn), fun r hr' => ?_⟩
      obtain rfl := Option.some.inj hr'
      refine ⟨A', e, (0, 0), heap_new _ _, hAs, by simp, by rw [List.length_map, flatten_len rs sz k5, hrl]; simp, fun j v hj => ?_⟩
      rw [List.getElem?_map] at hj
      cases hx : rs.flatten[j]? with
      | none => rw [hx] at hj; cases hj
      | some d =>
        rw [hx] at hj
        obtain rfl := Option.some.inj hj
        have hlt : j < A'.size := by
          have := (List.getElem?_eq_some_iff.1 hx).1
          rw [flatten_len rs sz k5, hrl] at this; omega
        have hv := (k7 j d hx).mono ok ev
        rw [Nat.zero_mul, Nat.zero_add, Array.getD_eq_getD_getElem?, Array.getElem?_eq_getElem hlt] at hv
        exact ⟨A'[j], by rw [Nat.zero_add, Array.getElem?_eq_getElem hlt], hv, k3 _ (by simp)⟩
end
def isB : List (List Dat) → Bool := fun rs => rs.all fun r => match r with | [.lit (.int .u8 _)] => true | _ => false
def unB : List Dat → Int
  | [.lit (.int .u8 n)] => n
  | _ => 0
def strR (rs : List (List Dat)) : ByteArray := ⟨(rs.map fun r => UInt8.ofNat (unB r).toNat).toArray⟩
abbrev brows (l : List UInt8) : List (List Dat) := l.map fun b => [.lit (.int .u8 b.toNat)]
theorem isB_brows (l : List UInt8) : isB (brows l) = true := by simp [isB]
theorem strR_brows (l : List UInt8) : strR (brows l) = ⟨l.toArray⟩ := by
  unfold strR
  congr 2
  rw [List.map_map]
  conv => rhs; rw [← List.map_id l]
  apply List.map_congr_left
  intro b _
  simp [unB]
theorem isB_app (a b : List (List Dat)) : isB (a ++ b) = (isB a && isB b) := by simp [isB]
section
variable {P : Program} {o : Oper} {ρ : Operand → AV} {h : List (Nat × Blk)} {E : Nat}
theorem rows_cells {x : AV} {rs : List (List Dat)} {F : List Nat} {sz : Nat} (hr : rowsOf sz h x = some (rs, F)) {c : Cx} {u : Value} (hv : VR c x u) (hb : ∀ b ∈ F, ∀ blk, hget h b = some blk → BR c b blk) (hx : ∀ s, x ≠ .lit (.string s)) :
    ∃ A n cap, u = .slice A n cap ∧ n = rs.length ∧ (rs = [] ∨ ∃ k o, A = some ⟨k, o, none⟩ ∧ ∀ (j : Nat) d, rs.flatten[j]? = some d → ∃ u, c.W.cell? ⟨k, o + j, none⟩ = some u ∧ VR c (.dat d) u) := by
  unfold rowsOf at hr
  split at hr
  · rename_i sz' es
    split at hr
    case isFalse => cases hr
    rename_i hs
    subst hs
    simp only [Option.some.injEq, Prod.mk.injEq] at hr
    obtain ⟨rfl, rfl⟩ := hr
    cases hv with
    | dat _ _ hd =>
      cases hd with
      | lst _ _ A n cap f k o' hn hc hrow hA hf hone hv =>
        refine ⟨A, n, cap, rfl, hn, ?_⟩
        rcases hA with rfl | ⟨rfl, hk1, hk2⟩
        · exact .inl rfl
        · refine .inr ⟨k, o', rfl, fun j d hd => ?_⟩
          obtain ⟨i, r, q, h1, h2, h3⟩ := flatten_split es sz' hrow j d hd
          refine ⟨f i q, ?_, .dat _ _ (hv i r h1 q d h2)⟩
          rw [h3, ← Nat.add_assoc]
          exact hf i r h1 q d h2
  · simp only [Option.some.injEq, Prod.mk.injEq] at hr
    obtain ⟨rfl, rfl⟩ := hr
    obtain rfl := hv.lit_inv
    exact ⟨none, 0, 0, rfl, rfl, .inl rfl⟩
  · exact absurd rfl (hx _)
  · rename_i b e lo n
    split at hr
    · rename_i ep sz' ds hg
      split at hr
      · rename_i hc
        obtain ⟨rfl, rfl, hle⟩ := hc
        simp only [Option.some.injEq, Prod.mk.injEq] at hr
        obtain ⟨rfl, rfl⟩ := hr
        obtain ⟨L, hL, hep, hlz, hrows, hnone, hcell⟩ := hb b (by simp) _ hg
        have hlen : ((ds.drop lo).take n).length = n := by rw [List.length_take, List.length_drop]; omega
        cases hv with
        | slc _ _ _ _ A cap hU hn hp =>
          refine ⟨A, n, cap, rfl, hlen.symm, ?_⟩
          rcases hp L hL hep with ⟨rfl, rfl⟩ | ⟨r, hr, rfl, hcap⟩
          · exact .inl rfl
          · refine .inr ⟨r, L.base + lo * L.sz, rfl, fun j d hd => ?_⟩
            rw [flatten_take ds sz' hrows, List.getElem?_take] at hd
            split at hd
            · rw [List.getElem?_drop] at hd
              obtain ⟨u, q1, q2, _⟩ := (hcell r hr).cell (lo * sz' + j) (.dat d) (by rw [List.getElem?_map, hd]; rfl)
              exact ⟨u, by rw [hlz, Nat.add_assoc]; exact q1, q2⟩
            · cases hd
      · cases hr
    · cases hr
  · cases hr
theorem isB_get {rs : List (List Dat)} (h : isB rs = true) (j : Nat) (r : List Dat) (hj : rs[j]? = some r) : r = [.lit (.int .u8 (unB r))] := by
  have := List.all_eq_true.1 h r (List.mem_of_getElem? hj)
  split at this
  · rfl
  · cases this
theorem isB_flat : ∀ {rs : List (List Dat)}, isB rs = true → ∀ (j : Nat), rs.flatten[j]? = (rs[j]?).map fun r => .lit (.int .u8 (unB r))
  | [], _, j => by simp
  | r :: rs, h, j => by
    have h1 := isB_get h 0 r rfl
    have h2 : isB rs = true := by simp only [isB, List.all_cons, Bool.and_eq_true] at h; exact h.2
    rw [List.flatten_cons, h1]
    match j with
    | 0 => simp [unB]
    | j + 1 => simpa [unB] using isB_flat h2 j
theorem os_convert_bytes {s d e : TypeId} {x : Operand} {rs : List (List Dat)} {F : List Nat} (ho : o.op = .convert s d x) (hs : P.underlying s = some (.slice e)) (he : P.underlying e = some (.int .u8)) (hd : P.underlying d = some .string)
    (hr : rowsOf 1 h (ρ x) = some (rs, F)) (hxs : ∀ b, ρ x ≠ .lit (.string b)) (hB : isB rs = true) : OStep P o ρ h F E (.lit (.string (strR rs))) h :=
  ostep_value (fun c a ok hops hblk => by
    have k1 := hops x (by rw [ho]; simp [Op.operands])
    obtain ⟨A, n, cap, hu, hn, hA⟩ := rows_cells hr k1 hblk hxs
    refine ⟨.string (strR rs), ?_, .dat _ _ (.lit _)⟩
    have hrun : (convert s d (.slice A n cap)).run P c.W = .ok (.string (strR rs)) c.W := by
      rcases hA with rfl | ⟨k, o', rfl, hc⟩
      · obtain rfl : n = 0 := hn
        cases A with
        | none => exact run_convert_bytes_nil c.W s e hs he 0 cap d hd
        | some ad =>
          rw [run_convert_bytes_string c.W s d e _ 0 cap hs he hd, run_bytesToString c.W ad 0 cap [] (by simp [loadCells, loadCellsFrom])]
          rfl
      · subst hn
        have := run_convert_bytes_arg (P := P) c.W s e hs he k o' rs.length cap (rs.map unB) (by simp) (fun i hi => by
          have hg := List.getElem?_eq_getElem hi
          obtain ⟨u, q1, q2⟩ := hc i (.lit (.int .u8 (unB rs[i]))) (by rw [isB_flat hB, hg]; rfl)
          rw [q1, q2.lit_inv]
          simp [List.getD_eq_getElem?_getD, hg]) d hd
        rw [this]
        simp [strOfNums, strR, List.map_map, Function.comp_def]
    simp [execOp, ho, hu, hrun])
end
end Go.Proofs.YtinpnidokpjfhaaGreatDoor.AM
namespace Go.Proofs.YtinpnidokpjfhaaGreatDoor.AM
open Go.RowKit
set_option linter.unusedVariables false
set_option linter.unusedSimpArgs false
def arrT (P : Program) (t : TypeId) : Option (Nat × TypeId) := match P.underlying t with
  | some (.array n e) => some (n, e)
  | _ => none
theorem arr_of {P : Program} {t : TypeId} {n : Nat} {e : TypeId} (h : arrT P t = some (n, e)) : P.underlying t = some (.array n e) := by
  unfold arrT at h
  split at h
  · rename_i hu
    simp only [Option.some.injEq, Prod.mk.injEq] at h
    obtain ⟨rfl, rfl⟩ := h
    exact hu
  · cases h
section
variable {P : Program} {o : Oper} {ρ : Operand → AV} {h : List (Nat × Blk)} {E : Nat} {v : AV}
theorem part_spec {t : TypeId} {n off : Nat} {g : Bool} {cs : List AV} {c : Cx} {us : Array Value} (hn : tsz P t = some n) (hg : isAggT P t = some g) (hp : partOf g n off cs = some v) (hs : us.size = cs.length) (k1 : ∀ (i : Nat) x, cs[i]? = some x → VR c x (us.getD i undef)) :
    ∃ u, (part t us off).run P c.W = .ok u c.W ∧ VR c v u := by
  unfold partOf at hp
  split at hp
  · rename_i hle
    have hl : ((us.toList.drop off).take n).length = ((cs.drop off).take n).length := by
      simp only [List.length_take, List.length_drop, Array.length_toList, hs]
    have hget : ∀ (j : Nat) v, ((cs.drop off).take n)[j]? = some v → VR c v (((us.toList.drop off).take n).getD j undef) := fun j v hj => by
      rw [List.getElem?_take] at hj
      split at hj
      · rename_i hjn
        rw [List.getElem?_drop] at hj
        have := k1 _ v hj
        rw [List.getD_eq_getElem?_getD, List.getElem?_take, if_pos hjn, List.getElem?_drop]
        simpa [Array.getD_eq_getD_getElem?] using this
      · cases hj
    obtain ⟨h2, hv⟩ := fin_spec hp hl hget
    refine ⟨_, ?_, hv⟩
    cases g with
    | true =>
      have e : us.extract off (off + n) = ((us.toList.drop off).take n).toArray := by
        apply Array.ext'
        simp [Array.toList_extract, List.extract]
      simp [part, run_isAggT c.W hg, run_tsz c.W hn, e]
    | false =>
      have h3 := h2 rfl
      have h4 : n = 1 := by rw [List.length_take, List.length_drop] at h3; omega
      have h5 : off < us.size := by rw [hs]; omega
      simp [part, run_isAggT c.W hg, h5, h4]
  · cases hp
theorem os_index_agg {t e : TypeId} {x y : Operand} {n sz : Nat} {g : Bool} {cs : List AV} {k : IntKind} {i : Int} (ho : o.op = .index t x y) (ha : arrT P t = some (n, e)) (hz : tsz P e = some sz) (hg : isAggT P e = some g) (hx : ρ x = .agg cs) (hy : ρ y = .lit (.int k i)) (h0 : 0 ≤ i) (hi : i < (n : Int))
    (hp : partOf g sz (i.toNat * sz) cs = some v) : OStep P o ρ h [] E v h :=
  ostep_value (fun c a ok hops _ => by
    have h1 := hops x (by rw [ho]; simp [Op.operands])
    have h2 := hops y (by rw [ho]; simp [Op.operands])
    rw [hx] at h1
    rw [hy] at h2
    have e2 := h2.lit_inv
    generalize hu : a.eval x = u at h1
    cases h1 with
    | agg _ us hs k1 =>
      obtain ⟨w, q1, q2⟩ := part_spec hz hg hp hs k1
      exact ⟨w, by simp [execOp, ho, hu, e2, Instr.index, asIntOf, run_underlying (arr_of ha), h0, hi, run_tsz c.W hz, q1], q2⟩)
theorem os_indexAddr_arr {t e : TypeId} {x y : Operand} {b ep j off n sz : Nat} {k : IntKind} {i : Int} (ho : o.op = .indexAddr t x y) (ha : arrT P t = some (n, e)) (hz : tsz P e = some sz) (hx : ρ x = .ptr b ep j off) (hl : live h b ep = true) (hy : ρ y = .lit (.int k i)) (h0 : 0 ≤ i) (hi : i < (n : Int)) :
    OStep P o ρ h [b] E (.ptr b ep j (off + i.toNat * sz)) h :=
  ostep_value (fun c a ok hops hblk => by
    have h1 := hops x (by rw [ho]; simp [Op.operands])
    have h2 := hops y (by rw [ho]; simp [Op.operands])
    rw [hx] at h1
    rw [hy] at h2
    have e2 := h2.lit_inv
    generalize hu : a.eval x = u at h1
    obtain ⟨L, hL, he⟩ := live_spec hl (c := c) (hblk b (by simp))
    cases h1 with
    | ptr _ _ _ _ A hU hp =>
      obtain ⟨r, hr, rfl⟩ := hp L hL he
      refine ⟨.pointer (some ⟨r, L.base + j * L.sz + (off + i.toNat * sz), none⟩), ?_, .ptr _ _ _ _ _ hU (fun L' hL' he' => ?_)⟩
      · simp [execOp, ho, hu, e2, Instr.indexAt, asIntOf, run_underlying (arr_of ha), Instr.sureAddr, h0, hi, run_tsz c.W hz, add_at, Nat.add_assoc]
      · rw [hL] at hL'
        obtain rfl := Option.some.inj hL'
        exact ⟨r, hr, rfl⟩)
theorem os_build_arr {t e : TypeId} {ps : Array (Nat × Operand)} {z : Value} {n sz : Nat} {zs cs : List AV} (ho : o.op = .build t ps) (hz : zeroOf P t = some z) (ha : arrT P t = some (n, e)) (hsz : tsz P e = some sz) (hzs : flat (ofConst z) = some zs) (hf : afill (fun i => some (i * sz, sz)) zs (ps.toList.map fun (i, x) => (i, ρ x)) = some cs) :
    OStep P o ρ h [] E (.agg cs) h :=
  ostep_value (fun c a ok hops _ => by
    have hops' : ∀ x ∈ (ps.toList.map (·.2)), VR c (ρ x) (a.eval x) := fun x hx => hops x (by rw [ho]; simpa [Op.operands] using hx)
    obtain ⟨p1, p2⟩ := parts_rel (ps := ps) hops'
    obtain ⟨z1, z2, z3⟩ := flat_spec hzs (VR.ofConst c z)
    obtain ⟨A', k1, k2⟩ := fill_rel (c := c) (place := fun i => some (i * sz, sz)) _ _ zs z.cells cs p1 p2 ⟨z1, z2, z3⟩ hf
    refine ⟨.agg A', ?_, .agg cs A' k2.size k2.rel⟩
    have k1' : Instr.fill (fun i => some (i * sz, sz)) z.cells (ps.map fun (i, x) => (i, a.eval x)).toList = some A' := k1
    simp only [execOp, ho, Instr.build, Sem.run_bind, run_zeroOf c.W hz, Result.andThen_ok, run_underlying (arr_of ha), run_tsz c.W hsz, k1']
    rfl)
theorem flat1 (ds : List Dat) : (ds.map ([·])).flatten = ds := by
  induction ds with
  | nil => rfl
  | cons d ds ih => simp [ih]
theorem os_slice_arr {t e : TypeId} {x : Operand} {b ep n s : Nat} {cs : List AV} {ds : List Dat} (ho : o.op = .slice t x none none none) (ha : arrT P t = some (n, e)) (hz : tsz P e = some 1) (hx : ρ x = .ptr b ep 0 0) (hb : hget h b = some (.box ep cs)) (hd : dats cs = some ds) (hn : cs.length = n) (hs : o.dst = some s) :
    OStep P o ρ h [s, b] E (.slc s E 0 n) (hset (hdel h b) s (.arr E 1 (ds.map ([·])))) := by
  intro c a ok hops hblk hE K Q hK
  have h1 := hops x (by rw [ho]; simp [Op.operands])
  rw [hx] at h1
  generalize hu : a.eval x = u at h1
  obtain ⟨L, r, hL, hep, hr, hc⟩ := hblk b (by simp) _ hb
  cases h1 with
  | ptr _ _ _ _ A hU hp =>
    obtain ⟨r', hr', rfl⟩ := hp L hL hep
    obtain rfl : r' = r := by rw [hr] at hr'; exact (Option.some.inj hr').symm
    have hrun : (execOp a.eval o).run P c.W = .ok (.value (.slice (some ⟨r', L.base + 0 * L.sz + 0, none⟩) n n)) c.W := by
      have hz0 : (⟨r', L.base, none⟩ : Addr).add 0 = ⟨r', L.base, none⟩ := by rw [add_at]; rfl
      simp [execOp, ho, hu, Instr.sliceAt, run_underlying (arr_of ha), Instr.sureAddr, Instr.sliceBounds, run_tsz c.W hz, hz0]
    unfold Oper.wp
    rw [hrun]
    let L' : Loc := ⟨some r', L.base, L.size, E, 1⟩
    have m : Moves c c.W s [b] L' := ⟨rfl, rfl, rfl, Nat.le_refl _, fun _ _ _ => rfl, fun q hq => by
      obtain rfl := Option.some.inj hq
      exact ok.bnd _ (ok.sub b L _ hL hr), fun q hq => by
      obtain rfl := Option.some.inj hq
      exact .inr ⟨b, L, by simp, hL, hr⟩⟩
    have ev := m.ev ok hE
    have hlen : L.base + cs.length ≤ L.size := by obtain ⟨_, _, _, _, _, _, q, _⟩ := hc; exact q
    have hfl := flat1 ds
    have hcell : CellsAt (c.moved c.W s [b] L') r' L.base L.size cs := by
      obtain ⟨us, el, fz, q1, q2, q3, q4, q5⟩ := hc
      refine ⟨us, el, fz, q1, q2, q3, q4, fun j v hj => ?_⟩
      obtain ⟨u, w1, w2, w3⟩ := q5 j v hj
      exact ⟨u, w1, w2.mono ok ev, w3⟩
    have hι : (c.moved c.W s [b] L').ι s = some L' := by simp [Cx.moved]
    refine hK _ (c.moved c.W s [b] L') (m.ok ok) ev (.slc _ _ _ _ _ _ (.inr rfl) (Nat.le_refl _) (fun L2 hL2 _ => ?_)) (fun b' hb' blk hblk' => ?_)
    · rw [hι] at hL2
      obtain rfl := Option.some.inj hL2
      exact .inr ⟨r', rfl, by simp [L'], by simp only [L']; omega⟩
    · rw [hget_hset] at hblk'
      split at hblk'
      · rename_i hsb
        subst hsb
        obtain rfl := Option.some.inj hblk'
        refine ⟨L', hι, rfl, rfl, fun r hr => ?_, fun h => (by cases h), fun r2 hr2 => ?_⟩
        · obtain ⟨d, _, rfl⟩ := List.mem_map.1 hr; rfl
        · obtain rfl := Option.some.inj hr2
          rw [hfl, ← dats_spec hd]
          exact hcell
      · rename_i hsb
        rw [hget_hdel] at hblk'
        split at hblk'
        · cases hblk'
        · rename_i hbb
          simp only [List.mem_cons, List.not_mem_nil, or_false] at hb'
          rcases hb' with rfl | rfl
          · exact absurd rfl hsb
          · exact absurd rfl hbb
end
end Go.Proofs.YtinpnidokpjfhaaGreatDoor.AM
namespace Go.Proofs.YtinpnidokpjfhaaGreatDoor.AM
open Go.RowKit
set_option linter.unusedVariables false
set_option linter.unusedSimpArgs false
section
variable {P : Program} {o : Oper} {ρ : Operand → AV} {h : List (Nat × Blk)} {E : Nat} {v : AV}
theorem os_makeMap {t : TypeId} {s : Nat} (ho : o.op = .makeMap t none) : OStep P o ρ h [s] E (.mp s E) (hset h s (.maps E [])) := by
  refine ostep_new (fun c a ok hops => ?_)
  refine ⟨.map (some c.W.heap.size), c.W.alloc (.map #[] 0), ⟨some c.W.heap.size, 0, 0, E, 0⟩, c.W.heap.size, ?_, Grows.alloc _ _, rfl, rfl, Nat.le_refl _, by simp, ?_⟩
  · simp [execOp, ho, Instr.makeMap, newObj, Sem.run]
  · rintro c' rfl ok' ev
    refine ⟨.mp s E _ (.inr rfl) (fun L hL he => ?_), ?_⟩
    · simp only [Cx.own, if_true] at hL
      obtain rfl := Option.some.inj hL
      exact ⟨_, rfl, rfl⟩
    · exact ⟨⟨some c.W.heap.size, 0, 0, E, 0⟩, c.W.heap.size, by simp [Cx.own], rfl, rfl, #[], 0, heap_new _ _, rfl, by simp⟩
def mfind : List (Value × AV) → ByteArray → Nat → Option (Nat × AV)
  | [], _, _ => none
  | (.string s, x) :: l, k, i => if s = k then some (i, x) else mfind l k (i + 1)
  | (_, _) :: l, k, i => mfind l k (i + 1)
def strKeys (kv : List (Value × AV)) : Bool := kv.all fun p => match p.1 with | .string _ => true | _ => false
theorem mfind_spec {c : Cx} (k : ByteArray) : ∀ (kv : List (Value × AV)) (es : List MapEntry) (i : Nat), es.length = kv.length → (∀ (j : Nat) q w, kv[j]? = some (q, w) → ∃ e, es[j]? = some e ∧ e.key = q ∧ VR c w e.val) → strKeys kv = true →
    match mfind kv k i with
    | some (j, x) => ∃ e, i ≤ j ∧ es[j - i]? = some e ∧ e.key = .string k ∧ VR c x e.val ∧ Instr.findNow .string (.string k) es i = some (some (j, e.val))
    | none => Instr.findNow .string (.string k) es i = some none
  | [], [], i, _, _, _ => rfl
  | [], _ :: _, i, hl, _, _ => by simp at hl
  | p :: kv, [], i, hl, _, _ => by simp at hl
  | (q, x) :: kv, e :: es, i, hl, h, hs => by
    simp only [strKeys, List.all_cons, Bool.and_eq_true] at hs
    obtain ⟨e', he', hk, hv⟩ := h 0 q x rfl
    obtain rfl := Option.some.inj he'
    have ih := mfind_spec k kv es (i + 1) (by simpa using hl) (fun j q w hj => h (j + 1) q w (by simpa using hj)) hs.2
    cases q with
    | string s =>
      simp only [mfind]
      by_cases hsk : s = k
      · rw [if_pos hsk]
        have hkk : (k == k) = true := (Go.MapKept.bytes_beq k k).2 rfl
        exact ⟨e, Nat.le_refl _, by simp, by rw [hk, hsk], hv, by simp [Instr.findNow, Instr.sameNow, hk, hsk, hkk]⟩
      · rw [if_neg hsk]
        have hne : (k == s) = false := by
          cases hh : (k == s) with
          | false => rfl
          | true => exact absurd ((Go.MapKept.bytes_beq k s).1 hh).symm hsk
        cases hm : mfind kv k (i + 1) with
        | none => rw [hm] at ih; simp [Instr.findNow, Instr.sameNow, hk, hne, ih]
        | some r =>
          obtain ⟨j, y⟩ := r
          rw [hm] at ih
          obtain ⟨e2, q1, q2, q3, q4, q5⟩ := ih
          exact ⟨e2, by omega, by rw [show j - i = (j - (i + 1)) + 1 by omega]; simpa using q2, q3, q4, by simp [Instr.findNow, Instr.sameNow, hk, hne, q5]⟩
    | _ => simp at hs
def mgot (kv : List (Value × AV)) (k : ByteArray) (z : Value) (cok : Bool) : AV := match mfind kv k 0 with
  | some (_, x) => if cok then .tup [x, .lit (.bool true)] else x
  | none => if cok then .tup [ofConst z, .lit (.bool false)] else ofConst z
theorem VR.pair {c : Cx} {x : AV} {u : Value} (h : VR c x u) (b : Bool) : VR c (.tup [x, .lit (.bool b)]) (.tuple #[u, .bool b]) := .tup _ #[u, .bool b] rfl (fun i y hy => by
  match i, hy with
  | 0, hy => obtain rfl := Option.some.inj hy; exact h
  | 1, hy => obtain rfl := Option.some.inj hy; exact .dat _ _ (.lit _)
  | i + 2, hy => simp at hy)
theorem os_lookup {t kt et : TypeId} {x y : Operand} {cok : Bool} {z : Value} {b ep : Nat} {kv : List (Value × AV)} {k : ByteArray} (ho : o.op = .lookup t x y cok) (hm : P.underlying t = some (.map kt et)) (hd : P.underlying kt = some .string) (hz : zeroOf P et = some z)
    (hx : ρ x = .mp b ep) (hb : hget h b = some (.maps ep kv)) (hy : ρ y = .lit (.string k)) (hs : strKeys kv = true) : OStep P o ρ h [b] E (mgot kv k z cok) h :=
  ostep_value (fun c a ok hops hblk => by
    have h1 := hops x (by rw [ho]; simp [Op.operands])
    have h2 := hops y (by rw [ho]; simp [Op.operands])
    rw [hx] at h1
    rw [hy] at h2
    have e2 := h2.lit_inv
    generalize hu : a.eval x = u at h1
    obtain ⟨L, r, hL, hep, hr, es, clock, q1, q2, q3⟩ := hblk b (by simp) _ hb
    cases h1 with
    | mp _ _ R hU hp =>
      obtain ⟨r', hr', rfl⟩ := hp L hL hep
      obtain rfl : r' = r := by rw [hr] at hr'; exact (Option.some.inj hr').symm
      have hik : MapKept.IsKey .string (.string k) := by simp [MapKept.IsKey]
      have sp := mfind_spec (c := c) k kv es.toList 0 (by simpa using q2) (fun j q w hj => by obtain ⟨e, w1, w2, w3⟩ := q3 j q w hj; exact ⟨e, by simpa using w1, w2, w3⟩) hs
      unfold mgot
      cases hf : mfind kv k 0 with
      | none =>
        rw [hf] at sp
        refine ⟨if cok then .tuple #[z, .bool false] else z, ?_, ?_⟩
        · simp [execOp, ho, hu, e2, Instr.lookup, run_underlying hm, MapKept.run_getObj_map q1, MapKept.run_checkKey hd hik, MapKept.run_findKey hd sp, run_zeroOf c.W hz]
        · cases cok
          · exact VR.ofConst c z
          · exact (VR.ofConst c z).pair false
      | some p =>
        obtain ⟨j, w⟩ := p
        rw [hf] at sp
        obtain ⟨e, _, _, _, hv, sp⟩ := sp
        refine ⟨if cok then .tuple #[e.val, .bool true] else e.val, ?_, ?_⟩
        · simp [execOp, ho, hu, e2, Instr.lookup, run_underlying hm, MapKept.run_getObj_map q1, MapKept.run_checkKey hd hik, MapKept.run_findKey hd sp]
        · cases cok
          · exact hv
          · exact hv.pair true)
def mput (kv : List (Value × AV)) (k : ByteArray) (v : AV) : List (Value × AV) := match mfind kv k 0 with
  | some (j, _) => kv.set j (.string k, v)
  | none => kv ++ [(.string k, v)]
theorem setMap_wrote {c : Cx} {b r : Nat} {L : Loc} (hL : c.ι b = some L) (hr : L.rb = some r) (o : Obj) : Wrote c b r { c.W with heap := c.W.heap.setIfInBounds r o } :=
  ⟨rfl, rfl, rfl, by simp, fun k hk => by simp [Ne.symm hk], L, hL, hr⟩
theorem os_mapUpdate {t kt et : TypeId} {x y z : Operand} {b ep : Nat} {kv : List (Value × AV)} {k : ByteArray} (ho : o.op = .mapUpdate t x y z) (hm : P.underlying t = some (.map kt et)) (hd : P.underlying kt = some .string)
    (hx : ρ x = .mp b ep) (hb : hget h b = some (.maps ep kv)) (hy : ρ y = .lit (.string k)) (hs : strKeys kv = true) : OStep P o ρ h [b] E noVal (hset h b (.maps ep (mput kv k (ρ z)))) := by
  intro c a ok hops hblk hE K Q hK
  have h1 := hops x (by rw [ho]; simp [Op.operands])
  have h2 := hops y (by rw [ho]; simp [Op.operands])
  have h3 := hops z (by rw [ho]; simp [Op.operands])
  rw [hx] at h1
  rw [hy] at h2
  have e2 := h2.lit_inv
  generalize hu : a.eval x = u at h1
  obtain ⟨L, r, hL, hep, hr, es, clock, q1, q2, q3⟩ := hblk b (by simp) _ hb
  cases h1 with
  | mp _ _ R hU hp =>
    obtain ⟨r', hr', rfl⟩ := hp L hL hep
    obtain rfl : r' = r := by rw [hr] at hr'; exact (Option.some.inj hr').symm
    have hik : MapKept.IsKey .string (.string k) := by simp [MapKept.IsKey]
    have sp := mfind_spec (c := c) k kv es.toList 0 (by simpa using q2) (fun j q w hj => by obtain ⟨e, w1, w2, w3⟩ := q3 j q w hj; exact ⟨e, by simpa using w1, w2, w3⟩) hs
    have close : ∀ (es' : Array MapEntry) (clock' : Nat), (execOp a.eval o).run P c.W = .ok .skip { c.W with heap := c.W.heap.setIfInBounds r' (.map es' clock') } → es'.size = (mput kv k (ρ z)).length →
        (∀ (j : Nat) q w, (mput kv k (ρ z))[j]? = some (q, w) → ∃ e, es'[j]? = some e ∧ e.key = q ∧ VR c w e.val) → o.wp P a c.W K Q := fun es' clock' hrun hsz hrel => by
      have hw := setMap_wrote (c := c) hL hr (.map es' clock')
      unfold Oper.wp
      rw [hrun]
      refine hK undef (c.wrote _) (hw.ok ok) hw.ev (VR.noVal _) (fun b' hb' blk hblk' => ?_)
      have : b' = b := by simpa using hb'
      subst this
      rw [hget_hset, if_pos rfl] at hblk'
      obtain rfl := Option.some.inj hblk'
      have hlt : r' < c.W.heap.size := lt_of_get q1
      refine ⟨L, r', hL, hep, hr, es', clock', by simp [Cx.wrote, hlt], hsz, fun j q w hj => ?_⟩
      obtain ⟨e, w1, w2, w3⟩ := hrel j q w hj
      exact ⟨e, w1, w2, w3.mono ok (hw.ev (N := fun _ => False))⟩
    cases hf : mfind kv k 0 with
    | none =>
      rw [hf] at sp
      refine close (es.push { key := .string k, val := a.eval z, born := clock }) (clock + 1) ?_ (by simp [mput, hf, q2]) (fun j q w hj => ?_)
      · simp [execOp, ho, hu, e2, Instr.mapUpdate, run_underlying hm, MapKept.run_getObj_map q1, MapKept.run_checkKey hd hik, MapKept.run_findKey hd sp, MapKept.run_setObj_map _ q1]
      · simp only [mput, hf] at hj
        by_cases hlt : j < kv.length
        · rw [List.getElem?_append_left hlt] at hj
          obtain ⟨e, w1, w2, w3⟩ := q3 j q w hj
          exact ⟨e, by rw [Array.getElem?_push]; rw [if_neg (by omega)]; exact w1, w2, w3⟩
        · rw [List.getElem?_append_right (by omega)] at hj
          have hj0 : j = kv.length := by
            have := (List.getElem?_eq_some_iff.1 hj).1
            simp at this; omega
          subst hj0
          simp at hj
          obtain ⟨rfl, rfl⟩ := hj
          exact ⟨_, by rw [Array.getElem?_push, if_pos q2.symm], rfl, h3⟩
    | some p =>
      obtain ⟨j0, w0⟩ := p
      rw [hf] at sp
      obtain ⟨e0, _, s1, s2, _, sp⟩ := sp
      have hj0 : es[j0]? = some e0 := by simpa using s1
      refine close (es.modify j0 fun e => { e with key := .string k, val := a.eval z }) clock ?_ (by simp [mput, hf, q2]) (fun j q w hj => ?_)
      · simp [execOp, ho, hu, e2, Instr.mapUpdate, run_underlying hm, MapKept.run_getObj_map q1, MapKept.run_checkKey hd hik, MapKept.run_findKey hd sp, hj0, s2, MapKept.run_keyThatStays hik, MapKept.run_setObj_map _ q1]
      · simp only [mput, hf] at hj
        rw [List.getElem?_set] at hj
        rw [Array.getElem?_modify]
        split at hj
        · rename_i hjj
          subst hjj
          split at hj
          · simp only [Option.some.injEq, Prod.mk.injEq] at hj
            obtain ⟨rfl, rfl⟩ := hj
            exact ⟨_, by rw [if_pos rfl, hj0]; rfl, rfl, h3⟩
          · cases hj
        · rename_i hjj
          obtain ⟨e, w1, w2, w3⟩ := q3 j q w hj
          exact ⟨e, by rw [if_neg hjj]; exact w1, w2, w3⟩
theorem os_insert {t kt et : TypeId} {x y z : Operand} {b ep : Nat} {kv : List (Value × AV)} {k : ByteArray} (ho : o.op = .insert t x y z) (hm : P.underlying t = some (.map kt et)) (hd : P.underlying kt = some .string)
    (hx : ρ x = .mp b ep) (hb : hget h b = some (.maps ep kv)) (hy : ρ y = .lit (.string k)) (hs : strKeys kv = true) : OStep P o ρ h [b] E noVal (hset h b (.maps ep (mput kv k (ρ z)))) := by
  intro c a ok hops hblk hE K Q hK
  have h1 := hops x (by rw [ho]; simp [Op.operands])
  have h2 := hops y (by rw [ho]; simp [Op.operands])
  have h3 := hops z (by rw [ho]; simp [Op.operands])
  rw [hx] at h1
  rw [hy] at h2
  have e2 := h2.lit_inv
  generalize hu : a.eval x = u at h1
  obtain ⟨L, r, hL, hep, hr, es, clock, q1, q2, q3⟩ := hblk b (by simp) _ hb
  cases h1 with
  | mp _ _ R hU hp =>
    obtain ⟨r', hr', rfl⟩ := hp L hL hep
    obtain rfl : r' = r := by rw [hr] at hr'; exact (Option.some.inj hr').symm
    have hik : MapKept.IsKey .string (.string k) := by simp [MapKept.IsKey]
    have sp := mfind_spec (c := c) k kv es.toList 0 (by simpa using q2) (fun j q w hj => by obtain ⟨e, w1, w2, w3⟩ := q3 j q w hj; exact ⟨e, by simpa using w1, w2, w3⟩) hs
    have close : ∀ (es' : Array MapEntry) (clock' : Nat), (execOp a.eval o).run P c.W = .ok .skip { c.W with heap := c.W.heap.setIfInBounds r' (.map es' clock') } → es'.size = (mput kv k (ρ z)).length →
        (∀ (j : Nat) q w, (mput kv k (ρ z))[j]? = some (q, w) → ∃ e, es'[j]? = some e ∧ e.key = q ∧ VR c w e.val) → o.wp P a c.W K Q := fun es' clock' hrun hsz hrel => by
      have hw := setMap_wrote (c := c) hL hr (.map es' clock')
      unfold Oper.wp
      rw [hrun]
      refine hK undef (c.wrote _) (hw.ok ok) hw.ev (VR.noVal _) (fun b' hb' blk hblk' => ?_)
      have : b' = b := by simpa using hb'
      subst this
      rw [hget_hset, if_pos rfl] at hblk'
      obtain rfl := Option.some.inj hblk'
      have hlt : r' < c.W.heap.size := lt_of_get q1
      refine ⟨L, r', hL, hep, hr, es', clock', by simp [Cx.wrote, hlt], hsz, fun j q w hj => ?_⟩
      obtain ⟨e, w1, w2, w3⟩ := hrel j q w hj
      exact ⟨e, w1, w2, w3.mono ok (hw.ev (N := fun _ => False))⟩
    cases hf : mfind kv k 0 with
    | none =>
      rw [hf] at sp
      refine close (es.push { key := .string k, val := a.eval z, born := clock }) (clock + 1) ?_ (by simp [mput, hf, q2]) (fun j q w hj => ?_)
      · simp [execOp, ho, hu, e2, Instr.mapUpdate, run_underlying hm, MapKept.run_getObj_map q1, MapKept.run_checkKey hd hik, MapKept.run_findKey hd sp, MapKept.run_setObj_map _ q1]
      · simp only [mput, hf] at hj
        by_cases hlt : j < kv.length
        · rw [List.getElem?_append_left hlt] at hj
          obtain ⟨e, w1, w2, w3⟩ := q3 j q w hj
          exact ⟨e, by rw [Array.getElem?_push]; rw [if_neg (by omega)]; exact w1, w2, w3⟩
        · rw [List.getElem?_append_right (by omega)] at hj
          have hj0 : j = kv.length := by
            have := (List.getElem?_eq_some_iff.1 hj).1
            simp at this; omega
          subst hj0
          simp at hj
          obtain ⟨rfl, rfl⟩ := hj
          exact ⟨_, by rw [Array.getElem?_push, if_pos q2.symm], rfl, h3⟩
    | some p =>
      obtain ⟨j0, w0⟩ := p
      rw [hf] at sp
      obtain ⟨e0, _, s1, s2, _, sp⟩ := sp
      have hj0 : es[j0]? = some e0 := by simpa using s1
      refine close (es.modify j0 fun e => { e with key := .string k, val := a.eval z }) clock ?_ (by simp [mput, hf, q2]) (fun j q w hj => ?_)
      · simp [execOp, ho, hu, e2, Instr.mapUpdate, run_underlying hm, MapKept.run_getObj_map q1, MapKept.run_checkKey hd hik, MapKept.run_findKey hd sp, hj0, s2, MapKept.run_keyThatStays hik, MapKept.run_setObj_map _ q1]
      · simp only [mput, hf] at hj
        rw [List.getElem?_set] at hj
        rw [Array.getElem?_modify]
        split at hj
        · rename_i hjj
          subst hjj
          split at hj
          · simp only [Option.some.injEq, Prod.mk.injEq] at hj
            obtain ⟨rfl, rfl⟩ := hj
            exact ⟨_, by rw [if_pos rfl, hj0]; rfl, rfl, h3⟩
          · cases hj
        · rename_i hjj
          obtain ⟨e, w1, w2, w3⟩ := q3 j q w hj
          exact ⟨e, by rw [if_neg hjj]; exact w1, w2, w3⟩
theorem os_lookup_nil {t kt et : TypeId} {x y : Operand} {cok : Bool} {z : Value} {k : ByteArray} (ho : o.op = .lookup t x y cok) (hm : P.underlying t = some (.map kt et)) (hd : P.underlying kt = some .string) (hz : zeroOf P et = some z)
    (hx : ρ x = .lit (.map none)) (hy : ρ y = .lit (.string k)) : OStep P o ρ h [] E (mgot [] k z cok) h :=
  ostep_value (fun c a ok hops hblk => by
    have h1 := hops x (by rw [ho]; simp [Op.operands])
    have h2 := hops y (by rw [ho]; simp [Op.operands])
    rw [hx] at h1
    rw [hy] at h2
    have e1 := h1.lit_inv
    have e2 := h2.lit_inv
    have hik : MapKept.IsKey .string (.string k) := by simp [MapKept.IsKey]
    have sp : Instr.findNow .string (.string k) (#[] : Array MapEntry).toList 0 = some none := rfl
    refine ⟨if cok then .tuple #[z, .bool false] else z, ?_, ?_⟩
    · have sp' : Instr.findNow .string (.string k) [] 0 = some none := rfl
      simp [execOp, ho, e1, e2, Instr.lookup, run_underlying hm, MapKept.run_checkKey hd hik, MapKept.run_findKey hd sp', run_zeroOf c.W hz]
    · cases cok
      · exact VR.ofConst c z
      · exact (VR.ofConst c z).pair false)
theorem os_range_nil {t kt et : TypeId} {x : Operand} {s : Nat} (ho : o.op = .range t x) (hm : P.underlying t = some (.map kt et)) (hx : ρ x = .lit (.map none)) : OStep P o ρ h [s] E (.ptr s E 0 0) (hset h s (.iter E (.mapIter none 0 #[] 0))) := by
  refine ostep_new (fun c a ok hops => ?_)
  have h1 := hops x (by rw [ho]; simp [Op.operands])
  rw [hx] at h1
  have e1 := h1.lit_inv
  refine ⟨.pointer (some ⟨c.W.heap.size, 0, none⟩), c.W.alloc (.mapIter none 0 #[] 0), ⟨some c.W.heap.size, 0, 0, E, 0⟩, c.W.heap.size, ?_, Grows.alloc _ _, rfl, rfl, Nat.le_refl _, by simp, ?_⟩
  · simp [execOp, ho, e1, Instr.range, run_underlying hm, newObj, Sem.run]
  · rintro c' rfl ok' ev
    refine ⟨.ptr s E _ _ _ (.inr rfl) (fun L hL he => ?_), ?_⟩
    · simp only [Cx.own, if_true] at hL
      obtain rfl := Option.some.inj hL
      exact ⟨_, rfl, rfl⟩
    · exact ⟨⟨some c.W.heap.size, 0, 0, E, 0⟩, c.W.heap.size, by simp [Cx.own], rfl, rfl, rfl, heap_new _ _⟩
theorem os_next_nil {x : Operand} {b ep since last : Nat} {seen : Array Nat} (ho : o.op = .next x false) (hx : ρ x = .ptr b ep 0 0) (hb : hget h b = some (.iter ep (.mapIter none since seen last))) : OStep P o ρ h [b] E (.tup [.lit (.bool false)]) h :=
  ostep_value (fun c a ok hops hblk => by
    have h1 := hops x (by rw [ho]; simp [Op.operands])
    rw [hx] at h1
    generalize hu : a.eval x = u at h1
    obtain ⟨L, r, hL, hep, hr, hb0, hc⟩ := hblk b (by simp) _ hb
    cases h1 with
    | ptr _ _ _ _ A hU hp =>
      obtain ⟨r', hr', rfl⟩ := hp L hL hep
      obtain rfl : r' = r := by rw [hr] at hr'; exact (Option.some.inj hr').symm
      refine ⟨.tuple #[.bool false], ?_, .tup _ #[.bool false] rfl (fun i y hy => ?_)⟩
      · rw [hb0, Nat.zero_mul] at hu
        have hg : (getObj r').run P c.W = .ok (.mapIter none since seen last) c.W := by simp [getObj, Sem.run, hc]
        simp [execOp, ho, hu, Instr.next, hg]
      · match i, hy with
        | 0, hy => obtain rfl := Option.some.inj hy; exact .dat _ _ (.lit _)
        | i + 1, hy => simp at hy)
theorem os_nilCheck {x : Operand} {b e i off : Nat} (ho : o.op = .nilCheck x) (hx : ρ x = .ptr b e i off) (hl : live h b e = true) : OStep P o ρ h [b] E (.ptr b e i off) h :=
  ostep_value (fun c a ok hops hblk => by
    have h1 := hops x (by rw [ho]; simp [Op.operands])
    rw [hx] at h1
    generalize hu : a.eval x = u at h1
    obtain ⟨L, hL, he⟩ := live_spec hl (c := c) (hblk b (by simp))
    cases h1 with
    | ptr _ _ _ _ A hU hp =>
      obtain ⟨r, hr, rfl⟩ := hp L hL he
      refine ⟨_, ?_, .ptr _ _ _ _ _ hU hp⟩
      simp [execOp, ho, hu])
theorem os_nilCheck_fp {x : Operand} {cs : List Dat} (ho : o.op = .nilCheck x) (hx : ρ x = .fp cs) : OStep P o ρ h [] E (.fp cs) h :=
  ostep_value (fun c a ok hops hblk => by
    have h1 := hops x (by rw [ho]; simp [Op.operands])
    rw [hx] at h1
    generalize hu : a.eval x = u at h1
    cases h1 with
    | fp _ k o' f' hk hs hc hone hv =>
      refine ⟨_, ?_, .fp _ k o' f' hk hs hc hone hv⟩
      simp [execOp, ho, hu])
def mapT (P : Program) (t : TypeId) : Option TypeId := match P.underlying t with
  | some (.map kt et) => match P.underlying kt with
    | some .string => some et
    | _ => none
  | _ => none
theorem mapT_spec {t et : TypeId} (h : mapT P t = some et) : ∃ kt, P.underlying t = some (.map kt et) ∧ P.underlying kt = some .string := by
  unfold mapT at h
  split at h
  · rename_i kt et' hu
    split at h
    · rename_i hk
      obtain rfl := Option.some.inj h
      exact ⟨kt, hu, hk⟩
    · cases h
  · cases h
end
end Go.Proofs.YtinpnidokpjfhaaGreatDoor.AM
namespace Go.Proofs.YtinpnidokpjfhaaGreatDoor.AM
open Go.RowKit
set_option linter.unusedVariables false
set_option linter.unusedSimpArgs false
def isStrT (P : Program) (t : TypeId) : Bool := match P.underlying t with | some .string => true | _ => false
def intT (P : Program) (t : TypeId) : Option IntKind := match P.underlying t with | some (.int k) => some k | _ => none
def zcs (P : Program) (t : TypeId) : Option Nat := match zeroOf P t with
  | some z => if z.cells.toList.all Value.oneCell' then some z.cells.size else none
  | none => none
theorem isStrT_spec {P : Program} {t : TypeId} (h : isStrT P t = true) : P.underlying t = some .string := by
  unfold isStrT at h
  split at h
  · assumption
  · cases h
theorem intT_spec {P : Program} {t : TypeId} {k : IntKind} (h : intT P t = some k) : P.underlying t = some (.int k) := by
  unfold intT at h
  split at h
  · rename_i h'; obtain rfl := Option.some.inj h; exact h'
  · cases h
theorem zcs_spec {P : Program} {t : TypeId} {n : Nat} (h : zcs P t = some n) : ∃ z, zeroOf P t = some z ∧ z.cells.size = n ∧ z.cells.toList.all Value.oneCell' = true := by
  unfold zcs at h
  split at h
  · rename_i z hz
    split at h
    · rename_i h1; obtain rfl := Option.some.inj h; exact ⟨z, hz, rfl, h1⟩
    · cases h
  · cases h
abbrev Res := AV × List (Nat × Blk) × List Nat × List Nat
def astep (P : Program) (E : Nat) (o : Oper) (ρ : Operand → AV) (h : List (Nat × Blk)) : Option Res := match o.op with
  | .move x => some (ρ x, h, [], [])
  | .assign x => some (ρ x, h, [], [])
  | .pick x y z => match ρ x with
    | .dat (.lit (.bool t)) => some (if t then ρ y else ρ z, h, [], [])
    | _ => none
  | .box _ x => match flat (ρ x), o.dst with
    | some cs, some s => some (.ptr s E 0 0, hset h s (.box E cs), [s], [s])
    | _, _ => none
  | .alloc t => match zeroOf P t, o.dst with
    | some z, some s => match flat (ofConst z) with
      | some cs => some (.ptr s E 0 0, hset h s (.box E cs), [s], [s])
      | none => none
    | _, _ => none
  | .load t x => match aload P t (ρ x) h with
    | some (v, F) => some (v, h, F, [])
    | none => none
  | .store t x y => match ρ x, flat (ρ y), tsz P t with
    | .ptr b e i off, some cs, some n => if n = cs.length then match astore h b e i off cs with
      | some h' => some (noVal, h', [b], [b])
      | none => none
      else none
    | _, _, _ => none
  | .fieldAddr t x f => match fieldOf P t f with
    | some (off, ft) => match tsz P ft with
      | some (n + 1) => match ρ x with
        | .ptr b e i k => if live h b e = true then some (.ptr b e i (k + off), h, [b], []) else none
        | .fp cs => some (.fp (cs.drop off), h, [], [])
        | _ => none
      | _ => none
    | none => none
  | .field t x f => match fieldOf P t f, ρ x with
    | some (off, ft), .agg cs => match tsz P ft, isAggT P ft with
      | some n, some g => match partOf g n off cs with
        | some v => some (v, h, [], [])
        | none => none
      | _, _ => none
    | _, _ => none
  | .binOp op t x y _ => match ρ x, ρ y with
    | .dat (.lit u), .dat (.lit w) => match abin P t op u w with
      | some r => some (.lit r, h, [], [])
      | none => none
    | _, _ => none
  | .unOp op _ x => match ρ x with
    | .dat (.lit u) => match aun op u with
      | some r => some (.lit r, h, [], [])
      | none => none
    | _ => none
  | .extract x i => match ρ x with
    | .tup l => match l[i]? with
      | some v => some (v, h, [], [])
      | none => none
    | _ => none
  | .makeFunc f l m => some (.fn f (l.toList.map ρ) (m.toList.map ρ), h, [], [])
  | .call c => match c.callee, c.args.toList, c.argTypes.toList with
    | .builtin .len, [x], [t] => match alen (ρ x) with
      | some n => if lenTy P t (ρ x) = true then some (.lit (.int .i64 n), h, [], []) else none
      | none => none
    | .builtin .max, [x, y], _ => match ρ x, ρ y with
      | .dat (.lit u), .dat (.lit w) => match amm true u w with
        | some r => some (.lit r, h, [], [])
        | none => none
      | _, _ => none
    | .builtin .min, [x, y], _ => match ρ x, ρ y with
      | .dat (.lit u), .dat (.lit w) => match amm false u w with
        | some r => some (.lit r, h, [], [])
        | none => none
      | _, _ => none
    | .builtin .append, [x, y], [t, t'] => match elemT P t with
      | some e => match tsz P e, tby P e, zcs P e, o.dst with
        | some (sz + 1), some (by_ + 1), some zn, some s => match rowsOf (sz + 1) h (ρ x), rowsOf (sz + 1) h (ρ y) with
          | some (r0, F0), some (r1, F1) => if zn = sz + 1 ∧ growB (ρ x) = true ∧ lenTy P t' (ρ y) = true ∧ (isStrT P t' = true → sz = 0) ∧ (r0.length + r1.length) * (by_ + 1) ≤ 140737488355328 then
              some (.slc s E 0 (r0.length + r1.length), hset (F0.foldl hdel h) s (.arr E (sz + 1) (r0 ++ r1)), s :: (F0 ++ F1), s :: F0) else none
          | _, _ => none
        | _, _, _, _ => none
      | none => none
    | _, _, _ => none
  | .indexAddr t x y => match elemT P t with
    | some e => match tsz P e, ρ x, ρ y with
      | some sz, .dat (.lst s es), .dat (.lit (.int _ i)) => if s = sz ∧ 0 ≤ i then match es[i.toNat]? with
        | some row => some (.fp row, h, [], [])
        | none => none
        else none
      | some sz, .slc b ep lo n, .dat (.lit (.int _ i)) => if 0 ≤ i ∧ i < (n : Int) then match hget h b with
        | some (.arr ep' s ds) => if ep' = ep ∧ s = sz then some (.ptr b ep (lo + i.toNat) 0, h, [b], []) else none
        | _ => none
        else none
      | _, _, _ => none
    | none => match arrT P t, ρ x, ρ y with
      | some (n, e), .ptr b ep j off, .dat (.lit (.int _ i)) => match tsz P e with
        | some sz => if live h b ep = true ∧ 0 ≤ i ∧ i < (n : Int) then some (.ptr b ep j (off + i.toNat * sz), h, [b], []) else none
        | none => none
      | _, _, _ => none
  | .index t x y => match ρ x, ρ y with
    | .dat (.lit (.string s)), .dat (.lit (.int _ i)) => if isStrT P t = true then match (if 0 ≤ i then s[i.toNat]? else none) with
      | some b => some (.lit (.int .u8 b.toNat), h, [], [])
      | none => none
      else none
    | .agg cs, .dat (.lit (.int _ i)) => match arrT P t with
      | some (n, e) => match tsz P e, isAggT P e with
        | some sz, some g => if 0 ≤ i ∧ i < (n : Int) then match partOf g sz (i.toNat * sz) cs with
          | some v => some (v, h, [], [])
          | none => none
          else none
        | _, _ => none
      | none => none
    | _, _ => none
  | .slice t x lo hi none => match ρ x with
    | .ptr b ep 0 0 => match lo, hi, arrT P t, o.dst with
      | none, none, some (n, e), some s => match hget h b, tsz P e with
        | some (.box ep' cs), some 1 => match dats cs with
          | some ds => if ep' = ep ∧ cs.length = n then some (.slc s E 0 n, hset (hdel h b) s (.arr E 1 (ds.map ([·]))), [s, b], [s, b]) else none
          | none => none
        | _, _ => none
      | _, _, _, _ => none
    | .dat (.lit (.string s)) => match abnd ρ 0 lo, abnd ρ s.size hi with
      | some l, some m => if isStrT P t = true ∧ l ≤ m ∧ m ≤ s.size then some (.lit (.string (s.extract l m)), h, [], []) else none
      | _, _ => none
    | .dat (.lst s es) => match elemT P t, abnd ρ 0 lo, abnd ρ es.length hi with
      | some e, some l, some m => if tsz P e = some s ∧ l ≤ m ∧ m ≤ es.length then some (.dat (.lst s ((es.drop l).take (m - l))), h, [], []) else none
      | _, _, _ => none
    | .dat (.lit (.slice none 0 0)) => match elemT P t, abnd ρ 0 lo, abnd ρ 0 hi with
      | some e, some 0, some 0 => match tsz P e with
        | some _ => some (.lit (.slice none 0 0), h, [], [])
        | none => none
      | _, _, _ => none
    | .slc b ep lo0 n => match hget h b, elemT P t, abnd ρ 0 lo, abnd ρ n hi with
      | some (.arr ep' s ds), some e, some l, some m => if ep' = ep ∧ tsz P e = some s ∧ l ≤ m ∧ m ≤ n then some (.slc b ep (lo0 + l) (m - l), h, [b], []) else none
      | _, _, _, _ => none
    | _ => none
  | .convert s d x => match ρ x with
    | .dat (.lit (.int _ n)) => match intT P d, P.underlying s with
      | some k', some _ => some (.lit (.int k' (k'.wrap n)), h, [], [])
      | _, _ => none
    | .dat (.lit (.string b)) => if isStrT P s = true ∧ isStrT P d = true then some (.lit (.string b), h, [], []) else none
    | y => match rowsOf 1 h y, elemT P s with
      | some (rs, F), some e => match intT P e with
        | some .u8 => if isStrT P d = true ∧ isB rs = true then some (.lit (.string (strR rs)), h, F, []) else none
        | _ => none
      | _, _ => none
  | .makeInterface t x => match isIfaceT P t with
    | some false => some (.ifc t (ρ x), h, [], [])
    | _ => none
  | .build t ps => match zeroOf P t, placesOf P t with
    | some z, some pl => match flat (ofConst z) with
      | some zs => match afill (pl[·]?) zs (ps.toList.map fun (i, x) => (i, ρ x)) with
        | some cs => some (.agg cs, h, [], [])
        | none => none
      | none => none
    | some z, none => match arrT P t, flat (ofConst z) with
      | some (n, e), some zs => match tsz P e with
        | some sz => match afill (fun i => some (i * sz, sz)) zs (ps.toList.map fun (i, x) => (i, ρ x)) with
          | some cs => some (.agg cs, h, [], [])
          | none => none
        | none => none
      | _, _ => none
    | _, _ => none
  | .buildSlice t n ps => match elemT P t, o.dst with
    | some e, some s => match tsz P e, zcs P e with
      | some (sz + 1), some zn => match arows (sz + 1) 0 (ps.toList.map fun (i, x) => (i, ρ x)) with
        | some rs => if zn = sz + 1 ∧ n = ps.size ∧ n * (sz + 1) ≤ 16777216 then some (.slc s E 0 n, hset h s (.arr E (sz + 1) rs), [s], [s]) else none
        | none => none
      | _, _ => none
    | _, _ => none
  | .makeMap t none => match o.dst with
    | some s => some (.mp s E, hset h s (.maps E []), [s], [s])
    | none => none
  | .lookup t x y cok => match mapT P t, ρ x, ρ y with
    | some et, .mp b ep, .dat (.lit (.string k)) => match hget h b, zeroOf P et with
      | some (.maps ep' kv), some z => if ep' = ep ∧ strKeys kv = true then some (mgot kv k z cok, h, [b], []) else none
      | _, _ => none
    | some et, .dat (.lit (.map none)), .dat (.lit (.string k)) => match zeroOf P et with
      | some z => some (mgot [] k z cok, h, [], [])
      | none => none
    | _, _, _ => none
  | .mapUpdate t x y z => match mapT P t, ρ x, ρ y with
    | some et, .mp b ep, .dat (.lit (.string k)) => match hget h b with
      | some (.maps ep' kv) => if ep' = ep ∧ strKeys kv = true then some (noVal, hset h b (.maps ep (mput kv k (ρ z))), [b], [b]) else none
      | _ => none
    | _, _, _ => none
  | .insert t x y z => match mapT P t, ρ x, ρ y with
    | some et, .mp b ep, .dat (.lit (.string k)) => match hget h b with
      | some (.maps ep' kv) => if ep' = ep ∧ strKeys kv = true then some (noVal, hset h b (.maps ep (mput kv k (ρ z))), [b], [b]) else none
      | _ => none
    | _, _, _ => none
  | .range t x => match mapT P t, ρ x, o.dst with
    | some _, .dat (.lit (.map none)), some s => some (.ptr s E 0 0, hset h s (.iter E (.mapIter none 0 #[] 0)), [s], [s])
    | _, _, _ => none
  | .next x false => match ρ x with
    | .ptr b ep 0 0 => match hget h b with
      | some (.iter ep' (.mapIter none _ _ _)) => if ep' = ep then some (.tup [.lit (.bool false)], h, [b], []) else none
      | _ => none
    | _ => none
  | .nilCheck x => match ρ x with
    | .ptr b ep i off => if live h b ep = true then some (.ptr b ep i off, h, [b], []) else none
    | .fp cs => some (.fp cs, h, [], [])
    | _ => none
  | _ => none
def StepOK (P : Program) (E : Nat) (o : Oper) (ρ : Operand → AV) (h : List (Nat × Blk)) (r : Res) : Prop :=
  OStep P o ρ h r.2.2.1 E r.1 r.2.1 ∧ (∀ b, b ∉ r.2.2.2 → hget r.2.1 b = hget h b) ∧ ∀ b ∈ r.2.2.2, b ∈ r.2.2.1
section
variable {P : Program} {E : Nat} {o : Oper} {ρ : Operand → AV} {h : List (Nat × Blk)}
theorem StepOK.same {v : AV} {F : List Nat} (k : OStep P o ρ h F E v h) : StepOK P E o ρ h (v, h, F, []) := ⟨k, fun _ _ => rfl, fun _ hb => by cases hb⟩
theorem StepOK.set {v : AV} {s : Nat} {blk : Blk} (k : OStep P o ρ h [s] E v (hset h s blk)) : StepOK P E o ρ h (v, hset h s blk, [s], [s]) :=
  ⟨k, fun b hb => by rw [hget_hset, if_neg (fun e => hb (by simp [e]))], fun _ hb => hb⟩
theorem astore_far {b e i off : Nat} {cs : List AV} {h' : List (Nat × Blk)} (hs : astore h b e i off cs = some h') (k : Nat) (hk : k ≠ b) : hget h' k = hget h k := by
  have key : ∀ blk, hget (hset h b blk) k = hget h k := fun blk => by rw [hget_hset, if_neg (Ne.symm hk)]
  unfold astore at hs
  split at hs
  · split at hs
    · obtain rfl := Option.some.inj hs; exact key _
    · cases hs
  · split at hs
    · split at hs
      · split at hs
        · obtain rfl := Option.some.inj hs; exact key _
        · cases hs
      · cases hs
    · cases hs
  · cases hs
theorem app_far (F0 : List Nat) : ∀ (h : List (Nat × Blk)) (b : Nat), b ∉ F0 → hget (F0.foldl hdel h) b = hget h b := by
  induction F0 with
  | nil => intro h b _; rfl
  | cons d l ih =>
    intro h b hn
    rw [List.foldl_cons, ih _ _ (fun e => hn (List.mem_cons_of_mem _ e)), hget_hdel, if_neg (fun e => hn (by rw [e]; simp))]
theorem toArr1 {α : Type} {a : Array α} {l : List α} (h : a.toList = l) : a = l.toArray := by rw [← h]
end
end Go.Proofs.YtinpnidokpjfhaaGreatDoor.AM
