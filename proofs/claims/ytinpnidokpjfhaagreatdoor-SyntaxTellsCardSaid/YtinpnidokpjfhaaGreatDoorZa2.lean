/- Part 2 of the proof: words, contracts, plain laws. Laid by a program of this session (wip/tool/shake.py): what is needed of own and printed texts, in order. -/
import Derived.Test.YtinpnidokpjfhaaGreatDoorZa0
import Derived.Test.YtinpnidokpjfhaaGreatDoorZa1
import Derived.Calls
import Derived.Lib.ItoaNum
import Derived.Orders
import Derived.Tactics
import Derived.Below
import Derived.Laws.Rows
import Derived.Laws.World
import Derived.Laws.CopyRow
import Derived.Lib.FrozenHead
import Derived.Deep.AppendSrc
import Derived.Deep.Upon
import Derived.Laws.BytesArg
import Derived.MapKept
import Derived.RegionTactic
import Derived.IntWalk
import Derived.Laws.Externs
import Derived.LoopN
import Derived.Scope
import Derived.SizedLaws
import Derived.ChangeArms
import Derived.WideShapes
import Derived.Deep.Slices
namespace Go.Proofs.YtinpnidokpjfhaaGreatDoor.AM
open Go.RowKit
set_option linter.unusedVariables false
set_option linter.unusedSimpArgs false
section
variable {P : Program} {E : Nat} {o : Oper} {ρ : Operand → AV} {h : List (Nat × Blk)}
theorem astep_sound {r : Res} (hs : astep P E o ρ h = some r) : StepOK P E o ρ h r := by
  unfold astep at hs
  split at hs
  · rename_i x ho
    obtain rfl := Option.some.inj hs
    exact .same (os_move ho)
  · rename_i x ho
    obtain rfl := Option.some.inj hs
    exact .same (os_assign ho)
  · rename_i x y z ho
    split at hs
    · rename_i t hx
      obtain rfl := Option.some.inj hs
      exact .same (os_pick ho hx)
    · cases hs
  · rename_i t x ho
    split at hs
    · rename_i cs s hf hd
      obtain rfl := Option.some.inj hs
      exact .set (os_box ho hf)
    · cases hs
  · rename_i t ho
    split at hs
    · rename_i z s hz hd
      split at hs
      · rename_i cs hf
        obtain rfl := Option.some.inj hs
        exact .set (os_alloc ho hz hf)
      · cases hs
    · cases hs
  · rename_i t x ho
    split at hs
    · rename_i v F hl
      obtain rfl := Option.some.inj hs
      exact .same (os_load ho hl)
    · cases hs
  · rename_i t x y ho
    split at hs
    · rename_i b e i off cs n hx hf hn
      split at hs
      · rename_i hnc
        subst hnc
        split at hs
        · rename_i h' hst
          obtain rfl := Option.some.inj hs
          exact ⟨os_store ho hx hf hn hst, fun k hk => astore_far hst k (fun e => hk (by simp [e])), fun _ hb => hb⟩
        · cases hs
      · cases hs
    · cases hs
  · rename_i t x f ho
    split at hs
    · rename_i off ft hfo
      split at hs
      · rename_i n hn
        split at hs
        · rename_i b e i k hx
          split at hs
          · rename_i hl
            obtain rfl := Option.some.inj hs
            exact .same (os_fieldAddr ho hfo hn hx hl)
          · cases hs
        · rename_i cs hx
          obtain rfl := Option.some.inj hs
          exact .same (os_fieldAddr_fp ho hfo hn hx)
        · cases hs
      · cases hs
    · cases hs
  · rename_i t x f ho
    split at hs
    · rename_i off ft cs hfo hx
      split at hs
      · rename_i n g hn hg
        split at hs
        · rename_i v hp
          obtain rfl := Option.some.inj hs
          exact .same (os_field ho hfo hn hg hx hp)
        · cases hs
      · cases hs
    · cases hs
  · rename_i op t x y t' ho
    split at hs
    · rename_i u w hx hy
      split at hs
      · rename_i r hr
        obtain rfl := Option.some.inj hs
        exact .same (os_bin ho hx hy hr)
      · cases hs
    · cases hs
  · rename_i op t x ho
    split at hs
    · rename_i u hx
      split at hs
      · rename_i r hr
        obtain rfl := Option.some.inj hs
        exact .same (os_un ho hx hr)
      · cases hs
    · cases hs
  · rename_i x i ho
    split at hs
    · rename_i l hx
      split at hs
      · rename_i v hv
        obtain rfl := Option.some.inj hs
        exact .same (os_extract ho hx hv)
      · cases hs
    · cases hs
  · rename_i f l m ho
    obtain rfl := Option.some.inj hs
    exact .same (os_makeFunc ho)
  · rename_i c ho
    split at hs
    · rename_i x t h0 h1 h2
      split at hs
      · rename_i n hn
        split at hs
        · rename_i ht
          obtain rfl := Option.some.inj hs
          exact .same (os_len ho h0 (toArr1 h1) (toArr1 h2) hn ht)
        · cases hs
      · cases hs
    · rename_i x y h0 h1
      split at hs
      · rename_i u w hx hy
        split at hs
        · rename_i r hr
          obtain rfl := Option.some.inj hs
          exact .same (os_minmax (m := true) ho h0 (toArr1 h1) hx hy hr)
        · cases hs
      · cases hs
    · rename_i x y h0 h1
      split at hs
      · rename_i u w hx hy
        split at hs
        · rename_i r hr
          obtain rfl := Option.some.inj hs
          exact .same (os_minmax (m := false) ho h0 (toArr1 h1) hx hy hr)
        · cases hs
      · cases hs
    · rename_i x y t t' h0 h1 h2
      split at hs
      · rename_i e he
        split at hs
        · rename_i sz by_ zn s hsz hby hzn hd
          split at hs
          · rename_i r0 F0 r1 F1 hx hy
            split at hs
            · rename_i hc
              obtain ⟨rfl, c1, c2, c3, c4⟩ := hc
              obtain rfl := Option.some.inj hs
              obtain ⟨z, z1, z2, z3⟩ := zcs_spec hzn
              refine ⟨os_append ho h0 (toArr1 h1) (toArr1 h2) he hsz hby z1 z2 (Nat.succ_pos _) c1 hx hy c2 (fun hst => ?_) c4, fun b hb => ?_, fun b hb => ?_⟩
              · have : isStrT P t' = true := by unfold isStrT; rw [hst]
                rw [c3 this]
              · simp only [List.mem_cons, not_or] at hb
                rw [hget_hset, if_neg (Ne.symm hb.1), app_far F0 h b hb.2]
              · simp only [List.mem_cons, List.mem_append] at hb ⊢
                rcases hb with hb | hb
                · exact .inl hb
                · exact .inr (.inl hb)
            · cases hs
          · cases hs
        · cases hs
      · cases hs
    · cases hs
  · rename_i t x y ho
    split at hs
    · rename_i e he
      split at hs
      · rename_i sz s es k i hsz hx hy
        split at hs
        · rename_i hc
          obtain ⟨rfl, h0⟩ := hc
          split at hs
          · rename_i row hr
            obtain rfl := Option.some.inj hs
            exact .same (os_indexAddr_lst ho he hsz hx hy h0 hr)
          · cases hs
        · cases hs
      · rename_i sz b ep lo n k i hsz hx hy
        split at hs
        · rename_i hc
          split at hs
          · rename_i ep' s ds hg
            split at hs
            · rename_i hc2
              obtain ⟨rfl, rfl⟩ := hc2
              obtain rfl := Option.some.inj hs
              exact .same (os_indexAddr_slc ho he hsz hx hy hc.1 hc.2 hg)
            · cases hs
          · cases hs
        · cases hs
      · cases hs
    · split at hs
      · rename_i n e b ep j off k i ha hx hy
        split at hs
        · rename_i sz hsz
          split at hs
          · rename_i hc
            obtain rfl := Option.some.inj hs
            exact .same (os_indexAddr_arr ho ha hsz hx hc.1 hy hc.2.1 hc.2.2)
          · cases hs
        · cases hs
      · cases hs
  · rename_i t x y ho
    split at hs
    · rename_i s k i hx hy
      split at hs
      · rename_i hst
        split at hs
        · rename_i b hb
          obtain rfl := Option.some.inj hs
          exact .same (os_index_str ho (isStrT_spec hst) hx hy hb)
        · cases hs
      · cases hs
    · rename_i cs k i hx hy
      split at hs
      · rename_i n e ha
        split at hs
        · rename_i sz g hsz hg
          split at hs
          · rename_i hc
            split at hs
            · rename_i v hp
              obtain rfl := Option.some.inj hs
              exact .same (os_index_agg ho ha hsz hg hx hy hc.1 hc.2 hp)
            · cases hs
          · cases hs
        · cases hs
      · cases hs
    · cases hs
  · rename_i t x lo hi ho
    split at hs
    · rename_i b ep hx
      split at hs
      · rename_i n e s ha hd
        split at hs
        · rename_i ep' cs hg hsz
          split at hs
          · rename_i ds hds
            split at hs
            · rename_i hc
              obtain ⟨rfl, hn⟩ := hc
              obtain rfl := Option.some.inj hs
              refine ⟨os_slice_arr ho ha hsz hx hg hds hn hd, fun k hk => ?_, fun _ hb => hb⟩
              simp only [List.mem_cons, List.not_mem_nil, or_false, not_or] at hk
              rw [hget_hset, if_neg (Ne.symm hk.1), hget_hdel, if_neg (Ne.symm hk.2)]
            · cases hs
          · cases hs
        · cases hs
      · cases hs
    · rename_i s hx
      split at hs
      · rename_i l m hl hm
        split at hs
        · rename_i hc
          obtain rfl := Option.some.inj hs
          exact .same (os_slice_str ho (isStrT_spec hc.1) hx hl hm hc.2.1 hc.2.2)
        · cases hs
      · cases hs
    · rename_i s es hx
      split at hs
      · rename_i e l m he hl hm
        split at hs
        · rename_i hc
          obtain rfl := Option.some.inj hs
          exact .same (os_slice_lst ho he hc.1 hx hl hm hc.2.1 hc.2.2)
        · cases hs
      · cases hs
    · rename_i hx
      split at hs
      · rename_i e he hl hm
        split at hs
        · rename_i sz hsz
          obtain rfl := Option.some.inj hs
          exact .same (os_slice_nil ho he hsz hx hl hm)
        · cases hs
      · cases hs
    · rename_i b ep lo0 n hx
      split at hs
      · rename_i ep' s ds e l m hg he hl hm
        split at hs
        · rename_i hc
          obtain ⟨rfl, c1, c2, c3⟩ := hc
          obtain rfl := Option.some.inj hs
          exact .same (os_slice_slc ho he c1 hx hg hl hm c2 c3)
        · cases hs
      · cases hs
    · cases hs
  · rename_i s d x ho
    split at hs
    · rename_i k n hx
      split at hs
      · rename_i k' ds hk hds
        obtain rfl := Option.some.inj hs
        exact .same (os_convert_int ho hds (intT_spec hk) hx)
      · cases hs
    · rename_i b hx
      split at hs
      · rename_i hc
        obtain rfl := Option.some.inj hs
        exact .same (os_convert_str ho (isStrT_spec hc.1) (isStrT_spec hc.2) hx)
      · cases hs
    · rename_i hn1 hn2
      split at hs
      · rename_i rs F e hr he
        split at hs
        · rename_i hi
          split at hs
          · rename_i hc
            obtain rfl := Option.some.inj hs
            exact .same (os_convert_bytes ho (elem_of he) (intT_spec hi) (isStrT_spec hc.1) hr (fun b hb => hn2 b hb) hc.2)
          · cases hs
        · cases hs
      · cases hs
  · rename_i t x ho
    split at hs
    · rename_i hi
      obtain rfl := Option.some.inj hs
      exact .same (os_makeInterface ho hi)
    · cases hs
  · rename_i t ps ho
    split at hs
    · rename_i z pl hz hpl
      split at hs
      · rename_i zs hzs
        split at hs
        · rename_i cs hcs
          obtain rfl := Option.some.inj hs
          exact .same (os_build ho hz hpl hzs hcs)
        · cases hs
      · cases hs
    · rename_i z hz hpl
      split at hs
      · rename_i n e zs ha hzs
        split at hs
        · rename_i sz hsz
          split at hs
          · rename_i cs hcs
            obtain rfl := Option.some.inj hs
            exact .same (os_build_arr ho hz ha hsz hzs hcs)
          · cases hs
        · cases hs
      · cases hs
    · cases hs
  · rename_i t n ps ho
    split at hs
    · rename_i e s he hd
      split at hs
      · rename_i sz zn hsz hzn
        split at hs
        · rename_i rs hrs
          split at hs
          · rename_i hc
            obtain ⟨rfl, c1, c2⟩ := hc
            obtain rfl := Option.some.inj hs
            obtain ⟨z, z1, z2, z3⟩ := zcs_spec hzn
            exact .set (os_buildSlice ho he hsz z1 z2 z3 (Nat.succ_pos _) c1 c2 hrs)
          · cases hs
        · cases hs
      · cases hs
    · cases hs
  · rename_i t ho
    split at hs
    · rename_i s hd
      obtain rfl := Option.some.inj hs
      exact .set (os_makeMap ho)
    · cases hs
  · rename_i t x y cok ho
    split at hs
    · rename_i et b ep k hm hx hy
      split at hs
      · rename_i ep' kv z hg hz
        split at hs
        · rename_i hc
          obtain ⟨rfl, hk⟩ := hc
          obtain rfl := Option.some.inj hs
          obtain ⟨kt, m1, m2⟩ := mapT_spec hm
          exact .same (os_lookup ho m1 m2 hz hx hg hy hk)
        · cases hs
      · cases hs
    · rename_i et k hm hx hy
      split at hs
      · rename_i z hz
        obtain rfl := Option.some.inj hs
        obtain ⟨kt, m1, m2⟩ := mapT_spec hm
        exact .same (os_lookup_nil ho m1 m2 hz hx hy)
      · cases hs
    · cases hs
  · rename_i t x y z ho
    split at hs
    · rename_i et b ep k hm hx hy
      split at hs
      · rename_i ep' kv hg
        split at hs
        · rename_i hc
          obtain ⟨rfl, hk⟩ := hc
          obtain rfl := Option.some.inj hs
          obtain ⟨kt, m1, m2⟩ := mapT_spec hm
          exact .set (os_mapUpdate ho m1 m2 hx hg hy hk)
        · cases hs
      · cases hs
    · cases hs
  · rename_i t x y z ho
    split at hs
    · rename_i et b ep k hm hx hy
      split at hs
      · rename_i ep' kv hg
        split at hs
        · rename_i hc
          obtain ⟨rfl, hk⟩ := hc
          obtain rfl := Option.some.inj hs
          obtain ⟨kt, m1, m2⟩ := mapT_spec hm
          exact .set (os_insert ho m1 m2 hx hg hy hk)
        · cases hs
      · cases hs
    · cases hs
  · rename_i t x ho
    split at hs
    · rename_i et s hm hx hd
      obtain rfl := Option.some.inj hs
      obtain ⟨kt, m1, m2⟩ := mapT_spec hm
      exact .set (os_range_nil ho m1 hx)
    · cases hs
  · rename_i x ho
    split at hs
    · rename_i b ep hx
      split at hs
      · rename_i ep' s1 s2 s3 hg
        split at hs
        · rename_i hc
          subst hc
          obtain rfl := Option.some.inj hs
          exact .same (os_next_nil ho hx hg)
        · cases hs
      · cases hs
    · cases hs
  · rename_i x ho
    split at hs
    · rename_i b ep i off hx
      split at hs
      · rename_i hl
        obtain rfl := Option.some.inj hs
        exact .same (os_nilCheck ho hx hl)
      · cases hs
    · rename_i cs hx
      obtain rfl := Option.some.inj hs
      exact .same (os_nilCheck_fp ho hx)
    · cases hs
  · cases hs
end
def stepTo (P : Program) (ds : List (Option Tmp)) (E : Nat) (o : Oper) (st : St) : Option (St × List Nat × List Nat) := match wantedA ds o st.env with
  | some false => some (st.put o.dst noVal, [], [])
  | some true => match astep P E o (opv st.env) st.heap with
    | some (v, h', F, Wr) => some (({ st with heap := h' } : St).put o.dst v, F, Wr)
    | none => none
  | none => none
theorem RunTo.step {P : Program} {ds : List (Option Tmp)} {T i : Nat} {o : Oper} {os : List Oper} {st : St} {acc : Log} {K : Kont}
    (h : match stepTo P ds (T + i) o st with | some (st1, F, Wr) => RunTo P ds T (i + 1) os st1 (acc ++ [(F, Wr)]) K | none => False) : RunTo P ds T i (o :: os) st acc K := by
  unfold stepTo at h
  cases hw : wantedA ds o st.env with
  | none => rw [hw] at h; exact h.elim
  | some w =>
    rw [hw] at h
    cases w with
    | false => exact RunTo.cons ⟨.inl ⟨hw, rfl, rfl, rfl⟩, fun b _ => by rw [heap_put], fun b hb => by cases hb⟩ h
    | true =>
      simp only at h
      cases hs : astep P (T + i) o (opv st.env) st.heap with
      | none => rw [hs] at h; exact h.elim
      | some r =>
        obtain ⟨v, h', F, Wr⟩ := r
        rw [hs] at h
        obtain ⟨k1, k2, k3⟩ := astep_sound hs
        exact RunTo.cons ⟨.inr ⟨hw, v, h', k1, rfl⟩, fun b hb => by rw [heap_put]; exact k2 b hb, k3⟩ h
theorem RunTo.pure {P : Program} {ds : List (Option Tmp)} {T i : Nat} {o : Oper} {os : List Oper} {st : St} {acc : Log} {K : Kont} {v : AV} {f : FuncId} {fn : Func} {c0 : Call} {args : List AV} (hp : Pure P f args v)
    (ho : o.op = .call c0) (hcal : c0.callee = .value (.func f)) (hf : P.funcs[f]? = some fn) (hb : fn.body.isNone = false) (hng : (fn.name == "runtime.NumGoroutine") = false)
    (hw : wantedA ds o st.env = some true) (hargs : c0.args.toList.map (opv st.env) = args) (hcl : ∀ x ∈ args, Closed x) (hvc : Closed v)
    (h : RunTo P ds T (i + 1) os (st.put o.dst v) (acc ++ [([], [])]) K) : RunTo P ds T i (o :: os) st acc K :=
  RunTo.cons ⟨.inr ⟨hw, v, st.heap, os_pure ho hcal hf hb hng hargs hcl hvc hp, by cases st; rfl⟩, fun b _ => by rw [heap_put], fun b hb => by cases hb⟩ h
end Go.Proofs.YtinpnidokpjfhaaGreatDoor.AM
namespace Go.Proofs.YtinpnidokpjfhaaGreatDoor.AM
open Go.RowKit
set_option linter.unusedVariables false
set_option linter.unusedSimpArgs false
def sealC (h : List (Nat × Blk)) : AV → Option AV
  | .dat d => some (.dat d)
  | .fp cs => some (.fp cs)
  | .slc b e lo n => match hget h b with
    | some (.arr ep sz ds) => if ep = e ∧ lo + n ≤ ds.length then some (.dat (.lst sz ((ds.drop lo).take n))) else none
    | _ => none
  | .ifc t (.dat d) => some (.ifc t (.dat d))
  | _ => none
def slotsC : AV → List Nat
  | .slc b _ _ _ => [b]
  | _ => []
def slotsV : AV → List Nat
  | .agg cs => cs.flatMap slotsC
  | x => slotsC x
def sealAll (h : List (Nat × Blk)) : List AV → Option (List AV)
  | [] => some []
  | x :: l => match sealC h x, sealAll h l with
    | some y, some m => some (y :: m)
    | _, _ => none
def sealV (h : List (Nat × Blk)) : AV → Option AV
  | .agg cs => match sealAll h cs with
    | some l => some (.agg l)
    | none => none
  | x => sealC h x
structure Ends (c : Cx) (X : Nat → Prop) : Prop where
  old : ∀ k, ¬ c.X k → k < c.W.heap.size → ¬ X k
  own : ∀ b L r, c.ι b = some L → L.rb = some r → ¬ X r
section
variable {h : List (Nat × Blk)} {c : Cx} {X : Nat → Prop}
theorem dat_end (hX : Ends c X) {d : Dat} {u : Value} (hd : DR c.W c.X d u) : DR c.W X d u := hd.mono (Nat.le_refl _) (fun k hk hs => ⟨rfl, hX.old k hk hs⟩)
theorem sealC_spec (ok : c.Ok) {x y : AV} (hs : sealC h x = some y) {u : Value} (hv : VR c x u) (hb : ∀ b ∈ slotsC x, ∀ blk, hget h b = some blk → BR c b blk) (hX : Ends c X) : VR (bare c.W X) y u ∧ Closed y := by
  unfold sealC at hs
  split at hs
  · obtain rfl := Option.some.inj hs
    cases hv with
    | dat _ _ hd => exact ⟨.dat _ _ (dat_end hX hd), .dat _⟩
  · obtain rfl := Option.some.inj hs
    exact ⟨(Closed.fp _).rel hv rfl hX.old, .fp _⟩
  · rename_i b e lo n
    split at hs
    · rename_i ep sz ds hg
      split at hs
      · rename_i hc
        obtain ⟨rfl, hle⟩ := hc
        obtain rfl := Option.some.inj hs
        refine ⟨?_, .dat _⟩
        obtain ⟨L, hL, hep, hlz, hrows, hnone, hcell⟩ := hb b (by simp [slotsC]) _ hg
        have hlen : ((ds.drop lo).take n).length = n := by rw [List.length_take, List.length_drop]; omega
        have hrl : ∀ r ∈ (ds.drop lo).take n, r.length = sz := fun r hr => hrows r (List.mem_of_mem_drop (List.mem_of_mem_take hr))
        cases hv with
        | slc _ _ _ _ A cap hU hn hp =>
          rcases hp L hL hep with ⟨rfl, rfl⟩ | ⟨r, hr, rfl, hcap⟩
          · have he : (ds.drop lo).take 0 = [] := rfl
            rw [he]
            exact .dat _ _ (.lst _ _ _ _ _ (fun _ _ => undef) 0 0 rfl (Nat.le_refl _) (by simp) (.inl rfl) (by simp) (by simp) (by simp))
          · have key : ∀ (i : Nat) row, ((ds.drop lo).take n)[i]? = some row → ∀ (j : Nat) d, row[j]? = some d → ∃ u, c.W.cell? ⟨r, L.base + lo * L.sz + i * sz + j, none⟩ = some u ∧ VR c (.dat d) u ∧ u.oneCell' = true := fun i row hi j d hj => by
              have hf := flatten_at _ sz hrl i row hi j d hj
              rw [flatten_take ds sz hrows, List.getElem?_take] at hf
              split at hf
              · rw [List.getElem?_drop] at hf
                have := (hcell r hr).cell (lo * sz + (i * sz + j)) (.dat d) (by rw [List.getElem?_map, hf]; rfl)
                rw [hlz, show L.base + lo * sz + i * sz + j = L.base + (lo * sz + (i * sz + j)) by omega]
                exact this
              · cases hf
            let f : Nat → Nat → Value := fun i j => (c.W.cell? ⟨r, L.base + lo * L.sz + i * sz + j, none⟩).getD undef
            have hfv : ∀ (i : Nat) row, ((ds.drop lo).take n)[i]? = some row → ∀ (j : Nat) d, row[j]? = some d → c.W.cell? ⟨r, L.base + lo * L.sz + i * sz + j, none⟩ = some (f i j) ∧ DR c.W c.X d (f i j) ∧ (f i j).oneCell' = true := fun i row hi j d hj => by
              obtain ⟨u, k1, k2, k3⟩ := key i row hi j d hj
              have e : f i j = u := by show (c.W.cell? _).getD undef = u; rw [k1]; rfl
              rw [e]
              cases k2 with
              | dat _ _ hd => exact ⟨k1, hd, k3⟩
            refine .dat _ _ (.lst _ _ _ _ _ f r (L.base + lo * L.sz) hlen.symm hn hrl (.inr ⟨rfl, hX.own b L r hL hr, ok.bnd r (ok.sub b L r hL hr)⟩) (fun i row hi j d hj => (hfv i row hi j d hj).1) (fun i row hi j d hj => (hfv i row hi j d hj).2.2) (fun i row hi j d hj => dat_end hX (hfv i row hi j d hj).2.1))
      · cases hs
    · cases hs
  · obtain rfl := Option.some.inj hs
    exact ⟨(Closed.ifc _ _ (.dat _)).rel hv rfl hX.old, .ifc _ _ (.dat _)⟩
  · cases hs
theorem sealAll_spec : ∀ {l m : List AV}, sealAll h l = some m → m.length = l.length ∧ ∀ (i : Nat) y, m[i]? = some y → ∃ x, l[i]? = some x ∧ sealC h x = some y
  | [], m, hs => by obtain rfl := Option.some.inj hs; exact ⟨rfl, fun i y hy => by simp at hy⟩
  | x :: l, m, hs => by
    simp only [sealAll] at hs
    split at hs
    · rename_i y m' h1 h2
      obtain rfl := Option.some.inj hs
      obtain ⟨k1, k2⟩ := sealAll_spec h2
      refine ⟨by simp [k1], fun i y' hy => ?_⟩
      match i, hy with
      | 0, hy => obtain rfl := Option.some.inj hy; exact ⟨x, rfl, h1⟩
      | i + 1, hy => obtain ⟨x', k3, k4⟩ := k2 i y' (by simpa using hy); exact ⟨x', by simpa using k3, k4⟩
    · cases hs
theorem sealV_spec (ok : c.Ok) {x y : AV} (hs : sealV h x = some y) {u : Value} (hv : VR c x u) (hb : ∀ b ∈ slotsV x, ∀ blk, hget h b = some blk → BR c b blk) (hX : Ends c X) : VR (bare c.W X) y u ∧ Closed y := by
  unfold sealV at hs
  split at hs
  · rename_i cs
    split at hs
    · rename_i l hl
      obtain rfl := Option.some.inj hs
      obtain ⟨k1, k2⟩ := sealAll_spec hl
      cases hv with
      | agg _ us h1 h2 =>
        refine ⟨.agg _ us (by rw [h1, k1]) (fun i y hy => ?_), .agg _ (fun y hy => ?_)⟩
        · obtain ⟨x, k3, k4⟩ := k2 i y hy
          exact (sealC_spec ok k4 (h2 i x k3) (fun b hb' => hb b (List.mem_flatMap.2 ⟨x, List.mem_of_getElem? k3, hb'⟩)) hX).1
        · obtain ⟨i, hi⟩ := List.mem_iff_getElem?.1 hy
          obtain ⟨x, k3, k4⟩ := k2 i y hi
          exact (sealC_spec ok k4 (h2 i x k3) (fun b hb' => hb b (List.mem_flatMap.2 ⟨x, List.mem_of_getElem? k3, hb'⟩)) hX).2
    · cases hs
  · rename_i hne
    refine sealC_spec ok hs hv (fun b hb' => hb b ?_) hX
    cases x <;> first | exact hb' | (exact absurd rfl (hne _))
end
def resV (P : Program) (st : St) : ResultVar → Option AV
  | .tmp t => sealV st.heap (aget st.env t)
  | .cell a ty => match aload P ty (aget st.env a) st.heap with
    | some (v, _) => sealV st.heap v
    | none => none
def resL (P : Program) (st : St) : List ResultVar → Option (List AV)
  | [] => some []
  | r :: l => match resV P st r, resL P st l with
    | some v, some m => some (v :: m)
    | _, _ => none
def retV (P : Program) (rs : List ResultVar) (st : St) : Option AV := match resL P st rs with
  | some [v] => some v
  | some l => some (.tup l)
  | none => none
def resTmp : ResultVar → Nat
  | .tmp t => t
  | .cell a _ => a
theorem resL_run {P : Program} {nt : Nt} {st : St} {a : Act} {c : Cx} (hr : st.Rel nt a c) {X : Nat → Prop} (hX : Ends c X) : ∀ (rs : List ResultVar) (vs : List AV), (∀ r ∈ rs, resTmp r < nt.n) → resL P st rs = some vs →
    ∃ us : List Value, (rs.mapM (fun | .tmp t => pure (a.tmps.getD t undef) | .cell x t => do loadVar t (← asAddr (a.tmps.getD x undef))) : Sem (List Value)).run P c.W = .ok us c.W ∧ us.length = vs.length ∧ ∀ (i : Nat) v, vs[i]? = some v → VR (bare c.W X) v (us.getD i undef) ∧ Closed v
  | [], vs, _, h => by obtain rfl := Option.some.inj h; exact ⟨[], rfl, rfl, fun i v hv => by simp at hv⟩
  | r :: rs, vs, ht, h => by
    simp only [resL] at h
    split at h
    · rename_i v m hv hm
      obtain rfl := Option.some.inj h
      obtain ⟨us, k1, k2, k3⟩ := resL_run hr hX rs m (fun r hr => ht r (List.mem_cons_of_mem _ hr)) hm
      have h0 := ht r List.mem_cons_self
      have head : ∃ u, ((match r with | .tmp t => pure (a.tmps.getD t undef) | .cell x t => do loadVar t (← asAddr (a.tmps.getD x undef))) : Sem Value).run P c.W = .ok u c.W ∧ VR (bare c.W X) v u ∧ Closed v := by
        cases r with
        | tmp t => exact ⟨_, rfl, sealV_spec hr.ok hv (hr.env t h0) (fun b _ blk hb => hr.heap b blk hb) hX⟩
        | cell x t =>
          simp only [resV] at hv
          split at hv
          · rename_i w F hl
            obtain ⟨A, w', hu, hrun, hv'⟩ := aload_spec (P := P) hl (hr.env x h0) (fun b _ blk hb => hr.heap b blk hb)
            refine ⟨w', ?_, sealV_spec hr.ok hv hv' (fun b _ blk hb => hr.heap b blk hb) hX⟩
            simp only [hu]
            simp [asAddr, hrun]
          · cases hv
      obtain ⟨u, q1, q2⟩ := head
      refine ⟨u :: us, ?_, by simp [k2], fun i v' hv' => ?_⟩
      · rw [List.mapM_cons, Sem.run_bind, q1, Result.andThen_ok, Sem.run_bind, k1]
        rfl
      · match i, hv' with
        | 0, hv' => obtain rfl := Option.some.inj hv'; exact q2
        | i + 1, hv' => exact k3 i v' (by simpa using hv')
    · cases h
theorem ret_run {P : Program} {fn : Func} {st : St} {a : Act} {c : Cx} (hr : st.Rel fn.ntmps a c) {X : Nat → Prop} (hX : Ends c X) (ht : ∀ r ∈ fn.results.toList, resTmp r < fn.ntmps) {v : AV} (hv : retV P fn.results.toList st = some v) :
    ∃ u, (results fn a.tmps).run P c.W = .ok u c.W ∧ VR (bare c.W X) v u ∧ Closed v := by
  unfold retV at hv
  cases hl : resL P st fn.results.toList with
  | none => rw [hl] at hv; cases hv
  | some vs =>
    rw [hl] at hv
    obtain ⟨us, k1, k2, k3⟩ := resL_run hr hX fn.results.toList vs ht hl
    have hm : (fn.results.mapM (fun | .tmp t => pure (a.tmps.getD t undef) | .cell x t => do loadVar t (← asAddr (a.tmps.getD x undef))) : Sem (Array Value)).run P c.W = .ok us.toArray c.W := by
      rw [Array.mapM_eq_mapM_toList]
      show ((fn.results.toList.mapM _ : Sem (List Value)) >>= fun l => pure l.toArray).run P c.W = _
      rw [Sem.run_bind, k1]
      rfl
    have hrun : (results fn a.tmps).run P c.W = .ok (if h : us.toArray.size = 1 then us.toArray[0] else .tuple us.toArray) c.W := by
      unfold results
      rw [Sem.run_bind]
      exact (congrArg (fun z : Result (Array Value) => z.andThen (fun a w' => Sem.run P (pure (if h : a.size = 1 then a[0] else Value.tuple a)) w')) hm).trans rfl
    match vs, us, k2, k3, hv, hrun with
    | [x], [u], _, k3, hv, hrun =>
      obtain rfl := Option.some.inj hv
      exact ⟨u, by rw [hrun]; simp, k3 0 x rfl⟩
    | [], [], _, _, hv, hrun =>
      obtain rfl := Option.some.inj hv
      exact ⟨_, hrun, .tup [] #[] rfl (by simp), .tup _ (by simp)⟩
    | x :: y :: l, u :: w :: m, k2, k3, hv, hrun =>
      obtain rfl := Option.some.inj hv
      refine ⟨.tuple (u :: w :: m).toArray, by rw [hrun]; simp, .tup _ _ (by simpa using k2) (fun i z hz => by have := (k3 i z hz).1; simpa [Array.getD_eq_getD_getElem?, List.getD_eq_getElem?_getD] using this), .tup _ (fun z hz => ?_)⟩
      obtain ⟨i, hi⟩ := List.mem_iff_getElem?.1 hz
      exact (k3 i z hi).2
theorem pure_of_awp {P : Program} {f : FuncId} {fn : Func} {cd : Code} {args : List AV} {v : AV} (hf : P.funcs[f]? = some fn) (hb : fn.body = some cd) (ht : (fn.results.toList.all fun r => resTmp r < fn.ntmps) = true) (hn : args.length ≤ fn.ntmps)
    (h : AWP P fn.ntmps cd (fun ex st => (ex = .ret ∨ ex = .normal) ∧ retV P fn.results.toList st = some v) { env := envOf 0 args, heap := [], T := 0 }) : Pure P f args v := fun W X us hX hG hus hargs => by
  refine calls_of_wp hf hb ?_
  have hrel : ({ env := envOf 0 args, heap := [], T := 0 } : St).Rel fn.ntmps { tmps := us ++ Array.replicate (fn.ntmps - us.size) undef, defers := [] } (bare W X) := by
    refine ⟨⟨fun b b' L L' r h => (by cases h), fun b L r h => (by cases h), hX, fun b L h => (by cases h), hG⟩, by simp; omega, rfl, fun k hk => ?_, fun b blk h => by simp [hget] at h, fun e h => h.elim⟩
    rw [aget_envOf]
    split
    · rename_i hlt
      have h1 : k < args.length := by omega
      have h2 := hargs k _ (List.getElem?_eq_getElem h1)
      have e : (us ++ Array.replicate (fn.ntmps - us.size) undef).getD k undef = us.getD k undef := by
        rw [Array.getD_eq_getD_getElem?, Array.getElem?_append_left (by omega), Array.getD_eq_getD_getElem?]
      rw [e, Nat.sub_zero, List.getD_eq_getElem?_getD, List.getElem?_eq_getElem h1]
      exact h2
    · exact .top _
  refine wp_mono (h _ (bare W X) hrel) (fun ex a' w' ⟨st', c', hw, ⟨hex, hv⟩, hr', ev⟩ => ?_)
  subst hw
  have hX' : Ends c' X := ⟨fun k hk hs hx => hk (ev.x2 k hx (fun b L _ hL => (by cases hL))), fun b L r hL hr hx => by
    rcases ev.blk b L r trivial hL hr with ⟨_, _, _, h0, _⟩ | h0
    · cases h0
    · have := hX r hx; have h2 : W.heap.size ≤ r := h0; omega⟩
  obtain ⟨u, hres, hvr, _⟩ := ret_run hr' hX' (fun r hr => by simpa using List.all_eq_true.1 ht r hr) hv
  have hR : ∃ u', Ending.returned u = Ending.returned u' ∧ Below W.heap.size W c'.W ∧ VR (bare c'.W X) v u' :=
    ⟨u, rfl, ⟨ev.os, ev.tape, ev.output, ev.size, fun k hk => ev.keep k hk (fun b L _ hL => (by cases hL))⟩, hvr⟩
  rcases hex with rfl | rfl
  · exact ⟨hr'.defers, _, hres, hR⟩
  · exact ⟨hr'.defers, _, hres, hR⟩
def scalB : AV → Bool
  | .dat (.lit _) => true
  | _ => false
def scalB2 : AV → Bool
  | .agg cs => cs.all scalB
  | x => scalB x
def scalV : AV → Bool
  | .agg cs => cs.all scalB
  | .tup cs => cs.all scalB2
  | .ifc _ (.dat (.lit _)) => true
  | x => scalB x
theorem scalB_rel {x : AV} (hx : scalB x = true) {c c' : Cx} {u : Value} (hv : VR c x u) : VR c' x u := by
  unfold scalB at hx
  split at hx
  · obtain rfl := hv.lit_inv
    exact .dat _ _ (.lit _)
  · cases hx
theorem scalB2_rel {x : AV} (hx : scalB2 x = true) {c c' : Cx} {u : Value} (hv : VR c x u) : VR c' x u := by
  unfold scalB2 at hx
  split at hx
  · cases hv with
    | agg _ us h1 k1 => exact .agg _ us h1 (fun i x hi => scalB_rel (List.all_eq_true.1 hx x (List.mem_of_getElem? hi)) (k1 i x hi))
  · exact scalB_rel hx hv
theorem scalV_rel {x : AV} (hx : scalV x = true) {c c' : Cx} {u : Value} (hv : VR c x u) : VR c' x u := by
  unfold scalV at hx
  split at hx
  · cases hv with
    | agg _ us h1 k1 => exact .agg _ us h1 (fun i x hi => scalB_rel (List.all_eq_true.1 hx x (List.mem_of_getElem? hi)) (k1 i x hi))
  · cases hv with
    | tup _ us h1 k1 => exact .tup _ us h1 (fun i x hi => scalB2_rel (List.all_eq_true.1 hx x (List.mem_of_getElem? hi)) (k1 i x hi))
  · cases hv with
    | ifc _ _ _ h => exact .ifc _ _ _ (scalB_rel rfl h)
  · exact scalB_rel hx hv
theorem os_lent {P : Program} {o : Oper} {ρ : Operand → AV} {h : List (Nat × Blk)} {E : Nat} {v : AV} {f : FuncId} {fn : Func} {c0 : Call} (ho : o.op = .call c0) (hcal : c0.callee = .value (.func f)) (hf : P.funcs[f]? = some fn) (hb : fn.body.isNone = false) (hng : (fn.name == "runtime.NumGoroutine") = false)
    {args : List AV} (hargs : c0.args.toList.map (fun x => sealV h (ρ x)) = args.map some) (hvs : scalV v = true) (hp : Pure P f args v) : OStep P o ρ h (c0.args.toList.flatMap fun x => slotsV (ρ x)) E v h := by
  intro c a ok hops hblk hE K Q hK
  unfold Oper.wp
  have hng' : ¬ fn.name = "runtime.NumGoroutine" := by simpa using hng
  have hb' : ¬ fn.body = none := fun e => by rw [e] at hb; cases hb
  have hrun : (execOp a.eval o).run P c.W = .ok (.enter f (c0.args.map a.eval)) c.W := by
    simp [execOp, ho, resolve, hcal, Act.eval, Deferred.ofValue, invoke, callFunc, hf, hb', hng']
  rw [hrun]
  have hlen : c0.args.size = args.length := by have := congrArg List.length hargs; simpa using this
  refine (hp c.W (fun _ => False) (c0.args.map a.eval) (fun _ h => h.elim) (fun g o hg => ⟨(ok.glob g o hg).1, fun h => h⟩) (by simpa using hlen) (fun i x hx => ?_)).mono ?_
  · have hlt : i < c0.args.toList.length := by rw [Array.length_toList, hlen]; exact (List.getElem?_eq_some_iff.1 hx).1
    have hy := List.getElem?_eq_getElem hlt
    have e1 : (c0.args.toList.map (fun x => sealV h (ρ x)))[i]? = some (some x) := by rw [hargs, List.getElem?_map, hx]; rfl
    rw [List.getElem?_map, hy] at e1
    have e2 : sealV h (ρ c0.args.toList[i]) = some x := Option.some.inj e1
    have hm : c0.args.toList[i] ∈ o.op.operands.toList := by
      rw [ho]
      have := List.getElem_mem hlt
      simp [Op.operands, Call.operands, hcal]
    have e : (c0.args.map a.eval).getD i undef = a.eval c0.args.toList[i] := by
      rw [Array.getElem?_toList] at hy
      simp [Array.getD_eq_getD_getElem?, hy]
    rw [e]
    exact (sealV_spec ok e2 (hops _ hm) (fun b hb => hblk b (List.mem_flatMap.2 ⟨_, List.getElem_mem hlt, hb⟩)) ⟨fun _ _ _ h => h, fun _ _ _ _ _ h => h⟩).1
  · rintro e W' ⟨u, rfl, hbel, hv⟩
    have ev : Ev (· ∈ ([] : List Nat)) (· = E) c (c.wrote W') := ⟨hbel.os, hbel.tape, hbel.output, hbel.size, fun k hk _ => hbel.block k hk, fun _ h => .inl h, fun _ h _ => h, fun _ _ h _ => h, fun _ _ => rfl, fun b L r hF => by simp at hF, fun _ h => h, fun _ h => .inl h⟩
    refine hK u (c.wrote W') ⟨ok.inj, ok.sub, fun k hk => Nat.lt_of_lt_of_le (ok.bnd k hk) hbel.size, ok.used, glob_kept ok (fun k hk hs => ⟨hbel.block k hs, hk⟩)⟩ (ev.wide (fun b hb => by cases hb) (fun _ h => h)) (scalV_rel hvs hv) (fun b hb' blk hblk' => ?_)
    exact (hblk b hb' blk hblk').mono ok ev (fun h => by cases h)
def closC : AV → Bool
  | .dat _ => true
  | .fp _ => true
  | _ => false
def closC2 : AV → Bool
  | .agg cs => cs.all closC
  | x => closC x
def closB : AV → Bool
  | .agg cs => cs.all closC
  | .tup cs => cs.all closC2
  | .ifc _ x => closC x
  | x => closC x
theorem closC_spec {x : AV} (h : closC x = true) : Closed x := by
  unfold closC at h
  split at h
  · exact .dat _
  · exact .fp _
  · cases h
theorem closC2_spec {x : AV} (h : closC2 x = true) : Closed x := by
  unfold closC2 at h
  split at h
  · exact .agg _ (fun y hy => closC_spec (List.all_eq_true.1 h y hy))
  · exact closC_spec h
theorem closB_spec {x : AV} (h : closB x = true) : Closed x := by
  unfold closB at h
  split at h
  · exact .agg _ (fun y hy => closC_spec (List.all_eq_true.1 h y hy))
  · exact .tup _ (fun y hy => closC2_spec (List.all_eq_true.1 h y hy))
  · exact .ifc _ _ (closC_spec h)
  · exact closC_spec h
theorem RunTo.call {P : Program} {ds : List (Option Tmp)} {T i : Nat} {o : Oper} {os : List Oper} {st : St} {acc : Log} {K : Kont} {v : AV} {f : FuncId} {fn : Func} {c0 : Call} {args : List AV} (hp : Pure P f args v)
    (hf : P.funcs[f]? = some fn) (ho : o.op = .call c0) (hcal : c0.callee = .value (.func f)) (hb : fn.body.isNone = false) (hng : (fn.name == "runtime.NumGoroutine") = false)
    (hw : wantedA ds o st.env = some true) (hargs : c0.args.toList.map (opv st.env) = args) (hcl : args.all closB = true) (hvc : closB v = true)
    (h : RunTo P ds T (i + 1) os (st.put o.dst v) (acc ++ [([], [])]) K) : RunTo P ds T i (o :: os) st acc K :=
  RunTo.pure hp ho hcal hf hb hng hw hargs (fun x hx => closB_spec (List.all_eq_true.1 hcl x hx)) (closB_spec hvc) h
theorem RunTo.lent {P : Program} {ds : List (Option Tmp)} {T i : Nat} {o : Oper} {os : List Oper} {st : St} {acc : Log} {K : Kont} {v : AV} {f : FuncId} {fn : Func} {c0 : Call} {args : List AV} (hp : Pure P f args v)
    (hf : P.funcs[f]? = some fn) (ho : o.op = .call c0) (hcal : c0.callee = .value (.func f)) (hb : fn.body.isNone = false) (hng : (fn.name == "runtime.NumGoroutine") = false)
    (hw : wantedA ds o st.env = some true) (hargs : c0.args.toList.map (fun x => sealV st.heap (opv st.env x)) = args.map some) (hvs : scalV v = true)
    (h : RunTo P ds T (i + 1) os (st.put o.dst v) (acc ++ [(c0.args.toList.flatMap fun x => slotsV (opv st.env x), [])]) K) : RunTo P ds T i (o :: os) st acc K :=
  RunTo.cons ⟨.inr ⟨hw, v, st.heap, os_lent ho hcal hf hb hng hargs hvs hp, by cases st; rfl⟩, fun b _ => by rw [heap_put], fun b hb => by cases hb⟩ h
end Go.Proofs.YtinpnidokpjfhaaGreatDoor.AM
namespace Go.Proofs.YtinpnidokpjfhaaGreatDoor.AM
open Go.RowKit
set_option linter.unusedVariables false
set_option linter.unusedSimpArgs false
def isPlain (o : Oper) : Bool := match o.op with
  | .call c => match c.callee with
    | .builtin .len => true
    | .builtin .append => true
    | .builtin .max => true
    | .builtin .min => true
    | _ => false
  | _ => true
theorem RunTo.plain {P : Program} {ds : List (Option Tmp)} {T i : Nat} {o : Oper} {os : List Oper} {st : St} {acc : Log} {K : Kont} (hp : isPlain o = true)
    (h : match stepTo P ds (T + i) o st with | some (st1, F, Wr) => RunTo P ds T (i + 1) os st1 (acc ++ [(F, Wr)]) K | none => False) : RunTo P ds T i (o :: os) st acc K := RunTo.step h
attribute [go_sem] kText_s
attribute [go_sem] stepTo wantedA astep opv aget flat AV.cellB Value.oneCell' St.put hset hget hdel aload rdCells fin live astore lput dats amm abin aint astr afloat ashift abool aun alen rowsOf growB afill arows ofConst abnd partOf qthen qblk sealC sealAll sealV resV resL retV envOf
attribute [go_sem] Bool.false_eq_true beq_self_eq_true List.map_cons List.map_nil List.cons_append List.nil_append List.append_nil Array.toList_map List.all_cons List.all_nil Bool.and_true Bool.true_and List.length_cons List.length_nil Nat.zero_add Nat.add_zero List.getD_cons_zero List.getD_cons_succ List.take_succ_cons List.take_zero List.drop_succ_cons List.drop_zero List.getElem?_cons_zero List.getElem?_cons_succ Option.map_some Option.map_none and_self true_and and_true Nat.le_refl Int.natCast_nonneg Int.toNat_natCast Nat.sub_self Nat.sub_zero Nat.zero_le Int.toNat_zero Int.le_refl decide_true decide_false Int.ofNat_le List.foldl_cons List.foldl_nil ge_iff_le gt_iff_lt Nat.mul_one
end Go.Proofs.YtinpnidokpjfhaaGreatDoor.AM
namespace Go.Proofs.YtinpnidokpjfhaaGreatDoor.AM
open Go.RowKit
set_option linter.unusedVariables false
set_option linter.unusedSimpArgs false
section
variable {P : Program} {ds : List (Option Tmp)} {T i : Nat} {o : Oper} {os : List Oper} {st : St} {acc : Log} {K : Kont}
def gval (ds : List (Option Tmp)) (env : List (Nat × AV)) (j : Nat) : AV := match ds.getD j none with
  | some t => aget env t
  | none => .top
theorem wanted_gval {env : List (Nat × AV)} {j : Nat} {want b : Bool} (hg : o.guard = some (j, want)) (hv : gval ds env j = .lit (.bool b)) : wantedA ds o env = some (b == want) := by
  unfold wantedA
  unfold gval at hv
  rw [hg]
  simp only
  cases hd : ds.getD j none with
  | none => rw [hd] at hv; cases hv
  | some t => rw [hd] at hv; simp only at hv ⊢; rw [hv]
theorem RunTo.unguard {j : Nat} {want b : Bool} (hg : o.guard = some (j, want)) (hv : gval ds st.env j = .lit (.bool b))
    (h1 : b = want → RunTo P ds T i ({ o with guard := none } :: os) st acc K) (h2 : b = (!want) → RunTo P ds T (i + 1) os (st.put o.dst noVal) (acc ++ [([], [])]) K) : RunTo P ds T i (o :: os) st acc K := by
  have hw := wanted_gval (ds := ds) hg hv
  by_cases hb : b = want
  · subst hb
    rw [beq_self_eq_true] at hw
    rcases h1 rfl with ⟨lg, st2, k1, k2⟩ | ⟨l1, o', l2, lg, st2, F', ch, h', e, k1, k2, k3⟩
    · cases k1 with
      | cons _ _ _ _ st1 _ F Wr lg' hop hrest =>
        refine .inl ⟨(F, Wr) :: lg', st2, .cons i o os st st1 st2 F Wr lg' ⟨?_, hop.wr, hop.sub⟩ hrest, k2⟩
        rcases hop.run with ⟨q, _⟩ | ⟨_, v, h', q1, q2⟩
        · simp [wantedA] at q
        · exact .inr ⟨hw, v, h', q1, q2⟩
    · cases l1 with
      | nil =>
        simp only [List.nil_append, List.cons.injEq] at e
        obtain ⟨rfl, rfl⟩ := e
        exact .inr ⟨[], o, _, lg, st2, F', ch, h', rfl, by cases k1; exact .nil _ _, ⟨by cases k1; exact hw, k2.2⟩, k3⟩
      | cons x l1 =>
        simp only [List.cons_append, List.cons.injEq] at e
        obtain ⟨rfl, rfl⟩ := e
        cases k1 with
        | cons _ _ _ _ st1 _ F Wr lg' hop hrest =>
          refine .inr ⟨o :: l1, o', l2, (F, Wr) :: lg', st2, F', ch, h', rfl, .cons i o l1 st st1 st2 F Wr lg' ⟨?_, hop.wr, hop.sub⟩ hrest, k2, k3⟩
          rcases hop.run with ⟨q, _⟩ | ⟨_, v, h', q1, q2⟩
          · simp [wantedA] at q
          · exact .inr ⟨hw, v, h', q1, q2⟩
  · have hb' : (b == want) = false := by simpa using hb
    rw [hb'] at hw
    exact RunTo.cons ⟨.inl ⟨hw, rfl, rfl, rfl⟩, fun b _ => by rw [heap_put], fun b hb => (by cases hb)⟩ (h2 (by cases b <;> cases want <;> simp_all))
end
def Sub (env : List (Nat × AV)) : List (Nat × AV) → Prop
  | [] => True
  | (k, x) :: r => aget env k = x ∧ Sub env r
def HSub (h : List (Nat × Blk)) : List (Nat × Blk) → Prop
  | [] => True
  | (k, x) :: r => hget h k = some x ∧ HSub h r
theorem Sub.spec {env : List (Nat × AV)} : ∀ {l : List (Nat × AV)}, Sub env l → ∀ t, aget l t = .top ∨ aget l t = aget env t
  | [], _, t => .inl rfl
  | (k, x) :: r, h, t => by
    simp only [aget]
    by_cases hk : k = t
    · rw [if_pos hk]; subst hk; exact .inr h.1.symm
    · rw [if_neg hk]; exact h.2.spec t
theorem HSub.spec {h : List (Nat × Blk)} : ∀ {l : List (Nat × Blk)}, HSub h l → ∀ b blk, hget l b = some blk → hget h b = some blk
  | [], _, b, blk, hb => by cases hb
  | (k, x) :: r, hs, b, blk, hb => by
    simp only [hget] at hb
    by_cases hk : k = b
    · rw [if_pos hk] at hb; obtain rfl := Option.some.inj hb; subst hk; exact hs.1
    · rw [if_neg hk] at hb; exact hs.2.spec b blk hb
theorem weak_keep {nt : Nt} {st : St} {env' : List (Nat × AV)} {heap' : List (Nat × Blk)} {T' : Nat} (h1 : Sub st.env env') (h2 : HSub st.heap heap') (h3 : st.T ≤ T') : Weak nt st ⟨env', heap', T'⟩ :=
  weak_of h3 (fun t _ => h1.spec t) (h2.spec)
theorem weak_nil {nt : Nt} {st : St} {t s sz : Nat} (ht : t < nt.n) (hv : aget st.env t = .lit (.slice none 0 0)) : Weak nt st { env := (t, .slc s st.T 0 0) :: st.env, heap := hset st.heap s (.arr st.T sz []), T := st.T + 1 } := fun a c hr => by
  have hE : ¬ c.U st.T := fun h => by have := hr.used _ h; omega
  let L : Loc := ⟨none, 0, 0, st.T, sz⟩
  have m : Moves c c.W s [] L := ⟨rfl, rfl, rfl, Nat.le_refl _, fun _ _ _ => rfl, fun r hr => (by cases hr), fun r hr => (by cases hr)⟩
  have ev := m.ev hr.ok hE
  refine ⟨c.moved c.W s [] L, rfl, ⟨m.ok hr.ok, hr.tmps, hr.defers, fun k hk => ?_, fun b blk hb => ?_, fun e he => ?_⟩, ev.wide (fun _ _ => trivial) (fun _ _ => trivial)⟩
  · simp only [aget]
    by_cases hkt : t = k
    · subst hkt
      rw [if_pos rfl]
      have h1 := hr.env t hk
      rw [hv] at h1
      rw [h1.lit_inv]
      exact .slc _ _ _ _ _ _ (.inr rfl) (Nat.le_refl _) (fun L' _ _ => .inl ⟨rfl, rfl⟩)
    · rw [if_neg hkt]
      exact (hr.env k hk).mono hr.ok ev
  · rw [hget_hset] at hb
    split at hb
    · rename_i hs
      obtain rfl := Option.some.inj hb
      subst hs
      exact ⟨L, by simp [Cx.moved], rfl, rfl, by simp, fun _ => rfl, fun r hr => (by cases hr)⟩
    · rename_i hs
      exact (hr.heap b blk hb).mono hr.ok ev (by simpa using Ne.symm hs)
  · rcases he with he | he
    · have := hr.used e he; exact Nat.lt_succ_of_lt this
    · show e < st.T + 1
      have : e = st.T := he
      omega
theorem awp_loopw {P : Program} {nt : Nt} {Q : Exit → St → Prop} {st : St} {body : Code} (I : Nat → St → Prop) (n0 : Nat) (st' : St) (hw : Weak nt st st') (h0 : I n0 st')
    (hr : ∀ n st, I n st → AWP P nt body (qthen (fun st' => ∃ m, m < n ∧ ∃ st'', Weak nt st' st'' ∧ I m st'') Q) st) : AWP P nt (.loop body) Q st := awp_weak hw (awp_loop I n0 h0 hr)
attribute [go_sem] gval
theorem wrap_succ {k : Nat} (h : k < 9223372036854775807) : IntKind.i64.wrap ((k : Int) + 1) = ((k + 1 : Nat) : Int) := by
  have := IntWalk.i64_in ((k : Int) + 1) (by omega)
  rw [this]; omega
end Go.Proofs.YtinpnidokpjfhaaGreatDoor.AM
namespace Go.Proofs.YtinpnidokpjfhaaGreatDoor.AM
open Go.RowKit
set_option linter.unusedVariables false
set_option linter.unusedSimpArgs false
abbrev Row4 := Nat × Nat × Nat × Nat
def tfind : List Row4 → Nat → Nat → Option (Nat × Nat)
  | [], _, _ => none
  | (b0, e0, b', e') :: t, b, e => if b0 = b ∧ e0 = e then some (b', e') else tfind t b e
mutual
def ren (τ : List Row4) : AV → AV
  | .top => .top
  | .dat d => .dat d
  | .fp cs => .fp cs
  | .ptr b e i off => match tfind τ b e with
    | some (b', e') => .ptr b' e' i off
    | none => .top
  | .slc b e lo n => match tfind τ b e with
    | some (b', e') => .slc b' e' lo n
    | none => .top
  | .mp b e => match tfind τ b e with
    | some (b', e') => .mp b' e'
    | none => .top
  | .fn f l m => .fn f (renL τ l) (renL τ m)
  | .agg l => .agg (renL τ l)
  | .tup l => .tup (renL τ l)
  | .ifc t x => .ifc t (ren τ x)
def renL (τ : List Row4) : List AV → List AV
  | [] => []
  | x :: l => ren τ x :: renL τ l
end
def renK (τ : List Row4) : List (Value × AV) → List (Value × AV)
  | [] => []
  | (k, x) :: l => (k, ren τ x) :: renK τ l
def renB (τ : List Row4) (e' : Nat) : Blk → Blk
  | .box _ cs => .box e' (renL τ cs)
  | .arr _ sz ds => .arr e' sz ds
  | .maps _ kv => .maps e' (renK τ kv)
  | .iter _ o => .iter e' o
def epB : Blk → Nat
  | .box e _ => e
  | .arr e _ _ => e
  | .maps e _ => e
  | .iter e _ => e
def renH (τ : List Row4) (h : List (Nat × Blk)) : List Row4 → List (Nat × Blk)
  | [] => []
  | (b, e, b', e') :: r => match hget h b with
    | some blk => if epB blk = e then (b', renB τ e' blk) :: renH τ h r else renH τ h r
    | none => renH τ h r
def rι (ι : Nat → Option Loc) : List Row4 → Nat → Option Loc
  | [], _ => none
  | (b, e, b1, e1) :: t, b' => if b1 = b' then (match ι b with
    | some L => if L.ep = e then some { L with ep := e1 } else none
    | none => none) else rι ι t b'
def tabOK : List Row4 → Bool
  | [] => true
  | (b, _, b', _) :: t => t.all (fun r => !(r.1 == b) && !(r.2.2.1 == b')) && tabOK t
theorem renL_eq (τ : List Row4) : ∀ l, renL τ l = l.map (ren τ)
  | [] => by simp [renL]
  | x :: l => by simp [renL, renL_eq τ l]
theorem renK_eq (τ : List Row4) : ∀ l, renK τ l = l.map (fun p => (p.1, ren τ p.2))
  | [] => by simp [renK]
  | x :: l => by simp [renK, renK_eq τ l]
theorem tfind_mem {b e b' e' : Nat} : ∀ {τ : List Row4}, tfind τ b e = some (b', e') → (b, e, b', e') ∈ τ
  | [], h => by cases h
  | (b0, e0, b1, e1) :: t, h => by
    simp only [tfind] at h
    split at h
    · rename_i hc
      obtain ⟨rfl, rfl⟩ := hc
      obtain ⟨rfl, rfl⟩ := Prod.mk.inj (Option.some.inj h)
      exact List.mem_cons_self
    · exact List.mem_cons_of_mem _ (tfind_mem h)
theorem rι_inv {ι : Nat → Option Loc} {b' : Nat} {L' : Loc} : ∀ {τ : List Row4}, rι ι τ b' = some L' → ∃ b e e1 L, (b, e, b', e1) ∈ τ ∧ ι b = some L ∧ L.ep = e ∧ L' = { L with ep := e1 }
  | [], h => by cases h
  | (b0, e0, b1, e1) :: t, h => by
    simp only [rι] at h
    split at h
    · rename_i hc
      subst hc
      cases hb : ι b0 with
      | none => rw [hb] at h; cases h
      | some L =>
        rw [hb] at h
        simp only at h
        split at h
        · rename_i he
          exact ⟨b0, e0, e1, L, List.mem_cons_self, hb, he, (Option.some.inj h).symm⟩
        · cases h
    · obtain ⟨b, e, e2, L, h1, h2⟩ := rι_inv h
      exact ⟨b, e, e2, L, List.mem_cons_of_mem _ h1, h2⟩
theorem tabOK_cons {b e b' e' : Nat} {t : List Row4} (h : tabOK ((b, e, b', e') :: t) = true) : (∀ r ∈ t, r.1 ≠ b ∧ r.2.2.1 ≠ b') ∧ tabOK t = true := by
  simp only [tabOK, Bool.and_eq_true, List.all_eq_true] at h
  exact ⟨fun r hr => by have := h.1 r hr; simpa using this, h.2⟩
theorem tabOK_inj : ∀ {τ : List Row4}, tabOK τ = true → ∀ r ∈ τ, ∀ r' ∈ τ, (r.1 = r'.1 ∨ r.2.2.1 = r'.2.2.1) → r = r'
  | [], _, r, hr, _, _, _ => by cases hr
  | (b, e, b', e') :: t, h, r, hr, r', hr', he => by
    obtain ⟨h1, h2⟩ := tabOK_cons h
    rcases List.mem_cons.1 hr with rfl | hr <;> rcases List.mem_cons.1 hr' with rfl | hr'
    · rfl
    · rcases he with he | he
      · exact absurd he.symm (h1 r' hr').1
      · exact absurd he.symm (h1 r' hr').2
    · rcases he with he | he
      · exact absurd he (h1 r hr).1
      · exact absurd he (h1 r hr).2
    · exact tabOK_inj h2 r hr r' hr' he
theorem rι_of {ι : Nat → Option Loc} {b e b' e1 : Nat} {L : Loc} : ∀ {τ : List Row4}, tabOK τ = true → (b, e, b', e1) ∈ τ → ι b = some L → L.ep = e → rι ι τ b' = some { L with ep := e1 }
  | [], _, h, _, _ => by cases h
  | (b0, e0, b1, e2) :: t, hok, h, hb, he => by
    simp only [rι]
    rcases List.mem_cons.1 h with h | h
    · simp only [Prod.mk.injEq] at h
      obtain ⟨rfl, rfl, rfl, rfl⟩ := h
      rw [if_pos rfl, hb]
      simp only [he, if_true]
    · have := (tabOK_cons hok).1 _ h
      rw [if_neg (fun e => this.2 e.symm)]
      exact rι_of (tabOK_cons hok).2 h hb he
structure Ren (c c' : Cx) (τ : List Row4) : Prop where
  W : c'.W = c.W
  X : c'.X = c.X
  used : ∀ b e b' e', (b, e, b', e') ∈ τ → c.U e → c'.U e'
  back : ∀ b e b' e', (b, e, b', e') ∈ τ → ∀ L', c'.ι b' = some L' → L'.ep = e' → ∃ L, c.ι b = some L ∧ L.ep = e ∧ L' = { L with ep := e' }
  fwd : ∀ b e b' e', (b, e, b', e') ∈ τ → ∀ L, c.ι b = some L → L.ep = e → c'.ι b' = some { L with ep := e' }
section
variable {c c' : Cx} {τ : List Row4}
theorem VR.ren (r : Ren c c' τ) {x : AV} {u : Value} (hv : VR c x u) : VR c' (AM.ren τ x) u := by
  have md : ∀ {d : Dat} {u : Value}, DR c.W c.X d u → DR c'.W c'.X d u := fun {d u} hd => by rw [r.W, r.X]; exact hd
  induction hv with
  | top u => simp only [AM.ren]; exact .top u
  | dat d u hd => simp only [AM.ren]; exact .dat d u (md hd)
  | fp cs k o f hk hs hf h1 hv =>
    simp only [AM.ren]
    exact .fp cs k o f (by rw [r.X]; exact hk) (by rw [r.W]; exact hs) (fun j v hj => by rw [r.W]; exact hf j v hj) h1 (fun j v hj => md (hv j v hj))
  | ptr b e i off A hu hp =>
    simp only [AM.ren]
    cases ht : tfind τ b e with
    | none => exact .top _
    | some p =>
      obtain ⟨b', e'⟩ := p
      have hm := tfind_mem ht
      refine .ptr b' e' i off A (r.used _ _ _ _ hm hu) (fun L' hL' he' => ?_)
      obtain ⟨L, h1, h2, rfl⟩ := r.back _ _ _ _ hm L' hL' he'
      exact hp L h1 h2
  | slc b e lo n A cap hu hn hp =>
    simp only [AM.ren]
    cases ht : tfind τ b e with
    | none => exact .top _
    | some p =>
      obtain ⟨b', e'⟩ := p
      have hm := tfind_mem ht
      refine .slc b' e' lo n A cap (r.used _ _ _ _ hm hu) hn (fun L' hL' he' => ?_)
      obtain ⟨L, h1, h2, rfl⟩ := r.back _ _ _ _ hm L' hL' he'
      exact hp L h1 h2
  | mp b e R hu hp =>
    simp only [AM.ren]
    cases ht : tfind τ b e with
    | none => exact .top _
    | some p =>
      obtain ⟨b', e'⟩ := p
      have hm := tfind_mem ht
      refine .mp b' e' R (r.used _ _ _ _ hm hu) (fun L' hL' he' => ?_)
      obtain ⟨L, h1, h2, rfl⟩ := r.back _ _ _ _ hm L' hL' he'
      exact hp L h1 h2
  | fn f l m us vs h1 h2 k1 k2 i1 i2 =>
    simp only [AM.ren, renL_eq]
    refine .fn f _ _ us vs (by rw [List.length_map]; exact h1) (by rw [List.length_map]; exact h2) (fun i x hx => ?_) (fun i x hx => ?_)
    · rw [List.getElem?_map] at hx
      cases hy : l[i]? with
      | none => rw [hy] at hx; cases hx
      | some y => rw [hy] at hx; obtain rfl := Option.some.inj hx; exact i1 i y hy
    · rw [List.getElem?_map] at hx
      cases hy : m[i]? with
      | none => rw [hy] at hx; cases hx
      | some y => rw [hy] at hx; obtain rfl := Option.some.inj hx; exact i2 i y hy
  | agg l us h1 k1 i1 =>
    simp only [AM.ren, renL_eq]
    refine .agg _ us (by rw [List.length_map]; exact h1) (fun i x hx => ?_)
    rw [List.getElem?_map] at hx
    cases hy : l[i]? with
    | none => rw [hy] at hx; cases hx
    | some y => rw [hy] at hx; obtain rfl := Option.some.inj hx; exact i1 i y hy
  | tup l us h1 k1 i1 =>
    simp only [AM.ren, renL_eq]
    refine .tup _ us (by rw [List.length_map]; exact h1) (fun i x hx => ?_)
    rw [List.getElem?_map] at hx
    cases hy : l[i]? with
    | none => rw [hy] at hx; cases hx
    | some y => rw [hy] at hx; obtain rfl := Option.some.inj hx; exact i1 i y hy
  | ifc t x u hx ih => simp only [AM.ren]; exact .ifc t _ u ih
theorem CellsAt.ren (r : Ren c c' τ) {k base size : Nat} {vs : List AV} (h : CellsAt c k base size vs) : CellsAt c' k base size (renL τ vs) := by
  obtain ⟨cs, el, fz, h1, h2, h3, h4, h5⟩ := h
  refine ⟨cs, el, fz, by rw [r.W]; exact h1, h2, h3, by rw [renL_eq, List.length_map]; exact h4, fun j v hj => ?_⟩
  rw [renL_eq, List.getElem?_map] at hj
  cases hy : vs[j]? with
  | none => rw [hy] at hj; cases hj
  | some y =>
    rw [hy] at hj
    obtain rfl := Option.some.inj hj
    obtain ⟨u, k1, k2, k3⟩ := h5 j y hy
    exact ⟨u, k1, k2.ren r, k3⟩
theorem BR.ren (r : Ren c c' τ) {b e b' e' : Nat} {blk : Blk} (hm : (b, e, b', e') ∈ τ) (he : epB blk = e) (h : BR c b blk) : BR c' b' (renB τ e' blk) := by
  cases blk with
  | box ep cs =>
    obtain ⟨L, k, hL, h1, hr, hc⟩ := h
    have he : ep = e := he
    exact ⟨_, k, r.fwd _ _ _ _ hm L hL (h1.trans he), rfl, hr, hc.ren r⟩
  | arr ep sz ds =>
    obtain ⟨L, hL, h1, hz, hl, hn, hc⟩ := h
    have he : ep = e := he
    refine ⟨_, r.fwd _ _ _ _ hm L hL (h1.trans he), rfl, hz, hl, hn, fun k hk => ?_⟩
    have := (hc k hk).ren r
    rw [renL_eq, List.map_map] at this
    have e : (AM.ren τ ∘ AV.dat) = AV.dat := funext fun d => by simp [AM.ren]
    rw [e] at this
    exact this
  | maps ep kv =>
    obtain ⟨L, k, hL, h1, hr, es, clock, h2, h3, h4⟩ := h
    have he : ep = e := he
    refine ⟨_, k, r.fwd _ _ _ _ hm L hL (h1.trans he), rfl, hr, es, clock, by rw [r.W]; exact h2, by rw [renK_eq, List.length_map]; exact h3, fun j kk v hj => ?_⟩
    rw [renK_eq, List.getElem?_map] at hj
    cases hy : kv[j]? with
    | none => rw [hy] at hj; cases hj
    | some y =>
      rw [hy] at hj
      obtain ⟨k0, v0⟩ := y
      obtain ⟨rfl, rfl⟩ := Prod.mk.inj (Option.some.inj hj)
      obtain ⟨q, q1, q2, q3⟩ := h4 j k0 v0 hy
      exact ⟨q, q1, q2, q3.ren r⟩
  | iter ep o =>
    obtain ⟨L, k, hL, h1, hr, h0, h2⟩ := h
    have he : ep = e := he
    exact ⟨_, k, r.fwd _ _ _ _ hm L hL (h1.trans he), rfl, hr, h0, by rw [r.W]; exact h2⟩
theorem heap_ren (r : Ren c c' τ) {h : List (Nat × Blk)} (hb : ∀ b blk, hget h b = some blk → BR c b blk) : ∀ (rows : List Row4), (∀ x ∈ rows, x ∈ τ) → ∀ b' blk', hget (renH τ h rows) b' = some blk' → BR c' b' blk'
  | [], _, b', blk', hx => by simp [renH, hget] at hx
  | (b, e, b1, e1) :: t, hm, b', blk', hx => by
    simp only [renH] at hx
    have tl := heap_ren r hb t (fun x hx => hm x (List.mem_cons_of_mem _ hx)) b' blk'
    split at hx
    · rename_i blk hg
      split at hx
      · rename_i he
        simp only [hget] at hx
        split at hx
        · rename_i hbb
          subst hbb
          obtain rfl := Option.some.inj hx
          exact (hb b blk hg).ren r (hm _ List.mem_cons_self) he
        · exact tl hx
      · exact tl hx
    · exact tl hx
end
def Acts (P : Program) (f : FuncId) (args : List AV) (h : List (Nat × Blk)) (v : AV) (h' : List (Nat × Blk)) : Prop :=
  ∀ (c : Cx) (us : Array Value), c.Ok → (∀ e, c.U e → e = 0) → us.size = args.length → (∀ (i : Nat) x, args[i]? = some x → VR c x (us.getD i undef)) → (∀ b blk, hget h b = some blk → BR c b blk) →
    Calls P f us c.W fun e W' => ∃ u c', e = .returned u ∧ c'.W = W' ∧ c'.Ok ∧ Ev All All c c' ∧ VR c' v u ∧ ∀ b blk, hget h' b = some blk → BR c' b blk
def rawV (P : Program) (st : St) : ResultVar → Option AV
  | .tmp t => some (aget st.env t)
  | .cell a ty => match aload P ty (aget st.env a) st.heap with
    | some (v, _) => some v
    | none => none
def rawL (P : Program) (st : St) : List ResultVar → Option (List AV)
  | [] => some []
  | r :: l => match rawV P st r, rawL P st l with
    | some v, some m => some (v :: m)
    | _, _ => none
def rawR (P : Program) (rs : List ResultVar) (st : St) : Option AV := match rawL P st rs with
  | some [v] => some v
  | some l => some (.tup l)
  | none => none
theorem rawL_run {P : Program} {nt : Nt} {st : St} {a : Act} {c : Cx} (hr : st.Rel nt a c) : ∀ (rs : List ResultVar) (vs : List AV), (∀ r ∈ rs, resTmp r < nt.n) → rawL P st rs = some vs →
    ∃ us : List Value, (rs.mapM (fun | .tmp t => pure (a.tmps.getD t undef) | .cell x t => do loadVar t (← asAddr (a.tmps.getD x undef))) : Sem (List Value)).run P c.W = .ok us c.W ∧ us.length = vs.length ∧ ∀ (i : Nat) v, vs[i]? = some v → VR c v (us.getD i undef)
  | [], vs, _, h => by obtain rfl := Option.some.inj h; exact ⟨[], rfl, rfl, fun i v hv => by simp at hv⟩
  | r :: rs, vs, ht, h => by
    simp only [rawL] at h
    split at h
    · rename_i v m hv hm
      obtain rfl := Option.some.inj h
      obtain ⟨us, k1, k2, k3⟩ := rawL_run hr rs m (fun r hr => ht r (List.mem_cons_of_mem _ hr)) hm
      have h0 := ht r List.mem_cons_self
      have head : ∃ u, ((match r with | .tmp t => pure (a.tmps.getD t undef) | .cell x t => do loadVar t (← asAddr (a.tmps.getD x undef))) : Sem Value).run P c.W = .ok u c.W ∧ VR c v u := by
        cases r with
        | tmp t => obtain rfl := Option.some.inj hv; exact ⟨_, rfl, hr.env t h0⟩
        | cell x t =>
          simp only [rawV] at hv
          split at hv
          · rename_i w F hl
            obtain rfl := Option.some.inj hv
            obtain ⟨A, w', hu, hrun, hv'⟩ := aload_spec (P := P) hl (hr.env x h0) (fun b _ blk hb => hr.heap b blk hb)
            refine ⟨w', ?_, hv'⟩
            simp only [hu]
            simp [asAddr, hrun]
          · cases hv
      obtain ⟨u, q1, q2⟩ := head
      refine ⟨u :: us, ?_, by simp [k2], fun i v' hv' => ?_⟩
      · rw [List.mapM_cons, Sem.run_bind, q1, Result.andThen_ok, Sem.run_bind, k1]
        rfl
      · match i, hv' with
        | 0, hv' => obtain rfl := Option.some.inj hv'; exact q2
        | i + 1, hv' => exact k3 i v' (by simpa using hv')
    · cases h
theorem raw_run {P : Program} {fn : Func} {st : St} {a : Act} {c : Cx} (hr : st.Rel fn.ntmps a c) (ht : ∀ r ∈ fn.results.toList, resTmp r < fn.ntmps) {v : AV} (hv : rawR P fn.results.toList st = some v) :
    ∃ u, (results fn a.tmps).run P c.W = .ok u c.W ∧ VR c v u := by
  unfold rawR at hv
  cases hl : rawL P st fn.results.toList with
  | none => rw [hl] at hv; cases hv
  | some vs =>
    rw [hl] at hv
    obtain ⟨us, k1, k2, k3⟩ := rawL_run hr fn.results.toList vs ht hl
    have hm : (fn.results.mapM (fun | .tmp t => pure (a.tmps.getD t undef) | .cell x t => do loadVar t (← asAddr (a.tmps.getD x undef))) : Sem (Array Value)).run P c.W = .ok us.toArray c.W := by
      rw [Array.mapM_eq_mapM_toList]
      show ((fn.results.toList.mapM _ : Sem (List Value)) >>= fun l => pure l.toArray).run P c.W = _
      rw [Sem.run_bind, k1]
      rfl
    have hrun : (results fn a.tmps).run P c.W = .ok (if h : us.toArray.size = 1 then us.toArray[0] else .tuple us.toArray) c.W := by
      unfold results
      rw [Sem.run_bind]
      exact (congrArg (fun z : Result (Array Value) => z.andThen (fun a w' => Sem.run P (pure (if h : a.size = 1 then a[0] else Value.tuple a)) w')) hm).trans rfl
    match vs, us, k2, k3, hv, hrun with
    | [x], [u], _, k3, hv, hrun =>
      obtain rfl := Option.some.inj hv
      exact ⟨u, by rw [hrun]; simp, k3 0 x rfl⟩
    | [], [], _, _, hv, hrun =>
      obtain rfl := Option.some.inj hv
      exact ⟨_, hrun, .tup [] #[] rfl (by simp)⟩
    | x :: y :: l, u :: w :: m, k2, k3, hv, hrun =>
      obtain rfl := Option.some.inj hv
      exact ⟨.tuple (u :: w :: m).toArray, by rw [hrun]; simp, .tup _ _ (by simpa using k2) (fun i z hz => by have := k3 i z hz; simpa [Array.getD_eq_getD_getElem?, List.getD_eq_getElem?_getD] using this)⟩
def outRows (h : List (Nat × Blk)) : List (Nat × Nat) → List Row4
  | [] => []
  | (b, b') :: r => match hget h b with
    | some blk => (b, epB blk, b', if epB blk = 0 then 0 else 1) :: outRows h r
    | none => outRows h r
def outOK : List Row4 → Bool
  | [] => true
  | (b, e, b', e') :: t => (e' == 1 || (e' == 0 && e == 0 && b == b')) && outOK t
theorem outOK_spec {b e b' e' : Nat} : ∀ {τ : List Row4}, outOK τ = true → (b, e, b', e') ∈ τ → e' = 1 ∨ (e' = 0 ∧ e = 0 ∧ b = b')
  | [], _, h => by cases h
  | (b0, e0, b1, e1) :: t, ho, h => by
    simp only [outOK, Bool.and_eq_true, Bool.or_eq_true, beq_iff_eq] at ho
    rcases List.mem_cons.1 h with h | h
    · simp only [Prod.mk.injEq] at h
      obtain ⟨rfl, rfl, rfl, rfl⟩ := h
      rcases ho.1 with h1 | ⟨⟨h1, h2⟩, h3⟩
      · exact .inl h1
      · exact .inr ⟨h1, h2, h3⟩
    · exact outOK_spec ho.2 h
def Leaves (P : Program) (rs : List ResultVar) (σ : List (Nat × Nat)) (st : St) (v : AV) (h' : List (Nat × Blk)) : Prop :=
  ∃ v0, rawR P rs st = some v0 ∧ tabOK (outRows st.heap σ) = true ∧ outOK (outRows st.heap σ) = true ∧ ren (outRows st.heap σ) v0 = v ∧ renH (outRows st.heap σ) st.heap (outRows st.heap σ) = h'
theorem Ren.of_rι {c : Cx} {τ : List Row4} {U' : Nat → Prop} (ht : tabOK τ = true) (hu : ∀ b e b' e', (b, e, b', e') ∈ τ → c.U e → U' e') : Ren c ⟨c.W, c.X, rι c.ι τ, U'⟩ τ where
  W := rfl
  X := rfl
  used := hu
  back := fun b e b' e' hm L' hL' _ => by
    obtain ⟨b0, e0, e1, L, k1, k2, k3, k4⟩ := rι_inv hL'
    have := tabOK_inj ht _ k1 _ hm (.inr rfl)
    simp only [Prod.mk.injEq] at this
    obtain ⟨rfl, rfl, _, rfl⟩ := this
    exact ⟨L, k2, k3, k4⟩
  fwd := fun b e b' e' hm L hL he => rι_of ht hm hL he
theorem rι_ok {c : Cx} {τ : List Row4} {U' : Nat → Prop} (ok : c.Ok) (ht : tabOK τ = true) (hu : ∀ b e b' e', (b, e, b', e') ∈ τ → c.U e → U' e') : (⟨c.W, c.X, rι c.ι τ, U'⟩ : Cx).Ok where
  inj := fun b b' L L' r hb hb' hr hr' => by
    obtain ⟨b0, e0, e1, L0, k1, k2, k3, rfl⟩ := rι_inv hb
    obtain ⟨b2, e2, e3, L2, j1, j2, j3, rfl⟩ := rι_inv hb'
    obtain rfl := ok.inj b0 b2 L0 L2 r k2 j2 hr hr'
    have := tabOK_inj ht _ k1 _ j1 (.inl rfl)
    exact (Prod.mk.inj (Prod.mk.inj (Prod.mk.inj this).2).2).1
  sub := fun b L r hb hr => by
    obtain ⟨b0, e0, e1, L0, k1, k2, k3, rfl⟩ := rι_inv hb
    exact ok.sub b0 L0 r k2 hr
  bnd := ok.bnd
  used := fun b L hb => by
    obtain ⟨b0, e0, e1, L0, k1, k2, k3, rfl⟩ := rι_inv hb
    exact hu _ _ _ _ k1 (k3 ▸ ok.used b0 L0 k2)
  glob := ok.glob
theorem acts_of_awp {P : Program} {f : FuncId} {fn : Func} {cd : Code} {args : List AV} {h h' : List (Nat × Blk)} {v : AV} (σ : List (Nat × Nat)) (hf : P.funcs[f]? = some fn) (hb : fn.body = some cd) (ht : (fn.results.toList.all fun r => resTmp r < fn.ntmps) = true) (hn : args.length ≤ fn.ntmps)
    (hw : AWP P fn.ntmps cd (fun ex st => (ex = .ret ∨ ex = .normal) ∧ Leaves P fn.results.toList σ st v h') { env := envOf 0 args, heap := h, T := 1 }) : Acts P f args h v h' := fun c us ok hU hus hargs hblk => by
  refine calls_of_wp hf hb ?_
  have hrel : ({ env := envOf 0 args, heap := h, T := 1 } : St).Rel fn.ntmps { tmps := us ++ Array.replicate (fn.ntmps - us.size) undef, defers := [] } c := by
    refine ⟨ok, by simp; omega, rfl, fun k hk => ?_, hblk, fun e he => by have := hU e he; show e < 1; omega⟩
    rw [aget_envOf]
    split
    · rename_i hlt
      have h1 : k < args.length := by omega
      have h2 := hargs k _ (List.getElem?_eq_getElem h1)
      have e : (us ++ Array.replicate (fn.ntmps - us.size) undef).getD k undef = us.getD k undef := by
        rw [Array.getD_eq_getD_getElem?, Array.getElem?_append_left (by omega), Array.getD_eq_getD_getElem?]
      rw [e, Nat.sub_zero, List.getD_eq_getElem?_getD, List.getElem?_eq_getElem h1]
      exact h2
    · exact .top _
  refine wp_mono (hw _ c hrel) (fun ex a' w' ⟨st', c', hw, ⟨hex, v0, hv0, ht1, ho, hv, hh⟩, hr', ev⟩ => ?_)
  subst hw
  obtain ⟨u, hres, hvr⟩ := raw_run hr' (fun r hr => by simpa using List.all_eq_true.1 ht r hr) hv0
  let τ := outRows st'.heap σ
  let U' : Nat → Prop := fun e => c.U e ∨ e = 0 ∨ e = 1
  have hu : ∀ b e b' e', (b, e, b', e') ∈ τ → c'.U e → U' e' := fun b e b' e' hm _ => by
    rcases outOK_spec ho hm with h1 | ⟨h1, _⟩
    · exact .inr (.inr h1)
    · exact .inr (.inl h1)
  have hren := Ren.of_rι (c := c') (U' := U') ht1 hu
  have hR : ∃ u' c'', Ending.returned u = Ending.returned u' ∧ c''.W = c'.W ∧ c''.Ok ∧ Ev All All c c'' ∧ VR c'' v u' ∧ ∀ b blk, hget h' b = some blk → BR c'' b blk := by
    refine ⟨u, ⟨c'.W, c'.X, rι c'.ι τ, U'⟩, rfl, rfl, rι_ok hr'.ok ht1 hu, ⟨ev.os, ev.tape, ev.output, ev.size, ev.keep, ev.x1, ev.x2, fun b L' hb hUe => ?_, fun b hb => absurd trivial hb, fun b L' r _ hb hr => ?_, fun e he => .inl he, fun e _ => .inr trivial⟩, hv ▸ hvr.ren hren, fun b blk hblk => ?_⟩
    · obtain ⟨b0, e0, e1, L0, k1, k2, k3, rfl⟩ := rι_inv hb
      have h0 : e1 = 0 := hU _ hUe
      rcases outOK_spec ho k1 with h1 | ⟨h1, rfl, rfl⟩
      · omega
      · subst h1
        have e : ({ L0 with ep := 0 } : Loc) = L0 := by cases L0; simp_all
        rw [e] at hUe ⊢
        exact ev.loc b0 L0 k2 hUe
    · obtain ⟨b0, e0, e1, L0, k1, k2, k3, rfl⟩ := rι_inv hb
      exact ev.blk b0 L0 r trivial k2 hr
    · rw [← hh] at hblk
      exact heap_ren hren hr'.heap _ (fun _ hx => hx) b blk hblk
  rcases hex with rfl | rfl
  · exact ⟨hr'.defers, _, hres, hR⟩
  · exact ⟨hr'.defers, _, hres, hR⟩
end Go.Proofs.YtinpnidokpjfhaaGreatDoor.AM
namespace Go.Proofs.YtinpnidokpjfhaaGreatDoor.AM
open Go.RowKit
set_option linter.unusedVariables false
set_option linter.unusedSimpArgs false
set_option maxHeartbeats 0
def tsrc : List Row4 → Nat → Option (Nat × Nat)
  | [], _ => none
  | (b0, e0, b', _) :: t, b => if b' = b then some (b0, e0) else tsrc t b
theorem tsrc_mem {b b0 e0 : Nat} : ∀ {τ : List Row4}, tsrc τ b = some (b0, e0) → ∃ z, (b0, e0, b, z) ∈ τ
  | [], h => by cases h
  | (b1, e1, b', z) :: t, h => by
    simp only [tsrc] at h
    split at h
    · rename_i hc
      subst hc
      simp only [Option.some.injEq, Prod.mk.injEq] at h
      obtain ⟨rfl, rfl⟩ := h
      exact ⟨z, List.mem_cons_self⟩
    · obtain ⟨z, hz⟩ := tsrc_mem h
      exact ⟨z, List.mem_cons_of_mem _ hz⟩
def backRows (τ : List Row4) (E s : Nat) : List (Nat × Blk) → List Row4
  | [] => []
  | (b, blk) :: r => (match tsrc τ b with
    | some (b0, e0) => (b, epB blk, b0, if epB blk = 0 then e0 else E)
    | none => (b, epB blk, s * 1000 + b, E)) :: backRows τ E s r
theorem backRows_spec {τ : List Row4} {E s b e b' e' : Nat} : ∀ {h : List (Nat × Blk)}, (b, e, b', e') ∈ backRows τ E s h → e' = E ∨ (e = 0 ∧ ∃ z, (b', e', b, z) ∈ τ)
  | [], h => by cases h
  | (b0, blk) :: r, h => by
    rcases List.mem_cons.1 h with h | h
    · split at h
      · rename_i b1 e1 hs
        simp only [Prod.mk.injEq] at h
        obtain ⟨rfl, rfl, rfl, h⟩ := h
        split at h
        · rename_i h0; subst h; exact .inr ⟨h0, tsrc_mem hs⟩
        · exact .inl h
      · simp only [Prod.mk.injEq] at h
        exact .inl h.2.2.2
    · exact backRows_spec h
def liveOK (h : List (Nat × Blk)) : List Row4 → Bool
  | [] => true
  | (b, e, _, z) :: t => (match hget h b with
    | some blk => epB blk == e
    | none => false) && (z == 0) && liveOK h t
theorem liveOK_spec {h : List (Nat × Blk)} {b e b' z : Nat} : ∀ {τ : List Row4}, liveOK h τ = true → (b, e, b', z) ∈ τ → z = 0 ∧ ∃ blk, hget h b = some blk ∧ epB blk = e
  | [], _, hm => by cases hm
  | (b0, e0, b1, z0) :: t, hl, hm => by
    simp only [liveOK, Bool.and_eq_true, beq_iff_eq] at hl
    rcases List.mem_cons.1 hm with hm | hm
    · simp only [Prod.mk.injEq] at hm
      obtain ⟨rfl, rfl, rfl, rfl⟩ := hm
      refine ⟨hl.1.2, ?_⟩
      cases hg : hget h b with
      | none => rw [hg] at hl; simp at hl
      | some blk => rw [hg] at hl; exact ⟨blk, rfl, by simpa using hl.1.1⟩
    · exact liveOK_spec hl.2 hm
def hputs : List (Nat × Blk) → List (Nat × Blk) → List (Nat × Blk)
  | [], h => h
  | (b, blk) :: r, h => hset (hputs r h) b blk
def hdels : List Nat → List (Nat × Blk) → List (Nat × Blk)
  | [], h => h
  | b :: r, h => hdel (hdels r h) b
theorem hget_hputs (b : Nat) (h : List (Nat × Blk)) : ∀ n, hget (hputs n h) b = match hget n b with | some x => some x | none => hget h b
  | [] => rfl
  | (k, x) :: r => by
    simp only [hputs, hget_hset, hget, hget_hputs b h r]
    split <;> rfl
theorem hget_hdels (b : Nat) (h : List (Nat × Blk)) : ∀ n, hget (hdels n h) b = if b ∈ n then none else hget h b
  | [] => by simp [hdels]
  | k :: r => by
    simp only [hdels, hget_hdel, hget_hdels b h r]
    by_cases hk : k = b
    · simp [hk]
    · simp [hk, Ne.symm hk]
theorem renH_mem {τ : List Row4} {h : List (Nat × Blk)} {b : Nat} {blk : Blk} : ∀ {rows : List Row4}, hget (renH τ h rows) b = some blk → ∃ b0 e0 e1, (b0, e0, b, e1) ∈ rows
  | [], hx => by simp [renH, hget] at hx
  | (b0, e0, b1, e1) :: t, hx => by
    simp only [renH] at hx
    have tl : hget (renH τ h t) b = some blk → ∃ b2 e2 e3, (b2, e2, b, e3) ∈ (b0, e0, b1, e1) :: t := fun hx => by
      obtain ⟨b2, e2, e3, hm⟩ := renH_mem hx
      exact ⟨b2, e2, e3, List.mem_cons_of_mem _ hm⟩
    split at hx
    · split at hx
      · simp only [hget] at hx
        split at hx
        · rename_i hb; subst hb; exact ⟨b0, e0, e1, List.mem_cons_self⟩
        · exact tl hx
      · exact tl hx
    · exact tl hx
theorem heap_ren' {c c' : Cx} {τ : List Row4} (r : Ren c c' τ) {h : List (Nat × Blk)} : ∀ (rows : List Row4), (∀ x ∈ rows, x ∈ τ ∧ ∀ blk, hget h x.1 = some blk → BR c x.1 blk) → ∀ b' blk', hget (renH τ h rows) b' = some blk' → BR c' b' blk'
  | [], _, b', blk', hx => by simp [renH, hget] at hx
  | (b, e, b1, e1) :: t, hm, b', blk', hx => by
    simp only [renH] at hx
    have tl := heap_ren' r t (fun x hx => hm x (List.mem_cons_of_mem _ hx)) b' blk'
    split at hx
    · rename_i blk hg
      split at hx
      · rename_i he
        simp only [hget] at hx
        split at hx
        · rename_i hbb
          subst hbb
          obtain rfl := Option.some.inj hx
          exact ((hm _ List.mem_cons_self).2 blk hg).ren r (hm _ List.mem_cons_self).1 he
        · exact tl hx
      · exact tl hx
    · exact tl hx
abbrev actF (τ τ' : List Row4) : List Nat := τ.map (·.1) ++ τ'.map (·.2.2.1)
abbrev actH (τ τ' : List Row4) (h h1 : List (Nat × Blk)) : List (Nat × Blk) := hputs (renH τ' h1 τ') (hdels (actF τ τ') h)
theorem os_acts {P : Program} {o : Oper} {ρ : Operand → AV} {h h0 h1 : List (Nat × Blk)} {E s : Nat} {v : AV} {f : FuncId} {fn : Func} {c0 : Call} {x : Operand} {l m args : List AV} {τ τ' : List Row4} (hp : Acts P f args h0 v h1)
    (ho : o.op = .call c0) (hcal : c0.callee = .value x) (hx : ρ x = .fn (.func f) l m) (hf : P.funcs[f]? = some fn) (hb : fn.body.isNone = false) (hng : (fn.name == "runtime.NumGoroutine") = false)
    (ht : tabOK τ = true) (hl : liveOK h τ = true) (hargs : renL τ (l ++ (c0.args.toList.map ρ ++ m)) = args) (hh : renH τ h τ = h0) (hbk : backRows τ E s h1 = τ') (ht' : tabOK τ' = true) : OStep P o ρ h (actF τ τ') E (ren τ' v) (actH τ τ' h h1) := by
  intro c a ok hops hblk hE K Q hK
  have hin : ∀ b e b' z, (b, e, b', z) ∈ τ → b ∈ actF τ τ' := fun b e b' z hm => List.mem_append_left _ (List.mem_map.2 ⟨_, hm, rfl⟩)
  have hin' : ∀ b e b' z, (b, e, b', z) ∈ τ' → b' ∈ actF τ τ' := fun b e b' z hm => List.mem_append_right _ (List.mem_map.2 ⟨_, hm, rfl⟩)
  have hz : ∀ b e b' z, (b, e, b', z) ∈ τ → z = 0 := fun b e b' z hm => (liveOK_spec hl hm).1
  have hlive : ∀ b e b' z, (b, e, b', z) ∈ τ → ∃ L, c.ι b = some L ∧ L.ep = e := fun b e b' z hm => by
    obtain ⟨_, blk, h1, h2⟩ := liveOK_spec hl hm
    have := hblk b (hin _ _ _ _ hm) blk h1
    cases blk with
    | box ep cs => obtain ⟨L, k, hL, he, _⟩ := this; exact ⟨L, hL, he.trans h2⟩
    | arr ep sz ds => obtain ⟨L, hL, he, _⟩ := this; exact ⟨L, hL, he.trans h2⟩
    | maps ep kv => obtain ⟨L, k, hL, he, _⟩ := this; exact ⟨L, hL, he.trans h2⟩
    | iter ep o => obtain ⟨L, k, hL, he, _⟩ := this; exact ⟨L, hL, he.trans h2⟩
  have hold : ∀ b e b' e', (b, e, b', e') ∈ τ' → e' = E ∨ (e = 0 ∧ ∃ z, (b', e', b, z) ∈ τ) := fun b e b' e' hm => backRows_spec (hbk ▸ hm)
  let c1 : Cx := ⟨c.W, c.X, rι c.ι τ, fun e => e = 0⟩
  have hu1 : ∀ b e b' e', (b, e, b', e') ∈ τ → c.U e → e' = 0 := fun b e b' e' hm _ => hz _ _ _ _ hm
  have r1 : Ren c c1 τ := Ren.of_rι ht hu1
  have ok1 : c1.Ok := rι_ok ok ht hu1
  have hxx : x ∈ o.op.operands.toList := by rw [ho]; simp [Op.operands, Call.operands, hcal]
  have hvx := hops x hxx
  rw [hx] at hvx
  generalize hev : a.eval x = ux at hvx
  cases hvx with
  | fn _ _ _ us vs s1 s2 k1 k2 =>
  unfold Oper.wp
  have hng' : ¬ fn.name = "runtime.NumGoroutine" := by simpa using hng
  have hb' : ¬ fn.body = none := fun e => by rw [e] at hb; cases hb
  have hrun : (execOp a.eval o).run P c.W = .ok (.enter f ((us ++ c0.args.map a.eval) ++ vs)) c.W := by
    simp [execOp, ho, resolve, hcal, hev, Deferred.ofValue, invoke, callFunc, hf, hb', hng']
  rw [hrun]
  have hlen : ((us ++ c0.args.map a.eval) ++ vs).size = args.length := by rw [← hargs, renL_eq]; simp [s1, s2]
  refine (hp c1 _ ok1 (fun e he => he) hlen (fun i y hy => ?_) (fun b blk hblk0 => ?_)).mono ?_
  · rw [← hargs, renL_eq, List.getElem?_map] at hy
    cases hyy : (l ++ (c0.args.toList.map ρ ++ m))[i]? with
    | none => rw [hyy] at hy; cases hy
    | some y0 =>
      rw [hyy] at hy
      obtain rfl := Option.some.inj hy
      refine VR.ren r1 ?_
      rw [Array.getD_eq_getD_getElem?]
      by_cases hi : i < l.length
      · rw [List.getElem?_append_left hi] at hyy
        rw [Array.append_assoc, Array.getElem?_append_left (by omega), ← Array.getD_eq_getD_getElem?]
        exact k1 i y0 hyy
      · rw [List.getElem?_append_right (by omega)] at hyy
        rw [Array.append_assoc, Array.getElem?_append_right (by omega), s1]
        by_cases hj : i - l.length < c0.args.size
        · rw [List.getElem?_append_left (by simpa using hj), List.getElem?_map] at hyy
          rw [Array.getElem?_append_left (by simpa using hj)]
          cases hy2 : c0.args.toList[i - l.length]? with
          | none => rw [hy2] at hyy; cases hyy
          | some z =>
            rw [hy2] at hyy
            obtain rfl := Option.some.inj hyy
            have hmem : z ∈ o.op.operands.toList := by
              rw [ho]
              have := List.mem_of_getElem? hy2
              simp [Op.operands, Call.operands, hcal]
              exact .inr (Array.mem_toList_iff.1 this)
            rw [Array.getElem?_toList] at hy2
            rw [Array.getElem?_map, hy2]
            exact hops z hmem
        · rw [List.getElem?_append_right (by simpa using hj)] at hyy
          rw [Array.getElem?_append_right (by simpa using hj)]
          simp only [List.length_map, Array.length_toList, Array.size_map] at hyy ⊢
          rw [← Array.getD_eq_getD_getElem?]
          exact k2 _ y0 hyy
  · rw [← hh] at hblk0
    exact heap_ren' r1 τ (fun y hy => ⟨hy, fun blk hg => hblk _ (List.mem_append_left _ (List.mem_map.2 ⟨y, hy, rfl⟩)) blk hg⟩) b blk hblk0
  · rintro e W' ⟨u, c2, rfl, hW, ok2, ev, hv, hblk2⟩
    subst hW
    let U' : Nat → Prop := fun e => c.U e ∨ e = E
    let ι' : Nat → Option Loc := fun b => if b ∈ actF τ τ' then rι c2.ι τ' b else c.ι b
    let c3 : Cx := ⟨c2.W, c2.X, ι', U'⟩
    have hιin : ∀ b, b ∈ actF τ τ' → c3.ι b = rι c2.ι τ' b := fun b hb => if_pos hb
    have hιout : ∀ b, b ∉ actF τ τ' → c3.ι b = c.ι b := fun b hb => if_neg hb
    have hu3 : ∀ b e b' e', (b, e, b', e') ∈ τ' → U' e' := fun b e b' e' hm => by
      rcases hold _ _ _ _ hm with h1 | ⟨_, z, h1⟩
      · exact .inr h1
      · obtain ⟨L, hL, he⟩ := hlive _ _ _ _ h1
        exact .inl (he ▸ ok.used b' L hL)
    have r3 : Ren c2 c3 τ' := by
      have r0 := Ren.of_rι (c := c2) (U' := U') ht' (fun b e b' e' hm _ => hu3 b e b' e' hm)
      refine ⟨rfl, rfl, fun b e b' e' hm _ => hu3 b e b' e' hm, fun b e b' e' hm L' hL' he => r0.back b e b' e' hm L' (by rw [hιin b' (hin' _ _ _ _ hm)] at hL'; exact hL') he, fun b e b' e' hm L hL he => ?_⟩
      rw [hιin b' (hin' _ _ _ _ hm)]
      exact r0.fwd b e b' e' hm L hL he
    have hlent : ∀ b1 L1, c1.ι b1 = some L1 → ∃ b L, b ∈ actF τ τ' ∧ c.ι b = some L ∧ L.rb = L1.rb ∧ ∃ e, (b, e, b1, 0) ∈ τ ∧ L.ep = e ∧ L1 = { L with ep := 0 } := fun b1 L1 hb1 => by
      obtain ⟨b0, e0, e1, L0, q1, q2, q3, rfl⟩ := rι_inv hb1
      have := hz _ _ _ _ q1
      subst this
      exact ⟨b0, L0, hin _ _ _ _ q1, q2, rfl, e0, q1, q3, rfl⟩
    have hoff : ∀ k, c.off (· ∈ actF τ τ') k → c1.off All k := fun k hk b1 L1 _ hb1 hr1 => by
      obtain ⟨b, L, q1, q2, q3, _⟩ := hlent b1 L1 hb1
      exact hk b L q1 q2 (q3.trans hr1)
    have hblk3 : ∀ b L r, b ∈ actF τ τ' → c3.ι b = some L → L.rb = some r → (∃ b0 L0, b0 ∈ actF τ τ' ∧ c.ι b0 = some L0 ∧ L0.rb = some r) ∨ c.W.heap.size ≤ r := fun b L r hb hL hr => by
      rw [hιin b hb] at hL
      obtain ⟨b0, e0, e1, L0, q1, q2, q3, rfl⟩ := rι_inv hL
      rcases ev.blk b0 L0 r trivial q2 hr with ⟨b1, L1, _, w1, w2⟩ | w
      · obtain ⟨b2, L2, y1, y2, y3, _⟩ := hlent b1 L1 w1
        exact .inl ⟨b2, L2, y1, y2, y3.trans w2⟩
      · exact .inr w
    have hoffF : ∀ b L r, b ∉ actF τ τ' → c.ι b = some L → L.rb = some r → c.off (· ∈ actF τ τ') r := fun b L r hb hL hr b' L' hb' hL' hr' => by
      have := ok.inj b b' L L' r hL hL' hr hr'
      subst this
      exact hb hb'
    have ok3 : c3.Ok := by
      refine ⟨fun b b' L L' r hL hL' hr hr' => ?_, fun b L r hL hr => ?_, ok2.bnd, fun b L hL => ?_, ok2.glob⟩
      · by_cases hb : b ∈ actF τ τ' <;> by_cases hb' : b' ∈ actF τ τ'
        · exact (rι_ok ok2 ht' (U' := U') (fun b e b' e' hm _ => hu3 b e b' e' hm)).inj b b' L L' r (by rw [hιin b hb] at hL; exact hL) (by rw [hιin b' hb'] at hL'; exact hL') hr hr'
        · have hL2 := hL'
          rw [hιout b' hb'] at hL2
          rcases hblk3 b L r hb hL hr with ⟨b0, L0, w1, w2, w3⟩ | w
          · exact absurd w3 (hoffF b' L' r hb' hL2 hr' b0 L0 w1 w2)
          · have := ok.bnd r (ok.sub b' L' r hL2 hr'); omega
        · have hL2 := hL
          rw [hιout b hb] at hL2
          rcases hblk3 b' L' r hb' hL' hr' with ⟨b0, L0, w1, w2, w3⟩ | w
          · exact absurd w3 (hoffF b L r hb hL2 hr b0 L0 w1 w2)
          · have := ok.bnd r (ok.sub b L r hL2 hr); omega
        · rw [hιout b hb] at hL
          rw [hιout b' hb'] at hL'
          exact ok.inj b b' L L' r hL hL' hr hr'
      · by_cases hb : b ∈ actF τ τ'
        · rw [hιin b hb] at hL
          obtain ⟨b0, e0, e1, L0, q1, q2, q3, rfl⟩ := rι_inv hL
          exact ok2.sub b0 L0 r q2 hr
        · rw [hιout b hb] at hL
          exact ev.x2 r (ok.sub b L r hL hr) (hoff r (hoffF b L r hb hL hr))
      · by_cases hb : b ∈ actF τ τ'
        · rw [hιin b hb] at hL
          obtain ⟨b0, e0, e1, L0, q1, q2, q3, rfl⟩ := rι_inv hL
          exact hu3 _ _ _ _ q1
        · rw [hιout b hb] at hL
          exact .inl (ok.used b L hL)
    have ev3 : Ev (· ∈ actF τ τ') (· = E) c c3 := by
      refine ⟨ev.os, ev.tape, ev.output, ev.size, fun k hk ho => ev.keep k hk (hoff k ho), ev.x1, fun k hk ho => ev.x2 k hk (hoff k ho), fun b L' hL' hU => ?_, fun b hb => hιout b hb, hblk3, fun e he => .inl he, fun e he => he⟩
      by_cases hb : b ∈ actF τ τ'
      · rw [hιin b hb] at hL'
        obtain ⟨b0, e0, e1, L0, q1, q2, q3, rfl⟩ := rι_inv hL'
        rcases hold _ _ _ _ q1 with h1 | ⟨h1, z, h2⟩
        · exact absurd (h1 ▸ hU) hE
        · subst h1
          have := ev.loc b0 L0 q2 q3
          obtain ⟨b2, L2, _, y2, _, e2, y3, y4, y5⟩ := hlent b0 L0 this
          have := tabOK_inj ht _ y3 _ h2 (.inr rfl)
          simp only [Prod.mk.injEq] at this
          obtain ⟨rfl, rfl, _, _⟩ := this
          rw [y2, y5]
          obtain ⟨rb, ba, si, ep, sz⟩ := L2
          simp only at y4
          rw [y4]
      · rw [hιout b hb] at hL'; exact hL'
    refine hK u c3 ok3 ev3 (hv.ren r3) (fun b hb blk hblk' => ?_)
    rw [hget_hputs] at hblk'
    cases hn : hget (renH τ' h1 τ') b with
    | some blk' =>
      rw [hn] at hblk'
      obtain rfl := Option.some.inj hblk'
      exact heap_ren r3 hblk2 τ' (fun _ hx => hx) b _ hn
    | none =>
      rw [hn] at hblk'
      simp only [hget_hdels, if_pos hb] at hblk'
      cases hblk'
theorem actH_far {τ τ' : List Row4} {h h1 : List (Nat × Blk)} {b : Nat} (hb : b ∉ actF τ τ') : hget (actH τ τ' h h1) b = hget h b := by
  rw [hget_hputs]
  cases hn : hget (renH τ' h1 τ') b with
  | some blk =>
    obtain ⟨b0, e0, e1, hm⟩ := renH_mem hn
    exact absurd (List.mem_append_right _ (List.mem_map.2 ⟨_, hm, rfl⟩)) hb
  | none => simp only [hget_hdels, if_neg hb]
mutual
def slotsA : AV → List (Nat × Nat)
  | .top => []
  | .dat _ => []
  | .fp _ => []
  | .ptr b e _ _ => [(b, e)]
  | .slc b e _ _ => [(b, e)]
  | .mp b e => [(b, e)]
  | .fn _ l m => slotsL l ++ slotsL m
  | .agg l => slotsL l
  | .tup l => slotsL l
  | .ifc _ x => slotsA x
def slotsL : List AV → List (Nat × Nat)
  | [] => []
  | x :: l => slotsA x ++ slotsL l
end
def slotsK : List (Value × AV) → List (Nat × Nat)
  | [] => []
  | (_, x) :: l => slotsA x ++ slotsK l
def slotsB : Blk → List (Nat × Nat)
  | .box _ cs => slotsL cs
  | .arr _ _ _ => []
  | .maps _ kv => slotsK kv
  | .iter _ _ => []
def hasSrc : List Row4 → Nat → Bool
  | [], _ => false
  | (b0, _, _, _) :: t, b => if b0 = b then true else hasSrc t b
def reach (h : List (Nat × Blk)) : Nat → List (Nat × Nat) → List Row4 → Nat → List Row4
  | 0, _, acc, _ => acc
  | _ + 1, [], acc, _ => acc
  | k + 1, (b, e) :: t, acc, n => if hasSrc acc b = true then reach h k t acc n else match hget h b with
    | some blk => if epB blk = e then reach h k (t ++ slotsB blk) (acc ++ [(b, e, n, 0)]) (n + 1) else reach h k t acc n
    | none => reach h k t acc n
theorem RunTo.acts {P : Program} {ds : List (Option Tmp)} {T i : Nat} {o : Oper} {os : List Oper} {st : St} {acc : Log} {K : Kont} {v : AV} {f : FuncId} {args : List AV} {h0 h1 : List (Nat × Blk)} (hp : Acts P f args h0 v h1) (fn : Func)
    {c0 : Call} {x : Operand} {l m : List AV} {τ τ' : List Row4} (hf : P.funcs[f]? = some fn) (ho : o.op = .call c0) (hcal : c0.callee = .value x) (hb : fn.body.isNone = false) (hng : (fn.name == "runtime.NumGoroutine") = false)
    (hw : wantedA ds o st.env = some true) (hx : opv st.env x = .fn (.func f) l m) (hτ : reach st.heap 40 (slotsL (l ++ (c0.args.toList.map (opv st.env) ++ m))) [] 1001 = τ) (ht : tabOK τ = true) (hl : liveOK st.heap τ = true)
    (hargs : renL τ (l ++ (c0.args.toList.map (opv st.env) ++ m)) = args) (hh : renH τ st.heap τ = h0) (hbk : backRows τ (T + i) (o.dst.getD 999) h1 = τ') (ht' : tabOK τ' = true)
    (h : RunTo P ds T (i + 1) os (({ st with heap := actH τ τ' st.heap h1 } : St).put o.dst (ren τ' v)) (acc ++ [(actF τ τ', actF τ τ')]) K) : RunTo P ds T i (o :: os) st acc K :=
  RunTo.cons ⟨.inr ⟨hw, ren τ' v, _, os_acts hp ho hcal hx hf hb hng ht hl hargs hh hbk ht', rfl⟩, fun b hb => by rw [heap_put]; exact actH_far hb, fun b hb => hb⟩ h
theorem RunTo.actsE {P : Program} {ds : List (Option Tmp)} {T i : Nat} {o : Oper} {os : List Oper} {st : St} {acc : Log} {K : Kont} {v : AV} {f : FuncId} {args : List AV} {h0 h1 : List (Nat × Blk)} (hp : Acts P f args h0 v h1) {fn : Func}
    (hf : P.funcs[f]? = some fn) {c0 : Call} {x : Operand} {l m : List AV} (ho : o.op = .call c0) (hcal : c0.callee = .value x) (hb : fn.body.isNone = false) (hng : (fn.name == "runtime.NumGoroutine") = false)
    (hw : wantedA ds o st.env = some true) (hx : opv st.env x = .fn (.func f) l m)
    (h : (fun τ => tabOK τ = true ∧ liveOK st.heap τ = true ∧ renL τ (l ++ (c0.args.toList.map (opv st.env) ++ m)) = args ∧ renH τ st.heap τ = h0 ∧ (fun τ' => tabOK τ' = true ∧
      RunTo P ds T (i + 1) os (({ st with heap := actH τ τ' st.heap h1 } : St).put o.dst (ren τ' v)) (acc ++ [(actF τ τ', actF τ τ')]) K) (backRows τ (T + i) (o.dst.getD 999) h1)) (reach st.heap 40 (slotsL (l ++ (c0.args.toList.map (opv st.env) ++ m))) [] 1001)) : RunTo P ds T i (o :: os) st acc K := by
  obtain ⟨h1, h2, h3, h4, h5, h6⟩ := h
  exact RunTo.acts hp fn hf ho hcal hb hng hw hx rfl h1 h2 h3 h4 rfl h5 h6
theorem RunTo.this {P : Program} {ds : List (Option Tmp)} {T i : Nat} {os : List Oper} {st : St} {acc : Log} {K : Kont} (h : RunTo P ds T i os st acc K) : RunTo P ds T i os st acc K := h
theorem RunTo.lentE {P : Program} {ds : List (Option Tmp)} {T i : Nat} {o : Oper} {os : List Oper} {st : St} {acc : Log} {K : Kont} {v : AV} {f : FuncId} {fn : Func} {c0 : Call} {args : List AV} (hp : Pure P f args v)
    (hf : P.funcs[f]? = some fn) (ho : o.op = .call c0) (hcal : c0.callee = .value (.func f)) (hb : fn.body.isNone = false) (hng : (fn.name == "runtime.NumGoroutine") = false)
    (hw : wantedA ds o st.env = some true) (hvs : scalV v = true)
    (h : c0.args.toList.map (fun x => sealV st.heap (opv st.env x)) = args.map some ∧ RunTo P ds T (i + 1) os (st.put o.dst v) (acc ++ [(c0.args.toList.flatMap fun x => slotsV (opv st.env x), [])]) K) : RunTo P ds T i (o :: os) st acc K :=
  RunTo.lent hp hf ho hcal hb hng hw h.1 hvs h.2
attribute [go_sem] tabOK actH actF liveOK tfind ren renL renK renB epB renH tsrc backRows hputs hdels outRows slotsA slotsL slotsK slotsB hasSrc reach rawV rawL rawR
end Go.Proofs.YtinpnidokpjfhaaGreatDoor.AM
namespace Go.Proofs.YtinpnidokpjfhaaGreatDoor.AM
open Go.RowKit
set_option linter.unusedVariables false
set_option linter.unusedSimpArgs false
set_option maxHeartbeats 0
theorem weak_nilbox {nt : Nt} {st : St} {b ep j s sz : Nat} {cs : List AV} (hb : hget st.heap b = some (.box ep cs)) (hj : cs[j]? = some (.lit (.slice none 0 0))) (hsb : (s == b) = false) : Weak nt st { env := st.env, heap := hset (hset st.heap b (.box ep (cs.set j (.slc s st.T 0 0)))) s (.arr st.T sz []), T := st.T + 1 } := fun a c hr => by
  have hE : ¬ c.U st.T := fun h => by have := hr.used _ h; omega
  let L : Loc := ⟨none, 0, 0, st.T, sz⟩
  have m : Moves c c.W s [] L := ⟨rfl, rfl, rfl, Nat.le_refl _, fun _ _ _ => rfl, fun r hr => (by cases hr), fun r hr => (by cases hr)⟩
  have ev := m.ev hr.ok hE
  have hsb' : s ≠ b := by simpa using hsb
  refine ⟨c.moved c.W s [] L, rfl, ⟨m.ok hr.ok, hr.tmps, hr.defers, fun k hk => (hr.env k hk).mono hr.ok ev, fun b' blk hb' => ?_, fun e he => ?_⟩, ev.wide (fun _ _ => trivial) (fun _ _ => trivial)⟩
  · rw [hget_hset] at hb'
    split at hb'
    · rename_i hs
      obtain rfl := Option.some.inj hb'
      subst hs
      exact ⟨L, by simp [Cx.moved], rfl, rfl, by simp, fun _ => rfl, fun r hr => (by cases hr)⟩
    · rename_i hs
      rw [hget_hset] at hb'
      split at hb'
      · rename_i hbb
        subst hbb
        obtain rfl := Option.some.inj hb'
        have h0 := (hr.heap b _ hb).mono hr.ok ev (by simpa using Ne.symm hs)
        obtain ⟨L0, r, k1, k2, k3, cs0, el, fz, q1, q2, q3, q4, q5⟩ := h0
        refine ⟨L0, r, k1, k2, k3, cs0, el, fz, q1, q2, q3, by simpa using q4, fun i v hv => ?_⟩
        by_cases hij : j = i
        · subst hij
          obtain ⟨u, w1, w2, w3⟩ := q5 j _ hj
          obtain rfl := w2.lit_inv
          have hlt := (List.getElem?_eq_some_iff.1 hj).1
          have e : v = .slc s st.T 0 0 := by rw [List.getElem?_set] at hv; simpa [hlt] using hv.symm
          subst e
          exact ⟨_, w1, .slc _ _ _ _ _ _ (.inr rfl) (Nat.le_refl _) (fun L' _ _ => .inl ⟨rfl, rfl⟩), w3⟩
        · rw [List.getElem?_set_ne hij] at hv
          exact q5 i v hv
      · exact (hr.heap b' blk hb').mono hr.ok ev (by simpa using Ne.symm hs)
  · rcases he with he | he
    · have := hr.used e he; exact Nat.lt_succ_of_lt this
    · show e < st.T + 1
      have : e = st.T := he
      omega
def Ext (P : Program) (f : FuncId) (us : List Value) (u : Value) : Prop := ∀ W : World, (callFunc f us.toArray).run P W = .ok (.value u) W
theorem os_ext {P : Program} {o : Oper} {ρ : Operand → AV} {h : List (Nat × Blk)} {E : Nat} {us : List Value} {u : Value} {f : FuncId} {c0 : Call} (hp : Ext P f us u) (ho : o.op = .call c0) (hcal : c0.callee = .value (.func f))
    (hargs : c0.args.toList.map ρ = us.map AV.lit) : OStep P o ρ h [] E (.lit u) h := by
  intro c a ok hops hblk hE K Q hK
  unfold Oper.wp
  have he : c0.args.map a.eval = us.toArray := by
    apply Array.ext'
    rw [Array.toList_map]
    apply List.ext_getElem?
    intro i
    rw [List.getElem?_map]
    have hi := congrArg (·[i]?) hargs
    simp only [List.getElem?_map] at hi
    cases hy : c0.args.toList[i]? with
    | none => rw [hy] at hi; cases hz : us[i]? with
      | none => simp [hz]
      | some z => rw [hz] at hi; cases hi
    | some y =>
      rw [hy] at hi
      cases hz : us[i]? with
      | none => rw [hz] at hi; cases hi
      | some z =>
        rw [hz] at hi
        have e1 : ρ y = .lit z := Option.some.inj hi
        have hm : y ∈ o.op.operands.toList := by
          rw [ho]
          have := List.mem_of_getElem? hy
          simp [Op.operands, Call.operands, hcal]
          exact .inr (Array.mem_toList_iff.1 this)
        have := hops y hm
        rw [e1] at this
        simp [hz, this.lit_inv]
  have hrun : (execOp a.eval o).run P c.W = .ok (.value u) c.W := by
    have := hp c.W
    simp [execOp, ho, resolve, hcal, Act.eval, Deferred.ofValue, invoke, he, this]
  rw [hrun]
  exact hK u c ok (Ev.refl _ _ _) (.dat _ _ (.lit _)) (fun b hb => by simp at hb)
theorem RunTo.ext {P : Program} {ds : List (Option Tmp)} {T i : Nat} {o : Oper} {os : List Oper} {st : St} {acc : Log} {K : Kont} {f : FuncId} {us : List Value} {u : Value} (hp : Ext P f us u)
    {c0 : Call} (ho : o.op = .call c0) (hcal : c0.callee = .value (.func f)) (hw : wantedA ds o st.env = some true) (hargs : c0.args.toList.map (opv st.env) = us.map AV.lit)
    (h : RunTo P ds T (i + 1) os (st.put o.dst (.lit u)) (acc ++ [([], [])]) K) : RunTo P ds T i (o :: os) st acc K :=
  RunTo.cons ⟨.inr ⟨hw, .lit u, st.heap, os_ext hp ho hcal hargs, by cases st; rfl⟩, fun b _ => by rw [heap_put], fun b hb => by cases hb⟩ h
def renE (τ : List Row4) : List (Nat × AV) → List (Nat × AV)
  | [] => []
  | (k, x) :: l => (k, ren τ x) :: renE τ l
theorem aget_renE (τ : List Row4) (t : Nat) : ∀ l, aget (renE τ l) t = ren τ (aget l t)
  | [] => by simp [renE, aget, ren]
  | (k, x) :: l => by
    simp only [renE, aget]
    split
    · rfl
    · exact aget_renE τ t l
def movRows (h : List (Nat × Blk)) (T : Nat) : List (Nat × Nat) → List Row4
  | [] => []
  | (b, b') :: r => match hget h b with
    | some blk => (b, epB blk, b', if b = b' then epB blk else T) :: movRows h T r
    | none => movRows h T r
theorem movRows_spec {h : List (Nat × Blk)} {T b e b' e' : Nat} : ∀ {σ : List (Nat × Nat)}, (b, e, b', e') ∈ movRows h T σ → e' = T ∨ (b = b' ∧ e = e')
  | [], hm => by cases hm
  | (b0, b1) :: r, hm => by
    simp only [movRows] at hm
    split at hm
    · rcases List.mem_cons.1 hm with hm | hm
      · simp only [Prod.mk.injEq] at hm
        obtain ⟨rfl, rfl, rfl, h4⟩ := hm
        split at h4
        · rename_i hbb; exact .inr ⟨hbb, h4.symm⟩
        · exact .inl h4
      · exact movRows_spec hm
    · exact movRows_spec hm
theorem weak_ren {nt : Nt} {st : St} (σ : List (Nat × Nat)) (ht : tabOK (movRows st.heap st.T σ) = true) : Weak nt st ⟨renE (movRows st.heap st.T σ) st.env, renH (movRows st.heap st.T σ) st.heap (movRows st.heap st.T σ), st.T + 1⟩ := fun a c hr => by
  let τ := movRows st.heap st.T σ
  let U' : Nat → Prop := fun e => c.U e ∨ e = st.T
  have hu : ∀ b e b' e', (b, e, b', e') ∈ τ → c.U e → U' e' := fun b e b' e' hm he => by
    rcases movRows_spec hm with h1 | ⟨_, rfl⟩
    · exact .inr h1
    · exact .inl he
  have r := Ren.of_rι (c := c) (U' := U') ht hu
  have hE : ¬ c.U st.T := fun h => by have := hr.used _ h; omega
  refine ⟨⟨c.W, c.X, rι c.ι τ, U'⟩, rfl, ⟨rι_ok hr.ok ht hu, hr.tmps, hr.defers, fun t htn => ?_, fun b blk hb => heap_ren r hr.heap _ (fun _ hx => hx) b blk hb, fun e he => ?_⟩,
    ⟨rfl, rfl, rfl, Nat.le_refl _, fun _ _ _ => rfl, fun _ h => .inl h, fun _ h _ => h, fun b L' hb hUe => ?_, fun b hb => absurd trivial hb, fun b L' q _ hb hq => ?_, fun e he => .inl he, fun e _ => .inr trivial⟩⟩
  · rw [show aget (renE τ st.env) t = _ from aget_renE τ t st.env]
    exact (hr.env t htn).ren r
  · rcases he with he | he
    · exact Nat.lt_succ_of_lt (hr.used e he)
    · show e < st.T + 1
      omega
  · obtain ⟨b0, e0, e1, L0, k1, k2, k3, rfl⟩ := rι_inv hb
    rcases movRows_spec k1 with h1 | ⟨rfl, rfl⟩
    · exact absurd (h1 ▸ hUe) hE
    · rw [k2]
      obtain ⟨rb, ba, si, ep, sz⟩ := L0
      simp only at k3
      rw [k3]
  · obtain ⟨b0, e0, e1, L0, k1, k2, k3, rfl⟩ := rι_inv hb
    exact .inl ⟨b0, L0, trivial, k2, hq⟩
def ARounds (P : Program) (nt : Nt) (body : Code) (Q : Exit → St → Prop) : Nat → St → Prop
  | 0, _ => False
  | n + 1, st => AWP P nt body (qthen (ARounds P nt body Q n) Q) st
theorem awp_round {P : Program} {nt : Nt} {body : Code} {Q : Exit → St → Prop} {n : Nat} {st : St} (h : AWP P nt body (qthen (ARounds P nt body Q n) Q) st) : ARounds P nt body Q (n + 1) st := h
theorem awp_rounds {P : Program} {nt : Nt} {body : Code} {Q : Exit → St → Prop} {st : St} (n : Nat) (h : ARounds P nt body Q n st) : AWP P nt (.loop body) Q st := fun a c hrel => by
  have key : ∀ n st a c1, ARounds P nt body Q n st → st.Rel nt a c1 → Ev All All c c1 → Code.rounds P body (post nt Q c) n a c1.W := by
    intro n
    induction n with
    | zero => intro st a c1 h _ _; exact h.elim
    | succ n ih =>
      intro st a c1 h hr ev
      rw [rounds_succ]
      refine wp_mono (h a c1 hr) (fun e a2 w2 ⟨st2, c2, h1, h2, h3, h4⟩ => ?_)
      subst h1
      have ev2 := (Ev.trans hrel.ok ev h4).wide (F' := All) (N' := All) (fun _ _ => trivial) (fun _ _ => trivial)
      cases e with
      | normal => exact ih st2 a2 c2 h2 h3 ev2
      | exit id => exact ⟨st2, c2, rfl, h2, h3, ev2⟩
      | goto l => exact ⟨st2, c2, rfl, h2, h3, ev2⟩
      | ret => exact ⟨st2, c2, rfl, h2, h3, ev2⟩
      | panic ch => exact ⟨st2, c2, rfl, h2, h3, ev2⟩
      | outgrown => exact ⟨st2, c2, rfl, h2, h3, ev2⟩
  exact wp_loop_rounds n (key n st a c h hrel (Ev.refl _ _ _))
theorem RunTo.skipped {P : Program} {ds : List (Option Tmp)} {T i : Nat} {o : Oper} {os : List Oper} {st : St} {acc : Log} {K : Kont} (hw : wantedA ds o st.env = some false)
    (h : RunTo P ds T (i + 1) os (st.put o.dst noVal) (acc ++ [([], [])]) K) : RunTo P ds T i (o :: os) st acc K :=
  RunTo.cons ⟨.inl ⟨hw, rfl, rfl, rfl⟩, fun b _ => by rw [heap_put], fun b hb => (by cases hb)⟩ h
theorem awp_label {P : Program} {nt : Nt} {Q : Exit → St → Prop} {st : St} {l : Nat} (h : Q .normal st) : AWP P nt (.label l) Q st := fun a c hr => wp_label ⟨st, c, rfl, h, hr, Ev.refl _ _ _⟩
def qscope (Q : Exit → St → Prop) : Exit → St → Prop
  | .goto _, _ => False
  | e, st => Q e st
theorem awp_scope {P : Program} {nt : Nt} {Q : Exit → St → Prop} {st : St} {cd : Code} (h : AWP P nt cd (qscope Q) st) : AWP P nt (.scope cd) Q st := fun a c hr => by
  refine wp_scope_straight (wp_mono (h a c hr) (fun e a' w' ⟨st', c', h1, h2, h3, h4⟩ => ?_))
  cases e with
  | goto l => exact h2.elim
  | normal => exact ⟨st', c', h1, h2, h3, h4⟩
  | exit id => exact ⟨st', c', h1, h2, h3, h4⟩
  | ret => exact ⟨st', c', h1, h2, h3, h4⟩
  | panic ch => exact ⟨st', c', h1, h2, h3, h4⟩
  | outgrown => exact ⟨st', c', h1, h2, h3, h4⟩
attribute [go_sem] qscope
@[go_sem] theorem cast_lit (n : Nat) : ((no_index (OfNat.ofNat n) : Nat) : Int) = OfNat.ofNat n := rfl
@[go_sem] theorem wrap64 (n : Int) (h1 : -9223372036854775808 ≤ n) (h2 : n ≤ 9223372036854775807) : IntKind.i64.wrap n = n := IntWalk.i64_in n ⟨h1, h2⟩
@[go_sem] theorem lt0 (n : Nat) : ((n : Int) < 0) = False := by simp
theorem ilt {j n : Nat} (h : j < n) : ((j : Int) < (n : Int)) = True := eq_true (Int.ofNat_lt.2 h)
end Go.Proofs.YtinpnidokpjfhaaGreatDoor.AM
namespace Go.Proofs.YtinpnidokpjfhaaGreatDoor.AM
open Go.RowKit
set_option linter.unusedVariables false
set_option linter.unusedSimpArgs false
inductive Dle : Dat → Dat → Prop
  | refl (d : Dat) : Dle d d
  | nil (sz : Nat) : Dle (.lit (.slice none 0 0)) (.lst sz [])
  | lst (sz : Nat) (es es' : List (List Dat)) (hl : es.length = es'.length) (h1 : ∀ (i : Nat) r r', es[i]? = some r → es'[i]? = some r' → r.length = r'.length)
      (h2 : ∀ (i : Nat) r r', es[i]? = some r → es'[i]? = some r' → ∀ (j : Nat) d d', r[j]? = some d → r'[j]? = some d' → Dle d d') : Dle (.lst sz es) (.lst sz es')
def DleL (r r' : List Dat) : Prop := r.length = r'.length ∧ ∀ (j : Nat) d d', r[j]? = some d → r'[j]? = some d' → Dle d d'
def DleR (r r' : List (List Dat)) : Prop := r.length = r'.length ∧ ∀ (j : Nat) d d', r[j]? = some d → r'[j]? = some d' → DleL d d'
theorem DleL.nil : DleL [] [] := ⟨rfl, fun j d d' h => by simp at h⟩
theorem DleL.cons {a b : Dat} {l m : List Dat} (h : Dle a b) (k : DleL l m) : DleL (a :: l) (b :: m) := ⟨by simp [k.1], fun j d d' h1 h2 => by
  match j, h1, h2 with
  | 0, h1, h2 => obtain rfl := Option.some.inj h1; obtain rfl := Option.some.inj h2; exact h
  | j + 1, h1, h2 => exact k.2 j d d' (by simpa using h1) (by simpa using h2)⟩
theorem DleR.nil : DleR [] [] := ⟨rfl, fun j d d' h => by simp at h⟩
theorem DleR.cons {a b : List Dat} {l m : List (List Dat)} (h : DleL a b) (k : DleR l m) : DleR (a :: l) (b :: m) := ⟨by simp [k.1], fun j d d' h1 h2 => by
  match j, h1, h2 with
  | 0, h1, h2 => obtain rfl := Option.some.inj h1; obtain rfl := Option.some.inj h2; exact h
  | j + 1, h1, h2 => exact k.2 j d d' (by simpa using h1) (by simpa using h2)⟩
theorem DleR.dat {sz : Nat} {l m : List (List Dat)} (h : DleR l m) : Dle (.lst sz l) (.lst sz m) := .lst sz l m h.1 (fun i r r' h1 h2 => (h.2 i r r' h1 h2).1) (fun i r r' h1 h2 => (h.2 i r r' h1 h2).2)
theorem get_of_len {α β : Type} {l : List α} {m : List β} (h : l.length = m.length) {i : Nat} {y : β} (hy : m[i]? = some y) : ∃ x, l[i]? = some x := by
  have := (List.getElem?_eq_some_iff.1 hy).1
  exact ⟨l[i]'(by omega), List.getElem?_eq_getElem (by omega)⟩
theorem DR.le {W : World} {X : Nat → Prop} {d d' : Dat} {u : Value} (hd : DR W X d u) (hle : Dle d d') : DR W X d' u := by
  induction hd generalizing d' with
  | lit v =>
    cases hle with
    | refl _ => exact .lit v
    | nil sz => exact .lst sz [] none 0 0 (fun _ _ => undef) 0 0 rfl (Nat.le_refl _) (by simp) (.inl rfl) (by simp) (by simp) (by simp)
  | lst sz es A n cap f k o hn hc hr hA hf h1 hv ih =>
    cases hle with
    | refl _ => exact .lst sz es A n cap f k o hn hc hr hA hf h1 hv
    | lst _ _ es' hl k1 k2 =>
      have up : ∀ (i : Nat) r', es'[i]? = some r' → ∃ r, es[i]? = some r ∧ r.length = r'.length := fun i r' hi => by
        obtain ⟨r, hr⟩ := get_of_len hl hi
        exact ⟨r, hr, k1 i r r' hr hi⟩
      have up2 : ∀ (i : Nat) r', es'[i]? = some r' → ∀ (j : Nat) v', r'[j]? = some v' → ∃ r v, es[i]? = some r ∧ r[j]? = some v ∧ Dle v v' := fun i r' hi j v' hj => by
        obtain ⟨r, hr, hlen⟩ := up i r' hi
        obtain ⟨v, hv⟩ := get_of_len hlen hj
        exact ⟨r, v, hr, hv, k2 i r r' hr hi j v v' hv hj⟩
      refine .lst sz es' A n cap f k o (hn.trans hl) hc (fun r' hr' => ?_) ?_ (fun i r' hi j v' hj => ?_) (fun i r' hi j v' hj => ?_) (fun i r' hi j v' hj => ?_)
      · obtain ⟨i, hi⟩ := List.mem_iff_getElem?.1 hr'
        obtain ⟨r, hr2, hlen⟩ := up i r' hi
        rw [← hlen]; exact hr r (List.mem_of_getElem? hr2)
      · rcases hA with hA | hA
        · left
          rw [hA] at hl
          exact List.length_eq_zero_iff.1 hl.symm
        · exact .inr hA
      · obtain ⟨r, v, q1, q2, _⟩ := up2 i r' hi j v' hj; exact hf i r q1 j v q2
      · obtain ⟨r, v, q1, q2, _⟩ := up2 i r' hi j v' hj; exact h1 i r q1 j v q2
      · obtain ⟨r, v, q1, q2, q3⟩ := up2 i r' hi j v' hj; exact ih i r q1 j v q2 q3
def Ale (x y : AV) : Prop := ∀ c u, VR c x u → VR c y u
theorem Ale.refl (x : AV) : Ale x x := fun _ _ h => h
theorem Ale.dat {d d' : Dat} (h : Dle d d') : Ale (.dat d) (.dat d') := fun c u hv => by
  cases hv with
  | dat _ _ hd => exact .dat _ _ (hd.le h)
def AleL (l m : List AV) : Prop := l.length = m.length ∧ ∀ (j : Nat) x y, l[j]? = some x → m[j]? = some y → Ale x y
theorem AleL.nil : AleL [] [] := ⟨rfl, fun j d d' h => by simp at h⟩
theorem AleL.cons {a b : AV} {l m : List AV} (h : Ale a b) (k : AleL l m) : AleL (a :: l) (b :: m) := ⟨by simp [k.1], fun j d d' h1 h2 => by
  match j, h1, h2 with
  | 0, h1, h2 => obtain rfl := Option.some.inj h1; obtain rfl := Option.some.inj h2; exact h
  | j + 1, h1, h2 => exact k.2 j d d' (by simpa using h1) (by simpa using h2)⟩
theorem Ale.agg {l m : List AV} (h : AleL l m) : Ale (.agg l) (.agg m) := fun c u hv => by
  cases hv with
  | agg _ us h1 k1 =>
    refine .agg _ us (h1.trans h.1) (fun i y hy => ?_)
    obtain ⟨x, hx⟩ := get_of_len h.1 hy
    exact h.2 i x y hx hy c _ (k1 i x hx)
theorem pure_le {P : Program} {f : FuncId} {args mid : List AV} {v : AV} (hp : Pure P f args v) (h : AleL mid args) : Pure P f mid v := fun W X us hX hG hus hargs =>
  hp W X us hX hG (hus.trans h.1) (fun i y hy => by
    obtain ⟨x, hx⟩ := get_of_len h.1 hy
    exact h.2 i x y hx hy _ _ (hargs i x hx))
end Go.Proofs.YtinpnidokpjfhaaGreatDoor.AM
namespace Go.Proofs.YtinpnidokpjfhaaGreatDoor.AM
open Go.RowKit Go.WideShapes
set_option linter.unusedVariables false
set_option linter.unusedSimpArgs false
def RowD (w : World) (r : List Dat) (cs : List Value) : Prop := cs.length = r.length ∧ ∀ (j : Nat) d, r[j]? = some d → (cs.getD j undef).oneCell' = true ∧ DR w (fun _ => False) d (cs.getD j undef)
theorem RowD.one {w : World} {d : Dat} {u : Value} (h1 : u.oneCell' = true) (h : DR w (fun _ => False) d u) : RowD w [d] [u] := ⟨rfl, fun j d' hj => by
  match j, hj with
  | 0, hj => obtain rfl := Option.some.inj hj; exact ⟨h1, h⟩⟩
theorem RowD.append {w : World} {r r' : List Dat} {cs cs' : List Value} (h : RowD w r cs) (k : RowD w r' cs') : RowD w (r ++ r') (cs ++ cs') := ⟨by simp [h.1, k.1], fun j d hj => by
  by_cases hlt : j < r.length
  · rw [List.getElem?_append_left hlt] at hj
    rw [List.getD_eq_getElem?_getD, List.getElem?_append_left (by rw [h.1]; exact hlt), ← List.getD_eq_getElem?_getD]
    exact h.2 j d hj
  · rw [List.getElem?_append_right (by omega)] at hj
    rw [List.getD_eq_getElem?_getD, List.getElem?_append_right (by rw [h.1]; omega), ← List.getD_eq_getElem?_getD, h.1]
    exact k.2 _ d hj⟩
structure OpensD (P : Program) (t : TypeId) {α : Type} (sz : Nat) (en : α → List Dat) (B : α → Prop) : Prop where
  cells : P.cellsOf t = sz
  len : ∀ y, (en y).length = sz
  get : ∀ {H : Type} {enc : TypeId × Value → H} {w : World} {base : Nat} {spare : Nat → Bool} {held : Bool} {fuel : Nat} {cs : List Value} {x : DataW H × List MemPlace},
    DataW.trod enc P w base spare held fuel t cs = some x → (∀ n ∈ x.1.weights P t, n ≤ reachBytes) → ∃ y : α, RowD w (en y) cs ∧ B y
section
variable {P : Program} {t e : TypeId} {α β γ : Type}
theorem opens_int {k : IntKind} (ht : P.underlying t = some (.int k)) (hs : P.cellsOf t = 1) : OpensD P t 1 (fun n => [.lit (.int k n)]) (fun n => (Lit.int k n).wf = true) where
  cells := hs
  len := fun _ => rfl
  get := by
    intro H enc w base spare held fuel cs x h _
    obtain ⟨n, rfl, _, hw⟩ := DataW.trod_int ht h
    exact ⟨n, .one rfl (.lit _), hw⟩
theorem opens_bool (ht : P.underlying t = some .bool) (hs : P.cellsOf t = 1) : OpensD P t 1 (fun b => [.lit (.bool b)]) (fun _ => True) where
  cells := hs
  len := fun _ => rfl
  get := by
    intro H enc w base spare held fuel cs x h _
    obtain ⟨b, rfl, _⟩ := DataW.trod_bool ht h
    exact ⟨b, .one rfl (.lit _), trivial⟩
theorem opens_string (ht : P.underlying t = some .string) (hs : P.cellsOf t = 1) : OpensD P t 1 (fun s => [.lit (.string s)]) (fun s => s.size ≤ 140737488351232) where
  cells := hs
  len := fun _ => rfl
  get := by
    intro H enc w base spare held fuel cs x h hw
    obtain ⟨s, rfl, rfl, _⟩ := DataW.trod_string ht h
    refine ⟨s, .one rfl (.lit _), ?_⟩
    have := hw s.data.toList.length (by simp [DataW.weights])
    have h2 : reachBytes = 140737488351232 := rfl
    rw [h2, Array.length_toList] at this
    exact this
theorem opens_float (ht : P.underlying t = some (.float .f64)) (hs : P.cellsOf t = 1) : OpensD P t 1 (fun b => [.lit (.float .f64 b)]) (fun b => b < 18446744073709551616) where
  cells := hs
  len := fun _ => rfl
  get := by
    intro H enc w base spare held fuel cs x h _
    cases fuel with
    | zero => simp [DataW.trod] at h
    | succ n =>
      unfold DataW.trod at h
      rw [ht] at h
      split at h <;> simp_all
      rename_i k b h1 k'
      obtain ⟨⟨h3, h4⟩, _⟩ := h
      subst h3
      subst k'
      exact ⟨b, .one rfl (.lit _), by simpa [Lit.wf] using h4⟩
theorem list_of (n : Nat) (Q : Nat → α → Prop) (h : ∀ i, i < n → ∃ y, Q i y) : ∃ ys : List α, ys.length = n ∧ ∀ i y, ys[i]? = some y → Q i y := by
  induction n with
  | zero => exact ⟨[], rfl, fun i y hy => by simp at hy⟩
  | succ n ih =>
    obtain ⟨ys, hl, hq⟩ := ih (fun i hi => h i (by omega))
    obtain ⟨y, hy⟩ := h n (by omega)
    refine ⟨ys ++ [y], by simp [hl], fun i z hz => ?_⟩
    by_cases hi : i < n
    · rw [List.getElem?_append_left (by omega)] at hz
      exact hq i z hz
    · rw [List.getElem?_append_right (by omega)] at hz
      have : i - ys.length = 0 := by
        rcases Nat.eq_zero_or_pos (i - ys.length) with h0 | h0
        · exact h0
        · rw [List.getElem?_eq_none (by simp; omega)] at hz
          cases hz
      rw [this] at hz
      have : i = n := by omega
      subst this
      simp at hz
      subst hz
      exact hy
theorem mem_weightsAll {H : Type} : ∀ {ds : List (DataW H)} {d : DataW H}, d ∈ ds → ∀ n ∈ d.weights P e, n ∈ DataW.weightsAll P e ds
  | d0 :: ds, d, hd, n, hn => by
    simp only [DataW.weightsAll, List.mem_append]
    rcases List.mem_cons.1 hd with rfl | hd
    · exact .inl hn
    · exact .inr (mem_weightsAll hd n hn)
theorem cells?_at {w : World} {base : Nat} {a : Addr} {n : Nat} {cs : List Value} (h : w.cells? base a n = some cs) : cs.length = n ∧ ∀ i u, cs[i]? = some u → w.cell? (a.add i) = some u := by
  obtain ⟨_, h1, h2⟩ := World.cells?_some h
  refine ⟨h1, fun i u hu => ?_⟩
  have hi : i < cs.length := (List.getElem?_eq_some_iff.1 hu).1
  rw [h2 i (by omega)]
  exact hu
theorem opens_slice {sz : Nat} {en : α → List Dat} {B : α → Prop} (ht : P.underlying t = some (.slice e)) (hs : P.cellsOf t = 1) (he : OpensD P e sz en B) (hp : 0 < sz) :
    OpensD P t 1 (fun xs : List α => [.lst sz (xs.map en)]) (fun xs => xs.length * P.bytesOf e ≤ 140737488351232 ∧ xs.length ≤ maxLen ∧ ∀ x ∈ xs, B x) where
  cells := hs
  len := fun _ => rfl
  get := by
    intro H enc w base spare held fuel cs x h hw
    rcases DataW.trod_slice ht h with ⟨rfl, _⟩ | ⟨a, len, cap, elems, rest, n, _, rfl, rfl, hb, hl, hm, hlen, hel, _, _⟩
    · exact ⟨[], .one rfl (.lst sz [] none 0 0 (fun _ _ => undef) 0 0 rfl (Nat.le_refl _) (by simp) (.inl rfl) (by simp) (by simp) (by simp)), by simp, by simp, by simp⟩
    · have hw0 : ∀ n ∈ (DataW.slice (elems.map (·.1)) (rest.map (·.1))).weights P t, n ≤ reachBytes := hw
      simp only [DataW.weights, ht] at hw0
      have hex : ∀ i, i < len → ∃ y, (∃ c, RowD w (en y) c ∧ ∀ j u, c[j]? = some u → w.cell? (a.add (i * sz + j)) = some u) ∧ B y := by
        intro i hi
        have h1 := hel i hi
        rw [List.getElem?_eq_getElem (by omega)] at h1
        obtain ⟨cs', hc, hx⟩ := Option.bind_eq_some_iff.1 h1
        obtain ⟨y, hk, hB⟩ := he.get hx (fun m hm' => hw0 m (List.mem_cons_of_mem _ (List.mem_append_left _ (mem_weightsAll (d := (elems[i]'(by omega)).1) (List.mem_map.2 ⟨_, List.getElem_mem _, rfl⟩) m hm'))))
        obtain ⟨hcl, hcc⟩ := cells?_at hc
        rw [he.cells] at hcl hcc
        refine ⟨y, ⟨cs', hk, fun j u hu => ?_⟩, hB⟩
        rw [← Deep.add_add]
        exact hcc j u hu
      obtain ⟨ys, hyl, hyq⟩ := list_of len _ hex
      subst hyl
      have hcell : ∀ (i : Nat) y, ys[i]? = some y → ∀ (j : Nat) d, (en y)[j]? = some d → ∃ u, w.cell? (a.add (i * sz + j)) = some u ∧ u.oneCell' = true ∧ DR w (fun _ => False) d u := fun i y hi j d hj => by
        obtain ⟨⟨c, ⟨hcl, hcd⟩, hcc⟩, _⟩ := hyq i y hi
        have hjl : j < c.length := by rw [hcl]; exact (List.getElem?_eq_some_iff.1 hj).1
        have hg := List.getElem?_eq_getElem hjl
        obtain ⟨k1, k2⟩ := hcd j d hj
        rw [List.getD_eq_getElem?_getD, hg, Option.getD_some] at k1 k2
        exact ⟨_, hcc j _ hg, k1, k2⟩
      have hspot : ys ≠ [] → a = ⟨a.block, a.off, none⟩ ∧ a.block < w.heap.size := fun hne => by
        match ys, hne, hcell with
        | y :: ys, _, hcell =>
          have hl1 : 0 < (en y).length := by rw [he.len]; exact hp
          obtain ⟨u, hu, _⟩ := hcell 0 y rfl 0 _ (List.getElem?_eq_getElem hl1)
          have h0 : a.add (0 * sz + 0) = a := by simp [Addr.add]
          rw [h0] at hu
          have hsp := World.cell?_spot hu
          obtain ⟨b, o, s⟩ := a
          simp only at hsp
          subst hsp
          refine ⟨rfl, ?_⟩
          unfold World.cell? at hu
          split at hu
          · rename_i hh; exact (Array.getElem?_eq_some_iff.1 hh).1
          · cases hu
      have row : ∀ (i : Nat) r, (ys.map en)[i]? = some r → ∃ y, ys[i]? = some y ∧ r = en y := fun i r hr => by
        rw [List.getElem?_map] at hr
        cases hy : ys[i]? with
        | none => rw [hy] at hr; cases hr
        | some y => rw [hy] at hr; exact ⟨y, rfl, (Option.some.inj hr).symm⟩
      have hat : ∀ (i : Nat) r, (ys.map en)[i]? = some r → ∀ (j : Nat) d, r[j]? = some d → w.cell? ⟨a.block, a.off + i * sz + j, none⟩ = some ((w.cell? (a.add (i * sz + j))).getD undef) ∧ ((w.cell? (a.add (i * sz + j))).getD undef).oneCell' = true ∧ DR w (fun _ => False) d ((w.cell? (a.add (i * sz + j))).getD undef) := fun i r hr j d hj => by
        obtain ⟨y, hy, rfl⟩ := row i r hr
        obtain ⟨u, q1, q2, q3⟩ := hcell i y hy j d hj
        obtain ⟨s1, _⟩ := hspot (fun hn => by rw [hn] at hy; simp at hy)
        have ha : a.add (i * sz + j) = ⟨a.block, a.off + i * sz + j, none⟩ := by rw [s1, add_at, Nat.add_assoc]
        rw [ha] at q1 ⊢
        rw [q1]
        exact ⟨rfl, q2, q3⟩
      refine ⟨ys, .one rfl (.lst sz (ys.map en) (some a) ys.length cap (fun i j => (w.cell? (a.add (i * sz + j))).getD undef) a.block a.off (by simp) hl (fun r hr => ?_) ?_ (fun i r hr j d hj => (hat i r hr j d hj).1) (fun i r hr j d hj => (hat i r hr j d hj).2.1) (fun i r hr j d hj => (hat i r hr j d hj).2.2)), ?_, ?_, ?_⟩
      · obtain ⟨y, _, rfl⟩ := List.mem_map.1 hr
        exact he.len y
      · by_cases hne : ys = []
        · exact .inl (by rw [hne]; rfl)
        · obtain ⟨s1, s2⟩ := hspot hne
          exact .inr ⟨by rw [← s1], fun h => h, s2⟩
      · have h2 := hw0 _ List.mem_cons_self
        have h3 : reachBytes = 140737488351232 := rfl
        rw [h3, List.length_map, hlen] at h2
        exact Nat.le_trans (Nat.mul_le_mul_right _ (Nat.le_add_right _ _)) h2
      · exact Nat.le_trans hl hm
      · intro x hx
        obtain ⟨i, hi⟩ := List.mem_iff_getElem?.1 hx
        exact (hyq i x hi).2
structure OpensF (P : Program) (fs : List Field) (off : Nat) {α : Type} (sz : Nat) (en : α → List Dat) (B : α → Prop) : Prop where
  len : ∀ y, (en y).length = sz
  get : ∀ {H : Type} {enc : TypeId × Value → H} {w : World} {base : Nat} {spare : Nat → Bool} {held : Bool} {fuel : Nat} {cs : List Value} {xs : List (DataW H × List MemPlace)},
    xs.length = fs.length → (∀ (i : Nat) (f : Field), fs[i]? = some f → DataW.trod enc P w base spare held fuel f.type ((cs.drop f.offset).take (P.cellsOf f.type)) = xs[i]?) →
    (∀ n ∈ DataW.weightsEach P (fs.map (·.type)) (xs.map (·.1)), n ≤ reachBytes) → ∃ y : α, RowD w (en y) ((cs.drop off).take sz) ∧ B y
theorem opensF_one {f : Field} {off sz : Nat} {en : α → List Dat} {B : α → Prop} (ho : f.offset = off) (hf : OpensD P f.type sz en B) : OpensF P [f] off sz en B where
  len := hf.len
  get := by
    intro H enc w base spare held fuel cs xs hl h hw
    match xs, hl with
    | [x], _ =>
      have h0 := h 0 f rfl
      simp only [List.getElem?_cons_zero] at h0
      obtain ⟨y, hk, hB⟩ := hf.get h0 (fun n hn => hw n (by simp [DataW.weightsEach, hn]))
      rw [ho, hf.cells] at hk
      exact ⟨y, hk, hB⟩
theorem opensF_cons {f : Field} {fs : List Field} {off off' sz sz' : Nat} {en : α → List Dat} {en' : β → List Dat} {B : α → Prop} {B' : β → Prop} (ho : f.offset = off) (hf : OpensD P f.type sz en B) (hn : off' = off + sz) (hr : OpensF P fs off' sz' en' B') :
    OpensF P (f :: fs) off (sz + sz') (fun x : α × β => en x.1 ++ en' x.2) (fun x => B x.1 ∧ B' x.2) where
  len := fun y => by rw [List.length_append, hf.len, hr.len]
  get := by
    intro H enc w base spare held fuel cs xs hl h hw
    match xs, hl with
    | x :: xs, hl =>
      have h0 := h 0 f rfl
      simp only [List.getElem?_cons_zero] at h0
      obtain ⟨y, hk, hB⟩ := hf.get h0 (fun n hn => hw n (by simp [DataW.weightsEach, hn]))
      obtain ⟨z, hk', hB'⟩ := hr.get (xs := xs) (by simpa using hl) (fun i g hg => by simpa using h (i + 1) g (by simpa using hg)) (fun n hn => hw n (by
        simp only [List.map_cons, DataW.weightsEach, List.mem_append]
        exact .inr hn))
      rw [ho, hf.cells] at hk
      refine ⟨(y, z), ?_, hB, hB'⟩
      subst hn
      have := hk.append hk'
      rw [List.take_add, List.drop_drop]
      exact this
theorem opens_struct {fs : Array Field} {sz : Nat} {en : α → List Dat} {B : α → Prop} {en' : β → List Dat} {B' : β → Prop} (g : α → β) (he : ∀ a, en' (g a) = en a) (hB : ∀ a, B a → B' (g a)) (hl : ∀ y, (en' y).length = sz) (ht : P.underlying t = some (.struct fs)) (hs : P.cellsOf t = sz) (hf : OpensF P fs.toList 0 sz en B) :
    OpensD P t sz en' B' where
  cells := hs
  len := hl
  get := by
    intro H enc w base spare held fuel cs x h hw
    obtain ⟨xs, n, _, rfl, hl, hlen, hx⟩ := DataW.trod_struct ht h
    have hw0 : ∀ n ∈ (DataW.agg (xs.map (·.1))).weights P t, n ≤ reachBytes := hw
    simp only [DataW.weights, ht] at hw0
    obtain ⟨y, hk, hyB⟩ := hf.get (cs := cs) (by simpa using hlen) (fun i f hf' => hx i f (by simpa using hf')) hw0
    refine ⟨g y, ?_, hB y hyB⟩
    rw [he]
    rw [List.drop_zero, List.take_of_length_le (by rw [hl, hs]; exact Nat.le_refl _)] at hk
    exact hk
end
theorem VR.of_row {w : World} {r : List Dat} {cs : Array Value} (h : RowD w r cs.toList) : VR (bare w (fun _ => False)) (.agg (r.map .dat)) (.agg cs) := .agg _ cs (by simpa using h.1) (fun i x hx => by
  rw [List.getElem?_map] at hx
  cases hr : r[i]? with
  | none => rw [hr] at hx; cases hx
  | some d =>
    rw [hr] at hx
    obtain rfl := Option.some.inj hx
    have := (h.2 i d hr).2
    rw [List.getD_eq_getElem?_getD, Array.getElem?_toList, ← Array.getD_eq_getD_getElem?] at this
    exact .dat _ _ this)
def VRs (c : Cx) (l : List AV) (us : List Value) : Prop := ∀ (i : Nat) x, l[i]? = some x → VR c x (us.toArray.getD i undef)
theorem VRs.nil {c : Cx} : VRs c [] [] := fun i x h => by simp at h
theorem VRs.cons {c : Cx} {x : AV} {u : Value} {l : List AV} {us : List Value} (h : VR c x u) (k : VRs c l us) : VRs c (x :: l) (u :: us) := fun i y hy => by
  match i, hy with
  | 0, hy => obtain rfl := Option.some.inj hy; simpa [Array.getD_eq_getD_getElem?] using h
  | i + 1, hy => have := k i y (by simpa using hy); simpa [Array.getD_eq_getD_getElem?] using this
end Go.Proofs.YtinpnidokpjfhaaGreatDoor.AM
