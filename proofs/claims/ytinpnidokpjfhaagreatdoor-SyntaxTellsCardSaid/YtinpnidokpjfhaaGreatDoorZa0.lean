/- Part 0 of the proof: words, contracts, plain laws. Laid by a program of this session (wip/tool/shake.py): what is needed of own and printed texts, in order. -/
import Derived.Calls
import Derived.Lib.ItoaNum
import Derived.Orders
import Derived.Tactics
import Derived.Below
import Derived.Laws.Rows
import Derived.Laws.World
import Derived.Laws.CopyRow
import Derived.Lib.FrozenHead
import Derived.RegionTactic
namespace Go.Proofs.YtinpnidokpjfhaaGreatDoor.AM
open Go
def G0 (_g : Nat) : Option (Array Value → Prop) :=
  if _g = 1 then some (fun o => o = (Lib.pow10Tab.map fun z => Value.int .u64 z).toArray) else
  none
end Go.Proofs.YtinpnidokpjfhaaGreatDoor.AM
namespace Go.Proofs.YtinpnidokpjfhaaGreatDoor.AM
open Go.RowKit
set_option linter.unusedVariables false
set_option linter.unusedSimpArgs false
inductive Dat where
  | lit (v : Value)
  | lst (sz : Nat) (es : List (List Dat))
inductive AV where
  | top
  | dat (d : Dat)
  | fp (cs : List Dat)
  | ptr (b e i off : Nat)
  | slc (b e lo n : Nat)
  | mp (b e : Nat)
  | fn (f : Fn) (first captured : List AV)
  | agg (cs : List AV)
  | tup (vs : List AV)
  | ifc (t : TypeId) (v : AV)
abbrev AV.lit (v : Value) : AV := .dat (.lit v)
structure Loc where
  rb : Option Nat
  base : Nat
  size : Nat
  ep : Nat
  sz : Nat
structure Cx where
  W : World
  X : Nat → Prop
  ι : Nat → Option Loc
  U : Nat → Prop
inductive DR (W : World) (X : Nat → Prop) : Dat → Value → Prop
  | lit (v : Value) : DR W X (.lit v) v
  | lst (sz : Nat) (es : List (List Dat)) (A : Option Addr) (n cap : Nat) (f : Nat → Nat → Value) (k o : Nat) (hn : n = es.length) (hc : n ≤ cap) (hr : ∀ r ∈ es, r.length = sz)
      (hA : es = [] ∨ (A = some ⟨k, o, none⟩ ∧ ¬ X k ∧ k < W.heap.size))
      (hf : ∀ (i : Nat) r, es[i]? = some r → ∀ (j : Nat) v, r[j]? = some v → W.cell? ⟨k, o + i * sz + j, none⟩ = some (f i j))
      (h1 : ∀ (i : Nat) r, es[i]? = some r → ∀ (j : Nat) v, r[j]? = some v → (f i j).oneCell' = true)
      (hv : ∀ (i : Nat) r, es[i]? = some r → ∀ (j : Nat) v, r[j]? = some v → DR W X v (f i j)) : DR W X (.lst sz es) (.slice A n cap)
inductive VR (c : Cx) : AV → Value → Prop
  | top (u : Value) : VR c .top u
  | dat (d : Dat) (u : Value) (h : DR c.W c.X d u) : VR c (.dat d) u
  | fp (cs : List Dat) (k o : Nat) (f : Nat → Value) (hk : ¬ c.X k) (hs : k < c.W.heap.size) (hf : ∀ (j : Nat) v, cs[j]? = some v → c.W.cell? ⟨k, o + j, none⟩ = some (f j))
      (h1 : ∀ (j : Nat) v, cs[j]? = some v → (f j).oneCell' = true) (hv : ∀ (j : Nat) v, cs[j]? = some v → DR c.W c.X v (f j)) : VR c (.fp cs) (.pointer (some ⟨k, o, none⟩))
  | ptr (b e i off : Nat) (A : Option Addr) (hu : c.U e) (h : ∀ L, c.ι b = some L → L.ep = e → ∃ r, L.rb = some r ∧ A = some ⟨r, L.base + i * L.sz + off, none⟩) : VR c (.ptr b e i off) (.pointer A)
  | slc (b e lo n : Nat) (A : Option Addr) (cap : Nat) (hu : c.U e) (hn : n ≤ cap)
      (h : ∀ L, c.ι b = some L → L.ep = e → (n = 0 ∧ cap = 0) ∨ (∃ r, L.rb = some r ∧ A = some ⟨r, L.base + lo * L.sz, none⟩ ∧ L.base + (lo + cap) * L.sz ≤ L.size)) : VR c (.slc b e lo n) (.slice A n cap)
  | mp (b e : Nat) (R : Option Nat) (hu : c.U e) (h : ∀ L, c.ι b = some L → L.ep = e → ∃ r, L.rb = some r ∧ R = some r) : VR c (.mp b e) (.map R)
  | fn (f : Fn) (first captured : List AV) (us vs : Array Value) (h1 : us.size = first.length) (h2 : vs.size = captured.length)
      (k1 : ∀ (i : Nat) x, first[i]? = some x → VR c x (us.getD i undef)) (k2 : ∀ (i : Nat) x, captured[i]? = some x → VR c x (vs.getD i undef)) : VR c (.fn f first captured) (.func f us vs)
  | agg (cs : List AV) (us : Array Value) (h1 : us.size = cs.length) (k1 : ∀ (i : Nat) x, cs[i]? = some x → VR c x (us.getD i undef)) : VR c (.agg cs) (.agg us)
  | tup (cs : List AV) (us : Array Value) (h1 : us.size = cs.length) (k1 : ∀ (i : Nat) x, cs[i]? = some x → VR c x (us.getD i undef)) : VR c (.tup cs) (.tuple us)
  | ifc (t : TypeId) (x : AV) (u : Value) (h : VR c x u) : VR c (.ifc t x) (.iface t u)
def HasG (W : World) (g : Nat) (q : Array Value → Prop) : Prop := ∃ o el fz, W.heap[g]? = some (.cells o el fz) ∧ q o
structure Cx.Ok (c : Cx) : Prop where
  inj : ∀ b b' L L' r, c.ι b = some L → c.ι b' = some L' → L.rb = some r → L'.rb = some r → b = b'
  sub : ∀ b L r, c.ι b = some L → L.rb = some r → c.X r
  bnd : ∀ k, c.X k → k < c.W.heap.size
  used : ∀ b L, c.ι b = some L → c.U L.ep
  glob : ∀ g o, G0 g = some o → HasG c.W g o ∧ ¬ c.X g
def Cx.off (c : Cx) (F : Nat → Prop) (k : Nat) : Prop := ∀ b L, F b → c.ι b = some L → L.rb ≠ some k
structure Ev (F N : Nat → Prop) (c c' : Cx) : Prop where
  os : c'.W.os = c.W.os
  tape : c'.W.tape = c.W.tape
  output : c'.W.output = c.W.output
  size : c.W.heap.size ≤ c'.W.heap.size
  keep : ∀ k, k < c.W.heap.size → c.off F k → c'.W.heap[k]? = c.W.heap[k]?
  x1 : ∀ k, c'.X k → c.X k ∨ c.W.heap.size ≤ k
  x2 : ∀ k, c.X k → c.off F k → c'.X k
  loc : ∀ b L', c'.ι b = some L' → c.U L'.ep → c.ι b = some L'
  far : ∀ b, ¬ F b → c'.ι b = c.ι b
  blk : ∀ b L' r, F b → c'.ι b = some L' → L'.rb = some r → (∃ b0 L0, F b0 ∧ c.ι b0 = some L0 ∧ L0.rb = some r) ∨ c.W.heap.size ≤ r
  u1 : ∀ e, c.U e → c'.U e
  u2 : ∀ e, c'.U e → c.U e ∨ N e
theorem Ev.refl (F N : Nat → Prop) (c : Cx) : Ev F N c c where
  os := rfl
  tape := rfl
  output := rfl
  size := Nat.le_refl _
  keep := fun _ _ _ => rfl
  x1 := fun _ h => .inl h
  x2 := fun _ h _ => h
  loc := fun _ _ h _ => h
  far := fun _ _ => rfl
  blk := fun b L' r hF h hr => .inl ⟨b, L', hF, h, hr⟩
  u1 := fun _ h => h
  u2 := fun _ h => .inl h
theorem cell_keep {w w' : World} {k o : Nat} (h : w'.heap[k]? = w.heap[k]?) : w'.cell? ⟨k, o, none⟩ = w.cell? ⟨k, o, none⟩ := World.cell?_of_block (w := w) h
theorem DR.mono {W W' : World} {X X' : Nat → Prop} (hs : W.heap.size ≤ W'.heap.size) (h : ∀ k, ¬ X k → k < W.heap.size → W'.heap[k]? = W.heap[k]? ∧ ¬ X' k) {d : Dat} {u : Value} (hd : DR W X d u) : DR W' X' d u := by
  induction hd with
  | lit v => exact .lit v
  | lst sz es A n cap f k o hn hc hr hA hf h1 hv ih =>
    rcases hA with hA | ⟨hA, hk, hk2⟩
    · subst hA
      exact .lst sz [] A n cap f k o hn hc hr (.inl rfl) (by simp) (by simp) (by simp)
    · refine .lst sz es A n cap f k o hn hc hr (.inr ⟨hA, (h k hk hk2).2, Nat.lt_of_lt_of_le hk2 hs⟩) (fun i r hi j v hj => ?_) h1 ih
      rw [cell_keep (h k hk hk2).1]
      exact hf i r hi j v hj
theorem VR.mono' {c c' : Cx} (hs : c.W.heap.size ≤ c'.W.heap.size) (h : ∀ k, ¬ c.X k → k < c.W.heap.size → c'.W.heap[k]? = c.W.heap[k]? ∧ ¬ c'.X k)
    (hl : ∀ b L', c'.ι b = some L' → c.U L'.ep → c.ι b = some L') (hu : ∀ e, c.U e → c'.U e) {v : AV} {u : Value} (hv : VR c v u) : VR c' v u := by
  induction hv with
  | top u => exact .top u
  | dat d u hd => exact .dat d u (DR.mono hs h hd)
  | fp cs k o f hk hs2 hf h1 hv => exact .fp cs k o f (h k hk hs2).2 (Nat.lt_of_lt_of_le hs2 hs) (fun j v hj => by rw [cell_keep (h k hk hs2).1]; exact hf j v hj) h1 (fun j v hj => DR.mono hs h (hv j v hj))
  | ptr b e i off u hU hp => exact .ptr b e i off u (hu e hU) (fun L hL he => hp L (hl b L hL (by rw [he]; exact hU)) he)
  | slc b e lo n A cap hU hn hp => exact .slc b e lo n A cap (hu e hU) hn (fun L hL he => hp L (hl b L hL (by rw [he]; exact hU)) he)
  | mp b e u hU hp => exact .mp b e u (hu e hU) (fun L hL he => hp L (hl b L hL (by rw [he]; exact hU)) he)
  | fn f first captured us vs h1 h2 k1 k2 i1 i2 => exact .fn f first captured us vs h1 h2 i1 i2
  | agg cs us h1 k1 i1 => exact .agg cs us h1 i1
  | tup cs us h1 k1 i1 => exact .tup cs us h1 i1
  | ifc t x u hx ih => exact .ifc t x u ih
theorem Ev.frz {F N : Nat → Prop} {c c' : Cx} (ok : c.Ok) (h : Ev F N c c') : ∀ k, ¬ c.X k → k < c.W.heap.size → c'.W.heap[k]? = c.W.heap[k]? ∧ ¬ c'.X k := fun k hk hs =>
  ⟨h.keep k hs (fun b L _ hL hr => hk (ok.sub b L k hL hr)), fun hx => by
    rcases h.x1 k hx with h1 | h1
    · exact hk h1
    · omega⟩
theorem lt_of_get {w : World} {g : Nat} {o : Obj} (h : w.heap[g]? = some o) : g < w.heap.size := (Array.getElem?_eq_some_iff.1 h).1
theorem glob_kept {c c' : Cx} (ok : c.Ok) (h : ∀ k, ¬ c.X k → k < c.W.heap.size → c'.W.heap[k]? = c.W.heap[k]? ∧ ¬ c'.X k) : ∀ g o, G0 g = some o → HasG c'.W g o ∧ ¬ c'.X g := fun g o hg => by
  obtain ⟨h1, h2⟩ := ok.glob g o hg
  obtain ⟨o', el, fz, h1, hq⟩ := h1
  obtain ⟨h3, h4⟩ := h g h2 (lt_of_get h1)
  exact ⟨⟨o', el, fz, h3.trans h1, hq⟩, h4⟩
theorem VR.mono {F N : Nat → Prop} {c c' : Cx} (ok : c.Ok) (h : Ev F N c c') {v : AV} {u : Value} (hv : VR c v u) : VR c' v u :=
  hv.mono' h.size (h.frz ok) h.loc h.u1
theorem Ev.trans {F N F' N' : Nat → Prop} {c c' c'' : Cx} (ok : c.Ok) (h : Ev F N c c') (k : Ev F' N' c' c'') : Ev (fun b => F b ∨ F' b) (fun e => N e ∨ N' e) c c'' := by
  have offs : ∀ x, x < c.W.heap.size → c.off (fun b => F b ∨ F' b) x → c.off F x ∧ c'.off F' x := fun x hx ho => by
    refine ⟨fun b L hF => ho b L (.inl hF), fun b L hF hL hr => ?_⟩
    by_cases hFb : F b
    · rcases h.blk b L x hFb hL hr with ⟨b0, L0, hF0, h0, hr0⟩ | h0
      · exact ho b0 L0 (.inl hF0) h0 hr0
      · omega
    · rw [h.far b hFb] at hL
      exact ho b L (.inr hF) hL hr
  exact {
    os := k.os.trans h.os
    tape := k.tape.trans h.tape
    output := k.output.trans h.output
    size := Nat.le_trans h.size k.size
    keep := fun x hx ho => (k.keep x (Nat.lt_of_lt_of_le hx h.size) (offs x hx ho).2).trans (h.keep x hx (offs x hx ho).1)
    x1 := fun x hx => by
      rcases k.x1 x hx with h1 | h1
      · exact h.x1 x h1
      · exact .inr (Nat.le_trans h.size h1)
    x2 := fun x hx ho => k.x2 x (h.x2 x hx (offs x (ok.bnd x hx) ho).1) (offs x (ok.bnd x hx) ho).2
    loc := fun b L hL hU => h.loc b L (k.loc b L hL (h.u1 _ hU)) hU
    far := fun b hb => (k.far b (fun h' => hb (.inr h'))).trans (h.far b (fun h' => hb (.inl h')))
    blk := fun b L r hF hL hr => by
      have base : ∀ b1 L1, (F b1 ∨ F' b1) → c'.ι b1 = some L1 → L1.rb = some r → (∃ b0 L0, (F b0 ∨ F' b0) ∧ c.ι b0 = some L0 ∧ L0.rb = some r) ∨ c.W.heap.size ≤ r := fun b1 L1 hFb hL1 hr1 => by
        by_cases hb : F b1
        · rcases h.blk b1 L1 r hb hL1 hr1 with ⟨b0, L0, hF0, h0, hr0⟩ | h0
          · exact .inl ⟨b0, L0, .inl hF0, h0, hr0⟩
          · exact .inr h0
        · rw [h.far b1 hb] at hL1
          exact .inl ⟨b1, L1, hFb, hL1, hr1⟩
      by_cases hb : F' b
      · rcases k.blk b L r hb hL hr with ⟨b0, L0, hF0, h0, hr0⟩ | h0
        · exact base b0 L0 (.inr hF0) h0 hr0
        · exact .inr (Nat.le_trans h.size h0)
      · rw [k.far b hb] at hL
        exact base b L hF hL hr
    u1 := fun e he => k.u1 e (h.u1 e he)
    u2 := fun e he => by
      rcases k.u2 e he with h1 | h1
      · rcases h.u2 e h1 with h2 | h2
        · exact .inl h2
        · exact .inr (.inl h2)
      · exact .inr (.inr h1) }
theorem Ev.wide {F N F' N' : Nat → Prop} {c c' : Cx} (h : Ev F N c c') (hF : ∀ b, F b → F' b) (hN : ∀ e, N e → N' e) : Ev F' N' c c' where
  os := h.os
  tape := h.tape
  output := h.output
  size := h.size
  keep := fun k hk ho => h.keep k hk (fun b L hb => ho b L (hF b hb))
  x1 := h.x1
  x2 := fun k hk ho => h.x2 k hk (fun b L hb => ho b L (hF b hb))
  loc := h.loc
  far := fun b hb => h.far b (fun h' => hb (hF b h'))
  blk := fun b L r hb hL hr => by
    by_cases hx : F b
    · rcases h.blk b L r hx hL hr with ⟨b0, L0, hF0, h0, hr0⟩ | h0
      · exact .inl ⟨b0, L0, hF b0 hF0, h0, hr0⟩
      · exact .inr h0
    · rw [h.far b hx] at hL
      exact .inl ⟨b, L, hb, hL, hr⟩
  u1 := h.u1
  u2 := fun e he => (h.u2 e he).imp id (hN e)
inductive Blk where
  | box (ep : Nat) (cs : List AV)
  | arr (ep sz : Nat) (ds : List (List Dat))
  | maps (ep : Nat) (kv : List (Value × AV))
  | iter (ep : Nat) (o : Obj)
def hget : List (Nat × Blk) → Nat → Option Blk
  | [], _ => none
  | (k, x) :: t, b => if k = b then some x else hget t b
def hset : List (Nat × Blk) → Nat → Blk → List (Nat × Blk)
  | [], b, y => [(b, y)]
  | (k, x) :: t, b, y => if k = b then (k, y) :: t else (k, x) :: hset t b y
def hdel : List (Nat × Blk) → Nat → List (Nat × Blk)
  | [], _ => []
  | (k, x) :: t, b => if k = b then hdel t b else (k, x) :: hdel t b
theorem hget_hset (h : List (Nat × Blk)) (b : Nat) (y : Blk) (k : Nat) : hget (hset h b y) k = if b = k then some y else hget h k := by
  induction h with
  | nil => simp [hset, hget]
  | cons p t ih =>
    obtain ⟨j, x⟩ := p
    simp only [hset]
    split
    · rename_i h1; subst h1; simp only [hget]; split <;> simp_all
    · rename_i h1
      simp only [hget, ih]
      by_cases h2 : j = k
      · subst h2; simp [Ne.symm h1]
      · simp [h2]
theorem hget_hdel (h : List (Nat × Blk)) (b k : Nat) : hget (hdel h b) k = if b = k then none else hget h k := by
  induction h with
  | nil => simp [hdel, hget]
  | cons p t ih =>
    obtain ⟨j, x⟩ := p
    simp only [hdel]
    split
    · rename_i h1; subst h1; rw [ih]; simp only [hget]; split <;> simp_all
    · rename_i h1
      simp only [hget, ih]
      by_cases h2 : j = k
      · subst h2; simp [Ne.symm h1]
      · simp [h2]
def aget : List (Nat × AV) → Nat → AV
  | [], _ => .top
  | (k, x) :: t, b => if k = b then x else aget t b
def CellsAt (c : Cx) (r base size : Nat) (vs : List AV) : Prop :=
  ∃ (cs : Array Value) (el : TypeId) (fz : Nat × Nat), c.W.heap[r]? = some (.cells cs el fz) ∧ cs.size = size ∧ (∀ k, k < size → ¬ (fz.1 ≤ k ∧ k < fz.2)) ∧ base + vs.length ≤ size ∧
    ∀ (j : Nat) v, vs[j]? = some v → ∃ u, cs[base + j]? = some u ∧ VR c v u ∧ u.oneCell' = true
def MapAt (c : Cx) (r : Nat) (kv : List (Value × AV)) : Prop :=
  ∃ (es : Array MapEntry) (clock : Nat), c.W.heap[r]? = some (.map es clock) ∧ es.size = kv.length ∧ ∀ (j : Nat) k v, kv[j]? = some (k, v) → ∃ e, es[j]? = some e ∧ e.key = k ∧ VR c v e.val
def BR (c : Cx) (b : Nat) : Blk → Prop
  | .box ep cs => ∃ L r, c.ι b = some L ∧ L.ep = ep ∧ L.rb = some r ∧ CellsAt c r L.base L.size cs
  | .arr ep sz ds => ∃ L, c.ι b = some L ∧ L.ep = ep ∧ L.sz = sz ∧ (∀ r ∈ ds, r.length = sz) ∧ (L.rb = none → ds = []) ∧ ∀ r, L.rb = some r → CellsAt c r L.base L.size (ds.flatten.map .dat)
  | .maps ep kv => ∃ L r, c.ι b = some L ∧ L.ep = ep ∧ L.rb = some r ∧ MapAt c r kv
  | .iter ep o => ∃ L r, c.ι b = some L ∧ L.ep = ep ∧ L.rb = some r ∧ L.base = 0 ∧ c.W.heap[r]? = some o
theorem CellsAt.mono {F N : Nat → Prop} {c c' : Cx} (ok : c.Ok) (h : Ev F N c c') {r base size : Nat} {vs : List AV} (hr : c.W.heap[r]? = c'.W.heap[r]?) (hc : CellsAt c r base size vs) : CellsAt c' r base size vs := by
  obtain ⟨cs, el, fz, h1, h2, h3, h4, h5⟩ := hc
  refine ⟨cs, el, fz, hr ▸ h1, h2, h3, h4, fun j v hj => ?_⟩
  obtain ⟨u, hu, hv, h1⟩ := h5 j v hj
  exact ⟨u, hu, hv.mono ok h, h1⟩
theorem Ev.hold {F N : Nat → Prop} {c c' : Cx} (ok : c.Ok) (h : Ev F N c c') {b r : Nat} {L : Loc} (hb : ¬ F b) (hL : c.ι b = some L) (hr : L.rb = some r) : c.W.heap[r]? = c'.W.heap[r]? := by
  refine (h.keep r (ok.bnd r (ok.sub b L r hL hr)) (fun b' L' hF hL' hr' => ?_)).symm
  have := ok.inj b b' L L' r hL hL' hr hr'
  subst this
  exact hb hF
theorem BR.mono {F N : Nat → Prop} {c c' : Cx} (ok : c.Ok) (h : Ev F N c c') {b : Nat} (hb : ¬ F b) {k : Blk} (hk : BR c b k) : BR c' b k := by
  cases k with
  | box ep cs =>
    obtain ⟨L, r, hL, he, hr, hc⟩ := hk
    exact ⟨L, r, by rw [h.far b hb]; exact hL, he, hr, hc.mono ok h (h.hold ok hb hL hr)⟩
  | arr ep sz ds =>
    obtain ⟨L, hL, he, hz, hl, hn, hc⟩ := hk
    exact ⟨L, by rw [h.far b hb]; exact hL, he, hz, hl, hn, fun r hr => (hc r hr).mono ok h (h.hold ok hb hL hr)⟩
  | maps ep kv =>
    obtain ⟨L, r, hL, he, hr, es, clock, h1, h2, h3⟩ := hk
    refine ⟨L, r, by rw [h.far b hb]; exact hL, he, hr, es, clock, (h.hold ok hb hL hr) ▸ h1, h2, fun j k v hj => ?_⟩
    obtain ⟨e, h4, h5, h6⟩ := h3 j k v hj
    exact ⟨e, h4, h5, h6.mono ok h⟩
  | iter ep o =>
    obtain ⟨L, r, hL, he, hr, h0, hc⟩ := hk
    exact ⟨L, r, by rw [h.far b hb]; exact hL, he, hr, h0, (h.hold ok hb hL hr) ▸ hc⟩
end Go.Proofs.YtinpnidokpjfhaaGreatDoor.AM
namespace Go.Proofs.YtinpnidokpjfhaaGreatDoor.AM
open Go.RowKit
set_option linter.unusedVariables false
set_option linter.unusedSimpArgs false
def ofConst : Value → AV
  | .agg cs => .agg (cs.toList.map AV.lit)
  | v => .lit v
def opv (env : List (Nat × AV)) : Operand → AV
  | .tmp t => aget env t
  | .const v => ofConst v
  | .global g => .lit (.pointer (some ⟨g, 0, none⟩))
  | .func f => .fn (.func f) [] []
theorem VR.ofConst (c : Cx) (v : Value) : VR c (ofConst v) v := by
  cases v with
  | agg cs =>
    refine .agg _ cs (by simp) (fun i x hx => ?_)
    rw [List.getElem?_map] at hx
    cases h : cs.toList[i]? with
    | none => rw [h] at hx; cases hx
    | some y =>
      rw [h] at hx
      obtain rfl := Option.some.inj hx
      have : cs.getD i undef = y := by
        rw [Array.getElem?_toList] at h
        simp [Array.getD_eq_getD_getElem?, h]
      rw [this]
      exact .dat _ _ (.lit y)
  | _ => exact .dat _ _ (.lit _)
def OStep (P : Program) (o : Oper) (ρ : Operand → AV) (h : List (Nat × Blk)) (F : List Nat) (E : Nat) (v : AV) (h' : List (Nat × Blk)) : Prop :=
  ∀ (c : Cx) (a : Act), c.Ok → (∀ x ∈ o.op.operands.toList, VR c (ρ x) (a.eval x)) → (∀ b ∈ F, ∀ blk, hget h b = some blk → BR c b blk) → ¬ c.U E →
    ∀ (K : Act → World → Prop) (Q : Exit → Act → World → Prop),
      (∀ u c', c'.Ok → Ev (· ∈ F) (· = E) c c' → VR c' v u → (∀ b ∈ F, ∀ blk, hget h' b = some blk → BR c' b blk) → K (a.put o.dst u) c'.W) → o.wp P a c.W K Q
def OPan (P : Program) (o : Oper) (ρ : Operand → AV) (h : List (Nat × Blk)) (F : List Nat) (E : Nat) (ch : List PanicEntry) (h' : List (Nat × Blk)) : Prop :=
  ∀ (c : Cx) (a : Act), c.Ok → (∀ x ∈ o.op.operands.toList, VR c (ρ x) (a.eval x)) → (∀ b ∈ F, ∀ blk, hget h b = some blk → BR c b blk) → ¬ c.U E →
    ∀ (K : Act → World → Prop) (Q : Exit → Act → World → Prop),
      (∀ c', c'.Ok → Ev (· ∈ F) (· = E) c c' → (∀ b blk, hget h' b = some blk → BR c' b blk) → Q (.panic ch) a c'.W) → o.wp P a c.W K Q
structure St where
  env : List (Nat × AV)
  heap : List (Nat × Blk)
  T : Nat
def St.put (st : St) (d : Option Tmp) (v : AV) : St := match d with | some t => { st with env := (t, v) :: st.env } | none => st
def wantedA (ds : List (Option Tmp)) (o : Oper) (env : List (Nat × AV)) : Option Bool :=
  match o.guard with
  | none => some true
  | some (j, want) => match ds.getD j none with
    | some t => match aget env t with
      | .dat (.lit (.bool b)) => some (b == want)
      | .tup [] => some false
      | _ => none
    | none => none
abbrev noVal : AV := .tup []
abbrev dsts (ops : Array Oper) : List (Option Tmp) := ops.toList.map (·.dst)
def opOK (nt : Nat) (ops : Array Oper) (o : Oper) : Bool := (o.looksAt ops).all (· < nt)
def regOK (nt : Nat) (ops : Array Oper) : Bool := ops.toList.all (opOK nt ops)
theorem regOK_spec {nt : Nat} {ops : Array Oper} (h : regOK nt ops = true) (j : Nat) (o : Oper) (ho : ops.toList[j]? = some o) : ∀ t ∈ o.looksAt ops, t < nt := fun t ht => by
  have h1 := List.all_eq_true.1 h o (List.mem_of_getElem? ho)
  have h2 := List.all_eq_true.1 h1 t ht
  simpa using h2
structure OpRun (P : Program) (ds : List (Option Tmp)) (E : Nat) (o : Oper) (st : St) (F Wr : List Nat) (st' : St) : Prop where
  run : (wantedA ds o st.env = some false ∧ st' = st.put o.dst noVal ∧ F = [] ∧ Wr = []) ∨
    (wantedA ds o st.env = some true ∧ ∃ v h', OStep P o (opv st.env) st.heap F E v h' ∧ st' = { st with heap := h' }.put o.dst v)
  wr : ∀ b, b ∉ Wr → hget st'.heap b = hget st.heap b
  sub : ∀ b ∈ Wr, b ∈ F
def envKeep (ds : List (Option Tmp)) : List (Nat × AV) → List (Nat × AV)
  | [] => []
  | (t, x) :: l => if ds.contains (some t) then envKeep ds l else (t, x) :: envKeep ds l
theorem aget_keep (ds : List (Option Tmp)) (t : Nat) : ∀ l, aget (envKeep ds l) t = .top ∨ (some t ∉ ds ∧ aget (envKeep ds l) t = aget l t)
  | [] => .inl rfl
  | (k, x) :: l => by
    simp only [envKeep]
    split
    · rename_i hk
      have hk' : some k ∈ ds := by simpa using hk
      rcases aget_keep ds t l with h | ⟨h1, h2⟩
      · exact .inl h
      · refine .inr ⟨h1, ?_⟩
        simp only [aget]
        rw [if_neg (fun e => h1 (by rw [← e]; exact hk'))]
        exact h2
    · rename_i hk
      have hk' : some k ∉ ds := by simpa using hk
      simp only [aget]
      by_cases e : k = t
      · subst e; simp only [if_true]; exact .inr ⟨hk', trivial⟩
      · simp only [if_neg e]; exact aget_keep ds t l
def OpStop (P : Program) (ds : List (Option Tmp)) (E : Nat) (o : Oper) (st : St) (F : List Nat) (ch : List PanicEntry) (h' : List (Nat × Blk)) : Prop := wantedA ds o st.env = some true ∧ OPan P o (opv st.env) st.heap F E ch h'
structure Nt where
  n : Nat
  D : List Deferred
instance : Coe Nat Nt := ⟨fun n => ⟨n, []⟩⟩
structure Rel (nt : Nt) (env : Nat → AV) (heap : Nat → Option Blk) (U : Nat → Prop) (a : Act) (c : Cx) : Prop where
  ok : c.Ok
  tmps : a.tmps.size = nt.n
  defers : a.defers = nt.D
  env : ∀ t, t < nt.n → VR c (env t) (a.tmps.getD t undef)
  heap : ∀ b blk, heap b = some blk → BR c b blk
  used : ∀ e, c.U e → U e
abbrev St.Rel (nt : Nt) (st : St) (a : Act) (c : Cx) : Prop := AM.Rel nt (aget st.env) (hget st.heap) (· < st.T) a c
abbrev All : Nat → Prop := fun _ => True
theorem VR.lit_inv {c : Cx} {v u : Value} (h : VR c (.dat (.lit v)) u) : u = v := by
  generalize hx : AV.dat (.lit v) = x at h
  cases h <;> cases hx
  rename_i h
  generalize hy : Dat.lit v = y at h
  cases h <;> cases hy
  rfl
theorem opv_rel {env : List (Nat × AV)} {a : Act} {c : Cx} {x : Operand} (h : ∀ t, x = .tmp t → VR c (aget env t) (a.tmps.getD t undef)) : VR c (opv env x) (a.eval x) := by
  cases x with
  | tmp t => exact h t rfl
  | const v => exact VR.ofConst c v
  | global g => exact .dat _ _ (.lit _)
  | func f => exact .fn _ [] [] #[] #[] rfl rfl (by simp) (by simp)
theorem wanted_rel {ops : Array Oper} {o : Oper} {env : List (Nat × AV)} {a : Act} {c : Cx} {b : Bool} (h : wantedA (dsts ops) o env = some b)
    (hr : ∀ t ∈ o.looksAt ops, t < a.tmps.size ∧ VR c (aget env t) (a.tmps.getD t undef)) : Region.wanted o (yielded ops a.tmps) = b := by
  unfold wantedA at h
  unfold Region.wanted
  cases hg : o.guard with
  | none => rw [hg] at h; simpa using h
  | some gw =>
    obtain ⟨j, want⟩ := gw
    rw [hg] at h
    simp only at h ⊢
    rw [show (dsts ops).getD j none = (ops[j]?).bind (·.dst) by
      rw [List.getD_eq_getElem?_getD, List.getElem?_map, Array.getElem?_toList]
      cases ops[j]? <;> rfl] at h
    cases ht : (ops[j]?).bind (·.dst) with
    | none => rw [ht] at h; cases h
    | some t =>
      rw [ht] at h
      simp only at h
      obtain ⟨hlt, hv⟩ := hr t (by unfold Oper.looksAt; rw [hg]; simp [ht])
      split at h
      · rename_i b0 hb0
        obtain rfl := Option.some.inj h
        rw [hb0] at hv
        have hu : a.tmps.getD t undef = .bool b0 := hv.lit_inv
        have : yielded ops a.tmps j = some b0 := by
          unfold yielded
          rw [ht]
          simp only [Option.bind_some]
          have h2 : a.tmps[t]? = some (.bool b0) := by
            rw [Array.getElem?_eq_getElem hlt]
            rw [Array.getD_eq_getD_getElem?, Array.getElem?_eq_getElem hlt] at hu
            simpa using hu
          rw [h2]
        rw [this]
        cases b0 <;> cases want <;> rfl
      · rename_i hb0
        obtain rfl := Option.some.inj h
        rw [hb0] at hv
        generalize hu : a.tmps.getD t undef = u at hv
        cases hv with
        | tup _ us _ _ =>
        have : yielded ops a.tmps j = none := by
          unfold yielded
          rw [ht]
          simp only [Option.bind_some]
          have h2 : a.tmps[t]? = some (.tuple us) := by
            rw [Array.getElem?_eq_getElem hlt]
            rw [Array.getD_eq_getD_getElem?, Array.getElem?_eq_getElem hlt] at hu
            simpa using hu
          rw [h2]
        rw [this]
        cases want <;> rfl
      · cases h
theorem put_size (a : Act) (d : Option Tmp) (u : Value) : (a.put d u).tmps.size = a.tmps.size := by cases d <;> simp [Act.put]
theorem put_defs (a : Act) (d : Option Tmp) (u : Value) : (a.put d u).defers = a.defers := by cases d <;> rfl
theorem put_at (a : Act) (t : Nat) (u : Value) (h : t < a.tmps.size) : (a.put (some t) u).tmps.getD t undef = u := by simp [Act.put, h]
theorem put_ne (a : Act) (d : Option Tmp) (t : Nat) (u : Value) (h : d ≠ some t) : (a.put d u).tmps.getD t undef = a.tmps.getD t undef := by
  cases d with
  | none => rfl
  | some d =>
    have : d ≠ t := fun e => h (by rw [e])
    simp [Act.put, Array.getElem?_setIfInBounds_ne this]
theorem aget_put (st : St) (d : Option Tmp) (v : AV) (t : Nat) : aget (st.put d v).env t = if d = some t then v else aget st.env t := by
  cases d with
  | none => simp [St.put]
  | some d => simp [St.put, aget]
theorem heap_put (st : St) (d : Option Tmp) (v : AV) : (st.put d v).heap = st.heap := by cases d <;> rfl
section
variable {α : Type}
def ov (D : Nat → Bool) (w : Nat → Option α) (x : α) : Nat → α
  | 0 => x
  | n + 1 => if D n then (w n).getD (ov D w x n) else ov D w x n
theorem ov_congr {D D' : Nat → Bool} {w : Nat → Option α} {x : α} : ∀ n, (∀ j, j < n → w j ≠ none → D j = D' j) → ov D w x n = ov D' w x n
  | 0, _ => rfl
  | n + 1, h => by
    simp only [ov]
    rw [ov_congr n (fun j hj => h j (by omega))]
    cases hw : w n with
    | none => simp
    | some y => rw [h n (by omega) (by simp [hw])]
theorem ov_set {D D' : Nat → Bool} {w : Nat → Option α} {x : α} {i : Nat} (hD : D i = false) (hi : D' i = true) (hn : ∀ j, j ≠ i → D' j = D j) :
    ∀ n, i < n → (∀ j, i < j → j < n → D j = true → w i ≠ none → w j = none) → ov D' w x n = (w i).getD (ov D w x n)
  | 0, h, _ => by omega
  | n + 1, h, hl => by
    simp only [ov]
    by_cases e : i = n
    · subst e
      rw [hD, hi]
      simp only [if_true, Bool.false_eq_true, if_false]
      rw [ov_congr (D := D') (D' := D) i (fun j hj _ => hn j (by omega))]
    · rw [hn n (fun e' => e e'.symm), ov_set hD hi hn n (by omega) (fun j h1 h2 => hl j h1 (by omega))]
      cases hd : D n
      · simp
      · simp only [if_true]
        cases hw : w i with
        | none => simp
        | some y => rw [hl n (by omega) (by omega) hd (by simp [hw])]; simp
end
def maskOf (o : Oper) (acc : List Nat) : Nat := o.after.toList.foldl (fun s e => if Region.binds .any e then (s ||| 2 ^ e.on) ||| acc.getD e.on 0 else s) 0
def masks : List Oper → List Nat → List Nat
  | [], acc => acc
  | o :: os, acc => masks os (acc ++ [maskOf o acc])
theorem maskOf_closed {D : Nat → Prop} {o : Oper} {acc : List Nat} (h : ∀ e ∈ o.after, Region.binds .any e = true → D e.on) (hacc : ∀ (i : Nat) m, acc[i]? = some m → ∀ j, m.testBit j = true → D i → D j) :
    ∀ j, (maskOf o acc).testBit j = true → D j := by
  unfold maskOf
  have key : ∀ (l : List Edge) (s : Nat), (∀ e ∈ l, Region.binds .any e = true → D e.on) → (∀ j, s.testBit j = true → D j) →
      ∀ j, (l.foldl (fun s e => if Region.binds .any e then (s ||| 2 ^ e.on) ||| acc.getD e.on 0 else s) s).testBit j = true → D j := by
    intro l
    induction l with
    | nil => intro s _ hs j hj; exact hs j hj
    | cons e l ih =>
      intro s hl hs
      simp only [List.foldl_cons]
      refine ih _ (fun x hx => hl x (List.mem_cons_of_mem _ hx)) ?_
      intro j hj
      split at hj
      · rename_i hb
        have hon := hl e List.mem_cons_self hb
        rw [Nat.testBit_or, Nat.testBit_or] at hj
        simp only [Bool.or_eq_true] at hj
        rcases hj with (hj | hj) | hj
        · exact hs j hj
        · rw [Nat.testBit_two_pow] at hj
          have : e.on = j := by simpa using hj
          rw [← this]; exact hon
        · cases hm : acc[e.on]? with
          | none => simp [List.getD_eq_getElem?_getD, hm] at hj
          | some m => simp [List.getD_eq_getElem?_getD, hm] at hj; exact hacc e.on m hm j hj hon
      · exact hs j hj
  exact key _ 0 (fun e he => h e (Array.mem_toList_iff.1 he)) (by simp)
theorem masks_closed {D : Nat → Prop} : ∀ (os : List Oper) (acc : List Nat), (∀ (i : Nat) o, os[i]? = some o → D (acc.length + i) → ∀ e ∈ o.after, Region.binds .any e = true → D e.on) →
    (∀ (i : Nat) m, acc[i]? = some m → ∀ j, m.testBit j = true → D i → D j) → ∀ (i : Nat) m, (masks os acc)[i]? = some m → ∀ j, m.testBit j = true → D i → D j
  | [], acc, _, hacc => hacc
  | o :: os, acc, h, hacc => by
    refine masks_closed os (acc ++ [maskOf o acc]) (fun i o' ho' hD => ?_) (fun i m hm j hj hD => ?_)
    · exact h (i + 1) o' (by simpa using ho') (by rw [List.length_append] at hD; rw [show acc.length + (i + 1) = acc.length + [maskOf o acc].length + i by simp; omega]; exact hD)
    · by_cases hlt : i < acc.length
      · rw [List.getElem?_append_left hlt] at hm; exact hacc i m hm j hj hD
      · have hi : i = acc.length := by
          have := (List.getElem?_eq_some_iff.1 hm).1
          simp at this; omega
        subst hi
        rw [List.getElem?_append_right (Nat.le_refl _)] at hm
        simp at hm
        subst hm
        exact maskOf_closed (h 0 o rfl (by simpa using hD)) hacc j hj
def meets (l k : List Nat) : Bool := l.any fun x => k.contains x
def clash (ops : Array Oper) (F W : Nat → List Nat) (j i : Nat) (oj oi : Oper) : Bool :=
  (match oj.dst with | some d => (oi.looksAt ops).contains d || oi.dst == some d | none => false) ||
  (match oi.dst with | some d => (oj.looksAt ops).contains d | none => false) || meets (W j) (F i) || meets (W i) (F j)
def orderOK (ops : Array Oper) (F W : Nat → List Nat) : Bool :=
  let ms := masks ops.toList []
  (List.range ops.size).all fun i => (List.range i).all fun j => match ops[j]?, ops[i]? with
    | some oj, some oi => !clash ops F W j i oj oi || (ms.getD i 0).testBit j
    | _, _ => true
def lateOK (ops : Array Oper) (p : Nat) : Bool :=
  let ms := masks ops.toList []
  (List.range ops.size).all fun i => decide (i ≤ p) || (ms.getD i 0).testBit p
end Go.Proofs.YtinpnidokpjfhaaGreatDoor.AM
namespace Go.Proofs.YtinpnidokpjfhaaGreatDoor.RI
set_option linter.unusedVariables false
set_option linter.unusedSimpArgs false
section
variable {P : Program} {ops : Array Oper} {Q : Exit → Act → World → Prop}
def left (ops : Array Oper) (l : Array Bool) : Nat := ((List.range ops.size).filter fun i => !l.getD i true).length
theorem left_set {l : Array Bool} {i : Nat} (hi : i < ops.size) (hu : l.getD i true = false) : left ops (l.setIfInBounds i true) < left ops l := by
  have key : ∀ (r : List Nat), ((r.filter fun k => !(l.setIfInBounds i true).getD k true).length ≤ (r.filter fun k => !l.getD k true).length) ∧ (i ∈ r → (r.filter fun k => !(l.setIfInBounds i true).getD k true).length < (r.filter fun k => !l.getD k true).length) := by
    intro r
    induction r with
    | nil => simp
    | cons k r ih =>
      obtain ⟨h1, h2⟩ := ih
      by_cases hk : i = k
      · subst hk
        have e1 : (l.setIfInBounds i true).getD i true = true := by
          by_cases hl : i < l.size <;> simp [Array.getElem?_setIfInBounds, hl]
        rw [List.filter_cons_of_neg (by rw [e1]; simp), List.filter_cons_of_pos (by rw [hu]; simp)]
        exact ⟨by rw [List.length_cons]; omega, fun _ => by rw [List.length_cons]; omega⟩
      · have e1 : (l.setIfInBounds i true).getD k true = l.getD k true := getD_set_ne true hk
        simp only [List.filter_cons, e1]
        cases hlk : l.getD k true
        · simp only [Bool.not_false, if_true, List.length_cons]
          refine ⟨by omega, fun hm => ?_⟩
          rcases List.mem_cons.1 hm with h | h
          · exact absurd h hk
          · have := h2 h; omega
        · simp only [Bool.not_true, Bool.false_eq_true, if_false]
          refine ⟨h1, fun hm => ?_⟩
          rcases List.mem_cons.1 hm with h | h
          · exact absurd h hk
          · exact h2 h
  exact (key _).2 (List.mem_range.2 hi)
theorem wpAny_inv (I : Array Bool → Act → World → Prop)
    (hdone : ∀ l a w, Region.ready .any ops l = [] → I l a w → Q .normal a w)
    (hstep : ∀ l a w, I l a w → ∀ i o, ops[i]? = some o → l.getD i true = false → (∀ e ∈ o.after, Region.binds .any e = true → l.getD e.on false = true) →
      ∀ K : Act → World → Prop, (∀ a' w', I (l.setIfInBounds i true) a' w' → K a' w') → if Region.wanted o (yielded ops a.tmps) = true then Oper.wp P o a w K Q else K (a.put o.dst undef) w) :
    ∀ (fuel : Nat) (l : Array Bool) (a : Act) (w : World), left ops l ≤ fuel → I l a w → wpAny P .any ops Q fuel l a w := by
  intro fuel
  induction fuel with
  | zero =>
    intro l a w hf hI
    have h0 : Region.ready .any ops l = [] := by
      apply List.eq_nil_iff_forall_not_mem.2
      intro i hi
      obtain ⟨hu, o, ho, _⟩ := mem_ready.1 hi
      have hlt : i < ops.size := (Array.getElem?_eq_some_iff.1 ho).1
      have := left_set hlt hu
      omega
    exact ⟨h0, hdone l a w h0 hI⟩
  | succ fuel ih =>
    intro l a w hf hI
    refine ⟨fun h0 => hdone l a w h0 hI, fun i hi => ?_⟩
    obtain ⟨hu, o, ho, hall⟩ := mem_ready.1 hi
    have hlt : i < ops.size := (Array.getElem?_eq_some_iff.1 ho).1
    have hm := left_set hlt hu
    exact wpOp_step ho (fun K' hK => hstep l a w hI i o ho hu hall K' (fun a' w' h' => hK a' w' (ih _ a' w' (by omega) h')))
theorem region_inv {id : Nat} {a : Act} {w : World} (I : Array Bool → Act → World → Prop) (hm : P.follows .mixedOrders = true)
    (h0 : I (Array.replicate ops.size false) a { w with drawn := w.drawn + 1 })
    (hdone : ∀ l a w, Region.ready .any ops l = [] → I l a w → Q .normal a w)
    (hstep : ∀ l a w, I l a w → ∀ i o, ops[i]? = some o → l.getD i true = false → (∀ e ∈ o.after, Region.binds .any e = true → l.getD e.on false = true) →
      ∀ K : Act → World → Prop, (∀ a' w', I (l.setIfInBounds i true) a' w' → K a' w') → if Region.wanted o (yielded ops a.tmps) = true then Oper.wp P o a w K Q else K (a.put o.dst undef) w) :
    (Code.region id ops true).wp P Q a w := by
  refine wp_region_any hm (wpAny_inv I hdone hstep ops.size _ a _ ?_ h0)
  unfold left
  exact Nat.le_trans (List.length_filter_le _ _) (by simp)
end
end Go.Proofs.YtinpnidokpjfhaaGreatDoor.RI
namespace Go.Proofs.YtinpnidokpjfhaaGreatDoor.AM
open Go.RowKit Go.Proofs.YtinpnidokpjfhaaGreatDoor.RI
set_option linter.unusedVariables false
set_option linter.unusedSimpArgs false
theorem VR.noVal (c : Cx) : VR c noVal undef := .tup [] #[] rfl (by simp)
theorem op_step {P : Program} {nt : Nt} {ops : Array Oper} {E : Nat} {o : Oper} {st st' : St} {F Wr : List Nat} (hlook : ∀ t ∈ o.looksAt ops, t < nt.n) (hrun : OpRun P (dsts ops) E o st F Wr st')
    {envD : Nat → AV} {heapD : Nat → Option Blk} {U : Nat → Prop} {a : Act} {c : Cx} (hr : Rel nt envD heapD U a c)
    (henv : ∀ t ∈ o.looksAt ops, envD t = aget st.env t) (hheap : ∀ b ∈ F, heapD b = hget st.heap b) (hE : ¬ U E) (K : Act → World → Prop) (Q : Exit → Act → World → Prop)
    (hK : ∀ a' c', Rel nt (fun t => if o.dst = some t then aget st'.env t else envD t) (fun b => if b ∈ Wr then hget st'.heap b else heapD b) (fun e => U e ∨ e = E) a' c' → Ev All All c c' → K a' c'.W) :
    if Region.wanted o (yielded ops a.tmps) = true then o.wp P a c.W K Q else K (a.put o.dst undef) c.W := by
  have hl : ∀ t ∈ o.looksAt ops, t < a.tmps.size ∧ VR c (aget st.env t) (a.tmps.getD t undef) := fun t ht => by
    have h1 := hlook t ht
    exact ⟨by rw [hr.tmps]; exact h1, by rw [← henv t ht]; exact hr.env t h1⟩
  rcases hrun.run with ⟨hw, hst, hF, hW⟩ | ⟨hw, v, h', hstep, hst⟩
  · rw [wanted_rel hw hl]
    simp only [Bool.false_eq_true, if_false]
    subst hF hW
    refine hK _ c ⟨hr.ok, by rw [put_size]; exact hr.tmps, by rw [put_defs]; exact hr.defers, fun t ht => ?_, fun b blk hb => ?_, fun e he => .inl (hr.used e he)⟩ (Ev.refl _ _ _)
    · by_cases hd : o.dst = some t
      · rw [if_pos hd, hst, aget_put, if_pos hd, hd, put_at _ _ _ (by rw [hr.tmps]; exact ht)]
        exact VR.noVal c
      · rw [if_neg hd, put_ne _ _ _ _ hd]
        exact hr.env t ht
    · simp only [List.not_mem_nil, if_false] at hb
      exact hr.heap b blk hb
  · rw [wanted_rel hw hl, if_pos rfl]
    refine hstep c a hr.ok (fun x hx => opv_rel (fun t ht => ?_)) (fun b hb blk hh => hr.heap b blk (by rw [hheap b hb]; exact hh)) (fun hU => hE (hr.used E hU)) K Q (fun u c' ok ev hv hblk => ?_)
    · subst ht
      exact (hl t (List.mem_append_left _ (List.mem_filterMap.2 ⟨.tmp t, hx, rfl⟩))).2
    · have hh' : st'.heap = h' := by rw [hst, heap_put]
      refine hK _ c' ⟨ok, by rw [put_size]; exact hr.tmps, by rw [put_defs]; exact hr.defers, fun t ht => ?_, fun b blk hb => ?_, fun e he => ?_⟩ (ev.wide (fun _ _ => trivial) (fun _ _ => trivial))
      · by_cases hd : o.dst = some t
        · rw [if_pos hd, hst, aget_put, if_pos hd, hd, put_at _ _ _ (by rw [hr.tmps]; exact ht)]
          exact hv
        · rw [if_neg hd, put_ne _ _ _ _ hd]
          exact (hr.env t ht).mono hr.ok ev
      · by_cases hbW : b ∈ Wr
        · simp only [if_pos hbW] at hb
          exact hblk b (hrun.sub b hbW) blk (by rw [← hh']; exact hb)
        · simp only [if_neg hbW] at hb
          by_cases hbF : b ∈ F
          · refine hblk b hbF blk ?_
            rw [← hh', hrun.wr b hbW, ← hheap b hbF]
            exact hb
          · exact (hr.heap b blk hb).mono hr.ok ev hbF
      · rcases ev.u2 e he with h1 | h1
        · exact .inl (hr.used e h1)
        · exact .inr h1
def St.skip (st : St) (n : Nat) : St := { st with T := st.T + n }
theorem text_pre {P : Program} {nt : Nt} {ops : Array Oper} {Q : Exit → Act → World → Prop} (T : Nat) : ∀ (os rest : List Oper) (i : Nat) (sts : Nat → St) (F Wr : Nat → List Nat),
    (∀ (j : Nat) (o : Oper), os[j]? = some o → ∀ t ∈ o.looksAt ops, t < nt.n) → (∀ (j : Nat) (o : Oper), os[j]? = some o → OpRun P (dsts ops) (T + i + j) o (sts j) (F j) (Wr j) (sts (j + 1))) →
    ∀ a c, Rel nt (aget (sts 0).env) (hget (sts 0).heap) (fun e => e < T + i) a c →
      (∀ a' c', Rel nt (aget (sts os.length).env) (hget (sts os.length).heap) (fun e => e < T + i + os.length) a' c' → Ev All All c c' → wpList P ops Q rest a' c'.W) → wpList P ops Q (os ++ rest) a c.W := by
  intro os
  induction os with
  | nil => intro rest i sts F Wr _ _ a c hr hQ; exact hQ a c hr (Ev.refl _ _ _)
  | cons o os ih =>
    intro rest i sts F Wr hlk h a c hr hQ
    refine wpList_step (fun K hK => ?_)
    have h0 := h 0 o rfl
    refine op_step (hlk 0 o rfl) h0 hr (fun _ _ => rfl) (fun _ _ => rfl) (by simp) K Q (fun a' c' hr' ev => hK a' c'.W ?_)
    refine ih rest (i + 1) (fun j => sts (j + 1)) (fun j => F (j + 1)) (fun j => Wr (j + 1)) (fun j o' hj => hlk (j + 1) o' (by simpa using hj)) (fun j o' hj => ?_) a' c' ?_ (fun a'' c'' hr'' ev' => hQ a'' c'' ?_ ?_)
    · have := h (j + 1) o' (by simpa using hj)
      rw [show T + i + (j + 1) = T + (i + 1) + j by omega] at this
      exact this
    · refine ⟨hr'.ok, hr'.tmps, hr'.defers, fun t ht => ?_, fun b blk hb => ?_, fun e he => ?_⟩
      · have h1 := hr'.env t ht
        by_cases hd : o.dst = some t
        · simp only [if_pos hd] at h1; exact h1
        · simp only [if_neg hd] at h1
          rcases h0.run with ⟨_, hst, _, _⟩ | ⟨_, v, h', _, hst⟩
          · rw [hst, aget_put, if_neg hd]; exact h1
          · rw [hst, aget_put, if_neg hd]; exact h1
      · refine hr'.heap b blk ?_
        by_cases hbW : b ∈ Wr 0
        · simp only [if_pos hbW]; exact hb
        · simp only [if_neg hbW]; rw [← h0.wr b hbW]; exact hb
      · show e < T + (i + 1)
        rcases hr'.used e he with h1 | h1 <;> omega
    · refine ⟨hr''.ok, hr''.tmps, hr''.defers, hr''.env, hr''.heap, fun e he => ?_⟩
      have := hr''.used e he
      rw [List.length_cons]
      omega
    · exact ((Ev.trans hr.ok ev ev').wide (fun _ _ => trivial) (fun _ _ => trivial))
theorem text_ops {P : Program} {nt : Nt} {ops : Array Oper} {Q : Exit → Act → World → Prop} (T : Nat) (os : List Oper) (i : Nat) (sts : Nat → St) (F Wr : Nat → List Nat)
    (hlk : ∀ (j : Nat) (o : Oper), os[j]? = some o → ∀ t ∈ o.looksAt ops, t < nt.n) (h : ∀ (j : Nat) (o : Oper), os[j]? = some o → OpRun P (dsts ops) (T + i + j) o (sts j) (F j) (Wr j) (sts (j + 1)))
    (a : Act) (c : Cx) (hr : Rel nt (aget (sts 0).env) (hget (sts 0).heap) (fun e => e < T + i) a c)
      (hQ : ∀ a' c', Rel nt (aget (sts os.length).env) (hget (sts os.length).heap) (fun e => e < T + i + os.length) a' c' → Ev All All c c' → Q .normal a' c'.W) : wpList P ops Q os a c.W := by
  have := text_pre (Q := Q) T os [] i sts F Wr hlk h a c hr hQ
  rwa [List.append_nil] at this
theorem op_stop {P : Program} {nt : Nt} {ops : Array Oper} {E : Nat} {o : Oper} {st : St} {F : List Nat} {ch : List PanicEntry} {h' : List (Nat × Blk)} (hlook : ∀ t ∈ o.looksAt ops, t < nt.n) (hrun : OpStop P (dsts ops) E o st F ch h')
    {envD : Nat → AV} {heapD : Nat → Option Blk} {U : Nat → Prop} {a : Act} {c : Cx} (hr : Rel nt envD heapD U a c)
    (henv : ∀ t ∈ o.looksAt ops, envD t = aget st.env t) (hheap : ∀ b ∈ F, heapD b = hget st.heap b) (hE : ¬ U E) (K : Act → World → Prop) (Q : Exit → Act → World → Prop)
    (env' : Nat → AV) (henv' : ∀ t, env' t = .top ∨ env' t = envD t) (hQ : ∀ c', Rel nt env' (hget h') (fun e => U e ∨ e = E) a c' → Ev All All c c' → Q (.panic ch) a c'.W) :
    if Region.wanted o (yielded ops a.tmps) = true then o.wp P a c.W K Q else K (a.put o.dst undef) c.W := by
  have hl : ∀ t ∈ o.looksAt ops, t < a.tmps.size ∧ VR c (aget st.env t) (a.tmps.getD t undef) := fun t ht => by
    have h1 := hlook t ht
    exact ⟨by rw [hr.tmps]; exact h1, by rw [← henv t ht]; exact hr.env t h1⟩
  rw [wanted_rel hrun.1 hl, if_pos rfl]
  refine hrun.2 c a hr.ok (fun x hx => opv_rel (fun t ht => ?_)) (fun b hb blk hh => hr.heap b blk (by rw [hheap b hb]; exact hh)) (fun hU => hE (hr.used E hU)) K Q (fun c' ok ev hblk => ?_)
  · subst ht
    exact (hl t (List.mem_append_left _ (List.mem_filterMap.2 ⟨.tmp t, hx, rfl⟩))).2
  · refine hQ c' ⟨ok, hr.tmps, hr.defers, fun t ht => by
        rcases henv' t with h | h
        · rw [h]; exact .top _
        · rw [h]; exact (hr.env t ht).mono hr.ok ev, hblk, fun e he => ?_⟩ (ev.wide (fun _ _ => trivial) (fun _ _ => trivial))
    rcases ev.u2 e he with h1 | h1
    · exact .inl (hr.used e h1)
    · exact .inr h1
theorem OpRun.env {P : Program} {ops : Array Oper} {E : Nat} {o : Oper} {st st' : St} {F Wr : List Nat} (h : OpRun P (dsts ops) E o st F Wr st') (t : Nat) (hd : o.dst ≠ some t) : aget st'.env t = aget st.env t := by
  rcases h.run with ⟨_, hst, _, _⟩ | ⟨_, v, h', _, hst⟩
  · rw [hst, aget_put, if_neg hd]
  · rw [hst, aget_put, if_neg hd]
theorem text_stop {P : Program} {nt : Nt} {id : Nat} {ops : Array Oper} {Q : Exit → Act → World → Prop} {st : St} (hreg : regOK nt.n ops = true) {l1 l2 : List Oper} {o : Oper} (hops : ops.toList = l1 ++ o :: l2) (sts : Nat → St) (F Wr : Nat → List Nat) (h0 : sts 0 = st)
    (h : ∀ j (o : Oper), l1[j]? = some o → OpRun P (dsts ops) (st.T + j) o (sts j) (F j) (Wr j) (sts (j + 1))) {Fp : List Nat} {ch : List PanicEntry} {h' : List (Nat × Blk)} (hstop : OpStop P (dsts ops) (st.T + l1.length) o (sts l1.length) Fp ch h') {a : Act} {c : Cx} (hr : st.Rel nt a c)
    (hQ : ∀ a' c', (⟨envKeep (dsts ops) st.env, h', st.T + ops.size⟩ : St).Rel nt a' c' → Ev All All c c' → Q (.panic ch) a' c'.W) : (Code.region id ops false).wp P Q a c.W := by
  refine wp_region_list ?_
  rw [hops]
  have hat : ∀ (j : Nat) (o : Oper), l1[j]? = some o → ops.toList[j]? = some o := fun j o ho => by
    rw [hops, List.getElem?_append_left (List.getElem?_eq_some_iff.1 ho).1]; exact ho
  have hp : ops.toList[l1.length]? = some o := by rw [hops, List.getElem?_append_right (Nat.le_refl _), Nat.sub_self]; rfl
  have hlt : l1.length < ops.size := by have := (List.getElem?_eq_some_iff.1 hp).1; simpa using this
  refine text_pre st.T l1 (o :: l2) 0 sts F Wr (fun j o ho => regOK_spec hreg j o (hat j o ho)) (fun j o ho => by rw [Nat.add_zero]; exact h j o ho) a c (by rw [h0]; exact hr) (fun a' c' hr' ev => ?_)
  refine wpList_step (fun K hK => ?_)
  refine op_stop (regOK_spec hreg _ o hp) hstop hr' (fun _ _ => rfl) (fun _ _ => rfl) (fun h => by simp at h) K Q (aget (envKeep (dsts ops) st.env)) (fun t => ?_) (fun c'' hr'' ev' => hQ a' c'' ⟨hr''.ok, hr''.tmps, hr''.defers, hr''.env, hr''.heap, fun e he => ?_⟩ ((Ev.trans hr.ok ev ev').wide (fun _ _ => trivial) (fun _ _ => trivial)))
  · rcases aget_keep (dsts ops) t st.env with h1 | ⟨h1, h2⟩
    · exact .inl h1
    · refine .inr (h2.trans ?_)
      have key : ∀ i, i ≤ l1.length → aget (sts i).env t = aget st.env t := by
        intro i
        induction i with
        | zero => intro _; rw [h0]
        | succ i ih =>
          intro hi
          have ho : l1[i]? = some l1[i] := List.getElem?_eq_getElem (by omega)
          rw [(h i _ ho).env t (fun e => h1 (by rw [← e]; exact List.mem_map.2 ⟨_, List.mem_of_getElem? (hat i _ ho), rfl⟩))]
          exact ih (by omega)
      exact (key _ (Nat.le_refl _)).symm
  · show e < st.T + ops.size
    rcases hr''.used e he with h1 | h1 <;> omega
theorem text_region {P : Program} {nt : Nt} {id : Nat} {ops : Array Oper} {Q : Exit → Act → World → Prop} {st : St} (hreg : regOK nt.n ops = true) (sts : Nat → St) (F Wr : Nat → List Nat) (h0 : sts 0 = st)
    (h : ∀ j (o : Oper), ops.toList[j]? = some o → OpRun P (dsts ops) (st.T + j) o (sts j) (F j) (Wr j) (sts (j + 1))) {a : Act} {c : Cx} (hr : st.Rel nt a c)
    (hQ : ∀ a' c', ({ sts ops.size with T := st.T + ops.size } : St).Rel nt a' c' → Ev All All c c' → Q .normal a' c'.W) : (Code.region id ops false).wp P Q a c.W := by
  refine wp_region_list ?_
  refine text_ops st.T ops.toList 0 sts F Wr (regOK_spec hreg) (fun j o ho => by rw [Nat.add_zero]; exact h j o ho) a c (by rw [h0]; exact hr) (fun a' c' hr' ev => hQ a' c' ?_ ev)
  rw [Array.length_toList] at hr'
  exact hr'
def wEnv (ops : Array Oper) (sts : Nat → St) (t : Nat) (j : Nat) : Option AV := if (ops[j]?).bind (·.dst) = some t then some (aget (sts (j + 1)).env t) else none
def wHeap (sts : Nat → St) (Wr : Nat → List Nat) (b : Nat) (j : Nat) : Option (Option Blk) := if b ∈ Wr j then some (hget (sts (j + 1)).heap b) else none
section
variable {P : Program} {nt : Nt} {ops : Array Oper} {T : Nat} {sts : Nat → St} {F Wr : Nat → List Nat}
theorem env_text (h : ∀ j (o : Oper), ops[j]? = some o → OpRun P (dsts ops) (T + j) o (sts j) (F j) (Wr j) (sts (j + 1))) (t : Nat) :
    ∀ i, i ≤ ops.size → aget (sts i).env t = ov (fun j => decide (j < i)) (wEnv ops sts t) (aget (sts 0).env t) ops.size
  | 0, _ => by
    rw [ov_congr (D' := fun _ => false) _ (fun j _ _ => by simp)]
    clear h
    induction ops.size with
    | zero => rfl
    | succ n ih => simpa [ov] using ih
  | i + 1, hi => by
    obtain ⟨o, ho⟩ : ∃ o, ops[i]? = some o := ⟨ops[i], Array.getElem?_eq_getElem (by omega)⟩
    have hr := h i o ho
    rw [ov_set (D := fun j => decide (j < i)) (i := i) (by simp) (by simp) (fun j hj => by simp only [decide_eq_decide]; omega) ops.size (by omega) (fun j h1 h2 h3 => by simp at h3; omega), ← env_text h t i (by omega)]
    unfold wEnv
    rw [ho]
    simp only [Option.bind_some]
    by_cases hd : o.dst = some t
    · rw [if_pos hd]; rfl
    · rw [if_neg hd]; exact hr.env t hd
theorem heap_text (h : ∀ j (o : Oper), ops[j]? = some o → OpRun P (dsts ops) (T + j) o (sts j) (F j) (Wr j) (sts (j + 1))) (b : Nat) :
    ∀ i, i ≤ ops.size → hget (sts i).heap b = ov (fun j => decide (j < i)) (wHeap sts Wr b) (hget (sts 0).heap b) ops.size
  | 0, _ => by
    rw [ov_congr (D' := fun _ => false) _ (fun j _ _ => by simp)]
    clear h
    induction ops.size with
    | zero => rfl
    | succ n ih => simpa [ov] using ih
  | i + 1, hi => by
    obtain ⟨o, ho⟩ : ∃ o, ops[i]? = some o := ⟨ops[i], Array.getElem?_eq_getElem (by omega)⟩
    have hr := h i o ho
    rw [ov_set (D := fun j => decide (j < i)) (i := i) (by simp) (by simp) (fun j hj => by simp only [decide_eq_decide]; omega) ops.size (by omega) (fun j h1 h2 h3 => by simp at h3; omega), ← heap_text h b i (by omega)]
    unfold wHeap
    by_cases hd : b ∈ Wr i
    · rw [if_pos hd]; rfl
    · rw [if_neg hd]; exact hr.wr b hd
theorem env_textN (n : Nat) (hn : n ≤ ops.size) (h : ∀ j (o : Oper), j < n → ops[j]? = some o → OpRun P (dsts ops) (T + j) o (sts j) (F j) (Wr j) (sts (j + 1))) (t : Nat) :
    ∀ i, i ≤ n → aget (sts i).env t = ov (fun j => decide (j < i)) (wEnv ops sts t) (aget (sts 0).env t) n
  | 0, _ => by
    rw [ov_congr (D' := fun _ => false) _ (fun j _ _ => by simp)]
    clear h hn
    induction n with
    | zero => rfl
    | succ n ih => simpa [ov] using ih
  | i + 1, hi => by
    obtain ⟨o, ho⟩ : ∃ o, ops[i]? = some o := ⟨ops[i], Array.getElem?_eq_getElem (by omega)⟩
    have hr := h i o (by omega) ho
    rw [ov_set (D := fun j => decide (j < i)) (i := i) (by simp) (by simp) (fun j hj => by simp only [decide_eq_decide]; omega) n (by omega) (fun j h1 h2 h3 => by simp at h3; omega), ← env_textN n hn h t i (by omega)]
    unfold wEnv
    rw [ho]
    simp only [Option.bind_some]
    by_cases hd : o.dst = some t
    · rw [if_pos hd]; rfl
    · rw [if_neg hd]; exact hr.env t hd
theorem heap_textN (n : Nat) (hn : n ≤ ops.size) (h : ∀ j (o : Oper), j < n → ops[j]? = some o → OpRun P (dsts ops) (T + j) o (sts j) (F j) (Wr j) (sts (j + 1))) (b : Nat) :
    ∀ i, i ≤ n → hget (sts i).heap b = ov (fun j => decide (j < i)) (wHeap sts Wr b) (hget (sts 0).heap b) n
  | 0, _ => by
    rw [ov_congr (D' := fun _ => false) _ (fun j _ _ => by simp)]
    clear h hn
    induction n with
    | zero => rfl
    | succ n ih => simpa [ov] using ih
  | i + 1, hi => by
    obtain ⟨o, ho⟩ : ∃ o, ops[i]? = some o := ⟨ops[i], Array.getElem?_eq_getElem (by omega)⟩
    have hr := h i o (by omega) ho
    rw [ov_set (D := fun j => decide (j < i)) (i := i) (by simp) (by simp) (fun j hj => by simp only [decide_eq_decide]; omega) n (by omega) (fun j h1 h2 h3 => by simp at h3; omega), ← heap_textN n hn h b i (by omega)]
    unfold wHeap
    by_cases hd : b ∈ Wr i
    · rw [if_pos hd]; rfl
    · rw [if_neg hd]; exact hr.wr b hd
theorem order_spec (hok : orderOK ops F Wr = true) {D : Nat → Prop} (hcl : ∀ i (o : Oper), ops[i]? = some o → D i → ∀ e ∈ o.after, Region.binds .any e = true → D e.on)
    {i j : Nat} {oi oj : Oper} (hi : ops[i]? = some oi) (hj : ops[j]? = some oj) (hji : j < i) (hc : clash ops F Wr j i oj oi = true) (hD : D i) : D j := by
  unfold orderOK at hok
  have h1 := List.all_eq_true.1 hok i (List.mem_range.2 (Array.getElem?_eq_some_iff.1 hi).1)
  have h2 := List.all_eq_true.1 h1 j (List.mem_range.2 hji)
  rw [hj, hi] at h2
  simp only [hc, Bool.not_true, Bool.false_or] at h2
  have hlen : ∀ (os : List Oper) (acc : List Nat), (masks os acc).length = acc.length + os.length := by
    intro os
    induction os with
    | nil => intro acc; simp [masks]
    | cons o os ih => intro acc; simp [masks, ih]; omega
  have hlt : i < (masks ops.toList []).length := by
    rw [hlen]
    have := (Array.getElem?_eq_some_iff.1 hi).1
    simpa using this
  rw [List.getD_eq_getElem?_getD, List.getElem?_eq_getElem hlt] at h2
  refine masks_closed (D := D) ops.toList [] (fun k o ho hk => ?_) (by simp) i _ (List.getElem?_eq_getElem hlt) j h2 hD
  exact hcl k o (by simpa using ho) (by simpa using hk)
theorem any_region {Q : Exit → Act → World → Prop} {id : Nat} {st : St} (hreg : regOK nt.n ops = true) (hmix : P.follows .mixedOrders = true) (h0 : sts 0 = st) (hT : T = st.T)
    (h : ∀ j (o : Oper), ops[j]? = some o → OpRun P (dsts ops) (T + j) o (sts j) (F j) (Wr j) (sts (j + 1))) (hok : orderOK ops F Wr = true) {a : Act} {c : Cx} (hr : st.Rel nt a c)
    (hQ : ∀ a' c', ({ sts ops.size with T := st.T + ops.size } : St).Rel nt a' c' → Ev All All c c' → Q .normal a' c'.W)
    (hback : ∀ i (o : Oper), ops[i]? = some o → ∀ e ∈ o.after, Region.binds .any e = true → e.on < i) : (Code.region id ops true).wp P Q a c.W := by
  let eD : Array Bool → Nat → AV := fun l t => ov (fun j => l.getD j false) (wEnv ops sts t) (aget (sts 0).env t) ops.size
  let hD : Array Bool → Nat → Option Blk := fun l b => ov (fun j => l.getD j false) (wHeap sts Wr b) (hget (sts 0).heap b) ops.size
  let I : Array Bool → Act → World → Prop := fun l a w => ∃ c', c'.W = w ∧ Rel nt (eD l) (hD l) (fun e => e < T ∨ ∃ j, j < ops.size ∧ l.getD j false = true ∧ e = T + j) a c' ∧ Ev All All c c' ∧
    l.size = ops.size ∧ ∀ i (o : Oper), ops[i]? = some o → l.getD i false = true → ∀ e ∈ o.after, Region.binds .any e = true → l.getD e.on false = true
  have evd : ∀ (w : World), Ev All All c { c with W := { c.W with drawn := c.W.drawn + 1 } } := fun _ => ⟨rfl, rfl, rfl, Nat.le_refl _, fun _ _ _ => rfl, fun _ h => .inl h, fun _ h _ => h, fun _ _ h _ => h, fun _ _ => rfl, fun b L r hF hL hr' => .inl ⟨b, L, hF, hL, hr'⟩, fun _ h => h, fun _ h => .inl h⟩
  have ef : ∀ (l : Array Bool), (∀ j, l.getD j false = false) → ∀ {α : Type} (w : Nat → Option α) (x : α) n, ov (fun j => l.getD j false) w x n = x := by
    intro l hl α w x n
    induction n with
    | zero => rfl
    | succ n ih =>
      unfold ov
      rw [if_neg (by rw [hl]; simp)]
      exact ih
  have rep : ∀ j, (Array.replicate ops.size false).getD j false = false := fun j => by
    simp only [Array.getD_eq_getD_getElem?, Array.getElem?_replicate]
    split <;> rfl
  refine region_inv I hmix ?_ ?_ ?_
  · refine ⟨{ c with W := { c.W with drawn := c.W.drawn + 1 } }, rfl, ?_, evd c.W, by simp, fun i o ho hi => ?_⟩
    · have ok' : ({ c with W := { c.W with drawn := c.W.drawn + 1 } } : Cx).Ok := ⟨hr.ok.inj, hr.ok.sub, hr.ok.bnd, hr.ok.used, hr.ok.glob⟩
      refine ⟨ok', hr.tmps, hr.defers, fun t ht => ?_, fun b blk hb => ?_, fun e he => .inl (by have := hr.used e he; rw [hT]; exact this)⟩
      · show VR _ (ov _ _ _ _) _
        rw [ef _ rep, h0]
        exact (hr.env t ht).mono hr.ok (evd c.W)
      · have hb' : ov (fun j => (Array.replicate ops.size false).getD j false) (wHeap sts Wr b) (hget (sts 0).heap b) ops.size = some blk := hb
        rw [ef _ rep, h0] at hb'
        have := hr.heap b blk hb'
        exact BR.mono (c := c) (c' := { c with W := { c.W with drawn := c.W.drawn + 1 } }) (F := fun _ => False) (N := All) hr.ok ⟨rfl, rfl, rfl, Nat.le_refl _, fun _ _ _ => rfl, fun _ h => .inl h, fun _ h _ => h, fun _ _ h _ => h, fun _ _ => rfl, fun b L r hF hL hr' => .inl ⟨b, L, hF, hL, hr'⟩, fun _ h => h, fun _ h => .inl h⟩ (fun x => x) this
    · rw [rep] at hi; cases hi
  · rintro l a' w' hready ⟨c', rfl, hr', ev', hsz, hcl⟩
    have all : ∀ i, i < ops.size → l.getD i false = true := by
      intro i
      induction i using Nat.strongRecOn with
      | ind i ih =>
        intro hi
        cases hb : l.getD i false with
        | true => rfl
        | false =>
          exfalso
          have hu : l.getD i true = false := by
            have : i < l.size := by omega
            simpa [Array.getD_eq_getD_getElem?, this] using hb
          have : i ∈ Region.ready .any ops l := mem_ready.2 ⟨hu, ops[i], Array.getElem?_eq_getElem hi, fun e he hb2 => ih e.on (hback i _ (Array.getElem?_eq_getElem hi) e he hb2) (Nat.lt_trans (hback i _ (Array.getElem?_eq_getElem hi) e he hb2) hi)⟩
          rw [hready] at this
          cases this
    refine hQ a' c' ⟨hr'.ok, hr'.tmps, hr'.defers, fun t ht => ?_, fun b blk hb => ?_, fun e he => ?_⟩ ev'
    · have h1 := hr'.env t ht
      have h2 : eD l t = aget (sts ops.size).env t := by
        rw [env_text h t ops.size (Nat.le_refl _)]
        exact ov_congr _ (fun j hj _ => by rw [all j hj]; simp [hj])
      rw [← h2]; exact h1
    · refine hr'.heap b blk ?_
      have h2 : hD l b = hget (sts ops.size).heap b := by
        rw [heap_text h b ops.size (Nat.le_refl _)]
        exact ov_congr _ (fun j hj _ => by rw [all j hj]; simp [hj])
      rw [h2]; exact hb
    · rcases hr'.used e he with h1 | ⟨j, hj, _, rfl⟩
      · show e < st.T + ops.size; omega
      · show T + j < st.T + ops.size; omega
  · rintro l a' w' ⟨c', rfl, hr', ev', hsz, hcl⟩ i o ho hu hpre K hK
    have hi : i < ops.size := (Array.getElem?_eq_some_iff.1 ho).1
    have hf : l.getD i false = false := by
      have : i < l.size := by omega
      simpa [Array.getD_eq_getD_getElem?, this] using hu
    have hrun := h i o ho
    have hcl' : ∀ k (ok : Oper), ops[k]? = some ok → (l.setIfInBounds i true).getD k false = true → ∀ e ∈ ok.after, Region.binds .any e = true → (l.setIfInBounds i true).getD e.on false = true := by
      intro k ok hk hkD e he hb
      by_cases hki : i = k
      · subst hki
        rw [ho] at hk
        obtain rfl := Option.some.inj hk
        exact getD_set_true (hpre e he hb)
      · rw [getD_set_ne false hki] at hkD
        exact getD_set_true (hcl k ok hk hkD e he hb)
    have before : ∀ j (oj : Oper), ops[j]? = some oj → j < i → clash ops F Wr j i oj o = true → l.getD j false = true := fun j oj hj hji hc => by
      have := order_spec hok (D := fun k => (l.setIfInBounds i true).getD k false = true) (fun k ok hk hkD => hcl' k ok hk hkD) ho hj hji hc (by
        have : i < l.size := by omega
        simp [Array.getD_eq_getD_getElem?, Array.getElem?_setIfInBounds, this])
      rwa [getD_set_ne false (by omega)] at this
    have behind : ∀ j (oj : Oper), ops[j]? = some oj → i < j → clash ops F Wr i j o oj = true → l.getD j false = false := fun j oj hj hij hc => by
      cases hb : l.getD j false with
      | false => rfl
      | true =>
        have := order_spec hok (D := fun k => l.getD k false = true) (fun k ok hk hkD => hcl k ok hk hkD) hj ho hij hc hb
        rw [hf] at this; cases this
    have clash_dst : ∀ (oj : Oper) t, oj.dst = some t → t ∈ o.looksAt ops → ∀ j, clash ops F Wr j i oj o = true ∧ clash ops F Wr i j o oj = true := fun oj t hd ht j => by
      constructor
      · unfold clash; rw [hd]; simp [ht]
      · unfold clash; rw [hd]; simp [ht]
    have sameE : ∀ t ∈ o.looksAt ops, eD l t = aget (sts i).env t := fun t ht => by
      rw [env_text h t i (by omega)]
      refine ov_congr _ (fun j hj hw => ?_)
      unfold wEnv at hw
      cases hoj : ops[j]? with
      | none => rw [hoj] at hw; simp at hw
      | some oj =>
        rw [hoj] at hw
        simp only [Option.bind_some] at hw
        have hd : oj.dst = some t := by
          by_cases hd : oj.dst = some t
          · exact hd
          · rw [if_neg hd] at hw; exact absurd rfl hw
        have hc := clash_dst oj t hd ht j
        by_cases hji : j < i
        · rw [before j oj hoj hji hc.1]; simp [hji]
        · by_cases hij : i < j
          · rw [behind j oj hoj hij hc.2]; simp; omega
          · have : j = i := by omega
            subst this
            rw [hf]; simp
    have sameH : ∀ b ∈ F i, hD l b = hget (sts i).heap b := fun b hb => by
      rw [heap_text h b i (by omega)]
      refine ov_congr _ (fun j hj hw => ?_)
      unfold wHeap at hw
      have hbW : b ∈ Wr j := by
        by_cases hbW : b ∈ Wr j
        · exact hbW
        · rw [if_neg hbW] at hw; exact absurd rfl hw
      obtain ⟨oj, hoj⟩ : ∃ oj, ops[j]? = some oj := ⟨ops[j], Array.getElem?_eq_getElem hj⟩
      have m : meets (Wr j) (F i) = true := by unfold meets; exact List.any_eq_true.2 ⟨b, hbW, by simpa using hb⟩
      have hc1 : clash ops F Wr j i oj o = true := by unfold clash; rw [m]; simp
      have hc2 : clash ops F Wr i j o oj = true := by unfold clash; rw [m]; simp
      by_cases hji : j < i
      · rw [before j oj hoj hji hc1]; simp [hji]
      · by_cases hij : i < j
        · rw [behind j oj hoj hij hc2]; simp; omega
        · have : j = i := by omega
          subst this
          rw [hf]; simp
    have hset : ∀ j, j ≠ i → (l.setIfInBounds i true).getD j false = l.getD j false := fun j hj => getD_set_ne false (fun e => hj e.symm)
    have hseti : (l.setIfInBounds i true).getD i false = true := by
      have : i < l.size := by omega
      simp [Array.getD_eq_getD_getElem?, Array.getElem?_setIfInBounds, this]
    have nextE : ∀ t, eD (l.setIfInBounds i true) t = if o.dst = some t then aget (sts (i + 1)).env t else eD l t := fun t => by
      show ov _ _ _ _ = _
      rw [ov_set (D := fun j => l.getD j false) (i := i) hf hseti hset ops.size hi (fun j h1 h2 h3 h4 => ?_)]
      · unfold wEnv
        rw [ho]
        simp only [Option.bind_some]
        by_cases hd : o.dst = some t
        · rw [if_pos hd, if_pos hd]; rfl
        · rw [if_neg hd, if_neg hd]; rfl
      · obtain ⟨oj, hoj⟩ : ∃ oj, ops[j]? = some oj := ⟨ops[j], Array.getElem?_eq_getElem h2⟩
        unfold wEnv at h4 ⊢
        rw [ho] at h4
        rw [hoj]
        simp only [Option.bind_some] at h4 ⊢
        by_cases hd : oj.dst = some t
        · exfalso
          have hdi : o.dst = some t := by
            by_cases hdi : o.dst = some t
            · exact hdi
            · rw [if_neg hdi] at h4; exact (h4 rfl).elim
          have hc : clash ops F Wr i j o oj = true := by unfold clash; rw [hdi, hd]; simp
          rw [behind j oj hoj h1 hc] at h3
          cases h3
        · rw [if_neg hd]
    have nextH : ∀ b, hD (l.setIfInBounds i true) b = if b ∈ Wr i then hget (sts (i + 1)).heap b else hD l b := fun b => by
      show ov _ _ _ _ = _
      rw [ov_set (D := fun j => l.getD j false) (i := i) hf hseti hset ops.size hi (fun j h1 h2 h3 h4 => ?_)]
      · unfold wHeap
        by_cases hd : b ∈ Wr i
        · rw [if_pos hd, if_pos hd]; rfl
        · rw [if_neg hd, if_neg hd]; rfl
      · obtain ⟨oj, hoj⟩ : ∃ oj, ops[j]? = some oj := ⟨ops[j], Array.getElem?_eq_getElem h2⟩
        unfold wHeap at h4 ⊢
        by_cases hd : b ∈ Wr j
        · exfalso
          have hdi : b ∈ Wr i := by
            by_cases hdi : b ∈ Wr i
            · exact hdi
            · rw [if_neg hdi] at h4; exact (h4 rfl).elim
          have m : meets (Wr i) (F j) = true := by unfold meets; exact List.any_eq_true.2 ⟨b, hdi, by simpa using (h j oj hoj).sub b hd⟩
          have hc : clash ops F Wr i j o oj = true := by unfold clash; rw [m]; simp
          rw [behind j oj hoj h1 hc] at h3
          cases h3
        · rw [if_neg hd]
    refine op_step (regOK_spec hreg i o (by simpa using ho)) hrun hr' sameE sameH ?_ K Q (fun a'' c'' hr'' ev'' => hK a'' c''.W ?_)
    · rintro (h1 | ⟨j, hj, hlj, he⟩)
      · omega
      · have : j = i := by omega
        subst this
        rw [hf] at hlj; cases hlj
    · refine ⟨c'', rfl, ⟨hr''.ok, hr''.tmps, hr''.defers, fun t ht => by rw [nextE]; exact hr''.env t ht, fun b blk hb => hr''.heap b blk (by rw [nextH] at hb; exact hb), fun e he => ?_⟩, (Ev.trans hr.ok ev' ev'').wide (fun _ _ => trivial) (fun _ _ => trivial), by simpa using hsz, hcl'⟩
      rcases hr''.used e he with (h1 | ⟨j, hj, hlj, he⟩) | h1
      · exact .inl h1
      · refine .inr ⟨j, hj, ?_, he⟩
        exact getD_set_true hlj
      · exact .inr ⟨i, hi, hseti, h1⟩
theorem any_stop {Q : Exit → Act → World → Prop} {id : Nat} {st : St} (hreg : regOK nt.n ops = true) (hmix : P.follows .mixedOrders = true) (h0 : sts 0 = st) (hT : T = st.T)
    (p : Nat) (hpn : p < ops.size) (h : ∀ j (o : Oper), j < p → ops[j]? = some o → OpRun P (dsts ops) (T + j) o (sts j) (F j) (Wr j) (sts (j + 1))) {ch : List PanicEntry} {h' : List (Nat × Blk)} (hstop : ∀ o, ops[p]? = some o → OpStop P (dsts ops) (T + p) o (sts p) (F p) ch h') (hlate : lateOK ops p = true) (hok : orderOK ops F Wr = true) {a : Act} {c : Cx} (hr : st.Rel nt a c)
    (hQ : ∀ a' c', (⟨envKeep (dsts ops) st.env, h', st.T + ops.size⟩ : St).Rel nt a' c' → Ev All All c c' → Q (.panic ch) a' c'.W)
    (hback : ∀ i (o : Oper), ops[i]? = some o → ∀ e ∈ o.after, Region.binds .any e = true → e.on < i) : (Code.region id ops true).wp P Q a c.W := by
  let eD : Array Bool → Nat → AV := fun l t => ov (fun j => l.getD j false) (wEnv ops sts t) (aget (sts 0).env t) p
  let hD : Array Bool → Nat → Option Blk := fun l b => ov (fun j => l.getD j false) (wHeap sts Wr b) (hget (sts 0).heap b) p
  let I : Array Bool → Act → World → Prop := fun l a w => ∃ c', c'.W = w ∧ Rel nt (eD l) (hD l) (fun e => e < T ∨ ∃ j, j < ops.size ∧ l.getD j false = true ∧ e = T + j) a c' ∧ Ev All All c c' ∧
    l.size = ops.size ∧ l.getD p false = false ∧ ∀ i (o : Oper), ops[i]? = some o → l.getD i false = true → ∀ e ∈ o.after, Region.binds .any e = true → l.getD e.on false = true
  have evd : ∀ (w : World), Ev All All c { c with W := { c.W with drawn := c.W.drawn + 1 } } := fun _ => ⟨rfl, rfl, rfl, Nat.le_refl _, fun _ _ _ => rfl, fun _ h => .inl h, fun _ h _ => h, fun _ _ h _ => h, fun _ _ => rfl, fun b L r hF hL hr' => .inl ⟨b, L, hF, hL, hr'⟩, fun _ h => h, fun _ h => .inl h⟩
  have ef : ∀ (l : Array Bool), (∀ j, l.getD j false = false) → ∀ {α : Type} (w : Nat → Option α) (x : α) n, ov (fun j => l.getD j false) w x n = x := by
    intro l hl α w x n
    induction n with
    | zero => rfl
    | succ n ih =>
      unfold ov
      rw [if_neg (by rw [hl]; simp)]
      exact ih
  have rep : ∀ j, (Array.replicate ops.size false).getD j false = false := fun j => by
    simp only [Array.getD_eq_getD_getElem?, Array.getElem?_replicate]
    split <;> rfl
  refine region_inv I hmix ?_ ?_ ?_
  · refine ⟨{ c with W := { c.W with drawn := c.W.drawn + 1 } }, rfl, ?_, evd c.W, by simp, rep p, fun i o ho hi => ?_⟩
    · have ok' : ({ c with W := { c.W with drawn := c.W.drawn + 1 } } : Cx).Ok := ⟨hr.ok.inj, hr.ok.sub, hr.ok.bnd, hr.ok.used, hr.ok.glob⟩
      refine ⟨ok', hr.tmps, hr.defers, fun t ht => ?_, fun b blk hb => ?_, fun e he => .inl (by have := hr.used e he; rw [hT]; exact this)⟩
      · show VR _ (ov _ _ _ _) _
        rw [ef _ rep, h0]
        exact (hr.env t ht).mono hr.ok (evd c.W)
      · have hb' : ov (fun j => (Array.replicate ops.size false).getD j false) (wHeap sts Wr b) (hget (sts 0).heap b) p = some blk := hb
        rw [ef _ rep, h0] at hb'
        have := hr.heap b blk hb'
        exact BR.mono (c := c) (c' := { c with W := { c.W with drawn := c.W.drawn + 1 } }) (F := fun _ => False) (N := All) hr.ok ⟨rfl, rfl, rfl, Nat.le_refl _, fun _ _ _ => rfl, fun _ h => .inl h, fun _ h _ => h, fun _ _ h _ => h, fun _ _ => rfl, fun b L r hF hL hr' => .inl ⟨b, L, hF, hL, hr'⟩, fun _ h => h, fun _ h => .inl h⟩ (fun x => x) this
    · rw [rep] at hi; cases hi
  · rintro l a' w' hready ⟨c', rfl, hr', ev', hsz, hpf, hcl⟩
    have all : ∀ i, i < ops.size → l.getD i false = true := by
      intro i
      induction i using Nat.strongRecOn with
      | ind i ih =>
        intro hi
        cases hb : l.getD i false with
        | true => rfl
        | false =>
          exfalso
          have hu : l.getD i true = false := by
            have : i < l.size := by omega
            simpa [Array.getD_eq_getD_getElem?, this] using hb
          have : i ∈ Region.ready .any ops l := mem_ready.2 ⟨hu, ops[i], Array.getElem?_eq_getElem hi, fun e he hb2 => ih e.on (hback i _ (Array.getElem?_eq_getElem hi) e he hb2) (Nat.lt_trans (hback i _ (Array.getElem?_eq_getElem hi) e he hb2) hi)⟩
          rw [hready] at this
          cases this
    rw [all p hpn] at hpf; cases hpf
  · rintro l a' w' ⟨c', rfl, hr', ev', hsz, hpf, hcl⟩ i o ho hu hpre K hK
    have hi : i < ops.size := (Array.getElem?_eq_some_iff.1 ho).1
    have hf : l.getD i false = false := by
      have : i < l.size := by omega
      simpa [Array.getD_eq_getD_getElem?, this] using hu
    have hcl' : ∀ k (ok : Oper), ops[k]? = some ok → (l.setIfInBounds i true).getD k false = true → ∀ e ∈ ok.after, Region.binds .any e = true → (l.setIfInBounds i true).getD e.on false = true := by
      intro k ok hk hkD e he hb
      by_cases hki : i = k
      · subst hki
        rw [ho] at hk
        obtain rfl := Option.some.inj hk
        exact getD_set_true (hpre e he hb)
      · rw [getD_set_ne false hki] at hkD
        exact getD_set_true (hcl k ok hk hkD e he hb)
    have before : ∀ j (oj : Oper), ops[j]? = some oj → j < i → clash ops F Wr j i oj o = true → l.getD j false = true := fun j oj hj hji hc => by
      have := order_spec hok (D := fun k => (l.setIfInBounds i true).getD k false = true) (fun k ok hk hkD => hcl' k ok hk hkD) ho hj hji hc (by
        have : i < l.size := by omega
        simp [Array.getD_eq_getD_getElem?, Array.getElem?_setIfInBounds, this])
      rwa [getD_set_ne false (by omega)] at this
    have behind : ∀ j (oj : Oper), ops[j]? = some oj → i < j → clash ops F Wr i j o oj = true → l.getD j false = false := fun j oj hj hij hc => by
      cases hb : l.getD j false with
      | false => rfl
      | true =>
        have := order_spec hok (D := fun k => l.getD k false = true) (fun k ok hk hkD => hcl k ok hk hkD) hj ho hij hc hb
        rw [hf] at this; cases this
    have clash_dst : ∀ (oj : Oper) t, oj.dst = some t → t ∈ o.looksAt ops → ∀ j, clash ops F Wr j i oj o = true ∧ clash ops F Wr i j o oj = true := fun oj t hd ht j => by
      constructor
      · unfold clash; rw [hd]; simp [ht]
      · unfold clash; rw [hd]; simp [ht]
    have hle : i ≤ p := by
      apply Decidable.byContradiction
      intro hgt
      have h1 := List.all_eq_true.1 hlate i (List.mem_range.2 hi)
      simp only [Bool.or_eq_true, decide_eq_true_eq] at h1
      rcases h1 with h1 | h1
      · omega
      · have hlen : ∀ (os : List Oper) (acc : List Nat), (masks os acc).length = acc.length + os.length := by
          intro os
          induction os with
          | nil => intro acc; simp [masks]
          | cons o os ih => intro acc; simp [masks, ih]; omega
        have hlt2 : i < (masks ops.toList []).length := by rw [hlen]; simpa using hi
        rw [List.getD_eq_getElem?_getD, List.getElem?_eq_getElem hlt2] at h1
        have h2 := masks_closed (D := fun k => (l.setIfInBounds i true).getD k false = true) ops.toList [] (fun k o ho hk => hcl' k o (by simpa using ho) (by simpa using hk)) (by simp) i _ (List.getElem?_eq_getElem hlt2) p h1 (by
          have : i < l.size := by omega
          simp [Array.getD_eq_getD_getElem?, Array.getElem?_setIfInBounds, this])
        rw [getD_set_ne false (by omega), hpf] at h2
        cases h2
    have sameE : ∀ t ∈ o.looksAt ops, eD l t = aget (sts i).env t := fun t ht => by
      rw [env_textN p (by omega) h t i (by omega)]
      refine ov_congr _ (fun j hj hw => ?_)
      unfold wEnv at hw
      cases hoj : ops[j]? with
      | none => rw [hoj] at hw; simp at hw
      | some oj =>
        rw [hoj] at hw
        simp only [Option.bind_some] at hw
        have hd : oj.dst = some t := by
          by_cases hd : oj.dst = some t
          · exact hd
          · rw [if_neg hd] at hw; exact absurd rfl hw
        have hc := clash_dst oj t hd ht j
        by_cases hji : j < i
        · rw [before j oj hoj hji hc.1]; simp [hji]
        · by_cases hij : i < j
          · rw [behind j oj hoj hij hc.2]; simp; omega
          · have : j = i := by omega
            subst this
            rw [hf]; simp
    have sameH : ∀ b ∈ F i, hD l b = hget (sts i).heap b := fun b hb => by
      rw [heap_textN p (by omega) h b i (by omega)]
      refine ov_congr _ (fun j hj hw => ?_)
      unfold wHeap at hw
      have hbW : b ∈ Wr j := by
        by_cases hbW : b ∈ Wr j
        · exact hbW
        · rw [if_neg hbW] at hw; exact absurd rfl hw
      obtain ⟨oj, hoj⟩ : ∃ oj, ops[j]? = some oj := ⟨ops[j], Array.getElem?_eq_getElem (by omega)⟩
      have m : meets (Wr j) (F i) = true := by unfold meets; exact List.any_eq_true.2 ⟨b, hbW, by simpa using hb⟩
      have hc1 : clash ops F Wr j i oj o = true := by unfold clash; rw [m]; simp
      have hc2 : clash ops F Wr i j o oj = true := by unfold clash; rw [m]; simp
      by_cases hji : j < i
      · rw [before j oj hoj hji hc1]; simp [hji]
      · by_cases hij : i < j
        · rw [behind j oj hoj hij hc2]; simp; omega
        · have : j = i := by omega
          subst this
          rw [hf]; simp
    by_cases hip : i < p
    case neg =>
      obtain rfl : i = p := by omega
      refine op_stop (regOK_spec hreg i o (by simpa using ho)) (hstop o ho) hr' sameE sameH ?_ K Q (aget (envKeep (dsts ops) st.env)) (fun t => ?_) (fun c'' hr'' ev'' => hQ a' c'' ⟨hr''.ok, hr''.tmps, hr''.defers, hr''.env, hr''.heap, fun e he => ?_⟩ ((Ev.trans hr.ok ev' ev'').wide (fun _ _ => trivial) (fun _ _ => trivial)))
      · rintro (h1 | ⟨j, hj, hlj, he⟩)
        · omega
        · have : j = i := by omega
          subst this
          rw [hf] at hlj; cases hlj
      · rcases aget_keep (dsts ops) t st.env with h1 | ⟨h1, h2⟩
        · exact .inl h1
        · refine .inr (h2.trans ?_)
          have e0 : ∀ n, ov (fun j => l.getD j false) (wEnv ops sts t) (aget (sts 0).env t) n = aget (sts 0).env t := by
            intro n
            rw [ov_congr (D' := fun _ => false) _ (fun j _ hw => ?_)]
            · induction n with
              | zero => rfl
              | succ n ih => simpa [ov] using ih
            · exfalso
              unfold wEnv at hw
              cases hoj : ops[j]? with
              | none => rw [hoj] at hw; simp at hw
              | some oj =>
                rw [hoj] at hw
                simp only [Option.bind_some] at hw
                by_cases hd : oj.dst = some t
                · exact h1 (by rw [← hd]; exact List.mem_map.2 ⟨_, List.mem_of_getElem? (by simpa using hoj), rfl⟩)
                · rw [if_neg hd] at hw; exact hw rfl
          show aget st.env t = eD l t
          rw [← h0]
          exact (e0 _).symm
      · show e < st.T + ops.size
        rcases hr''.used e he with (h1 | ⟨j, hj, hlj, he⟩) | h1 <;> omega
    have hset : ∀ j, j ≠ i → (l.setIfInBounds i true).getD j false = l.getD j false := fun j hj => getD_set_ne false (fun e => hj e.symm)
    have hseti : (l.setIfInBounds i true).getD i false = true := by
      have : i < l.size := by omega
      simp [Array.getD_eq_getD_getElem?, Array.getElem?_setIfInBounds, this]
    have nextE : ∀ t, eD (l.setIfInBounds i true) t = if o.dst = some t then aget (sts (i + 1)).env t else eD l t := fun t => by
      show ov _ _ _ _ = _
      rw [ov_set (D := fun j => l.getD j false) (i := i) hf hseti hset p hip (fun j h1 h2 h3 h4 => ?_)]
      · unfold wEnv
        rw [ho]
        simp only [Option.bind_some]
        by_cases hd : o.dst = some t
        · rw [if_pos hd, if_pos hd]; rfl
        · rw [if_neg hd, if_neg hd]; rfl
      · obtain ⟨oj, hoj⟩ : ∃ oj, ops[j]? = some oj := ⟨ops[j], Array.getElem?_eq_getElem (by omega)⟩
        unfold wEnv at h4 ⊢
        rw [ho] at h4
        rw [hoj]
        simp only [Option.bind_some] at h4 ⊢
        by_cases hd : oj.dst = some t
        · exfalso
          have hdi : o.dst = some t := by
            by_cases hdi : o.dst = some t
            · exact hdi
            · rw [if_neg hdi] at h4; exact (h4 rfl).elim
          have hc : clash ops F Wr i j o oj = true := by unfold clash; rw [hdi, hd]; simp
          rw [behind j oj hoj h1 hc] at h3
          cases h3
        · rw [if_neg hd]
    have nextH : ∀ b, hD (l.setIfInBounds i true) b = if b ∈ Wr i then hget (sts (i + 1)).heap b else hD l b := fun b => by
      show ov _ _ _ _ = _
      rw [ov_set (D := fun j => l.getD j false) (i := i) hf hseti hset p hip (fun j h1 h2 h3 h4 => ?_)]
      · unfold wHeap
        by_cases hd : b ∈ Wr i
        · rw [if_pos hd, if_pos hd]; rfl
        · rw [if_neg hd, if_neg hd]; rfl
      · obtain ⟨oj, hoj⟩ : ∃ oj, ops[j]? = some oj := ⟨ops[j], Array.getElem?_eq_getElem (by omega)⟩
        unfold wHeap at h4 ⊢
        by_cases hd : b ∈ Wr j
        · exfalso
          have hdi : b ∈ Wr i := by
            by_cases hdi : b ∈ Wr i
            · exact hdi
            · rw [if_neg hdi] at h4; exact (h4 rfl).elim
          have m : meets (Wr i) (F j) = true := by unfold meets; exact List.any_eq_true.2 ⟨b, hdi, by simpa using (h j oj h2 hoj).sub b hd⟩
          have hc : clash ops F Wr i j o oj = true := by unfold clash; rw [m]; simp
          rw [behind j oj hoj h1 hc] at h3
          cases h3
        · rw [if_neg hd]
    have hrun := h i o hip ho
    refine op_step (regOK_spec hreg i o (by simpa using ho)) hrun hr' sameE sameH ?_ K Q (fun a'' c'' hr'' ev'' => hK a'' c''.W ?_)
    · rintro (h1 | ⟨j, hj, hlj, he⟩)
      · omega
      · have : j = i := by omega
        subst this
        rw [hf] at hlj; cases hlj
    · refine ⟨c'', rfl, ⟨hr''.ok, hr''.tmps, hr''.defers, fun t ht => by rw [nextE]; exact hr''.env t ht, fun b blk hb => hr''.heap b blk (by rw [nextH] at hb; exact hb), fun e he => ?_⟩, (Ev.trans hr.ok ev' ev'').wide (fun _ _ => trivial) (fun _ _ => trivial), by simpa using hsz, by rw [getD_set_ne false (by omega)]; exact hpf, hcl'⟩
      rcases hr''.used e he with (h1 | ⟨j, hj, hlj, he⟩) | h1
      · exact .inl h1
      · refine .inr ⟨j, hj, ?_, he⟩
        exact getD_set_true hlj
      · exact .inr ⟨i, hi, hseti, h1⟩
end
end Go.Proofs.YtinpnidokpjfhaaGreatDoor.AM
namespace Go.Proofs.YtinpnidokpjfhaaGreatDoor.AM
open Go.RowKit
set_option linter.unusedVariables false
set_option linter.unusedSimpArgs false
section
variable {P : Program} {o : Oper} {ρ : Operand → AV} {h : List (Nat × Blk)} {E : Nat} {v : AV}
theorem ostep_value {F : List Nat} (hh : ∀ (c : Cx) (a : Act), c.Ok → (∀ x ∈ o.op.operands.toList, VR c (ρ x) (a.eval x)) → (∀ b ∈ F, ∀ blk, hget h b = some blk → BR c b blk) → ∃ u, (execOp a.eval o).run P c.W = .ok (.value u) c.W ∧ VR c v u) :
    OStep P o ρ h F E v h := by
  intro c a ok hops hblk hE K Q hK
  obtain ⟨u, hrun, hv⟩ := hh c a ok hops hblk
  unfold Oper.wp
  rw [hrun]
  exact hK u c ok (Ev.refl _ _ _) hv hblk
def Cx.own (c : Cx) (W : World) (s : Nat) (L : Loc) (r : Nat) : Cx := { W := W, X := fun k => c.X k ∨ k = r, ι := fun b => if b = s then some L else c.ι b, U := fun e => c.U e ∨ e = L.ep }
structure Grows (w w' : World) : Prop where
  os : w'.os = w.os
  tape : w'.tape = w.tape
  output : w'.output = w.output
  size : w.heap.size ≤ w'.heap.size
  keep : ∀ k, k < w.heap.size → w'.heap[k]? = w.heap[k]?
theorem Grows.alloc (w : World) (x : Obj) : Grows w (w.alloc x) := ⟨rfl, rfl, rfl, by simp, fun k hk => Below.heap_alloc _ _ _ hk⟩
theorem Grows.trans {a b c : World} (h : Grows a b) (k : Grows b c) : Grows a c := ⟨k.os.trans h.os, k.tape.trans h.tape, k.output.trans h.output, Nat.le_trans h.size k.size, fun i hi => (k.keep i (Nat.lt_of_lt_of_le hi h.size)).trans (h.keep i hi)⟩
theorem Grows.drew (w : World) : Grows w { w with drawn := w.drawn + 1 } := ⟨rfl, rfl, rfl, Nat.le_refl _, fun _ _ => rfl⟩
section
variable {c : Cx} {W : World} {s r : Nat} {L : Loc}
theorem Cx.own_ok (ok : c.Ok) (g : Grows c.W W) (hr : L.rb = some r) (h1 : c.W.heap.size ≤ r) (h2 : r < W.heap.size) : (c.own W s L r).Ok where
  inj := fun b b' L1 L2 r' hb hb' hr1 hr2 => by
    simp only [Cx.own] at hb hb'
    split at hb <;> split at hb'
    · rename_i e1 e2; rw [e1, e2]
    · obtain rfl := Option.some.inj hb
      rw [hr] at hr1
      obtain rfl := Option.some.inj hr1
      have := ok.bnd _ (ok.sub b' L2 _ hb' hr2)
      omega
    · obtain rfl := Option.some.inj hb'
      rw [hr] at hr2
      obtain rfl := Option.some.inj hr2
      have := ok.bnd _ (ok.sub b L1 _ hb hr1)
      omega
    · exact ok.inj b b' L1 L2 r' hb hb' hr1 hr2
  sub := fun b L1 r' hb hr1 => by
    simp only [Cx.own] at hb ⊢
    split at hb
    · obtain rfl := Option.some.inj hb
      rw [hr] at hr1
      exact .inr (Option.some.inj hr1).symm
    · exact .inl (ok.sub b L1 r' hb hr1)
  bnd := fun k hk => by
    simp only [Cx.own] at hk ⊢
    rcases hk with hk | hk
    · exact Nat.lt_of_lt_of_le (ok.bnd k hk) g.size
    · omega
  used := fun b L1 hb => by
    simp only [Cx.own] at hb ⊢
    split at hb
    · obtain rfl := Option.some.inj hb
      exact .inr rfl
    · exact .inl (ok.used b L1 hb)
  glob := glob_kept ok (fun k hk hs => ⟨g.keep k hs, fun hx => by
    rcases hx with hx | hx
    · exact hk hx
    · omega⟩)
theorem Cx.own_ev (ok : c.Ok) (g : Grows c.W W) (hr : L.rb = some r) (h1 : c.W.heap.size ≤ r) (hE : ¬ c.U L.ep) : Ev (· ∈ [s]) (· = L.ep) c (c.own W s L r) where
  os := g.os
  tape := g.tape
  output := g.output
  size := g.size
  keep := fun k hk _ => g.keep k hk
  x1 := fun k hk => by
    rcases hk with hk | hk
    · exact .inl hk
    · exact .inr (by omega)
  x2 := fun k hk _ => .inl hk
  loc := fun b L' hb hU => by
    simp only [Cx.own] at hb
    split at hb
    · obtain rfl := Option.some.inj hb
      exact absurd hU hE
    · exact hb
  far := fun b hb => by
    have : b ≠ s := by simpa using hb
    simp only [Cx.own, if_neg this]
  blk := fun b L' r' hF hb hr' => by
    have : b = s := by simpa using hF
    simp only [Cx.own, if_pos this] at hb
    obtain rfl := Option.some.inj hb
    rw [hr] at hr'
    exact .inr (by have := Option.some.inj hr'; omega)
  u1 := fun e he => .inl he
  u2 := fun e he => he
end
def AV.cellB : AV → Bool
  | .top | .agg _ | .tup _ => false
  | .dat (.lit v) => v.oneCell'
  | _ => true
def flat : AV → Option (List AV)
  | .agg cs => if cs.all AV.cellB then some cs else none
  | x => if x.cellB then some [x] else none
theorem VR.oneCell {c : Cx} {x : AV} {u : Value} (hx : x.cellB = true) (hv : VR c x u) : u.oneCell' = true := by
  cases hv with
  | dat d u hd =>
    cases hd with
    | lit v => exact hx
    | lst => rfl
  | top u => cases hx
  | fp => rfl
  | ptr => rfl
  | slc => rfl
  | mp => rfl
  | fn => rfl
  | agg => cases hx
  | tup => cases hx
  | ifc => rfl
end
def tsz (P : Program) (t : TypeId) : Option Nat := (P.info? t).map (·.size)
def tby (P : Program) (t : TypeId) : Option Nat := (P.info? t).map (·.bytes)
def zeroOf (P : Program) (t : TypeId) : Option Value := (P.info? t).bind (·.zero)
def isAggT (P : Program) (t : TypeId) : Option Bool := (P.underlying t).map fun d => match d with | .struct _ | .array _ _ => true | _ => false
def fieldOf (P : Program) (t : TypeId) (f : Nat) : Option (Nat × TypeId) := match P.underlying t with
  | some (.struct fs) => (fs[f]?).map fun x => (x.offset, x.type)
  | _ => none
def elemT (P : Program) (t : TypeId) : Option TypeId := match P.underlying t with
  | some (.slice e) => some e
  | _ => none
section
variable {P : Program} {t : TypeId} (W : World)
theorem run_tsz {n : Nat} (h : tsz P t = some n) : (sizeOf t).run P W = .ok n W := by
  unfold tsz at h
  cases hi : P.info? t with
  | none => rw [hi] at h; cases h
  | some i => rw [hi] at h; simp at h; simp [sizeOf, typeInfo, hi, h]
theorem run_tinfo {n : Nat} (h : tby P t = some n) : ∃ i, P.info? t = some i ∧ i.bytes = n := by
  unfold tby at h
  cases hi : P.info? t with
  | none => rw [hi] at h; cases h
  | some i => rw [hi] at h; exact ⟨i, rfl, by simpa using h⟩
theorem run_zeroOf {z : Value} (h : zeroOf P t = some z) : (zeroValue t).run P W = .ok z W := by
  unfold zeroOf at h
  cases hi : P.info? t with
  | none => rw [hi] at h; cases h
  | some i => rw [hi] at h; simp at h; simp [zeroValue, typeInfo, hi, h]
theorem run_isAggT {g : Bool} (h : isAggT P t = some g) : (isAgg t).run P W = .ok g W := by
  unfold isAggT at h
  cases hi : P.underlying t with
  | none => rw [hi] at h; cases h
  | some d =>
    rw [hi] at h
    have hu := run_underlying hi W
    unfold isAgg
    rw [Sem.run_bind, hu]
    cases d <;> (simp at h; subst h; rfl)
theorem field_of {f : Nat} {off : Nat} {ft : TypeId} (h : fieldOf P t f = some (off, ft)) : ∃ fs x, P.underlying t = some (.struct fs) ∧ fs[f]? = some x ∧ x.offset = off ∧ x.type = ft := by
  unfold fieldOf at h
  split at h
  · rename_i fs hfs
    cases hx : fs[f]? with
    | none => rw [hx] at h; cases h
    | some x => rw [hx] at h; simp at h; exact ⟨fs, x, hfs, hx, h.1, h.2⟩
  · cases h
theorem elem_of {e : TypeId} (h : elemT P t = some e) : P.underlying t = some (.slice e) := by
  unfold elemT at h
  split at h
  · rename_i e' he; obtain rfl := Option.some.inj h; exact he
  · cases h
end
theorem add_at (k o n : Nat) : (⟨k, o, none⟩ : Addr).add n = ⟨k, o + n, none⟩ := by unfold Addr.add; split <;> simp_all
theorem run_loadVar {P : Program} {t : TypeId} {g : Bool} {n : Nat} {W : World} {k o : Nat} {us : List Value} (hg : isAggT P t = some g) (hn : tsz P t = some n) (hl : us.length = n) (h1 : g = false → n = 1)
    (hc : ∀ (j : Nat) u, us[j]? = some u → W.cell? ⟨k, o + j, none⟩ = some u) : (loadVar t ⟨k, o, none⟩).run P W = .ok (if g then .agg us.toArray else us.getD 0 undef) W := by
  unfold loadVar
  rw [Sem.run_bind, run_isAggT W hg, Result.andThen_ok]
  cases g with
  | true =>
    subst hl
    have h2 := run_loadCells_list (P := P) W ⟨k, o, none⟩ us (fun j v hj => by rw [add_at]; exact hc j v hj)
    simp only [if_true, Sem.run_bind, run_tsz W hn, Result.andThen_ok, h2]
    rfl
  | false =>
    have := h1 rfl
    match us, hl with
    | [u], _ =>
      have h0 := hc 0 u rfl
      rw [Nat.add_zero] at h0
      simp only [Bool.false_eq_true, if_false, run_load, h0]
      rfl
    | [], hl => simp at hl; omega
    | _ :: _ :: _, hl => simp at hl; omega
theorem CellsAt.cell {c : Cx} {r base size : Nat} {vs : List AV} (h : CellsAt c r base size vs) (j : Nat) (v : AV) (hj : vs[j]? = some v) : ∃ u, c.W.cell? ⟨r, base + j, none⟩ = some u ∧ VR c v u ∧ u.oneCell' = true := by
  obtain ⟨cs, el, fz, h1, h2, h3, h4, h5⟩ := h
  obtain ⟨u, hu, hv, hone⟩ := h5 j v hj
  exact ⟨u, by rw [cell_of_row c.W r (base + j) cs el fz h1]; exact hu, hv, hone⟩
structure Reads (c : Cx) (k o : Nat) (cs : List AV) (us : List Value) : Prop where
  len : us.length = cs.length
  cell : ∀ (j : Nat) u, us[j]? = some u → c.W.cell? ⟨k, o + j, none⟩ = some u
  rel : ∀ (j : Nat) v, cs[j]? = some v → VR c v (us.getD j undef)
  one : ∀ u ∈ us, u.oneCell' = true
theorem reads_of {c : Cx} {k o : Nat} {cs : List AV} (h : ∀ (j : Nat) v, cs[j]? = some v → ∃ u, c.W.cell? ⟨k, o + j, none⟩ = some u ∧ VR c v u ∧ u.oneCell' = true) : ∃ us, Reads c k o cs us := by
  refine ⟨(List.range cs.length).map fun j => (c.W.cell? ⟨k, o + j, none⟩).getD undef, by simp, fun j u hj => ?_, fun j v hj => ?_, fun u hu => ?_⟩
  · rw [List.getElem?_map] at hj
    by_cases hlt : j < cs.length
    · rw [List.getElem?_range hlt] at hj
      simp at hj
      obtain ⟨u', hu', _⟩ := h j _ (List.getElem?_eq_getElem hlt)
      rw [hu'] at hj ⊢
      simp at hj; rw [hj]
    · rw [List.getElem?_eq_none (by simp; omega)] at hj; cases hj
  · have hlt : j < cs.length := (List.getElem?_eq_some_iff.1 hj).1
    obtain ⟨u', hu', hv, _⟩ := h j v hj
    rw [List.getD_eq_getElem?_getD, List.getElem?_map, List.getElem?_range hlt]
    simp only [Option.map_some, Option.getD_some, hu']
    exact hv
  · obtain ⟨j, hj, rfl⟩ := List.mem_map.1 hu
    obtain ⟨u', hu', _, h1⟩ := h j _ (List.getElem?_eq_getElem (List.mem_range.1 hj))
    rw [hu']
    exact h1
def rdCells (h : List (Nat × Blk)) (b e i off n : Nat) : Option (List AV) := match hget h b with
  | some (.box ep cs) => if ep = e ∧ i = 0 ∧ off + n ≤ cs.length then some ((cs.drop off).take n) else none
  | some (.arr ep sz ds) => if ep = e then match ds[i]? with
    | some row => if off + n ≤ row.length then some (((row.drop off).take n).map .dat) else none
    | none => none
    else none
  | _ => none
theorem flatten_at {α : Type} : ∀ (ds : List (List α)) (sz : Nat), (∀ r ∈ ds, r.length = sz) → ∀ (i : Nat) row, ds[i]? = some row → ∀ (j : Nat) v, row[j]? = some v → ds.flatten[i * sz + j]? = some v
  | [], _, _, i, row, h, _, _, _ => by simp at h
  | d :: ds, sz, hl, 0, row, h, j, v, hj => by
    obtain rfl := Option.some.inj h
    have := (List.getElem?_eq_some_iff.1 hj).1
    rw [List.flatten_cons, Nat.zero_mul, Nat.zero_add, List.getElem?_append_left this]
    exact hj
  | d :: ds, sz, hl, i + 1, row, h, j, v, hj => by
    have hd := hl d List.mem_cons_self
    rw [List.flatten_cons, List.getElem?_append_right (by rw [hd, Nat.succ_mul]; omega)]
    have := flatten_at ds sz (fun r hr => hl r (List.mem_cons_of_mem _ hr)) i row (by simpa using h) j v hj
    rw [hd, show (i + 1) * sz + j - sz = i * sz + j by rw [Nat.succ_mul]; omega]
    exact this
theorem rdCells_spec {h : List (Nat × Blk)} {b e i off n : Nat} {cs : List AV} (hrd : rdCells h b e i off n = some cs) {c : Cx} (hb : ∀ blk, hget h b = some blk → BR c b blk) :
    cs.length = n ∧ ∃ L r, c.ι b = some L ∧ L.ep = e ∧ (n ≠ 0 → L.rb = some r) ∧ ∀ (j : Nat) v, cs[j]? = some v → ∃ u, c.W.cell? ⟨r, L.base + i * L.sz + off + j, none⟩ = some u ∧ VR c v u ∧ u.oneCell' = true := by
  unfold rdCells at hrd
  split at hrd
  · rename_i ep l hl
    split at hrd
    · rename_i hc
      obtain ⟨rfl, rfl, hle⟩ := hc
      obtain rfl := Option.some.inj hrd
      obtain ⟨L, r, hL, he, hr, hcell⟩ := hb _ hl
      refine ⟨by rw [List.length_take, List.length_drop]; omega, L, r, hL, he, fun _ => hr, fun j v hj => ?_⟩
      rw [Nat.zero_mul, Nat.add_zero, Nat.add_assoc]
      refine hcell.cell (off + j) v ?_
      rw [List.getElem?_take] at hj
      split at hj
      · rwa [List.getElem?_drop] at hj
      · cases hj
    · cases hrd
  · rename_i ep sz ds hl
    split at hrd
    · rename_i he
      subst he
      split at hrd
      · rename_i row hrow
        split at hrd
        · rename_i hle
          obtain rfl := Option.some.inj hrd
          obtain ⟨L, hL, he, hz, hrows, hnone, hcell⟩ := hb _ hl
          have hlen : (((row.drop off).take n).map AV.dat).length = n := by rw [List.length_map, List.length_take, List.length_drop]; omega
          cases hr : L.rb with
          | none => rw [hnone hr] at hrow; simp at hrow
          | some r =>
            refine ⟨hlen, L, r, hL, he, fun _ => hr, fun j v hj => ?_⟩
            rw [Nat.add_assoc, Nat.add_assoc]
            refine (hcell r hr).cell (i * L.sz + (off + j)) v ?_
            rw [List.getElem?_map] at hj ⊢
            rw [List.getElem?_take] at hj
            split at hj
            · rw [List.getElem?_drop] at hj
              cases hx : row[off + j]? with
              | none => rw [hx] at hj; cases hj
              | some x =>
                rw [hx] at hj
                rw [hz, flatten_at ds sz hrows i row hrow (off + j) x hx]
                exact hj
            · cases hj
        · cases hrd
      · cases hrd
    · cases hrd
  · cases hrd
def fin (g : Bool) (cs : List AV) : Option AV := if g then some (.agg cs) else match cs with
  | [v] => some v
  | _ => none
theorem fin_spec {g : Bool} {cs : List AV} {v : AV} (h : fin g cs = some v) {c : Cx} {us : List Value} (hl : us.length = cs.length) (hr : ∀ (j : Nat) v, cs[j]? = some v → VR c v (us.getD j undef)) :
    (g = false → cs.length = 1) ∧ VR c v (if g then .agg us.toArray else us.getD 0 undef) := by
  unfold fin at h
  cases g with
  | true =>
    rw [if_pos rfl] at h
    obtain rfl := Option.some.inj h
    rw [if_pos rfl]
    exact ⟨fun h => (by cases h), .agg cs us.toArray (by simpa using hl) (fun i x hx => by have := hr i x hx; simpa [Array.getD_eq_getD_getElem?, List.getD_eq_getElem?_getD] using this)⟩
  | false =>
    rw [if_neg (by simp)] at h
    rw [if_neg (by simp)]
    match cs, h with
    | [x], h =>
      obtain rfl := Option.some.inj h
      exact ⟨fun _ => rfl, hr 0 x rfl⟩
def aload (P : Program) (t : TypeId) (x : AV) (h : List (Nat × Blk)) : Option (AV × List Nat) := match tsz P t, isAggT P t with
  | some n, some g => match x with
    | .ptr b e i off => match rdCells h b e i off n with
      | some cs => (fin g cs).map (·, [b])
      | none => none
    | .fp cs => if n ≤ cs.length then (fin g ((cs.take n).map .dat)).map (·, []) else none
    | _ => none
  | _, _ => none
theorem aload_spec {P : Program} {h : List (Nat × Blk)} {v : AV} {t : TypeId} {y : AV} {F : List Nat} (hl : aload P t y h = some (v, F)) {c : Cx} {u : Value} (hx : VR c y u) (hblk : ∀ b ∈ F, ∀ blk, hget h b = some blk → BR c b blk) :
    ∃ A w, u = .pointer (some A) ∧ (loadVar t A).run P c.W = .ok w c.W ∧ VR c v w := by
  unfold aload at hl
  cases hn : tsz P t with
  | none => rw [hn] at hl; cases hl
  | some n =>
    cases hg : isAggT P t with
    | none => rw [hn, hg] at hl; cases hl
    | some g =>
      rw [hn, hg] at hl
      simp only at hl
      split at hl
      · rename_i b e i off
        cases hrd : rdCells h b e i off n with
        | none => rw [hrd] at hl; cases hl
        | some cs =>
          rw [hrd] at hl
          simp only at hl
          cases hf : fin g cs with
          | none => rw [hf] at hl; cases hl
          | some v' =>
            rw [hf] at hl
            simp only [Option.map_some, Option.some.injEq, Prod.mk.injEq] at hl
            obtain ⟨rfl, rfl⟩ := hl
            obtain ⟨hlen, L, r, hL, he, hrb, hcell⟩ := rdCells_spec hrd (c := c) (fun blk hblk' => hblk b (by simp) blk hblk')
            cases hx with
            | ptr _ _ _ _ A hU hp =>
              obtain ⟨r', hr', hA⟩ := hp L hL he
              subst hA
              obtain ⟨us, hus⟩ := reads_of (c := c) (k := r') (o := L.base + i * L.sz + off) (cs := cs) (fun j v hj => by
                have h0 : n ≠ 0 := by have := (List.getElem?_eq_some_iff.1 hj).1; omega
                have := hrb h0
                rw [hr'] at this
                obtain rfl := Option.some.inj this
                exact hcell j v hj)
              obtain ⟨h1, hv⟩ := fin_spec hf hus.len hus.rel
              exact ⟨_, _, rfl, run_loadVar (P := P) (W := c.W) hg hn (hus.len.trans hlen) (fun h' => by rw [← hlen]; exact h1 h') hus.cell, hv⟩
      · rename_i cs
        split at hl
        · rename_i hle
          cases hf : fin g ((cs.take n).map .dat) with
          | none => rw [hf] at hl; cases hl
          | some v' =>
            rw [hf] at hl
            simp only [Option.map_some, Option.some.injEq, Prod.mk.injEq] at hl
            obtain ⟨rfl, rfl⟩ := hl
            cases hx with
            | fp _ k o' f hk hs hc hone hv =>
              have hlen : ((cs.take n).map AV.dat).length = n := by rw [List.length_map, List.length_take]; omega
              obtain ⟨us, hus⟩ := reads_of (c := c) (k := k) (o := o') (cs := (cs.take n).map .dat) (fun j v hj => by
                rw [List.getElem?_map, List.getElem?_take] at hj
                split at hj
                · cases hxj : cs[j]? with
                  | none => rw [hxj] at hj; cases hj
                  | some d =>
                    rw [hxj] at hj
                    obtain rfl := Option.some.inj hj
                    exact ⟨f j, hc j d hxj, .dat d _ (hv j d hxj), hone j d hxj⟩
                · cases hj)
              obtain ⟨h1, hv'⟩ := fin_spec hf hus.len hus.rel
              exact ⟨_, _, rfl, run_loadVar (P := P) (W := c.W) hg hn (hus.len.trans hlen) (fun h' => by rw [← hlen]; exact h1 h') hus.cell, hv'⟩
        · cases hl
      · cases hl
theorem os_load {P : Program} {o : Oper} {ρ : Operand → AV} {h : List (Nat × Blk)} {E : Nat} {v : AV} {t : TypeId} {x : Operand} {F : List Nat} (ho : o.op = .load t x) (hl : aload P t (ρ x) h = some (v, F)) : OStep P o ρ h F E v h := by
  refine ostep_value (fun c a ok hops hblk => ?_)
  have hx := hops x (by rw [ho]; simp [Op.operands])
  obtain ⟨A, w, hu, hrun, hv⟩ := aload_spec hl hx hblk
  exact ⟨w, by simp [execOp, ho, hu, Instr.loadAt, Instr.sureAddr, hrun], hv⟩
end Go.Proofs.YtinpnidokpjfhaaGreatDoor.AM
namespace Go.Proofs.YtinpnidokpjfhaaGreatDoor.AM
open Go.RowKit
set_option linter.unusedVariables false
set_option linter.unusedSimpArgs false
theorem flat_spec {x : AV} {cs : List AV} (h : flat x = some cs) {c : Cx} {u : Value} (hv : VR c x u) :
    u.cells.size = cs.length ∧ (∀ (j : Nat) v, cs[j]? = some v → VR c v (u.cells.getD j undef)) ∧ ∀ y ∈ u.cells.toList, y.oneCell' = true := by
  have one : ∀ {x : AV} {u : Value}, x.cellB = true → VR c x u → u.cells.size = [x].length ∧ (∀ (j : Nat) v, [x][j]? = some v → VR c v (u.cells.getD j undef)) ∧ ∀ y ∈ u.cells.toList, y.oneCell' = true := fun {x u} hx hv => by
    have h1 := hv.oneCell hx
    have hc : u.cells = #[u] := by
      cases u <;> first | rfl | (simp [Value.oneCell'] at h1)
    rw [hc]
    refine ⟨rfl, fun j v hj => ?_, fun y hy => ?_⟩
    · match j, hj with
      | 0, hj => obtain rfl := Option.some.inj hj; exact hv
    · simp at hy; rw [hy]; exact h1
  unfold flat at h
  cases x with
  | agg l =>
    simp only at h
    split at h
    · rename_i hall
      obtain rfl := Option.some.inj h
      cases hv with
      | agg _ us h1 k1 =>
        refine ⟨h1, k1, fun y hy => ?_⟩
        obtain ⟨j, hj⟩ := List.mem_iff_getElem?.1 hy
        have hlt : j < l.length := by
          have := (List.getElem?_eq_some_iff.1 hj).1
          simp [Value.cells] at this; omega
        have hx := k1 j _ (List.getElem?_eq_getElem hlt)
        have he : us.getD j undef = y := by
          simp only [Value.cells, Array.getElem?_toList] at hj
          simp [Array.getD_eq_getD_getElem?, hj]
        rw [he] at hx
        exact hx.oneCell (List.all_eq_true.1 hall _ (List.getElem_mem hlt))
    · cases h
  | top => simp [AV.cellB] at h
  | tup => simp [AV.cellB] at h
  | _ =>
    simp only at h
    split at h
    · rename_i hx
      obtain rfl := Option.some.inj h
      exact one hx hv
    · cases h
theorem heap_new (w : World) (x : Obj) : (w.alloc x).heap[w.heap.size]? = some x := by
  show (w.heap.push x)[w.heap.size]? = some x
  simp
section
variable {P : Program} {o : Oper} {ρ : Operand → AV} {h : List (Nat × Blk)} {E : Nat} {v : AV}
theorem ostep_new {s : Nat} {blk : Blk}
    (hh : ∀ (c : Cx) (a : Act), c.Ok → (∀ x ∈ o.op.operands.toList, VR c (ρ x) (a.eval x)) → ∃ u W L r, (execOp a.eval o).run P c.W = .ok (.value u) W ∧ Grows c.W W ∧ L.rb = some r ∧ L.ep = E ∧ c.W.heap.size ≤ r ∧ r < W.heap.size ∧
      (∀ c' : Cx, c' = c.own W s L r → c'.Ok → Ev (· ∈ [s]) (· = E) c c' → VR c' v u ∧ BR c' s blk)) : OStep P o ρ h [s] E v (hset h s blk) := by
  intro c a ok hops hblk hE K Q hK
  obtain ⟨u, W, L, r, hrun, hg, hr, hep, h1, h2, hc⟩ := hh c a ok hops
  unfold Oper.wp
  rw [hrun]
  have ok' := Cx.own_ok (s := s) ok hg hr h1 h2
  have ev := Cx.own_ev (s := s) ok hg hr h1 (by rw [hep]; exact hE)
  rw [hep] at ev
  obtain ⟨hv, hb⟩ := hc _ rfl ok' ev
  refine hK u _ ok' ev hv (fun b hb' blk' hblk' => ?_)
  have : b = s := by simpa using hb'
  subst this
  rw [hget_hset, if_pos rfl] at hblk'
  obtain rfl := Option.some.inj hblk'
  exact hb
theorem os_box {s : Nat} {elem : TypeId} {x : Operand} {cs : List AV} (ho : o.op = .box elem x) (hf : flat (ρ x) = some cs) : OStep P o ρ h [s] E (.ptr s E 0 0) (hset h s (.box E cs)) := by
  refine ostep_new (fun c a ok hops => ?_)
  have hx := hops x (by rw [ho]; simp [Op.operands])
  obtain ⟨hs, hr, h1⟩ := flat_spec hf hx
  refine ⟨.pointer (some ⟨c.W.heap.size, 0, none⟩), c.W.alloc (.cells (a.eval x).cells elem), ⟨some c.W.heap.size, 0, cs.length, E, 0⟩, c.W.heap.size, ?_, Grows.alloc _ _, rfl, rfl, Nat.le_refl _, by simp, ?_⟩
  · simp [execOp, ho, Instr.box, newVar, newRow, newObj, Sem.run]
  · rintro c' rfl ok' ev
    refine ⟨.ptr s E 0 0 _ (.inr rfl) (fun L hL he => ?_), ?_⟩
    · simp only [Cx.own, if_true] at hL
      obtain rfl := Option.some.inj hL
      exact ⟨_, rfl, rfl⟩
    · refine ⟨⟨some c.W.heap.size, 0, cs.length, E, 0⟩, c.W.heap.size, by simp [Cx.own], rfl, rfl, (a.eval x).cells, elem, (0, 0), heap_new _ _, hs, by simp, by simp, fun j v hj => ?_⟩
      have hlt : j < (a.eval x).cells.size := by rw [hs]; exact (List.getElem?_eq_some_iff.1 hj).1
      refine ⟨(a.eval x).cells[j], by simp [hlt], ?_, h1 _ (by simp)⟩
      have := (hr j v hj).mono ok ev
      simpa [Array.getD_eq_getD_getElem?, hlt] using this
theorem os_alloc {s : Nat} {elem : TypeId} {z : Value} {cs : List AV} (ho : o.op = .alloc elem) (hz : zeroOf P elem = some z) (hf : flat (ofConst z) = some cs) : OStep P o ρ h [s] E (.ptr s E 0 0) (hset h s (.box E cs)) := by
  refine ostep_new (fun c a ok hops => ?_)
  obtain ⟨hs, hr, h1⟩ := flat_spec hf (VR.ofConst c z)
  refine ⟨.pointer (some ⟨c.W.heap.size, 0, none⟩), c.W.alloc (.cells z.cells elem), ⟨some c.W.heap.size, 0, cs.length, E, 0⟩, c.W.heap.size, ?_, Grows.alloc _ _, rfl, rfl, Nat.le_refl _, by simp, ?_⟩
  · simp [execOp, ho, Instr.alloc, newVar, newRow, newObj, Sem.run, run_zeroOf c.W hz]
  · rintro c' rfl ok' ev
    refine ⟨.ptr s E 0 0 _ (.inr rfl) (fun L hL he => ?_), ?_⟩
    · simp only [Cx.own, if_true] at hL
      obtain rfl := Option.some.inj hL
      exact ⟨_, rfl, rfl⟩
    · refine ⟨⟨some c.W.heap.size, 0, cs.length, E, 0⟩, c.W.heap.size, by simp [Cx.own], rfl, rfl, z.cells, elem, (0, 0), heap_new _ _, hs, by simp, by simp, fun j v hj => ?_⟩
      have hlt : j < z.cells.size := by rw [hs]; exact (List.getElem?_eq_some_iff.1 hj).1
      refine ⟨z.cells[j], by simp [hlt], ?_, h1 _ (by simp)⟩
      have := (hr j v hj).mono ok ev
      simpa [Array.getD_eq_getD_getElem?, hlt] using this
theorem os_move {x : Operand} (ho : o.op = .move x) : OStep P o ρ h [] E (ρ x) h :=
  ostep_value (fun c a ok hops _ => ⟨a.eval x, by simp [execOp, ho], hops x (by rw [ho]; simp [Op.operands])⟩)
theorem os_assign {x : Operand} (ho : o.op = .assign x) : OStep P o ρ h [] E (ρ x) h :=
  ostep_value (fun c a ok hops _ => ⟨a.eval x, by simp [execOp, ho], hops x (by rw [ho]; simp [Op.operands])⟩)
theorem os_pick {x y z : Operand} {t : Bool} (ho : o.op = .pick x y z) (hx : ρ x = .lit (.bool t)) : OStep P o ρ h [] E (if t then ρ y else ρ z) h :=
  ostep_value (fun c a ok hops _ => by
    have h1 := hops x (by rw [ho]; simp [Op.operands])
    rw [hx] at h1
    have h2 := h1.lit_inv
    refine ⟨if t then a.eval y else a.eval z, by simp [execOp, ho, h2, asBool], ?_⟩
    cases t
    · exact hops z (by rw [ho]; simp [Op.operands])
    · exact hops y (by rw [ho]; simp [Op.operands]))
def live (h : List (Nat × Blk)) (b e : Nat) : Bool := match hget h b with
  | some (.box ep _) => ep == e
  | some (.arr ep _ _) => ep == e
  | _ => false
theorem live_spec {b e : Nat} (hl : live h b e = true) {c : Cx} (hb : ∀ blk, hget h b = some blk → BR c b blk) : ∃ L, c.ι b = some L ∧ L.ep = e := by
  unfold live at hl
  split at hl
  · rename_i ep cs hg
    obtain ⟨L, r, hL, he, _⟩ := hb _ hg
    exact ⟨L, hL, by rw [he]; simpa using hl⟩
  · rename_i ep sz ds hg
    obtain ⟨L, hL, he, _⟩ := hb _ hg
    exact ⟨L, hL, by rw [he]; simpa using hl⟩
  · cases hl
theorem os_fieldAddr {st : TypeId} {x : Operand} {f : Nat} {off : Nat} {ft : TypeId} {n : Nat} (ho : o.op = .fieldAddr st x f) (hf : fieldOf P st f = some (off, ft)) (hn : tsz P ft = some (n + 1)) {b e i k : Nat} (hx : ρ x = .ptr b e i k) (hl : live h b e = true) :
    OStep P o ρ h [b] E (.ptr b e i (k + off)) h :=
  ostep_value (fun c a ok hops hblk => by
    have h1 := hops x (by rw [ho]; simp [Op.operands])
    rw [hx] at h1
    generalize hu : a.eval x = u at h1
    obtain ⟨fs, fd, hfs, hfd, rfl, rfl⟩ := field_of hf
    obtain ⟨L, hL, he⟩ := live_spec hl (c := c) (hblk b (by simp))
    cases h1 with
    | ptr _ _ _ _ A hU hp =>
      obtain ⟨r, hr, rfl⟩ := hp L hL he
      refine ⟨.pointer (some ⟨r, L.base + i * L.sz + (k + fd.offset), none⟩), ?_, .ptr _ _ _ _ _ hU (fun L' hL' he' => ?_)⟩
      · simp [execOp, ho, hu, Instr.fieldAt, run_underlying hfs, hfd, Instr.sureAddr, fieldPlace, run_tsz c.W hn, add_at, Nat.add_assoc]
      · rw [hL] at hL'
        obtain rfl := Option.some.inj hL'
        exact ⟨r, hr, rfl⟩)
theorem os_fieldAddr_fp {st : TypeId} {x : Operand} {f : Nat} {off : Nat} {ft : TypeId} {n : Nat} (ho : o.op = .fieldAddr st x f) (hf : fieldOf P st f = some (off, ft)) (hn : tsz P ft = some (n + 1)) {cs : List Dat} (hx : ρ x = .fp cs) :
    OStep P o ρ h [] E (.fp (cs.drop off)) h :=
  ostep_value (fun c a ok hops hblk => by
    have h1 := hops x (by rw [ho]; simp [Op.operands])
    rw [hx] at h1
    generalize hu : a.eval x = u at h1
    obtain ⟨fs, fd, hfs, hfd, rfl, rfl⟩ := field_of hf
    cases h1 with
    | fp _ k o' f' hk hs hc hone hv =>
      refine ⟨.pointer (some ⟨k, o' + fd.offset, none⟩), ?_, .fp _ k (o' + fd.offset) (fun j => f' (fd.offset + j)) hk hs (fun j v hj => ?_) (fun j v hj => ?_) (fun j v hj => ?_)⟩
      · simp [execOp, ho, hu, Instr.fieldAt, run_underlying hfs, hfd, Instr.sureAddr, fieldPlace, run_tsz c.W hn, add_at]
      · rw [List.getElem?_drop] at hj
        rw [Nat.add_assoc]
        exact hc _ v hj
      · rw [List.getElem?_drop] at hj
        exact hone _ v hj
      · rw [List.getElem?_drop] at hj
        exact hv _ v hj)
def partOf (g : Bool) (n off : Nat) (cs : List AV) : Option AV := if off + n ≤ cs.length then fin g ((cs.drop off).take n) else none
theorem os_field {st : TypeId} {x : Operand} {f : Nat} {off : Nat} {ft : TypeId} {n : Nat} {g : Bool} (ho : o.op = .field st x f) (hf : fieldOf P st f = some (off, ft)) (hn : tsz P ft = some n) (hg : isAggT P ft = some g) {cs : List AV} (hx : ρ x = .agg cs) (hp : partOf g n off cs = some v) :
    OStep P o ρ h [] E v h :=
  ostep_value (fun c a ok hops hblk => by
    have h1 := hops x (by rw [ho]; simp [Op.operands])
    rw [hx] at h1
    generalize hu : a.eval x = u at h1
    obtain ⟨fs, fd, hfs, hfd, rfl, rfl⟩ := field_of hf
    unfold partOf at hp
    split at hp
    · rename_i hle
      cases h1 with
      | agg _ us hs k1 =>
        have hl : ((us.toList.drop fd.offset).take n).length = ((cs.drop fd.offset).take n).length := by
          simp only [List.length_take, List.length_drop, Array.length_toList, hs]
        have hget : ∀ (j : Nat) v, ((cs.drop fd.offset).take n)[j]? = some v → VR c v (((us.toList.drop fd.offset).take n).getD j undef) := fun j v hj => by
          rw [List.getElem?_take] at hj
          split at hj
          · rename_i hjn
            rw [List.getElem?_drop] at hj
            have := k1 _ v hj
            rw [List.getD_eq_getElem?_getD, List.getElem?_take, if_pos hjn, List.getElem?_drop]
            simpa [Array.getD_eq_getD_getElem?] using this
          · cases hj
        obtain ⟨h2, hv⟩ := fin_spec hp hl hget
        refine ⟨_, ?_, hv⟩
        cases g with
        | true =>
          have e : us.extract fd.offset (fd.offset + n) = ((us.toList.drop fd.offset).take n).toArray := by
            apply Array.ext'
            simp [Array.toList_extract, List.extract]
          simp [execOp, ho, hu, Instr.field, run_underlying hfs, hfd, asAgg, part, run_isAggT c.W hg, run_tsz c.W hn, e]
        | false =>
          have h3 := h2 rfl
          have h4 : n = 1 := by rw [List.length_take, List.length_drop] at h3; omega
          have h5 : fd.offset < us.size := by rw [hs]; omega
          simp [execOp, ho, hu, Instr.field, run_underlying hfs, hfd, asAgg, part, run_isAggT c.W hg, h5, h4]
    · cases hp)
def lput {α : Type} (l : List α) (off : Nat) (cs : List α) : List α := l.take off ++ cs ++ l.drop (off + cs.length)
theorem lput_length {α : Type} (l : List α) (off : Nat) (cs : List α) (h : off + cs.length ≤ l.length) : (lput l off cs).length = l.length := by
  simp only [lput, List.length_append, List.length_take, List.length_drop]; omega
theorem lput_get {α : Type} (l : List α) (off : Nat) (cs : List α) (h : off + cs.length ≤ l.length) (j : Nat) : (lput l off cs)[j]? = if off ≤ j ∧ j < off + cs.length then cs[j - off]? else l[j]? := by
  unfold lput
  by_cases h1 : j < off
  · rw [if_neg (by omega), List.append_assoc, List.getElem?_append_left (by rw [List.length_take]; omega), List.getElem?_take, if_pos h1]
  · by_cases h2 : j < off + cs.length
    · rw [if_pos ⟨by omega, h2⟩, List.append_assoc, List.getElem?_append_right (by rw [List.length_take]; omega), List.getElem?_append_left (by rw [List.length_take]; omega), List.length_take, Nat.min_eq_left (by omega)]
    · rw [if_neg (by omega), List.append_assoc, List.getElem?_append_right (by rw [List.length_take]; omega), List.getElem?_append_right (by rw [List.length_take]; omega), List.getElem?_drop, List.length_take, Nat.min_eq_left (by omega)]
      congr 1; omega
theorem flatten_len {α : Type} : ∀ (ds : List (List α)) (sz : Nat), (∀ r ∈ ds, r.length = sz) → ds.flatten.length = ds.length * sz
  | [], _, _ => by simp
  | d :: ds, sz, h => by
    rw [List.flatten_cons, List.length_append, h d List.mem_cons_self, flatten_len ds sz (fun r hr => h r (List.mem_cons_of_mem _ hr)), List.length_cons, Nat.succ_mul]; omega
theorem flatten_put {α : Type} : ∀ (ds : List (List α)) (sz : Nat), (∀ r ∈ ds, r.length = sz) → ∀ (i : Nat) row, ds[i]? = some row → ∀ (off : Nat) (dc : List α), off + dc.length ≤ row.length →
    (ds.set i (lput row off dc)).flatten = lput ds.flatten (i * sz + off) dc
  | [], _, _, i, row, h, _, _, _ => by simp at h
  | d :: ds, sz, hl, 0, row, h, off, dc, hle => by
    obtain rfl := Option.some.inj h
    have : d.length = sz := hl d List.mem_cons_self
    simp only [List.set_cons_zero, List.flatten_cons, lput, Nat.zero_mul, Nat.zero_add]
    rw [List.take_append_of_le_length (by omega), List.drop_append_of_le_length (by omega)]
    simp [List.append_assoc]
  | d :: ds, sz, hl, i + 1, row, h, off, dc, hle => by
    have hd : d.length = sz := hl d List.mem_cons_self
    have ih := flatten_put ds sz (fun r hr => hl r (List.mem_cons_of_mem _ hr)) i row (by simpa using h) off dc hle
    rw [List.set_cons_succ, List.flatten_cons, ih]
    unfold lput
    rw [List.flatten_cons]
    have e1 : (i + 1) * sz + off = d.length + (i * sz + off) := by rw [Nat.succ_mul, hd]; omega
    have t1 : (d ++ ds.flatten).take (d.length + (i * sz + off)) = d ++ ds.flatten.take (i * sz + off) := by
      rw [List.take_append, List.take_of_length_le (Nat.le_add_right _ _), Nat.add_sub_cancel_left]
    have t2 : (d ++ ds.flatten).drop (d.length + (i * sz + off) + dc.length) = ds.flatten.drop (i * sz + off + dc.length) := by
      rw [List.drop_append, List.drop_of_length_le (by omega), List.nil_append]
      congr 1; omega
    rw [e1, t1, t2]
    simp only [List.append_assoc]
theorem run_storeCells_own (g o : Nat) (t : TypeId) (fz : Nat × Nat) : ∀ (vs : List Value) (i : Nat) (cur : Array Value) (w : World), w.heap[g]? = some (.cells cur t fz) → (∀ k, k < cur.size → ¬ (fz.1 ≤ k ∧ k < fz.2)) → o + i + vs.length ≤ cur.size → (∀ v ∈ vs, v.oneCell' = true) →
    (storeCells ⟨g, o, none⟩ vs i).run P w = .ok () (w.setRow g (lput cur.toList (o + i) vs).toArray)
  | [], i, cur, w, hg, _, _, _ => by
    simp only [storeCells, lput, List.append_nil, List.length_nil, Nat.add_zero, List.take_append_drop, Array.toArray_toList]
    rw [setRow_self w g cur t fz hg]
    rfl
  | v :: rest, i, cur, w, hg, hfz, hl, h1 => by
    have hi : o + i < cur.size := by simp at hl; omega
    have hcell : w.cell? ⟨g, o + i, none⟩ = some cur[o + i] := by simp [World.cell?, hg, hi]
    have hfro : w.frozen? ⟨g, o + i, none⟩ = false := by
      obtain ⟨lo, hi'⟩ := fz
      have := hfz (o + i) hi
      simp only [World.frozen?, hg]
      simp at this ⊢
      omega
    have hst : (store ((⟨g, o, none⟩ : Addr).add i) v).run P w = .ok () (w.setRow g (cur.setIfInBounds (o + i) v)) := by
      rw [add_at, run_store P w _ v _ (h1 v (by simp)), hcell]
      simp [hfro, setCell_eq_setRow w g (o + i) cur t fz v hg]
    have ih := run_storeCells_own g o t fz rest (i + 1) (cur.setIfInBounds (o + i) v) (w.setRow g (cur.setIfInBounds (o + i) v)) (setRow_heap w g cur _ t fz hg) (by simpa using hfz) (by simp at hl ⊢; omega) (fun x hx => h1 x (by simp [hx]))
    simp only [storeCells, Sem.run_bind, hst, Result.andThen_ok, ih, setRow_setRow]
    congr 3
    apply List.ext_getElem?
    intro j
    rw [lput_get _ _ _ (by simp at hl ⊢; omega), lput_get _ _ _ (by simpa using hl)]
    by_cases hj : j = o + i
    · subst hj
      rw [if_neg (by omega), if_pos ⟨Nat.le_refl _, by simp⟩]
      simp [hi]
    · by_cases hj2 : o + (i + 1) ≤ j ∧ j < o + (i + 1) + rest.length
      · rw [if_pos hj2, if_pos ⟨by omega, by simp; omega⟩]
        rw [show j - (o + i) = (j - (o + (i + 1))) + 1 by omega, List.getElem?_cons_succ]
      · rw [if_neg hj2, if_neg (by simp; omega)]
        simp [Array.getElem?_setIfInBounds, Ne.symm hj]
def Cx.wrote (c : Cx) (W : World) : Cx := { c with W := W }
structure Wrote (c : Cx) (b r : Nat) (W : World) : Prop where
  os : W.os = c.W.os
  tape : W.tape = c.W.tape
  output : W.output = c.W.output
  size : W.heap.size = c.W.heap.size
  keep : ∀ k, k ≠ r → W.heap[k]? = c.W.heap[k]?
  loc : ∃ L, c.ι b = some L ∧ L.rb = some r
theorem Wrote.ok {c : Cx} {b r : Nat} {W : World} (ok : c.Ok) (w : Wrote c b r W) : (c.wrote W).Ok := ⟨ok.inj, ok.sub, fun k hk => by show k < W.heap.size; rw [w.size]; exact ok.bnd k hk, ok.used, glob_kept ok (fun k hk hs => ⟨w.keep k (fun e => by
    obtain ⟨L, hL, hr⟩ := w.loc
    exact hk (e ▸ ok.sub b L r hL hr)), hk⟩)⟩
theorem Wrote.ev {c : Cx} {b r : Nat} {W : World} {N : Nat → Prop} (w : Wrote c b r W) : Ev (· ∈ [b]) N c (c.wrote W) where
  os := w.os
  tape := w.tape
  output := w.output
  size := Nat.le_of_eq w.size.symm
  keep := fun k hk ho => by
    obtain ⟨L, hL, hr⟩ := w.loc
    exact w.keep k (fun e => ho b L (by simp) hL (by rw [hr, e]))
  x1 := fun _ h => .inl h
  x2 := fun _ h _ => h
  loc := fun _ _ h _ => h
  far := fun _ _ => rfl
  blk := fun b L r hF hL hr' => .inl ⟨b, L, hF, hL, hr'⟩
  u1 := fun _ h => h
  u2 := fun _ h => .inl h
theorem setRow_wrote {c : Cx} {b r : Nat} {L : Loc} (hL : c.ι b = some L) (hr : L.rb = some r) (cs : Array Value) : Wrote c b r (c.W.setRow r cs) :=
  ⟨rfl, rfl, rfl, by simp, fun k hk => setRow_other _ _ _ _ hk, L, hL, hr⟩
theorem CellsAt.put {c : Cx} (ok : c.Ok) {b r : Nat} {L : Loc} (hL : c.ι b = some L) (hr : L.rb = some r) {base size : Nat} {vs : List AV} (hc : CellsAt c r base size vs) {off : Nat} {cs : List AV} {us : List Value} (hle : off + cs.length ≤ vs.length) (hlen : us.length = cs.length)
    (hrel : ∀ (j : Nat) v, cs[j]? = some v → VR c v (us.getD j undef)) (h1 : ∀ u ∈ us, u.oneCell' = true) :
    ∃ W, (storeCells ⟨r, base + off, none⟩ us).run P c.W = .ok () W ∧ Wrote c b r W ∧ CellsAt (c.wrote W) r base size (lput vs off cs) := by
  obtain ⟨cur, el, fz, hg, hsz, hfz, hbs, hcell⟩ := hc
  have hrun := run_storeCells_own (P := P) r (base + off) el fz us 0 cur c.W hg (by rw [hsz]; exact hfz) (by rw [hsz, hlen]; omega) h1
  refine ⟨_, hrun, setRow_wrote hL hr _, (lput cur.toList (base + off + 0) us).toArray, el, fz, setRow_heap _ _ cur _ el fz hg, ?_, hfz, by rw [lput_length _ _ _ hle]; exact hbs, fun j v hj => ?_⟩
  · rw [List.size_toArray, lput_length _ _ _ (by rw [show cur.toList.length = size by simpa using hsz, hlen]; omega)]; simpa using hsz
  · have ev : Ev (· ∈ [b]) (fun _ => False) c (c.wrote (c.W.setRow r (lput cur.toList (base + off + 0) us).toArray)) := (setRow_wrote hL hr _).ev
    rw [lput_get _ _ _ hle] at hj
    rw [List.getElem?_toArray, lput_get _ _ _ (by rw [show cur.toList.length = size by simpa using hsz, hlen]; omega)]
    split at hj
    · rename_i hin
      have hlt0 : j - off < us.length := by rw [hlen]; exact (List.getElem?_eq_some_iff.1 hj).1
      refine ⟨us.getD (j - off) undef, ?_, (hrel _ v hj).mono ok ev, h1 _ (by rw [List.getD_eq_getElem?_getD, List.getElem?_eq_getElem hlt0]; exact List.getElem_mem hlt0)⟩
      have hlt : j - off < us.length := by rw [hlen]; exact (List.getElem?_eq_some_iff.1 hj).1
      rw [if_pos ⟨by omega, by omega⟩, show base + j - (base + off + 0) = j - off by omega, List.getD_eq_getElem?_getD, List.getElem?_eq_getElem hlt]
      rfl
    · rename_i hout
      obtain ⟨u, hu, hv, hone⟩ := hcell j v hj
      refine ⟨u, ?_, hv.mono ok ev, hone⟩
      rw [if_neg (by rw [hlen]; omega)]
      simpa using hu
def dats : List AV → Option (List Dat)
  | [] => some []
  | .dat d :: t => (dats t).map (d :: ·)
  | _ => none
theorem dats_spec : ∀ {cs : List AV} {dc : List Dat}, dats cs = some dc → cs = dc.map .dat
  | [], dc, h => by obtain rfl := Option.some.inj h; rfl
  | .dat d :: t, dc, h => by
    simp only [dats] at h
    cases ht : dats t with
    | none => rw [ht] at h; cases h
    | some l => rw [ht] at h; obtain rfl := Option.some.inj h; rw [dats_spec ht]; rfl
  | .top :: t, dc, h => by cases h
  | .fp _ :: t, dc, h => by cases h
  | .ptr _ _ _ _ :: t, dc, h => by cases h
  | .slc _ _ _ _ :: t, dc, h => by cases h
  | .mp _ _ :: t, dc, h => by cases h
  | .fn _ _ _ :: t, dc, h => by cases h
  | .agg _ :: t, dc, h => by cases h
  | .tup _ :: t, dc, h => by cases h
  | .ifc _ _ :: t, dc, h => by cases h
def astore (h : List (Nat × Blk)) (b e i off : Nat) (cs : List AV) : Option (List (Nat × Blk)) := match hget h b with
  | some (.box ep l) => if ep = e ∧ i = 0 ∧ off + cs.length ≤ l.length then some (hset h b (.box ep (lput l off cs))) else none
  | some (.arr ep sz ds) => if ep = e then match ds[i]?, dats cs with
    | some row, some dc => if off + dc.length ≤ row.length then some (hset h b (.arr ep sz (ds.set i (lput row off dc)))) else none
    | _, _ => none
    else none
  | _ => none
theorem os_store {ty : TypeId} {x y : Operand} {b e i off : Nat} {cs : List AV} {h' : List (Nat × Blk)} (ho : o.op = .store ty x y) (hx : ρ x = .ptr b e i off) (hf : flat (ρ y) = some cs) (hn : tsz P ty = some cs.length) (hs : astore h b e i off cs = some h') :
    OStep P o ρ h [b] E noVal h' := by
  intro c a ok hops hblk hE K Q hK
  have h1 := hops x (by rw [ho]; simp [Op.operands])
  have h2 := hops y (by rw [ho]; simp [Op.operands])
  rw [hx] at h1
  generalize hu : a.eval x = u at h1
  obtain ⟨hsz, hrel, hone⟩ := flat_spec hf h2
  have hlen : (a.eval y).cells.toList.length = cs.length := by rw [Array.length_toList]; exact hsz
  have hrel' : ∀ (j : Nat) v, cs[j]? = some v → VR c v ((a.eval y).cells.toList.getD j undef) := fun j v hj => by
    have := hrel j v hj
    simpa [Array.getD_eq_getD_getElem?, List.getD_eq_getElem?_getD] using this
  have close : ∀ (L : Loc) (r : Nat) (W : World), c.ι b = some L → L.ep = e → L.rb = some r → (storeCells ⟨r, L.base + i * L.sz + off, none⟩ (a.eval y).cells.toList).run P c.W = .ok () W → Wrote c b r W → (∀ blk, hget h' b = some blk → BR (c.wrote W) b blk) → o.wp P a c.W K Q := by
    intro L r W hL he hr hrun hw hb
    cases h1 with
    | ptr _ _ _ _ A hU hp =>
      obtain ⟨r', hr', rfl⟩ := hp L hL he
      rw [hr] at hr'
      obtain rfl := Option.some.inj hr'
      unfold Oper.wp
      have hrun' : (execOp a.eval o).run P c.W = .ok .skip W := by
        simp [execOp, ho, hu, Instr.storeAt, Instr.sureAddr, storeVar, run_tsz c.W hn, hsz, hrun]
      rw [hrun']
      refine hK undef (c.wrote W) (hw.ok ok) hw.ev (VR.noVal _) (fun b' hb' blk hblk' => ?_)
      have : b' = b := by simpa using hb'
      subst this
      exact hb blk hblk'
  unfold astore at hs
  split at hs
  · rename_i ep l hg
    split at hs
    · rename_i hc
      obtain ⟨rfl, rfl, hle⟩ := hc
      obtain rfl := Option.some.inj hs
      obtain ⟨L, r, hL, he, hr, hcell⟩ := hblk b (by simp) _ hg
      obtain ⟨W, hrun, hw, hc'⟩ := hcell.put (P := P) ok hL hr hle hlen hrel' hone
      refine close L r W hL he hr (by rw [Nat.zero_mul, Nat.add_zero]; exact hrun) hw (fun blk hblk' => ?_)
      rw [hget_hset, if_pos rfl] at hblk'
      obtain rfl := Option.some.inj hblk'
      exact ⟨L, r, hL, he, hr, hc'⟩
    · cases hs
  · rename_i ep sz ds hg
    split at hs
    · rename_i he0
      subst he0
      split at hs
      · rename_i row dc hrow hdc
        split at hs
        · rename_i hle
          obtain rfl := Option.some.inj hs
          obtain ⟨L, hL, he, hz, hrows, hnone, hcell⟩ := hblk b (by simp) _ hg
          have hcs := dats_spec hdc
          cases hr : L.rb with
          | none => rw [hnone hr] at hrow; simp at hrow
          | some r =>
            have hi := (List.getElem?_eq_some_iff.1 hrow).1
            have hrl : row.length = sz := hrows row (List.mem_of_getElem? hrow)
            have hbound : i * sz + off + cs.length ≤ (ds.flatten.map AV.dat).length := by
              rw [List.length_map, flatten_len ds sz hrows, hcs, List.length_map]
              have : (i + 1) * sz ≤ ds.length * sz := Nat.mul_le_mul_right _ hi
              rw [Nat.succ_mul] at this; omega
            obtain ⟨W, hrun, hw, hc'⟩ := (hcell r hr).put (P := P) ok hL hr hbound hlen hrel' hone
            refine close L r W hL he hr (by rw [hz, Nat.add_assoc]; exact hrun) hw (fun blk hblk' => ?_)
            rw [hget_hset, if_pos rfl] at hblk'
            obtain rfl := Option.some.inj hblk'
            refine ⟨L, hL, he, hz, fun r' hr' => ?_, fun hn' => (by rw [hr] at hn'; cases hn'), fun r' hr' => ?_⟩
            · rcases List.mem_or_eq_of_mem_set hr' with h3 | h3
              · exact hrows r' h3
              · rw [h3, lput_length _ _ _ hle, hrl]
            · rw [hr] at hr'
              obtain rfl := Option.some.inj hr'
              rw [flatten_put ds sz hrows i row hrow off dc hle]
              have e : (lput ds.flatten (i * sz + off) dc).map AV.dat = lput (ds.flatten.map AV.dat) (i * sz + off) cs := by
                rw [hcs]; simp [lput, List.map_take, List.map_drop]
              rw [e]; exact hc'
        · cases hs
      · cases hs
    · cases hs
  · cases hs
end
end Go.Proofs.YtinpnidokpjfhaaGreatDoor.AM
namespace Go.Proofs.YtinpnidokpjfhaaGreatDoor.AM
open Go.RowKit
set_option linter.unusedVariables false
set_option linter.unusedSimpArgs false
def post (nt : Nt) (Q : Exit → St → Prop) (c : Cx) : Exit → Act → World → Prop := fun ex a' w' => ∃ st' c', c'.W = w' ∧ Q ex st' ∧ st'.Rel nt a' c' ∧ Ev All All c c'
def AWP (P : Program) (nt : Nt) (cd : Code) (Q : Exit → St → Prop) (st : St) : Prop :=
  ∀ a c, st.Rel nt a c → cd.wp P (post nt Q c) a c.W
def qthen (next : St → Prop) (Q : Exit → St → Prop) : Exit → St → Prop
  | .normal, st => next st
  | e, st => Q e st
def qblk (id : Nat) (Q : Exit → St → Prop) : Exit → St → Prop
  | .exit id', st => if id' = id then Q .normal st else Q (.exit id') st
  | e, st => Q e st
section
variable {P : Program} {nt : Nt} {Q : Exit → St → Prop} {st : St}
theorem post_trans {c c1 : Cx} (ok : c.Ok) (ev : Ev All All c c1) {e : Exit} {a : Act} {w : World} (h : post nt Q c1 e a w) : post nt Q c e a w := by
  obtain ⟨st', c', h1, h2, h3, h4⟩ := h
  exact ⟨st', c', h1, h2, h3, (Ev.trans ok ev h4).wide (fun _ _ => trivial) (fun _ _ => trivial)⟩
theorem awp_seq {x y : Code} (h : AWP P nt x (qthen (AWP P nt y Q) Q) st) : AWP P nt (.seq x y) Q st := fun a c hr => by
  refine wp_seq (wp_mono (h a c hr) (fun e a1 w1 ⟨st1, c1, h1, h2, h3, h4⟩ => ?_))
  subst h1
  cases e with
  | normal => exact wp_mono (h2 a1 c1 h3) (fun e a2 w2 hp => post_trans hr.ok h4 hp)
  | exit id => exact ⟨st1, c1, rfl, h2, h3, h4⟩
  | goto l => exact ⟨st1, c1, rfl, h2, h3, h4⟩
  | ret => exact ⟨st1, c1, rfl, h2, h3, h4⟩
  | panic ch => exact ⟨st1, c1, rfl, h2, h3, h4⟩
  | outgrown => exact ⟨st1, c1, rfl, h2, h3, h4⟩
theorem awp_skip (h : Q .normal st) : AWP P nt .skip Q st := fun a c hr => wp_skip ⟨st, c, rfl, h, hr, Ev.refl _ _ _⟩
theorem awp_exit {id : Nat} (h : Q (.exit id) st) : AWP P nt (.exit id) Q st := fun a c hr => wp_exit ⟨st, c, rfl, h, hr, Ev.refl _ _ _⟩
theorem awp_ret (h : Q .ret st) : AWP P nt .ret Q st := fun a c hr => wp_ret ⟨st, c, rfl, h, hr, Ev.refl _ _ _⟩
theorem awp_block {id : Nat} {cd : Code} (h : AWP P nt cd (qblk id Q) st) : AWP P nt (.block id cd) Q st := fun a c hr => by
  refine wp_block (wp_mono (h a c hr) (fun e a1 w1 ⟨st1, c1, h1, h2, h3, h4⟩ => ?_))
  cases e with
  | exit id' =>
    simp only [qblk] at h2
    simp only [Exit.inBlock]
    split at h2
    · rename_i hid; rw [if_pos hid]; exact ⟨st1, c1, h1, h2, h3, h4⟩
    · rename_i hid; rw [if_neg hid]; exact ⟨st1, c1, h1, h2, h3, h4⟩
  | normal => exact ⟨st1, c1, h1, h2, h3, h4⟩
  | goto l => exact ⟨st1, c1, h1, h2, h3, h4⟩
  | ret => exact ⟨st1, c1, h1, h2, h3, h4⟩
  | panic ch => exact ⟨st1, c1, h1, h2, h3, h4⟩
  | outgrown => exact ⟨st1, c1, h1, h2, h3, h4⟩
theorem awp_cond {t : Nat} {b : Bool} {x y : Code} (hv : aget st.env t = .lit (.bool b)) (hlt : t < nt.n) (h : AWP P nt (if b then x else y) Q st) : AWP P nt (.cond (.tmp t) x y) Q st := fun a c hr => by
  have h1 := hr.env t hlt
  rw [hv] at h1
  have h2 : a.eval (.tmp t) = .bool b := h1.lit_inv
  exact wp_cond h2 (h a c hr)
theorem awp_cond' {t : Nat} {b : Bool} {x y : Code} (hv : aget st.env t = .lit (.bool b)) (hlt : t < nt.n) (h1 : b = true → AWP P nt x Q st) (h2 : b = false → AWP P nt y Q st) : AWP P nt (.cond (.tmp t) x y) Q st :=
  awp_cond hv hlt (by cases b; · exact h2 rfl
                      · exact h1 rfl)
def Weak (nt : Nt) (st st' : St) : Prop := ∀ a c, st.Rel nt a c → ∃ c', c'.W = c.W ∧ st'.Rel nt a c' ∧ Ev All All c c'
theorem Weak.refl (nt : Nt) (st : St) : Weak nt st st := fun a c h => ⟨c, rfl, h, Ev.refl _ _ _⟩
theorem Weak.trans {st st' st'' : St} (h : Weak nt st st') (k : Weak nt st' st'') : Weak nt st st'' := fun a c hr => by
  obtain ⟨c1, h1, h2, h3⟩ := h a c hr
  obtain ⟨c2, k1, k2, k3⟩ := k a c1 h2
  exact ⟨c2, k1.trans h1, k2, (Ev.trans hr.ok h3 k3).wide (fun _ _ => trivial) (fun _ _ => trivial)⟩
theorem awp_weak {cd : Code} {st' : St} (hw : Weak nt st st') (h : AWP P nt cd Q st') : AWP P nt cd Q st := fun a c hr => by
  obtain ⟨c', h1, h2, h3⟩ := hw a c hr
  have := h a c' h2
  rw [h1] at this
  exact wp_mono this (fun e a' w' hp => post_trans hr.ok h3 hp)
theorem weak_of {st' : St} (hT : st.T ≤ st'.T) (henv : ∀ t, t < nt.n → aget st'.env t = .top ∨ aget st'.env t = aget st.env t) (hheap : ∀ b blk, hget st'.heap b = some blk → hget st.heap b = some blk) : Weak nt st st' := fun a c hr =>
  ⟨c, rfl, ⟨hr.ok, hr.tmps, hr.defers, fun t ht => by
    rcases henv t ht with h | h
    · rw [h]; exact .top _
    · rw [h]; exact hr.env t ht, fun b blk hb => hr.heap b blk (hheap b blk hb), fun e he => Nat.lt_of_lt_of_le (hr.used e he) hT⟩, Ev.refl _ _ _⟩
theorem exists_min {p : Nat → Prop} (h : ∃ n, p n) : ∃ n, p n ∧ ∀ m, p m → n ≤ m := by
  obtain ⟨n, hn⟩ := h
  induction n using Nat.strongRecOn with
  | ind n ih =>
    by_cases hx : ∃ m, m < n ∧ p m
    · obtain ⟨m, hm, hp⟩ := hx; exact ih m hm hp
    · exact ⟨n, hn, fun m hm => by
        rcases Nat.lt_or_ge m n with h | h
        · exact absurd ⟨m, h, hm⟩ hx
        · exact h⟩
theorem awp_loop {body : Code} (I : Nat → St → Prop) (n0 : Nat) (h0 : I n0 st)
    (hr : ∀ n st, I n st → AWP P nt body (qthen (fun st' => ∃ m, m < n ∧ ∃ st'', Weak nt st' st'' ∧ I m st'') Q) st) : AWP P nt (.loop body) Q st := fun a c hrel => by
  classical
  let p : Act → World → Nat → Prop := fun a' w' n => ∃ st' c', c'.W = w' ∧ I n st' ∧ st'.Rel nt a' c' ∧ Ev All All c c'
  let μ : Act → World → Nat := fun a' w' => if h : ∃ n, p a' w' n then Classical.choose (exists_min h) else 0
  have μ_le : ∀ a' w' n, p a' w' n → μ a' w' ≤ n := fun a' w' n hp => by
    have hex : ∃ n, p a' w' n := ⟨n, hp⟩
    show (if h : ∃ n, p a' w' n then Classical.choose (exists_min h) else 0) ≤ n
    rw [dif_pos hex]
    exact (Classical.choose_spec (exists_min hex)).2 n hp
  have μ_at : ∀ a' w', (∃ n, p a' w' n) → p a' w' (μ a' w') := fun a' w' hex => by
    show p a' w' (if h : ∃ n, p a' w' n then Classical.choose (exists_min h) else 0)
    rw [dif_pos hex]
    exact (Classical.choose_spec (exists_min hex)).1
  refine wp_loop (fun a' w' => ∃ n, p a' w' n) μ ⟨n0, st, c, rfl, h0, hrel, Ev.refl _ _ _⟩ (fun a1 w1 hI => ?_)
  obtain ⟨st1, c1, hw, hI1, hr1, ev1⟩ := μ_at a1 w1 hI
  subst hw
  refine wp_mono (hr _ st1 hI1 a1 c1 hr1) (fun e a2 w2 ⟨st2, c2, h1, h2, h3, h4⟩ => ?_)
  have ev2 := (Ev.trans hrel.ok ev1 h4).wide (F' := All) (N' := All) (fun _ _ => trivial) (fun _ _ => trivial)
  cases e with
  | normal =>
    obtain ⟨m, hm, st3, hwk, hI3⟩ := h2
    obtain ⟨c3, k1, k2, k3⟩ := hwk a2 c2 h3
    have hp : p a2 w2 m := ⟨st3, c3, k1.trans h1, hI3, k2, (Ev.trans hrel.ok ev2 k3).wide (fun _ _ => trivial) (fun _ _ => trivial)⟩
    exact ⟨⟨m, hp⟩, Nat.lt_of_le_of_lt (μ_le a2 w2 m hp) hm⟩
  | exit id => exact ⟨st2, c2, h1, h2, h3, ev2⟩
  | goto l => exact ⟨st2, c2, h1, h2, h3, ev2⟩
  | ret => exact ⟨st2, c2, h1, h2, h3, ev2⟩
  | panic ch => exact ⟨st2, c2, h1, h2, h3, ev2⟩
  | outgrown => exact ⟨st2, c2, h1, h2, h3, ev2⟩
abbrev Log := List (List Nat × List Nat)
inductive ARun (P : Program) (ds : List (Option Tmp)) (T : Nat) : Nat → List Oper → St → Log → St → Prop
  | nil (i : Nat) (st : St) : ARun P ds T i [] st [] st
  | cons (i : Nat) (o : Oper) (os : List Oper) (st st1 st2 : St) (F Wr : List Nat) (lg : Log) : OpRun P ds (T + i) o st F Wr st1 → ARun P ds T (i + 1) os st1 lg st2 → ARun P ds T i (o :: os) st ((F, Wr) :: lg) st2
theorem ARun.fns {ds : List (Option Tmp)} {T i : Nat} {os : List Oper} {st st2 : St} {lg : Log} (h : ARun P ds T i os st lg st2) :
    ∃ sts : Nat → St, sts 0 = st ∧ sts os.length = st2 ∧ ∀ j (o : Oper), os[j]? = some o → OpRun P ds (T + i + j) o (sts j) (lg.getD j ([], [])).1 (lg.getD j ([], [])).2 (sts (j + 1)) := by
  induction h with
  | nil i st => exact ⟨fun _ => st, rfl, rfl, fun j o hj => by simp at hj⟩
  | cons i o os st st1 st2 F Wr lg hop _ ih =>
    obtain ⟨sts, h0, h1, h2⟩ := ih
    refine ⟨fun j => match j with | 0 => st | j + 1 => sts j, rfl, h1, fun j o' hj => ?_⟩
    match j, hj with
    | 0, hj =>
      obtain rfl := Option.some.inj hj
      show OpRun P ds (T + i + 0) o st F Wr (sts 0)
      rw [h0]; exact hop
    | j + 1, hj =>
      have := h2 j o' (by simpa using hj)
      rw [show T + (i + 1) + j = T + i + (j + 1) by omega] at this
      exact this
structure Kont where
  k : St → Log → Prop
  s : Nat → List PanicEntry → List (Nat × Blk) → Log → Prop
def RunTo (P : Program) (ds : List (Option Tmp)) (T i : Nat) (os : List Oper) (st : St) (acc : Log) (K : Kont) : Prop :=
  (∃ lg st2, ARun P ds T i os st lg st2 ∧ K.k st2 (acc ++ lg)) ∨
  ∃ l1 o l2 lg st1 F ch h', os = l1 ++ o :: l2 ∧ ARun P ds T i l1 st lg st1 ∧ OpStop P ds (T + i + l1.length) o st1 F ch h' ∧ K.s (i + l1.length) ch h' (acc ++ lg ++ [(F, [])])
theorem RunTo.nil {ds : List (Option Tmp)} {T i : Nat} {acc : Log} {K : Kont} (h : K.k st acc) : RunTo P ds T i [] st acc K := .inl ⟨[], st, .nil _ _, by rw [List.append_nil]; exact h⟩
theorem RunTo.cons {ds : List (Option Tmp)} {T i : Nat} {o : Oper} {os : List Oper} {acc : Log} {K : Kont} {F Wr : List Nat} {st1 : St} (hop : OpRun P ds (T + i) o st F Wr st1)
    (h : RunTo P ds T (i + 1) os st1 (acc ++ [(F, Wr)]) K) : RunTo P ds T i (o :: os) st acc K := by
  rcases h with ⟨lg, st2, h1, h2⟩ | ⟨l1, o', l2, lg, st2, F', ch, h', h1, h2, h3, h4⟩
  · exact .inl ⟨(F, Wr) :: lg, st2, .cons i o os st st1 st2 F Wr lg hop h1, by rw [List.append_assoc] at h2; exact h2⟩
  · refine .inr ⟨o :: l1, o', l2, (F, Wr) :: lg, st2, F', ch, h', by rw [h1]; rfl, .cons i o l1 st st1 st2 F Wr lg hop h2, ?_, ?_⟩
    · rw [List.length_cons, show T + i + (l1.length + 1) = T + (i + 1) + l1.length by omega]; exact h3
    · rw [List.length_cons, show i + (l1.length + 1) = i + 1 + l1.length by omega]
      simpa [List.append_assoc] using h4
def kText (Q : Exit → St → Prop) (ds : List (Option Tmp)) (env : List (Nat × AV)) (T : Nat) : Kont := ⟨fun st2 _ => Q .normal { st2 with T := T }, fun _ ch h' _ => Q (.panic ch) ⟨envKeep ds env, h', T⟩⟩
def kAny (Q : Exit → St → Prop) (l : List Oper) (env : List (Nat × AV)) (T : Nat) : Kont := ⟨fun st2 lg => orderOK l.toArray (fun j => (lg.getD j ([], [])).1) (fun j => (lg.getD j ([], [])).2) = true ∧ Q .normal { st2 with T := T },
  fun p ch h' lg => orderOK l.toArray (fun j => (lg.getD j ([], [])).1) (fun j => (lg.getD j ([], [])).2) = true ∧ lateOK l.toArray p = true ∧ Q (.panic ch) ⟨envKeep (l.map (·.dst)) env, h', T⟩⟩
theorem kText_s {Q : Exit → St → Prop} {ds : List (Option Tmp)} {env : List (Nat × AV)} {T p : Nat} {ch : List PanicEntry} {h' : List (Nat × Blk)} {lg : Log} : (kText Q ds env T).s p ch h' lg = Q (.panic ch) ⟨envKeep ds env, h', T⟩ := rfl
theorem RunTo.nilT {ds dd : List (Option Tmp)} {T i T0 : Nat} {acc : Log} {Q : Exit → St → Prop} {env : List (Nat × AV)} (h : Q .normal { st with T := T0 }) : RunTo P ds T i [] st acc (kText Q dd env T0) := RunTo.nil h
theorem RunTo.nilA {ds : List (Option Tmp)} {T i T0 : Nat} {acc : Log} {Q : Exit → St → Prop} {l : List Oper} {env : List (Nat × AV)} (ho : orderOK l.toArray (fun j => (acc.getD j ([], [])).1) (fun j => (acc.getD j ([], [])).2) = true) (h : Q .normal { st with T := T0 }) : RunTo P ds T i [] st acc (kAny Q l env T0) := RunTo.nil ⟨ho, h⟩
theorem awp_text {id : Nat} {l : List Oper} (hreg : regOK nt.n l.toArray = true) (h : RunTo P (l.map (·.dst)) st.T 0 l st [] (kText Q (l.map (·.dst)) st.env (st.T + l.length))) : AWP P nt (.region id l.toArray false) Q st := fun a c hr => by
  rcases h with ⟨lg, st2, h1, h2⟩ | ⟨l1, o, l2, lg, st2, F, ch, h', h1, h2, h3, h4⟩
  · obtain ⟨sts, k0, k1, k2⟩ := h1.fns
    refine text_region hreg sts (fun j => (lg.getD j ([], [])).1) (fun j => (lg.getD j ([], [])).2) k0 (fun j o hj => by have := k2 j o (by simpa using hj); rwa [Nat.add_zero] at this) hr (fun a' c' hr' ev => ⟨_, c', rfl, h2, ?_, ev⟩)
    simp only [List.size_toArray, k1] at hr'
    exact hr'
  · obtain ⟨sts, k0, k1, k2⟩ := h2.fns
    refine text_stop hreg (l1 := l1) (l2 := l2) (o := o) (by simpa using h1) sts (fun j => (lg.getD j ([], [])).1) (fun j => (lg.getD j ([], [])).2) k0 (fun j o hj => by have := k2 j o hj; rwa [Nat.add_zero] at this) (Fp := F) (ch := ch) (h' := h') (by rw [k1]; rw [Nat.add_zero] at h3; exact h3) hr (fun a' c' hr' ev => ⟨_, c', rfl, h4, ?_, ev⟩)
    simp only [List.size_toArray] at hr'
    exact hr'
def backOK (ops : Array Oper) : Bool := (List.range ops.size).all fun i => match ops[i]? with | some o => o.after.all fun e => !(Region.binds .any e) || decide (e.on < i) | none => true
theorem backOK_spec {ops : Array Oper} (h : backOK ops = true) : ∀ (i : Nat) (o : Oper), ops[i]? = some o → ∀ e ∈ o.after, Region.binds .any e = true → e.on < i := fun i o ho e he hb2 => by
  have h1 := List.all_eq_true.1 h i (List.mem_range.2 (Array.getElem?_eq_some_iff.1 ho).1)
  simp only [ho] at h1
  have h2 := Array.all_eq_true_iff_forall_mem.1 h1 e he
  rw [hb2] at h2
  simpa using h2
theorem awp_any {id : Nat} {l : List Oper} (hreg : regOK nt.n l.toArray = true) (hmix : P.follows .mixedOrders = true) (hb : backOK l.toArray = true)
    (h : RunTo P (l.map (·.dst)) st.T 0 l st [] (kAny Q l st.env (st.T + l.length))) : AWP P nt (.region id l.toArray true) Q st := fun a c hr => by
  rcases h with ⟨lg, st2, h1, h2, h3⟩ | ⟨l1, o, l2, lg, st2, F, ch, h', h1, h2, h3, h4, h5, h6⟩
  · obtain ⟨sts, k0, k1, k2⟩ := h1.fns
    refine any_region (sts := sts) (F := fun j => (lg.getD j ([], [])).1) (Wr := fun j => (lg.getD j ([], [])).2) hreg hmix k0 rfl (fun j o hj => by have := k2 j o (by simpa using hj); rwa [Nat.add_zero] at this) h2 hr (fun a' c' hr' ev => ⟨_, c', rfl, h3, ?_, ev⟩) (backOK_spec hb)
    simp only [List.size_toArray, k1] at hr'
    exact hr'
  · obtain ⟨sts, k0, k1, k2⟩ := h2.fns
    have hlen : ∀ {i : Nat} {os : List Oper} {s s2 : St} {lg : Log}, ARun P (l.map (·.dst)) st.T i os s lg s2 → lg.length = os.length := by
      intro i os s s2 lg h
      induction h with
      | nil => rfl
      | cons i o os s s1 s2 F Wr lg _ _ ih => rw [List.length_cons, List.length_cons, ih]
    have hl := hlen h2
    have hat : ∀ (j : Nat), j < l1.length → l[j]? = l1[j]? := fun j hj => by rw [h1, List.getElem?_append_left hj]
    have hp : l[l1.length]? = some o := by rw [h1, List.getElem?_append_right (Nat.le_refl _), Nat.sub_self]; rfl
    have e1 : ∀ j, j < l1.length → ([] ++ lg ++ [(F, [])] : Log).getD j ([], []) = lg.getD j ([], []) := fun j hj => by
      simp only [List.nil_append, List.getD_eq_getElem?_getD]
      rw [List.getElem?_append_left (by omega)]
    have e2 : ([] ++ lg ++ [(F, [])] : Log).getD l1.length ([], []) = (F, []) := by
      simp only [List.nil_append, List.getD_eq_getElem?_getD]
      rw [List.getElem?_append_right (by omega), hl, Nat.sub_self]; rfl
    refine any_stop (sts := sts) (F := fun j => (([] ++ lg ++ [(F, [])] : Log).getD j ([], [])).1) (Wr := fun j => (([] ++ lg ++ [(F, [])] : Log).getD j ([], [])).2) hreg hmix k0 rfl l1.length (by have := (List.getElem?_eq_some_iff.1 hp).1; simpa using this)
      (fun j o hj ho => by have := k2 j o (by rw [← hat j hj]; simpa using ho); rw [Nat.add_zero] at this; simp only [e1 j hj]; exact this) (ch := ch) (h' := h') (fun o' ho' => by
        have : o' = o := by
          have h9 : l[l1.length]? = some o' := by simpa using ho'
          rw [hp] at h9; exact (Option.some.inj h9).symm
        subst this
        rw [k1]
        simp only [e2]
        rw [Nat.add_zero] at h3
        exact h3) (by rw [Nat.zero_add] at h5; exact h5) h4 hr (fun a' c' hr' ev => ⟨_, c', rfl, h6, ?_, ev⟩) (backOK_spec hb)
    simp only [List.size_toArray] at hr'
    exact hr'
inductive Closed : AV → Prop
  | dat (d : Dat) : Closed (.dat d)
  | fp (cs : List Dat) : Closed (.fp cs)
  | agg (cs : List AV) (h : ∀ x ∈ cs, Closed x) : Closed (.agg cs)
  | tup (cs : List AV) (h : ∀ x ∈ cs, Closed x) : Closed (.tup cs)
  | ifc (t : TypeId) (x : AV) (h : Closed x) : Closed (.ifc t x)
  | fn (f : Fn) (first captured : List AV) (h1 : ∀ x ∈ first, Closed x) (h2 : ∀ x ∈ captured, Closed x) : Closed (.fn f first captured)
abbrev bare (W : World) (X : Nat → Prop) : Cx := ⟨W, X, fun _ => none, fun _ => False⟩
def Glob (W : World) (X : Nat → Prop) : Prop := ∀ g o, G0 g = some o → HasG W g o ∧ ¬ X g
end
end Go.Proofs.YtinpnidokpjfhaaGreatDoor.AM
