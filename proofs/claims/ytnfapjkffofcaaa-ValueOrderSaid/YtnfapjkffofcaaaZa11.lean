/- Part 11 of the proof: words, contracts, plain laws. Laid by a program of this session (wip/tool/shake.py): what is needed of own and printed texts, in order. -/
import Derived.Test.YtnfapjkffofcaaaZa0
import Derived.Test.YtnfapjkffofcaaaZa1
import Derived.SizedLaws
import Derived.ChangeArms
import Derived.WideShapes
import Derived.Deep.Slices
import Derived.Laws.FloatBits
import Derived.Laws.Externs
import Derived.Test.YtnfapjkffofcaaaProg
import Derived.OrdersHeld
import Derived.Deep.RegionHeld3
import Derived.Laws.BitsLemmas
import Derived.RowKit
import Derived.Below
import Derived.Deep.Draws
import Derived.Deep.AppendLies
import Derived.Maps.AppendAt
import Derived.OwnWalk
import Derived.Laws.BytesArg
import Derived.Laws.MakeOwn
import Derived.Laws.OwnMore
import Derived.Deep.OwnRows
import Derived.Tactics
import Derived.Lib.ConvBytes
import Derived.Laws.Slices
import Derived.WalkKit
import Derived.KernelRfl
import Derived.RowKit3
import Derived.Deep.LoopGhost
import Derived.Deep.QuietTactic
import Derived.BigQuiet
import Derived.WideLaws
import Derived.Deep.DeepCutAuto
import Derived.Deep.CutBlock
import Derived.Laws.Rows
import Derived.Lib.AppendStr
import Derived.ArgAppend
import Derived.Laws.IdiomCopy
import Derived.Laws.StructEq
import Derived.Test.YtnfapjkffofcaaaZa2
import Derived.Test.YtnfapjkffofcaaaZa3
import Derived.Test.YtnfapjkffofcaaaZa4
import Derived.Test.YtnfapjkffofcaaaZa5
import Derived.Test.YtnfapjkffofcaaaZa6
import Derived.Test.YtnfapjkffofcaaaZa7
import Derived.Test.YtnfapjkffofcaaaZa8
import Derived.Test.YtnfapjkffofcaaaZa9
import Derived.Test.YtnfapjkffofcaaaZa10
import Derived.Laws.Bits64
namespace Go.Proofs.Ytnfapjkffofcaaa.OW
open Go.RowKit Go.WideShapes Go.Proofs.YtnfapjkffofcaaaW.PrintWords Go.Proofs.Ytnfapjkffofcaaa.FW
set_option linter.unusedVariables false
set_option linter.unusedSimpArgs false
structure Opens (P : Program) (t : TypeId) {α : Type} (d : Kd α) (B : α → Prop) : Prop where
  sz : P.cellsOf t = d.sz
  get : ∀ {H : Type} {enc : TypeId × Value → H} {w : World} {base : Nat} {spare : Nat → Bool} {held : Bool} {fuel : Nat} {cs : List Value} {x : DataW H × List MemPlace},
    DataW.trod enc P w base spare held fuel t cs = some x → (∀ n ∈ x.1.weights P t, n ≤ reachBytes) → ∃ y : α, d.K w y cs ∧ B y
section
variable {P : Program} {t e : TypeId} {α β γ : Type}
theorem opens_int {k : IntKind} (ht : P.underlying t = some (.int k)) (hs : P.cellsOf t = 1) : Opens P t (Kd.int k) (fun n => (Lit.int k n).wf = true) where
  sz := hs
  get := by
    intro H enc w base spare held fuel cs x h _
    obtain ⟨n, rfl, _, hw⟩ := DataW.trod_int ht h
    exact ⟨n, rfl, hw⟩
theorem opens_string (ht : P.underlying t = some .string) (hs : P.cellsOf t = 1) : Opens P t Kd.string (fun s => s.size ≤ 140737488351232) where
  sz := hs
  get := by
    intro H enc w base spare held fuel cs x h hw
    obtain ⟨s, rfl, rfl, _⟩ := DataW.trod_string ht h
    refine ⟨s, rfl, ?_⟩
    have := hw s.data.toList.length (by simp [DataW.weights])
    have h2 : reachBytes = 140737488351232 := rfl
    rw [h2, Array.length_toList] at this
    exact this
theorem opens_float (ht : P.underlying t = some (.float .f64)) (hs : P.cellsOf t = 1) : Opens P t Kd.float (fun b => b < 18446744073709551616) where
  sz := hs
  get := by
    intro H enc w base spare held fuel cs x h _
    cases fuel with
    | zero => simp [DataW.trod] at h
    | succ n =>
      unfold DataW.trod at h
      rw [ht] at h
      split at h <;> simp_all
      rename_i k b h1 k'
      obtain ⟨⟨h3, h4⟩, _⟩ := h
      subst h3
      subst k'
      exact ⟨b, rfl, by simpa [Lit.wf] using h4⟩
theorem list_of {α : Type} (n : Nat) (Q : Nat → α → Prop) (h : ∀ i, i < n → ∃ y, Q i y) : ∃ ys : List α, ys.length = n ∧ ∀ i y, ys[i]? = some y → Q i y := by
  induction n with
  | zero => exact ⟨[], rfl, fun i y hy => by simp at hy⟩
  | succ n ih =>
    obtain ⟨ys, hl, hq⟩ := ih (fun i hi => h i (by omega))
    obtain ⟨y, hy⟩ := h n (by omega)
    refine ⟨ys ++ [y], by simp [hl], fun i z hz => ?_⟩
    by_cases hi : i < n
    · rw [List.getElem?_append_left (by omega)] at hz
      exact hq i z hz
    · rw [List.getElem?_append_right (by omega)] at hz
      have : i - ys.length = 0 := by
        rcases Nat.eq_zero_or_pos (i - ys.length) with h0 | h0
        · exact h0
        · rw [List.getElem?_eq_none (by simp; omega)] at hz
          cases hz
      rw [this] at hz
      have : i = n := by omega
      subst this
      simp at hz
      subst hz
      exact hy
theorem mem_weightsAll {H : Type} : ∀ {ds : List (DataW H)} {d : DataW H}, d ∈ ds → ∀ n ∈ d.weights P e, n ∈ DataW.weightsAll P e ds
  | d0 :: ds, d, hd, n, hn => by
    simp only [DataW.weightsAll, List.mem_append]
    rcases List.mem_cons.1 hd with rfl | hd
    · exact .inl hn
    · exact .inr (mem_weightsAll hd n hn)
theorem cells?_at {w : World} {base : Nat} {a : Addr} {n : Nat} {cs : List Value} (h : w.cells? base a n = some cs) : cs.length = n ∧ ∀ i u, cs[i]? = some u → w.cell? (a.add i) = some u := by
  obtain ⟨_, h1, h2⟩ := World.cells?_some h
  refine ⟨h1, fun i u hu => ?_⟩
  have hi : i < cs.length := (List.getElem?_eq_some_iff.1 hu).1
  rw [h2 i (by omega)]
  exact hu
theorem opens_slice {d : Kd α} {B : α → Prop} (ht : P.underlying t = some (.slice e)) (hs : P.cellsOf t = 1) (he : Opens P e d B) (hp : 0 < d.sz) :
    Opens P t (Kd.slice e d) (fun xs => xs.length * P.bytesOf e ≤ 140737488351232 ∧ xs.length ≤ maxLen ∧ ∀ x ∈ xs, B x) where
  sz := hs
  get := by
    intro H enc w base spare held fuel cs x h hw
    rcases DataW.trod_slice ht h with ⟨rfl, _⟩ | ⟨a, len, cap, elems, rest, n, _, rfl, rfl, hb, hl, hm, hlen, hel, _, _⟩
    · exact ⟨[], ⟨none, 0, rfl, Nat.le_refl _, Kd.C_nil d w⟩, by simp, by simp, by simp⟩
    · have hw0 : ∀ n ∈ (DataW.slice (elems.map (·.1)) (rest.map (·.1))).weights P t, n ≤ reachBytes := hw
      simp only [DataW.weights, ht] at hw0
      have hex : ∀ i, i < len → ∃ y, (∃ c, c.length = d.sz ∧ d.K w y c ∧ ∀ j u, c[j]? = some u → w.cell? (a.add (i * d.sz + j)) = some u) ∧ B y := by
        intro i hi
        have h1 := hel i hi
        rw [List.getElem?_eq_getElem (by omega)] at h1
        obtain ⟨cs', hc, hx⟩ := Option.bind_eq_some_iff.1 h1
        obtain ⟨y, hk, hB⟩ := he.get hx (fun m hm' => hw0 m (List.mem_cons_of_mem _ (List.mem_append_left _ (mem_weightsAll (d := (elems[i]'(by omega)).1) (List.mem_map.2 ⟨_, List.getElem_mem _, rfl⟩) m hm'))))
        obtain ⟨hcl, hcc⟩ := cells?_at hc
        rw [he.sz] at hcl hcc
        refine ⟨y, ⟨cs', hcl, hk, fun j u hu => ?_⟩, hB⟩
        rw [← Deep.add_add]
        exact hcc j u hu
      obtain ⟨ys, hyl, hyq⟩ := list_of len _ hex
      subst hyl
      refine ⟨ys, ⟨some a, cap, rfl, hl, rfl, ?_, fun _ => ⟨a, rfl, fun j p hp => (hyq j p hp).1⟩⟩, ?_, ?_, ?_⟩
      · unfold maxLen at hm; omega
      · have h2 := hw0 _ List.mem_cons_self
        have h3 : reachBytes = 140737488351232 := rfl
        rw [h3, List.length_map, hlen] at h2
        exact Nat.le_trans (Nat.mul_le_mul_right _ (Nat.le_add_right _ _)) h2
      · exact Nat.le_trans hl hm
      · intro x hx
        obtain ⟨i, hi⟩ := List.mem_iff_getElem?.1 hx
        exact (hyq i x hi).2
structure OpensF (P : Program) (fs : List Field) (off : Nat) {α : Type} (d : Kd α) (B : α → Prop) : Prop where
  get : ∀ {H : Type} {enc : TypeId × Value → H} {w : World} {base : Nat} {spare : Nat → Bool} {held : Bool} {fuel : Nat} {cs : List Value} {xs : List (DataW H × List MemPlace)},
    xs.length = fs.length → (∀ (i : Nat) (f : Field), fs[i]? = some f → DataW.trod enc P w base spare held fuel f.type ((cs.drop f.offset).take (P.cellsOf f.type)) = xs[i]?) →
    (∀ n ∈ DataW.weightsEach P (fs.map (·.type)) (xs.map (·.1)), n ≤ reachBytes) → ∃ y : α, d.K w y ((cs.drop off).take d.sz) ∧ B y
theorem opensF_one {f : Field} {off : Nat} {d : Kd α} {B : α → Prop} (ho : f.offset = off) (hf : Opens P f.type d B) : OpensF P [f] off d B where
  get := by
    intro H enc w base spare held fuel cs xs hl h hw
    match xs, hl with
    | [x], _ =>
      have h0 := h 0 f rfl
      simp only [List.getElem?_cons_zero] at h0
      obtain ⟨y, hk, hB⟩ := hf.get h0 (fun n hn => hw n (by simp [DataW.weightsEach, hn]))
      rw [ho, hf.sz] at hk
      exact ⟨y, hk, hB⟩
theorem opensF_cons {f : Field} {fs : List Field} {off off' : Nat} {d : Kd α} {d' : Kd β} {B : α → Prop} {B' : β → Prop} (ho : f.offset = off) (hf : Opens P f.type d B) (hn : off' = off + d.sz) (hr : OpensF P fs off' d' B') :
    OpensF P (f :: fs) off (Kd.pair d d') (fun x => B x.1 ∧ B' x.2) where
  get := by
    intro H enc w base spare held fuel cs xs hl h hw
    match xs, hl with
    | x :: xs, hl =>
      have h0 := h 0 f rfl
      simp only [List.getElem?_cons_zero] at h0
      obtain ⟨y, hk, hB⟩ := hf.get h0 (fun n hn => hw n (by simp [DataW.weightsEach, hn]))
      obtain ⟨z, hk', hB'⟩ := hr.get (xs := xs) (by simpa using hl) (fun i g hg => by simpa using h (i + 1) g (by simpa using hg)) (fun n hn => hw n (by
        simp only [List.map_cons, DataW.weightsEach, List.mem_append]
        exact .inr hn))
      rw [ho, hf.sz] at hk
      refine ⟨(y, z), ⟨_, _, ?_, hk, hk'⟩, hB, hB'⟩
      subst hn
      show (cs.drop off).take (d.sz + d'.sz) = _
      rw [List.take_add, List.drop_drop]
theorem opens_struct {fs : Array Field} {d : Kd α} {B : α → Prop} (f : β → α) (g : α → β) (hg : ∀ a, f (g a) = a) (ht : P.underlying t = some (.struct fs)) (hs : P.cellsOf t = d.sz) (hf : OpensF P fs.toList 0 d B) :
    Opens P t (Kd.iso d f) (fun x => B (f x)) where
  sz := hs
  get := by
    intro H enc w base spare held fuel cs x h hw
    obtain ⟨xs, n, _, rfl, hl, hlen, hx⟩ := DataW.trod_struct ht h
    have hw0 : ∀ n ∈ (DataW.agg (xs.map (·.1))).weights P t, n ≤ reachBytes := hw
    simp only [DataW.weights, ht] at hw0
    obtain ⟨y, hk, hB⟩ := hf.get (cs := cs) (by simpa using hlen) (fun i f hf' => hx i f (by simpa using hf')) hw0
    refine ⟨g y, ?_, by rw [hg]; exact hB⟩
    show d.K w (f (g y)) cs
    rw [hg]
    rw [List.drop_zero, List.take_of_length_le (by rw [hl, hs]; exact Nat.le_refl _)] at hk
    exact hk
end
end Go.Proofs.Ytnfapjkffofcaaa.OW
namespace Go.Proofs.Ytnfapjkffofcaaa.TY
open Go.RowKit Go.WideShapes Go.Proofs.YtnfapjkffofcaaaW.PrintWords Go.Proofs.Ytnfapjkffofcaaa.FW Go.Proofs.Ytnfapjkffofcaaa.OW Go.Proofs.Ytnfapjkffofcaaa.PK
def B3 (n : Int) : Prop := (Lit.int .i64 n).wf = true
theorem op3 : Opens Try.prog 3 (Kd.int .i64) B3 := opens_int Try.underlying3 (by kernel_rfl)
def B9 (s : ByteArray) : Prop := s.size ≤ 140737488351232
theorem op9 : Opens Try.prog 9 Kd.string B9 := opens_string Try.underlying9 (by kernel_rfl)
def B24 (b : Nat) : Prop := b < 18446744073709551616
theorem op24 : Opens Try.prog 24 Kd.float B24 := opens_float Try.underlying24 (by kernel_rfl)
def B26 (x : S26) : Prop := B3 x.f0 ∧ B3 x.f1 ∧ B24 x.f2 ∧ B9 x.f3
theorem op26 : Opens Try.prog 26 k26 B26 := opens_struct _ (fun p => ⟨p.1, p.2.1, p.2.2.1, p.2.2.2⟩) (fun _ => rfl) Try.underlying26 (by kernel_rfl) (opensF_cons (off := 0) (off' := 1) rfl op3 rfl (opensF_cons (off := 1) (off' := 2) rfl op3 rfl (opensF_cons (off := 2) (off' := 3) rfl op24 rfl (opensF_one rfl op9))))
def B27 (xs : (List S26)) : Prop := xs.length * 40 ≤ 140737488351232 ∧ xs.length ≤ maxLen ∧ ∀ x ∈ xs, B26 x
theorem by27 : Try.prog.bytesOf 26 = 40 := by kernel_rfl
theorem op27 : Opens Try.prog 27 (Kd.slice 26 k26) B27 where
  sz := by kernel_rfl
  get := fun h hw => by
    obtain ⟨y, hK, h1, h2⟩ := (opens_slice Try.underlying27 (by kernel_rfl) op26 (by decide)).get h hw
    rw [by27] at h1
    exact ⟨y, hK, h1, h2⟩
def B29 (x : S29) : Prop := B26 x.f0 ∧ B27 x.f1
theorem op29 : Opens Try.prog 29 k29 B29 := opens_struct _ (fun p => ⟨p.1, p.2⟩) (fun _ => rfl) Try.underlying29 (by kernel_rfl) (opensF_cons (off := 0) (off' := 4) rfl op26 rfl (opensF_one rfl op27))
def B61 (x : S61) : Prop := B9 x.f0 ∧ B29 x.f1
def B48 (xs : (List S61)) : Prop := xs.length * 80 ≤ 140737488351232 ∧ xs.length ≤ maxLen ∧ ∀ x ∈ xs, B61 x
def B52 (x : S52) : Prop := B9 x.f0 ∧ B9 x.f1 ∧ B48 x.f2
end Go.Proofs.Ytnfapjkffofcaaa.TY
namespace Go.Proofs.Ytnfapjkffofcaaa.SValueOrder
open Go.RowKit Go.Proofs.YtnfapjkffofcaaaW.PrintWords Go.Proofs.Ytnfapjkffofcaaa.FW Go.Proofs.Ytnfapjkffofcaaa.OW Go.Proofs.Ytnfapjkffofcaaa.TY Go.Proofs.Ytnfapjkffofcaaa.PO Go.Proofs.Ytnfapjkffofcaaa.PK Go.Proofs.Ytnfapjkffofcaaa.G
def Pure : Prop := ∀ (y0 : S29) (y1 : S29) (y2 : S29), B29 y0 → B29 y1 → B29 y2 → ∃ k, cobweblaw03_ValueOrder.f k y0.f0.f0 y0.f0.f1 y0.f0.f2 y0.f0.f3 y0.f1 y1.f0.f0 y1.f0.f1 y1.f0.f2 y1.f0.f3 y1.f1 y2.f0.f0 y2.f0.f1 y2.f0.f2 y2.f0.f3 y2.f1 = some true
end Go.Proofs.Ytnfapjkffofcaaa.SValueOrder
namespace Go.Proofs.Ytnfapjkffofcaaa.ORD
open Go.RowKit Go.Proofs.YtnfapjkffofcaaaW.PrintWords Go.Proofs.Ytnfapjkffofcaaa.FW Go.Proofs.Ytnfapjkffofcaaa.FL Go.Proofs.Ytnfapjkffofcaaa.EV Go.Proofs.Ytnfapjkffofcaaa.PK Go.Proofs.Ytnfapjkffofcaaa.G
set_option linter.unusedVariables false
set_option linter.unusedSimpArgs false
structure Cmp {α : Type} (c : α → α → Int) : Prop where
  neg : ∀ x y, c y x = - c x y
  trans : ∀ x y z, c x y ≤ 0 → c y z ≤ 0 → c x z ≤ 0
theorem Cmp.refl {α : Type} {c : α → α → Int} (h : Cmp c) (x : α) : c x x = 0 := by have := h.neg x x; omega
theorem Cmp.strict {α : Type} {c : α → α → Int} (h : Cmp c) {x y z : α} (h1 : c x y ≤ 0) (h2 : c y z ≤ 0) (h0 : c x z = 0) : c x y = 0 ∧ c y z = 0 := by
  have a1 := h.neg x y
  have a2 := h.neg y z
  have a3 := h.neg x z
  have t1 := h.trans y z x h2 (by omega)
  have t2 := h.trans z x y (by omega) h1
  omega
theorem Cmp.lt {α : Type} {c : α → α → Int} (h : Cmp c) {x y z : α} (h1 : c x y < 0) (h2 : c y z ≤ 0) : c x z < 0 := by
  have t := h.trans x y z (by omega) h2
  rcases Int.lt_or_eq_of_le t with h3 | h3
  · exact h3
  · have := (h.strict (by omega) h2 h3).1
    omega
theorem cmp3_iff (x y : Int) : (cmp3 x y ≤ 0 ↔ x ≤ y) ∧ (cmp3 x y = 0 ↔ x = y) := by
  unfold cmp3
  (repeat' split) <;> omega
theorem Cmp.key {α : Type} (k : α → Int) : Cmp (fun x y => cmp3 (k x) (k y)) where
  neg x y := by have := cmp3_neg (k x) (k y); show cmp3 (k y) (k x) = - cmp3 (k x) (k y); omega
  trans x y z := by
    show cmp3 (k x) (k y) ≤ 0 → cmp3 (k y) (k z) ≤ 0 → cmp3 (k x) (k z) ≤ 0
    rw [(cmp3_iff (k x) (k y)).1, (cmp3_iff (k y) (k z)).1, (cmp3_iff (k x) (k z)).1]
    omega
theorem Cmp.comp {α β : Type} {c : α → α → Int} (h : Cmp c) (f : β → α) : Cmp (fun x y => c (f x) (f y)) where
  neg x y := h.neg _ _
  trans x y z := h.trans _ _ _
theorem Cmp.lex {α : Type} {a b : α → α → Int} (ha : Cmp a) (hb : Cmp b) : Cmp (fun x y => if a x y = 0 then b x y else a x y) where
  neg x y := by
    have h1 := ha.neg x y
    have h2 := hb.neg x y
    show (if a y x = 0 then b y x else a y x) = - (if a x y = 0 then b x y else a x y)
    by_cases h : a x y = 0
    · rw [if_pos h, if_pos (by omega)]; omega
    · rw [if_neg h, if_neg (by omega)]; omega
  trans x y z := by
    show (if a x y = 0 then b x y else a x y) ≤ 0 → (if a y z = 0 then b y z else a y z) ≤ 0 → (if a x z = 0 then b x z else a x z) ≤ 0
    intro h1 h2
    have k1 : a x y ≤ 0 := by split at h1 <;> omega
    have k2 : a y z ≤ 0 := by split at h2 <;> omega
    have k3 := ha.trans x y z k1 k2
    by_cases h : a x z = 0
    · obtain ⟨e1, e2⟩ := ha.strict k1 k2 h
      rw [if_pos e1] at h1
      rw [if_pos e2] at h2
      rw [if_pos h]
      exact hb.trans x y z h1 h2
    · rw [if_neg h]; exact k3
def lexG {α : Type} (c : α → α → Int) : List α → List α → Int
  | [], [] => 0
  | [], _ :: _ => -1
  | _ :: _, [] => 1
  | a :: s, b :: t => if c a b = 0 then lexG c s t else c a b
theorem Cmp.list {α : Type} {c : α → α → Int} (h : Cmp c) : Cmp (lexG c) where
  neg x := by
    induction x with
    | nil => intro y; cases y <;> simp [lexG]
    | cons a s ih =>
      intro y
      cases y with
      | nil => simp [lexG]
      | cons b t =>
        have h1 := h.neg a b
        have h2 := ih t
        simp only [lexG]
        by_cases h0 : c a b = 0
        · rw [if_pos h0, if_pos (by omega)]; exact h2
        · rw [if_neg h0, if_neg (by omega)]; exact h1
  trans x := by
    induction x with
    | nil => intro y z _ _; cases z <;> simp [lexG]
    | cons a s ih =>
      intro y z
      cases y with
      | nil => intro h1; simp [lexG] at h1
      | cons b t =>
        cases z with
        | nil => intro _ h2; simp [lexG] at h2
        | cons d u =>
          simp only [lexG]
          intro h1 h2
          have k1 : c a b ≤ 0 := by split at h1 <;> omega
          have k2 : c b d ≤ 0 := by split at h2 <;> omega
          have k3 := h.trans a b d k1 k2
          by_cases h0 : c a d = 0
          · obtain ⟨e1, e2⟩ := h.strict k1 k2 h0
            rw [if_pos e1] at h1
            rw [if_pos e2] at h2
            rw [if_pos h0]
            exact ih t u h1 h2
          · rw [if_neg h0]; exact k3
theorem lexG_zero {α : Type} {c : α → α → Int} : ∀ {x y : List α}, (∀ a ∈ x, ∀ b ∈ y, c a b = 0 → a = b) → lexG c x y = 0 → x = y
  | [], [], _, _ => rfl
  | [], _ :: _, _, h => by simp [lexG] at h
  | _ :: _, [], _, h => by simp [lexG] at h
  | a :: s, b :: t, hz, h => by
    simp only [lexG] at h
    by_cases h0 : c a b = 0
    · rw [if_pos h0] at h
      rw [hz a List.mem_cons_self b List.mem_cons_self h0, lexG_zero (fun a ha b hb => hz a (List.mem_cons_of_mem _ ha) b (List.mem_cons_of_mem _ hb)) h]
    · rw [if_neg h0] at h; exact absurd h h0
def cb (a b : UInt8) : Int := cmp3 (a.toNat : Int) (b.toNat : Int)
theorem Cmp_cb : Cmp cb := Cmp.key (fun a : UInt8 => (a.toNat : Int))
theorem cb_zero {a b : UInt8} (h : cb a b = 0) : a = b := by
  have := (cmp3_iff _ _).2.1 h
  exact UInt8.toNat_inj.1 (by omega)
theorem less_lex : ∀ (x y : List UInt8), Op.bytesLess x y = decide (lexG cb x y = -1)
  | [], [] => by simp [Op.bytesLess, lexG]
  | _ :: _, [] => by simp [Op.bytesLess, lexG]
  | [], _ :: _ => by simp [Op.bytesLess, lexG]
  | a :: x, b :: y => by
    rw [Op.bytesLess, less_lex x y]
    simp only [lexG]
    have hlt : a < b ↔ a.toNat < b.toNat := UInt8.lt_iff_toNat_lt
    have heq : a = b ↔ a.toNat = b.toNat := UInt8.toNat_inj.symm
    have hc : (cb a b = -1 ∧ a.toNat < b.toNat) ∨ (cb a b = 0 ∧ a.toNat = b.toNat) ∨ (cb a b = 1 ∧ b.toNat < a.toNat) := by
      rcases cmp3_cases (a.toNat : Int) (b.toNat : Int) with ⟨h1, h2⟩ | ⟨h1, h2⟩ | ⟨h1, h2⟩
      · exact .inl ⟨h1, by omega⟩
      · exact .inr (.inl ⟨h1, by omega⟩)
      · exact .inr (.inr ⟨h1, by omega⟩)
    rcases hc with ⟨h1, h2⟩ | ⟨h1, h2⟩ | ⟨h1, h2⟩
    · have n1 : a < b := hlt.2 h2
      simp [h1, n1]
    · have n2 : a = b := heq.2 h2
      subst n2
      simp [h1]
    · have n1 : ¬ a < b := by rw [hlt]; omega
      have n2 : ¬ a = b := by rw [heq]; omega
      simp [h1, n1, n2]
theorem lexcb_range : ∀ (x y : List UInt8), lexG cb x y = -1 ∨ lexG cb x y = 0 ∨ lexG cb x y = 1
  | [], [] => by simp [lexG]
  | _ :: _, [] => by simp [lexG]
  | [], _ :: _ => by simp [lexG]
  | a :: x, b :: y => by
    simp only [lexG]
    split
    · exact lexcb_range x y
    · rcases cmp3_cases (a.toNat : Int) (b.toNat : Int) with ⟨h1, h2⟩ | ⟨h1, h2⟩ | ⟨h1, h2⟩
      · exact .inl h1
      · exact .inr (.inl h1)
      · exact .inr (.inr h1)
theorem cmpText_lex (a b : ByteArray) : cmpText a b = lexG cb a.toList b.toList := by
  unfold cmpText
  rw [less_lex, less_lex]
  have h := Cmp_cb.list.neg a.toList b.toList
  rcases lexcb_range a.toList b.toList with h1 | h1 | h1 <;> rw [h1] at h ⊢ <;> simp [h]
theorem Cmp_text : Cmp cmpText := by
  have e : cmpText = fun a b : ByteArray => lexG cb a.toList b.toList := by funext a b; exact cmpText_lex a b
  rw [e]
  exact Cmp_cb.list.comp ByteArray.toList
theorem cmpText_zero {a b : ByteArray} (h : cmpText a b = 0) : a = b := by
  rw [cmpText_lex] at h
  exact toList_inj (lexG_zero (fun a _ b _ h => cb_zero h) h)
def K1 (a : Atom) : Int := if isNum a.f0 = true then nkey a else a.f1
def K2 (a : Atom) : Int := if isNum a.f0 = true then a.f0 else 0
def K3 (a : Atom) : ByteArray := if isNum a.f0 = true then ByteArray.empty else a.f3
theorem isNum_rank {k l : Int} (h : rankN k = rankN l) : isNum k = isNum l := by
  have e : ∀ k, isNum k = decide (rankN k = 2) := fun k => by
    unfold isNum rankN
    by_cases h2 : k = 2
    · subst h2; rfl
    · by_cases h3 : k = 3
      · subst h3; rfl
      · rw [if_neg h3]; simp [h2, h3]
  rw [e, e, h]
theorem atomsN_lex (a b : Atom) : atomsN a b = if cmp3 (rankN a.f0) (rankN b.f0) = 0 then (if cmp3 (K1 a) (K1 b) = 0 then (if cmp3 (K2 a) (K2 b) = 0 then cmpText (K3 a) (K3 b) else cmp3 (K2 a) (K2 b)) else cmp3 (K1 a) (K1 b)) else cmp3 (rankN a.f0) (rankN b.f0) := by
  unfold atomsN K1 K2 K3
  by_cases h : rankN a.f0 = rankN b.f0
  · rw [if_neg (by simpa using h), if_pos ((cmp3_iff _ _).2.2 h), ← isNum_rank h]
    cases isNum a.f0
    · simp only [Bool.false_eq_true, if_false, orN]
      rw [if_pos (show cmp3 0 0 = 0 from rfl)]
      split <;> (try split) <;> simp_all
    · simp only [if_true, orN]
      have : cmpText ByteArray.empty ByteArray.empty = 0 := Cmp_text.refl _
      rw [this]
  · rw [if_pos h, if_neg (fun e => h ((cmp3_iff _ _).2.1 e))]
theorem Cmp_atoms : Cmp atomsN := by
  have e : atomsN = fun a b : Atom => if cmp3 (rankN a.f0) (rankN b.f0) = 0 then (if cmp3 (K1 a) (K1 b) = 0 then (if cmp3 (K2 a) (K2 b) = 0 then cmpText (K3 a) (K3 b) else cmp3 (K2 a) (K2 b)) else cmp3 (K1 a) (K1 b)) else cmp3 (rankN a.f0) (rankN b.f0) := by funext a b; exact atomsN_lex a b
  rw [e]
  exact (Cmp.key (fun a : Atom => rankN a.f0)).lex ((Cmp.key K1).lex ((Cmp.key K2).lex (Cmp_text.comp K3)))
theorem empty_of {s : ByteArray} (h : s.toList.isEmpty = true) : s = ByteArray.empty := toList_inj (by rw [List.isEmpty_iff.1 h, ByteArray.toList_eq]; rfl)
theorem mval_inj {a b : Nat} (h : mval a = mval b) : a = b := by
  rcases Nat.lt_trichotomy a b with h1 | h1 | h1
  · have := mval_lt h1; omega
  · exact h1
  · have := mval_lt h1; omega
theorem mval_pos {a : Nat} (h : 0 < a) : 0 < mval a := by have := mval_lt h; rw [mval_zero] at this; exact this
theorem canon_key (b : Nat) (hb : b < 18446744073709551616) : (fkey b = TOP ∧ canonN b = 9221120237041090560) ∨ (fkey b = 0 ∧ canonN b = 0) ∨
    (∃ r : Nat, 0 < mval r ∧ (mval r : Int) < TOP ∧ fkey b = mval r ∧ canonN b = r) ∨ (∃ r : Nat, 0 < mval r ∧ (mval r : Int) < TOP ∧ fkey b = -(mval r : Int) ∧ canonN b = FL.S63 + r) := by
  have hs := sv_bound b
  rcases canon_parts b hb with ⟨n1, e1⟩ | ⟨n1, r1, e1⟩ | ⟨n1, p1, q1, g1, e1⟩ | ⟨n1, p1, q1, g1, e1⟩
  · exact .inl ⟨by unfold fkey; rw [n1]; rfl, e1⟩
  · refine .inr (.inl ⟨?_, e1⟩)
    unfold fkey sv
    rw [n1, r1, mval_zero]
    unfold sgn
    cases neg b <;> rfl
  · have e : sv b = mval (rung b) := by unfold sv sgn; rw [g1]; rfl
    refine .inr (.inr (.inl ⟨rung b, mval_pos p1, by rw [e] at hs; exact (hs n1).2, ?_, e1⟩))
    unfold fkey
    rw [n1, e]; rfl
  · have e : sv b = -(mval (rung b) : Int) := by unfold sv sgn; rw [g1]; rfl
    refine .inr (.inr (.inr ⟨rung b, mval_pos p1, by rw [e] at hs; have := (hs n1).1; omega, ?_, e1⟩))
    unfold fkey
    rw [n1, e]; rfl
theorem canon_inj {a b : Nat} (ha : a < 18446744073709551616) (hb : b < 18446744073709551616) (ca : canonN a = a) (cb : canonN b = b) (h : fkey a = fkey b) : a = b := by
  rw [← ca, ← cb]
  have ht : 0 < TOP := by unfold TOP; omega
  rcases canon_key a ha with ⟨k1, e1⟩ | ⟨k1, e1⟩ | ⟨r1, p1, q1, k1, e1⟩ | ⟨r1, p1, q1, k1, e1⟩ <;>
  rcases canon_key b hb with ⟨k2, e2⟩ | ⟨k2, e2⟩ | ⟨r2, p2, q2, k2, e2⟩ | ⟨r2, p2, q2, k2, e2⟩ <;>
  rw [k1, k2] at h <;> rw [e1, e2]
  all_goals first
    | omega
    | rw [mval_inj (a := r1) (b := r2) (by omega)]
theorem ikey_inj {n m : Int} (h : ikey n = ikey m) : n = m := by
  have h1 := ikey_lt n m
  have h2 := ikey_lt m n
  omega
theorem validA_kind {a : Atom} (h : validA a = true) : a.f0 = 0 ∨ a.f0 = 1 ∨ a.f0 = 2 ∨ a.f0 = 3 ∨ a.f0 = 4 ∨ a.f0 = 5 := by
  unfold validA at h
  by_cases h0 : a.f0 = 0; · exact .inl h0
  by_cases h1 : a.f0 = 1; · exact .inr (.inl h1)
  by_cases h2 : a.f0 = 2; · omega
  by_cases h3 : a.f0 = 3; · omega
  by_cases h4 : a.f0 = 4; · omega
  by_cases h5 : a.f0 = 5; · omega
  rw [if_neg h0, if_neg h1, if_neg h2, if_neg h3, if_neg (by omega)] at h
  cases h
def Fits (a : Atom) : Prop := (a.f0 = 2 → a.f2 = 0 ∧ a.f3 = ByteArray.empty) ∧ (a.f0 = 3 → a.f1 = 0 ∧ a.f3 = ByteArray.empty ∧ canonN a.f2 = a.f2) ∧ (isNum a.f0 = false → a.f2 = 0)
theorem fits_atom {a : Atom} (h : validA a = true) : Fits a := by
  have hk := validA_kind h
  unfold validA at h
  unfold Fits isNum
  rcases hk with hk | hk | hk | hk | hk | hk <;> simp [hk] at h ⊢
  · exact h.1.2
  · exact h.1.1
  · exact ⟨h.1, empty_of (by simpa using h.2)⟩
  · exact ⟨h.1.1, empty_of (by simpa using h.1.2), h.2⟩
  · exact h.1.2
  · exact h.1.2
theorem fits_head {a : Atom} (h6 : a.f0 = 6) (h : plainA a = true) : Fits a := by
  unfold plainA at h
  unfold Fits isNum
  simp [h6] at h ⊢
  exact h.1.2
theorem atoms_zero {a b : Atom} (ha : Fits a) (hb : Fits b) (fa : Fl a) (fb : Fl b) (h : atomsN a b = 0) : a = b := by
  have hr : rankN a.f0 = rankN b.f0 := by
    rcases Decidable.em (rankN a.f0 = rankN b.f0) with hr | hr
    · exact hr
    · unfold atomsN at h
      rw [if_pos hr] at h
      exact absurd ((cmp3_iff _ _).2.1 h) hr
  have hi := isNum_rank hr
  unfold atomsN at h
  rw [if_neg (by simpa using hr)] at h
  obtain ⟨k, n, f, s⟩ := a
  obtain ⟨l, m, g, t⟩ := b
  unfold Fl at fa fb
  unfold Fits at ha hb
  simp only [] at h hr hi ha hb fa fb
  cases hn : isNum k
  · rw [hn] at h hi ha
    rw [← hi] at hb
    rw [if_neg (by decide)] at h
    simp only [orN] at h
    have kl : k = l := by
      unfold isNum at hn hi
      unfold rankN at hr
      have hn2 := hi.symm
      simp at hn hn2
      rw [if_neg hn.2, if_neg hn2.2] at hr
      exact hr
    have e1 : cmp3 n m = 0 := by
      rcases Decidable.em (cmp3 n m = 0) with h1 | h1
      · exact h1
      · rw [if_neg h1] at h; exact h
    rw [if_pos e1] at h
    have e2 : cmpText s t = 0 := by
      rcases Decidable.em (cmpText s t = 0) with h1 | h1
      · exact h1
      · rw [if_neg h1] at h; exact h
    rw [kl, (cmp3_iff _ _).2.1 e1, cmpText_zero e2, ha.2.2 rfl, hb.2.2 rfl]
  · rw [hn] at h hi ha
    rw [if_pos rfl] at h
    simp only [orN] at h
    have e1 : cmp3 (nkey ⟨k, n, f, s⟩) (nkey ⟨l, m, g, t⟩) = 0 := by
      rcases Decidable.em (cmp3 (nkey ⟨k, n, f, s⟩) (nkey ⟨l, m, g, t⟩) = 0) with h1 | h1
      · exact h1
      · rw [if_neg h1] at h; exact h
    rw [if_pos e1] at h
    have e2 : cmp3 k l = 0 := by
      rcases Decidable.em (cmp3 k l = 0) with h1 | h1
      · exact h1
      · rw [if_neg h1] at h; exact h
    have e1 := (cmp3_iff _ _).2.1 e1
    have kl := (cmp3_iff _ _).2.1 e2
    subst kl
    unfold nkey at e1
    simp only [] at e1
    by_cases h2 : k = 2
    · rw [if_pos h2, if_pos h2] at e1
      rw [ikey_inj e1, (ha.1 h2).1, (hb.1 h2).1, (ha.1 h2).2, (hb.1 h2).2]
    · have h3 : k = 3 := by
        unfold isNum at hn
        simpa [h2] using hn
      rw [if_neg h2, if_neg h2] at e1
      rw [canon_inj fa fb (ha.2.1 h3).2.2 (hb.2.1 h3).2.2 e1, (ha.2.1 h3).1, (hb.2.1 h3).1, (ha.2.1 h3).2.1, (hb.2.1 h3).2.1]
theorem lexN_lexG : ∀ l m : List Atom, lexN l m = lexG atomsN l m
  | [], [] => rfl
  | [], _ :: _ => rfl
  | _ :: _, [] => rfl
  | a :: s, b :: t => by simp only [lexN, lexG, lexN_lexG s t]
theorem Cmp_order : Cmp orderV := by
  have e : orderV = fun v w : Val => if atomsN v.f0 w.f0 = 0 then lexG atomsN v.f1 w.f1 else atomsN v.f0 w.f0 := by
    funext v w
    unfold orderV
    rw [lexN_lexG]
  rw [e]
  exact (Cmp_atoms.comp (fun v : Val => v.f0)).lex (Cmp_atoms.list.comp (fun v : Val => v.f1))
theorem valid_parts {v : Val} (h : validV v = true) : Fits v.f0 ∧ ∀ a ∈ v.f1, validA a = true := by
  unfold validV at h
  split at h
  · rename_i h6
    simp only [Bool.and_eq_true, decide_eq_true_eq, List.all_eq_true] at h
    exact ⟨fits_head h6 h.1.1, h.2⟩
  · simp only [Bool.and_eq_true, decide_eq_true_eq] at h
    refine ⟨fits_atom h.1, fun a ha => ?_⟩
    rw [List.length_eq_zero_iff.1 h.2] at ha
    cases ha
theorem order_zero {v w : Val} (hv : validV v = true) (hw : validV w = true) (fv : FlV v) (fw : FlV w) (h : orderV v w = 0) : v = w := by
  unfold orderV at h
  have e1 : atomsN v.f0 w.f0 = 0 := by
    rcases Decidable.em (atomsN v.f0 w.f0 = 0) with h1 | h1
    · exact h1
    · rw [if_neg h1] at h; exact absurd h h1
  rw [if_pos e1, lexN_lexG] at h
  have e2 := atoms_zero (valid_parts hv).1 (valid_parts hw).1 fv.1 fw.1 e1
  have e3 : v.f1 = w.f1 := lexG_zero (fun a ha b hb h => atoms_zero (fits_atom ((valid_parts hv).2 a ha)) (fits_atom ((valid_parts hw).2 b hb)) (fv.2 a ha) (fw.2 b hb) h) h
  cases v; cases w
  simp only [] at e2 e3
  rw [e2, e3]
theorem range3 {x y : Int} : cmp3 x y = -1 ∨ cmp3 x y = 0 ∨ cmp3 x y = 1 := by
  rcases cmp3_cases x y with ⟨h, _⟩ | ⟨h, _⟩ | ⟨h, _⟩
  · exact .inl h
  · exact .inr (.inl h)
  · exact .inr (.inr h)
theorem atoms_range (a b : Atom) : atomsN a b = -1 ∨ atomsN a b = 0 ∨ atomsN a b = 1 := by
  rw [atomsN_lex]
  split
  · split
    · split
      · rw [cmpText_lex]; exact lexcb_range _ _
      · exact range3
    · exact range3
  · exact range3
theorem lex_range : ∀ l m : List Atom, lexN l m = -1 ∨ lexN l m = 0 ∨ lexN l m = 1
  | [], [] => by simp [lexN]
  | [], _ :: _ => by simp [lexN]
  | _ :: _, [] => by simp [lexN]
  | a :: s, b :: t => by
    simp only [lexN]
    split
    · exact lex_range s t
    · exact atoms_range a b
theorem order_range (v w : Val) : orderV v w = -1 ∨ orderV v w = 0 ∨ orderV v w = 1 := by
  unfold orderV
  split
  · exact lex_range _ _
  · exact atoms_range _ _
end Go.Proofs.Ytnfapjkffofcaaa.ORD
namespace Go.Proofs.Ytnfapjkffofcaaa.BD
open Go.RowKit Go.Proofs.YtnfapjkffofcaaaW.PrintWords Go.Proofs.Ytnfapjkffofcaaa.FW Go.Proofs.Ytnfapjkffofcaaa.FL Go.Proofs.Ytnfapjkffofcaaa.EV Go.Proofs.Ytnfapjkffofcaaa.TY Go.Proofs.Ytnfapjkffofcaaa.PK Go.Proofs.Ytnfapjkffofcaaa.G Go.Proofs.Ytnfapjkffofcaaa.ORD
set_option linter.unusedVariables false
set_option linter.unusedSimpArgs false
theorem int_in {n : Int} (h : B3 n) : In64 n := by
  have h1 : (decide (IntKind.min .i64 ≤ n) && decide (n ≤ IntKind.max .i64)) = true := h
  simp only [Bool.and_eq_true, decide_eq_true_eq] at h1
  exact h1
theorem val {v : Val} (h : B29 v) : FlV v ∧ InV v ∧ v.f1.length ≤ 140737488351232 := by
  obtain ⟨⟨k, n, f, s⟩, l1, _, l2⟩ := h
  exact ⟨⟨f, fun a ha => (l2 a ha).2.2.1⟩, ⟨int_in n, fun a ha => int_in (l2 a ha).2.1⟩, by omega⟩
abbrev ofInt (n : Int) : Val := ⟨⟨2, n, 0, ⟨#[]⟩⟩, []⟩
abbrev ofReal (f : Nat) : Val := ⟨⟨3, 0, canonN f, ⟨#[]⟩⟩, []⟩
theorem valid_ofInt (n : Int) : validV (ofInt n) = true := by
  unfold validV
  rw [if_neg (show ¬ ((2 : Int) = 6) by decide)]
  unfold validA
  simp [ByteArray.toList_eq]
theorem canonN_canonN (f : Nat) (h : f < 18446744073709551616) : canonN (canonN f) = canonN f := by
  have e1 : canonN 9221120237041090560 = 9221120237041090560 := by decide
  have e2 : canonN 0 = 0 := by decide
  by_cases h1 : nan f = true
  · have e : canonN f = 9221120237041090560 := by unfold canonN; rw [if_pos h1]
    rw [e, e1]
  · by_cases h2 : rung f = 0
    · have e : canonN f = 0 := by unfold canonN; rw [if_neg h1, if_pos h2]
      rw [e, e2]
    · have e : canonN f = f := by unfold canonN; rw [if_neg h1, if_neg h2]
      rw [e, e]
theorem valid_ofReal (f : Nat) (h : f < 18446744073709551616) : validV (ofReal f) = true := by
  unfold validV
  rw [if_neg (show ¬ ((3 : Int) = 6) by decide)]
  unfold validA
  simp [canonN_canonN f h, ByteArray.toList_eq]
theorem ask1 : compareV (ofInt 1) (ofInt 2) = -1 := by
  unfold compareV
  rw [if_pos ⟨valid_ofInt 1, valid_ofInt 2⟩]
  have e : atomsN (ofInt 1).f0 (ofInt 2).f0 = -1 := by
    unfold atomsN
    rw [if_neg (by decide), if_pos (by decide)]
    have : cmp3 (nkey (ofInt 1).f0) (nkey (ofInt 2).f0) = -1 := by
      unfold nkey
      rw [if_pos rfl, if_pos rfl, cmp_ikey]
      rfl
    rw [orN, this]; rfl
  unfold orderV
  rw [e]; rfl
theorem ask2 : compareV (ofInt 2) (ofReal 4611686018427387904) = -1 := by
  unfold compareV
  rw [if_pos ⟨valid_ofInt 2, valid_ofReal _ (by decide)⟩]
  have e : atomsN (ofInt 2).f0 (ofReal 4611686018427387904).f0 = -1 := by
    unfold atomsN
    rw [if_neg (by decide), if_pos (by decide)]
    have : cmp3 (nkey (ofInt 2).f0) (nkey (ofReal 4611686018427387904).f0) = 0 := by
      unfold nkey
      rw [if_pos rfl, if_neg (by decide)]
      decide +kernel
    rw [orN, this]; rfl
  unfold orderV
  rw [e]; rfl
theorem inInt (n : Int) (h : In64 n) : InV (ofInt n) := ⟨h, fun a ha => by cases ha⟩
theorem inReal (f : Nat) : InV (ofReal f) := ⟨(by decide : In64 0), fun a ha => by cases ha⟩
theorem cmp_some {v w : Val} (hv : InV v) (hw : InV w) : value_Compare.f v.f0.f0 v.f0.f1 v.f0.f2 v.f0.f3 v.f1 w.f0.f0 w.f0.f1 w.f0.f2 w.f0.f3 w.f1 = some (compareV v w) := by
  unfold value_Compare.f; exact if_pos ⟨hv, hw⟩
theorem refValid_some {v : Val} (hv : FlV v) : cobwebref03_Valid.f v.f0.f0 v.f0.f1 v.f0.f2 v.f0.f3 v.f1 = some (validV v) := by
  unfold cobwebref03_Valid.f; exact if_pos hv
theorem short_some {v : Val} (hv : v.f1.length ≤ 140737488351232) : cobweblaw03_short.f v.f0.f0 v.f0.f1 v.f0.f2 v.f0.f3 v.f1 = some (shortV v) := by
  unfold cobweblaw03_short.f; exact if_pos hv
theorem same_some {v w : Val} (hv : v.f1.length ≤ 140737488351232) : cobwebref03_Same.f v.f0.f0 v.f0.f1 v.f0.f2 v.f0.f3 v.f1 w.f0.f0 w.f0.f1 w.f0.f2 w.f0.f3 w.f1 = some (sameV v w) := by
  unfold cobwebref03_Same.f; exact if_pos hv
end Go.Proofs.Ytnfapjkffofcaaa.BD
namespace Go.Proofs.Ytnfapjkffofcaaa.PureValueOrder
open Go.RowKit Go.Proofs.YtnfapjkffofcaaaW.PrintWords Go.Proofs.Ytnfapjkffofcaaa.FW Go.Proofs.Ytnfapjkffofcaaa.FL Go.Proofs.Ytnfapjkffofcaaa.EV Go.Proofs.Ytnfapjkffofcaaa.TY Go.Proofs.Ytnfapjkffofcaaa.PO Go.Proofs.Ytnfapjkffofcaaa.PK Go.Proofs.Ytnfapjkffofcaaa.G Go.Proofs.Ytnfapjkffofcaaa.ORD Go.Proofs.Ytnfapjkffofcaaa.BD
set_option linter.unusedVariables false
set_option linter.unusedSimpArgs false
theorem ValueOrder : SValueOrder.Pure := by
  intro a b c ha hb hc
  obtain ⟨fa, ia, la⟩ := BD.val ha
  obtain ⟨fb, ib, lb⟩ := BD.val hb
  obtain ⟨fc, ic, lc⟩ := BD.val hc
  suffices h : Ev (fun k => cobweblaw03_ValueOrder.f k a.f0.f0 a.f0.f1 a.f0.f2 a.f0.f3 a.f1 b.f0.f0 b.f0.f1 b.f0.f2 b.f0.f3 b.f1 c.f0.f0 c.f0.f1 c.f0.f2 c.f0.f3 c.f1) true from h.rounds
  have j2 : ∀ x : Bool, (x = false → validV a = true ∧ validV b = true ∧ validV c = true) → Ev (fun k => cobweblaw03_ValueOrder.j2 k (compareV a b) (compareV b c) (compareV a c) x a.f0.f0 a.f0.f1 a.f0.f2 a.f0.f3 a.f1 b.f0.f0 b.f0.f1 b.f0.f2 b.f0.f3 b.f1) true := fun x hx => by
    refine Ev.step (fun _ => rfl) ?_
    simp only [cobweblaw03_ValueOrder.j2]
    rw [cmp_some ia ia, cmp_some ib ia, same_some la]
    cases x
    · obtain ⟨va, vb, vc⟩ := hx rfl
      have e : ∀ {v w : Val}, validV v = true → validV w = true → compareV v w = orderV v w := fun h1 h2 => by unfold compareV; rw [if_pos ⟨h1, h2⟩]
      rw [e va vb, e vb vc, e va vc, e vb va]
      refine ite_f (by decide) (some_bind ?_)
      have hn := Cmp_order.neg b a
      have hr := order_range b a
      refine ite_t (by rw [hn, wrap64_id (by omega) (by omega)]) (some_bind ?_)
      have hs : ((orderV a b == 0) == sameV a b) = true := by
        rw [beq_iff_eq, Bool.eq_iff_iff, beq_iff_eq, sameV_iff]
        exact ⟨fun h => order_zero va vb fa fb h, fun h => by rw [h]; exact Cmp_order.refl b⟩
      have ht := Cmp_order.trans a b c
      have hl := @Cmp.lt _ _ Cmp_order a b c
      refine ite_t hs ?_
      by_cases h1 : orderV a b > 0
      · refine ite_t h1 ?_
        exact ite_t (by omega) (Ev.now _)
      · refine ite_f h1 ?_
        by_cases h2 : orderV b c > 0
        · refine ite_t h2 ?_
          by_cases h3 : orderV a b ≥ 0
          · exact ite_t h3 (Ev.now _)
          · exact ite_f h3 (Ev.now _)
        · refine ite_f h2 (ite_t (ht (by omega) (by omega)) ?_)
          by_cases h3 : orderV a b ≥ 0
          · exact ite_t h3 (Ev.now _)
          · refine ite_f h3 ?_
            rw [decide_eq_true (hl (by omega) (by omega))]
            exact Ev.now _
    · refine ite_t rfl (some_bind ?_)
      have e : compareV a a = 0 := by
        unfold compareV
        split
        · exact Cmp_order.refl a
        · rfl
      rw [e]
      exact Ev.now _
  have j1 : Ev (fun k => cobweblaw03_ValueOrder.j1 k (compareV a b) (compareV b c) (compareV a c) false a.f0.f0 a.f0.f1 a.f0.f2 a.f0.f3 a.f1 b.f0.f0 b.f0.f1 b.f0.f2 b.f0.f3 b.f1 c.f0.f0 c.f0.f1 c.f0.f2 c.f0.f3 c.f1) true := by
    refine Ev.step (fun _ => rfl) ?_
    simp only [cobweblaw03_ValueOrder.j1]
    rw [refValid_some fa, refValid_some fb, refValid_some fc]
    refine ite_f (by decide) (some_bind ?_)
    cases va : validV a
    · exact ite_f (by decide) (j2 true (by simp))
    · refine ite_t rfl (some_bind ?_)
      cases vb : validV b <;> rw [va] at j2
      · exact ite_f (by decide) (j2 true (by simp))
      · exact ite_t rfl (some_bind (j2 _ (fun h => ⟨rfl, vb, by simpa using h⟩)))
  have j0 : ∀ x : Bool, Ev (fun k => cobweblaw03_ValueOrder.j0 k x a.f0.f0 a.f0.f1 a.f0.f2 a.f0.f3 a.f1 b.f0.f0 b.f0.f1 b.f0.f2 b.f0.f3 b.f1 c.f0.f0 c.f0.f1 c.f0.f2 c.f0.f3 c.f1) true := fun x => by
    refine Ev.step (fun _ => rfl) ?_
    simp only [cobweblaw03_ValueOrder.j0]
    rw [cmp_some ia ib, cmp_some ib ic, cmp_some ia ic]
    cases x
    · refine ite_f (by decide) (some_bind (some_bind (some_bind ?_)))
      unfold value_OfInt.f value_OfReal.f
      refine some_bind (some_bind ?_)
      have c1 := cmp_some (inInt 1 (by decide)) (inInt 2 (by decide))
      have c2 := cmp_some (inInt 2 (by decide)) (inReal 4611686018427387904)
      rw [ask1] at c1
      rw [ask2] at c2
      simp only [] at c1 c2 ⊢
      rw [c1]
      refine some_bind (ite_t rfl (some_bind (some_bind ?_)))
      simp only []
      rw [c2]
      exact some_bind j1
    · exact ite_t rfl (Ev.now _)
  unfold cobweblaw03_ValueOrder.f
  rw [short_some la, short_some lb, short_some lc]
  refine some_bind ?_
  cases shortV a
  · exact ite_f (by decide) (j0 true)
  · refine ite_t rfl (some_bind ?_)
    cases shortV b
    · exact ite_f (by decide) (j0 true)
    · exact ite_t rfl (some_bind (j0 _))
end Go.Proofs.Ytnfapjkffofcaaa.PureValueOrder
