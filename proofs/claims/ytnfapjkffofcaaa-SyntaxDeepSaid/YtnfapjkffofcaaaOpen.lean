/- An argument that is read as data is laid open as a value of a kind, with what the reading says of its numbers and sizes: by types, each once. -/
import Derived.Test.YtnfapjkffofcaaaFloat
import Derived.SizedLaws
import Derived.ChangeArms
import Derived.WideShapes
import Derived.Deep.Slices
namespace Go.Proofs.Ytnfapjkffofcaaa.OW
open Go.RowKit Go.WideShapes Go.Proofs.YtnfapjkffofcaaaW.PrintWords Go.Proofs.Ytnfapjkffofcaaa.FW
set_option linter.unusedVariables false
set_option linter.unusedSimpArgs false

/-- What reads as a datum of type t is a value of the kind d of which B holds. -/
structure Opens (P : Program) (t : TypeId) {α : Type} (d : Kd α) (B : α → Prop) : Prop where
  sz : P.cellsOf t = d.sz
  get : ∀ {H : Type} {enc : TypeId × Value → H} {w : World} {base : Nat} {spare : Nat → Bool} {held : Bool} {fuel : Nat} {cs : List Value} {x : DataW H × List MemPlace},
    DataW.trod enc P w base spare held fuel t cs = some x → (∀ n ∈ x.1.weights P t, n ≤ reachBytes) → ∃ y : α, d.K w y cs ∧ B y

section
variable {P : Program} {t e : TypeId} {α β γ : Type}
theorem opens_int {k : IntKind} (ht : P.underlying t = some (.int k)) (hs : P.cellsOf t = 1) : Opens P t (Kd.int k) (fun n => (Lit.int k n).wf = true) where
  sz := hs
  get := by
    intro H enc w base spare held fuel cs x h _
    obtain ⟨n, rfl, _, hw⟩ := DataW.trod_int ht h
    exact ⟨n, rfl, hw⟩
theorem opens_bool (ht : P.underlying t = some .bool) (hs : P.cellsOf t = 1) : Opens P t Kd.bool (fun _ => True) where
  sz := hs
  get := by
    intro H enc w base spare held fuel cs x h _
    obtain ⟨b, rfl, _⟩ := DataW.trod_bool ht h
    exact ⟨b, rfl, trivial⟩
theorem opens_string (ht : P.underlying t = some .string) (hs : P.cellsOf t = 1) : Opens P t Kd.string (fun s => s.size ≤ 140737488351232) where
  sz := hs
  get := by
    intro H enc w base spare held fuel cs x h hw
    obtain ⟨s, rfl, rfl, _⟩ := DataW.trod_string ht h
    refine ⟨s, rfl, ?_⟩
    have := hw s.data.toList.length (by simp [DataW.weights])
    have h2 : reachBytes = 140737488351232 := rfl
    rw [h2, Array.length_toList] at this
    exact this
theorem opens_float (ht : P.underlying t = some (.float .f64)) (hs : P.cellsOf t = 1) : Opens P t Kd.float (fun b => b < 18446744073709551616) where
  sz := hs
  get := by
    intro H enc w base spare held fuel cs x h _
    cases fuel with
    | zero => simp [DataW.trod] at h
    | succ n =>
      unfold DataW.trod at h
      rw [ht] at h
      split at h <;> simp_all
      rename_i k b h1 k'
      obtain ⟨⟨h3, h4⟩, _⟩ := h
      subst h3
      subst k'
      exact ⟨b, rfl, by simpa [Lit.wf] using h4⟩

theorem list_of {α : Type} (n : Nat) (Q : Nat → α → Prop) (h : ∀ i, i < n → ∃ y, Q i y) : ∃ ys : List α, ys.length = n ∧ ∀ i y, ys[i]? = some y → Q i y := by
  induction n with
  | zero => exact ⟨[], rfl, fun i y hy => by simp at hy⟩
  | succ n ih =>
    obtain ⟨ys, hl, hq⟩ := ih (fun i hi => h i (by omega))
    obtain ⟨y, hy⟩ := h n (by omega)
    refine ⟨ys ++ [y], by simp [hl], fun i z hz => ?_⟩
    by_cases hi : i < n
    · rw [List.getElem?_append_left (by omega)] at hz
      exact hq i z hz
    · rw [List.getElem?_append_right (by omega)] at hz
      have : i - ys.length = 0 := by
        rcases Nat.eq_zero_or_pos (i - ys.length) with h0 | h0
        · exact h0
        · rw [List.getElem?_eq_none (by simp; omega)] at hz
          cases hz
      rw [this] at hz
      have : i = n := by omega
      subst this
      simp at hz
      subst hz
      exact hy

theorem mem_weightsAll {H : Type} : ∀ {ds : List (DataW H)} {d : DataW H}, d ∈ ds → ∀ n ∈ d.weights P e, n ∈ DataW.weightsAll P e ds
  | d0 :: ds, d, hd, n, hn => by
    simp only [DataW.weightsAll, List.mem_append]
    rcases List.mem_cons.1 hd with rfl | hd
    · exact .inl hn
    · exact .inr (mem_weightsAll hd n hn)

theorem cells?_at {w : World} {base : Nat} {a : Addr} {n : Nat} {cs : List Value} (h : w.cells? base a n = some cs) : cs.length = n ∧ ∀ i u, cs[i]? = some u → w.cell? (a.add i) = some u := by
  obtain ⟨_, h1, h2⟩ := World.cells?_some h
  refine ⟨h1, fun i u hu => ?_⟩
  have hi : i < cs.length := (List.getElem?_eq_some_iff.1 hu).1
  rw [h2 i (by omega)]
  exact hu

theorem opens_slice {d : Kd α} {B : α → Prop} (ht : P.underlying t = some (.slice e)) (hs : P.cellsOf t = 1) (he : Opens P e d B) (hp : 0 < d.sz) :
    Opens P t (Kd.slice e d) (fun xs => xs.length * P.bytesOf e ≤ 140737488351232 ∧ xs.length ≤ maxLen ∧ ∀ x ∈ xs, B x) where
  sz := hs
  get := by
    intro H enc w base spare held fuel cs x h hw
    rcases DataW.trod_slice ht h with ⟨rfl, _⟩ | ⟨a, len, cap, elems, rest, n, _, rfl, rfl, hb, hl, hm, hlen, hel, _, _⟩
    · exact ⟨[], ⟨none, 0, rfl, Nat.le_refl _, Kd.C_nil d w⟩, by simp, by simp, by simp⟩
    · have hw0 : ∀ n ∈ (DataW.slice (elems.map (·.1)) (rest.map (·.1))).weights P t, n ≤ reachBytes := hw
      simp only [DataW.weights, ht] at hw0
      have hex : ∀ i, i < len → ∃ y, (∃ c, c.length = d.sz ∧ d.K w y c ∧ ∀ j u, c[j]? = some u → w.cell? (a.add (i * d.sz + j)) = some u) ∧ B y := by
        intro i hi
        have h1 := hel i hi
        rw [List.getElem?_eq_getElem (by omega)] at h1
        obtain ⟨cs', hc, hx⟩ := Option.bind_eq_some_iff.1 h1
        obtain ⟨y, hk, hB⟩ := he.get hx (fun m hm' => hw0 m (List.mem_cons_of_mem _ (List.mem_append_left _ (mem_weightsAll (d := (elems[i]'(by omega)).1) (List.mem_map.2 ⟨_, List.getElem_mem _, rfl⟩) m hm'))))
        obtain ⟨hcl, hcc⟩ := cells?_at hc
        rw [he.sz] at hcl hcc
        refine ⟨y, ⟨cs', hcl, hk, fun j u hu => ?_⟩, hB⟩
        rw [← Deep.add_add]
        exact hcc j u hu
      obtain ⟨ys, hyl, hyq⟩ := list_of len _ hex
      subst hyl
      refine ⟨ys, ⟨some a, cap, rfl, hl, rfl, ?_, fun _ => ⟨a, rfl, fun j p hp => (hyq j p hp).1⟩⟩, ?_, ?_, ?_⟩
      · unfold maxLen at hm; omega
      · have h2 := hw0 _ List.mem_cons_self
        have h3 : reachBytes = 140737488351232 := rfl
        rw [h3, List.length_map, hlen] at h2
        exact Nat.le_trans (Nat.mul_le_mul_right _ (Nat.le_add_right _ _)) h2
      · exact Nat.le_trans hl hm
      · intro x hx
        obtain ⟨i, hi⟩ := List.mem_iff_getElem?.1 hx
        exact (hyq i x hi).2

/-- The fields of a struct, from one on. -/
structure OpensF (P : Program) (fs : List Field) (off : Nat) {α : Type} (d : Kd α) (B : α → Prop) : Prop where
  get : ∀ {H : Type} {enc : TypeId × Value → H} {w : World} {base : Nat} {spare : Nat → Bool} {held : Bool} {fuel : Nat} {cs : List Value} {xs : List (DataW H × List MemPlace)},
    xs.length = fs.length → (∀ (i : Nat) (f : Field), fs[i]? = some f → DataW.trod enc P w base spare held fuel f.type ((cs.drop f.offset).take (P.cellsOf f.type)) = xs[i]?) →
    (∀ n ∈ DataW.weightsEach P (fs.map (·.type)) (xs.map (·.1)), n ≤ reachBytes) → ∃ y : α, d.K w y ((cs.drop off).take d.sz) ∧ B y

theorem opensF_one {f : Field} {off : Nat} {d : Kd α} {B : α → Prop} (ho : f.offset = off) (hf : Opens P f.type d B) : OpensF P [f] off d B where
  get := by
    intro H enc w base spare held fuel cs xs hl h hw
    match xs, hl with
    | [x], _ =>
      have h0 := h 0 f rfl
      simp only [List.getElem?_cons_zero] at h0
      obtain ⟨y, hk, hB⟩ := hf.get h0 (fun n hn => hw n (by simp [DataW.weightsEach, hn]))
      rw [ho, hf.sz] at hk
      exact ⟨y, hk, hB⟩
theorem opensF_cons {f : Field} {fs : List Field} {off off' : Nat} {d : Kd α} {d' : Kd β} {B : α → Prop} {B' : β → Prop} (ho : f.offset = off) (hf : Opens P f.type d B) (hn : off' = off + d.sz) (hr : OpensF P fs off' d' B') :
    OpensF P (f :: fs) off (Kd.pair d d') (fun x => B x.1 ∧ B' x.2) where
  get := by
    intro H enc w base spare held fuel cs xs hl h hw
    match xs, hl with
    | x :: xs, hl =>
      have h0 := h 0 f rfl
      simp only [List.getElem?_cons_zero] at h0
      obtain ⟨y, hk, hB⟩ := hf.get h0 (fun n hn => hw n (by simp [DataW.weightsEach, hn]))
      obtain ⟨z, hk', hB'⟩ := hr.get (xs := xs) (by simpa using hl) (fun i g hg => by simpa using h (i + 1) g (by simpa using hg)) (fun n hn => hw n (by
        simp only [List.map_cons, DataW.weightsEach, List.mem_append]
        exact .inr hn))
      rw [ho, hf.sz] at hk
      refine ⟨(y, z), ⟨_, _, ?_, hk, hk'⟩, hB, hB'⟩
      subst hn
      show (cs.drop off).take (d.sz + d'.sz) = _
      rw [List.take_add, List.drop_drop]
theorem opens_struct {fs : Array Field} {d : Kd α} {B : α → Prop} (f : β → α) (g : α → β) (hg : ∀ a, f (g a) = a) (ht : P.underlying t = some (.struct fs)) (hs : P.cellsOf t = d.sz) (hf : OpensF P fs.toList 0 d B) :
    Opens P t (Kd.iso d f) (fun x => B (f x)) where
  sz := hs
  get := by
    intro H enc w base spare held fuel cs x h hw
    obtain ⟨xs, n, _, rfl, hl, hlen, hx⟩ := DataW.trod_struct ht h
    have hw0 : ∀ n ∈ (DataW.agg (xs.map (·.1))).weights P t, n ≤ reachBytes := hw
    simp only [DataW.weights, ht] at hw0
    obtain ⟨y, hk, hB⟩ := hf.get (cs := cs) (by simpa using hlen) (fun i f hf' => hx i f (by simpa using hf')) hw0
    refine ⟨g y, ?_, by rw [hg]; exact hB⟩
    show d.K w (f (g y)) cs
    rw [hg]
    rw [List.drop_zero, List.take_of_length_le (by rw [hl, hs]; exact Nat.le_refl _)] at hk
    exact hk
end
end Go.Proofs.Ytnfapjkffofcaaa.OW
