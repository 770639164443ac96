/- Part 11 of the proof: words, contracts, plain laws. Laid by a program of this session (wip/tool/shake.py): what is needed of own and printed texts, in order. -/
import Derived.Test.YtnfapjkffofcaaaZb0
import Derived.Test.YtnfapjkffofcaaaZb1
import Derived.SizedLaws
import Derived.ChangeArms
import Derived.WideShapes
import Derived.Deep.Slices
import Derived.Laws.FloatBits
import Derived.Laws.Externs
import Derived.Test.YtnfapjkffofcaaaProg
import Derived.OrdersHeld
import Derived.Deep.RegionHeld3
import Derived.Laws.BitsLemmas
import Derived.RowKit
import Derived.Below
import Derived.Deep.Draws
import Derived.Deep.AppendLies
import Derived.Maps.AppendAt
import Derived.OwnWalk
import Derived.Laws.BytesArg
import Derived.Laws.MakeOwn
import Derived.Laws.OwnMore
import Derived.Deep.OwnRows
import Derived.Tactics
import Derived.Lib.ConvBytes
import Derived.Laws.Slices
import Derived.WalkKit
import Derived.KernelRfl
import Derived.RowKit3
import Derived.Deep.LoopGhost
import Derived.Deep.QuietTactic
import Derived.BigQuiet
import Derived.WideLaws
import Derived.Deep.DeepCutAuto
import Derived.Deep.CutBlock
import Derived.Laws.Rows
import Derived.Lib.AppendStr
import Derived.ArgAppend
import Derived.Laws.IdiomCopy
import Derived.Laws.StructEq
import Derived.Test.YtnfapjkffofcaaaZb2
import Derived.Test.YtnfapjkffofcaaaZb3
import Derived.Test.YtnfapjkffofcaaaZb4
import Derived.Test.YtnfapjkffofcaaaZb5
import Derived.Test.YtnfapjkffofcaaaZb6
import Derived.Test.YtnfapjkffofcaaaZb7
import Derived.Test.YtnfapjkffofcaaaZb8
import Derived.Test.YtnfapjkffofcaaaZb9
import Derived.Test.YtnfapjkffofcaaaZb10
import Derived.Laws.Bits64
namespace Go.Proofs.Ytnfapjkffofcaaa.OW
open Go.RowKit Go.WideShapes Go.Proofs.YtnfapjkffofcaaaW.PrintWords Go.Proofs.Ytnfapjkffofcaaa.FW
set_option linter.unusedVariables false
set_option linter.unusedSimpArgs false
structure Opens (P : Program) (t : TypeId) {α : Type} (d : Kd α) (B : α → Prop) : Prop where
  sz : P.cellsOf t = d.sz
  get : ∀ {H : Type} {enc : TypeId × Value → H} {w : World} {base : Nat} {spare : Nat → Bool} {held : Bool} {fuel : Nat} {cs : List Value} {x : DataW H × List MemPlace},
    DataW.trod enc P w base spare held fuel t cs = some x → (∀ n ∈ x.1.weights P t, n ≤ reachBytes) → ∃ y : α, d.K w y cs ∧ B y
section
variable {P : Program} {t e : TypeId} {α β γ : Type}
theorem opens_int {k : IntKind} (ht : P.underlying t = some (.int k)) (hs : P.cellsOf t = 1) : Opens P t (Kd.int k) (fun n => (Lit.int k n).wf = true) where
  sz := hs
  get := by
    intro H enc w base spare held fuel cs x h _
    obtain ⟨n, rfl, _, hw⟩ := DataW.trod_int ht h
    exact ⟨n, rfl, hw⟩
theorem opens_float (ht : P.underlying t = some (.float .f64)) (hs : P.cellsOf t = 1) : Opens P t Kd.float (fun b => b < 18446744073709551616) where
  sz := hs
  get := by
    intro H enc w base spare held fuel cs x h _
    cases fuel with
    | zero => simp [DataW.trod] at h
    | succ n =>
      unfold DataW.trod at h
      rw [ht] at h
      split at h <;> simp_all
      rename_i k b h1 k'
      obtain ⟨⟨h3, h4⟩, _⟩ := h
      subst h3
      subst k'
      exact ⟨b, rfl, by simpa [Lit.wf] using h4⟩
end
end Go.Proofs.Ytnfapjkffofcaaa.OW
namespace Go.Proofs.Ytnfapjkffofcaaa.TY
open Go.RowKit Go.WideShapes Go.Proofs.YtnfapjkffofcaaaW.PrintWords Go.Proofs.Ytnfapjkffofcaaa.FW Go.Proofs.Ytnfapjkffofcaaa.OW Go.Proofs.Ytnfapjkffofcaaa.PK
def B3 (n : Int) : Prop := (Lit.int .i64 n).wf = true
theorem op3 : Opens Try.prog 3 (Kd.int .i64) B3 := opens_int Try.underlying3 (by kernel_rfl)
def B9 (s : ByteArray) : Prop := s.size ≤ 140737488351232
def B24 (b : Nat) : Prop := b < 18446744073709551616
theorem op24 : Opens Try.prog 24 Kd.float B24 := opens_float Try.underlying24 (by kernel_rfl)
def B26 (x : S26) : Prop := B3 x.f0 ∧ B3 x.f1 ∧ B24 x.f2 ∧ B9 x.f3
def B27 (xs : (List S26)) : Prop := xs.length * 40 ≤ 140737488351232 ∧ xs.length ≤ maxLen ∧ ∀ x ∈ xs, B26 x
def B29 (x : S29) : Prop := B26 x.f0 ∧ B27 x.f1
def B61 (x : S61) : Prop := B9 x.f0 ∧ B29 x.f1
def B48 (xs : (List S61)) : Prop := xs.length * 80 ≤ 140737488351232 ∧ xs.length ≤ maxLen ∧ ∀ x ∈ xs, B61 x
def B52 (x : S52) : Prop := B9 x.f0 ∧ B9 x.f1 ∧ B48 x.f2
end Go.Proofs.Ytnfapjkffofcaaa.TY
namespace Go.Proofs.Ytnfapjkffofcaaa.SValueAsks
open Go.RowKit Go.Proofs.YtnfapjkffofcaaaW.PrintWords Go.Proofs.Ytnfapjkffofcaaa.FW Go.Proofs.Ytnfapjkffofcaaa.OW Go.Proofs.Ytnfapjkffofcaaa.TY Go.Proofs.Ytnfapjkffofcaaa.PA3 Go.Proofs.Ytnfapjkffofcaaa.PK Go.Proofs.Ytnfapjkffofcaaa.G
def Pure : Prop := ∀ (y0 : Int) (y1 : Nat), B3 y0 → B24 y1 → ∃ k, cobweblaw03_ValueAsks.f k y0 y1 = some true
end Go.Proofs.Ytnfapjkffofcaaa.SValueAsks
namespace Go.Proofs.Ytnfapjkffofcaaa.ORD
open Go.RowKit Go.Proofs.YtnfapjkffofcaaaW.PrintWords Go.Proofs.Ytnfapjkffofcaaa.FW Go.Proofs.Ytnfapjkffofcaaa.FL Go.Proofs.Ytnfapjkffofcaaa.EV Go.Proofs.Ytnfapjkffofcaaa.PK Go.Proofs.Ytnfapjkffofcaaa.G
set_option linter.unusedVariables false
set_option linter.unusedSimpArgs false
structure Cmp {α : Type} (c : α → α → Int) : Prop where
  neg : ∀ x y, c y x = - c x y
  trans : ∀ x y z, c x y ≤ 0 → c y z ≤ 0 → c x z ≤ 0
theorem Cmp.refl {α : Type} {c : α → α → Int} (h : Cmp c) (x : α) : c x x = 0 := by have := h.neg x x; omega
theorem Cmp.strict {α : Type} {c : α → α → Int} (h : Cmp c) {x y z : α} (h1 : c x y ≤ 0) (h2 : c y z ≤ 0) (h0 : c x z = 0) : c x y = 0 ∧ c y z = 0 := by
  have a1 := h.neg x y
  have a2 := h.neg y z
  have a3 := h.neg x z
  have t1 := h.trans y z x h2 (by omega)
  have t2 := h.trans z x y (by omega) h1
  omega
theorem Cmp.lt {α : Type} {c : α → α → Int} (h : Cmp c) {x y z : α} (h1 : c x y < 0) (h2 : c y z ≤ 0) : c x z < 0 := by
  have t := h.trans x y z (by omega) h2
  rcases Int.lt_or_eq_of_le t with h3 | h3
  · exact h3
  · have := (h.strict (by omega) h2 h3).1
    omega
theorem cmp3_iff (x y : Int) : (cmp3 x y ≤ 0 ↔ x ≤ y) ∧ (cmp3 x y = 0 ↔ x = y) := by
  unfold cmp3
  (repeat' split) <;> omega
theorem Cmp.key {α : Type} (k : α → Int) : Cmp (fun x y => cmp3 (k x) (k y)) where
  neg x y := by have := cmp3_neg (k x) (k y); show cmp3 (k y) (k x) = - cmp3 (k x) (k y); omega
  trans x y z := by
    show cmp3 (k x) (k y) ≤ 0 → cmp3 (k y) (k z) ≤ 0 → cmp3 (k x) (k z) ≤ 0
    rw [(cmp3_iff (k x) (k y)).1, (cmp3_iff (k y) (k z)).1, (cmp3_iff (k x) (k z)).1]
    omega
theorem Cmp.comp {α β : Type} {c : α → α → Int} (h : Cmp c) (f : β → α) : Cmp (fun x y => c (f x) (f y)) where
  neg x y := h.neg _ _
  trans x y z := h.trans _ _ _
theorem Cmp.lex {α : Type} {a b : α → α → Int} (ha : Cmp a) (hb : Cmp b) : Cmp (fun x y => if a x y = 0 then b x y else a x y) where
  neg x y := by
    have h1 := ha.neg x y
    have h2 := hb.neg x y
    show (if a y x = 0 then b y x else a y x) = - (if a x y = 0 then b x y else a x y)
    by_cases h : a x y = 0
    · rw [if_pos h, if_pos (by omega)]; omega
    · rw [if_neg h, if_neg (by omega)]; omega
  trans x y z := by
    show (if a x y = 0 then b x y else a x y) ≤ 0 → (if a y z = 0 then b y z else a y z) ≤ 0 → (if a x z = 0 then b x z else a x z) ≤ 0
    intro h1 h2
    have k1 : a x y ≤ 0 := by split at h1 <;> omega
    have k2 : a y z ≤ 0 := by split at h2 <;> omega
    have k3 := ha.trans x y z k1 k2
    by_cases h : a x z = 0
    · obtain ⟨e1, e2⟩ := ha.strict k1 k2 h
      rw [if_pos e1] at h1
      rw [if_pos e2] at h2
      rw [if_pos h]
      exact hb.trans x y z h1 h2
    · rw [if_neg h]; exact k3
def lexG {α : Type} (c : α → α → Int) : List α → List α → Int
  | [], [] => 0
  | [], _ :: _ => -1
  | _ :: _, [] => 1
  | a :: s, b :: t => if c a b = 0 then lexG c s t else c a b
theorem Cmp.list {α : Type} {c : α → α → Int} (h : Cmp c) : Cmp (lexG c) where
  neg x := by
    induction x with
    | nil => intro y; cases y <;> simp [lexG]
    | cons a s ih =>
      intro y
      cases y with
      | nil => simp [lexG]
      | cons b t =>
        have h1 := h.neg a b
        have h2 := ih t
        simp only [lexG]
        by_cases h0 : c a b = 0
        · rw [if_pos h0, if_pos (by omega)]; exact h2
        · rw [if_neg h0, if_neg (by omega)]; exact h1
  trans x := by
    induction x with
    | nil => intro y z _ _; cases z <;> simp [lexG]
    | cons a s ih =>
      intro y z
      cases y with
      | nil => intro h1; simp [lexG] at h1
      | cons b t =>
        cases z with
        | nil => intro _ h2; simp [lexG] at h2
        | cons d u =>
          simp only [lexG]
          intro h1 h2
          have k1 : c a b ≤ 0 := by split at h1 <;> omega
          have k2 : c b d ≤ 0 := by split at h2 <;> omega
          have k3 := h.trans a b d k1 k2
          by_cases h0 : c a d = 0
          · obtain ⟨e1, e2⟩ := h.strict k1 k2 h0
            rw [if_pos e1] at h1
            rw [if_pos e2] at h2
            rw [if_pos h0]
            exact ih t u h1 h2
          · rw [if_neg h0]; exact k3
def cb (a b : UInt8) : Int := cmp3 (a.toNat : Int) (b.toNat : Int)
theorem Cmp_cb : Cmp cb := Cmp.key (fun a : UInt8 => (a.toNat : Int))
theorem less_lex : ∀ (x y : List UInt8), Op.bytesLess x y = decide (lexG cb x y = -1)
  | [], [] => by simp [Op.bytesLess, lexG]
  | _ :: _, [] => by simp [Op.bytesLess, lexG]
  | [], _ :: _ => by simp [Op.bytesLess, lexG]
  | a :: x, b :: y => by
    rw [Op.bytesLess, less_lex x y]
    simp only [lexG]
    have hlt : a < b ↔ a.toNat < b.toNat := UInt8.lt_iff_toNat_lt
    have heq : a = b ↔ a.toNat = b.toNat := UInt8.toNat_inj.symm
    have hc : (cb a b = -1 ∧ a.toNat < b.toNat) ∨ (cb a b = 0 ∧ a.toNat = b.toNat) ∨ (cb a b = 1 ∧ b.toNat < a.toNat) := by
      rcases cmp3_cases (a.toNat : Int) (b.toNat : Int) with ⟨h1, h2⟩ | ⟨h1, h2⟩ | ⟨h1, h2⟩
      · exact .inl ⟨h1, by omega⟩
      · exact .inr (.inl ⟨h1, by omega⟩)
      · exact .inr (.inr ⟨h1, by omega⟩)
    rcases hc with ⟨h1, h2⟩ | ⟨h1, h2⟩ | ⟨h1, h2⟩
    · have n1 : a < b := hlt.2 h2
      simp [h1, n1]
    · have n2 : a = b := heq.2 h2
      subst n2
      simp [h1]
    · have n1 : ¬ a < b := by rw [hlt]; omega
      have n2 : ¬ a = b := by rw [heq]; omega
      simp [h1, n1, n2]
theorem lexcb_range : ∀ (x y : List UInt8), lexG cb x y = -1 ∨ lexG cb x y = 0 ∨ lexG cb x y = 1
  | [], [] => by simp [lexG]
  | _ :: _, [] => by simp [lexG]
  | [], _ :: _ => by simp [lexG]
  | a :: x, b :: y => by
    simp only [lexG]
    split
    · exact lexcb_range x y
    · rcases cmp3_cases (a.toNat : Int) (b.toNat : Int) with ⟨h1, h2⟩ | ⟨h1, h2⟩ | ⟨h1, h2⟩
      · exact .inl h1
      · exact .inr (.inl h1)
      · exact .inr (.inr h1)
theorem cmpText_lex (a b : ByteArray) : cmpText a b = lexG cb a.toList b.toList := by
  unfold cmpText
  rw [less_lex, less_lex]
  have h := Cmp_cb.list.neg a.toList b.toList
  rcases lexcb_range a.toList b.toList with h1 | h1 | h1 <;> rw [h1] at h ⊢ <;> simp [h]
theorem Cmp_text : Cmp cmpText := by
  have e : cmpText = fun a b : ByteArray => lexG cb a.toList b.toList := by funext a b; exact cmpText_lex a b
  rw [e]
  exact Cmp_cb.list.comp ByteArray.toList
def K1 (a : Atom) : Int := if isNum a.f0 = true then nkey a else a.f1
def K2 (a : Atom) : Int := if isNum a.f0 = true then a.f0 else 0
def K3 (a : Atom) : ByteArray := if isNum a.f0 = true then ByteArray.empty else a.f3
theorem isNum_rank {k l : Int} (h : rankN k = rankN l) : isNum k = isNum l := by
  have e : ∀ k, isNum k = decide (rankN k = 2) := fun k => by
    unfold isNum rankN
    by_cases h2 : k = 2
    · subst h2; rfl
    · by_cases h3 : k = 3
      · subst h3; rfl
      · rw [if_neg h3]; simp [h2, h3]
  rw [e, e, h]
theorem atomsN_lex (a b : Atom) : atomsN a b = if cmp3 (rankN a.f0) (rankN b.f0) = 0 then (if cmp3 (K1 a) (K1 b) = 0 then (if cmp3 (K2 a) (K2 b) = 0 then cmpText (K3 a) (K3 b) else cmp3 (K2 a) (K2 b)) else cmp3 (K1 a) (K1 b)) else cmp3 (rankN a.f0) (rankN b.f0) := by
  unfold atomsN K1 K2 K3
  by_cases h : rankN a.f0 = rankN b.f0
  · rw [if_neg (by simpa using h), if_pos ((cmp3_iff _ _).2.2 h), ← isNum_rank h]
    cases isNum a.f0
    · simp only [Bool.false_eq_true, if_false, orN]
      rw [if_pos (show cmp3 0 0 = 0 from rfl)]
      split <;> (try split) <;> simp_all
    · simp only [if_true, orN]
      have : cmpText ByteArray.empty ByteArray.empty = 0 := Cmp_text.refl _
      rw [this]
  · rw [if_pos h, if_neg (fun e => h ((cmp3_iff _ _).2.1 e))]
theorem Cmp_atoms : Cmp atomsN := by
  have e : atomsN = fun a b : Atom => if cmp3 (rankN a.f0) (rankN b.f0) = 0 then (if cmp3 (K1 a) (K1 b) = 0 then (if cmp3 (K2 a) (K2 b) = 0 then cmpText (K3 a) (K3 b) else cmp3 (K2 a) (K2 b)) else cmp3 (K1 a) (K1 b)) else cmp3 (rankN a.f0) (rankN b.f0) := by funext a b; exact atomsN_lex a b
  rw [e]
  exact (Cmp.key (fun a : Atom => rankN a.f0)).lex ((Cmp.key K1).lex ((Cmp.key K2).lex (Cmp_text.comp K3)))
theorem mval_pos {a : Nat} (h : 0 < a) : 0 < mval a := by have := mval_lt h; rw [mval_zero] at this; exact this
end Go.Proofs.Ytnfapjkffofcaaa.ORD
namespace Go.Proofs.Ytnfapjkffofcaaa.BD
open Go.RowKit Go.Proofs.YtnfapjkffofcaaaW.PrintWords Go.Proofs.Ytnfapjkffofcaaa.FW Go.Proofs.Ytnfapjkffofcaaa.FL Go.Proofs.Ytnfapjkffofcaaa.EV Go.Proofs.Ytnfapjkffofcaaa.TY Go.Proofs.Ytnfapjkffofcaaa.PK Go.Proofs.Ytnfapjkffofcaaa.G Go.Proofs.Ytnfapjkffofcaaa.ORD
set_option linter.unusedVariables false
set_option linter.unusedSimpArgs false
theorem int_in {n : Int} (h : B3 n) : In64 n := by
  have h1 : (decide (IntKind.min .i64 ≤ n) && decide (n ≤ IntKind.max .i64)) = true := h
  simp only [Bool.and_eq_true, decide_eq_true_eq] at h1
  exact h1
abbrev ofInt (n : Int) : Val := ⟨⟨2, n, 0, ⟨#[]⟩⟩, []⟩
abbrev ofReal (f : Nat) : Val := ⟨⟨3, 0, canonN f, ⟨#[]⟩⟩, []⟩
theorem valid_ofInt (n : Int) : validV (ofInt n) = true := by
  unfold validV
  rw [if_neg (show ¬ ((2 : Int) = 6) by decide)]
  unfold validA
  simp [ByteArray.toList_eq]
theorem canonN_canonN (f : Nat) (h : f < 18446744073709551616) : canonN (canonN f) = canonN f := by
  have e1 : canonN 9221120237041090560 = 9221120237041090560 := by decide
  have e2 : canonN 0 = 0 := by decide
  by_cases h1 : nan f = true
  · have e : canonN f = 9221120237041090560 := by unfold canonN; rw [if_pos h1]
    rw [e, e1]
  · by_cases h2 : rung f = 0
    · have e : canonN f = 0 := by unfold canonN; rw [if_neg h1, if_pos h2]
      rw [e, e2]
    · have e : canonN f = f := by unfold canonN; rw [if_neg h1, if_neg h2]
      rw [e, e]
theorem valid_ofReal (f : Nat) (h : f < 18446744073709551616) : validV (ofReal f) = true := by
  unfold validV
  rw [if_neg (show ¬ ((3 : Int) = 6) by decide)]
  unfold validA
  simp [canonN_canonN f h, ByteArray.toList_eq]
theorem inInt (n : Int) (h : In64 n) : InV (ofInt n) := ⟨h, fun a ha => by cases ha⟩
theorem inReal (f : Nat) : InV (ofReal f) := ⟨(by decide : In64 0), fun a ha => by cases ha⟩
end Go.Proofs.Ytnfapjkffofcaaa.BD
namespace Go.Proofs.Ytnfapjkffofcaaa.PureValueAsks
open Go.RowKit Go.Proofs.YtnfapjkffofcaaaW.PrintWords Go.Proofs.Ytnfapjkffofcaaa.FW Go.Proofs.Ytnfapjkffofcaaa.FL Go.Proofs.Ytnfapjkffofcaaa.EV Go.Proofs.Ytnfapjkffofcaaa.TY Go.Proofs.Ytnfapjkffofcaaa.PA3 Go.Proofs.Ytnfapjkffofcaaa.PK Go.Proofs.Ytnfapjkffofcaaa.G Go.Proofs.Ytnfapjkffofcaaa.ORD Go.Proofs.Ytnfapjkffofcaaa.BD
set_option linter.unusedVariables false
set_option linter.unusedSimpArgs false
abbrev ofBool (n : Int) : Val := ⟨⟨1, n, 0, ⟨#[]⟩⟩, []⟩
abbrev ofText (s : ByteArray) : Val := ⟨⟨4, 0, 0, s⟩, []⟩
theorem nan_canon (f : Nat) : nan (canonN f) = nan f ∧ fkey (canonN f) = fkey f := by
  cases h : nan f
  · by_cases h2 : rung f = 0
    · have e : canonN f = 0 := by unfold canonN; rw [h, h2]; rfl
      rw [e]
      refine ⟨by decide, ?_⟩
      have e0 : fkey 0 = 0 := by
        unfold fkey sv
        rw [show nan 0 = false by decide, show rung 0 = 0 by decide, mval_zero, show neg 0 = false by decide]
        rfl
      rw [e0]
      unfold fkey sv
      rw [h, h2, mval_zero]
      cases neg f <;> rfl
    · have e : canonN f = f := by unfold canonN; rw [h, if_neg (by decide), if_neg h2]
      rw [e]
      exact ⟨h, rfl⟩
  · have e : canonN f = 9221120237041090560 := by unfold canonN; rw [h]; rfl
    rw [e]
    refine ⟨by decide, ?_⟩
    unfold fkey
    rw [h, show nan 9221120237041090560 = true by decide]
    rfl
theorem unk_false {v w : Val} (hv : validV v = true) (hw : validV w = true) (h1 : v.f0.f0 ≠ 0) (h2 : w.f0.f0 ≠ 0) : unknownV v w = false := by
  unfold unknownV
  rw [hv, hw, decide_eq_false h1, decide_eq_false h2]
  rfl
theorem nan_int (n : Int) : nanA (ofInt n).f0 = false := rfl
theorem nan_real (f : Nat) : nanA (ofReal f).f0 = nan f := by
  show (decide ((3 : Int) = 3) && nan (canonN f)) = nan f
  rw [(nan_canon f).1]
  rfl
theorem key_int (n : Int) : nkey (ofInt n).f0 = ikey n := rfl
theorem key_real (f : Nat) : nkey (ofReal f).f0 = fkey f := (nan_canon f).2
theorem less_num {v w : Val} (hv : validV v = true) (hw : validV w = true) (h1 : v.f0.f0 = 2 ∨ v.f0.f0 = 3) (h2 : w.f0.f0 = 2 ∨ w.f0.f0 = 3) :
    lessV v w = if nanA v.f0 = true ∨ nanA w.f0 = true then 0 else toldN (decide (nkey v.f0 < nkey w.f0)) := by
  unfold lessV
  have hr : ∀ k : Int, k = 2 ∨ k = 3 → rankN k = 2 := fun k hk => by rcases hk with rfl | rfl <;> rfl
  rw [unk_false hv hw (by omega) (by omega), hr _ h1, hr _ h2, if_neg (by simp; omega)]
  have hi : isNum v.f0.f0 = true := by unfold isNum; rcases h1 with h | h <;> rw [h] <;> rfl
  rw [hi, if_pos (show true = true from rfl)]
  have e : (cmp3 (nkey v.f0) (nkey w.f0) < 0) ↔ nkey v.f0 < nkey w.f0 := by
    rcases cmp3_cases (nkey v.f0) (nkey w.f0) with ⟨h, h'⟩ | ⟨h, h'⟩ | ⟨h, h'⟩ <;> rw [h] <;> omega
  rw [decide_eq_decide.2 e]
theorem equal_num {v w : Val} (hv : validV v = true) (hw : validV w = true) (h1 : v.f0.f0 = 2 ∨ v.f0.f0 = 3) (h2 : w.f0.f0 = 2 ∨ w.f0.f0 = 3) :
    equalV v w = if nanA v.f0 = true ∨ nanA w.f0 = true then 0 else toldN (decide (nkey v.f0 = nkey w.f0)) := by
  unfold equalV alikeN
  rw [unk_false hv hw (by omega) (by omega), if_neg (by decide), if_neg (by omega)]
  have hi : isNum v.f0.f0 = true ∧ isNum w.f0.f0 = true := by unfold isNum; rcases h1 with h | h <;> rcases h2 with h' | h' <;> rw [h, h'] <;> exact ⟨rfl, rfl⟩
  by_cases hn : nanA v.f0 = true ∨ nanA w.f0 = true
  · rw [if_pos hn, if_pos (by rcases hn with h | h <;> simp [h])]; rfl
  · rw [if_neg hn, if_neg (by rintro (h | h | h | h); exact hn (.inl h); exact hn (.inr h); omega; omega), if_pos hi]
theorem valid_ofBool : validV (ofBool 1) = true := by
  unfold validV
  rw [if_neg (show ¬ ((1 : Int) = 6) by decide)]
  unfold validA
  simp [ByteArray.toList_eq]
theorem eq_bool : equalV (ofBool 1) (ofBool 1) = 1 := by
  unfold equalV alikeN
  rw [unk_false valid_ofBool valid_ofBool (by decide) (by decide), if_neg (by decide), if_neg (by decide), if_neg (by decide), if_neg (by decide), Cmp_atoms.refl]
  rfl
theorem less_text (n : Int) (s : ByteArray) : lessV (ofInt n) (ofText s) = 2 := by
  unfold lessV
  rw [if_pos (.inr (.inr (show rankN 2 ≠ rankN 4 by decide)))]
theorem less_some {v w : Val} (hv : InV v) (hw : InV w) : value_Less.f v.f0.f0 v.f0.f1 v.f0.f2 v.f0.f3 v.f1 w.f0.f0 w.f0.f1 w.f0.f2 w.f0.f3 w.f1 = some (lessV v w) := by
  unfold value_Less.f; exact if_pos ⟨hv, hw⟩
theorem equal_some {v w : Val} (hv : InV v) (hw : InV w) : value_Equal.f v.f0.f0 v.f0.f1 v.f0.f2 v.f0.f3 v.f1 w.f0.f0 w.f0.f1 w.f0.f2 w.f0.f3 w.f1 = some (equalV v w) := by
  unfold value_Equal.f; exact if_pos ⟨hv, hw⟩
theorem whole_iff (n : Int) (hn : In64 n) (f : Nat) (hf : nan f = false) : ((wholeN f).2 = true ∧ (wholeN f).1 = n) ↔ ikey n = fkey f := by
  have ho : (0 : Int) < (ONE : Int) := by have := one_pos; omega
  have hk : fkey f = sv f := by unfold fkey; rw [hf]; rfl
  rw [hk]
  unfold wholeN ikey
  have l1 : n * (ONE : Int) < 9223372036854775808 * ONE := Int.mul_lt_mul_of_pos_right (by have := hn.2; omega) ho
  have l2 : -9223372036854775808 * (ONE : Int) ≤ n * ONE := Int.mul_le_mul_of_nonneg_right hn.1 (by omega)
  have inj : ∀ m : Int, m * (ONE : Int) = n * ONE → m = n := fun m h => Int.eq_of_mul_eq_mul_right (by omega) h
  have e : -9223372036854775808 * (ONE : Int) = -(9223372036854775808 * (ONE : Int)) := Int.neg_mul _ _
  split
  · rename_i h
    simp only [Bool.false_eq_true, false_and, false_iff]
    intro hc
    rcases h with h | h | h | h
    · rw [hf] at h; cases h
    · omega
    · omega
    · apply h
      rw [← hc]
      have hm : mval (rung f) = n.natAbs * ONE := by
        unfold sv sgn at hc
        have h3 : (mval (rung f) : Int) = ((n.natAbs * ONE : Nat) : Int) := by
          rw [Int.natCast_mul]
          rcases Int.le_total 0 n with h0 | h0
          · rw [Int.natAbs_of_nonneg h0]
            have := Int.mul_nonneg h0 (Int.le_of_lt ho)
            split at hc <;> omega
          · rw [Int.ofNat_natAbs_of_nonpos h0, Int.neg_mul]
            have : n * (ONE : Int) ≤ 0 := Int.mul_nonpos_of_nonpos_of_nonneg h0 (Int.le_of_lt ho)
            split at hc <;> omega
        omega
      have hl : fl f = n.natAbs := by
        unfold fl
        rw [hm, Nat.mul_div_cancel _ one_pos]
      rw [hl]
      have hs : sgn (neg f) n.natAbs = n := by
        apply inj
        rw [hc]
        unfold sv
        rw [hm]
        unfold sgn
        split
        · rw [Int.natCast_mul, Int.neg_mul]
        · rw [Int.natCast_mul]
      rw [hs]
  · rename_i h
    have h4 : sv f = sgn (neg f) (fl f) * ONE := Decidable.byContradiction fun hc => h (.inr (.inr (.inr hc)))
    simp only [true_and]
    rw [h4]
    exact ⟨fun h => by rw [h], fun h => (inj _ h.symm)⟩
theorem ValueAsks : SValueAsks.Pure := by
  intro n f hn hf
  have hn := int_in hn
  have ia : InV (ofInt n) := inInt n hn
  have ib : InV (ofReal f) := inReal f
  have va := valid_ofInt n
  have vb := valid_ofReal f hf
  suffices h : Ev (fun k => cobweblaw03_ValueAsks.f k n f) true from h.rounds
  have x1 := less_num va vb (.inl rfl) (.inr rfl)
  have y1 := equal_num va vb (.inl rfl) (.inr rfl)
  have z1 := less_num vb va (.inr rfl) (.inl rfl)
  have s1 := equal_num va va (.inl rfl) (.inl rfl)
  have t1 := equal_num vb vb (.inr rfl) (.inr rfl)
  rw [nan_int, nan_real, key_int, key_real] at x1 y1 z1
  rw [nan_int, key_int] at s1
  rw [nan_real, key_real] at t1
  have s2 : equalV (ofInt n) (ofInt n) = 1 := by rw [s1]; simp [toldN]
  have lab := less_some ia ib
  have eab := equal_some ia ib
  have lba := less_some ib ia
  have eaa := equal_some ia ia
  have ebb := equal_some ib ib
  have e11 := equal_some (v := ofBool 1) (w := ofBool 1) (by decide) (by decide)
  have lat := less_some (v := ofInt n) (w := ofText ⟨#[]⟩) ia ⟨by decide, fun a ha => by cases ha⟩
  rw [eq_bool] at e11
  rw [less_text] at lat
  rw [s2] at eaa
  simp only [] at lab eab lba eaa ebb e11 lat
  unfold cobweblaw03_ValueAsks.f value_OfInt.f value_OfReal.f
  refine some_bind (some_bind ?_)
  simp only []
  rw [lab, eab, lba, eaa]
  refine some_bind (some_bind (some_bind (some_bind (ite_t rfl ?_))))
  refine Ev.step (fun _ => rfl) ?_
  simp only [cobweblaw03_ValueAsks.j0]
  unfold floats_Class.f
  refine some_bind ?_
  by_cases hc : nan f = true
  · rw [ebb]
    rw [hc] at x1 y1 z1 t1
    rw [x1, y1, z1, t1]
    refine ite_t (nanCases f |>.2 hc) (ite_t (by simp) (ite_t (by simp) (ite_t (by simp) (some_bind ?_))))
    exact Ev.now _
  · have hc' : nan f = false := by simpa using hc
    refine ite_f (fun h => hc (nanCases f |>.1 h)) ?_
    refine Ev.step (fun _ => rfl) ?_
    simp only [cobweblaw03_ValueAsks.j1]
    rw [hc'] at x1 y1 z1
    simp only [Bool.false_eq_true, or_self, if_false] at x1 y1 z1
    rw [x1, y1, z1]
    unfold floats_Whole.f
    refine some_bind ?_
    have hw := whole_iff n hn f hc'
    have tail : Ev (fun k => (value_OfBool.f true).bind fun bt125 => ((value_OfBool.f true).bind fun bt132 => ((value_Equal.f bt125.1 bt125.2.1 bt125.2.2.1 bt125.2.2.2.1 bt125.2.2.2.2 bt132.1 bt132.2.1 bt132.2.2.1 bt132.2.2.2.1 bt132.2.2.2.2).bind fun t139 => (if t139 = 1 then ((value_OfText.f (⟨#[]⟩ : ByteArray)).bind fun bt140 => ((value_Less.f 2 n 0 (⟨#[]⟩ : ByteArray) [] bt140.1 bt140.2.1 bt140.2.2.1 bt140.2.2.2.1 bt140.2.2.2.2).bind fun t147 => (some (t147 == 2)))) else (some false))))) true := by
      unfold value_OfBool.f
      refine some_bind (some_bind ?_)
      simp only [if_true]
      rw [e11]
      refine some_bind (ite_t rfl ?_)
      unfold value_OfText.f
      rw [if_neg (by decide)]
      refine some_bind ?_
      simp only []
      rw [lat]
      exact some_bind (Ev.now _)
    refine ite_t ?_ ?_
    · unfold toldN
      simp only [decide_eq_true_eq]
      rcases Int.lt_trichotomy (ikey n) (fkey f) with h | h | h
      · rw [if_pos h, if_neg (by omega), if_neg (by omega)]; unfold wrap64; omega
      · rw [if_neg (by omega), if_pos h, if_neg (by omega)]; unfold wrap64; omega
      · rw [if_neg (by omega), if_neg (by omega), if_pos h]; unfold wrap64; omega
    · have ey : (toldN (decide (ikey n = fkey f)) == 1) = decide (ikey n = fkey f) := by unfold toldN; by_cases h : ikey n = fkey f <;> simp [h]
      rw [ey]
      cases h2 : (wholeN f).2
      · rw [h2] at hw
        refine ite_f (by decide) (ite_t ?_ tail)
        simp only [Bool.false_eq_true, false_and, false_iff] at hw
        rw [decide_eq_false hw]; rfl
      · rw [h2] at hw
        refine ite_t rfl (ite_t ?_ tail)
        simp only [true_and] at hw
        rw [beq_iff_eq, Bool.eq_iff_iff, decide_eq_true_eq, beq_iff_eq]
        exact hw.symm
end Go.Proofs.Ytnfapjkffofcaaa.PureValueAsks
