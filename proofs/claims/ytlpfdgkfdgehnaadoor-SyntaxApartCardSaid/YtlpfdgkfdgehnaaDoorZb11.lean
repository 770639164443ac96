/- Part 11 of the proof: words, contracts, plain laws. Laid by a program of this session (wip/tool/shake.py): what is needed of own and printed texts, in order. -/
import Derived.Test.YtlpfdgkfdgehnaaDoorZb0
import Derived.Test.YtlpfdgkfdgehnaaDoorZb1
import Derived.Test.YtlpfdgkfdgehnaaDoorZb2
import Derived.Test.YtlpfdgkfdgehnaaDoorZb3
import Derived.Test.YtlpfdgkfdgehnaaDoorZb5
import Derived.Test.YtlpfdgkfdgehnaaDoorZb10
import Derived.Lib.Bytealg
import Derived.Lib.AtoiAllCases
import Derived.Lib.Strings
import Derived.Calls
import Derived.Lib.ItoaNum
import Derived.Orders
import Derived.Tactics
import Derived.Below
import Derived.Laws.Rows
import Derived.Laws.World
import Derived.Laws.CopyRow
import Derived.Lib.FrozenHead
import Derived.Deep.AppendSrc
import Derived.Deep.Upon
import Derived.Laws.BytesArg
import Derived.IntWalk
import Derived.Laws.Externs
import Derived.LoopN
import Derived.Scope
import Derived.Test.YtlpfdgkfdgehnaaDoorProg
import Derived.KernelRfl
import Derived.MapKept
import Derived.Recover
import Derived.RegionTactic
import Derived.Lib.AppendIntMem
import Derived.Lib.Join
import Derived.Shelf.Strings.Builder1
import Derived.Shelf.Strings.Builder2
import Derived.Shelf.Strings.OnBuilder
import Derived.Shelf.Small.Wraps
import Derived.Shelf.Strings.BuilderF
import Derived.Shelf.Strings.BuilderK
import Derived.Shelf.Strings.Builder2Cap
import Derived.Shelf.Strconv.Itoa0
import Derived.Shelf.Strconv.Itoa1
import Derived.Shelf.LaysM
import Derived.Shelf.Strconv.Itoa2
import Derived.Shelf.Strconv.Itoa3
import Derived.Shelf.Strings.BuilderCap
import Derived.Shelf.Slices.Turned
import Derived.WideLaws
import Derived.Test.YtlpfdgkfdgehnaaDoorZb6
import Derived.Lib.ItoaLen
import Derived.Test.YtlpfdgkfdgehnaaDoorZb7
import Derived.Laws.FloatBits
import Derived.Lib.ItoaMem
namespace Go.Proofs.YtlpfdgkfdgehnaaDoor.AM
open Go.RowKit
set_option linter.unusedSimpArgs false
set_option linter.unusedVariables false
set_option maxRecDepth 10000
set_option maxHeartbeats 0
abbrev nullB : ByteArray := ⟨#[110, 117, 108, 108]⟩
abbrev trueB : ByteArray := ⟨#[116, 114, 117, 101]⟩
abbrev falseB : ByteArray := ⟨#[102, 97, 108, 115, 101]⟩
abbrev openB : ByteArray := ⟨#[91]⟩
end Go.Proofs.YtlpfdgkfdgehnaaDoor.AM
namespace Go.Proofs.YtlpfdgkfdgehnaaDoor.AM
open Go.RowKit
set_option linter.unusedSimpArgs false
set_option linter.unusedVariables false
set_option maxRecDepth 10000
set_option maxHeartbeats 0
abbrev hexDigs : ByteArray := ⟨#[48, 49, 50, 51, 52, 53, 54, 55, 56, 57, 97, 98, 99, 100, 101, 102]⟩
def hexI (c : UInt8) : Int := Lib.indexByte hexDigs.data.toList c
def byteL : List UInt8 → Option (Option UInt8 × Nat)
  | [] => none
  | c :: l => if c.toNat = 34 then some (none, 1) else if c.toNat < 32 ∨ 126 < c.toNat then none else if c.toNat ≠ 92 then some (some c, 1) else
    match l with
    | [] => none
    | d :: l => if d.toNat = 34 ∨ d.toNat = 92 then some (some d, 2) else if d.toNat ≠ 120 then none else
      match l with
      | a :: b :: _ => if hexI a < 0 ∨ hexI b < 0 ∨ (32 ≤ 16 * hexI a + hexI b ∧ 16 * hexI a + hexI b ≤ 126) then none else some (some (16 * hexI a + hexI b).toNat.toUInt8, 4)
      | _ => none
theorem hexI_bd (c : UInt8) : -1 ≤ hexI c ∧ hexI c ≤ 15 := by
  have h : ∀ n, n < 256 → (decide (-1 ≤ Lib.indexByte hexDigs.data.toList n.toUInt8) && decide (Lib.indexByte hexDigs.data.toList n.toUInt8 ≤ 15)) = true := by decide +kernel
  have := h c.toNat c.toNat_lt
  simpa [hexI] using this
theorem byte_q (c : UInt8) (l : List UInt8) (h : c.toNat = 34) : byteL (c :: l) = some (none, 1) := by simp only [byteL]; rw [if_pos h]
theorem byte_r (c : UInt8) (l : List UInt8) (h : c.toNat ≠ 34) (h2 : c.toNat < 32 ∨ 126 < c.toNat) : byteL (c :: l) = none := by simp only [byteL]; rw [if_neg h, if_pos h2]
theorem byte_p (c : UInt8) (l : List UInt8) (h : c.toNat ≠ 34) (h2 : ¬ (c.toNat < 32 ∨ 126 < c.toNat)) (h3 : c.toNat ≠ 92) : byteL (c :: l) = some (some c, 1) := by simp only [byteL]; rw [if_neg h, if_neg h2, if_pos h3]
theorem byte_e0 (c : UInt8) (h : c.toNat = 92) : byteL [c] = none := by simp [byteL, h]
theorem byte_e1 (c d : UInt8) (l : List UInt8) (h : c.toNat = 92) (hd : d.toNat = 34 ∨ d.toNat = 92) : byteL (c :: d :: l) = some (some d, 2) := by simp [byteL, h, hd]
theorem byte_e2 (c d : UInt8) (l : List UInt8) (h : c.toNat = 92) (hd : ¬ (d.toNat = 34 ∨ d.toNat = 92)) (hx : d.toNat ≠ 120) : byteL (c :: d :: l) = none := by simp [byteL, h, hd, hx]
theorem byte_e3 (c d : UInt8) (l : List UInt8) (h : c.toNat = 92) (hx : d.toNat = 120) (hl : l.length < 2) : byteL (c :: d :: l) = none := by
  match l, hl with
  | [], _ => simp [byteL, h, hx]
  | [a], _ => simp [byteL, h, hx]
theorem byte_e4 (c d a b : UInt8) (l : List UInt8) (h : c.toNat = 92) (hx : d.toNat = 120) (hb : hexI a < 0 ∨ hexI b < 0 ∨ (32 ≤ 16 * hexI a + hexI b ∧ 16 * hexI a + hexI b ≤ 126)) : byteL (c :: d :: a :: b :: l) = none := by
  simp only [byteL, h, hx]; simp [hb]
theorem byte_e5 (c d a b : UInt8) (l : List UInt8) (h : c.toNat = 92) (hx : d.toNat = 120) (hb : ¬ (hexI a < 0 ∨ hexI b < 0 ∨ (32 ≤ 16 * hexI a + hexI b ∧ 16 * hexI a + hexI b ≤ 126))) : byteL (c :: d :: a :: b :: l) = some (some (16 * hexI a + hexI b).toNat.toUInt8, 4) := by
  simp only [byteL, h, hx]; rw [if_neg hb]; simp
end Go.Proofs.YtlpfdgkfdgehnaaDoor.AM
namespace Go.Proofs.YtlpfdgkfdgehnaaDoor.AM
open Go.RowKit
set_option linter.unusedSimpArgs false
set_option linter.unusedVariables false
set_option maxRecDepth 10000
set_option maxHeartbeats 0
inductive RT where
  | ok (t : List UInt8) (n : Nat)
  | bad (e : Int)
def RT.add (d : Nat) : RT → RT
  | .ok t n => .ok t (d + n)
  | .bad e => .bad e
def textL : Nat → List UInt8 → List UInt8 → RT
  | 0, _, _ => .bad 11
  | f + 1, acc, l => match byteL l with
    | none => .bad 11
    | some (none, n) => .ok acc n
    | some (some c, n) => if acc.length = 256 then .bad 3 else (textL f (acc ++ [c]) (l.drop n)).add n
theorem RT.add_add (a b : Nat) (r : RT) : (r.add b).add a = r.add (a + b) := by cases r <;> simp [RT.add, Nat.add_assoc]
theorem byteL_len {l : List UInt8} {o : Option UInt8} {n : Nat} (h : byteL l = some (o, n)) : 1 ≤ n ∧ n ≤ l.length := by
  cases l with
  | nil => simp [byteL] at h
  | cons c l =>
    simp only [byteL] at h
    split at h
    · simp only [Option.some.injEq, Prod.mk.injEq] at h; obtain ⟨_, rfl⟩ := h; simp
    · split at h
      · cases h
      · split at h
        · simp only [Option.some.injEq, Prod.mk.injEq] at h; obtain ⟨_, rfl⟩ := h; simp
        · cases l with
          | nil => cases h
          | cons d l =>
            simp only at h
            split at h
            · simp only [Option.some.injEq, Prod.mk.injEq] at h; obtain ⟨_, rfl⟩ := h; simp
            · split at h
              · cases h
              · match l, h with
                | [], h => cases h
                | [a], h => cases h
                | a :: b :: l, h =>
                  simp only at h
                  split at h
                  · cases h
                  · simp only [Option.some.injEq, Prod.mk.injEq] at h; obtain ⟨_, rfl⟩ := h; simp
end Go.Proofs.YtlpfdgkfdgehnaaDoor.AM
namespace Go.Proofs.YtlpfdgkfdgehnaaDoor.AM
open Go.RowKit
set_option linter.unusedSimpArgs false
set_option linter.unusedVariables false
set_option maxRecDepth 10000
set_option maxHeartbeats 0
abbrev b8 (c : UInt8) : AV := .lit (.int .u8 c.toNat)
theorem strEq_f {a b : ByteArray} (h : a ≠ b) : (a.toList == b.toList) = false := by
  rw [beq_eq_false_iff_ne]
  intro e
  rw [ByteArray.toList_eq, ByteArray.toList_eq] at e
  exact h (ByteArray.ext (Array.ext' e))
end Go.Proofs.YtlpfdgkfdgehnaaDoor.AM
namespace Go.Proofs.YtlpfdgkfdgehnaaDoor.AM
open Go.RowKit
set_option linter.unusedSimpArgs false
set_option linter.unusedVariables false
set_option maxRecDepth 10000
set_option maxHeartbeats 0
def dgB (c : UInt8) : Bool := decide (48 ≤ (c.toNat : Int)) && decide ((c.toNat : Int) ≤ 57)
def takeW : List UInt8 → List UInt8
  | [] => []
  | c :: r => if c.toNat = 45 then c :: r.takeWhile dgB else (c :: r).takeWhile dgB
def wholeL (l : List UInt8) : Option (Int × Nat) := match Lib.atoiAll (takeW l) with
  | .ok n => if Lib.itoa n = takeW l then some (n, (takeW l).length) else none
  | _ => none
end Go.Proofs.YtlpfdgkfdgehnaaDoor.AM
namespace Go.Proofs.YtlpfdgkfdgehnaaDoor.AM
open Go.RowKit
set_option linter.unusedSimpArgs false
set_option linter.unusedVariables false
set_option maxRecDepth 10000
set_option maxHeartbeats 0
def hexU : Nat → List UInt8 → Option Nat
  | u, [] => some u
  | u, c :: l => if hexI c < 0 then none else hexU (16 * u + (hexI c).toNat) l
def parseF (l : List UInt8) : Option Nat := if l.length = 16 then (match hexU 0 l with | some u => if canF u = u then some u else none | none => none) else none
end Go.Proofs.YtlpfdgkfdgehnaaDoor.AM
namespace Go.Proofs.YtlpfdgkfdgehnaaDoor.AM
open Go.RowKit
set_option linter.unusedSimpArgs false
set_option linter.unusedVariables false
set_option maxRecDepth 10000
set_option maxHeartbeats 0
abbrev zfB : ByteArray := ⟨#[48, 102]⟩
abbrev quB : ByteArray := ⟨#[34]⟩
abbrev xqB : ByteArray := ⟨#[120, 34]⟩
def preL (l : List UInt8) (t : ByteArray) : Bool := Lib.hasPrefix l t.data.toList
theorem preL_len {l : List UInt8} {t : ByteArray} (h : preL l t = true) : t.size ≤ l.length := by
  unfold preL Lib.hasPrefix at h
  have h1 := (List.isPrefixOf_iff_prefix.1 h).length_le
  rw [Array.length_toList] at h1
  exact h1
inductive RA where
  | ok (a : AtomD) (n : Nat)
  | bad (e : Int)
def textA (k : Int) (d : Nat) : RT → RA
  | .ok t n => .ok ⟨k, 0, 0, bs t⟩ (d + n)
  | .bad e => .bad e
def atomL (l : List UInt8) : RA :=
  if preL l nullB = true then .ok ⟨0, 0, 0, eE⟩ 4 else if preL l trueB = true then .ok ⟨1, 1, 0, eE⟩ 4 else if preL l falseB = true then .ok ⟨1, 0, 0, eE⟩ 5
  else if preL l zfB = true then (if l.length < 18 then .bad 11 else match parseF ((l.drop 2).take 16) with | some u => .ok ⟨3, 0, u, eE⟩ 18 | none => .bad 11)
  else if preL l quB = true then textA 4 1 (textL 257 [] (l.drop 1))
  else if preL l xqB = true then textA 5 2 (textL 257 [] (l.drop 2))
  else match wholeL l with | some (n, m) => .ok ⟨2, n, 0, eE⟩ m | none => .bad 11
end Go.Proofs.YtlpfdgkfdgehnaaDoor.AM
namespace Go.Proofs.YtlpfdgkfdgehnaaDoor.AM
open Go.RowKit
set_option linter.unusedSimpArgs false
set_option linter.unusedVariables false
set_option maxRecDepth 10000
set_option maxHeartbeats 0
abbrev clB : ByteArray := ⟨#[93]⟩
abbrev cmB : ByteArray := ⟨#[44, 32]⟩
inductive RL where
  | ok (l : List AtomD) (n : Nat)
  | bad (e : Int)
def RL.add (d : Nat) : RL → RL
  | .ok t n => .ok t (d + n)
  | .bad e => .bad e
theorem RL.add_add (a b : Nat) (r : RL) : (r.add b).add a = r.add (a + b) := by cases r <;> simp [RL.add, Nat.add_assoc]
def listN (f : List AtomD → List UInt8 → RL) (acc : List AtomD) (l : List UInt8) : RA → RL
  | .bad e => .bad e
  | .ok a n => if preL (l.drop n) clB = true then .ok (acc ++ [a]) (n + 1) else if preL (l.drop n) cmB = true then (f (acc ++ [a]) ((l.drop n).drop 2)).add (n + 2) else .bad 11
def listL : Nat → List AtomD → List UInt8 → RL
  | 0, _, _ => .bad 11
  | f + 1, acc, l => if acc.length = 16 then .bad 3 else listN (listL f) acc l (atomL l)
theorem textL_len : ∀ (f : Nat) (acc l : List UInt8) (t : List UInt8) (n : Nat), textL f acc l = .ok t n → n ≤ l.length
  | 0, _, _, _, _, h => by cases h
  | f + 1, acc, l, t, n, h => by
    unfold textL at h
    cases hb : byteL l with
    | none => rw [hb] at h; cases h
    | some p =>
      obtain ⟨o, j⟩ := p
      have hj := byteL_len hb
      rw [hb] at h
      cases o with
      | none => simp only [RT.ok.injEq] at h; omega
      | some c =>
        simp only at h
        split at h
        · cases h
        · cases hr : textL f (acc ++ [c]) (l.drop j) with
          | bad e => rw [hr] at h; cases h
          | ok t' m =>
            rw [hr] at h
            simp only [RT.add, RT.ok.injEq] at h
            have := textL_len f _ _ t' m hr
            rw [List.length_drop] at this
            omega
theorem takeW_len (l : List UInt8) : (takeW l).length ≤ l.length := by
  cases l with
  | nil => simp [takeW]
  | cons c r =>
    simp only [takeW]
    split
    · simp only [List.length_cons]; have := (List.takeWhile_sublist dgB (l := r)).length_le; omega
    · exact (List.takeWhile_sublist dgB (l := c :: r)).length_le
theorem atomL_len {l : List UInt8} {a : AtomD} {n : Nat} (h : atomL l = .ok a n) : n ≤ l.length := by
  unfold atomL at h
  split at h
  · rename_i hp; have := preL_len hp; simp only [RA.ok.injEq] at h; have e : nullB.size = 4 := rfl; omega
  · split at h
    · rename_i hp; have := preL_len hp; simp only [RA.ok.injEq] at h; have e : trueB.size = 4 := rfl; omega
    · split at h
      · rename_i hp; have := preL_len hp; simp only [RA.ok.injEq] at h; have e : falseB.size = 5 := rfl; omega
      · split at h
        · split at h
          · cases h
          · split at h
            · simp only [RA.ok.injEq] at h; omega
            · cases h
        · split at h
          · rename_i hp
            have := preL_len hp
            have e : quB.size = 1 := rfl
            cases hr : textL 257 [] (l.drop 1) with
            | bad e => rw [hr] at h; cases h
            | ok t m =>
              rw [hr] at h
              simp only [textA, RA.ok.injEq] at h
              have := textL_len _ _ _ _ _ hr
              rw [List.length_drop] at this
              omega
          · split at h
            · rename_i hp
              have := preL_len hp
              have e : xqB.size = 2 := rfl
              cases hr : textL 257 [] (l.drop 2) with
              | bad e => rw [hr] at h; cases h
              | ok t m =>
                rw [hr] at h
                simp only [textA, RA.ok.injEq] at h
                have := textL_len _ _ _ _ _ hr
                rw [List.length_drop] at this
                omega
            · unfold wholeL at h
              split at h
              · rename_i hw
                split at hw
                · split at hw
                  · simp only [Option.some.injEq, Prod.mk.injEq] at hw
                    simp only [RA.ok.injEq] at h
                    have := takeW_len l
                    omega
                  · cases hw
                · cases hw
              · cases h
end Go.Proofs.YtlpfdgkfdgehnaaDoor.AM
namespace Go.Proofs.YtlpfdgkfdgehnaaDoor.AM
open Go.RowKit
set_option linter.unusedSimpArgs false
set_option linter.unusedVariables false
set_option maxRecDepth 10000
set_option maxHeartbeats 0
theorem Ale.tup {l m : List AV} (h : AleL l m) : Ale (.tup l) (.tup m) := fun c u hv => by
  cases hv with
  | tup _ us h1 k1 =>
    refine .tup _ us (by rw [h1, h.1]) (fun i x hi => ?_)
    obtain ⟨y, hy⟩ := get_of_len h.1 hi
    exact h.2 i y x hy hi _ _ (k1 i y hy)
inductive RV where
  | ok (v : ValD) (n : Nat)
  | bad (e : Int)
def listV : RL → RV
  | .ok l m => .ok ⟨⟨6, 0, 0, eE⟩, l⟩ (1 + m)
  | .bad e => .bad e
def atomV : RA → RV
  | .ok a n => .ok ⟨a, []⟩ n
  | .bad e => .bad e
def readL (l : List UInt8) : RV := if preL l openB = true then (if preL (l.drop 1) clB = true then .ok ⟨⟨6, 0, 0, eE⟩, []⟩ 2 else listV (listL 17 [] (l.drop 1))) else atomV (atomL l)
abbrev nulV : ValD := ⟨⟨0, 0, 0, eE⟩, []⟩
end Go.Proofs.YtlpfdgkfdgehnaaDoor.AM
namespace Go.Proofs.YtlpfdgkfdgehnaaDoor.AM
open Go.RowKit
set_option linter.unusedSimpArgs false
set_option linter.unusedVariables false
set_option maxRecDepth 10000
set_option maxHeartbeats 0
theorem hexB_hexI (c : UInt8) (h : 0 ≤ hexI c) : hexB (hexI c).toNat = c := by
  have k : ∀ n : Nat, n < 256 → (decide (0 ≤ Lib.indexByte hexDigs.data.toList n.toUInt8) = false ∨ hexB (Lib.indexByte hexDigs.data.toList n.toUInt8).toNat = n.toUInt8) := by decide +kernel
  have := k c.toNat c.toNat_lt
  have e : c.toNat.toUInt8 = c := by simp
  rw [e] at this
  rcases this with h2 | h2
  · have := of_decide_eq_false h2; exact absurd h this
  · exact h2
theorem u8_of {c : UInt8} {n : Nat} (hn : n < 256) (h : c.toNat = n) : c = UInt8.ofNat n := by
  apply UInt8.toNat_inj.1
  rw [h]; simp; omega
theorem byteL_esc {l : List UInt8} {c : UInt8} {n : Nat} (h : byteL l = some (some c, n)) : l.take n = escB c := by
  cases l with
  | nil => simp [byteL] at h
  | cons b l =>
    have hb := b.toNat_lt
    by_cases e1 : b.toNat = 34
    · rw [byte_q _ _ e1] at h; simp at h
    · by_cases e2 : b.toNat < 32 ∨ 126 < b.toNat
      · rw [byte_r _ _ e1 e2] at h; cases h
      · by_cases e3 : b.toNat = 92
        · have hb92 : b = 92 := u8_of (by decide) e3
          cases l with
          | nil => rw [byte_e0 _ e3] at h; cases h
          | cons d l =>
            by_cases e4 : d.toNat = 34 ∨ d.toNat = 92
            · rw [byte_e1 _ _ _ e3 e4] at h
              simp only [Option.some.injEq, Prod.mk.injEq] at h
              obtain ⟨rfl, rfl⟩ := h
              unfold escB
              rw [if_pos (by omega), hb92]; rfl
            · by_cases e5 : d.toNat = 120
              · have hd120 : d = 120 := u8_of (by decide) e5
                match l, h with
                | [], h => rw [byte_e3 _ _ _ e3 e5 (by simp)] at h; cases h
                | [a], h => rw [byte_e3 _ _ _ e3 e5 (by simp)] at h; cases h
                | a :: a' :: l, h =>
                  by_cases e6 : hexI a < 0 ∨ hexI a' < 0 ∨ (32 ≤ 16 * hexI a + hexI a' ∧ 16 * hexI a + hexI a' ≤ 126)
                  · rw [byte_e4 _ _ _ _ _ e3 e5 e6] at h; cases h
                  · rw [byte_e5 _ _ _ _ _ e3 e5 e6] at h
                    simp only [Option.some.injEq, Prod.mk.injEq] at h
                    obtain ⟨hc, rfl⟩ := h
                    have b1 := hexI_bd a
                    have b2 := hexI_bd a'
                    have hcn : c.toNat = (16 * hexI a + hexI a').toNat := by
                      rw [← hc]
                      simp only [Nat.toUInt8, UInt8.toNat_ofNat']
                      omega
                    unfold escB
                    rw [if_neg (by omega), if_pos (by omega), hb92, hd120]
                    have q1 : c.toNat / 16 = (hexI a).toNat := by omega
                    have q2 : c.toNat % 16 = (hexI a').toNat := by omega
                    rw [q1, q2, hexB_hexI a (by omega), hexB_hexI a' (by omega)]
                    rfl
              · rw [byte_e2 _ _ _ e3 e4 e5] at h; cases h
        · rw [byte_p _ _ e1 e2 e3] at h
          simp only [Option.some.injEq, Prod.mk.injEq] at h
          obtain ⟨rfl, rfl⟩ := h
          unfold escB
          rw [if_neg (by omega), if_neg (by omega)]
          rfl
theorem byteL_end {l : List UInt8} {n : Nat} (h : byteL l = some (none, n)) : l.take n = [34] ∧ n = 1 := by
  cases l with
  | nil => simp [byteL] at h
  | cons b l =>
    by_cases e1 : b.toNat = 34
    · rw [byte_q _ _ e1] at h
      simp only [Option.some.injEq, Prod.mk.injEq, true_and] at h
      subst h
      have : b = 34 := u8_of (by decide) e1
      rw [this]
      exact ⟨rfl, rfl⟩
    · exfalso
      by_cases e2 : b.toNat < 32 ∨ 126 < b.toNat
      · rw [byte_r _ _ e1 e2] at h; cases h
      · by_cases e3 : b.toNat = 92
        · cases l with
          | nil => rw [byte_e0 _ e3] at h; cases h
          | cons d l =>
            by_cases e4 : d.toNat = 34 ∨ d.toNat = 92
            · rw [byte_e1 _ _ _ e3 e4] at h; simp at h
            · by_cases e5 : d.toNat = 120
              · match l, h with
                | [], h => rw [byte_e3 _ _ _ e3 e5 (by simp)] at h; cases h
                | [a], h => rw [byte_e3 _ _ _ e3 e5 (by simp)] at h; cases h
                | a :: a' :: l, h =>
                  by_cases e6 : hexI a < 0 ∨ hexI a' < 0 ∨ (32 ≤ 16 * hexI a + hexI a' ∧ 16 * hexI a + hexI a' ≤ 126)
                  · rw [byte_e4 _ _ _ _ _ e3 e5 e6] at h; cases h
                  · rw [byte_e5 _ _ _ _ _ e3 e5 e6] at h; simp at h
              · rw [byte_e2 _ _ _ e3 e4 e5] at h; cases h
        · rw [byte_p _ _ e1 e2 e3] at h; simp at h
theorem take_split {α : Type} (l : List α) (a b : Nat) : l.take (a + b) = l.take a ++ (l.drop a).take b := by rw [List.take_add]
theorem textL_quote : ∀ (f : Nat) (acc l t : List UInt8) (n : Nat), acc.length ≤ 256 → textL f acc l = .ok t n → ∃ t', t = acc ++ t' ∧ l.take n = t'.flatMap escB ++ [34] ∧ t.length ≤ 256 ∧ 1 ≤ n
  | 0, _, _, _, _, _, h => by cases h
  | f + 1, acc, l, t, n, ha, h => by
    unfold textL at h
    cases hb : byteL l with
    | none => rw [hb] at h; cases h
    | some p =>
      obtain ⟨o, j⟩ := p
      have hj := byteL_len hb
      rw [hb] at h
      cases o with
      | none =>
        simp only [RT.ok.injEq] at h
        obtain ⟨rfl, rfl⟩ := h
        exact ⟨[], by simp, by simpa using (byteL_end hb).1, ha, hj.1⟩
      | some c =>
        simp only at h
        split at h
        · cases h
        · rename_i h256
          cases hr : textL f (acc ++ [c]) (l.drop j) with
          | bad e => rw [hr] at h; cases h
          | ok t2 m =>
            rw [hr] at h
            simp only [RT.add, RT.ok.injEq] at h
            obtain ⟨rfl, rfl⟩ := h
            obtain ⟨t', q1, q2, q3, q4⟩ := textL_quote f _ _ _ m (by simp; omega) hr
            refine ⟨c :: t', by rw [q1]; simp, ?_, q3, by omega⟩
            rw [take_split, byteL_esc hb, q2, List.flatMap_cons, List.append_assoc]
theorem text_print {l t : List UInt8} {n : Nat} (h : textL 257 [] l = .ok t n) : (34 : UInt8) :: l.take n = quoteL t ∧ t.length ≤ 256 := by
  obtain ⟨t', q1, q2, q3, q4⟩ := textL_quote 257 [] l t n (by simp) h
  rw [List.nil_append] at q1
  subst q1
  refine ⟨?_, q3⟩
  rw [q2]; rfl
abbrev rowC (c : UInt8) : List Dat := [.lit (.int .u8 (hexD (hexI c).toNat))]
theorem hexRows_of : ∀ (l : List UInt8) (u0 u k : Nat) (acc : List (List Dat)), hexU u0 l = some u → hexRows (k + l.length) u acc = hexRows k u0 (l.map rowC ++ acc) ∧ ∀ c ∈ l, 0 ≤ hexI c
  | [], u0, u, k, acc, h => by
    obtain rfl := Option.some.inj h
    exact ⟨rfl, fun c hc => by cases hc⟩
  | c :: l, u0, u, k, acc, h => by
    simp only [hexU] at h
    split at h
    · cases h
    · rename_i hc
      have hb := hexI_bd c
      obtain ⟨ih, ih2⟩ := hexRows_of l (16 * u0 + (hexI c).toNat) u (k + 1) acc h
      refine ⟨?_, fun x hx => ?_⟩
      · rw [List.length_cons, show k + (l.length + 1) = k + 1 + l.length by omega, ih]
        show hexRows k ((16 * u0 + (hexI c).toNat) / 16) _ = _
        rw [show (16 * u0 + (hexI c).toNat) / 16 = u0 by omega, show (16 * u0 + (hexI c).toNat) % 16 = (hexI c).toNat by omega]
        rfl
      · rcases List.mem_cons.1 hx with rfl | hx
        · omega
        · exact ih2 x hx
theorem hexS_of {l : List UInt8} {u : Nat} (h : parseF l = some u) : (hexS u).data.toList = l ∧ canF u = u ∧ l.length = 16 := by
  unfold parseF at h
  split at h
  · rename_i h16
    cases hx : hexU 0 l with
    | none => rw [hx] at h; cases h
    | some w =>
      rw [hx] at h
      simp only at h
      split at h
      · rename_i hc
        obtain rfl := Option.some.inj h
        refine ⟨?_, hc, h16⟩
        obtain ⟨k1, k2⟩ := hexRows_of l 0 w 0 [] hx
        unfold hexS
        rw [hc]
        rw [Nat.zero_add, h16] at k1
        rw [k1]
        show (strR (l.map rowC ++ [])).data.toList = l
        rw [List.append_nil]
        unfold strR
        rw [List.map_map]
        show (List.map (fun c => hexB (hexI c).toNat) l) = l
        conv => rhs; rw [← List.map_id l]
        exact List.map_congr_left (fun c hc => hexB_hexI c (k2 c hc))
      · cases h
  · cases h
theorem takeW_take (l : List UInt8) : l.take (takeW l).length = takeW l := by
  have tw : ∀ r : List UInt8, r.take (r.takeWhile dgB).length = r.takeWhile dgB := fun r => by
    conv => lhs; arg 2; rw [← List.takeWhile_append_dropWhile (p := dgB) (l := r)]
    rw [List.take_left']
    rfl
  cases l with
  | nil => rfl
  | cons c r =>
    simp only [takeW]
    split
    · rw [List.length_cons, List.take_succ_cons, tw]
    · exact tw (c :: r)
theorem wholeL_print {l : List UInt8} {n : Int} {m : Nat} (h : wholeL l = some (n, m)) : Lib.itoa n = l.take m ∧ i64B n ∧ 0 < m := by
  unfold wholeL at h
  split at h
  · rename_i v ha
    split at h
    · rename_i hi
      simp only [Option.some.injEq, Prod.mk.injEq] at h
      obtain ⟨rfl, rfl⟩ := h
      refine ⟨by rw [hi, takeW_take], Lib.atoiAll_bounds ha, ?_⟩
      apply Nat.pos_of_ne_zero
      intro h0
      rw [List.length_eq_zero_iff.1 h0] at ha
      simp [Lib.atoiAll] at ha
    · cases h
  · cases h
theorem pre_take {l : List UInt8} {t : ByteArray} (h : preL l t = true) : l.take t.size = t.data.toList := by
  unfold preL Lib.hasPrefix at h
  obtain ⟨r, hr⟩ := List.isPrefixOf_iff_prefix.1 h
  rw [← hr]
  exact List.take_left' Array.length_toList
theorem atom_print {l : List UInt8} {a : AtomD} {n : Nat} (h : atomL l = .ok a n) : (printA a).data.toList = l.take n ∧ validA a = true ∧ 0 < n ∧ okA a := by
  unfold atomL at h
  split at h
  · rename_i hp
    have ht := pre_take hp
    simp only [RA.ok.injEq] at h
    obtain ⟨rfl, rfl⟩ := h
    exact ⟨ht.symm, by decide +kernel, by decide, ⟨by show i64B 0; unfold i64B; decide, by decide⟩⟩
  · split at h
    · rename_i hp
      have ht := pre_take hp
      simp only [RA.ok.injEq] at h
      obtain ⟨rfl, rfl⟩ := h
      exact ⟨ht.symm, by decide +kernel, by decide, ⟨by show i64B 1; unfold i64B; decide, by decide⟩⟩
    · split at h
      · rename_i hp
        have ht := pre_take hp
        simp only [RA.ok.injEq] at h
        obtain ⟨rfl, rfl⟩ := h
        exact ⟨ht.symm, by decide +kernel, by decide, ⟨by show i64B 0; unfold i64B; decide, by decide⟩⟩
      · split at h
        · rename_i hp
          have ht := pre_take hp
          split at h
          · cases h
          · cases hf : parseF ((l.drop 2).take 16) with
            | none => rw [hf] at h; cases h
            | some u =>
              rw [hf] at h
              simp only [RA.ok.injEq] at h
              obtain ⟨rfl, rfl⟩ := h
              obtain ⟨q1, q2, q3⟩ := hexS_of hf
              refine ⟨?_, ?_, by decide, ⟨by show i64B 0; unfold i64B; decide, by show eE.size ≤ _; decide⟩⟩
              · show ((⟨#[48, 102]⟩ : ByteArray) ++ hexS u).data.toList = _
                rw [ByteArray.data_append, Array.toList_append, q1, show (18 : Nat) = 2 + 16 from rfl, take_split, show (2 : Nat) = zfB.size from rfl, ht]
              · show (isA ⟨3, 0, u, eE⟩ false true false && ((u : Int) == (canF u : Int))) = true
                rw [q2]
                simp [isA]
        · split at h
          · rename_i hp
            have ht := pre_take hp
            cases hr : textL 257 [] (l.drop 1) with
            | bad e => rw [hr] at h; cases h
            | ok t m =>
              rw [hr] at h
              simp only [textA, RA.ok.injEq] at h
              obtain ⟨rfl, rfl⟩ := h
              obtain ⟨q1, q2⟩ := text_print hr
              have hsz : (bs t).size = t.length := by simp [bs, ByteArray.size]
              refine ⟨?_, ?_, by omega, ⟨by show i64B 0; unfold i64B; decide, by show (bs t).size ≤ _; omega⟩⟩
              · show (quoteS (bs t)).data.toList = _
                show quoteL t = _
                rw [← q1, take_split, show (1 : Nat) = quB.size from rfl, ht]
                rfl
              · show (isA ⟨4, 0, 0, bs t⟩ false false true && decide (((bs t).size : Int) ≤ 256)) = true
                rw [decide_eq_true (by omega)]
                simp [isA]
          · split at h
            · rename_i hp
              have ht := pre_take hp
              cases hr : textL 257 [] (l.drop 2) with
              | bad e => rw [hr] at h; cases h
              | ok t m =>
                rw [hr] at h
                simp only [textA, RA.ok.injEq] at h
                obtain ⟨rfl, rfl⟩ := h
                obtain ⟨q1, q2⟩ := text_print hr
                have hsz : (bs t).size = t.length := by simp [bs, ByteArray.size]
                refine ⟨?_, ?_, by omega, ⟨by show i64B 0; unfold i64B; decide, by show (bs t).size ≤ _; omega⟩⟩
                · show ((⟨#[120]⟩ : ByteArray) ++ quoteS (bs t)).data.toList = _
                  rw [ByteArray.data_append, Array.toList_append]
                  show [120] ++ quoteL t = _
                  rw [← q1, take_split, show (2 : Nat) = xqB.size from rfl, ht]
                  rfl
                · show (isA ⟨5, 0, 0, bs t⟩ false false true && decide (((bs t).size : Int) ≤ 256)) = true
                  rw [decide_eq_true (by omega)]
                  simp [isA]
            · cases hw : wholeL l with
              | none => rw [hw] at h; cases h
              | some p =>
                obtain ⟨v, m⟩ := p
                rw [hw] at h
                simp only [RA.ok.injEq] at h
                obtain ⟨rfl, rfl⟩ := h
                obtain ⟨q1, q2, q3⟩ := wholeL_print hw
                exact ⟨q1, by show isA ⟨2, v, 0, eE⟩ true false false = true; simp [isA], q3, ⟨q2, by show eE.size ≤ _; decide⟩⟩
end Go.Proofs.YtlpfdgkfdgehnaaDoor.AM
namespace Go.Proofs.YtlpfdgkfdgehnaaDoor.AM
open Go.RowKit
set_option linter.unusedSimpArgs false
set_option linter.unusedVariables false
set_option maxRecDepth 10000
set_option maxHeartbeats 0
theorem join_two (x y : List UInt8) (r : List (List UInt8)) (sep : List UInt8) : Lib.join (x :: y :: r) sep = x ++ (sep ++ Lib.join (y :: r) sep) := by
  rw [Lib.join_cons, Lib.join_cons]
  simp [Lib.joinTail]
abbrev pAL (a : AtomD) : List UInt8 := (printA a).data.toList
theorem listL_print : ∀ (f : Nat) (acc : List AtomD) (l : List UInt8) (res : List AtomD) (n : Nat), acc.length ≤ 16 → listL f acc l = .ok res n →
    ∃ new, new ≠ [] ∧ res = acc ++ new ∧ l.take n = Lib.join (new.map pAL) [44, 32] ++ [93] ∧ (∀ a ∈ new, validA a = true ∧ okA a) ∧ res.length ≤ 16 ∧ 0 < n ∧ n ≤ l.length
  | 0, _, _, _, _, _, h => by cases h
  | f + 1, acc, l, res, n, ha, h => by
    unfold listL at h
    split at h
    · cases h
    · rename_i h16
      cases hr : atomL l with
      | bad e => rw [hr] at h; cases h
      | ok a j =>
        rw [hr] at h
        obtain ⟨q1, q2, q3, q4⟩ := atom_print hr
        have hj := atomL_len hr
        simp only [listN] at h
        split at h
        · rename_i g1
          have g3 := preL_len g1
          rw [List.length_drop, show clB.size = 1 from rfl] at g3
          have g4 := pre_take g1
          rw [show clB.size = 1 from rfl] at g4
          simp only [RL.ok.injEq] at h
          obtain ⟨rfl, rfl⟩ := h
          refine ⟨[a], by simp, rfl, ?_, fun x hx => by rw [show x = a by simpa using hx]; exact ⟨q2, q4⟩, by simp; omega, by omega, by omega⟩
          rw [take_split, g4, List.map_cons, List.map_nil, Lib.join_one, ← q1]
        · split at h
          · rename_i g2
            have g3 := preL_len g2
            rw [List.length_drop, show cmB.size = 2 from rfl] at g3
            have g4 := pre_take g2
            rw [show cmB.size = 2 from rfl] at g4
            cases hr2 : listL f (acc ++ [a]) ((l.drop j).drop 2) with
            | bad e => rw [hr2] at h; cases h
            | ok res2 m =>
              rw [hr2] at h
              simp only [RL.add, RL.ok.injEq] at h
              obtain ⟨rfl, rfl⟩ := h
              obtain ⟨new, k1, k2, k3, k4, k5, k6, k7⟩ := listL_print f _ _ _ m (by simp; omega) hr2
              rw [List.length_drop, List.length_drop] at k7
              refine ⟨a :: new, by simp, by rw [k2]; simp, ?_, fun x hx => ?_, k5, by omega, by omega⟩
              · rw [show j + 2 + m = j + (2 + m) by omega, take_split, take_split, g4, k3, ← q1]
                cases new with
                | nil => exact absurd rfl k1
                | cons b r =>
                  show pAL a ++ (cmB.data.toList ++ (Lib.join (pAL b :: r.map pAL) [44, 32] ++ [93])) = Lib.join (pAL a :: pAL b :: r.map pAL) [44, 32] ++ [93]
                  rw [join_two]
                  simp [List.append_assoc]
              · rcases List.mem_cons.1 hx with rfl | hx
                · exact ⟨q2, q4⟩
                · exact k4 x hx
          · cases h
theorem read_print {l : List UInt8} {v : ValD} {n : Nat} (h : readL l = .ok v n) : (printV v).data.toList = l.take n ∧ validV v = true ∧ 0 < n ∧ n ≤ l.length ∧ okV v := by
  unfold readL at h
  split at h
  · rename_i h1
    have p1 := pre_take h1
    have p2 := preL_len h1
    rw [show openB.size = 1 from rfl] at p1 p2
    split at h
    · rename_i h2
      have p3 := pre_take h2
      have p4 := preL_len h2
      rw [show clB.size = 1 from rfl] at p3 p4
      rw [List.length_drop] at p4
      simp only [RV.ok.injEq] at h
      obtain ⟨rfl, rfl⟩ := h
      refine ⟨?_, by decide +kernel, by decide, by omega, ⟨⟨by show i64B 0; unfold i64B; decide, by show eE.size ≤ _; decide⟩, fun a ha => by cases ha⟩⟩
      rw [show (2 : Nat) = 1 + 1 from rfl, take_split, p1, p3]
      decide +kernel
    · rename_i h2
      cases hr : listL 17 [] (l.drop 1) with
      | bad e => rw [hr] at h; cases h
      | ok res m =>
        rw [hr] at h
        simp only [listV, RV.ok.injEq] at h
        obtain ⟨rfl, rfl⟩ := h
        obtain ⟨new, k1, k2, k3, k4, k5, k6, k7⟩ := listL_print 17 [] _ res m (by simp) hr
        rw [List.nil_append] at k2
        subst k2
        rw [List.length_drop] at k7
        have hv : validV ⟨⟨6, 0, 0, eE⟩, res⟩ = true := by
          rw [validV_list rfl]
          have : res.all validA = true := List.all_eq_true.2 (fun a ha => (k4 a ha).1)
          show (isA ⟨6, 0, 0, eE⟩ false false false && decide ((res.length : Int) ≤ 16) && res.all validA) = true
          rw [this, decide_eq_true (by omega)]
          decide +kernel
        refine ⟨?_, hv, by omega, by omega, ⟨⟨by show i64B 0; unfold i64B; decide, by show eE.size ≤ _; decide⟩, fun a ha => (k4 a ha).2⟩⟩
        unfold printV
        rw [if_pos hv, if_pos rfl, ByteArray.data_append, ByteArray.data_append, Array.toList_append, Array.toList_append, take_split, p1, k3]
        show [91] ++ Lib.join ((res.map printA).map (·.data.toList)) [44, 32] ++ [93] = [91] ++ _
        rw [List.map_map, List.append_assoc]
        rfl
  · cases hr : atomL l with
    | bad e => rw [hr] at h; cases h
    | ok a m =>
      rw [hr] at h
      simp only [atomV, RV.ok.injEq] at h
      obtain ⟨rfl, rfl⟩ := h
      obtain ⟨q1, q2, q3, q4⟩ := atom_print hr
      have hk : a.k ≠ 6 := by
        intro h6
        unfold validA at q2
        rw [h6] at q2
        simp at q2
      have hv : validV ⟨a, []⟩ = true := by
        rw [validV_atom hk]
        show (validA a && _) = true
        rw [q2]; rfl
      refine ⟨?_, hv, q3, atomL_len hr, ⟨q4, fun a ha => by cases ha⟩⟩
      unfold printV
      rw [if_pos hv, if_neg hk]
      exact q1
end Go.Proofs.YtlpfdgkfdgehnaaDoor.AM
namespace Go.Proofs.YtlpfdgkfdgehnaaDoor.AM
open Go.RowKit
set_option linter.unusedSimpArgs false
set_option linter.unusedVariables false
set_option maxRecDepth 10000
set_option maxHeartbeats 0
theorem hexI_hexB (k : Nat) (h : k < 16) : hexI (hexB k) = (k : Int) := by
  have : ∀ n : Nat, n < 16 → hexI (hexB n) = (n : Int) := by decide +kernel
  exact this k h
theorem byteL_of (c : UInt8) (r : List UInt8) : byteL (escB c ++ r) = some (some c, (escB c).length) := by
  have hb := c.toNat_lt
  unfold escB
  split
  · rename_i h
    show byteL (92 :: c :: r) = _
    rw [byte_e1 92 c r rfl (by omega)]; rfl
  · rename_i h
    split
    · rename_i h2
      show byteL (92 :: 120 :: hexB (c.toNat / 16) :: hexB (c.toNat % 16) :: r) = _
      have x1 := hexI_hexB (c.toNat / 16) (by omega)
      have x2 := hexI_hexB (c.toNat % 16) (by omega)
      rw [byte_e5 92 120 _ _ r rfl rfl (by rw [x1, x2]; omega), x1, x2]
      have e : (16 * ((c.toNat / 16 : Nat) : Int) + ((c.toNat % 16 : Nat) : Int)).toNat = c.toNat := by omega
      rw [e]
      simp
    · rename_i h2
      show byteL (c :: r) = _
      rw [byte_p c r (by omega) (by omega) (by omega)]; rfl
theorem textL_back : ∀ (t : List UInt8) (f : Nat) (acc r : List UInt8), t.length < f → acc.length + t.length ≤ 256 → textL f acc (t.flatMap escB ++ 34 :: r) = .ok (acc ++ t) ((t.flatMap escB).length + 1)
  | _, 0, _, _, h, _ => by omega
  | [], f + 1, acc, r, _, _ => by
    unfold textL
    rw [List.flatMap_nil, List.nil_append, byte_q 34 r rfl]
    simp
  | c :: t, f + 1, acc, r, hf, h => by
    rw [List.length_cons] at hf h
    unfold textL
    rw [List.flatMap_cons, List.append_assoc, byteL_of]
    simp only
    rw [if_neg (by omega), List.drop_left' rfl, textL_back t f _ r (by omega) (by simp; omega)]
    simp [RT.add]
    omega
def mapR (rs : List (List Dat)) : List UInt8 := rs.map fun r => UInt8.ofNat (unB r).toNat
theorem hexU_rows : ∀ (k u : Nat) (acc : List (List Dat)), hexU 0 (mapR (hexRows k u acc)) = hexU (u % 16 ^ k) (mapR acc)
  | 0, u, acc => by rw [Nat.pow_zero, Nat.mod_one]; rfl
  | k + 1, u, acc => by
    rw [hexRows, hexU_rows k]
    show hexU (u / 16 % 16 ^ k) (hexB (u % 16) :: mapR acc) = _
    simp only [hexU]
    rw [hexI_hexB _ (by omega), if_neg (by omega)]
    congr 1
    rw [Nat.pow_succ, Nat.mul_comm (16 ^ k) 16, Nat.mod_mul]
    omega
theorem parseF_back (u : Nat) (h : u < 18446744073709551616) (hc : canF u = u) : parseF (hexS u).data.toList = some u := by
  have hl : (hexS u).data.toList.length = 16 := by rw [Array.length_toList]; exact hexS_size u
  unfold parseF
  rw [if_pos hl]
  have e : (hexS u).data.toList = mapR (hexRows 16 (canF u) []) := by unfold hexS strR mapR; simp
  have hx : hexU 0 (hexS u).data.toList = some u := by
    rw [e, hexU_rows, hc, Nat.mod_eq_of_lt (by omega)]
    rfl
  rw [hx]
  simp [hc]
theorem dgB_of (k : Nat) (h : k < 10) : dgB (UInt8.ofNat (48 + k)) = true ∧ (UInt8.ofNat (48 + k)).toNat = 48 + k := by
  have : ∀ n : Nat, n < 10 → dgB (UInt8.ofNat (48 + n)) = true ∧ (UInt8.ofNat (48 + n)).toNat = 48 + n := by decide +kernel
  exact this k h
theorem dec_all (u : Nat) : ∀ c ∈ Lib.decDigits u, dgB c = true := by
  induction u using Nat.strongRecOn with
  | _ u ih =>
    intro c hc
    rw [Lib.decDigits] at hc
    split at hc
    · rename_i h
      rw [List.mem_singleton.1 hc]
      exact (dgB_of u h).1
    · rename_i h
      rcases List.mem_append.1 hc with hc | hc
      · exact ih (u / 10) (by omega) c hc
      · rw [List.mem_singleton.1 hc]
        exact (dgB_of (u % 10) (by omega)).1
theorem dec_ne (u : Nat) : Lib.decDigits u ≠ [] := by
  rw [Lib.decDigits]
  split
  · simp
  · simp
theorem pu_snoc : ∀ (l : List UInt8) (acc v : Nat) (c : UInt8), Lib.parseUint10 acc l = .ok v → (48 ≤ c.toNat ∧ c.toNat ≤ 57) → v * 10 + (c.toNat - 48) < 18446744073709551616 → Lib.parseUint10 acc (l ++ [c]) = .ok (v * 10 + (c.toNat - 48))
  | [], acc, v, c, h, hc, hv => by
    simp only [Lib.parseUint10] at h
    injection h with h
    subst h
    rw [List.nil_append]
    simp only [Lib.parseUint10]
    rw [if_pos hc, if_neg (by omega), if_neg (by omega)]
  | d :: l, acc, v, c, h, hc, hv => by
    rw [List.cons_append]
    simp only [Lib.parseUint10] at h ⊢
    split at h
    · rename_i h1
      split at h
      · cases h
      · rename_i h2
        split at h
        · cases h
        · rename_i h3
          rw [if_pos h1, if_neg h2, if_neg h3]
          exact pu_snoc l _ v c h hc hv
    · cases h
theorem dec_parse (u : Nat) (hu : u < 18446744073709551616) : Lib.parseUint10 0 (Lib.decDigits u) = .ok u := by
  induction u using Nat.strongRecOn with
  | _ u ih =>
    rw [Lib.decDigits]
    split
    · rename_i h
      have hd := (dgB_of u h).2
      have := pu_snoc [] 0 0 (UInt8.ofNat (48 + u)) rfl (by omega) (by omega)
      rw [List.nil_append] at this
      rw [this, hd]
      congr 1
      omega
    · rename_i h
      have hd := (dgB_of (u % 10) (by omega)).2
      rw [pu_snoc _ 0 (u / 10) (UInt8.ofNat (48 + u % 10)) (ih (u / 10) (by omega) (by omega)) (by omega) (by omega), hd]
      congr 1
      omega
theorem dec_mag (u : Nat) (hu : u < 18446744073709551616) : Lib.parseMag (Lib.decDigits u) = .ok u := by
  unfold Lib.parseMag
  rw [if_neg (dec_ne u)]
  exact dec_parse u hu
theorem dg_bd {c : UInt8} (h : dgB c = true) : 48 ≤ c.toNat ∧ c.toNat ≤ 57 := by
  unfold dgB at h
  simp only [Bool.and_eq_true, decide_eq_true_eq] at h
  omega
theorem itoa_of_neg {n : Int} (h : n < 0) : Lib.itoa n = 45 :: Lib.decDigits n.natAbs := by unfold Lib.itoa; rw [if_pos h]
theorem itoa_of_pos {n : Int} (h : ¬ n < 0) : Lib.itoa n = Lib.decDigits n.toNat := by unfold Lib.itoa; rw [if_neg h]
theorem atoi_itoa {n : Int} (h : i64B n) : Lib.atoiAll (Lib.itoa n) = .ok n := by
  unfold i64B at h
  by_cases hn : n < 0
  · rw [itoa_of_neg hn, Lib.atoiAll_minus, dec_mag _ (by omega)]
    simp only [Lib.signed]
    rw [if_neg (by omega)]
    congr 1
    omega
  · rw [itoa_of_pos hn]
    cases hd : Lib.decDigits n.toNat with
    | nil => exact absurd hd (dec_ne _)
    | cons c r =>
      have hc := dg_bd (dec_all n.toNat c (by rw [hd]; exact List.mem_cons_self))
      rw [Lib.atoiAll_plain c r (by omega) (by omega), ← hd, dec_mag _ (by omega)]
      simp only [Lib.signless]
      rw [if_neg (by omega)]
      congr 1
      omega
theorem takeW_itoa (n : Int) (r : List UInt8) (hr : r.takeWhile dgB = []) : takeW (Lib.itoa n ++ r) = Lib.itoa n := by
  by_cases hn : n < 0
  · rw [itoa_of_neg hn, List.cons_append]
    simp only [takeW]
    rw [if_pos (show UInt8.toNat 45 = 45 from rfl), List.takeWhile_append_of_pos (dec_all _), hr, List.append_nil]
  · rw [itoa_of_pos hn]
    cases hd : Lib.decDigits n.toNat with
    | nil => exact absurd hd (dec_ne _)
    | cons c t =>
      have hc := dg_bd (dec_all n.toNat c (by rw [hd]; exact List.mem_cons_self))
      rw [List.cons_append]
      simp only [takeW]
      rw [if_neg (by omega), ← List.cons_append, ← hd, List.takeWhile_append_of_pos (dec_all _), hr, List.append_nil]
theorem wholeL_back {n : Int} (h : i64B n) (r : List UInt8) (hr : r.takeWhile dgB = []) : wholeL (Lib.itoa n ++ r) = some (n, (Lib.itoa n).length) := by
  unfold wholeL
  rw [takeW_itoa n r hr, atoi_itoa h]
  simp
theorem preL_no {c : UInt8} {l : List UInt8} {t : ByteArray} (ht : ∃ d ds, t.data.toList = d :: ds ∧ d ≠ c) : preL (c :: l) t = false := by
  obtain ⟨d, ds, e, hne⟩ := ht
  unfold preL Lib.hasPrefix
  rw [e]
  simp [List.isPrefixOf, hne]
theorem preL_no2 {b c : UInt8} {l : List UInt8} {t : ByteArray} (ht : ∃ d ds, t.data.toList = b :: d :: ds ∧ d ≠ c) : preL (b :: c :: l) t = false := by
  obtain ⟨d, ds, e, hne⟩ := ht
  unfold preL Lib.hasPrefix
  rw [e]
  simp [List.isPrefixOf, hne]
theorem preL_yes (t : ByteArray) (r : List UInt8) : preL (t.data.toList ++ r) t = true := by
  unfold preL Lib.hasPrefix
  rw [List.isPrefixOf_iff_prefix]
  exact List.prefix_append _ _
end Go.Proofs.YtlpfdgkfdgehnaaDoor.AM
namespace Go.Proofs.YtlpfdgkfdgehnaaDoor.AM
open Go.RowKit
set_option linter.unusedSimpArgs false
set_option linter.unusedVariables false
set_option maxRecDepth 10000
set_option maxHeartbeats 0
theorem isA_n {a : AtomD} {c d : Bool} (h : isA a false c d = true) : a.n = 0 := by
  unfold isA at h
  simp only [Bool.and_eq_true, Bool.false_or, beq_iff_eq] at h
  exact h.1.1
theorem isA_f {a : AtomD} {b d : Bool} (h : isA a b false d = true) : a.f = 0 := by
  unfold isA at h
  simp only [Bool.and_eq_true, Bool.false_or, beq_iff_eq] at h
  have := h.1.2
  omega
theorem isA_s {a : AtomD} {b c : Bool} (h : isA a b c false = true) : a.s = eE := by
  unfold isA at h
  simp only [Bool.and_eq_true, Bool.false_or] at h
  by_cases e : a.s = eE
  · exact e
  · rw [strEq_f e] at h
    exact absurd h.2 (by simp)
theorem validA_inv {k n : Int} {f : Nat} {s : ByteArray} (h : validA ⟨k, n, f, s⟩ = true) :
    (k = 0 ∧ n = 0 ∧ f = 0 ∧ s = eE) ∨ (k = 1 ∧ n = 0 ∧ f = 0 ∧ s = eE) ∨ (k = 1 ∧ n = 1 ∧ f = 0 ∧ s = eE) ∨ (k = 2 ∧ f = 0 ∧ s = eE) ∨ (k = 3 ∧ n = 0 ∧ s = eE ∧ canF f = f) ∨ (k = 4 ∧ n = 0 ∧ f = 0 ∧ s.size ≤ 256) ∨ (k = 5 ∧ n = 0 ∧ f = 0 ∧ s.size ≤ 256) := by
  unfold validA at h
  simp only at h
  split at h
  · exact .inl ⟨by assumption, isA_n h, isA_f h, isA_s h⟩
  · split at h
    · simp only [Bool.and_eq_true, Bool.or_eq_true, beq_iff_eq] at h
      rcases h.2 with h2 | h2
      · exact .inr (.inl ⟨by assumption, h2, isA_f h.1, isA_s h.1⟩)
      · exact .inr (.inr (.inl ⟨by assumption, h2, isA_f h.1, isA_s h.1⟩))
    · split at h
      · exact .inr (.inr (.inr (.inl ⟨by assumption, isA_f h, isA_s h⟩)))
      · split at h
        · simp only [Bool.and_eq_true, beq_iff_eq] at h
          exact .inr (.inr (.inr (.inr (.inl ⟨by assumption, isA_n h.1, isA_s h.1, by omega⟩))))
        · split at h
          · rename_i hk
            simp only [Bool.and_eq_true, decide_eq_true_eq] at h
            rcases hk with hk | hk
            · exact .inr (.inr (.inr (.inr (.inr (.inl ⟨hk, isA_n h.1, isA_f h.1, by omega⟩)))))
            · exact .inr (.inr (.inr (.inr (.inr (.inr ⟨hk, isA_n h.1, isA_f h.1, by omega⟩)))))
          · cases h
theorem npre {l : List UInt8} {t : ByteArray} (h : preL l t = false) : ¬ preL l t = true := by rw [h]; simp
theorem preL_no' (x : ByteArray) (r : List UInt8) (t : ByteArray) (c : UInt8) (l : List UInt8) (hx : x.data.toList = c :: l) (ht : ∃ d ds, t.data.toList = d :: ds ∧ d ≠ c) : preL (x.data.toList ++ r) t = false := by rw [hx, List.cons_append]; exact preL_no ht
theorem itoa_head (n : Int) : ∃ c l, Lib.itoa n = c :: l ∧ (c.toNat = 45 ∨ ∀ x ∈ c :: l, dgB x = true) := by
  by_cases hn : n < 0
  · exact ⟨45, _, itoa_of_neg hn, .inl rfl⟩
  · rw [itoa_of_pos hn]
    cases hd : Lib.decDigits n.toNat with
    | nil => exact absurd hd (dec_ne _)
    | cons c t => exact ⟨c, t, rfl, .inr (fun x hx => dec_all n.toNat x (by rw [hd]; exact hx))⟩
theorem bs_back (s : ByteArray) : bs s.data.toList = s := by
  apply ByteArray.ext
  show s.data.toList.toArray = s.data
  exact Array.toArray_toList
theorem atomL_back : ∀ (a : AtomD), validA a = true → i64B a.n → a.f < 18446744073709551616 → ∀ (r : List UInt8), r.takeWhile dgB = [] → (r.head? ≠ some 102 ∨ pAL a ≠ [48]) →
    atomL (pAL a ++ r) = .ok a (pAL a).length ∧ ∃ c l, pAL a = c :: l ∧ c ≠ 91 ∧ c ≠ 93 := by
  rintro ⟨k, n, f, s⟩ h hn hf r hr h0
  rcases validA_inv h with ⟨rfl, rfl, rfl, rfl⟩ | ⟨rfl, rfl, rfl, rfl⟩ | ⟨rfl, rfl, rfl, rfl⟩ | ⟨rfl, rfl, rfl⟩ | ⟨rfl, rfl, rfl, hc⟩ | ⟨rfl, rfl, rfl, hs⟩ | ⟨rfl, rfl, rfl, hs⟩
  · have e : pAL ⟨0, 0, 0, eE⟩ = nullB.data.toList := by decide +kernel
    rw [e]
    refine ⟨?_, 110, [117, 108, 108], rfl, by decide, by decide⟩
    unfold atomL
    rw [if_pos (preL_yes nullB r)]
    rfl
  · have e : pAL ⟨1, 0, 0, eE⟩ = falseB.data.toList := by decide +kernel
    rw [e]
    refine ⟨?_, 102, [97, 108, 115, 101], rfl, by decide, by decide⟩
    unfold atomL
    rw [if_neg (npre (preL_no' falseB r nullB 102 [97, 108, 115, 101] rfl ⟨110, _, rfl, by decide⟩)), if_neg (npre (preL_no' falseB r trueB 102 [97, 108, 115, 101] rfl ⟨116, _, rfl, by decide⟩)), if_pos (preL_yes falseB r)]
    rfl
  · have e : pAL ⟨1, 1, 0, eE⟩ = trueB.data.toList := by decide +kernel
    rw [e]
    refine ⟨?_, 116, [114, 117, 101], rfl, by decide, by decide⟩
    unfold atomL
    rw [if_neg (npre (preL_no' trueB r nullB 116 [114, 117, 101] rfl ⟨110, _, rfl, by decide⟩)), if_pos (preL_yes trueB r)]
    rfl
  · have e : pAL ⟨2, n, 0, eE⟩ = Lib.itoa n := rfl
    rw [e] at h0 ⊢
    have hw := wholeL_back hn r hr
    obtain ⟨c, l, hi, hc⟩ := itoa_head n
    rw [hi] at h0 hw ⊢
    have hc' : c.toNat = 45 ∨ (48 ≤ c.toNat ∧ c.toNat ≤ 57) := by
      rcases hc with hc | hc
      · exact .inl hc
      · exact .inr (dg_bd (hc c List.mem_cons_self))
    refine ⟨?_, c, l, rfl, fun q => by subst q; revert hc'; decide, fun q => by subst q; revert hc'; decide⟩
    rw [List.cons_append] at hw ⊢
    unfold atomL
    rw [if_neg (npre (preL_no ⟨110, _, rfl, fun q => by subst q; revert hc'; decide⟩)), if_neg (npre (preL_no ⟨116, _, rfl, fun q => by subst q; revert hc'; decide⟩)), if_neg (npre (preL_no ⟨102, _, rfl, fun q => by subst q; revert hc'; decide⟩))]
    have hz : preL (c :: (l ++ r)) zfB = false := by
      by_cases h48 : c = 48
      · subst h48
        cases l with
        | nil =>
          cases r with
          | nil => decide +kernel
          | cons d r =>
            rw [List.nil_append]
            refine preL_no2 ⟨102, [], rfl, fun q => ?_⟩
            subst q
            rcases h0 with h0 | h0
            · exact h0 rfl
            · exact h0 rfl
        | cons d l =>
          rw [List.cons_append]
          refine preL_no2 ⟨102, [], rfl, fun q => ?_⟩
          subst q
          rcases hc with hc | hc
          · exact absurd hc (by decide)
          · have := hc 102 (by simp)
            exact absurd this (by decide +kernel)
      · exact preL_no ⟨48, [102], rfl, fun q => h48 q.symm⟩
    rw [if_neg (npre hz), if_neg (npre (preL_no ⟨34, _, rfl, fun q => by subst q; revert hc'; decide⟩)), if_neg (npre (preL_no ⟨120, _, rfl, fun q => by subst q; revert hc'; decide⟩)), hw]
  · have e : pAL ⟨3, 0, f, eE⟩ = 48 :: 102 :: (hexS f).data.toList := by
      show ((⟨#[48, 102]⟩ : ByteArray) ++ hexS f).data.toList = _
      rw [ByteArray.data_append, Array.toList_append]
      rfl
    have hl : (hexS f).data.toList.length = 16 := by rw [Array.length_toList]; exact hexS_size f
    have hp := parseF_back f hf hc
    rw [e]
    generalize (hexS f).data.toList = H at *
    refine ⟨?_, 48, _, rfl, by decide, by decide⟩
    rw [List.cons_append, List.cons_append]
    unfold atomL
    rw [if_neg (npre (preL_no ⟨110, _, rfl, by decide⟩)), if_neg (npre (preL_no ⟨116, _, rfl, by decide⟩)), if_neg (npre (preL_no ⟨102, _, rfl, by decide⟩)), if_pos (show preL (48 :: 102 :: (H ++ r)) zfB = true from preL_yes zfB (H ++ r)), if_neg (by simp; omega)]
    rw [show ((48 :: 102 :: (H ++ r)).drop 2).take 16 = H from List.take_left' hl, hp]
    simp [hl]
  · have e : pAL ⟨4, 0, 0, s⟩ = 34 :: (s.data.toList.flatMap escB ++ [34]) := by
      show quoteL s.data.toList = _
      simp [quoteL]
    have hlen : s.data.toList.length = s.size := Array.length_toList
    have ht := textL_back s.data.toList 257 [] r (by omega) (by simp; omega)
    rw [e]
    refine ⟨?_, 34, _, rfl, by decide, by decide⟩
    rw [List.cons_append, List.append_assoc, List.singleton_append]
    unfold atomL
    rw [if_neg (npre (preL_no ⟨110, _, rfl, by decide⟩)), if_neg (npre (preL_no ⟨116, _, rfl, by decide⟩)), if_neg (npre (preL_no ⟨102, _, rfl, by decide⟩)), if_neg (npre (preL_no ⟨48, _, rfl, by decide⟩)), if_pos (show preL (34 :: (s.data.toList.flatMap escB ++ 34 :: r)) quB = true from preL_yes quB _), List.drop_succ_cons, List.drop_zero, ht]
    simp only [textA, List.nil_append, bs_back, List.length_cons, List.length_append, List.length_nil]
    congr 1
    omega
  · have e : pAL ⟨5, 0, 0, s⟩ = 120 :: 34 :: (s.data.toList.flatMap escB ++ [34]) := by
      show ((⟨#[120]⟩ : ByteArray) ++ quoteS s).data.toList = _
      rw [ByteArray.data_append, Array.toList_append]
      show [120] ++ quoteL s.data.toList = _
      simp [quoteL]
    have hlen : s.data.toList.length = s.size := Array.length_toList
    have ht := textL_back s.data.toList 257 [] r (by omega) (by simp; omega)
    rw [e]
    refine ⟨?_, 120, _, rfl, by decide, by decide⟩
    rw [List.cons_append, List.cons_append, List.append_assoc, List.singleton_append]
    unfold atomL
    rw [if_neg (npre (preL_no ⟨110, _, rfl, by decide⟩)), if_neg (npre (preL_no ⟨116, _, rfl, by decide⟩)), if_neg (npre (preL_no ⟨102, _, rfl, by decide⟩)), if_neg (npre (preL_no ⟨48, _, rfl, by decide⟩)), if_neg (npre (preL_no ⟨34, _, rfl, by decide⟩)), if_pos (show preL (120 :: 34 :: (s.data.toList.flatMap escB ++ 34 :: r)) xqB = true from preL_yes xqB _), List.drop_succ_cons, List.drop_succ_cons, List.drop_zero, ht]
    simp only [textA, List.nil_append, bs_back, List.length_cons, List.length_append, List.length_nil]
    congr 1
    omega
theorem listL_back : ∀ (xs : List AtomD) (f : Nat) (acc : List AtomD) (r : List UInt8), xs ≠ [] → acc.length + xs.length ≤ 16 → xs.length < f → (∀ a ∈ xs, validA a = true ∧ i64B a.n ∧ a.f < 18446744073709551616) →
    listL f acc (Lib.join (xs.map pAL) [44, 32] ++ 93 :: r) = .ok (acc ++ xs) ((Lib.join (xs.map pAL) [44, 32]).length + 1)
  | [], _, _, _, h, _, _, _ => absurd rfl h
  | _, 0, _, _, _, _, h, _ => by omega
  | [a], f + 1, acc, r, _, h16, hf, ha => by
    obtain ⟨h1, h2, h3⟩ := ha a (by simp)
    have hb := (atomL_back a h1 h2 h3 (93 :: r) (by rw [List.takeWhile_cons, if_neg (by decide +kernel)]) (.inl (by simp))).1
    simp only [List.length_cons, List.length_nil] at h16
    unfold listL
    rw [if_neg (by omega), List.map_cons, List.map_nil, Lib.join_one, hb]
    simp only [listN]
    rw [List.drop_left' rfl, if_pos (show preL (93 :: r) clB = true from preL_yes clB r)]
  | a :: b :: xs, f + 1, acc, r, _, h16, hf, ha => by
    obtain ⟨h1, h2, h3⟩ := ha a (by simp)
    simp only [List.length_cons] at h16 hf
    have ih := listL_back (b :: xs) f (acc ++ [a]) r (by simp) (by simp; omega) (by simp; omega) (fun x hx => ha x (List.mem_cons_of_mem _ hx))
    rw [List.map_cons] at ih
    have hb := (atomL_back a h1 h2 h3 ([44, 32] ++ (Lib.join (pAL b :: xs.map pAL) [44, 32] ++ 93 :: r)) (by rw [List.cons_append, List.takeWhile_cons, if_neg (by decide +kernel)]) (.inl (by simp))).1
    unfold listL
    rw [if_neg (by omega), List.map_cons, List.map_cons, join_two, List.append_assoc, List.append_assoc, hb]
    simp only [listN]
    generalize Lib.join (pAL b :: xs.map pAL) [44, 32] = J at *
    rw [List.drop_left' rfl, if_neg (npre (preL_no' ⟨#[44, 32]⟩ (J ++ 93 :: r) clB 44 [32] rfl ⟨93, _, rfl, by decide⟩)), if_pos (show preL ([44, 32] ++ (J ++ 93 :: r)) cmB = true from preL_yes cmB _), show List.drop 2 ([44, 32] ++ (J ++ 93 :: r)) = J ++ 93 :: r from rfl, ih]
    simp [RL.add]
    omega
theorem readL_back (v : ValD) (hv : validV v = true) (hk : i64B v.a.n ∧ v.a.f < 18446744073709551616) (hl : ∀ a ∈ v.l, i64B a.n ∧ a.f < 18446744073709551616) (r : List UInt8) (hr : r.takeWhile dgB = []) (h0 : r.head? ≠ some 102 ∨ (printV v).data.toList ≠ [48]) :
    readL ((printV v).data.toList ++ r) = .ok v (printV v).size ∧ 0 < (printV v).size := by
  have hsz : (printV v).size = (printV v).data.toList.length := Array.length_toList.symm
  rw [hsz]
  by_cases h6 : v.a.k = 6
  · have hp : (printV v).data.toList = 91 :: (Lib.join (v.l.map pAL) [44, 32] ++ [93]) := by
      unfold printV
      rw [if_pos hv, if_pos h6, ByteArray.data_append, ByteArray.data_append, Array.toList_append, Array.toList_append]
      show [91] ++ Lib.join ((v.l.map printA).map (·.data.toList)) [44, 32] ++ [93] = _
      rw [List.map_map]
      rfl
    rw [validV_list h6] at hv
    simp only [Bool.and_eq_true, decide_eq_true_eq] at hv
    have hn := isA_n hv.1.1
    have hf := isA_f hv.1.1
    have hs := isA_s hv.1.1
    have ha := List.all_eq_true.1 hv.2
    have h16 := hv.1.2
    clear h0 hk hsz
    obtain ⟨⟨k, n, f, s⟩, l⟩ := v
    simp only at *
    subst h6 hn hf hs
    rw [hp]
    refine ⟨?_, by simp⟩
    rw [List.cons_append, List.append_assoc, List.singleton_append]
    unfold readL
    rw [if_pos (show preL (91 :: (Lib.join (l.map pAL) [44, 32] ++ 93 :: r)) openB = true from preL_yes openB _), List.drop_succ_cons, List.drop_zero]
    cases l with
    | nil =>
      rw [List.map_nil, Lib.join_nil, List.nil_append, if_pos (show preL (93 :: r) clB = true from preL_yes clB r)]
      rfl
    | cons b xs =>
      have hb := listL_back (b :: xs) 17 [] r (by simp) (by simp at h16 ⊢; omega) (by simp at h16 ⊢; omega) (fun x hx => ⟨ha x hx, hl x hx⟩)
      obtain ⟨c, t, hc, c1, c2⟩ := (atomL_back b (ha b (by simp)) (hl b (by simp)).1 (hl b (by simp)).2 [] rfl (.inl (by simp))).2
      have hno : preL (Lib.join ((b :: xs).map pAL) [44, 32] ++ 93 :: r) clB = false := by
        rw [List.map_cons, hc]
        cases xs with
        | nil =>
          rw [List.map_nil, Lib.join_one, List.cons_append]
          exact preL_no ⟨93, [], rfl, fun q => c2 q.symm⟩
        | cons y ys =>
          rw [List.map_cons, join_two, List.cons_append, List.cons_append]
          exact preL_no ⟨93, [], rfl, fun q => c2 q.symm⟩
      rw [if_neg (npre hno), hb]
      simp only [listV, List.nil_append, List.length_cons, List.length_append, List.length_nil]
      congr 1
      omega
  · have hp : (printV v).data.toList = pAL v.a := by
      unfold printV
      rw [if_pos hv, if_neg h6]
    rw [validV_atom h6] at hv
    simp only [Bool.and_eq_true, beq_iff_eq] at hv
    have hnil : v.l = [] := List.length_eq_zero_iff.1 (by have := hv.2; omega)
    rw [hp] at h0 ⊢
    obtain ⟨h1, c, t, hc, c1, c2⟩ := atomL_back v.a hv.1 hk.1 hk.2 r hr h0
    refine ⟨?_, by rw [hc]; simp⟩
    unfold readL
    have hno : preL (pAL v.a ++ r) openB = false := by
      rw [hc, List.cons_append]
      exact preL_no ⟨91, [], rfl, fun q => c1 q.symm⟩
    rw [if_neg (npre hno), h1]
    obtain ⟨a, l⟩ := v
    simp only at hnil
    subst hnil
    rfl
end Go.Proofs.YtlpfdgkfdgehnaaDoor.AM
namespace Go.Proofs.YtlpfdgkfdgehnaaDoor.AM
open Go.RowKit
set_option linter.unusedSimpArgs false
set_option linter.unusedVariables false
set_option maxRecDepth 10000
set_option maxHeartbeats 0
theorem zlt : 0 < 18446744073709551616 := by decide
theorem tw_all {p : UInt8 → Bool} : ∀ {l : List UInt8}, ∀ c ∈ l.takeWhile p, p c = true
  | [], c, h => by cases h
  | x :: l, c, h => by
    rw [List.takeWhile_cons] at h
    split at h
    · rename_i hx
      rcases List.mem_cons.1 h with rfl | h
      · exact hx
      · exact tw_all c h
    · cases h
theorem hexU_lt : ∀ (l : List UInt8) (u0 u : Nat), hexU u0 l = some u → u < (u0 + 1) * 16 ^ l.length
  | [], u0, u, h => by
    simp only [hexU, Option.some.injEq] at h
    subst h
    simp
  | c :: l, u0, u, h => by
    unfold hexU at h
    split at h
    · cases h
    · have ih := hexU_lt l _ _ h
      have hb := hexI_bd c
      refine Nat.lt_of_lt_of_le ih ?_
      rw [List.length_cons, Nat.pow_succ, Nat.mul_comm (16 ^ l.length) 16, ← Nat.mul_assoc]
      exact Nat.mul_le_mul_right _ (by omega)
theorem parseF_lt {l : List UInt8} {u : Nat} (h : parseF l = some u) : u < 18446744073709551616 := by
  unfold parseF at h
  split at h
  · rename_i hl
    cases hu : hexU 0 l with
    | none => rw [hu] at h; cases h
    | some w =>
      rw [hu] at h
      simp only at h
      split at h
      · obtain rfl := Option.some.inj h
        have := hexU_lt l 0 _ hu
        rw [hl] at this
        exact Nat.lt_of_lt_of_le this (by decide)
      · cases h
  · cases h
theorem atomL_fl {l : List UInt8} {a : AtomD} {n : Nat} (h : atomL l = .ok a n) : a.f < 18446744073709551616 := by
  unfold atomL at h
  split at h
  · simp only [RA.ok.injEq] at h; rw [← h.1]; decide
  · split at h
    · simp only [RA.ok.injEq] at h; rw [← h.1]; decide
    · split at h
      · simp only [RA.ok.injEq] at h; rw [← h.1]; decide
      · split at h
        · split at h
          · cases h
          · cases hp : parseF ((l.drop 2).take 16) with
            | none => rw [hp] at h; cases h
            | some u =>
              rw [hp] at h
              simp only [RA.ok.injEq] at h
              rw [← h.1]
              exact parseF_lt hp
        · split at h
          · cases hr : textL 257 [] (l.drop 1) with
            | bad e => rw [hr] at h; cases h
            | ok t m => rw [hr] at h; simp only [textA, RA.ok.injEq] at h; rw [← h.1]; exact zlt
          · split at h
            · cases hr : textL 257 [] (l.drop 2) with
              | bad e => rw [hr] at h; cases h
              | ok t m => rw [hr] at h; simp only [textA, RA.ok.injEq] at h; rw [← h.1]; exact zlt
            · cases hr : wholeL l with
              | none => rw [hr] at h; cases h
              | some p => obtain ⟨i, m⟩ := p; rw [hr] at h; simp only [RA.ok.injEq] at h; rw [← h.1]; exact zlt
theorem listL_fl : ∀ (f : Nat) (acc : List AtomD) (l : List UInt8) (res : List AtomD) (n : Nat), (∀ a ∈ acc, a.f < 18446744073709551616) → listL f acc l = .ok res n → ∀ a ∈ res, a.f < 18446744073709551616
  | 0, _, _, _, _, _, h => by cases h
  | f + 1, acc, l, res, n, ha, h => by
    unfold listL at h
    split at h
    · cases h
    · cases hr : atomL l with
      | bad e2 => rw [hr] at h; cases h
      | ok a j =>
        have hf := atomL_fl hr
        have ha' : ∀ x ∈ acc ++ [a], x.f < 18446744073709551616 := fun x hx => by
          rcases List.mem_append.1 hx with hx | hx
          · exact ha x hx
          · rw [List.mem_singleton.1 hx]; exact hf
        rw [hr] at h
        simp only [listN] at h
        split at h
        · simp only [RL.ok.injEq] at h
          rw [← h.1]
          exact ha'
        · split at h
          · cases hr2 : listL f (acc ++ [a]) ((l.drop j).drop 2) with
            | bad e2 => rw [hr2] at h; cases h
            | ok t m =>
              rw [hr2] at h
              simp only [RL.add, RL.ok.injEq] at h
              rw [← h.1]
              exact listL_fl f _ _ _ _ ha' hr2
          · cases h
theorem read_fl {l : List UInt8} {v : ValD} {n : Nat} (h : readL l = .ok v n) : flV v := by
  unfold readL at h
  split at h
  · split at h
    · simp only [RV.ok.injEq] at h
      rw [← h.1]
      exact ⟨by decide, fun a ha => (by cases ha)⟩
    · cases hr : listL 17 [] (l.drop 1) with
      | bad e => rw [hr] at h; cases h
      | ok t m =>
        rw [hr] at h
        simp only [listV, RV.ok.injEq] at h
        rw [← h.1]
        exact ⟨zlt, listL_fl _ _ _ _ _ (fun a ha => (by cases ha)) hr⟩
  · cases hr : atomL l with
    | bad e => rw [hr] at h; cases h
    | ok a m =>
      rw [hr] at h
      simp only [atomV, RV.ok.injEq] at h
      rw [← h.1]
      exact ⟨atomL_fl hr, fun a ha => (by cases ha)⟩
theorem valid_len {v : ValD} (h : validV v = true) : v.l.length ≤ 16 := by
  by_cases h6 : v.a.k = 6
  · rw [validV_list h6] at h
    simp only [Bool.and_eq_true, decide_eq_true_eq] at h
    omega
  · rw [validV_atom h6] at h
    simp only [Bool.and_eq_true, beq_iff_eq] at h
    omega
theorem lit_again {l : List UInt8} {v : ValD} {n : Nat} (h : readL l = .ok v n) (r : List UInt8) : readL (l.take n ++ 32 :: r) = .ok v n := by
  obtain ⟨h1, h2, h3, h4, h5⟩ := read_print h
  have hf := read_fl h
  have := (readL_back v h2 ⟨h5.1.1, hf.1⟩ (fun a ha => ⟨(h5.2 a ha).1, hf.2 a ha⟩) (32 :: r) (by simp [List.takeWhile_cons, dgB]) (.inl (by simp))).1
  have hs : (printV v).size = n := by
    have : (printV v).data.toList.length = (printV v).size := Array.length_toList
    rw [← this, h1, List.length_take]
    omega
  rw [h1, hs] at this
  exact this
structure TokD where
  k : Int
  t : ByteArray
  v : ValD
  p : Int
def partB (c : UInt8) : Bool := okB false (c.toNat : Int)
def hdB (l : List UInt8) : Bool := match l with
  | [] => false
  | c :: _ => partB c
def litT (l : List UInt8) : Option (TokD × Nat) := match readL l with
  | .bad _ => none
  | .ok v n => if hdB (l.drop n) = true then none else some (⟨2, eE, v, 0⟩, n)
def wordW (w : List UInt8) : Option (TokD × Nat) := if bs w = nullB ∨ bs w = trueB ∨ bs w = falseB then litT w
  else if wordS (bs w) = true then some (⟨3, bs w, nulV, 0⟩, w.length)
  else if nameS (bs w) = true then some (⟨1, bs w, nulV, 0⟩, w.length) else none
abbrev marksL : List ByteArray := [⟨#[60, 45, 91]⟩, ⟨#[93, 45, 62]⟩, ⟨#[60, 62]⟩, ⟨#[60, 61]⟩, ⟨#[62, 61]⟩, ⟨#[45, 91]⟩, ⟨#[93, 45]⟩, ⟨#[46, 46]⟩, ⟨#[40]⟩, ⟨#[41]⟩, ⟨#[123]⟩, ⟨#[125]⟩, ⟨#[58]⟩, ⟨#[44]⟩, ⟨#[46]⟩, ⟨#[61]⟩, ⟨#[60]⟩, ⟨#[62]⟩, ⟨#[43]⟩, ⟨#[45]⟩, ⟨#[42]⟩]
def markF (l : List UInt8) : List ByteArray → Option (TokD × Nat)
  | [] => none
  | m :: ms => if preL l m = true then some (⟨3, m, nulV, 0⟩, m.size) else markF l ms
def markT (l : List UInt8) : Option (TokD × Nat) := markF l marksL
def secB : List UInt8 → UInt8
  | [] => 0
  | d :: _ => d
def secN (l : List UInt8) : Nat := (secB l).toNat
def dgN (d : Nat) : Bool := decide (48 ≤ (d : Int)) && decide ((d : Int) ≤ 57)
def isLit (c d : Nat) : Bool := dgN c || decide (c = 34) || (decide (c = 120) && decide (d = 34)) || (decide (c = 45) && dgN d)
def firstT : List UInt8 → Option (TokD × Nat)
  | [] => none
  | c :: r => if isLit c.toNat (secN r) = true then litT (c :: r) else if partB c = true then wordW ((c :: r).takeWhile partB) else markT (c :: r)
def own (t : TokD) : List UInt8 := if t.k = 2 then (printV t.v).data.toList else t.t.data.toList
structure GoodT (t : TokD) : Prop where
  fl : flV t.v
  ok : okV t.v
  ln : t.v.l.length ≤ 16
theorem good_nul : flV nulV ∧ okV nulV ∧ nulV.l.length ≤ 16 := ⟨⟨zlt, fun a ha => (by cases ha)⟩, ⟨⟨⟨by decide, by decide⟩, by decide⟩, fun a ha => (by cases ha)⟩, by decide⟩
theorem first_cons (c : UInt8) (r : List UInt8) : firstT (c :: r) = if isLit c.toNat (secN r) = true then litT (c :: r) else if partB c = true then wordW ((c :: r).takeWhile partB) else markT (c :: r) := rfl
structure Firsts (f : List UInt8 → Option (TokD × Nat)) (l : List UInt8) (t : TokD) (n : Nat) : Prop where
  p : t.p = 0
  own : own t = l.take n
  pos : 0 < n
  le : n ≤ l.length
  good : GoodT t
  k4 : t.k ≠ 4
  again : ∀ r, f (l.take n ++ 32 :: r) = some (t, n)
theorem hdB_blank (r : List UInt8) : hdB (32 :: r) = false := by show partB 32 = false; rfl
theorem litT_first {l : List UInt8} {t : TokD} {n : Nat} (h : litT l = some (t, n)) : Firsts litT l t n := by
  unfold litT at h
  cases hr : readL l with
  | bad e => rw [hr] at h; cases h
  | ok v m =>
    rw [hr] at h
    simp only at h
    split at h
    · cases h
    · simp only [Option.some.injEq, Prod.mk.injEq] at h
      obtain ⟨rfl, rfl⟩ := h
      obtain ⟨h1, h2, h3, h4, h5⟩ := read_print hr
      refine ⟨rfl, ?_, h3, h4, ⟨read_fl hr, h5, valid_len h2⟩, (by show (2 : Int) ≠ 4; decide), fun r => ?_⟩
      · unfold own
        rw [if_pos rfl, h1]
      · unfold litT
        rw [lit_again hr r]
        simp only
        rw [List.drop_append_of_le_length (by rw [List.length_take]; omega), List.drop_of_length_le (by rw [List.length_take]; omega), List.nil_append, hdB_blank, if_neg (by simp)]
theorem sec_take (c : UInt8) (r r' : List UInt8) (n : Nat) (h : 2 ≤ n) (hl : n ≤ r.length + 1) : ∃ q, (c :: r).take n ++ r' = c :: q ∧ secN q = secN r := by
  obtain ⟨m, rfl⟩ : ∃ m, n = m + 2 := ⟨n - 2, by omega⟩
  cases r with
  | nil => simp at hl
  | cons d r => exact ⟨d :: (r.take m ++ r'), by simp, rfl⟩
theorem isLit_part {c d d' : Nat} (h : isLit c d = false) (hc : okB false (c : Int) = true) (h34 : d' ≠ 34) : isLit c d' = false := by
  simp only [isLit, dgN, okB, letB, Bool.or_eq_false_iff, Bool.or_eq_true, Bool.and_eq_true, Bool.and_eq_false_iff, decide_eq_true_eq, decide_eq_false_iff_not, beq_iff_eq, Bool.not_false, true_and] at *
  omega
theorem u8_eq {c : UInt8} {n : Nat} (h : c.toNat = n) (hn : n < 256) : c = UInt8.ofNat n := by
  apply UInt8.toNat_inj.1
  rw [h, UInt8.toNat_ofNat', Nat.mod_eq_of_lt (by omega)]
theorem part_take (l r : List UInt8) : (l.takeWhile partB ++ 32 :: r).takeWhile partB = l.takeWhile partB := by
  rw [List.takeWhile_append_of_pos (fun c hc => tw_all c hc)]
  rw [List.takeWhile_cons, if_neg (by rw [show partB 32 = false from rfl]; simp), List.append_nil]
theorem word_lits (w : List UInt8) (h : bs w = nullB ∨ bs w = trueB ∨ bs w = falseB) : ∃ v, litT w = some (⟨2, eE, v, 0⟩, w.length) := by
  have e : ∀ b : ByteArray, bs w = b → w = b.data.toList := fun b hb => by rw [← hb]
  rcases h with h | h | h
  · rw [e _ h]; exact ⟨_, rfl⟩
  · rw [e _ h]; exact ⟨_, rfl⟩
  · rw [e _ h]; exact ⟨_, rfl⟩
theorem wordW_len {w : List UInt8} {t : TokD} {n : Nat} (h : wordW w = some (t, n)) : n = w.length ∧ t.p = 0 ∧ own t = w ∧ GoodT t ∧ t.k ≠ 4 := by
  unfold wordW at h
  split at h
  · rename_i hw
    obtain ⟨v, hv⟩ := word_lits w hw
    have hf := litT_first h
    rw [hv] at h
    simp only [Option.some.injEq, Prod.mk.injEq] at h
    have hn := h.2.symm
    exact ⟨hn, hf.p, by rw [hf.own, hn, List.take_length], hf.good, hf.k4⟩
  · obtain ⟨g1, g2, g3⟩ := good_nul
    split at h
    · simp only [Option.some.injEq, Prod.mk.injEq] at h
      obtain ⟨rfl, rfl⟩ := h
      exact ⟨rfl, rfl, by unfold own; rw [if_neg (by show ¬ (3 : Int) = 2; decide)], ⟨g1, g2, g3⟩, by show (3 : Int) ≠ 4; decide⟩
    · split at h
      · simp only [Option.some.injEq, Prod.mk.injEq] at h
        obtain ⟨rfl, rfl⟩ := h
        exact ⟨rfl, rfl, by unfold own; rw [if_neg (by show ¬ (1 : Int) = 2; decide)], ⟨g1, g2, g3⟩, by show (1 : Int) ≠ 4; decide⟩
      · cases h
theorem mark_again : ∀ m ∈ marksL, ∀ r, firstT (m.data.toList ++ 32 :: r) = some (⟨3, m, nulV, 0⟩, m.size) := by
  intro m hm r
  simp only [marksL, List.mem_cons, List.not_mem_nil, or_false] at hm
  rcases hm with rfl | rfl | rfl | rfl | rfl | rfl | rfl | rfl | rfl | rfl | rfl | rfl | rfl | rfl | rfl | rfl | rfl | rfl | rfl | rfl | rfl <;> rfl
theorem markF_some {l : List UInt8} {t : TokD} {n : Nat} : ∀ {ms : List ByteArray}, markF l ms = some (t, n) → ∃ m ∈ ms, preL l m = true ∧ t = ⟨3, m, nulV, 0⟩ ∧ n = m.size
  | [], h => by cases h
  | m :: ms, h => by
    unfold markF at h
    split at h
    · rename_i hp
      simp only [Option.some.injEq, Prod.mk.injEq] at h
      exact ⟨m, List.mem_cons_self, hp, h.1.symm, h.2.symm⟩
    · obtain ⟨x, h1, h2⟩ := markF_some h
      exact ⟨x, List.mem_cons_of_mem _ h1, h2⟩
theorem marks_pos : ∀ m ∈ marksL, 0 < m.size := by decide
theorem first_again {l : List UInt8} {t : TokD} {n : Nat} (h : firstT l = some (t, n)) : Firsts firstT l t n := by
  cases l with
  | nil => cases h
  | cons c r =>
    rw [first_cons] at h
    split at h
    · rename_i hl
      have hf := litT_first h
      refine ⟨hf.p, hf.own, hf.pos, hf.le, hf.good, hf.k4, fun r' => ?_⟩
      have ha := hf.again r'
      by_cases h2 : 2 ≤ n
      · obtain ⟨q, e1, e2⟩ := sec_take c r (32 :: r') n h2 hf.le
        rw [e1] at ha ⊢
        rw [first_cons, e2, if_pos hl, ha]
      · have h1 : n = 1 := by have := hf.pos; omega
        subst h1
        have e : (c :: r).take 1 ++ 32 :: r' = c :: 32 :: r' := rfl
        rw [e] at ha ⊢
        rw [first_cons]
        by_cases hc : isLit c.toNat 32 = true
        · rw [show secN (32 :: r') = 32 from rfl, if_pos hc, ha]
        · exfalso
          have : c.toNat = 120 ∨ c.toNat = 45 := by
            simp only [isLit, dgN, Bool.or_eq_true, Bool.and_eq_true, decide_eq_true_eq] at hl hc
            omega
          have hn : litT (c :: 32 :: r') = none := by
            unfold litT
            rcases this with e | e
            · rw [u8_eq e (by omega)]; rfl
            · rw [u8_eq e (by omega)]; rfl
          rw [hn] at ha
          cases ha
    · rename_i hl
      have hl : isLit c.toNat (secN r) = false := by simpa using hl
      split at h
      · rename_i hp
        obtain ⟨h1, h2, h3, h4, h5⟩ := wordW_len h
        have hne : ∃ w, (c :: r).takeWhile partB = c :: w := ⟨r.takeWhile partB, by rw [List.takeWhile_cons, if_pos hp]⟩
        have htk : (c :: r).take n = (c :: r).takeWhile partB := by
          rw [h1]
          exact (List.prefix_iff_eq_take.1 (List.takeWhile_prefix partB)).symm
        have hle : n ≤ (c :: r).length := by rw [h1]; exact (List.takeWhile_sublist partB).length_le
        have hpos : 0 < n := by obtain ⟨w, hw⟩ := hne; rw [h1, hw]; simp
        refine ⟨h2, by rw [h3, htk], hpos, hle, h4, h5, fun r' => ?_⟩
        have hw := part_take (c :: r) r'
        rw [htk]
        obtain ⟨w, hcw⟩ := hne
        have hsec : isLit c.toNat (secN (w ++ 32 :: r')) = false := by
          by_cases h2 : 2 ≤ n
          · obtain ⟨q, e1, e2⟩ := sec_take c r (32 :: r') n h2 hle
            rw [htk, hcw] at e1
            have : w ++ 32 :: r' = q := by simpa using e1
            rw [this, e2]
            exact hl
          · have : w = [] := by
              have h1' := h1
              rw [hcw, List.length_cons] at h1'
              exact List.length_eq_zero_iff.1 (by omega)
            rw [this]
            exact isLit_part hl hp (show (32 : Nat) ≠ 34 by decide)
        rw [hcw] at hw h ⊢
        rw [List.cons_append] at hw ⊢
        rw [first_cons, if_neg (by rw [hsec]; simp), if_pos hp, hw, h]
      · rename_i hp
        obtain ⟨m, hm, h1, rfl, rfl⟩ := markF_some h
        obtain ⟨g1, g2, g3⟩ := good_nul
        refine ⟨rfl, ?_, marks_pos m hm, preL_len h1, ⟨g1, g2, g3⟩, (by show (3 : Int) ≠ 4; decide), fun r' => ?_⟩
        · unfold own
          rw [if_neg (by show ¬ (3 : Int) = 2; decide), pre_take h1]
        · rw [pre_take h1]
          exact mark_again m hm r'
inductive LX where
  | ok (l : List TokD)
  | bad (p : Nat)
def LX.app (a : List TokD) : LX → LX
  | .ok l => .ok (a ++ l)
  | .bad p => .bad p
def blkB (c : UInt8) : Bool := decide (c.toNat = 32) || decide (c.toNat = 9) || decide (c.toNat = 10) || decide (c.toNat = 13)
def endT (p : Nat) : TokD := ⟨4, eE, nulV, p⟩
def lexT : Nat → Nat → List UInt8 → LX
  | 0, p, _ => .bad p
  | _ + 1, p, [] => .ok [endT p]
  | f + 1, p, c :: r => if blkB c = true then lexT f (p + 1) r else match firstT (c :: r) with
    | none => .bad p
    | some (t, n) => LX.app [{ t with p := p }] (lexT f (p + n) ((c :: r).drop n))
theorem lex_cons (f p : Nat) (c : UInt8) (r : List UInt8) : lexT (f + 1) p (c :: r) = if blkB c = true then lexT f (p + 1) r else match firstT (c :: r) with
    | none => .bad p
    | some (t, n) => LX.app [{ t with p := p }] (lexT f (p + n) ((c :: r).drop n)) := rfl
def TokD.core (t : TokD) : TokD := { t with p := 0 }
end Go.Proofs.YtlpfdgkfdgehnaaDoor.AM
namespace Go.Proofs.YtlpfdgkfdgehnaaDoor.AM
open Go.RowKit
set_option linter.unusedSimpArgs false
set_option linter.unusedVariables false
set_option maxRecDepth 10000
set_option maxHeartbeats 0
theorem lexT_fuel : ∀ (f g p : Nat) (l : List UInt8), l.length < f → l.length < g → lexT f p l = lexT g p l
  | 0, _, _, _, h, _ => by omega
  | _, 0, _, _, _, h => by omega
  | f + 1, g + 1, p, [], _, _ => rfl
  | f + 1, g + 1, p, c :: r, h1, h2 => by
    rw [List.length_cons] at h1 h2
    rw [lex_cons, lex_cons]
    split
    · exact lexT_fuel f g (p + 1) r (by omega) (by omega)
    · cases hf : firstT (c :: r) with
      | none => rfl
      | some z =>
        obtain ⟨t, n⟩ := z
        have hF := first_again hf
        have hpos := hF.pos
        have hdl : ((c :: r).drop n).length = r.length + 1 - n := List.length_drop
        simp only
        rw [lexT_fuel f g (p + n) _ (by omega) (by omega)]
def lx (p : Nat) (l : List UInt8) : LX := lexT (l.length + 1) p l
theorem lx_nil (p : Nat) : lx p [] = .ok [endT p] := rfl
theorem first_blk {c : UInt8} {r : List UInt8} (h : blkB c = true) : firstT (c :: r) = none := by
  have : c = 32 ∨ c = 9 ∨ c = 10 ∨ c = 13 := by
    simp only [blkB, Bool.or_eq_true, decide_eq_true_eq] at h
    rcases h with ((h | h) | h) | h
    · exact .inl (u8_eq h (by decide))
    · exact .inr (.inl (u8_eq h (by decide)))
    · exact .inr (.inr (.inl (u8_eq h (by decide))))
    · exact .inr (.inr (.inr (u8_eq h (by decide))))
  rcases this with rfl | rfl | rfl | rfl <;> rfl
theorem lx_blank (p : Nat) (c : UInt8) (r : List UInt8) (h : blkB c = true) : lx p (c :: r) = lx (p + 1) r := by
  unfold lx
  rw [List.length_cons, lex_cons, if_pos h]
theorem lx_tok {s r : List UInt8} {t : TokD} (h : firstT (s ++ r) = some (t, s.length)) (p : Nat) : lx p (s ++ r) = LX.app [{ t with p := p }] (lx (p + s.length) r) := by
  have hF := first_again h
  have hpos := hF.pos
  cases s with
  | nil => simp at hpos
  | cons c s =>
    have hb : ¬ blkB c = true := fun hb => by rw [List.cons_append, first_blk hb] at h; cases h
    unfold lx
    rw [List.cons_append, List.length_cons, lex_cons, if_neg hb]
    rw [List.cons_append] at h
    rw [h]
    simp only
    have hd : (c :: (s ++ r)).drop (c :: s).length = r := by rw [← List.cons_append]; simp
    rw [hd, lexT_fuel _ (r.length + 1) _ r (by simp; omega) (by omega)]
def LT (s r : List UInt8) (us : List TokD) : Prop := ∀ p, ∃ us', lx p (s ++ r) = LX.app us' (lx (p + s.length) r) ∧ us'.map TokD.core = us
theorem LX.app_app (a b : List TokD) (x : LX) : LX.app a (LX.app b x) = LX.app (a ++ b) x := by cases x <;> simp [LX.app]
theorem LT.nil (r : List UInt8) : LT [] r [] := fun p => ⟨[], by simp only [List.nil_append, List.length_nil, Nat.add_zero]; cases lx p r <;> rfl, rfl⟩
theorem LT.app {s1 s2 r : List UInt8} {u1 u2 : List TokD} (h1 : LT s1 (s2 ++ r) u1) (h2 : LT s2 r u2) : LT (s1 ++ s2) r (u1 ++ u2) := fun p => by
  obtain ⟨v1, e1, c1⟩ := h1 p
  obtain ⟨v2, e2, c2⟩ := h2 (p + s1.length)
  refine ⟨v1 ++ v2, ?_, by rw [List.map_append, c1, c2]⟩
  rw [List.append_assoc, e1, e2, LX.app_app, List.length_append, Nat.add_assoc]
theorem LT.blank (r : List UInt8) : LT [32] r [] := fun p => ⟨[], by rw [List.cons_append, List.nil_append, lx_blank p 32 r rfl, List.length_cons, List.length_nil]; cases lx (p + 1) r <;> rfl, rfl⟩
theorem LT.tok {s r : List UInt8} {t : TokD} (h : firstT (s ++ r) = some (t, s.length)) : LT s r [t] := fun p => by
  refine ⟨_, lx_tok h p, ?_⟩
  have := (first_again h).p
  simp only [List.map_cons, List.map_nil, TokD.core]
  congr 1
  obtain ⟨k, x, v, q⟩ := t
  simp only at this
  rw [this]
def sfB (c : UInt8) : Bool := c == 32 || c == 40 || c == 41 || c == 42 || c == 44 || c == 46 || c == 58 || c == 93 || c == 125
def sf : List UInt8 → Bool
  | [] => true
  | c :: _ => sfB c
theorem sf_cases {r : List UInt8} (h : sf r = true) : r = [] ∨ ∃ c r', r = c :: r' ∧ (c = 32 ∨ c = 40 ∨ c = 41 ∨ c = 42 ∨ c = 44 ∨ c = 46 ∨ c = 58 ∨ c = 93 ∨ c = 125) := by
  cases r with
  | nil => exact .inl rfl
  | cons c r =>
    simp only [sf, sfB, Bool.or_eq_true, beq_iff_eq] at h
    exact .inr ⟨c, r, rfl, by rcases h with (((((((h | h) | h) | h) | h) | h) | h) | h) | h <;> simp [h]⟩
theorem sf_part {r : List UInt8} (h : sf r = true) : hdB r = false := by
  rcases sf_cases h with rfl | ⟨c, r', rfl, hc⟩
  · rfl
  · rcases hc with rfl | rfl | rfl | rfl | rfl | rfl | rfl | rfl | rfl <;> rfl
theorem sf_dg {r : List UInt8} (h : sf r = true) : r.takeWhile dgB = [] := by
  rcases sf_cases h with rfl | ⟨c, r', rfl, hc⟩
  · rfl
  · rcases hc with rfl | rfl | rfl | rfl | rfl | rfl | rfl | rfl | rfl <;> rfl
theorem sf_102 {r : List UInt8} (h : sf r = true) : r.head? ≠ some 102 := by
  rcases sf_cases h with rfl | ⟨c, r', rfl, hc⟩
  · simp
  · rcases hc with rfl | rfl | rfl | rfl | rfl | rfl | rfl | rfl | rfl <;> simp
theorem sf_sec {r : List UInt8} (h : sf r = true) : secN r ≠ 34 ∧ dgN (secN r) = false := by
  rcases sf_cases h with rfl | ⟨c, r', rfl, hc⟩
  · exact ⟨Nat.ne_of_beq_eq_false rfl, rfl⟩
  · rcases hc with rfl | rfl | rfl | rfl | rfl | rfl | rfl | rfl | rfl <;> exact ⟨Nat.ne_of_beq_eq_false rfl, rfl⟩
theorem take_all {l r : List UInt8} (h : ∀ c ∈ l, partB c = true) (hr : hdB r = false) : (l ++ r).takeWhile partB = l := by
  rw [List.takeWhile_append_of_pos h]
  have : r.takeWhile partB = [] := by
    cases r with
    | nil => rfl
    | cons c r => rw [List.takeWhile_cons, if_neg (by rw [show partB c = false from hr]; simp)]
  rw [this, List.append_nil]
theorem okB_mono {b : Bool} {c : Int} (h : okB b c = true) : okB false c = true := by
  cases b
  · exact h
  · simp only [okB, Bool.not_true, Bool.false_and, Bool.or_false] at h
    simp only [okB, h, Bool.true_or]
theorem nameL_all : ∀ (b : Bool) (l : List UInt8), nameL b l = true → ∀ c ∈ l, partB c = true
  | _, [], _, c, hc => by cases hc
  | b, x :: l, h, c, hc => by
    have h' : (okB b (x.toNat : Int) && nameL false l) = true := h
    rw [Bool.and_eq_true] at h'
    rcases List.mem_cons.1 hc with rfl | hc
    · exact okB_mono h'.1
    · exact nameL_all false l h'.2 c hc
theorem isLit_word {c : UInt8} {l r : List UInt8} (h1 : okB true (c.toNat : Int) = true) (hl : ∀ x ∈ l, partB x = true) (hr : sf r = true) : isLit c.toNat (secN (l ++ r)) = false := by
  have h34 : secN (l ++ r) ≠ 34 := by
    cases l with
    | nil => exact (sf_sec hr).1
    | cons x l =>
      have := hl x (by simp)
      show x.toNat ≠ 34
      intro e
      rw [u8_eq e (by omega)] at this
      exact absurd this (by decide)
  simp only [isLit, dgN, okB, letB, Bool.or_eq_false_iff, Bool.or_eq_true, Bool.and_eq_true, Bool.and_eq_false_iff, decide_eq_true_eq, decide_eq_false_iff_not, beq_iff_eq, Bool.not_true, Bool.false_and, Bool.or_false] at *
  omega
abbrev nm (s : ByteArray) : TokD := ⟨1, s, nulV, 0⟩
abbrev tk (m : ByteArray) : TokD := ⟨3, m, nulV, 0⟩
abbrev lt (v : ValD) : TokD := ⟨2, eE, v, 0⟩
theorem ne_nul {s : ByteArray} (h : wordS s = false) : ¬ (s = nullB ∨ s = trueB ∨ s = falseB) := by
  rintro (rfl | rfl | rfl) <;> exact absurd h (by decide)
theorem LT_name {s : ByteArray} {r : List UInt8} (h : isName s = true) (hr : sf r = true) : LT s.data.toList r [nm s] := by
  apply LT.tok
  unfold isName at h
  rw [Bool.and_eq_true, Bool.not_eq_true'] at h
  obtain ⟨hn, hw⟩ := h
  have hn' := hn
  unfold nameS at hn'
  rw [Bool.and_eq_true, Bool.and_eq_true] at hn'
  have hall := nameL_all true _ hn'.1
  have htw := take_all hall (sf_part hr)
  have hbs := bs_back s
  have hne : s.data.toList ≠ [] := by
    intro e
    have := hn'.2.1
    rw [bne_iff_ne, ByteArray.toList_eq, ByteArray.toList_eq, e] at this
    exact this rfl
  have h1 : nameL true s.data.toList = true := hn'.1
  generalize s.data.toList = l at *
  cases l with
  | nil => exact absurd rfl hne
  | cons c l =>
    have h1' : (okB true (c.toNat : Int) && nameL false l) = true := h1
    rw [Bool.and_eq_true] at h1'
    rw [List.cons_append] at htw ⊢
    rw [first_cons, isLit_word h1'.1 (fun x hx => hall x (List.mem_cons_of_mem _ hx)) hr, if_neg (by simp), if_pos (hall c (by simp)), htw]
    unfold wordW
    rw [hbs, if_neg (ne_nul hw), if_neg (by rw [hw]; simp), if_pos hn]
theorem inW {w : ByteArray} (h : Lib.containsS wordsL w = true) : w ∈ wordsL := by rw [Lib.containsS_iff] at h; exact h
theorem neW {w : ByteArray} (h : Lib.containsS [nullB, trueB, falseB] w = false) : ¬ (w = nullB ∨ w = trueB ∨ w = falseB) := by
  intro hw
  have : Lib.containsS [nullB, trueB, falseB] w = true := by rw [Lib.containsS_iff]; rcases hw with rfl | rfl | rfl <;> simp
  rw [h] at this
  cases this
theorem words_let : ∀ w ∈ wordsL, w.data.toList ≠ [] ∧ (w.data.toList.all (fun c => okB true (c.toNat : Int))) = true := by decide
theorem LT_word {w : ByteArray} {r : List UInt8} (h : w ∈ wordsL) (h0 : ¬ (w = nullB ∨ w = trueB ∨ w = falseB)) (hr : sf r = true) : LT w.data.toList r [tk w] := by
  apply LT.tok
  obtain ⟨hne, hall'⟩ := words_let w h
  have hall0 := List.all_eq_true.1 hall'
  have hall : ∀ c ∈ w.data.toList, partB c = true := fun c hc => okB_mono (hall0 c hc)
  have htw := take_all hall (sf_part hr)
  have hbs := bs_back w
  have hw : wordS w = true := by unfold wordS; rw [Lib.containsS_iff]; exact h
  clear hall' h
  generalize w.data.toList = l at *
  cases l with
  | nil => exact absurd rfl hne
  | cons c l =>
    rw [List.cons_append] at htw ⊢
    rw [first_cons, isLit_word (hall0 c (by simp)) (fun x hx => hall x (List.mem_cons_of_mem _ hx)) hr, if_neg (by simp), if_pos (hall c (by simp)), htw]
    unfold wordW
    rw [hbs, if_neg h0, if_pos hw]
theorem lit_of {v : ValD} {r : List UInt8} (hv : validV v = true) (hn : i64B v.a.n) (hf : v.a.f < 18446744073709551616) (hl : v.l = []) (hr : sf r = true) : litT ((printV v).data.toList ++ r) = some (lt v, (printV v).data.toList.length) := by
  have hb := (readL_back v hv ⟨hn, hf⟩ (fun a ha => by rw [hl] at ha; cases ha) r (sf_dg hr) (.inl (sf_102 hr))).1
  have hsz : (printV v).size = (printV v).data.toList.length := Array.length_toList.symm
  rw [hsz] at hb
  unfold litT
  rw [hb]
  simp only
  rw [List.drop_left' rfl, sf_part hr, if_neg (by simp)]
theorem dgN_of {c : UInt8} (h : dgB c = true) : dgN c.toNat = true := by
  have := dg_bd h
  simp only [dgN, Bool.and_eq_true, decide_eq_true_eq]
  omega
theorem LT_lit {v : ValD} {r : List UInt8} (hp : plainV v = true) (hn : i64B v.a.n) (hf : v.a.f < 18446744073709551616) (hr : sf r = true) : LT (printV v).data.toList r [lt v] := by
  apply LT.tok
  unfold plainV at hp
  rw [Bool.and_eq_true, bne_iff_ne, ne_eq] at hp
  obtain ⟨hv, h6⟩ := hp
  have hv' := hv
  rw [validV_atom h6] at hv'
  simp only [Bool.and_eq_true, beq_iff_eq] at hv'
  have hnil : v.l = [] := List.length_eq_zero_iff.1 (by have := hv'.2; omega)
  have hlr := lit_of hv hn hf hnil hr
  have hl0 := lit_of (r := []) hv hn hf hnil rfl
  rw [List.append_nil] at hl0
  have hpv : (printV v).data.toList = pAL v.a := by
    unfold printV
    rw [if_pos hv, if_neg h6]
  rw [hpv] at hlr hl0 ⊢
  have word : ∀ w : ByteArray, (w = nullB ∨ w = trueB ∨ w = falseB) → pAL v.a = w.data.toList → firstT (pAL v.a ++ r) = some (lt v, (pAL v.a).length) := by
    intro w hw e
    have hmem : w ∈ wordsL := by rcases hw with rfl | rfl | rfl <;> exact inW (by decide)
    obtain ⟨hne, hall'⟩ := words_let w hmem
    have hall0 := List.all_eq_true.1 hall'
    have hall : ∀ c ∈ w.data.toList, partB c = true := fun c hc => okB_mono (hall0 c hc)
    have htw := take_all hall (sf_part hr)
    have hbs := bs_back w
    rw [e] at hl0 ⊢
    clear hall' hlr
    generalize w.data.toList = l at *
    cases l with
    | nil => exact absurd rfl hne
    | cons c l =>
      rw [List.cons_append] at htw ⊢
      rw [first_cons, isLit_word (hall0 c (by simp)) (fun x hx => hall x (List.mem_cons_of_mem _ hx)) hr, if_neg (by simp), if_pos (hall c (by simp)), htw]
      unfold wordW
      rw [hbs, if_pos hw, hl0]
  have lit : ∀ (c : UInt8) (l : List UInt8), pAL v.a = c :: l → isLit c.toNat (secN (l ++ r)) = true → firstT (pAL v.a ++ r) = some (lt v, (pAL v.a).length) := by
    intro c l e h
    rw [e] at hlr ⊢
    rw [List.cons_append] at hlr ⊢
    rw [first_cons, if_pos h, hlr]
  clear hlr hl0 hpv hv
  obtain ⟨⟨k, n, f, s⟩, l⟩ := v
  simp only at *
  rcases validA_inv hv'.1 with ⟨rfl, rfl, rfl, rfl⟩ | ⟨rfl, rfl, rfl, rfl⟩ | ⟨rfl, rfl, rfl, rfl⟩ | ⟨rfl, rfl, rfl⟩ | ⟨rfl, rfl, rfl, hc⟩ | ⟨rfl, rfl, rfl, hs⟩ | ⟨rfl, rfl, rfl, hs⟩
  · exact word nullB (.inl rfl) (by decide +kernel)
  · exact word falseB (.inr (.inr rfl)) (by decide +kernel)
  · exact word trueB (.inr (.inl rfl)) (by decide +kernel)
  · by_cases hneg : n < 0
    · have e : pAL ⟨2, n, 0, eE⟩ = 45 :: Lib.decDigits n.natAbs := itoa_of_neg hneg
      cases hd : Lib.decDigits n.natAbs with
      | nil => exact absurd hd (dec_ne _)
      | cons d t =>
        rw [hd] at e
        refine lit 45 (d :: t) e ?_
        have := dgN_of (dec_all n.natAbs d (by rw [hd]; simp))
        show isLit 45 d.toNat = true
        simp [isLit, this]
    · have e : pAL ⟨2, n, 0, eE⟩ = Lib.decDigits n.toNat := itoa_of_pos hneg
      cases hd : Lib.decDigits n.toNat with
      | nil => exact absurd hd (dec_ne _)
      | cons d t =>
        rw [hd] at e
        refine lit d t e ?_
        have := dgN_of (dec_all n.toNat d (by rw [hd]; simp))
        simp [isLit, this]
  · have e : pAL ⟨3, 0, f, eE⟩ = 48 :: 102 :: (hexS f).data.toList := by
      show ((⟨#[48, 102]⟩ : ByteArray) ++ hexS f).data.toList = _
      rw [ByteArray.data_append, Array.toList_append]
      rfl
    exact lit _ _ e rfl
  · have e : pAL ⟨4, 0, 0, s⟩ = 34 :: (s.data.toList.flatMap escB ++ [34]) := by
      show quoteL s.data.toList = _
      simp [quoteL]
    exact lit _ _ e rfl
  · have e : pAL ⟨5, 0, 0, s⟩ = 120 :: 34 :: (s.data.toList.flatMap escB ++ [34]) := by
      show ((⟨#[120]⟩ : ByteArray) ++ quoteS s).data.toList = _
      rw [ByteArray.data_append, Array.toList_append]
      show [120] ++ quoteL s.data.toList = _
      simp [quoteL]
    exact lit _ _ e rfl
abbrev numV (n : Int) : ValD := ⟨⟨2, n, 0, eE⟩, []⟩
theorem LT_num {n : Int} {r : List UInt8} (hn : i64B n) (hr : sf r = true) : LT (Lib.itoa n) r [lt (numV n)] := by
  have hp : plainV (numV n) = true := by
    unfold plainV
    rw [validV_atom (by show (2 : Int) ≠ 6; decide), show validA (numV n).a = true by show validA ⟨2, n, 0, eE⟩ = true; unfold validA; simp [isA]]
    rfl
  have := LT_lit (v := numV n) hp hn (by show 0 < _; decide) hr
  have e : (printV (numV n)).data.toList = Lib.itoa n := by
    unfold printV
    unfold plainV at hp
    rw [Bool.and_eq_true] at hp
    rw [if_pos hp.1, if_neg (show ¬ (2 : Int) = 6 by decide)]
    rfl
  rw [e] at this
  exact this
theorem LT_lpar (r : List UInt8) : LT [40] r [tk ⟨#[40]⟩] := LT.tok rfl
theorem LT_rpar (r : List UInt8) : LT [41] r [tk ⟨#[41]⟩] := LT.tok rfl
theorem LT_lbr (r : List UInt8) : LT [123] r [tk ⟨#[123]⟩] := LT.tok rfl
theorem LT_rbr (r : List UInt8) : LT [125] r [tk ⟨#[125]⟩] := LT.tok rfl
theorem LT_colon (r : List UInt8) : LT [58] r [tk ⟨#[58]⟩] := LT.tok rfl
theorem LT_comma (r : List UInt8) : LT [44] r [tk ⟨#[44]⟩] := LT.tok rfl
theorem LT_star (r : List UInt8) : LT [42] r [tk ⟨#[42]⟩] := LT.tok rfl
theorem LT_dots (r : List UInt8) : LT [46, 46] r [tk ⟨#[46, 46]⟩] := LT.tok rfl
theorem LT_hopb (r : List UInt8) : LT [60, 45, 91] r [tk ⟨#[60, 45, 91]⟩] := LT.tok rfl
theorem LT_hopf (r : List UInt8) : LT [45, 91] r [tk ⟨#[45, 91]⟩] := LT.tok rfl
theorem LT_endf (r : List UInt8) : LT [93, 45, 62] r [tk ⟨#[93, 45, 62]⟩] := LT.tok rfl
theorem LT_endb (r : List UInt8) : LT [93, 45] (40 :: r) [tk ⟨#[93, 45]⟩] := LT.tok rfl
theorem LT_dot {r : List UInt8} (h : r.head? ≠ some 46) : LT [46] r [tk ⟨#[46]⟩] := by
  apply LT.tok
  cases r with
  | nil => rfl
  | cons c r =>
    have hc : c ≠ 46 := fun e => h (by rw [e]; rfl)
    have hp : preL (46 :: c :: r) ⟨#[46, 46]⟩ = false := preL_no2 ⟨46, [], rfl, fun e => hc e.symm⟩
    show markT (46 :: c :: r) = _
    unfold markT marksL
    simp only [markF, hp]
    rfl
def signOk (op : Int) : Prop := 6 ≤ op ∧ op ≤ 15
theorem LT_sign {op : Int} (h : signOk op) (r : List UInt8) : LT (signS op).data.toList (32 :: r) [tk (signS op)] := by
  have : op = 6 ∨ op = 7 ∨ op = 8 ∨ op = 9 ∨ op = 10 ∨ op = 11 ∨ op = 12 ∨ op = 13 ∨ op = 14 ∨ op = 15 := by unfold signOk at h; omega
  rcases this with rfl | rfl | rfl | rfl | rfl | rfl | rfl | rfl | rfl | rfl
  · exact LT_word (w := ⟨#[97, 110, 100]⟩) (inW (by decide)) (neW (by decide)) rfl
  · exact LT_word (w := ⟨#[111, 114]⟩) (inW (by decide)) (neW (by decide)) rfl
  all_goals exact LT.tok rfl
end Go.Proofs.YtlpfdgkfdgehnaaDoor.AM
namespace Go.Proofs.YtlpfdgkfdgehnaaDoor.AM
open Go.RowKit
set_option linter.unusedSimpArgs false
set_option linter.unusedVariables false
set_option maxRecDepth 10000
set_option maxHeartbeats 0
inductive Tr where
  | lf (t : TermD)
  | un (op : Int) (a : Tr)
  | bi (op : Int) (a b : Tr)
abbrev opT (op : Int) : TermD := ⟨op, eE, eE, nulV⟩
def Tr.terms : Tr → List TermD
  | .lf t => [t]
  | .un op a => a.terms ++ [opT op]
  | .bi op a b => a.terms ++ b.terms ++ [opT op]
def Tr.text : Tr → ByteArray
  | .lf t => own0 t
  | .un op a => own1 op a.text
  | .bi op a b => own2 op a.text b.text
def Tr.deep : Tr → Nat
  | .lf _ => 1
  | .un _ a => a.deep + 1
  | .bi _ a b => max a.deep b.deep + 1
structure Leaf (t : TermD) : Prop where
  lo : 1 ≤ t.op
  hi : t.op ≤ 3
  right : rightT t = true
  n : i64B t.v.a.n
  f : t.v.a.f < 18446744073709551616
def Tr.ok : Tr → Prop
  | .lf t => Leaf t
  | .un op a => (op = 4 ∨ op = 5) ∧ a.ok
  | .bi op a b => signOk op ∧ a.ok ∧ b.ok
def lfT (t : TermD) : List TokD := if t.op = 1 then [lt t.v] else if t.op = 2 then [nm t.var, tk ⟨#[46]⟩, nm t.name] else [tk ⟨#[105, 100]⟩, tk ⟨#[40]⟩, nm t.var, tk ⟨#[41]⟩]
abbrev notM : ByteArray := ⟨#[110, 111, 116]⟩
abbrev isM' : ByteArray := ⟨#[105, 115]⟩
abbrev lparM : ByteArray := ⟨#[40]⟩
abbrev rparM : ByteArray := ⟨#[41]⟩
def Tr.toks : Tr → List TokD
  | .lf t => lfT t
  | .un op a => if op = 4 then tk lparM :: tk notM :: (a.toks ++ [tk rparM]) else tk lparM :: (a.toks ++ [tk isM', lt nulV, tk rparM])
  | .bi op a b => tk lparM :: (a.toks ++ tk (signS op) :: (b.toks ++ [tk rparM]))
theorem zero_nul {v : ValD} (h : zeroV v = true) : v = nulV := by
  unfold zeroV at h
  simp only [Bool.and_eq_true, beq_iff_eq] at h
  obtain ⟨h1, h2, h3, h4, h5⟩ := h
  obtain ⟨⟨k, n, f, s⟩, l⟩ := v
  simp only at *
  obtain rfl : s = eE := by
    rw [ByteArray.toList_eq, ByteArray.toList_eq] at h4
    exact ByteArray.ext (Array.ext' h4)
  obtain rfl : l = [] := List.length_eq_zero_iff.1 (by omega)
  obtain rfl : f = 0 := by omega
  subst h1 h2
  rfl
theorem emp_of {s : ByteArray} (h : (s.toList == eE.toList) = true) : s = eE := by
  rw [beq_iff_eq, ByteArray.toList_eq, ByteArray.toList_eq] at h
  exact ByteArray.ext (Array.ext' h)
theorem right_inv {t : TermD} (h : rightT t = true) : (t.op = 1 ∧ t = ⟨1, eE, eE, t.v⟩ ∧ plainV t.v = true) ∨ (t.op = 2 ∧ t = ⟨2, t.var, t.name, nulV⟩ ∧ isName t.var = true ∧ isName t.name = true)
    ∨ (t.op = 3 ∧ t = ⟨3, t.var, eE, nulV⟩ ∧ isName t.var = true) ∨ (t.op ≠ 1 ∧ t.op ≠ 2 ∧ t.op ≠ 3 ∧ t = opT t.op) := by
  rw [show rightT t = (if (((t.op == 2 || t.op == 3) != isName t.var) || (!(t.op == 2 || t.op == 3) && !(t.var.toList == eE.toList))) = true then false
      else if (((t.op == 2) != isName t.name) || (!(t.op == 2) && !(t.name.toList == eE.toList))) = true then false else if (t.op == 1) = true then plainV t.v else zeroV t.v) from rfl] at h
  obtain ⟨op, var, name, v⟩ := t
  simp only at *
  have e1 := @emp_of var
  have e2 := @emp_of name
  have e3 := @zero_nul v
  generalize (var.toList == eE.toList) = x1 at *
  generalize (name.toList == eE.toList) = x2 at *
  generalize isName var = x3 at *
  generalize isName name = x4 at *
  generalize plainV v = x5 at *
  generalize zeroV v = x6 at *
  by_cases h1 : op = 1
  · subst h1
    cases x1 <;> cases x2 <;> cases x3 <;> cases x4 <;> cases x5 <;> simp_all
  · by_cases h2 : op = 2
    · subst h2
      cases x1 <;> cases x2 <;> cases x3 <;> cases x4 <;> cases x6 <;> simp_all
    · by_cases h3 : op = 3
      · subst h3
        cases x1 <;> cases x2 <;> cases x3 <;> cases x4 <;> cases x6 <;> simp_all
      · have q1 : (op == 1) = false := by simpa using h1
        have q2 : (op == 2) = false := by simpa using h2
        have q3 : (op == 3) = false := by simpa using h3
        rw [q1, q2, q3] at h
        cases x1 <;> cases x2 <;> cases x3 <;> cases x4 <;> cases x6 <;> simp_all
theorem data_app (a b : ByteArray) : (a ++ b).data.toList = a.data.toList ++ b.data.toList := by rw [ByteArray.data_append, Array.toList_append]
theorem name_head {s : ByteArray} (h : isName s = true) (r : List UInt8) : (s.data.toList ++ r).head? ≠ some 46 := by
  unfold isName at h
  rw [Bool.and_eq_true] at h
  have hn' := h.1
  unfold nameS at hn'
  rw [Bool.and_eq_true, Bool.and_eq_true] at hn'
  have hall := nameL_all true _ hn'.1
  have hne : s.data.toList ≠ [] := by
    intro e
    have := hn'.2.1
    rw [bne_iff_ne, ByteArray.toList_eq, ByteArray.toList_eq, e] at this
    exact this rfl
  cases hs : s.data.toList with
  | nil => exact absurd hs hne
  | cons c l =>
    intro e
    simp only [List.cons_append, List.head?_cons, Option.some.injEq] at e
    subst e
    exact absurd (hall 46 (by rw [hs]; simp)) (by decide)
theorem LT_lf {t : TermD} (h : Leaf t) {r : List UInt8} (hr : sf r = true) : LT (own0 t).data.toList r (lfT t) := by
  have hn := h.n
  have hf := h.f
  have h3 := h.hi
  rcases right_inv h.right with ⟨g, e, hp⟩ | ⟨g, e, hv, hna⟩ | ⟨g, e, hv⟩ | ⟨g1, g2, g3, e⟩
  · unfold own0 lfT
    rw [if_pos g, if_pos g]
    have h6 := hp
    unfold plainV at h6
    rw [Bool.and_eq_true, bne_iff_ne, ne_eq] at h6
    have : printV1 t.v = printV t.v := by unfold printV1 printV; rw [if_pos h6.1, if_pos h6.1, if_neg h6.2]
    rw [this]
    exact LT_lit hp hn hf hr
  · unfold own0 lfT
    rw [if_neg (by omega), if_pos g, if_neg (by omega), if_pos g, data_app, data_app, List.append_assoc]
    refine LT.app (u1 := [nm t.var]) (LT_name hv rfl) (LT.app (u1 := [tk ⟨#[46]⟩]) (LT_dot (name_head hna r)) (LT_name hna hr))
  · unfold own0 lfT
    rw [if_neg (by omega), if_neg (by omega), if_neg (by omega), if_neg (by omega), data_app, data_app, List.append_assoc]
    refine LT.app (s1 := [105, 100, 40]) (u1 := [tk ⟨#[105, 100]⟩, tk ⟨#[40]⟩]) (LT.app (s1 := [105, 100]) (s2 := [40]) (u1 := [tk ⟨#[105, 100]⟩]) (LT_word (w := ⟨#[105, 100]⟩) (inW (by decide)) (neW (by decide)) rfl) (LT_lpar _)) (LT.app (u1 := [nm t.var]) (LT_name hv rfl) (LT_rpar r))
  · have := h.lo
    omega
theorem LT.cat {s s' r : List UInt8} {u u' : List TokD} (h : LT s' r u') (hs : s = s') (hu : u = u') : LT s r u := by rw [hs, hu]; exact h
theorem LT_tr : ∀ (t : Tr), t.ok → ∀ (r : List UInt8), sf r = true → LT t.text.data.toList r t.toks
  | .lf t, h, r, hr => LT_lf h hr
  | .un op a, h, r, hr => by
    obtain ⟨hop, ha⟩ := h
    have ih := LT_tr a ha
    unfold Tr.text Tr.toks own1
    by_cases h4 : op = 4
    · rw [if_pos h4, if_pos h4, data_app, data_app]
      refine LT.cat (s' := [40] ++ (([110, 111, 116] ++ ([32] ++ (a.text.data.toList ++ [41]))))) (u' := [tk lparM] ++ ([tk notM] ++ ([] ++ (a.toks ++ [tk rparM])))) (LT.app (LT_lpar _) (LT.app (LT_word (w := notM) (inW (by decide)) (neW (by decide)) rfl) (LT.app (LT.blank _) (LT.app (ih _ rfl) (LT_rpar r))))) (by simp) (by simp)
    · rw [if_neg h4, if_neg h4, data_app, data_app]
      have hnul : LT (printV nulV).data.toList ([41] ++ r) [lt nulV] := LT_lit (v := nulV) (r := [41] ++ r) (by decide +kernel) (by unfold i64B; decide) (by decide) rfl
      rw [show (printV nulV).data.toList = [110, 117, 108, 108] by decide +kernel] at hnul
      refine LT.cat (s' := [40] ++ (a.text.data.toList ++ ([32] ++ ([105, 115] ++ ([32] ++ ([110, 117, 108, 108] ++ [41])))))) (u' := [tk lparM] ++ (a.toks ++ ([] ++ ([tk isM'] ++ ([] ++ ([lt nulV] ++ [tk rparM])))))) (LT.app (LT_lpar _) (LT.app (ih _ rfl) (LT.app (LT.blank _) (LT.app (LT_word (w := isM') (inW (by decide)) (neW (by decide)) rfl) (LT.app (LT.blank _) (LT.app hnul (LT_rpar r))))))) (by simp) (by simp)
  | .bi op a b, h, r, hr => by
    obtain ⟨hop, ha, hb⟩ := h
    have ih := LT_tr a ha
    have ih2 := LT_tr b hb
    unfold Tr.text Tr.toks own2
    rw [data_app, data_app, data_app, data_app, data_app, data_app]
    refine LT.cat (s' := [40] ++ (a.text.data.toList ++ ([32] ++ ((signS op).data.toList ++ ([32] ++ (b.text.data.toList ++ [41])))))) (u' := [tk lparM] ++ (a.toks ++ ([] ++ ([tk (signS op)] ++ ([] ++ (b.toks ++ [tk rparM])))))) (LT.app (LT_lpar _) (LT.app (ih _ rfl) (LT.app (LT.blank _) (LT.app (LT_sign hop _) (LT.app (LT.blank _) (LT.app (ih2 _ rfl) (LT_rpar r))))))) (by simp) (by simp)
structure GoodL (t : TermD) : Prop where
  right : rightT t = true
  n : i64B t.v.a.n
  f : t.v.a.f < 18446744073709551616
abbrev dps (S : List Tr) : List Int := S.map fun t => (t.deep : Int)
theorem maxL_one (a : Nat) : maxL [(a : Int)] = a := by
  simp only [maxL, List.foldl_cons, List.foldl_nil]
  split <;> omega
theorem maxL_two (a b : Nat) : maxL [(a : Int), (b : Int)] = (max a b : Nat) := by
  simp only [maxL, List.foldl_cons, List.foldl_nil]
  repeat' split
  all_goals omega
theorem tree_of : ∀ (ts : List TermD) (S : List Tr) (sd : List Int), deepS (dps S) ts = some sd → (∀ t ∈ ts, GoodL t) → (∀ t ∈ S, t.ok) →
    ∃ S', dps S' = sd ∧ (∀ t ∈ S', t.ok) ∧ S'.flatMap Tr.terms = S.flatMap Tr.terms ++ ts ∧ ts.foldl tStep (S.map Tr.text) = S'.map Tr.text
  | [], S, sd, h, _, hS => ⟨S, Option.some.inj h, hS, by simp, rfl⟩
  | t :: ts, S, sd, h, hg, hS => by
    rw [deepS_cons] at h
    have hgt := hg t (by simp)
    by_cases hbad : t.op ≤ 0 ∨ 16 ≤ t.op ∨ (dps S).length < ofN t.op
    · rw [stepD, if_pos hbad] at h; cases h
    rw [stepD, if_neg hbad] at h
    simp only [not_or, List.length_map] at hbad
    obtain ⟨hb1, hb2, hb3⟩ := hbad
    simp only at h
    by_cases h3 : t.op ≤ 3
    · have ho : ofN t.op = 0 := by unfold ofN; rw [if_pos h3]
      rw [ho] at h
      have e : (dps S).take ((dps S).length - 0) ++ [maxL ((dps S).drop ((dps S).length - 0)) + 1] = dps (S ++ [.lf t]) := by
        rw [Nat.sub_zero, List.take_of_length_le (Nat.le_refl _), List.drop_of_length_le (Nat.le_refl _)]
        simp [maxL, Tr.deep]
      rw [e] at h
      obtain ⟨S', a1, a2, a3, a4⟩ := tree_of ts _ sd h (fun x hx => hg x (List.mem_cons_of_mem _ hx)) (fun x hx => by
        rcases List.mem_append.1 hx with hx | hx
        · exact hS x hx
        · rw [List.mem_singleton.1 hx]; exact ⟨by omega, h3, hgt.right, hgt.n, hgt.f⟩)
      refine ⟨S', a1, a2, by rw [a3]; simp [Tr.terms], ?_⟩
      rw [← a4, List.foldl_cons]
      unfold tStep
      rw [if_pos h3]
      simp [Tr.text]
    · have hinv : t = opT t.op := by
        rcases right_inv hgt.right with ⟨g, _⟩ | ⟨g, _⟩ | ⟨g, _⟩ | ⟨_, _, _, e⟩
        · omega
        · omega
        · omega
        · exact e
      by_cases h5 : t.op ≤ 5
      · have ho : ofN t.op = 1 := by unfold ofN; rw [if_neg h3, if_pos h5]
        rw [ho] at h hb3
        rcases List.eq_nil_or_concat S with hnil | ⟨p, a, hs⟩
        · subst hnil; simp at hb3
        rw [List.concat_eq_append] at hs
        subst hs
        have e : (dps (p ++ [a])).take ((dps (p ++ [a])).length - 1) ++ [maxL ((dps (p ++ [a])).drop ((dps (p ++ [a])).length - 1)) + 1] = dps (p ++ [.un t.op a]) := by
          simp only [dps, List.map_append, List.map_cons, List.map_nil, List.length_append, List.length_map, List.length_cons, List.length_nil]
          rw [show p.length + (0 + 1) - 1 = (p.map fun t => (t.deep : Int)).length by simp, List.take_left' rfl, List.drop_left' rfl, maxL_one]
          simp [Tr.deep]
        rw [e] at h
        obtain ⟨S', a1, a2, a3, a4⟩ := tree_of ts _ sd h (fun x hx => hg x (List.mem_cons_of_mem _ hx)) (fun x hx => by
          rcases List.mem_append.1 hx with hx | hx
          · exact hS x (List.mem_append_left _ hx)
          · rw [List.mem_singleton.1 hx]; exact ⟨by omega, hS a (by simp)⟩)
        refine ⟨S', a1, a2, by rw [a3]; simp only [List.flatMap_append, List.flatMap_cons, List.flatMap_nil, Tr.terms, List.append_nil, List.append_assoc, List.cons_append, List.nil_append]; rw [← hinv], ?_⟩
        rw [← a4, List.foldl_cons]
        unfold tStep
        rw [if_neg h3, if_pos h5]
        simp [Tr.text]
      · have ho : ofN t.op = 2 := by unfold ofN; rw [if_neg h3, if_neg h5]
        rw [ho] at h hb3
        rcases List.eq_nil_or_concat S with hnil | ⟨q, b, hs⟩
        · subst hnil; simp at hb3
        rw [List.concat_eq_append] at hs
        subst hs
        rcases List.eq_nil_or_concat q with hnil | ⟨p, a, hs⟩
        · subst hnil; simp at hb3
        rw [List.concat_eq_append] at hs
        subst hs
        have e : (dps (p ++ [a] ++ [b])).take ((dps (p ++ [a] ++ [b])).length - 2) ++ [maxL ((dps (p ++ [a] ++ [b])).drop ((dps (p ++ [a] ++ [b])).length - 2)) + 1] = dps (p ++ [.bi t.op a b]) := by
          simp only [dps, List.map_append, List.map_cons, List.map_nil, List.length_append, List.length_map, List.length_cons, List.length_nil, List.append_assoc, List.cons_append, List.nil_append]
          rw [show p.length + (0 + 1 + 1) - 2 = (p.map fun t => (t.deep : Int)).length by simp, List.take_left' rfl, List.drop_left' rfl, maxL_two]
          simp [Tr.deep]
        rw [e] at h
        obtain ⟨S', a1, a2, a3, a4⟩ := tree_of ts _ sd h (fun x hx => hg x (List.mem_cons_of_mem _ hx)) (fun x hx => by
          rcases List.mem_append.1 hx with hx | hx
          · exact hS x (by simp [hx])
          · rw [List.mem_singleton.1 hx]; exact ⟨⟨by omega, by omega⟩, hS a (by simp), hS b (by simp)⟩)
        refine ⟨S', a1, a2, by rw [a3]; simp only [List.flatMap_append, List.flatMap_cons, List.flatMap_nil, Tr.terms, List.append_nil, List.append_assoc, List.cons_append, List.nil_append]; rw [← hinv], ?_⟩
        rw [← a4, List.foldl_cons]
        unfold tStep
        rw [if_neg h3, if_neg h5]
        simp [Tr.text]
theorem tree_one {ts : List TermD} {d : Int} (h : deepS [] ts = some [d]) (hg : ∀ t ∈ ts, GoodL t) : ∃ t : Tr, t.ok ∧ t.terms = ts ∧ textS ts = t.text ∧ (t.deep : Int) = d := by
  obtain ⟨S, a1, a2, a3, a4⟩ := tree_of ts [] [d] h hg (fun t ht => by cases ht)
  have hl : S.length = 1 := by
    have := congrArg List.length a1
    simpa using this
  obtain ⟨t, rfl⟩ := List.length_eq_one_iff.1 hl
  refine ⟨t, a2 t (by simp), by simpa using a3, ?_, ?_⟩
  · unfold textS
    rw [show ([] : List ByteArray) = ([] : List Tr).map Tr.text from rfl, a4]
    rfl
  · simpa using a1
end Go.Proofs.YtlpfdgkfdgehnaaDoor.AM
namespace Go.Proofs.YtlpfdgkfdgehnaaDoor.AM
open Go.RowKit
set_option linter.unusedSimpArgs false
set_option linter.unusedVariables false
set_option maxRecDepth 10000
set_option maxHeartbeats 0
inductive PR (α : Type) where
  | ok (a : α) (l : List TokD)
  | bad (p e : Int)
def PR.bind {α β : Type} (x : PR α) (f : α → List TokD → PR β) : PR β := match x with
  | .ok a l => f a l
  | .bad p e => .bad p e
def hdT (l : List TokD) : TokD := l.headD (endT 0)
def isM (ms : List ByteArray) (l : List TokD) : Bool := (hdT l).k == 3 && Lib.containsS ms (hdT l).t
def wrongP {α : Type} (e : Int) (l : List TokD) : PR α := .bad (hdT l).p e
def needP : List ByteArray → List TokD → PR Unit
  | [], l => .ok () l
  | m :: ms, l => if isM [m] l = true then needP ms l.tail else wrongP 23 l
def kindP (k : Int) (l : List TokD) : PR TokD := if (hdT l).k = k then .ok (hdT l) l.tail else wrongP 23 l
def maybeP (l : List TokD) : PR ByteArray := if (hdT l).k = 1 then .ok (hdT l).t l.tail else .ok eE l
abbrev colM : ByteArray := ⟨#[58]⟩
abbrev comM : ByteArray := ⟨#[44]⟩
abbrev starM : ByteArray := ⟨#[42]⟩
def namedP (l : List TokD) : PR ByteArray := if isM [colM] l = true then (kindP 1 l.tail).bind fun t l => .ok t.t l else .ok eE l
def numberP (l : List TokD) : PR Int := if (hdT l).k = 2 ∧ (hdT l).v.a.k = 2 ∧ 0 ≤ (hdT l).v.a.n then .ok (hdT l).v.a.n l.tail else wrongP 23 l
def listP {α : Type} (one : List TokD → PR α) : Nat → List α → List TokD → PR (List α)
  | 0, acc, l => .ok acc l
  | f + 1, acc, l => (one l).bind fun a l => if isM [comM] l = true then listP one f (acc ++ [a]) l.tail else .ok (acc ++ [a]) l
def propP (l : List TokD) : PR PropD := (kindP 1 l).bind fun t l => (needP [colM] l).bind fun _ l => (kindP 2 l).bind fun v l => .ok ⟨t.t, v.v⟩ l
abbrev lbrM : ByteArray := ⟨#[123]⟩
abbrev rbrM : ByteArray := ⟨#[125]⟩
def propsP (l : List TokD) : PR (List PropD) := if isM [lbrM] l = true then (listP propP l.length [] l.tail).bind fun ps l => (needP [rbrM] l).bind fun _ l => .ok ps l else .ok [] l
def spotP (l : List TokD) : PR SpotD := (needP [lparM] l).bind fun _ l => (maybeP l).bind fun v l => (namedP l).bind fun lb l => (propsP l).bind fun ps l => (needP [rparM] l).bind fun _ l => .ok ⟨v, lb, ps⟩ l
abbrev hbM : ByteArray := ⟨#[60, 45, 91]⟩
abbrev hfM : ByteArray := ⟨#[45, 91]⟩
abbrev ebM : ByteArray := ⟨#[93, 45]⟩
abbrev efM : ByteArray := ⟨#[93, 45, 62]⟩
abbrev dotsM : ByteArray := ⟨#[46, 46]⟩
abbrev dotM : ByteArray := ⟨#[46]⟩
def manyP (l : List TokD) : PR (Bool × Int × Int) := if isM [starM] l = true then (numberP l.tail).bind fun a l => (needP [dotsM] l).bind fun _ l => (numberP l).bind fun b l => .ok (true, a, b) l else .ok (false, 0, 0) l
def hopP (l : List TokD) : PR HopD := (maybeP l.tail).bind fun v l1 => (namedP l1).bind fun ty l1 => (manyP l1).bind fun m l1 =>
  (needP [if ((hdT l).t.toList == hbM.toList) = true then ebM else efM] l1).bind fun _ l1 => .ok ⟨v, ty, (hdT l).t.toList == hbM.toList, m.1, m.2.1, m.2.2⟩ l1
abbrev idM : ByteArray := ⟨#[105, 100]⟩
def openP {α : Type} (d : Int) (E : List TokD → PR α) (l : List TokD) : PR α := if isM [lparM] l = false then wrongP 23 l else if d = 64 then wrongP 24 l else (E l.tail).bind fun a l => (needP [rparM] l).bind fun _ l => .ok a l
abbrev TP := List TokD → PR (List TermD)
def atomP (d : Int) (E : TP) : TP := fun l =>
  if (hdT l).k = 2 then .ok [⟨1, eE, eE, (hdT l).v⟩] l.tail
  else if (hdT l).k = 1 then (needP [dotM] l.tail).bind fun _ l1 => (kindP 1 l1).bind fun t l1 => .ok [⟨2, (hdT l).t, t.t, nulV⟩] l1
  else if isM [idM] l = true then (needP [lparM] l.tail).bind fun _ l => (kindP 1 l).bind fun t l => (needP [rparM] l).bind fun _ l => .ok [⟨3, t.t, eE, nulV⟩] l
  else openP d E l
def chainP (op : List TokD → Option Int) (one : TP) : Nat → List TermD → TP
  | 0, acc, l => .ok acc l
  | f + 1, acc, l => match op l with
    | none => .ok acc l
    | some o => (one l.tail).bind fun b l => chainP op one f (acc ++ b ++ [opT o]) l
abbrev plusM : ByteArray := ⟨#[43]⟩
abbrev minusM : ByteArray := ⟨#[45]⟩
abbrev andM : ByteArray := ⟨#[97, 110, 100]⟩
abbrev orM : ByteArray := ⟨#[111, 114]⟩
def sumOp (l : List TokD) : Option Int := if isM [plusM, minusM] l = true then some (if ((hdT l).t.toList == minusM.toList) = true then 15 else 14) else none
def andOp (l : List TokD) : Option Int := if isM [andM] l = true then some 6 else none
def orOp (l : List TokD) : Option Int := if isM [orM] l = true then some 7 else none
def sumP (one : TP) : TP := fun l => (one l).bind fun a l => chainP sumOp one l.length a l
abbrev signsL : List ByteArray := [⟨#[61]⟩, ⟨#[60, 62]⟩, ⟨#[60]⟩, ⟨#[60, 61]⟩, ⟨#[62]⟩, ⟨#[62, 61]⟩]
def idxB (l : List ByteArray) (s : ByteArray) : Nat := l.findIdx fun x => x.toList == s.toList
def nullP (l : List TokD) : PR Unit := if (hdT l).k = 2 ∧ (hdT l).v.a.k = 0 then .ok () l.tail else wrongP 23 l
def testP (sum : TP) : TP := fun l => (sum l).bind fun a l =>
  if isM signsL l = true then (sum l.tail).bind fun b l1 => .ok (a ++ b ++ [opT (8 + (idxB signsL (hdT l).t : Int))]) l1
  else if isM [isM'] l = true then
    if isM [notM] l.tail = true then (nullP l.tail.tail).bind fun _ l => .ok (a ++ [opT 5] ++ [opT 4]) l
    else (nullP l.tail).bind fun _ l => .ok (a ++ [opT 5]) l
  else .ok a l
def notP (test : TP) : Nat → TP
  | 0, l => test l
  | f + 1, l => if isM [notM] l = true then (notP test f l.tail).bind fun a l => .ok (a ++ [opT 4]) l else test l
def andsP (not : TP) : TP := fun l => (not l).bind fun a l => chainP andOp not l.length a l
def orsP (ands : TP) : TP := fun l => (ands l).bind fun a l => chainP orOp ands l.length a l
def exprP : Nat → Int → TP
  | 0, _, l => wrongP 23 l
  | f + 1, d, l => orsP (andsP fun l => notP (testP (sumP (atomP d (exprP f (d + 1))))) l.length l) l
abbrev fnsL : List ByteArray := [⟨#[99, 111, 117, 110, 116]⟩, ⟨#[115, 117, 109]⟩, ⟨#[109, 105, 110]⟩, ⟨#[109, 97, 120]⟩]
def itemP (l : List TokD) : PR ItemD := if isM fnsL l = true then
    openP 0 (fun l1 => if idxB fnsL (hdT l).t = 0 ∧ isM [starM] l1 = true then .ok ⟨1, []⟩ l1.tail else (exprP l1.length 1 l1).bind fun ts l1 => .ok ⟨(idxB fnsL (hdT l).t : Int) + 1, ts⟩ l1) l.tail
  else (exprP (l.length + 1) 0 l).bind fun ts l => .ok ⟨0, ts⟩ l
abbrev ascM : ByteArray := ⟨#[97, 115, 99]⟩
abbrev descM : ByteArray := ⟨#[100, 101, 115, 99]⟩
def sortP (l : List TokD) : PR SortD := (numberP l).bind fun n l => if isM [ascM] l = true then .ok ⟨n, false⟩ l.tail else if isM [descM] l = true then .ok ⟨n, true⟩ l.tail else .ok ⟨n, false⟩ l
abbrev matchM : ByteArray := ⟨#[109, 97, 116, 99, 104]⟩
abbrev whereM : ByteArray := ⟨#[119, 104, 101, 114, 101]⟩
abbrev retM : ByteArray := ⟨#[114, 101, 116, 117, 114, 110]⟩
abbrev distM : ByteArray := ⟨#[100, 105, 115, 116, 105, 110, 99, 116]⟩
abbrev orderM : ByteArray := ⟨#[111, 114, 100, 101, 114]⟩
abbrev byM : ByteArray := ⟨#[98, 121]⟩
abbrev skipM : ByteArray := ⟨#[115, 107, 105, 112]⟩
abbrev limitM : ByteArray := ⟨#[108, 105, 109, 105, 116]⟩
def hopsP : Nat → List SpotD → List HopD → List TokD → PR (List SpotD × List HopD)
  | 0, ss, hs, l => .ok (ss, hs) l
  | f + 1, ss, hs, l => if isM [hfM, hbM] l = true then (hopP l).bind fun h l => (spotP l).bind fun s l => hopsP f (ss ++ [s]) (hs ++ [h]) l else .ok (ss, hs) l
def whereP (l : List TokD) : PR (List TermD) := if isM [whereM] l = true then exprP (l.length + 1) 0 l.tail else .ok [] l
def distP (l : List TokD) : PR Bool := if isM [distM] l = true then .ok true l.tail else .ok false l
def sortsP (l : List TokD) : PR (List SortD) := if isM [orderM] l = true then (needP [byM] l.tail).bind fun _ l => listP sortP (l.length + 1) [] l else .ok [] l
def atP (m : ByteArray) (l : List TokD) : PR Int := if isM [m] l = true then numberP l.tail else .ok (-1) l
def queryP (l : List TokD) : PR QueryD := (needP [matchM] l).bind fun _ l => (spotP l).bind fun s l => (hopsP l.length [s] [] l).bind fun sh l => (whereP l).bind fun wh l => (needP [retM] l).bind fun _ l => (distP l).bind fun ds l =>
  (listP itemP (l.length + 1) [] l).bind fun its l => (sortsP l).bind fun so l => (atP skipM l).bind fun sk l => (atP limitM l).bind fun li l => (kindP 4 l).bind fun _ l => .ok ⟨sh.1, sh.2, wh, its, ds, so, sk, li⟩ l
end Go.Proofs.YtlpfdgkfdgehnaaDoor.AM
namespace Go.Proofs.YtlpfdgkfdgehnaaDoor.AM
open Go.RowKit
set_option linter.unusedSimpArgs false
set_option linter.unusedVariables false
set_option maxRecDepth 10000
set_option maxHeartbeats 0
def joinK : List (List TokD) → List TokD
  | [] => []
  | [x] => x
  | x :: y :: r => x ++ tk comM :: joinK (y :: r)
theorem LT_join {α : Type} (f : α → ByteArray) (g : α → List TokD) : ∀ (xs : List α), (∀ x ∈ xs, ∀ r, sf r = true → LT (f x).data.toList r (g x)) → ∀ r, sf r = true → LT (joinB (xs.map f) sepB).data.toList r (joinK (xs.map g))
  | [], _, r, hr => by
    rw [show (joinB (([] : List α).map f) sepB).data.toList = [] from by simp [joinB, Lib.join_nil]]
    exact LT.nil r
  | [x], h, r, hr => by
    rw [show (joinB ([x].map f) sepB).data.toList = (f x).data.toList from by simp [joinB, Lib.join_one]]
    exact h x (by simp) r hr
  | x :: y :: l, h, r, hr => by
    have ih := LT_join f g (y :: l) (fun z hz => h z (List.mem_cons_of_mem _ hz)) r hr
    have e : (joinB ((x :: y :: l).map f) sepB).data.toList = (f x).data.toList ++ ([44] ++ ([32] ++ (joinB ((y :: l).map f) sepB).data.toList)) := by
      simp only [joinB, List.map_cons, join_two]
      simp
    rw [e]
    exact LT.cat (u' := g x ++ ([tk comM] ++ ([] ++ joinK ((y :: l).map g)))) (LT.app (h x (by simp) _ rfl) (LT.app (LT_comma _) (LT.app (LT.blank _) ih))) rfl (by simp [joinK])
structure GoodP (p : PropD) : Prop where
  name : isName p.name = true
  plain : plainV p.v = true
  n : i64B p.v.a.n
  f : p.v.a.f < 18446744073709551616
def mayK (s : ByteArray) : List TokD := if emB s = true then [] else [nm s]
def labK (s : ByteArray) : List TokD := if emB s = true then [] else [tk colM, nm s]
def propK (p : PropD) : List TokD := [nm p.name, tk colM, lt p.v]
def propsK (l : List PropD) : List TokD := if l.length = 0 then [] else tk lbrM :: (joinK (l.map propK) ++ [tk rbrM])
def spotK (s : SpotD) : List TokD := tk lparM :: (mayK s.var ++ (labK s.label ++ (propsK s.props ++ [tk rparM])))
structure GoodS (s : SpotD) : Prop where
  var : maybeB s.var = true
  label : maybeB s.label = true
  props : ∀ p ∈ s.props, GoodP p
theorem may_name {s : ByteArray} (h : maybeB s = true) (he : emB s = false) : isName s = true := by
  unfold maybeB at h
  rw [Bool.or_eq_true] at h
  rcases h with h | h
  · rw [show (s.toList == eE.toList) = emB s from rfl, he] at h; cases h
  · exact h
theorem em_data {s : ByteArray} (h : emB s = true) : s.data.toList = [] := by rw [emp_of h]
theorem LT_may {s : ByteArray} (h : maybeB s = true) {r : List UInt8} (hr : sf r = true) : LT s.data.toList r (mayK s) := by
  unfold mayK
  cases he : emB s with
  | true => rw [em_data he, if_pos rfl]; exact LT.nil r
  | false => rw [if_neg (by simp)]; exact LT_name (may_name h he) hr
theorem LT_head {v l : ByteArray} (hv : maybeB v = true) (hl : maybeB l = true) {r : List UInt8} (hr : sf r = true) : LT (if emB l = true then v else v ++ ((⟨#[58]⟩ : ByteArray) ++ l)).data.toList r (mayK v ++ labK l) := by
  unfold labK
  cases he : emB l with
  | true => rw [if_pos rfl, if_pos rfl, List.append_nil]; exact LT_may hv hr
  | false =>
    rw [if_neg (by simp), if_neg (by simp), data_app, data_app]
    exact LT.app (LT_may hv rfl) (LT.app (u1 := [tk colM]) (LT_colon _) (LT_name (may_name hl he) hr))
theorem LT_prop {p : PropD} (h : GoodP p) {r : List UInt8} (hr : sf r = true) : LT (propT p).data.toList r (propK p) := by
  unfold propT
  rw [data_app, data_app]
  exact LT.cat (s' := p.name.data.toList ++ ([58] ++ ([32] ++ (printV p.v).data.toList))) (u' := [nm p.name] ++ ([tk colM] ++ ([] ++ [lt p.v]))) (LT.app (LT_name h.name rfl) (LT.app (LT_colon _) (LT.app (LT.blank _) (LT_lit h.plain h.n h.f hr)))) (by simp) (by simp [propK])
theorem LT_spot {s : SpotD} (h : GoodS s) (r : List UInt8) : LT (spotT s).data.toList r (spotK s) := by
  have hh : ∀ r', sf r' = true → LT (headS s).data.toList r' (mayK s.var ++ labK s.label) := fun r' hr' => LT_head h.var h.label hr'
  unfold spotT
  rw [data_app, data_app]
  unfold bodyS spotK propsK
  by_cases h0 : s.props.length = 0
  · rw [if_pos h0, if_pos h0]
    exact LT.cat (s' := [40] ++ ((headS s).data.toList ++ [41])) (u' := [tk lparM] ++ ((mayK s.var ++ labK s.label) ++ [tk rparM])) (LT.app (LT_lpar _) (LT.app (hh _ rfl) (LT_rpar r))) (by simp) (by simp)
  · rw [if_neg h0, if_neg h0]
    have hj := LT_join propT propK s.props (fun p hp r' hr' => LT_prop (h.props p hp) hr')
    cases he : emB (headS s) with
    | true =>
      have hnil : mayK s.var ++ labK s.label = [] := by
        have : headS s = eE := emp_of he
        unfold headS at this
        cases hl : emB s.label with
        | true =>
          rw [hl, if_pos rfl] at this
          unfold mayK labK
          rw [this, hl, if_pos rfl, if_pos (by simp [emB])]
          rfl
        | false =>
          rw [hl, if_neg (by simp)] at this
          have := congrArg ByteArray.size this
          rw [ByteArray.size_append, ByteArray.size_append, show (⟨#[58]⟩ : ByteArray).size = 1 from rfl, show eE.size = 0 from rfl] at this
          omega
      rw [if_pos rfl, data_app, data_app, data_app, em_data he]
      exact LT.cat (s' := [40] ++ ([123] ++ ((joinB (s.props.map propT) sepB).data.toList ++ ([125] ++ [41])))) (u' := [tk lparM] ++ ([tk lbrM] ++ (joinK (s.props.map propK) ++ ([tk rbrM] ++ [tk rparM])))) (LT.app (LT_lpar _) (LT.app (LT_lbr _) (LT.app (hj _ rfl) (LT.app (LT_rbr _) (LT_rpar r))))) (by simp) (by rw [← List.append_assoc (mayK s.var), hnil]; simp)
    | false =>
      rw [if_neg (by simp), data_app, data_app, data_app, data_app]
      exact LT.cat (s' := [40] ++ ((headS s).data.toList ++ ([32] ++ ([123] ++ ((joinB (s.props.map propT) sepB).data.toList ++ ([125] ++ [41])))))) (u' := [tk lparM] ++ ((mayK s.var ++ labK s.label) ++ ([] ++ ([tk lbrM] ++ (joinK (s.props.map propK) ++ ([tk rbrM] ++ [tk rparM])))))) (LT.app (LT_lpar _) (LT.app (hh _ rfl) (LT.app (LT.blank _) (LT.app (LT_lbr _) (LT.app (hj _ rfl) (LT.app (LT_rbr _) (LT_rpar r))))))) (by simp) (by simp)
def manyK (h : HopD) : List TokD := if h.many = true then [tk starM, lt (numV h.least), tk dotsM, lt (numV h.most)] else []
def hopK (h : HopD) : List TokD := tk (if h.back = true then hbM else hfM) :: (mayK h.var ++ (labK h.type ++ (manyK h ++ [tk (if h.back = true then ebM else efM)])))
structure GoodH (h : HopD) : Prop where
  var : maybeB h.var = true
  type : maybeB h.type = true
  least : i64B h.least
  most : i64B h.most
theorem LT_hop {h : HopD} (g : GoodH h) (r : List UInt8) : LT (hopT h).data.toList (40 :: r) (hopK h) := by
  have hh : ∀ r', sf r' = true → LT (headH h).data.toList r' (mayK h.var ++ labK h.type) := fun r' hr' => LT_head g.var g.type hr'
  have hb : ∀ r', sf r' = true → LT (bodyH h).data.toList r' (mayK h.var ++ (labK h.type ++ manyK h)) := fun r' hr' => by
    unfold bodyH manyK
    cases hm : h.many with
    | true =>
      rw [if_pos rfl, if_pos rfl, data_app, data_app, data_app, data_app]
      exact LT.cat (s' := (headH h).data.toList ++ ([42] ++ (Lib.itoa h.least ++ ([46, 46] ++ Lib.itoa h.most)))) (u' := (mayK h.var ++ labK h.type) ++ ([tk starM] ++ ([lt (numV h.least)] ++ ([tk dotsM] ++ [lt (numV h.most)])))) (LT.app (hh _ rfl) (LT.app (LT_star _) (LT.app (LT_num g.least rfl) (LT.app (LT_dots _) (LT_num g.most hr'))))) (by simp [itB]) (by simp)
    | false =>
      rw [if_neg (by simp), if_neg (by simp), List.append_nil]
      exact hh r' hr'
  unfold hopT hopK
  cases hbk : h.back with
  | true =>
    rw [if_pos rfl, if_pos rfl, if_pos rfl, data_app, data_app]
    exact LT.cat (s' := [60, 45, 91] ++ ((bodyH h).data.toList ++ [93, 45])) (u' := [tk hbM] ++ ((mayK h.var ++ (labK h.type ++ manyK h)) ++ [tk ebM])) (LT.app (LT_hopb _) (LT.app (hb _ rfl) (LT_endb r))) (by simp) (by simp)
  | false =>
    rw [if_neg (by simp), if_neg (by simp), if_neg (by simp), data_app, data_app]
    exact LT.cat (s' := [45, 91] ++ ((bodyH h).data.toList ++ [93, 45, 62])) (u' := [tk hfM] ++ ((mayK h.var ++ (labK h.type ++ manyK h)) ++ [tk efM])) (LT.app (LT_hopf _) (LT.app (hb _ rfl) (LT_endf _))) (by simp) (by simp)
def IsTr (ts : List TermD) (t : Tr) : Prop := t.ok ∧ t.terms = ts ∧ textS ts = t.text ∧ t.deep ≤ 64
open Classical in
noncomputable def trOf (ts : List TermD) : Tr := if h : ∃ t, IsTr ts t then h.choose else .lf (opT 1)
structure GoodTs (ts : List TermD) : Prop where
  terms : termsV ts = true
  n : ∀ t ∈ ts, i64B t.v.a.n
  f : ∀ t ∈ ts, t.v.a.f < 18446744073709551616
theorem tr_spec {ts : List TermD} (h : GoodTs ts) : IsTr ts (trOf ts) := by
  have ht := h.terms
  obtain ⟨hl, d, hd⟩ := deep_some ht
  unfold termsV at ht
  rw [Bool.and_eq_true] at ht
  have hg : ∀ t ∈ ts, GoodL t := fun t hm => ⟨List.all_eq_true.1 ht.1 t hm, h.n t hm, h.f t hm⟩
  have hv : deepV ts = d := by
    unfold deepV
    rw [if_neg (by omega), hd]
  rw [hv] at ht
  simp only [Bool.and_eq_true, decide_eq_true_eq] at ht
  obtain ⟨t, h1, h2, h3, h4⟩ := tree_one hd hg
  have ex : ∃ t, IsTr ts t := ⟨t, h1, h2, h3, by omega⟩
  unfold trOf
  rw [dif_pos ex]
  exact ex.choose_spec
theorem LT_terms {ts : List TermD} (h : GoodTs ts) {r : List UInt8} (hr : sf r = true) : LT (textS ts).data.toList r (trOf ts).toks := by
  obtain ⟨h1, h2, h3, h4⟩ := tr_spec h
  rw [h3]
  exact LT_tr _ h1 r hr
structure GoodI (x : ItemD) : Prop where
  lo : 0 ≤ x.fn
  hi : x.fn ≤ 4
  terms : x.terms.length ≠ 0 → GoodTs x.terms
  none : x.terms.length = 0 → x.fn = 1
def fnM (n : Int) : ByteArray := if n = 1 then ⟨#[99, 111, 117, 110, 116]⟩ else if n = 2 then ⟨#[115, 117, 109]⟩ else if n = 3 then ⟨#[109, 105, 110]⟩ else ⟨#[109, 97, 120]⟩
noncomputable def inK (ts : List TermD) : List TokD := if ts.length = 0 then [tk starM] else (trOf ts).toks
noncomputable def itemK (x : ItemD) : List TokD := if x.fn = 0 then (trOf x.terms).toks else tk (fnM x.fn) :: tk lparM :: (inK x.terms ++ [tk rparM])
theorem LT_in {x : ItemD} (h : GoodI x) {r : List UInt8} (hr : sf r = true) : LT (inT x.terms).data.toList r (inK x.terms) := by
  unfold inT inK
  by_cases h0 : x.terms.length = 0
  · rw [if_pos h0, if_pos h0]; exact LT_star r
  · rw [if_neg h0, if_neg h0]; exact LT_terms (h.terms h0) hr
theorem LT_item {x : ItemD} (h : GoodI x) {r : List UInt8} (hr : sf r = true) : LT (itemT x).data.toList r (itemK x) := by
  have h1 := h.lo
  have h2 := h.hi
  have hi : ∀ r', sf r' = true → LT (inT x.terms).data.toList r' (inK x.terms) := fun r' hr' => LT_in h hr'
  have key : ∀ (w : ByteArray), w ∈ wordsL → ¬ (w = nullB ∨ w = trueB ∨ w = falseB) → LT (w.data.toList ++ ([40] ++ ((inT x.terms).data.toList ++ [41]))) r (tk w :: tk lparM :: (inK x.terms ++ [tk rparM])) := fun w hw h0 =>
    LT.cat (u' := [tk w] ++ ([tk lparM] ++ (inK x.terms ++ [tk rparM]))) (LT.app (LT_word hw h0 rfl) (LT.app (LT_lpar _) (LT.app (hi _ rfl) (LT_rpar r)))) rfl (by simp)
  have hc : x.fn = 0 ∨ x.fn = 1 ∨ x.fn = 2 ∨ x.fn = 3 ∨ x.fn = 4 := by omega
  unfold itemT itemK fnM
  rcases hc with e | e | e | e | e
  · have h0 : x.terms.length ≠ 0 := fun h0 => by have := h.none h0; omega
    rw [e]
    simp only [Int.reduceEq, ↓reduceIte]
    have := LT_terms (h.terms h0) hr
    unfold inT
    rw [if_neg h0]
    exact this
  · rw [e]
    simp only [Int.reduceEq, ↓reduceIte]
    rw [data_app, data_app]
    exact LT.cat (key ⟨#[99, 111, 117, 110, 116]⟩ (inW (by decide)) (neW (by decide))) (by simp) rfl
  · rw [e]
    simp only [Int.reduceEq, ↓reduceIte]
    rw [data_app, data_app]
    exact LT.cat (key ⟨#[115, 117, 109]⟩ (inW (by decide)) (neW (by decide))) (by simp) rfl
  · rw [e]
    simp only [Int.reduceEq, ↓reduceIte]
    rw [data_app, data_app]
    exact LT.cat (key ⟨#[109, 105, 110]⟩ (inW (by decide)) (neW (by decide))) (by simp) rfl
  · rw [e]
    simp only [Int.reduceEq, ↓reduceIte]
    rw [data_app, data_app]
    exact LT.cat (key ⟨#[109, 97, 120]⟩ (inW (by decide)) (neW (by decide))) (by simp) rfl
def sortK (x : SortD) : List TokD := if x.desc = true then [lt (numV x.item), tk descM] else [lt (numV x.item)]
theorem LT_sort {x : SortD} (h : i64B x.item) {r : List UInt8} (hr : sf r = true) : LT (sortT x).data.toList r (sortK x) := by
  unfold sortT sortK
  cases hd : x.desc with
  | true =>
    rw [if_pos rfl, if_pos rfl, data_app]
    exact LT.cat (s' := Lib.itoa x.item ++ ([32] ++ [100, 101, 115, 99])) (u' := [lt (numV x.item)] ++ ([] ++ [tk descM])) (LT.app (LT_num h rfl) (LT.app (LT.blank _) (LT_word (w := descM) (inW (by decide)) (neW (by decide)) hr))) (by simp [itB]) (by simp)
  | false =>
    rw [if_neg (by simp), if_neg (by simp)]
    exact LT_num h hr
structure GoodQ (q : QueryD) : Prop where
  nspots : 1 ≤ q.spots.length
  spots : ∀ s ∈ q.spots, GoodS s
  nhops : q.hops.length + 1 = q.spots.length
  hops : ∀ h ∈ q.hops, GoodH h
  wh : q.wh.length ≠ 0 → GoodTs q.wh
  nitems : 1 ≤ q.items.length
  items : ∀ x ∈ q.items, GoodI x
  sorts : ∀ x ∈ q.sorts, i64B x.item ∧ 0 ≤ x.item
  skip : i64B q.skip ∧ -1 ≤ q.skip
  limit : i64B q.limit ∧ -1 ≤ q.limit
def hopKAt (q : QueryD) (k : Nat) : List TokD := match q.hops[k]? with
  | some h => hopK h
  | none => []
def spotKAt (q : QueryD) (k : Nat) : List TokD := match q.spots[k]? with
  | some s => spotK s
  | none => []
def spotsK (q : QueryD) : Nat → List TokD
  | 0 => [tk matchM]
  | k + 1 => (if k = 0 then spotsK q k else spotsK q k ++ hopKAt q (k - 1)) ++ spotKAt q k
theorem LT_spots {q : QueryD} (h : GoodQ q) : ∀ (k : Nat), k ≤ q.spots.length → ∀ r, LT (spotsT q k).data.toList r (spotsK q k)
  | 0, _, r => LT.cat (s' := [109, 97, 116, 99, 104] ++ [32]) (u' := [tk matchM] ++ []) (LT.app (LT_word (w := matchM) (inW (by decide)) (neW (by decide)) rfl) (LT.blank r)) rfl rfl
  | k + 1, hk, r => by
    have ih := LT_spots h k (by omega)
    have hlt : k < q.spots.length := by omega
    have hs := LT_spot (h.spots _ (List.getElem_mem hlt)) r
    have e1 : spotAt q k = spotT q.spots[k] := by unfold spotAt; rw [List.getElem?_eq_getElem hlt]
    have e2 : spotKAt q k = spotK q.spots[k] := by unfold spotKAt; rw [List.getElem?_eq_getElem hlt]
    have e40 : ∃ l, (spotT q.spots[k]).data.toList = 40 :: l := by
      unfold spotT
      rw [data_app, data_app]
      exact ⟨_, rfl⟩
    unfold spotsT spotsK
    rw [e1, e2]
    by_cases h0 : k = 0
    · rw [if_pos h0, if_pos h0, data_app]
      exact LT.app (ih _) hs
    · have hlh : k - 1 < q.hops.length := by have := h.nhops; omega
      have e3 : hopAt q (k - 1) = hopT q.hops[k - 1] := by unfold hopAt; rw [List.getElem?_eq_getElem hlh]
      have e4 : hopKAt q (k - 1) = hopK q.hops[k - 1] := by unfold hopKAt; rw [List.getElem?_eq_getElem hlh]
      rw [if_neg h0, if_neg h0, e3, e4, data_app, data_app, List.append_assoc, List.append_assoc]
      obtain ⟨l, hl⟩ := e40
      have hh := LT_hop (h.hops _ (List.getElem_mem hlh)) (l ++ r)
      refine LT.app (ih _) (LT.app ?_ hs)
      rw [hl]
      exact hh
noncomputable def whK (q : QueryD) : List TokD := if q.wh.length = 0 then [] else tk whereM :: (trOf q.wh).toks
def disK (q : QueryD) : List TokD := if q.distinct = true then [tk distM] else []
def ordK (q : QueryD) : List TokD := if q.sorts.length = 0 then [] else tk orderM :: tk byM :: joinK (q.sorts.map sortK)
def atK (m : ByteArray) (n : Int) : List TokD := if 0 ≤ n then [tk m, lt (numV n)] else []
noncomputable def queryK (q : QueryD) : List TokD := spotsK q q.spots.length ++ (whK q ++ ([tk retM] ++ (disK q ++ (joinK (q.items.map itemK) ++ (ordK q ++ (atK skipM q.skip ++ atK limitM q.limit))))))
theorem LT_num2 {w : ByteArray} {m : ByteArray} (hm : m ∈ wordsL) (h0 : ¬ (m = nullB ∨ m = trueB ∨ m = falseB)) (hw : w.data.toList = [32] ++ (m.data.toList ++ [32])) {n : Int} (hn : i64B n) {s : ByteArray} {us : List TokD} (hs : ∀ r, sf r = true → LT s.data.toList r us) : ∀ r, sf r = true → LT (numT w n s).data.toList r (us ++ atK m n) := fun r hr => by
  unfold numT atK
  by_cases h : 0 ≤ n
  · rw [if_pos h, if_pos h, data_app, data_app, hw]
    exact LT.cat (s' := s.data.toList ++ ([32] ++ (m.data.toList ++ ([32] ++ Lib.itoa n)))) (u' := us ++ ([] ++ ([tk m] ++ ([] ++ [lt (numV n)])))) (LT.app (hs _ rfl) (LT.app (LT.blank _) (LT.app (LT_word hm h0 rfl) (LT.app (LT.blank _) (LT_num hn hr))))) (by simp [itB]) (by simp)
  · rw [if_neg h, if_neg h, List.append_nil]
    exact hs r hr
theorem LT_query {q : QueryD} (h : GoodQ q) : ∀ r, sf r = true → LT (queryT q).data.toList r (queryK q) := by
  have h1 := LT_spots h q.spots.length (Nat.le_refl _)
  have h2 : ∀ r, sf r = true → LT (whT q).data.toList r (spotsK q q.spots.length ++ whK q) := fun r hr => by
    unfold whT whK
    by_cases h0 : q.wh.length = 0
    · rw [if_pos h0, if_pos h0, List.append_nil]; exact h1 r
    · rw [if_neg h0, if_neg h0, data_app, data_app]
      exact LT.cat (s' := (spotsT q q.spots.length).data.toList ++ ([32] ++ ([119, 104, 101, 114, 101] ++ ([32] ++ (textS q.wh).data.toList)))) (u' := spotsK q q.spots.length ++ ([] ++ ([tk whereM] ++ ([] ++ (trOf q.wh).toks)))) (LT.app (h1 _) (LT.app (LT.blank _) (LT.app (LT_word (w := whereM) (inW (by decide)) (neW (by decide)) rfl) (LT.app (LT.blank _) (LT_terms (h.wh h0) hr))))) (by simp) (by simp)
  have h3 : ∀ r, LT (retT q).data.toList r (spotsK q q.spots.length ++ whK q ++ [tk retM]) := fun r => by
    unfold retT
    rw [data_app]
    exact LT.cat (s' := (whT q).data.toList ++ ([32] ++ ([114, 101, 116, 117, 114, 110] ++ [32]))) (u' := (spotsK q q.spots.length ++ whK q) ++ ([] ++ ([tk retM] ++ []))) (LT.app (h2 _ rfl) (LT.app (LT.blank _) (LT.app (LT_word (w := retM) (inW (by decide)) (neW (by decide)) rfl) (LT.blank r)))) rfl (by simp)
  have h4 : ∀ r, LT (disT q).data.toList r (spotsK q q.spots.length ++ whK q ++ [tk retM] ++ disK q) := fun r => by
    unfold disT disK
    cases hd : q.distinct with
    | true =>
      rw [if_pos rfl, if_pos rfl, data_app]
      exact LT.cat (s' := (retT q).data.toList ++ ([100, 105, 115, 116, 105, 110, 99, 116] ++ [32])) (u' := (spotsK q q.spots.length ++ whK q ++ [tk retM]) ++ ([tk distM] ++ [])) (LT.app (h3 _) (LT.app (LT_word (w := distM) (inW (by decide)) (neW (by decide)) rfl) (LT.blank r))) rfl (by simp)
    | false =>
      rw [if_neg (by simp), if_neg (by simp), List.append_nil]
      exact h3 r
  have h5 : ∀ r, sf r = true → LT (itsT q).data.toList r (spotsK q q.spots.length ++ whK q ++ [tk retM] ++ disK q ++ joinK (q.items.map itemK)) := fun r hr => by
    unfold itsT
    rw [data_app]
    exact LT.app (h4 _) (LT_join itemT itemK q.items (fun x hx r' hr' => LT_item (h.items x hx) hr') r hr)
  have h6 : ∀ r, sf r = true → LT (ordT q).data.toList r (spotsK q q.spots.length ++ whK q ++ [tk retM] ++ disK q ++ joinK (q.items.map itemK) ++ ordK q) := fun r hr => by
    unfold ordT ordK
    by_cases h0 : q.sorts.length = 0
    · rw [if_pos h0, if_pos h0, List.append_nil]; exact h5 r hr
    · rw [if_neg h0, if_neg h0, data_app, data_app]
      have hj := LT_join sortT sortK q.sorts (fun x hx r' hr' => LT_sort (h.sorts x hx).1 hr') r hr
      exact LT.cat (s' := (itsT q).data.toList ++ ([32] ++ ([111, 114, 100, 101, 114] ++ ([32] ++ ([98, 121] ++ ([32] ++ (joinB (q.sorts.map sortT) sepB).data.toList)))))) (u' := (spotsK q q.spots.length ++ whK q ++ [tk retM] ++ disK q ++ joinK (q.items.map itemK)) ++ ([] ++ ([tk orderM] ++ ([] ++ ([tk byM] ++ ([] ++ joinK (q.sorts.map sortK))))))) (LT.app (h5 _ rfl) (LT.app (LT.blank _) (LT.app (LT_word (w := orderM) (inW (by decide)) (neW (by decide)) rfl) (LT.app (LT.blank _) (LT.app (LT_word (w := byM) (inW (by decide)) (neW (by decide)) rfl) (LT.app (LT.blank _) hj)))))) (by simp) (by simp)
  have h7 := LT_num2 (w := skipW) (m := skipM) (inW (by decide)) (neW (by decide)) rfl h.skip.1 h6
  have h8 := LT_num2 (w := limitW) (m := limitM) (inW (by decide)) (neW (by decide)) rfl h.limit.1 h7
  intro r hr
  exact LT.cat (h8 r hr) rfl (by unfold queryK; simp)
theorem good_of {q : QueryD} (h : LawQ q) (hf : fineQ q = true) (hfl : ∀ s ∈ q.spots, ∀ p ∈ s.props, p.v.a.f < 18446744073709551616) (hfw : ∀ t ∈ q.wh, t.v.a.f < 18446744073709551616) (hfi : ∀ x ∈ q.items, ∀ t ∈ x.terms, t.v.a.f < 18446744073709551616) : GoodQ q := by
  unfold fineQ at hf
  simp only [Bool.and_eq_true, Bool.or_eq_true, decide_eq_true_eq, beq_iff_eq] at hf
  obtain ⟨⟨⟨⟨⟨⟨⟨⟨⟨⟨a1, a2⟩, a3⟩, a4⟩, a5⟩, a6⟩, a7⟩, a8⟩, a9⟩, a10⟩, a11⟩ := hf
  refine ⟨by omega, fun s hs => ?_, by omega, fun x hx => ?_, fun h0 => ?_, by omega, fun x hx => ?_, fun x hx => ?_, ⟨h.skip, by omega⟩, ⟨h.limit, by omega⟩⟩
  · have hr := List.all_eq_true.1 a7 s hs
    have hl := h.spots s hs
    unfold rightS at hr
    simp only [Bool.and_eq_true, decide_eq_true_eq] at hr
    refine ⟨hr.2.1.1, hr.2.1.2, fun p hp => ?_⟩
    have hlp := hl.props p hp
    have hfp := hfl s hs p hp
    obtain ⟨i, hi, rfl⟩ := List.mem_iff_getElem.1 hp
    have := List.all_eq_true.1 hr.1 i (List.mem_range.2 hi)
    unfold propOk at this
    rw [List.getElem?_eq_getElem hi] at this
    simp only [Bool.and_eq_true] at this
    exact ⟨this.1, this.2.1, hlp.n, hfp⟩
  · have hr := List.all_eq_true.1 a8 x hx
    have ho := h.hops x hx
    unfold rightH at hr
    rw [Bool.and_eq_true, Bool.and_eq_true] at hr
    exact ⟨hr.1.1, hr.1.2, ho.least, ho.most⟩
  · rcases a9 with a | a
    · omega
    · exact ⟨a, fun t ht => (h.wh.terms t ht).2.2.2, hfw⟩
  · have hr := List.all_eq_true.1 a10 x hx
    unfold rightI at hr
    simp only [Bool.and_eq_true, Bool.or_eq_true, decide_eq_true_eq, beq_iff_eq] at hr
    refine ⟨hr.1.1, hr.1.2, fun h0 => ?_, fun h0 => ?_⟩
    · rcases hr.2 with a | a
      · omega
      · exact ⟨a, fun t ht => ((h.items x hx).terms t ht).2.2.2, hfi x hx⟩
    · rcases hr.2 with a | a
      · exact a.1
      · exfalso
        rw [List.length_eq_zero_iff.1 h0] at a
        exact absurd a (by decide)
  · have hr := List.all_eq_true.1 a11 x hx
    unfold rightO at hr
    simp only [Bool.and_eq_true, decide_eq_true_eq] at hr
    exact ⟨h.sorts x hx, by omega⟩
end Go.Proofs.YtlpfdgkfdgehnaaDoor.AM
namespace Go.Proofs.YtlpfdgkfdgehnaaDoor.AM
open Go.RowKit
set_option linter.unusedSimpArgs false
set_option linter.unusedVariables false
set_option maxRecDepth 10000
set_option maxHeartbeats 0
def At (l us : List TokD) : Prop := l.map TokD.core = us
theorem At.cons {l : List TokD} {u : TokD} {us : List TokD} (h : At l (u :: us)) : ∃ p l', l = { u with p := p } :: l' ∧ At l' us := by
  cases l with
  | nil => cases h
  | cons t l =>
    have h' : t.core :: l.map TokD.core = u :: us := h
    obtain ⟨k, x, v, p⟩ := t
    have h1 := (List.cons.inj h').1
    have h2 := (List.cons.inj h').2
    refine ⟨p, l, ?_, h2⟩
    rw [← h1]
    rfl
theorem At.hd {l : List TokD} {u : TokD} {us : List TokD} (h : At l (u :: us)) : (hdT l).k = u.k ∧ (hdT l).t = u.t ∧ (hdT l).v = u.v ∧ At l.tail us ∧ 1 ≤ l.length := by
  obtain ⟨p, l', rfl, h'⟩ := h.cons
  exact ⟨rfl, rfl, rfl, h', by simp⟩
theorem At.im {l : List TokD} {u : TokD} {us : List TokD} (h : At l (u :: us)) (ms : List ByteArray) : isM ms l = (u.k == 3 && Lib.containsS ms u.t) := by
  unfold isM
  rw [h.hd.1, h.hd.2.1]
theorem At.len {l us : List TokD} (h : At l us) : l.length = us.length := by
  have := congrArg List.length (show l.map TokD.core = us from h)
  rw [List.length_map] at this
  exact this
theorem contains_one (m s : ByteArray) : Lib.containsS [m] s = (m.toList == s.toList) := by
  rw [Bool.eq_iff_iff, Lib.containsS_iff, List.mem_singleton, beq_iff_eq]
  constructor
  · intro h; rw [h]
  · intro h
    rw [ByteArray.toList_eq, ByteArray.toList_eq] at h
    exact (ByteArray.ext (Array.ext' h)).symm
theorem need1 {l us : List TokD} (m : ByteArray) (h : At l (tk m :: us)) : ∃ l', needP [m] l = .ok () l' ∧ At l' us := by
  refine ⟨l.tail, ?_, h.hd.2.2.2.1⟩
  unfold needP
  rw [h.im, if_pos (by rw [contains_one]; simp)]
  rfl
theorem kind1 {l us : List TokD} {s : ByteArray} (h : At l (nm s :: us)) : ∃ t l', kindP 1 l = .ok t l' ∧ t.t = s ∧ At l' us := by
  refine ⟨hdT l, l.tail, ?_, h.hd.2.1, h.hd.2.2.2.1⟩
  unfold kindP
  rw [if_pos h.hd.1]
theorem kind2 {l us : List TokD} {v : ValD} (h : At l (lt v :: us)) : ∃ t l', kindP 2 l = .ok t l' ∧ t.v = v ∧ At l' us := by
  refine ⟨hdT l, l.tail, ?_, h.hd.2.2.1, h.hd.2.2.2.1⟩
  unfold kindP
  rw [if_pos h.hd.1]
theorem num1 {l us : List TokD} {n : Int} (h0 : 0 ≤ n) (h : At l (lt (numV n) :: us)) : ∃ l', numberP l = .ok n l' ∧ At l' us := by
  refine ⟨l.tail, ?_, h.hd.2.2.2.1⟩
  unfold numberP
  rw [h.hd.1, h.hd.2.2.1, if_pos ⟨rfl, rfl, h0⟩]
def noName (us : List TokD) : Prop := ∃ u r, us = u :: r ∧ u.k ≠ 1
theorem may1 {l us : List TokD} {s : ByteArray} (h : At l (mayK s ++ us)) (hn : noName us) : ∃ l', maybeP l = .ok s l' ∧ At l' us := by
  unfold maybeP
  cases he : emB s with
  | true =>
    obtain ⟨u, r, rfl, hu⟩ := hn
    have e : mayK s = [] := by unfold mayK; rw [if_pos he]
    rw [e, List.nil_append] at h
    rw [if_neg (by rw [h.hd.1]; exact hu), emp_of he]
    exact ⟨l, rfl, h⟩
  | false =>
    have e : mayK s = [nm s] := by unfold mayK; rw [if_neg (by rw [he]; simp)]
    rw [e] at h
    have h : At l (nm s :: us) := h
    rw [if_pos h.hd.1, h.hd.2.1]
    exact ⟨l.tail, rfl, h.hd.2.2.2.1⟩
def noM (ms : List ByteArray) (us : List TokD) : Prop := ∃ u r, us = u :: r ∧ (u.k == 3 && Lib.containsS ms u.t) = false
theorem noM.is {ms : List ByteArray} {l us : List TokD} (h : noM ms us) (ha : At l us) : isM ms l = false := by
  obtain ⟨u, r, rfl, hu⟩ := h
  rw [ha.im, hu]
theorem named1 {l us : List TokD} {s : ByteArray} (h : At l (labK s ++ us)) (hn : noM [colM] us) : ∃ l', namedP l = .ok s l' ∧ At l' us := by
  unfold namedP
  cases he : emB s with
  | true =>
    have e : labK s = [] := by unfold labK; rw [if_pos he]
    rw [e, List.nil_append] at h
    rw [hn.is h, if_neg (by simp), emp_of he]
    exact ⟨l, rfl, h⟩
  | false =>
    have e : labK s = [tk colM, nm s] := by unfold labK; rw [if_neg (by rw [he]; simp)]
    rw [e] at h
    have h : At l (tk colM :: nm s :: us) := h
    obtain ⟨t, l', h1, h2, h3⟩ := kind1 h.hd.2.2.2.1
    rw [h.im, if_pos (by decide), h1]
    exact ⟨l', by show PR.ok t.t l' = _; rw [h2], h3⟩
end Go.Proofs.YtlpfdgkfdgehnaaDoor.AM
