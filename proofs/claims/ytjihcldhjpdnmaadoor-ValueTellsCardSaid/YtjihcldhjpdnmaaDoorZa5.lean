/- Part 5 of the proof: words, contracts, plain laws. Laid by a program of this session (wip/tool/shake.py): what is needed of own and printed texts, in order. -/
import Derived.Shelf.Strings.Builder1
import Derived.Shelf.Strings.Builder2
import Derived.Shelf.Strings.OnBuilder
import Derived.Shelf.Small.Strs
import Derived.Shelf.Small.Wraps
import Derived.Shelf.Strings.BuilderF
import Derived.Shelf.Strings.BuilderK
import Derived.Shelf.Strings.Builder2Cap
import Derived.Shelf.Strconv.Itoa0
import Derived.Shelf.Strconv.Itoa1
import Derived.Shelf.LaysM
import Derived.Shelf.Strconv.Itoa2
import Derived.Shelf.Strconv.Itoa3
import Derived.Shelf.Strings.Search1
import Derived.Shelf.Strings.Prefix
import Derived.Shelf.Strings.BuilderCap
import Derived.Shelf.Slices.Turned
import Derived.Ground.Names2Prog
import Derived.Shelf.Slices.SearchI
import Derived.Test.YtjihcldhjpdnmaaDoorProg
import Derived.Test.YtjihcldhjpdnmaaDoorZa0
import Derived.Test.YtjihcldhjpdnmaaDoorZa1
import Derived.Test.YtjihcldhjpdnmaaDoorZa2
import Derived.Test.YtjihcldhjpdnmaaDoorZa3
import Derived.Lib.AppendIntMem
import Derived.Calls
import Derived.Lib.ItoaNum
import Derived.Orders
import Derived.Tactics
import Derived.Below
import Derived.Laws.Rows
import Derived.Laws.World
import Derived.Laws.CopyRow
import Derived.Lib.FrozenHead
import Derived.Deep.AppendSrc
import Derived.Deep.Upon
import Derived.Laws.BytesArg
import Derived.IntWalk
import Derived.Laws.Externs
import Derived.LoopN
import Derived.KernelRfl
import Derived.MapKept
import Derived.RegionTactic
import Derived.Laws.FloatBits
namespace Go.Proofs
open Go.Shelf
def Tryd.lays156_ren : Go.Shelf.Ren := ⟨fun | 156 => 51 | 165 => 91 | 166 => 92 | 169 => 93 | 240 => 133 | 241 => 134 | 276 => 151 | 277 => 152 | n => n, fun | 31 => 85 | 9 => 9 | 3 => 3 | 4 => 4 | 0 => 0 | 20 => 20 | 72 => 138 | 76 => 142 | 70 => 135 | 37 => 136 | 75 => 141 | 127 => 170 | 164 => 178 | 5 => 5 | 80 => 84 | n => n, fun | n => n⟩
theorem Tryd.lays156 : Go.Proofs.Lays.n156 Tryd.prog Tryd.lays156_ren := {
  mixed := by kernel_rfl
  f156 := Tryd.func51.trans (congrArg some (by kernel_rfl))
  f165 := Tryd.func91.trans (congrArg some (by kernel_rfl))
  f166 := Tryd.func92.trans (congrArg some (by kernel_rfl))
  f169 := Tryd.func93.trans (congrArg some (by kernel_rfl))
  f240 := Tryd.func133.trans (congrArg some (by kernel_rfl))
  f241 := Tryd.func134.trans (congrArg some (by kernel_rfl))
  f276 := Tryd.func151.trans (congrArg some (by kernel_rfl))
  f277 := Tryd.func152.trans (congrArg some (by kernel_rfl))
  t0 := Tryd.underlying0
  a0 := Tryd.isAgg0
  z0 := Tryd.sizeOf0
  v0 := Tryd.zeroValue0
  t3 := Tryd.underlying3
  a3 := Tryd.isAgg3
  z3 := Tryd.sizeOf3
  v3 := Tryd.zeroValue3
  t4 := Tryd.underlying4
  a4 := Tryd.isAgg4
  z4 := Tryd.sizeOf4
  v4 := Tryd.zeroValue4
  t9 := Tryd.underlying9
  a9 := Tryd.isAgg9
  z9 := Tryd.sizeOf9
  v9 := Tryd.zeroValue9
  t20 := Tryd.underlying20
  a20 := Tryd.isAgg20
  z20 := Tryd.sizeOf20
  v20 := Tryd.zeroValue20
  t31 := Tryd.underlying85
  a31 := Tryd.isAgg85
  z31 := Tryd.sizeOf85
  v31 := Tryd.zeroValue85
  t37 := Tryd.underlying136
  a37 := Tryd.isAgg136
  z37 := Tryd.sizeOf136
  v37 := Tryd.zeroValue136
  t70 := Tryd.underlying135
  a70 := Tryd.isAgg135
  z70 := Tryd.sizeOf135
  v70 := Tryd.zeroValue135
  t72 := Tryd.underlying138
  a72 := Tryd.isAgg138
  z72 := Tryd.sizeOf138
  v72 := Tryd.zeroValue138
  t75 := Tryd.underlying141
  a75 := Tryd.isAgg141
  z75 := Tryd.sizeOf141
  v75 := Tryd.zeroValue141
  t76 := Tryd.underlying142
  a76 := Tryd.isAgg142
  z76 := Tryd.sizeOf142
  v76 := Tryd.zeroValue142
  t127 := Tryd.underlying170
  a127 := Tryd.isAgg170
  z127 := Tryd.sizeOf170
  v127 := Tryd.zeroValue170
  t164 := Tryd.underlying178
  a164 := Tryd.isAgg178
  z164 := Tryd.sizeOf178
  v164 := Tryd.zeroValue178 }
theorem Tryd.Builder_Extra_156 : Builder.Extra Tryd.prog Tryd.lays156_ren := {
  sizeBuilder := by kernel_rfl
  liesBuilder := by kernel_rfl
  t5 := Tryd.underlying5
  a5 := Tryd.isAgg5
  z5 := Tryd.sizeOf5
  v5 := Tryd.zeroValue5
  infoByte := by kernel_rfl
  cellsByte := by kernel_rfl
  sizeByte := by kernel_rfl
  neB5 := by decide }
open Go.RowKit in
theorem Tryd.strings_Join_none (a : Option Addr) (c : Nat) (sep : ByteArray) (w : World) :
    Calls Tryd.prog 51 #[.slice a 0 c, .string sep] w fun e w' => e = .returned (.string ⟨#[]⟩) ∧ w' = w := Any.strings_Join_none Tryd.lays156 Tryd.Builder_Extra_156 a c sep w
open Go.RowKit in
theorem Tryd.strings_Join (bk o c : Nat) (xs : List ByteArray) (sep : ByteArray) (w : World) (hcells : ∀ (j : Nat) x, xs[j]? = some x → w.cell? ⟨bk, o + j, none⟩ = some (.string x)) (hbk : bk < w.heap.size) (hN : xs.length ≤ 140737488355328) (hcap : xs.length ≤ c) (hlen : (Lib.join (xs.map (·.data.toList)) sep.data.toList).length ≤ 140737488355328) :
    Calls Tryd.prog 51 #[.slice (some ⟨bk, o, none⟩) xs.length c, .string sep] w fun e w' => e = .returned (.string ⟨(Lib.join (xs.map (·.data.toList)) sep.data.toList).toArray⟩) ∧ Below w.heap.size w w' := Any.strings_Join Tryd.lays156 Tryd.Builder_Extra_156 bk o c xs sep w hcells hbk hN hcap hlen
def Tryd.lays121_ren : Go.Shelf.Ren := ⟨fun | 121 => 88 | 214 => 131 | n => n, fun | 4 => 4 | 9 => 9 | n => n, fun | n => n⟩
theorem Tryd.lays121 : Go.Proofs.Lays.n121 Tryd.prog Tryd.lays121_ren := {
  mixed := by kernel_rfl
  f121 := Tryd.func88.trans (congrArg some (by kernel_rfl))
  f214 := Tryd.func131.trans (congrArg some (by kernel_rfl))
  t4 := Tryd.underlying4
  a4 := Tryd.isAgg4
  z4 := Tryd.sizeOf4
  v4 := Tryd.zeroValue4
  t9 := Tryd.underlying9
  a9 := Tryd.isAgg9
  z9 := Tryd.sizeOf9
  v9 := Tryd.zeroValue9 }
open Go.RowKit in
theorem Tryd.strconv_FormatBool (b : Bool) (w : World) :
    Calls Tryd.prog 88 #[.bool b] w fun e w' => e = .returned (.string ⟨(Lib.formatBool b).toArray⟩) ∧ w' = w := Any.strconv_FormatBool Tryd.lays121 b w
def Tryd.laysM171_ren : Go.Shelf.Ren := ⟨fun | 171 => 68 | 243 => 118 | 246 => 145 | 283 => 158 | 284 => 159 | 285 => 160 | 286 => 161 | 129 => 170 | 317 => 169 | 318 => 171 | 319 => 172 | 320 => 173 | 337 => 178 | 338 => 179 | n => n, fun | 3 => 3 | 9 => 9 | 2 => 2 | 4 => 4 | 171 => 183 | 0 => 0 | 53 => 74 | 37 => 136 | 5 => 5 | 173 => 185 | 212 => 194 | 51 => 195 | 20 => 20 | 213 => 196 | 46 => 169 | 232 => 208 | 233 => 209 | n => n, fun | 17 => 2 | 18 => 5 | 19 => 6 | n => n⟩
theorem Tryd.laysM171 : Go.Proofs.LaysM.n171 Tryd.prog Tryd.laysM171_ren := {
  mixed := by kernel_rfl
  f129 := Tryd.func170.trans (congrArg some (by kernel_rfl))
  f171 := Tryd.func68.trans (congrArg some (by kernel_rfl))
  f243 := Tryd.func118.trans (congrArg some (by kernel_rfl))
  f246 := Tryd.func145.trans (congrArg some (by kernel_rfl))
  f283 := Tryd.func158.trans (congrArg some (by kernel_rfl))
  f284 := Tryd.func159.trans (congrArg some (by kernel_rfl))
  f285 := Tryd.func160.trans (congrArg some (by kernel_rfl))
  f286 := Tryd.func161.trans (congrArg some (by kernel_rfl))
  f317 := Tryd.func169.trans (congrArg some (by kernel_rfl))
  f318 := Tryd.func171.trans (congrArg some (by kernel_rfl))
  f319 := Tryd.func172.trans (congrArg some (by kernel_rfl))
  f320 := Tryd.func173.trans (congrArg some (by kernel_rfl))
  f337 := Tryd.func178.trans (congrArg some (by kernel_rfl))
  f338 := Tryd.func179.trans (congrArg some (by kernel_rfl))
  t0 := Tryd.underlying0
  a0 := Tryd.isAgg0
  z0 := Tryd.sizeOf0
  v0 := Tryd.zeroValue0
  t2 := Tryd.underlying2
  a2 := Tryd.isAgg2
  z2 := Tryd.sizeOf2
  v2 := Tryd.zeroValue2
  t3 := Tryd.underlying3
  a3 := Tryd.isAgg3
  z3 := Tryd.sizeOf3
  v3 := Tryd.zeroValue3
  t4 := Tryd.underlying4
  a4 := Tryd.isAgg4
  z4 := Tryd.sizeOf4
  v4 := Tryd.zeroValue4
  t5 := Tryd.underlying5
  a5 := Tryd.isAgg5
  z5 := Tryd.sizeOf5
  v5 := Tryd.zeroValue5
  t9 := Tryd.underlying9
  a9 := Tryd.isAgg9
  z9 := Tryd.sizeOf9
  v9 := Tryd.zeroValue9
  t20 := Tryd.underlying20
  a20 := Tryd.isAgg20
  z20 := Tryd.sizeOf20
  v20 := Tryd.zeroValue20
  t37 := Tryd.underlying136
  a37 := Tryd.isAgg136
  z37 := Tryd.sizeOf136
  v37 := Tryd.zeroValue136
  t46 := Tryd.underlying169
  a46 := Tryd.isAgg169
  z46 := Tryd.sizeOf169
  v46 := Tryd.zeroValue169
  t51 := Tryd.underlying195
  a51 := Tryd.isAgg195
  z51 := Tryd.sizeOf195
  v51 := Tryd.zeroValue195
  t53 := Tryd.underlying74
  a53 := Tryd.isAgg74
  z53 := Tryd.sizeOf74
  v53 := Tryd.zeroValue74
  t171 := Tryd.underlying183
  a171 := Tryd.isAgg183
  z171 := Tryd.sizeOf183
  v171 := Tryd.zeroValue183
  t173 := Tryd.underlying185
  a173 := Tryd.isAgg185
  z173 := Tryd.sizeOf185
  v173 := Tryd.zeroValue185
  t212 := Tryd.underlying194
  a212 := Tryd.isAgg194
  z212 := Tryd.sizeOf194
  v212 := Tryd.zeroValue194
  t213 := Tryd.underlying196
  a213 := Tryd.isAgg196
  z213 := Tryd.sizeOf196
  t232 := Tryd.underlying208
  a232 := Tryd.isAgg208
  z232 := Tryd.sizeOf208
  v232 := Tryd.zeroValue208
  t233 := Tryd.underlying209
  a233 := Tryd.isAgg209
  z233 := Tryd.sizeOf209
  v233 := Tryd.zeroValue209
  g17 := by kernel_rfl
  g18 := by kernel_rfl
  g19 := by kernel_rfl
  i0 := by kernel_rfl
  i2 := by kernel_rfl
  i3 := by kernel_rfl
  i4 := by kernel_rfl
  i5 := by kernel_rfl
  i9 := by kernel_rfl
  i20 := by kernel_rfl
  i37 := by kernel_rfl
  i46 := by kernel_rfl
  i51 := by kernel_rfl
  i53 := by kernel_rfl
  i171 := by kernel_rfl
  i173 := by kernel_rfl
  i212 := by kernel_rfl
  i232 := by kernel_rfl
  i233 := by kernel_rfl
  m17 := by kernel_rfl
  m18 := by kernel_rfl
  m19 := by kernel_rfl }
open Go.RowKit Go.Sort Go.Lib in
theorem Tryd.strconv_Itoa (n : Int) (h0 : -9223372036854775808 ≤ n) (h1 : n ≤ 9223372036854775807) (w : World) (htab : Lib.TabIs Tryd.prog w "internal/strconv.uint64pow10" .u64 Lib.pow10Tab) :
    Calls Tryd.prog 68 #[.int .i64 n] w fun e w' => e = .returned (.string ⟨(Lib.itoa n).toArray⟩) ∧ ∃ k os, w' = grow (w.drewN k) os := Any.strconv_Itoa Tryd.laysM171 n h0 h1 w htab
end Go.Proofs
namespace Go.Proofs.YtjihcldhjpdnmaaDoor.AM
open Go.RowKit
set_option linter.unusedSimpArgs false
set_option linter.unusedVariables false
set_option maxRecDepth 10000
theorem us_lits {c : Cx} {us : Array Value} {l : List Value} (hs : us.size = (l.map AV.lit).length) (h : ∀ (i : Nat) x, (l.map AV.lit)[i]? = some x → VR c x (us.getD i undef)) : us = l.toArray := by
  apply Array.ext'
  apply List.ext_getElem?
  intro i
  rw [Array.getElem?_toList]
  simp only [List.length_map] at hs
  cases hl : l[i]? with
  | none =>
    have := List.getElem?_eq_none_iff.1 hl
    rw [Array.getElem?_eq_none (by omega)]
    try simp [hl]
  | some v =>
    have hlt := (List.getElem?_eq_some_iff.1 hl).1
    have := (h i (.lit v) (by rw [List.getElem?_map, hl]; rfl)).lit_inv
    rw [Array.getD_eq_getD_getElem?] at this
    rw [Array.getElem?_eq_getElem (by omega)] at this ⊢
    simp at this
    try simp [hl, this]
def i64B (n : Int) : Prop := -9223372036854775808 ≤ n ∧ n ≤ 9223372036854775807
abbrev bs (l : List UInt8) : ByteArray := ⟨l.toArray⟩
theorem c_Itoa (n : Int) (hn : i64B n) : Pure Tryd.prog 68 [iv n] (sv (bs (Lib.itoa n))) := fun W X us hX hG hus hargs => by
  obtain rfl : us = #[.int .i64 n] := us_lits (l := [.int .i64 n]) hus hargs
  have hg : Tryd.prog.globalNamed "internal/strconv.uint64pow10" = some 2 := by kernel_rfl
  have htab : Lib.TabIs Tryd.prog W "internal/strconv.uint64pow10" .u64 Lib.pow10Tab := by
    obtain ⟨⟨el, fz, h1⟩, _⟩ := hG 2 _ rfl
    unfold Lib.TabIs World.var?
    rw [hg, Option.bind_some, h1]
  refine (Tryd.strconv_Itoa n hn.1 hn.2 W htab).mono fun e W' h => ?_
  obtain ⟨rfl, k, os, rfl⟩ := h
  exact ⟨_, rfl, Lib.below_grow _ W (Nat.le_refl _) k os, .dat _ _ (.lit _)⟩
theorem c_FormatBool (b : Bool) : Pure Tryd.prog 88 [bv b] (sv (bs (Lib.formatBool b))) := fun W X us hX hG hus hargs => by
  obtain rfl : us = #[.bool b] := us_lits (l := [.bool b]) hus hargs
  refine (Tryd.strconv_FormatBool b W).mono fun e W' h => ?_
  obtain ⟨rfl, rfl⟩ := h
  exact ⟨_, rfl, Below.refl _ _, .dat _ _ (.lit _)⟩
def joinB (xs : List ByteArray) (sep : ByteArray) : ByteArray := bs (Lib.join (xs.map (·.data.toList)) sep.data.toList)
abbrev sl (xs : List ByteArray) : List (List Dat) := xs.map fun x => [ds' x]
theorem c_Join (xs : List ByteArray) (sep : ByteArray) (hN : xs.length ≤ 140737488355328) (hlen : (joinB xs sep).size ≤ 140737488355328) : Pure Tryd.prog 51 [.dat (.lst 1 (sl xs)), sv sep] (sv (joinB xs sep)) := fun W X us hX hG hus hargs => by
  have h0 := hargs 0 _ rfl
  have h1 := (hargs 1 _ rfl).lit_inv
  generalize hu0 : us.getD 0 undef = u0 at h0
  have hus2 : us = #[u0, .string sep] := by
    obtain ⟨l⟩ := us
    match l, hus with
    | [a, b], _ => simp at hu0 h1; rw [hu0, h1]
  subst hus2
  cases h0 with
  | dat _ _ hd =>
    cases hd with
    | lst _ _ A n cap f k o hn hc hr hA hf hone hv =>
      rcases hA with hA | ⟨rfl, hk, hk2⟩
      · have hx : xs = [] := by cases xs <;> simp_all
        subst hx
        obtain rfl : n = 0 := hn
        refine (Tryd.strings_Join_none A cap sep W).mono fun e W' h => ?_
        obtain ⟨rfl, rfl⟩ := h
        exact ⟨_, rfl, Below.refl _ _, .dat _ _ (.lit _)⟩
      · obtain rfl : n = xs.length := by simpa using hn
        refine (Tryd.strings_Join k o cap xs sep W (fun j x hj => ?_) hk2 hN hc (by simpa [joinB, ByteArray.size] using hlen)).mono fun e W' h => ?_
        · have hrow : (sl xs)[j]? = some [ds' x] := by rw [List.getElem?_map, hj]; rfl
          have h3 := hf j _ hrow 0 _ rfl
          have h4 := hv j _ hrow 0 _ rfl
          generalize f j 0 = z at h3 h4
          cases h4
          rw [← h3]
          simp
        · obtain ⟨rfl, hb⟩ := h
          exact ⟨_, rfl, hb, .dat _ _ (.lit _)⟩
theorem x_bits (a : Nat) : Ext Tryd.prog 76 [.float .f64 a] (.int .u64 a) := fun W =>
  (run_callFunc_extern Tryd.func76 (by kernel_rfl) (by kernel_rfl) (by kernel_rfl) (show Extern.find _ = some Extern.MathFloatBits.float64bits by rfl) _ W).trans rfl
theorem x_frombits (a : Int) : Ext Tryd.prog 103 [.int .u64 a] (.float .f64 a.toNat) := fun W =>
  (run_callFunc_extern Tryd.func103 (by kernel_rfl) (by kernel_rfl) (by kernel_rfl) (show Extern.find _ = some Extern.MathFloatBits.float64frombits by rfl) _ W).trans rfl
end Go.Proofs.YtjihcldhjpdnmaaDoor.AM
namespace Go.Proofs.YtjihcldhjpdnmaaDoor.AM
open Go.RowKit
set_option linter.unusedSimpArgs false
set_option linter.unusedVariables false
set_option maxRecDepth 10000
abbrev fv (f : Nat) : AV := .lit (.float .f64 f)
abbrev ordF (a b : Nat) : Option Ordering := FloatKind.f64.format.order a b
theorem c_IsInf1 (f : Nat) : Pure Tryd.prog 127 [fv f, iv 1] (bv (ordF f 9218868437227405311 == some .gt)) := by
  refine pure_of_awp Tryd.func127 rfl rfl (by simp [Tryd.f127]) ?_; simp only [go_sem, ↓reduceIte, Nat.reduceEqDiff, Nat.reduceAdd, Nat.reduceLeDiff, Nat.reduceBEq, Nat.reduceMul, reduceCtorEq, Int.reduceLE, Int.reduceLT, Int.reduceAdd, Int.reduceSub, Int.reduceNeg, Int.reduceToNat, Int.reduceBEq]
  repeat' (first | refine awp_seq ?_ | refine awp_block ?_ | refine awp_round ?_ | refine awp_text rfl ?_ | refine awp_any rfl mix (by kernel_rfl) ?_ | (refine RunTo.unguard rfl rfl (fun hg => ?_) (fun hg => ?_) <;> ((try simp only [Bool.not_true, Bool.not_false, Bool.not_eq_true', Bool.not_eq_false', Bool.not_eq_eq_eq_not] at hg); (first | (cases hg) | (simp only [hg]) | skip))) | ((first | refine RunTo.plain rfl ?_ | refine RunTo.skipped rfl ?_); simp only [go_sem, ↓reduceIte, Nat.reduceEqDiff, Nat.reduceAdd, Nat.reduceLeDiff, Nat.reduceBEq, Nat.reduceMul, reduceCtorEq, Int.reduceLE, Int.reduceLT, Int.reduceAdd, Int.reduceSub, Int.reduceNeg, Int.reduceToNat, Int.reduceBEq]) | ((first | refine RunTo.nil ⟨by kernel_rfl, ?_⟩ | refine RunTo.nil ?_ | refine awp_skip ?_ | refine awp_exit ?_); simp only [go_sem, ↓reduceIte, Nat.reduceEqDiff, Nat.reduceAdd, Nat.reduceLeDiff, Nat.reduceBEq, Nat.reduceMul, reduceCtorEq, Int.reduceLE, Int.reduceLT, Int.reduceAdd, Int.reduceSub, Int.reduceNeg, Int.reduceToNat, Int.reduceBEq]) | (refine awp_cond' rfl (of_decide_eq_true rfl) (fun hc => ?_) (fun hc => ?_) <;> ((try simp only [Bool.not_true, Bool.not_false, Bool.not_eq_true', Bool.not_eq_false', Bool.not_eq_eq_eq_not] at hc); (first | (cases hc) | (simp only [hc]) | skip))))
  all_goals first | (exfalso; revert hc; decide) | skip
  all_goals
    (first | refine awp_ret ?_ | skip); refine ⟨(by first | exact .inl rfl | exact .inr rfl | exact .inr trivial | trivial), ?_⟩; simp only [go_sem, ↓reduceIte, Nat.reduceEqDiff, Nat.reduceAdd, Nat.reduceLeDiff, Nat.reduceBEq, Nat.reduceMul, reduceCtorEq, Int.reduceLE, Int.reduceLT, Int.reduceAdd, Int.reduceSub, Int.reduceNeg, Int.reduceToNat, Int.reduceBEq, retV, resL, resV, sealV, sealC, sealAll, Tryd.f127]
theorem c_IsInf2 (f : Nat) : Pure Tryd.prog 127 [fv f, iv (-1)] (bv (ordF (Op.negFloat .f64 f) 9218868437227405311 == some .gt)) := by
  refine pure_of_awp Tryd.func127 rfl rfl (by simp [Tryd.f127]) ?_; simp only [go_sem, ↓reduceIte, Nat.reduceEqDiff, Nat.reduceAdd, Nat.reduceLeDiff, Nat.reduceBEq, Nat.reduceMul, reduceCtorEq, Int.reduceLE, Int.reduceLT, Int.reduceAdd, Int.reduceSub, Int.reduceNeg, Int.reduceToNat, Int.reduceBEq]
  repeat' (first | refine awp_seq ?_ | refine awp_block ?_ | refine awp_round ?_ | refine awp_text rfl ?_ | refine awp_any rfl mix (by kernel_rfl) ?_ | (refine RunTo.unguard rfl rfl (fun hg => ?_) (fun hg => ?_) <;> ((try simp only [Bool.not_true, Bool.not_false, Bool.not_eq_true', Bool.not_eq_false', Bool.not_eq_eq_eq_not] at hg); (first | (cases hg) | (simp only [hg]) | skip))) | ((first | refine RunTo.plain rfl ?_ | refine RunTo.skipped rfl ?_); simp only [go_sem, ↓reduceIte, Nat.reduceEqDiff, Nat.reduceAdd, Nat.reduceLeDiff, Nat.reduceBEq, Nat.reduceMul, reduceCtorEq, Int.reduceLE, Int.reduceLT, Int.reduceAdd, Int.reduceSub, Int.reduceNeg, Int.reduceToNat, Int.reduceBEq]) | ((first | refine RunTo.nil ⟨by kernel_rfl, ?_⟩ | refine RunTo.nil ?_ | refine awp_skip ?_ | refine awp_exit ?_); simp only [go_sem, ↓reduceIte, Nat.reduceEqDiff, Nat.reduceAdd, Nat.reduceLeDiff, Nat.reduceBEq, Nat.reduceMul, reduceCtorEq, Int.reduceLE, Int.reduceLT, Int.reduceAdd, Int.reduceSub, Int.reduceNeg, Int.reduceToNat, Int.reduceBEq]) | (refine awp_cond' rfl (of_decide_eq_true rfl) (fun hc => ?_) (fun hc => ?_) <;> ((try simp only [Bool.not_true, Bool.not_false, Bool.not_eq_true', Bool.not_eq_false', Bool.not_eq_eq_eq_not] at hc); (first | (cases hc) | (simp only [hc]) | skip))))
  all_goals first | (exfalso; revert hc; decide) | skip
  all_goals
    (first | refine awp_ret ?_ | skip); refine ⟨(by first | exact .inl rfl | exact .inr rfl | exact .inr trivial | trivial), ?_⟩; simp only [go_sem, ↓reduceIte, Nat.reduceEqDiff, Nat.reduceAdd, Nat.reduceLeDiff, Nat.reduceBEq, Nat.reduceMul, reduceCtorEq, Int.reduceLE, Int.reduceLT, Int.reduceAdd, Int.reduceSub, Int.reduceNeg, Int.reduceToNat, Int.reduceBEq, retV, resL, resV, sealV, sealC, sealAll, Tryd.f127]
def clsF (f : Nat) : Int := if (ordF f f != some .eq) = true then 0 else if (ordF (Op.negFloat .f64 f) 9218868437227405311 == some .gt) = true then 1 else if (ordF f 9218868437227405311 == some .gt) = true then 5
  else if (ordF f 0 == some .lt) = true then 2 else if (ordF f 0 == some .gt) = true then 4 else 3
theorem c_Class (f : Nat) : Pure Tryd.prog 82 [fv f] (iv (clsF f)) := by
  refine pure_of_awp Tryd.func82 rfl rfl (by simp [Tryd.f82]) ?_; simp only [go_sem, ↓reduceIte, Nat.reduceEqDiff, Nat.reduceAdd, Nat.reduceLeDiff, Nat.reduceBEq, Nat.reduceMul, reduceCtorEq, Int.reduceLE, Int.reduceLT, Int.reduceAdd, Int.reduceSub, Int.reduceNeg, Int.reduceToNat, Int.reduceBEq]
  repeat' (first | refine awp_seq ?_ | refine awp_block ?_ | refine awp_round ?_ | refine awp_text rfl ?_ | refine awp_any rfl mix (by kernel_rfl) ?_ | (refine RunTo.unguard rfl rfl (fun hg => ?_) (fun hg => ?_) <;> ((try simp only [Bool.not_true, Bool.not_false, Bool.not_eq_true', Bool.not_eq_false', Bool.not_eq_eq_eq_not] at hg); (first | (cases hg) | (simp only [hg]) | skip))) | ((first | refine RunTo.plain rfl ?_ | refine RunTo.skipped rfl ?_ | refine RunTo.call (c_IsInf1 _) Tryd.func127 rfl rfl rfl rfl rfl rfl rfl rfl ?_ | refine RunTo.call (c_IsInf2 _) Tryd.func127 rfl rfl rfl rfl rfl rfl rfl rfl ?_); simp only [go_sem, ↓reduceIte, Nat.reduceEqDiff, Nat.reduceAdd, Nat.reduceLeDiff, Nat.reduceBEq, Nat.reduceMul, reduceCtorEq, Int.reduceLE, Int.reduceLT, Int.reduceAdd, Int.reduceSub, Int.reduceNeg, Int.reduceToNat, Int.reduceBEq]) | ((first | refine RunTo.nil ⟨by kernel_rfl, ?_⟩ | refine RunTo.nil ?_ | refine awp_skip ?_ | refine awp_exit ?_); simp only [go_sem, ↓reduceIte, Nat.reduceEqDiff, Nat.reduceAdd, Nat.reduceLeDiff, Nat.reduceBEq, Nat.reduceMul, reduceCtorEq, Int.reduceLE, Int.reduceLT, Int.reduceAdd, Int.reduceSub, Int.reduceNeg, Int.reduceToNat, Int.reduceBEq]) | (refine awp_cond' rfl (of_decide_eq_true rfl) (fun hc => ?_) (fun hc => ?_) <;> ((try simp only [Bool.not_true, Bool.not_false, Bool.not_eq_true', Bool.not_eq_false', Bool.not_eq_eq_eq_not] at hc); (first | (cases hc) | (simp only [hc]) | skip))))
  all_goals
    (first | refine awp_ret ?_ | skip); refine ⟨(by first | exact .inl rfl | exact .inr rfl | exact .inr trivial | trivial), ?_⟩; simp only [go_sem, ↓reduceIte, Nat.reduceEqDiff, Nat.reduceAdd, Nat.reduceLeDiff, Nat.reduceBEq, Nat.reduceMul, reduceCtorEq, Int.reduceLE, Int.reduceLT, Int.reduceAdd, Int.reduceSub, Int.reduceNeg, Int.reduceToNat, Int.reduceBEq, retV, resL, resV, sealV, sealC, sealAll, Tryd.f82]
    simp only [clsF, ordF, *, if_true, if_false, Bool.false_eq_true, ↓reduceIte]
def canF (f : Nat) : Nat := if clsF f = 0 then 9221120237041090560 else if clsF f = 3 then 0 else f
theorem c_Canon (f : Nat) : Pure Tryd.prog 77 [fv f] (fv (canF f)) := by
  refine pure_of_awp Tryd.func77 rfl rfl (by simp [Tryd.f77]) ?_; simp only [go_sem, ↓reduceIte, Nat.reduceEqDiff, Nat.reduceAdd, Nat.reduceLeDiff, Nat.reduceBEq, Nat.reduceMul, reduceCtorEq, Int.reduceLE, Int.reduceLT, Int.reduceAdd, Int.reduceSub, Int.reduceNeg, Int.reduceToNat, Int.reduceBEq]
  repeat' (first | refine awp_seq ?_ | refine awp_block ?_ | refine awp_round ?_ | refine awp_text rfl ?_ | refine awp_any rfl mix (by kernel_rfl) ?_ | (refine RunTo.unguard rfl rfl (fun hg => ?_) (fun hg => ?_) <;> ((try simp only [Bool.not_true, Bool.not_false, Bool.not_eq_true', Bool.not_eq_false', Bool.not_eq_eq_eq_not] at hg); (first | (cases hg) | (simp only [hg]) | skip))) | ((first | refine RunTo.plain rfl ?_ | refine RunTo.skipped rfl ?_ | refine RunTo.call (c_Class _) Tryd.func82 rfl rfl rfl rfl rfl rfl rfl rfl ?_ | refine RunTo.ext (x_frombits _) rfl rfl rfl rfl ?_); simp only [go_sem, ↓reduceIte, Nat.reduceEqDiff, Nat.reduceAdd, Nat.reduceLeDiff, Nat.reduceBEq, Nat.reduceMul, reduceCtorEq, Int.reduceLE, Int.reduceLT, Int.reduceAdd, Int.reduceSub, Int.reduceNeg, Int.reduceToNat, Int.reduceBEq]) | ((first | refine RunTo.nil ⟨by kernel_rfl, ?_⟩ | refine RunTo.nil ?_ | refine awp_skip ?_ | refine awp_exit ?_); simp only [go_sem, ↓reduceIte, Nat.reduceEqDiff, Nat.reduceAdd, Nat.reduceLeDiff, Nat.reduceBEq, Nat.reduceMul, reduceCtorEq, Int.reduceLE, Int.reduceLT, Int.reduceAdd, Int.reduceSub, Int.reduceNeg, Int.reduceToNat, Int.reduceBEq]) | (refine awp_cond' rfl (of_decide_eq_true rfl) (fun hc => ?_) (fun hc => ?_) <;> ((try simp only [Bool.not_true, Bool.not_false, Bool.not_eq_true', Bool.not_eq_false', Bool.not_eq_eq_eq_not] at hc); (first | (cases hc) | (simp only [hc]) | skip))))
  all_goals
    (first | refine awp_ret ?_ | skip); refine ⟨(by first | exact .inl rfl | exact .inr rfl | exact .inr trivial | trivial), ?_⟩; simp only [go_sem, ↓reduceIte, Nat.reduceEqDiff, Nat.reduceAdd, Nat.reduceLeDiff, Nat.reduceBEq, Nat.reduceMul, reduceCtorEq, Int.reduceLE, Int.reduceLT, Int.reduceAdd, Int.reduceSub, Int.reduceNeg, Int.reduceToNat, Int.reduceBEq, retV, resL, resV, sealV, sealC, sealAll, Tryd.f77]
    (try simp only [decide_eq_true_eq, decide_eq_false_iff_not, beq_iff_eq, bne_iff_ne, ne_eq, beq_eq_false_iff_ne, bne_eq_false_iff_eq, Bool.and_eq_true, Bool.or_eq_true, Bool.or_eq_false_iff, Bool.and_eq_false_iff] at *)
    simp only [canF, *, if_true, if_false, Bool.false_eq_true, ↓reduceIte]
    try rfl
def AtomD.av (a : AtomD) : AV := .agg [iv a.k, iv a.n, fv a.f, sv a.s]
theorem c_bits (a : AtomD) : Pure Tryd.prog 75 [a.av] (.lit (.int .u64 a.f)) := by
  refine pure_of_awp Tryd.func75 rfl rfl (by simp [Tryd.f75]) ?_; simp only [go_sem, ↓reduceIte, Nat.reduceEqDiff, Nat.reduceAdd, Nat.reduceLeDiff, Nat.reduceBEq, Nat.reduceMul, reduceCtorEq, Int.reduceLE, Int.reduceLT, Int.reduceAdd, Int.reduceSub, Int.reduceNeg, Int.reduceToNat, Int.reduceBEq]
  repeat' (first | refine awp_seq ?_ | refine awp_block ?_ | refine awp_round ?_ | refine awp_text rfl ?_ | refine awp_any rfl mix (by kernel_rfl) ?_ | (refine RunTo.unguard rfl rfl (fun hg => ?_) (fun hg => ?_) <;> ((try simp only [Bool.not_true, Bool.not_false, Bool.not_eq_true', Bool.not_eq_false', Bool.not_eq_eq_eq_not] at hg); (first | (cases hg) | (simp only [hg]) | skip))) | ((first | refine RunTo.plain rfl ?_ | refine RunTo.skipped rfl ?_ | refine RunTo.ext (x_bits _) rfl rfl rfl rfl ?_); simp only [go_sem, ↓reduceIte, Nat.reduceEqDiff, Nat.reduceAdd, Nat.reduceLeDiff, Nat.reduceBEq, Nat.reduceMul, reduceCtorEq, Int.reduceLE, Int.reduceLT, Int.reduceAdd, Int.reduceSub, Int.reduceNeg, Int.reduceToNat, Int.reduceBEq, AtomD.av]) | ((first | refine RunTo.nil ⟨by kernel_rfl, ?_⟩ | refine RunTo.nil ?_ | refine awp_skip ?_ | refine awp_exit ?_); simp only [go_sem, ↓reduceIte, Nat.reduceEqDiff, Nat.reduceAdd, Nat.reduceLeDiff, Nat.reduceBEq, Nat.reduceMul, reduceCtorEq, Int.reduceLE, Int.reduceLT, Int.reduceAdd, Int.reduceSub, Int.reduceNeg, Int.reduceToNat, Int.reduceBEq, AtomD.av]) | (refine awp_cond' rfl (of_decide_eq_true rfl) (fun hc => ?_) (fun hc => ?_) <;> ((try simp only [Bool.not_true, Bool.not_false, Bool.not_eq_true', Bool.not_eq_false', Bool.not_eq_eq_eq_not] at hc); (first | (cases hc) | (simp only [hc]) | skip))))
  all_goals
    (first | refine awp_ret ?_ | skip); refine ⟨(by first | exact .inl rfl | exact .inr rfl | exact .inr trivial | trivial), ?_⟩; simp only [go_sem, ↓reduceIte, Nat.reduceEqDiff, Nat.reduceAdd, Nat.reduceLeDiff, Nat.reduceBEq, Nat.reduceMul, reduceCtorEq, Int.reduceLE, Int.reduceLT, Int.reduceAdd, Int.reduceSub, Int.reduceNeg, Int.reduceToNat, Int.reduceBEq, retV, resL, resV, sealV, sealC, sealAll, Tryd.f75]
def isA (a : AtomD) (n f s : Bool) : Bool := (n || a.n == 0) && (f || (a.f : Int) == 0) && (s || a.s.toList == eE.toList)
theorem c_is (a : AtomD) (n f s : Bool) : Pure Tryd.prog 32 [a.av, bv n, bv f, bv s] (bv (isA a n f s)) := by
  refine pure_of_awp Tryd.func32 rfl rfl (by simp [Tryd.f32]) ?_; simp only [go_sem, ↓reduceIte, Nat.reduceEqDiff, Nat.reduceAdd, Nat.reduceLeDiff, Nat.reduceBEq, Nat.reduceMul, reduceCtorEq, Int.reduceLE, Int.reduceLT, Int.reduceAdd, Int.reduceSub, Int.reduceNeg, Int.reduceToNat, Int.reduceBEq]
  repeat' (first | refine awp_seq ?_ | refine awp_block ?_ | refine awp_round ?_ | refine awp_text rfl ?_ | refine awp_any rfl mix (by kernel_rfl) ?_ | (refine RunTo.unguard rfl rfl (fun hg => ?_) (fun hg => ?_) <;> ((try simp only [Bool.not_true, Bool.not_false, Bool.not_eq_true', Bool.not_eq_false', Bool.not_eq_eq_eq_not] at hg); (first | (cases hg) | (simp only [hg]) | skip))) | ((first | refine RunTo.plain rfl ?_ | refine RunTo.skipped rfl ?_ | refine RunTo.call (c_bits a) Tryd.func75 rfl rfl rfl rfl rfl rfl rfl rfl ?_); simp only [go_sem, ↓reduceIte, Nat.reduceEqDiff, Nat.reduceAdd, Nat.reduceLeDiff, Nat.reduceBEq, Nat.reduceMul, reduceCtorEq, Int.reduceLE, Int.reduceLT, Int.reduceAdd, Int.reduceSub, Int.reduceNeg, Int.reduceToNat, Int.reduceBEq, AtomD.av]) | ((first | refine RunTo.nil ⟨by kernel_rfl, ?_⟩ | refine RunTo.nil ?_ | refine awp_skip ?_ | refine awp_exit ?_); simp only [go_sem, ↓reduceIte, Nat.reduceEqDiff, Nat.reduceAdd, Nat.reduceLeDiff, Nat.reduceBEq, Nat.reduceMul, reduceCtorEq, Int.reduceLE, Int.reduceLT, Int.reduceAdd, Int.reduceSub, Int.reduceNeg, Int.reduceToNat, Int.reduceBEq, AtomD.av]) | (refine awp_cond' rfl (of_decide_eq_true rfl) (fun hc => ?_) (fun hc => ?_) <;> ((try simp only [Bool.not_true, Bool.not_false, Bool.not_eq_true', Bool.not_eq_false', Bool.not_eq_eq_eq_not] at hc); (first | (cases hc) | (simp only [hc]) | skip))))
  all_goals
    (first | refine awp_ret ?_ | skip); refine ⟨(by first | exact .inl rfl | exact .inr rfl | exact .inr trivial | trivial), ?_⟩; simp only [go_sem, ↓reduceIte, Nat.reduceEqDiff, Nat.reduceAdd, Nat.reduceLeDiff, Nat.reduceBEq, Nat.reduceMul, reduceCtorEq, Int.reduceLE, Int.reduceLT, Int.reduceAdd, Int.reduceSub, Int.reduceNeg, Int.reduceToNat, Int.reduceBEq, retV, resL, resV, sealV, sealC, sealAll, Tryd.f32]
    simp only [isA, *, Bool.true_or, Bool.false_or, Bool.true_and, Bool.and_true, Bool.false_and, Bool.and_false]
    try rfl
def validA (a : AtomD) : Bool := if a.k = 0 then isA a false false false else if a.k = 1 then isA a true false false && (a.n == 0 || a.n == 1) else if a.k = 2 then isA a true false false
  else if a.k = 3 then isA a false true false && ((a.f : Int) == (canF a.f : Int)) else if a.k = 4 ∨ a.k = 5 then isA a false false true && decide ((a.s.size : Int) ≤ 256) else false
theorem c_valid (a : AtomD) : Pure Tryd.prog 31 [a.av] (bv (validA a)) := by
  refine pure_of_awp Tryd.func31 rfl rfl (by simp [Tryd.f31]) ?_; simp only [go_sem, ↓reduceIte, Nat.reduceEqDiff, Nat.reduceAdd, Nat.reduceLeDiff, Nat.reduceBEq, Nat.reduceMul, reduceCtorEq, Int.reduceLE, Int.reduceLT, Int.reduceAdd, Int.reduceSub, Int.reduceNeg, Int.reduceToNat, Int.reduceBEq]
  repeat' (first | refine awp_seq ?_ | refine awp_block ?_ | refine awp_round ?_ | refine awp_text rfl ?_ | refine awp_any rfl mix (by kernel_rfl) ?_ | (refine RunTo.unguard rfl rfl (fun hg => ?_) (fun hg => ?_) <;> ((try simp only [Bool.not_true, Bool.not_false, Bool.not_eq_true', Bool.not_eq_false', Bool.not_eq_eq_eq_not] at hg); (first | (cases hg) | (simp only [hg]) | skip))) | ((first | refine RunTo.plain rfl ?_ | refine RunTo.skipped rfl ?_ | refine RunTo.call (c_is a _ _ _) Tryd.func32 rfl rfl rfl rfl rfl rfl rfl rfl ?_ | refine RunTo.call (c_bits a) Tryd.func75 rfl rfl rfl rfl rfl rfl rfl rfl ?_ | refine RunTo.call (c_Canon _) Tryd.func77 rfl rfl rfl rfl rfl rfl rfl rfl ?_ | refine RunTo.ext (x_bits _) rfl rfl rfl rfl ?_); simp only [go_sem, ↓reduceIte, Nat.reduceEqDiff, Nat.reduceAdd, Nat.reduceLeDiff, Nat.reduceBEq, Nat.reduceMul, reduceCtorEq, Int.reduceLE, Int.reduceLT, Int.reduceAdd, Int.reduceSub, Int.reduceNeg, Int.reduceToNat, Int.reduceBEq, AtomD.av]) | ((first | refine RunTo.nil ⟨by kernel_rfl, ?_⟩ | refine RunTo.nil ?_ | refine awp_skip ?_ | refine awp_exit ?_); simp only [go_sem, ↓reduceIte, Nat.reduceEqDiff, Nat.reduceAdd, Nat.reduceLeDiff, Nat.reduceBEq, Nat.reduceMul, reduceCtorEq, Int.reduceLE, Int.reduceLT, Int.reduceAdd, Int.reduceSub, Int.reduceNeg, Int.reduceToNat, Int.reduceBEq, AtomD.av]) | (refine awp_cond' rfl (of_decide_eq_true rfl) (fun hc => ?_) (fun hc => ?_) <;> ((try simp only [Bool.not_true, Bool.not_false, Bool.not_eq_true', Bool.not_eq_false', Bool.not_eq_eq_eq_not] at hc); (first | (cases hc) | (simp only [hc]) | skip))))
  all_goals
    (first | refine awp_ret ?_ | skip); refine ⟨(by first | exact .inl rfl | exact .inr rfl | exact .inr trivial | trivial), ?_⟩; simp only [go_sem, ↓reduceIte, Nat.reduceEqDiff, Nat.reduceAdd, Nat.reduceLeDiff, Nat.reduceBEq, Nat.reduceMul, reduceCtorEq, Int.reduceLE, Int.reduceLT, Int.reduceAdd, Int.reduceSub, Int.reduceNeg, Int.reduceToNat, Int.reduceBEq, retV, resL, resV, sealV, sealC, sealAll, Tryd.f31]
    (try simp only [decide_eq_true_eq, decide_eq_false_iff_not, beq_iff_eq, bne_iff_ne, ne_eq, beq_eq_false_iff_ne, bne_eq_false_iff_eq, Bool.and_eq_true, Bool.or_eq_true, Bool.or_eq_false_iff, Bool.and_eq_false_iff] at *)
    simp [validA, *]
def ValD.av (v : ValD) : AV := .agg [iv v.a.k, iv v.a.n, fv v.a.f, sv v.a.s, .dat (.lst 4 (v.l.map AtomD.enc))]
def validV (v : ValD) : Bool := if v.a.k = 6 then isA v.a false false false && decide ((v.l.length : Int) ≤ 16) && v.l.all validA else validA v.a && (v.l.length : Int) == 0
theorem validV_atom {v : ValD} (h : v.a.k ≠ 6) : validV v = (validA v.a && (v.l.length : Int) == 0) := if_neg h
theorem validV_list {v : ValD} (h : v.a.k = 6) : validV v = (isA v.a false false false && decide ((v.l.length : Int) ≤ 16) && v.l.all validA) := if_pos h
abbrev SVl (v : ValD) (ok : Bool) (k T : Nat) : St := ⟨[(4, iv k), (3, bv ok), (1, .ptr 1 0 0 0)], [(1, .box 0 [iv v.a.k, iv v.a.n, fv v.a.f, sv v.a.s, .dat (.lst 4 (v.l.map AtomD.enc))])], T⟩
def IVl (v : ValD) (ok0 : Bool) (n : Nat) (st : St) : Prop := ∃ k T, k ≤ v.l.length ∧ n = v.l.length - k ∧ (ok0 = true → v.l.length ≤ 16) ∧ st = SVl v (ok0 && (v.l.take k).all validA) k T
theorem all_take {α : Type} (p : α → Bool) (l : List α) (k : Nat) (h : k < l.length) : (l.take (k + 1)).all p = ((l.take k).all p && p l[k]) := by
  rw [List.take_succ_eq_append_getElem h, List.all_append]; simp
theorem all_short {α : Type} (p : α → Bool) (l : List α) (k : Nat) (h : (l.take k).all p = false) : l.all p = false := by
  cases hh : l.all p with
  | false => rfl
  | true =>
    have : (l.take k).all p = true := List.all_eq_true.2 fun x hx => List.all_eq_true.1 hh x (List.mem_of_mem_take hx)
    rw [h] at this; exact this.symm
theorem all_take0 {α : Type} (p : α → Bool) (l : List α) (b : Bool) : (b && (l.take 0).all p) = b := by simp
theorem c_Valid (v : ValD) : Pure Tryd.prog 11 [v.av] (bv (validV v)) := by
  refine pure_of_awp Tryd.func11 rfl rfl (by simp [Tryd.f11]) ?_; simp only [go_sem, ↓reduceIte, Nat.reduceEqDiff, Nat.reduceAdd, Nat.reduceLeDiff, Nat.reduceBEq, Nat.reduceMul, reduceCtorEq, Int.reduceLE, Int.reduceLT, Int.reduceAdd, Int.reduceSub, Int.reduceNeg, Int.reduceToNat, Int.reduceBEq]
  repeat' (first | refine awp_seq ?_ | refine awp_block ?_ | refine awp_round ?_ | refine awp_text rfl ?_ | refine awp_any rfl mix (by kernel_rfl) ?_ | (refine RunTo.unguard rfl rfl (fun hg => ?_) (fun hg => ?_) <;> ((try simp only [Bool.not_true, Bool.not_false, Bool.not_eq_true', Bool.not_eq_false', Bool.not_eq_eq_eq_not] at hg); (first | (cases hg) | (simp only [hg]) | skip))) | ((first | refine RunTo.plain rfl ?_ | refine RunTo.skipped rfl ?_ | refine RunTo.call (c_valid v.a) Tryd.func31 rfl rfl rfl rfl rfl rfl rfl rfl ?_ | refine RunTo.call (c_is v.a _ _ _) Tryd.func32 rfl rfl rfl rfl rfl rfl rfl rfl ?_); simp only [go_sem, ↓reduceIte, Nat.reduceEqDiff, Nat.reduceAdd, Nat.reduceLeDiff, Nat.reduceBEq, Nat.reduceMul, reduceCtorEq, Int.reduceLE, Int.reduceLT, Int.reduceAdd, Int.reduceSub, Int.reduceNeg, Int.reduceToNat, Int.reduceBEq, ValD.av, List.length_map]) | ((first | refine RunTo.nil ⟨by kernel_rfl, ?_⟩ | refine RunTo.nil ?_ | refine awp_skip ?_ | refine awp_exit ?_); simp only [go_sem, ↓reduceIte, Nat.reduceEqDiff, Nat.reduceAdd, Nat.reduceLeDiff, Nat.reduceBEq, Nat.reduceMul, reduceCtorEq, Int.reduceLE, Int.reduceLT, Int.reduceAdd, Int.reduceSub, Int.reduceNeg, Int.reduceToNat, Int.reduceBEq, ValD.av, List.length_map]) | (refine awp_cond' rfl (of_decide_eq_true rfl) (fun hc => ?_) (fun hc => ?_) <;> ((try simp only [Bool.not_true, Bool.not_false, Bool.not_eq_true', Bool.not_eq_false', Bool.not_eq_eq_eq_not] at hc); (first | (cases hc) | (simp only [hc]) | skip))))
  iterate 2
    · (first | refine awp_ret ?_ | skip); refine ⟨(by first | exact .inl rfl | exact .inr rfl | exact .inr trivial | trivial), ?_⟩; simp only [go_sem, ↓reduceIte, Nat.reduceEqDiff, Nat.reduceAdd, Nat.reduceLeDiff, Nat.reduceBEq, Nat.reduceMul, reduceCtorEq, Int.reduceLE, Int.reduceLT, Int.reduceAdd, Int.reduceSub, Int.reduceNeg, Int.reduceToNat, Int.reduceBEq, retV, resL, resV, sealV, sealC, sealAll, Tryd.f11]
      (try simp only [decide_eq_true_eq, decide_eq_false_iff_not, beq_iff_eq, bne_iff_ne, ne_eq, beq_eq_false_iff_ne, bne_eq_false_iff_eq, Bool.and_eq_true, Bool.or_eq_true, Bool.or_eq_false_iff, Bool.and_eq_false_iff] at *)
      simp [validV_atom hc, *]
  all_goals
    refine awp_loopw (IVl v (isA v.a false false false && decide ((v.l.length : Int) ≤ 16))) v.l.length (SVl v (isA v.a false false false && decide ((v.l.length : Int) ≤ 16)) 0 _) (weak_keep ⟨rfl, by simp [hg, aget], rfl, trivial⟩ ⟨rfl, trivial⟩ (Nat.le_refl _)) ⟨0, _, Nat.zero_le _, rfl, fun h => by simp at h; omega, by rw [all_take0]⟩ ?_
    rintro n st ⟨k, T, hk, rfl, h16, rfl⟩
    have hv : validV v = (isA v.a false false false && decide ((v.l.length : Int) ≤ 16) && v.l.all validA) := validV_list (by simpa using hc)
    generalize (isA v.a false false false && decide ((v.l.length : Int) ≤ 16)) = ok0 at *
    have hal := all_short validA v.l k
    by_cases hlt : k < v.l.length
    · have hdec := lt_t hlt
      have hget := row_at AtomD.enc v.l k hlt
      have htk := all_take validA v.l k hlt
      generalize v.l[k] = a at *
      cases hok : (ok0 && (v.l.take k).all validA) with
      | true =>
        have hl := h16 (by cases ok0 <;> simp_all)
        have hwk : IntKind.i64.wrap ((k : Int) + 1) = ((k + 1 : Nat) : Int) := wrap_succ (by omega)
        repeat' (first | refine awp_seq ?_ | refine awp_block ?_ | refine awp_round ?_ | refine awp_text rfl ?_ | refine awp_any rfl mix (by kernel_rfl) ?_ | (refine RunTo.unguard rfl rfl (fun hg => ?_) (fun hg => ?_) <;> ((try simp only [Bool.not_true, Bool.not_false, Bool.not_eq_true', Bool.not_eq_false', Bool.not_eq_eq_eq_not] at hg); (first | (cases hg) | (simp only [hg]) | skip))) | ((first | refine RunTo.plain rfl ?_ | refine RunTo.skipped rfl ?_ | refine RunTo.call (c_valid a) Tryd.func31 rfl rfl rfl rfl rfl rfl rfl rfl ?_); simp only [go_sem, ↓reduceIte, Nat.reduceEqDiff, Nat.reduceAdd, Nat.reduceLeDiff, Nat.reduceBEq, Nat.reduceMul, reduceCtorEq, Int.reduceLE, Int.reduceLT, Int.reduceAdd, Int.reduceSub, Int.reduceNeg, Int.reduceToNat, Int.reduceBEq, hdec, hget, AtomD.enc, List.length_map, hwk]) | ((first | refine RunTo.nil ⟨by kernel_rfl, ?_⟩ | refine RunTo.nil ?_ | refine awp_skip ?_ | refine awp_exit ?_); simp only [go_sem, ↓reduceIte, Nat.reduceEqDiff, Nat.reduceAdd, Nat.reduceLeDiff, Nat.reduceBEq, Nat.reduceMul, reduceCtorEq, Int.reduceLE, Int.reduceLT, Int.reduceAdd, Int.reduceSub, Int.reduceNeg, Int.reduceToNat, Int.reduceBEq, hdec, hget, AtomD.enc, List.length_map, hwk]) | (refine awp_cond' rfl (of_decide_eq_true rfl) (fun hc => ?_) (fun hc => ?_) <;> ((try simp only [Bool.not_true, Bool.not_false, Bool.not_eq_true', Bool.not_eq_false', Bool.not_eq_eq_eq_not] at hc); (first | (cases hc) | (simp only [hc]) | skip))))
        exact ⟨v.l.length - (k + 1), by omega, SVl v (validA a) (k + 1) _, weak_keep ⟨rfl, rfl, rfl, trivial⟩ ⟨rfl, trivial⟩ (Nat.le_refl _), k + 1, _, by omega, rfl, h16, by rw [htk, ← Bool.and_assoc, hok, Bool.true_and]⟩
      | false =>
        repeat' (first | refine awp_seq ?_ | refine awp_block ?_ | refine awp_round ?_ | refine awp_text rfl ?_ | refine awp_any rfl mix (by kernel_rfl) ?_ | (refine RunTo.unguard rfl rfl (fun hg => ?_) (fun hg => ?_) <;> ((try simp only [Bool.not_true, Bool.not_false, Bool.not_eq_true', Bool.not_eq_false', Bool.not_eq_eq_eq_not] at hg); (first | (cases hg) | (simp only [hg]) | skip))) | ((first | refine RunTo.plain rfl ?_ | refine RunTo.skipped rfl ?_); simp only [go_sem, ↓reduceIte, Nat.reduceEqDiff, Nat.reduceAdd, Nat.reduceLeDiff, Nat.reduceBEq, Nat.reduceMul, reduceCtorEq, Int.reduceLE, Int.reduceLT, Int.reduceAdd, Int.reduceSub, Int.reduceNeg, Int.reduceToNat, Int.reduceBEq, hdec, List.length_map]) | ((first | refine RunTo.nil ⟨by kernel_rfl, ?_⟩ | refine RunTo.nil ?_ | refine awp_skip ?_ | refine awp_exit ?_); simp only [go_sem, ↓reduceIte, Nat.reduceEqDiff, Nat.reduceAdd, Nat.reduceLeDiff, Nat.reduceBEq, Nat.reduceMul, reduceCtorEq, Int.reduceLE, Int.reduceLT, Int.reduceAdd, Int.reduceSub, Int.reduceNeg, Int.reduceToNat, Int.reduceBEq, hdec, List.length_map]) | (refine awp_cond' rfl (of_decide_eq_true rfl) (fun hc => ?_) (fun hc => ?_) <;> ((try simp only [Bool.not_true, Bool.not_false, Bool.not_eq_true', Bool.not_eq_false', Bool.not_eq_eq_eq_not] at hc); (first | (cases hc) | (simp only [hc]) | skip))))
        all_goals
          (first | refine awp_ret ?_ | skip); refine ⟨(by first | exact .inl rfl | exact .inr rfl | exact .inr trivial | trivial), ?_⟩; simp only [go_sem, ↓reduceIte, Nat.reduceEqDiff, Nat.reduceAdd, Nat.reduceLeDiff, Nat.reduceBEq, Nat.reduceMul, reduceCtorEq, Int.reduceLE, Int.reduceLT, Int.reduceAdd, Int.reduceSub, Int.reduceNeg, Int.reduceToNat, Int.reduceBEq, retV, resL, resV, sealV, sealC, sealAll, Tryd.f11]
          rw [hv]
          cases ok0 with
          | false => rfl
          | true => rw [hal (by simpa using hok)]; rfl
    · have hall : v.l.take k = v.l := List.take_of_length_le (by omega)
      have hdec := lt_f hlt
      cases hok : (ok0 && (v.l.take k).all validA) with
      | true =>
        repeat' (first | refine awp_seq ?_ | refine awp_block ?_ | refine awp_round ?_ | refine awp_text rfl ?_ | refine awp_any rfl mix (by kernel_rfl) ?_ | (refine RunTo.unguard rfl rfl (fun hg => ?_) (fun hg => ?_) <;> ((try simp only [Bool.not_true, Bool.not_false, Bool.not_eq_true', Bool.not_eq_false', Bool.not_eq_eq_eq_not] at hg); (first | (cases hg) | (simp only [hg]) | skip))) | ((first | refine RunTo.plain rfl ?_ | refine RunTo.skipped rfl ?_); simp only [go_sem, ↓reduceIte, Nat.reduceEqDiff, Nat.reduceAdd, Nat.reduceLeDiff, Nat.reduceBEq, Nat.reduceMul, reduceCtorEq, Int.reduceLE, Int.reduceLT, Int.reduceAdd, Int.reduceSub, Int.reduceNeg, Int.reduceToNat, Int.reduceBEq, hdec, List.length_map]) | ((first | refine RunTo.nil ⟨by kernel_rfl, ?_⟩ | refine RunTo.nil ?_ | refine awp_skip ?_ | refine awp_exit ?_); simp only [go_sem, ↓reduceIte, Nat.reduceEqDiff, Nat.reduceAdd, Nat.reduceLeDiff, Nat.reduceBEq, Nat.reduceMul, reduceCtorEq, Int.reduceLE, Int.reduceLT, Int.reduceAdd, Int.reduceSub, Int.reduceNeg, Int.reduceToNat, Int.reduceBEq, hdec, List.length_map]) | (refine awp_cond' rfl (of_decide_eq_true rfl) (fun hc => ?_) (fun hc => ?_) <;> ((try simp only [Bool.not_true, Bool.not_false, Bool.not_eq_true', Bool.not_eq_false', Bool.not_eq_eq_eq_not] at hc); (first | (cases hc) | (simp only [hc]) | skip))))
        all_goals
          (first | refine awp_ret ?_ | skip); refine ⟨(by first | exact .inl rfl | exact .inr rfl | exact .inr trivial | trivial), ?_⟩; simp only [go_sem, ↓reduceIte, Nat.reduceEqDiff, Nat.reduceAdd, Nat.reduceLeDiff, Nat.reduceBEq, Nat.reduceMul, reduceCtorEq, Int.reduceLE, Int.reduceLT, Int.reduceAdd, Int.reduceSub, Int.reduceNeg, Int.reduceToNat, Int.reduceBEq, retV, resL, resV, sealV, sealC, sealAll, Tryd.f11]
          rw [hv, ← hall, hok]
      | false =>
        repeat' (first | refine awp_seq ?_ | refine awp_block ?_ | refine awp_round ?_ | refine awp_text rfl ?_ | refine awp_any rfl mix (by kernel_rfl) ?_ | (refine RunTo.unguard rfl rfl (fun hg => ?_) (fun hg => ?_) <;> ((try simp only [Bool.not_true, Bool.not_false, Bool.not_eq_true', Bool.not_eq_false', Bool.not_eq_eq_eq_not] at hg); (first | (cases hg) | (simp only [hg]) | skip))) | ((first | refine RunTo.plain rfl ?_ | refine RunTo.skipped rfl ?_); simp only [go_sem, ↓reduceIte, Nat.reduceEqDiff, Nat.reduceAdd, Nat.reduceLeDiff, Nat.reduceBEq, Nat.reduceMul, reduceCtorEq, Int.reduceLE, Int.reduceLT, Int.reduceAdd, Int.reduceSub, Int.reduceNeg, Int.reduceToNat, Int.reduceBEq, hdec, List.length_map]) | ((first | refine RunTo.nil ⟨by kernel_rfl, ?_⟩ | refine RunTo.nil ?_ | refine awp_skip ?_ | refine awp_exit ?_); simp only [go_sem, ↓reduceIte, Nat.reduceEqDiff, Nat.reduceAdd, Nat.reduceLeDiff, Nat.reduceBEq, Nat.reduceMul, reduceCtorEq, Int.reduceLE, Int.reduceLT, Int.reduceAdd, Int.reduceSub, Int.reduceNeg, Int.reduceToNat, Int.reduceBEq, hdec, List.length_map]) | (refine awp_cond' rfl (of_decide_eq_true rfl) (fun hc => ?_) (fun hc => ?_) <;> ((try simp only [Bool.not_true, Bool.not_false, Bool.not_eq_true', Bool.not_eq_false', Bool.not_eq_eq_eq_not] at hc); (first | (cases hc) | (simp only [hc]) | skip))))
        all_goals
          (first | refine awp_ret ?_ | skip); refine ⟨(by first | exact .inl rfl | exact .inr rfl | exact .inr trivial | trivial), ?_⟩; simp only [go_sem, ↓reduceIte, Nat.reduceEqDiff, Nat.reduceAdd, Nat.reduceLeDiff, Nat.reduceBEq, Nat.reduceMul, reduceCtorEq, Int.reduceLE, Int.reduceLT, Int.reduceAdd, Int.reduceSub, Int.reduceNeg, Int.reduceToNat, Int.reduceBEq, retV, resL, resV, sealV, sealC, sealAll, Tryd.f11]
          rw [hv, ← hall, hok]
end Go.Proofs.YtjihcldhjpdnmaaDoor.AM
namespace Go.Proofs.YtjihcldhjpdnmaaDoor.FL
open Go.RowKit Ieee
set_option linter.unusedVariables false
set_option linter.unusedSimpArgs false
def fOrd (a b : Nat) : Option Ordering := Ieee.double.order a b
def fEq (a b : Nat) : Bool := fOrd a b == some .eq
def fNe (a b : Nat) : Bool := fOrd a b != some .eq
def fLt (a b : Nat) : Bool := fOrd a b == some .lt
def fGt (a b : Nat) : Bool := fOrd a b == some .gt
def fGe (a b : Nat) : Bool := fOrd a b == some .gt || fOrd a b == some .eq
def fNaN (a : Nat) : Bool := (Ieee.double.read a).isNaN
def fTrunc (a : Nat) : Nat := Ieee.double.write ((Ieee.double.read a).integral .zero)
def fIntOk (a : Nat) : Bool := match (Ieee.double.read a).toInt .zero with
  | some n => decide (-9223372036854775808 ≤ n ∧ n ≤ 9223372036854775807)
  | none => false
def fInt (a : Nat) : Int := ((Ieee.double.read a).toInt .zero).getD 0
def fNeg (a : Nat) : Nat := a ^^^ 9223372036854775808
def B52 : Nat := 4503599627370496
def S63 : Nat := 9223372036854775808
def INF : Nat := 9218868437227405312
theorem signWeight_eq : double.signWeight = S63 := rfl
theorem binade_eq : double.binade = B52 := rfl
theorem infRung_eq : double.infRung = INF := rfl
theorem leastPlace_eq : double.leastPlace = -1074 := rfl
def rung (b : Nat) : Nat := b % S63
def neg (b : Nat) : Bool := b / S63 % 2 == 1
def mval (r : Nat) : Nat := if r < B52 then r else (B52 + r % B52) * 2 ^ (r / B52 - 1)
def nan (b : Nat) : Bool := decide (INF < rung b)
def sgn (s : Bool) (n : Nat) : Int := if s then -(n : Int) else n
def sv (b : Nat) : Int := sgn (neg b) (mval (rung b))
theorem mval_bounds (r : Nat) (h : B52 ≤ r) : B52 * 2 ^ (r / B52 - 1) ≤ mval r ∧ mval r < B52 * 2 ^ (r / B52) := by
  have hp : 0 < B52 := by decide
  have hm : r % B52 < B52 := Nat.mod_lt _ hp
  have hq : 1 ≤ r / B52 := (Nat.le_div_iff_mul_le hp).2 (by omega)
  unfold mval
  rw [if_neg (by omega)]
  refine ⟨Nat.mul_le_mul_right _ (by omega), ?_⟩
  obtain ⟨q, hq'⟩ : ∃ q, r / B52 = q + 1 := ⟨r / B52 - 1, by omega⟩
  rw [hq', Nat.add_sub_cancel, Nat.pow_succ, ← Nat.mul_assoc, Nat.mul_comm _ 2, ← Nat.mul_assoc]
  exact Nat.mul_lt_mul_of_pos_right (by omega) (Nat.two_pow_pos q)
theorem mval_lt {r s : Nat} (h : r < s) : mval r < mval s := by
  have hp : 0 < B52 := by decide
  by_cases hs : s < B52
  · unfold mval
    rw [if_pos (by omega), if_pos hs]
    exact h
  have hsb := mval_bounds s (by omega)
  have hq : 1 ≤ s / B52 := (Nat.le_div_iff_mul_le hp).2 (by omega)
  by_cases hr : r < B52
  · have : mval r = r := by unfold mval; rw [if_pos hr]
    rw [this]
    have : B52 * 1 ≤ B52 * 2 ^ (s / B52 - 1) := Nat.mul_le_mul_left _ (Nat.two_pow_pos _)
    omega
  have hrb := mval_bounds r (by omega)
  have hle : r / B52 ≤ s / B52 := Nat.div_le_div_right (by omega)
  by_cases e : r / B52 = s / B52
  · unfold mval
    rw [if_neg hr, if_neg hs, e]
    refine Nat.mul_lt_mul_of_pos_right ?_ (Nat.two_pow_pos _)
    have h1 := Nat.div_add_mod r B52
    have h2 := Nat.div_add_mod s B52
    rw [e] at h1
    omega
  · have : B52 * 2 ^ (r / B52) ≤ B52 * 2 ^ (s / B52 - 1) := Nat.mul_le_mul_left _ (Nat.pow_le_pow_right (by omega) (by omega))
    omega
theorem mval_zero : mval 0 = 0 := rfl
theorem mval_pos {r : Nat} (h : 0 < r) : 0 < mval r := by
  have := mval_lt h
  omega
theorem read_number (b : Nat) (h : rung b < INF) : ∃ (m e : Nat), double.read b = .number (neg b) m (-1074 + (e : Int)) ∧ m * 2 ^ e = mval (rung b) := by
  unfold Format.read mval
  rw [signWeight_eq, binade_eq, infRung_eq, leastPlace_eq]
  show ∃ m e, (if rung b < B52 then Datum.number (neg b) (rung b) (-1074) else if rung b < INF then .number (neg b) (B52 + rung b % B52) (-1074 + ((rung b / B52 - 1 : Nat) : Int)) else if rung b = INF then .infinity (neg b) else .nan (neg b) (rung b - INF)) = _ ∧ _
  by_cases h1 : rung b < B52
  · rw [if_pos h1, if_pos h1]
    exact ⟨rung b, 0, rfl, by simp⟩
  · rw [if_neg h1, if_neg h1, if_pos h]
    exact ⟨_, _, rfl, rfl⟩
theorem read_inf (b : Nat) (h : rung b = INF) : double.read b = .infinity (neg b) := by
  unfold Format.read
  rw [signWeight_eq, binade_eq, infRung_eq, leastPlace_eq]
  show (if rung b < B52 then Datum.number (neg b) (rung b) (-1074) else if rung b < INF then .number (neg b) (B52 + rung b % B52) (-1074 + ((rung b / B52 - 1 : Nat) : Int)) else if rung b = INF then .infinity (neg b) else .nan (neg b) (rung b - INF)) = _
  rw [if_neg (by rw [h]; decide), if_neg (by omega), if_pos h]
theorem read_nan (b : Nat) (h : INF < rung b) : double.read b = .nan (neg b) (rung b - INF) := by
  unfold Format.read
  rw [signWeight_eq, binade_eq, infRung_eq, leastPlace_eq]
  show (if rung b < B52 then Datum.number (neg b) (rung b) (-1074) else if rung b < INF then .number (neg b) (B52 + rung b % B52) (-1074 + ((rung b / B52 - 1 : Nat) : Int)) else if rung b = INF then .infinity (neg b) else .nan (neg b) (rung b - INF)) = _
  rw [if_neg (by have : B52 < INF := by decide
                 omega), if_neg (by omega), if_neg (by omega)]
theorem fNaN_eq (b : Nat) : fNaN b = nan b := by
  unfold fNaN nan
  rcases Nat.lt_trichotomy (rung b) INF with h | h | h
  · obtain ⟨m, e, hr, _⟩ := read_number b h
    rw [hr, decide_eq_false (by omega)]
    rfl
  · rw [read_inf b h, decide_eq_false (by omega)]
    rfl
  · rw [read_nan b h, decide_eq_true h]
    rfl
theorem cmp_scale (x y : Int) (c : Nat) (hc : 0 < c) : compare (x * c) (y * c) = compare x y := by
  have hc' : (0 : Int) < (c : Int) := by omega
  rcases Int.lt_trichotomy x y with h | h | h
  · rw [Int.compare_eq_lt.2 h, Int.compare_eq_lt.2 (Int.mul_lt_mul_of_pos_right h hc')]
  · rw [h]
    rw [Int.compare_eq_eq.2 rfl, Int.compare_eq_eq.2 rfl]
  · rw [Int.compare_eq_gt.2 h, Int.compare_eq_gt.2 (Int.mul_lt_mul_of_pos_right h hc')]
theorem signed_eq (s : Bool) (m u : Nat) : signed s m u = sgn s (m * 2 ^ u) := by
  unfold signed sgn
  rw [Nat.shiftLeft_eq]
theorem sgn_mul (s : Bool) (m c : Nat) : sgn s m * (c : Int) = sgn s (m * c) := by
  unfold sgn
  split
  · rw [Int.neg_mul, Int.natCast_mul]
  · rw [Int.natCast_mul]
theorem order_numbers (s t : Bool) (m n e f : Nat) : (Datum.number s m (-1074 + (e : Int))).order (.number t n (-1074 + (f : Int))) = some (compare (sgn s (m * 2 ^ e)) (sgn t (n * 2 ^ f))) := by
  show some (compare (signed s m ((-1074 + (e : Int)) - min (-1074 + (e : Int)) (-1074 + (f : Int))).toNat) (signed t n ((-1074 + (f : Int)) - min (-1074 + (e : Int)) (-1074 + (f : Int))).toNat)) = _
  obtain ⟨g, hg⟩ : ∃ g : Nat, g = min e f := ⟨_, rfl⟩
  have e1 : ((-1074 + (e : Int)) - min (-1074 + (e : Int)) (-1074 + (f : Int))).toNat = e - g := by omega
  have e2 : ((-1074 + (f : Int)) - min (-1074 + (e : Int)) (-1074 + (f : Int))).toNat = f - g := by omega
  rw [e1, e2, signed_eq, signed_eq, ← cmp_scale _ _ (2 ^ g) (Nat.two_pow_pos g), sgn_mul, sgn_mul, Nat.mul_assoc, Nat.mul_assoc, ← Nat.pow_add, ← Nat.pow_add,
    show e - g + g = e by omega, show f - g + g = f by omega]
theorem fOrd_eq (a b : Nat) : fOrd a b = if nan a = true ∨ nan b = true then none else some (compare (sv a) (sv b)) := by
  unfold fOrd Format.order
  by_cases ha : INF < rung a
  · rw [if_pos (.inl (by unfold nan; exact decide_eq_true ha)), read_nan a ha]
    rfl
  by_cases hb : INF < rung b
  · rw [if_pos (.inr (by unfold nan; exact decide_eq_true hb)), read_nan b hb]
    cases double.read a <;> rfl
  rw [if_neg (by unfold nan; simp [ha, hb])]
  rcases Nat.lt_or_ge (rung a) INF with h1 | h1
  · obtain ⟨m, e, hr, hv⟩ := read_number a h1
    rcases Nat.lt_or_ge (rung b) INF with h2 | h2
    · obtain ⟨n, f, hr', hv'⟩ := read_number b h2
      rw [hr, hr', order_numbers, hv, hv']
      rfl
    · have h2' : rung b = INF := by omega
      rw [hr, read_inf b h2']
      have hlt := mval_lt (show rung a < rung b by omega)
      show some (if neg b then Ordering.gt else .lt) = _
      unfold sv sgn
      cases neg a <;> cases neg b <;> simp only [Bool.false_eq_true, if_true, if_false] <;> first | rw [Int.compare_eq_lt.2 (by omega)] | rw [Int.compare_eq_gt.2 (by omega)]
  · have h1' : rung a = INF := by omega
    rcases Nat.lt_or_ge (rung b) INF with h2 | h2
    · obtain ⟨n, f, hr', hv'⟩ := read_number b h2
      rw [hr', read_inf a h1']
      have hlt := mval_lt (show rung b < rung a by omega)
      show some (if neg a then Ordering.lt else .gt) = _
      unfold sv sgn
      cases neg a <;> cases neg b <;> simp only [Bool.false_eq_true, if_true, if_false] <;> first | rw [Int.compare_eq_lt.2 (by omega)] | rw [Int.compare_eq_gt.2 (by omega)]
    · have h2' : rung b = INF := by omega
      rw [read_inf a h1', read_inf b h2']
      have hpos := mval_pos (r := INF) (by decide)
      show some (compare (neg b).toNat (neg a).toNat) = _
      unfold sv sgn
      rw [h1', h2']
      cases neg a <;> cases neg b <;> simp only [Bool.false_eq_true, if_true, if_false] <;> first | (rw [Int.compare_eq_eq.2 rfl]; rfl) | (rw [Int.compare_eq_gt.2 (by omega)]; rfl) | (rw [Int.compare_eq_lt.2 (by omega)]; rfl)
theorem ord_cases (x y : Int) : (compare x y = .lt ∧ x < y) ∨ (compare x y = .eq ∧ x = y) ∨ (compare x y = .gt ∧ y < x) := by
  rcases Int.lt_trichotomy x y with h | h | h
  · exact .inl ⟨Int.compare_eq_lt.2 h, h⟩
  · exact .inr (.inl ⟨Int.compare_eq_eq.2 h, h⟩)
  · exact .inr (.inr ⟨Int.compare_eq_gt.2 h, h⟩)
section
variable (a b : Nat)
theorem fLt_eq : fLt a b = (!nan a && !nan b && decide (sv a < sv b)) := by
  unfold fLt
  rw [fOrd_eq]
  cases nan a <;> cases nan b <;> simp
  rcases ord_cases (sv a) (sv b) with ⟨h, h'⟩ | ⟨h, h'⟩ | ⟨h, h'⟩ <;> rw [h] <;> simp <;> omega
theorem fGt_eq : fGt a b = (!nan a && !nan b && decide (sv b < sv a)) := by
  unfold fGt
  rw [fOrd_eq]
  cases nan a <;> cases nan b <;> simp
  rcases ord_cases (sv a) (sv b) with ⟨h, h'⟩ | ⟨h, h'⟩ | ⟨h, h'⟩ <;> rw [h] <;> simp <;> omega
theorem fEq_eq : fEq a b = (!nan a && !nan b && decide (sv a = sv b)) := by
  unfold fEq
  rw [fOrd_eq]
  cases nan a <;> cases nan b <;> simp
  rcases ord_cases (sv a) (sv b) with ⟨h, h'⟩ | ⟨h, h'⟩ | ⟨h, h'⟩ <;> rw [h] <;> simp <;> omega
theorem fNe_eq : fNe a b = !(!nan a && !nan b && decide (sv a = sv b)) := by
  rw [← fEq_eq]
  unfold fNe fEq
  cases fOrd a b <;> rfl
theorem fGe_eq : fGe a b = (!nan a && !nan b && decide (sv b ≤ sv a)) := by
  unfold fGe
  rw [fOrd_eq]
  cases nan a <;> cases nan b <;> simp
  rcases ord_cases (sv a) (sv b) with ⟨h, h'⟩ | ⟨h, h'⟩ | ⟨h, h'⟩ <;> rw [h] <;> simp <;> omega
end
theorem mod_sign (b : Nat) (h : b < S63) : rung b = b ∧ neg b = false := by
  have : S63 = 9223372036854775808 := rfl
  unfold rung neg
  rw [Nat.mod_eq_of_lt h, Nat.div_eq_of_lt h]
  exact ⟨rfl, rfl⟩
theorem mod_sign2 (b : Nat) (h : b < S63) : rung (S63 + b) = b ∧ neg (S63 + b) = true := by
  unfold rung neg
  rw [Nat.add_mod_left, Nat.mod_eq_of_lt h, Nat.add_div_left _ (by decide), Nat.div_eq_of_lt h]
  exact ⟨rfl, rfl⟩
theorem sv_pos (b : Nat) (h : b < S63) : sv b = mval b := by
  unfold sv sgn
  rw [(mod_sign b h).1, (mod_sign b h).2]
  rfl
theorem sv_neg (b : Nat) (h : b < S63) : sv (S63 + b) = -(mval b : Int) := by
  unfold sv sgn
  rw [(mod_sign2 b h).1, (mod_sign2 b h).2]
  rfl
theorem word_cases (b : Nat) (h : b < 18446744073709551616) : (b < S63 ∧ neg b = false ∧ b = rung b) ∨ (S63 ≤ b ∧ neg b = true ∧ b = S63 + rung b) := by
  have hs : S63 = 9223372036854775808 := rfl
  rcases Nat.lt_or_ge b S63 with h1 | h1
  · exact .inl ⟨h1, (mod_sign b h1).2, (mod_sign b h1).1.symm⟩
  · obtain ⟨c, rfl⟩ : ∃ c, b = S63 + c := ⟨b - S63, by omega⟩
    have hc : c < S63 := by omega
    exact .inr ⟨h1, (mod_sign2 c hc).2, by rw [(mod_sign2 c hc).1]⟩
def pl : Nat := 1074
def ONE : Nat := 2 ^ pl
theorem pl_eq : pl = 1074 := rfl
theorem pow_help (a b c d : Nat) (h : a + b = c + d) : 2 ^ a * 2 ^ b = 2 ^ c * 2 ^ d := by rw [← Nat.pow_add, ← Nat.pow_add, h]
theorem one_pos : 0 < ONE := Nat.two_pow_pos _
theorem mval_twoTo63 : mval 4890909195324358656 = 9223372036854775808 * ONE := by
  have h1 : ¬ 4890909195324358656 < B52 := by decide
  have h2 : 4890909195324358656 % B52 = 0 := by decide
  have h3 : 4890909195324358656 / B52 = 1086 := by decide
  have e1 : B52 = 2 ^ 52 := rfl
  have e2 : (9223372036854775808 : Nat) = 2 ^ 63 := by decide
  unfold mval ONE
  rw [if_neg h1, h2, h3, e1, e2, Nat.add_zero]
  have key := pow_help 52 1085 63 pl (by rw [pl_eq])
  rw [show (1086 - 1 : Nat) = 1085 from rfl]
  exact key
theorem sv_twoTo63 : sv 4890909195324358656 = 9223372036854775808 * (ONE : Int) := by
  rw [sv_pos _ (by decide), mval_twoTo63, Int.natCast_mul]
  rfl
theorem sv_minusTwoTo63 : sv 14114281232179134464 = -(9223372036854775808 * (ONE : Int)) := by
  have e : (14114281232179134464 : Nat) = S63 + 4890909195324358656 := by decide
  rw [e, sv_neg _ (by decide), mval_twoTo63, Int.natCast_mul]
  rfl
theorem nan_lit1 : nan 4890909195324358656 = false := by decide
theorem nan_lit2 : nan 14114281232179134464 = false := by decide
theorem nan_lit3 : nan 9218868437227405311 = false := by decide
theorem nan_lit0 : nan 0 = false := by decide
theorem sv_zero : sv 0 = 0 := by rw [sv_pos 0 (by decide), mval_zero]; rfl
theorem sv_max : sv 9218868437227405311 = mval (INF - 1) := sv_pos _ (by decide)
theorem cut_zero (s : Bool) (n d : Nat) : Toward.zero.cut s n d = n / 2 ^ d := by
  unfold Toward.cut
  simp only [Bool.toNat_false, Nat.add_zero]
  rw [Nat.shiftLeft_eq, Nat.one_mul]
  by_cases h : d ≤ n.log2 + 2
  · rw [Nat.min_eq_left h]
  · rw [Nat.min_eq_right (by omega)]
    have h1 : n < 2 ^ (n.log2 + 2) := Nat.lt_of_lt_of_le (Nat.lt_log2_self) (Nat.pow_le_pow_right (by omega) (by omega))
    rw [Nat.div_eq_of_lt h1, Nat.div_eq_of_lt (Nat.lt_of_lt_of_le h1 (Nat.pow_le_pow_right (by omega) (by omega)))]
def fl (b : Nat) : Nat := mval (rung b) / ONE
theorem integral_zero (b : Nat) (h : rung b < INF) : (double.read b).integral .zero = .number (neg b) (fl b) 0 := by
  obtain ⟨m, e, hr, hv⟩ := read_number b h
  rw [hr]
  show Datum.number (neg b) (Toward.zero.cut (neg b) (m <<< (-1074 + (e : Int)).toNat) (-(-1074 + (e : Int))).toNat) 0 = _
  rw [cut_zero, Nat.shiftLeft_eq]
  unfold fl ONE
  rw [← hv]
  congr 1
  by_cases he : e ≤ 1074
  · have e1 : (-1074 + (e : Int)).toNat = 0 := by omega
    have e2 : (-(-1074 + (e : Int))).toNat = 1074 - e := by omega
    rw [e1, e2, Nat.pow_zero, Nat.mul_one]
    have e3 : 2 ^ pl = 2 ^ (1074 - e) * 2 ^ e := by rw [← Nat.pow_add]; congr 1; rw [pl_eq]; omega
    rw [e3, Nat.mul_div_mul_right _ _ (Nat.two_pow_pos e)]
  · have e1 : (-1074 + (e : Int)).toNat = e - 1074 := by omega
    have e2 : (-(-1074 + (e : Int))).toNat = 0 := by omega
    have e3 : 2 ^ e = 2 ^ (e - 1074) * 2 ^ pl := by rw [← Nat.pow_add]; congr 1; rw [pl_eq]; omega
    rw [e1, e2, Nat.pow_zero, Nat.div_one, e3, ← Nat.mul_assoc, Nat.mul_div_cancel _ (Nat.two_pow_pos pl)]
theorem toInt_eq (b : Nat) (h : rung b < INF) : (double.read b).toInt .zero = some (sgn (neg b) (fl b)) := by
  unfold Datum.toInt
  rw [integral_zero b h]
  show some (signed (neg b) (fl b) 0) = _
  rw [signed_eq, Nat.pow_zero, Nat.mul_one]
theorem write_whole (s : Bool) (w : Nat) (hw : 0 < w) (h63 : w ≤ 9223372036854775808) (hd : ∀ d, w.log2 = 52 + d → 2 ^ d ∣ w) :
    ∃ r, double.write (.number s w 0) = double.word s r ∧ r < INF ∧ mval r = w * ONE := by
  have hl : 2 ^ w.log2 ≤ w := Nat.log2_self_le (by omega)
  have hu : w < 2 ^ (w.log2 + 1) := Nat.lt_log2_self
  have hlog : w.log2 ≤ 63 := by
    rcases Nat.lt_or_ge 63 w.log2 with h | h
    · have : 2 ^ 64 ≤ 2 ^ w.log2 := Nat.pow_le_pow_right (by omega) (by omega)
      omega
    · exact h
  have hword : ∀ (k : Nat) (lg : Int), double.leastPlace + (lg - double.leastPlace) = lg := fun _ _ => by omega
  show ∃ r, double.nearest s w 0 = _ ∧ _
  unfold Format.nearest
  rw [if_neg (by omega), leastPlace_eq, binade_eq, infRung_eq]
  have hf : (double.fractionBits : Int) = 52 := rfl
  rw [hf]
  have hmx : max (0 + (w.log2 : Int) - 52) (-1074) = (w.log2 : Int) - 52 := by omega
  rw [hmx]
  obtain ⟨kp, hk, hk1, hk2, hk3⟩ : ∃ kp, Toward.even.cut s (w <<< (0 - ((w.log2 : Int) - 52)).toNat) ((w.log2 : Int) - 52 - 0).toNat = kp ∧ B52 ≤ kp ∧ kp < 2 * B52 ∧ kp * 2 ^ (w.log2 + 1022) = w * ONE := by
    have hB : B52 = 2 ^ 52 := rfl
    rcases Nat.lt_or_ge 52 w.log2 with h | h
    · obtain ⟨d, hd'⟩ : ∃ d, w.log2 = 52 + d := ⟨w.log2 - 52, by omega⟩
      obtain ⟨c, hc⟩ := hd d hd'
      have e1 : (0 - ((w.log2 : Int) - 52)).toNat = 0 := by omega
      have e2 : ((w.log2 : Int) - 52 - 0).toNat = d := by omega
      have hp := Nat.two_pow_pos d
      refine ⟨c, ?_, ?_, ?_, ?_⟩
      · rw [e1, e2, Nat.shiftLeft_zero]
        unfold Toward.cut
        simp only []
        rw [Nat.min_eq_left (by omega), Nat.shiftLeft_eq, Nat.one_mul, hc, Nat.mul_mod_right, Nat.mul_div_cancel_left _ hp]
        simp [Nat.ne_of_gt hp]
      · have : 2 ^ d * B52 ≤ 2 ^ d * c := by rw [← hc, hB, ← Nat.pow_add, Nat.add_comm d, ← hd']; exact hl
        exact Nat.le_of_mul_le_mul_left this hp
      · have : 2 ^ d * c < 2 ^ d * (2 * B52) := by
          rw [← hc, hB, show 2 * 2 ^ 52 = 2 ^ 53 by rfl, ← Nat.pow_add, show d + 53 = w.log2 + 1 by omega]
          exact hu
        exact Nat.lt_of_mul_lt_mul_left this
      · conv => rhs; rw [hc]
        unfold ONE
        rw [show w.log2 + 1022 = d + pl by rw [pl_eq]; omega, Nat.pow_add, ← Nat.mul_assoc, Nat.mul_comm c]
    · have e1 : (0 - ((w.log2 : Int) - 52)).toNat = 52 - w.log2 := by omega
      have e2 : ((w.log2 : Int) - 52 - 0).toNat = 0 := by omega
      have hp := Nat.two_pow_pos (52 - w.log2)
      refine ⟨w * 2 ^ (52 - w.log2), ?_, ?_, ?_, ?_⟩
      · rw [e1, e2, Nat.shiftLeft_eq]
        unfold Toward.cut
        simp only []
        rw [Nat.min_eq_left (by omega), Nat.shiftLeft_eq, Nat.one_mul, Nat.pow_zero, Nat.mod_one, Nat.div_one]
        simp
      · rw [hB, show (2 : Nat) ^ 52 = 2 ^ w.log2 * 2 ^ (52 - w.log2) by rw [← Nat.pow_add]; congr 1; omega]
        exact Nat.mul_le_mul_right _ hl
      · rw [hB, show 2 * (2 : Nat) ^ 52 = 2 ^ (w.log2 + 1) * 2 ^ (52 - w.log2) by rw [← Nat.pow_add, show w.log2 + 1 + (52 - w.log2) = 53 by omega]]
        exact Nat.mul_lt_mul_of_pos_right hu hp
      · unfold ONE
        rw [Nat.mul_assoc, ← Nat.pow_add, show 52 - w.log2 + (w.log2 + 1022) = pl by rw [pl_eq]; omega]
  simp only []
  rw [hk]
  have e4 : ((w.log2 : Int) - 52 - -1074).toNat = w.log2 + 1022 := by omega
  rw [e4]
  have hB : B52 = 4503599627370496 := rfl
  have hI : INF = 9218868437227405312 := rfl
  have hlt : (w.log2 + 1022) * B52 + kp < INF := by rw [hB, hI]; rw [hB] at hk2; omega
  rw [Nat.min_eq_left (by omega)]
  refine ⟨_, rfl, hlt, ?_⟩
  have hq : ((w.log2 + 1022) * B52 + kp) / B52 = w.log2 + 1023 := by
    have h1 : kp / B52 = 1 := Nat.div_eq_of_lt_le (by omega) (by omega)
    rw [Nat.mul_comm, Nat.mul_add_div (by decide), h1]
  have hm : ((w.log2 + 1022) * B52 + kp) % B52 = kp - B52 := by
    rw [Nat.mul_comm, Nat.mul_add_mod, Nat.mod_eq_sub_mod hk1, Nat.mod_eq_of_lt (by omega)]
  unfold mval
  rw [if_neg (by omega), hq, hm, show B52 + (kp - B52) = kp by omega, show w.log2 + 1023 - 1 = w.log2 + 1022 by omega, ← hk3]
theorem fl_digits (b : Nat) (h : rung b < INF) : ∀ d, (fl b).log2 = 52 + d → fl b ≠ 0 → 2 ^ d ∣ fl b := by
  intro d hd h0
  by_cases hd0 : d = 0
  · rw [hd0]; exact ⟨_, (Nat.one_mul _).symm⟩
  have hl : 2 ^ (fl b).log2 ≤ fl b := Nat.log2_self_le h0
  have hB : B52 = 2 ^ 52 := rfl
  have hm : 2 ^ (52 + d) * ONE ≤ mval (rung b) := by
    rw [← hd]
    exact Nat.le_trans (Nat.mul_le_mul_right _ hl) (Nat.div_mul_le_self _ _)
  have hb : B52 ≤ rung b := by
    rcases Nat.lt_or_ge (rung b) B52 with h1 | h1
    · have h2 : mval (rung b) = rung b := by unfold mval; rw [if_pos h1]
      have h3 : 2 ^ 52 * 1 ≤ 2 ^ (52 + d) * ONE := Nat.mul_le_mul (Nat.pow_le_pow_right (by omega) (by omega)) one_pos
      omega
    · exact h1
  have h4 := (mval_bounds _ hb).2
  have h5 : 2 ^ (52 + d) * ONE < B52 * 2 ^ (rung b / B52) := Nat.lt_of_le_of_lt hm h4
  unfold ONE at h5
  rw [hB, ← Nat.pow_add, ← Nat.pow_add] at h5
  have h6 := (Nat.pow_lt_pow_iff_right (by omega : 1 < 2)).1 h5
  rw [pl_eq] at h6
  rw [← hB] at h6
  obtain ⟨g, hg⟩ : ∃ g, rung b / B52 - 1 = g + d + pl := ⟨rung b / B52 - 1 - d - 1074, by rw [pl_eq]; omega⟩
  have h7 : fl b = (B52 + rung b % B52) * 2 ^ g * 2 ^ d := by
    unfold fl mval ONE
    rw [if_neg (by omega), hg, Nat.pow_add, Nat.pow_add, ← Nat.mul_assoc, ← Nat.mul_assoc, Nat.mul_div_cancel _ (Nat.two_pow_pos pl)]
  exact ⟨_, by rw [h7, Nat.mul_comm]⟩
theorem word_parts (s : Bool) (r : Nat) (h : r < S63) : neg (double.word s r) = s ∧ rung (double.word s r) = r := by
  unfold Format.word
  rw [signWeight_eq]
  cases s
  · exact ⟨(mod_sign r h).2, (mod_sign r h).1⟩
  · exact ⟨(mod_sign2 r h).2, (mod_sign2 r h).1⟩
theorem trunc_eq (b : Nat) (h : rung b < INF) (hle : fl b ≤ 9223372036854775808) :
    rung (fTrunc b) < INF ∧ mval (rung (fTrunc b)) = fl b * ONE ∧ neg (fTrunc b) = neg b := by
  unfold fTrunc
  rw [integral_zero b h]
  by_cases h0 : fl b = 0
  · have e : double.write (.number (neg b) (fl b) 0) = double.word (neg b) 0 := by
      rw [h0]
      rfl
    obtain ⟨h1, h2⟩ := word_parts (neg b) 0 (by decide)
    rw [e, h1, h2, h0, Nat.zero_mul]
    exact ⟨by decide, rfl, rfl⟩
  · obtain ⟨r, e, h1, h2⟩ := write_whole (neg b) (fl b) (by omega) hle (fun d hd => fl_digits b h d hd h0)
    have hs : INF < S63 := by decide
    obtain ⟨h3, h4⟩ := word_parts (neg b) r (by omega)
    rw [e, h3, h4]
    exact ⟨h1, h2, rfl⟩
def cmp3 (x y : Int) : Int := if x < y then -1 else if y < x then 1 else 0
def TOP : Int := mval INF + 1
def fkey (b : Nat) : Int := if nan b then TOP else sv b
def ikey (n : Int) : Int := n * ONE
theorem sv_bound (b : Nat) (h : nan b = false) : -TOP < sv b ∧ sv b < TOP := by
  have h1 : ¬ INF < rung b := by simpa [nan] using h
  have h2 : mval (rung b) ≤ mval INF := by
    rcases Nat.lt_or_ge (rung b) INF with h3 | h3
    · exact Nat.le_of_lt (mval_lt h3)
    · rw [show rung b = INF by omega]; exact Nat.le_refl _
  unfold sv sgn TOP
  split <;> omega
theorem ikey_bound (n : Int) (h1 : -9223372036854775808 ≤ n) (h2 : n ≤ 9223372036854775807) : -TOP < ikey n ∧ ikey n < TOP := by
  have h : (9223372036854775808 * ONE : Nat) ≤ mval INF := by
    rw [← mval_twoTo63]
    exact Nat.le_of_lt (mval_lt (by decide))
  have ho : (0 : Int) < (ONE : Int) := by have := one_pos; omega
  have h3 : (9223372036854775808 : Int) * ONE ≤ mval INF := by
    have := Int.ofNat_le.2 h
    rw [Int.natCast_mul] at this
    exact this
  have h4 : n * ONE ≤ 9223372036854775808 * (ONE : Int) := Int.mul_le_mul_of_nonneg_right (by omega) (by omega)
  have h5 : -9223372036854775808 * (ONE : Int) ≤ n * ONE := Int.mul_le_mul_of_nonneg_right (by omega) (by omega)
  unfold ikey TOP
  omega
def compareN (a b : Nat) : Int := cmp3 (fkey a) (fkey b)
def compareIntN (n : Int) (b : Nat) : Int := cmp3 (ikey n) (fkey b)
def classN (b : Nat) : Int := if nan b then 0 else if rung b = INF then (if neg b then 1 else 5) else if rung b = 0 then 3 else if neg b then 2 else 4
def canonN (b : Nat) : Nat := if nan b then 9221120237041090560 else if rung b = 0 then 0 else b
theorem S63_pow : S63 = 2 ^ 63 := rfl
theorem neg_bit (b : Nat) : neg b = b.testBit 63 := by
  rw [Nat.testBit_eq_decide_div_mod_eq]
  unfold neg
  rw [S63_pow]
  cases h : decide (b / 2 ^ 63 % 2 = 1) <;> simp_all
theorem rung_fNeg (b : Nat) : rung (fNeg b) = rung b := by
  unfold rung fNeg
  rw [S63_pow, show (9223372036854775808 : Nat) = 2 ^ 63 from rfl, Nat.xor_mod_two_pow, Nat.mod_self, Nat.xor_zero]
theorem neg_fNeg (b : Nat) : neg (fNeg b) = !neg b := by
  rw [neg_bit, neg_bit]
  unfold fNeg
  rw [Nat.testBit_xor, show (9223372036854775808 : Nat) = 2 ^ 63 from rfl, Nat.testBit_two_pow_self]
  simp
theorem nan_fNeg (b : Nat) : nan (fNeg b) = nan b := by unfold nan; rw [rung_fNeg]
theorem max_lt (b : Nat) (h : nan b = false) : decide ((mval (INF - 1) : Int) < sv b) = decide (rung b = INF ∧ neg b = false) := by
  have h1 : ¬ INF < rung b := by simpa [nan] using h
  have hi : (0 : Nat) < INF := by decide
  have hp : 0 < mval (INF - 1) := mval_pos (by decide)
  unfold sv sgn
  cases hn : neg b
  · simp only [Bool.false_eq_true, if_false, and_true]
    rw [decide_eq_decide]
    constructor
    · intro h2
      rcases Nat.lt_or_ge (rung b) INF with h3 | h3
      · exfalso
        rcases Nat.lt_or_ge (rung b) (INF - 1) with h4 | h4
        · have := mval_lt h4; omega
        · rw [show rung b = INF - 1 by omega] at h2; omega
      · omega
    · intro h2
      have := mval_lt (show INF - 1 < INF by omega)
      rw [h2]
      omega
  · simp only [if_true, Bool.true_eq_false, and_false, decide_false, decide_eq_false_iff_not]
    omega
theorem sv_lt_zero (b : Nat) : decide (sv b < 0) = (neg b && decide (rung b ≠ 0)) := by
  unfold sv sgn
  cases neg b
  · simp only [Bool.false_eq_true, if_false, Bool.false_and, decide_eq_false_iff_not]; omega
  · simp only [if_true, Bool.true_and, decide_eq_decide]
    constructor
    · intro h e
      rw [e, mval_zero] at h
      omega
    · intro h
      have := mval_pos (show 0 < rung b by omega)
      omega
theorem sv_gt_zero (b : Nat) : decide (0 < sv b) = (!neg b && decide (rung b ≠ 0)) := by
  unfold sv sgn
  cases neg b
  · simp only [Bool.false_eq_true, if_false, Bool.not_false, Bool.true_and, decide_eq_decide]
    constructor
    · intro h e
      rw [e, mval_zero] at h
      omega
    · intro h
      have := mval_pos (show 0 < rung b by omega)
      omega
  · simp only [if_true, Bool.not_true, Bool.false_and, decide_eq_false_iff_not]; omega
theorem cls_eq (b : Nat) : AM.clsF b = classN b := by
  have e1 : (AM.ordF b b != some .eq) = fNe b b := rfl
  have e2 : (AM.ordF (Op.negFloat .f64 b) 9218868437227405311 == some .gt) = fGt (fNeg b) 9218868437227405311 := rfl
  have e3 : (AM.ordF b 9218868437227405311 == some .gt) = fGt b 9218868437227405311 := rfl
  have e4 : (AM.ordF b 0 == some .lt) = fLt b 0 := rfl
  have e5 : (AM.ordF b 0 == some .gt) = fGt b 0 := rfl
  unfold AM.clsF classN
  rw [e1, e2, e3, e4, e5, fNe_eq]
  cases hn : nan b
  · simp only [Bool.not_false, Bool.and_self, decide_true, Bool.not_true, Bool.false_eq_true, if_false]
    rw [fGt_eq, fGt_eq, fLt_eq, fGt_eq, nan_fNeg, hn, nan_lit3, nan_lit0, sv_max, sv_zero]
    simp only [Bool.not_false, Bool.true_and]
    rw [max_lt _ (by rw [nan_fNeg]; exact hn), max_lt _ hn, sv_lt_zero, sv_gt_zero, rung_fNeg, neg_fNeg]
    cases neg b <;> simp <;> (repeat' split) <;> simp_all
  · simp
theorem can_eq (b : Nat) : AM.canF b = canonN b := by
  unfold AM.canF canonN
  rw [cls_eq]
  have hi : INF ≠ 0 := by decide
  unfold classN
  cases nan b
  · simp only [Bool.false_eq_true, if_false]
    by_cases h1 : rung b = INF
    · rw [if_pos h1, if_neg (show ¬ rung b = 0 by omega)]
      cases neg b <;> simp
    · rw [if_neg h1]
      by_cases h2 : rung b = 0
      · rw [if_pos h2, if_pos h2]; simp
      · rw [if_neg h2, if_neg h2]
        cases neg b <;> simp
  · simp
theorem S63_lit : S63 = 9223372036854775808 := rfl
theorem INF_lit : INF = 9218868437227405312 := rfl
theorem nan_iff (b : Nat) : nan b = true ↔ INF < rung b := by unfold nan; simp
theorem canonN_lt (b : Nat) (hb : b < 18446744073709551616) : canonN b < 18446744073709551616 := by unfold canonN; (repeat' split) <;> omega
theorem canon_ref (b : Nat) (hb : b < 18446744073709551616) : canonN b = if 9218868437227405312 < b % 9223372036854775808 then 9221120237041090560 else if b = 9223372036854775808 then 0 else b := by
  unfold canonN
  have er : b % 9223372036854775808 = rung b := rfl
  rw [er]
  have hI := INF_lit
  have hS := S63_lit
  by_cases h : INF < rung b
  · rw [if_pos ((nan_iff b).2 h), if_pos (by omega)]
  · rw [if_neg (fun h2 => h ((nan_iff b).1 h2)), if_neg (show ¬ 9218868437227405312 < rung b by omega)]
    rcases word_cases b hb with ⟨h1, _, h3⟩ | ⟨h1, _, h3⟩
    · rw [if_neg (show ¬ b = 9223372036854775808 by omega)]
      by_cases h4 : rung b = 0
      · rw [if_pos h4]; omega
      · rw [if_neg h4]
    · by_cases h4 : rung b = 0
      · rw [if_pos h4, if_pos (by omega)]
      · rw [if_neg h4, if_neg (by omega)]
end Go.Proofs.YtjihcldhjpdnmaaDoor.FL
namespace Go.Proofs.YtjihcldhjpdnmaaDoor.FL
open Go.RowKit Ieee
set_option linter.unusedVariables false
set_option linter.unusedSimpArgs false
section
variable {P : Program} (w : World)
theorem run_convert_f_int (src dst : TypeId) (a : Nat) (hs : P.underlying src = some (.float .f64)) (hd : P.underlying dst = some (.int .i64)) (ho : fIntOk a = true) :
    (convert src dst (.float .f64 a)).run P w = .ok (.int .i64 (fInt a)) w := by
  unfold fIntOk at ho
  unfold fInt
  cases h : (Ieee.double.read a).toInt .zero with
  | none => rw [h] at ho; simp at ho
  | some n =>
    rw [h] at ho
    simp only [decide_eq_true_eq] at ho
    have h1 : (FloatKind.f64.decode a).toInt .zero = some n := h
    have hmin : IntKind.i64.min = -9223372036854775808 := by rfl
    have hmax : IntKind.i64.max = 9223372036854775807 := by rfl
    simp [convert, run_underlying hs, run_underlying hd, Conv.floatToInt, h1, hmin, hmax, ho]
def truncBody (x : Nat) : Sem Value :=
  match FloatKind.f64.decode x with
  | .nan s t =>
    if FloatKind.f64.format.quiet t = t then pure (.float .f64 x) else do
    let kept ← choose (.extern "math.Floor,Ceil,Trunc,RoundToEven.signallingNaN kept" 2)
    pure (.float .f64 (if kept == 1 then x else FloatKind.f64.encode (.nan s (FloatKind.f64.format.quiet t))))
  | d => pure (.float .f64 (FloatKind.f64.encode (d.integral .zero)))
theorem truncBody_of (x : Nat) : (Extern.MathFloor.toIntegral "math.archTrunc" .zero) #[.float .f64 x] = truncBody x := rfl
theorem run_trunc (a : Nat) (h : fNaN a = false) : ((Extern.MathFloor.toIntegral "math.archTrunc" .zero) #[.float .f64 a]).run P w = .ok (.float .f64 (fTrunc a)) w := by
  rw [truncBody_of]
  unfold fNaN at h
  unfold fTrunc truncBody
  have e : FloatKind.f64.decode a = Ieee.double.read a := rfl
  rw [e]
  cases hd : Ieee.double.read a with
  | nan s t => rw [hd] at h; simp [Ieee.Datum.isNaN] at h
  | number s m i => rfl
  | infinity s => rfl
end
theorem cmp3_cases (x y : Int) : (cmp3 x y = -1 ∧ x < y) ∨ (cmp3 x y = 0 ∧ x = y) ∨ (cmp3 x y = 1 ∧ y < x) := by
  unfold cmp3
  split
  · exact .inl ⟨rfl, by assumption⟩
  · split
    · exact .inr (.inr ⟨rfl, by assumption⟩)
    · exact .inr (.inl ⟨rfl, by omega⟩)
theorem cmp3_neg (x y : Int) : -cmp3 x y = cmp3 y x := by
  rcases cmp3_cases x y with ⟨h, h'⟩ | ⟨h, h'⟩ | ⟨h, h'⟩ <;> rcases cmp3_cases y x with ⟨k, k'⟩ | ⟨k, k'⟩ | ⟨k, k'⟩ <;> rw [h, k] <;> omega
theorem cmp3_lt {x y : Int} (h : x < y) : cmp3 x y = -1 := by unfold cmp3; rw [if_pos h]
theorem cmp3_gt {x y : Int} (h : y < x) : cmp3 x y = 1 := by unfold cmp3; rw [if_neg (by omega), if_pos h]
theorem one_posI : (0 : Int) < ONE := by have := one_pos; omega
theorem cut_bounds (b : Nat) (h : nan b = false) (h1 : -(9223372036854775808 * (ONE : Int)) ≤ sv b) (h2 : sv b < 9223372036854775808 * (ONE : Int)) :
    rung b < INF ∧ fl b ≤ 9223372036854775808 ∧ (neg b = false → fl b < 9223372036854775808) ∧
    (neg b = false → (fl b : Int) * ONE ≤ sv b ∧ sv b < ((fl b : Int) + 1) * ONE) ∧ (neg b = true → sv b ≤ -(fl b : Int) * ONE ∧ (-(fl b : Int) - 1) * ONE < sv b) := by
  have hn : ¬ INF < rung b := by simpa [nan] using h
  have h63 := mval_twoTo63
  have hlit : (4890909195324358656 : Nat) < INF := by decide
  have hm : mval (rung b) ≤ 9223372036854775808 * ONE := by
    unfold sv sgn at h1 h2
    have : ((9223372036854775808 * ONE : Nat) : Int) = 9223372036854775808 * (ONE : Int) := by rw [Int.natCast_mul]; rfl
    cases hn' : neg b <;> rw [hn'] at h1 h2 <;> simp only [Bool.false_eq_true, if_false, if_true] at h1 h2 <;> omega
  have hr : rung b < INF := by
    rcases Nat.lt_or_ge (rung b) INF with h3 | h3
    · exact h3
    · have := mval_lt (show 4890909195324358656 < rung b by omega)
      omega
  have hd := Nat.div_add_mod (mval (rung b)) ONE
  have hmod := Nat.mod_lt (mval (rung b)) one_pos
  have hfl : fl b = mval (rung b) / ONE := rfl
  have hle : fl b ≤ 9223372036854775808 := by
    rw [hfl]
    exact Nat.div_le_of_le_mul (by rw [Nat.mul_comm]; exact hm)
  have hc : (mval (rung b) : Int) = (fl b : Int) * ONE + ((mval (rung b) % ONE : Nat) : Int) := by
    rw [← Int.natCast_mul, ← Int.natCast_add, hfl, Nat.mul_comm]
    exact congrArg Int.ofNat hd.symm
  have ho := one_posI
  refine ⟨hr, hle, fun hneg => ?_, fun hneg => ?_, fun hneg => ?_⟩
  · unfold sv sgn at h2
    rw [hneg] at h2
    simp only [Bool.false_eq_true, if_false] at h2
    have : mval (rung b) < 9223372036854775808 * ONE := by
      have : ((9223372036854775808 * ONE : Nat) : Int) = 9223372036854775808 * (ONE : Int) := by rw [Int.natCast_mul]; rfl
      omega
    rw [hfl]
    exact Nat.div_lt_of_lt_mul (by rw [Nat.mul_comm]; exact this)
  · unfold sv sgn
    rw [hneg]
    simp only [Bool.false_eq_true, if_false]
    rw [Int.add_mul, Int.one_mul]
    omega
  · unfold sv sgn
    rw [hneg]
    simp only [if_true]
    rw [Int.sub_mul, Int.one_mul, Int.neg_mul]
    omega
theorem cut_tells (b : Nat) (h : nan b = false) (h1 : -(9223372036854775808 * (ONE : Int)) ≤ sv b) (h2 : sv b < 9223372036854775808 * (ONE : Int)) :
    fIntOk b = true ∧ fInt b = sgn (neg b) (fl b) ∧ nan (fTrunc b) = false ∧ sv (fTrunc b) = sgn (neg b) (fl b) * ONE ∧ fIntOk (fTrunc b) = true ∧ fInt (fTrunc b) = sgn (neg b) (fl b) := by
  obtain ⟨hr, hle, hlt, _, _⟩ := cut_bounds b h h1 h2
  obtain ⟨t1, t2, t3⟩ := trunc_eq b hr hle
  have hb : -9223372036854775808 ≤ sgn (neg b) (fl b) ∧ sgn (neg b) (fl b) ≤ 9223372036854775807 := by
    unfold sgn
    cases hn : neg b
    · have := hlt hn
      simp only [Bool.false_eq_true, if_false]
      omega
    · simp only [if_true]
      omega
  have hft : fl (fTrunc b) = fl b := by
    unfold fl at t2 ⊢
    rw [t2, Nat.mul_div_cancel _ one_pos]
  refine ⟨?_, ?_, ?_, ?_, ?_, ?_⟩
  · unfold fIntOk
    rw [toInt_eq b hr]
    simpa using hb
  · unfold fInt
    rw [toInt_eq b hr]
    rfl
  · unfold nan
    exact decide_eq_false (by omega)
  · unfold sv
    rw [t2, t3, sgn_mul]
  · unfold fIntOk
    rw [toInt_eq _ t1, t3, hft]
    simpa using hb
  · unfold fInt
    rw [toInt_eq _ t1, t3, hft]
    rfl
theorem sgn_cases (b : Nat) (h : nan b = false) (h1 : -(9223372036854775808 * (ONE : Int)) ≤ sv b) (h2 : sv b < 9223372036854775808 * (ONE : Int)) (n : Int) :
    (n < sgn (neg b) (fl b) → n * ONE < sv b) ∧ (sgn (neg b) (fl b) < n → sv b < n * ONE) := by
  obtain ⟨_, _, _, hp, hm⟩ := cut_bounds b h h1 h2
  have ho := one_posI
  unfold sgn
  cases hn : neg b
  · obtain ⟨p1, p2⟩ := hp hn
    simp only [Bool.false_eq_true, if_false]
    refine ⟨fun hlt => ?_, fun hlt => ?_⟩
    · have := Int.mul_lt_mul_of_pos_right hlt ho
      omega
    · have := Int.mul_le_mul_of_nonneg_right (show (fl b : Int) + 1 ≤ n by omega) (Int.le_of_lt ho)
      omega
  · obtain ⟨p1, p2⟩ := hm hn
    simp only [if_true]
    refine ⟨fun hlt => ?_, fun hlt => ?_⟩
    · have := Int.mul_le_mul_of_nonneg_right (show n ≤ -(fl b : Int) - 1 by omega) (Int.le_of_lt ho)
      omega
    · have := Int.mul_lt_mul_of_pos_right hlt ho
      omega
end Go.Proofs.YtjihcldhjpdnmaaDoor.FL
namespace Go.Proofs.YtjihcldhjpdnmaaDoor.AM
open Go.RowKit FL
set_option linter.unusedVariables false
set_option linter.unusedSimpArgs false
theorem os_convF {P : Program} {o : Oper} {ρ : Operand → AV} {h : List (Nat × Blk)} {E : Nat} {s d : TypeId} {x : Operand} {n : Nat} (ho : o.op = .convert s d x) (hs : P.underlying s = some (.float .f64)) (hd : P.underlying d = some (.int .i64)) (hx : ρ x = .lit (.float .f64 n)) (hi : fIntOk n = true) :
    OStep P o ρ h [] E (.lit (.int .i64 (fInt n))) h :=
  ostep_value (fun c a ok hops _ => by
    have h1 := hops x (by rw [ho]; simp [Op.operands])
    rw [hx] at h1
    have e1 := h1.lit_inv
    refine ⟨.int .i64 (fInt n), ?_, .dat _ _ (.lit _)⟩
    have hr := run_convert_f_int (P := P) c.W s d n hs hd hi
    simp [execOp, ho, e1, hr])
theorem RunTo.convF {P : Program} {ds : List (Option Tmp)} {T i : Nat} {o : Oper} {os : List Oper} {st : St} {acc : Log} {K : Kont} {s d : TypeId} {x : Operand} {n : Nat} (hi : fIntOk n = true) (hs : P.underlying s = some (.float .f64)) (hd : P.underlying d = some (.int .i64))
    (ho : o.op = .convert s d x) (hw : wantedA ds o st.env = some true) (hx : opv st.env x = .lit (.float .f64 n)) (h : RunTo P ds T (i + 1) os (st.put o.dst (.lit (.int .i64 (fInt n)))) (acc ++ [([], [])]) K) : RunTo P ds T i (o :: os) st acc K :=
  RunTo.cons ⟨.inr ⟨hw, .lit (.int .i64 (fInt n)), st.heap, os_convF ho hs hd hx hi, by cases st; rfl⟩, fun b _ => by rw [heap_put], fun b hb => by cases hb⟩ h
theorem x_trunc (a : Nat) (h : fNaN a = false) : Ext Tryd.prog 149 [.float .f64 a] (.float .f64 (fTrunc a)) := fun W =>
  (run_callFunc_extern Tryd.func149 (by kernel_rfl) (by kernel_rfl) (by kernel_rfl) (show Extern.find _ = some (Extern.MathFloor.toIntegral "math.archTrunc" .zero) by rfl) _ W).trans (by rw [run_trunc W a h]; rfl)
end Go.Proofs.YtjihcldhjpdnmaaDoor.AM
namespace Go.Proofs.YtjihcldhjpdnmaaDoor.AM
open Go.RowKit
set_option linter.unusedSimpArgs false
set_option linter.unusedVariables false
set_option maxRecDepth 10000
set_option maxHeartbeats 0
def digA : List Value := [.int .u8 48, .int .u8 49, .int .u8 50, .int .u8 51, .int .u8 52, .int .u8 53, .int .u8 54, .int .u8 55, .int .u8 56, .int .u8 57, .int .u8 97, .int .u8 98, .int .u8 99, .int .u8 100, .int .u8 101, .int .u8 102]
theorem c_digits : Pure Tryd.prog 132 [] (.agg (digA.map AV.lit)) := by
  refine pure_of_awp Tryd.func132 rfl rfl (by simp [Tryd.f132]) ?_; simp only [go_sem, ↓reduceIte, Nat.reduceEqDiff, Nat.reduceAdd, Nat.reduceLeDiff, Nat.reduceBEq, Nat.reduceMul, reduceCtorEq, Int.reduceLE, Int.reduceLT, Int.reduceAdd, Int.reduceSub, Int.reduceNeg, Int.reduceToNat, Int.reduceBEq]
  repeat' (first | refine awp_seq ?_ | refine awp_block ?_ | refine awp_round ?_ | refine awp_text rfl ?_ | refine awp_any rfl mix (by kernel_rfl) ?_ | (refine RunTo.unguard rfl rfl (fun hg => ?_) (fun hg => ?_) <;> ((try simp only [Bool.not_true, Bool.not_false, Bool.not_eq_true', Bool.not_eq_false', Bool.not_eq_eq_eq_not] at hg); (first | (cases hg) | (simp only [hg]) | skip))) | ((first | refine RunTo.plain rfl ?_ | refine RunTo.skipped rfl ?_); simp only [go_sem, ↓reduceIte, Nat.reduceEqDiff, Nat.reduceAdd, Nat.reduceLeDiff, Nat.reduceBEq, Nat.reduceMul, reduceCtorEq, Int.reduceLE, Int.reduceLT, Int.reduceAdd, Int.reduceSub, Int.reduceNeg, Int.reduceToNat, Int.reduceBEq]) | ((first | refine RunTo.nil ⟨by kernel_rfl, ?_⟩ | refine RunTo.nil ?_ | refine awp_skip ?_ | refine awp_exit ?_); simp only [go_sem, ↓reduceIte, Nat.reduceEqDiff, Nat.reduceAdd, Nat.reduceLeDiff, Nat.reduceBEq, Nat.reduceMul, reduceCtorEq, Int.reduceLE, Int.reduceLT, Int.reduceAdd, Int.reduceSub, Int.reduceNeg, Int.reduceToNat, Int.reduceBEq]) | (refine awp_cond' rfl (of_decide_eq_true rfl) (fun hc => ?_) (fun hc => ?_) <;> ((try simp only [Bool.not_true, Bool.not_false, Bool.not_eq_true', Bool.not_eq_false', Bool.not_eq_eq_eq_not] at hc); (first | (cases hc) | (simp only [hc]) | skip))))
  all_goals
    (first | refine awp_ret ?_ | skip); refine ⟨(by first | exact .inl rfl | exact .inr rfl | exact .inr trivial | trivial), ?_⟩; simp only [go_sem, ↓reduceIte, Nat.reduceEqDiff, Nat.reduceAdd, Nat.reduceLeDiff, Nat.reduceBEq, Nat.reduceMul, reduceCtorEq, Int.reduceLE, Int.reduceLT, Int.reduceAdd, Int.reduceSub, Int.reduceNeg, Int.reduceToNat, Int.reduceBEq, retV, resL, resV, sealV, sealC, sealAll, Tryd.f132]
  all_goals rfl
def hexD (n : Nat) : Int := if n < 10 then 48 + n else 87 + n
theorem pdl : (digA.map AV.lit).length = 16 := rfl
theorem pd1 (n : Nat) : (n % 16 + 1 ≤ 16) = True := by have := Nat.mod_lt n (show 16 > 0 by decide); simp; omega
theorem pd2 (n : Nat) : ((digA.map AV.lit).drop (n % 16)).take 1 = [.lit (.int .u8 (hexD (n % 16)))] := by
  have h : n % 16 < 16 := Nat.mod_lt _ (by decide)
  generalize n % 16 = m at *
  rcases (show m = 0 ∨ m = 1 ∨ m = 2 ∨ m = 3 ∨ m = 4 ∨ m = 5 ∨ m = 6 ∨ m = 7 ∨ m = 8 ∨ m = 9 ∨ m = 10 ∨ m = 11 ∨ m = 12 ∨ m = 13 ∨ m = 14 ∨ m = 15 by omega) with rfl | rfl | rfl | rfl | rfl | rfl | rfl | rfl | rfl | rfl | rfl | rfl | rfl | rfl | rfl | rfl <;> rfl
theorem tm16 (u : Nat) : (u : Int).tmod 16 = ((u % 16 : Nat) : Int) := by rw [Int.tmod_eq_emod_of_nonneg (Int.natCast_nonneg _)]; omega
theorem fd16 (u : Nat) : (u : Int).fdiv (2 ^ min 4 64) = ((u / 16 : Nat) : Int) := by
  show (u : Int).fdiv 16 = _
  rw [Int.fdiv_eq_ediv_of_nonneg _ (by decide)]; omega
theorem lt16 (n : Nat) : (((n % 16 : Nat) : Int) < 16) = True := by have := Nat.mod_lt n (show 16 > 0 by decide); simp; omega
def hexRows : Nat → Nat → List (List Dat) → List (List Dat)
  | 0, _, acc => acc
  | k + 1, u, acc => hexRows k (u / 16) ([.lit (.int .u8 (hexD (u % 16)))] :: acc)
def hexS (f : Nat) : ByteArray := strR (hexRows 16 (canF f) [])
theorem c_Hex (f : Nat) : Pure Tryd.prog 89 [fv f] (sv (hexS f)) := by
  refine pure_of_awp Tryd.func89 rfl rfl (by simp [Tryd.f89]) ?_; simp only [go_sem, ↓reduceIte, Nat.reduceEqDiff, Nat.reduceAdd, Nat.reduceLeDiff, Nat.reduceBEq, Nat.reduceMul, reduceCtorEq, Int.reduceLE, Int.reduceLT, Int.reduceAdd, Int.reduceSub, Int.reduceNeg, Int.reduceToNat, Int.reduceBEq]
  repeat' (first | refine awp_seq ?_ | refine awp_block ?_ | refine awp_round ?_ | refine awp_text rfl ?_ | refine awp_any rfl mix (by kernel_rfl) ?_ | (refine RunTo.unguard rfl rfl (fun hg => ?_) (fun hg => ?_) <;> ((try simp only [Bool.not_true, Bool.not_false, Bool.not_eq_true', Bool.not_eq_false', Bool.not_eq_eq_eq_not] at hg); (first | (cases hg) | (simp only [hg]) | skip))) | ((first | refine RunTo.plain rfl ?_ | refine RunTo.skipped rfl ?_ | refine RunTo.call (c_Canon _) Tryd.func77 rfl rfl rfl rfl rfl rfl rfl rfl ?_ | refine RunTo.ext (x_bits _) rfl rfl rfl rfl ?_); simp only [go_sem, ↓reduceIte, Nat.reduceEqDiff, Nat.reduceAdd, Nat.reduceLeDiff, Nat.reduceBEq, Nat.reduceMul, reduceCtorEq, Int.reduceLE, Int.reduceLT, Int.reduceAdd, Int.reduceSub, Int.reduceNeg, Int.reduceToNat, Int.reduceBEq]) | ((first | refine RunTo.nil ⟨by kernel_rfl, ?_⟩ | refine RunTo.nil ?_ | refine awp_skip ?_ | refine awp_exit ?_); simp only [go_sem, ↓reduceIte, Nat.reduceEqDiff, Nat.reduceAdd, Nat.reduceLeDiff, Nat.reduceBEq, Nat.reduceMul, reduceCtorEq, Int.reduceLE, Int.reduceLT, Int.reduceAdd, Int.reduceSub, Int.reduceNeg, Int.reduceToNat, Int.reduceBEq]) | (refine awp_cond' rfl (of_decide_eq_true rfl) (fun hc => ?_) (fun hc => ?_) <;> ((try simp only [Bool.not_true, Bool.not_false, Bool.not_eq_true', Bool.not_eq_false', Bool.not_eq_eq_eq_not] at hc); (first | (cases hc) | (simp only [hc]) | skip))))
  refine awp_rounds 17 ?_
  repeat' (first | refine awp_seq ?_ | refine awp_block ?_ | refine awp_round ?_ | refine awp_text rfl ?_ | refine awp_any rfl mix (by kernel_rfl) ?_ | (refine RunTo.unguard rfl rfl (fun hg => ?_) (fun hg => ?_) <;> ((try simp only [Bool.not_true, Bool.not_false, Bool.not_eq_true', Bool.not_eq_false', Bool.not_eq_eq_eq_not] at hg); (first | (cases hg) | (simp only [hg]) | skip))) | ((first | refine RunTo.plain rfl ?_ | refine RunTo.skipped rfl ?_ | refine RunTo.call (c_digits) Tryd.func132 rfl rfl rfl rfl rfl rfl rfl rfl ?_); simp only [go_sem, ↓reduceIte, Nat.reduceEqDiff, Nat.reduceAdd, Nat.reduceLeDiff, Nat.reduceBEq, Nat.reduceMul, reduceCtorEq, Int.reduceLE, Int.reduceLT, Int.reduceAdd, Int.reduceSub, Int.reduceNeg, Int.reduceToNat, Int.reduceBEq, tm16, fd16, lt16, pdl, pd1, pd2]) | ((first | refine RunTo.nil ⟨by kernel_rfl, ?_⟩ | refine RunTo.nil ?_ | refine awp_skip ?_ | refine awp_exit ?_); simp only [go_sem, ↓reduceIte, Nat.reduceEqDiff, Nat.reduceAdd, Nat.reduceLeDiff, Nat.reduceBEq, Nat.reduceMul, reduceCtorEq, Int.reduceLE, Int.reduceLT, Int.reduceAdd, Int.reduceSub, Int.reduceNeg, Int.reduceToNat, Int.reduceBEq, tm16, fd16, lt16, pdl, pd1, pd2]) | (refine awp_cond' rfl (of_decide_eq_true rfl) (fun hc => ?_) (fun hc => ?_) <;> ((try simp only [Bool.not_true, Bool.not_false, Bool.not_eq_true', Bool.not_eq_false', Bool.not_eq_eq_eq_not] at hc); (first | (cases hc) | (simp only [hc]) | skip))))
  all_goals
    (first | refine awp_ret ?_ | skip); refine ⟨(by first | exact .inl rfl | exact .inr rfl | exact .inr trivial | trivial), ?_⟩; simp only [go_sem, ↓reduceIte, Nat.reduceEqDiff, Nat.reduceAdd, Nat.reduceLeDiff, Nat.reduceBEq, Nat.reduceMul, reduceCtorEq, Int.reduceLE, Int.reduceLT, Int.reduceAdd, Int.reduceSub, Int.reduceNeg, Int.reduceToNat, Int.reduceBEq, retV, resL, resV, sealV, sealC, sealAll, Tryd.f89]
  all_goals rfl
end Go.Proofs.YtjihcldhjpdnmaaDoor.AM
namespace Go.Proofs.YtjihcldhjpdnmaaDoor.AM
open Go.RowKit
set_option linter.unusedSimpArgs false
set_option linter.unusedVariables false
set_option maxRecDepth 10000
set_option maxHeartbeats 0
theorem step_mov {nt : Nt} {st : St} {I : Nat → St → Prop} {n m : Nat} {st'' : St} (σ : List (Nat × Nat)) (ht : tabOK (movRows st.heap st.T σ) = true) (hm : m < n)
    (hw : Weak nt ⟨renE (movRows st.heap st.T σ) st.env, renH (movRows st.heap st.T σ) st.heap (movRows st.heap st.T σ), st.T + 1⟩ st'') (hI : I m st'') : ∃ m, m < n ∧ ∃ st'', Weak nt st st'' ∧ I m st'' :=
  ⟨m, hm, st'', Weak.trans (weak_ren σ ht) hw, hI⟩
attribute [go_sem] movRows renE epB
def hexB (n : Nat) : UInt8 := UInt8.ofNat (hexD n).toNat
def escB (b : UInt8) : List UInt8 := if (b.toNat : Int) = 34 ∨ (b.toNat : Int) = 92 then [92, b] else if (b.toNat : Int) < 32 ∨ 126 < (b.toNat : Int) then [92, 120, hexB (b.toNat / 16), hexB (b.toNat % 16)] else [b]
def quoteL (l : List UInt8) : List UInt8 := 34 :: l.flatMap escB ++ [34]
abbrev SQ (s : ByteArray) (k T e m : Nat) (rows : List (List Dat)) : St := ⟨[(0, sv s), (8, iv s.size), (9, iv k), (3, .slc 100 e 0 m)], [(100, .arr e 1 rows)], T⟩
def IQ (s : ByteArray) (n : Nat) (st : St) : Prop := ∃ k T e m rows out, k ≤ s.size ∧ n = s.size - k ∧ out = 34 :: (s.data.toList.take k).flatMap escB ∧ m = out.length ∧ rows = brows out ∧ st = SQ s k T e m rows
theorem byte_at (s : ByteArray) (k : Nat) (h : k < s.size) : s[k]? = some s[k] := by
  rw [getElem?_pos s k h]
abbrev hexs : ByteArray := ⟨#[48, 49, 50, 51, 52, 53, 54, 55, 56, 57, 97, 98, 99, 100, 101, 102]⟩
theorem hexs_at (m : Nat) (h : m < 16) : hexs[m]? = some (hexB m) := by
  rcases (show m = 0 ∨ m = 1 ∨ m = 2 ∨ m = 3 ∨ m = 4 ∨ m = 5 ∨ m = 6 ∨ m = 7 ∨ m = 8 ∨ m = 9 ∨ m = 10 ∨ m = 11 ∨ m = 12 ∨ m = 13 ∨ m = 14 ∨ m = 15 by omega) with rfl | rfl | rfl | rfl | rfl | rfl | rfl | rfl | rfl | rfl | rfl | rfl | rfl | rfl | rfl | rfl <;> rfl
theorem fd8 (u : Nat) : (u : Int).fdiv (2 ^ min 4 8) = ((u / 16 : Nat) : Int) := by
  show (u : Int).fdiv 16 = _
  rw [Int.fdiv_eq_ediv_of_nonneg _ (by decide)]; omega
theorem an15 (b : UInt8) : IntKind.u8.wrap ((BitVec.ofInt 8 (b.toNat : Int) &&& BitVec.ofInt 8 15).toNat : Int) = ((b.toNat % 16 : Nat) : Int) := by
  have h : ∀ n : Nat, n < 256 → IntKind.u8.wrap ((BitVec.ofInt 8 (n : Int) &&& BitVec.ofInt 8 15).toNat : Int) = ((n % 16 : Nat) : Int) := by decide +kernel
  exact h _ b.toNat_lt
theorem an15' (b : UInt8) : IntKind.u8.wrap ((BitVec.ofInt IntKind.u8.bits (b.toNat : Int) &&& BitVec.ofInt IntKind.u8.bits 15).toNat : Int) = ((b.toNat % 16 : Nat) : Int) := an15 b
theorem hexB_app (out l : List UInt8) : brows (out ++ l) = brows out ++ brows l := List.map_append
theorem take_brows (out : List UInt8) : (List.map (fun b : UInt8 => [Dat.lit (.int .u8 b.toNat)]) out).take out.length = brows out := List.take_of_length_le (by simp)
theorem escB_len (b : UInt8) : (escB b).length ≤ 4 := by unfold escB; (repeat' split) <;> simp
theorem flat_take (l : List UInt8) (k : Nat) (b : UInt8) (h : l[k]? = some b) : (l.take (k + 1)).flatMap escB = (l.take k).flatMap escB ++ escB b := by
  have hlt := (List.getElem?_eq_some_iff.1 h).1
  rw [List.take_succ_eq_append_getElem hlt, List.flatMap_append]
  have : l[k] = b := by rw [List.getElem?_eq_getElem hlt] at h; exact Option.some.inj h
  simp [this]
theorem flat_len (l : List UInt8) : (l.flatMap escB).length ≤ 4 * l.length := by
  induction l with
  | nil => simp
  | cons b l ih => have := escB_len b; simp only [List.flatMap_cons, List.length_append, List.length_cons]; omega
theorem c_quoted (s : ByteArray) (hs : s.size ≤ 1000000) : Pure Tryd.prog 90 [sv s] (sv (bs (quoteL s.data.toList))) := by
  refine pure_of_awp Tryd.func90 rfl rfl (by simp [Tryd.f90]) ?_; simp only [go_sem, ↓reduceIte, Nat.reduceEqDiff, Nat.reduceAdd, Nat.reduceLeDiff, Nat.reduceBEq, Nat.reduceMul, reduceCtorEq, Int.reduceLE, Int.reduceLT, Int.reduceAdd, Int.reduceSub, Int.reduceNeg, Int.reduceToNat, Int.reduceBEq]
  repeat' (first | refine awp_seq ?_ | refine awp_block ?_ | refine awp_round ?_ | refine awp_text rfl ?_ | refine awp_any rfl mix (by kernel_rfl) ?_ | (refine RunTo.unguard rfl rfl (fun hg => ?_) (fun hg => ?_) <;> ((try simp only [Bool.not_true, Bool.not_false, Bool.not_eq_true', Bool.not_eq_false', Bool.not_eq_eq_eq_not] at hg); (first | (cases hg) | (simp only [hg]) | skip))) | ((first | refine RunTo.plain rfl ?_ | refine RunTo.skipped rfl ?_); simp only [go_sem, ↓reduceIte, Nat.reduceEqDiff, Nat.reduceAdd, Nat.reduceLeDiff, Nat.reduceBEq, Nat.reduceMul, reduceCtorEq, Int.reduceLE, Int.reduceLT, Int.reduceAdd, Int.reduceSub, Int.reduceNeg, Int.reduceToNat, Int.reduceBEq]) | ((first | refine RunTo.nil ⟨by kernel_rfl, ?_⟩ | refine RunTo.nil ?_ | refine awp_skip ?_ | refine awp_exit ?_); simp only [go_sem, ↓reduceIte, Nat.reduceEqDiff, Nat.reduceAdd, Nat.reduceLeDiff, Nat.reduceBEq, Nat.reduceMul, reduceCtorEq, Int.reduceLE, Int.reduceLT, Int.reduceAdd, Int.reduceSub, Int.reduceNeg, Int.reduceToNat, Int.reduceBEq]) | (refine awp_cond' rfl (of_decide_eq_true rfl) (fun hc => ?_) (fun hc => ?_) <;> ((try simp only [Bool.not_true, Bool.not_false, Bool.not_eq_true', Bool.not_eq_false', Bool.not_eq_eq_eq_not] at hc); (first | (cases hc) | (simp only [hc]) | skip))))
  refine awp_loopw (IQ s) s.size (SQ s 0 _ _ _ _) (Weak.trans (weak_ren [(6, 100)] rfl) (weak_keep ⟨rfl, rfl, rfl, rfl, trivial⟩ ⟨rfl, trivial⟩ (Nat.le_refl _))) ⟨0, _, _, _, _, _, Nat.zero_le _, rfl, rfl, rfl, rfl, rfl⟩ ?_
  rintro n st ⟨k, T, e, m, rows, out, hk, rfl, ho, rfl, rfl, rfl⟩
  have hlen : out.length ≤ 4000001 := by
    have := flat_len (s.data.toList.take k)
    rw [List.length_take] at this
    rw [ho]
    simp only [List.length_cons]
    omega
  by_cases hlt : k < s.size
  · have hdec := lt_t hlt
    have hb := byte_at s k hlt
    have hwk : IntKind.i64.wrap ((k : Int) + 1) = ((k + 1 : Nat) : Int) := wrap_succ (by omega)
    generalize s[k] = b at *
    have hlb : s.data.toList[k]? = some b := by
      have : s.data[k]? = some b := hb
      rw [Array.getElem?_toList]; exact this
    have hft := flat_take _ _ _ hlb
    have hnx : (34 : UInt8) :: (s.data.toList.take (k + 1)).flatMap escB = out ++ escB b := by rw [hft, ho]; rfl
    have hb8 : b.toNat < 256 := b.toNat_lt
    have hx1 := hexs_at (b.toNat / 16) (by omega)
    have hx2 := hexs_at (b.toNat % 16) (by omega)
    have c1 : (out.length + 1 ≤ 140737488355328) = True := eq_true (by omega)
    have c2 : (out.length + 2 ≤ 140737488355328) = True := eq_true (by omega)
    have c4 : (out.length + 4 ≤ 140737488355328) = True := eq_true (by omega)
    repeat' (first | refine awp_seq ?_ | refine awp_block ?_ | refine awp_round ?_ | refine awp_text rfl ?_ | refine awp_any rfl mix (by kernel_rfl) ?_ | (refine RunTo.unguard rfl rfl (fun hg => ?_) (fun hg => ?_) <;> ((try simp only [Bool.not_true, Bool.not_false, Bool.not_eq_true', Bool.not_eq_false', Bool.not_eq_eq_eq_not] at hg); (first | (cases hg) | (simp only [hg]) | skip))) | ((first | refine RunTo.plain rfl ?_ | refine RunTo.skipped rfl ?_); simp only [go_sem, ↓reduceIte, Nat.reduceEqDiff, Nat.reduceAdd, Nat.reduceLeDiff, Nat.reduceBEq, Nat.reduceMul, reduceCtorEq, Int.reduceLE, Int.reduceLT, Int.reduceAdd, Int.reduceSub, Int.reduceNeg, Int.reduceToNat, Int.reduceBEq, hdec, hb, hwk, take_brows, List.length_map, c1, c2, c4, fd8, ↓an15', hx1, hx2]) | ((first | refine RunTo.nil ⟨by kernel_rfl, ?_⟩ | refine RunTo.nil ?_ | refine awp_skip ?_ | refine awp_exit ?_); simp only [go_sem, ↓reduceIte, Nat.reduceEqDiff, Nat.reduceAdd, Nat.reduceLeDiff, Nat.reduceBEq, Nat.reduceMul, reduceCtorEq, Int.reduceLE, Int.reduceLT, Int.reduceAdd, Int.reduceSub, Int.reduceNeg, Int.reduceToNat, Int.reduceBEq, hdec, hb, hwk, take_brows, List.length_map, c1, c2, c4, fd8, ↓an15', hx1, hx2]) | (refine awp_cond' rfl (of_decide_eq_true rfl) (fun hc => ?_) (fun hc => ?_) <;> ((try simp only [Bool.not_true, Bool.not_false, Bool.not_eq_true', Bool.not_eq_false', Bool.not_eq_eq_eq_not] at hc); (first | (cases hc) | (simp only [hc]) | skip))))
    · (try simp only [decide_eq_true_eq, decide_eq_false_iff_not, beq_iff_eq, bne_iff_ne, ne_eq, beq_eq_false_iff_ne, bne_eq_false_iff_eq, Bool.and_eq_true, Bool.or_eq_true, Bool.or_eq_false_iff, Bool.and_eq_false_iff] at *)
      have he : escB b = [92, b] := by unfold escB; rw [if_pos (by omega)]
      rw [he] at hnx
      exact step_mov (st'' := SQ s (k + 1) _ _ _ _) [(29, 100)] rfl (m := s.size - (k + 1)) (by omega) (by simp only [go_sem, ↓reduceIte, Nat.reduceEqDiff, Nat.reduceAdd, Nat.reduceLeDiff, Nat.reduceBEq, Nat.reduceMul, reduceCtorEq, Int.reduceLE, Int.reduceLT, Int.reduceAdd, Int.reduceSub, Int.reduceNeg, Int.reduceToNat, Int.reduceBEq]; exact weak_keep ⟨rfl, rfl, rfl, rfl, trivial⟩ ⟨rfl, trivial⟩ (Nat.le_refl _)) ⟨k + 1, _, _, _, _, out ++ [92, b], by omega, rfl, hnx.symm, by simp, by rw [hexB_app]; rfl, rfl⟩
    · (try simp only [decide_eq_true_eq, decide_eq_false_iff_not, beq_iff_eq, bne_iff_ne, ne_eq, beq_eq_false_iff_ne, bne_eq_false_iff_eq, Bool.and_eq_true, Bool.or_eq_true, Bool.or_eq_false_iff, Bool.and_eq_false_iff] at *)
      have he : escB b = [92, 120, hexB (b.toNat / 16), hexB (b.toNat % 16)] := by unfold escB; rw [if_neg (by omega), if_pos (by omega)]
      rw [he] at hnx
      exact step_mov (st'' := SQ s (k + 1) _ _ _ _) [(45, 100)] rfl (m := s.size - (k + 1)) (by omega) (by simp only [go_sem, ↓reduceIte, Nat.reduceEqDiff, Nat.reduceAdd, Nat.reduceLeDiff, Nat.reduceBEq, Nat.reduceMul, reduceCtorEq, Int.reduceLE, Int.reduceLT, Int.reduceAdd, Int.reduceSub, Int.reduceNeg, Int.reduceToNat, Int.reduceBEq]; exact weak_keep ⟨rfl, rfl, rfl, rfl, trivial⟩ ⟨rfl, trivial⟩ (Nat.le_refl _)) ⟨k + 1, _, _, _, _, out ++ [92, 120, hexB (b.toNat / 16), hexB (b.toNat % 16)], by omega, rfl, hnx.symm, by simp, by rw [hexB_app]; rfl, rfl⟩
    · (try simp only [decide_eq_true_eq, decide_eq_false_iff_not, beq_iff_eq, bne_iff_ne, ne_eq, beq_eq_false_iff_ne, bne_eq_false_iff_eq, Bool.and_eq_true, Bool.or_eq_true, Bool.or_eq_false_iff, Bool.and_eq_false_iff] at *)
      have he : escB b = [b] := by unfold escB; rw [if_neg (by omega), if_neg (by omega)]
      rw [he] at hnx
      exact step_mov (st'' := SQ s (k + 1) _ _ _ _) [(18, 100)] rfl (m := s.size - (k + 1)) (by omega) (by simp only [go_sem, ↓reduceIte, Nat.reduceEqDiff, Nat.reduceAdd, Nat.reduceLeDiff, Nat.reduceBEq, Nat.reduceMul, reduceCtorEq, Int.reduceLE, Int.reduceLT, Int.reduceAdd, Int.reduceSub, Int.reduceNeg, Int.reduceToNat, Int.reduceBEq]; exact weak_keep ⟨rfl, rfl, rfl, rfl, trivial⟩ ⟨rfl, trivial⟩ (Nat.le_refl _)) ⟨k + 1, _, _, _, _, out ++ [b], by omega, rfl, hnx.symm, by simp, by rw [hexB_app]; rfl, rfl⟩
    · (try simp only [decide_eq_true_eq, decide_eq_false_iff_not, beq_iff_eq, bne_iff_ne, ne_eq, beq_eq_false_iff_ne, bne_eq_false_iff_eq, Bool.and_eq_true, Bool.or_eq_true, Bool.or_eq_false_iff, Bool.and_eq_false_iff] at *)
      have he : escB b = [92, 120, hexB (b.toNat / 16), hexB (b.toNat % 16)] := by unfold escB; rw [if_neg (by omega), if_pos (by omega)]
      rw [he] at hnx
      exact step_mov (st'' := SQ s (k + 1) _ _ _ _) [(45, 100)] rfl (m := s.size - (k + 1)) (by omega) (by simp only [go_sem, ↓reduceIte, Nat.reduceEqDiff, Nat.reduceAdd, Nat.reduceLeDiff, Nat.reduceBEq, Nat.reduceMul, reduceCtorEq, Int.reduceLE, Int.reduceLT, Int.reduceAdd, Int.reduceSub, Int.reduceNeg, Int.reduceToNat, Int.reduceBEq]; exact weak_keep ⟨rfl, rfl, rfl, rfl, trivial⟩ ⟨rfl, trivial⟩ (Nat.le_refl _)) ⟨k + 1, _, _, _, _, out ++ [92, 120, hexB (b.toNat / 16), hexB (b.toNat % 16)], by omega, rfl, hnx.symm, by simp, by rw [hexB_app]; rfl, rfl⟩
    · (try simp only [decide_eq_true_eq, decide_eq_false_iff_not, beq_iff_eq, bne_iff_ne, ne_eq, beq_eq_false_iff_ne, bne_eq_false_iff_eq, Bool.and_eq_true, Bool.or_eq_true, Bool.or_eq_false_iff, Bool.and_eq_false_iff] at *)
      have he : escB b = [92, b] := by unfold escB; rw [if_pos (by omega)]
      rw [he] at hnx
      exact step_mov (st'' := SQ s (k + 1) _ _ _ _) [(29, 100)] rfl (m := s.size - (k + 1)) (by omega) (by simp only [go_sem, ↓reduceIte, Nat.reduceEqDiff, Nat.reduceAdd, Nat.reduceLeDiff, Nat.reduceBEq, Nat.reduceMul, reduceCtorEq, Int.reduceLE, Int.reduceLT, Int.reduceAdd, Int.reduceSub, Int.reduceNeg, Int.reduceToNat, Int.reduceBEq]; exact weak_keep ⟨rfl, rfl, rfl, rfl, trivial⟩ ⟨rfl, trivial⟩ (Nat.le_refl _)) ⟨k + 1, _, _, _, _, out ++ [92, b], by omega, rfl, hnx.symm, by simp, by rw [hexB_app]; rfl, rfl⟩
  · have hdec := lt_f hlt
    have hsz : s.data.toList.length = s.size := Array.length_toList
    have hall : s.data.toList.take k = s.data.toList := List.take_of_length_le (by rw [hsz]; omega)
    rw [hall] at ho
    have hq : quoteL s.data.toList = out ++ [34] := by rw [ho]; rfl
    rw [hq]
    have c1 : (out.length + 1 ≤ 140737488355328) = True := eq_true (by omega)
    have hB : isB (brows out ++ [[Dat.lit (.int .u8 34)]]) = true := by rw [isB_app, isB_brows]; rfl
    have hS : strR (brows out ++ [[Dat.lit (.int .u8 34)]]) = bs (out ++ [34]) := by
      have := strR_brows (out ++ [34])
      rw [hexB_app] at this
      exact this
    have htk : (brows out ++ [[Dat.lit (.int .u8 34)]]).take (out.length + 1) = brows out ++ [[Dat.lit (.int .u8 34)]] := List.take_of_length_le (by simp)
    repeat' (first | refine awp_seq ?_ | refine awp_block ?_ | refine awp_round ?_ | refine awp_text rfl ?_ | refine awp_any rfl mix (by kernel_rfl) ?_ | (refine RunTo.unguard rfl rfl (fun hg => ?_) (fun hg => ?_) <;> ((try simp only [Bool.not_true, Bool.not_false, Bool.not_eq_true', Bool.not_eq_false', Bool.not_eq_eq_eq_not] at hg); (first | (cases hg) | (simp only [hg]) | skip))) | ((first | refine RunTo.plain rfl ?_ | refine RunTo.skipped rfl ?_); simp only [go_sem, ↓reduceIte, Nat.reduceEqDiff, Nat.reduceAdd, Nat.reduceLeDiff, Nat.reduceBEq, Nat.reduceMul, reduceCtorEq, Int.reduceLE, Int.reduceLT, Int.reduceAdd, Int.reduceSub, Int.reduceNeg, Int.reduceToNat, Int.reduceBEq, hdec, take_brows, htk, List.length_map, List.length_append, c1, hB, hS]) | ((first | refine RunTo.nil ⟨by kernel_rfl, ?_⟩ | refine RunTo.nil ?_ | refine awp_skip ?_ | refine awp_exit ?_); simp only [go_sem, ↓reduceIte, Nat.reduceEqDiff, Nat.reduceAdd, Nat.reduceLeDiff, Nat.reduceBEq, Nat.reduceMul, reduceCtorEq, Int.reduceLE, Int.reduceLT, Int.reduceAdd, Int.reduceSub, Int.reduceNeg, Int.reduceToNat, Int.reduceBEq, hdec, take_brows, htk, List.length_map, List.length_append, c1, hB, hS]) | (refine awp_cond' rfl (of_decide_eq_true rfl) (fun hc => ?_) (fun hc => ?_) <;> ((try simp only [Bool.not_true, Bool.not_false, Bool.not_eq_true', Bool.not_eq_false', Bool.not_eq_eq_eq_not] at hc); (first | (cases hc) | (simp only [hc]) | skip))))
    all_goals
      (first | refine awp_ret ?_ | skip); refine ⟨(by first | exact .inl rfl | exact .inr rfl | exact .inr trivial | trivial), ?_⟩; simp only [go_sem, ↓reduceIte, Nat.reduceEqDiff, Nat.reduceAdd, Nat.reduceLeDiff, Nat.reduceBEq, Nat.reduceMul, reduceCtorEq, Int.reduceLE, Int.reduceLT, Int.reduceAdd, Int.reduceSub, Int.reduceNeg, Int.reduceToNat, Int.reduceBEq, retV, resL, resV, sealV, sealC, sealAll, Tryd.f90]
end Go.Proofs.YtjihcldhjpdnmaaDoor.AM
namespace Go.Proofs.YtjihcldhjpdnmaaDoor.AM
open Go.RowKit
set_option linter.unusedSimpArgs false
set_option linter.unusedVariables false
set_option maxRecDepth 10000
set_option maxHeartbeats 0
def quoteS (s : ByteArray) : ByteArray := bs (quoteL s.data.toList)
theorem quoteS_size (s : ByteArray) : (quoteS s).size ≤ 4 * s.size + 2 := by
  have h1 := flat_len s.data.toList
  have h2 : s.data.toList.length = s.size := Array.length_toList
  have h3 : (quoteS s).size = (quoteL s.data.toList).length := by simp [quoteS, ByteArray.size]
  rw [h3, quoteL]
  simp only [List.length_append, List.length_cons, List.length_nil]
  omega
theorem hexS_size (f : Nat) : (hexS f).size = 16 := by simp [hexS, strR, hexRows, ByteArray.size]
theorem c_quotedS (s : ByteArray) (hs : s.size ≤ 1000000) : Pure Tryd.prog 90 [sv s] (sv (quoteS s)) := c_quoted s hs
def printA (a : AtomD) : ByteArray := if a.k = 1 then bs (Lib.formatBool (a.n == 1)) else if a.k = 2 then bs (Lib.itoa a.n) else if a.k = 3 then (⟨#[48, 102]⟩ : ByteArray) ++ hexS a.f
  else if a.k = 4 then quoteS a.s else if a.k = 5 then (⟨#[120]⟩ : ByteArray) ++ quoteS a.s else ⟨#[110, 117, 108, 108]⟩
theorem c_print (a : AtomD) (hn : i64B a.n) (hs : a.s.size ≤ 1000000) : Pure Tryd.prog 50 [a.av] (sv (printA a)) := by
  have hq : (1 + (quoteS a.s).size ≤ 9223372036854775807) = True := eq_true (by have := quoteS_size a.s; omega)
  have hx : (2 + (hexS a.f).size ≤ 9223372036854775807) = True := eq_true (by rw [hexS_size]; omega)
  refine pure_of_awp Tryd.func50 rfl rfl (by simp [Tryd.f50]) ?_; simp only [go_sem, ↓reduceIte, Nat.reduceEqDiff, Nat.reduceAdd, Nat.reduceLeDiff, Nat.reduceBEq, Nat.reduceMul, reduceCtorEq, Int.reduceLE, Int.reduceLT, Int.reduceAdd, Int.reduceSub, Int.reduceNeg, Int.reduceToNat, Int.reduceBEq]
  repeat' (first | refine awp_seq ?_ | refine awp_block ?_ | refine awp_round ?_ | refine awp_text rfl ?_ | refine awp_any rfl mix (by kernel_rfl) ?_ | (refine RunTo.unguard rfl rfl (fun hg => ?_) (fun hg => ?_) <;> ((try simp only [Bool.not_true, Bool.not_false, Bool.not_eq_true', Bool.not_eq_false', Bool.not_eq_eq_eq_not] at hg); (first | (cases hg) | (simp only [hg]) | skip))) | ((first | refine RunTo.plain rfl ?_ | refine RunTo.skipped rfl ?_ | refine RunTo.call (c_FormatBool _) Tryd.func88 rfl rfl rfl rfl rfl rfl rfl rfl ?_ | refine RunTo.call (c_Itoa a.n hn) Tryd.func68 rfl rfl rfl rfl rfl rfl rfl rfl ?_ | refine RunTo.call (c_Hex _) Tryd.func89 rfl rfl rfl rfl rfl rfl rfl rfl ?_ | refine RunTo.call (c_quotedS a.s hs) Tryd.func90 rfl rfl rfl rfl rfl rfl rfl rfl ?_); simp only [go_sem, ↓reduceIte, Nat.reduceEqDiff, Nat.reduceAdd, Nat.reduceLeDiff, Nat.reduceBEq, Nat.reduceMul, reduceCtorEq, Int.reduceLE, Int.reduceLT, Int.reduceAdd, Int.reduceSub, Int.reduceNeg, Int.reduceToNat, Int.reduceBEq, AtomD.av, hq, hx, List.size_toArray]) | ((first | refine RunTo.nil ⟨by kernel_rfl, ?_⟩ | refine RunTo.nil ?_ | refine awp_skip ?_ | refine awp_exit ?_); simp only [go_sem, ↓reduceIte, Nat.reduceEqDiff, Nat.reduceAdd, Nat.reduceLeDiff, Nat.reduceBEq, Nat.reduceMul, reduceCtorEq, Int.reduceLE, Int.reduceLT, Int.reduceAdd, Int.reduceSub, Int.reduceNeg, Int.reduceToNat, Int.reduceBEq, AtomD.av, hq, hx, List.size_toArray]) | (refine awp_cond' rfl (of_decide_eq_true rfl) (fun hc => ?_) (fun hc => ?_) <;> ((try simp only [Bool.not_true, Bool.not_false, Bool.not_eq_true', Bool.not_eq_false', Bool.not_eq_eq_eq_not] at hc); (first | (cases hc) | (simp only [hc]) | skip))))
  all_goals
    (first | refine awp_ret ?_ | skip); refine ⟨(by first | exact .inl rfl | exact .inr rfl | exact .inr trivial | trivial), ?_⟩; simp only [go_sem, ↓reduceIte, Nat.reduceEqDiff, Nat.reduceAdd, Nat.reduceLeDiff, Nat.reduceBEq, Nat.reduceMul, reduceCtorEq, Int.reduceLE, Int.reduceLT, Int.reduceAdd, Int.reduceSub, Int.reduceNeg, Int.reduceToNat, Int.reduceBEq, retV, resL, resV, sealV, sealC, sealAll, Tryd.f50]
    (try simp only [decide_eq_true_eq, decide_eq_false_iff_not, beq_iff_eq, bne_iff_ne, ne_eq, beq_eq_false_iff_ne, bne_eq_false_iff_eq, Bool.and_eq_true, Bool.or_eq_true, Bool.or_eq_false_iff, Bool.and_eq_false_iff] at *)
    simp [printA, *]
def printV1 (v : ValD) : ByteArray := if validV v = true then printA v.a else eE
theorem c_Print1 (v : ValD) (hk : v.a.k ≠ 6) (hn : i64B v.a.n) (hs : v.a.s.size ≤ 1000000) : Pure Tryd.prog 19 [v.av] (sv (printV1 v)) := by
  have hv := c_Valid v
  have hp := c_print v.a hn hs
  refine pure_of_awp Tryd.func19 rfl rfl (by simp [Tryd.f19]) ?_; simp only [go_sem, ↓reduceIte, Nat.reduceEqDiff, Nat.reduceAdd, Nat.reduceLeDiff, Nat.reduceBEq, Nat.reduceMul, reduceCtorEq, Int.reduceLE, Int.reduceLT, Int.reduceAdd, Int.reduceSub, Int.reduceNeg, Int.reduceToNat, Int.reduceBEq]
  repeat' (first | refine awp_seq ?_ | refine awp_block ?_ | refine awp_round ?_ | refine awp_text rfl ?_ | refine awp_any rfl mix (by kernel_rfl) ?_ | (refine RunTo.unguard rfl rfl (fun hg => ?_) (fun hg => ?_) <;> ((try simp only [Bool.not_true, Bool.not_false, Bool.not_eq_true', Bool.not_eq_false', Bool.not_eq_eq_eq_not] at hg); (first | (cases hg) | (simp only [hg]) | skip))) | ((first | refine RunTo.plain rfl ?_ | refine RunTo.skipped rfl ?_ | refine RunTo.call (hv) Tryd.func11 rfl rfl rfl rfl rfl rfl rfl rfl ?_ | refine RunTo.call (hp) Tryd.func50 rfl rfl rfl rfl rfl rfl rfl rfl ?_); simp only [go_sem, ↓reduceIte, Nat.reduceEqDiff, Nat.reduceAdd, Nat.reduceLeDiff, Nat.reduceBEq, Nat.reduceMul, reduceCtorEq, Int.reduceLE, Int.reduceLT, Int.reduceAdd, Int.reduceSub, Int.reduceNeg, Int.reduceToNat, Int.reduceBEq, ValD.av]) | ((first | refine RunTo.nil ⟨by kernel_rfl, ?_⟩ | refine RunTo.nil ?_ | refine awp_skip ?_ | refine awp_exit ?_); simp only [go_sem, ↓reduceIte, Nat.reduceEqDiff, Nat.reduceAdd, Nat.reduceLeDiff, Nat.reduceBEq, Nat.reduceMul, reduceCtorEq, Int.reduceLE, Int.reduceLT, Int.reduceAdd, Int.reduceSub, Int.reduceNeg, Int.reduceToNat, Int.reduceBEq, ValD.av]) | (refine awp_cond' rfl (of_decide_eq_true rfl) (fun hc => ?_) (fun hc => ?_) <;> ((try simp only [Bool.not_true, Bool.not_false, Bool.not_eq_true', Bool.not_eq_false', Bool.not_eq_eq_eq_not] at hc); (first | (cases hc) | (simp only [hc]) | skip))))
  all_goals ((try simp only [decide_eq_true_eq, decide_eq_false_iff_not, beq_iff_eq, bne_iff_ne, ne_eq, beq_eq_false_iff_ne, bne_eq_false_iff_eq, Bool.and_eq_true, Bool.or_eq_true, Bool.or_eq_false_iff, Bool.and_eq_false_iff] at *); try omega)
  all_goals
    (first | refine awp_ret ?_ | skip); refine ⟨(by first | exact .inl rfl | exact .inr rfl | exact .inr trivial | trivial), ?_⟩; simp only [go_sem, ↓reduceIte, Nat.reduceEqDiff, Nat.reduceAdd, Nat.reduceLeDiff, Nat.reduceBEq, Nat.reduceMul, reduceCtorEq, Int.reduceLE, Int.reduceLT, Int.reduceAdd, Int.reduceSub, Int.reduceNeg, Int.reduceToNat, Int.reduceBEq, retV, resL, resV, sealV, sealC, sealAll, Tryd.f19]
    simp [printV1, *]
  all_goals trace_state
end Go.Proofs.YtjihcldhjpdnmaaDoor.AM
namespace Go.Proofs.YtjihcldhjpdnmaaDoor.AM
open Go.RowKit FL
set_option linter.unusedSimpArgs false
set_option linter.unusedVariables false
set_option maxRecDepth 10000
set_option maxHeartbeats 0
def rng (r : Int) : Prop := r = -1 ∨ r = 0 ∨ r = 1
def fcmp (a b : Nat) : Int := if ((ordF a b == some .lt) || ((ordF a a == some .eq) && (ordF b b != some .eq))) = true then -1 else if ((ordF a b == some .gt) || ((ordF a a != some .eq) && (ordF b b == some .eq))) = true then 1 else 0
theorem fcmp_eq (a b : Nat) : fcmp a b = compareN a b := by
  have e1 : (ordF a b == some .lt) = fLt a b := rfl
  have e2 : (ordF a b == some .gt) = fGt a b := rfl
  have e3 : (ordF a a == some .eq) = fEq a a := rfl
  have e4 : (ordF b b == some .eq) = fEq b b := rfl
  have e5 : (ordF a a != some .eq) = fNe a a := rfl
  have e6 : (ordF b b != some .eq) = fNe b b := rfl
  unfold fcmp
  rw [e1, e2, e3, e4, e5, e6]
  unfold compareN cmp3 fkey
  rw [fLt_eq, fEq_eq, fEq_eq, fGt_eq, fNe_eq, fNe_eq]
  have ha := sv_bound a
  have hb := sv_bound b
  cases hna : nan a <;> cases hnb : nan b <;> simp [hna, hnb] at ha hb ⊢ <;> (repeat' split) <;> first | rfl | omega
theorem cmp3_rng (x y : Int) : rng (cmp3 x y) := by
  rcases cmp3_cases x y with ⟨h, _⟩ | ⟨h, _⟩ | ⟨h, _⟩ <;> rw [h] <;> simp [rng]
theorem fcmp_rng (a b : Nat) : rng (fcmp a b) := by rw [fcmp_eq]; exact cmp3_rng _ _
theorem c_fCompare (a b : Nat) : Pure Tryd.prog 84 [fv a, fv b] (iv (fcmp a b)) := by
  refine pure_of_awp Tryd.func84 rfl rfl (by simp [Tryd.f84]) ?_; simp only [go_sem, ↓reduceIte, Nat.reduceEqDiff, Nat.reduceAdd, Nat.reduceLeDiff, Nat.reduceBEq, Nat.reduceMul, reduceCtorEq, Int.reduceLE, Int.reduceLT, Int.reduceAdd, Int.reduceSub, Int.reduceNeg, Int.reduceToNat, Int.reduceBEq]
  repeat' (first | refine awp_seq ?_ | refine awp_block ?_ | refine awp_round ?_ | refine awp_text rfl ?_ | refine awp_any rfl mix (by kernel_rfl) ?_ | (refine RunTo.unguard rfl rfl (fun hg => ?_) (fun hg => ?_) <;> ((try simp only [Bool.not_true, Bool.not_false, Bool.not_eq_true', Bool.not_eq_false', Bool.not_eq_eq_eq_not] at hg); (first | (cases hg) | (simp only [hg]) | skip))) | ((first | refine RunTo.plain rfl ?_ | refine RunTo.skipped rfl ?_); simp only [go_sem, ↓reduceIte, Nat.reduceEqDiff, Nat.reduceAdd, Nat.reduceLeDiff, Nat.reduceBEq, Nat.reduceMul, reduceCtorEq, Int.reduceLE, Int.reduceLT, Int.reduceAdd, Int.reduceSub, Int.reduceNeg, Int.reduceToNat, Int.reduceBEq]) | ((first | refine RunTo.nil ⟨by kernel_rfl, ?_⟩ | refine RunTo.nil ?_ | refine awp_skip ?_ | refine awp_exit ?_); simp only [go_sem, ↓reduceIte, Nat.reduceEqDiff, Nat.reduceAdd, Nat.reduceLeDiff, Nat.reduceBEq, Nat.reduceMul, reduceCtorEq, Int.reduceLE, Int.reduceLT, Int.reduceAdd, Int.reduceSub, Int.reduceNeg, Int.reduceToNat, Int.reduceBEq]) | (refine awp_cond' rfl (of_decide_eq_true rfl) (fun hc => ?_) (fun hc => ?_) <;> ((try simp only [Bool.not_true, Bool.not_false, Bool.not_eq_true', Bool.not_eq_false', Bool.not_eq_eq_eq_not] at hc); (first | (cases hc) | (simp only [hc]) | skip))))
  all_goals
    (first | refine awp_ret ?_ | skip); refine ⟨(by first | exact .inl rfl | exact .inr rfl | exact .inr trivial | trivial), ?_⟩; simp only [go_sem, ↓reduceIte, Nat.reduceEqDiff, Nat.reduceAdd, Nat.reduceLeDiff, Nat.reduceBEq, Nat.reduceMul, reduceCtorEq, Int.reduceLE, Int.reduceLT, Int.reduceAdd, Int.reduceSub, Int.reduceNeg, Int.reduceToNat, Int.reduceBEq, retV, resL, resV, sealV, sealC, sealAll, Tryd.f84]
    simp only [fcmp, ordF, *, if_true, if_false, Bool.false_eq_true, ↓reduceIte, Bool.or_true, Bool.or_false, Bool.true_or, Bool.false_or, Bool.and_true, Bool.and_false, Bool.true_and, Bool.false_and]
  all_goals trace_state
theorem c_isNaNI (x : Int) : Pure Tryd.prog 81 [iv x] (bv false) := by
  refine pure_of_awp Tryd.func81 rfl rfl (by simp [Tryd.f81]) ?_; simp only [go_sem, ↓reduceIte, Nat.reduceEqDiff, Nat.reduceAdd, Nat.reduceLeDiff, Nat.reduceBEq, Nat.reduceMul, reduceCtorEq, Int.reduceLE, Int.reduceLT, Int.reduceAdd, Int.reduceSub, Int.reduceNeg, Int.reduceToNat, Int.reduceBEq]
  repeat' (first | refine awp_seq ?_ | refine awp_block ?_ | refine awp_round ?_ | refine awp_text rfl ?_ | refine awp_any rfl mix (by kernel_rfl) ?_ | (refine RunTo.unguard rfl rfl (fun hg => ?_) (fun hg => ?_) <;> ((try simp only [Bool.not_true, Bool.not_false, Bool.not_eq_true', Bool.not_eq_false', Bool.not_eq_eq_eq_not] at hg); (first | (cases hg) | (simp only [hg]) | skip))) | ((first | refine RunTo.plain rfl ?_ | refine RunTo.skipped rfl ?_); simp only [go_sem, ↓reduceIte, Nat.reduceEqDiff, Nat.reduceAdd, Nat.reduceLeDiff, Nat.reduceBEq, Nat.reduceMul, reduceCtorEq, Int.reduceLE, Int.reduceLT, Int.reduceAdd, Int.reduceSub, Int.reduceNeg, Int.reduceToNat, Int.reduceBEq, bne_self_eq_false]) | ((first | refine RunTo.nil ⟨by kernel_rfl, ?_⟩ | refine RunTo.nil ?_ | refine awp_skip ?_ | refine awp_exit ?_); simp only [go_sem, ↓reduceIte, Nat.reduceEqDiff, Nat.reduceAdd, Nat.reduceLeDiff, Nat.reduceBEq, Nat.reduceMul, reduceCtorEq, Int.reduceLE, Int.reduceLT, Int.reduceAdd, Int.reduceSub, Int.reduceNeg, Int.reduceToNat, Int.reduceBEq, bne_self_eq_false]) | (refine awp_cond' rfl (of_decide_eq_true rfl) (fun hc => ?_) (fun hc => ?_) <;> ((try simp only [Bool.not_true, Bool.not_false, Bool.not_eq_true', Bool.not_eq_false', Bool.not_eq_eq_eq_not] at hc); (first | (cases hc) | (simp only [hc]) | skip))))
  all_goals
    (first | refine awp_ret ?_ | skip); refine ⟨(by first | exact .inl rfl | exact .inr rfl | exact .inr trivial | trivial), ?_⟩; simp only [go_sem, ↓reduceIte, Nat.reduceEqDiff, Nat.reduceAdd, Nat.reduceLeDiff, Nat.reduceBEq, Nat.reduceMul, reduceCtorEq, Int.reduceLE, Int.reduceLT, Int.reduceAdd, Int.reduceSub, Int.reduceNeg, Int.reduceToNat, Int.reduceBEq, retV, resL, resV, sealV, sealC, sealAll, Tryd.f81]
theorem c_cmpI (x y : Int) : Pure Tryd.prog 36 [iv x, iv y] (iv (cmp3 x y)) := by
  refine pure_of_awp Tryd.func36 rfl rfl (by simp [Tryd.f36]) ?_; simp only [go_sem, ↓reduceIte, Nat.reduceEqDiff, Nat.reduceAdd, Nat.reduceLeDiff, Nat.reduceBEq, Nat.reduceMul, reduceCtorEq, Int.reduceLE, Int.reduceLT, Int.reduceAdd, Int.reduceSub, Int.reduceNeg, Int.reduceToNat, Int.reduceBEq]
  repeat' (first | refine awp_seq ?_ | refine awp_block ?_ | refine awp_round ?_ | refine awp_text rfl ?_ | refine awp_any rfl mix (by kernel_rfl) ?_ | (refine RunTo.unguard rfl rfl (fun hg => ?_) (fun hg => ?_) <;> ((try simp only [Bool.not_true, Bool.not_false, Bool.not_eq_true', Bool.not_eq_false', Bool.not_eq_eq_eq_not] at hg); (first | (cases hg) | (simp only [hg]) | skip))) | ((first | refine RunTo.plain rfl ?_ | refine RunTo.skipped rfl ?_ | refine RunTo.call (c_isNaNI x) Tryd.func81 rfl rfl rfl rfl rfl rfl rfl rfl ?_ | refine RunTo.call (c_isNaNI y) Tryd.func81 rfl rfl rfl rfl rfl rfl rfl rfl ?_); simp only [go_sem, ↓reduceIte, Nat.reduceEqDiff, Nat.reduceAdd, Nat.reduceLeDiff, Nat.reduceBEq, Nat.reduceMul, reduceCtorEq, Int.reduceLE, Int.reduceLT, Int.reduceAdd, Int.reduceSub, Int.reduceNeg, Int.reduceToNat, Int.reduceBEq]) | ((first | refine RunTo.nil ⟨by kernel_rfl, ?_⟩ | refine RunTo.nil ?_ | refine awp_skip ?_ | refine awp_exit ?_); simp only [go_sem, ↓reduceIte, Nat.reduceEqDiff, Nat.reduceAdd, Nat.reduceLeDiff, Nat.reduceBEq, Nat.reduceMul, reduceCtorEq, Int.reduceLE, Int.reduceLT, Int.reduceAdd, Int.reduceSub, Int.reduceNeg, Int.reduceToNat, Int.reduceBEq]) | (refine awp_cond' rfl (of_decide_eq_true rfl) (fun hc => ?_) (fun hc => ?_) <;> ((try simp only [Bool.not_true, Bool.not_false, Bool.not_eq_true', Bool.not_eq_false', Bool.not_eq_eq_eq_not] at hc); (first | (cases hc) | (simp only [hc]) | skip))))
  all_goals
    (first | refine awp_ret ?_ | skip); refine ⟨(by first | exact .inl rfl | exact .inr rfl | exact .inr trivial | trivial), ?_⟩; simp only [go_sem, ↓reduceIte, Nat.reduceEqDiff, Nat.reduceAdd, Nat.reduceLeDiff, Nat.reduceBEq, Nat.reduceMul, reduceCtorEq, Int.reduceLE, Int.reduceLT, Int.reduceAdd, Int.reduceSub, Int.reduceNeg, Int.reduceToNat, Int.reduceBEq, retV, resL, resV, sealV, sealC, sealAll, Tryd.f36]
    (try simp only [decide_eq_true_eq, decide_eq_false_iff_not, beq_iff_eq, bne_iff_ne, ne_eq, beq_eq_false_iff_ne, bne_eq_false_iff_eq, Bool.and_eq_true, Bool.or_eq_true, Bool.or_eq_false_iff, Bool.and_eq_false_iff] at *)
    unfold cmp3
    (repeat' split) <;> first | rfl | omega
theorem c_isNaNS (x : ByteArray) : Pure Tryd.prog 126 [sv x] (bv false) := by
  refine pure_of_awp Tryd.func126 rfl rfl (by simp [Tryd.f126]) ?_; simp only [go_sem, ↓reduceIte, Nat.reduceEqDiff, Nat.reduceAdd, Nat.reduceLeDiff, Nat.reduceBEq, Nat.reduceMul, reduceCtorEq, Int.reduceLE, Int.reduceLT, Int.reduceAdd, Int.reduceSub, Int.reduceNeg, Int.reduceToNat, Int.reduceBEq]
  repeat' (first | refine awp_seq ?_ | refine awp_block ?_ | refine awp_round ?_ | refine awp_text rfl ?_ | refine awp_any rfl mix (by kernel_rfl) ?_ | (refine RunTo.unguard rfl rfl (fun hg => ?_) (fun hg => ?_) <;> ((try simp only [Bool.not_true, Bool.not_false, Bool.not_eq_true', Bool.not_eq_false', Bool.not_eq_eq_eq_not] at hg); (first | (cases hg) | (simp only [hg]) | skip))) | ((first | refine RunTo.plain rfl ?_ | refine RunTo.skipped rfl ?_); simp only [go_sem, ↓reduceIte, Nat.reduceEqDiff, Nat.reduceAdd, Nat.reduceLeDiff, Nat.reduceBEq, Nat.reduceMul, reduceCtorEq, Int.reduceLE, Int.reduceLT, Int.reduceAdd, Int.reduceSub, Int.reduceNeg, Int.reduceToNat, Int.reduceBEq, beq_self_eq_true, Bool.not_true]) | ((first | refine RunTo.nil ⟨by kernel_rfl, ?_⟩ | refine RunTo.nil ?_ | refine awp_skip ?_ | refine awp_exit ?_); simp only [go_sem, ↓reduceIte, Nat.reduceEqDiff, Nat.reduceAdd, Nat.reduceLeDiff, Nat.reduceBEq, Nat.reduceMul, reduceCtorEq, Int.reduceLE, Int.reduceLT, Int.reduceAdd, Int.reduceSub, Int.reduceNeg, Int.reduceToNat, Int.reduceBEq, beq_self_eq_true, Bool.not_true]) | (refine awp_cond' rfl (of_decide_eq_true rfl) (fun hc => ?_) (fun hc => ?_) <;> ((try simp only [Bool.not_true, Bool.not_false, Bool.not_eq_true', Bool.not_eq_false', Bool.not_eq_eq_eq_not] at hc); (first | (cases hc) | (simp only [hc]) | skip))))
  all_goals
    (first | refine awp_ret ?_ | skip); refine ⟨(by first | exact .inl rfl | exact .inr rfl | exact .inr trivial | trivial), ?_⟩; simp only [go_sem, ↓reduceIte, Nat.reduceEqDiff, Nat.reduceAdd, Nat.reduceLeDiff, Nat.reduceBEq, Nat.reduceMul, reduceCtorEq, Int.reduceLE, Int.reduceLT, Int.reduceAdd, Int.reduceSub, Int.reduceNeg, Int.reduceToNat, Int.reduceBEq, retV, resL, resV, sealV, sealC, sealAll, Tryd.f126]
theorem c_isNum (a : AtomD) : Pure Tryd.prog 44 [a.av] (bv (a.k == 2 || a.k == 3)) := by
  refine pure_of_awp Tryd.func44 rfl rfl (by simp [Tryd.f44]) ?_; simp only [go_sem, ↓reduceIte, Nat.reduceEqDiff, Nat.reduceAdd, Nat.reduceLeDiff, Nat.reduceBEq, Nat.reduceMul, reduceCtorEq, Int.reduceLE, Int.reduceLT, Int.reduceAdd, Int.reduceSub, Int.reduceNeg, Int.reduceToNat, Int.reduceBEq]
  repeat' (first | refine awp_seq ?_ | refine awp_block ?_ | refine awp_round ?_ | refine awp_text rfl ?_ | refine awp_any rfl mix (by kernel_rfl) ?_ | (refine RunTo.unguard rfl rfl (fun hg => ?_) (fun hg => ?_) <;> ((try simp only [Bool.not_true, Bool.not_false, Bool.not_eq_true', Bool.not_eq_false', Bool.not_eq_eq_eq_not] at hg); (first | (cases hg) | (simp only [hg]) | skip))) | ((first | refine RunTo.plain rfl ?_ | refine RunTo.skipped rfl ?_); simp only [go_sem, ↓reduceIte, Nat.reduceEqDiff, Nat.reduceAdd, Nat.reduceLeDiff, Nat.reduceBEq, Nat.reduceMul, reduceCtorEq, Int.reduceLE, Int.reduceLT, Int.reduceAdd, Int.reduceSub, Int.reduceNeg, Int.reduceToNat, Int.reduceBEq, AtomD.av]) | ((first | refine RunTo.nil ⟨by kernel_rfl, ?_⟩ | refine RunTo.nil ?_ | refine awp_skip ?_ | refine awp_exit ?_); simp only [go_sem, ↓reduceIte, Nat.reduceEqDiff, Nat.reduceAdd, Nat.reduceLeDiff, Nat.reduceBEq, Nat.reduceMul, reduceCtorEq, Int.reduceLE, Int.reduceLT, Int.reduceAdd, Int.reduceSub, Int.reduceNeg, Int.reduceToNat, Int.reduceBEq, AtomD.av]) | (refine awp_cond' rfl (of_decide_eq_true rfl) (fun hc => ?_) (fun hc => ?_) <;> ((try simp only [Bool.not_true, Bool.not_false, Bool.not_eq_true', Bool.not_eq_false', Bool.not_eq_eq_eq_not] at hc); (first | (cases hc) | (simp only [hc]) | skip))))
  all_goals
    (first | refine awp_ret ?_ | skip); refine ⟨(by first | exact .inl rfl | exact .inr rfl | exact .inr trivial | trivial), ?_⟩; simp only [go_sem, ↓reduceIte, Nat.reduceEqDiff, Nat.reduceAdd, Nat.reduceLeDiff, Nat.reduceBEq, Nat.reduceMul, reduceCtorEq, Int.reduceLE, Int.reduceLT, Int.reduceAdd, Int.reduceSub, Int.reduceNeg, Int.reduceToNat, Int.reduceBEq, retV, resL, resV, sealV, sealC, sealAll, Tryd.f44]
    try simp [*]
theorem c_nan (a : AtomD) : Pure Tryd.prog 43 [a.av] (bv (a.k == 3 && clsF a.f == 0)) := by
  refine pure_of_awp Tryd.func43 rfl rfl (by simp [Tryd.f43]) ?_; simp only [go_sem, ↓reduceIte, Nat.reduceEqDiff, Nat.reduceAdd, Nat.reduceLeDiff, Nat.reduceBEq, Nat.reduceMul, reduceCtorEq, Int.reduceLE, Int.reduceLT, Int.reduceAdd, Int.reduceSub, Int.reduceNeg, Int.reduceToNat, Int.reduceBEq]
  repeat' (first | refine awp_seq ?_ | refine awp_block ?_ | refine awp_round ?_ | refine awp_text rfl ?_ | refine awp_any rfl mix (by kernel_rfl) ?_ | (refine RunTo.unguard rfl rfl (fun hg => ?_) (fun hg => ?_) <;> ((try simp only [Bool.not_true, Bool.not_false, Bool.not_eq_true', Bool.not_eq_false', Bool.not_eq_eq_eq_not] at hg); (first | (cases hg) | (simp only [hg]) | skip))) | ((first | refine RunTo.plain rfl ?_ | refine RunTo.skipped rfl ?_ | refine RunTo.call (c_Class _) Tryd.func82 rfl rfl rfl rfl rfl rfl rfl rfl ?_); simp only [go_sem, ↓reduceIte, Nat.reduceEqDiff, Nat.reduceAdd, Nat.reduceLeDiff, Nat.reduceBEq, Nat.reduceMul, reduceCtorEq, Int.reduceLE, Int.reduceLT, Int.reduceAdd, Int.reduceSub, Int.reduceNeg, Int.reduceToNat, Int.reduceBEq, AtomD.av]) | ((first | refine RunTo.nil ⟨by kernel_rfl, ?_⟩ | refine RunTo.nil ?_ | refine awp_skip ?_ | refine awp_exit ?_); simp only [go_sem, ↓reduceIte, Nat.reduceEqDiff, Nat.reduceAdd, Nat.reduceLeDiff, Nat.reduceBEq, Nat.reduceMul, reduceCtorEq, Int.reduceLE, Int.reduceLT, Int.reduceAdd, Int.reduceSub, Int.reduceNeg, Int.reduceToNat, Int.reduceBEq, AtomD.av]) | (refine awp_cond' rfl (of_decide_eq_true rfl) (fun hc => ?_) (fun hc => ?_) <;> ((try simp only [Bool.not_true, Bool.not_false, Bool.not_eq_true', Bool.not_eq_false', Bool.not_eq_eq_eq_not] at hc); (first | (cases hc) | (simp only [hc]) | skip))))
  all_goals
    (first | refine awp_ret ?_ | skip); refine ⟨(by first | exact .inl rfl | exact .inr rfl | exact .inr trivial | trivial), ?_⟩; simp only [go_sem, ↓reduceIte, Nat.reduceEqDiff, Nat.reduceAdd, Nat.reduceLeDiff, Nat.reduceBEq, Nat.reduceMul, reduceCtorEq, Int.reduceLE, Int.reduceLT, Int.reduceAdd, Int.reduceSub, Int.reduceNeg, Int.reduceToNat, Int.reduceBEq, retV, resL, resV, sealV, sealC, sealAll, Tryd.f43]
    try simp [*]
def rankA (a : AtomD) : Int := if a.k = 3 then 2 else a.k
theorem c_rank (a : AtomD) : Pure Tryd.prog 42 [a.av] (iv (rankA a)) := by
  refine pure_of_awp Tryd.func42 rfl rfl (by simp [Tryd.f42]) ?_; simp only [go_sem, ↓reduceIte, Nat.reduceEqDiff, Nat.reduceAdd, Nat.reduceLeDiff, Nat.reduceBEq, Nat.reduceMul, reduceCtorEq, Int.reduceLE, Int.reduceLT, Int.reduceAdd, Int.reduceSub, Int.reduceNeg, Int.reduceToNat, Int.reduceBEq]
  repeat' (first | refine awp_seq ?_ | refine awp_block ?_ | refine awp_round ?_ | refine awp_text rfl ?_ | refine awp_any rfl mix (by kernel_rfl) ?_ | (refine RunTo.unguard rfl rfl (fun hg => ?_) (fun hg => ?_) <;> ((try simp only [Bool.not_true, Bool.not_false, Bool.not_eq_true', Bool.not_eq_false', Bool.not_eq_eq_eq_not] at hg); (first | (cases hg) | (simp only [hg]) | skip))) | ((first | refine RunTo.plain rfl ?_ | refine RunTo.skipped rfl ?_); simp only [go_sem, ↓reduceIte, Nat.reduceEqDiff, Nat.reduceAdd, Nat.reduceLeDiff, Nat.reduceBEq, Nat.reduceMul, reduceCtorEq, Int.reduceLE, Int.reduceLT, Int.reduceAdd, Int.reduceSub, Int.reduceNeg, Int.reduceToNat, Int.reduceBEq, AtomD.av]) | ((first | refine RunTo.nil ⟨by kernel_rfl, ?_⟩ | refine RunTo.nil ?_ | refine awp_skip ?_ | refine awp_exit ?_); simp only [go_sem, ↓reduceIte, Nat.reduceEqDiff, Nat.reduceAdd, Nat.reduceLeDiff, Nat.reduceBEq, Nat.reduceMul, reduceCtorEq, Int.reduceLE, Int.reduceLT, Int.reduceAdd, Int.reduceSub, Int.reduceNeg, Int.reduceToNat, Int.reduceBEq, AtomD.av]) | (refine awp_cond' rfl (of_decide_eq_true rfl) (fun hc => ?_) (fun hc => ?_) <;> ((try simp only [Bool.not_true, Bool.not_false, Bool.not_eq_true', Bool.not_eq_false', Bool.not_eq_eq_eq_not] at hc); (first | (cases hc) | (simp only [hc]) | skip))))
  all_goals
    (first | refine awp_ret ?_ | skip); refine ⟨(by first | exact .inl rfl | exact .inr rfl | exact .inr trivial | trivial), ?_⟩; simp only [go_sem, ↓reduceIte, Nat.reduceEqDiff, Nat.reduceAdd, Nat.reduceLeDiff, Nat.reduceBEq, Nat.reduceMul, reduceCtorEq, Int.reduceLE, Int.reduceLT, Int.reduceAdd, Int.reduceSub, Int.reduceNeg, Int.reduceToNat, Int.reduceBEq, retV, resL, resV, sealV, sealC, sealAll, Tryd.f42]
    (try simp only [decide_eq_true_eq, decide_eq_false_iff_not, beq_iff_eq, bne_iff_ne, ne_eq, beq_eq_false_iff_ne, bne_eq_false_iff_eq, Bool.and_eq_true, Bool.or_eq_true, Bool.or_eq_false_iff, Bool.and_eq_false_iff] at *)
    simp [rankA, *]
theorem c_or2 (x y : Int) : Pure Tryd.prog 79 [.dat (.lst 1 [[di x], [di y]])] (iv (if x = 0 then y else x)) := by
  refine pure_of_awp Tryd.func79 rfl rfl (by simp [Tryd.f79]) ?_; simp only [go_sem, ↓reduceIte, Nat.reduceEqDiff, Nat.reduceAdd, Nat.reduceLeDiff, Nat.reduceBEq, Nat.reduceMul, reduceCtorEq, Int.reduceLE, Int.reduceLT, Int.reduceAdd, Int.reduceSub, Int.reduceNeg, Int.reduceToNat, Int.reduceBEq]
  repeat' (first | refine awp_seq ?_ | refine awp_block ?_ | refine awp_round ?_ | refine awp_text rfl ?_ | refine awp_any rfl mix (by kernel_rfl) ?_ | (refine RunTo.unguard rfl rfl (fun hg => ?_) (fun hg => ?_) <;> ((try simp only [Bool.not_true, Bool.not_false, Bool.not_eq_true', Bool.not_eq_false', Bool.not_eq_eq_eq_not] at hg); (first | (cases hg) | (simp only [hg]) | skip))) | ((first | refine RunTo.plain rfl ?_ | refine RunTo.skipped rfl ?_); simp only [go_sem, ↓reduceIte, Nat.reduceEqDiff, Nat.reduceAdd, Nat.reduceLeDiff, Nat.reduceBEq, Nat.reduceMul, reduceCtorEq, Int.reduceLE, Int.reduceLT, Int.reduceAdd, Int.reduceSub, Int.reduceNeg, Int.reduceToNat, Int.reduceBEq]) | ((first | refine RunTo.nil ⟨by kernel_rfl, ?_⟩ | refine RunTo.nil ?_ | refine awp_skip ?_ | refine awp_exit ?_); simp only [go_sem, ↓reduceIte, Nat.reduceEqDiff, Nat.reduceAdd, Nat.reduceLeDiff, Nat.reduceBEq, Nat.reduceMul, reduceCtorEq, Int.reduceLE, Int.reduceLT, Int.reduceAdd, Int.reduceSub, Int.reduceNeg, Int.reduceToNat, Int.reduceBEq]) | (refine awp_cond' rfl (of_decide_eq_true rfl) (fun hc => ?_) (fun hc => ?_) <;> ((try simp only [Bool.not_true, Bool.not_false, Bool.not_eq_true', Bool.not_eq_false', Bool.not_eq_eq_eq_not] at hc); (first | (cases hc) | (simp only [hc]) | skip))))
  refine awp_rounds 3 ?_
  repeat' (first | refine awp_seq ?_ | refine awp_block ?_ | refine awp_round ?_ | refine awp_text rfl ?_ | refine awp_any rfl mix (by kernel_rfl) ?_ | (refine RunTo.unguard rfl rfl (fun hg => ?_) (fun hg => ?_) <;> ((try simp only [Bool.not_true, Bool.not_false, Bool.not_eq_true', Bool.not_eq_false', Bool.not_eq_eq_eq_not] at hg); (first | (cases hg) | (simp only [hg]) | skip))) | ((first | refine RunTo.plain rfl ?_ | refine RunTo.skipped rfl ?_); simp only [go_sem, ↓reduceIte, Nat.reduceEqDiff, Nat.reduceAdd, Nat.reduceLeDiff, Nat.reduceBEq, Nat.reduceMul, reduceCtorEq, Int.reduceLE, Int.reduceLT, Int.reduceAdd, Int.reduceSub, Int.reduceNeg, Int.reduceToNat, Int.reduceBEq]) | ((first | refine RunTo.nil ⟨by kernel_rfl, ?_⟩ | refine RunTo.nil ?_ | refine awp_skip ?_ | refine awp_exit ?_); simp only [go_sem, ↓reduceIte, Nat.reduceEqDiff, Nat.reduceAdd, Nat.reduceLeDiff, Nat.reduceBEq, Nat.reduceMul, reduceCtorEq, Int.reduceLE, Int.reduceLT, Int.reduceAdd, Int.reduceSub, Int.reduceNeg, Int.reduceToNat, Int.reduceBEq]) | (refine awp_cond' rfl (of_decide_eq_true rfl) (fun hc => ?_) (fun hc => ?_) <;> ((try simp only [Bool.not_true, Bool.not_false, Bool.not_eq_true', Bool.not_eq_false', Bool.not_eq_eq_eq_not] at hc); (first | (cases hc) | (simp only [hc]) | skip))))
  all_goals
    (first | refine awp_ret ?_ | skip); refine ⟨(by first | exact .inl rfl | exact .inr rfl | exact .inr trivial | trivial), ?_⟩; simp only [go_sem, ↓reduceIte, Nat.reduceEqDiff, Nat.reduceAdd, Nat.reduceLeDiff, Nat.reduceBEq, Nat.reduceMul, reduceCtorEq, Int.reduceLE, Int.reduceLT, Int.reduceAdd, Int.reduceSub, Int.reduceNeg, Int.reduceToNat, Int.reduceBEq, retV, resL, resV, sealV, sealC, sealAll, Tryd.f79]
    (try simp only [decide_eq_true_eq, decide_eq_false_iff_not, beq_iff_eq, bne_iff_ne, ne_eq, beq_eq_false_iff_ne, bne_eq_false_iff_eq, Bool.and_eq_true, Bool.or_eq_true, Bool.or_eq_false_iff, Bool.and_eq_false_iff] at *)
    first
    | (rw [if_pos (by omega)]; done)
    | (rw [if_neg (by omega)]; done)
    | (rw [if_pos (by omega)]; simp; omega)
    | trace_state
theorem c_toldV (b : Bool) : Pure Tryd.prog 39 [bv b] (iv (if b then 1 else 0)) := by
  refine pure_of_awp Tryd.func39 rfl rfl (by simp [Tryd.f39]) ?_; simp only [go_sem, ↓reduceIte, Nat.reduceEqDiff, Nat.reduceAdd, Nat.reduceLeDiff, Nat.reduceBEq, Nat.reduceMul, reduceCtorEq, Int.reduceLE, Int.reduceLT, Int.reduceAdd, Int.reduceSub, Int.reduceNeg, Int.reduceToNat, Int.reduceBEq]
  repeat' (first | refine awp_seq ?_ | refine awp_block ?_ | refine awp_round ?_ | refine awp_text rfl ?_ | refine awp_any rfl mix (by kernel_rfl) ?_ | (refine RunTo.unguard rfl rfl (fun hg => ?_) (fun hg => ?_) <;> ((try simp only [Bool.not_true, Bool.not_false, Bool.not_eq_true', Bool.not_eq_false', Bool.not_eq_eq_eq_not] at hg); (first | (cases hg) | (simp only [hg]) | skip))) | ((first | refine RunTo.plain rfl ?_ | refine RunTo.skipped rfl ?_); simp only [go_sem, ↓reduceIte, Nat.reduceEqDiff, Nat.reduceAdd, Nat.reduceLeDiff, Nat.reduceBEq, Nat.reduceMul, reduceCtorEq, Int.reduceLE, Int.reduceLT, Int.reduceAdd, Int.reduceSub, Int.reduceNeg, Int.reduceToNat, Int.reduceBEq]) | ((first | refine RunTo.nil ⟨by kernel_rfl, ?_⟩ | refine RunTo.nil ?_ | refine awp_skip ?_ | refine awp_exit ?_); simp only [go_sem, ↓reduceIte, Nat.reduceEqDiff, Nat.reduceAdd, Nat.reduceLeDiff, Nat.reduceBEq, Nat.reduceMul, reduceCtorEq, Int.reduceLE, Int.reduceLT, Int.reduceAdd, Int.reduceSub, Int.reduceNeg, Int.reduceToNat, Int.reduceBEq]) | (refine awp_cond' rfl (of_decide_eq_true rfl) (fun hc => ?_) (fun hc => ?_) <;> ((try simp only [Bool.not_true, Bool.not_false, Bool.not_eq_true', Bool.not_eq_false', Bool.not_eq_eq_eq_not] at hc); (first | (cases hc) | (simp only [hc]) | skip))))
  all_goals
    (first | refine awp_ret ?_ | skip); refine ⟨(by first | exact .inl rfl | exact .inr rfl | exact .inr trivial | trivial), ?_⟩; simp only [go_sem, ↓reduceIte, Nat.reduceEqDiff, Nat.reduceAdd, Nat.reduceLeDiff, Nat.reduceBEq, Nat.reduceMul, reduceCtorEq, Int.reduceLE, Int.reduceLT, Int.reduceAdd, Int.reduceSub, Int.reduceNeg, Int.reduceToNat, Int.reduceBEq, retV, resL, resV, sealV, sealC, sealAll, Tryd.f39]
    try simp [*]
end Go.Proofs.YtjihcldhjpdnmaaDoor.AM
namespace Go.Proofs.YtjihcldhjpdnmaaDoor.AM
open Go.RowKit FL
set_option linter.unusedSimpArgs false
set_option linter.unusedVariables false
set_option maxRecDepth 10000
set_option maxHeartbeats 0
theorem awp_condT {P : Program} {nt : Nt} {Q : Exit → St → Prop} {st : St} {x y : Code} (h : AWP P nt x Q st) : AWP P nt (.cond (.const (.bool true)) x y) Q st := fun a c hr => by
  have h2 : a.eval (.const (.bool true)) = .bool true := rfl
  exact wp_cond h2 (by rw [if_pos rfl]; exact h a c hr)
theorem c_Trunc (f : Nat) (h : fNaN f = false) : Pure Tryd.prog 128 [fv f] (fv (fTrunc f)) := by
  refine pure_of_awp Tryd.func128 rfl rfl (by simp [Tryd.f128]) ?_; simp only [go_sem, ↓reduceIte, Nat.reduceEqDiff, Nat.reduceAdd, Nat.reduceLeDiff, Nat.reduceBEq, Nat.reduceMul, reduceCtorEq, Int.reduceLE, Int.reduceLT, Int.reduceAdd, Int.reduceSub, Int.reduceNeg, Int.reduceToNat, Int.reduceBEq]
  repeat' (first | refine awp_seq ?_ | refine awp_block ?_ | refine awp_round ?_ | refine awp_text rfl ?_ | refine awp_any rfl mix (by kernel_rfl) ?_ | (refine RunTo.unguard rfl rfl (fun hg => ?_) (fun hg => ?_) <;> ((try simp only [Bool.not_true, Bool.not_false, Bool.not_eq_true', Bool.not_eq_false', Bool.not_eq_eq_eq_not] at hg); (first | (cases hg) | (simp only [hg]) | skip))) | ((first | refine RunTo.plain rfl ?_ | refine RunTo.skipped rfl ?_); simp only [go_sem, ↓reduceIte, Nat.reduceEqDiff, Nat.reduceAdd, Nat.reduceLeDiff, Nat.reduceBEq, Nat.reduceMul, reduceCtorEq, Int.reduceLE, Int.reduceLT, Int.reduceAdd, Int.reduceSub, Int.reduceNeg, Int.reduceToNat, Int.reduceBEq]) | ((first | refine RunTo.nil ⟨by kernel_rfl, ?_⟩ | refine RunTo.nil ?_ | refine awp_skip ?_ | refine awp_exit ?_); simp only [go_sem, ↓reduceIte, Nat.reduceEqDiff, Nat.reduceAdd, Nat.reduceLeDiff, Nat.reduceBEq, Nat.reduceMul, reduceCtorEq, Int.reduceLE, Int.reduceLT, Int.reduceAdd, Int.reduceSub, Int.reduceNeg, Int.reduceToNat, Int.reduceBEq]) | (refine awp_cond' rfl (of_decide_eq_true rfl) (fun hc => ?_) (fun hc => ?_) <;> ((try simp only [Bool.not_true, Bool.not_false, Bool.not_eq_true', Bool.not_eq_false', Bool.not_eq_eq_eq_not] at hc); (first | (cases hc) | (simp only [hc]) | skip))))
  refine awp_condT ?_
  repeat' (first | refine awp_seq ?_ | refine awp_block ?_ | refine awp_round ?_ | refine awp_text rfl ?_ | refine awp_any rfl mix (by kernel_rfl) ?_ | (refine RunTo.unguard rfl rfl (fun hg => ?_) (fun hg => ?_) <;> ((try simp only [Bool.not_true, Bool.not_false, Bool.not_eq_true', Bool.not_eq_false', Bool.not_eq_eq_eq_not] at hg); (first | (cases hg) | (simp only [hg]) | skip))) | ((first | refine RunTo.plain rfl ?_ | refine RunTo.skipped rfl ?_ | refine RunTo.ext (x_trunc f h) rfl rfl rfl rfl ?_); simp only [go_sem, ↓reduceIte, Nat.reduceEqDiff, Nat.reduceAdd, Nat.reduceLeDiff, Nat.reduceBEq, Nat.reduceMul, reduceCtorEq, Int.reduceLE, Int.reduceLT, Int.reduceAdd, Int.reduceSub, Int.reduceNeg, Int.reduceToNat, Int.reduceBEq]) | ((first | refine RunTo.nil ⟨by kernel_rfl, ?_⟩ | refine RunTo.nil ?_ | refine awp_skip ?_ | refine awp_exit ?_); simp only [go_sem, ↓reduceIte, Nat.reduceEqDiff, Nat.reduceAdd, Nat.reduceLeDiff, Nat.reduceBEq, Nat.reduceMul, reduceCtorEq, Int.reduceLE, Int.reduceLT, Int.reduceAdd, Int.reduceSub, Int.reduceNeg, Int.reduceToNat, Int.reduceBEq]) | (refine awp_cond' rfl (of_decide_eq_true rfl) (fun hc => ?_) (fun hc => ?_) <;> ((try simp only [Bool.not_true, Bool.not_false, Bool.not_eq_true', Bool.not_eq_false', Bool.not_eq_eq_eq_not] at hc); (first | (cases hc) | (simp only [hc]) | skip))))
  all_goals
    (first | refine awp_ret ?_ | skip); refine ⟨(by first | exact .inl rfl | exact .inr rfl | exact .inr trivial | trivial), ?_⟩; simp only [go_sem, ↓reduceIte, Nat.reduceEqDiff, Nat.reduceAdd, Nat.reduceLeDiff, Nat.reduceBEq, Nat.reduceMul, reduceCtorEq, Int.reduceLE, Int.reduceLT, Int.reduceAdd, Int.reduceSub, Int.reduceNeg, Int.reduceToNat, Int.reduceBEq, retV, resL, resV, sealV, sealC, sealAll, Tryd.f128]
end Go.Proofs.YtjihcldhjpdnmaaDoor.AM
namespace Go.Proofs.YtjihcldhjpdnmaaDoor.AM
open Go.RowKit FL
set_option linter.unusedSimpArgs false
set_option linter.unusedVariables false
set_option maxRecDepth 10000
set_option maxHeartbeats 0
def numA (a : AtomD) : Bool := a.k == 2 || a.k == 3
end Go.Proofs.YtjihcldhjpdnmaaDoor.AM
