/- Part 12 of the proof: words, contracts, plain laws. Laid by a program of this session (wip/tool/shake.py): what is needed of own and printed texts, in order. -/
import Derived.Test.YtlpfdgkfdgehnaaDoorZb0
import Derived.Test.YtlpfdgkfdgehnaaDoorZb1
import Derived.Test.YtlpfdgkfdgehnaaDoorZb2
import Derived.Test.YtlpfdgkfdgehnaaDoorZb3
import Derived.Test.YtlpfdgkfdgehnaaDoorZb5
import Derived.Test.YtlpfdgkfdgehnaaDoorZb6
import Derived.Test.YtlpfdgkfdgehnaaDoorZb7
import Derived.Test.YtlpfdgkfdgehnaaDoorZb10
import Derived.Test.YtlpfdgkfdgehnaaDoorZb11
import Derived.Calls
import Derived.Lib.ItoaNum
import Derived.Orders
import Derived.Tactics
import Derived.Below
import Derived.Laws.Rows
import Derived.Laws.World
import Derived.Laws.CopyRow
import Derived.Lib.FrozenHead
import Derived.Deep.AppendSrc
import Derived.Deep.Upon
import Derived.Laws.BytesArg
import Derived.IntWalk
import Derived.Laws.Externs
import Derived.LoopN
import Derived.Scope
import Derived.Test.YtlpfdgkfdgehnaaDoorProg
import Derived.KernelRfl
import Derived.MapKept
import Derived.Recover
import Derived.Laws.FloatBits
import Derived.Lib.Bytealg
import Derived.Lib.AtoiAllCases
import Derived.Lib.Strings
import Derived.WideLaws
import Derived.Lib.ItoaMem
import Derived.Lib.ItoaLen
import Derived.Lib.Join
import Derived.RegionTactic
import Derived.Lib.AppendIntMem
import Derived.Shelf.Strings.Builder1
import Derived.Shelf.Strings.Builder2
import Derived.Shelf.Strings.OnBuilder
import Derived.Shelf.Small.Wraps
import Derived.Shelf.Strings.BuilderF
import Derived.Shelf.Strings.BuilderK
import Derived.Shelf.Strings.Builder2Cap
import Derived.Shelf.Strconv.Itoa0
import Derived.Shelf.Strconv.Itoa1
import Derived.Shelf.LaysM
import Derived.Shelf.Strconv.Itoa2
import Derived.Shelf.Strconv.Itoa3
import Derived.Shelf.Strings.BuilderCap
import Derived.Shelf.Slices.Turned
import Derived.Test.YtlpfdgkfdgehnaaDoorZb8
import Derived.Test.YtlpfdgkfdgehnaaDoorZb9
import Derived.Laws.StructEq
namespace Go.Proofs.YtlpfdgkfdgehnaaDoor.AM
open Go.RowKit
set_option linter.unusedSimpArgs false
set_option linter.unusedVariables false
set_option maxRecDepth 10000
set_option maxHeartbeats 0
theorem list1 {α : Type} (one : List TokD → PR α) (g : α → List TokD) : ∀ (xs : List α) (f : Nat) (acc : List α) (l us : List TokD), xs ≠ [] → xs.length ≤ f → (∀ x ∈ xs, ∀ l' us', (noM [comM] us' → True) → (∃ u r, us' = u :: r ∧ (u = tk comM ∨ us' = us)) → At l' (g x ++ us') → ∃ l'', one l' = .ok x l'' ∧ At l'' us') → noM [comM] us → At l (joinK (xs.map g) ++ us) → ∃ l', listP one f acc l = .ok (acc ++ xs) l' ∧ At l' us
  | [], _, _, _, _, h, _, _, _, _ => absurd rfl h
  | _ :: _, 0, _, _, _, _, hf, _, _, _ => by simp at hf
  | [x], f + 1, acc, l, us, _, _, hx, hn, h => by
    have hu : ∃ u r, us = u :: r ∧ (u = tk comM ∨ us = us) := by obtain ⟨u, r, e, _⟩ := hn; exact ⟨u, r, e, .inr rfl⟩
    obtain ⟨l', h1, h2⟩ := hx x (by simp) l us (fun _ => trivial) hu h
    refine ⟨l', ?_, h2⟩
    unfold listP
    rw [h1]
    show (if isM [comM] l' = true then _ else PR.ok (acc ++ [x]) l') = _
    rw [hn.is h2, if_neg (by simp)]
  | x :: y :: xs, f + 1, acc, l, us, _, hf, hx, hn, h => by
    have e : joinK ((x :: y :: xs).map g) ++ us = g x ++ (tk comM :: (joinK ((y :: xs).map g) ++ us)) := by simp [joinK]
    rw [e] at h
    obtain ⟨l', h1, h2⟩ := hx x (by simp) l _ (fun _ => trivial) ⟨_, _, rfl, .inl rfl⟩ h
    obtain ⟨l'', h3, h4⟩ := list1 one g (y :: xs) f (acc ++ [x]) l'.tail us (by simp) (by simp at hf ⊢; omega) (fun z hz => hx z (List.mem_cons_of_mem _ hz)) hn h2.hd.2.2.2.1
    refine ⟨l'', ?_, h4⟩
    unfold listP
    rw [h1]
    show (if isM [comM] l' = true then listP one f (acc ++ [x]) l'.tail else _) = _
    rw [h2.im, if_pos (by decide), h3, List.append_assoc]
    rfl
theorem prop1 {p : PropD} {l us : List TokD} (h : At l (propK p ++ us)) : ∃ l', propP l = .ok p l' ∧ At l' us := by
  obtain ⟨t, l1, h1, h2, h3⟩ := kind1 (show At l (nm p.name :: (tk colM :: lt p.v :: us)) from h)
  obtain ⟨l2, h4, h5⟩ := need1 colM h3
  obtain ⟨t', l3, h6, h7, h8⟩ := kind2 h5
  refine ⟨l3, ?_, h8⟩
  unfold propP
  rw [h1]
  show (needP [colM] l1).bind _ = _
  rw [h4]
  show (kindP 2 l2).bind _ = _
  rw [h6]
  show PR.ok (⟨t.t, t'.v⟩ : PropD) l3 = _
  rw [h2, h7]
theorem joinK_len {α : Type} (g : α → List TokD) (hg : ∀ x, 1 ≤ (g x).length) : ∀ xs : List α, xs.length ≤ (joinK (xs.map g)).length
  | [] => Nat.le_refl _
  | [x] => hg x
  | x :: y :: xs => by
    have ih := joinK_len g hg (y :: xs)
    have := hg x
    simp only [List.map_cons, joinK, List.length_append, List.length_cons] at *
    omega
theorem props1 {ps : List PropD} {l us : List TokD} (h : At l (propsK ps ++ us)) (hn : noM [lbrM] us) : ∃ l', propsP l = .ok ps l' ∧ At l' us := by
  unfold propsP
  by_cases h0 : ps.length = 0
  · have e : propsK ps = [] := by unfold propsK; rw [if_pos h0]
    rw [e, List.nil_append] at h
    rw [hn.is h, if_neg (by simp), List.length_eq_zero_iff.1 h0]
    exact ⟨l, rfl, h⟩
  · have e : propsK ps ++ us = tk lbrM :: (joinK (ps.map propK) ++ (tk rbrM :: us)) := by unfold propsK; rw [if_neg h0]; simp
    rw [e] at h
    have hl := h.len
    have hj := joinK_len propK (fun x => by simp [propK]) ps
    obtain ⟨l1, h1, h2⟩ := list1 propP propK ps l.length [] l.tail (tk rbrM :: us) (fun e => h0 (by rw [e]; rfl)) (by simp at hl; omega) (fun x _ l' us' _ _ ha => prop1 ha) ⟨_, _, rfl, by decide⟩ h.hd.2.2.2.1
    obtain ⟨l2, h3, h4⟩ := need1 rbrM h2
    refine ⟨l2, ?_, h4⟩
    rw [h.im, if_pos (by decide), h1]
    show (needP [rbrM] l1).bind _ = _
    rw [h3]
    rfl
theorem spot1 {s : SpotD} {l us : List TokD} (h : At l (spotK s ++ us)) : ∃ l', spotP l = .ok s l' ∧ At l' us := by
  have e : spotK s ++ us = tk lparM :: (mayK s.var ++ (labK s.label ++ (propsK s.props ++ (tk rparM :: us)))) := by unfold spotK; simp
  rw [e] at h
  obtain ⟨l1, h1, h2⟩ := need1 lparM h
  have hp : ∃ u r, propsK s.props ++ (tk rparM :: us) = u :: r ∧ (u = tk lbrM ∨ u = tk rparM) := by
    unfold propsK
    split
    · exact ⟨_, _, rfl, .inr rfl⟩
    · exact ⟨_, _, rfl, .inl rfl⟩
  have hl : ∃ u r, labK s.label ++ (propsK s.props ++ (tk rparM :: us)) = u :: r ∧ (u = tk colM ∨ u = tk lbrM ∨ u = tk rparM) := by
    unfold labK
    split
    · obtain ⟨u, r, e, hu⟩ := hp
      exact ⟨u, r, e, .inr hu⟩
    · exact ⟨_, _, rfl, .inl rfl⟩
  obtain ⟨l2, h3, h4⟩ := may1 h2 (by obtain ⟨u, r, e, hu⟩ := hl; exact ⟨u, r, e, by rcases hu with rfl | rfl | rfl <;> (show (3 : Int) ≠ 1; decide)⟩)
  obtain ⟨l3, h5, h6⟩ := named1 h4 (by obtain ⟨u, r, e, hu⟩ := hp; exact ⟨u, r, e, by rcases hu with rfl | rfl <;> decide⟩)
  obtain ⟨l4, h7, h8⟩ := props1 h6 ⟨_, _, rfl, by decide⟩
  obtain ⟨l5, h9, h10⟩ := need1 rparM h8
  refine ⟨l5, ?_, h10⟩
  unfold spotP
  rw [h1]
  show (maybeP l1).bind _ = _
  rw [h3]
  show (namedP l2).bind _ = _
  rw [h5]
  show (propsP l3).bind _ = _
  rw [h7]
  show (needP [rparM] l4).bind _ = _
  rw [h9]
  rfl
theorem many1 {h : HopD} {l us : List TokD} (hr : rightH h = true) (ha : At l (manyK h ++ us)) (hn : noM [starM] us) : ∃ l', manyP l = .ok (h.many, h.least, h.most) l' ∧ At l' us := by
  unfold rightH at hr
  rw [Bool.and_eq_true] at hr
  have hr := hr.2
  unfold manyP
  cases hm : h.many with
  | true =>
    rw [hm, if_pos rfl] at hr
    simp only [Bool.and_eq_true, decide_eq_true_eq] at hr
    have e : manyK h ++ us = tk starM :: lt (numV h.least) :: tk dotsM :: lt (numV h.most) :: us := by unfold manyK; rw [if_pos hm]; rfl
    rw [e] at ha
    obtain ⟨l1, h1, h2⟩ := num1 hr.1.1 ha.hd.2.2.2.1
    obtain ⟨l2, h3, h4⟩ := need1 dotsM h2
    obtain ⟨l3, h5, h6⟩ := num1 (by omega) h4
    refine ⟨l3, ?_, h6⟩
    rw [ha.im, if_pos (by decide), h1]
    show (needP [dotsM] l1).bind _ = _
    rw [h3]
    show (numberP l2).bind _ = _
    rw [h5]
    rfl
  | false =>
    rw [hm, if_neg (by simp)] at hr
    simp only [Bool.and_eq_true, beq_iff_eq] at hr
    have e : manyK h = [] := by unfold manyK; rw [if_neg (by rw [hm]; simp)]
    rw [e, List.nil_append] at ha
    rw [hn.is ha, if_neg (by simp), hr.1, hr.2]
    exact ⟨l, rfl, ha⟩
theorem hop1 {h : HopD} {l us : List TokD} (hr : rightH h = true) (ha : At l (hopK h ++ us)) : ∃ l', hopP l = .ok h l' ∧ At l' us := by
  have e : hopK h ++ us = tk (if h.back = true then hbM else hfM) :: (mayK h.var ++ (labK h.type ++ (manyK h ++ (tk (if h.back = true then ebM else efM) :: us)))) := by unfold hopK; simp
  rw [e] at ha
  have hd := ha.hd
  have hm : ∃ u r, manyK h ++ (tk (if h.back = true then ebM else efM) :: us) = u :: r ∧ (u = tk starM ∨ u = tk ebM ∨ u = tk efM) := by
    unfold manyK
    split
    · exact ⟨_, _, rfl, .inl rfl⟩
    · split
      · exact ⟨_, _, rfl, .inr (.inl rfl)⟩
      · exact ⟨_, _, rfl, .inr (.inr rfl)⟩
  have hl : ∃ u r, labK h.type ++ (manyK h ++ (tk (if h.back = true then ebM else efM) :: us)) = u :: r ∧ (u = tk colM ∨ u = tk starM ∨ u = tk ebM ∨ u = tk efM) := by
    unfold labK
    split
    · obtain ⟨u, r, e, hu⟩ := hm
      exact ⟨u, r, e, .inr hu⟩
    · exact ⟨_, _, rfl, .inl rfl⟩
  obtain ⟨l1, h1, h2⟩ := may1 hd.2.2.2.1 (by obtain ⟨u, r, e, hu⟩ := hl; exact ⟨u, r, e, by rcases hu with rfl | rfl | rfl | rfl <;> (show (3 : Int) ≠ 1; decide)⟩)
  obtain ⟨l2, h3, h4⟩ := named1 h2 (by obtain ⟨u, r, e, hu⟩ := hm; exact ⟨u, r, e, by rcases hu with rfl | rfl | rfl <;> decide⟩)
  obtain ⟨l3, h5, h6⟩ := many1 hr h4 ⟨_, _, rfl, by split <;> decide⟩
  obtain ⟨l4, h7, h8⟩ := need1 _ h6
  have hb : ((hdT l).t.toList == hbM.toList) = h.back := by
    rw [hd.2.1]
    cases h.back <;> decide +kernel
  refine ⟨l4, ?_, h8⟩
  unfold hopP
  rw [h1, hb]
  show (namedP l1).bind _ = _
  rw [h3]
  show (manyP l2).bind _ = _
  rw [h5]
  show (needP [if h.back = true then ebM else efM] l3).bind _ = _
  rw [h7]
  rfl
def stopM : List ByteArray := [⟨#[43]⟩, ⟨#[45]⟩, ⟨#[61]⟩, ⟨#[60, 62]⟩, ⟨#[60]⟩, ⟨#[60, 61]⟩, ⟨#[62]⟩, ⟨#[62, 61]⟩, isM', andM, orM]
theorem noM.sub {ms ns : List ByteArray} {us : List TokD} (h : noM ms us) (hs : ns.all (fun m => Lib.containsS ms m) = true) : noM ns us := by
  obtain ⟨u, r, e, hu⟩ := h
  refine ⟨u, r, e, ?_⟩
  cases hk : (u.k == 3) with
  | false => rfl
  | true =>
    rw [hk, Bool.true_and] at hu
    rw [Bool.true_and]
    cases hc : Lib.containsS ns u.t with
    | false => rfl
    | true =>
      rw [Lib.containsS_iff] at hc
      have := List.all_eq_true.1 hs _ hc
      rw [hu] at this
      cases this
theorem chain0 {op : List TokD → Option Int} {one : TP} {f : Nat} {acc : List TermD} {l : List TokD} (h : op l = none) : chainP op one f acc l = .ok acc l := by
  cases f with
  | zero => rfl
  | succ f => unfold chainP; rw [h]
theorem chain1 {op : List TokD → Option Int} {one : TP} {f : Nat} {acc b : List TermD} {l l' : List TokD} {o : Int} (h : op l = some o) (h1 : one l.tail = .ok b l') (h2 : op l' = none) (hf : 1 ≤ f) : chainP op one f acc l = .ok (acc ++ b ++ [opT o]) l' := by
  obtain ⟨g, rfl⟩ : ∃ g, f = g + 1 := ⟨f - 1, by omega⟩
  unfold chainP
  rw [h]
  show (one l.tail).bind _ = _
  rw [h1]
  exact chain0 h2
def Tells (one : TP) (ts : List TermD) (us : List TokD) : Prop := ∀ l vs, noM stopM vs → At l (us ++ vs) → ∃ l', one l = .ok ts l' ∧ At l' vs
def TellsA (one : TP) (ts : List TermD) (us : List TokD) : Prop := ∀ l vs, (∃ u r, vs = u :: r) → At l (us ++ vs) → ∃ l', one l = .ok ts l' ∧ At l' vs
theorem sumT {one : TP} {ts : List TermD} {us l vs : List TokD} (h : TellsA one ts us) (hv : noM [plusM, minusM] vs) (ha : At l (us ++ vs)) : ∃ l', sumP one l = .ok ts l' ∧ At l' vs := by
  obtain ⟨l', h1, h2⟩ := h l vs (by obtain ⟨u, r, e, _⟩ := hv; exact ⟨u, r, e⟩) ha
  refine ⟨l', ?_, h2⟩
  unfold sumP
  rw [h1]
  exact chain0 (by unfold sumOp; rw [hv.is h2]; rfl)
theorem testT {one : TP} {ts : List TermD} {us l vs : List TokD} (h : TellsA one ts us) (hv : noM (signsL ++ [isM', plusM, minusM]) vs) (ha : At l (us ++ vs)) : ∃ l', testP (sumP one) l = .ok ts l' ∧ At l' vs := by
  obtain ⟨l', h1, h2⟩ := sumT h (hv.sub (by decide)) ha
  refine ⟨l', ?_, h2⟩
  unfold testP
  rw [h1]
  show (if isM signsL l' = true then _ else if isM [isM'] l' = true then _ else PR.ok ts l') = _
  rw [(hv.sub (by decide) : noM signsL vs).is h2, if_neg (by simp), (hv.sub (by decide) : noM [isM'] vs).is h2, if_neg (by simp)]
def noNot (us : List TokD) : Prop := ∃ u r, us = u :: r ∧ (u.k == 3 && Lib.containsS [notM] u.t) = false
theorem notT {test : TP} {f : Nat} {l us vs : List TokD} (hn : noNot us) (ha : At l (us ++ vs)) : notP test f l = test l := by
  cases f with
  | zero => rfl
  | succ f =>
    obtain ⟨u, r, rfl, hu⟩ := hn
    unfold notP
    rw [ha.im, hu, if_neg (by simp)]
theorem lf_not (t : TermD) : noNot (lfT t) := by
  unfold lfT
  split
  · exact ⟨_, _, rfl, rfl⟩
  · split
    · exact ⟨_, _, rfl, rfl⟩
    · exact ⟨_, _, rfl, by decide⟩
theorem tr_not : ∀ t : Tr, noNot t.toks
  | .lf t => lf_not t
  | .un op a => by
    unfold Tr.toks
    split
    · exact ⟨_, _, rfl, by decide⟩
    · exact ⟨_, _, rfl, by decide⟩
  | .bi op a b => by unfold Tr.toks; exact ⟨_, _, rfl, by decide⟩
def exprOf (one : TP) : TP := orsP (andsP fun l => notP (testP (sumP one)) l.length l)
theorem not1 {one : TP} {ts : List TermD} {us l vs : List TokD} (h : TellsA one ts us) (hn : noNot us) (hv : noM (signsL ++ [isM', plusM, minusM]) vs) (ha : At l (us ++ vs)) : ∃ l', notP (testP (sumP one)) l.length l = .ok ts l' ∧ At l' vs := by
  rw [notT hn ha]
  exact testT h hv ha
theorem ors_of {ands : TP} {l l' vs : List TokD} {ts : List TermD} (h : ands l = .ok ts l') (ha : At l' vs) (hv : noM [orM] vs) : orsP ands l = .ok ts l' := by
  unfold orsP
  rw [h]
  exact chain0 (by unfold orOp; rw [hv.is ha]; rfl)
theorem ands_of {not : TP} {l l' vs : List TokD} {ts : List TermD} (h : not l = .ok ts l') (ha : At l' vs) (hv : noM [andM] vs) : andsP not l = .ok ts l' := by
  unfold andsP
  rw [h]
  exact chain0 (by unfold andOp; rw [hv.is ha]; rfl)
theorem expr0 {one : TP} {ts : List TermD} {us : List TokD} (h : TellsA one ts us) (hn : noNot us) : Tells (exprOf one) ts us := fun l vs hv ha => by
  obtain ⟨l', h1, h2⟩ := not1 h hn (hv.sub (by decide)) ha
  exact ⟨l', ors_of (ands_of h1 h2 (hv.sub (by decide))) h2 (hv.sub (by decide)), h2⟩
abbrev rp (r : List TokD) : List TokD := tk rparM :: r
theorem rp_no (r : List TokD) (ms : List ByteArray) (h : Lib.containsS ms rparM = false) : noM ms (rp r) := ⟨_, _, rfl, by rw [h, Bool.and_false]⟩
theorem expr_not {one : TP} {ts : List TermD} {us : List TokD} (h : TellsA one ts us) (hn : noNot us) (l r : List TokD) (ha : At l (tk notM :: (us ++ rp r))) : ∃ l', exprOf one l = .ok (ts ++ [opT 4]) l' ∧ At l' (rp r) := by
  obtain ⟨l', h1, h2⟩ := testT h (rp_no r _ (by decide)) ha.hd.2.2.2.1
  have hl := ha.hd.2.2.2.2
  refine ⟨l', ors_of (ands_of ?_ h2 (rp_no r _ (by decide))) h2 (rp_no r _ (by decide)), h2⟩
  obtain ⟨g, hg⟩ : ∃ g, l.length = g + 1 := ⟨l.length - 1, by omega⟩
  show notP (testP (sumP one)) l.length l = _
  rw [hg]
  unfold notP
  rw [ha.im, if_pos (by decide), notT hn ha.hd.2.2.2.1, h1]
  rfl
theorem expr_null {one : TP} {ts : List TermD} {us : List TokD} (h : TellsA one ts us) (hn : noNot us) (l r : List TokD) (ha : At l (us ++ (tk isM' :: lt nulV :: rp r))) : ∃ l', exprOf one l = .ok (ts ++ [opT 5]) l' ∧ At l' (rp r) := by
  obtain ⟨l1, h1, h2⟩ := sumT h ⟨_, _, rfl, by decide⟩ ha
  have h3 := h2.hd.2.2.2.1
  refine ⟨l1.tail.tail, ors_of (ands_of ?_ h3.hd.2.2.2.1 (rp_no r _ (by decide))) h3.hd.2.2.2.1 (rp_no r _ (by decide)), h3.hd.2.2.2.1⟩
  show notP (testP (sumP one)) l.length l = _
  rw [notT hn ha]
  unfold testP
  rw [h1]
  show (if isM signsL l1 = true then _ else if isM [isM'] l1 = true then _ else PR.ok ts l1) = _
  rw [h2.im, if_neg (by decide), h2.im, if_pos (by decide), h3.im, if_neg (by decide)]
  unfold nullP
  rw [h3.hd.1, h3.hd.2.2.1, if_pos ⟨rfl, rfl⟩]
  rfl
theorem sign_cases {op : Int} (h : signOk op) : op = 6 ∨ op = 7 ∨ (8 ≤ op ∧ op ≤ 13) ∨ op = 14 ∨ op = 15 := by unfold signOk at h; omega
theorem expr_bin {one : TP} {ta tb : List TermD} {ua ub : List TokD} {op : Int} (ho : signOk op) (h : TellsA one ta ua) (h' : TellsA one tb ub) (hn : noNot ua) (hn' : noNot ub) (l r : List TokD) (ha : At l (ua ++ (tk (signS op) :: (ub ++ rp r)))) : ∃ l', exprOf one l = .ok (ta ++ tb ++ [opT op]) l' ∧ At l' (rp r) := by
  rcases sign_cases ho with rfl | rfl | hop | rfl | rfl
  · obtain ⟨l1, h1, h2⟩ := not1 h hn ⟨_, _, rfl, by decide⟩ ha
    obtain ⟨l2, h3, h4⟩ := not1 h' hn' (rp_no r _ (by decide)) h2.hd.2.2.2.1
    refine ⟨l2, ors_of ?_ h4 (rp_no r _ (by decide)), h4⟩
    unfold andsP
    show (notP (testP (sumP one)) l.length l).bind _ = _
    rw [h1]
    exact chain1 (by unfold andOp; rw [h2.im, if_pos (by decide)]) h3 (by unfold andOp; rw [(rp_no r [andM] (by decide)).is h4]; rfl) h2.hd.2.2.2.2
  · obtain ⟨l1, h1, h2⟩ := not1 h hn ⟨_, _, rfl, by decide⟩ ha
    obtain ⟨l2, h3, h4⟩ := not1 h' hn' (rp_no r _ (by decide)) h2.hd.2.2.2.1
    refine ⟨l2, ?_, h4⟩
    show orsP (andsP fun l => notP (testP (sumP one)) l.length l) l = _
    unfold orsP
    rw [ands_of (not := fun l => notP (testP (sumP one)) l.length l) h1 h2 ⟨_, _, rfl, by decide⟩]
    exact chain1 (by unfold orOp; rw [h2.im, if_pos (by decide)]) (ands_of (not := fun l => notP (testP (sumP one)) l.length l) h3 h4 (rp_no r _ (by decide))) (by unfold orOp; rw [(rp_no r [orM] (by decide)).is h4]; rfl) h2.hd.2.2.2.2
  · have hm : Lib.containsS signsL (signS op) = true ∧ Lib.containsS [plusM, minusM] (signS op) = false ∧ (8 + (idxB signsL (signS op) : Int)) = op := by
      have : op = 8 ∨ op = 9 ∨ op = 10 ∨ op = 11 ∨ op = 12 ∨ op = 13 := by omega
      rcases this with rfl | rfl | rfl | rfl | rfl | rfl <;> decide +kernel
    obtain ⟨l1, h1, h2⟩ := sumT h ⟨_, _, rfl, by rw [hm.2.1, Bool.and_false]⟩ ha
    obtain ⟨l2, h3, h4⟩ := sumT h' (rp_no r _ (by decide)) h2.hd.2.2.2.1
    refine ⟨l2, ors_of (ands_of ?_ h4 (rp_no r _ (by decide))) h4 (rp_no r _ (by decide)), h4⟩
    show notP (testP (sumP one)) l.length l = _
    rw [notT hn ha]
    unfold testP
    rw [h1]
    show (if isM signsL l1 = true then (sumP one l1.tail).bind _ else _) = _
    rw [h2.im, hm.1, if_pos (by rfl), h3]
    show PR.ok (ta ++ tb ++ [opT (8 + (idxB signsL (hdT l1).t : Int))]) l2 = _
    rw [h2.hd.2.1, hm.2.2]
  · obtain ⟨l1, h1, h2⟩ := h l _ ⟨_, _, rfl⟩ ha
    obtain ⟨l2, h3, h4⟩ := h' l1.tail (rp r) ⟨_, _, rfl⟩ h2.hd.2.2.2.1
    refine ⟨l2, ors_of (ands_of ?_ h4 (rp_no r _ (by decide))) h4 (rp_no r _ (by decide)), h4⟩
    show notP (testP (sumP one)) l.length l = _
    rw [notT hn ha]
    have hs : sumP one l = .ok (ta ++ tb ++ [opT 14]) l2 := by
      unfold sumP
      rw [h1]
      exact chain1 (by unfold sumOp; rw [h2.im, if_pos (by decide), h2.hd.2.1]; decide +kernel) h3 (by unfold sumOp; rw [(rp_no r [plusM, minusM] (by decide)).is h4]; rfl) h2.hd.2.2.2.2
    unfold testP
    rw [hs]
    show (if isM signsL l2 = true then _ else if isM [isM'] l2 = true then _ else PR.ok _ l2) = _
    rw [(rp_no r signsL (by decide)).is h4, if_neg (by simp), (rp_no r [isM'] (by decide)).is h4, if_neg (by simp)]
  · obtain ⟨l1, h1, h2⟩ := h l _ ⟨_, _, rfl⟩ ha
    obtain ⟨l2, h3, h4⟩ := h' l1.tail (rp r) ⟨_, _, rfl⟩ h2.hd.2.2.2.1
    refine ⟨l2, ors_of (ands_of ?_ h4 (rp_no r _ (by decide))) h4 (rp_no r _ (by decide)), h4⟩
    show notP (testP (sumP one)) l.length l = _
    rw [notT hn ha]
    have hs : sumP one l = .ok (ta ++ tb ++ [opT 15]) l2 := by
      unfold sumP
      rw [h1]
      exact chain1 (by unfold sumOp; rw [h2.im, if_pos (by decide), h2.hd.2.1]; decide +kernel) h3 (by unfold sumOp; rw [(rp_no r [plusM, minusM] (by decide)).is h4]; rfl) h2.hd.2.2.2.2
    unfold testP
    rw [hs]
    show (if isM signsL l2 = true then _ else if isM [isM'] l2 = true then _ else PR.ok _ l2) = _
    rw [(rp_no r signsL (by decide)).is h4, if_neg (by simp), (rp_no r [isM'] (by decide)).is h4, if_neg (by simp)]
theorem open1 {d : Int} {E : TP} {ts : List TermD} {l us : List TokD} (hd : d ≠ 64) (ha : At l (tk lparM :: us)) (hE : ∃ l', E l.tail = .ok ts l' ∧ ∃ r, At l' (rp r)) : ∃ l' l'', openP d E l = .ok ts l'' ∧ E l.tail = .ok ts l' ∧ l'' = l'.tail := by
  obtain ⟨l', h1, r, h2⟩ := hE
  obtain ⟨l'', h3, h4⟩ := need1 rparM h2
  refine ⟨l', l'', ?_, h1, ?_⟩
  · unfold openP
    rw [ha.im, if_neg (by decide), if_neg hd, h1]
    show (needP [rparM] l').bind _ = _
    rw [h3]
    rfl
  · unfold needP at h3
    rw [h2.im, if_pos (by decide)] at h3
    unfold needP at h3
    exact (PR.ok.inj h3).2.symm
theorem atom_lf {t : TermD} (h : Leaf t) (d : Int) (E : TP) : TellsA (atomP d E) [t] (lfT t) := fun l vs hv ha => by
  have h3 := h.hi
  have h0 := h.lo
  unfold atomP lfT at *
  rcases right_inv h.right with ⟨g, e, hp⟩ | ⟨g, e, hn1, hn2⟩ | ⟨g, e, hn1⟩ | ⟨g1, g2, g3, e⟩
  · rw [if_pos g] at ha
    have ha : At l (lt t.v :: vs) := ha
    rw [if_pos ha.hd.1, ha.hd.2.2.1, ← e]
    exact ⟨l.tail, rfl, ha.hd.2.2.2.1⟩
  · rw [if_neg (by omega), if_pos g] at ha
    have ha : At l (nm t.var :: tk dotM :: nm t.name :: vs) := ha
    obtain ⟨l1, h1, h2⟩ := need1 dotM ha.hd.2.2.2.1
    obtain ⟨t', l2, h3, h4, h5⟩ := kind1 h2
    refine ⟨l2, ?_, h5⟩
    rw [if_neg (by rw [ha.hd.1]; show ¬ (1 : Int) = 2; decide), if_pos ha.hd.1, h1]
    show (kindP 1 l1).bind _ = _
    rw [h3]
    show PR.ok [(⟨2, (hdT l).t, t'.t, nulV⟩ : TermD)] l2 = _
    rw [ha.hd.2.1, h4, ← e]
  · rw [if_neg (by omega), if_neg (by omega)] at ha
    have ha : At l (tk idM :: tk lparM :: nm t.var :: tk rparM :: vs) := ha
    obtain ⟨l1, h1, h2⟩ := need1 lparM ha.hd.2.2.2.1
    obtain ⟨t', l2, h3, h4, h5⟩ := kind1 h2
    obtain ⟨l3, h6, h7⟩ := need1 rparM h5
    refine ⟨l3, ?_, h7⟩
    rw [if_neg (by rw [ha.hd.1]; decide), if_neg (by rw [ha.hd.1]; decide), ha.im, if_pos (by decide), h1]
    show (kindP 1 l1).bind _ = _
    rw [h3]
    show (needP [rparM] l2).bind _ = _
    rw [h6]
    show PR.ok [(⟨3, t'.t, eE, nulV⟩ : TermD)] l3 = _
    rw [h4, ← e]
  · omega
theorem exprP_succ (f : Nat) (d : Int) : exprP (f + 1) d = exprOf (atomP d (exprP f (d + 1))) := rfl
theorem atom_open {d : Int} {E : TP} {ts : List TermD} {l us vs : List TokD} (hd : d ≠ 64) (ha : At l (tk lparM :: us)) (hE : ∃ l', E l.tail = .ok ts l' ∧ At l' (rp vs)) : ∃ l', atomP d E l = .ok ts l' ∧ At l' vs := by
  obtain ⟨l0, e0, e1⟩ := hE
  obtain ⟨l1, l2, h1, h2, h3⟩ := open1 hd ha ⟨l0, e0, vs, e1⟩
  have : l1 = l0 := by rw [e0] at h2; exact (PR.ok.inj h2).2.symm
  subst this
  refine ⟨l2, ?_, by rw [h3]; exact e1.hd.2.2.2.1⟩
  unfold atomP
  rw [if_neg (by rw [ha.hd.1]; decide), if_neg (by rw [ha.hd.1]; decide), ha.im, if_neg (by decide), h1]
theorem atom_tr : ∀ (t : Tr), t.ok → ∀ (f : Nat) (d : Int), t.deep ≤ f + 1 → 0 ≤ d → d + t.deep ≤ 65 → TellsA (atomP d (exprP f (d + 1))) t.terms t.toks
  | .lf t, h, f, d, _, _, _ => atom_lf h d _
  | .un op a, h, f, d, hf, h0, hd => by
    obtain ⟨hop, ha⟩ := h
    unfold Tr.deep at hf hd
    have hpos : 1 ≤ a.deep := by cases a <;> simp [Tr.deep]
    obtain ⟨g, rfl⟩ : ∃ g, f = g + 1 := ⟨f - 1, by omega⟩
    have ih := atom_tr a ha g (d + 1) (by omega) (by omega) (by omega)
    have hn := tr_not a
    intro l vs hv hat
    unfold Tr.toks at hat
    unfold Tr.terms
    by_cases h4 : op = 4
    · subst h4
      rw [if_pos rfl] at hat
      have hat : At l (tk lparM :: (tk notM :: (a.toks ++ rp vs))) := by simpa using hat
      refine atom_open (by omega) hat ?_
      rw [exprP_succ]
      exact expr_not ih hn _ _ hat.hd.2.2.2.1
    · obtain rfl : op = 5 := by omega
      rw [if_neg h4] at hat
      have hat : At l (tk lparM :: (a.toks ++ (tk isM' :: lt nulV :: rp vs))) := by simpa using hat
      refine atom_open (by omega) hat ?_
      rw [exprP_succ]
      exact expr_null ih hn _ _ hat.hd.2.2.2.1
  | .bi op a b, h, f, d, hf, h0, hd => by
    obtain ⟨hop, ha, hb⟩ := h
    unfold Tr.deep at hf hd
    have hpos : 1 ≤ a.deep := by cases a <;> simp [Tr.deep]
    obtain ⟨g, rfl⟩ : ∃ g, f = g + 1 := ⟨f - 1, by omega⟩
    have ih := atom_tr a ha g (d + 1) (by omega) (by omega) (by omega)
    have ih2 := atom_tr b hb g (d + 1) (by omega) (by omega) (by omega)
    intro l vs hv hat
    unfold Tr.toks at hat
    unfold Tr.terms
    have hat : At l (tk lparM :: (a.toks ++ (tk (signS op) :: (b.toks ++ rp vs)))) := by simpa using hat
    refine atom_open (by omega) hat ?_
    rw [exprP_succ]
    exact expr_bin hop ih ih2 (tr_not a) (tr_not b) _ _ hat.hd.2.2.2.1
end Go.Proofs.YtlpfdgkfdgehnaaDoor.AM
namespace Go.Proofs.YtlpfdgkfdgehnaaDoor.AM
open Go.RowKit
set_option linter.unusedSimpArgs false
set_option linter.unusedVariables false
set_option maxRecDepth 10000
set_option maxHeartbeats 0
theorem tr_len : ∀ t : Tr, t.deep ≤ t.toks.length
  | .lf t => by
    unfold Tr.deep Tr.toks lfT
    repeat' split
    all_goals simp
  | .un op a => by
    have := tr_len a
    unfold Tr.deep Tr.toks
    split <;> simp <;> omega
  | .bi op a b => by
    have := tr_len a
    have := tr_len b
    unfold Tr.deep Tr.toks
    simp
    omega
theorem tr_head : ∀ (t : Tr) (ms : List ByteArray), Lib.containsS ms lparM = false → Lib.containsS ms idM = false → ∀ us, noM ms (t.toks ++ us)
  | .lf t, ms, h1, h2, us => by
    unfold Tr.toks lfT
    split
    · exact ⟨_, _, rfl, rfl⟩
    · split
      · exact ⟨_, _, rfl, rfl⟩
      · exact ⟨_, _, rfl, by rw [h2, Bool.and_false]⟩
  | .un op a, ms, h1, _, us => by
    unfold Tr.toks
    split
    · exact ⟨_, _, rfl, by rw [h1, Bool.and_false]⟩
    · exact ⟨_, _, rfl, by rw [h1, Bool.and_false]⟩
  | .bi op a b, ms, h1, _, us => by
    unfold Tr.toks
    exact ⟨_, _, rfl, by rw [h1, Bool.and_false]⟩
theorem expr1 {ts : List TermD} (h : GoodTs ts) {f : Nat} {d : Int} (h0 : 0 ≤ d) (h1 : d ≤ 1) {l us : List TokD} (hf : l.length ≤ f) (hu : noM stopM us) (ha : At l ((trOf ts).toks ++ us)) : ∃ l', exprP f d l = .ok ts l' ∧ At l' us := by
  obtain ⟨t1, t2, t3, t4⟩ := tr_spec h
  have hl := ha.len
  have ht := tr_len (trOf ts)
  rw [List.length_append] at hl
  have hpos : 1 ≤ (trOf ts).deep := by cases trOf ts <;> simp [Tr.deep]
  obtain ⟨g, rfl⟩ : ∃ g, f = g + 1 := ⟨f - 1, by omega⟩
  rw [exprP_succ]
  have := expr0 (atom_tr _ t1 g d (by omega) h0 (by omega)) (tr_not _) l us hu ha
  rw [t2] at this
  exact this
theorem fn_idx {n : Int} (h1 : 1 ≤ n) (h2 : n ≤ 4) : Lib.containsS fnsL (fnM n) = true ∧ ((idxB fnsL (fnM n) : Nat) : Int) + 1 = n := by
  have : n = 1 ∨ n = 2 ∨ n = 3 ∨ n = 4 := by omega
  rcases this with rfl | rfl | rfl | rfl <;> decide +kernel
theorem item1 {x : ItemD} (h : GoodI x) {l us : List TokD} (hu : noM stopM us) (ha : At l (itemK x ++ us)) : ∃ l', itemP l = .ok x l' ∧ At l' us := by
  have hlo := h.lo
  have hhi := h.hi
  unfold itemP
  by_cases h0 : x.fn = 0
  · have hne : x.terms.length ≠ 0 := fun e => by have := h.none e; omega
    have e : itemK x = (trOf x.terms).toks := by unfold itemK; rw [if_pos h0]
    rw [e] at ha
    obtain ⟨l', h1, h2⟩ := expr1 (h.terms hne) (d := 0) (by omega) (by omega) (show l.length ≤ l.length + 1 by omega) hu ha
    rw [(tr_head _ fnsL (by decide) (by decide) us).is ha, if_neg (by simp), h1]
    refine ⟨l', ?_, h2⟩
    show PR.ok (⟨0, x.terms⟩ : ItemD) l' = _
    obtain ⟨fn, ts⟩ := x
    simp only at h0
    rw [h0]
  · have e : itemK x ++ us = tk (fnM x.fn) :: tk lparM :: (inK x.terms ++ rp us) := by unfold itemK; rw [if_neg h0]; simp
    rw [e] at ha
    obtain ⟨f1, f2⟩ := fn_idx (show 1 ≤ x.fn by omega) hhi
    have hl := ha.hd.2.2.2.1
    rw [ha.im, f1, if_pos (by rfl), ha.hd.2.1]
    unfold openP
    rw [hl.im, if_neg (by decide), if_neg (by decide)]
    dsimp only
    have hin := hl.hd.2.2.2.1
    by_cases hz : x.terms.length = 0
    · have h1 := h.none hz
      have e2 : inK x.terms = [tk starM] := by unfold inK; rw [if_pos hz]
      rw [e2] at hin
      have hin : At l.tail.tail (tk starM :: rp us) := hin
      obtain ⟨l', g1, g2⟩ := need1 rparM hin.hd.2.2.2.1
      rw [if_pos ⟨by rw [h1]; decide +kernel, by rw [hin.im]; decide⟩]
      show ∃ l', (needP [rparM] l.tail.tail.tail).bind _ = _ ∧ _
      rw [g1]
      refine ⟨l', ?_, g2⟩
      show PR.ok (⟨1, []⟩ : ItemD) l' = _
      obtain ⟨fn, ts⟩ := x
      simp only at h1 hz
      rw [h1, List.length_eq_zero_iff.1 hz]
    · have e2 : inK x.terms = (trOf x.terms).toks := by unfold inK; rw [if_neg hz]
      rw [e2] at hin
      obtain ⟨l', g1, g2⟩ := expr1 (h.terms hz) (d := 1) (by omega) (by omega) (Nat.le_refl l.tail.tail.length) (rp_no us _ (by decide)) hin
      obtain ⟨l'', g3, g4⟩ := need1 rparM g2
      rw [if_neg (by rw [(tr_head _ [starM] (by decide) (by decide) _).is hin]; simp), g1]
      show ∃ l3, (needP [rparM] l').bind _ = _ ∧ _
      rw [g3]
      refine ⟨l'', ?_, g4⟩
      show PR.ok (⟨(idxB fnsL (fnM x.fn) : Int) + 1, x.terms⟩ : ItemD) l'' = _
      rw [f2]
theorem sort1 {x : SortD} (h0 : 0 ≤ x.item) {l us : List TokD} (hu : noM [ascM, descM] us) (ha : At l (sortK x ++ us)) : ∃ l', sortP l = .ok x l' ∧ At l' us := by
  unfold sortP
  obtain ⟨n, d⟩ := x
  cases d with
  | true =>
    have ha : At l (lt (numV n) :: tk descM :: us) := ha
    obtain ⟨l1, h1, h2⟩ := num1 h0 ha
    rw [h1]
    refine ⟨l1.tail, ?_, h2.hd.2.2.2.1⟩
    show (if isM [ascM] l1 = true then _ else if isM [descM] l1 = true then _ else _) = _
    rw [h2.im, if_neg (by decide), h2.im, if_pos (by decide)]
  | false =>
    have ha : At l (lt (numV n) :: us) := ha
    obtain ⟨l1, h1, h2⟩ := num1 h0 ha
    rw [h1]
    refine ⟨l1, ?_, h2⟩
    show (if isM [ascM] l1 = true then _ else if isM [descM] l1 = true then _ else _) = _
    rw [(hu.sub (by decide) : noM [ascM] us).is h2, if_neg (by simp), (hu.sub (by decide) : noM [descM] us).is h2, if_neg (by simp)]
theorem hops1 : ∀ (hs : List HopD) (ss : List SpotD) (f : Nat) (cs : List SpotD) (bs : List HopD) (l us : List TokD), hs.length = ss.length → (∀ h ∈ hs, rightH h = true) → hs.length ≤ f → noM [hfM, hbM] us → At l ((hs.zip ss).flatMap (fun z => hopK z.1 ++ spotK z.2) ++ us) → ∃ l', hopsP f cs bs l = .ok (cs ++ ss, bs ++ hs) l' ∧ At l' us
  | [], [], f, cs, bs, l, us, _, _, _, hu, ha => by
    have ha : At l us := ha
    refine ⟨l, ?_, ha⟩
    rw [List.append_nil, List.append_nil]
    cases f with
    | zero => rfl
    | succ f => unfold hopsP; rw [hu.is ha, if_neg (by simp)]
  | [], _ :: _, _, _, _, _, _, h, _, _, _, _ => by simp at h
  | _ :: _, [], _, _, _, _, _, h, _, _, _, _ => by simp at h
  | _ :: _, _ :: _, 0, _, _, _, _, _, _, h, _, _ => by simp at h
  | h :: hs, s :: ss, f + 1, cs, bs, l, us, hl, hr, hf, hu, ha => by
    have e : ((h :: hs).zip (s :: ss)).flatMap (fun z => hopK z.1 ++ spotK z.2) ++ us = hopK h ++ (spotK s ++ ((hs.zip ss).flatMap (fun z => hopK z.1 ++ spotK z.2) ++ us)) := by simp
    rw [e] at ha
    have hi : isM [hfM, hbM] l = true := by
      have ha' : At l (tk (if h.back = true then hbM else hfM) :: _) := ha
      rw [ha'.im]
      cases h.back <;> decide
    obtain ⟨l1, h1, h2⟩ := hop1 (hr h (by simp)) ha
    obtain ⟨l2, h3, h4⟩ := spot1 h2
    obtain ⟨l3, h5, h6⟩ := hops1 hs ss f (cs ++ [s]) (bs ++ [h]) l2 us (by simpa using hl) (fun x hx => hr x (List.mem_cons_of_mem _ hx)) (by simp at hf; omega) hu h4
    refine ⟨l3, ?_, h6⟩
    unfold hopsP
    rw [hi, if_pos rfl, h1]
    show (spotP l1).bind _ = _
    rw [h3]
    show hopsP f (cs ++ [s]) (bs ++ [h]) l2 = _
    rw [h5, List.append_assoc, List.append_assoc]
    rfl
theorem spotsK_zip {q : QueryD} {s0 : SpotD} {ss : List SpotD} (hs : q.spots = s0 :: ss) (hl : q.hops.length = ss.length) : ∀ k, k ≤ ss.length → spotsK q (k + 1) = tk matchM :: (spotK s0 ++ ((q.hops.zip ss).take k).flatMap (fun z => hopK z.1 ++ spotK z.2))
  | 0, _ => by
    unfold spotsK spotKAt
    rw [hs]
    simp [spotsK]
  | k + 1, hk => by
    have ih := spotsK_zip hs hl k (by omega)
    have e1 : spotKAt q (k + 1) = spotK ss[k] := by
      unfold spotKAt
      rw [hs, List.getElem?_cons_succ, List.getElem?_eq_getElem (by omega)]
    have e2 : hopKAt q (k + 1 - 1) = hopK q.hops[k] := by
      unfold hopKAt
      rw [Nat.add_sub_cancel, List.getElem?_eq_getElem (by omega)]
    have hz : k < (q.hops.zip ss).length := by rw [List.length_zip]; omega
    rw [show spotsK q (k + 1 + 1) = (if k + 1 = 0 then spotsK q (k + 1) else spotsK q (k + 1) ++ hopKAt q (k + 1 - 1)) ++ spotKAt q (k + 1) from rfl, if_neg (by omega), e1, e2, ih, List.take_succ_eq_append_getElem hz, List.flatMap_append]
    simp [List.getElem_zip]
theorem where1 {ts : List TermD} {l us : List TokD} (h : ts.length ≠ 0 → GoodTs ts) (hu : noM stopM us) (hw : noM [whereM] us) (ha : At l ((if ts.length = 0 then [] else tk whereM :: (trOf ts).toks) ++ us)) : ∃ l', whereP l = .ok ts l' ∧ At l' us := by
  unfold whereP
  by_cases h0 : ts.length = 0
  · rw [if_pos h0, List.nil_append] at ha
    rw [hw.is ha, if_neg (by simp), List.length_eq_zero_iff.1 h0]
    exact ⟨l, rfl, ha⟩
  · rw [if_neg h0, List.cons_append] at ha
    rw [ha.im, if_pos (by decide)]
    exact expr1 (h h0) (by omega) (by omega) (by rw [List.length_tail]; omega) hu ha.hd.2.2.2.1
theorem dist1 {b : Bool} {l us : List TokD} (hu : noM [distM] us) (ha : At l ((if b = true then [tk distM] else []) ++ us)) : ∃ l', distP l = .ok b l' ∧ At l' us := by
  unfold distP
  cases b with
  | true =>
    have ha : At l (tk distM :: us) := ha
    rw [ha.im, if_pos (by decide)]
    exact ⟨l.tail, rfl, ha.hd.2.2.2.1⟩
  | false =>
    have ha : At l us := ha
    rw [hu.is ha, if_neg (by simp)]
    exact ⟨l, rfl, ha⟩
theorem atM1 {m : ByteArray} {n : Int} {l us : List TokD} (hn : -1 ≤ n) (hu : noM [m] us) (ha : At l (atK m n ++ us)) : ∃ l', atP m l = .ok n l' ∧ At l' us := by
  unfold atP
  unfold atK at ha
  by_cases h0 : 0 ≤ n
  · rw [if_pos h0] at ha
    have ha : At l (tk m :: lt (numV n) :: us) := ha
    rw [ha.im, if_pos (by rw [contains_one]; simp)]
    exact num1 h0 ha.hd.2.2.2.1
  · rw [if_neg h0, List.nil_append] at ha
    rw [hu.is ha, if_neg (by simp), show n = -1 by omega]
    exact ⟨l, rfl, ha⟩
theorem item_head {x : ItemD} (h : GoodI x) (ms : List ByteArray) (h1 : Lib.containsS ms lparM = false) (h2 : Lib.containsS ms idM = false) (h3 : ∀ n : Int, Lib.containsS ms (fnM n) = false) (us : List TokD) : noM ms (itemK x ++ us) := by
  unfold itemK
  split
  · exact tr_head _ ms h1 h2 us
  · exact ⟨_, _, rfl, by rw [h3, Bool.and_false]⟩
theorem join_head {α : Type} (g : α → List TokD) (xs : List α) (us : List TokD) (hx : xs ≠ []) (ms : List ByteArray) (h : ∀ x ∈ xs, ∀ vs, noM ms (g x ++ vs)) : noM ms (joinK (xs.map g) ++ us) := by
  cases xs with
  | nil => exact absurd rfl hx
  | cons x xs =>
    cases xs with
    | nil => exact h x (by simp) us
    | cons y xs =>
      rw [show joinK ((x :: y :: xs).map g) ++ us = g x ++ (tk comM :: (joinK ((y :: xs).map g) ++ us)) by simp [joinK]]
      exact h x (by simp) _
theorem item_len {x : ItemD} : 1 ≤ (itemK x).length := by
  unfold itemK
  split
  · have := tr_len (trOf x.terms)
    have : 1 ≤ (trOf x.terms).deep := by cases trOf x.terms <;> simp [Tr.deep]
    omega
  · simp
theorem sorts1 {ss : List SortD} {l us : List TokD} (h : ∀ x ∈ ss, 0 ≤ x.item) (hu : noM [orderM, comM, ascM, descM] us) (ha : At l ((if ss.length = 0 then [] else tk orderM :: tk byM :: joinK (ss.map sortK)) ++ us)) : ∃ l', sortsP l = .ok ss l' ∧ At l' us := by
  unfold sortsP
  by_cases h0 : ss.length = 0
  · rw [if_pos h0, List.nil_append] at ha
    rw [(hu.sub (by decide) : noM [orderM] us).is ha, if_neg (by simp), List.length_eq_zero_iff.1 h0]
    exact ⟨l, rfl, ha⟩
  · rw [if_neg h0, List.cons_append, List.cons_append] at ha
    obtain ⟨l1, h1, h2⟩ := need1 byM ha.hd.2.2.2.1
    have hj := joinK_len sortK (fun x => by unfold sortK; split <;> simp) ss
    have hl := h2.len
    rw [List.length_append] at hl
    obtain ⟨l2, h3, h4⟩ := list1 sortP sortK ss (l1.length + 1) [] l1 us (fun e => h0 (by rw [e]; rfl)) (by omega) (fun x hx l' us' _ hh hat => sort1 (h x hx) (by
      obtain ⟨u, r, e, hu'⟩ := hh
      rcases hu' with rfl | rfl
      · exact ⟨_, _, e, by decide⟩
      · exact hu.sub (by decide)) hat) (hu.sub (by decide)) h2
    refine ⟨l2, ?_, h4⟩
    rw [ha.im, if_pos (by decide), h1]
    exact h3
theorem query1 {q : QueryD} (h : GoodQ q) (hr : ∀ x ∈ q.hops, rightH x = true) {l : List TokD} (ha : At l (queryK q ++ [endT 0])) : ∃ l', queryP l = .ok q l' := by
  obtain ⟨s0, ss, hs⟩ : ∃ s0 ss, q.spots = s0 :: ss := by
    cases hq : q.spots with
    | nil => have := h.nspots; rw [hq] at this; simp at this
    | cons s0 ss => exact ⟨s0, ss, rfl⟩
  have hlen : q.hops.length = ss.length := by have := h.nhops; rw [hs] at this; simpa using this
  have hz := spotsK_zip hs hlen ss.length (Nat.le_refl _)
  have hzl : (q.hops.zip ss).take ss.length = q.hops.zip ss := List.take_of_length_le (by rw [List.length_zip]; omega)
  rw [hzl] at hz
  have e : queryK q ++ [endT 0] = tk matchM :: (spotK s0 ++ ((q.hops.zip ss).flatMap (fun z => hopK z.1 ++ spotK z.2) ++ (whK q ++ (tk retM :: (disK q ++ (joinK (q.items.map itemK) ++ (ordK q ++ (atK skipM q.skip ++ (atK limitM q.limit ++ [endT 0])))))))))  := by
    unfold queryK
    rw [show q.spots.length = ss.length + 1 by rw [hs]; rfl, hz]
    simp
  rw [e] at ha
  have tail1 : ∀ ms : List ByteArray, Lib.containsS ms limitM = false → noM ms (atK limitM q.limit ++ [endT 0]) := fun ms hm => by
    unfold atK
    split
    · exact ⟨_, _, rfl, by rw [hm, Bool.and_false]⟩
    · exact ⟨_, _, rfl, rfl⟩
  have tail2 : ∀ ms : List ByteArray, Lib.containsS ms limitM = false → Lib.containsS ms skipM = false → noM ms (atK skipM q.skip ++ (atK limitM q.limit ++ [endT 0])) := fun ms hm hm2 => by
    rw [show atK skipM q.skip = if 0 ≤ q.skip then [tk skipM, lt (numV q.skip)] else [] from rfl]
    split
    · exact ⟨_, _, rfl, by rw [hm2, Bool.and_false]⟩
    · exact tail1 ms hm
  have tail3 : ∀ ms : List ByteArray, Lib.containsS ms limitM = false → Lib.containsS ms skipM = false → Lib.containsS ms orderM = false → noM ms (ordK q ++ (atK skipM q.skip ++ (atK limitM q.limit ++ [endT 0]))) := fun ms hm hm2 hm3 => by
    unfold ordK
    split
    · exact tail2 ms hm hm2
    · exact ⟨_, _, rfl, by rw [hm3, Bool.and_false]⟩
  have hwhere : ∀ ms : List ByteArray, Lib.containsS ms whereM = false → Lib.containsS ms retM = false → ∀ r, noM ms (whK q ++ (tk retM :: r)) := fun ms h1 h2 r => by
    unfold whK
    split
    · exact ⟨_, _, rfl, by rw [h2, Bool.and_false]⟩
    · exact ⟨_, _, rfl, by rw [h1, Bool.and_false]⟩
  obtain ⟨l1, a1, b1⟩ := need1 matchM ha
  obtain ⟨l2, a2, b2⟩ := spot1 b1
  have hl2 := b2.len
  have hlh : q.hops.length ≤ l2.length := by
    rw [hl2, List.length_append]
    have : ∀ (hs : List HopD) (ss : List SpotD), hs.length = ss.length → hs.length ≤ ((hs.zip ss).flatMap (fun z => hopK z.1 ++ spotK z.2)).length := by
      intro hs
      induction hs with
      | nil => intro ss _; simp
      | cons a hs ih =>
        intro ss hh
        cases ss with
        | nil => simp at hh
        | cons b ss =>
          have := ih ss (by simpa using hh)
          simp only [List.zip_cons_cons, List.flatMap_cons, List.length_append, List.length_cons]
          have : 1 ≤ (hopK a).length := by unfold hopK; simp
          omega
    have := this q.hops ss hlen
    omega
  obtain ⟨l3, a3, b3⟩ := hops1 q.hops ss l2.length [s0] [] l2 _ hlen hr hlh (hwhere _ (by decide) (by decide) _) b2
  obtain ⟨l4, a4, b4⟩ := where1 h.wh ⟨_, _, rfl, by decide⟩ ⟨_, _, rfl, by decide⟩ b3
  obtain ⟨l5, a5, b5⟩ := need1 retM b4
  have hine : q.items ≠ [] := fun e => by have := h.nitems; rw [e] at this; simp at this
  obtain ⟨l6, a6, b6⟩ := dist1 (join_head itemK q.items _ hine [distM] (fun x hx vs => item_head (h.items x hx) _ (by decide) (by decide) (fun n => by unfold fnM; (repeat' split) <;> decide) vs)) b5
  have hl6 := b6.len
  have hj := joinK_len itemK (fun x => item_len) q.items
  obtain ⟨l7, a7, b7⟩ := list1 itemP itemK q.items (l6.length + 1) [] l6 _ hine (by rw [hl6, List.length_append]; omega) (fun x hx l' us' _ hh hat => item1 (h.items x hx) (by
      obtain ⟨u, r, e, hu'⟩ := hh
      rcases hu' with rfl | rfl
      · exact ⟨_, _, e, by decide⟩
      · exact tail3 _ (by decide) (by decide) (by decide)) hat) (tail3 _ (by decide) (by decide) (by decide)) b6
  obtain ⟨l8, a8, b8⟩ := sorts1 (fun x hx => (h.sorts x hx).2) (tail2 _ (by decide) (by decide)) b7
  obtain ⟨l9, a9, b9⟩ := atM1 h.skip.2 (tail1 _ (by decide)) b8
  obtain ⟨l10, a10, b10⟩ := atM1 h.limit.2 ⟨_, _, rfl, rfl⟩ b9
  refine ⟨l10.tail, ?_⟩
  unfold queryP
  rw [a1]
  show (spotP l1).bind _ = _
  rw [a2]
  show (hopsP l2.length [s0] [] l2).bind _ = _
  rw [a3]
  show (whereP l3).bind _ = _
  rw [a4]
  show (needP [retM] l4).bind _ = _
  rw [a5]
  show (distP l5).bind _ = _
  rw [a6]
  show (listP itemP (l6.length + 1) [] l6).bind _ = _
  rw [a7]
  show (sortsP l7).bind _ = _
  rw [a8]
  show (atP skipM l8).bind _ = _
  rw [a9]
  show (atP limitM l9).bind _ = _
  rw [a10]
  show (kindP 4 l10).bind _ = _
  unfold kindP
  rw [if_pos (by rw [b10.hd.1]; rfl)]
  show PR.ok (⟨[s0] ++ ss, [] ++ q.hops, q.wh, [] ++ q.items, q.distinct, q.sorts, q.skip, q.limit⟩ : QueryD) l10.tail = _
  rw [List.nil_append, List.nil_append, List.singleton_append, ← hs]
theorem print_parse {q : QueryD} (h : GoodQ q) (hr : ∀ x ∈ q.hops, rightH x = true) : ∃ us l', lx 0 (queryT q).data.toList = .ok us ∧ us.map TokD.core = queryK q ++ [endT 0] ∧ queryP us = .ok q l' := by
  obtain ⟨us', h1, h2⟩ := LT_query h [] rfl 0
  rw [List.append_nil, lx_nil] at h1
  have hc : (us' ++ [endT (0 + (queryT q).data.toList.length)]).map TokD.core = queryK q ++ [endT 0] := by
    rw [List.map_append, h2]
    rfl
  obtain ⟨l', h3⟩ := query1 h hr hc
  exact ⟨_, l', by rw [h1]; rfl, hc, h3⟩
theorem print_one {a b : QueryD} (ha : GoodQ a) (hb : GoodQ b) (hra : ∀ x ∈ a.hops, rightH x = true) (hrb : ∀ x ∈ b.hops, rightH x = true) (h : queryT a = queryT b) : a = b := by
  obtain ⟨us, l1, h1, _, h2⟩ := print_parse ha hra
  obtain ⟨vs, l2, h3, _, h4⟩ := print_parse hb hrb
  rw [h, h3] at h1
  obtain rfl := LX.ok.inj h1
  rw [h2] at h4
  exact (PR.ok.inj h4).1
end Go.Proofs.YtlpfdgkfdgehnaaDoor.AM
namespace Go.Proofs.YtlpfdgkfdgehnaaDoor.AM
open Go.RowKit
set_option linter.unusedSimpArgs false
set_option linter.unusedVariables false
set_option maxRecDepth 10000
set_option maxHeartbeats 0
theorem plain_nil {v : ValD} (h : plainV v = true) : v.l = [] := by
  unfold plainV at h
  rw [Bool.and_eq_true, bne_iff_ne, ne_eq] at h
  have hv := h.1
  rw [validV_atom h.2] at hv
  simp only [Bool.and_eq_true, beq_iff_eq] at hv
  exact List.length_eq_zero_iff.1 (by have := hv.2; omega)
theorem right_nil {t : TermD} (h : rightT t = true) : t.v.l = [] := by
  rcases right_inv h with ⟨_, _, hp⟩ | ⟨_, e, _⟩ | ⟨_, e, _⟩ | ⟨_, _, _, e⟩
  · exact plain_nil hp
  · rw [e]
  · rw [e]
  · rw [e]
structure NilQ (q : QueryD) : Prop where
  spots : ∀ s ∈ q.spots, ∀ p ∈ s.props, p.v.l.length ≤ 1000000
  wh : ∀ t ∈ q.wh, t.v.l.length ≤ 1000000
  items : ∀ x ∈ q.items, ∀ t ∈ x.terms, t.v.l.length ≤ 1000000
theorem terms_nil {ts : List TermD} (h : termsV ts = true) : ∀ t ∈ ts, t.v.l.length ≤ 1000000 := fun t ht => by
  unfold termsV at h
  rw [Bool.and_eq_true] at h
  rw [right_nil (List.all_eq_true.1 h.1 t ht)]
  exact Nat.zero_le _
theorem nilQ_of {q : QueryD} (h : GoodQ q) : NilQ q where
  spots := fun s hs p hp => by rw [plain_nil ((h.spots s hs).props p hp).plain]; exact Nat.zero_le _
  wh := fun t ht => terms_nil (h.wh (fun e => by rw [List.length_eq_zero_iff.1 e] at ht; cases ht)).terms t ht
  items := fun x hx t ht => terms_nil ((h.items x hx).terms (fun e => by rw [List.length_eq_zero_iff.1 e] at ht; cases ht)).terms t ht
structure FlB (q : QueryD) : Prop where
  spots : ∀ s ∈ q.spots, ∀ p ∈ s.props, p.v.a.f < 18446744073709551616
  wh : ∀ t ∈ q.wh, t.v.a.f < 18446744073709551616
  items : ∀ x ∈ q.items, ∀ t ∈ x.terms, t.v.a.f < 18446744073709551616
theorem hops_fine {q : QueryD} (hf : fineQ q = true) : ∀ x ∈ q.hops, rightH x = true := by
  unfold fineQ at hf
  simp only [Bool.and_eq_true, Bool.or_eq_true, decide_eq_true_eq, beq_iff_eq] at hf
  obtain ⟨⟨⟨⟨⟨⟨⟨⟨⟨⟨a1, a2⟩, a3⟩, a4⟩, a5⟩, a6⟩, a7⟩, a8⟩, a9⟩, a10⟩, a11⟩ := hf
  exact fun x hx => List.all_eq_true.1 a8 x hx
theorem right_fine {q : QueryD} (h : rightQ2 q = true) : fineQ q = true := by
  unfold rightQ2 at h
  rw [Bool.and_eq_true] at h
  exact h.1
theorem apart_eq {a b : QueryD} (la : LawQ a) (lb : LawQ b) (fa : FlB a) (fb : FlB b) (ha : rightQ2 a = true) (hb : rightQ2 b = true) : ((printQ2 a).toList == (printQ2 b).toList) = sameQ a b := by
  have f1 := right_fine ha
  have f2 := right_fine hb
  have g1 := good_of la f1 fa.spots fa.wh fa.items
  have g2 := good_of lb f2 fb.spots fb.wh fb.items
  have e1 : printQ2 a = queryT a := by unfold printQ2; rw [if_pos f1]
  have e2 : printQ2 b = queryT b := by unfold printQ2; rw [if_pos f2]
  rw [Bool.eq_iff_iff, tl_iff, sameQ_iff, e1, e2]
  exact ⟨fun h => print_one g1 g2 (hops_fine f1) (hops_fine f2) h, fun h => by rw [h]⟩
def twoQ : QueryD := ⟨[⟨⟨#[97]⟩, eE, []⟩], [], [], [⟨1, []⟩], false, [], 0, -1⟩
abbrev twoT : ByteArray := ⟨#[109, 97, 116, 99, 104, 32, 40, 97, 41, 32, 114, 101, 116, 117, 114, 110, 32, 99, 111, 117, 110, 116, 40, 42, 41, 32, 115, 107, 105, 112, 32, 48]⟩
theorem two_law : LawQ twoQ where
  nspots := by decide
  spots := fun s hs => by
    obtain rfl := List.mem_singleton.1 hs
    exact ⟨by decide, by decide, by decide, fun p hp => by cases hp⟩
  nhops := by decide
  hops := fun h hh => by cases hh
  wh := ⟨by decide, fun t ht => by cases ht⟩
  nitems := by decide
  items := fun x hx => by
    obtain rfl := List.mem_singleton.1 hx
    exact ⟨by decide, fun t ht => by cases ht⟩
  nsorts := by decide
  sorts := fun x hx => by cases hx
  skip := ⟨by decide, by decide⟩
  limit := ⟨by decide, by decide⟩
theorem two_print : printQ2 twoQ = twoT := by decide +kernel
abbrev nO2 : Dat := .lit (.slice none 0 0)
abbrev twoM : List AV := [.dat (.lst 3 [[ds' ⟨#[97]⟩, ds' eE, nO2]]), .dat nO2, .dat nO2, .dat (.lst 2 [[di 1, nO2]]), bv false, .dat nO2, iv 0, iv (-1)]
theorem two_le : AleL [.agg twoM] [twoQ.av] := .cons (.agg (.cons (.dat (DleR.dat (.cons (.cons (.refl _) (.cons (.refl _) (.cons (.nil 6) .nil))) .nil))) (.cons (.dat (.nil 6)) (.cons (.dat (.nil 8)) (.cons (.dat (DleR.dat (.cons (.cons (.refl _) (.cons (.nil 8) .nil)) .nil))) (.cons (.refl _) (.cons (.dat (.nil 2)) (.cons (.refl _) (.cons (.refl _) .nil))))))))) .nil
theorem c_PrintTwo : Pure Tryd.prog 5 [.agg twoM] (sv twoT) := by
  have := pure_le (c_PrintAny twoQ two_law) two_le
  rw [two_print] at this
  exact this
theorem c_lawApart (a b : QueryD) (ba : BigQ a) (ka : KindQ a) (fa : FlB a) (bb : BigQ b) (kb : KindQ b) (fb : FlB b) : Pure Tryd.prog 3 [a.av, b.av] (bv true) := by
  have w1 := c_Few a ba
  have w2 := c_Few b bb
  have po := c_PrintTwo
  by_cases h5 : fewN a < 5000
  case neg =>
    rw [if_neg h5] at w1
    refine pure_of_awp Tryd.func3 rfl rfl (by simp [Tryd.f3]) ?_; simp only [go_sem, ↓reduceIte, Nat.reduceEqDiff, Nat.reduceAdd, Nat.reduceLeDiff, Nat.reduceBEq, Nat.reduceMul, reduceCtorEq, Int.reduceLE, Int.reduceLT, Int.reduceAdd, Int.reduceSub, Int.reduceNeg, Int.reduceToNat, Int.reduceBEq]
    repeat' (first | refine awp_seq ?_ | refine awp_block ?_ | refine awp_round ?_ | refine awp_scope ?_ | refine awp_text rfl ?_ | refine awp_any rfl mix (by kernel_rfl) ?_ | (refine RunTo.unguard rfl rfl (fun hg => ?_) (fun hg => ?_) <;> ((try simp only [Bool.not_true, Bool.not_false, Bool.not_eq_true', Bool.not_eq_false', Bool.not_eq_eq_eq_not] at hg); (first | (cases hg) | (simp only [hg]) | skip))) | ((first | refine RunTo.plain rfl ?_ | refine RunTo.skipped rfl ?_ | refine RunTo.call (w1) Tryd.func4 rfl rfl rfl rfl rfl rfl rfl rfl ?_); simp only [go_sem, ↓reduceIte, Nat.reduceEqDiff, Nat.reduceAdd, Nat.reduceLeDiff, Nat.reduceBEq, Nat.reduceMul, reduceCtorEq, Int.reduceLE, Int.reduceLT, Int.reduceAdd, Int.reduceSub, Int.reduceNeg, Int.reduceToNat, Int.reduceBEq, QueryD.av]) | ((first | refine RunTo.nilA (by kernel_rfl) ?_ | refine RunTo.nilT ?_ | refine awp_skip ?_ | refine awp_exit ?_ | refine awp_label ?_); simp only [go_sem, ↓reduceIte, Nat.reduceEqDiff, Nat.reduceAdd, Nat.reduceLeDiff, Nat.reduceBEq, Nat.reduceMul, reduceCtorEq, Int.reduceLE, Int.reduceLT, Int.reduceAdd, Int.reduceSub, Int.reduceNeg, Int.reduceToNat, Int.reduceBEq, QueryD.av]) | (refine awp_cond' rfl (of_decide_eq_true rfl) (fun hc => ?_) (fun hc => ?_) <;> ((try simp only [Bool.not_true, Bool.not_false, Bool.not_eq_true', Bool.not_eq_false', Bool.not_eq_eq_eq_not] at hc); (first | (cases hc) | (simp only [hc]) | skip))))
    all_goals (first | refine awp_ret ?_ | skip); refine ⟨(by first | exact .inl rfl | exact .inr rfl | exact .inr trivial | trivial), ?_⟩; simp only [go_sem, ↓reduceIte, Nat.reduceEqDiff, Nat.reduceAdd, Nat.reduceLeDiff, Nat.reduceBEq, Nat.reduceMul, reduceCtorEq, Int.reduceLE, Int.reduceLT, Int.reduceAdd, Int.reduceSub, Int.reduceNeg, Int.reduceToNat, Int.reduceBEq, retV, resL, resV, sealV, sealC, sealAll, Tryd.f3]
    all_goals rfl
  rw [if_pos h5] at w1
  have la := lawQ_of h5 ka
  by_cases h6 : fewN b < 5000
  case neg =>
    rw [if_neg h6] at w2
    refine pure_of_awp Tryd.func3 rfl rfl (by simp [Tryd.f3]) ?_; simp only [go_sem, ↓reduceIte, Nat.reduceEqDiff, Nat.reduceAdd, Nat.reduceLeDiff, Nat.reduceBEq, Nat.reduceMul, reduceCtorEq, Int.reduceLE, Int.reduceLT, Int.reduceAdd, Int.reduceSub, Int.reduceNeg, Int.reduceToNat, Int.reduceBEq]
    repeat' (first | refine awp_seq ?_ | refine awp_block ?_ | refine awp_round ?_ | refine awp_scope ?_ | refine awp_text rfl ?_ | refine awp_any rfl mix (by kernel_rfl) ?_ | (refine RunTo.unguard rfl rfl (fun hg => ?_) (fun hg => ?_) <;> ((try simp only [Bool.not_true, Bool.not_false, Bool.not_eq_true', Bool.not_eq_false', Bool.not_eq_eq_eq_not] at hg); (first | (cases hg) | (simp only [hg]) | skip))) | ((first | refine RunTo.plain rfl ?_ | refine RunTo.skipped rfl ?_ | refine RunTo.call (w1) Tryd.func4 rfl rfl rfl rfl rfl rfl rfl rfl ?_ | refine RunTo.call (w2) Tryd.func4 rfl rfl rfl rfl rfl rfl rfl rfl ?_); simp only [go_sem, ↓reduceIte, Nat.reduceEqDiff, Nat.reduceAdd, Nat.reduceLeDiff, Nat.reduceBEq, Nat.reduceMul, reduceCtorEq, Int.reduceLE, Int.reduceLT, Int.reduceAdd, Int.reduceSub, Int.reduceNeg, Int.reduceToNat, Int.reduceBEq, QueryD.av]) | ((first | refine RunTo.nilA (by kernel_rfl) ?_ | refine RunTo.nilT ?_ | refine awp_skip ?_ | refine awp_exit ?_ | refine awp_label ?_); simp only [go_sem, ↓reduceIte, Nat.reduceEqDiff, Nat.reduceAdd, Nat.reduceLeDiff, Nat.reduceBEq, Nat.reduceMul, reduceCtorEq, Int.reduceLE, Int.reduceLT, Int.reduceAdd, Int.reduceSub, Int.reduceNeg, Int.reduceToNat, Int.reduceBEq, QueryD.av]) | (refine awp_cond' rfl (of_decide_eq_true rfl) (fun hc => ?_) (fun hc => ?_) <;> ((try simp only [Bool.not_true, Bool.not_false, Bool.not_eq_true', Bool.not_eq_false', Bool.not_eq_eq_eq_not] at hc); (first | (cases hc) | (simp only [hc]) | skip))))
    all_goals (first | refine awp_ret ?_ | skip); refine ⟨(by first | exact .inl rfl | exact .inr rfl | exact .inr trivial | trivial), ?_⟩; simp only [go_sem, ↓reduceIte, Nat.reduceEqDiff, Nat.reduceAdd, Nat.reduceLeDiff, Nat.reduceBEq, Nat.reduceMul, reduceCtorEq, Int.reduceLE, Int.reduceLT, Int.reduceAdd, Int.reduceSub, Int.reduceNeg, Int.reduceToNat, Int.reduceBEq, retV, resL, resV, sealV, sealC, sealAll, Tryd.f3]
    all_goals rfl
  rw [if_pos h6] at w2
  have lb := lawQ_of h6 kb
  have r1 := c_RightAny a la
  have r2 := c_RightAny b lb
  cases hr : rightQ2 a with
  | false =>
    rw [hr] at r1
    refine pure_of_awp Tryd.func3 rfl rfl (by simp [Tryd.f3]) ?_; simp only [go_sem, ↓reduceIte, Nat.reduceEqDiff, Nat.reduceAdd, Nat.reduceLeDiff, Nat.reduceBEq, Nat.reduceMul, reduceCtorEq, Int.reduceLE, Int.reduceLT, Int.reduceAdd, Int.reduceSub, Int.reduceNeg, Int.reduceToNat, Int.reduceBEq]
    repeat' (first | refine awp_seq ?_ | refine awp_block ?_ | refine awp_round ?_ | refine awp_scope ?_ | refine awp_text rfl ?_ | refine awp_any rfl mix (by kernel_rfl) ?_ | (refine RunTo.unguard rfl rfl (fun hg => ?_) (fun hg => ?_) <;> ((try simp only [Bool.not_true, Bool.not_false, Bool.not_eq_true', Bool.not_eq_false', Bool.not_eq_eq_eq_not] at hg); (first | (cases hg) | (simp only [hg]) | skip))) | ((first | refine RunTo.plain rfl ?_ | refine RunTo.skipped rfl ?_ | refine RunTo.call (w1) Tryd.func4 rfl rfl rfl rfl rfl rfl rfl rfl ?_ | refine RunTo.call (w2) Tryd.func4 rfl rfl rfl rfl rfl rfl rfl rfl ?_ | refine RunTo.call (r1) Tryd.func6 rfl rfl rfl rfl rfl rfl rfl rfl ?_); simp only [go_sem, ↓reduceIte, Nat.reduceEqDiff, Nat.reduceAdd, Nat.reduceLeDiff, Nat.reduceBEq, Nat.reduceMul, reduceCtorEq, Int.reduceLE, Int.reduceLT, Int.reduceAdd, Int.reduceSub, Int.reduceNeg, Int.reduceToNat, Int.reduceBEq, QueryD.av, Bool.not_false, Bool.not_true]) | (refine RunTo.lentE (po) Tryd.func5 rfl rfl rfl rfl rfl rfl ?_; simp only [go_sem, ↓reduceIte, Nat.reduceEqDiff, Nat.reduceAdd, Nat.reduceLeDiff, Nat.reduceBEq, Nat.reduceMul, reduceCtorEq, Int.reduceLE, Int.reduceLT, Int.reduceAdd, Int.reduceSub, Int.reduceNeg, Int.reduceToNat, Int.reduceBEq, QueryD.av, Bool.not_false, Bool.not_true, Option.some.injEq, List.cons.injEq]; (repeat' refine And.intro rfl ?_); with_reducible refine RunTo.this ?_) | ((first | refine RunTo.nilA (by kernel_rfl) ?_ | refine RunTo.nilT ?_ | refine awp_skip ?_ | refine awp_exit ?_ | refine awp_label ?_); simp only [go_sem, ↓reduceIte, Nat.reduceEqDiff, Nat.reduceAdd, Nat.reduceLeDiff, Nat.reduceBEq, Nat.reduceMul, reduceCtorEq, Int.reduceLE, Int.reduceLT, Int.reduceAdd, Int.reduceSub, Int.reduceNeg, Int.reduceToNat, Int.reduceBEq, QueryD.av, Bool.not_false, Bool.not_true]) | (refine awp_cond' rfl (of_decide_eq_true rfl) (fun hc => ?_) (fun hc => ?_) <;> ((try simp only [Bool.not_true, Bool.not_false, Bool.not_eq_true', Bool.not_eq_false', Bool.not_eq_eq_eq_not] at hc); (first | (cases hc) | (simp only [hc]) | skip))))
    all_goals (first | refine awp_ret ?_ | skip); refine ⟨(by first | exact .inl rfl | exact .inr rfl | exact .inr trivial | trivial), ?_⟩; simp only [go_sem, ↓reduceIte, Nat.reduceEqDiff, Nat.reduceAdd, Nat.reduceLeDiff, Nat.reduceBEq, Nat.reduceMul, reduceCtorEq, Int.reduceLE, Int.reduceLT, Int.reduceAdd, Int.reduceSub, Int.reduceNeg, Int.reduceToNat, Int.reduceBEq, retV, resL, resV, sealV, sealC, sealAll, Tryd.f3]
    all_goals rfl
  | true =>
    rw [hr] at r1
    cases hs : rightQ2 b with
    | false =>
      rw [hs] at r2
      refine pure_of_awp Tryd.func3 rfl rfl (by simp [Tryd.f3]) ?_; simp only [go_sem, ↓reduceIte, Nat.reduceEqDiff, Nat.reduceAdd, Nat.reduceLeDiff, Nat.reduceBEq, Nat.reduceMul, reduceCtorEq, Int.reduceLE, Int.reduceLT, Int.reduceAdd, Int.reduceSub, Int.reduceNeg, Int.reduceToNat, Int.reduceBEq]
      repeat' (first | refine awp_seq ?_ | refine awp_block ?_ | refine awp_round ?_ | refine awp_scope ?_ | refine awp_text rfl ?_ | refine awp_any rfl mix (by kernel_rfl) ?_ | (refine RunTo.unguard rfl rfl (fun hg => ?_) (fun hg => ?_) <;> ((try simp only [Bool.not_true, Bool.not_false, Bool.not_eq_true', Bool.not_eq_false', Bool.not_eq_eq_eq_not] at hg); (first | (cases hg) | (simp only [hg]) | skip))) | ((first | refine RunTo.plain rfl ?_ | refine RunTo.skipped rfl ?_ | refine RunTo.call (w1) Tryd.func4 rfl rfl rfl rfl rfl rfl rfl rfl ?_ | refine RunTo.call (w2) Tryd.func4 rfl rfl rfl rfl rfl rfl rfl rfl ?_ | refine RunTo.call (r1) Tryd.func6 rfl rfl rfl rfl rfl rfl rfl rfl ?_ | refine RunTo.call (r2) Tryd.func6 rfl rfl rfl rfl rfl rfl rfl rfl ?_); simp only [go_sem, ↓reduceIte, Nat.reduceEqDiff, Nat.reduceAdd, Nat.reduceLeDiff, Nat.reduceBEq, Nat.reduceMul, reduceCtorEq, Int.reduceLE, Int.reduceLT, Int.reduceAdd, Int.reduceSub, Int.reduceNeg, Int.reduceToNat, Int.reduceBEq, QueryD.av, Bool.not_false, Bool.not_true]) | (refine RunTo.lentE (po) Tryd.func5 rfl rfl rfl rfl rfl rfl ?_; simp only [go_sem, ↓reduceIte, Nat.reduceEqDiff, Nat.reduceAdd, Nat.reduceLeDiff, Nat.reduceBEq, Nat.reduceMul, reduceCtorEq, Int.reduceLE, Int.reduceLT, Int.reduceAdd, Int.reduceSub, Int.reduceNeg, Int.reduceToNat, Int.reduceBEq, QueryD.av, Bool.not_false, Bool.not_true, Option.some.injEq, List.cons.injEq]; (repeat' refine And.intro rfl ?_); with_reducible refine RunTo.this ?_) | ((first | refine RunTo.nilA (by kernel_rfl) ?_ | refine RunTo.nilT ?_ | refine awp_skip ?_ | refine awp_exit ?_ | refine awp_label ?_); simp only [go_sem, ↓reduceIte, Nat.reduceEqDiff, Nat.reduceAdd, Nat.reduceLeDiff, Nat.reduceBEq, Nat.reduceMul, reduceCtorEq, Int.reduceLE, Int.reduceLT, Int.reduceAdd, Int.reduceSub, Int.reduceNeg, Int.reduceToNat, Int.reduceBEq, QueryD.av, Bool.not_false, Bool.not_true]) | (refine awp_cond' rfl (of_decide_eq_true rfl) (fun hc => ?_) (fun hc => ?_) <;> ((try simp only [Bool.not_true, Bool.not_false, Bool.not_eq_true', Bool.not_eq_false', Bool.not_eq_eq_eq_not] at hc); (first | (cases hc) | (simp only [hc]) | skip))))
      all_goals (first | refine awp_ret ?_ | skip); refine ⟨(by first | exact .inl rfl | exact .inr rfl | exact .inr trivial | trivial), ?_⟩; simp only [go_sem, ↓reduceIte, Nat.reduceEqDiff, Nat.reduceAdd, Nat.reduceLeDiff, Nat.reduceBEq, Nat.reduceMul, reduceCtorEq, Int.reduceLE, Int.reduceLT, Int.reduceAdd, Int.reduceSub, Int.reduceNeg, Int.reduceToNat, Int.reduceBEq, retV, resL, resV, sealV, sealC, sealAll, Tryd.f3]
      all_goals rfl
    | true =>
      rw [hs] at r2
      have heq := apart_eq la lb fa fb hr hs
      have na := nilQ_of (good_of la (right_fine hr) fa.spots fa.wh fa.items)
      have hsm := c_SameQ a b la na.spots na.wh na.items
      have p1 := c_PrintAny a la
      have p2 := c_PrintAny b lb
      have o1 := c_Own a la
      have o2 := c_Own b lb
      rw [← heq] at hsm
      generalize printQ2 a = pa at *
      generalize printQ2 b = pb at *
      generalize hz : (pa.toList == pb.toList) = z at *
      cases z
      all_goals
        refine pure_of_awp Tryd.func3 rfl rfl (by simp [Tryd.f3]) ?_; simp only [go_sem, ↓reduceIte, Nat.reduceEqDiff, Nat.reduceAdd, Nat.reduceLeDiff, Nat.reduceBEq, Nat.reduceMul, reduceCtorEq, Int.reduceLE, Int.reduceLT, Int.reduceAdd, Int.reduceSub, Int.reduceNeg, Int.reduceToNat, Int.reduceBEq]
        repeat' (first | refine awp_seq ?_ | refine awp_block ?_ | refine awp_round ?_ | refine awp_scope ?_ | refine awp_text rfl ?_ | refine awp_any rfl mix (by kernel_rfl) ?_ | (refine RunTo.unguard rfl rfl (fun hg => ?_) (fun hg => ?_) <;> ((try simp only [Bool.not_true, Bool.not_false, Bool.not_eq_true', Bool.not_eq_false', Bool.not_eq_eq_eq_not] at hg); (first | (cases hg) | (simp only [hg]) | skip))) | ((first | refine RunTo.plain rfl ?_ | refine RunTo.skipped rfl ?_ | refine RunTo.call (w1) Tryd.func4 rfl rfl rfl rfl rfl rfl rfl rfl ?_ | refine RunTo.call (w2) Tryd.func4 rfl rfl rfl rfl rfl rfl rfl rfl ?_ | refine RunTo.call (r1) Tryd.func6 rfl rfl rfl rfl rfl rfl rfl rfl ?_ | refine RunTo.call (r2) Tryd.func6 rfl rfl rfl rfl rfl rfl rfl rfl ?_ | refine RunTo.call (p1) Tryd.func5 rfl rfl rfl rfl rfl rfl rfl rfl ?_ | refine RunTo.call (p2) Tryd.func5 rfl rfl rfl rfl rfl rfl rfl rfl ?_ | refine RunTo.call (o1) Tryd.func8 rfl rfl rfl rfl rfl rfl rfl rfl ?_ | refine RunTo.call (o2) Tryd.func8 rfl rfl rfl rfl rfl rfl rfl rfl ?_ | refine RunTo.call (hsm) Tryd.func7 rfl rfl rfl rfl rfl rfl rfl rfl ?_); simp only [go_sem, ↓reduceIte, Nat.reduceEqDiff, Nat.reduceAdd, Nat.reduceLeDiff, Nat.reduceBEq, Nat.reduceMul, reduceCtorEq, Int.reduceLE, Int.reduceLT, Int.reduceAdd, Int.reduceSub, Int.reduceNeg, Int.reduceToNat, Int.reduceBEq, QueryD.av, hz, Bool.not_false, Bool.not_true]) | (refine RunTo.lentE (po) Tryd.func5 rfl rfl rfl rfl rfl rfl ?_; simp only [go_sem, ↓reduceIte, Nat.reduceEqDiff, Nat.reduceAdd, Nat.reduceLeDiff, Nat.reduceBEq, Nat.reduceMul, reduceCtorEq, Int.reduceLE, Int.reduceLT, Int.reduceAdd, Int.reduceSub, Int.reduceNeg, Int.reduceToNat, Int.reduceBEq, QueryD.av, hz, Bool.not_false, Bool.not_true, Option.some.injEq, List.cons.injEq]; (repeat' refine And.intro rfl ?_); with_reducible refine RunTo.this ?_) | ((first | refine RunTo.nilA (by kernel_rfl) ?_ | refine RunTo.nilT ?_ | refine awp_skip ?_ | refine awp_exit ?_ | refine awp_label ?_); simp only [go_sem, ↓reduceIte, Nat.reduceEqDiff, Nat.reduceAdd, Nat.reduceLeDiff, Nat.reduceBEq, Nat.reduceMul, reduceCtorEq, Int.reduceLE, Int.reduceLT, Int.reduceAdd, Int.reduceSub, Int.reduceNeg, Int.reduceToNat, Int.reduceBEq, QueryD.av, hz, Bool.not_false, Bool.not_true]) | (refine awp_cond' rfl (of_decide_eq_true rfl) (fun hc => ?_) (fun hc => ?_) <;> ((try simp only [Bool.not_true, Bool.not_false, Bool.not_eq_true', Bool.not_eq_false', Bool.not_eq_eq_eq_not] at hc); (first | (cases hc) | (simp only [hc]) | skip))))
        all_goals (first | refine awp_ret ?_ | skip); refine ⟨(by first | exact .inl rfl | exact .inr rfl | exact .inr trivial | trivial), ?_⟩; simp only [go_sem, ↓reduceIte, Nat.reduceEqDiff, Nat.reduceAdd, Nat.reduceLeDiff, Nat.reduceBEq, Nat.reduceMul, reduceCtorEq, Int.reduceLE, Int.reduceLT, Int.reduceAdd, Int.reduceSub, Int.reduceNeg, Int.reduceToNat, Int.reduceBEq, retV, resL, resV, sealV, sealC, sealAll, Tryd.f3]
        all_goals rfl
end Go.Proofs.YtlpfdgkfdgehnaaDoor.AM
