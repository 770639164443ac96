/- The pure statement of SyntaxDeep: terms that are put together are one deeper than the deeper one; a term that is missing, or one too many, is none. -/
import Derived.Test.YtnfapjkffofcaaaSSyntaxDeep
namespace Go.Proofs.Ytnfapjkffofcaaa.PureSyntaxDeep
open Go.RowKit Go.Proofs.YtnfapjkffofcaaaW.PrintWords Go.Proofs.Ytnfapjkffofcaaa.FW Go.Proofs.Ytnfapjkffofcaaa.OW Go.Proofs.Ytnfapjkffofcaaa.TY Go.Proofs.Ytnfapjkffofcaaa.PA
set_option linter.unusedVariables false
set_option linter.unusedSimpArgs false

theorem wrap64_id {x : Int} (h : -9223372036854775808 ≤ x) (h2 : x ≤ 9223372036854775807) : wrap64 x = x := by unfold wrap64; omega

theorem Ev.ite_t {α : Type} {c : Prop} [Decidable c] {f g : Nat → Option α} {r : α} (h : c) (k : Ev f r) : Ev (fun n => if c then f n else g n) r := by
  simpa only [if_pos h] using k
theorem Ev.ite_f {α : Type} {c : Prop} [Decidable c] {f g : Nat → Option α} {r : α} (h : ¬ c) (k : Ev g r) : Ev (fun n => if c then f n else g n) r := by
  simpa only [if_neg h] using k
theorem Ev.some_bind {α β : Type} {x : α} {f : Nat → α → Option β} {r : β} (k : Ev (fun n => f n x) r) : Ev (fun n => (some x).bind (f n)) r := by
  simpa only [Option.bind_some] using k

/-! ### the size is told, whatever it is -/
theorem size_tells (l : List S31) (hl : l.length ≤ 9223372036854775807) : ∀ (d : Nat) (n i : Int), 0 ≤ i → i ≤ l.length → (l.length : Int) - i = d → ∃ r, Ev (fun k => cobweblaw19_size.l0 k l n i) r := by
  intro d
  induction d with
  | zero =>
    intro n i h0 h1 hd
    refine ⟨n, Ev.step (fun _ => rfl) ?_⟩
    simp only [cobweblaw19_size.l0]
    exact Ev.ite_f (by omega) (Ev.now n)
  | succ d ih =>
    intro n i h0 h1 hd
    by_cases hn : n < 5000
    · obtain ⟨r, hr⟩ := ih (wrap64 ((wrap64 ((wrap64 ((wrap64 ((wrap64 (n + 5)) + (((rd_T31 l i).f1).size : Int))) + (((rd_T31 l i).f2).size : Int))) + (((rd_T31 l i).f3.f0.f3).size : Int))) + (wrap64 (20 * (((rd_T31 l i).f3.f1).length : Int))))) (i + 1) (by omega) (by omega) (by omega)
      refine ⟨r, Ev.step (fun _ => rfl) ?_⟩
      simp only [cobweblaw19_size.l0]
      refine Ev.ite_t (by omega) (Ev.ite_t hn (Ev.ite_t h0 ?_))
      rw [wrap64_id (x := i + 1) (by omega) (by omega)]
      exact hr
    · refine ⟨n, Ev.step (fun _ => rfl) ?_⟩
      simp only [cobweblaw19_size.l0]
      exact Ev.ite_t (by omega) (Ev.ite_f hn (Ev.now n))

/-! ### how deep terms are -/
def ofN (op : Int) : Nat := if op ≤ 3 then 0 else if op ≤ 5 then 1 else 2
def top (d : Int) (l : List Int) : Int := l.foldl (fun a b => mx a b) d
def step (s : List Int) (op : Int) : Option (List Int) :=
  if op ≤ 0 ∨ 16 ≤ op ∨ s.length < ofN op then none else some (s.take (s.length - ofN op) ++ [top 0 (s.drop (s.length - ofN op)) + 1])
def run : List Int → List Int → Option (List Int)
  | s, [] => some s
  | s, op :: l => (step s op).bind fun s' => run s' l
def told (o : Option (List Int)) : Int := match o with
  | some [x] => x
  | _ => 0
def deep (l : List Int) : Int := if 1000 < l.length then 0 else told (run [] l)
def Small (s : List Int) (n : Nat) : Prop := s.length ≤ n ∧ ∀ x ∈ s, 0 ≤ x ∧ x ≤ n

theorem top_bound {d : Int} {l : List Int} {n : Int} (h0 : 0 ≤ d) (hd : d ≤ n) (h : ∀ x ∈ l, 0 ≤ x ∧ x ≤ n) : 0 ≤ top d l ∧ top d l ≤ n := by
  induction l generalizing d with
  | nil => exact ⟨h0, hd⟩
  | cons x l ih =>
    have hx := h x List.mem_cons_self
    refine ih (d := mx d x) ?_ ?_ (fun y hy => h y (List.mem_cons_of_mem _ hy))
    · unfold mx; split <;> omega
    · unfold mx; split <;> omega
theorem small_step {s s' : List Int} {op : Int} {n : Nat} (h : Small s n) (hs : step s op = some s') : Small s' (n + 1) := by
  unfold step at hs
  split at hs
  · cases hs
  · rename_i hc
    injection hs with hs
    subst hs
    have hb := top_bound (d := 0) (n := (n : Int)) (l := s.drop (s.length - ofN op)) (by omega) (by omega) (fun x hx => h.2 x (List.mem_of_mem_drop hx))
    refine ⟨?_, fun x hx => ?_⟩
    · have := h.1
      simp only [List.length_append, List.length_take, List.length_cons, List.length_nil]
      omega
    · rcases List.mem_append.1 hx with hx | hx
      · have := h.2 x (List.mem_of_mem_take hx)
        omega
      · rw [List.mem_singleton.1 hx]
        omega

theorem of_tells (op : Int) : syntax_of.f op = some (ofN op : Int) := by
  unfold syntax_of.f ofN
  split
  · rfl
  · split <;> rfl
theorem rd_eq (l : List Int) (i : Int) (h0 : 0 ≤ i) (h1 : i < l.length) : ∃ n : Nat, i = n ∧ ∃ h : n < l.length, rd l i = l[n] := by
  obtain ⟨n, rfl⟩ := Int.eq_ofNat_of_zero_le h0
  refine ⟨n, rfl, by omega, ?_⟩
  simp [rd, List.getElem?_eq_getElem (show n < l.length by omega)]

theorem inner (s : List Int) (n : Nat) (l : List S31) (len i : Int) (y : List Int) (hy : y.length ≤ 9223372036854775806) (r : Int)
    (hx : ∀ d, d = top 0 y → Ev (fun k => if 0 ≤ (n : Int) then if (n : Int) ≤ (s.length : Int) then (some (s.take (n : Int).toNat : List Int)).bind fun y114 => if y114.length < 17592186044416 then syntax_Deep.l0 k (y114 ++ [wrap64 (d + 1)]) l len (wrap64 (i + 1)) else none else none else none) r) :
    ∀ (m : Nat) (d : Int) (j : Nat), j ≤ y.length → y.length - j = m → top d (y.drop j) = top 0 y → Ev (fun k => syntax_Deep.l1 k s n d l len i y (y.length : Int) j) r := by
  intro m
  induction m with
  | zero =>
    intro d j hj hm ht
    refine Ev.step (fun _ => rfl) ?_
    simp only [syntax_Deep.l1]
    refine Ev.ite_f (by omega) (hx d ?_)
    rw [List.drop_of_length_le (by omega)] at ht
    exact ht
  | succ m ih =>
    intro d j hj hm ht
    refine Ev.step (fun _ => rfl) ?_
    simp only [syntax_Deep.l1]
    refine Ev.ite_t (by omega) (Ev.ite_t (by omega) (Ev.ite_t (by omega) ?_))
    rw [wrap64_id (x := (j : Int) + 1) (by omega) (by omega)]
    have h2 : rd y (j : Int) = y[j]'(by omega) := by simp [rd, List.getElem?_eq_getElem (show j < y.length by omega)]
    refine ih (mx d (rd y j)) (j + 1) (by omega) (by omega) ?_
    rw [h2, ← ht, List.drop_eq_getElem_cons (show j < y.length by omega)]
    rfl

theorem outer (l : List S31) (hl : l.length ≤ 1000) : ∀ (m : Nat) (s : List Int) (i : Nat), i ≤ l.length → l.length - i = m → Small s i →
    Ev (fun k => syntax_Deep.l0 k s l (l.length : Int) i) (told (run s ((l.drop i).map (·.f0)))) := by
  intro m
  induction m with
  | zero =>
    intro s i hi hm hs
    refine Ev.step (fun _ => rfl) ?_
    simp only [syntax_Deep.l0]
    refine Ev.ite_f (by omega) ?_
    rw [List.drop_of_length_le (by omega)]
    simp only [List.map_nil, run]
    by_cases h1 : s.length = 1
    · refine Ev.ite_t (by omega) (Ev.ite_t (by omega) ?_)
      match s, h1 with
      | [x], _ => exact Ev.now x
    · refine Ev.ite_f (by omega) ?_
      have : told (some s) = 0 := by
        match s, h1 with
        | [], _ => rfl
        | _ :: _ :: _, _ => rfl
      rw [this]
      exact Ev.now 0
  | succ m ih =>
    intro s i hi hm hs
    have hlt : i < l.length := by omega
    have e0 : rd_T31 l (i : Int) = l[i] := by simp [rd_T31, List.getElem?_eq_getElem hlt]
    have e1 : (l.drop i).map (·.f0) = l[i].f0 :: (l.drop (i + 1)).map (·.f0) := by rw [List.drop_eq_getElem_cons hlt]; rfl
    generalize hop : l[i].f0 = op at *
    rw [e1]
    refine Ev.step (fun _ => rfl) ?_
    simp only [syntax_Deep.l0]
    refine Ev.ite_t (by omega) (Ev.ite_t (by omega) (Ev.ite_t (by omega) ?_))
    rw [e0, hop, of_tells]
    refine Ev.some_bind ?_
    have hof : ofN op ≤ 2 := by unfold ofN; split <;> (try split) <;> omega
    have hsl := hs.1
    rw [wrap64_id (x := (s.length : Int) - (ofN op : Int)) (by omega) (by omega)]
    have bad : op ≤ 0 ∨ 16 ≤ op ∨ s.length < ofN op → told (run s (op :: (l.drop (i + 1)).map (·.f0))) = 0 := fun hb => by
      simp only [run, step, if_pos hb, Option.bind_none, told]
    have b1 : ∀ (z : Int), Ev (fun k => syntax_Deep.j1 k s z l (l.length : Int) i true) 0 := fun z => by
      refine Ev.step (fun _ => rfl) ?_
      simp only [syntax_Deep.j1]
      exact Ev.ite_t trivial (Ev.now 0)
    by_cases h1 : op ≤ 0
    · rw [bad (.inl h1)]
      exact Ev.ite_t h1 (b1 _)
    refine Ev.ite_f h1 ?_
    by_cases h2 : op ≥ 16
    · rw [bad (.inr (.inl h2))]
      exact Ev.ite_t h2 (b1 _)
    refine Ev.ite_f h2 ?_
    by_cases h3 : s.length < ofN op
    · rw [bad (.inr (.inr h3)), decide_eq_true (show (s.length : Int) - (ofN op : Int) < 0 by omega)]
      exact b1 _
    rw [decide_eq_false (show ¬ (s.length : Int) - (ofN op : Int) < 0 by omega)]
    obtain ⟨n, hn⟩ : ∃ n : Nat, n = s.length - ofN op := ⟨_, rfl⟩
    rw [show (s.length : Int) - (ofN op : Int) = (n : Int) by omega]
    have hst : step s op = some (s.take n ++ [top 0 (s.drop n) + 1]) := by
      unfold step
      rw [if_neg (by omega), hn]
    refine Ev.step (fun _ => rfl) ?_
    simp only [syntax_Deep.j1]
    refine Ev.ite_f (by decide) (Ev.ite_t (by omega) (Ev.ite_t (by omega) (Ev.some_bind ?_)))
    have hb := top_bound (d := 0) (n := (i : Int)) (l := s.drop n) (by omega) (by omega) (fun x hx => hs.2 x (List.mem_of_mem_drop hx))
    rw [Int.toNat_natCast]
    refine inner s n l (l.length : Int) i (s.drop n) (by rw [List.length_drop]; omega) _ ?_ (s.drop n).length 0 0 (by omega) (by omega) rfl
    intro d hd
    subst hd
    refine Ev.ite_t (by omega) (Ev.ite_t (by omega) (Ev.some_bind (Ev.ite_t ?_ ?_)))
    · rw [Int.toNat_natCast, List.length_take]; omega
    rw [Int.toNat_natCast, wrap64_id (by omega) (by omega), wrap64_id (x := (i : Int) + 1) (by omega) (by omega)]
    have hsm := small_step hs hst
    have := ih (s.take n ++ [top 0 (s.drop n) + 1]) (i + 1) (by omega) (by omega) hsm
    simp only [run, hst, Option.bind_some]
    exact this

theorem deep_tells (l : List S31) : Ev (fun k => syntax_Deep.f k l) (deep (l.map (·.f0))) := by
  unfold syntax_Deep.f deep
  by_cases h : 1000 < l.length
  · rw [if_pos (by simpa using h)]
    exact Ev.ite_t (by omega) (Ev.now 0)
  · rw [if_neg (by simpa using h)]
    refine Ev.ite_f (by omega) ?_
    exact outer l (by omega) l.length [] 0 (by omega) (by omega) ⟨by simp, by simp⟩

/-! ### terms put together -/
theorem run_append : ∀ (s a b : List Int), run s (a ++ b) = (run s a).bind fun s' => run s' b
  | s, [], b => rfl
  | s, op :: a, b => by
    simp only [List.cons_append, run]
    cases step s op with
    | none => rfl
    | some s' => simp only [Option.bind_some]; exact run_append s' a b
theorem step_over (z s s' : List Int) (op : Int) (h : step s op = some s') : step (z ++ s) op = some (z ++ s') := by
  unfold step at h ⊢
  split at h
  · cases h
  · rename_i hc
    injection h with h
    rw [if_neg (by simp only [List.length_append]; omega)]
    have e : (z ++ s).length - ofN op = z.length + (s.length - ofN op) := by simp only [List.length_append]; omega
    rw [e, List.take_append, List.drop_append, ← h]
    simp [List.take_of_length_le, List.drop_of_length_le]
theorem run_over (z : List Int) : ∀ (s a s' : List Int), run s a = some s' → run (z ++ s) a = some (z ++ s')
  | s, [], s', h => by
    simp only [run] at h ⊢
    injection h with h
    rw [h]
  | s, op :: a, s', h => by
    simp only [run] at h ⊢
    obtain ⟨s1, h1, h2⟩ := Option.bind_eq_some_iff.1 h
    rw [step_over z s s1 op h1]
    exact run_over z s1 a s' h2
theorem of_deep {l : List Int} (h : deep l ≠ 0) : run [] l = some [deep l] ∧ l.length ≤ 1000 := by
  unfold deep at h ⊢
  split at h
  · exact absurd rfl h
  · rename_i hl
    rw [if_neg hl]
    refine ⟨?_, by omega⟩
    cases hr : run [] l with
    | none => rw [hr] at h; exact absurd rfl h
    | some s =>
      rw [hr] at h
      match s, h with
      | [], h => exact absurd rfl h
      | [x], _ => rfl
      | _ :: _ :: _, h => exact absurd rfl h
theorem run_small : ∀ (a s s' : List Int) (n : Nat), Small s n → run s a = some s' → Small s' (n + a.length)
  | [], s, s', n, hs, h => by
    simp only [run] at h
    injection h with h
    rw [← h]
    exact hs
  | op :: a, s, s', n, hs, h => by
    simp only [run] at h
    obtain ⟨s1, h1, h2⟩ := Option.bind_eq_some_iff.1 h
    have := run_small a s1 s' (n + 1) (small_step hs h1) h2
    rw [List.length_cons, show n + (a.length + 1) = n + 1 + a.length by omega]
    exact this
theorem deep_small (l : List Int) : 0 ≤ deep l ∧ deep l ≤ 1000 := by
  by_cases h : deep l = 0
  · omega
  · obtain ⟨h1, h2⟩ := of_deep h
    have := (run_small l [] _ 0 ⟨by simp, by simp⟩ h1).2 (deep l) List.mem_cons_self
    omega
theorem deep_two {a b : List Int} {op : Int} (ha : deep a ≠ 0) (hb : deep b ≠ 0) (hl : a.length + b.length ≤ 990) (h6 : 6 ≤ op) (h13 : op ≤ 13) :
    deep (a ++ b) = 0 ∧ deep (a ++ b ++ [op]) = 1 + mx (deep a) (deep b) := by
  obtain ⟨ra, _⟩ := of_deep ha
  obtain ⟨rb, _⟩ := of_deep hb
  have rab : run [] (a ++ b) = some [deep a, deep b] := by
    rw [run_append, ra, Option.bind_some]
    exact run_over [deep a] [] b _ rb
  refine ⟨?_, ?_⟩
  · rw [deep, if_neg (by simp only [List.length_append]; omega), rab]
    rfl
  · have hof : ofN op = 2 := by unfold ofN; rw [if_neg (by omega), if_neg (by omega)]
    have pa := (deep_small a).1
    have pb := (deep_small b).1
    rw [deep, if_neg (by simp only [List.length_append, List.length_cons, List.length_nil]; omega), run_append, rab, Option.bind_some]
    simp only [run, step, hof]
    rw [if_neg (by simp only [List.length_cons, List.length_nil]; omega)]
    simp only [Option.bind_some, List.length_cons, List.length_nil, told, top, List.foldl_cons, List.foldl_nil, List.drop_zero, List.take_zero, Nat.sub_self, List.nil_append]
    unfold mx
    repeat' split
    all_goals omega
theorem deep_bin {a : List Int} {op : Int} (ha : deep a ≠ 0) (hl : a.length ≤ 990) (h6 : 6 ≤ op) (h13 : op ≤ 13) : deep (a ++ [op]) = 0 := by
  obtain ⟨ra, _⟩ := of_deep ha
  have hof : ofN op = 2 := by unfold ofN; rw [if_neg (by omega), if_neg (by omega)]
  rw [deep, if_neg (by simp only [List.length_append, List.length_cons, List.length_nil]; omega), run_append, ra, Option.bind_some]
  simp [run, step, hof, told]
theorem deep_not {a : List Int} (ha : deep a ≠ 0) (hl : a.length ≤ 990) : deep (a ++ [4]) = deep a + 1 := by
  obtain ⟨ra, _⟩ := of_deep ha
  have pa := (deep_small a).1
  rw [deep, if_neg (by simp only [List.length_append, List.length_cons, List.length_nil]; omega), run_append, ra, Option.bind_some]
  have hof : ofN 4 = 1 := rfl
  simp only [run, step, hof]
  rw [if_neg (by simp only [List.length_cons, List.length_nil]; omega)]
  simp only [Option.bind_some, List.length_cons, List.length_nil, told, top, List.foldl_cons, List.foldl_nil, List.drop_zero, List.take_zero, Nat.sub_self, List.nil_append]
  unfold mx
  split
  · rfl
  · omega

theorem and7 (x : Int) : 0 ≤ Go.bits .and .i64 x 7 ∧ Go.bits .and .i64 x 7 ≤ 7 := by
  have h7 : ((BitVec.ofInt 64 7 : BitVec 64)).toNat = 7 := by decide
  have h : (BitVec.ofInt 64 x &&& BitVec.ofInt 64 7).toNat ≤ 7 := by
    rw [BitVec.toNat_and, h7]
    exact Nat.and_le_right
  have e : Go.bits .and .i64 x 7 = IntKind.i64.wrap (((BitVec.ofInt 64 x &&& BitVec.ofInt 64 7).toNat : Nat) : Int) := rfl
  rw [e, IntKind.wrap_i64]
  omega

theorem j0_yes (a b : List S31) (op : Int) : Ev (fun k => cobweblaw19_SyntaxDeep.j0 k a b op true) true := by
  refine Ev.step (fun _ => rfl) ?_
  simp only [cobweblaw19_SyntaxDeep.j0]
  exact Ev.ite_t trivial (Ev.now true)
theorem j2_yes (a z : List S31) (op x y : Int) : Ev (fun k => cobweblaw19_SyntaxDeep.j2 k a op x y z true) true := by
  refine Ev.step (fun _ => rfl) ?_
  simp only [cobweblaw19_SyntaxDeep.j2]
  exact Ev.ite_t trivial (Ev.now true)

theorem j2_no (a b : List S31) (op : Int) (hl : a.length + b.length ≤ 990) (h6 : 6 ≤ op) (h13 : op ≤ 13) (ha : deep (a.map (·.f0)) ≠ 0) (hb : deep (b.map (·.f0)) ≠ 0) :
    Ev (fun k => cobweblaw19_SyntaxDeep.j2 k a op (deep (a.map (·.f0))) (deep (b.map (·.f0))) (a ++ b) false) true := by
  obtain ⟨d1, d2⟩ := deep_two ha hb (by simpa using hl) h6 h13
  have d3 := deep_bin ha (by simp; omega) h6 h13
  have d4 := deep_not ha (by simp; omega)
  have s1 := deep_small (a.map (·.f0))
  have s2 := deep_small (b.map (·.f0))
  have m1 : mx (deep (a.map (·.f0))) (deep (b.map (·.f0))) ≤ 1000 ∧ 0 ≤ mx (deep (a.map (·.f0))) (deep (b.map (·.f0))) := by
    unfold mx; split <;> omega
  refine Ev.step (fun _ => rfl) ?_
  simp only [cobweblaw19_SyntaxDeep.j2]
  refine Ev.ite_f (by decide) (Ev.some_bind (Ev.ite_t (by simp; omega) (Ev.some_bind (Ev.ite_t (by simp; omega) (Ev.bind (deep_tells _) (Ev.bind (deep_tells _) ?_))))))
  simp only [List.nil_append, List.map_append, List.map_cons, List.map_nil]
  rw [d2, d1]
  refine Ev.ite_t rfl (Ev.ite_t ?_ (Ev.some_bind (Ev.ite_t (by simp; omega) (Ev.some_bind (Ev.ite_t (by simp; omega) (Ev.bind (deep_tells _) ?_))))))
  · rw [wrap64_id (by omega) (by omega)]
  simp only [List.nil_append, List.map_append, List.map_cons, List.map_nil]
  rw [d3]
  refine Ev.ite_t rfl (Ev.some_bind (Ev.ite_t (by simp; omega) (Ev.some_bind (Ev.ite_t (by simp; omega) (Ev.bind (deep_tells _) ?_)))))
  simp only [List.nil_append, List.map_append, List.map_cons, List.map_nil]
  rw [d4, wrap64_id (by omega) (by omega)]
  simpa using Ev.now true

theorem j0_no (a b : List S31) (op : Int) (hl : a.length + b.length ≤ 990) : Ev (fun k => cobweblaw19_SyntaxDeep.j0 k a b op false) true := by
  have h7 := and7 op
  refine Ev.step (fun _ => rfl) ?_
  simp only [cobweblaw19_SyntaxDeep.j0]
  refine Ev.ite_f (by decide) (Ev.bind (deep_tells a) (Ev.bind (deep_tells b) (Ev.some_bind (Ev.ite_t (by simp; omega) (Ev.some_bind (Ev.ite_t (by simp; omega) (Ev.some_bind (Ev.bind (deep_tells _) ?_))))))))
  simp only [List.map_cons, List.map_nil, List.nil_append]
  rw [show deep [1] = 1 from rfl]
  refine Ev.ite_t rfl (Ev.bind (deep_tells _) ?_)
  simp only [List.map_nil]
  rw [show deep [] = 0 from rfl, show ((0 : Int) != 0) = false from rfl, wrap64_id (x := 6 + Go.bits .and .i64 op 7) (by omega) (by omega)]
  refine Ev.step (fun _ => rfl) ?_
  simp only [cobweblaw19_SyntaxDeep.j1]
  refine Ev.ite_f (by decide) ?_
  by_cases ha : deep (a.map (·.f0)) = 0
  · exact Ev.ite_t ha (j2_yes _ _ _ _ _)
  refine Ev.ite_f ha ?_
  by_cases hb : deep (b.map (·.f0)) = 0
  · rw [hb]
    exact j2_yes _ _ _ _ _
  rw [show (deep (b.map (·.f0)) == 0) = false from beq_eq_false_iff_ne.2 hb]
  exact j2_no a b _ hl (by omega) (by omega) ha hb

theorem SyntaxDeep : SSyntaxDeep.Pure := by
  intro a b op ha hb _
  have la : a.length ≤ 1353245080304 := by have := ha.1; omega
  have lb : b.length ≤ 1353245080304 := by have := hb.1; omega
  obtain ⟨r, hr⟩ := size_tells a (by omega) a.length 0 0 (by omega) (by omega) (by omega)
  obtain ⟨q, hq⟩ := size_tells b (by omega) b.length 0 0 (by omega) (by omega) (by omega)
  refine Ev.rounds ?_
  unfold cobweblaw19_SyntaxDeep.f
  refine Ev.bind (g := fun k => cobweblaw19_size.f k a) hr ?_
  by_cases h1 : r > 2000
  · exact Ev.ite_t h1 (j0_yes _ _ _)
  refine Ev.ite_f h1 (Ev.bind (g := fun k => cobweblaw19_size.f k b) hq ?_)
  by_cases h2 : q > 2000
  · exact Ev.ite_t h2 (j0_yes _ _ _)
  refine Ev.ite_f h2 ?_
  rw [wrap64_id (by omega) (by omega)]
  by_cases h3 : (a.length : Int) + (b.length : Int) > 990
  · rw [decide_eq_true h3]
    exact j0_yes _ _ _
  · rw [decide_eq_false h3]
    exact j0_no a b op (by omega)
end Go.Proofs.Ytnfapjkffofcaaa.PureSyntaxDeep
