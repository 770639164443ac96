/- What reads as a datum of each of these types is a value of its kind; what a kind reads lies in the blocks. Laid by a program of this session. -/
import Derived.Test.YtnfapjkffofcaaaOpen
import Derived.Test.YtnfapjkffofcaaaPAx0
import Derived.KernelRfl
namespace Go.Proofs.Ytnfapjkffofcaaa.TY
open Go.RowKit Go.WideShapes Go.Proofs.YtnfapjkffofcaaaW.PrintWords Go.Proofs.Ytnfapjkffofcaaa.FW Go.Proofs.Ytnfapjkffofcaaa.OW Go.Proofs.Ytnfapjkffofcaaa.PA

def B3 (n : Int) : Prop := (Lit.int .i64 n).wf = true
theorem op3 : Opens Try.prog 3 (Kd.int .i64) B3 := opens_int Try.underlying3 (by kernel_rfl)
def B9 (s : ByteArray) : Prop := s.size ≤ 140737488351232
theorem op9 : Opens Try.prog 9 Kd.string B9 := opens_string Try.underlying9 (by kernel_rfl)
def B24 (b : Nat) : Prop := b < 18446744073709551616
theorem op24 : Opens Try.prog 24 Kd.float B24 := opens_float Try.underlying24 (by kernel_rfl)
def B26 (x : S26) : Prop := B3 x.f0 ∧ B3 x.f1 ∧ B24 x.f2 ∧ B9 x.f3
theorem op26 : Opens Try.prog 26 k26 B26 := opens_struct _ (fun p => ⟨p.1, p.2.1, p.2.2.1, p.2.2.2⟩) (fun _ => rfl) Try.underlying26 (by kernel_rfl) (opensF_cons (off := 0) (off' := 1) rfl op3 rfl (opensF_cons (off := 1) (off' := 2) rfl op3 rfl (opensF_cons (off := 2) (off' := 3) rfl op24 rfl (opensF_one rfl op9))))
theorem hp26 : Kd.Heap k26 := Kd.heap_iso _ (Kd.heap_pair (Kd.heap_int .i64) (Kd.heap_pair (Kd.heap_int .i64) (Kd.heap_pair Kd.heap_float Kd.heap_string)))
def B27 (xs : (List S26)) : Prop := xs.length * 40 ≤ 140737488351232 ∧ xs.length ≤ maxLen ∧ ∀ x ∈ xs, B26 x
theorem by27 : Try.prog.bytesOf 26 = 40 := by kernel_rfl
theorem op27 : Opens Try.prog 27 (Kd.slice 26 k26) B27 where
  sz := by kernel_rfl
  get := fun h hw => by
    obtain ⟨y, hK, h1, h2⟩ := (opens_slice Try.underlying27 (by kernel_rfl) op26 (by decide)).get h hw
    rw [by27] at h1
    exact ⟨y, hK, h1, h2⟩
def B29 (x : S29) : Prop := B26 x.f0 ∧ B27 x.f1
theorem op29 : Opens Try.prog 29 k29 B29 := opens_struct _ (fun p => ⟨p.1, p.2⟩) (fun _ => rfl) Try.underlying29 (by kernel_rfl) (opensF_cons (off := 0) (off' := 4) rfl op26 rfl (opensF_one rfl op27))
theorem hp29 : Kd.Heap k29 := Kd.heap_iso _ (Kd.heap_pair hp26 (Kd.heap_slice 26 hp26))
def B31 (x : S31) : Prop := B3 x.f0 ∧ B9 x.f1 ∧ B9 x.f2 ∧ B29 x.f3
theorem op31 : Opens Try.prog 31 k31 B31 := opens_struct _ (fun p => ⟨p.1, p.2.1, p.2.2.1, p.2.2.2⟩) (fun _ => rfl) Try.underlying31 (by kernel_rfl) (opensF_cons (off := 0) (off' := 1) rfl op3 rfl (opensF_cons (off := 1) (off' := 2) rfl op9 rfl (opensF_cons (off := 2) (off' := 3) rfl op9 rfl (opensF_one rfl op29))))
theorem hp31 : Kd.Heap k31 := Kd.heap_iso _ (Kd.heap_pair (Kd.heap_int .i64) (Kd.heap_pair Kd.heap_string (Kd.heap_pair Kd.heap_string hp29)))
def B22 (xs : (List S31)) : Prop := xs.length * 104 ≤ 140737488351232 ∧ xs.length ≤ maxLen ∧ ∀ x ∈ xs, B31 x
theorem by22 : Try.prog.bytesOf 31 = 104 := by kernel_rfl
theorem op22 : Opens Try.prog 22 (Kd.slice 31 k31) B22 where
  sz := by kernel_rfl
  get := fun h hw => by
    obtain ⟨y, hK, h1, h2⟩ := (opens_slice Try.underlying22 (by kernel_rfl) op31 (by decide)).get h hw
    rw [by22] at h1
    exact ⟨y, hK, h1, h2⟩
/-- A row that came in may be shared: what it leads to lies in the old blocks. -/
theorem V_of_C {α : Type} {d : Kd α} (hd : Kd.Heap d) {w : World} {e b c : Nat} {A : Option Addr} {xs : List α} (hl : xs.length ≤ c) (h : d.C w A xs.length xs) : Kd.V d e w b (fun _ => True) (.slice A xs.length c) xs :=
  Kd.V_mk hl (fun _ hW => hd.C (fun k hk => hW k trivial hk) h)
end Go.Proofs.Ytnfapjkffofcaaa.TY
