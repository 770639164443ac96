/-
  No cell of these rows narrows 'for every input' (looked for: loops, veiled, ifaces, maps, wideKeys, modest, calm, conditions, laid).
  DERIVED. THE GIVEN ROWS OF THIS SEAT. 3 by the template 'for every input the law returns true; each argument reads behind the call as it read before'; 0 by the template 'total and deterministic' (their statements: YtehonclbmffkfaaGreatTotals.lean).
  GIVEN WITH THE SEED: the statements are not yours to turn. If you find one false, say at which input.
  Laid BY PROGRAM, IN A SANDBOX (cutbox-rows.mjs): the forced cells as the released guide's own fill.sh prints them over the translation 6f8e258ffaa9ec83… (all of the seat's roots in one cut). By AI agents, Wed Nov 11 2026. No macro, syntax, notation, axiom, sorry.
-/
import Derived.Test.YtehonclbmffkfaaGreatChecked
import GoSem.Claim
import GoSem.ClaimJoined
import GoSem.ClaimMapViews
import Derived.JoinedTies
import Derived.KernelRfl
namespace Go.Proofs.YtehonclbmffkfaaGreat
/- THE CELL 'sum', in the pinned program and in every row, IS THE sha256 OF THE DUMP (.gsa) THAT YtehonclbmffkfaaGreatProg.lean LOADS. Nothing in Lean hashes anything: it is a label: what it is worth is what the hold of that sum in a sandbox is worth. -/
noncomputable def Tryz.pinned : Pinned := { name := "ytehonclbmffkfaagreat", sum := "6f8e258ffaa9ec830fb7c53d59c4e68184c0c7825e9e51a21e49930e93405fd6", checked := Tryz.checked }
namespace Rows
def none {H : Type} : Left H := { results := [], args := [] }

/-- 'cobweblaw13.TreeNobody': WHATEVER THE INPUT: true; the input reads as it did. -/
def treeNobodySpec : ChangeSpec := { name := "treeNobody", fn := fun _ => fun
  | [d1, d2] => { results := [.lit (.bool true)], args := [d1, d2] }
  | _ => none }
def treeNobodyRow : OpenClaim := { program := "ytehonclbmffkfaagreat", sum := "6f8e258ffaa9ec830fb7c53d59c4e68184c0c7825e9e51a21e49930e93405fd6", func := "cobweb/cobweblaw13.TreeNobody", spec := "treeNobody", inPlace := ["internal/bytealg.Compare"], unfollowed := true, recurses := true, apart := false }
def TreeNobodySaid : Prop := treeNobodyRow.holds Tryz.pinned (OpenSpec.ofChange treeNobodySpec)

/-- ITS FALSE NEIGHBOUR: 'it returns false'. Refute it at one input. -/
def treeNobodyWrong : ChangeSpec := { name := "treeNobody", fn := fun _ => fun
  | [d1, d2] => { results := [.lit (.bool false)], args := [d1, d2] }
  | _ => none }
def TreeNobodyWrongFalsely : Prop := treeNobodyRow.holds Tryz.pinned (OpenSpec.ofChange treeNobodyWrong)

/-- 'cobweblaw15.TxnNobody': WHATEVER THE INPUT: true; the input reads as it did. -/
def txnNobodySpec : ChangeSpec := { name := "txnNobody", fn := fun _ => fun
  | [d1, d2] => { results := [.lit (.bool true)], args := [d1, d2] }
  | _ => none }
def txnNobodyRow : OpenClaim := { program := "ytehonclbmffkfaagreat", sum := "6f8e258ffaa9ec830fb7c53d59c4e68184c0c7825e9e51a21e49930e93405fd6", func := "cobweb/cobweblaw15.TxnNobody", spec := "txnNobody", inPlace := ["internal/bytealg.Compare"], unfollowed := true, recurses := true, apart := false }
def TxnNobodySaid : Prop := txnNobodyRow.holds Tryz.pinned (OpenSpec.ofChange txnNobodySpec)

/-- ITS FALSE NEIGHBOUR: 'it returns false'. Refute it at one input. -/
def txnNobodyWrong : ChangeSpec := { name := "txnNobody", fn := fun _ => fun
  | [d1, d2] => { results := [.lit (.bool false)], args := [d1, d2] }
  | _ => none }
def TxnNobodyWrongFalsely : Prop := txnNobodyRow.holds Tryz.pinned (OpenSpec.ofChange txnNobodyWrong)

/-- 'cobweblaw16.GraphNobody': WHATEVER THE INPUT: true; the input reads as it did. -/
def graphNobodySpec : ChangeSpec := { name := "graphNobody", fn := fun _ => fun
  | [d1, d2] => { results := [.lit (.bool true)], args := [d1, d2] }
  | _ => none }
def graphNobodyRow : OpenClaim := { program := "ytehonclbmffkfaagreat", sum := "6f8e258ffaa9ec830fb7c53d59c4e68184c0c7825e9e51a21e49930e93405fd6", func := "cobweb/cobweblaw16.GraphNobody", spec := "graphNobody", inPlace := ["math.Float64bits", "math.Float64frombits", "internal/bytealg.Compare", "internal/bytealg.IndexByte", "math.archTrunc", "slices.overlaps[cobweb/api.Prop]"], unfollowed := true, recurses := true, apart := false }
def GraphNobodySaid : Prop := graphNobodyRow.holds Tryz.pinned (OpenSpec.ofChange graphNobodySpec)

/-- ITS FALSE NEIGHBOUR: 'it returns false'. Refute it at one input. -/
def graphNobodyWrong : ChangeSpec := { name := "graphNobody", fn := fun _ => fun
  | [d1, d2] => { results := [.lit (.bool false)], args := [d1, d2] }
  | _ => none }
def GraphNobodyWrongFalsely : Prop := graphNobodyRow.holds Tryz.pinned (OpenSpec.ofChange graphNobodyWrong)

/- THE SECOND FORM. 'bulk': how many values and letters a reading holds, each counted each time it is reached (what is shared counts as often as it is met; a slice's spare places count too). A statement '..UptoSaid' is the law's where the arguments, and the package variables that the reading takes, are together of bulk at most 1048576: NARROWER than '..Said'. Prove '..Said' where nothing that the law and all that it calls make is longer than what came in: it says more and counts as full. Else prove '..UptoSaid'. A law counts once. -/
mutual
def uptoBulk {H : Type} : DataW H → Nat
  | .lit (.string bytes) => bytes.length + 1
  | .lit _ => 1
  | .nil => 1
  | .ptr d => uptoBulk d + 1
  | .slice elems spare => uptoBulkAll elems + uptoBulkAll spare + 1
  | .agg parts => uptoBulkAll parts + 1
  | .iface _ d => uptoBulk d + 1
  | .map entries => uptoBulkEntries entries + 1
  | .held _ => 1
def uptoBulkAll {H : Type} : List (DataW H) → Nat
  | [] => 0
  | d :: r => uptoBulk d + uptoBulkAll r
def uptoBulkEntries {H : Type} : List (Lit × DataW H) → Nat
  | [] => 0
  | x :: r => uptoBulkEntry x + uptoBulkEntries r
def uptoBulkEntry {H : Type} : Lit × DataW H → Nat
  | (.string bytes, d) => bytes.length + uptoBulk d + 1
  | (_, d) => uptoBulk d + 1
 end
def uptoSmall : (H : Type) → List (DataW H) → Bool := fun _ ds => decide (uptoBulkAll ds ≤ 1048576)
def OpenSpec.upto (s : _root_.Go.ChangeSpec) : _root_.Go.OpenSpec := { _root_.Go.OpenSpec.ofChange s with cond := some uptoSmall }

/-- 'cobweblaw13.TreeNobody', WHERE WHAT IT READS IS OF BULK AT MOST 1048576: true; the input reads as it did. -/
def treeNobodyUptoRow : OpenClaim := { program := "ytehonclbmffkfaagreat", sum := "6f8e258ffaa9ec830fb7c53d59c4e68184c0c7825e9e51a21e49930e93405fd6", func := "cobweb/cobweblaw13.TreeNobody", spec := "treeNobody", inPlace := ["internal/bytealg.Compare"], unfollowed := true, recurses := true, apart := false, narrowed := true }
def TreeNobodyUptoSaid : Prop := treeNobodyUptoRow.holds Tryz.pinned (OpenSpec.upto treeNobodySpec)

/-- 'cobweblaw15.TxnNobody', WHERE WHAT IT READS IS OF BULK AT MOST 1048576: true; the input reads as it did. -/
def txnNobodyUptoRow : OpenClaim := { program := "ytehonclbmffkfaagreat", sum := "6f8e258ffaa9ec830fb7c53d59c4e68184c0c7825e9e51a21e49930e93405fd6", func := "cobweb/cobweblaw15.TxnNobody", spec := "txnNobody", inPlace := ["internal/bytealg.Compare"], unfollowed := true, recurses := true, apart := false, narrowed := true }
def TxnNobodyUptoSaid : Prop := txnNobodyUptoRow.holds Tryz.pinned (OpenSpec.upto txnNobodySpec)

/-- 'cobweblaw16.GraphNobody', WHERE WHAT IT READS IS OF BULK AT MOST 1048576: true; the input reads as it did. -/
def graphNobodyUptoRow : OpenClaim := { program := "ytehonclbmffkfaagreat", sum := "6f8e258ffaa9ec830fb7c53d59c4e68184c0c7825e9e51a21e49930e93405fd6", func := "cobweb/cobweblaw16.GraphNobody", spec := "graphNobody", inPlace := ["math.Float64bits", "math.Float64frombits", "internal/bytealg.Compare", "internal/bytealg.IndexByte", "math.archTrunc", "slices.overlaps[cobweb/api.Prop]"], unfollowed := true, recurses := true, apart := false, narrowed := true }
def GraphNobodyUptoSaid : Prop := graphNobodyUptoRow.holds Tryz.pinned (OpenSpec.upto graphNobodySpec)

end Rows
end Go.Proofs.YtehonclbmffkfaaGreat
