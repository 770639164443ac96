/- The one pure statement of SyntaxDeep. Laid by a program of this session. -/
import Derived.Test.YtnfapjkffofcaaaPAx3
import Derived.Test.YtnfapjkffofcaaaTA
namespace Go.Proofs.Ytnfapjkffofcaaa.SSyntaxDeep
open Go.RowKit Go.Proofs.YtnfapjkffofcaaaW.PrintWords Go.Proofs.Ytnfapjkffofcaaa.FW Go.Proofs.Ytnfapjkffofcaaa.OW Go.Proofs.Ytnfapjkffofcaaa.TY Go.Proofs.Ytnfapjkffofcaaa.PA
def Pure : Prop := ∀ (y0 : (List S31)) (y1 : (List S31)) (y2 : Int), B22 y0 → B22 y1 → B3 y2 → ∃ k, cobweblaw19_SyntaxDeep.f k y0 y1 y2 = some true
end Go.Proofs.Ytnfapjkffofcaaa.SSyntaxDeep
