/- What the row of NetRow asks of the law's plain side: nothing. -/
import Derived.Test.YtnaefndclalepaaRow
namespace Go.Proofs.Ytnaefndclalepaa.Net
theorem NetRowP (l0 : List (List Int)) (a1 : Int) (_ : l0.length ≤ maxLen ∧ ∀ x0 ∈ l0, (x0.length ≤ maxLen ∧ ∀ x1 ∈ x0, (Lit.int .u8 x1).wf = true)) (_ : (Lit.int .i64 a1).wf = true) : true = true := rfl
end Go.Proofs.Ytnaefndclalepaa.Net
