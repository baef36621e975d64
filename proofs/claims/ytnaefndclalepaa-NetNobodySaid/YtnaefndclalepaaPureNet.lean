/- What the rows of chapter 05 ask of the laws' plain side: nothing. -/
import Derived.Test.YtnaefndclalepaaNob
namespace Go.Proofs.Ytnaefndclalepaa.Net
open Go.Proofs.Ytnaefndclalepaa.XN
theorem NetNobodyP (x0 : S41) (_ : (Lit.int .i64 x0.f0).wf = true ∧ (Lit.int .i64 x0.f1).wf = true ∧ (Lit.int .i64 x0.f2).wf = true ∧ (Lit.int .i64 x0.f3).wf = true ∧ (x0.f4.length ≤ maxLen ∧ ∀ x1 ∈ x0.f4, (Lit.int .u8 x1).wf = true)) : true = true := rfl
end Go.Proofs.Ytnaefndclalepaa.Net
