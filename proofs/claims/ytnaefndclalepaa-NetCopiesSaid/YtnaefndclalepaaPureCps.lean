/- What the row of NetCopies asks of the law's plain side: bytes are no more than may be. -/
import Derived.Test.YtnaefndclalepaaCps
namespace Go.Proofs.Ytnaefndclalepaa.Net
open Go.Proofs.Ytnaefndclalepaa.XN
theorem NetCopiesP (a0 : Int) (l1 l2 : List S41) (_ : (Lit.int .i64 a0).wf = true) (g : l1.length ≤ maxLen ∧ ∀ x0 ∈ l1, ((Lit.int .i64 x0.f0).wf = true ∧ ((Lit.int .i64 x0.f1).wf = true ∧ ((Lit.int .i64 x0.f2).wf = true ∧ ((Lit.int .i64 x0.f3).wf = true ∧ (x0.f4.length ≤ maxLen ∧ ∀ x1 ∈ x0.f4, (Lit.int .u8 x1).wf = true)))))) (g2 : l2.length ≤ maxLen ∧ ∀ x0 ∈ l2, ((Lit.int .i64 x0.f0).wf = true ∧ ((Lit.int .i64 x0.f1).wf = true ∧ ((Lit.int .i64 x0.f2).wf = true ∧ ((Lit.int .i64 x0.f3).wf = true ∧ (x0.f4.length ≤ maxLen ∧ ∀ x1 ∈ x0.f4, (Lit.int .u8 x1).wf = true)))))) : (∀ x, x ∈ l1 → x.f4.length ≤ maxLen) ∧ (∀ x, x ∈ l2 → x.f4.length ≤ maxLen) ∧ true = true :=
  ⟨fun x hx => (g.2 x hx).2.2.2.2.1, fun x hx => (g2.2 x hx).2.2.2.2.1, rfl⟩
end Go.Proofs.Ytnaefndclalepaa.Net
