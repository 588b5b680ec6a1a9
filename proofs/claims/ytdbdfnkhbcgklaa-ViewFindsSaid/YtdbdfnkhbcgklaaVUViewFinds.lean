import Derived.Test.YtdbdfnkhbcgklaaVSt
import Derived.Test.YtdbdfnkhbcgklaaV25
namespace Go.Proofs.Ytdbdfnkhbcgklaa.V
open Go.RowKit Go.Proofs.YtdbdfnkhbcgklaaW.PrintWords Go.Proofs.YtdbdfnkhbcgklaaW.PrintLast Go.Proofs.YtdbdfnkhbcgklaaW.PrintMore
set_option linter.unusedVariables false
/-- THE PURE STATEMENT of ViewFinds. -/
def jalousielaw05_ViewFinds.Pure : Prop := ∀ (x0 : S42) (l1 : (List S63)) (a2 : Int), (ok42 x0) → (∀ y_ ∈ l1, ok63 y_) → ((Lit.int .i64 a2).wf = true) → (sz42 x0) → (l1.length * 56 ≤ 140737488351232 ∧ ∀ y_ ∈ l1, sz63 y_) → (True) → ∃ k, jalousielaw05_ViewFinds.f k x0.f0 x0.f1 l1 a2 = some true
/-- The same within the second form's bound. -/
def jalousielaw05_ViewFinds.PureUpto : Prop := ∀ (x0 : S42) (l1 : (List S63)) (a2 : Int), (ok42 x0) → (∀ y_ ∈ l1, ok63 y_) → ((Lit.int .i64 a2).wf = true) → bk42 x0 + (fun l_ => (l_.map bk63).sum + 1) l1 + (fun _ => 1) a2 ≤ 1048576 → ∃ k, jalousielaw05_ViewFinds.f k x0.f0 x0.f1 l1 a2 = some true
end Go.Proofs.Ytdbdfnkhbcgklaa.V
