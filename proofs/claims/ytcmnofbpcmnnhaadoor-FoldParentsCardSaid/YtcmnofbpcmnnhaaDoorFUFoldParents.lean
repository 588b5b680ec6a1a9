import Derived.Test.YtcmnofbpcmnnhaaDoorFSt
import Derived.Test.YtcmnofbpcmnnhaaDoorF31
namespace Go.Proofs.YtcmnofbpcmnnhaaDoor.F
open Go.RowKit Go.Proofs.YtcmnofbpcmnnhaaDoorW.PrintWords Go.Proofs.YtcmnofbpcmnnhaaDoorW.PrintLast Go.Proofs.YtcmnofbpcmnnhaaDoorW.PrintMore
set_option linter.unusedVariables false
/-- THE PURE STATEMENT of FoldParents. -/
def jalousielaw41_FoldParents.Pure : Prop := ∀ (l0 : (List S26)), (∀ y_ ∈ l0, ok26 y_) → (l0.length * 24 ≤ 140737488351232 ∧ ∀ y_ ∈ l0, sz26 y_) → ∃ k, jalousielaw41_FoldParents.f k l0 = some true
/-- The same within the second form's bound. -/
def jalousielaw41_FoldParents.PureUpto : Prop := ∀ (l0 : (List S26)), (∀ y_ ∈ l0, ok26 y_) → (fun l_ => (l_.map bk26).sum + 1) l0 ≤ 1048576 → ∃ k, jalousielaw41_FoldParents.f k l0 = some true
end Go.Proofs.YtcmnofbpcmnnhaaDoor.F
