import Derived.Test.YtcmnofbpcmnnhaaDoorFSt
import Derived.Test.YtcmnofbpcmnnhaaDoorFJ38
namespace Go.Proofs.YtcmnofbpcmnnhaaDoor.F
open Go.RowKit Go.Proofs.YtcmnofbpcmnnhaaDoorW.PrintWords Go.Proofs.YtcmnofbpcmnnhaaDoorW.PrintLast Go.Proofs.YtcmnofbpcmnnhaaDoorW.PrintMore
set_option linter.unusedVariables false
/-- THE PURE STATEMENT of FoldHides. -/
def jalousielaw41_FoldHides.Pure : Prop := ∀ (l0 : (List S26)) (a1 : Int) (l2 : (List S44)), (∀ y_ ∈ l0, ok26 y_) → ((Lit.int .i64 a1).wf = true) → (∀ y_ ∈ l2, ok44 y_) → (l0.length * 24 ≤ 140737488351232 ∧ ∀ y_ ∈ l0, sz26 y_) → (True) → (l2.length * 16 ≤ 140737488351232 ∧ ∀ y_ ∈ l2, sz44 y_) → ∃ k, jalousielaw41_FoldHides.f k l0 a1 l2 = some true
/-- The same within the second form's bound. -/
def jalousielaw41_FoldHides.PureUpto : Prop := ∀ (l0 : (List S26)) (a1 : Int) (l2 : (List S44)), (∀ y_ ∈ l0, ok26 y_) → ((Lit.int .i64 a1).wf = true) → (∀ y_ ∈ l2, ok44 y_) → (fun l_ => (l_.map bk26).sum + 1) l0 + (fun _ => 1) a1 + (fun l_ => (l_.map bk44).sum + 1) l2 ≤ 1048576 → ∃ k, jalousielaw41_FoldHides.f k l0 a1 l2 = some true
end Go.Proofs.YtcmnofbpcmnnhaaDoor.F
