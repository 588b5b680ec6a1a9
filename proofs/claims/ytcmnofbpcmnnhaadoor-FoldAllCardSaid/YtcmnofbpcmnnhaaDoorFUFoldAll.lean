import Derived.Test.YtcmnofbpcmnnhaaDoorFSt
import Derived.Test.YtcmnofbpcmnnhaaDoorF38
namespace Go.Proofs.YtcmnofbpcmnnhaaDoor.F
open Go.RowKit Go.Proofs.YtcmnofbpcmnnhaaDoorW.PrintWords Go.Proofs.YtcmnofbpcmnnhaaDoorW.PrintLast Go.Proofs.YtcmnofbpcmnnhaaDoorW.PrintMore
set_option linter.unusedVariables false
/-- THE PURE STATEMENT of FoldAll. -/
def jalousielaw41_FoldAll.Pure : Prop := ∀ (l0 : (List S26)) (a1 : Int) (a2 : Int), (∀ y_ ∈ l0, ok26 y_) → ((Lit.int .u8 a1).wf = true) → ((Lit.int .u8 a2).wf = true) → (l0.length * 24 ≤ 140737488351232 ∧ ∀ y_ ∈ l0, sz26 y_) → (True) → (True) → ∃ k, jalousielaw41_FoldAll.f k l0 a1 a2 = some true
/-- The same within the second form's bound. -/
def jalousielaw41_FoldAll.PureUpto : Prop := ∀ (l0 : (List S26)) (a1 : Int) (a2 : Int), (∀ y_ ∈ l0, ok26 y_) → ((Lit.int .u8 a1).wf = true) → ((Lit.int .u8 a2).wf = true) → (fun l_ => (l_.map bk26).sum + 1) l0 + (fun _ => 1) a1 + (fun _ => 1) a2 ≤ 1048576 → ∃ k, jalousielaw41_FoldAll.f k l0 a1 a2 = some true
end Go.Proofs.YtcmnofbpcmnnhaaDoor.F
