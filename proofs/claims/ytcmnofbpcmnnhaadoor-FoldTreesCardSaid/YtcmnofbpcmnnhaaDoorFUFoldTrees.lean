import Derived.Test.YtcmnofbpcmnnhaaDoorFSt
import Derived.Test.YtcmnofbpcmnnhaaDoorF43
namespace Go.Proofs.YtcmnofbpcmnnhaaDoor.F
open Go.RowKit Go.Proofs.YtcmnofbpcmnnhaaDoorW.PrintWords Go.Proofs.YtcmnofbpcmnnhaaDoorW.PrintLast Go.Proofs.YtcmnofbpcmnnhaaDoorW.PrintMore
set_option linter.unusedVariables false
/-- THE PURE STATEMENT of FoldTrees. -/
def jalousielaw41_FoldTrees.Pure : Prop := ∀ (l0 : (List Int)) (a1 : Int), (∀ y_ ∈ l0, (Lit.int .i64 y_).wf = true) → ((Lit.int .i64 a1).wf = true) → (l0.length * 8 ≤ 140737488351232 ∧ ∀ y_ ∈ l0, True) → (True) → ∃ k, jalousielaw41_FoldTrees.f k l0 a1 = some true
/-- The same within the second form's bound. -/
def jalousielaw41_FoldTrees.PureUpto : Prop := ∀ (l0 : (List Int)) (a1 : Int), (∀ y_ ∈ l0, (Lit.int .i64 y_).wf = true) → ((Lit.int .i64 a1).wf = true) → (fun l_ => (l_.map (fun _ => 1)).sum + 1) l0 + (fun _ => 1) a1 ≤ 1048576 → ∃ k, jalousielaw41_FoldTrees.f k l0 a1 = some true
end Go.Proofs.YtcmnofbpcmnnhaaDoor.F
