import Derived.Test.YtdbdfnkhbcgklaaRSt
import Derived.Test.YtdbdfnkhbcgklaaR23
namespace Go.Proofs.Ytdbdfnkhbcgklaa.R
open Go.RowKit Go.Proofs.YtdbdfnkhbcgklaaW.PrintWords Go.Proofs.YtdbdfnkhbcgklaaW.PrintLast Go.Proofs.YtdbdfnkhbcgklaaW.PrintMore
set_option linter.unusedVariables false
/-- THE PURE STATEMENT of RemapAdds. -/
def jalousielaw17_RemapAdds.Pure : Prop := ∀ (l0 : (List S25)) (x1 : S25) (x2 : S25), (∀ y_ ∈ l0, ok25 y_) → (ok25 x1) → (ok25 x2) → (l0.length * 16 ≤ 140737488351232 ∧ ∀ y_ ∈ l0, sz25 y_) → (sz25 x1) → (sz25 x2) → ∃ k, jalousielaw17_RemapAdds.f k l0 x1.f0 x1.f1 x2.f0 x2.f1 = some true
/-- The same within the second form's bound. -/
def jalousielaw17_RemapAdds.PureUpto : Prop := ∀ (l0 : (List S25)) (x1 : S25) (x2 : S25), (∀ y_ ∈ l0, ok25 y_) → (ok25 x1) → (ok25 x2) → (fun l_ => (l_.map bk25).sum + 1) l0 + bk25 x1 + bk25 x2 ≤ 1048576 → ∃ k, jalousielaw17_RemapAdds.f k l0 x1.f0 x1.f1 x2.f0 x2.f1 = some true
end Go.Proofs.Ytdbdfnkhbcgklaa.R
