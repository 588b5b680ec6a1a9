import Derived.Test.YtdbdfnkhbcgklaaRSt
import Derived.Test.YtdbdfnkhbcgklaaR11
namespace Go.Proofs.Ytdbdfnkhbcgklaa.R
open Go.RowKit Go.Proofs.YtdbdfnkhbcgklaaW.PrintWords Go.Proofs.YtdbdfnkhbcgklaaW.PrintLast Go.Proofs.YtdbdfnkhbcgklaaW.PrintMore
set_option linter.unusedVariables false
/-- THE PURE STATEMENT of RemapBlind. -/
def jalousielaw17_RemapBlind.Pure : Prop := ∀ (l0 : (List S25)) (x1 : S25) (a2 : Int), (∀ y_ ∈ l0, ok25 y_) → (ok25 x1) → ((Lit.int .i64 a2).wf = true) → (l0.length * 16 ≤ 140737488351232 ∧ ∀ y_ ∈ l0, sz25 y_) → (sz25 x1) → (True) → ∃ k, jalousielaw17_RemapBlind.f k l0 x1.f0 x1.f1 a2 = some true
/-- The same within the second form's bound. -/
def jalousielaw17_RemapBlind.PureUpto : Prop := ∀ (l0 : (List S25)) (x1 : S25) (a2 : Int), (∀ y_ ∈ l0, ok25 y_) → (ok25 x1) → ((Lit.int .i64 a2).wf = true) → (fun l_ => (l_.map bk25).sum + 1) l0 + bk25 x1 + (fun _ => 1) a2 ≤ 1048576 → ∃ k, jalousielaw17_RemapBlind.f k l0 x1.f0 x1.f1 a2 = some true
end Go.Proofs.Ytdbdfnkhbcgklaa.R
