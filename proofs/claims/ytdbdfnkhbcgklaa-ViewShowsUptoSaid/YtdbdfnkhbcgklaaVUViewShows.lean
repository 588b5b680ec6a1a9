import Derived.Test.YtdbdfnkhbcgklaaVSt
import Derived.Test.YtdbdfnkhbcgklaaV24
namespace Go.Proofs.Ytdbdfnkhbcgklaa.V
open Go.RowKit Go.Proofs.YtdbdfnkhbcgklaaW.PrintWords Go.Proofs.YtdbdfnkhbcgklaaW.PrintLast Go.Proofs.YtdbdfnkhbcgklaaW.PrintMore
set_option linter.unusedVariables false
/-- THE PURE STATEMENT of ViewShows. -/
def jalousielaw05_ViewShows.Pure : Prop := ∀ (l0 : (List S63)) (x1 : S25) (a2 : ByteArray), (∀ y_ ∈ l0, ok63 y_) → (ok25 x1) → (a2.size ≤ 9223372036854775807) → (l0.length * 56 ≤ 140737488351232 ∧ ∀ y_ ∈ l0, sz63 y_) → (sz25 x1) → (a2.size ≤ 140737488351232) → ∃ k, jalousielaw05_ViewShows.f k l0 x1.f0 x1.f1 a2 = some true
/-- The same within the second form's bound. -/
def jalousielaw05_ViewShows.PureUpto : Prop := ∀ (l0 : (List S63)) (x1 : S25) (a2 : ByteArray), (∀ y_ ∈ l0, ok63 y_) → (ok25 x1) → (a2.size ≤ 9223372036854775807) → (fun l_ => (l_.map bk63).sum + 1) l0 + bk25 x1 + (fun s_ => s_.size + 1) a2 ≤ 1048576 → ∃ k, jalousielaw05_ViewShows.f k l0 x1.f0 x1.f1 a2 = some true
end Go.Proofs.Ytdbdfnkhbcgklaa.V
