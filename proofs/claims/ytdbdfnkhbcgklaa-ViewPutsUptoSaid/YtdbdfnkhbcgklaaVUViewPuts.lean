import Derived.Test.YtdbdfnkhbcgklaaVSt
import Derived.Test.YtdbdfnkhbcgklaaV30
namespace Go.Proofs.Ytdbdfnkhbcgklaa.V
open Go.RowKit Go.Proofs.YtdbdfnkhbcgklaaW.PrintWords Go.Proofs.YtdbdfnkhbcgklaaW.PrintLast Go.Proofs.YtdbdfnkhbcgklaaW.PrintMore
set_option linter.unusedVariables false
/-- THE PURE STATEMENT of ViewPuts. -/
def jalousielaw05_ViewPuts.Pure : Prop := ∀ (l0 : (List S63)) (x1 : S25) (a2 : Int) (a3 : ByteArray) (x4 : S25), (∀ y_ ∈ l0, ok63 y_) → (ok25 x1) → ((Lit.int .u8 a2).wf = true) → (a3.size ≤ 9223372036854775807) → (ok25 x4) → (l0.length * 56 ≤ 140737488351232 ∧ ∀ y_ ∈ l0, sz63 y_) → (sz25 x1) → (True) → (a3.size ≤ 140737488351232) → (sz25 x4) → ∃ k, jalousielaw05_ViewPuts.f k l0 x1.f0 x1.f1 a2 a3 x4.f0 x4.f1 = some true
/-- The same within the second form's bound. -/
def jalousielaw05_ViewPuts.PureUpto : Prop := ∀ (l0 : (List S63)) (x1 : S25) (a2 : Int) (a3 : ByteArray) (x4 : S25), (∀ y_ ∈ l0, ok63 y_) → (ok25 x1) → ((Lit.int .u8 a2).wf = true) → (a3.size ≤ 9223372036854775807) → (ok25 x4) → (fun l_ => (l_.map bk63).sum + 1) l0 + bk25 x1 + (fun _ => 1) a2 + (fun s_ => s_.size + 1) a3 + bk25 x4 ≤ 1048576 → ∃ k, jalousielaw05_ViewPuts.f k l0 x1.f0 x1.f1 a2 a3 x4.f0 x4.f1 = some true
end Go.Proofs.Ytdbdfnkhbcgklaa.V
