import Derived.Test.YtdbdfnkhbcgklaaOpen
import Derived.Test.YtdbdfnkhbcgklaaR0
namespace Go.Proofs.Ytdbdfnkhbcgklaa.R
open Go.RowKit Go.Proofs.YtdbdfnkhbcgklaaW.PrintWords
set_option linter.unusedVariables false
def ok25 (x : S25) : Prop := ((Lit.int .i64 x.f0).wf = true) ∧ ((Lit.int .u64 x.f1).wf = true)
def sz25 (x : S25) : Prop := (True) ∧ (True)
def bk25 (x : S25) : Nat := ((fun _ => 1) x.f0 + (fun _ => 1) x.f1) + 1
theorem opn25 : Opening.Opn Try.prog 25 k25 ok25 sz25 bk25 := by
  have h := Opening.opn_struct (fun x : S25 => (x.f0, x.f1)) (fun p_ => (⟨p_.1, p_.2⟩ : S25)) (fun _ => rfl) Try.underlying25 (by kernel_rfl) (Opening.opnFs_cons rfl (by kernel_rfl) (Opening.opn_int Try.underlying3) (Opening.opnFs_last rfl (by kernel_rfl) (Opening.opn_int Try.underlying23)))
  exact h
end Go.Proofs.Ytdbdfnkhbcgklaa.R
