import Derived.Test.YtcmnofbpcmnnhaaDoorOpen
import Derived.Test.YtcmnofbpcmnnhaaDoorF0
namespace Go.Proofs.YtcmnofbpcmnnhaaDoor.F
open Go.RowKit Go.Proofs.YtcmnofbpcmnnhaaDoorW.PrintWords
set_option linter.unusedVariables false
def ok26 (x : S26) : Prop := (x.f0.size ≤ 9223372036854775807) ∧ (True)
def sz26 (x : S26) : Prop := (x.f0.size ≤ 140737488351232) ∧ (True)
def bk26 (x : S26) : Nat := ((fun s_ => s_.size + 1) x.f0 + (fun _ => 1) x.f1) + 1
theorem opn26 : Opening.Opn Tryd.prog 26 k26 ok26 sz26 bk26 := by
  have h := Opening.opn_struct (fun x : S26 => (x.f0, x.f1)) (fun p_ => (⟨p_.1, p_.2⟩ : S26)) (fun _ => rfl) Tryd.underlying26 (by kernel_rfl) (Opening.opnFs_cons rfl (by kernel_rfl) (Opening.opn_string Tryd.underlying9) (Opening.opnFs_last rfl (by kernel_rfl) (Opening.opn_bool Tryd.underlying4)))
  exact h
def ok44 (x : S44) : Prop := ((Lit.int .i64 x.f0).wf = true) ∧ ((Lit.int .i64 x.f1).wf = true)
def sz44 (x : S44) : Prop := (True) ∧ (True)
def bk44 (x : S44) : Nat := ((fun _ => 1) x.f0 + (fun _ => 1) x.f1) + 1
theorem opn44 : Opening.Opn Tryd.prog 44 k44 ok44 sz44 bk44 := by
  have h := Opening.opn_struct (fun x : S44 => (x.f0, x.f1)) (fun p_ => (⟨p_.1, p_.2⟩ : S44)) (fun _ => rfl) Tryd.underlying44 (by kernel_rfl) (Opening.opnFs_cons rfl (by kernel_rfl) (Opening.opn_int Tryd.underlying3) (Opening.opnFs_last rfl (by kernel_rfl) (Opening.opn_int Tryd.underlying3)))
  exact h
end Go.Proofs.YtcmnofbpcmnnhaaDoor.F
