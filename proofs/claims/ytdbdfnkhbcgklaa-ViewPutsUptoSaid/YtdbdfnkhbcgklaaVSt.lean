import Derived.Test.YtdbdfnkhbcgklaaOpen
import Derived.Test.YtdbdfnkhbcgklaaV0
namespace Go.Proofs.Ytdbdfnkhbcgklaa.V
open Go.RowKit Go.Proofs.YtdbdfnkhbcgklaaW.PrintWords
set_option linter.unusedVariables false
def ok25 (x : S25) : Prop := ((Lit.int .i64 x.f0).wf = true) ∧ ((Lit.int .u64 x.f1).wf = true)
def sz25 (x : S25) : Prop := (True) ∧ (True)
def bk25 (x : S25) : Nat := ((fun _ => 1) x.f0 + (fun _ => 1) x.f1) + 1
theorem opn25 : Opening.Opn Try.prog 25 k25 ok25 sz25 bk25 := by
  have h := Opening.opn_struct (fun x : S25 => (x.f0, x.f1)) (fun p_ => (⟨p_.1, p_.2⟩ : S25)) (fun _ => rfl) Try.underlying25 (by kernel_rfl) (Opening.opnFs_cons rfl (by kernel_rfl) (Opening.opn_int Try.underlying3) (Opening.opnFs_last rfl (by kernel_rfl) (Opening.opn_int Try.underlying23)))
  exact h
def ok60 (x : S60) : Prop := (x.f0.size ≤ 9223372036854775807) ∧ (True)
def sz60 (x : S60) : Prop := (x.f0.size ≤ 140737488351232) ∧ (True)
def bk60 (x : S60) : Nat := ((fun s_ => s_.size + 1) x.f0 + (fun _ => 1) x.f1) + 1
theorem opn60 : Opening.Opn Try.prog 60 k60 ok60 sz60 bk60 := by
  have h := Opening.opn_struct (fun x : S60 => (x.f0, x.f1)) (fun p_ => (⟨p_.1, p_.2⟩ : S60)) (fun _ => rfl) Try.underlying60 (by kernel_rfl) (Opening.opnFs_cons rfl (by kernel_rfl) (Opening.opn_string Try.underlying9) (Opening.opnFs_last rfl (by kernel_rfl) (Opening.opn_bool Try.underlying4)))
  exact h
def ok63 (x : S63) : Prop := ((Lit.int .i64 x.f0).wf = true) ∧ (ok25 x.f1) ∧ (True) ∧ (ok60 x.f3)
def sz63 (x : S63) : Prop := (True) ∧ (sz25 x.f1) ∧ (True) ∧ (sz60 x.f3)
def bk63 (x : S63) : Nat := ((fun _ => 1) x.f0 + (bk25 x.f1 + ((fun _ => 1) x.f2 + bk60 x.f3))) + 1
theorem opn63 : Opening.Opn Try.prog 63 k63 ok63 sz63 bk63 := by
  have h := Opening.opn_struct (fun x : S63 => (x.f0, (x.f1, (x.f2, x.f3)))) (fun p_ => (⟨p_.1, p_.2.1, p_.2.2.1, p_.2.2.2⟩ : S63)) (fun _ => rfl) Try.underlying63 (by kernel_rfl) (Opening.opnFs_cons rfl (by kernel_rfl) (Opening.opn_int Try.underlying3) (Opening.opnFs_cons rfl (by kernel_rfl) opn25 (Opening.opnFs_cons rfl (by kernel_rfl) (Opening.opn_bool Try.underlying4) (Opening.opnFs_last rfl (by kernel_rfl) opn60))))
  exact h
def ok42 (x : S42) : Prop := (∀ y_ ∈ x.f0, ok60 y_) ∧ (∀ y_ ∈ x.f1, (Lit.int .i64 y_).wf = true)
def sz42 (x : S42) : Prop := (x.f0.length * 24 ≤ 140737488351232 ∧ ∀ y_ ∈ x.f0, sz60 y_) ∧ (x.f1.length * 8 ≤ 140737488351232 ∧ ∀ y_ ∈ x.f1, True)
def bk42 (x : S42) : Nat := ((fun l_ => (l_.map bk60).sum + 1) x.f0 + (fun l_ => (l_.map (fun _ => 1)).sum + 1) x.f1) + 1
theorem opn42 : Opening.Opn Try.prog 42 k42 ok42 sz42 bk42 := by
  have h := Opening.opn_struct (fun x : S42 => (x.f0, x.f1)) (fun p_ => (⟨p_.1, p_.2⟩ : S42)) (fun _ => rfl) Try.underlying42 (by kernel_rfl) (Opening.opnFs_cons rfl (by kernel_rfl) (Opening.opn_slice 24 Try.underlying40 (by kernel_rfl) (by kernel_rfl) opn60) (Opening.opnFs_last rfl (by kernel_rfl) (Opening.opn_slice 8 Try.underlying27 (by kernel_rfl) (by kernel_rfl) (Opening.opn_int Try.underlying3))))
  exact h
end Go.Proofs.Ytdbdfnkhbcgklaa.V
