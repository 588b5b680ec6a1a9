-- PRINTED by print.py (a twelfth state) out of the translation. Not trusted: Lean checks it.
import Derived.Test.YtcmnofbpcmnnhaaDoorShelf
import Derived.RangeFuncNested
import Derived.RangeFuncBound
import Derived.RangeFuncCalls
import Derived.RangeFuncLeaves
import Derived.RangeFuncBox
import Derived.RangeFuncMany
import Derived.Shelf.Abstract
import Derived.OwnWalkIn
import Derived.TacticsInMore
import Derived.LoopNIn
import Derived.LoopIn
import Derived.Test.YtcmnofbpcmnnhaaDoorF0
namespace Go.Proofs.YtcmnofbpcmnnhaaDoor.F
open Go.RowKit Go.Proofs.YtcmnofbpcmnnhaaDoorW.PrintWords Go.Proofs.YtcmnofbpcmnnhaaDoorW.PrintLast Go.Proofs.YtcmnofbpcmnnhaaDoorW.PrintMore
attribute [local go_sem] max2_int min2_int max_two min_two max_three min_three max_four min_four   -- for this text's walks alone
set_option linter.unusedVariables false
set_option linter.unusedSimpArgs false

/-! ### fold_bare: function 42 (by hand) -/
/-- Has a text nothing but blanks and tabs? -/
def fold_bare.f (a0 : ByteArray) : Option Bool := if a0.size ≤ 9223372036854775807 then some (decide (Lib.trimS a0.data.toList [32, 9] = [])) else none
theorem fold_bare.eq (l : List UInt8) : (⟨l.toArray⟩ : ByteArray).toList.isEmpty = decide (l = []) := by
  rw [ByteArray.toList_mk]
  cases l <;> rfl
theorem fold_bare.calls (a0 : ByteArray) (r : Bool) (w : World) (h : fold_bare.f a0 = some r) :
    Calls Tryd.prog 42 #[.string a0] w fun e w' => e = .returned (.bool r) ∧ Below w.heap.size w w' := by
  unfold fold_bare.f at h
  split at h
  · rename_i hs
    obtain rfl := Option.some.inj h
    clear h
    have hcon := Tryd.strings_Trim_laid a0 ⟨#[32, 9]⟩ w hs (by decide) (ascii_of_all (by decide))
    change Calls Tryd.prog 66 _ _ (fun e w' => e = .returned (.string ⟨(Lib.trimS a0.data.toList [32, 9]).toArray⟩) ∧ Below w.heap.size w w') at hcon
    have HE := Aside0.mk (fold_bare.eq (Lib.trimS a0.data.toList [32, 9]))
    generalize Lib.trimS a0.data.toList [32, 9] = l at hcon HE ⊢
    generalize hb : decide (l = []) = b at HE ⊢
    clear hb
    obtain ⟨s, hs'⟩ : ∃ s : ByteArray, (⟨l.toArray⟩ : ByteArray) = s := ⟨_, rfl⟩
    rw [hs'] at hcon HE
    clear hs'
    go_enter Tryd.func42, Tryd.ntmps42
    go_wp2_with (go_at_call 66; refine hcon.mono ?_; rintro e w' ⟨rfl, hB⟩; have he := HE.out)
    go_ret
    exact ⟨rfl, hB⟩
  · cases h


end Go.Proofs.YtcmnofbpcmnnhaaDoor.F
