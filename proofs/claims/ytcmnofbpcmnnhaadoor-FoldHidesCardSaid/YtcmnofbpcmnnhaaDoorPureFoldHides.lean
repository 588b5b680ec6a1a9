/-
  The pure statement of FoldHides: the lines that are shown, and printed, or why there are none.
-/
import Derived.Test.YtcmnofbpcmnnhaaDoorFUFoldHides
import Derived.Test.YtcmnofbpcmnnhaaDoorFPFull
namespace Go.Proofs.YtcmnofbpcmnnhaaDoor.Pure
open Go.RowKit Go.Proofs.YtcmnofbpcmnnhaaDoor Go.Proofs.YtcmnofbpcmnnhaaDoor.F Go.Proofs.YtcmnofbpcmnnhaaDoorW.PrintWords Go.Proofs.YtcmnofbpcmnnhaaDoorW.PrintLast Go.Proofs.YtcmnofbpcmnnhaaDoorW.PrintMore
theorem live_ev : Ev (fun k => jalousielaw41_live.f k) true := by
  refine Ev.of (fun k => jalousielaw41_live.mono k) (k := 40) ?_
  decide +kernel
theorem FoldHides : jalousielaw41_FoldHides.Pure := by
  intro l0 a l2 _ _ _ _ _ _
  refine Ev.rounds ?_
  unfold jalousielaw41_FoldHides.f
  obtain ⟨S, hS, hk⟩ := few_ev l0
  refine Ev.bind hS ?_
  have hm : 0 ≤ mn (l2.length : Int) 60 ∧ mn (l2.length : Int) 60 ≤ (l2.length : Int) ∧ mn (l2.length : Int) 60 ≤ 60 := by
    unfold mn
    split <;> omega
  (repeat (first | refine ev_pos (by omega) ?_ | refine ev_neg (by omega) ?_))
  have hF : (l2.take (mn (l2.length : Int) 60 : Int).toNat).length ≤ 60 := by rw [List.length_take]; omega
  have hH := hid_len S hk a
  refine ev_bind rfl ?_
  refine Ev.bind (hide_any S hk a) ?_
  refine Ev.bind (ref_hide_any S hk a) ?_
  refine Ev.bind (print_ev S hk _ hF) ?_
  refine Ev.bind (ref_print_ev S hk _ hF) ?_
  refine Ev.bind (print_ev S hk _ hH) ?_
  refine Ev.bind (ref_print_ev S hk _ hH) ?_
  refine Ev.bind live_ev ?_
  refine ev_pos rfl ?_
  refine Ev.bind (same_ev _ hH) ?_
  refine ev_pos rfl ?_
  refine ev_pos rfl ?_
  refine ev_pos rfl ?_
  refine ev_pos rfl ?_
  refine ev_pos rfl ?_
  exact ev_some (beq_self_eq_true _)
end Go.Proofs.YtcmnofbpcmnnhaaDoor.Pure
