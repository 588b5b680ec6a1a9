/-
  The pure statement of FoldParents: how far lines are set in, and each line's parent.
-/
import Derived.Test.YtcmnofbpcmnnhaaDoorFUFoldParents
import Derived.Test.YtcmnofbpcmnnhaaDoorFPAll
namespace Go.Proofs.YtcmnofbpcmnnhaaDoor.Pure
open Go.RowKit Go.Proofs.YtcmnofbpcmnnhaaDoor Go.Proofs.YtcmnofbpcmnnhaaDoor.F Go.Proofs.YtcmnofbpcmnnhaaDoorW.PrintWords Go.Proofs.YtcmnofbpcmnnhaaDoorW.PrintLast Go.Proofs.YtcmnofbpcmnnhaaDoorW.PrintMore
theorem live_ev : Ev (fun k => jalousielaw41_live.f k) true := by
  refine Ev.of (fun k => jalousielaw41_live.mono k) (k := 40) ?_
  decide +kernel
theorem law_l0 (S : List Ln) (hS : few_ok S) : ∀ (d i : Nat), i + d = S.length → Ev (fun k => jalousielaw41_FoldParents.l0 k S (i : Int)) true
  | 0, i, h => by
    have hl := hS.1
    refine ev_succ ?_
    simp only [jalousielaw41_FoldParents.l0]
    (repeat (first | refine ev_pos (by omega) ?_ | refine ev_neg (by omega) ?_))
    refine Ev.bind (parents_ev S hS) ?_
    refine Ev.bind live_ev ?_
    refine ev_pos rfl ?_
    refine Ev.bind (ref_parents_ev S hS) ?_
    refine Ev.bind (ints_ev _ (by rw [pas_len]; omega)) ?_
    refine ev_pos rfl ?_
    refine Ev.bind (check_ev _ (by rw [pas_len]; omega)) ?_
    exact ev_some (by rw [ck_pas]; rfl)
  | d + 1, i, h => by
    have hl := hS.1
    have ih := law_l0 S hS d (i + 1) (by omega)
    refine ev_succ ?_
    simp only [jalousielaw41_FoldParents.l0]
    rw [w64s i (by omega), rd_ln]
    (repeat (first | refine ev_pos (by omega) ?_ | refine ev_neg (by omega) ?_))
    refine Ev.bind (inset_ev _ (few_get hS i)) ?_
    refine Ev.bind (ref_inset_ev _ (few_get hS i)) ?_
    exact ev_pos rfl ih
theorem FoldParents : jalousielaw41_FoldParents.Pure := by
  intro l0 _ _
  refine Ev.rounds ?_
  unfold jalousielaw41_FoldParents.f
  obtain ⟨S, hS, hk⟩ := few_ev l0
  refine Ev.bind hS ?_
  exact law_l0 S hk S.length 0 (by omega)
end Go.Proofs.YtcmnofbpcmnnhaaDoor.Pure
