/-
  The pure statement of ViewBlind: what one may not read plays no part: of the items that one may read the view has the same lines.
-/
import Derived.Test.YtdbdfnkhbcgklaaVUViewBlind
import Derived.Test.YtdbdfnkhbcgklaaVPMore
namespace Go.Proofs.Ytdbdfnkhbcgklaa.Pure
open Go.RowKit Go.Proofs.Ytdbdfnkhbcgklaa Go.Proofs.Ytdbdfnkhbcgklaa.V Go.Proofs.YtdbdfnkhbcgklaaW.PrintWords Go.Proofs.YtdbdfnkhbcgklaaW.PrintLast Go.Proofs.YtdbdfnkhbcgklaaW.PrintMore
theorem its_its (l : List It) (o : Lb) : its (its l o) o = its l o := by
  unfold its
  rw [List.filter_filter]
  simp
theorem ViewBlind : jalousielaw05_ViewBlind.Pure := by
  intro l m o h hl hm ho _ hs hs' _ _
  have hs1 : l.length ≤ 2513169434916 := by have := hs.1; omega
  have hs2 : m.length ≤ 2513169434916 := by have := hs'.1; omega
  have h1 := rv_its l o
  have h3 := lns_len l o h
  have h5 := its_len l o
  refine Ev.rounds (r := true) ?_
  refine ev_bind (of_f l o h hs1) ?_
  refine ev_bind (cut_f l o hs1) ?_
  refine ev_bind (of_f (its l o) o h (by omega)) ?_
  dsimp only
  have e : lns (its l o) o h = lns l o h := by unfold lns; rw [its_its]
  rw [e]
  refine Ev.bind (same_ev (lns l o h) (by omega)) ?_
  refine ev_pos rfl ?_
  refine ev_succ ?_
  simp only [jalousielaw05_ViewBlind.j0]
  have e2 : (((rv l o l.length).length : Int) != ((lns l o h).length : Int)) = false := by
    rw [bne_eq_false_iff_eq]
    omega
  rw [e2]
  refine ev_neg (by decide) ?_
  refine Ev.bind (ref_cut_ev hl ho hs1) ?_
  refine Ev.bind (ref_cut_ev hm ho hs2) ?_
  obtain ⟨b, hb, hev⟩ := si_ev (its l o) (its m o) (by omega)
  refine Ev.bind hev ?_
  cases b with
  | false =>
    refine ev_neg (by decide) ?_
    exact Ev.bind live_ev (ev_some rfl)
  | true =>
    refine ev_pos rfl ?_
    refine Ev.bind live_ev ?_
    refine ev_pos rfl ?_
    refine ev_bind (of_f m o h hs2) ?_
    dsimp only
    have e3 : lns m o h = lns l o h := by unfold lns; rw [hb.1 rfl]
    rw [e3]
    exact Ev.bind (same_ev (lns l o h) (by omega)) (ev_some rfl)
end Go.Proofs.Ytdbdfnkhbcgklaa.Pure
