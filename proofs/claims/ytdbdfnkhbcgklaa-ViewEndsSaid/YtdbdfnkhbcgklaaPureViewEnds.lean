/-
  The pure statement of ViewEnds: no line of a view is bare but the last one, and that just if its item is; the places rise, and IDs are those of the items there.
-/
import Derived.Test.YtdbdfnkhbcgklaaVUViewEnds
import Derived.Test.YtdbdfnkhbcgklaaVPMore
namespace Go.Proofs.Ytdbdfnkhbcgklaa.Pure
open Go.RowKit Go.Proofs.Ytdbdfnkhbcgklaa Go.Proofs.Ytdbdfnkhbcgklaa.V Go.Proofs.YtdbdfnkhbcgklaaW.PrintWords Go.Proofs.YtdbdfnkhbcgklaaW.PrintLast Go.Proofs.YtdbdfnkhbcgklaaW.PrintMore
theorem ends_j2 (l : List It) (o : Lb) (h : ByteArray) (I : List Int) (i j : Nat) (hs : l.length ≤ 2513169434916) (hi : i < (its l o).length) (hj : j < l.length) (hx : (its l o)[i]? = some (rd_T63 l (j : Int)))
    (hgo : Ev (fun k => jalousielaw05_ViewEnds.l0 k l I (wrap64 ((i : Int) + 1)) o.f0 o.f1 (lns l o h) (rv l o l.length)) true) :
    Ev (fun k => jalousielaw05_ViewEnds.j2 k l I (i : Int) (j : Int) false o.f0 o.f1 (lns l o h) (rv l o l.length)) true := by
  have h1 := rv_its l o
  have h3 := lns_len l o h
  have h5 := its_len l o
  have he : rd_T60 (lns l o h) (i : Int) = ⟨if (rd_T63 l (j : Int)).f2 = true then h else (rd_T63 l (j : Int)).f3.f0, decide (i + 1 = (its l o).length) && (rd_T63 l (j : Int)).f3.f1⟩ := by
    rw [rd_ln]
    exact getD_some (ended_get h (its l o) i _ hx) _
  refine ev_succ ?_
  simp only [jalousielaw05_ViewEnds.j2]
  rw [w64i ((rv l o l.length).length - 1) (by omega) (by omega)]
  refine ev_neg (by decide) ?_
  (repeat (first | refine ev_pos (by omega) ?_ | refine ev_neg (by omega) ?_))
  rw [he]
  by_cases h6 : i + 1 = (its l o).length
  · (repeat (first | refine ev_pos (by omega) ?_ | refine ev_neg (by omega) ?_))
    refine ev_neg (by simp [h6]) ?_
    exact hgo
  · (repeat (first | refine ev_pos (by omega) ?_ | refine ev_neg (by omega) ?_))
    refine ev_neg (by simp [h6]) ?_
    exact hgo
theorem ends_l0 (l : List It) (o : Lb) (h : ByteArray) (hl : ∀ y ∈ l, ok63 y) (ho : ok25 o) (hs : l.length ≤ 2513169434916) :
    ∀ d i : Nat, i + d = (its l o).length → Ev (fun k => jalousielaw05_ViewEnds.l0 k l ((rv l o l.length).map (idat l)) (i : Int) o.f0 o.f1 (lns l o h) (rv l o l.length)) true
  | 0, i, hd => by
    have h1 := rv_its l o
    refine ev_succ ?_
    simp only [jalousielaw05_ViewEnds.l0]
    (repeat (first | refine ev_pos (by omega) ?_ | refine ev_neg (by omega) ?_))
    exact Ev.bind live_ev (ev_some rfl)
  | d + 1, i, hd => by
    have h1 := rv_its l o
    have h5 := its_len l o
    have ih := ends_l0 l o h hl ho hs d (i + 1) (by omega)
    obtain ⟨j, hj, hr, hjl, hv, hn, hx⟩ := rv_get (l := l) (o := o) (n := i) (by omega)
    rw [← w64s i (by omega)] at ih
    have h2 := ends_j2 l o h _ i j hs (by omega) hjl hx ih
    have hb := below_ev (hl _ (rd_it_mem hjl)).2.1 ho
    rw [show bel (rd_T63 l (j : Int)).f1 o = true from hv] at hb
    have hid : rd ((rv l o l.length).map (idat l)) (i : Int) = (rd_T63 l (j : Int)).f0 := by
      rw [rdn] at hr ⊢
      have h7 : (rv l o l.length)[i]? = some (j : Int) := by
        rw [List.getElem?_eq_getElem (by omega), ← getD_lt (by omega) 0, hr]
      rw [getD_some (x := idat l (j : Int)) (by rw [List.getElem?_map, h7]; rfl)]
      exact if_pos ⟨by omega, by omega⟩
    have hln : ((rv l o l.length).map (idat l)).length = (rv l o l.length).length := List.length_map _
    refine ev_succ ?_
    simp only [jalousielaw05_ViewEnds.l0]
    rw [hr, hid]
    (repeat (first | refine ev_pos (by omega) ?_ | refine ev_neg (by omega) ?_))
    by_cases h0 : 0 < i
    · obtain ⟨j2, hj2, hr2, hjl2, hv2, hn2, hx2⟩ := rv_get (l := l) (o := o) (n := i - 1) (by omega)
      have hlt : j2 < j := by
        rcases Nat.lt_or_ge j2 j with h7 | h7
        · exact h7
        · have := revs_mono l o h7
          omega
      rw [w64i ((i : Int) - 1) (by omega) (by omega), show (i : Int) - 1 = ((i - 1 : Nat) : Int) by omega, hr2]
      (repeat (first | refine ev_pos (by omega) ?_ | refine ev_neg (by omega) ?_))
      exact Ev.bind hb h2
    · (repeat (first | refine ev_pos (by omega) ?_ | refine ev_neg (by omega) ?_))
      exact Ev.bind hb h2
theorem ViewEnds : jalousielaw05_ViewEnds.Pure := by
  intro l o h hl ho _ hs _ _
  have hs1 : l.length ≤ 2513169434916 := by have := hs.1; omega
  have h1 := rv_its l o
  have h3 := lns_len l o h
  have h5 := its_len l o
  have hln : ((rv l o l.length).map (idat l)).length = (rv l o l.length).length := List.length_map _
  refine Ev.rounds (r := true) ?_
  refine ev_bind (of_f l o h hs1) ?_
  refine Ev.bind (ids_ev l (lns l o h) (rv l o l.length) (by omega)) ?_
  dsimp only
  (repeat (first | refine ev_pos (by omega) ?_ | refine ev_neg (by omega) ?_))
  refine ev_succ ?_
  simp only [jalousielaw05_ViewEnds.j0]
  refine ev_neg (by simp) ?_
  exact ends_l0 l o h hl ho hs1 _ 0 (Nat.zero_add _)
end Go.Proofs.Ytdbdfnkhbcgklaa.Pure
