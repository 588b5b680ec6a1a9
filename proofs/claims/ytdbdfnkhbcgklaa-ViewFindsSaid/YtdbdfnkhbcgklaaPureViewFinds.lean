/-
  The pure statement of ViewFinds: where a place stands in a view, where an item is put in, and IDs by places.
-/
import Derived.Test.YtdbdfnkhbcgklaaVUViewFinds
import Derived.Test.YtdbdfnkhbcgklaaVPMore
namespace Go.Proofs.Ytdbdfnkhbcgklaa.Pure
open Go.RowKit Go.Proofs.Ytdbdfnkhbcgklaa Go.Proofs.Ytdbdfnkhbcgklaa.V Go.Proofs.YtdbdfnkhbcgklaaW.PrintWords Go.Proofs.YtdbdfnkhbcgklaaW.PrintLast Go.Proofs.YtdbdfnkhbcgklaaW.PrintMore
/-- Where a number first stands. -/
def fnd : List Int → Int → Nat → Option Nat
  | [], _, _ => none
  | x :: xs, a, i => if x = a then some i else fnd xs a (i + 1)
theorem index_l0 (l : List Int) (a : Int) (hs : l.length ≤ 9000000000000000000) : ∀ (d i : Nat), i + d = l.length → Ev (fun k => slices_Index_int_int.l0 k l a (l.length : Int) (i : Int)) (((fnd (l.drop i) a i).map fun (j : Nat) => (j : Int)).getD (-1))
  | 0, i, h => by
    obtain rfl : i = l.length := by omega
    refine ev_succ ?_
    simp only [slices_Index_int_int.l0]
    (repeat (first | refine ev_pos (by omega) ?_ | refine ev_neg (by omega) ?_))
    rw [List.drop_length]
    exact ev_some rfl
  | d + 1, i, h => by
    have ih := index_l0 l a hs d (i + 1) (by omega)
    refine ev_succ ?_
    simp only [slices_Index_int_int.l0]
    rw [drop_cons l i (by omega) 0, rdn, w64s i (by omega)]
    unfold fnd
    (repeat (first | refine ev_pos (by omega) ?_ | refine ev_neg (by omega) ?_))
    by_cases h1 : a = l.getD i 0
    · rw [if_pos h1.symm]
      exact ev_pos h1 (ev_some rfl)
    · rw [if_neg (fun e => h1 e.symm)]
      exact ev_neg h1 ih
/-- The answer of Find. -/
def found (l : List Int) (a : Int) (i : Nat) (k : Int × Bool) : Int × Bool := ((fnd (l.drop i) a i).map fun (j : Nat) => ((j : Int), true)).getD k
theorem find_ev (L : List Ln) (l : List Int) (a : Int) (hs : l.length ≤ 9000000000000000000) : Ev (fun k => view_Find.f k L l a) (found l a 0 (0, false)) := by
  unfold view_Find.f slices_Index_int_int.f
  refine Ev.bind (index_l0 l a hs l.length 0 (by omega)) ?_
  unfold found
  cases fnd (l.drop 0) a 0 with
  | none => exact ev_pos (by simp) (ev_some rfl)
  | some j => exact ev_neg (by simp) (ev_some rfl)
/-- The answer of After. -/
def aft (l : List Int) (n : Int) : Int × Int := if n < 0 ∨ n > (l.length : Int) ∨ (n > 0 ∧ (rd l (n - 1) < 0 ∨ rd l (n - 1) ≥ 1073741824)) then (0, 2) else if n = 0 then (0, 0) else (rd l (n - 1) + 1, 0)
theorem after_ev (L : List Ln) (l : List Int) (n : Int) (hs : l.length ≤ 9000000000000000000) : Ev (fun k => view_After.f k L l n) (aft l n) := by
  unfold view_After.f aft
  by_cases h0 : n < 0
  · (repeat (first | refine ev_pos (by omega) ?_ | refine ev_neg (by omega) ?_))
    refine ev_succ ?_
    simp only [view_After.j0]
    refine ev_pos (by first | trivial | rfl) ?_
    exact ev_some (by rw [if_pos (.inl h0)])
  · (repeat (first | refine ev_pos (by omega) ?_ | refine ev_neg (by omega) ?_))
    refine ev_succ ?_
    simp only [view_After.j0]
    by_cases h1 : n > (l.length : Int)
    · refine ev_pos (by simpa using h1) ?_
      exact ev_some (by rw [if_pos (.inr (.inl h1))])
    · refine ev_neg (by simpa using h1) ?_
      by_cases h2 : n = 0
      · (repeat (first | refine ev_pos (by omega) ?_ | refine ev_neg (by omega) ?_))
        exact ev_some (by rw [if_neg (by omega), if_pos h2])
      · rw [w64i (n - 1) (by omega) (by omega)]
        (repeat (first | refine ev_pos (by omega) ?_ | refine ev_neg (by omega) ?_))
        by_cases h3 : rd l (n - 1) < 0
        · (repeat (first | refine ev_pos (by omega) ?_ | refine ev_neg (by omega) ?_))
          exact ev_some (by rw [if_pos (by omega)])
        · (repeat (first | refine ev_pos (by omega) ?_ | refine ev_neg (by omega) ?_))
          by_cases h4 : rd l (n - 1) ≥ 1073741824
          · (repeat (first | refine ev_pos (by omega) ?_ | refine ev_neg (by omega) ?_))
            exact ev_some (by rw [if_pos (by omega)])
          · (repeat (first | refine ev_pos (by omega) ?_ | refine ev_neg (by omega) ?_))
            exact ev_some (by rw [if_neg (by omega), if_neg h2, w64i _ (by omega) (by omega)])
theorem finds_j2 (l : List It) (L : List Ln) (B : List Int) (i at_ e : Int) (b : Bool) (hl : l.length ≤ 9000000000000000000) (hs : B.length ≤ 17592186044416) : Ev (fun k => jalousielaw05_ViewFinds.j2 k l i b i b at_ e at_ e L B) true := by
  refine ev_succ ?_
  simp only [jalousielaw05_ViewFinds.j2]
  refine Ev.bind live_ev ?_
  refine ev_pos (by first | trivial | rfl) ?_
  refine ev_pos (by first | trivial | rfl) ?_
  refine ev_pos (by simp) ?_
  refine ev_pos (by first | trivial | rfl) ?_
  refine ev_pos (by first | trivial | rfl) ?_
  refine Ev.bind (ids_ev l L B hs) ?_
  refine Ev.bind (ref_ids_ev l L B hl hs) ?_
  exact Ev.bind (ints_ev _ (by rw [List.length_map]; omega)) (ev_some rfl)
theorem finds_end (l : List It) (L : List Ln) (B : List Int) (n i : Int) (b : Bool) (hl : l.length ≤ 9000000000000000000) (hs : B.length ≤ 17592186044416) : Ev (fun k => jalousielaw05_ViewFinds.l0 k l n i b i b (-1) L B) true := by
  refine ev_succ ?_
  simp only [jalousielaw05_ViewFinds.l0]
  (repeat (first | refine ev_pos (by omega) ?_ | refine ev_neg (by omega) ?_))
  refine Ev.bind (after_ev L B n (by omega)) ?_
  unfold aft
  by_cases h0 : n < 0
  · (repeat (first | refine ev_pos (by omega) ?_ | refine ev_neg (by omega) ?_))
    rw [if_pos (.inl h0)]
    refine ev_succ ?_
    simp only [jalousielaw05_ViewFinds.j1]
    refine ev_pos trivial ?_
    exact finds_j2 l L B i 0 2 b hl hs
  · (repeat (first | refine ev_pos (by omega) ?_ | refine ev_neg (by omega) ?_))
    by_cases h1 : n > (B.length : Int)
    · (repeat (first | refine ev_pos (by omega) ?_ | refine ev_neg (by omega) ?_))
      rw [if_pos (.inr (.inl h1))]
      refine ev_succ ?_
      simp only [jalousielaw05_ViewFinds.j1]
      refine ev_pos trivial ?_
      exact finds_j2 l L B i 0 2 b hl hs
    · (repeat (first | refine ev_pos (by omega) ?_ | refine ev_neg (by omega) ?_))
      by_cases h2 : n > 0
      · rw [w64i (n - 1) (by omega) (by omega)]
        (repeat (first | refine ev_pos (by omega) ?_ | refine ev_neg (by omega) ?_))
        by_cases h3 : rd B (n - 1) < 0
        · (repeat (first | refine ev_pos (by omega) ?_ | refine ev_neg (by omega) ?_))
          rw [if_pos (by omega)]
          refine ev_succ ?_
          simp only [jalousielaw05_ViewFinds.j1]
          refine ev_pos trivial ?_
          exact finds_j2 l L B i 0 2 b hl hs
        · (repeat (first | refine ev_pos (by omega) ?_ | refine ev_neg (by omega) ?_))
          refine ev_succ ?_
          simp only [jalousielaw05_ViewFinds.j1]
          rw [w64i (n - 1) (by omega) (by omega)]
          by_cases h4 : rd B (n - 1) ≥ 1073741824
          · rw [if_pos (by omega)]
            refine ev_pos (by simpa using h4) ?_
            exact finds_j2 l L B i 0 2 b hl hs
          · rw [if_neg (by omega), if_neg (by omega), w64i (rd B (n - 1) + 1) (by omega) (by omega)]
            refine ev_neg (by simpa using h4) ?_
            (repeat (first | refine ev_pos (by omega) ?_ | refine ev_neg (by omega) ?_))
            exact finds_j2 l L B i _ 0 b hl hs
      · (repeat (first | refine ev_pos (by omega) ?_ | refine ev_neg (by omega) ?_))
        rw [if_neg (by omega), if_pos (by omega)]
        refine ev_succ ?_
        simp only [jalousielaw05_ViewFinds.j1]
        refine ev_neg (by decide) ?_
        (repeat (first | refine ev_pos (by omega) ?_ | refine ev_neg (by omega) ?_))
        exact finds_j2 l L B i 0 0 b hl hs
theorem finds_l0 (l : List It) (L : List Ln) (B : List Int) (n i : Int) (b : Bool) (hl : l.length ≤ 9000000000000000000) (hs : B.length ≤ 17592186044416) (hib : found B n 0 (0, false) = (i, b)) :
    ∀ (c : Nat) (p : Int × Bool), c ≤ B.length → p = found B n c (0, false) → Ev (fun k => jalousielaw05_ViewFinds.l0 k l n i b p.1 p.2 ((c : Int) - 1) L B) true
  | 0, p, _, hp => by
    obtain rfl := hp
    rw [hib]
    exact finds_end l L B n i b hl hs
  | c + 1, p, hc, hp => by
    have ih := finds_l0 l L B n i b hl hs hib c (found B n c (0, false)) (by omega) rfl
    refine ev_succ ?_
    simp only [jalousielaw05_ViewFinds.l0]
    rw [show ((c + 1 : Nat) : Int) - 1 = (c : Int) by omega, w64i ((c : Int) - 1) (by omega) (by omega), rdn]
    (repeat (first | refine ev_pos (by omega) ?_ | refine ev_neg (by omega) ?_))
    unfold found at ih
    rw [drop_cons B c (by omega) 0] at ih
    unfold fnd at ih
    by_cases h1 : B.getD c 0 = n
    · rw [if_pos h1] at ih
      exact ev_pos h1 ih
    · rw [if_neg h1] at ih
      refine ev_neg h1 ?_
      obtain rfl := hp
      exact ih
theorem ViewFinds : jalousielaw05_ViewFinds.Pure := by
  intro v l n hv hl hn hs hs' _
  have hs1 : l.length ≤ 2513169434916 := by have := hs'.1; omega
  have hs2 : v.f1.length ≤ 17592186044416 := by have := hs.2.1; omega
  refine Ev.rounds (r := true) ?_
  unfold jalousielaw05_ViewFinds.f
  refine Ev.bind (find_ev v.f0 v.f1 n (by omega)) ?_
  rw [w64i _ (by omega) (by omega)]
  have := finds_l0 l v.f0 v.f1 n (found v.f1 n 0 (0, false)).1 (found v.f1 n 0 (0, false)).2 (by omega) hs2 rfl v.f1.length (0, false) (Nat.le_refl _) (by unfold found; rw [List.drop_length]; rfl)
  exact this
end Go.Proofs.Ytdbdfnkhbcgklaa.Pure
