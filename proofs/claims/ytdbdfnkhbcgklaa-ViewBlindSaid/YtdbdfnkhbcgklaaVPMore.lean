/-
  PLAIN: IDs by places, and comparisons: the program's answers and the document's.
-/
import Derived.Test.YtdbdfnkhbcgklaaVPBase
import Derived.Test.YtdbdfnkhbcgklaaV12
import Derived.Test.YtdbdfnkhbcgklaaV21
import Derived.Test.YtdbdfnkhbcgklaaV3
import Derived.Test.YtdbdfnkhbcgklaaV23
import Derived.Test.YtdbdfnkhbcgklaaV18
import Derived.Test.YtdbdfnkhbcgklaaV22
namespace Go.Proofs.Ytdbdfnkhbcgklaa.V
open Go.RowKit Go.Proofs.YtdbdfnkhbcgklaaW.PrintWords Go.Proofs.YtdbdfnkhbcgklaaW.PrintLast Go.Proofs.YtdbdfnkhbcgklaaW.PrintMore
set_option linter.unusedVariables false
set_option linter.unusedSimpArgs false
/-- The ID at a place. -/
def idat (l : List It) (a : Int) : Int := if 0 ≤ a ∧ a < (l.length : Int) then (rd_T63 l a).f0 else 0
theorem ids_l0 (l : List It) (B : List Int) (hs : B.length ≤ 17592186044416) : ∀ d i : Nat, i + d = B.length → Ev (fun k => view_IDs.l0 k l ((B.take i).map (idat l)) B (B.length : Int) (i : Int)) (B.map (idat l))
  | 0, i, h => by
    obtain rfl : i = B.length := by omega
    refine ev_succ ?_
    simp only [view_IDs.l0]
    (repeat (first | refine ev_pos (by omega) ?_ | refine ev_neg (by omega) ?_))
    exact ev_some (by rw [List.take_length])
  | d + 1, i, h => by
    have ih := ids_l0 l B hs d (i + 1) (by omega)
    have hl : ((B.take i).map (idat l)).length = i := by rw [List.length_map, List.length_take]; omega
    rw [take_snoc B i (by omega) 0, List.map_append, List.map_cons, List.map_nil] at ih
    refine ev_succ ?_
    simp only [view_IDs.l0]
    rw [w64s i (by omega), rdn]
    (repeat (first | refine ev_pos (by omega) ?_ | refine ev_neg (by omega) ?_))
    generalize B.getD i 0 = a at ih ⊢
    by_cases h0 : 0 ≤ a
    · by_cases h1 : a < (l.length : Int)
      · rw [show idat l a = _ from if_pos ⟨h0, h1⟩] at ih
        (repeat (first | refine ev_pos (by omega) ?_ | refine ev_neg (by omega) ?_))
        exact ih
      · rw [show idat l a = _ from if_neg (by omega)] at ih
        (repeat (first | refine ev_pos (by omega) ?_ | refine ev_neg (by omega) ?_))
        exact ih
    · rw [show idat l a = _ from if_neg (by omega)] at ih
      (repeat (first | refine ev_pos (by omega) ?_ | refine ev_neg (by omega) ?_))
      exact ih
theorem ids_ev (l : List It) (L : List Ln) (B : List Int) (hs : B.length ≤ 17592186044416) : Ev (fun k => view_IDs.f k l L B) (B.map (idat l)) := by
  unfold view_IDs.f
  exact ids_l0 l B hs B.length 0 (by omega)
theorem ref_ids_l1 (l : List It) (L : List Ln) (B : List Int) (out : List Int) (i : Nat) (hi : i < B.length) (hs : out.length < 17592186044416) (hl : l.length ≤ 9000000000000000000) (r : List Int)
    (hgo : Ev (fun k => jalousieref05_IDs.l0 k l (out ++ [idat l (rd B (i : Int))]) (wrap64 ((i : Int) + 1)) L B) r) :
    ∀ d j : Nat, j + d = l.length → Ev (fun k => jalousieref05_IDs.l1 k l out (i : Int) (if 0 ≤ rd B (i : Int) ∧ rd B (i : Int) < (j : Int) then (rd_T63 l (rd B (i : Int))).f0 else 0) (j : Int) L B) r
  | 0, j, h => by
    obtain rfl : j = l.length := by omega
    refine ev_succ ?_
    simp only [jalousieref05_IDs.l1]
    (repeat (first | refine ev_pos (by omega) ?_ | refine ev_neg (by omega) ?_))
    exact hgo
  | d + 1, j, h => by
    have ih := ref_ids_l1 l L B out i hi hs hl r hgo d (j + 1) (by omega)
    refine ev_succ ?_
    simp only [jalousieref05_IDs.l1]
    rw [w64s j (by omega)]
    (repeat (first | refine ev_pos (by omega) ?_ | refine ev_neg (by omega) ?_))
    by_cases h1 : (j : Int) = rd B (i : Int)
    · rw [if_pos ⟨by omega, by omega⟩, ← h1] at ih
      (repeat (first | refine ev_pos (by omega) ?_ | refine ev_neg (by omega) ?_))
      exact ih
    · refine ev_neg h1 ?_
      have e : (0 ≤ rd B (i : Int) ∧ rd B (i : Int) < ((j + 1 : Nat) : Int)) = (0 ≤ rd B (i : Int) ∧ rd B (i : Int) < (j : Int)) := propext ⟨fun g => ⟨g.1, by omega⟩, fun g => ⟨g.1, by omega⟩⟩
      simp only [e] at ih
      exact ih
theorem ref_ids_l0 (l : List It) (L : List Ln) (B : List Int) (hl : l.length ≤ 9000000000000000000) (hs : B.length ≤ 17592186044416) : ∀ d i : Nat, i + d = B.length → Ev (fun k => jalousieref05_IDs.l0 k l ((B.take i).map (idat l)) (i : Int) L B) (B.map (idat l))
  | 0, i, h => by
    obtain rfl : i = B.length := by omega
    refine ev_succ ?_
    simp only [jalousieref05_IDs.l0]
    (repeat (first | refine ev_pos (by omega) ?_ | refine ev_neg (by omega) ?_))
    exact ev_some (by rw [List.take_length])
  | d + 1, i, h => by
    have ih := ref_ids_l0 l L B hl hs d (i + 1) (by omega)
    have hln : ((B.take i).map (idat l)).length = i := by rw [List.length_map, List.length_take]; omega
    rw [take_snoc B i (by omega) 0, List.map_append, List.map_cons, List.map_nil] at ih
    refine ev_succ ?_
    simp only [jalousieref05_IDs.l0]
    (repeat (first | refine ev_pos (by omega) ?_ | refine ev_neg (by omega) ?_))
    have := ref_ids_l1 l L B ((B.take i).map (idat l)) i (by omega) (by omega) hl (B.map (idat l)) (by rw [w64s i (by omega), rdn]; exact ih) l.length 0 (by omega)
    rw [if_neg (by omega)] at this
    exact this
theorem ref_ids_ev (l : List It) (L : List Ln) (B : List Int) (hl : l.length ≤ 9000000000000000000) (hs : B.length ≤ 17592186044416) : Ev (fun k => jalousieref05_IDs.f k l L B) (B.map (idat l)) := by
  unfold jalousieref05_IDs.f
  exact ref_ids_l0 l L B hl hs B.length 0 (by omega)
theorem ints_l0 (l : List Int) (hs : l.length ≤ 9000000000000000000) : ∀ (d i : Nat), i + d = l.length → Ev (fun k => jalousieref05_Ints.l0 k l l (i : Int)) true
  | 0, i, h => by
    refine ev_succ ?_
    simp only [jalousieref05_Ints.l0]
    (repeat (first | refine ev_pos (by omega) ?_ | refine ev_neg (by omega) ?_))
    exact ev_some rfl
  | d + 1, i, h => by
    have ih := ints_l0 l hs d (i + 1) (by omega)
    refine ev_succ ?_
    simp only [jalousieref05_Ints.l0]
    rw [w64s i (by omega)]
    (repeat (first | refine ev_pos (by omega) ?_ | refine ev_neg (by omega) ?_))
    exact ih
/-- Two that are the same. -/
theorem ints_ev (l : List Int) (hs : l.length ≤ 9000000000000000000) : Ev (fun k => jalousieref05_Ints.f k l l) true := by
  unfold jalousieref05_Ints.f
  refine ev_pos rfl ?_
  exact ints_l0 l hs l.length 0 (by omega)
theorem same_l0 (l : List Ln) (hs : l.length ≤ 9000000000000000000) : ∀ (d i : Nat), i + d = l.length → Ev (fun k => jalousieref01_Same.l0 k l l (i : Int)) true
  | 0, i, h => by
    refine ev_succ ?_
    simp only [jalousieref01_Same.l0]
    (repeat (first | refine ev_pos (by omega) ?_ | refine ev_neg (by omega) ?_))
    exact ev_some rfl
  | d + 1, i, h => by
    have ih := same_l0 l hs d (i + 1) (by omega)
    refine ev_succ ?_
    simp only [jalousieref01_Same.l0]
    rw [w64s i (by omega)]
    (repeat (first | refine ev_pos (by omega) ?_ | refine ev_neg (by omega) ?_))
    refine ev_neg (by simp) ?_
    exact ih
theorem same_ev (l : List Ln) (hs : l.length ≤ 9000000000000000000) : Ev (fun k => jalousieref01_Same.f k l l) true := by
  unfold jalousieref01_Same.f
  refine ev_pos rfl ?_
  exact same_l0 l hs l.length 0 (by omega)
theorem ref_cut_l0 {l : List It} {o : Lb} (hl : ∀ y ∈ l, ok63 y) (ho : ok25 o) (hs : l.length ≤ 2513169434916) : ∀ (d i : Nat), i + d = l.length → Ev (fun k => jalousieref05_Cut.l0 k l ((l.take i).filter (vis o)) (i : Int) o.f0 o.f1) (its l o)
  | 0, i, h => by
    obtain rfl : i = l.length := by omega
    refine ev_succ ?_
    simp only [jalousieref05_Cut.l0]
    (repeat (first | refine ev_pos (by omega) ?_ | refine ev_neg (by omega) ?_))
    exact ev_some (by rw [List.take_length]; rfl)
  | d + 1, i, h => by
    have ih := ref_cut_l0 hl ho hs d (i + 1) (by omega)
    have hb := below_ev (hl _ (rd_it_mem (l := l) (i := i) (by omega))).2.1 ho
    have hlen : ((l.take i).filter (vis o)).length ≤ i := Nat.le_trans (List.length_filter_le _ _) (List.length_take_le _ _)
    rw [take_filter l o i (by omega)] at ih
    refine ev_succ ?_
    simp only [jalousieref05_Cut.l0]
    rw [w64s i (by omega)]
    (repeat (first | refine ev_pos (by omega) ?_ | refine ev_neg (by omega) ?_))
    refine Ev.bind hb ?_
    by_cases h1 : vis o (rd_T63 l (i : Int)) = true
    · rw [if_pos h1] at ih
      refine ev_pos h1 ?_
      (repeat (first | refine ev_pos (by omega) ?_ | refine ev_neg (by omega) ?_))
      exact ih
    · rw [if_neg h1] at ih
      refine ev_neg h1 ?_
      exact ih
theorem ref_cut_ev {l : List It} {o : Lb} (hl : ∀ y ∈ l, ok63 y) (ho : ok25 o) (hs : l.length ≤ 2513169434916) : Ev (fun k => jalousieref05_Cut.f k l o.f0 o.f1) (its l o) := by
  unfold jalousieref05_Cut.f
  exact ref_cut_l0 hl ho hs l.length 0 (by omega)
theorem si_l0 (l m : List It) (hlm : l.length = m.length) (hs : l.length ≤ 9000000000000000000) : ∀ (d i : Nat), i + d = l.length → (∀ j, j < i → l[j]? = m[j]?) → ∃ b : Bool, (b = true ↔ l = m) ∧ Ev (fun k => jalousielaw05_sameItems.l0 k l m (i : Int)) b
  | 0, i, h, hj => by
    have he : l = m := List.ext_getElem? fun n => by
      rcases Nat.lt_or_ge n i with h1 | h1
      · exact hj n h1
      · rw [List.getElem?_eq_none (by omega), List.getElem?_eq_none (by omega)]
    refine ⟨true, ⟨fun _ => he, fun _ => rfl⟩, ev_succ ?_⟩
    simp only [jalousielaw05_sameItems.l0]
    (repeat (first | refine ev_pos (by omega) ?_ | refine ev_neg (by omega) ?_))
    exact ev_some rfl
  | d + 1, i, h, hj => by
    by_cases h1 : l.getD i z63 = m.getD i z63
    · obtain ⟨b, hb, ih⟩ := si_l0 l m hlm hs d (i + 1) (by omega) (fun j hj2 => by
        rcases Nat.lt_or_ge j i with h2 | h2
        · exact hj j h2
        · obtain rfl : j = i := by omega
          rw [getD_lt (by omega), getD_lt (by omega)] at h1
          rw [List.getElem?_eq_getElem (by omega), List.getElem?_eq_getElem (by omega), h1])
      refine ⟨b, hb, ev_succ ?_⟩
      simp only [jalousielaw05_sameItems.l0]
      rw [w64s i (by omega)]
      (repeat (first | refine ev_pos (by omega) ?_ | refine ev_neg (by omega) ?_))
      simp only [ba_beq, rd_it]
      rw [h1]
      refine ev_neg (by simp) ?_
      exact ih
    · refine ⟨false, ⟨(fun e => by cases e), fun e => (h1 (by rw [e])).elim⟩, ev_succ ?_⟩
      simp only [jalousielaw05_sameItems.l0]
      (repeat (first | refine ev_pos (by omega) ?_ | refine ev_neg (by omega) ?_))
      simp only [ba_beq, rd_it]
      refine ev_pos ?_ (ev_some rfl)
      generalize l.getD i z63 = x at h1
      generalize m.getD i z63 = y at h1
      obtain ⟨x0, ⟨x1, x2⟩, x3, ⟨x4, x5⟩⟩ := x
      obtain ⟨y0, ⟨y1, y2⟩, y3, ⟨y4, y5⟩⟩ := y
      simp only [S63.mk.injEq, S25.mk.injEq, S60.mk.injEq, not_and] at h1
      simp only [Bool.or_eq_true, Bool.not_eq_true', beq_eq_false_iff_ne, decide_eq_false_iff_not, ne_eq]
      by_cases a0 : x0 = y0
      · by_cases a1 : x1 = y1
        · by_cases a2 : x2 = y2
          · by_cases a3 : x3 = y3
            · by_cases a4 : x4 = y4
              · exact .inr (.inr (.inr (.inr (h1 a0 ⟨a1, a2⟩ a3 a4))))
              · exact .inr (.inr (.inr (.inl a4)))
            · exact .inr (.inr (.inl a3))
          · exact .inr (.inl (.inr a2))
        · exact .inr (.inl (.inl a1))
      · exact .inl a0
theorem si_ev (l m : List It) (hs : l.length ≤ 9000000000000000000) : ∃ b : Bool, (b = true ↔ l = m) ∧ Ev (fun k => jalousielaw05_sameItems.f k l m) b := by
  unfold jalousielaw05_sameItems.f
  by_cases h : l.length = m.length
  · obtain ⟨b, hb, he⟩ := si_l0 l m h hs l.length 0 (by omega) (fun j hj => by omega)
    exact ⟨b, hb, ev_pos (by omega) he⟩
  · refine ⟨false, ⟨(fun e => by cases e), fun e => (h (by rw [e])).elim⟩, ev_neg (by omega) (ev_some rfl)⟩
end Go.Proofs.Ytdbdfnkhbcgklaa.V
