/-
  The pure statement of RemapBlind: commits that one may not see play no part in one's numbers.
-/
import Derived.Test.YtdbdfnkhbcgklaaRURemapBlind
import Derived.Test.YtdbdfnkhbcgklaaRPMore
namespace Go.Proofs.Ytdbdfnkhbcgklaa.Pure
open Go.RowKit Go.Proofs.Ytdbdfnkhbcgklaa.R Go.Proofs.YtdbdfnkhbcgklaaW.PrintWords Go.Proofs.YtdbdfnkhbcgklaaW.PrintLast Go.Proofs.YtdbdfnkhbcgklaaW.PrintMore
/-- What one sees of the first n. -/
def few (l : List Lb) (o : Lb) (n : Nat) : List Lb := (remap_seen.revs l o n).map fun (j : Nat) => rd_T25 l (j : Int)
theorem few_len (l : List Lb) (o : Lb) (n : Nat) : (few l o n).length = (rv l o n).length := by simp [few, rv]
theorem few_succ (l : List Lb) (o : Lb) (n : Nat) : few l o (n + 1) = if bel (rd_T25 l (n : Int)) o = true then few l o n ++ [rd_T25 l (n : Int)] else few l o n := by
  unfold few
  split
  · rename_i h
    rw [remap_seen.revs_hit h]
    simp
  · rename_i h
    rw [remap_seen.revs_miss (by rw [bel_eq]; simpa using h)]
theorem few_bel {l : List Lb} {o : Lb} {n i : Nat} (h : i < (few l o n).length) : bel (rd_T25 (few l o n) (i : Int)) o = true := by
  have h' := h
  rw [few_len, rv_len] at h'
  obtain ⟨j, hj⟩ : ∃ j, (remap_seen.revs l o n)[i]? = some j := ⟨_, List.getElem?_eq_getElem h'⟩
  have h2 := (revs_get l o n i j hj).2.1
  rw [rd_lb]
  unfold few
  rw [List.getD_eq_getElem?_getD, List.getElem?_map, hj]
  exact h2
theorem all_seen {f : List Lb} {o : Lb} (h : ∀ i, i < f.length → bel (rd_T25 f (i : Int)) o = true) : ∀ n, n ≤ f.length → rv f o n = (List.range n).map fun (j : Nat) => (j : Int)
  | 0, _ => rfl
  | n + 1, hn => by rw [rv_succ, if_pos (h n (by omega)), all_seen h n (by omega), List.range_succ, List.map_append]; rfl
theorem blind_l0 {l : List Lb} {o : Lb} (hl : ∀ y ∈ l, ok25 y) (ho : ok25 o) (hs : l.length ≤ 8796093021952) (a : Int) {r : Bool} (hr : Ev (fun k => jalousielaw17_RemapBlind.l0 k l a (few l o l.length) (l.length : Int) o.f0 o.f1) r) : ∀ (d i : Nat), i + d = l.length → Ev (fun k => jalousielaw17_RemapBlind.l0 k l a (few l o i) (i : Int) o.f0 o.f1) r
  | 0, i, h => by
    obtain rfl : i = l.length := by omega
    exact hr
  | d + 1, i, h => by
    obtain ⟨K, hK⟩ := blind_l0 hl ho hs a hr d (i + 1) (by omega)
    obtain ⟨K2, hK2⟩ := below_ev (hl _ (rd_mem (l := l) (i := i) (by omega))) ho
    have hle := rv_le l o i
    rw [← few_len] at hle
    refine ⟨max K K2 + 1, fun k hk => ?_⟩
    obtain ⟨m, rfl, hm⟩ := rounds_succ' hk
    have go := hK m (by omega)
    have hb := hK2 m (by omega)
    simp only at hb go
    rw [few_succ] at go
    simp only [jalousielaw17_RemapBlind.l0]
    rw [if_pos (by omega), if_pos (by omega), hb, w64_succ i (by omega), Option.bind_some]
    split
    · rename_i h1
      rw [if_pos h1] at go
      rw [if_pos (by omega)]
      exact go
    · rename_i h1
      rw [if_neg h1] at go
      exact go
theorem RemapBlind : jalousielaw17_RemapBlind.Pure := by
  intro l o a hl ho ha hs _ _
  have hs1 : l.length ≤ 8796093021952 := by have := hs.1; omega
  have hle := rv_le l o l.length
  obtain ⟨f, hf⟩ : ∃ f, few l o l.length = f := ⟨_, rfl⟩
  have hfl : f.length = (rv l o l.length).length := by rw [← hf, few_len]
  have hfb : ∀ i, i < f.length → bel (rd_T25 f (i : Int)) o = true := fun i hi => by subst hf; exact few_bel hi
  have hfr := all_seen hfb f.length (Nat.le_refl _)
  have hfrl : (rv f o f.length).length = f.length := by rw [hfr]; simp
  obtain ⟨K1, h1⟩ := live_ev
  have hend : Ev (fun k => jalousielaw17_RemapBlind.l0 k l a (few l o l.length) (l.length : Int) o.f0 o.f1) true := by
    refine ⟨K1 + 2, fun k hk => ?_⟩
    obtain ⟨m, rfl, hm⟩ := rounds_succ' hk
    obtain ⟨q, rfl, hq⟩ := rounds_succ' hm
    have e1 := h1 q (by omega)
    simp only at e1
    rw [hf]
    simp only [jalousielaw17_RemapBlind.l0]
    rw [if_neg (by omega), seen_f l o (by omega), Option.bind_some, if_pos (by omega), seen_f f o (by omega), Option.bind_some]
    have hno : ((((rv f o f.length).length : Int) != (f.length : Int))) = false := by rw [hfrl]; simp
    rw [hno]
    simp only [jalousielaw17_RemapBlind.j1]
    rw [if_neg (by decide), full_f, Option.bind_some, full_f, Option.bind_some, e1, Option.bind_some, if_pos rfl]
    clear hno
    by_cases hc : 0 ≤ a ∧ a < (f.length : Int)
    · obtain ⟨n, rfl⟩ : ∃ n : Nat, a = n := ⟨a.toNat, by omega⟩
      have hn : n < f.length := by omega
      have g2 : full f o (n : Int) = ((n : Int), true) := by
        unfold full
        rw [hfrl, if_pos hc, rd_nat, hfr, List.getD_eq_getElem?_getD, List.getElem?_map, List.getElem?_range hn]
        rfl
      have hn2 : n < (remap_seen.revs l o l.length).length := by rw [← rv_len, ← hfl]; exact hn
      obtain ⟨j, hj⟩ : ∃ j, (remap_seen.revs l o l.length)[n]? = some j := ⟨_, List.getElem?_eq_getElem hn2⟩
      have hj2 := (revs_get l o _ _ _ hj).1
      have g1 : full l o (n : Int) = ((j : Int), true) := by
        unfold full
        rw [← hfl, if_pos hc, rd_nat]
        unfold rv
        rw [List.getD_eq_getElem?_getD, List.getElem?_map, hj]
        rfl
      have g3 : rd_T25 f (n : Int) = rd_T25 l (j : Int) := by
        rw [rd_lb, ← hf]
        unfold few
        rw [List.getD_eq_getElem?_getD, List.getElem?_map, hj]
        rfl
      rw [g1, g2]
      simp only []
      rw [if_pos (by rfl), if_pos (by omega), if_pos (by rw [decide_eq_true hc.2]; rfl), if_pos trivial, if_pos (by omega), if_pos (by omega), if_pos (by omega), if_pos (by omega), g3, if_pos (by simp)]
      simp
    · have g2 : full f o a = (0, false) := by
        unfold full
        rw [hfrl, if_neg hc]
      have g1 : full l o a = (0, false) := by
        unfold full
        rw [← hfl, if_neg hc]
      rw [g1, g2]
      simp only []
      rw [if_pos (by rfl)]
      by_cases h0 : a ≥ 0
      · rw [if_pos h0, if_pos (by rw [decide_eq_false (by omega)]; rfl), if_neg (by decide)]
      · rw [if_neg h0, if_pos (by rfl), if_neg (by decide)]
  obtain ⟨K, hK⟩ := blind_l0 hl ho hs1 a hend l.length 0 (by omega)
  exact ⟨K, hK K (Nat.le_refl _)⟩
end Go.Proofs.Ytdbdfnkhbcgklaa.Pure
