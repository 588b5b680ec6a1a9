/-
  PLAIN: what one sees of items: the places, the items, the lines.
-/
import Derived.Test.YtdbdfnkhbcgklaaEvs
import Derived.Test.YtdbdfnkhbcgklaaVPBelow
import Derived.Test.YtdbdfnkhbcgklaaV6
import Derived.Test.YtdbdfnkhbcgklaaV13
import Derived.Test.YtdbdfnkhbcgklaaV17
namespace Go.Proofs.Ytdbdfnkhbcgklaa.V
open Go.RowKit Go.Proofs.YtdbdfnkhbcgklaaW.PrintWords Go.Proofs.YtdbdfnkhbcgklaaW.PrintLast Go.Proofs.YtdbdfnkhbcgklaaW.PrintMore
set_option linter.unusedVariables false
set_option linter.unusedSimpArgs false
abbrev Lb := S25
abbrev It := S63
abbrev Ln := S60
theorem rd_it (l : List It) (i : Nat) : rd_T63 l (i : Int) = l.getD i z63 := by simp [rd_T63]
theorem rd_ln (l : List Ln) (i : Nat) : rd_T60 l (i : Int) = l.getD i z60 := by simp [rd_T60]
theorem rd_it_mem {l : List It} {i : Nat} (h : i < l.length) : rd_T63 l (i : Int) ∈ l := by
  rw [rd_it, getD_lt h]
  exact List.getElem_mem h
/-- Does one see an item? -/
def vis (o : Lb) (x : It) : Bool := bel x.f1 o
/-- The items that one sees. -/
def its (l : List It) (o : Lb) : List It := l.filter (vis o)
theorem take_filter (l : List It) (o : Lb) (n : Nat) (h : n < l.length) : (l.take (n + 1)).filter (vis o) = if vis o (rd_T63 l (n : Int)) = true then (l.take n).filter (vis o) ++ [rd_T63 l (n : Int)] else (l.take n).filter (vis o) := by
  rw [take_snoc l n h z63, List.filter_append, rd_it]
  generalize l.getD n z63 = x
  split
  · rename_i h1
    simp [List.filter_cons, h1]
  · rename_i h1
    simp [List.filter_cons, h1]
theorem its_revs (l : List It) (o : Lb) : ∀ n, n ≤ l.length → ((view_seen.revs l o n).map fun (j : Nat) => rd_T63 l (j : Int)) = (l.take n).filter (vis o)
  | 0, _ => by simp [view_seen.revs]
  | n + 1, h => by
    rw [take_filter l o n (by omega), ← its_revs l o n (by omega)]
    cases hb : view_seen.bel (rd_T63 l (n : Int)).f1 o with
    | true =>
      have hv : vis o (rd_T63 l (n : Int)) = true := hb
      rw [view_seen.revs_hit hb, if_pos hv, List.map_append]
      rfl
    | false =>
      have hv : vis o (rd_T63 l (n : Int)) = false := hb
      rw [view_seen.revs_miss hb, if_neg (by rw [hv]; decide)]
theorem its_all (l : List It) (o : Lb) : ((view_seen.revs l o l.length).map fun (j : Nat) => rd_T63 l (j : Int)) = its l o := by
  rw [its_revs l o _ (Nat.le_refl _), List.take_length]
  rfl
/-- The places, as Go's numbers. -/
def rv (l : List It) (o : Lb) (n : Nat) : List Int := (view_seen.revs l o n).map fun (j : Nat) => (j : Int)
theorem rv_len (l : List It) (o : Lb) (n : Nat) : (rv l o n).length = (view_seen.revs l o n).length := by simp [rv]
theorem rv_le (l : List It) (o : Lb) (n : Nat) : (rv l o n).length ≤ n := by rw [rv_len]; exact view_seen.revs_le l o n
theorem rv_its (l : List It) (o : Lb) : (rv l o l.length).length = (its l o).length := by
  rw [rv_len, ← its_all l o, List.length_map]
theorem rv_succ (l : List It) (o : Lb) (n : Nat) : rv l o (n + 1) = if vis o (rd_T63 l (n : Int)) = true then rv l o n ++ [(n : Int)] else rv l o n := by
  unfold rv
  split
  · rename_i h
    rw [view_seen.revs_hit h]
    simp
  · rename_i h
    rw [view_seen.revs_miss (by rw [← Bool.not_eq_true]; exact h)]
/-- The n-th of those seen: what is ahead of it are n. -/
theorem revs_get (l : List It) (o : Lb) : ∀ (m n j : Nat), (view_seen.revs l o m)[n]? = some j → j < m ∧ vis o (rd_T63 l (j : Int)) = true ∧ (view_seen.revs l o j).length = n
  | 0, n, j, h => by simp [view_seen.revs] at h
  | m + 1, n, j, h => by
    cases hb : view_seen.bel (rd_T63 l (m : Int)).f1 o with
    | false =>
      rw [view_seen.revs_miss hb] at h
      obtain ⟨h1, h2, h3⟩ := revs_get l o m n j h
      exact ⟨by omega, h2, h3⟩
    | true =>
      rw [view_seen.revs_hit hb] at h
      rcases Nat.lt_or_ge n (view_seen.revs l o m).length with h4 | h4
      · rw [List.getElem?_append_left h4] at h
        obtain ⟨h1, h2, h3⟩ := revs_get l o m n j h
        exact ⟨by omega, h2, h3⟩
      · have h5 := (List.getElem?_eq_some_iff.1 h).1
        rw [List.length_append, List.length_singleton] at h5
        have h6 : n = (view_seen.revs l o m).length := by omega
        subst h6
        rw [List.getElem?_append_right (Nat.le_refl _), Nat.sub_self] at h
        have : m = j := by simpa using h
        subst this
        exact ⟨by omega, hb, rfl⟩
theorem revs_at (l : List It) (o : Lb) (j : Nat) (hb : vis o (rd_T63 l (j : Int)) = true) : ∀ m, j < m → (view_seen.revs l o m)[(view_seen.revs l o j).length]? = some j
  | 0, h => by omega
  | m + 1, h => by
    rcases Nat.lt_or_ge j m with h1 | h1
    · have ih := revs_at l o j hb m h1
      cases hm : view_seen.bel (rd_T63 l (m : Int)).f1 o with
      | false => rw [view_seen.revs_miss hm]; exact ih
      | true =>
        rw [view_seen.revs_hit hm, List.getElem?_append_left (List.getElem?_eq_some_iff.1 ih).1]
        exact ih
    · obtain rfl : j = m := by omega
      rw [view_seen.revs_hit hb, List.getElem?_append_right (Nat.le_refl _), Nat.sub_self]
      rfl
theorem revs_mono (l : List It) (o : Lb) {i j : Nat} (h : i ≤ j) : (view_seen.revs l o i).length ≤ (view_seen.revs l o j).length := by
  induction j with
  | zero => obtain rfl : i = 0 := by omega
            exact Nat.le_refl _
  | succ j ih =>
    rcases Nat.lt_or_ge j i with h1 | h1
    · obtain rfl : i = j + 1 := by omega
      exact Nat.le_refl _
    · have := ih h1
      cases hm : view_seen.bel (rd_T63 l (j : Int)).f1 o with
      | false => rw [view_seen.revs_miss hm]; exact this
      | true => rw [view_seen.revs_hit hm, List.length_append]; omega
/-- The n-th place, and the n-th item. -/
theorem rv_get {l : List It} {o : Lb} {n : Nat} (h : n < (its l o).length) : ∃ j : Nat, (view_seen.revs l o l.length)[n]? = some j ∧ rd (rv l o l.length) (n : Int) = (j : Int) ∧ j < l.length ∧ vis o (rd_T63 l (j : Int)) = true ∧ (view_seen.revs l o j).length = n ∧ (its l o)[n]? = some (rd_T63 l (j : Int)) := by
  have h' : n < (view_seen.revs l o l.length).length := by rw [← rv_len, rv_its]; exact h
  obtain ⟨j, hj⟩ : ∃ j, (view_seen.revs l o l.length)[n]? = some j := ⟨_, List.getElem?_eq_getElem h'⟩
  obtain ⟨h1, h2, h3⟩ := revs_get l o _ _ _ hj
  refine ⟨j, hj, ?_, h1, h2, h3, ?_⟩
  · rw [rdn]
    unfold rv
    rw [List.getD_eq_getElem?_getD, List.getElem?_map, hj]
    rfl
  · rw [← its_all l o, List.getElem?_map, hj]
    rfl
/-- The lines that one sees. -/
def lns (l : List It) (o : Lb) (h : ByteArray) : List Ln := view_Of.ended h (its l o)
theorem ended_len (h : ByteArray) (xs : List It) : (view_Of.ended h xs).length = xs.length := by
  unfold view_Of.ended
  cases hx : xs.getLast? with
  | none =>
    have : xs = [] := by simpa using hx
    simp [this]
  | some y => simp [view_Of.lines]
theorem ended_get (h : ByteArray) (xs : List It) (i : Nat) (x : It) (hi : xs[i]? = some x) : (view_Of.ended h xs)[i]? = some ⟨if x.f2 = true then h else x.f3.f0, decide (i + 1 = xs.length) && x.f3.f1⟩ := by
  have hlt := (List.getElem?_eq_some_iff.1 hi).1
  unfold view_Of.ended
  cases hx : xs.getLast? with
  | none =>
    have : xs = [] := by simpa using hx
    subst this
    simp at hi
  | some y =>
    rw [List.getLast?_eq_getElem?] at hx
    by_cases he : i + 1 = xs.length
    · have e : xs.length - 1 = i := by omega
      rw [e] at hx
      rw [hx] at hi
      have := Option.some.inj hi
      subst this
      simp only
      rw [e, List.getElem?_set_self (by simp [view_Of.lines]; exact hlt)]
      simp [view_Of.ln, he]
    · simp only
      rw [List.getElem?_set_ne (by omega)]
      simp [view_Of.lines, hi, view_Of.ln, he]
theorem of_f (l : List It) (o : Lb) (h : ByteArray) (hs : l.length ≤ 2513169434916) : view_Of.f l o.f0 o.f1 h = some (lns l o h, rv l o l.length) := by
  unfold view_Of.f
  rw [if_pos hs]
  show some (view_Of.ended h ((view_seen.revs l o l.length).map fun (j : Nat) => rd_T63 l (j : Int)), _) = _
  rw [its_all]
  rfl
theorem cut_f (l : List It) (o : Lb) (hs : l.length ≤ 2513169434916) : view_Cut.f l o.f0 o.f1 = some (its l o) := by
  unfold view_Cut.f
  rw [if_pos hs]
  show some ((view_seen.revs l o l.length).map fun (j : Nat) => rd_T63 l (j : Int)) = _
  rw [its_all]
theorem lns_len (l : List It) (o : Lb) (h : ByteArray) : (lns l o h).length = (its l o).length := ended_len h _
theorem its_len (l : List It) (o : Lb) : (its l o).length ≤ l.length := List.length_filter_le _ _
theorem live_ev : Ev (fun k => jalousielaw05_live.f k) true := by
  refine Ev.of (fun k => jalousielaw05_live.mono k) (k := 12) ?_
  decide +kernel
end Go.Proofs.Ytdbdfnkhbcgklaa.V
