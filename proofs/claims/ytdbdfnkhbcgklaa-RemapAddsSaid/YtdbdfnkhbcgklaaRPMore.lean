/-
  PLAIN: more on the places of what one sees.
-/
import Derived.Test.YtdbdfnkhbcgklaaRPRemap
namespace Go.Proofs.Ytdbdfnkhbcgklaa.R
open Go.RowKit Go.Proofs.YtdbdfnkhbcgklaaW.PrintWords Go.Proofs.YtdbdfnkhbcgklaaW.PrintLast Go.Proofs.YtdbdfnkhbcgklaaW.PrintMore
set_option linter.unusedVariables false
set_option linter.unusedSimpArgs false
theorem fnd_some : ∀ (l : List Int) (a : Int) (i j : Nat), fnd l a i = some j → ∃ n, j = i + n ∧ l[n]? = some a
  | [], a, i, j, h => by simp [fnd] at h
  | x :: xs, a, i, j, h => by
    unfold fnd at h
    split at h
    · rename_i e
      obtain rfl := Option.some.inj h
      exact ⟨0, rfl, by simp [e]⟩
    · obtain ⟨n, rfl, hn⟩ := fnd_some xs a (i + 1) j h
      exact ⟨n + 1, by omega, by simpa using hn⟩
theorem fnd_at : ∀ (l : List Int) (a : Int) (i n : Nat), l[n]? = some a → (∀ m, m < n → l[m]? ≠ some a) → fnd l a i = some (i + n)
  | [], a, i, n, h, _ => by simp at h
  | x :: xs, a, i, 0, h, _ => by
    have : x = a := by simpa using h
    unfold fnd
    rw [if_pos this]
    rfl
  | x :: xs, a, i, n + 1, h, hm => by
    have h0 := hm 0 (by omega)
    unfold fnd
    rw [if_neg (by simpa using h0), fnd_at xs a (i + 1) n (by simpa using h) (fun m hlt => by simpa using hm (m + 1) (by omega))]
    congr 1
    omega
/-- The n-th of those seen: what is ahead of it are n. -/
theorem revs_get (l : List Lb) (o : Lb) : ∀ (m n j : Nat), (remap_seen.revs l o m)[n]? = some j → j < m ∧ bel (rd_T25 l (j : Int)) o = true ∧ (remap_seen.revs l o j).length = n
  | 0, n, j, h => by simp [remap_seen.revs] at h
  | m + 1, n, j, h => by
    cases hb : remap_seen.bel (rd_T25 l (m : Int)) o with
    | false =>
      rw [remap_seen.revs_miss hb] at h
      obtain ⟨h1, h2, h3⟩ := revs_get l o m n j h
      exact ⟨by omega, h2, h3⟩
    | true =>
      rw [remap_seen.revs_hit hb] at h
      rcases Nat.lt_or_ge n (remap_seen.revs l o m).length with h4 | h4
      · rw [List.getElem?_append_left h4] at h
        obtain ⟨h1, h2, h3⟩ := revs_get l o m n j h
        exact ⟨by omega, h2, h3⟩
      · have h5 := (List.getElem?_eq_some_iff.1 h).1
        rw [List.length_append, List.length_singleton] at h5
        have h6 : n = (remap_seen.revs l o m).length := by omega
        subst h6
        rw [List.getElem?_append_right (Nat.le_refl _), Nat.sub_self] at h
        have : m = j := by simpa using h
        subst this
        exact ⟨by omega, hb, rfl⟩
theorem revs_at (l : List Lb) (o : Lb) (j : Nat) (hb : bel (rd_T25 l (j : Int)) o = true) : ∀ m, j < m → (remap_seen.revs l o m)[(remap_seen.revs l o j).length]? = some j
  | 0, h => by omega
  | m + 1, h => by
    rcases Nat.lt_or_ge j m with h1 | h1
    · have ih := revs_at l o j hb m h1
      cases hm : remap_seen.bel (rd_T25 l (m : Int)) o with
      | false => rw [remap_seen.revs_miss hm]; exact ih
      | true =>
        rw [remap_seen.revs_hit hm, List.getElem?_append_left (List.getElem?_eq_some_iff.1 ih).1]
        exact ih
    · obtain rfl : j = m := by omega
      rw [remap_seen.revs_hit hb, List.getElem?_append_right (Nat.le_refl _), Nat.sub_self]
      rfl
/-- Own of what one sees. -/
theorem own_seen (l : List Lb) (o : Lb) (j : Nat) (hj : j < l.length) (hb : bel (rd_T25 l (j : Int)) o = true) : own l o (j : Int) = ((((remap_seen.revs l o j).length : Nat) : Int), true) := by
  unfold own
  rw [fnd_at (rv l o l.length) (j : Int) 0 (remap_seen.revs l o j).length (by unfold rv; rw [List.getElem?_map, revs_at l o j hb _ hj]; rfl) (fun m hm he => by
    unfold rv at he
    rw [List.getElem?_map] at he
    obtain ⟨x, hx, e⟩ := Option.map_eq_some_iff.1 he
    have : x = j := by omega
    subst this
    have := (revs_get l o _ _ _ hx).2.2
    omega)]
  simp
theorem own_some {l : List Lb} {o : Lb} {n : Int} (h : (own l o n).2 = true) : ∃ j : Nat, n = j ∧ j < l.length ∧ bel (rd_T25 l (j : Int)) o = true := by
  unfold own at h
  cases hf : fnd (rv l o l.length) n 0 with
  | none => rw [hf] at h; simp at h
  | some j =>
    obtain ⟨m, _, hm⟩ := fnd_some _ _ _ _ hf
    unfold rv at hm
    rw [List.getElem?_map] at hm
    obtain ⟨x, hx, e⟩ := Option.map_eq_some_iff.1 hm
    obtain ⟨h1, h2, _⟩ := revs_get l o _ _ _ hx
    exact ⟨x, e.symm, h1, h2⟩
theorem full_some {l : List Lb} {o : Lb} {n : Int} (h : (full l o n).2 = true) : ∃ j : Nat, (full l o n).1 = j ∧ j < l.length ∧ bel (rd_T25 l (j : Int)) o = true ∧ n = ((remap_seen.revs l o j).length : Nat) := by
  unfold full at h ⊢
  split at h
  · rename_i hc
    rw [if_pos hc]
    rw [rv_len] at hc
    obtain ⟨x, hx⟩ : ∃ x, (remap_seen.revs l o l.length)[n.toNat]? = some x := ⟨_, List.getElem?_eq_getElem (by omega)⟩
    obtain ⟨h1, h2, h3⟩ := revs_get l o _ _ _ hx
    refine ⟨x, ?_, h1, h2, by omega⟩
    unfold rd rv
    rw [List.getD_eq_getElem?_getD, List.getElem?_map, hx]
    rfl
  · cases h
theorem full_own (l : List Lb) (o : Lb) (j : Nat) (hj : j < l.length) (hb : bel (rd_T25 l (j : Int)) o = true) : full l o (((remap_seen.revs l o j).length : Nat) : Int) = ((j : Int), true) := by
  have h := revs_at l o j hb _ hj
  have h1 := (List.getElem?_eq_some_iff.1 h).1
  unfold full
  rw [rv_len, if_pos ⟨by omega, by omega⟩]
  unfold rd rv
  rw [Int.toNat_natCast, List.getD_eq_getElem?_getD, List.getElem?_map, h]
  rfl
theorem revs_more (l : List Lb) (o q : Lb) (h : ∀ j, j < l.length → bel (rd_T25 l (j : Int)) o = true → bel (rd_T25 l (j : Int)) q = true) : ∀ m, m ≤ l.length → (remap_seen.revs l o m).length ≤ (remap_seen.revs l q m).length
  | 0, _ => by simp [remap_seen.revs]
  | m + 1, hm => by
    have ih := revs_more l o q h m (by omega)
    cases hb : remap_seen.bel (rd_T25 l (m : Int)) o with
    | false =>
      rw [remap_seen.revs_miss hb]
      cases hq : remap_seen.bel (rd_T25 l (m : Int)) q with
      | false => rw [remap_seen.revs_miss hq]; exact ih
      | true => rw [remap_seen.revs_hit hq, List.length_append]; omega
    | true =>
      rw [remap_seen.revs_hit hb, remap_seen.revs_hit (h m (by omega) hb), List.length_append, List.length_append]
      simpa using ih
end Go.Proofs.Ytdbdfnkhbcgklaa.R
