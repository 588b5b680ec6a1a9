/-
  The pure statement of RemapBack: Own of Full is the number, Full of Own the commit; who reads more has no smaller a number.
-/
import Derived.Test.YtdbdfnkhbcgklaaRURemapBack
import Derived.Test.YtdbdfnkhbcgklaaRPRemap
import Derived.Test.YtdbdfnkhbcgklaaRPJoin
namespace Go.Proofs.Ytdbdfnkhbcgklaa.Pure
open Go.RowKit Go.Proofs.Ytdbdfnkhbcgklaa.R Go.Proofs.YtdbdfnkhbcgklaaW.PrintWords Go.Proofs.YtdbdfnkhbcgklaaW.PrintLast Go.Proofs.YtdbdfnkhbcgklaaW.PrintMore
theorem fnd_some : ∀ (l : List Int) (a : Int) (i j : Nat), fnd l a i = some j → ∃ n, j = i + n ∧ l[n]? = some a
  | [], a, i, j, h => by simp [fnd] at h
  | x :: xs, a, i, j, h => by
    unfold fnd at h
    split at h
    · rename_i e
      obtain rfl := Option.some.inj h
      exact ⟨0, rfl, by simp [e]⟩
    · obtain ⟨n, rfl, hn⟩ := fnd_some xs a (i + 1) j h
      exact ⟨n + 1, by omega, by simpa using hn⟩
theorem fnd_at : ∀ (l : List Int) (a : Int) (i n : Nat), l[n]? = some a → (∀ m, m < n → l[m]? ≠ some a) → fnd l a i = some (i + n)
  | [], a, i, n, h, _ => by simp at h
  | x :: xs, a, i, 0, h, _ => by
    have : x = a := by simpa using h
    unfold fnd
    rw [if_pos this]
    rfl
  | x :: xs, a, i, n + 1, h, hm => by
    have h0 := hm 0 (by omega)
    unfold fnd
    rw [if_neg (by simpa using h0), fnd_at xs a (i + 1) n (by simpa using h) (fun m hlt => by simpa using hm (m + 1) (by omega))]
    congr 1
    omega
/-- The n-th of those seen: what is ahead of it are n. -/
theorem revs_get (l : List Lb) (o : Lb) : ∀ (m n j : Nat), (remap_seen.revs l o m)[n]? = some j → j < m ∧ bel (rd_T25 l (j : Int)) o = true ∧ (remap_seen.revs l o j).length = n
  | 0, n, j, h => by simp [remap_seen.revs] at h
  | m + 1, n, j, h => by
    cases hb : remap_seen.bel (rd_T25 l (m : Int)) o with
    | false =>
      rw [remap_seen.revs_miss hb] at h
      obtain ⟨h1, h2, h3⟩ := revs_get l o m n j h
      exact ⟨by omega, h2, h3⟩
    | true =>
      rw [remap_seen.revs_hit hb] at h
      rcases Nat.lt_or_ge n (remap_seen.revs l o m).length with h4 | h4
      · rw [List.getElem?_append_left h4] at h
        obtain ⟨h1, h2, h3⟩ := revs_get l o m n j h
        exact ⟨by omega, h2, h3⟩
      · have h5 := (List.getElem?_eq_some_iff.1 h).1
        rw [List.length_append, List.length_singleton] at h5
        have h6 : n = (remap_seen.revs l o m).length := by omega
        subst h6
        rw [List.getElem?_append_right (Nat.le_refl _), Nat.sub_self] at h
        have : m = j := by simpa using h
        subst this
        exact ⟨by omega, hb, rfl⟩
theorem revs_at (l : List Lb) (o : Lb) (j : Nat) (hb : bel (rd_T25 l (j : Int)) o = true) : ∀ m, j < m → (remap_seen.revs l o m)[(remap_seen.revs l o j).length]? = some j
  | 0, h => by omega
  | m + 1, h => by
    rcases Nat.lt_or_ge j m with h1 | h1
    · have ih := revs_at l o j hb m h1
      cases hm : remap_seen.bel (rd_T25 l (m : Int)) o with
      | false => rw [remap_seen.revs_miss hm]; exact ih
      | true =>
        rw [remap_seen.revs_hit hm, List.getElem?_append_left (List.getElem?_eq_some_iff.1 ih).1]
        exact ih
    · obtain rfl : j = m := by omega
      rw [remap_seen.revs_hit hb, List.getElem?_append_right (Nat.le_refl _), Nat.sub_self]
      rfl
/-- Own of what one sees. -/
theorem own_seen (l : List Lb) (o : Lb) (j : Nat) (hj : j < l.length) (hb : bel (rd_T25 l (j : Int)) o = true) : own l o (j : Int) = ((((remap_seen.revs l o j).length : Nat) : Int), true) := by
  unfold own
  rw [fnd_at (rv l o l.length) (j : Int) 0 (remap_seen.revs l o j).length (by unfold rv; rw [List.getElem?_map, revs_at l o j hb _ hj]; rfl) (fun m hm he => by
    unfold rv at he
    rw [List.getElem?_map] at he
    obtain ⟨x, hx, e⟩ := Option.map_eq_some_iff.1 he
    have : x = j := by omega
    subst this
    have := (revs_get l o _ _ _ hx).2.2
    omega)]
  simp
theorem own_some {l : List Lb} {o : Lb} {n : Int} (h : (own l o n).2 = true) : ∃ j : Nat, n = j ∧ j < l.length ∧ bel (rd_T25 l (j : Int)) o = true := by
  unfold own at h
  cases hf : fnd (rv l o l.length) n 0 with
  | none => rw [hf] at h; simp at h
  | some j =>
    obtain ⟨m, _, hm⟩ := fnd_some _ _ _ _ hf
    unfold rv at hm
    rw [List.getElem?_map] at hm
    obtain ⟨x, hx, e⟩ := Option.map_eq_some_iff.1 hm
    obtain ⟨h1, h2, _⟩ := revs_get l o _ _ _ hx
    exact ⟨x, e.symm, h1, h2⟩
theorem full_some {l : List Lb} {o : Lb} {n : Int} (h : (full l o n).2 = true) : ∃ j : Nat, (full l o n).1 = j ∧ j < l.length ∧ bel (rd_T25 l (j : Int)) o = true ∧ n = ((remap_seen.revs l o j).length : Nat) := by
  unfold full at h ⊢
  split at h
  · rename_i hc
    rw [if_pos hc]
    rw [rv_len] at hc
    obtain ⟨x, hx⟩ : ∃ x, (remap_seen.revs l o l.length)[n.toNat]? = some x := ⟨_, List.getElem?_eq_getElem (by omega)⟩
    obtain ⟨h1, h2, h3⟩ := revs_get l o _ _ _ hx
    refine ⟨x, ?_, h1, h2, by omega⟩
    unfold rd rv
    rw [List.getD_eq_getElem?_getD, List.getElem?_map, hx]
    rfl
  · cases h
theorem full_own (l : List Lb) (o : Lb) (j : Nat) (hj : j < l.length) (hb : bel (rd_T25 l (j : Int)) o = true) : full l o (((remap_seen.revs l o j).length : Nat) : Int) = ((j : Int), true) := by
  have h := revs_at l o j hb _ hj
  have h1 := (List.getElem?_eq_some_iff.1 h).1
  unfold full
  rw [rv_len, if_pos ⟨by omega, by omega⟩]
  unfold rd rv
  rw [Int.toNat_natCast, List.getD_eq_getElem?_getD, List.getElem?_map, h]
  rfl
theorem revs_more (l : List Lb) (o q : Lb) (h : ∀ j, j < l.length → bel (rd_T25 l (j : Int)) o = true → bel (rd_T25 l (j : Int)) q = true) : ∀ m, m ≤ l.length → (remap_seen.revs l o m).length ≤ (remap_seen.revs l q m).length
  | 0, _ => by simp [remap_seen.revs]
  | m + 1, hm => by
    have ih := revs_more l o q h m (by omega)
    cases hb : remap_seen.bel (rd_T25 l (m : Int)) o with
    | false =>
      rw [remap_seen.revs_miss hb]
      cases hq : remap_seen.bel (rd_T25 l (m : Int)) q with
      | false => rw [remap_seen.revs_miss hq]; exact ih
      | true => rw [remap_seen.revs_hit hq, List.length_append]; omega
    | true =>
      rw [remap_seen.revs_hit hb, remap_seen.revs_hit (h m (by omega) hb), List.length_append, List.length_append]
      simpa using ih
theorem RemapBack : jalousielaw17_RemapBack.Pure := by
  intro l o p n hl ho hp hn hs _ _ _
  have hs1 : l.length ≤ 8796093022208 := by have := hs.1; omega
  obtain ⟨q, hq, ⟨K1, h1⟩, hqr⟩ := join_reads ho hp
  obtain ⟨K2, h2⟩ := own_ev (l := l) (o := o) hs1 (full l o n).1
  obtain ⟨K3, h3⟩ := own_ev (l := l) (o := o) hs1 n
  obtain ⟨K4, h4⟩ := own_ev (l := l) (o := q) hs1 (full l o n).1
  obtain ⟨K5, h5⟩ := live_ev
  refine ⟨K1 + K2 + K3 + K4 + K5, ?_⟩
  generalize hk : K1 + K2 + K3 + K4 + K5 = k
  have e1 := h1 k (by omega)
  have e2 := h2 k (by omega)
  have e3 := h3 k (by omega)
  have e4 := h4 k (by omega)
  have e5 := h5 k (by omega)
  simp only at e1 e2 e3 e4 e5
  unfold jalousielaw17_RemapBack.f
  simp only [e1, e2, e3, e4, e5, full_f, Option.bind_some, if_true]
  have hown : (if (own l o n).2 = true then (if (full l o (own l o n).1).2 = true then (some ((full l o (own l o n).1).1 == n)) else (some false)) else (some true)) = some true := by
    split
    · rename_i h
      obtain ⟨j, rfl, hj, hb⟩ := own_some h
      rw [own_seen l o j hj hb]
      simp only []
      rw [full_own l o j hj hb]
      simp
    · rfl
  split
  · rename_i h
    obtain ⟨j, e, hj, hb, hn⟩ := full_some h
    have hbq := hqr _ (hl _ (rd_mem hj)) (.inl hb)
    have hge := revs_more l o q (fun i hi hbi => hqr _ (hl _ (rd_mem hi)) (.inl hbi)) j (by omega)
    rw [e, own_seen l o j hj hb, own_seen l q j hj hbq]
    simp only [if_true]
    rw [if_pos hn.symm, if_pos (by omega)]
    exact hown
  · exact hown
end Go.Proofs.Ytdbdfnkhbcgklaa.Pure
