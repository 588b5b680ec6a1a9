/-
  PLAIN: small words for the trees of lines: comparisons, a row turned round, what is wrong with parents.
-/
import Derived.Test.YtcmnofbpcmnnhaaDoorEvs
import Derived.Test.YtcmnofbpcmnnhaaDoorF14
import Derived.Test.YtcmnofbpcmnnhaaDoorF39
import Derived.Test.YtcmnofbpcmnnhaaDoorF15
import Derived.Test.YtcmnofbpcmnnhaaDoorF32
namespace Go.Proofs.YtcmnofbpcmnnhaaDoor.F
open Go.RowKit Go.Proofs.YtcmnofbpcmnnhaaDoorW.PrintWords Go.Proofs.YtcmnofbpcmnnhaaDoorW.PrintLast Go.Proofs.YtcmnofbpcmnnhaaDoorW.PrintMore
set_option linter.unusedVariables false
set_option linter.unusedSimpArgs false
theorem ints_l0 (l : List Int) (hs : l.length ≤ 9000000000000000000) : ∀ (d i : Nat), i + d = l.length → Ev (fun k => jalousieref05_Ints.l0 k l l (i : Int)) true
  | 0, i, h => by
    refine ev_succ ?_
    simp only [jalousieref05_Ints.l0]
    (repeat (first | refine ev_pos (by omega) ?_ | refine ev_neg (by omega) ?_))
    exact ev_some rfl
  | d + 1, i, h => by
    have ih := ints_l0 l hs d (i + 1) (by omega)
    refine ev_succ ?_
    simp only [jalousieref05_Ints.l0]
    rw [w64s i (by omega)]
    (repeat (first | refine ev_pos (by omega) ?_ | refine ev_neg (by omega) ?_))
    exact ih
/-- Two that are the same. -/
theorem ints_ev (l : List Int) (hs : l.length ≤ 9000000000000000000) : Ev (fun k => jalousieref05_Ints.f k l l) true := by
  unfold jalousieref05_Ints.f
  refine ev_pos rfl ?_
  exact ints_l0 l hs l.length 0 (by omega)
/-! ### a row turned round -/
/-- After i exchanges from the two ends. -/
def rvs (l : List Int) (i : Nat) : List Int := (List.range l.length).map fun j => if j < i ∨ l.length ≤ j + i then l.getD (l.length - 1 - j) 0 else l.getD j 0
theorem rvs_len (l : List Int) (i : Nat) : (rvs l i).length = l.length := by simp [rvs]
theorem rvs_zero (l : List Int) : rvs l 0 = l := by
  refine List.ext_getElem (rvs_len l 0) fun j h1 h2 => ?_
  simp only [rvs, List.getElem_map, List.getElem_range]
  rw [if_neg (by omega), getD_lt h2]
theorem rvs_end (l : List Int) (i : Nat) (h : l.length ≤ 2 * i + 1) : rvs l i = l.reverse := by
  refine List.ext_getElem (by simp [rvs]) fun j h1 h2 => ?_
  have hj : j < l.length := by rw [rvs_len] at h1; exact h1
  simp only [rvs, List.getElem_map, List.getElem_range, List.getElem_reverse]
  split
  · rw [getD_lt (by omega)]
  · have e : j = l.length - 1 - j := by omega
    rw [getD_lt (by omega)]
    congr 1
theorem rvs_get (l : List Int) (i j : Nat) (hj : j < l.length) : (rvs l i).getD j 0 = if j < i ∨ l.length ≤ j + i then l.getD (l.length - 1 - j) 0 else l.getD j 0 := by
  rw [getD_lt (by rw [rvs_len]; exact hj)]
  simp only [rvs, List.getElem_map, List.getElem_range]
theorem rvs_succ (l : List Int) (i : Nat) (h : 2 * i + 1 < l.length) : ((rvs l i).set i ((rvs l i).getD (l.length - 1 - i) 0)).set (l.length - 1 - i) ((rvs l i).getD i 0) = rvs l (i + 1) := by
  rw [rvs_get l i _ (by omega), rvs_get l i _ (by omega), if_neg (by omega), if_neg (by omega)]
  refine List.ext_getElem (by simp [rvs]) fun j h1 h2 => ?_
  have hj : j < l.length := by rw [rvs_len] at h2; exact h2
  rw [List.getElem_set, List.getElem_set]
  have hr : (rvs l i)[j]'(by rw [rvs_len]; exact hj) = if j < i ∨ l.length ≤ j + i then l.getD (l.length - 1 - j) 0 else l.getD j 0 := by
    rw [← getD_lt (by rw [rvs_len]; exact hj) 0, rvs_get l i j hj]
  have hr2 : (rvs l (i + 1))[j]'h2 = if j < i + 1 ∨ l.length ≤ j + (i + 1) then l.getD (l.length - 1 - j) 0 else l.getD j 0 := by
    rw [← getD_lt h2 0, rvs_get l (i + 1) j hj]
  rw [hr, hr2]
  by_cases e1 : l.length - 1 - i = j
  · rw [if_pos e1, if_pos (by omega)]
    congr 1
    omega
  · rw [if_neg e1]
    by_cases e2 : i = j
    · rw [if_pos e2, if_pos (by omega)]
      congr 1
      omega
    · rw [if_neg e2]
      by_cases e3 : j < i ∨ l.length ≤ j + i
      · rw [if_pos e3, if_pos (by omega)]
      · rw [if_neg e3, if_neg (by omega)]
theorem rev_l0 (l : List Int) (hs : l.length ≤ 9000000000000000000) : ∀ (d i : Nat), l.length ≤ 2 * i + 1 + 2 * d → 2 * i ≤ l.length + 1 → Ev (fun k => slices_Reverse_int_int.l0 k (rvs l i) (i : Int) ((l.length : Int) - 1 - (i : Int))) l.reverse
  | 0, i, h, hi => by
    refine ev_succ ?_
    simp only [slices_Reverse_int_int.l0]
    (repeat (first | refine ev_pos (by omega) ?_ | refine ev_neg (by omega) ?_))
    exact ev_some (rvs_end l i (by omega))
  | d + 1, i, h, hi => by
    have hl := rvs_len l i
    by_cases h1 : 2 * i + 1 < l.length
    · have ih := rev_l0 l hs d (i + 1) (by omega) (by omega)
      refine ev_succ ?_
      simp only [slices_Reverse_int_int.l0]
      rw [w64s i (by omega), w64i ((l.length : Int) - 1 - (i : Int) - 1) (by omega) (by omega)]
      (repeat (first | refine ev_pos (by omega) ?_ | refine ev_neg (by omega) ?_))
      have e1 : (l.length : Int) - 1 - (i : Int) = ((l.length - 1 - i : Nat) : Int) := by omega
      have e2 : (l.length : Int) - 1 - (i : Int) - 1 = (l.length : Int) - 1 - ((i + 1 : Nat) : Int) := by omega
      rw [e2, e1, rdn, rdn, Int.toNat_natCast, Int.toNat_natCast, rvs_succ l i h1]
      exact ih
    · refine ev_succ ?_
      simp only [slices_Reverse_int_int.l0]
      (repeat (first | refine ev_pos (by omega) ?_ | refine ev_neg (by omega) ?_))
      exact ev_some (rvs_end l i (by omega))
theorem rev_ev (l : List Int) (hs : l.length ≤ 9000000000000000000) : Ev (fun k => slices_Reverse_int_int.f k l) l.reverse := by
  have h := rev_l0 l hs l.length 0 (by omega) (by omega)
  rw [rvs_zero] at h
  unfold slices_Reverse_int_int.f
  rw [w64i _ (by omega) (by omega), show (l.length : Int) - 1 = (l.length : Int) - 1 - ((0 : Nat) : Int) by omega]
  exact h
/-! ### what is wrong with parents -/
def okAt (P : List Int) (i : Nat) : Bool := decide (-1 ≤ P.getD i 0 ∧ P.getD i 0 < (i : Int))
def cks (P : List Int) : Nat → Nat → Int
  | _, 0 => 0
  | i, d + 1 => if okAt P i = true then cks P (i + 1) d else 3
theorem cks_zero {P : List Int} : ∀ {d i : Nat}, cks P i d = 0 → ∀ j, i ≤ j → j < i + d → okAt P j = true
  | 0, i, _, j, h1, h2 => by omega
  | d + 1, i, h, j, h1, h2 => by
    unfold cks at h
    split at h
    · rename_i ho
      rcases Nat.eq_or_lt_of_le h1 with e | e
      · rw [← e]; exact ho
      · exact cks_zero h j (by omega) (by omega)
    · omega
theorem cks_or (P : List Int) : ∀ (d i : Nat), cks P i d = 0 ∨ cks P i d = 3
  | 0, i => .inl rfl
  | d + 1, i => by
    unfold cks
    split
    · exact cks_or P d (i + 1)
    · exact .inr rfl
theorem check_l0 (P : List Int) (hs : P.length ≤ 9000000000000000000) : ∀ (d i : Nat), i + d = P.length → Ev (fun k => fold_Check.l0 k P (P.length : Int) (i : Int)) (cks P i d)
  | 0, i, h => by
    refine ev_succ ?_
    simp only [fold_Check.l0]
    (repeat (first | refine ev_pos (by omega) ?_ | refine ev_neg (by omega) ?_))
    exact ev_some rfl
  | d + 1, i, h => by
    have ih := check_l0 P hs d (i + 1) (by omega)
    refine ev_succ ?_
    simp only [fold_Check.l0]
    rw [w64s i (by omega), rdn]
    (repeat (first | refine ev_pos (by omega) ?_ | refine ev_neg (by omega) ?_))
    unfold cks okAt
    by_cases h1 : P.getD i 0 < -1
    · (repeat (first | refine ev_pos (by omega) ?_ | refine ev_neg (by omega) ?_))
      rw [decide_eq_false (by omega), if_neg (by decide)]
      exact ev_some rfl
    · (repeat (first | refine ev_pos (by omega) ?_ | refine ev_neg (by omega) ?_))
      by_cases h2 : P.getD i 0 ≥ (i : Int)
      · (repeat (first | refine ev_pos (by omega) ?_ | refine ev_neg (by omega) ?_))
        rw [decide_eq_false (by omega), if_neg (by decide)]
        exact ev_some rfl
      · (repeat (first | refine ev_pos (by omega) ?_ | refine ev_neg (by omega) ?_))
        rw [decide_eq_true (by omega), if_pos rfl]
        exact ih
theorem ref_check_l0 (P : List Int) (hs : P.length ≤ 9000000000000000000) : ∀ (d i : Nat), i + d = P.length → Ev (fun k => jalousieref41_Check.l0 k P (i : Int)) (cks P i d)
  | 0, i, h => by
    refine ev_succ ?_
    simp only [jalousieref41_Check.l0]
    (repeat (first | refine ev_pos (by omega) ?_ | refine ev_neg (by omega) ?_))
    exact ev_some rfl
  | d + 1, i, h => by
    have ih := ref_check_l0 P hs d (i + 1) (by omega)
    refine ev_succ ?_
    simp only [jalousieref41_Check.l0]
    rw [w64s i (by omega), rdn]
    (repeat (first | refine ev_pos (by omega) ?_ | refine ev_neg (by omega) ?_))
    unfold cks okAt
    by_cases h1 : P.getD i 0 < -1
    · (repeat (first | refine ev_pos (by omega) ?_ | refine ev_neg (by omega) ?_))
      rw [decide_eq_false (by omega), if_neg (by decide)]
      exact ev_some rfl
    · (repeat (first | refine ev_pos (by omega) ?_ | refine ev_neg (by omega) ?_))
      by_cases h2 : P.getD i 0 ≥ (i : Int)
      · (repeat (first | refine ev_pos (by omega) ?_ | refine ev_neg (by omega) ?_))
        rw [decide_eq_false (by omega), if_neg (by decide)]
        exact ev_some rfl
      · (repeat (first | refine ev_pos (by omega) ?_ | refine ev_neg (by omega) ?_))
        rw [decide_eq_true (by omega), if_pos rfl]
        exact ih
def ck (P : List Int) : Int := cks P 0 P.length
theorem check_ev (P : List Int) (hs : P.length ≤ 9000000000000000000) : Ev (fun k => fold_Check.f k P) (ck P) := check_l0 P hs P.length 0 (by omega)
theorem ref_check_ev (P : List Int) (hs : P.length ≤ 9000000000000000000) : Ev (fun k => jalousieref41_Check.f k P) (ck P) := ref_check_l0 P hs P.length 0 (by omega)
theorem ck_ok {P : List Int} (h : ck P = 0) (j : Nat) (hj : j < P.length) : -1 ≤ P.getD j 0 ∧ P.getD j 0 < (j : Int) := by
  have := cks_zero h j (by omega) (by omega)
  simpa [okAt] using this
end Go.Proofs.YtcmnofbpcmnnhaaDoor.F
