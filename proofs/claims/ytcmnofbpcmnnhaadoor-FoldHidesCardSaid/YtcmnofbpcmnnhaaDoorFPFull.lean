/-
  PLAIN: small words for the trees of lines: comparisons, a row turned round, what is wrong with parents.
  PLAIN: lines as trees: how far they are set in, which are bare, each line's parent: by the stack, and by looking at all before.
  PLAIN: how deep lines are; the lines that are shown.
  PLAIN: the lines that are shown, by definition; which folds fit; the lines printed.
-/
import Derived.Test.YtcmnofbpcmnnhaaDoorEvs
import Derived.Test.YtcmnofbpcmnnhaaDoorFJ1
import Derived.Test.YtcmnofbpcmnnhaaDoorFJ38
import Derived.Test.YtcmnofbpcmnnhaaDoorFJ15
import Derived.Test.YtcmnofbpcmnnhaaDoorFJ30
namespace Go.Proofs.YtcmnofbpcmnnhaaDoor.F
open Go.RowKit Go.Proofs.YtcmnofbpcmnnhaaDoorW.PrintWords Go.Proofs.YtcmnofbpcmnnhaaDoorW.PrintLast Go.Proofs.YtcmnofbpcmnnhaaDoorW.PrintMore
set_option linter.unusedVariables false
set_option linter.unusedSimpArgs false
theorem ints_l0 (l : List Int) (hs : l.length ≤ 9000000000000000000) : ∀ (d i : Nat), i + d = l.length → Ev (fun k => jalousieref05_Ints.l0 k l l (i : Int)) true
  | 0, i, h => by
    refine ev_succ ?_
    simp only [jalousieref05_Ints.l0]
    (repeat (first | refine ev_pos (by omega) ?_ | refine ev_neg (by omega) ?_))
    exact ev_some rfl
  | d + 1, i, h => by
    have ih := ints_l0 l hs d (i + 1) (by omega)
    refine ev_succ ?_
    simp only [jalousieref05_Ints.l0]
    rw [w64s i (by omega)]
    (repeat (first | refine ev_pos (by omega) ?_ | refine ev_neg (by omega) ?_))
    exact ih
/-- Two that are the same. -/
theorem ints_ev (l : List Int) (hs : l.length ≤ 9000000000000000000) : Ev (fun k => jalousieref05_Ints.f k l l) true := by
  unfold jalousieref05_Ints.f
  refine ev_pos rfl ?_
  exact ints_l0 l hs l.length 0 (by omega)
/-! ### a row turned round -/
/-- After i exchanges from the two ends. -/
def rvs (l : List Int) (i : Nat) : List Int := (List.range l.length).map fun j => if j < i ∨ l.length ≤ j + i then l.getD (l.length - 1 - j) 0 else l.getD j 0
theorem rvs_len (l : List Int) (i : Nat) : (rvs l i).length = l.length := by simp [rvs]
theorem rvs_zero (l : List Int) : rvs l 0 = l := by
  refine List.ext_getElem (rvs_len l 0) fun j h1 h2 => ?_
  simp only [rvs, List.getElem_map, List.getElem_range]
  rw [if_neg (by omega), getD_lt h2]
theorem rvs_end (l : List Int) (i : Nat) (h : l.length ≤ 2 * i + 1) : rvs l i = l.reverse := by
  refine List.ext_getElem (by simp [rvs]) fun j h1 h2 => ?_
  have hj : j < l.length := by rw [rvs_len] at h1; exact h1
  simp only [rvs, List.getElem_map, List.getElem_range, List.getElem_reverse]
  split
  · rw [getD_lt (by omega)]
  · have e : j = l.length - 1 - j := by omega
    rw [getD_lt (by omega)]
    congr 1
theorem rvs_get (l : List Int) (i j : Nat) (hj : j < l.length) : (rvs l i).getD j 0 = if j < i ∨ l.length ≤ j + i then l.getD (l.length - 1 - j) 0 else l.getD j 0 := by
  rw [getD_lt (by rw [rvs_len]; exact hj)]
  simp only [rvs, List.getElem_map, List.getElem_range]
theorem rvs_succ (l : List Int) (i : Nat) (h : 2 * i + 1 < l.length) : ((rvs l i).set i ((rvs l i).getD (l.length - 1 - i) 0)).set (l.length - 1 - i) ((rvs l i).getD i 0) = rvs l (i + 1) := by
  rw [rvs_get l i _ (by omega), rvs_get l i _ (by omega), if_neg (by omega), if_neg (by omega)]
  refine List.ext_getElem (by simp [rvs]) fun j h1 h2 => ?_
  have hj : j < l.length := by rw [rvs_len] at h2; exact h2
  rw [List.getElem_set, List.getElem_set]
  have hr : (rvs l i)[j]'(by rw [rvs_len]; exact hj) = if j < i ∨ l.length ≤ j + i then l.getD (l.length - 1 - j) 0 else l.getD j 0 := by
    rw [← getD_lt (by rw [rvs_len]; exact hj) 0, rvs_get l i j hj]
  have hr2 : (rvs l (i + 1))[j]'h2 = if j < i + 1 ∨ l.length ≤ j + (i + 1) then l.getD (l.length - 1 - j) 0 else l.getD j 0 := by
    rw [← getD_lt h2 0, rvs_get l (i + 1) j hj]
  rw [hr, hr2]
  by_cases e1 : l.length - 1 - i = j
  · rw [if_pos e1, if_pos (by omega)]
    congr 1
    omega
  · rw [if_neg e1]
    by_cases e2 : i = j
    · rw [if_pos e2, if_pos (by omega)]
      congr 1
      omega
    · rw [if_neg e2]
      by_cases e3 : j < i ∨ l.length ≤ j + i
      · rw [if_pos e3, if_pos (by omega)]
      · rw [if_neg e3, if_neg (by omega)]
theorem rev_l0 (l : List Int) (hs : l.length ≤ 9000000000000000000) : ∀ (d i : Nat), l.length ≤ 2 * i + 1 + 2 * d → 2 * i ≤ l.length + 1 → Ev (fun k => slices_Reverse_int_int.l0 k (rvs l i) (i : Int) ((l.length : Int) - 1 - (i : Int))) l.reverse
  | 0, i, h, hi => by
    refine ev_succ ?_
    simp only [slices_Reverse_int_int.l0]
    (repeat (first | refine ev_pos (by omega) ?_ | refine ev_neg (by omega) ?_))
    exact ev_some (rvs_end l i (by omega))
  | d + 1, i, h, hi => by
    have hl := rvs_len l i
    by_cases h1 : 2 * i + 1 < l.length
    · have ih := rev_l0 l hs d (i + 1) (by omega) (by omega)
      refine ev_succ ?_
      simp only [slices_Reverse_int_int.l0]
      rw [w64s i (by omega), w64i ((l.length : Int) - 1 - (i : Int) - 1) (by omega) (by omega)]
      (repeat (first | refine ev_pos (by omega) ?_ | refine ev_neg (by omega) ?_))
      have e1 : (l.length : Int) - 1 - (i : Int) = ((l.length - 1 - i : Nat) : Int) := by omega
      have e2 : (l.length : Int) - 1 - (i : Int) - 1 = (l.length : Int) - 1 - ((i + 1 : Nat) : Int) := by omega
      rw [e2, e1, rdn, rdn, Int.toNat_natCast, Int.toNat_natCast, rvs_succ l i h1]
      exact ih
    · refine ev_succ ?_
      simp only [slices_Reverse_int_int.l0]
      (repeat (first | refine ev_pos (by omega) ?_ | refine ev_neg (by omega) ?_))
      exact ev_some (rvs_end l i (by omega))
theorem rev_ev (l : List Int) (hs : l.length ≤ 9000000000000000000) : Ev (fun k => slices_Reverse_int_int.f k l) l.reverse := by
  have h := rev_l0 l hs l.length 0 (by omega) (by omega)
  rw [rvs_zero] at h
  unfold slices_Reverse_int_int.f
  rw [w64i _ (by omega) (by omega), show (l.length : Int) - 1 = (l.length : Int) - 1 - ((0 : Nat) : Int) by omega]
  exact h
/-! ### what is wrong with parents -/
def okAt (P : List Int) (i : Nat) : Bool := decide (-1 ≤ P.getD i 0 ∧ P.getD i 0 < (i : Int))
def cks (P : List Int) : Nat → Nat → Int
  | _, 0 => 0
  | i, d + 1 => if okAt P i = true then cks P (i + 1) d else 3
theorem cks_zero {P : List Int} : ∀ {d i : Nat}, cks P i d = 0 → ∀ j, i ≤ j → j < i + d → okAt P j = true
  | 0, i, _, j, h1, h2 => by omega
  | d + 1, i, h, j, h1, h2 => by
    unfold cks at h
    split at h
    · rename_i ho
      rcases Nat.eq_or_lt_of_le h1 with e | e
      · rw [← e]; exact ho
      · exact cks_zero h j (by omega) (by omega)
    · omega
theorem cks_or (P : List Int) : ∀ (d i : Nat), cks P i d = 0 ∨ cks P i d = 3
  | 0, i => .inl rfl
  | d + 1, i => by
    unfold cks
    split
    · exact cks_or P d (i + 1)
    · exact .inr rfl
theorem check_l0 (P : List Int) (hs : P.length ≤ 9000000000000000000) : ∀ (d i : Nat), i + d = P.length → Ev (fun k => fold_Check.l0 k P (P.length : Int) (i : Int)) (cks P i d)
  | 0, i, h => by
    refine ev_succ ?_
    simp only [fold_Check.l0]
    (repeat (first | refine ev_pos (by omega) ?_ | refine ev_neg (by omega) ?_))
    exact ev_some rfl
  | d + 1, i, h => by
    have ih := check_l0 P hs d (i + 1) (by omega)
    refine ev_succ ?_
    simp only [fold_Check.l0]
    rw [w64s i (by omega), rdn]
    (repeat (first | refine ev_pos (by omega) ?_ | refine ev_neg (by omega) ?_))
    unfold cks okAt
    by_cases h1 : P.getD i 0 < -1
    · (repeat (first | refine ev_pos (by omega) ?_ | refine ev_neg (by omega) ?_))
      rw [decide_eq_false (by omega), if_neg (by decide)]
      exact ev_some rfl
    · (repeat (first | refine ev_pos (by omega) ?_ | refine ev_neg (by omega) ?_))
      by_cases h2 : P.getD i 0 ≥ (i : Int)
      · (repeat (first | refine ev_pos (by omega) ?_ | refine ev_neg (by omega) ?_))
        rw [decide_eq_false (by omega), if_neg (by decide)]
        exact ev_some rfl
      · (repeat (first | refine ev_pos (by omega) ?_ | refine ev_neg (by omega) ?_))
        rw [decide_eq_true (by omega), if_pos rfl]
        exact ih
theorem ref_check_l0 (P : List Int) (hs : P.length ≤ 9000000000000000000) : ∀ (d i : Nat), i + d = P.length → Ev (fun k => jalousieref41_Check.l0 k P (i : Int)) (cks P i d)
  | 0, i, h => by
    refine ev_succ ?_
    simp only [jalousieref41_Check.l0]
    (repeat (first | refine ev_pos (by omega) ?_ | refine ev_neg (by omega) ?_))
    exact ev_some rfl
  | d + 1, i, h => by
    have ih := ref_check_l0 P hs d (i + 1) (by omega)
    refine ev_succ ?_
    simp only [jalousieref41_Check.l0]
    rw [w64s i (by omega), rdn]
    (repeat (first | refine ev_pos (by omega) ?_ | refine ev_neg (by omega) ?_))
    unfold cks okAt
    by_cases h1 : P.getD i 0 < -1
    · (repeat (first | refine ev_pos (by omega) ?_ | refine ev_neg (by omega) ?_))
      rw [decide_eq_false (by omega), if_neg (by decide)]
      exact ev_some rfl
    · (repeat (first | refine ev_pos (by omega) ?_ | refine ev_neg (by omega) ?_))
      by_cases h2 : P.getD i 0 ≥ (i : Int)
      · (repeat (first | refine ev_pos (by omega) ?_ | refine ev_neg (by omega) ?_))
        rw [decide_eq_false (by omega), if_neg (by decide)]
        exact ev_some rfl
      · (repeat (first | refine ev_pos (by omega) ?_ | refine ev_neg (by omega) ?_))
        rw [decide_eq_true (by omega), if_pos rfl]
        exact ih
def ck (P : List Int) : Int := cks P 0 P.length
theorem check_ev (P : List Int) (hs : P.length ≤ 9000000000000000000) : Ev (fun k => fold_Check.f k P) (ck P) := check_l0 P hs P.length 0 (by omega)
theorem ref_check_ev (P : List Int) (hs : P.length ≤ 9000000000000000000) : Ev (fun k => jalousieref41_Check.f k P) (ck P) := ref_check_l0 P hs P.length 0 (by omega)
theorem ck_ok {P : List Int} (h : ck P = 0) (j : Nat) (hj : j < P.length) : -1 ≤ P.getD j 0 ∧ P.getD j 0 < (j : Int) := by
  have := cks_zero h j (by omega) (by omega)
  simpa [okAt] using this
end Go.Proofs.YtcmnofbpcmnnhaaDoor.F
namespace Go.Proofs.YtcmnofbpcmnnhaaDoor.F
open Go.RowKit Go.Proofs.YtcmnofbpcmnnhaaDoorW.PrintWords Go.Proofs.YtcmnofbpcmnnhaaDoorW.PrintLast Go.Proofs.YtcmnofbpcmnnhaaDoorW.PrintMore
set_option linter.unusedVariables false
set_option linter.unusedSimpArgs false
abbrev Ln := S26
theorem rd_ln (l : List Ln) (i : Nat) : rd_T26 l (i : Int) = l.getD i z26 := by simp [rd_T26]
def by_ (s : ByteArray) : List UInt8 := s.data.toList
theorem by_len (s : ByteArray) : (by_ s).length = s.size := Array.length_toList
theorem bt_by (s : ByteArray) (i : Nat) (h : i < s.size) : bt s (i : Int) = (((by_ s).getD i 0).toNat : Int) := by
  have h2 : i < (by_ s).length := by rw [by_len]; exact h
  rw [getD_lt h2]
  unfold bt
  rw [dif_pos (by simpa using h)]
  simp [by_, ByteArray.getElem_eq_getElem_data]
/-! ### the first lines, cut -/
def few_ok (S : List Ln) : Prop := S.length ≤ 40 ∧ ∀ x ∈ S, x.f0.size ≤ 40
theorem few_l0 (l : List Ln) : ∀ (d : Nat) (out : List Ln), out.length + d = 40 → few_ok out → ∃ S, Ev (fun k => jalousielaw41_few.l0 k l out (out.length : Int)) S ∧ few_ok S
  | 0, out, h, hk => ⟨out, by
      refine ev_succ ?_
      simp only [jalousielaw41_few.l0]
      by_cases h1 : (out.length : Int) < (l.length : Int)
      · (repeat (first | refine ev_pos (by omega) ?_ | refine ev_neg (by omega) ?_))
        exact ev_some rfl
      · (repeat (first | refine ev_pos (by omega) ?_ | refine ev_neg (by omega) ?_))
        exact ev_some rfl, hk⟩
  | d + 1, out, h, hk => by
    by_cases h1 : out.length < l.length
    · have hm : mn (((rd_T26 l (out.length : Int)).f0).size : Int) 40 ≤ 40 ∧ mn (((rd_T26 l (out.length : Int)).f0).size : Int) 40 ≤ (((rd_T26 l (out.length : Int)).f0).size : Int) ∧ 0 ≤ mn (((rd_T26 l (out.length : Int)).f0).size : Int) 40 := by
        unfold mn
        split <;> omega
      obtain ⟨S, hS, hk2⟩ := few_l0 l d (out ++ [(⟨((rd_T26 l (out.length : Int)).f0).extract 0 ((mn (((rd_T26 l (out.length : Int)).f0).size : Int) 40 : Int)).toNat, false⟩ : Ln)]) (by simp; omega) ⟨by simp; omega, fun x hx => by
        rcases List.mem_append.1 hx with hx | hx
        · exact hk.2 x hx
        · obtain rfl := List.mem_singleton.1 hx
          simp only [ByteArray.size_extract]
          omega⟩
      refine ⟨S, ?_, hk2⟩
      refine ev_succ ?_
      simp only [jalousielaw41_few.l0]
      rw [w64s _ (by omega)]
      (repeat (first | refine ev_pos (by omega) ?_ | refine ev_neg (by omega) ?_))
      rw [show (out ++ [(⟨((rd_T26 l (out.length : Int)).f0).extract 0 ((mn (((rd_T26 l (out.length : Int)).f0).size : Int) 40 : Int)).toNat, false⟩ : Ln)]).length = out.length + 1 by simp] at hS
      exact hS
    · refine ⟨out, ?_, hk⟩
      refine ev_succ ?_
      simp only [jalousielaw41_few.l0]
      (repeat (first | refine ev_pos (by omega) ?_ | refine ev_neg (by omega) ?_))
      exact ev_some rfl
theorem few_ev (l : List Ln) : ∃ S, Ev (fun k => jalousielaw41_few.f k l) S ∧ few_ok S := few_l0 l 40 [] (by simp) ⟨by simp, by simp⟩
/-! ### set in -/
def insL : List UInt8 → Int → Int
  | [], n => n
  | b :: bs, n => if b.toNat = 32 then insL bs (n + 1) else if b.toNat = 9 then insL bs ((n / 8 + 1) * 8) else n
def ins (s : ByteArray) : Int := insL (by_ s) 0
theorem inset_l0 (s : ByteArray) (hs : s.size ≤ 1000000) : ∀ (d i : Nat) (n : Int), i + d = s.size → 0 ≤ n → n ≤ 8 * (i : Int) → Ev (fun k => fold_Inset.l0 k s n (s.size : Int) (i : Int)) (insL ((by_ s).drop i) n)
  | 0, i, n, h, _, _ => by
    refine ev_succ ?_
    simp only [fold_Inset.l0]
    (repeat (first | refine ev_pos (by omega) ?_ | refine ev_neg (by omega) ?_))
    rw [List.drop_eq_nil_of_le (by rw [by_len]; omega)]
    exact ev_some rfl
  | d + 1, i, n, h, h0, h1 => by
    refine ev_succ ?_
    simp only [fold_Inset.l0]
    have ht : Int.tmod n 8 = n % 8 := Int.tmod_eq_emod_of_nonneg h0
    rw [w64s i (by omega), bt_by s i (by omega), ht, w64i (n + 1) (by omega) (by omega), w64i (8 - n % 8) (by omega) (by omega), w64i (n + (8 - n % 8)) (by omega) (by omega)]
    (repeat (first | refine ev_pos (by omega) ?_ | refine ev_neg (by omega) ?_))
    rw [drop_cons (by_ s) i (by rw [by_len]; omega) 0]
    unfold insL
    by_cases c1 : ((by_ s).getD i 0).toNat = 32
    · rw [if_pos c1]
      (repeat (first | refine ev_pos (by omega) ?_ | refine ev_neg (by omega) ?_))
      exact inset_l0 s hs d (i + 1) (n + 1) (by omega) (by omega) (by omega)
    · rw [if_neg c1]
      (repeat (first | refine ev_pos (by omega) ?_ | refine ev_neg (by omega) ?_))
      by_cases c2 : ((by_ s).getD i 0).toNat = 9
      · rw [if_pos c2]
        (repeat (first | refine ev_pos (by omega) ?_ | refine ev_neg (by omega) ?_))
        rw [show n + (8 - n % 8) = (n / 8 + 1) * 8 by omega]
        exact inset_l0 s hs d (i + 1) _ (by omega) (by omega) (by omega)
      · rw [if_neg c2]
        (repeat (first | refine ev_pos (by omega) ?_ | refine ev_neg (by omega) ?_))
        exact ev_some rfl
theorem ref_inset_l0 (s : ByteArray) (hs : s.size ≤ 1000000) : ∀ (d i : Nat) (n : Int), i + d = s.size → 0 ≤ n → n ≤ 8 * (i : Int) → Ev (fun k => jalousieref41_Inset.l0 k s n (i : Int)) (insL ((by_ s).drop i) n)
  | 0, i, n, h, _, _ => by
    refine ev_succ ?_
    simp only [jalousieref41_Inset.l0]
    (repeat (first | refine ev_pos (by omega) ?_ | refine ev_neg (by omega) ?_))
    rw [List.drop_eq_nil_of_le (by rw [by_len]; omega)]
    exact ev_some rfl
  | d + 1, i, n, h, h0, h1 => by
    refine ev_succ ?_
    simp only [jalousieref41_Inset.l0]
    have ht : Int.tdiv n 8 = n / 8 := Int.tdiv_eq_ediv_of_nonneg h0
    rw [w64s i (by omega), bt_by s i (by omega), ht, w64i (n + 1) (by omega) (by omega), w64i (n / 8) (by omega) (by omega), w64i (n / 8 + 1) (by omega) (by omega), w64i ((n / 8 + 1) * 8) (by omega) (by omega)]
    (repeat (first | refine ev_pos (by omega) ?_ | refine ev_neg (by omega) ?_))
    rw [drop_cons (by_ s) i (by rw [by_len]; omega) 0]
    unfold insL
    by_cases c1 : ((by_ s).getD i 0).toNat = 32
    · rw [if_pos c1]
      (repeat (first | refine ev_pos (by omega) ?_ | refine ev_neg (by omega) ?_))
      exact ref_inset_l0 s hs d (i + 1) (n + 1) (by omega) (by omega) (by omega)
    · rw [if_neg c1]
      (repeat (first | refine ev_pos (by omega) ?_ | refine ev_neg (by omega) ?_))
      by_cases c2 : ((by_ s).getD i 0).toNat = 9
      · rw [if_pos c2]
        (repeat (first | refine ev_pos (by omega) ?_ | refine ev_neg (by omega) ?_))
        exact ref_inset_l0 s hs d (i + 1) _ (by omega) (by omega) (by omega)
      · rw [if_neg c2]
        (repeat (first | refine ev_pos (by omega) ?_ | refine ev_neg (by omega) ?_))
        exact ev_some rfl
theorem inset_ev (s : ByteArray) (hs : s.size ≤ 1000000) : Ev (fun k => fold_Inset.f k s) (ins s) := inset_l0 s hs s.size 0 0 (by omega) (by omega) (by omega)
theorem ref_inset_ev (s : ByteArray) (hs : s.size ≤ 1000000) : Ev (fun k => jalousieref41_Inset.f k s) (ins s) := ref_inset_l0 s hs s.size 0 0 (by omega) (by omega) (by omega)
/-! ### bare -/
def brL (l : List UInt8) : Bool := l.all fun b => decide (b.toNat = 32 ∨ b.toNat = 9)
def br (s : ByteArray) : Bool := brL (by_ s)
theorem dw_nil {p : UInt8 → Bool} : ∀ {l : List UInt8}, l.dropWhile p = [] ↔ ∀ b ∈ l, p b = true
  | [] => by simp
  | x :: l => by
    rw [List.dropWhile_cons]
    split
    · rename_i h
      rw [dw_nil]
      simp [h]
    · rename_i h
      simp [h]
theorem trimS_nil (l cs : List UInt8) : Go.Lib.trimS l cs = [] ↔ ∀ b ∈ l, cs.contains b = true := by
  unfold Go.Lib.trimS Go.Lib.trimLeftS Go.Lib.trimRightS
  rw [dw_nil]
  constructor
  · intro h b hb
    have h1 : b ∈ l.reverse.takeWhile (cs.contains ·) ++ l.reverse.dropWhile (cs.contains ·) := by
      rw [List.takeWhile_append_dropWhile]; exact List.mem_reverse.2 hb
    rcases List.mem_append.1 h1 with h1 | h1
    · exact List.all_eq_true.1 (List.all_takeWhile (l := l.reverse) (p := (cs.contains ·))) b h1
    · exact h b (List.mem_reverse.2 h1)
  · intro h b hb
    exact h b (List.mem_reverse.1 ((List.dropWhile_sublist _).subset (List.mem_reverse.1 hb)))
theorem bare_eq (s : ByteArray) (hs : s.size ≤ 1000000) : fold_bare.f s = some (br s) := by
  unfold fold_bare.f
  rw [if_pos (by omega)]
  congr 1
  unfold br brL
  rw [Bool.eq_iff_iff, decide_eq_true_iff, trimS_nil, List.all_eq_true]
  refine forall_congr' fun b => forall_congr' fun hb => ?_
  rw [decide_eq_true_iff]
  constructor
  · intro h
    have : b = 32 ∨ b = 9 := by simpa using h
    rcases this with rfl | rfl
    · exact .inl rfl
    · exact .inr rfl
  · intro h
    have : b = 32 ∨ b = 9 := by
      rcases h with h | h
      · exact .inl (UInt8.toNat_inj.1 h)
      · exact .inr (UInt8.toNat_inj.1 h)
    simpa using this
theorem ref_bare_l0 (s : ByteArray) (hs : s.size ≤ 1000000) : ∀ (d i : Nat), i + d = s.size → Ev (fun k => jalousieref41_Bare.l0 k s (i : Int)) (brL ((by_ s).drop i))
  | 0, i, h => by
    refine ev_succ ?_
    simp only [jalousieref41_Bare.l0]
    (repeat (first | refine ev_pos (by omega) ?_ | refine ev_neg (by omega) ?_))
    rw [List.drop_eq_nil_of_le (by rw [by_len]; omega)]
    exact ev_some rfl
  | d + 1, i, h => by
    have ih := ref_bare_l0 s hs d (i + 1) (by omega)
    refine ev_succ ?_
    simp only [jalousieref41_Bare.l0]
    rw [w64s i (by omega), bt_by s i (by omega)]
    (repeat (first | refine ev_pos (by omega) ?_ | refine ev_neg (by omega) ?_))
    rw [drop_cons (by_ s) i (by rw [by_len]; omega) 0]
    unfold brL at ih ⊢
    rw [List.all_cons]
    by_cases c1 : ((by_ s).getD i 0).toNat = 32
    · (repeat (first | refine ev_pos (by omega) ?_ | refine ev_neg (by omega) ?_))
      rw [decide_eq_true (.inl c1), Bool.true_and]
      exact ih
    · (repeat (first | refine ev_pos (by omega) ?_ | refine ev_neg (by omega) ?_))
      by_cases c2 : ((by_ s).getD i 0).toNat = 9
      · (repeat (first | refine ev_pos (by omega) ?_ | refine ev_neg (by omega) ?_))
        rw [decide_eq_true (.inr c2), Bool.true_and]
        exact ih
      · (repeat (first | refine ev_pos (by omega) ?_ | refine ev_neg (by omega) ?_))
        rw [decide_eq_false (by omega), Bool.false_and]
        exact ev_some rfl
theorem ref_bare_ev (s : ByteArray) (hs : s.size ≤ 1000000) : Ev (fun k => jalousieref41_Bare.f k s) (br s) := ref_bare_l0 s hs s.size 0 (by omega)
/-! ### a line's inset -/
def nxs : List Ln → Int
  | [] => 0
  | x :: xs => if br x.f0 = true then nxs xs else ins x.f0
theorem few_get {S : List Ln} (hS : few_ok S) (i : Nat) : ((S.getD i z26).f0).size ≤ 1000000 := by
  by_cases h : i < S.length
  · rw [getD_lt h]
    have := hS.2 _ (List.getElem_mem h)
    omega
  · rw [List.getD_eq_getElem?_getD, List.getElem?_eq_none (by omega)]
    decide
theorem of_l0 (S : List Ln) (hS : few_ok S) : ∀ (d i : Nat), i + d = S.length → Ev (fun k => jalousieref41_Of.l0 k S (i : Int)) (nxs (S.drop i))
  | 0, i, h => by
    refine ev_succ ?_
    simp only [jalousieref41_Of.l0]
    (repeat (first | refine ev_pos (by omega) ?_ | refine ev_neg (by omega) ?_))
    rw [List.drop_eq_nil_of_le (by omega)]
    exact ev_some rfl
  | d + 1, i, h => by
    have ih := of_l0 S hS d (i + 1) (by omega)
    have hl := hS.1
    refine ev_succ ?_
    simp only [jalousieref41_Of.l0]
    rw [w64s i (by omega), rd_ln]
    (repeat (first | refine ev_pos (by omega) ?_ | refine ev_neg (by omega) ?_))
    rw [drop_cons S i (by omega) z26]
    unfold nxs
    refine Ev.bind (ref_bare_ev _ (few_get hS i)) ?_
    by_cases c : br (S.getD i z26).f0 = true
    · rw [if_pos c]
      exact ev_pos c ih
    · rw [if_neg c]
      refine ev_neg c ?_
      exact Ev.bind (ref_inset_ev _ (few_get hS i)) (ev_some rfl)
def vv (S : List Ln) (i : Nat) : Int := nxs (S.drop i)
def bb (S : List Ln) (i : Nat) : Bool := br (S.getD i z26).f0
theorem of_ev (S : List Ln) (hS : few_ok S) (i : Nat) (hi : i ≤ S.length) : Ev (fun k => jalousieref41_Of.f k S (i : Int)) (vv S i) := of_l0 S hS (S.length - i) i (by omega)
def vs (S : List Ln) : List Int := (List.range S.length).map (vv S)
theorem vs_len (S : List Ln) : (vs S).length = S.length := by simp [vs]
theorem vs_get (S : List Ln) (i : Nat) (h : i < S.length) : (vs S).getD i 0 = vv S i := by
  rw [getD_lt (by rw [vs_len]; exact h)]
  simp [vs]
theorem nx_eq (k : Nat) : ∀ (l : List Ln), (∀ x ∈ l, x.f0.size ≤ 1000000 ∧ fold_Inset.f k x.f0 = some (ins x.f0)) → fold_insets.nx k l = nxs l
  | [], _ => rfl
  | x :: l, h => by
    have h1 := h x (List.mem_cons_self ..)
    unfold fold_insets.nx nxs
    rw [bare_eq _ h1.1, h1.2, nx_eq k l (fun y hy => h y (List.mem_cons_of_mem _ hy))]
    rfl
theorem inset_all : ∀ (l : List Ln), (∀ x ∈ l, x.f0.size ≤ 1000000) → ∃ K, ∀ k, K ≤ k → ∀ x ∈ l, fold_Inset.f k x.f0 = some (ins x.f0)
  | [], _ => ⟨0, fun _ _ x hx => by cases hx⟩
  | x :: l, h => by
    obtain ⟨K1, h1⟩ := inset_all l (fun y hy => h y (List.mem_cons_of_mem _ hy))
    obtain ⟨K2, h2⟩ := inset_ev x.f0 (h x (List.mem_cons_self ..))
    refine ⟨max K1 K2, fun k hk y hy => ?_⟩
    rcases List.mem_cons.1 hy with rfl | hy
    · exact h2 k (by omega)
    · exact h1 k (by omega) y hy
theorem insets_ev (S : List Ln) (hS : few_ok S) : Ev (fun k => fold_insets.f k S) (vs S) := by
  have hz : ∀ x ∈ S, x.f0.size ≤ 1000000 := fun x hx => by have := hS.2 x hx; omega
  obtain ⟨K, hK⟩ := inset_all S hz
  refine ⟨K, fun k hk => ?_⟩
  have hl := hS.1
  show fold_insets.f k S = some (vs S)
  unfold fold_insets.f
  rw [if_pos ⟨by omega, List.all_eq_true.2 fun x hx => by unfold fold_insets.okB; rw [bare_eq _ (hz x hx), hK k hk x hx]; rfl⟩]
  congr 1
  unfold fold_insets.out vs vv
  exact List.map_congr_left fun i _ => nx_eq k _ fun x hx => ⟨hz x (List.mem_of_mem_drop hx), hK k hk x (List.mem_of_mem_drop hx)⟩
/-! ### parents: by looking at all before -/
/-- The last before m that has a text and is less far in than x. -/
def parU (v : Nat → Int) (b : Nat → Bool) (x : Int) : Nat → Int
  | 0 => -1
  | m + 1 => if b m = false ∧ v m < x then (m : Int) else parU v b x m
theorem parU_none {v : Nat → Int} {b : Nat → Bool} {x : Int} : ∀ {i : Nat}, (∀ k, k < i → ¬ (b k = false ∧ v k < x)) → parU v b x i = -1
  | 0, _ => rfl
  | i + 1, h => by
    unfold parU
    rw [if_neg (h i (by omega))]
    exact parU_none fun k hk => h k (by omega)
theorem parU_at {v : Nat → Int} {b : Nat → Bool} {x : Int} {p : Nat} (hb : b p = false) (hv : v p < x) : ∀ {i : Nat}, p < i → (∀ k, p < k → k < i → ¬ (b k = false ∧ v k < x)) → parU v b x i = (p : Int)
  | 0, h, _ => by omega
  | i + 1, h, hn => by
    unfold parU
    by_cases e : p = i
    · subst e
      rw [if_pos ⟨hb, hv⟩]
    · rw [if_neg (hn i (by omega) (by omega))]
      exact parU_at hb hv (by omega) fun k h1 h2 => hn k h1 (by omega)
theorem parU_lt (v : Nat → Int) (b : Nat → Bool) (x : Int) : ∀ i, -1 ≤ parU v b x i ∧ parU v b x i < max (i : Int) 0
  | 0 => by simp [parU]
  | i + 1 => by
    have := parU_lt v b x i
    unfold parU
    split <;> omega
/-- A line's parent is a line with a text, less far in. -/
theorem parU_is (v : Nat → Int) (b : Nat → Bool) (x : Int) : ∀ i, parU v b x i = -1 ∨ ∃ p : Nat, parU v b x i = (p : Int) ∧ p < i ∧ b p = false ∧ v p < x
  | 0 => .inl rfl
  | i + 1 => by
    unfold parU
    split
    · rename_i h
      exact .inr ⟨i, rfl, by omega, h.1, h.2⟩
    · rcases parU_is v b x i with h | ⟨p, h1, h2, h3, h4⟩
      · exact .inl h
      · exact .inr ⟨p, h1, by omega, h3, h4⟩
def pa (S : List Ln) (i : Nat) : Int := parU (vv S) (bb S) (vv S i) i
def pas (S : List Ln) (i : Nat) : List Int := (List.range i).map (pa S)
theorem pas_len (S : List Ln) (i : Nat) : (pas S i).length = i := by simp [pas]
theorem pas_succ (S : List Ln) (i : Nat) : pas S (i + 1) = pas S i ++ [pa S i] := by simp [pas, List.range_succ]
theorem pas_get (S : List Ln) (n i : Nat) (h : i < n) : (pas S n).getD i 0 = pa S i := by
  rw [getD_lt (by rw [pas_len]; exact h)]
  simp [pas]
theorem ref_l1 (S : List Ln) (hS : few_ok S) (out : List Int) (ho : out.length ≤ 1000) (i : Nat) (hi : i < S.length) {r : List Int}
    (hk : Ev (fun k => jalousieref41_Parents.l0 k S (out ++ [pa S i]) ((i + 1 : Nat) : Int)) r) :
    ∀ (d j : Nat), j + d = i → Ev (fun k => jalousieref41_Parents.l1 k S out (i : Int) (parU (vv S) (bb S) (vv S i) j) (j : Int)) r
  | 0, j, h => by
    obtain rfl : j = i := by omega
    have hl := hS.1
    refine ev_succ ?_
    simp only [jalousieref41_Parents.l1]
    rw [w64s j (by omega)]
    (repeat (first | refine ev_pos (by omega) ?_ | refine ev_neg (by omega) ?_))
    exact hk
  | d + 1, j, h => by
    have ih := ref_l1 S hS out ho i hi hk d (j + 1) (by omega)
    have hl := hS.1
    refine ev_succ ?_
    simp only [jalousieref41_Parents.l1]
    rw [w64s j (by omega), rd_ln]
    (repeat (first | refine ev_pos (by omega) ?_ | refine ev_neg (by omega) ?_))
    refine Ev.bind (ref_bare_ev _ (few_get hS j)) ?_
    unfold parU at ih
    by_cases c : bb S j = true
    · rw [if_neg (by rw [c]; simp)] at ih
      exact ev_pos c ih
    · refine ev_neg c ?_
      refine Ev.bind (of_ev S hS j (by omega)) ?_
      refine Ev.bind (of_ev S hS i (by omega)) ?_
      by_cases c2 : vv S j < vv S i
      · rw [if_pos ⟨by simpa using c, c2⟩] at ih
        exact ev_pos c2 ih
      · rw [if_neg (fun h => c2 h.2)] at ih
        exact ev_neg c2 ih
theorem ref_l0 (S : List Ln) (hS : few_ok S) : ∀ (d i : Nat), i + d = S.length → Ev (fun k => jalousieref41_Parents.l0 k S (pas S i) (i : Int)) (pas S S.length)
  | 0, i, h => by
    obtain rfl : i = S.length := by omega
    refine ev_succ ?_
    simp only [jalousieref41_Parents.l0]
    (repeat (first | refine ev_pos (by omega) ?_ | refine ev_neg (by omega) ?_))
    exact ev_some rfl
  | d + 1, i, h => by
    have ih := ref_l0 S hS d (i + 1) (by omega)
    have hl := hS.1
    refine ev_succ ?_
    simp only [jalousieref41_Parents.l0]
    (repeat (first | refine ev_pos (by omega) ?_ | refine ev_neg (by omega) ?_))
    refine ref_l1 S hS (pas S i) (by rw [pas_len]; omega) i (by omega) ?_ i 0 (by omega)
    rw [← pas_succ]
    exact ih
theorem ref_parents_ev (S : List Ln) (hS : few_ok S) : Ev (fun k => jalousieref41_Parents.f k S) (pas S S.length) := ref_l0 S hS S.length 0 (by omega)
/-! ### parents: by the lines that may be parents -/
structure Opn (v : Nat → Int) (b : Nat → Bool) (i : Nat) (T : List Nat) : Prop where
  len : T.length ≤ i
  lt : ∀ m, m < T.length → T.getD m 0 < i
  nb : ∀ m, m < T.length → b (T.getD m 0) = false
  inc : ∀ m m', m < m' → m' < T.length → T.getD m 0 < T.getD m' 0
  all : ∀ k, k < i → b k = false → ∃ m, m < T.length ∧ k ≤ T.getD m 0 ∧ v (T.getD m 0) ≤ v k
theorem Opn.none (v : Nat → Int) (b : Nat → Bool) : Opn v b 0 [] := ⟨by simp, fun m h => by simp at h, fun m h => by simp at h, fun m m' _ h => by simp at h, fun k h => by omega⟩
theorem Opn.skip {v : Nat → Int} {b : Nat → Bool} {i : Nat} {T : List Nat} (h : Opn v b i T) (hb : b i = true) : Opn v b (i + 1) T :=
  ⟨by have := h.len; omega, fun m hm => by have := h.lt m hm; omega, h.nb, h.inc, fun k hk hk2 => h.all k (by
    by_cases e : k = i
    · subst e; rw [hb] at hk2; cases hk2
    · omega) hk2⟩
theorem put_get (T : List Nat) (n i m : Nat) (hn : n ≤ T.length) : (T.take n ++ [i]).getD m 0 = if m < n then T.getD m 0 else if m = n then i else 0 := by
  rw [List.getD_eq_getElem?_getD, List.getD_eq_getElem?_getD]
  split
  · rename_i h
    rw [List.getElem?_append_left (by simp; omega), List.getElem?_take, if_pos h]
  · rw [List.getElem?_append_right (by simp; omega)]
    split
    · rename_i h1 h2
      subst h2
      simp [hn]
    · rename_i h1 h2
      rw [List.getElem?_eq_none (by simp; omega)]
      rfl
theorem Opn.put {v : Nat → Int} {b : Nat → Bool} {i n : Nat} {T : List Nat} (h : Opn v b i T) (hb : b i = false) (hn : n ≤ T.length) (hp : ∀ m, n ≤ m → m < T.length → v i ≤ v (T.getD m 0)) : Opn v b (i + 1) (T.take n ++ [i]) := by
  have hl : (T.take n ++ [i]).length = n + 1 := by simp [hn]
  have h0 := h.len
  refine ⟨by omega, fun m hm => ?_, fun m hm => ?_, fun m m' h1 hm => ?_, fun k hk hk2 => ?_⟩
  · rw [put_get T n i m hn]
    split
    · have := h.lt m (by omega); omega
    · split <;> omega
  · rw [put_get T n i m hn]
    split
    · exact h.nb m (by omega)
    · rw [if_pos (by omega)]; exact hb
  · rw [put_get T n i m hn, put_get T n i m' hn, if_pos (by omega)]
    split
    · exact h.inc m m' h1 (by omega)
    · rw [if_pos (by omega)]; exact h.lt m (by omega)
  · have last : (T.take n ++ [i]).getD n 0 = i := by rw [put_get T n i n hn, if_neg (by omega), if_pos rfl]
    by_cases e : k = i
    · subst e
      exact ⟨n, by omega, by rw [last]; omega, by rw [last]; omega⟩
    · obtain ⟨m, h1, h2, h3⟩ := h.all k (by omega) hk2
      by_cases e2 : m < n
      · refine ⟨m, by omega, ?_, ?_⟩ <;> rw [put_get T n i m hn, if_pos e2]
        · exact h2
        · exact h3
      · have := hp m (by omega) h1
        exact ⟨n, by omega, by rw [last]; omega, by rw [last]; omega⟩
theorem Opn.par {v : Nat → Int} {b : Nat → Bool} {i n : Nat} {T : List Nat} {x : Int} (h : Opn v b i T) (hn : n ≤ T.length) (hp : ∀ m, n ≤ m → m < T.length → x ≤ v (T.getD m 0)) (ht : n = 0 ∨ v (T.getD (n - 1) 0) < x) :
    parU v b x i = if n = 0 then -1 else ((T.getD (n - 1) 0 : Nat) : Int) := by
  split
  · rename_i e
    refine parU_none fun k hk hc => ?_
    obtain ⟨m, h1, h2, h3⟩ := h.all k hk hc.1
    have := hp m (by omega) h1
    omega
  · rename_i e
    have ht : v (T.getD (n - 1) 0) < x := by rcases ht with ht | ht; exact absurd ht e; exact ht
    refine parU_at (h.nb (n - 1) (by omega)) ht (h.lt (n - 1) (by omega)) fun k hk1 hk2 hc => ?_
    obtain ⟨m, h1, h2, h3⟩ := h.all k hk2 hc.1
    by_cases e2 : m < n
    · have : T.getD m 0 ≤ T.getD (n - 1) 0 := by
        by_cases e3 : m = n - 1
        · rw [e3]; exact Nat.le_refl _
        · exact Nat.le_of_lt (h.inc m (n - 1) (by omega) (by omega))
      omega
    · have := hp m (by omega) h1
      omega
def ints (T : List Nat) : List Int := List.map (fun n : Nat => (n : Int)) T
theorem ints_len (T : List Nat) : (ints T).length = T.length := by simp [ints]
theorem ints_get (T : List Nat) (i : Nat) (h : i < T.length) : (ints T).getD i 0 = ((T.getD i 0 : Nat) : Int) := by
  rw [getD_lt (by rw [ints_len]; exact h), getD_lt h]
  simp [ints]
theorem pops (S : List Ln) (hS : few_ok S) (out : List Int) (T : List Nat) (i : Nat) (hi : i < S.length) (hT : Opn (vv S) (bb S) i T) (s : ByteArray) (q : Bool) :
    ∀ n : Nat, n ≤ T.length → (∀ m, n ≤ m → m < T.length → vv S i ≤ vv S (T.getD m 0)) → ∃ n' : Nat, n' ≤ T.length ∧ (∀ m, n' ≤ m → m < T.length → vv S i ≤ vv S (T.getD m 0)) ∧ (n' = 0 ∨ vv S (T.getD (n' - 1) 0) < vv S i) ∧
      ∀ r, Ev (fun k => fold_Parents.j2 k (vs S) out (ints T) (i : Int) (n' : Int) S (S.length : Int) (i : Int) s q) r → Ev (fun k => fold_Parents.l1 k (vs S) out (ints T) (i : Int) (n : Int) S (S.length : Int) (i : Int) s q) r
  | 0, hn, hp => ⟨0, hn, hp, .inl rfl, fun r hr => by
      refine ev_succ ?_
      simp only [fold_Parents.l1]
      (repeat (first | refine ev_pos (by omega) ?_ | refine ev_neg (by omega) ?_))
      exact hr⟩
  | n + 1, hn, hp => by
    have hl := hS.1
    have h0 := hT.len
    have h1 := hT.lt n (by omega)
    by_cases c : vv S (T.getD n 0) ≥ vv S i
    · obtain ⟨n', a1, a2, a3, a4⟩ := pops S hS out T i hi hT s q n (by omega) (fun m hm hm2 => by
        by_cases e : m = n
        · subst e; exact c
        · exact hp m (by omega) hm2)
      refine ⟨n', a1, a2, a3, fun r hr => ?_⟩
      refine ev_succ ?_
      simp only [fold_Parents.l1]
      rw [show wrap64 (((n + 1 : Nat) : Int) - 1) = (n : Int) by rw [w64i _ (by omega) (by omega)]; omega, rdn (ints T), ints_get T n (by omega), rdn, rdn, vs_get S _ (by omega), vs_get S i hi, vs_len, ints_len]
      (repeat (first | refine ev_pos (by omega) ?_ | refine ev_neg (by omega) ?_))
      exact a4 r hr
    · refine ⟨n + 1, hn, hp, .inr (by rw [Nat.add_sub_cancel]; omega), fun r hr => ?_⟩
      refine ev_succ ?_
      simp only [fold_Parents.l1]
      rw [show wrap64 (((n + 1 : Nat) : Int) - 1) = (n : Int) by rw [w64i _ (by omega) (by omega)]; omega, rdn (ints T), ints_get T n (by omega), rdn, rdn, vs_get S _ (by omega), vs_get S i hi, vs_len, ints_len]
      (repeat (first | refine ev_pos (by omega) ?_ | refine ev_neg (by omega) ?_))
      exact hr
theorem par_l0 (S : List Ln) (hS : few_ok S) : ∀ (d i : Nat) (T : List Nat), i + d = S.length → Opn (vv S) (bb S) i T → Ev (fun k => fold_Parents.l0 k (vs S) (pas S i) (ints T) S (S.length : Int) (i : Int)) (pas S S.length)
  | 0, i, T, h, hT => by
    obtain rfl : i = S.length := by omega
    refine ev_succ ?_
    simp only [fold_Parents.l0]
    (repeat (first | refine ev_pos (by omega) ?_ | refine ev_neg (by omega) ?_))
    exact ev_some rfl
  | d + 1, i, T, h, hT => by
    have hl := hS.1
    have h0 := hT.len
    refine ev_succ ?_
    simp only [fold_Parents.l0]
    rw [rd_ln, ints_len]
    (repeat (first | refine ev_pos (by omega) ?_ | refine ev_neg (by omega) ?_))
    obtain ⟨n, a1, a2, a3, a4⟩ := pops S hS (pas S i) T i (by omega) hT (S.getD i z26).f0 (S.getD i z26).f1 T.length (Nat.le_refl _) (fun m h1 h2 => by omega)
    refine a4 _ ?_
    have hp := hT.par (x := vv S i) a1 a2 a3
    have hpa : pa S i = if n = 0 then -1 else ((T.getD (n - 1) 0 : Nat) : Int) := hp
    refine ev_succ ?_
    simp only [fold_Parents.j2]
    have hpl := pas_len S i
    have hlen : ((ints T).take ((n : Nat) : Int).toNat).length = n := by rw [List.length_take, ints_len, Int.toNat_natCast]; omega
    have htk : (ints T).take ((n : Nat) : Int).toNat ++ [(i : Int)] = ints (T.take n ++ [i]) := by simp [ints, List.map_take]
    by_cases c0 : n = 0
    · rw [if_pos c0] at hpa
      (repeat (first | refine ev_pos (by omega) ?_ | refine ev_neg (by omega) ?_))
      refine ev_bind rfl ?_
      rw [show pas S i ++ [-1] = pas S (i + 1) by rw [pas_succ, hpa], w64s i (by omega)]
      refine ev_bind (bare_eq _ (few_get hS i)) ?_
      by_cases c : bb S i = true
      · refine ev_pos c ?_
        exact par_l0 S hS d (i + 1) T (by omega) (hT.skip c)
      · refine ev_neg c ?_
        rw [ints_len]
        refine ev_pos (by omega) ?_
        refine ev_pos (by omega) ?_
        refine ev_bind rfl ?_
        refine ev_pos (by omega) ?_
        rw [htk]
        exact par_l0 S hS d (i + 1) _ (by omega) (hT.put (by simpa using c) a1 a2)
    · rw [if_neg c0] at hpa
      rw [show wrap64 ((n : Int) - 1) = ((n - 1 : Nat) : Int) by rw [w64i _ (by omega) (by omega)]; omega, rdn, ints_get T (n - 1) (by omega), ints_len]
      (repeat (first | refine ev_pos (by omega) ?_ | refine ev_neg (by omega) ?_))
      refine ev_bind rfl ?_
      rw [show pas S i ++ [((T.getD (n - 1) 0 : Nat) : Int)] = pas S (i + 1) by rw [pas_succ, hpa], w64s i (by omega)]
      refine ev_bind (bare_eq _ (few_get hS i)) ?_
      by_cases c : bb S i = true
      · refine ev_pos c ?_
        exact par_l0 S hS d (i + 1) T (by omega) (hT.skip c)
      · refine ev_neg c ?_
        refine ev_pos (by omega) ?_
        refine ev_pos (by omega) ?_
        refine ev_bind rfl ?_
        refine ev_pos (by omega) ?_
        rw [htk]
        exact par_l0 S hS d (i + 1) _ (by omega) (hT.put (by simpa using c) a1 a2)
theorem parents_ev (S : List Ln) (hS : few_ok S) : Ev (fun k => fold_Parents.f k S) (pas S S.length) := by
  unfold fold_Parents.f
  refine Ev.bind (insets_ev S hS) ?_
  exact par_l0 S hS S.length 0 [] (by omega) (Opn.none _ _)
/-- Parents are parents. -/
theorem ck_pas (S : List Ln) (n : Nat) : ck (pas S n) = 0 := by
  unfold ck
  have H : ∀ (d i : Nat), i + d = n → cks (pas S n) i d = 0 := by
    intro d
    induction d with
    | zero => intro i _; rfl
    | succ d ih =>
      intro i h
      unfold cks
      have h1 := parU_lt (vv S) (bb S) (vv S i) i
      rw [if_pos (by unfold okAt; rw [pas_get S n i (by omega), decide_eq_true_iff]; unfold pa; omega)]
      exact ih (i + 1) (by omega)
  rw [pas_len]
  exact H n 0 (by omega)
end Go.Proofs.YtcmnofbpcmnnhaaDoor.F
namespace Go.Proofs.YtcmnofbpcmnnhaaDoor.F
open Go.RowKit Go.Proofs.YtcmnofbpcmnnhaaDoorW.PrintWords Go.Proofs.YtcmnofbpcmnnhaaDoorW.PrintLast Go.Proofs.YtcmnofbpcmnnhaaDoorW.PrintMore
set_option linter.unusedVariables false
set_option linter.unusedSimpArgs false
/-- From p up: p, its parent, and so on. -/
def anc (P : List Int) : Nat → Int → List Int
  | 0, _ => []
  | f + 1, p => if p ≥ 0 then p :: anc P f (P.getD p.toNat 0) else []
theorem anc_fuel {P : List Int} (hP : ck P = 0) : ∀ (f g : Nat) (p : Int), p < (f : Int) → p < (g : Int) → p < (P.length : Int) → anc P f p = anc P g p
  | 0, 0, p, _, _, _ => rfl
  | 0, g + 1, p, h1, _, _ => by simp only [anc]; rw [if_neg (by omega)]
  | f + 1, 0, p, _, h2, _ => by simp only [anc]; rw [if_neg (by omega)]
  | f + 1, g + 1, p, h1, h2, h3 => by
    simp only [anc]
    by_cases h0 : p ≥ 0
    · have := ck_ok hP p.toNat (by omega)
      rw [if_pos h0, if_pos h0, anc_fuel hP f g _ (by omega) (by omega) (by omega)]
    · rw [if_neg h0, if_neg h0]
theorem anc_len (P : List Int) : ∀ (f : Nat) (p : Int), (anc P f p).length ≤ f
  | 0, _ => Nat.le_refl _
  | f + 1, p => by
    simp only [anc]
    split
    · have := anc_len P f (P.getD p.toNat 0)
      rw [List.length_cons]
      omega
    · exact Nat.zero_le _
/-! ### levels -/
def dep (P : List Int) (i : Nat) : Int := ((anc P P.length (P.getD i 0)).length : Nat)
def lv (P : List Int) (i : Nat) : List Int := (List.range i).map (dep P)
theorem lv_succ (P : List Int) (i : Nat) : lv P (i + 1) = lv P i ++ [dep P i] := by
  unfold lv
  rw [List.range_succ, List.map_append]
  rfl
theorem lv_len (P : List Int) (i : Nat) : (lv P i).length = i := by simp [lv]
theorem dep_up {P : List Int} (hc : ck P = 0) (i p : Nat) (hi : i < P.length) (hp : P.getD i 0 = (p : Int)) : dep P i = dep P p + 1 := by
  have h1 := ck_ok hc i hi
  have h2 := ck_ok hc p (by omega)
  unfold dep
  rw [hp, show anc P P.length (p : Int) = anc P (P.length - 1 + 1) (p : Int) by rw [Nat.sub_add_cancel (by omega)]]
  simp only [anc]
  rw [if_pos (by omega), Int.toNat_natCast, List.length_cons, anc_fuel hc (P.length - 1) P.length _ (by omega) (by omega) (by omega)]
  omega
theorem dep_top {P : List Int} (i : Nat) (hi : i < P.length) (hp : P.getD i 0 < 0) : dep P i = 0 := by
  unfold dep
  rw [show anc P P.length (P.getD i 0) = anc P (P.length - 1 + 1) (P.getD i 0) by rw [Nat.sub_add_cancel (by omega)]]
  simp only [anc]
  rw [if_neg (by omega)]
  rfl
theorem levels_l0 {P : List Int} (hc : ck P = 0) (hs : P.length ≤ 60) : ∀ d i : Nat, i + d = P.length → Ev (fun k => fold_Levels.l0 k (lv P i ++ List.replicate d 0) P (P.length : Int) (i : Int)) (lv P P.length)
  | 0, i, h => by
    obtain rfl : i = P.length := by omega
    refine ev_succ ?_
    simp only [fold_Levels.l0]
    (repeat (first | refine ev_pos (by omega) ?_ | refine ev_neg (by omega) ?_))
    exact ev_some (by simp)
  | d + 1, i, h => by
    have ih := levels_l0 hc hs d (i + 1) (by omega)
    have hl := lv_len P i
    have hlen : (lv P i ++ List.replicate (d + 1) (0 : Int)).length = P.length := by rw [List.length_append, hl, List.length_replicate]; omega
    have ho := ck_ok hc i (by omega)
    rw [lv_succ, List.append_assoc] at ih
    refine ev_succ ?_
    simp only [fold_Levels.l0]
    rw [w64s i (by omega), rdn]
    (repeat (first | refine ev_pos (by omega) ?_ | refine ev_neg (by omega) ?_))
    by_cases h1 : P.getD i 0 ≥ 0
    · obtain ⟨p, hp⟩ : ∃ p : Nat, P.getD i 0 = p := ⟨(P.getD i 0).toNat, by omega⟩
      rw [dep_up hc i p (by omega) hp] at ih
      rw [hp] at h1 ho ⊢
      (repeat (first | refine ev_pos (by omega) ?_ | refine ev_neg (by omega) ?_))
      have hd : rd (lv P i ++ List.replicate (d + 1) (0 : Int)) (p : Int) = dep P p := by
        rw [rdn, List.getD_eq_getElem?_getD, List.getElem?_append_left (by omega)]
        unfold lv
        rw [List.getElem?_map, List.getElem?_range (by omega)]
        rfl
      have hb : dep P p ≤ 60 := by
        unfold dep
        have := anc_len P P.length (P.getD p 0)
        omega
      have hb2 : 0 ≤ dep P p := by unfold dep; omega
      rw [hd, w64i _ (by omega) (by omega), Int.toNat_natCast]
      have hset : (lv P i ++ List.replicate (d + 1) (0 : Int)).set i (dep P p + 1) = lv P i ++ ([dep P p + 1] ++ List.replicate d 0) := by
        rw [List.set_append_right _ _ (by omega), hl, Nat.sub_self, List.replicate_succ]
        rfl
      rw [hset]
      exact ih
    · rw [dep_top i (by omega) (by omega)] at ih
      (repeat (first | refine ev_pos (by omega) ?_ | refine ev_neg (by omega) ?_))
      rw [List.replicate_succ]
      exact ih
def lvr (P : List Int) : List Int := if ck P = 0 then lv P P.length else []
theorem levels_ev (P : List Int) (hs : P.length ≤ 60) : Ev (fun k => fold_Levels.f k P) (lvr P) := by
  unfold fold_Levels.f lvr
  refine Ev.bind (check_ev P (by omega)) ?_
  by_cases hc : ck P = 0
  · rw [if_pos hc]
    refine ev_pos hc ?_
    rw [Int.toNat_natCast]
    (repeat (first | refine ev_pos (by omega) ?_ | refine ev_neg (by omega) ?_))
    exact levels_l0 hc hs P.length 0 (by omega)
  · rw [if_neg hc]
    exact ev_neg hc (ev_some rfl)
/-! ### the lines that are shown -/
abbrev Fo := S44
theorem rd_fo (l : List Fo) (i : Nat) : rd_T44 l (i : Int) = l.getD i z44 := by simp [rd_T44]
/-- Folds that tile the lines from s to e. -/
def Tile (L : Nat → Int) (x : Int) : List Fo → Nat → Nat → Prop
  | [], s, e => s = e
  | a :: A, s, e => ∃ h : Nat, a = ⟨(s : Int), (h : Int)⟩ ∧ L s < x ∧ (∀ q, s < q → q < s + 1 + h → ¬ L q < x) ∧ Tile L x A (s + 1 + h) e
theorem Tile.le {L : Nat → Int} {x : Int} : ∀ {A : List Fo} {s e : Nat}, Tile L x A s e → s ≤ e
  | [], s, e, h => Nat.le_of_eq h
  | a :: A, s, e, ⟨h, _, _, _, ht⟩ => by have := Tile.le ht; omega
theorem Tile.put {L : Nat → Int} {x : Int} : ∀ {A : List Fo} {s e : Nat}, Tile L x A s e → L e < x → Tile L x (A ++ [(⟨(e : Int), 0⟩ : Fo)]) s (e + 1)
  | [], s, e, h, hx => by
    obtain rfl : s = e := h
    exact ⟨0, rfl, hx, fun q h1 h2 => by omega, rfl⟩
  | a :: A, s, e, ⟨h, h1, h2, h3, ht⟩, hx => ⟨h, h1, h2, h3, Tile.put ht hx⟩
/-- The last, if there is one. -/
theorem Tile.last {L : Nat → Int} {x : Int} : ∀ {A : List Fo} {s e : Nat}, Tile L x A s e → s < e → ∃ (B : List Fo) (s' h : Nat), A = B ++ [(⟨(s' : Int), (h : Int)⟩ : Fo)] ∧ s' + 1 + h = e
  | [], s, e, h, hs => by
    have : s = e := h
    omega
  | a :: A, s, e, ⟨h, h1, h2, h3, ht⟩, hs => by
    by_cases c : s + 1 + h < e
    · obtain ⟨B, s', h', e1, e2⟩ := Tile.last ht c
      exact ⟨a :: B, s', h', by rw [e1]; rfl, e2⟩
    · have := Tile.le ht
      have e0 : s + 1 + h = e := by omega
      cases A with
      | nil => exact ⟨[], s, h, by rw [h1]; rfl, e0⟩
      | cons b A =>
        obtain ⟨h', _, _, _, ht'⟩ := ht
        have := Tile.le ht'
        omega
theorem Tile.bump {L : Nat → Int} {x : Int} : ∀ {B : List Fo} {s e s' h : Nat}, Tile L x (B ++ [(⟨(s' : Int), (h : Int)⟩ : Fo)]) s e → ¬ L e < x → Tile L x (B ++ [(⟨(s' : Int), ((h + 1 : Nat) : Int)⟩ : Fo)]) s (e + 1)
  | [], s, e, s', h, ⟨h', h1, h2, h3, ht⟩, hx => by
    have ht : s + 1 + h' = e := ht
    injection h1 with h1 h1'
    obtain rfl : s' = s := by omega
    obtain rfl : h = h' := by omega
    exact ⟨h + 1, rfl, h2, fun q q1 q2 => by
      by_cases c : q = e
      · subst c; exact hx
      · exact h3 q q1 (by omega), by show s' + 1 + (h + 1) = e + 1; omega⟩
  | b :: B, s, e, s', h, ⟨h', h1, h2, h3, ht⟩, hx => ⟨h', h1, h2, h3, Tile.bump ht hx⟩
/-- The lines that are shown of the first i. -/
def hds (L : Nat → Int) (x : Int) : Nat → List Fo
  | 0 => []
  | i + 1 => if L i < x then hds L x i ++ [(⟨(i : Int), 0⟩ : Fo)] else (hds L x i).set ((hds L x i).length - 1) ⟨((hds L x i).getD ((hds L x i).length - 1) z44).f0, ((hds L x i).getD ((hds L x i).length - 1) z44).f1 + 1⟩
theorem hds_tile (L : Nat → Int) (x : Int) (h0 : L 0 < x) : ∀ i, Tile L x (hds L x i) 0 i
  | 0 => rfl
  | i + 1 => by
    have ih := hds_tile L x h0 i
    unfold hds
    by_cases c : L i < x
    · rw [if_pos c]
      exact ih.put c
    · rw [if_neg c]
      have hi : 0 < i := by
        rcases Nat.eq_zero_or_pos i with e | e
        · rw [e] at c; exact absurd h0 c
        · exact e
      obtain ⟨B, s', h, e1, e2⟩ := ih.last hi
      rw [e1] at ih ⊢
      have hl : (B ++ [(⟨(s' : Int), (h : Int)⟩ : Fo)]).length - 1 = B.length := by simp
      have hg : (B ++ [(⟨(s' : Int), (h : Int)⟩ : Fo)]).getD B.length z44 = ⟨(s' : Int), (h : Int)⟩ := by
        rw [List.getD_eq_getElem?_getD, List.getElem?_append_right (Nat.le_refl _), Nat.sub_self]
        rfl
      rw [hl, hg, List.set_append_right _ _ (Nat.le_refl _), Nat.sub_self]
      exact ih.bump c
theorem hds_len_le (L : Nat → Int) (x : Int) : ∀ i, (hds L x i).length ≤ i
  | 0 => Nat.le_refl _
  | i + 1 => by
    have := hds_len_le L x i
    unfold hds
    split
    · simp; omega
    · rw [List.length_set]; omega
theorem hds_mono (L : Nat → Int) (x y : Int) (h : x ≤ y) : ∀ i, (hds L x i).length ≤ (hds L y i).length
  | 0 => Nat.le_refl _
  | i + 1 => by
    have := hds_mono L x y h i
    unfold hds
    by_cases c : L i < x
    · rw [if_pos c, if_pos (by omega)]
      simp; omega
    · rw [if_neg c, List.length_set]
      split
      · simp; omega
      · rw [List.length_set]; exact this
/-- A line's depth. -/
def lvl (S : List Ln) (i : Nat) : Int := dep (pas S S.length) i
theorem lvl_zero (S : List Ln) (x : Int) (hx : 1 ≤ x) : lvl S 0 < x := by
  unfold lvl
  by_cases h : 0 < S.length
  · rw [dep_top 0 (by rw [pas_len]; exact h) (by rw [pas_get S _ 0 h]; show (-1 : Int) < 0; omega)]
    omega
  · unfold dep
    rw [pas_len, show S.length = 0 by omega]
    exact hx
theorem hide_l0 (S : List Ln) (hS : few_ok S) (x : Int) (hx : 1 ≤ x) : ∀ (d i : Nat), i + d = S.length → Ev (fun k => fold_Hide.l0 k x (hds (lvl S) x i) (lv (pas S S.length) S.length) (S.length : Int) (i : Int)) (hds (lvl S) x S.length, 0)
  | 0, i, h => by
    obtain rfl : i = S.length := by omega
    refine ev_succ ?_
    simp only [fold_Hide.l0]
    (repeat (first | refine ev_pos (by omega) ?_ | refine ev_neg (by omega) ?_))
    exact ev_some rfl
  | d + 1, i, h => by
    have hl := hS.1
    have hn := hds_len_le (lvl S) x i
    have ih := hide_l0 S hS x hx d (i + 1) (by omega)
    have hg : (lv (pas S S.length) S.length).getD i 0 = lvl S i := by
      rw [getD_lt (by rw [lv_len]; omega)]
      simp [lv, lvl]
    refine ev_succ ?_
    simp only [fold_Hide.l0]
    rw [w64s i (by omega), rdn, hg, lv_len]
    (repeat (first | refine ev_pos (by omega) ?_ | refine ev_neg (by omega) ?_))
    have ih2 := ih
    unfold hds at ih
    by_cases c : lvl S i < x
    · rw [if_pos c] at ih
      (repeat (first | refine ev_pos (by omega) ?_ | refine ev_neg (by omega) ?_))
      have ih := ih2
      rw [show hds (lvl S) x (i + 1) = hds (lvl S) x i ++ [(⟨(i : Int), 0⟩ : Fo)] by rw [hds, if_pos c]] at ih
      exact ih
    · (repeat (first | refine ev_pos (by omega) ?_ | refine ev_neg (by omega) ?_))
      have hi : 0 < i := by
        rcases Nat.eq_zero_or_pos i with e | e
        · rw [e] at c; exact absurd (lvl_zero S x hx) c
        · exact e
      obtain ⟨B, s', h', e1, e2⟩ := (hds_tile (lvl S) x (lvl_zero S x hx) i).last hi
      have hl2 : (hds (lvl S) x i).length = B.length + 1 := by rw [e1]; simp
      have hg2 : (hds (lvl S) x i).getD ((hds (lvl S) x i).length - 1) z44 = ⟨(s' : Int), (h' : Int)⟩ := by
        rw [hl2, e1, List.getD_eq_getElem?_getD, Nat.add_sub_cancel, List.getElem?_append_right (Nat.le_refl _), Nat.sub_self]
        rfl
      rw [show wrap64 (((hds (lvl S) x i).length : Int) - 1) = (((hds (lvl S) x i).length - 1 : Nat) : Int) by rw [w64i _ (by omega) (by omega)]; omega, rd_fo, hg2, Int.toNat_natCast]
      (repeat (first | refine ev_pos (by omega) ?_ | refine ev_neg (by omega) ?_))
      have ih := ih2
      rw [show hds (lvl S) x (i + 1) = (hds (lvl S) x i).set ((hds (lvl S) x i).length - 1) ⟨((hds (lvl S) x i).getD ((hds (lvl S) x i).length - 1) z44).f0, ((hds (lvl S) x i).getD ((hds (lvl S) x i).length - 1) z44).f1 + 1⟩ by rw [hds, if_neg c], hg2] at ih
      rw [show wrap64 ((⟨(s' : Int), (h' : Int)⟩ : Fo).f1 + 1) = (⟨(s' : Int), (h' : Int)⟩ : Fo).f1 + 1 from w64i _ (by show (-9223372036854775808 : Int) ≤ (h' : Int) + 1; omega) (by show (h' : Int) + 1 ≤ 9223372036854775807; omega)]
      exact ih
theorem hide_ev (S : List Ln) (hS : few_ok S) (x : Int) (hx : 1 ≤ x) (hx2 : x ≤ 16) : Ev (fun k => fold_Hide.f k S x) (hds (lvl S) x S.length, 0) := by
  have hl := hS.1
  have hc := ck_pas S S.length
  unfold fold_Hide.f
  refine ev_neg (by omega) ?_
  rw [decide_eq_false (by omega)]
  refine ev_succ ?_
  simp only [fold_Hide.j0]
  refine ev_neg (by simp) ?_
  refine Ev.bind (parents_ev S hS) ?_
  refine Ev.bind (levels_ev _ (by rw [pas_len]; omega)) ?_
  unfold lvr
  rw [if_pos hc, lv_len, pas_len]
  exact hide_l0 S hS x hx S.length 0 (by omega)
end Go.Proofs.YtcmnofbpcmnnhaaDoor.F
namespace Go.Proofs.YtcmnofbpcmnnhaaDoor.F
open Go.RowKit Go.Proofs.YtcmnofbpcmnnhaaDoorW.PrintWords Go.Proofs.YtcmnofbpcmnnhaaDoorW.PrintLast Go.Proofs.YtcmnofbpcmnnhaaDoorW.PrintMore
set_option linter.unusedVariables false
set_option linter.unusedSimpArgs false
theorem rdt (P : List Int) (p : Int) (h : 0 ≤ p) : rd P p = P.getD p.toNat 0 := by
  obtain ⟨q, rfl⟩ : ∃ q : Nat, p = q := ⟨p.toNat, by omega⟩
  rw [rdn, Int.toNat_natCast]
theorem ref_path_l0 {P : List Int} (hP : ck P = 0) (hs : P.length ≤ 60) : ∀ (f : Nat) (acc : List Int) (p : Int), p < (f : Int) → -1 ≤ p → p < (P.length : Int) → acc.length + f ≤ 1000 → Ev (fun k => jalousieref41_Path.l0 k P acc p) ((anc P f p).reverse ++ acc, 0)
  | f, acc, p, h1, h2, h3, h4 => by
    refine ev_succ ?_
    simp only [jalousieref41_Path.l0]
    by_cases h0 : p ≥ 0
    · obtain ⟨g, rfl⟩ : ∃ g, f = g + 1 := ⟨f - 1, by omega⟩
      have hc := ck_ok hP p.toNat (by omega)
      have ih := ref_path_l0 hP hs g ([p] ++ acc) (P.getD p.toNat 0) (by omega) (by omega) (by omega) (by rw [List.length_append, List.length_singleton]; omega)
      (repeat (first | refine ev_pos (by omega) ?_ | refine ev_neg (by omega) ?_))
      refine ev_bind rfl ?_
      have hl : ([p] : List Int).length = 1 := rfl
      (repeat (first | refine ev_pos (by omega) ?_ | refine ev_neg (by omega) ?_))
      rw [rdt P p h0]
      simp only [anc]
      rw [if_pos h0]
      simpa [List.append_assoc] using ih
    · (repeat (first | refine ev_pos (by omega) ?_ | refine ev_neg (by omega) ?_))
      have e : anc P f p = [] := by
        cases f with
        | zero => rfl
        | succ g => simp only [anc]; rw [if_neg h0]
      rw [e]
      exact ev_some rfl
termination_by f => f
/-- The answer of both Paths. -/
def pth (P : List Int) (i : Int) : List Int × Int := if ck P = 0 then (if 0 ≤ i ∧ i < (P.length : Int) then ((anc P P.length (P.getD i.toNat 0)).reverse, 0) else ([], 2)) else ([], ck P)
theorem ref_path_ev (P : List Int) (hs : P.length ≤ 60) (i : Int) : Ev (fun k => jalousieref41_Path.f k P i) (pth P i) := by
  unfold jalousieref41_Path.f pth
  refine Ev.bind (ref_check_ev P (by omega)) ?_
  by_cases hc : ck P = 0
  · rw [if_pos hc]
    refine ev_pos hc ?_
    by_cases h0 : i < 0
    · (repeat (first | refine ev_pos (by omega) ?_ | refine ev_neg (by omega) ?_))
      refine ev_succ ?_
      simp only [jalousieref41_Path.j0]
      rw [if_neg (by omega)]
      exact ev_pos trivial (ev_some rfl)
    · (repeat (first | refine ev_pos (by omega) ?_ | refine ev_neg (by omega) ?_))
      refine ev_succ ?_
      simp only [jalousieref41_Path.j0]
      by_cases h1 : i ≥ (P.length : Int)
      · rw [if_neg (by omega)]
        exact ev_pos (by simpa using h1) (ev_some rfl)
      · have ho := ck_ok hc i.toNat (by omega)
        rw [if_pos (by omega)]
        refine ev_neg (by simpa using h1) ?_
        (repeat (first | refine ev_pos (by omega) ?_ | refine ev_neg (by omega) ?_))
        rw [rdt P i (by omega)]
        have := ref_path_l0 hc hs P.length [] (P.getD i.toNat 0) (by omega) (by omega) (by omega) (by simp; omega)
        simpa using this
  · rw [if_neg hc]
    exact ev_neg hc (ev_some rfl)
theorem ref_levels_l0 {P : List Int} (hc : ck P = 0) (hs : P.length ≤ 60) : ∀ d i : Nat, i + d = P.length → Ev (fun k => jalousieref41_Levels.l0 k P (lv P i) (i : Int)) (lv P P.length)
  | 0, i, h => by
    obtain rfl : i = P.length := by omega
    refine ev_succ ?_
    simp only [jalousieref41_Levels.l0]
    (repeat (first | refine ev_pos (by omega) ?_ | refine ev_neg (by omega) ?_))
    exact ev_some rfl
  | d + 1, i, h => by
    have ih := ref_levels_l0 hc hs d (i + 1) (by omega)
    have hl := lv_len P i
    rw [lv_succ] at ih
    refine ev_succ ?_
    simp only [jalousieref41_Levels.l0]
    rw [w64s i (by omega)]
    (repeat (first | refine ev_pos (by omega) ?_ | refine ev_neg (by omega) ?_))
    refine Ev.bind (ref_check_ev P (by omega)) ?_
    refine ev_pos hc ?_
    refine Ev.bind (ref_path_ev P hs (i : Int)) ?_
    (repeat (first | refine ev_pos (by omega) ?_ | refine ev_neg (by omega) ?_))
    have e : ((pth P (i : Int)).1.length : Int) = dep P i := by
      unfold pth dep
      rw [if_pos hc, if_pos (by omega), Int.toNat_natCast, List.length_reverse]
    rw [e]
    exact ih
theorem ref_levels_ev (P : List Int) (hs : P.length ≤ 60) : Ev (fun k => jalousieref41_Levels.f k P) (lvr P) := by
  unfold jalousieref41_Levels.f lvr
  by_cases hc : ck P = 0
  · rw [if_pos hc]
    exact ref_levels_l0 hc hs P.length 0 (by omega)
  · rw [if_neg hc]
    refine ev_succ ?_
    simp only [jalousieref41_Levels.l0]
    by_cases hl : (0 : Int) < (P.length : Int)
    · (repeat (first | refine ev_pos (by omega) ?_ | refine ev_neg (by omega) ?_))
      refine Ev.bind (ref_check_ev P (by omega)) ?_
      exact ev_neg hc (ev_some rfl)
    · (repeat (first | refine ev_pos (by omega) ?_ | refine ev_neg (by omega) ?_))
      exact ev_some rfl
/-! ### the lines that are shown, by definition -/
theorem Tile.one {L : Nat → Int} {x : Int} : ∀ {A B : List Fo} {s e : Nat}, Tile L x A s e → Tile L x B s e → A = B
  | [], [], _, _, _, _ => rfl
  | [], b :: B, s, e, h, ⟨h', _, _, _, ht⟩ => by
    have h : s = e := h
    have := ht.le
    omega
  | a :: A, [], s, e, ⟨h', _, _, _, ht⟩, h => by
    have h : s = e := h
    have := ht.le
    omega
  | a :: A, b :: B, s, e, ⟨h1, a1, a2, a3, a4⟩, ⟨h2, b1, b2, b3, b4⟩ => by
    have nx : ∀ {C : List Fo} {u : Nat}, Tile L x C u e → u = e ∨ L u < x := by
      intro C u hc
      cases C with
      | nil => exact .inl hc
      | cons c C => obtain ⟨_, _, h, _⟩ := hc; exact .inr h
    have l1 := a4.le
    have l2 := b4.le
    have e0 : h1 = h2 := by
      rcases Nat.lt_trichotomy h1 h2 with c | c | c
      · rcases nx a4 with d | d
        · omega
        · exact absurd d (b3 (s + 1 + h1) (by omega) (by omega))
      · exact c
      · rcases nx b4 with d | d
        · omega
        · exact absurd d (a3 (s + 1 + h2) (by omega) (by omega))
    subst e0
    rw [a1, b1, Tile.one a4 b4]
theorem Tile.puts {L : Nat → Int} {x : Int} : ∀ {A : List Fo} {s e h : Nat}, Tile L x A s e → L e < x → (∀ q, e < q → q < e + 1 + h → ¬ L q < x) → Tile L x (A ++ [(⟨(e : Int), (h : Int)⟩ : Fo)]) s (e + 1 + h)
  | [], s, e, h, ht, hx, hn => by
    obtain rfl : s = e := ht
    exact ⟨h, rfl, hx, hn, rfl⟩
  | a :: A, s, e, h, ⟨h', h1, h2, h3, ht⟩, hx, hn => ⟨h', h1, h2, h3, Tile.puts ht hx hn⟩
theorem lv_get (S : List Ln) (i : Nat) (h : i < S.length) : (lv (pas S S.length) S.length).getD i 0 = lvl S i := by
  rw [getD_lt (by rw [lv_len]; omega)]
  simp [lv, lvl]
theorem Tile.len {L : Nat → Int} {x : Int} : ∀ {A : List Fo} {s e : Nat}, Tile L x A s e → A.length + s ≤ e
  | [], s, e, h => by have h : s = e := h; simp; omega
  | a :: A, s, e, ⟨h, _, _, _, ht⟩ => by have := Tile.len ht; rw [List.length_cons]; omega
theorem ref_hide_l1 (S : List Ln) (hS : few_ok S) (x : Int) (A : List Fo) (hA : A.length ≤ 1000) (i : Nat) (hi : i < S.length) {r : List Fo × Int}
    (hk : ∀ h : Nat, i + 1 + h ≤ S.length → (∀ q, i < q → q < i + 1 + h → ¬ lvl S q < x) → (i + 1 + h = S.length ∨ lvl S (i + 1 + h) < x) → Ev (fun k => jalousieref41_Hide.l0 k x (lv (pas S S.length) S.length) (A ++ [(⟨(i : Int), (h : Int)⟩ : Fo)]) ((i + 1 : Nat) : Int)) r) :
    ∀ (d h : Nat), i + 1 + h + d = S.length → (∀ q, i < q → q < i + 1 + h → ¬ lvl S q < x) → Ev (fun k => jalousieref41_Hide.l1 k x (lv (pas S S.length) S.length) A (i : Int) ((i + 1 + h : Nat) : Int)) r
  | 0, h, e, hn => by
    have hl := hS.1
    refine ev_succ ?_
    simp only [jalousieref41_Hide.l1]
    rw [lv_len, w64i (((i + 1 + h : Nat) : Int) - (i : Int)) (by omega) (by omega), w64i (((i + 1 + h : Nat) : Int) - (i : Int) - 1) (by omega) (by omega), w64s i (by omega), show ((i + 1 + h : Nat) : Int) - (i : Int) - 1 = (h : Int) by omega]
    (repeat (first | refine ev_pos (by omega) ?_ | refine ev_neg (by omega) ?_))
    exact hk h (by omega) hn (.inl (by omega))
  | d + 1, h, e, hn => by
    have hl := hS.1
    refine ev_succ ?_
    simp only [jalousieref41_Hide.l1]
    rw [lv_len, w64i (((i + 1 + h : Nat) : Int) - (i : Int)) (by omega) (by omega), w64i (((i + 1 + h : Nat) : Int) - (i : Int) - 1) (by omega) (by omega), w64s i (by omega), w64s (i + 1 + h) (by omega), show ((i + 1 + h : Nat) : Int) - (i : Int) - 1 = (h : Int) by omega, rdn, lv_get S _ (by omega)]
    (repeat (first | refine ev_pos (by omega) ?_ | refine ev_neg (by omega) ?_))
    by_cases c : lvl S (i + 1 + h) < x
    · (repeat (first | refine ev_pos (by omega) ?_ | refine ev_neg (by omega) ?_))
      exact hk h (by omega) hn (.inr c)
    · (repeat (first | refine ev_pos (by omega) ?_ | refine ev_neg (by omega) ?_))
      have := ref_hide_l1 S hS x A hA i hi hk d (h + 1) (by omega) (fun q h1 h2 => by
        by_cases e2 : q = i + 1 + h
        · subst e2; exact c
        · exact hn q h1 (by omega))
      exact this
theorem ref_hide_l0 (S : List Ln) (hS : few_ok S) (x : Int) (hx : 1 ≤ x) : ∀ (d i j : Nat) (A : List Fo), i + d = S.length → i ≤ j → j ≤ S.length → Tile (lvl S) x A 0 j → (∀ q, i ≤ q → q < j → ¬ lvl S q < x) → (j = S.length ∨ lvl S j < x) →
    Ev (fun k => jalousieref41_Hide.l0 k x (lv (pas S S.length) S.length) A (i : Int)) (hds (lvl S) x S.length, 0)
  | 0, i, j, A, h, h1, h2, ht, hn, hj => by
    obtain rfl : j = S.length := by omega
    refine ev_succ ?_
    simp only [jalousieref41_Hide.l0]
    rw [lv_len]
    (repeat (first | refine ev_pos (by omega) ?_ | refine ev_neg (by omega) ?_))
    exact ev_some (by rw [ht.one (hds_tile (lvl S) x (lvl_zero S x hx) S.length)])
  | d + 1, i, j, A, h, h1, h2, ht, hn, hj => by
    have hl := hS.1
    have hlen := ht.len
    refine ev_succ ?_
    simp only [jalousieref41_Hide.l0]
    rw [lv_len, rdn, lv_get S i (by omega), w64s i (by omega)]
    (repeat (first | refine ev_pos (by omega) ?_ | refine ev_neg (by omega) ?_))
    by_cases c : i < j
    · have hc := hn i (by omega) c
      (repeat (first | refine ev_pos (by omega) ?_ | refine ev_neg (by omega) ?_))
      exact ref_hide_l0 S hS x hx d (i + 1) j A (by omega) (by omega) h2 ht (fun q q1 q2 => hn q (by omega) q2) hj
    · obtain rfl : i = j := by omega
      have hc : lvl S i < x := by rcases hj with hj | hj; omega; exact hj
      (repeat (first | refine ev_pos (by omega) ?_ | refine ev_neg (by omega) ?_))
      refine ref_hide_l1 S hS x A (by omega) i (by omega) (fun h' a1 a2 a3 => ?_) d 0 (by omega) (fun q q1 q2 => by omega)
      exact ref_hide_l0 S hS x hx d (i + 1) (i + 1 + h') _ (by omega) (by omega) a1 (ht.puts hc a2) (fun q q1 q2 => a2 q (by omega) q2) a3
theorem ref_hide_ev (S : List Ln) (hS : few_ok S) (x : Int) (hx : 1 ≤ x) (hx2 : x ≤ 16) : Ev (fun k => jalousieref41_Hide.f k S x) (hds (lvl S) x S.length, 0) := by
  have hl := hS.1
  have hc := ck_pas S S.length
  unfold jalousieref41_Hide.f
  refine ev_neg (by omega) ?_
  rw [decide_eq_false (by omega)]
  refine ev_succ ?_
  simp only [jalousieref41_Hide.j0]
  refine ev_neg (by simp) ?_
  refine Ev.bind (ref_parents_ev S hS) ?_
  refine Ev.bind (ref_levels_ev _ (by rw [pas_len]; omega)) ?_
  unfold lvr
  rw [if_pos hc, pas_len]
  exact ref_hide_l0 S hS x hx S.length 0 0 [] (by omega) (by omega) (by omega) rfl (fun q h1 h2 => by omega) (.inr (lvl_zero S x hx))
/-- Both ways of hiding. -/
def hid (S : List Ln) (x : Int) : List Fo × Int := if 1 ≤ x ∧ x ≤ 16 then (hds (lvl S) x S.length, 0) else ([], 2)
theorem hide_any (S : List Ln) (hS : few_ok S) (x : Int) : Ev (fun k => fold_Hide.f k S x) (hid S x) := by
  unfold hid
  by_cases c : 1 ≤ x ∧ x ≤ 16
  · rw [if_pos c]
    exact hide_ev S hS x c.1 c.2
  · rw [if_neg c]
    unfold fold_Hide.f
    by_cases c1 : x < 1
    · refine ev_pos c1 ?_
      refine ev_succ ?_
      simp only [fold_Hide.j0]
      exact ev_pos trivial (ev_some rfl)
    · refine ev_neg c1 ?_
      rw [decide_eq_true (by omega)]
      refine ev_succ ?_
      simp only [fold_Hide.j0]
      exact ev_pos trivial (ev_some rfl)
theorem ref_hide_any (S : List Ln) (hS : few_ok S) (x : Int) : Ev (fun k => jalousieref41_Hide.f k S x) (hid S x) := by
  unfold hid
  by_cases c : 1 ≤ x ∧ x ≤ 16
  · rw [if_pos c]
    exact ref_hide_ev S hS x c.1 c.2
  · rw [if_neg c]
    unfold jalousieref41_Hide.f
    by_cases c1 : x < 1
    · refine ev_pos c1 ?_
      refine ev_succ ?_
      simp only [jalousieref41_Hide.j0]
      exact ev_pos trivial (ev_some rfl)
    · refine ev_neg c1 ?_
      rw [decide_eq_true (by omega)]
      refine ev_succ ?_
      simp only [jalousieref41_Hide.j0]
      exact ev_pos trivial (ev_some rfl)
theorem hid_len (S : List Ln) (hS : few_ok S) (x : Int) : (hid S x).1.length ≤ 60 := by
  have hl := hS.1
  have := hds_len_le (lvl S) x S.length
  unfold hid
  split
  · show (hds (lvl S) x S.length).length ≤ 60
    omega
  · exact Nat.zero_le _
theorem same_l0 (A : List Fo) (hA : A.length ≤ 60) : ∀ (d i : Nat), i + d = A.length → Ev (fun k => jalousieref41_Same.l0 k A A (i : Int)) true
  | 0, i, h => by
    refine ev_succ ?_
    simp only [jalousieref41_Same.l0]
    (repeat (first | refine ev_pos (by omega) ?_ | refine ev_neg (by omega) ?_))
    exact ev_some rfl
  | d + 1, i, h => by
    have ih := same_l0 A hA d (i + 1) (by omega)
    refine ev_succ ?_
    simp only [jalousieref41_Same.l0]
    rw [w64s i (by omega)]
    (repeat (first | refine ev_pos (by omega) ?_ | refine ev_neg (by omega) ?_))
    refine ev_neg (by simp) ?_
    exact ih
theorem same_ev (A : List Fo) (hA : A.length ≤ 60) : Ev (fun k => jalousieref41_Same.f k A A) true := by
  unfold jalousieref41_Same.f
  refine ev_pos rfl ?_
  exact same_l0 A hA A.length 0 (by omega)
/-! ### which folds fit -/
def fit (n : Int) : Int → List Fo → Bool
  | _, [] => true
  | at_, x :: F => if x.f0 < at_ ∨ x.f0 ≥ n ∨ x.f1 < 0 ∨ x.f1 > n - x.f0 - 1 then false else fit n (x.f0 + x.f1 + 1) F
theorem fit_all {n : Int} : ∀ {F : List Fo} {at_ : Int}, 0 ≤ at_ → fit n at_ F = true → ∀ x ∈ F, 0 ≤ x.f0 ∧ x.f0 < n ∧ 0 ≤ x.f1 ∧ x.f1 ≤ n - x.f0 - 1
  | [], _, _, _, x, hx => by cases hx
  | y :: F, at_, h0, h, x, hx => by
    unfold fit at h
    split at h
    · cases h
    · rename_i hc
      rcases List.mem_cons.1 hx with rfl | hx
      · omega
      · exact fit_all (by omega) h x hx
theorem fits_l0 (F : List Fo) (hF : F.length ≤ 60) (n : Nat) (hn : n ≤ 40) : ∀ (d i : Nat) (at_ : Int), i + d = F.length → 0 ≤ at_ → at_ ≤ n → Ev (fun k => fold_fits.l0 k (n : Int) at_ F (F.length : Int) (i : Int)) (fit n at_ (F.drop i))
  | 0, i, at_, h, h0, h1 => by
    refine ev_succ ?_
    simp only [fold_fits.l0]
    (repeat (first | refine ev_pos (by omega) ?_ | refine ev_neg (by omega) ?_))
    rw [List.drop_eq_nil_of_le (by omega)]
    exact ev_some rfl
  | d + 1, i, at_, h, h0, h1 => by
    refine ev_succ ?_
    simp only [fold_fits.l0]
    rw [w64s i (by omega), rd_fo, drop_cons F i (by omega) z44]
    (repeat (first | refine ev_pos (by omega) ?_ | refine ev_neg (by omega) ?_))
    generalize F.getD i z44 = x
    unfold fit
    by_cases c1 : x.f0 < at_
    · rw [if_pos (by omega)]
      (repeat (first | refine ev_pos (by omega) ?_ | refine ev_neg (by omega) ?_))
      exact ev_some rfl
    · by_cases c2 : x.f0 ≥ (n : Int)
      · rw [if_pos (by omega)]
        (repeat (first | refine ev_pos (by omega) ?_ | refine ev_neg (by omega) ?_))
        exact ev_some rfl
      · rw [w64i ((n : Int) - x.f0) (by omega) (by omega), w64i ((n : Int) - x.f0 - 1) (by omega) (by omega)]
        (repeat (first | refine ev_pos (by omega) ?_ | refine ev_neg (by omega) ?_))
        by_cases c3 : x.f1 < 0
        · rw [if_pos (by omega)]
          (repeat (first | refine ev_pos (by omega) ?_ | refine ev_neg (by omega) ?_))
          exact ev_some rfl
        · by_cases c4 : x.f1 > (n : Int) - x.f0 - 1
          · rw [if_pos (by omega)]
            (repeat (first | refine ev_pos (by omega) ?_ | refine ev_neg (by omega) ?_))
            exact ev_some rfl
          · rw [if_neg (by omega), w64i (x.f0 + x.f1) (by omega) (by omega), w64i (x.f0 + x.f1 + 1) (by omega) (by omega)]
            (repeat (first | refine ev_pos (by omega) ?_ | refine ev_neg (by omega) ?_))
            exact fits_l0 F hF n hn d (i + 1) _ (by omega) (by omega) (by omega)
theorem ref_fit_l0 (S : List Ln) (hS : few_ok S) (F : List Fo) (hF : F.length ≤ 60) {r : List Int × Int} : ∀ (d i : Nat) (at_ : Int), i + d = F.length → 0 ≤ at_ → at_ ≤ S.length →
    (i = 0 → at_ = 0) → (0 < i → at_ = (F.getD (i - 1) z44).f0 + (F.getD (i - 1) z44).f1 + 1) →
    (fit S.length at_ (F.drop i) = true → Ev (fun k => jalousieref41_Print.l1 k S F (⟨#[]⟩ : ByteArray) 0) r) → (fit S.length at_ (F.drop i) = false → r = ([], 3)) → Ev (fun k => jalousieref41_Print.l0 k S F (i : Int)) r
  | 0, i, at_, h, h0, h1, _, _, k1, _ => by
    refine ev_succ ?_
    simp only [jalousieref41_Print.l0]
    (repeat (first | refine ev_pos (by omega) ?_ | refine ev_neg (by omega) ?_))
    rw [List.drop_eq_nil_of_le (by omega)] at k1
    exact k1 rfl
  | d + 1, i, at_, h, h0, h1, z0, z1, k1, k2 => by
    have hl := hS.1
    have ih := ref_fit_l0 S hS F hF (r := r) d (i + 1)
    rw [show i + 1 - 1 = i from rfl] at ih
    rw [drop_cons F i (by omega) z44] at k1 k2
    refine ev_succ ?_
    simp only [jalousieref41_Print.l0]
    rw [rd_fo]
    (repeat (first | refine ev_pos (by omega) ?_ | refine ev_neg (by omega) ?_))
    have bad : (F.getD i z44).f0 < at_ ∨ (F.getD i z44).f0 ≥ (S.length : Int) ∨ (F.getD i z44).f1 < 0 ∨ (F.getD i z44).f1 > (S.length : Int) - (F.getD i z44).f0 - 1 → r = ([], 3) := fun hb => k2 (by unfold fit; rw [if_pos hb])
    have jbad : (F.getD i z44).f0 < at_ ∨ (F.getD i z44).f0 ≥ (S.length : Int) ∨ (F.getD i z44).f1 < 0 ∨ (F.getD i z44).f1 > (S.length : Int) - (F.getD i z44).f0 - 1 → Ev (fun k => jalousieref41_Print.j1 k S F (i : Int) true) r := fun hb => by
      refine ev_succ ?_
      simp only [jalousieref41_Print.j1]
      exact ev_pos trivial (ev_some (bad hb).symm)
    by_cases c1 : (F.getD i z44).f0 < 0
    · (repeat (first | refine ev_pos (by omega) ?_ | refine ev_neg (by omega) ?_))
      exact jbad (by omega)
    · by_cases c2 : (F.getD i z44).f0 ≥ (S.length : Int)
      · (repeat (first | refine ev_pos (by omega) ?_ | refine ev_neg (by omega) ?_))
        exact jbad (by omega)
      · by_cases c3 : (F.getD i z44).f1 < 0
        · (repeat (first | refine ev_pos (by omega) ?_ | refine ev_neg (by omega) ?_))
          exact jbad (by omega)
        · rw [w64i ((S.length : Int) - (F.getD i z44).f0) (by omega) (by omega)]
          (repeat (first | refine ev_pos (by omega) ?_ | refine ev_neg (by omega) ?_))
          by_cases c4 : (F.getD i z44).f1 ≥ (S.length : Int) - (F.getD i z44).f0
          · rw [decide_eq_true c4]
            exact jbad (by omega)
          · rw [decide_eq_false c4]
            refine ev_succ ?_
            simp only [jalousieref41_Print.j1]
            refine ev_neg (by simp) ?_
            rw [w64s i (by omega)]
            have next : at_ ≤ (F.getD i z44).f0 → Ev (fun k => jalousieref41_Print.l0 k S F ((i + 1 : Nat) : Int)) r := fun hc => by
              have e : fit S.length at_ (F.getD i z44 :: F.drop (i + 1)) = fit S.length ((F.getD i z44).f0 + (F.getD i z44).f1 + 1) (F.drop (i + 1)) := by
                rw [fit, if_neg (by omega)]
              exact ih _ (by omega) (by omega) (by omega) (fun h => by omega) (fun _ => rfl) (fun h => k1 (e.trans h)) (fun h => k2 (e.trans h))
            by_cases ci : 0 < i
            · have hp := z1 ci
              rw [rd_fo, show wrap64 ((i : Int) - 1) = ((i - 1 : Nat) : Int) by rw [w64i _ (by omega) (by omega)]; omega, rd_fo, w64i ((F.getD (i - 1) z44).f0 + (F.getD (i - 1) z44).f1) (by omega) (by omega)]
              (repeat (first | refine ev_pos (by omega) ?_ | refine ev_neg (by omega) ?_))
              by_cases c5 : (F.getD i z44).f0 < at_
              · (repeat (first | refine ev_pos (by omega) ?_ | refine ev_neg (by omega) ?_))
                exact ev_some (bad (by omega)).symm
              · (repeat (first | refine ev_pos (by omega) ?_ | refine ev_neg (by omega) ?_))
                exact next (by omega)
            · have hp := z0 (by omega)
              (repeat (first | refine ev_pos (by omega) ?_ | refine ev_neg (by omega) ?_))
              exact next (by omega)
/-! ### the lines printed -/
theorem insL_rng : ∀ (l : List UInt8) (n : Int) (i : Nat), 0 ≤ n → n ≤ 8 * (i : Int) → 0 ≤ insL l n ∧ insL l n ≤ 8 * ((i : Int) + (l.length : Int))
  | [], n, i, h0, h1 => by unfold insL; simp; omega
  | b :: l, n, i, h0, h1 => by
    unfold insL
    rw [List.length_cons]
    split
    · have := insL_rng l (n + 1) (i + 1) (by omega) (by omega)
      omega
    · split
      · have := insL_rng l ((n / 8 + 1) * 8) (i + 1) (by omega) (by omega)
        omega
      · omega
theorem nxs_rng : ∀ (l : List Ln), (∀ x ∈ l, x.f0.size ≤ 40) → 0 ≤ nxs l ∧ nxs l ≤ 320
  | [], _ => by unfold nxs; omega
  | x :: l, h => by
    unfold nxs
    split
    · exact nxs_rng l (fun y hy => h y (List.mem_cons_of_mem _ hy))
    · have h1 := h x (List.mem_cons_self ..)
      have := insL_rng (by_ x.f0) 0 0 (by omega) (by omega)
      rw [by_len] at this
      unfold ins
      omega
theorem vv_rng (S : List Ln) (hS : few_ok S) (i : Nat) : 0 ≤ vv S i ∧ vv S i ≤ 320 := nxs_rng _ fun x hx => hS.2 x (List.mem_of_mem_drop hx)
def dec (m : Int) : ByteArray := if m < 0 ∨ 2147483647 < m then ⟨#[63]⟩ else strOfNums (text_Decimal.ds 10 m.toNat [])
theorem dec_eq (m : Int) : text_Decimal.f m = some (dec m) := rfl
theorem dec_fin : ∀ n : Fin 41, jalousieref01_Decimal.f 20 ((n.val : Nat) : Int) = some (dec ((n.val : Nat) : Int)) ∧ (dec ((n.val : Nat) : Int)).size ≤ 10 := by decide +kernel
theorem dec_ev (m : Int) (h0 : 0 ≤ m) (h1 : m ≤ 40) : Ev (fun k => jalousieref01_Decimal.f k m) (dec m) ∧ (dec m).size ≤ 10 := by
  obtain ⟨n, rfl⟩ : ∃ n : Nat, m = (n : Int) := ⟨m.toNat, by omega⟩
  have := dec_fin ⟨n, by omega⟩
  exact ⟨Ev.of (fun k => jalousieref01_Decimal.mono _ k) this.1, this.2⟩
def nl : ByteArray := ⟨#[10]⟩
def dots : ByteArray := ⟨#[46, 46, 46, 32]⟩
def sp : Nat → ByteArray → ByteArray
  | 0, o => o
  | m + 1, o => sp m (o ++ (⟨#[32]⟩ : ByteArray))
def st (S : List Ln) (x : Fo) (o : ByteArray) : ByteArray :=
  if x.f1 > 0 then ((sp (vv S x.f0.toNat).toNat ((o ++ (S.getD x.f0.toNat z26).f0) ++ nl) ++ dots) ++ dec x.f1) ++ nl else (o ++ (S.getD x.f0.toNat z26).f0) ++ nl
def prs (S : List Ln) : List Fo → ByteArray → ByteArray
  | [], o => o
  | x :: F, o => prs S F (st S x o)
theorem bys_app (a b : ByteArray) : bytesOf (a ++ b) = bytesOf a ++ bytesOf b := by
  unfold bytesOf
  rw [show (a ++ b).data = a.data ++ b.data from ByteArray.data_append, Array.toList_append, List.map_append]
theorem sp_size : ∀ (m : Nat) (o : ByteArray), (sp m o).size = o.size + m
  | 0, _ => rfl
  | m + 1, o => by
    unfold sp
    rw [sp_size m, ByteArray.size_append, show (⟨#[32]⟩ : ByteArray).size = 1 from rfl]
    omega
theorem sp_bys : ∀ (m : Nat) (o : ByteArray), bytesOf (sp m o) = bytesOf o ++ List.replicate m 32
  | 0, o => by simp [sp]
  | m + 1, o => by
    unfold sp
    rw [sp_bys m, bys_app, List.replicate_succ, List.append_assoc]
    rfl
theorem repL : ∀ m : Nat, Go.Lib.repeatL [32] m = List.replicate m 32
  | 0 => rfl
  | m + 1 => by
    unfold Go.Lib.repeatL
    rw [repL m, List.replicate_succ]
    rfl
theorem rep_eq (m : Int) (h0 : 0 ≤ m) (h1 : m ≤ 320) : strings_Repeat.f (⟨#[32]⟩ : ByteArray) m = some ⟨(List.replicate m.toNat (32 : UInt8)).toArray⟩ := by
  unfold strings_Repeat.f
  rw [if_pos ⟨h0, by omega, by rw [show (⟨#[32]⟩ : ByteArray).size = 1 from rfl]; omega⟩]
  rw [show (⟨#[32]⟩ : ByteArray).data.toList = [32] from rfl, repL]
theorem rep_bys (m : Nat) : bytesOf (⟨(List.replicate m (32 : UInt8)).toArray⟩ : ByteArray) = List.replicate m 32 := by
  unfold bytesOf
  simp
theorem rep_size (m : Nat) : (⟨(List.replicate m (32 : UInt8)).toArray⟩ : ByteArray).size = m := by
  rw [← bytesOf_length, rep_bys, List.length_replicate]
theorem txt_size {S : List Ln} (hS : few_ok S) (i : Nat) : ((S.getD i z26).f0).size ≤ 40 := by
  by_cases h : i < S.length
  · rw [getD_lt h]
    exact hS.2 _ (List.getElem_mem h)
  · rw [List.getD_eq_getElem?_getD, List.getElem?_eq_none (by omega)]
    decide
theorem st_size (S : List Ln) (hS : few_ok S) (x : Fo) (h0 : 0 ≤ x.f1) (h1 : x.f1 ≤ 40) (o : ByteArray) : (st S x o).size ≤ o.size + 400 := by
  have a := txt_size hS x.f0.toNat
  have b := vv_rng S hS x.f0.toNat
  have c := (dec_ev x.f1 h0 h1).2
  unfold st
  split
  · rw [ByteArray.size_append, ByteArray.size_append, ByteArray.size_append, sp_size, ByteArray.size_append, ByteArray.size_append, show nl.size = 1 from rfl, show dots.size = 4 from rfl]
    omega
  · rw [ByteArray.size_append, ByteArray.size_append, show nl.size = 1 from rfl]
    omega
theorem prs_size (S : List Ln) (hS : few_ok S) : ∀ (F : List Fo), (∀ x ∈ F, 0 ≤ x.f1 ∧ x.f1 ≤ 40) → ∀ o : ByteArray, (prs S F o).size ≤ o.size + 400 * F.length
  | [], _, o => by simp [prs]
  | x :: F, h, o => by
    have h1 := h x (List.mem_cons_self ..)
    have a := st_size S hS x h1.1 h1.2 o
    have b := prs_size S hS F (fun y hy => h y (List.mem_cons_of_mem _ hy)) (st S x o)
    unfold prs
    rw [List.length_cons]
    omega
def good (S : List Ln) (F : List Fo) : Prop := F.length ≤ 60 ∧ ∀ x ∈ F, 0 ≤ x.f0 ∧ x.f0 < (S.length : Int) ∧ 0 ≤ x.f1 ∧ x.f1 ≤ 40
theorem print_l0 (S : List Ln) (hS : few_ok S) (F : List Fo) (hF : good S F) : ∀ (d i : Nat) (o : ByteArray), i + d = F.length → o.size ≤ 400 * i → Ev (fun k => fold_Print.l0 k S (vs S) (bytesOf o) F (F.length : Int) (i : Int)) (bytesOf (prs S (F.drop i) o), 0)
  | 0, i, o, h, ho => by
    refine ev_succ ?_
    simp only [fold_Print.l0]
    (repeat (first | refine ev_pos (by omega) ?_ | refine ev_neg (by omega) ?_))
    rw [List.drop_eq_nil_of_le (by omega)]
    exact ev_some rfl
  | d + 1, i, o, h, ho => by
    have hl := hS.1
    have h60 := hF.1
    have hx := hF.2 (F.getD i z44) (by rw [getD_lt (by omega)]; exact List.getElem_mem _)
    have ih := print_l0 S hS F hF d (i + 1)
    refine ev_succ ?_
    simp only [fold_Print.l0]
    rw [w64s i (by omega), rd_fo, drop_cons F i (by omega) z44]
    generalize F.getD i z44 = x at hx
    obtain ⟨p, hp⟩ : ∃ p : Nat, x.f0 = (p : Int) := ⟨x.f0.toNat, by omega⟩
    have hst := st_size S hS x hx.2.2.1 hx.2.2.2 o
    have ih := ih (st S x o) (by omega) (by omega)
    have e0 : st S x o = if x.f1 > 0 then ((sp (vv S p).toNat ((o ++ (S.getD p z26).f0) ++ nl) ++ dots) ++ dec x.f1) ++ nl else (o ++ (S.getD p z26).f0) ++ nl := by unfold st; rw [hp, Int.toNat_natCast]
    show Ev _ (bytesOf (prs S (F.drop (i + 1)) (st S x o)), 0)
    rw [hp] at hx ⊢
    have ht := txt_size hS p
    have hv := vv_rng S hS p
    have hd := (dec_ev x.f1 hx.2.2.1 hx.2.2.2).2
    have n1 : (⟨#[10]⟩ : ByteArray).size = 1 := rfl
    have n4 : (⟨#[46, 46, 46, 32]⟩ : ByteArray).size = 4 := rfl
    rw [rd_ln, rdn, vs_get S p (by omega), rep_eq (vv S p) hv.1 hv.2, vs_len, bytesOf_length]
    simp only [ByteArray.size_append, n1]
    (repeat (first | refine ev_pos (by omega) ?_ | refine ev_neg (by omega) ?_))
    refine ev_bind rfl ?_
    by_cases c : x.f1 > 0
    · rw [if_pos c] at e0
      (repeat (first | refine ev_pos (by omega) ?_ | refine ev_neg (by omega) ?_))
      refine ev_bind rfl ?_
      rw [rep_size, dec_eq]
      (repeat (first | refine ev_pos (by omega) ?_ | refine ev_neg (by omega) ?_))
      refine ev_bind rfl ?_
      have hy : (bytesOf o ++ bytesOf ((S.getD p z26).f0 ++ (⟨#[10]⟩ : ByteArray))).length = o.size + ((S.getD p z26).f0.size + 1) := by rw [List.length_append, bytesOf_length, bytesOf_length, ByteArray.size_append, n1]
      have hr := rep_size (vv S p).toNat
      simp only [ByteArray.size_append, n1, n4, rep_size]
      (repeat (first | refine ev_pos (by omega) ?_ | refine ev_neg (by omega) ?_))
      have e : bytesOf o ++ bytesOf ((S.getD p z26).f0 ++ (⟨#[10]⟩ : ByteArray)) ++ bytesOf ((((⟨(List.replicate (vv S p).toNat (32 : UInt8)).toArray⟩ : ByteArray) ++ (⟨#[46, 46, 46, 32]⟩ : ByteArray)) ++ dec x.f1) ++ (⟨#[10]⟩ : ByteArray)) = bytesOf (st S x o) := by
        rw [e0]
        simp only [bys_app, sp_bys, rep_bys, List.append_assoc]
        rfl
      rw [e]
      exact ih
    · rw [if_neg c] at e0
      (repeat (first | refine ev_pos (by omega) ?_ | refine ev_neg (by omega) ?_))
      have e : bytesOf o ++ bytesOf ((S.getD p z26).f0 ++ (⟨#[10]⟩ : ByteArray)) = bytesOf (st S x o) := by
        rw [e0]
        simp only [bys_app, List.append_assoc]
        rfl
      rw [e]
      exact ih
theorem ref_l2 (S : List Ln) (hS : few_ok S) (F : List Fo) (hF : good S F) (i p : Nat) (hi : i < F.length) (hp : (F.getD i z44).f0 = (p : Int)) (hpl : p < S.length) (hh : 0 ≤ (F.getD i z44).f1 ∧ (F.getD i z44).f1 ≤ 40) {r : List Int × Int} : ∀ (d j : Nat) (o : ByteArray), j + d = (vv S p).toNat → o.size + d ≤ 100000 →
    Ev (fun k => jalousieref41_Print.l1 k S F (((sp d o ++ dots) ++ dec (F.getD i z44).f1) ++ nl) ((i + 1 : Nat) : Int)) r → Ev (fun k => jalousieref41_Print.l2 k S F o (i : Int) (j : Int)) r
  | 0, j, o, h, ho, hk => by
    have h60 := hF.1
    have hv := vv_rng S hS p
    have hd := dec_ev _ hh.1 hh.2
    have n4 : (⟨#[46, 46, 46, 32]⟩ : ByteArray).size = 4 := rfl
    refine ev_succ ?_
    simp only [jalousieref41_Print.l2]
    rw [rd_fo, hp, w64s i (by omega)]
    (repeat (first | refine ev_pos (by omega) ?_ | refine ev_neg (by omega) ?_))
    refine Ev.bind (of_ev S hS p (by omega)) ?_
    (repeat (first | refine ev_pos (by omega) ?_ | refine ev_neg (by omega) ?_))
    refine Ev.bind hd.1 ?_
    simp only [ByteArray.size_append, n4]
    have h1 := hd.2
    (repeat (first | refine ev_pos (by omega) ?_ | refine ev_neg (by omega) ?_))
    exact hk
  | d + 1, j, o, h, ho, hk => by
    have h60 := hF.1
    have hv := vv_rng S hS p
    refine ev_succ ?_
    simp only [jalousieref41_Print.l2]
    rw [rd_fo, hp, w64s j (by omega)]
    (repeat (first | refine ev_pos (by omega) ?_ | refine ev_neg (by omega) ?_))
    refine Ev.bind (of_ev S hS p (by omega)) ?_
    (repeat (first | refine ev_pos (by omega) ?_ | refine ev_neg (by omega) ?_))
    exact ref_l2 S hS F hF i p hi hp hpl hh d (j + 1) (o ++ (⟨#[32]⟩ : ByteArray)) (by omega) (by rw [ByteArray.size_append, show (⟨#[32]⟩ : ByteArray).size = 1 from rfl]; omega) hk
theorem ref_l1p (S : List Ln) (hS : few_ok S) (F : List Fo) (hF : good S F) : ∀ (d i : Nat) (o : ByteArray), i + d = F.length → o.size ≤ 400 * i → Ev (fun k => jalousieref41_Print.l1 k S F o (i : Int)) (bytesOf (prs S (F.drop i) o), 0)
  | 0, i, o, h, ho => by
    have h60 := hF.1
    refine ev_succ ?_
    simp only [jalousieref41_Print.l1]
    (repeat (first | refine ev_pos (by omega) ?_ | refine ev_neg (by omega) ?_))
    rw [List.drop_eq_nil_of_le (by omega)]
    exact ev_some rfl
  | d + 1, i, o, h, ho => by
    have hl := hS.1
    have h60 := hF.1
    have hx := hF.2 (F.getD i z44) (by rw [getD_lt (by omega)]; exact List.getElem_mem _)
    have ih := ref_l1p S hS F hF d (i + 1)
    refine ev_succ ?_
    simp only [jalousieref41_Print.l1]
    rw [w64s i (by omega), rd_fo, drop_cons F i (by omega) z44]
    obtain ⟨p, hp⟩ : ∃ p : Nat, (F.getD i z44).f0 = (p : Int) := ⟨(F.getD i z44).f0.toNat, by omega⟩
    have hst := st_size S hS _ hx.2.2.1 hx.2.2.2 o
    have ih := ih (st S (F.getD i z44) o) (by omega) (by omega)
    have e0 : st S (F.getD i z44) o = if (F.getD i z44).f1 > 0 then ((sp (vv S p).toNat ((o ++ (S.getD p z26).f0) ++ nl) ++ dots) ++ dec (F.getD i z44).f1) ++ nl else (o ++ (S.getD p z26).f0) ++ nl := by unfold st; rw [hp, Int.toNat_natCast]
    show Ev _ (bytesOf (prs S (F.drop (i + 1)) (st S (F.getD i z44) o)), 0)
    rw [hp, rd_ln]
    have ht := txt_size hS p
    have hs1 := ByteArray.size_append (a := o) (b := (S.getD p z26).f0)
    (repeat (first | refine ev_pos (by omega) ?_ | refine ev_neg (by omega) ?_))
    by_cases c : (F.getD i z44).f1 > 0
    · rw [if_pos c] at e0
      (repeat (first | refine ev_pos (by omega) ?_ | refine ev_neg (by omega) ?_))
      refine ref_l2 S hS F hF i p (by omega) hp (by omega) ⟨hx.2.2.1, hx.2.2.2⟩ (vv S p).toNat 0 _ (by omega) (by have hv := vv_rng S hS p; rw [ByteArray.size_append, show (⟨#[10]⟩ : ByteArray).size = 1 from rfl]; omega) ?_
      have e1 : ((sp (vv S p).toNat ((o ++ (S.getD p z26).f0) ++ (⟨#[10]⟩ : ByteArray)) ++ dots) ++ dec (F.getD i z44).f1) ++ nl = st S (F.getD i z44) o := e0.symm
      rw [e1]
      exact ih
    · rw [if_neg c] at e0
      (repeat (first | refine ev_pos (by omega) ?_ | refine ev_neg (by omega) ?_))
      have e1 : (o ++ (S.getD p z26).f0) ++ (⟨#[10]⟩ : ByteArray) = st S (F.getD i z44) o := e0.symm
      rw [e1]
      exact ih
/-- What is printed. -/
def prt (S : List Ln) (F : List Fo) : List Int × Int := if fit S.length 0 F = true then (bytesOf (prs S F (⟨#[]⟩ : ByteArray)), 0) else ([], 3)
theorem good_of (S : List Ln) (hS : few_ok S) (F : List Fo) (hF : F.length ≤ 60) (h : fit S.length 0 F = true) : good S F := ⟨hF, fun x hx => by
  have := fit_all (by omega) h x hx
  have := hS.1
  omega⟩
theorem print_ev (S : List Ln) (hS : few_ok S) (F : List Fo) (hF : F.length ≤ 60) : Ev (fun k => fold_Print.f k S F) (prt S F) := by
  have hl := hS.1
  unfold fold_Print.f prt
  refine Ev.bind (fits_l0 F hF S.length (by omega) F.length 0 0 (by omega) (by omega) (by omega)) ?_
  rw [List.drop_zero]
  by_cases c : fit S.length 0 F = true
  · rw [if_pos c]
    refine ev_pos c ?_
    refine Ev.bind (insets_ev S hS) ?_
    exact print_l0 S hS F (good_of S hS F hF c) F.length 0 (⟨#[]⟩ : ByteArray) (by omega) (Nat.le_refl _)
  · rw [if_neg c]
    exact ev_neg c (ev_some rfl)
theorem ref_print_ev (S : List Ln) (hS : few_ok S) (F : List Fo) (hF : F.length ≤ 60) : Ev (fun k => jalousieref41_Print.f k S F) (prt S F) := by
  have hl := hS.1
  unfold jalousieref41_Print.f prt
  refine ref_fit_l0 S hS F hF F.length 0 0 (by omega) (by omega) (by omega) (fun _ => rfl) (fun h => by omega) (fun c => ?_) (fun c => ?_)
  · rw [List.drop_zero] at c
    rw [if_pos c]
    exact ref_l1p S hS F (good_of S hS F hF c) F.length 0 (⟨#[]⟩ : ByteArray) (by omega) (Nat.le_refl _)
  · rw [List.drop_zero] at c
    rw [if_neg (by rw [c]; simp)]
end Go.Proofs.YtcmnofbpcmnnhaaDoor.F
