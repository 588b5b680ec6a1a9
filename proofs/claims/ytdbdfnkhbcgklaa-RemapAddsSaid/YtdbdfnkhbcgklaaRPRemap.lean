/-
  PLAIN: commits by numbers of one's own: the document's answers and the program's are the places of what one sees.
-/
import Derived.Test.YtdbdfnkhbcgklaaRPBelow
import Derived.Test.YtdbdfnkhbcgklaaR6
import Derived.Test.YtdbdfnkhbcgklaaR7
import Derived.Test.YtdbdfnkhbcgklaaR15
import Derived.Test.YtdbdfnkhbcgklaaR8
import Derived.Test.YtdbdfnkhbcgklaaR9
import Derived.Test.YtdbdfnkhbcgklaaR12
import Derived.Test.YtdbdfnkhbcgklaaR13
import Derived.Test.YtdbdfnkhbcgklaaR16
import Derived.Test.YtdbdfnkhbcgklaaR18
import Derived.Test.YtdbdfnkhbcgklaaR17
import Derived.Test.YtdbdfnkhbcgklaaR10
namespace Go.Proofs.Ytdbdfnkhbcgklaa.R
open Go.RowKit Go.Proofs.YtdbdfnkhbcgklaaW.PrintWords Go.Proofs.YtdbdfnkhbcgklaaW.PrintLast Go.Proofs.YtdbdfnkhbcgklaaW.PrintMore
set_option linter.unusedVariables false
set_option linter.unusedSimpArgs false
abbrev Lb := S25
theorem bel_eq (x o : Lb) : remap_seen.bel x o = bel x o := rfl
theorem rd_lb (l : List Lb) (i : Nat) : rd_T25 l (i : Int) = l.getD i z25 := by simp [rd_T25]
theorem rd_mem {l : List Lb} {i : Nat} (h : i < l.length) : rd_T25 l (i : Int) ∈ l := by
  rw [rd_lb, List.getD_eq_getElem?_getD, List.getElem?_eq_getElem h]
  exact List.getElem_mem h
/-- The places, as Go's numbers. -/
def rv (l : List Lb) (o : Lb) (n : Nat) : List Int := (remap_seen.revs l o n).map fun (j : Nat) => (j : Int)
theorem rv_len (l : List Lb) (o : Lb) (n : Nat) : (rv l o n).length = (remap_seen.revs l o n).length := by simp [rv]
theorem rv_le (l : List Lb) (o : Lb) (n : Nat) : (rv l o n).length ≤ n := by rw [rv_len]; exact remap_seen.revs_le l o n
theorem rv_succ (l : List Lb) (o : Lb) (n : Nat) : rv l o (n + 1) = if bel (rd_T25 l (n : Int)) o = true then rv l o n ++ [(n : Int)] else rv l o n := by
  unfold rv
  split
  · rename_i h
    rw [remap_seen.revs_hit h]
    simp
  · rename_i h
    rw [remap_seen.revs_miss (by rw [bel_eq]; simpa using h)]
theorem seen_f (l : List Lb) (o : Lb) (h : l.length ≤ 8796093022208) : remap_Seen.f l o.f0 o.f1 = some (rv l o l.length) := by
  unfold remap_Seen.f
  rw [if_pos h]
  rfl
theorem ref_seen_l0 {l : List Lb} {o : Lb} (hl : ∀ y ∈ l, ok25 y) (ho : ok25 o) (hs : l.length ≤ 8796093022208) : ∀ (d i : Nat), i + d = l.length → Ev (fun k => jalousieref17_Seen.l0 k l (rv l o i) (i : Int) o.f0 o.f1) (rv l o l.length)
  | 0, i, h => by
    obtain rfl : i = l.length := by omega
    refine ⟨1, fun k hk => ?_⟩
    obtain ⟨m, rfl, _⟩ := rounds_succ' hk
    simp only [jalousieref17_Seen.l0]
    rw [if_neg (by omega)]
  | d + 1, i, h => by
    obtain ⟨K, hK⟩ := ref_seen_l0 hl ho hs d (i + 1) (by omega)
    obtain ⟨K2, hK2⟩ := below_ev (hl _ (rd_mem (l := l) (i := i) (by omega))) ho
    have hle := rv_le l o i
    refine ⟨max K K2 + 1, fun k hk => ?_⟩
    obtain ⟨m, rfl, hm⟩ := rounds_succ' hk
    have go := hK m (by omega)
    have hb := hK2 m (by omega)
    simp only at hb go
    rw [rv_succ] at go
    simp only [jalousieref17_Seen.l0]
    rw [if_pos (by omega), if_pos (by omega), hb, w64_succ i (by omega)]
    simp only [Option.bind_some]
    split
    · rename_i h1
      rw [if_pos h1] at go
      rw [if_pos (by omega)]
      exact go
    · rename_i h1
      rw [if_neg h1] at go
      exact go
theorem ref_seen_ev {l : List Lb} {o : Lb} (hl : ∀ y ∈ l, ok25 y) (ho : ok25 o) (hs : l.length ≤ 8796093022208) : Ev (fun k => jalousieref17_Seen.f k l o.f0 o.f1) (rv l o l.length) :=
  ref_seen_l0 hl ho hs l.length 0 (by omega)
/-- The answer of both Fulls. -/
def full (l : List Lb) (o : Lb) (n : Int) : Int × Bool := if 0 ≤ n ∧ n < ((rv l o l.length).length : Int) then (rd (rv l o l.length) n, true) else (0, false)
theorem full_f (l : List Lb) (o : Lb) (n : Int) : remap_Full.f l o.f0 o.f1 n = some (full l o n) := by
  unfold remap_Full.f full
  rw [rv_len]
  split
  · congr 2
    unfold rd rv
    simp only [List.getD_eq_getElem?_getD, List.getElem?_map]
    cases (remap_seen.revs l o l.length)[n.toNat]? <;> simp_all
  · rfl
theorem ref_full_ev {l : List Lb} {o : Lb} (hl : ∀ y ∈ l, ok25 y) (ho : ok25 o) (hs : l.length ≤ 8796093022208) (n : Int) : Ev (fun k => jalousieref17_Full.f k l o.f0 o.f1 n) (full l o n) := by
  obtain ⟨K, hK⟩ := ref_seen_ev hl ho hs
  refine ⟨K, fun k hk => ?_⟩
  have h := hK k hk
  simp only at h
  show jalousieref17_Full.f k l o.f0 o.f1 n = _
  unfold jalousieref17_Full.f full
  rw [h]
  simp only [Option.bind_some]
  by_cases h0 : n < 0
  · rw [if_pos h0, if_neg (by omega)]
  · rw [if_neg h0]
    by_cases h1 : n ≥ ((rv l o l.length).length : Int)
    · rw [if_pos h1, if_neg (by omega)]
    · rw [if_neg h1, if_pos (by omega), if_pos (by omega), if_pos (by omega)]
/-- Where a number first stands. -/
def fnd : List Int → Int → Nat → Option Nat
  | [], _, _ => none
  | x :: xs, a, i => if x = a then some i else fnd xs a (i + 1)
theorem drop_cons {α : Type} (l : List α) (i : Nat) (h : i < l.length) (d : α) : l.drop i = l.getD i d :: l.drop (i + 1) := by
  rw [List.drop_eq_getElem_cons h, List.getD_eq_getElem?_getD, List.getElem?_eq_getElem h]
  rfl
theorem rd_nat (l : List Int) (i : Nat) : rd l (i : Int) = l.getD i 0 := by simp [rd]
theorem index_l0 (l : List Int) (a : Int) (hs : l.length ≤ 9000000000000000000) : ∀ (d i : Nat), i + d = l.length → Ev (fun k => slices_Index_int_int.l0 k l a (l.length : Int) (i : Int)) (((fnd (l.drop i) a i).map fun (j : Nat) => (j : Int)).getD (-1))
  | 0, i, h => by
    obtain rfl : i = l.length := by omega
    refine ⟨1, fun k hk => ?_⟩
    obtain ⟨m, rfl, _⟩ := rounds_succ' hk
    simp only [slices_Index_int_int.l0]
    rw [if_neg (by omega), List.drop_length]
    rfl
  | d + 1, i, h => by
    obtain ⟨K, hK⟩ := index_l0 l a hs d (i + 1) (by omega)
    refine ⟨K + 1, fun k hk => ?_⟩
    obtain ⟨m, rfl, hm⟩ := rounds_succ' hk
    have go := hK m hm
    simp only at go
    simp only [slices_Index_int_int.l0]
    rw [if_pos (by omega), if_pos (by omega), if_pos (by omega), rd_nat, w64_succ i (by omega), drop_cons l i (by omega) 0]
    unfold fnd
    by_cases h1 : a = l.getD i 0
    · rw [if_pos h1, if_pos h1.symm]
      rfl
    · rw [if_neg h1, if_neg (fun e => h1 e.symm)]
      exact go
theorem ref_own_l0 (l : List Int) (a : Int) (hs : l.length ≤ 9000000000000000000) : ∀ (d i : Nat), i + d = l.length → Ev (fun k => jalousieref17_Own.l0 k a l (i : Int)) (((fnd (l.drop i) a i).map fun (j : Nat) => ((j : Int), true)).getD (0, false))
  | 0, i, h => by
    obtain rfl : i = l.length := by omega
    refine ⟨1, fun k hk => ?_⟩
    obtain ⟨m, rfl, _⟩ := rounds_succ' hk
    simp only [jalousieref17_Own.l0]
    rw [if_neg (by omega), List.drop_length]
    rfl
  | d + 1, i, h => by
    obtain ⟨K, hK⟩ := ref_own_l0 l a hs d (i + 1) (by omega)
    refine ⟨K + 1, fun k hk => ?_⟩
    obtain ⟨m, rfl, hm⟩ := rounds_succ' hk
    have go := hK m hm
    simp only at go
    simp only [jalousieref17_Own.l0]
    rw [if_pos (by omega), if_pos (by omega), rd_nat, w64_succ i (by omega), drop_cons l i (by omega) 0]
    unfold fnd
    by_cases h1 : l.getD i 0 = a
    · rw [if_pos h1, if_pos h1]
      rfl
    · rw [if_neg h1, if_neg h1]
      exact go
/-- The answer of both Owns. -/
def own (l : List Lb) (o : Lb) (n : Int) : Int × Bool := ((fnd (rv l o l.length) n 0).map fun (j : Nat) => ((j : Int), true)).getD (0, false)
theorem own_ev {l : List Lb} {o : Lb} (hs : l.length ≤ 8796093022208) (n : Int) : Ev (fun k => remap_Own.f k l o.f0 o.f1 n) (own l o n) := by
  have hle := rv_le l o l.length
  obtain ⟨K, hK⟩ := index_l0 (rv l o l.length) n (by omega) (rv l o l.length).length 0 (by omega)
  refine ⟨K, fun k hk => ?_⟩
  have h := hK k hk
  simp only [List.drop_zero] at h
  show remap_Own.f k l o.f0 o.f1 n = _
  unfold remap_Own.f slices_Index_int_int.f own
  rw [seen_f l o hs]
  simp only [Option.bind_some]
  rw [show ((0 : Nat) : Int) = 0 from rfl] at h
  rw [h]
  cases fnd (rv l o l.length) n 0 with
  | none => simp [mx]
  | some j =>
    simp only [Option.map_some, Option.getD_some, Option.bind_some, Option.some.injEq, Prod.mk.injEq]
    exact ⟨by unfold mx; split <;> omega, by simp⟩
theorem ref_own_ev {l : List Lb} {o : Lb} (hl : ∀ y ∈ l, ok25 y) (ho : ok25 o) (hs : l.length ≤ 8796093022208) (n : Int) : Ev (fun k => jalousieref17_Own.f k l o.f0 o.f1 n) (own l o n) := by
  have hle := rv_le l o l.length
  obtain ⟨K, hK⟩ := ref_own_l0 (rv l o l.length) n (by omega) (rv l o l.length).length 0 (by omega)
  obtain ⟨K2, hK2⟩ := ref_seen_ev hl ho hs
  refine ⟨max K K2, fun k hk => ?_⟩
  have h := hK k (by omega)
  have h2 := hK2 k (by omega)
  simp only [List.drop_zero] at h h2
  show jalousieref17_Own.f k l o.f0 o.f1 n = _
  unfold jalousieref17_Own.f own
  rw [h2]
  simp only [Option.bind_some]
  exact h
theorem last_f {l : List Lb} {o : Lb} (hs : l.length ≤ 8796093022208) : remap_Last.f l o.f0 o.f1 = some (full l o (((rv l o l.length).length : Int) - 1)) := by
  have hle := rv_le l o l.length
  unfold remap_Last.f
  rw [seen_f l o hs]
  simp only [Option.bind_some]
  rw [w64_id _ (by omega) (by omega), full_f]
  rfl
/-- How many are the label. -/
def cnt (l : List Lb) (o : Lb) (n : Nat) : Nat := ((l.take n).filter fun y => y.f0 == o.f0 && y.f1 == o.f1).length
theorem cnt_le (l : List Lb) (o : Lb) (n : Nat) : cnt l o n ≤ n := by
  unfold cnt
  exact Nat.le_trans (List.length_filter_le _ _) (List.length_take_le _ _)
theorem cnt_succ (l : List Lb) (o : Lb) (n : Nat) (h : n < l.length) : cnt l o (n + 1) = if ((rd_T25 l (n : Int)).f0 == o.f0 && ((rd_T25 l (n : Int)).f1 == o.f1)) = true then cnt l o n + 1 else cnt l o n := by
  unfold cnt
  rw [List.take_succ_eq_append_getElem h, List.filter_append, rd_lb, List.getD_eq_getElem?_getD, List.getElem?_eq_getElem h]
  simp only [Option.getD_some, List.length_append, List.filter_cons, List.filter_nil]
  split <;> simp
theorem count_l0 (l : List Lb) (o : Lb) (hs : l.length ≤ 9000000000000000000) : ∀ (d i : Nat), i + d = l.length → Ev (fun k => remap_Count.l0 k ((cnt l o i : Nat) : Int) l (l.length : Int) (i : Int) o.f0 o.f1) ((cnt l o l.length : Nat) : Int)
  | 0, i, h => by
    obtain rfl : i = l.length := by omega
    refine ⟨1, fun k hk => ?_⟩
    obtain ⟨m, rfl, _⟩ := rounds_succ' hk
    simp only [remap_Count.l0]
    rw [if_neg (by omega)]
  | d + 1, i, h => by
    obtain ⟨K, hK⟩ := count_l0 l o hs d (i + 1) (by omega)
    have hle := cnt_le l o i
    refine ⟨K + 1, fun k hk => ?_⟩
    obtain ⟨m, rfl, hm⟩ := rounds_succ' hk
    have go := hK m hm
    simp only at go
    rw [cnt_succ l o i (by omega)] at go
    simp only [remap_Count.l0]
    rw [if_pos (by omega), if_pos (by omega), if_pos (by omega), w64_succ i (by omega), w64_succ (cnt l o i) (by omega)]
    have e : (o.f0 == (rd_T25 l (i : Int)).f0 && (o.f1 == (rd_T25 l (i : Int)).f1)) = ((rd_T25 l (i : Int)).f0 == o.f0 && ((rd_T25 l (i : Int)).f1 == o.f1)) := by
      rw [Bool.eq_iff_iff]
      simp only [Bool.and_eq_true, beq_iff_eq]
      exact ⟨fun g => ⟨g.1.symm, g.2.symm⟩, fun g => ⟨g.1.symm, g.2.symm⟩⟩
    rw [e]
    split
    · rename_i h1
      rw [if_pos h1] at go
      exact go
    · rename_i h1
      rw [if_neg h1] at go
      exact go
theorem ref_count_l0 (l : List Lb) (o : Lb) (hs : l.length ≤ 9000000000000000000) : ∀ (d i : Nat), i + d = l.length → Ev (fun k => jalousieref17_Count.l0 k l ((cnt l o i : Nat) : Int) (i : Int) o.f0 o.f1) ((cnt l o l.length : Nat) : Int)
  | 0, i, h => by
    obtain rfl : i = l.length := by omega
    refine ⟨1, fun k hk => ?_⟩
    obtain ⟨m, rfl, _⟩ := rounds_succ' hk
    simp only [jalousieref17_Count.l0]
    rw [if_neg (by omega)]
  | d + 1, i, h => by
    obtain ⟨K, hK⟩ := ref_count_l0 l o hs d (i + 1) (by omega)
    have hle := cnt_le l o i
    refine ⟨K + 1, fun k hk => ?_⟩
    obtain ⟨m, rfl, hm⟩ := rounds_succ' hk
    have go := hK m hm
    simp only at go
    rw [cnt_succ l o i (by omega)] at go
    simp only [jalousieref17_Count.l0]
    rw [if_pos (by omega), if_pos (by omega), w64_succ i (by omega), w64_succ (cnt l o i) (by omega)]
    split
    · rename_i h1
      rw [if_pos h1] at go
      exact go
    · rename_i h1
      rw [if_neg h1] at go
      exact go
theorem count_ev (l : List Lb) (o : Lb) (hs : l.length ≤ 9000000000000000000) : Ev (fun k => remap_Count.f k l o.f0 o.f1) ((cnt l o l.length : Nat) : Int) := count_l0 l o hs l.length 0 (by omega)
theorem ref_count_ev (l : List Lb) (o : Lb) (hs : l.length ≤ 9000000000000000000) : Ev (fun k => jalousieref17_Count.f k l o.f0 o.f1) ((cnt l o l.length : Nat) : Int) := ref_count_l0 l o hs l.length 0 (by omega)
theorem ints_l0 (l : List Int) (hs : l.length ≤ 9000000000000000000) : ∀ (d i : Nat), i + d = l.length → Ev (fun k => jalousieref05_Ints.l0 k l l (i : Int)) true
  | 0, i, h => by
    obtain rfl : i = l.length := by omega
    refine ⟨1, fun k hk => ?_⟩
    obtain ⟨m, rfl, _⟩ := rounds_succ' hk
    simp only [jalousieref05_Ints.l0]
    rw [if_neg (by omega)]
  | d + 1, i, h => by
    obtain ⟨K, hK⟩ := ints_l0 l hs d (i + 1) (by omega)
    refine ⟨K + 1, fun k hk => ?_⟩
    obtain ⟨m, rfl, hm⟩ := rounds_succ' hk
    have go := hK m hm
    simp only [jalousieref05_Ints.l0]
    rw [if_pos (by omega), if_pos (by omega), if_pos (by omega), w64_succ i (by omega)]
    simpa using go
/-- Two that are the same. -/
theorem ints_ev (l : List Int) (hs : l.length ≤ 9000000000000000000) : Ev (fun k => jalousieref05_Ints.f k l l) true := by
  obtain ⟨K, hK⟩ := ints_l0 l hs l.length 0 (by omega)
  refine ⟨K, fun k hk => ?_⟩
  show jalousieref05_Ints.f k l l = _
  unfold jalousieref05_Ints.f
  rw [if_pos rfl]
  exact hK k hk
theorem live_ev : Ev (fun k => jalousielaw17_live.f k) true := by
  refine Ev.of (fun k => jalousielaw17_live.mono k) (k := 8) ?_
  decide +kernel
end Go.Proofs.Ytdbdfnkhbcgklaa.R
