/-
  What the claim needs of the words, of the walks and of the plain proofs, in one row (8).
-/
import Derived.Lib.IndexAny
import Derived.Deep.RegionHeld3
import Derived.WalkLawsBesides
import Derived.WalkSpells
import Derived.RangeFuncNested
import Derived.RangeFuncBound
import Derived.RangeFuncCalls
import Derived.RangeFuncLeaves
import Derived.RangeFuncBox
import Derived.RangeFuncMany
import Derived.Shelf.Abstract
import Derived.OwnWalkIn
import Derived.TacticsInMore
import Derived.LoopNIn
import Derived.LoopIn
import Derived.Test.YtfnbodjmmkjlcaaZ0
import Derived.Test.YtfnbodjmmkjlcaaZ1
import Derived.Test.YtfnbodjmmkjlcaaZ2
import Derived.Test.YtfnbodjmmkjlcaaZ3
import Derived.Test.YtfnbodjmmkjlcaaZ4
import Derived.Test.YtfnbodjmmkjlcaaZ5
import Derived.Test.YtfnbodjmmkjlcaaZ6
import Derived.Test.YtfnbodjmmkjlcaaZ7
section
namespace Go.Proofs.Ytfnbodjmmkjlcaa.H
open Go.RowKit Go.Proofs.YtfnbodjmmkjlcaaW.PrintWords Go.Proofs.YtfnbodjmmkjlcaaW.PrintLast Go.Proofs.YtfnbodjmmkjlcaaW.PrintMore
set_option linter.unusedVariables false
set_option linter.unusedSimpArgs false
theorem rdE (l : List S47) (i : Nat) : rd_T47 l (i : Int) = l.getD i z47 := by simp [rd_T47]
theorem rdH (l : List S44) (i : Nat) : rd_T44 l (i : Int) = l.getD i z44 := by simp [rd_T44]
theorem rdL (l : List S66) (i : Nat) : rd_T66 l (i : Int) = l.getD i z66 := by simp [rd_T66]
theorem getD_mem {α : Type} {l : List α} {i : Nat} (h : i < l.length) (d : α) : l.getD i d ∈ l := by
  rw [getD_lt h]
  exact List.getElem_mem h
/-- How many lines. -/
def nl (s : List S47) : Nat := (s.map (fun e => e.f1.length)).sum
theorem nl_cons (x : S47) (s : List S47) : nl (x :: s) = x.f1.length + nl s := by simp [nl]
theorem nl_nil : nl [] = 0 := rfl
theorem nl_append (s t : List S47) : nl (s ++ t) = nl s + nl t := by simp [nl]
theorem nl_lines (s : List S47) : script_normal.lines s = nl s := rfl
/-- Each stays, goes, or is put in. -/
def allok (s : List S47) : Bool := s.all fun x => decide (1 ≤ x.f0 ∧ x.f0 ≤ 3)
theorem allok_cons (x : S47) (s : List S47) : allok (x :: s) = (decide (1 ≤ x.f0 ∧ x.f0 ≤ 3) && allok s) := by simp [allok]
/-- Sizes that a machine holds. -/
def Fit (s : List S47) : Prop := s.length ≤ 4398046511104 ∧ ∀ x ∈ s, x.f1.length ≤ 5864062014805
/-- What is wrong with a script. -/
def chk (s : List S47) : Int := if 800 < s.length then 4 else if 800 < nl s then 4 else if allok s = true then 0 else 3
theorem chk_zero {s : List S47} : chk s = 0 ↔ s.length ≤ 800 ∧ nl s ≤ 800 ∧ allok s = true := by
  unfold chk
  by_cases h1 : 800 < s.length
  · rw [if_pos h1]
    constructor
    · intro h
      cases h
    · omega
  · rw [if_neg h1]
    by_cases h2 : 800 < nl s
    · rw [if_pos h2]
      constructor
      · intro h
        cases h
      · omega
    · rw [if_neg h2]
      by_cases h3 : allok s = true
      · rw [if_pos h3]
        simp [h3]
        omega
      · rw [if_neg h3]
        simp [h3]
theorem chk_l0 (s : List S47) (hf : Fit s) : ∀ (d i n : Nat) (e : Int), i + d = s.length → n ≤ 800 → Ev (fun k => script_Check.l0 k (n : Int) e s (s.length : Int) (i : Int)) (if 800 < n + nl (s.drop i) then 4 else if allok (s.drop i) = true then e else 3)
  | 0, i, n, e, h, hn => by
    refine ev_succ ?_
    simp only [script_Check.l0]
    have := hf.1
    (repeat (first | refine ev_pos (by omega) ?_ | refine ev_neg (by omega) ?_))
    rw [List.drop_of_length_le (by omega)]
    exact ev_some (by rw [if_neg (by rw [nl_nil]; omega)]; rfl)
  | d + 1, i, n, e, h, hn => by
    have h1 := hf.1
    have hx := hf.2 _ (getD_mem (l := s) (i := i) (by omega) z47)
    rw [drop_cons s i (by omega) z47]
    refine ev_succ ?_
    simp only [script_Check.l0, rdE]
    rw [w64s i (by omega)]
    generalize s.getD i z47 = x at hx
    have hm : mn (wrap64 ((n : Int) + (x.f1.length : Int))) 801 = ((min (n + x.f1.length) 801 : Nat) : Int) := by
      unfold mn wrap64
      split <;> omega
    rw [hm, nl_cons, allok_cons]
    refine ev_pos (by omega) ?_
    refine ev_pos (by omega) ?_
    refine ev_pos (by omega) ?_
    by_cases hc : 800 < n + x.f1.length
    · refine ev_pos (by omega) ?_
      exact ev_some (by rw [if_pos (by omega)])
    · refine ev_neg (by omega) ?_
      rw [Nat.min_eq_left (by omega)]
      by_cases h3 : x.f0 < 1
      · refine ev_pos h3 ?_
        refine ev_cast (chk_l0 s hf d (i + 1) (n + x.f1.length) 3 (by omega) (by omega)) ?_
        rw [decide_eq_false (by omega), Bool.false_and, Nat.add_assoc]
        split
        · rfl
        · simp
      · refine ev_neg h3 ?_
        by_cases h4 : x.f0 > 3
        · refine ev_pos h4 ?_
          refine ev_cast (chk_l0 s hf d (i + 1) (n + x.f1.length) 3 (by omega) (by omega)) ?_
          rw [decide_eq_false (by omega), Bool.false_and, Nat.add_assoc]
          split
          · rfl
          · simp
        · refine ev_neg h4 ?_
          refine ev_cast (chk_l0 s hf d (i + 1) (n + x.f1.length) e (by omega) (by omega)) ?_
          rw [decide_eq_true (by omega), Bool.true_and, Nat.add_assoc]
theorem chk_ev (s : List S47) (hf : Fit s) : Ev (fun k => script_Check.f k s) (chk s) := by
  unfold script_Check.f chk
  by_cases h : 800 < s.length
  · refine ev_pos (by omega) ?_
    exact ev_some (by rw [if_pos h])
  · refine ev_neg (by omega) ?_
    refine ev_cast (chk_l0 s hf s.length 0 0 0 (by omega) (by omega)) ?_
    rw [if_neg h, List.drop_zero, Nat.zero_add]
theorem rchk_l1 (s : List S47) (hf : Fit s) : ∀ (d i : Nat), i + d = s.length → Ev (fun k => jalousieref08_Check.l1 k s (i : Int)) (if allok (s.drop i) = true then 0 else 3)
  | 0, i, h => by
    refine ev_succ ?_
    simp only [jalousieref08_Check.l1]
    have := hf.1
    (repeat (first | refine ev_pos (by omega) ?_ | refine ev_neg (by omega) ?_))
    rw [List.drop_of_length_le (by omega)]
    exact ev_some (by rfl)
  | d + 1, i, h => by
    have h1 := hf.1
    rw [drop_cons s i (by omega) z47]
    refine ev_succ ?_
    simp only [jalousieref08_Check.l1, rdE]
    rw [w64s i (by omega), allok_cons]
    generalize s.getD i z47 = x
    refine ev_pos (by omega) ?_
    refine ev_pos (by omega) ?_
    have ih := rchk_l1 s hf d (i + 1) (by omega)
    by_cases a1 : x.f0 = 1
    · refine ev_pos a1 (ev_cast ih ?_)
      rw [decide_eq_true (by omega), Bool.true_and]
    · refine ev_neg a1 ?_
      by_cases a2 : x.f0 = 2
      · refine ev_pos a2 (ev_cast ih ?_)
        rw [decide_eq_true (by omega), Bool.true_and]
      · refine ev_neg a2 ?_
        by_cases a3 : x.f0 = 3
        · refine ev_pos a3 (ev_cast ih ?_)
          rw [decide_eq_true (by omega), Bool.true_and]
        · refine ev_neg a3 (ev_some ?_)
          rw [decide_eq_false (by omega), Bool.false_and]
          rfl
theorem rchk_l0 (s : List S47) (hf : Fit s) : ∀ (d i n : Nat), i + d = s.length → n ≤ 800 → Ev (fun k => jalousieref08_Check.l0 k s (n : Int) (i : Int)) (if 800 < n + nl (s.drop i) then 4 else if allok s = true then 0 else 3)
  | 0, i, n, h, hn => by
    refine ev_succ ?_
    simp only [jalousieref08_Check.l0]
    have := hf.1
    (repeat (first | refine ev_pos (by omega) ?_ | refine ev_neg (by omega) ?_))
    rw [List.drop_of_length_le (by omega)]
    refine ev_cast (rchk_l1 s hf s.length 0 (by omega)) ?_
    rw [List.drop_zero, if_neg (show ¬ 800 < n + nl [] by rw [nl_nil]; omega)]
  | d + 1, i, n, h, hn => by
    have h1 := hf.1
    have hx := hf.2 _ (getD_mem (l := s) (i := i) (by omega) z47)
    rw [drop_cons s i (by omega) z47]
    refine ev_succ ?_
    simp only [jalousieref08_Check.l0, rdE]
    rw [w64s i (by omega)]
    generalize s.getD i z47 = x at hx
    rw [w64i (800 - (n : Int)) (by omega) (by omega), w64i ((n : Int) + (x.f1.length : Int)) (by omega) (by omega), nl_cons]
    refine ev_pos (by omega) ?_
    refine ev_pos (by omega) ?_
    by_cases hc : 800 < n + x.f1.length
    · refine ev_pos (by omega) ?_
      exact ev_some (by rw [if_pos (by omega)])
    · refine ev_neg (by omega) ?_
      refine ev_cast (rchk_l0 s hf d (i + 1) (n + x.f1.length) (by omega) (by omega)) ?_
      rw [Nat.add_assoc]
theorem rchk_ev (s : List S47) (hf : Fit s) : Ev (fun k => jalousieref08_Check.f k s) (chk s) := by
  unfold jalousieref08_Check.f chk
  by_cases h : 800 < s.length
  · refine ev_pos (by omega) ?_
    exact ev_some (by rw [if_pos h])
  · refine ev_neg (by omega) ?_
    refine ev_cast (rchk_l0 s hf s.length 0 0 (by omega) (by omega)) ?_
    rw [if_neg h, List.drop_zero, Nat.zero_add]
/-- A script's lines but those of one kind. -/
def side (s : List S47) (but : Int) : List S66 := s.flatMap fun x => if x.f0 = but then [] else x.f1
theorem side_cons (x : S47) (s : List S47) (b : Int) : side (x :: s) b = (if x.f0 = b then [] else x.f1) ++ side s b := by simp [side]
theorem sides_l0 (s : List S47) (hok : allok s = true) (hn : nl s ≤ 800) (hl : s.length ≤ 800) : ∀ (d i : Nat) (a b : List S66), i + d = s.length → a.length + nl (s.drop i) ≤ 800 → b.length + nl (s.drop i) ≤ 800 → Ev (fun k => script_sides.l0 k a b s (s.length : Int) (i : Int)) (a ++ side (s.drop i) 3, b ++ side (s.drop i) 2)
  | 0, i, a, b, h, ha, hb => by
    refine ev_succ ?_
    simp only [script_sides.l0]
    (repeat (first | refine ev_pos (by omega) ?_ | refine ev_neg (by omega) ?_))
    rw [List.drop_of_length_le (by omega)]
    exact ev_some (by simp [side])
  | d + 1, i, a, b, h, ha, hb => by
    have hx : 1 ≤ (s.getD i z47).f0 ∧ (s.getD i z47).f0 ≤ 3 := by
      have := List.all_eq_true.1 hok _ (getD_mem (l := s) (i := i) (by omega) z47)
      simpa using this
    rw [drop_cons s i (by omega) z47] at ha hb ⊢
    rw [nl_cons] at ha hb
    refine ev_succ ?_
    simp only [script_sides.l0, rdE]
    rw [w64s i (by omega)]
    generalize s.getD i z47 = x at hx ha hb
    rw [side_cons, side_cons]
    refine ev_pos (by omega) ?_
    refine ev_pos (by omega) ?_
    refine ev_pos (by omega) ?_
    by_cases a1 : x.f0 = 1
    · refine ev_pos a1 ?_
      (repeat (first | refine ev_pos (by omega) ?_ | refine ev_neg (by omega) ?_))
      refine ev_cast (sides_l0 s hok hn hl d (i + 1) _ _ (by omega) (by rw [List.length_append]; omega) (by rw [List.length_append]; omega)) ?_
      rw [if_neg (by omega), if_neg (by omega), List.append_assoc, List.append_assoc]
    · refine ev_neg a1 ?_
      by_cases a2 : x.f0 = 2
      · refine ev_pos a2 ?_
        (repeat (first | refine ev_pos (by omega) ?_ | refine ev_neg (by omega) ?_))
        refine ev_cast (sides_l0 s hok hn hl d (i + 1) _ _ (by omega) (by rw [List.length_append]; omega) (by omega)) ?_
        rw [if_neg (by omega), if_pos a2, List.append_assoc, List.nil_append]
      · refine ev_neg a2 ?_
        (repeat (first | refine ev_pos (by omega) ?_ | refine ev_neg (by omega) ?_))
        refine ev_cast (sides_l0 s hok hn hl d (i + 1) _ _ (by omega) (by omega) (by rw [List.length_append]; omega)) ?_
        rw [if_pos (by omega), if_neg a2, List.append_assoc, List.nil_append]
/-- Both sides, and what is wrong. -/
def sds (s : List S47) : List S66 × List S66 × Int := if chk s = 0 then (side s 3, side s 2, 0) else ([], [], chk s)
theorem sides_ev (s : List S47) (hf : Fit s) : Ev (fun k => script_Sides.f k s) (sds s) := by
  unfold script_Sides.f sds
  refine Ev.bind (chk_ev s hf) ?_
  by_cases h : chk s = 0
  · refine ev_pos h ?_
    rw [if_pos h]
    obtain ⟨h1, h2, h3⟩ := chk_zero.1 h
    refine Ev.bind (a := (side s 3, side s 2)) ?_ (ev_some rfl)
    unfold script_sides.f
    refine ev_cast (sides_l0 s h3 h2 h1 s.length 0 [] [] (by omega) (by simpa using h2) (by simpa using h2)) ?_
    simp
  · refine ev_neg h ?_
    rw [if_neg h]
    exact ev_some rfl
theorem rside_l0 (s : List S47) (but : Int) (hn : nl s ≤ 800) (hl : s.length ≤ 800) : ∀ (d i : Nat) (a : List S66), i + d = s.length → a.length + nl (s.drop i) ≤ 800 → Ev (fun k => jalousieref08_side.l0 k s but a (i : Int)) (a ++ side (s.drop i) but)
  | 0, i, a, h, ha => by
    refine ev_succ ?_
    simp only [jalousieref08_side.l0]
    (repeat (first | refine ev_pos (by omega) ?_ | refine ev_neg (by omega) ?_))
    rw [List.drop_of_length_le (by omega)]
    exact ev_some (by simp [side])
  | d + 1, i, a, h, ha => by
    rw [drop_cons s i (by omega) z47] at ha ⊢
    rw [nl_cons] at ha
    refine ev_succ ?_
    simp only [jalousieref08_side.l0, rdE]
    rw [w64s i (by omega)]
    generalize s.getD i z47 = x at ha
    rw [side_cons]
    refine ev_pos (by omega) ?_
    refine ev_pos (by omega) ?_
    by_cases a1 : x.f0 = but
    · refine ev_pos a1 ?_
      refine ev_cast (rside_l0 s but hn hl d (i + 1) _ (by omega) (by omega)) ?_
      rw [if_pos a1, List.nil_append]
    · refine ev_neg a1 ?_
      (repeat (first | refine ev_pos (by omega) ?_ | refine ev_neg (by omega) ?_))
      refine ev_cast (rside_l0 s but hn hl d (i + 1) _ (by omega) (by rw [List.length_append]; omega)) ?_
      rw [if_neg a1, List.append_assoc]
theorem rside_ev (s : List S47) (but : Int) (hn : nl s ≤ 800) (hl : s.length ≤ 800) : Ev (fun k => jalousieref08_side.f k s but) (side s but) := by
  unfold jalousieref08_side.f
  exact ev_cast (rside_l0 s but hn hl s.length 0 [] (by omega) (by simpa using hn)) (by simp)
theorem rsides_ev (s : List S47) (hf : Fit s) : Ev (fun k => jalousieref08_Sides.f k s) (sds s) := by
  unfold jalousieref08_Sides.f sds
  refine Ev.bind (rchk_ev s hf) ?_
  by_cases h : chk s = 0
  · refine ev_pos h ?_
    rw [if_pos h]
    obtain ⟨h1, h2, h3⟩ := chk_zero.1 h
    exact Ev.bind (rside_ev s 3 h2 h1) (Ev.bind (rside_ev s 2 h2 h1) (ev_some rfl))
  · refine ev_neg h ?_
    rw [if_neg h]
    exact ev_some rfl
def chg (s : List S47) : Nat := (s.map fun x => if x.f0 = 2 ∨ x.f0 = 3 then x.f1.length else 0).sum
theorem chg_cons (x : S47) (s : List S47) : chg (x :: s) = (if x.f0 = 2 ∨ x.f0 = 3 then x.f1.length else 0) + chg s := by simp [chg]
theorem chg_l0 (s : List S47) (hn : nl s ≤ 1000000000000000000) (hl : s.length ≤ 1000000000000000000) : ∀ (d i n : Nat), i + d = s.length → n + nl (s.drop i) ≤ 1000000000000000000 → Ev (fun k => script_Changed.l0 k (n : Int) s (s.length : Int) (i : Int)) ((n + chg (s.drop i) : Nat) : Int)
  | 0, i, n, h, ha => by
    refine ev_succ ?_
    simp only [script_Changed.l0]
    (repeat (first | refine ev_pos (by omega) ?_ | refine ev_neg (by omega) ?_))
    rw [List.drop_of_length_le (by omega)]
    exact ev_some (by simp [chg])
  | d + 1, i, n, h, ha => by
    rw [drop_cons s i (by omega) z47] at ha ⊢
    rw [nl_cons] at ha
    refine ev_succ ?_
    simp only [script_Changed.l0, rdE]
    rw [w64s i (by omega)]
    generalize s.getD i z47 = x at ha
    rw [chg_cons]
    refine ev_pos (by omega) ?_
    refine ev_pos (by omega) ?_
    refine ev_pos (by omega) ?_
    have hw : wrap64 ((n : Int) + (x.f1.length : Int)) = ((n + x.f1.length : Nat) : Int) := by
      unfold wrap64
      omega
    by_cases a1 : x.f0 = 2
    · refine ev_pos a1 ?_
      rw [hw]
      refine ev_cast (chg_l0 s hn hl d (i + 1) _ (by omega) (by omega)) ?_
      rw [if_pos (Or.inl a1), Nat.add_assoc]
    · refine ev_neg a1 ?_
      by_cases a2 : x.f0 = 3
      · refine ev_pos a2 ?_
        rw [hw]
        refine ev_cast (chg_l0 s hn hl d (i + 1) _ (by omega) (by omega)) ?_
        rw [if_pos (Or.inr a2), Nat.add_assoc]
      · refine ev_neg a2 ?_
        refine ev_cast (chg_l0 s hn hl d (i + 1) _ (by omega) (by omega)) ?_
        rw [if_neg (by omega), Nat.zero_add]
theorem chg_ev (s : List S47) (hn : nl s ≤ 1000000000000000000) (hl : s.length ≤ 1000000000000000000) : Ev (fun k => script_Changed.f k s) (chg s : Int) := by
  unfold script_Changed.f
  refine ev_cast (chg_l0 s hn hl s.length 0 0 (by omega) (by simpa using hn)) ?_
  simp
theorem rchg_l0 (s : List S47) (hn : nl s ≤ 1000000000000000000) (hl : s.length ≤ 1000000000000000000) : ∀ (d i n : Nat), i + d = s.length → n + nl (s.drop i) ≤ 1000000000000000000 → Ev (fun k => jalousieref08_Changed.l0 k s (n : Int) (i : Int)) ((n + chg (s.drop i) : Nat) : Int)
  | 0, i, n, h, ha => by
    refine ev_succ ?_
    simp only [jalousieref08_Changed.l0]
    (repeat (first | refine ev_pos (by omega) ?_ | refine ev_neg (by omega) ?_))
    rw [List.drop_of_length_le (by omega)]
    exact ev_some (by simp [chg])
  | d + 1, i, n, h, ha => by
    rw [drop_cons s i (by omega) z47] at ha ⊢
    rw [nl_cons] at ha
    refine ev_succ ?_
    simp only [jalousieref08_Changed.l0, rdE]
    rw [w64s i (by omega)]
    generalize s.getD i z47 = x at ha
    rw [chg_cons]
    refine ev_pos (by omega) ?_
    refine ev_pos (by omega) ?_
    have hw : wrap64 ((n : Int) + (x.f1.length : Int)) = ((n + x.f1.length : Nat) : Int) := by
      unfold wrap64
      omega
    by_cases a1 : x.f0 = 2
    · refine ev_pos a1 ?_
      rw [hw]
      refine ev_cast (rchg_l0 s hn hl d (i + 1) _ (by omega) (by omega)) ?_
      rw [if_pos (Or.inl a1), Nat.add_assoc]
    · refine ev_neg a1 ?_
      by_cases a2 : x.f0 = 3
      · refine ev_pos a2 ?_
        rw [hw]
        refine ev_cast (rchg_l0 s hn hl d (i + 1) _ (by omega) (by omega)) ?_
        rw [if_pos (Or.inr a2), Nat.add_assoc]
      · refine ev_neg a2 ?_
        refine ev_cast (rchg_l0 s hn hl d (i + 1) _ (by omega) (by omega)) ?_
        rw [if_neg (by omega), Nat.zero_add]
theorem rchg_ev (s : List S47) (hn : nl s ≤ 1000000000000000000) (hl : s.length ≤ 1000000000000000000) : Ev (fun k => jalousieref08_Changed.f k s) (chg s : Int) := by
  unfold jalousieref08_Changed.f
  refine ev_cast (rchg_l0 s hn hl s.length 0 0 (by omega) (by simpa using hn)) ?_
  simp
end Go.Proofs.Ytfnbodjmmkjlcaa.H
namespace Go.Proofs.Ytfnbodjmmkjlcaa.H
open Go.RowKit Go.Proofs.YtfnbodjmmkjlcaaW.PrintWords Go.Proofs.YtfnbodjmmkjlcaaW.PrintLast Go.Proofs.YtfnbodjmmkjlcaaW.PrintMore
set_option linter.unusedVariables false
set_option linter.unusedSimpArgs false
instance decL : DecidableEq S66 := fun a b => decidable_of_iff (a.f0 = b.f0 ∧ a.f1 = b.f1) ⟨fun h => by cases a; cases b; simp at h; simp [h], fun h => h ▸ ⟨rfl, rfl⟩⟩
instance decE : DecidableEq S47 := fun a b => decidable_of_iff (a.f0 = b.f0 ∧ a.f1 = b.f1) ⟨fun h => by cases a; cases b; simp at h; simp [h], fun h => h ▸ ⟨rfl, rfl⟩⟩
instance decH : DecidableEq S44 := fun a b => decidable_of_iff (a.f0 = b.f0 ∧ a.f1 = b.f1 ∧ a.f2 = b.f2 ∧ a.f3 = b.f3 ∧ a.f4 = b.f4) ⟨fun h => by cases a; cases b; simp at h; simp [h], fun h => h ▸ ⟨rfl, rfl, rfl, rfl, rfl⟩⟩
theorem line_ne (a b : S66) : (!((a.f0.toList) == (b.f0.toList)) || (!((a.f1) == (b.f1)))) = !decide (a = b) := by
  rw [ba_beq]
  by_cases h : a = b
  · subst h
    simp
  · rw [decide_eq_false h]
    by_cases h0 : a.f0 = b.f0
    · have h1 : a.f1 ≠ b.f1 := fun h1 => h (by cases a; cases b; simp at h0 h1; simp [h0, h1])
      simp [h0, h1]
    · simp [h0]
theorem decide_cons {α : Type} [DecidableEq α] (a b : α) (s t : List α) : decide (a :: s = b :: t) = (decide (a = b) && decide (s = t)) := by
  by_cases h : a = b
  · subst h
    by_cases h2 : s = t
    · simp [h2]
    · simp [h2]
  · simp [h]
theorem lsame_l0 (s t : List S66) (hl : s.length = t.length) (hs : s.length ≤ 9000000000000000000) : ∀ (d i : Nat), i + d = s.length → Ev (fun k => jalousieref01_Same.l0 k s t (i : Int)) (decide (s.drop i = t.drop i))
  | 0, i, h => by
    refine ev_succ ?_
    simp only [jalousieref01_Same.l0]
    (repeat (first | refine ev_pos (by omega) ?_ | refine ev_neg (by omega) ?_))
    rw [List.drop_of_length_le (by omega), List.drop_of_length_le (by omega)]
    exact ev_some (by simp)
  | d + 1, i, h => by
    refine ev_succ ?_
    simp only [jalousieref01_Same.l0, rdL]
    rw [w64s i (by omega), drop_cons s i (by omega) z66, drop_cons t i (by omega) z66, decide_cons, line_ne]
    refine ev_pos (by omega) ?_
    refine ev_pos (by omega) ?_
    refine ev_pos (by omega) ?_
    by_cases e : s.getD i z66 = t.getD i z66
    · refine ev_neg (by rw [decide_eq_true e]; simp) ?_
      refine ev_cast (lsame_l0 s t hl hs d (i + 1) (by omega)) ?_
      rw [decide_eq_true e, Bool.true_and]
    · refine ev_pos (by rw [decide_eq_false e]; simp) ?_
      exact ev_some (by rw [decide_eq_false e, Bool.false_and])
theorem lsame_ev (s t : List S66) (hs : s.length ≤ 9000000000000000000) : Ev (fun k => jalousieref01_Same.f k s t) (decide (s = t)) := by
  unfold jalousieref01_Same.f
  by_cases h : s.length = t.length
  · refine ev_pos (by omega) ?_
    exact ev_cast (lsame_l0 s t h hs s.length 0 (by omega)) (by simp)
  · refine ev_neg (by omega) ?_
    exact ev_some (by rw [decide_eq_false (fun e => h (by rw [e]))])
theorem leq_l0 (s t : List S66) (hl : s.length = t.length) (hs : s.length ≤ 9000000000000000000) : ∀ (d i : Nat), i + d = s.length → Ev (fun k => api_Line_56.l0 k s t (s.length : Int) (i : Int)) (decide (s.drop i = t.drop i))
  | 0, i, h => by
    refine ev_succ ?_
    simp only [api_Line_56.l0]
    (repeat (first | refine ev_pos (by omega) ?_ | refine ev_neg (by omega) ?_))
    rw [List.drop_of_length_le (by omega), List.drop_of_length_le (by omega)]
    exact ev_some (by simp)
  | d + 1, i, h => by
    refine ev_succ ?_
    simp only [api_Line_56.l0, rdL]
    rw [w64s i (by omega), drop_cons s i (by omega) z66, drop_cons t i (by omega) z66, decide_cons, line_ne]
    refine ev_pos (by omega) ?_
    refine ev_pos (by omega) ?_
    refine ev_pos (by omega) ?_
    refine ev_pos (by omega) ?_
    by_cases e : s.getD i z66 = t.getD i z66
    · refine ev_neg (by rw [decide_eq_true e]; simp) ?_
      refine ev_cast (leq_l0 s t hl hs d (i + 1) (by omega)) ?_
      rw [decide_eq_true e, Bool.true_and]
    · refine ev_pos (by rw [decide_eq_false e]; simp) ?_
      exact ev_some (by rw [decide_eq_false e, Bool.false_and])
theorem leq_ev (s t : List S66) (hs : s.length ≤ 9000000000000000000) : Ev (fun k => api_Line_56.f k s t) (decide (s = t)) := by
  unfold api_Line_56.f
  by_cases h : s.length = t.length
  · refine ev_pos (by omega) ?_
    exact ev_cast (leq_l0 s t h hs s.length 0 (by omega)) (by simp)
  · refine ev_neg (by omega) ?_
    exact ev_some (by rw [decide_eq_false (fun e => h (by rw [e]))])
theorem edit_eq (a b : S47) : decide (a = b) = (decide (a.f0 = b.f0) && decide (a.f1 = b.f1)) := by
  by_cases h0 : a.f0 = b.f0
  · by_cases h1 : a.f1 = b.f1
    · have e : a = b := by cases a; cases b; simp at h0 h1; simp [h0, h1]
      simp [e]
    · have e : a ≠ b := fun e => h1 (by rw [e])
      simp [e, h1]
  · have e : a ≠ b := fun e => h0 (by rw [e])
    simp [e, h0]
theorem hunk_eq (a b : S44) : decide (a = b) = (decide (a.f0 = b.f0) && (decide (a.f1 = b.f1) && (decide (a.f2 = b.f2) && (decide (a.f3 = b.f3) && decide (a.f4 = b.f4))))) := by
  by_cases e : a = b
  · simp [e]
  · rw [decide_eq_false e]
    symm
    rw [Bool.eq_false_iff]
    intro h
    simp only [Bool.and_eq_true, decide_eq_true_eq] at h
    obtain ⟨h0, h1, h2, h3, h4⟩ := h
    exact e (by cases a; cases b; simp at h0 h1 h2 h3 h4; simp [h0, h1, h2, h3, h4])
theorem esame_l0 (s t : List S47) (hl : s.length = t.length) (hs : Fit s) : ∀ (d i : Nat), i + d = s.length → Ev (fun k => jalousieref08_Same.l0 k s t (i : Int)) (decide (s.drop i = t.drop i))
  | 0, i, h => by
    refine ev_succ ?_
    simp only [jalousieref08_Same.l0]
    (repeat (first | refine ev_pos (by omega) ?_ | refine ev_neg (by omega) ?_))
    rw [List.drop_of_length_le (by omega), List.drop_of_length_le (by omega)]
    exact ev_some (by simp)
  | d + 1, i, h => by
    have h1 := hs.1
    have hx := hs.2 _ (getD_mem (l := s) (i := i) (by omega) z47)
    refine ev_succ ?_
    simp only [jalousieref08_Same.l0, rdE]
    rw [w64s i (by omega), drop_cons s i (by omega) z47, drop_cons t i (by omega) z47, decide_cons, edit_eq]
    refine ev_pos (by omega) ?_
    refine ev_pos (by omega) ?_
    refine ev_pos (by omega) ?_
    by_cases e : (s.getD i z47).f0 = (t.getD i z47).f0
    · refine ev_pos e ?_
      refine Ev.bind (lsame_ev _ _ (by omega)) ?_
      by_cases e1 : (s.getD i z47).f1 = (t.getD i z47).f1
      · refine ev_pos (decide_eq_true e1) ?_
        refine ev_cast (esame_l0 s t hl hs d (i + 1) (by omega)) ?_
        rw [decide_eq_true e, decide_eq_true e1, Bool.true_and, Bool.true_and]
      · refine ev_neg (by rw [decide_eq_false e1]; simp) ?_
        exact ev_some (by rw [decide_eq_false e1, Bool.and_false, Bool.false_and])
    · refine ev_neg e ?_
      exact ev_some (by rw [decide_eq_false e, Bool.false_and, Bool.false_and])
theorem esame_ev (s t : List S47) (hs : Fit s) : Ev (fun k => jalousieref08_Same.f k s t) (decide (s = t)) := by
  unfold jalousieref08_Same.f
  by_cases h : s.length = t.length
  · refine ev_pos (by omega) ?_
    exact ev_cast (esame_l0 s t h hs s.length 0 (by omega)) (by simp)
  · refine ev_neg (by omega) ?_
    exact ev_some (by rw [decide_eq_false (fun e => h (by rw [e]))])
theorem fit_cons {x : S47} {s : List S47} (h : Fit (x :: s)) : Fit s := ⟨Nat.le_trans (Nat.le_succ _) h.1, fun y hy => h.2 y (List.mem_cons_of_mem _ hy)⟩
theorem eeq_all : ∀ (s t : List S47), Fit s → s.length = t.length → Ev (fun k => hunk_same.all k s t) (decide (s = t))
  | [], [], _, _ => ev_some rfl
  | [], _ :: _, _, h => by simp at h
  | _ :: _, [], _, h => by simp at h
  | x :: s, y :: t, hs, h => by
    have hx := hs.2 x (by simp)
    rw [decide_cons, edit_eq]
    simp only [hunk_same.all]
    refine Ev.bind (a := decide (x.f0 = y.f0) && decide (x.f1 = y.f1)) ?_ ?_
    · unfold hunk_same.one
      by_cases e : x.f0 = y.f0
      · refine ev_pos e (ev_cast (leq_ev _ _ (by omega)) ?_)
        rw [decide_eq_true e, Bool.true_and]
      · refine ev_neg e (ev_some ?_)
        rw [decide_eq_false e, Bool.false_and]
    · by_cases e : (decide (x.f0 = y.f0) && decide (x.f1 = y.f1)) = true
      · refine ev_pos e (ev_cast (eeq_all s t (fit_cons hs) (by simpa using h)) ?_)
        rw [e, Bool.true_and]
      · refine ev_neg e (ev_some ?_)
        rw [Bool.not_eq_true] at e
        rw [e, Bool.false_and]
theorem eeq_ev (s t : List S47) (hs : Fit s) : Ev (fun k => hunk_same.f k s t) (decide (s = t)) := by
  unfold hunk_same.f
  by_cases h : s.length = t.length
  · exact ev_pos h (eeq_all s t hs h)
  · refine ev_neg h (ev_some ?_)
    rw [decide_eq_false (fun e => h (by rw [e]))]
def FitH (s : List S44) : Prop := s.length ≤ 4398046511104 ∧ ∀ x ∈ s, Fit x.f4
theorem hsame_l0 (s t : List S44) (hl : s.length = t.length) (hs : FitH s) : ∀ (d i : Nat), i + d = s.length → Ev (fun k => jalousieref09_Same.l0 k s t (i : Int)) (decide (s.drop i = t.drop i))
  | 0, i, h => by
    refine ev_succ ?_
    simp only [jalousieref09_Same.l0]
    (repeat (first | refine ev_pos (by omega) ?_ | refine ev_neg (by omega) ?_))
    rw [List.drop_of_length_le (by omega), List.drop_of_length_le (by omega)]
    exact ev_some (by simp)
  | d + 1, i, h => by
    have h1 := hs.1
    have hx := hs.2 _ (getD_mem (l := s) (i := i) (by omega) z44)
    refine ev_succ ?_
    simp only [jalousieref09_Same.l0, rdH]
    rw [w64s i (by omega), drop_cons s i (by omega) z44, drop_cons t i (by omega) z44, decide_cons, hunk_eq]
    refine ev_pos (by omega) ?_
    refine ev_pos (by omega) ?_
    refine ev_pos (by omega) ?_
    generalize s.getD i z44 = x at hx ⊢
    generalize t.getD i z44 = y
    by_cases e0 : x.f0 = y.f0
    · refine ev_pos e0 ?_
      by_cases e1 : x.f1 = y.f1
      · refine ev_pos e1 ?_
        by_cases e2 : x.f2 = y.f2
        · refine ev_pos e2 ?_
          by_cases e3 : x.f3 = y.f3
          · refine ev_pos e3 ?_
            refine Ev.bind (esame_ev _ _ hx) ?_
            by_cases e4 : x.f4 = y.f4
            · refine ev_pos (decide_eq_true e4) ?_
              refine ev_cast (hsame_l0 s t hl hs d (i + 1) (by omega)) ?_
              rw [decide_eq_true e0, decide_eq_true e1, decide_eq_true e2, decide_eq_true e3, decide_eq_true e4]
              simp
            · refine ev_neg (by rw [decide_eq_false e4]; simp) ?_
              exact ev_some (by rw [decide_eq_false e4]; simp)
          · exact ev_neg e3 (ev_some (by rw [decide_eq_false e3]; simp))
        · exact ev_neg e2 (ev_some (by rw [decide_eq_false e2]; simp))
      · exact ev_neg e1 (ev_some (by rw [decide_eq_false e1]; simp))
    · exact ev_neg e0 (ev_some (by rw [decide_eq_false e0]; simp))
theorem hsame_ev (s t : List S44) (hs : FitH s) : Ev (fun k => jalousieref09_Same.f k s t) (decide (s = t)) := by
  unfold jalousieref09_Same.f
  by_cases h : s.length = t.length
  · refine ev_pos (by omega) ?_
    exact ev_cast (hsame_l0 s t h hs s.length 0 (by omega)) (by simp)
  · refine ev_neg (by omega) ?_
    exact ev_some (by rw [decide_eq_false (fun e => h (by rw [e]))])
/-- The lines of an edit, each one's own. -/
def one (x : S47) : List S47 := x.f1.map fun l => ⟨x.f0, [l]⟩
def single (s : List S47) : List S47 := s.flatMap one
theorem single_cons (x : S47) (s : List S47) : single (x :: s) = one x ++ single s := by simp [single]
theorem single_len (s : List S47) : (single s).length = nl s := by
  induction s with
  | nil => rfl
  | cons x t ih =>
    rw [single_cons, nl_cons, List.length_append, ih]
    simp [one]
theorem single_l (s : List S47) (hn : nl s ≤ 1000000000000) (hs : s.length ≤ 4398046511104) : ∀ (d i : Nat) (a : List S47), i + d = s.length → a.length + nl (s.drop i) ≤ 1000000000000 → Ev (fun k => jalousieref09_Single.l0 k s a (i : Int)) (a ++ single (s.drop i))
  | 0, i, a, h, ha => by
    refine ev_succ ?_
    simp only [jalousieref09_Single.l0]
    (repeat (first | refine ev_pos (by omega) ?_ | refine ev_neg (by omega) ?_))
    rw [List.drop_of_length_le (by omega)]
    exact ev_some (by simp [single])
  | d + 1, i, a, h, ha => by
    rw [drop_cons s i (by omega) z47] at ha ⊢
    rw [nl_cons] at ha
    refine ev_succ ?_
    simp only [jalousieref09_Single.l0]
    refine ev_pos (by omega) ?_
    have inner : ∀ (e j : Nat) (b : List S47), j + e = (s.getD i z47).f1.length → b.length + e + nl (s.drop (i + 1)) ≤ 1000000000000 → Ev (fun k => jalousieref09_Single.l1 k s b (i : Int) (j : Int)) (b ++ (((s.getD i z47).f1.drop j).map fun l => (⟨(s.getD i z47).f0, [l]⟩ : S47)) ++ single (s.drop (i + 1))) := by
      intro e
      induction e with
      | zero =>
        intro j b hj hb
        refine ev_succ ?_
        simp only [jalousieref09_Single.l1, rdE]
        (repeat (first | refine ev_pos (by omega) ?_ | refine ev_neg (by omega) ?_))
        rw [w64s i (by omega), List.drop_of_length_le (l := (s.getD i z47).f1) (by omega)]
        refine ev_cast (single_l s hn hs d (i + 1) b (by omega) (by omega)) (by simp)
      | succ e ih =>
        intro j b hj hb
        refine ev_succ ?_
        simp only [jalousieref09_Single.l1, rdE, rdL]
        (repeat (first | refine ev_pos (by omega) ?_ | refine ev_neg (by omega) ?_))
        rw [w64s j (by omega), drop_cons (s.getD i z47).f1 j (by omega) z66]
        refine ev_cast (ih (j + 1) _ (by omega) (by rw [List.length_append]; simp; omega)) (by simp)
    refine ev_cast (inner (s.getD i z47).f1.length 0 a (by omega) (by omega)) ?_
    rw [List.drop_zero, single_cons, List.append_assoc]
    rfl
theorem single_ev (s : List S47) (hn : nl s ≤ 1000000000000) (hs : s.length ≤ 4398046511104) : Ev (fun k => jalousieref09_Single.f k s) (single s) := by
  unfold jalousieref09_Single.f
  exact ev_cast (single_l s hn hs s.length 0 [] (by omega) (by simpa using hn)) (by simp)
def joins (l : List S44) : List S47 := l.flatMap (·.f4)
theorem joins_cons (h : S44) (t : List S44) : joins (h :: t) = h.f4 ++ joins t := by simp [joins]
theorem join_l (l : List S44) (hl : l.length ≤ 4398046511104) (hf : ∀ h ∈ l, ∀ x ∈ h.f4, x.f1.length < 5864062014805) : ∀ (d i : Nat) (a : List S47), i + d = l.length → a.length + (joins (l.drop i)).length ≤ 4398046511104 → Ev (fun k => hunk_Join.l0 k a l (l.length : Int) (i : Int)) (a ++ joins (l.drop i))
  | 0, i, a, h, ha => by
    refine ev_succ ?_
    simp only [hunk_Join.l0]
    (repeat (first | refine ev_pos (by omega) ?_ | refine ev_neg (by omega) ?_))
    rw [List.drop_of_length_le (by omega)]
    exact ev_some (by simp [joins])
  | d + 1, i, a, h, ha => by
    rw [drop_cons l i (by omega) z44] at ha ⊢
    rw [joins_cons, List.length_append] at ha
    have hfx := hf _ (getD_mem (l := l) (i := i) (by omega) z44)
    refine ev_succ ?_
    simp only [hunk_Join.l0, rdH]
    (repeat (first | refine ev_pos (by omega) ?_ | refine ev_neg (by omega) ?_))
    rw [joins_cons]
    generalize l.getD i z44 = x at ha hfx ⊢
    have inner : ∀ (e j : Nat) (b : List S47), j + e = x.f4.length → b.length + e + (joins (l.drop (i + 1))).length ≤ 4398046511104 → Ev (fun k => hunk_Join.l1 k b l (l.length : Int) (i : Int) x.f4 (x.f4.length : Int) (j : Int)) (b ++ (x.f4.drop j) ++ joins (l.drop (i + 1))) := by
      intro e
      induction e with
      | zero =>
        intro j b hj hb
        refine ev_succ ?_
        simp only [hunk_Join.l1]
        (repeat (first | refine ev_pos (by omega) ?_ | refine ev_neg (by omega) ?_))
        rw [w64s i (by omega), List.drop_of_length_le (l := x.f4) (by omega)]
        refine ev_cast (join_l l hl hf d (i + 1) b (by omega) (by omega)) (by simp)
      | succ e ih =>
        intro j b hj hb
        have hc := hfx _ (getD_mem (l := x.f4) (i := j) (by omega) z47)
        refine ev_succ ?_
        simp only [hunk_Join.l1, rdE]
        (repeat (first | refine ev_pos (by omega) ?_ | refine ev_neg (by omega) ?_))
        rw [w64s j (by omega), drop_cons x.f4 j (by omega) z47]
        refine ev_bind (a := (x.f4.getD j z47).f1) (by unfold api_Line_52.f; rw [if_pos hc]) ?_
        (repeat (first | refine ev_pos (by omega) ?_ | refine ev_neg (by omega) ?_))
        refine ev_cast (ih (j + 1) _ (by omega) (by rw [List.length_append]; simp; omega)) (by simp)
    refine ev_cast (inner x.f4.length 0 a (by omega) (by omega)) ?_
    rw [List.drop_zero, List.append_assoc]
theorem join_ev (l : List S44) (hl : l.length ≤ 4398046511104) (hf : ∀ h ∈ l, ∀ x ∈ h.f4, x.f1.length < 5864062014805) (hj : (joins l).length ≤ 4398046511104) : Ev (fun k => hunk_Join.f k l) (joins l) := by
  unfold hunk_Join.f
  exact ev_cast (join_l l hl hf l.length 0 [] (by omega) (by simpa using hj)) (by simp)
theorem rjoin_l (l : List S44) (hl : l.length ≤ 4398046511104) : ∀ (d i : Nat) (a : List S47), i + d = l.length → a.length + (joins (l.drop i)).length < 4398046511104 → Ev (fun k => jalousieref09_Join.l0 k l a (i : Int)) (a ++ joins (l.drop i))
  | 0, i, a, h, ha => by
    refine ev_succ ?_
    simp only [jalousieref09_Join.l0]
    (repeat (first | refine ev_pos (by omega) ?_ | refine ev_neg (by omega) ?_))
    rw [List.drop_of_length_le (by omega)]
    exact ev_some (by simp [joins])
  | d + 1, i, a, h, ha => by
    rw [drop_cons l i (by omega) z44] at ha ⊢
    rw [joins_cons, List.length_append] at ha
    refine ev_succ ?_
    simp only [jalousieref09_Join.l0, rdH]
    (repeat (first | refine ev_pos (by omega) ?_ | refine ev_neg (by omega) ?_))
    rw [joins_cons, w64s i (by omega)]
    refine ev_cast (rjoin_l l hl d (i + 1) _ (by omega) (by rw [List.length_append]; omega)) (by simp)
theorem rjoin_ev (l : List S44) (hl : l.length ≤ 4398046511104) (hj : (joins l).length < 4398046511104) : Ev (fun k => jalousieref09_Join.f k l) (joins l) := by
  unfold jalousieref09_Join.f
  exact ev_cast (rjoin_l l hl l.length 0 [] (by omega) (by simpa using hj)) (by simp)
end Go.Proofs.Ytfnbodjmmkjlcaa.H
namespace Go.Proofs.Ytfnbodjmmkjlcaa.H
open Go.RowKit Go.Proofs.YtfnbodjmmkjlcaaW.PrintWords Go.Proofs.YtfnbodjmmkjlcaaW.PrintLast Go.Proofs.YtfnbodjmmkjlcaaW.PrintMore
set_option linter.unusedVariables false
set_option linter.unusedSimpArgs false
theorem last_rd (t : List S47) (y : S47) : rd_T47 (t ++ [y]) (((t ++ [y]).length : Int) - 1) = y := by
  have e : (((t ++ [y]).length : Int) - 1) = (t.length : Int) := by simp
  rw [e, rdE, List.getD_eq_getElem?_getD]
  simp
theorem add_nil (s : List S47) (d : Int) : script_normal.add s d [] = s := by simp [script_normal.add]
theorem add_empty (d : Int) (l : List S66) (hl : l ≠ []) : script_normal.add [] d l = [⟨d, l⟩] := by
  unfold script_normal.add
  rw [if_neg (by simpa using hl), if_neg (by simp), List.nil_append]
theorem add_ne (t : List S47) (y : S47) (d : Int) (l : List S66) (hl : l ≠ []) (h : y.f0 ≠ d) : script_normal.add (t ++ [y]) d l = t ++ [y] ++ [⟨d, l⟩] := by
  unfold script_normal.add
  rw [if_neg (by simpa using hl), last_rd, if_neg (by simp [h])]
theorem add_eq (t : List S47) (y : S47) (d : Int) (l : List S66) (hl : l ≠ []) (h : y.f0 = d) : script_normal.add (t ++ [y]) d l = t ++ [⟨d, y.f1 ++ l⟩] := by
  unfold script_normal.add
  rw [if_neg (by simpa using hl), last_rd, if_pos ⟨by simp, h⟩]
  have e : (t ++ [y]).length - 1 = t.length := by simp
  rw [e, List.set_append_right _ _ (Nat.le_refl _), Nat.sub_self]
  rfl
theorem snoc_cases {α : Type} (s : List α) : s = [] ∨ ∃ t y, s = t ++ [y] := by
  rcases List.eq_nil_or_concat s with h | ⟨t, y, h⟩
  · exact .inl h
  · exact .inr ⟨t, y, by simpa using h⟩
theorem add_add (s : List S47) (d : Int) (a b : List S66) : script_normal.add (script_normal.add s d a) d b = script_normal.add s d (a ++ b) := by
  by_cases ha : a = []
  · subst ha
    rw [add_nil, List.nil_append]
  by_cases hb : b = []
  · subst hb
    rw [add_nil, List.append_nil]
  have hab : a ++ b ≠ [] := by simp [ha]
  rcases snoc_cases s with rfl | ⟨t, y, rfl⟩
  · rw [add_empty d a ha, add_empty d _ hab]
    exact add_eq [] ⟨d, a⟩ d b hb rfl
  · by_cases h : y.f0 = d
    · rw [add_eq t y d a ha h, add_eq t _ d b hb rfl, add_eq t y d _ hab h, List.append_assoc]
    · rw [add_ne t y d a ha h, add_ne t y d _ hab h, add_eq (t ++ [y]) ⟨d, a⟩ d b hb rfl]
theorem nl_add (s : List S47) (d : Int) (l : List S66) : nl (script_normal.add s d l) = nl s + l.length := by
  by_cases hl : l = []
  · subst hl
    rw [add_nil]
    simp
  rcases snoc_cases s with rfl | ⟨t, y, rfl⟩
  · rw [add_empty d l hl]
    simp [nl]
  · by_cases h : y.f0 = d
    · rw [add_eq t y d l hl h, nl_append, nl_append, nl_cons, nl_cons]
      simp [nl]
      omega
    · rw [add_ne t y d l hl h, nl_append _ [_], nl_cons]
      simp [nl]
def adj (a b : Int) : Prop := (a = 1 ∧ (b = 2 ∨ b = 3)) ∨ (a = 2 ∧ (b = 1 ∨ b = 3)) ∨ (a = 3 ∧ b = 1)
def good (x : S47) : Prop := (x.f0 = 1 ∨ x.f0 = 2 ∨ x.f0 = 3) ∧ x.f1 ≠ []
def Nf : List S47 → Prop
  | [] => True
  | x :: t => good x ∧ (∀ y ∈ t.head?, adj x.f0 y.f0) ∧ Nf t
theorem nf_append (s t : List S47) : Nf (s ++ t) ↔ Nf s ∧ Nf t ∧ ∀ x ∈ s.getLast?, ∀ y ∈ t.head?, adj x.f0 y.f0 := by
  induction s with
  | nil => simp [Nf]
  | cons a s ih =>
    rw [List.cons_append, Nf, ih, Nf]
    cases s with
    | nil =>
      simp [Nf]
      intro _
      exact and_comm
    | cons b s =>
      rw [List.getLast?_cons_cons]
      simp only [List.cons_append, List.head?_cons]
      constructor
      · rintro ⟨h1, h2, h3, h4, h5⟩
        exact ⟨⟨h1, h2, h3⟩, h4, h5⟩
      · rintro ⟨⟨h1, h2, h3⟩, h4, h5⟩
        exact ⟨h1, h2, h3, h4, h5⟩
theorem nf_snoc (t : List S47) (y : S47) : Nf (t ++ [y]) ↔ Nf t ∧ good y ∧ ∀ x ∈ t.getLast?, adj x.f0 y.f0 := by
  rw [nf_append]
  simp [Nf]
/-- The kind of the last edit is none or one of which b may come behind. -/
theorem nf_add (s : List S47) (d : Int) (l : List S66) (hd : d = 1 ∨ d = 2 ∨ d = 3) (hs : Nf s) (ha : ∀ x ∈ s.getLast?, x.f0 = d ∨ adj x.f0 d) : Nf (script_normal.add s d l) := by
  by_cases hl : l = []
  · subst hl
    rw [add_nil]
    exact hs
  rcases snoc_cases s with rfl | ⟨t, y, rfl⟩
  · rw [add_empty d l hl]
    simp [Nf, good, hl, hd]
  · have hy := ha y (by simp)
    by_cases h : y.f0 = d
    · rw [add_eq t y d l hl h]
      rw [nf_snoc] at hs ⊢
      exact ⟨hs.1, ⟨hd, by simp [hl]⟩, fun x hx => by have := hs.2.2 x hx; rw [h] at this; exact this⟩
    · rw [add_ne t y d l hl h, nf_snoc]
      exact ⟨hs, ⟨hd, hl⟩, fun x hx => by
        simp at hx
        subst hx
        exact hy.resolve_left h⟩
theorem last_add (s : List S47) (d : Int) (l : List S66) : ∀ x ∈ (script_normal.add s d l).getLast?, (l ≠ [] ∧ x.f0 = d) ∨ (l = [] ∧ x ∈ s.getLast?) := by
  intro x hx
  by_cases hl : l = []
  · subst hl
    rw [add_nil] at hx
    exact .inr ⟨rfl, hx⟩
  refine .inl ⟨hl, ?_⟩
  rcases snoc_cases s with rfl | ⟨t, y, rfl⟩
  · rw [add_empty d l hl] at hx
    simp at hx
    rw [← hx]
  · by_cases h : y.f0 = d
    · rw [add_eq t y d l hl h] at hx
      simp at hx
      rw [← hx]
    · rw [add_ne t y d l hl h] at hx
      simp at hx
      rw [← hx]
theorem take_in {s : List S47} {w : List S66} {x : S47} (h : x.f0 = 3) : script_normal.take (s, w) x = (s, w ++ x.f1) := by
  unfold script_normal.take
  rw [if_pos h]
theorem take_out {s : List S47} {w : List S66} {x : S47} (h : x.f0 = 2) : script_normal.take (s, w) x = (script_normal.add s 2 x.f1, w) := by
  unfold script_normal.take
  rw [if_neg (by omega), if_neg (by omega), h]
theorem take_keep {s : List S47} {w : List S66} {x : S47} (h : x.f0 = 1) (hx : x.f1 ≠ []) : script_normal.take (s, w) x = (script_normal.add (script_normal.add s 3 w) 1 x.f1, []) := by
  unfold script_normal.take
  rw [if_neg (by omega), if_pos ⟨h, List.length_pos_iff.2 hx⟩, h]
theorem take_none {s : List S47} {w : List S66} {x : S47} (hx : x.f1 = []) : script_normal.take (s, w) x = (s, w) := by
  unfold script_normal.take
  split
  · rw [hx, List.append_nil]
  · rw [if_neg (by simp [hx]), hx, add_nil]
theorem fold_nf (l : List S47) (hl : allok l = true) : ∀ (s : List S47) (w : List S66), Nf s → (∀ x ∈ s.getLast?, x.f0 ≠ 3) → Nf (l.foldl script_normal.take (s, w)).1 ∧ ∀ x ∈ (l.foldl script_normal.take (s, w)).1.getLast?, x.f0 ≠ 3 := by
  induction l with
  | nil => exact fun s w h1 h2 => ⟨h1, h2⟩
  | cons x t ih =>
    intro s w h1 h2
    rw [allok_cons, Bool.and_eq_true] at hl
    have hx := of_decide_eq_true hl.1
    have h12 : ∀ y ∈ s.getLast?, y.f0 = 1 ∨ y.f0 = 2 := by
      intro y hy
      have h3 := h2 y hy
      have hg : good y := by
        rcases snoc_cases s with rfl | ⟨u, v, rfl⟩
        · simp at hy
        · simp at hy
          subst hy
          exact ((nf_snoc u v).1 h1).2.1
      rcases hg.1 with h | h | h
      · exact .inl h
      · exact .inr h
      · exact absurd h h3
    rw [List.foldl_cons]
    by_cases hx0 : x.f1 = []
    · rw [take_none hx0]
      exact ih hl.2 s w h1 h2
    by_cases a3 : x.f0 = 3
    · rw [take_in a3]
      exact ih hl.2 s _ h1 h2
    by_cases a2 : x.f0 = 2
    · rw [take_out a2]
      refine ih hl.2 _ w (nf_add s 2 _ (by omega) h1 fun y hy => ?_) fun y hy => ?_
      · rcases h12 y hy with h | h
        · exact .inr (.inl ⟨h, by omega⟩)
        · exact .inl h
      · rcases last_add _ _ _ y hy with h | h
        · omega
        · exact absurd h.1 hx0
    · have a1 : x.f0 = 1 := by omega
      rw [take_keep a1 hx0]
      have hf : Nf (script_normal.add s 3 w) := nf_add s 3 w (by omega) h1 fun y hy => .inr (by
        rcases h12 y hy with h | h
        · exact .inl ⟨h, by omega⟩
        · exact .inr (.inl ⟨h, by omega⟩))
      refine ih hl.2 _ [] (nf_add _ 1 _ (by omega) hf fun y hy => ?_) fun y hy => ?_
      · rcases last_add _ _ _ y hy with h | h
        · exact .inr (.inr (.inr ⟨h.2, rfl⟩))
        · rcases h12 y h.2 with h | h
          · exact .inl h
          · exact .inr (.inr (.inl ⟨h, by omega⟩))
      · rcases last_add _ _ _ y hy with h | h
        · omega
        · exact absurd h.1 hx0
theorem p_nf (l : List S47) (hl : allok l = true) : Nf (script_normal.p l) := by
  unfold script_normal.p script_normal.all
  obtain ⟨h1, h2⟩ := fold_nf l hl [] [] trivial (by simp)
  refine nf_add _ 3 _ (by omega) h1 fun y hy => .inr ?_
  have h3 := h2 y hy
  have hg : good y := by
    generalize (l.foldl script_normal.take ([], [])).1 = s at hy h1
    rcases snoc_cases s with rfl | ⟨u, v, rfl⟩
    · simp at hy
    · simp at hy
      subst hy
      exact ((nf_snoc u v).1 h1).2.1
  rcases hg.1 with h | h | h
  · exact .inl ⟨h, by omega⟩
  · exact .inr (.inl ⟨h, by omega⟩)
  · exact absurd h h3
theorem nf_allok : ∀ (n : List S47), Nf n → allok n = true
  | [], _ => rfl
  | x :: t, h => by
    rw [allok_cons, nf_allok t h.2.2, decide_eq_true (by have := h.1.1; omega)]
    rfl
theorem fold_nl (l : List S47) : ∀ (s : List S47) (w : List S66), nl (l.foldl script_normal.take (s, w)).1 + (l.foldl script_normal.take (s, w)).2.length = nl s + w.length + nl l := by
  induction l with
  | nil => intro s w; simp [nl]
  | cons x t ih =>
    intro s w
    rw [List.foldl_cons, nl_cons]
    by_cases hx0 : x.f1 = []
    · rw [take_none hx0, hx0, ih]
      simp
    by_cases a3 : x.f0 = 3
    · rw [take_in a3, ih]
      simp
      omega
    by_cases a1 : x.f0 = 1
    · rw [take_keep a1 hx0, ih, nl_add, nl_add]
      simp
      omega
    · have e : script_normal.take (s, w) x = (script_normal.add s x.f0 x.f1, w) := by
        unfold script_normal.take
        rw [if_neg a3, if_neg (by simp [a1])]
      rw [e, ih, nl_add]
      omega
theorem p_nl (l : List S47) : nl (script_normal.p l) = nl l := by
  unfold script_normal.p script_normal.all
  have := fold_nl l [] []
  rw [nl_add, this]
  simp [nl]
theorem nf_len : ∀ (n : List S47), Nf n → n.length ≤ nl n
  | [], _ => Nat.le_refl _
  | x :: t, h => by
    have := nf_len t h.2.2
    have := List.length_pos_iff.2 h.1.2
    rw [nl_cons, List.length_cons]
    omega
theorem lay_add (s : List S47) (d : Int) (l : List S66) (h : ∀ x ∈ s.getLast?, x.f0 ≠ d) : script_normal.add s d l = jalousieref08_lay.p s d l := by
  unfold jalousieref08_lay.p
  by_cases hl : l = []
  · subst hl
    rw [add_nil]
    rfl
  rw [if_neg (by simpa using hl)]
  rcases snoc_cases s with rfl | ⟨t, y, rfl⟩
  · rw [add_empty d l hl]
    rfl
  · rw [add_ne t y d l hl (h y (by simp))]
theorem lay_nil (s : List S47) (d : Int) : jalousieref08_lay.p s d [] = s := rfl
theorem lay_last (s : List S47) (d : Int) (l : List S66) : ∀ x ∈ (jalousieref08_lay.p s d l).getLast?, (l ≠ [] ∧ x.f0 = d) ∨ (l = [] ∧ x ∈ s.getLast?) := by
  intro x hx
  unfold jalousieref08_lay.p at hx
  by_cases hl : l = []
  · subst hl
    exact .inr ⟨rfl, hx⟩
  · rw [if_neg (by simpa using hl)] at hx
    simp at hx
    exact .inl ⟨hl, by rw [← hx]⟩
theorem lay_more (s : List S47) (d : Int) (l m : List S66) (hl : l ≠ []) : script_normal.add (jalousieref08_lay.p s d l) d m = jalousieref08_lay.p s d (l ++ m) := by
  unfold jalousieref08_lay.p
  by_cases hm : m = []
  · subst hm
    rw [add_nil, List.append_nil]
  rw [if_neg (by simpa using hl), if_neg (by simp [hl])]
  exact add_eq s ⟨d, l⟩ d m hm rfl
/-- What the document's state says of the program's. -/
structure Rel (q : jalousieref08_Normal.Q) (s : List S47) (w : List S66) : Prop where
  hs : s = jalousieref08_lay.p (jalousieref08_lay.p q.out 1 q.keep) 2 q.gone
  hw : w = q.made
  hk : q.out ≠ [] → q.keep ≠ []
  ho : ∀ x ∈ q.out.getLast?, x.f0 = 2 ∨ x.f0 = 3
theorem rel_last {q : jalousieref08_Normal.Q} {s : List S47} {w : List S66} (h : Rel q s w) : ∀ x ∈ s.getLast?, (q.gone ≠ [] ∧ x.f0 = 2) ∨ (q.gone = [] ∧ q.keep ≠ [] ∧ x.f0 = 1) := by
  intro x hx
  rw [h.hs] at hx
  rcases lay_last _ _ _ x hx with h1 | ⟨h1, h2⟩
  · exact .inl h1
  · rcases lay_last _ _ _ x h2 with h3 | ⟨h3, h4⟩
    · exact .inr ⟨h1, h3⟩
    · have : q.out ≠ [] := by
        intro e
        rw [e] at h4
        simp at h4
      exact absurd h3 (h.hk this)
theorem rel_fin {q : jalousieref08_Normal.Q} {s : List S47} {w : List S66} (h : Rel q s w) : script_normal.add s 3 w = jalousieref08_Normal.fin q := by
  unfold jalousieref08_Normal.fin
  rw [lay_add s 3 w (fun x hx => by rcases rel_last h x hx with h1 | h1 <;> omega), h.hs, h.hw]
theorem rel_step {q : jalousieref08_Normal.Q} {s : List S47} {w : List S66} (x : S47) (hx : 1 ≤ x.f0 ∧ x.f0 ≤ 3) (h : Rel q s w) : Rel (jalousieref08_Normal.add (jalousieref08_Normal.pre q x) x) (script_normal.take (s, w) x).1 (script_normal.take (s, w) x).2 := by
  by_cases hx0 : x.f1 = []
  · rw [take_none hx0]
    unfold jalousieref08_Normal.pre
    rw [if_neg (by simp [hx0])]
    unfold jalousieref08_Normal.add
    rw [hx0]
    simp only [List.append_nil]
    repeat' split
    all_goals exact ⟨h.hs, h.hw, h.hk, h.ho⟩
  by_cases a3 : x.f0 = 3
  · rw [take_in a3]
    unfold jalousieref08_Normal.pre
    rw [if_neg (by omega)]
    unfold jalousieref08_Normal.add
    rw [if_neg (by omega), if_neg (by omega), if_pos a3]
    exact ⟨h.hs, by rw [h.hw], h.hk, h.ho⟩
  by_cases a2 : x.f0 = 2
  · rw [take_out a2]
    unfold jalousieref08_Normal.pre
    rw [if_neg (by omega)]
    unfold jalousieref08_Normal.add
    rw [if_neg (by omega), if_pos a2]
    refine ⟨?_, h.hw, h.hk, h.ho⟩
    show script_normal.add s 2 x.f1 = _
    by_cases hg : q.gone = []
    · rw [lay_add s 2 _ (fun y hy => by rcases rel_last h y hy with h1 | h1; exact absurd hg h1.1; omega), h.hs, hg]
      rfl
    · rw [h.hs, lay_more _ _ _ _ hg]
  · have a1 : x.f0 = 1 := by omega
    rw [take_keep a1 hx0]
    unfold jalousieref08_Normal.pre
    by_cases hgm : 0 < q.gone.length + q.made.length
    · rw [if_pos ⟨a1, List.length_pos_iff.2 hx0, hgm⟩]
      unfold jalousieref08_Normal.add
      rw [if_pos a1]
      have hlast : ∀ y ∈ (jalousieref08_Normal.fin q).getLast?, y.f0 = 2 ∨ y.f0 = 3 := by
        intro y hy
        unfold jalousieref08_Normal.fin at hy
        rcases lay_last _ _ _ y hy with h1 | ⟨h1, h2⟩
        · exact .inr h1.2
        · rcases lay_last _ _ _ y h2 with h3 | ⟨h3, h4⟩
          · exact .inl h3.2
          · rw [h1, h3] at hgm
            simp at hgm
      refine ⟨?_, rfl, fun _ => by simpa using hx0, hlast⟩
      show script_normal.add (script_normal.add s 3 w) 1 x.f1 = _
      rw [rel_fin h, lay_add _ 1 _ (fun y hy => by rcases hlast y hy with h1 | h1 <;> omega)]
      rfl
    · rw [if_neg (by omega)]
      unfold jalousieref08_Normal.add
      rw [if_pos a1]
      have hg : q.gone = [] := List.eq_nil_of_length_eq_zero (by omega)
      have hm : q.made = [] := List.eq_nil_of_length_eq_zero (by omega)
      refine ⟨?_, hm.symm, fun _ => by simp [hx0], h.ho⟩
      show script_normal.add (script_normal.add s 3 w) 1 x.f1 = _
      rw [h.hw, hm, add_nil, h.hs, hg, lay_nil, lay_nil]
      show script_normal.add (jalousieref08_lay.p q.out 1 q.keep) 1 x.f1 = jalousieref08_lay.p q.out 1 (q.keep ++ x.f1)
      by_cases hk : q.keep = []
      · have ho : q.out = [] := Classical.byContradiction fun e => h.hk e hk
        rw [hk, ho, lay_nil, List.nil_append, lay_add [] 1 _ (by simp)]
      · exact lay_more _ _ _ _ hk
theorem rel_fold (l : List S47) (hl : allok l = true) : ∀ (q : jalousieref08_Normal.Q) (s : List S47) (w : List S66), Rel q s w → Rel (l.foldl (fun q x => jalousieref08_Normal.add (jalousieref08_Normal.pre q x) x) q) (l.foldl script_normal.take (s, w)).1 (l.foldl script_normal.take (s, w)).2 := by
  induction l with
  | nil => exact fun _ _ _ h => h
  | cons x t ih =>
    intro q s w h
    rw [allok_cons, Bool.and_eq_true] at hl
    rw [List.foldl_cons, List.foldl_cons]
    exact ih hl.2 _ _ _ (rel_step x (of_decide_eq_true hl.1) h)
/-- THE PROGRAM'S NORMAL FORM IS THE DOCUMENT'S. -/
theorem fin_p (l : List S47) (hl : allok l = true) : jalousieref08_Normal.fin (jalousieref08_Normal.all l) = script_normal.p l := by
  unfold script_normal.p script_normal.all jalousieref08_Normal.all
  exact (rel_fin (rel_fold l hl ⟨[], [], [], []⟩ [] [] ⟨rfl, rfl, fun h => absurd rfl h, by simp⟩)).symm
/-- The normal form, and what is wrong. -/
def nrm (s : List S47) : List S47 × Int := if chk s = 0 then (script_normal.p s, 0) else ([], chk s)
theorem nrm_ev (s : List S47) (hf : Fit s) : Ev (fun k => script_Normal.f k s) (nrm s) := by
  unfold script_Normal.f nrm
  refine Ev.bind (chk_ev s hf) ?_
  by_cases h : chk s = 0
  · refine ev_pos h ?_
    rw [if_pos h]
    obtain ⟨h1, h2, h3⟩ := chk_zero.1 h
    exact ev_bind (a := script_normal.p s) (by unfold script_normal.f; rw [if_pos ⟨by omega, by rw [nl_lines]; omega⟩]) (ev_some rfl)
  · refine ev_neg h ?_
    rw [if_neg h]
    exact ev_some rfl
theorem rnrm_ev (s : List S47) (hf : Fit s) : Ev (fun k => jalousieref08_Normal.f k s) (nrm s) := by
  unfold jalousieref08_Normal.f nrm
  refine Ev.bind (rchk_ev s hf) ?_
  by_cases h : chk s = 0
  · refine ev_pos h ?_
    rw [if_pos h]
    obtain ⟨h1, h2, h3⟩ := chk_zero.1 h
    refine ev_pos ⟨by omega, ?_⟩ (ev_some ?_)
    · have : (s.map (fun e => e.f1.length)).sum = nl s := rfl
      omega
    · rw [fin_p s h3]
  · refine ev_neg h ?_
    rw [if_neg h]
    exact ev_some rfl
end Go.Proofs.Ytfnbodjmmkjlcaa.H
namespace Go.Proofs.Ytfnbodjmmkjlcaa.H
open Go.RowKit Go.Proofs.YtfnbodjmmkjlcaaW.PrintWords Go.Proofs.YtfnbodjmmkjlcaaW.PrintLast Go.Proofs.YtfnbodjmmkjlcaaW.PrintMore
set_option linter.unusedVariables false
set_option linter.unusedSimpArgs false
theorem good_len : ∀ (s : List S47), (∀ x ∈ s, good x) → s.length ≤ nl s
  | [], _ => Nat.le_refl _
  | x :: t, h => by
    have := good_len t fun y hy => h y (List.mem_cons_of_mem _ hy)
    have := List.length_pos_iff.2 (h x (by simp)).2
    rw [nl_cons, List.length_cons]
    omega
theorem good_fit (s : List S47) (h : nl s ≤ 1000000) (hg : ∀ x ∈ s, good x) : Fit s := by
  have hl := good_len s hg
  refine ⟨by omega, fun x hx => ?_⟩
  have : x.f1.length ≤ nl s := by
    clear h hg hl
    induction s with
    | nil => cases hx
    | cons y t ih =>
      rw [nl_cons]
      rcases List.mem_cons.1 hx with rfl | hx
      · omega
      · have := ih hx
        omega
  omega
theorem nf_good : ∀ (n : List S47), Nf n → ∀ x ∈ n, good x
  | [], _, x, hx => by cases hx
  | y :: t, h, x, hx => by
    rcases List.mem_cons.1 hx with rfl | hx
    · exact h.1
    · exact nf_good t h.2.2 x hx
end Go.Proofs.Ytfnbodjmmkjlcaa.H
namespace Go.Proofs.Ytfnbodjmmkjlcaa.H
open Go.RowKit Go.Proofs.YtfnbodjmmkjlcaaW.PrintWords Go.Proofs.YtfnbodjmmkjlcaaW.PrintLast Go.Proofs.YtfnbodjmmkjlcaaW.PrintMore
set_option linter.unusedVariables false
set_option linter.unusedSimpArgs false
end Go.Proofs.Ytfnbodjmmkjlcaa.H
namespace Go.Proofs.Ytfnbodjmmkjlcaa.H
open Go.RowKit Go.Proofs.YtfnbodjmmkjlcaaW.PrintWords Go.Proofs.YtfnbodjmmkjlcaaW.PrintLast Go.Proofs.YtfnbodjmmkjlcaaW.PrintMore
set_option linter.unusedVariables false
set_option linter.unusedSimpArgs false
end Go.Proofs.Ytfnbodjmmkjlcaa.H
namespace Go.Proofs.Ytfnbodjmmkjlcaa.H
open Go.RowKit Go.Proofs.YtfnbodjmmkjlcaaW.PrintWords Go.Proofs.YtfnbodjmmkjlcaaW.PrintLast Go.Proofs.YtfnbodjmmkjlcaaW.PrintMore
set_option linter.unusedVariables false
set_option linter.unusedSimpArgs false
/-- Is a hunk right, but for where it stands? -/
def rightB (h : S44) : Bool := decide (chk h.f4 = 0) && decide (script_normal.p h.f4 = h.f4) && decide (0 < chg h.f4) && decide (((side h.f4 3).length : Int) = h.f1) && decide (((side h.f4 2).length : Int) = h.f3) && decide (h.f1 ≤ 400) && decide (h.f3 ≤ 400)
theorem right_iff (h : S44) : rightB h = true ↔ chk h.f4 = 0 ∧ script_normal.p h.f4 = h.f4 ∧ 0 < chg h.f4 ∧ ((side h.f4 3).length : Int) = h.f1 ∧ ((side h.f4 2).length : Int) = h.f3 ∧ h.f1 ≤ 400 ∧ h.f3 ≤ 400 := by
  unfold rightB
  simp only [Bool.and_eq_true, decide_eq_true_eq, and_assoc]
/-- Where it stands, behind what came ahead. -/
def posB (a b : Int) (h : S44) : Bool := decide (0 ≤ h.f0 ∧ h.f0 ≤ 400) && decide (0 ≤ h.f2 ∧ h.f2 ≤ 400) && decide (a ≤ h.f0) && decide (h.f0 - a = h.f2 - b)
theorem pos_iff (a b : Int) (h : S44) : posB a b h = true ↔ (0 ≤ h.f0 ∧ h.f0 ≤ 400) ∧ (0 ≤ h.f2 ∧ h.f2 ≤ 400) ∧ a ≤ h.f0 ∧ h.f0 - a = h.f2 - b := by
  unfold posB
  simp only [Bool.and_eq_true, decide_eq_true_eq, and_assoc]
theorem far_pos (a b : Int) (h : S44) : hunk_Check.far a b h.f0 h.f2 = !posB a b h := rfl
def chkA : List S44 → Int → Int → Int
  | [], _, _ => 0
  | h :: t, a, b => if (rightB h && posB a b h) = true then chkA t (h.f0 + h.f1) (h.f2 + h.f3) else 3
def anyLim (l : List S44) : Bool := l.any fun h => decide (chk h.f4 = 4)
/-- What is wrong with hunks. -/
def chkH (l : List S44) : Int := if 400 < l.length then 4 else if anyLim l = true then 4 else chkA l 0 0
theorem within_ev (n : Int) : hunk_within.f n = some (decide (0 ≤ n ∧ n ≤ 400)) := hunk_Check.within_eq n
theorem right_ev (h : S44) (hf : Fit h.f4) : Ev (fun k => hunk_right.f k h.f0 h.f1 h.f2 h.f3 h.f4) (rightB h) := by
  unfold hunk_right.f
  refine Ev.bind (nrm_ev _ hf) (Ev.bind (sides_ev _ hf) ?_)
  unfold nrm sds
  by_cases hc : chk h.f4 = 0
  · rw [if_pos hc, if_pos hc]
    obtain ⟨h1, h2, h3⟩ := chk_zero.1 hc
    have hn : nl (script_normal.p h.f4) = nl h.f4 := p_nl _
    have hlen := nf_len _ (p_nf h.f4 h3)
    have hfp : Fit (script_normal.p h.f4) := ⟨by omega, fun x hx => by
      have hx2 : x.f1.length ≤ nl (script_normal.p h.f4) := by
        generalize script_normal.p h.f4 = s at hx
        induction s with
        | nil => cases hx
        | cons y t ih =>
          rw [nl_cons]
          rcases List.mem_cons.1 hx with rfl | hx
          · omega
          · have := ih hx
            omega
      omega⟩
    refine ev_pos rfl (Ev.bind (eeq_ev _ _ hfp) ?_)
    by_cases e1 : script_normal.p h.f4 = h.f4
    · refine ev_pos (decide_eq_true e1) (Ev.bind (chg_ev (script_normal.p h.f4) (by omega) (by omega)) ?_)
      rw [e1]
      by_cases e2 : 0 < chg h.f4
      · refine ev_pos (by omega) ?_
        by_cases e3 : ((side h.f4 3).length : Int) = h.f1
        · refine ev_pos e3 ?_
          by_cases e4 : ((side h.f4 2).length : Int) = h.f3
          · refine ev_pos e4 (ev_bind (within_ev _) ?_)
            by_cases e5 : h.f1 ≤ 400
            · refine ev_pos (decide_eq_true ⟨by omega, e5⟩) (ev_bind (within_ev _) (ev_some ?_))
              unfold rightB
              rw [decide_eq_true hc, decide_eq_true e1, decide_eq_true e2, decide_eq_true e3, decide_eq_true e4, decide_eq_true e5]
              by_cases e6 : h.f3 ≤ 400
              · rw [decide_eq_true e6, decide_eq_true ⟨by omega, e6⟩]
                rfl
              · rw [decide_eq_false e6, decide_eq_false (by omega)]
                rfl
            · refine ev_neg (by simp; omega) (ev_some ?_)
              unfold rightB
              rw [decide_eq_false e5]
              simp
          · refine ev_neg e4 (ev_some ?_)
            unfold rightB
            rw [decide_eq_false e4]
            simp
        · refine ev_neg e3 (ev_some ?_)
          unfold rightB
          rw [decide_eq_false e3]
          simp
      · refine ev_neg (by omega) (ev_some ?_)
        unfold rightB
        rw [decide_eq_false e2]
        simp
    · refine ev_neg (by rw [decide_eq_false e1]; simp) (ev_some ?_)
      unfold rightB
      rw [decide_eq_false e1]
      simp
  · rw [if_neg hc, if_neg hc]
    refine ev_neg hc (ev_some ?_)
    unfold rightB
    rw [decide_eq_false hc]
    simp
theorem fitH_cons {h : S44} {t : List S44} (hf : FitH (h :: t)) : FitH t := ⟨Nat.le_trans (Nat.le_succ _) hf.1, fun x hx => hf.2 x (List.mem_cons_of_mem _ hx)⟩
theorem has_ev : ∀ (l : List S44), FitH l → Ev (fun k => hunk_Check.has k l) (anyLim l)
  | [], _ => ev_some rfl
  | h :: t, hf => by
    simp only [hunk_Check.has]
    refine Ev.bind (chk_ev _ (hf.2 h (by simp))) ?_
    by_cases e : chk h.f4 = 4
    · refine ev_pos e (ev_some ?_)
      simp [anyLim, e]
    · refine ev_neg e (ev_cast (has_ev t (fitH_cons hf)) ?_)
      simp [anyLim, e]
theorem all_ev : ∀ (l : List S44) (a b : Int), FitH l → 0 ≤ a → a ≤ 800 → 0 ≤ b → b ≤ 800 → Ev (fun k => hunk_Check.all k l a b) (chkA l a b)
  | [], _, _, _, _, _, _, _ => ev_some rfl
  | h :: t, a, b, hf, h1, h2, h3, h4 => by
    simp only [hunk_Check.all, chkA]
    refine ev_pos ⟨h1, h2, h3, h4⟩ (Ev.bind (right_ev h (hf.2 h (by simp))) ?_)
    by_cases e : rightB h = true
    · refine ev_neg (by rw [e]; simp) ?_
      rw [far_pos]
      by_cases e2 : posB a b h = true
      · obtain ⟨_, _, _, h5, h6, h7, h8⟩ := (right_iff h).1 e
        obtain ⟨h9, h10, _⟩ := (pos_iff a b h).1 e2
        refine ev_neg (by rw [e2]; simp) (ev_pos (by omega) ?_)
        refine ev_cast (all_ev t _ _ (fitH_cons hf) (by omega) (by omega) (by omega) (by omega)) ?_
        rw [if_pos (by rw [e, e2]; rfl)]
      · refine ev_pos (by simp [e2]) (ev_some ?_)
        rw [if_neg (by simp [e2])]
    · refine ev_pos (by simpa using e) (ev_some ?_)
      rw [if_neg (by simp [e])]
theorem hcheck_ev (l : List S44) (hf : FitH l) : Ev (fun k => hunk_Check.f k l) (chkH l) := by
  unfold hunk_Check.f chkH
  by_cases h : 400 < l.length
  · exact ev_pos h (ev_some (by rw [if_pos h]))
  · refine ev_neg h (Ev.bind (has_ev l hf) ?_)
    rw [if_neg h]
    by_cases e : anyLim l = true
    · exact ev_pos e (ev_some (by rw [if_pos e]))
    · refine ev_neg e ?_
      rw [if_neg e]
      exact all_ev l 0 0 hf (by omega) (by omega) (by omega) (by omega)
theorem rc_l0 (l : List S44) (hf : FitH l) (r : Int) (hr : anyLim l = false → Ev (fun k => jalousieref09_Check.l1 k l 0) r) : ∀ (d i : Nat), i + d = l.length → anyLim (l.take i) = false → Ev (fun k => jalousieref09_Check.l0 k l (i : Int)) (if anyLim l = true then 4 else r)
  | 0, i, h, hp => by
    refine ev_succ ?_
    simp only [jalousieref09_Check.l0]
    have := hf.1
    rw [List.take_of_length_le (by omega)] at hp
    (repeat (first | refine ev_pos (by omega) ?_ | refine ev_neg (by omega) ?_))
    rw [if_neg (by rw [hp]; simp)]
    exact hr hp
  | d + 1, i, h, hp => by
    have h1 := hf.1
    refine ev_succ ?_
    simp only [jalousieref09_Check.l0, rdH]
    (repeat (first | refine ev_pos (by omega) ?_ | refine ev_neg (by omega) ?_))
    have hm := getD_mem (l := l) (i := i) (by omega) z44
    refine Ev.bind (rchk_ev _ (hf.2 _ hm)) ?_
    by_cases e : chk (l.getD i z44).f4 = 4
    · refine ev_pos e (ev_some ?_)
      rw [if_pos]
      unfold anyLim
      rw [List.any_eq_true]
      exact ⟨_, hm, decide_eq_true e⟩
    · refine ev_neg e ?_
      rw [w64s i (by omega)]
      refine rc_l0 l hf r hr d (i + 1) (by omega) ?_
      rw [take_snoc l i (by omega) z44]
      unfold anyLim at hp ⊢
      rw [List.any_append, hp]
      simp only [List.any_cons, List.any_nil, decide_eq_false e, Bool.or_false]
def endO (l : List S44) (i : Nat) : Int := if i = 0 then 0 else (l.getD (i - 1) z44).f0 + (l.getD (i - 1) z44).f1
def endN (l : List S44) (i : Nat) : Int := if i = 0 then 0 else (l.getD (i - 1) z44).f2 + (l.getD (i - 1) z44).f3
theorem rc_j3 (l : List S44) (i : Nat) (hi : i < l.length) (hl : l.length ≤ 4398046511104) (hp : 0 ≤ endO l i ∧ endO l i ≤ 800 ∧ 0 ≤ endN l i ∧ endN l i ≤ 800) (h : S44) (bad : Bool) (hb : bad = false → (0 ≤ h.f0 ∧ h.f0 ≤ 400) ∧ (0 ≤ h.f2 ∧ h.f2 ≤ 400)) (r : Int)
    (hr : bad = false → endO l i ≤ h.f0 → h.f0 - endO l i = h.f2 - endN l i → Ev (fun k => jalousieref09_Check.l1 k l ((i + 1 : Nat) : Int)) r) :
    Ev (fun k => jalousieref09_Check.j3 k l (i : Int) bad h.f0 h.f1 h.f2 h.f3 h.f4) (if bad = true then 3 else if endO l i ≤ h.f0 ∧ h.f0 - endO l i = h.f2 - endN l i then r else 3) := by
  refine ev_succ ?_
  simp only [jalousieref09_Check.j3]
  by_cases e : bad = true
  · refine ev_pos e (ev_some ?_)
    rw [if_pos e]
  · refine ev_neg e ?_
    rw [if_neg e]
    have hb' := hb (by simpa using e)
    have hr' := hr (by simpa using e)
    rw [w64s i (by omega)]
    by_cases h0 : i = 0
    · subst h0
      unfold endO endN at hp hr' ⊢
      rw [if_pos rfl] at hp hr' ⊢
      simp only [if_true] at hr' ⊢
      refine ev_neg (by simp) ?_
      rw [w64i (h.f0 - 0) (by omega) (by omega), w64i (h.f2 - 0) (by omega) (by omega)]
      refine ev_neg (by omega) ?_
      by_cases e2 : h.f0 - 0 = h.f2 - 0
      · refine ev_pos e2 ?_
        rw [if_pos ⟨by omega, by omega⟩]
        exact hr' (by omega) (by omega)
      · refine ev_neg e2 (ev_some ?_)
        rw [if_neg (by omega)]
    · have hw : wrap64 ((i : Int) - 1) = ((i - 1 : Nat) : Int) := by
        unfold wrap64
        omega
      have eO : endO l i = (l.getD (i - 1) z44).f0 + (l.getD (i - 1) z44).f1 := by unfold endO; rw [if_neg h0]
      have eN : endN l i = (l.getD (i - 1) z44).f2 + (l.getD (i - 1) z44).f3 := by unfold endN; rw [if_neg h0]
      rw [hw]
      simp only [rdH]
      rw [← eO, ← eN]
      rw [w64i (endO l i) (by omega) (by omega), w64i (endN l i) (by omega) (by omega), w64i (h.f0 - endO l i) (by omega) (by omega), w64i (h.f2 - endN l i) (by omega) (by omega)]
      refine ev_pos (by omega) (ev_pos (by omega) (ev_pos (by omega) ?_))
      by_cases e1 : h.f0 < endO l i
      · refine ev_pos e1 (ev_some ?_)
        rw [if_neg (by omega)]
      · refine ev_neg e1 ?_
        by_cases e2 : h.f0 - endO l i = h.f2 - endN l i
        · refine ev_pos e2 ?_
          rw [if_pos ⟨by omega, e2⟩]
          exact hr' (by omega) e2
        · refine ev_neg e2 (ev_some ?_)
          rw [if_neg (by omega)]
theorem j3_true (l : List S44) (i : Int) (a b c d : Int) (s : List S47) : Ev (fun k => jalousieref09_Check.j3 k l i true a b c d s) 3 := by
  refine ev_succ ?_
  simp only [jalousieref09_Check.j3]
  exact ev_pos trivial (ev_some rfl)
theorem j2_true (l : List S44) (i : Int) (a b c d : Int) (n s : List S47) : Ev (fun k => jalousieref09_Check.j2 k l i n true a b c d s) 3 := by
  refine ev_succ ?_
  simp only [jalousieref09_Check.j2]
  exact ev_pos trivial (ev_some rfl)
/-- All that is asked of a hunk. -/
def okH (a b : Int) (h : S44) : Prop := (chk h.f4 = 0 ∧ script_normal.p h.f4 = h.f4 ∧ 0 < chg h.f4 ∧ ((side h.f4 3).length : Int) = h.f1 ∧ ((side h.f4 2).length : Int) = h.f3 ∧ h.f1 ≤ 400 ∧ h.f3 ≤ 400) ∧ (0 ≤ h.f0 ∧ h.f0 ≤ 400) ∧ (0 ≤ h.f2 ∧ h.f2 ≤ 400) ∧ a ≤ h.f0 ∧ h.f0 - a = h.f2 - b
theorem okH_iff (a b : Int) (h : S44) : (rightB h && posB a b h) = true ↔ okH a b h := by
  rw [Bool.and_eq_true, right_iff, pos_iff]
  rfl
theorem chkA_bad {a b : Int} {h : S44} {t : List S44} (hn : ¬ okH a b h) : (3 : Int) = chkA (h :: t) a b := by
  rw [chkA, if_neg]
  rw [okH_iff]
  exact hn
theorem chkA_ok {a b : Int} {h : S44} {t : List S44} (hn : okH a b h) : chkA t (h.f0 + h.f1) (h.f2 + h.f3) = chkA (h :: t) a b := by
  rw [chkA, if_pos ((okH_iff a b h).2 hn)]
theorem rc_l1 (l : List S44) (hf : FitH l) : ∀ (d i : Nat), i + d = l.length → (0 ≤ endO l i ∧ endO l i ≤ 800 ∧ 0 ≤ endN l i ∧ endN l i ≤ 800) → Ev (fun k => jalousieref09_Check.l1 k l (i : Int)) (chkA (l.drop i) (endO l i) (endN l i))
  | 0, i, h, hp => by
    refine ev_succ ?_
    simp only [jalousieref09_Check.l1]
    have := hf.1
    (repeat (first | refine ev_pos (by omega) ?_ | refine ev_neg (by omega) ?_))
    rw [List.drop_of_length_le (by omega)]
    exact ev_some rfl
  | d + 1, i, h, hp => by
    have h1 := hf.1
    have hm := hf.2 _ (getD_mem (l := l) (i := i) (by omega) z44)
    rw [drop_cons l i (by omega) z44]
    have eO : endO l (i + 1) = (l.getD i z44).f0 + (l.getD i z44).f1 := by unfold endO; rw [if_neg (by omega)]; rfl
    have eN : endN l (i + 1) = (l.getD i z44).f2 + (l.getD i z44).f3 := by unfold endN; rw [if_neg (by omega)]; rfl
    have ih := rc_l1 l hf d (i + 1) (by omega)
    rw [eO, eN] at ih
    refine ev_succ ?_
    simp only [jalousieref09_Check.l1, rdH]
    (repeat (first | refine ev_pos (by omega) ?_ | refine ev_neg (by omega) ?_))
    generalize l.getD i z44 = x at hm ih ⊢
    have hi : i < l.length := by omega
    refine Ev.bind (rnrm_ev _ hm) ?_
    unfold nrm
    by_cases hc : chk x.f4 = 0
    · rw [if_pos hc]
      obtain ⟨c1, c2, c3⟩ := chk_zero.1 hc
      have hn : nl (script_normal.p x.f4) = nl x.f4 := p_nl _
      have hlen := nf_len _ (p_nf x.f4 c3)
      have hfp : Fit (script_normal.p x.f4) := ⟨by omega, fun y hy => by
        have hy2 : y.f1.length ≤ nl (script_normal.p x.f4) := by
          generalize script_normal.p x.f4 = s at hy
          induction s with
          | nil => cases hy
          | cons z t ihz =>
            rw [nl_cons]
            rcases List.mem_cons.1 hy with rfl | hy
            · omega
            · have := ihz hy
              omega
        omega⟩
      refine ev_pos rfl (Ev.bind (esame_ev (script_normal.p x.f4) _ hfp) ?_)
      by_cases e1 : script_normal.p x.f4 = x.f4
      · refine ev_pos (decide_eq_true e1) (Ev.bind (rchg_ev (script_normal.p x.f4) (by omega) (by omega)) ?_)
        rw [e1]
        by_cases e2 : 0 < chg x.f4
        · rw [show (((chg x.f4 : Nat) : Int) == 0) = false by rw [beq_eq_false_iff_ne]; omega]
          refine ev_succ ?_
          simp only [jalousieref09_Check.j2]
          refine ev_neg (by simp) (Ev.bind (rsides_ev _ hm) ?_)
          unfold sds
          rw [if_pos hc]
          by_cases e3 : x.f1 = ((side x.f4 3).length : Int)
          · refine ev_pos e3 ?_
            by_cases e4 : x.f3 = ((side x.f4 2).length : Int)
            · refine ev_pos e4 ?_
              by_cases e5 : x.f1 > 400
              · exact ev_pos e5 (ev_cast (j3_true _ _ _ _ _ _ _) (chkA_bad (fun ho => by have := ho.1.2.2.2.2.2.1; omega)))
              · refine ev_neg e5 ?_
                by_cases e6 : x.f3 > 400
                · exact ev_pos e6 (ev_cast (j3_true _ _ _ _ _ _ _) (chkA_bad (fun ho => by have := ho.1.2.2.2.2.2.2; omega)))
                · refine ev_neg e6 ?_
                  by_cases e7 : x.f0 < 0
                  · exact ev_pos e7 (ev_cast (j3_true _ _ _ _ _ _ _) (chkA_bad (fun ho => by have := ho.2.1.1; omega)))
                  · refine ev_neg e7 ?_
                    by_cases e8 : x.f0 > 400
                    · exact ev_pos e8 (ev_cast (j3_true _ _ _ _ _ _ _) (chkA_bad (fun ho => by have := ho.2.1.2; omega)))
                    · refine ev_neg e8 ?_
                      by_cases e9 : x.f2 < 0
                      · exact ev_pos e9 (ev_cast (j3_true _ _ _ _ _ _ _) (chkA_bad (fun ho => by have := ho.2.2.1.1; omega)))
                      · refine ev_neg e9 ?_
                        by_cases e10 : x.f2 > 400
                        · rw [decide_eq_true e10]
                          exact ev_cast (j3_true _ _ _ _ _ _ _) (chkA_bad (fun ho => by have := ho.2.2.1.2; omega))
                        · rw [decide_eq_false e10]
                          refine ev_cast (rc_j3 l i hi h1 hp x false (fun _ => ⟨⟨by omega, by omega⟩, by omega, by omega⟩) _ (fun _ _ _ => ih ⟨by omega, by omega, by omega, by omega⟩)) ?_
                          rw [if_neg (by simp)]
                          by_cases e11 : endO l i ≤ x.f0 ∧ x.f0 - endO l i = x.f2 - endN l i
                          · rw [if_pos e11]
                            exact chkA_ok ⟨⟨hc, e1, e2, e3.symm, e4.symm, by omega, by omega⟩, ⟨by omega, by omega⟩, ⟨by omega, by omega⟩, e11⟩
                          · rw [if_neg e11]
                            exact chkA_bad (fun ho => e11 ho.2.2.2)
            · exact ev_neg e4 (ev_cast (j3_true _ _ _ _ _ _ _) (chkA_bad (fun ho => e4 ho.1.2.2.2.2.1.symm)))
          · exact ev_neg e3 (ev_cast (j3_true _ _ _ _ _ _ _) (chkA_bad (fun ho => e3 ho.1.2.2.2.1.symm)))
        · rw [show (((chg x.f4 : Nat) : Int) == 0) = true by rw [beq_iff_eq]; omega]
          exact ev_cast (j2_true _ _ _ _ _ _ _ _) (chkA_bad (fun ho => e2 ho.1.2.2.1))
      · refine ev_neg (by rw [decide_eq_false e1]; simp) ?_
        exact ev_cast (j2_true _ _ _ _ _ _ _ _) (chkA_bad (fun ho => e1 ho.1.2.1))
    · rw [if_neg hc]
      refine ev_neg hc ?_
      exact ev_cast (j2_true _ _ _ _ _ _ _ _) (chkA_bad (fun ho => hc ho.1.1))
theorem rcheck_ev (l : List S44) (hf : FitH l) : Ev (fun k => jalousieref09_Check.f k l) (chkH l) := by
  unfold jalousieref09_Check.f chkH
  by_cases h : 400 < l.length
  · exact ev_pos (by omega) (ev_some (by rw [if_pos h]))
  · refine ev_neg (by omega) ?_
    rw [if_neg h]
    have h1 := rc_l1 l hf l.length 0 (by omega) ⟨by simp [endO], by simp [endO], by simp [endN], by simp [endN]⟩
    rw [List.drop_zero, show endO l 0 = 0 from rfl, show endN l 0 = 0 from rfl] at h1
    exact rc_l0 l hf _ (fun _ => h1) l.length 0 (by omega) (by simp [anyLim])
end Go.Proofs.Ytfnbodjmmkjlcaa.H
namespace Go.Proofs.Ytfnbodjmmkjlcaa.H
open Go.RowKit Go.Proofs.YtfnbodjmmkjlcaaW.PrintWords Go.Proofs.YtfnbodjmmkjlcaaW.PrintLast Go.Proofs.YtfnbodjmmkjlcaaW.PrintMore
set_option linter.unusedVariables false
set_option linter.unusedSimpArgs false
end Go.Proofs.Ytfnbodjmmkjlcaa.H
namespace Go.Proofs.Ytfnbodjmmkjlcaa.H
open Go.RowKit Go.Proofs.YtfnbodjmmkjlcaaW.PrintWords Go.Proofs.YtfnbodjmmkjlcaaW.PrintLast Go.Proofs.YtfnbodjmmkjlcaaW.PrintMore
set_option linter.unusedVariables false
set_option linter.unusedSimpArgs false
end Go.Proofs.Ytfnbodjmmkjlcaa.H
namespace Go.Proofs.Ytfnbodjmmkjlcaa.H
open Go.RowKit Go.Proofs.YtfnbodjmmkjlcaaW.PrintWords Go.Proofs.YtfnbodjmmkjlcaaW.PrintLast Go.Proofs.YtfnbodjmmkjlcaaW.PrintMore
set_option linter.unusedVariables false
set_option linter.unusedSimpArgs false
theorem chkH_zero {l : List S44} (h : chkH l = 0) : l.length ≤ 400 ∧ anyLim l = false ∧ chkA l 0 0 = 0 := by
  unfold chkH at h
  by_cases h1 : 400 < l.length
  · rw [if_pos h1] at h
    cases h
  rw [if_neg h1] at h
  by_cases h2 : anyLim l = true
  · rw [if_pos h2] at h
    cases h
  rw [if_neg h2] at h
  exact ⟨by omega, Bool.eq_false_iff.2 h2, h⟩
end Go.Proofs.Ytfnbodjmmkjlcaa.H
namespace Go.Proofs.Ytfnbodjmmkjlcaa.H
open Go.RowKit Go.Proofs.YtfnbodjmmkjlcaaW.PrintWords Go.Proofs.YtfnbodjmmkjlcaaW.PrintLast Go.Proofs.YtfnbodjmmkjlcaaW.PrintMore
set_option linter.unusedVariables false
set_option linter.unusedSimpArgs false
theorem live11_ev : Ev (fun k => jalousielaw11_live.f k) true := by
  refine Ev.of (fun k => jalousielaw11_live.mono k) (k := 40) ?_
  decide +kernel
theorem min_ev (n c : Nat) : mn (n : Int) (c : Int) = ((min n c : Nat) : Int) := by
  unfold mn
  split <;> omega
end Go.Proofs.Ytfnbodjmmkjlcaa.H
namespace Go.Proofs.Ytfnbodjmmkjlcaa.H
open Go.RowKit Go.Proofs.YtfnbodjmmkjlcaaW.PrintWords Go.Proofs.YtfnbodjmmkjlcaaW.PrintLast Go.Proofs.YtfnbodjmmkjlcaaW.PrintMore
set_option linter.unusedVariables false
set_option linter.unusedSimpArgs false
end Go.Proofs.Ytfnbodjmmkjlcaa.H
namespace Go.Proofs.Ytfnbodjmmkjlcaa.H
open Go.RowKit Go.Proofs.YtfnbodjmmkjlcaaW.PrintWords Go.Proofs.YtfnbodjmmkjlcaaW.PrintLast Go.Proofs.YtfnbodjmmkjlcaaW.PrintMore
set_option linter.unusedVariables false
set_option linter.unusedSimpArgs false
end Go.Proofs.Ytfnbodjmmkjlcaa.H
namespace Go.Proofs.Ytfnbodjmmkjlcaa.H
open Go.RowKit Go.Proofs.YtfnbodjmmkjlcaaW.PrintWords Go.Proofs.YtfnbodjmmkjlcaaW.PrintLast Go.Proofs.YtfnbodjmmkjlcaaW.PrintMore
set_option linter.unusedVariables false
set_option linter.unusedSimpArgs false
/-- An edit that goes back. -/
def flp (x : S47) : S47 := ⟨if x.f0 = 2 then 3 else if x.f0 = 3 then 2 else x.f0, x.f1⟩
theorem flp_nl (s : List S47) : nl (s.map flp) = nl s := by
  induction s with
  | nil => rfl
  | cons x t ih => rw [List.map_cons, nl_cons, nl_cons, ih]; rfl
theorem flp_allok (s : List S47) : allok (s.map flp) = allok s := by
  induction s with
  | nil => rfl
  | cons x t ih =>
    rw [List.map_cons, allok_cons, allok_cons, ih]
    congr 1
    rw [decide_eq_decide]
    simp only [flp]
    split
    · omega
    · split <;> omega
theorem flp_chk (s : List S47) : chk (s.map flp) = chk s := by
  unfold chk
  rw [flp_nl, flp_allok, List.length_map]
/-- What Invert tells. -/
def inv (s : List S47) : List S47 × Int := if chk s = 0 then (script_normal.p (s.map flp), 0) else ([], chk s)
theorem inv_l0 (s : List S47) (hl : s.length ≤ 800) (hn : nl s ≤ 800) : ∀ (d i : Nat) (out : List S47), i + d = s.length → out = (s.take i).map flp → Ev (fun k => script_Invert.l0 k out s (s.length : Int) (i : Int)) (script_normal.p (s.map flp), 0)
  | 0, i, out, h, ho => by
    rw [List.take_of_length_le (by omega)] at ho
    subst ho
    refine ev_succ ?_
    simp only [script_Invert.l0, script_normal.f]
    rw [nl_lines, flp_nl, List.length_map, if_pos ⟨by omega, by omega⟩]
    refine ev_neg (by omega) ?_
    exact ev_some rfl
  | d + 1, i, out, h, ho => by
    have hlen : out.length < 4398046511104 := by
      rw [ho, List.length_map, List.length_take]
      omega
    have hs := take_snoc s i (by omega) z47
    refine ev_succ ?_
    simp only [script_Invert.l0, rdE]
    rw [w64s i (by omega)]
    refine ev_pos (by omega) (ev_pos (by omega) (ev_pos (by omega) ?_))
    have hgo : ∀ y : S47, y = flp (s.getD i z47) → out ++ [y] = (s.take (i + 1)).map flp := by
      intro y hy
      rw [hs, List.map_append, ← ho, hy]
      rfl
    by_cases h2 : (s.getD i z47).f0 = 2
    · refine ev_pos h2 (ev_pos hlen ?_)
      exact inv_l0 s hl hn d (i + 1) _ (by omega) (hgo _ (by unfold flp; rw [if_pos h2]))
    · by_cases h3 : (s.getD i z47).f0 = 3
      · refine ev_neg h2 (ev_pos h3 (ev_pos hlen ?_))
        exact inv_l0 s hl hn d (i + 1) _ (by omega) (hgo _ (by unfold flp; rw [if_neg h2, if_pos h3]))
      · refine ev_neg h2 (ev_neg h3 (ev_pos hlen ?_))
        exact inv_l0 s hl hn d (i + 1) _ (by omega) (hgo _ (by unfold flp; rw [if_neg h2, if_neg h3]))
theorem inv_ev (s : List S47) (hf : Fit s) : Ev (fun k => script_Invert.f k s) (inv s) := by
  unfold script_Invert.f inv
  refine Ev.bind (chk_ev s hf) ?_
  by_cases h : chk s = 0
  · rw [if_pos h]
    obtain ⟨c1, c2, c3⟩ := chk_zero.1 h
    exact ev_pos h (inv_l0 s c1 c2 s.length 0 [] (by omega) (by simp))
  · rw [if_neg h]
    exact ev_neg h (ev_some rfl)
theorem rinv_l0 (s : List S47) (hf : Fit s) : ∀ (d i : Nat) (out : List S47), i + d = s.length → out = (s.take i).map flp → Ev (fun k => jalousieref08_Invert.l0 k s out (i : Int)) (nrm (s.map flp))
  | 0, i, out, h, ho => by
    rw [List.take_of_length_le (by omega)] at ho
    subst ho
    refine ev_succ ?_
    simp only [jalousieref08_Invert.l0]
    refine ev_neg (by omega) (Ev.bind (rnrm_ev _ ⟨by rw [List.length_map]; exact hf.1, fun x hx => ?_⟩) (ev_some rfl))
    obtain ⟨y, hy, rfl⟩ := List.mem_map.1 hx
    exact hf.2 y hy
  | d + 1, i, out, h, ho => by
    have hf1 := hf.1
    have hlen : out.length < 4398046511104 := by
      rw [ho, List.length_map, List.length_take]
      omega
    have hs := take_snoc s i (by omega) z47
    refine ev_succ ?_
    simp only [jalousieref08_Invert.l0, rdE]
    rw [w64s i (by omega)]
    refine ev_pos (by omega) (ev_pos (by omega) ?_)
    have hgo : ∀ y : S47, y = flp (s.getD i z47) → out ++ [y] = (s.take (i + 1)).map flp := by
      intro y hy
      rw [hs, List.map_append, ← ho, hy]
      rfl
    by_cases h2 : (s.getD i z47).f0 = 2
    · refine ev_pos h2 (ev_neg (by omega) (ev_pos hlen ?_))
      exact rinv_l0 s hf d (i + 1) _ (by omega) (hgo _ (by unfold flp; rw [if_pos h2]))
    · by_cases h3 : (s.getD i z47).f0 = 3
      · refine ev_neg h2 (ev_pos h3 (ev_pos hlen ?_))
        exact rinv_l0 s hf d (i + 1) _ (by omega) (hgo _ (by unfold flp; rw [if_neg h2, if_pos h3]))
      · refine ev_neg h2 (ev_neg h3 (ev_pos hlen ?_))
        exact rinv_l0 s hf d (i + 1) _ (by omega) (hgo _ (by unfold flp; rw [if_neg h2, if_neg h3]))
theorem rinv_ev (s : List S47) (hf : Fit s) : Ev (fun k => jalousieref08_Invert.f k s) (inv s) := by
  unfold jalousieref08_Invert.f
  refine ev_cast (rinv_l0 s hf s.length 0 [] (by omega) (by simp)) ?_
  unfold nrm inv
  rw [flp_chk]
/-- A hunk that goes back. -/
def revh (h : S44) : S44 := ⟨h.f2, h.f3, h.f0, h.f1, (inv h.f4).1⟩
/-- What Reverse tells. -/
def rev (l : List S44) : List S44 × Int := if chkH l = 0 then (l.map revh, 0) else ([], chkH l)
theorem rev_l0 (l : List S44) (hf : FitH l) (hl : l.length ≤ 400) : ∀ (d i : Nat) (out : List S44), i + d = l.length → out = (l.take i).map revh → Ev (fun k => patch_Reverse.l0 k out l (l.length : Int) (i : Int)) (l.map revh, 0)
  | 0, i, out, h, ho => by
    rw [List.take_of_length_le (by omega)] at ho
    subst ho
    refine ev_succ ?_
    simp only [patch_Reverse.l0]
    exact ev_neg (by omega) (ev_some rfl)
  | d + 1, i, out, h, ho => by
    have hlen : out.length < 2513169434916 := by
      rw [ho, List.length_map, List.length_take]
      omega
    have hm := hf.2 _ (getD_mem (l := l) (i := i) (by omega) z44)
    refine ev_succ ?_
    simp only [patch_Reverse.l0, rdH]
    rw [w64s i (by omega)]
    refine ev_pos (by omega) (ev_pos (by omega) (ev_pos (by omega) (Ev.bind (inv_ev _ hm) (ev_pos hlen ?_))))
    refine rev_l0 l hf hl d (i + 1) _ (by omega) ?_
    rw [take_snoc l i (by omega) z44, List.map_append, ← ho]
    rfl
theorem rev_ev (l : List S44) (hf : FitH l) : Ev (fun k => patch_Reverse.f k l) (rev l) := by
  unfold patch_Reverse.f rev
  refine Ev.bind (hcheck_ev l hf) ?_
  by_cases h : chkH l = 0
  · rw [if_pos h]
    exact ev_pos h (rev_l0 l hf (chkH_zero h).1 l.length 0 [] (by omega) (by simp))
  · rw [if_neg h]
    exact ev_neg h (ev_some rfl)
theorem rrev_l0 (l : List S44) (hf : FitH l) (hl : l.length ≤ 400) : ∀ (d i : Nat) (out : List S44), i + d = l.length → out = (l.take i).map revh → Ev (fun k => jalousieref11_Reverse.l0 k l out (i : Int)) (l.map revh, 0)
  | 0, i, out, h, ho => by
    rw [List.take_of_length_le (by omega)] at ho
    subst ho
    refine ev_succ ?_
    simp only [jalousieref11_Reverse.l0]
    exact ev_neg (by omega) (ev_some rfl)
  | d + 1, i, out, h, ho => by
    have hlen : out.length < 2513169434916 := by
      rw [ho, List.length_map, List.length_take]
      omega
    have hm := hf.2 _ (getD_mem (l := l) (i := i) (by omega) z44)
    refine ev_succ ?_
    simp only [jalousieref11_Reverse.l0, rdH]
    rw [w64s i (by omega)]
    refine ev_pos (by omega) (ev_pos (by omega) (Ev.bind (rinv_ev _ hm) (ev_pos hlen ?_)))
    refine rrev_l0 l hf hl d (i + 1) _ (by omega) ?_
    rw [take_snoc l i (by omega) z44, List.map_append, ← ho]
    rfl
theorem rrev_ev (l : List S44) (hf : FitH l) : Ev (fun k => jalousieref11_Reverse.f k l) (rev l) := by
  unfold jalousieref11_Reverse.f rev
  refine Ev.bind (rcheck_ev l hf) ?_
  by_cases h : chkH l = 0
  · rw [if_pos h]
    exact ev_pos h (rrev_l0 l hf (chkH_zero h).1 l.length 0 [] (by omega) (by simp))
  · rw [if_neg h]
    exact ev_neg h (ev_some rfl)
theorem inv_fit (s : List S47) : Fit (inv s).1 := by
  unfold inv
  by_cases h : chk s = 0
  · rw [if_pos h]
    obtain ⟨c1, c2, c3⟩ := chk_zero.1 h
    have hn := p_nf (s.map flp) (by rw [flp_allok]; exact c3)
    exact good_fit _ (by rw [p_nl, flp_nl]; omega) (nf_good _ hn)
  · rw [if_neg h]
    exact ⟨by simp, fun x hx => by cases hx⟩
theorem rev_fit (l : List S44) : FitH (rev l).1 := by
  unfold rev
  by_cases h : chkH l = 0
  · rw [if_pos h]
    refine ⟨by rw [List.length_map]; have := (chkH_zero h).1; omega, fun g hg => ?_⟩
    obtain ⟨y, hy, rfl⟩ := List.mem_map.1 hg
    exact inv_fit y.f4
  · rw [if_neg h]
    exact ⟨by simp, fun g hg => by cases hg⟩
def ofk (d : Int) (s : List S47) : Nat := (s.map fun x => if x.f0 = d then x.f1.length else 0).sum
theorem ofk_cons (d : Int) (x : S47) (s : List S47) : ofk d (x :: s) = (if x.f0 = d then x.f1.length else 0) + ofk d s := by simp [ofk]
theorem ofk_append (d : Int) (s t : List S47) : ofk d (s ++ t) = ofk d s + ofk d t := by simp [ofk]
theorem ofk_le (d : Int) (s : List S47) : ofk d s ≤ nl s := by
  induction s with
  | nil => exact Nat.le_refl _
  | cons x t ih =>
    rw [ofk_cons, nl_cons]
    split <;> omega
theorem size_l1 (l : List S44) (i : Nat) (s : List S47) (hs : s.length ≤ 1000000000000000000) (r : Int × Int) : ∀ (d j m g : Nat), j + d = s.length → m + nl (s.drop j) ≤ 1000000000000000000 → g + nl (s.drop j) ≤ 1000000000000000000 →
    Ev (fun k => patch_Size.l0 k ((m + ofk 3 (s.drop j) : Nat) : Int) ((g + ofk 2 (s.drop j) : Nat) : Int) l (l.length : Int) (wrap64 ((i : Int) + 1))) r →
    Ev (fun k => patch_Size.l1 k (m : Int) (g : Int) l (l.length : Int) (i : Int) s (s.length : Int) (j : Int)) r
  | 0, j, m, g, h, h1, h2, hr => by
    rw [List.drop_of_length_le (by omega)] at hr
    refine ev_succ ?_
    simp only [patch_Size.l1]
    exact ev_neg (by omega) hr
  | d + 1, j, m, g, h, h1, h2, hr => by
    rw [drop_cons s j (by omega) z47] at hr h1 h2
    rw [nl_cons] at h1 h2
    rw [ofk_cons, ofk_cons] at hr
    refine ev_succ ?_
    simp only [patch_Size.l1, rdE]
    rw [w64s j (by omega)]
    generalize s.getD j z47 = x at hr h1 h2
    refine ev_pos (by omega) (ev_pos (by omega) (ev_pos (by omega) ?_))
    by_cases h3 : x.f0 = 3
    · refine ev_pos h3 ?_
      rw [show wrap64 ((m : Int) + (x.f1.length : Int)) = ((m + x.f1.length : Nat) : Int) by rw [w64i _ (by omega) (by omega)]; omega]
      refine size_l1 l i s hs r d (j + 1) (m + x.f1.length) g (by omega) (by omega) (by omega) ?_
      rw [if_pos h3, if_neg (by omega), Nat.zero_add, ← Nat.add_assoc] at hr
      exact hr
    · by_cases h4 : x.f0 = 2
      · refine ev_neg h3 (ev_pos h4 ?_)
        rw [show wrap64 ((g : Int) + (x.f1.length : Int)) = ((g + x.f1.length : Nat) : Int) by rw [w64i _ (by omega) (by omega)]; omega]
        refine size_l1 l i s hs r d (j + 1) m (g + x.f1.length) (by omega) (by omega) (by omega) ?_
        rw [if_neg h3, if_pos h4, Nat.zero_add, ← Nat.add_assoc] at hr
        exact hr
      · refine ev_neg h3 (ev_neg h4 ?_)
        refine size_l1 l i s hs r d (j + 1) m g (by omega) (by omega) (by omega) ?_
        rw [if_neg h3, if_neg h4, Nat.zero_add, Nat.zero_add] at hr
        exact hr
theorem size_l0 (l : List S44) (hl : l.length ≤ 1000000000000000000) (hs : ∀ h ∈ l, h.f4.length ≤ 1000000000000000000) : ∀ (d i m g : Nat), i + d = l.length → m + nl (joins (l.drop i)) ≤ 1000000000000000000 → g + nl (joins (l.drop i)) ≤ 1000000000000000000 →
    Ev (fun k => patch_Size.l0 k (m : Int) (g : Int) l (l.length : Int) (i : Int)) (((m + ofk 3 (joins (l.drop i)) : Nat) : Int), ((g + ofk 2 (joins (l.drop i)) : Nat) : Int))
  | 0, i, m, g, h, h1, h2 => by
    rw [List.drop_of_length_le (by omega)]
    refine ev_succ ?_
    simp only [patch_Size.l0]
    exact ev_neg (by omega) (ev_some rfl)
  | d + 1, i, m, g, h, h1, h2 => by
    have hm := hs _ (getD_mem (l := l) (i := i) (by omega) z44)
    rw [drop_cons l i (by omega) z44] at h1 h2 ⊢
    rw [joins_cons, nl_append] at h1 h2
    rw [joins_cons, ofk_append, ofk_append]
    refine ev_succ ?_
    simp only [patch_Size.l0, rdH]
    generalize l.getD i z44 = x at h1 h2 hm
    refine ev_pos (by omega) (ev_pos (by omega) (ev_pos (by omega) ?_))
    have k3 := ofk_le 3 x.f4
    have k2 := ofk_le 2 x.f4
    refine size_l1 l i x.f4 hm _ x.f4.length 0 m g (by omega) (by rw [List.drop_zero]; omega) (by rw [List.drop_zero]; omega) ?_
    rw [List.drop_zero, w64s i (by omega)]
    refine ev_cast (size_l0 l hl hs d (i + 1) (m + ofk 3 x.f4) (g + ofk 2 x.f4) (by omega) (by omega) (by omega)) ?_
    rw [Nat.add_assoc, Nat.add_assoc]
theorem size_ev (l : List S44) (hl : l.length ≤ 1000000000000000000) (hs : ∀ h ∈ l, h.f4.length ≤ 1000000000000000000) (hn : nl (joins l) ≤ 1000000000000000000) : Ev (fun k => patch_Size.f k l) ((ofk 3 (joins l) : Nat), (ofk 2 (joins l) : Nat)) := by
  unfold patch_Size.f
  refine ev_cast (size_l0 l hl hs l.length 0 0 0 (by omega) (by rw [List.drop_zero]; omega) (by rw [List.drop_zero]; omega)) ?_
  simp
end Go.Proofs.Ytfnbodjmmkjlcaa.H
end
section
namespace Go.Proofs.Ytfnbodjmmkjlcaa.Pure
open Go.RowKit Go.Proofs.Ytfnbodjmmkjlcaa Go.Proofs.Ytfnbodjmmkjlcaa.H Go.Proofs.YtfnbodjmmkjlcaaW.PrintWords Go.Proofs.YtfnbodjmmkjlcaaW.PrintLast Go.Proofs.YtfnbodjmmkjlcaaW.PrintMore
theorem sum_ge {α : Type} (f : α → Nat) : ∀ (l : List α) (x : α), x ∈ l → f x ≤ (l.map f).sum
  | y :: t, x, h => by
    rw [List.map_cons, List.sum_cons]
    rcases List.mem_cons.1 h with rfl | h
    · omega
    · have := sum_ge f t x h
      omega
theorem sum_len {α : Type} (f : α → Nat) (hf : ∀ x, 1 ≤ f x) : ∀ l : List α, l.length ≤ (l.map f).sum
  | [] => Nat.le_refl _
  | x :: xs => by
    have := sum_len f hf xs
    have := hf x
    simp only [List.length_cons, List.map_cons, List.sum_cons]
    omega
theorem bk_edit (x : S47) : x.f1.length ≤ bk47 x := by
  have := sum_len bk66 (fun y => by unfold bk66; omega) x.f1
  show _ ≤ 1 + ((x.f1.map bk66).sum + 1) + 1
  omega
theorem bk_hunk (h : S44) : h.f4.length ≤ bk44 h ∧ ∀ x ∈ h.f4, x.f1.length ≤ bk44 h := by
  have h1 := sum_len bk47 (fun y => by unfold bk47; omega) h.f4
  have h2 : (h.f4.map bk47).sum ≤ bk44 h := by
    show _ ≤ 1 + (1 + (1 + (1 + ((h.f4.map bk47).sum + 1)))) + 1
    omega
  refine ⟨by omega, fun x hx => ?_⟩
  have := sum_ge bk47 h.f4 x hx
  have := bk_edit x
  omega
theorem bk_joins : ∀ (l : List S44), (joins l).length ≤ (l.map bk44).sum
  | [] => Nat.le_refl _
  | h :: t => by
    have := bk_joins t
    have := (bk_hunk h).1
    rw [joins_cons, List.length_append, List.map_cons, List.sum_cons]
    omega
theorem sum_take {α : Type} (f : α → Nat) : ∀ (n : Nat) (l : List α), ((l.take n).map f).sum ≤ (l.map f).sum
  | 0, _ => by simp
  | n + 1, [] => by simp
  | n + 1, x :: t => by
    have := sum_take f n t
    simp only [List.take_succ_cons, List.map_cons, List.sum_cons]
    omega
theorem bk_nl (s : List S47) : nl s ≤ (s.map bk47).sum := by
  induction s with
  | nil => exact Nat.le_refl _
  | cons x t ih =>
    have := bk_edit x
    rw [nl_cons, List.map_cons, List.sum_cons]
    omega
theorem bk_hnl (h : S44) : nl h.f4 ≤ bk44 h := by
  have h1 := bk_nl h.f4
  have h2 : (h.f4.map bk47).sum ≤ bk44 h := by
    show _ ≤ 1 + (1 + (1 + (1 + ((h.f4.map bk47).sum + 1)))) + 1
    omega
  omega
theorem bk_joins_nl : ∀ (l : List S44), nl (joins l) ≤ (l.map bk44).sum
  | [] => Nat.le_refl _
  | h :: t => by
    have := bk_joins_nl t
    have := bk_hnl h
    rw [joins_cons, nl_append, List.map_cons, List.sum_cons]
    omega
theorem ofk_single (d : Int) (s : List S47) : ofk d (single s) = ofk d s := by
  induction s with
  | nil => rfl
  | cons x t ih =>
    rw [single_cons, ofk_append, ih, ofk_cons]
    congr 1
    unfold one
    generalize x.f1 = ys
    induction ys with
    | nil => split <;> rfl
    | cons y u ih2 =>
      rw [List.map_cons, ofk_cons, ih2]
      by_cases h : x.f0 = d
      · rw [if_pos h, if_pos h, if_pos h]
        simp
        omega
      · rw [if_neg h, if_neg h, if_neg h]
theorem prv_l0 (a : List S44) (e : Int) (M G : Nat) (ha : FitH a) (s : List S47) (hs : s.length ≤ 1000000000) (h1 : ∀ x ∈ s, x.f1.length = 1) : ∀ (d i x y : Nat), i + d = s.length → x ≤ i → y ≤ i → M = x + ofk 3 (s.drop i) → G = y + ofk 2 (s.drop i) →
    Ev (fun k => jalousielaw11_PatchReverses.l0 k a e a e (M : Int) (G : Int) (x : Int) (y : Int) s (i : Int)) true
  | 0, i, x, y, h, hx, hy, hM, hG => by
    rw [List.drop_of_length_le (by omega)] at hM hG
    refine ev_succ ?_
    simp only [jalousielaw11_PatchReverses.l0]
    refine ev_neg (by omega) (Ev.bind live11_ev (ev_pos rfl (Ev.bind (hsame_ev a a ha) (ev_pos (decide_eq_true rfl) ?_))))
    have e1 : M = x := hM
    have e2 : G = y := hG
    subst e1 e2
    exact ev_pos trivial (ev_pos rfl (ev_some (by simp)))
  | d + 1, i, x, y, h, hx, hy, hM, hG => by
    have hz := h1 _ (getD_mem (l := s) (i := i) (by omega) z47)
    rw [drop_cons s i (by omega) z47, ofk_cons] at hM hG
    refine ev_succ ?_
    simp only [jalousielaw11_PatchReverses.l0, rdE]
    rw [w64s i (by omega)]
    generalize s.getD i z47 = z at hz hM hG
    refine ev_pos (by omega) (ev_pos (by omega) ?_)
    by_cases h3 : z.f0 = 3
    · rw [if_pos h3] at hM
      rw [if_neg (by omega)] at hG
      rw [w64s x (by omega)]
      exact ev_pos h3 (ev_neg (by omega) (prv_l0 a e M G ha s hs h1 d (i + 1) (x + 1) y (by omega) (by omega) (by omega) (by omega) (by omega)))
    · rw [if_neg h3] at hM
      by_cases h2 : z.f0 = 2
      · rw [if_pos h2] at hG
        rw [w64s y (by omega)]
        exact ev_neg h3 (ev_pos h2 (prv_l0 a e M G ha s hs h1 d (i + 1) x (y + 1) (by omega) (by omega) (by omega) (by omega) (by omega)))
      · rw [if_neg h2] at hG
        exact ev_neg h3 (ev_neg h2 (prv_l0 a e M G ha s hs h1 d (i + 1) x y (by omega) (by omega) (by omega) (by omega) (by omega)))
theorem PatchReverses : jalousielaw11_PatchReverses.PureUpto := by
  intro l0 _ hb
  have hb' : (l0.map bk44).sum + 1 ≤ 1048576 := hb
  have hl0 := sum_len bk44 (fun y => by unfold bk44; omega) l0
  refine Ev.rounds ?_
  unfold jalousielaw11_PatchReverses.f
  have hm : mn (l0.length : Int) 20 = ((min l0.length 20 : Nat) : Int) := min_ev _ 20
  rw [hm]
  refine ev_pos (by omega) (ev_pos (by omega) ?_)
  simp only [Option.bind_some, Int.toNat_natCast]
  have hbt := sum_take bk44 (min l0.length 20) l0
  generalize l0.take (min l0.length 20) = l at hbt
  have hl := sum_len bk44 (fun y => by unfold bk44; omega) l
  have hel : ∀ h ∈ l, bk44 h ≤ 1048576 := fun h hh => by
    have := sum_ge bk44 l h hh
    omega
  have hf : FitH l := ⟨by omega, fun h hh => ⟨by have := (bk_hunk h).1; have := hel h hh; omega, fun x hx => by have := (bk_hunk h).2 x hx; have := hel h hh; omega⟩⟩
  have hj := bk_joins l
  have hn := bk_joins_nl l
  refine Ev.bind (rev_ev l hf) (Ev.bind (rrev_ev l hf) (Ev.bind (size_ev l (by omega) (fun h hh => by have := (bk_hunk h).1; have := hel h hh; omega) (by omega)) ?_))
  refine Ev.bind (rjoin_ev l (by omega) (by omega)) (Ev.bind (single_ev _ (by omega) (by omega)) ?_)
  refine prv_l0 _ _ _ _ (rev_fit l) (single (joins l)) (by rw [single_len]; omega) (fun x hx => ?_) (single (joins l)).length 0 0 0 (by omega) (by omega) (by omega) (by rw [List.drop_zero, ofk_single, Nat.zero_add]) (by rw [List.drop_zero, ofk_single, Nat.zero_add])
  unfold single at hx
  obtain ⟨z, hz, hx⟩ := List.mem_flatMap.1 hx
  unfold one at hx
  obtain ⟨y, hy, rfl⟩ := List.mem_map.1 hx
  rfl
end Go.Proofs.Ytfnbodjmmkjlcaa.Pure
end
