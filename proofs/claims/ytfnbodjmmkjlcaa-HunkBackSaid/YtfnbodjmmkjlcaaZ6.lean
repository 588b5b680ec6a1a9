/-
  What the claim needs of the words, of the walks and of the plain proofs, in one row (6).
-/
import Derived.Deep.RegionHeld3
import Derived.WalkLawsBesides
import Derived.WalkSpells
import Derived.RangeFuncNested
import Derived.RangeFuncBound
import Derived.RangeFuncCalls
import Derived.RangeFuncLeaves
import Derived.RangeFuncBox
import Derived.RangeFuncMany
import Derived.Shelf.Abstract
import Derived.OwnWalkIn
import Derived.TacticsInMore
import Derived.LoopNIn
import Derived.LoopIn
import Derived.Test.YtfnbodjmmkjlcaaZ0
import Derived.Test.YtfnbodjmmkjlcaaZ1
import Derived.Test.YtfnbodjmmkjlcaaZ2
import Derived.Test.YtfnbodjmmkjlcaaZ3
import Derived.Test.YtfnbodjmmkjlcaaZ4
import Derived.Test.YtfnbodjmmkjlcaaZ5
section
namespace Go.Proofs.Ytfnbodjmmkjlcaa.H
open Go.RowKit Go.Proofs.YtfnbodjmmkjlcaaW.PrintWords Go.Proofs.YtfnbodjmmkjlcaaW.PrintLast Go.Proofs.YtfnbodjmmkjlcaaW.PrintMore
set_option linter.unusedVariables false
set_option linter.unusedSimpArgs false
theorem rdE (l : List S47) (i : Nat) : rd_T47 l (i : Int) = l.getD i z47 := by simp [rd_T47]
theorem rdH (l : List S44) (i : Nat) : rd_T44 l (i : Int) = l.getD i z44 := by simp [rd_T44]
theorem rdL (l : List S66) (i : Nat) : rd_T66 l (i : Int) = l.getD i z66 := by simp [rd_T66]
theorem getD_mem {α : Type} {l : List α} {i : Nat} (h : i < l.length) (d : α) : l.getD i d ∈ l := by
  rw [getD_lt h]
  exact List.getElem_mem h
/-- How many lines. -/
def nl (s : List S47) : Nat := (s.map (fun e => e.f1.length)).sum
theorem nl_cons (x : S47) (s : List S47) : nl (x :: s) = x.f1.length + nl s := by simp [nl]
theorem nl_nil : nl [] = 0 := rfl
theorem nl_append (s t : List S47) : nl (s ++ t) = nl s + nl t := by simp [nl]
theorem nl_lines (s : List S47) : script_normal.lines s = nl s := rfl
/-- Each stays, goes, or is put in. -/
def allok (s : List S47) : Bool := s.all fun x => decide (1 ≤ x.f0 ∧ x.f0 ≤ 3)
theorem allok_cons (x : S47) (s : List S47) : allok (x :: s) = (decide (1 ≤ x.f0 ∧ x.f0 ≤ 3) && allok s) := by simp [allok]
/-- Sizes that a machine holds. -/
def Fit (s : List S47) : Prop := s.length ≤ 4398046511104 ∧ ∀ x ∈ s, x.f1.length ≤ 5864062014805
/-- What is wrong with a script. -/
def chk (s : List S47) : Int := if 800 < s.length then 4 else if 800 < nl s then 4 else if allok s = true then 0 else 3
theorem chk_zero {s : List S47} : chk s = 0 ↔ s.length ≤ 800 ∧ nl s ≤ 800 ∧ allok s = true := by
  unfold chk
  by_cases h1 : 800 < s.length
  · rw [if_pos h1]
    constructor
    · intro h
      cases h
    · omega
  · rw [if_neg h1]
    by_cases h2 : 800 < nl s
    · rw [if_pos h2]
      constructor
      · intro h
        cases h
      · omega
    · rw [if_neg h2]
      by_cases h3 : allok s = true
      · rw [if_pos h3]
        simp [h3]
        omega
      · rw [if_neg h3]
        simp [h3]
theorem chk_l0 (s : List S47) (hf : Fit s) : ∀ (d i n : Nat) (e : Int), i + d = s.length → n ≤ 800 → Ev (fun k => script_Check.l0 k (n : Int) e s (s.length : Int) (i : Int)) (if 800 < n + nl (s.drop i) then 4 else if allok (s.drop i) = true then e else 3)
  | 0, i, n, e, h, hn => by
    refine ev_succ ?_
    simp only [script_Check.l0]
    have := hf.1
    (repeat (first | refine ev_pos (by omega) ?_ | refine ev_neg (by omega) ?_))
    rw [List.drop_of_length_le (by omega)]
    exact ev_some (by rw [if_neg (by rw [nl_nil]; omega)]; rfl)
  | d + 1, i, n, e, h, hn => by
    have h1 := hf.1
    have hx := hf.2 _ (getD_mem (l := s) (i := i) (by omega) z47)
    rw [drop_cons s i (by omega) z47]
    refine ev_succ ?_
    simp only [script_Check.l0, rdE]
    rw [w64s i (by omega)]
    generalize s.getD i z47 = x at hx
    have hm : mn (wrap64 ((n : Int) + (x.f1.length : Int))) 801 = ((min (n + x.f1.length) 801 : Nat) : Int) := by
      unfold mn wrap64
      split <;> omega
    rw [hm, nl_cons, allok_cons]
    refine ev_pos (by omega) ?_
    refine ev_pos (by omega) ?_
    refine ev_pos (by omega) ?_
    by_cases hc : 800 < n + x.f1.length
    · refine ev_pos (by omega) ?_
      exact ev_some (by rw [if_pos (by omega)])
    · refine ev_neg (by omega) ?_
      rw [Nat.min_eq_left (by omega)]
      by_cases h3 : x.f0 < 1
      · refine ev_pos h3 ?_
        refine ev_cast (chk_l0 s hf d (i + 1) (n + x.f1.length) 3 (by omega) (by omega)) ?_
        rw [decide_eq_false (by omega), Bool.false_and, Nat.add_assoc]
        split
        · rfl
        · simp
      · refine ev_neg h3 ?_
        by_cases h4 : x.f0 > 3
        · refine ev_pos h4 ?_
          refine ev_cast (chk_l0 s hf d (i + 1) (n + x.f1.length) 3 (by omega) (by omega)) ?_
          rw [decide_eq_false (by omega), Bool.false_and, Nat.add_assoc]
          split
          · rfl
          · simp
        · refine ev_neg h4 ?_
          refine ev_cast (chk_l0 s hf d (i + 1) (n + x.f1.length) e (by omega) (by omega)) ?_
          rw [decide_eq_true (by omega), Bool.true_and, Nat.add_assoc]
theorem chk_ev (s : List S47) (hf : Fit s) : Ev (fun k => script_Check.f k s) (chk s) := by
  unfold script_Check.f chk
  by_cases h : 800 < s.length
  · refine ev_pos (by omega) ?_
    exact ev_some (by rw [if_pos h])
  · refine ev_neg (by omega) ?_
    refine ev_cast (chk_l0 s hf s.length 0 0 0 (by omega) (by omega)) ?_
    rw [if_neg h, List.drop_zero, Nat.zero_add]
theorem rchk_l1 (s : List S47) (hf : Fit s) : ∀ (d i : Nat), i + d = s.length → Ev (fun k => jalousieref08_Check.l1 k s (i : Int)) (if allok (s.drop i) = true then 0 else 3)
  | 0, i, h => by
    refine ev_succ ?_
    simp only [jalousieref08_Check.l1]
    have := hf.1
    (repeat (first | refine ev_pos (by omega) ?_ | refine ev_neg (by omega) ?_))
    rw [List.drop_of_length_le (by omega)]
    exact ev_some (by rfl)
  | d + 1, i, h => by
    have h1 := hf.1
    rw [drop_cons s i (by omega) z47]
    refine ev_succ ?_
    simp only [jalousieref08_Check.l1, rdE]
    rw [w64s i (by omega), allok_cons]
    generalize s.getD i z47 = x
    refine ev_pos (by omega) ?_
    refine ev_pos (by omega) ?_
    have ih := rchk_l1 s hf d (i + 1) (by omega)
    by_cases a1 : x.f0 = 1
    · refine ev_pos a1 (ev_cast ih ?_)
      rw [decide_eq_true (by omega), Bool.true_and]
    · refine ev_neg a1 ?_
      by_cases a2 : x.f0 = 2
      · refine ev_pos a2 (ev_cast ih ?_)
        rw [decide_eq_true (by omega), Bool.true_and]
      · refine ev_neg a2 ?_
        by_cases a3 : x.f0 = 3
        · refine ev_pos a3 (ev_cast ih ?_)
          rw [decide_eq_true (by omega), Bool.true_and]
        · refine ev_neg a3 (ev_some ?_)
          rw [decide_eq_false (by omega), Bool.false_and]
          rfl
theorem rchk_l0 (s : List S47) (hf : Fit s) : ∀ (d i n : Nat), i + d = s.length → n ≤ 800 → Ev (fun k => jalousieref08_Check.l0 k s (n : Int) (i : Int)) (if 800 < n + nl (s.drop i) then 4 else if allok s = true then 0 else 3)
  | 0, i, n, h, hn => by
    refine ev_succ ?_
    simp only [jalousieref08_Check.l0]
    have := hf.1
    (repeat (first | refine ev_pos (by omega) ?_ | refine ev_neg (by omega) ?_))
    rw [List.drop_of_length_le (by omega)]
    refine ev_cast (rchk_l1 s hf s.length 0 (by omega)) ?_
    rw [List.drop_zero, if_neg (show ¬ 800 < n + nl [] by rw [nl_nil]; omega)]
  | d + 1, i, n, h, hn => by
    have h1 := hf.1
    have hx := hf.2 _ (getD_mem (l := s) (i := i) (by omega) z47)
    rw [drop_cons s i (by omega) z47]
    refine ev_succ ?_
    simp only [jalousieref08_Check.l0, rdE]
    rw [w64s i (by omega)]
    generalize s.getD i z47 = x at hx
    rw [w64i (800 - (n : Int)) (by omega) (by omega), w64i ((n : Int) + (x.f1.length : Int)) (by omega) (by omega), nl_cons]
    refine ev_pos (by omega) ?_
    refine ev_pos (by omega) ?_
    by_cases hc : 800 < n + x.f1.length
    · refine ev_pos (by omega) ?_
      exact ev_some (by rw [if_pos (by omega)])
    · refine ev_neg (by omega) ?_
      refine ev_cast (rchk_l0 s hf d (i + 1) (n + x.f1.length) (by omega) (by omega)) ?_
      rw [Nat.add_assoc]
theorem rchk_ev (s : List S47) (hf : Fit s) : Ev (fun k => jalousieref08_Check.f k s) (chk s) := by
  unfold jalousieref08_Check.f chk
  by_cases h : 800 < s.length
  · refine ev_pos (by omega) ?_
    exact ev_some (by rw [if_pos h])
  · refine ev_neg (by omega) ?_
    refine ev_cast (rchk_l0 s hf s.length 0 0 (by omega) (by omega)) ?_
    rw [if_neg h, List.drop_zero, Nat.zero_add]
/-- A script's lines but those of one kind. -/
def side (s : List S47) (but : Int) : List S66 := s.flatMap fun x => if x.f0 = but then [] else x.f1
theorem side_cons (x : S47) (s : List S47) (b : Int) : side (x :: s) b = (if x.f0 = b then [] else x.f1) ++ side s b := by simp [side]
theorem side_append (s t : List S47) (b : Int) : side (s ++ t) b = side s b ++ side t b := by simp [side]
theorem side_len (s : List S47) (b : Int) : (side s b).length ≤ nl s := by
  induction s with
  | nil => simp [side, nl]
  | cons x t ih =>
    rw [side_cons, nl_cons, List.length_append]
    split
    · simp
      omega
    · omega
theorem sides_l0 (s : List S47) (hok : allok s = true) (hn : nl s ≤ 800) (hl : s.length ≤ 800) : ∀ (d i : Nat) (a b : List S66), i + d = s.length → a.length + nl (s.drop i) ≤ 800 → b.length + nl (s.drop i) ≤ 800 → Ev (fun k => script_sides.l0 k a b s (s.length : Int) (i : Int)) (a ++ side (s.drop i) 3, b ++ side (s.drop i) 2)
  | 0, i, a, b, h, ha, hb => by
    refine ev_succ ?_
    simp only [script_sides.l0]
    (repeat (first | refine ev_pos (by omega) ?_ | refine ev_neg (by omega) ?_))
    rw [List.drop_of_length_le (by omega)]
    exact ev_some (by simp [side])
  | d + 1, i, a, b, h, ha, hb => by
    have hx : 1 ≤ (s.getD i z47).f0 ∧ (s.getD i z47).f0 ≤ 3 := by
      have := List.all_eq_true.1 hok _ (getD_mem (l := s) (i := i) (by omega) z47)
      simpa using this
    rw [drop_cons s i (by omega) z47] at ha hb ⊢
    rw [nl_cons] at ha hb
    refine ev_succ ?_
    simp only [script_sides.l0, rdE]
    rw [w64s i (by omega)]
    generalize s.getD i z47 = x at hx ha hb
    rw [side_cons, side_cons]
    refine ev_pos (by omega) ?_
    refine ev_pos (by omega) ?_
    refine ev_pos (by omega) ?_
    by_cases a1 : x.f0 = 1
    · refine ev_pos a1 ?_
      (repeat (first | refine ev_pos (by omega) ?_ | refine ev_neg (by omega) ?_))
      refine ev_cast (sides_l0 s hok hn hl d (i + 1) _ _ (by omega) (by rw [List.length_append]; omega) (by rw [List.length_append]; omega)) ?_
      rw [if_neg (by omega), if_neg (by omega), List.append_assoc, List.append_assoc]
    · refine ev_neg a1 ?_
      by_cases a2 : x.f0 = 2
      · refine ev_pos a2 ?_
        (repeat (first | refine ev_pos (by omega) ?_ | refine ev_neg (by omega) ?_))
        refine ev_cast (sides_l0 s hok hn hl d (i + 1) _ _ (by omega) (by rw [List.length_append]; omega) (by omega)) ?_
        rw [if_neg (by omega), if_pos a2, List.append_assoc, List.nil_append]
      · refine ev_neg a2 ?_
        (repeat (first | refine ev_pos (by omega) ?_ | refine ev_neg (by omega) ?_))
        refine ev_cast (sides_l0 s hok hn hl d (i + 1) _ _ (by omega) (by omega) (by rw [List.length_append]; omega)) ?_
        rw [if_pos (by omega), if_neg a2, List.append_assoc, List.nil_append]
/-- Both sides, and what is wrong. -/
def sds (s : List S47) : List S66 × List S66 × Int := if chk s = 0 then (side s 3, side s 2, 0) else ([], [], chk s)
theorem sides_ev (s : List S47) (hf : Fit s) : Ev (fun k => script_Sides.f k s) (sds s) := by
  unfold script_Sides.f sds
  refine Ev.bind (chk_ev s hf) ?_
  by_cases h : chk s = 0
  · refine ev_pos h ?_
    rw [if_pos h]
    obtain ⟨h1, h2, h3⟩ := chk_zero.1 h
    refine Ev.bind (a := (side s 3, side s 2)) ?_ (ev_some rfl)
    unfold script_sides.f
    refine ev_cast (sides_l0 s h3 h2 h1 s.length 0 [] [] (by omega) (by simpa using h2) (by simpa using h2)) ?_
    simp
  · refine ev_neg h ?_
    rw [if_neg h]
    exact ev_some rfl
theorem rside_l0 (s : List S47) (but : Int) (hn : nl s ≤ 800) (hl : s.length ≤ 800) : ∀ (d i : Nat) (a : List S66), i + d = s.length → a.length + nl (s.drop i) ≤ 800 → Ev (fun k => jalousieref08_side.l0 k s but a (i : Int)) (a ++ side (s.drop i) but)
  | 0, i, a, h, ha => by
    refine ev_succ ?_
    simp only [jalousieref08_side.l0]
    (repeat (first | refine ev_pos (by omega) ?_ | refine ev_neg (by omega) ?_))
    rw [List.drop_of_length_le (by omega)]
    exact ev_some (by simp [side])
  | d + 1, i, a, h, ha => by
    rw [drop_cons s i (by omega) z47] at ha ⊢
    rw [nl_cons] at ha
    refine ev_succ ?_
    simp only [jalousieref08_side.l0, rdE]
    rw [w64s i (by omega)]
    generalize s.getD i z47 = x at ha
    rw [side_cons]
    refine ev_pos (by omega) ?_
    refine ev_pos (by omega) ?_
    by_cases a1 : x.f0 = but
    · refine ev_pos a1 ?_
      refine ev_cast (rside_l0 s but hn hl d (i + 1) _ (by omega) (by omega)) ?_
      rw [if_pos a1, List.nil_append]
    · refine ev_neg a1 ?_
      (repeat (first | refine ev_pos (by omega) ?_ | refine ev_neg (by omega) ?_))
      refine ev_cast (rside_l0 s but hn hl d (i + 1) _ (by omega) (by rw [List.length_append]; omega)) ?_
      rw [if_neg a1, List.append_assoc]
theorem rside_ev (s : List S47) (but : Int) (hn : nl s ≤ 800) (hl : s.length ≤ 800) : Ev (fun k => jalousieref08_side.f k s but) (side s but) := by
  unfold jalousieref08_side.f
  exact ev_cast (rside_l0 s but hn hl s.length 0 [] (by omega) (by simpa using hn)) (by simp)
theorem rsides_ev (s : List S47) (hf : Fit s) : Ev (fun k => jalousieref08_Sides.f k s) (sds s) := by
  unfold jalousieref08_Sides.f sds
  refine Ev.bind (rchk_ev s hf) ?_
  by_cases h : chk s = 0
  · refine ev_pos h ?_
    rw [if_pos h]
    obtain ⟨h1, h2, h3⟩ := chk_zero.1 h
    exact Ev.bind (rside_ev s 3 h2 h1) (Ev.bind (rside_ev s 2 h2 h1) (ev_some rfl))
  · refine ev_neg h ?_
    rw [if_neg h]
    exact ev_some rfl
def chg (s : List S47) : Nat := (s.map fun x => if x.f0 = 2 ∨ x.f0 = 3 then x.f1.length else 0).sum
theorem chg_cons (x : S47) (s : List S47) : chg (x :: s) = (if x.f0 = 2 ∨ x.f0 = 3 then x.f1.length else 0) + chg s := by simp [chg]
theorem chg_append (s t : List S47) : chg (s ++ t) = chg s + chg t := by simp [chg]
theorem chg_l0 (s : List S47) (hn : nl s ≤ 1000000000000000000) (hl : s.length ≤ 1000000000000000000) : ∀ (d i n : Nat), i + d = s.length → n + nl (s.drop i) ≤ 1000000000000000000 → Ev (fun k => script_Changed.l0 k (n : Int) s (s.length : Int) (i : Int)) ((n + chg (s.drop i) : Nat) : Int)
  | 0, i, n, h, ha => by
    refine ev_succ ?_
    simp only [script_Changed.l0]
    (repeat (first | refine ev_pos (by omega) ?_ | refine ev_neg (by omega) ?_))
    rw [List.drop_of_length_le (by omega)]
    exact ev_some (by simp [chg])
  | d + 1, i, n, h, ha => by
    rw [drop_cons s i (by omega) z47] at ha ⊢
    rw [nl_cons] at ha
    refine ev_succ ?_
    simp only [script_Changed.l0, rdE]
    rw [w64s i (by omega)]
    generalize s.getD i z47 = x at ha
    rw [chg_cons]
    refine ev_pos (by omega) ?_
    refine ev_pos (by omega) ?_
    refine ev_pos (by omega) ?_
    have hw : wrap64 ((n : Int) + (x.f1.length : Int)) = ((n + x.f1.length : Nat) : Int) := by
      unfold wrap64
      omega
    by_cases a1 : x.f0 = 2
    · refine ev_pos a1 ?_
      rw [hw]
      refine ev_cast (chg_l0 s hn hl d (i + 1) _ (by omega) (by omega)) ?_
      rw [if_pos (Or.inl a1), Nat.add_assoc]
    · refine ev_neg a1 ?_
      by_cases a2 : x.f0 = 3
      · refine ev_pos a2 ?_
        rw [hw]
        refine ev_cast (chg_l0 s hn hl d (i + 1) _ (by omega) (by omega)) ?_
        rw [if_pos (Or.inr a2), Nat.add_assoc]
      · refine ev_neg a2 ?_
        refine ev_cast (chg_l0 s hn hl d (i + 1) _ (by omega) (by omega)) ?_
        rw [if_neg (by omega), Nat.zero_add]
theorem chg_ev (s : List S47) (hn : nl s ≤ 1000000000000000000) (hl : s.length ≤ 1000000000000000000) : Ev (fun k => script_Changed.f k s) (chg s : Int) := by
  unfold script_Changed.f
  refine ev_cast (chg_l0 s hn hl s.length 0 0 (by omega) (by simpa using hn)) ?_
  simp
end Go.Proofs.Ytfnbodjmmkjlcaa.H
namespace Go.Proofs.Ytfnbodjmmkjlcaa.H
open Go.RowKit Go.Proofs.YtfnbodjmmkjlcaaW.PrintWords Go.Proofs.YtfnbodjmmkjlcaaW.PrintLast Go.Proofs.YtfnbodjmmkjlcaaW.PrintMore
set_option linter.unusedVariables false
set_option linter.unusedSimpArgs false
instance decL : DecidableEq S66 := fun a b => decidable_of_iff (a.f0 = b.f0 ∧ a.f1 = b.f1) ⟨fun h => by cases a; cases b; simp at h; simp [h], fun h => h ▸ ⟨rfl, rfl⟩⟩
instance decE : DecidableEq S47 := fun a b => decidable_of_iff (a.f0 = b.f0 ∧ a.f1 = b.f1) ⟨fun h => by cases a; cases b; simp at h; simp [h], fun h => h ▸ ⟨rfl, rfl⟩⟩
theorem line_ne (a b : S66) : (!((a.f0.toList) == (b.f0.toList)) || (!((a.f1) == (b.f1)))) = !decide (a = b) := by
  rw [ba_beq]
  by_cases h : a = b
  · subst h
    simp
  · rw [decide_eq_false h]
    by_cases h0 : a.f0 = b.f0
    · have h1 : a.f1 ≠ b.f1 := fun h1 => h (by cases a; cases b; simp at h0 h1; simp [h0, h1])
      simp [h0, h1]
    · simp [h0]
theorem decide_cons {α : Type} [DecidableEq α] (a b : α) (s t : List α) : decide (a :: s = b :: t) = (decide (a = b) && decide (s = t)) := by
  by_cases h : a = b
  · subst h
    by_cases h2 : s = t
    · simp [h2]
    · simp [h2]
  · simp [h]
theorem lsame_l0 (s t : List S66) (hl : s.length = t.length) (hs : s.length ≤ 9000000000000000000) : ∀ (d i : Nat), i + d = s.length → Ev (fun k => jalousieref01_Same.l0 k s t (i : Int)) (decide (s.drop i = t.drop i))
  | 0, i, h => by
    refine ev_succ ?_
    simp only [jalousieref01_Same.l0]
    (repeat (first | refine ev_pos (by omega) ?_ | refine ev_neg (by omega) ?_))
    rw [List.drop_of_length_le (by omega), List.drop_of_length_le (by omega)]
    exact ev_some (by simp)
  | d + 1, i, h => by
    refine ev_succ ?_
    simp only [jalousieref01_Same.l0, rdL]
    rw [w64s i (by omega), drop_cons s i (by omega) z66, drop_cons t i (by omega) z66, decide_cons, line_ne]
    refine ev_pos (by omega) ?_
    refine ev_pos (by omega) ?_
    refine ev_pos (by omega) ?_
    by_cases e : s.getD i z66 = t.getD i z66
    · refine ev_neg (by rw [decide_eq_true e]; simp) ?_
      refine ev_cast (lsame_l0 s t hl hs d (i + 1) (by omega)) ?_
      rw [decide_eq_true e, Bool.true_and]
    · refine ev_pos (by rw [decide_eq_false e]; simp) ?_
      exact ev_some (by rw [decide_eq_false e, Bool.false_and])
theorem lsame_ev (s t : List S66) (hs : s.length ≤ 9000000000000000000) : Ev (fun k => jalousieref01_Same.f k s t) (decide (s = t)) := by
  unfold jalousieref01_Same.f
  by_cases h : s.length = t.length
  · refine ev_pos (by omega) ?_
    exact ev_cast (lsame_l0 s t h hs s.length 0 (by omega)) (by simp)
  · refine ev_neg (by omega) ?_
    exact ev_some (by rw [decide_eq_false (fun e => h (by rw [e]))])
theorem leq_l0 (s t : List S66) (hl : s.length = t.length) (hs : s.length ≤ 9000000000000000000) : ∀ (d i : Nat), i + d = s.length → Ev (fun k => api_Line_56.l0 k s t (s.length : Int) (i : Int)) (decide (s.drop i = t.drop i))
  | 0, i, h => by
    refine ev_succ ?_
    simp only [api_Line_56.l0]
    (repeat (first | refine ev_pos (by omega) ?_ | refine ev_neg (by omega) ?_))
    rw [List.drop_of_length_le (by omega), List.drop_of_length_le (by omega)]
    exact ev_some (by simp)
  | d + 1, i, h => by
    refine ev_succ ?_
    simp only [api_Line_56.l0, rdL]
    rw [w64s i (by omega), drop_cons s i (by omega) z66, drop_cons t i (by omega) z66, decide_cons, line_ne]
    refine ev_pos (by omega) ?_
    refine ev_pos (by omega) ?_
    refine ev_pos (by omega) ?_
    refine ev_pos (by omega) ?_
    by_cases e : s.getD i z66 = t.getD i z66
    · refine ev_neg (by rw [decide_eq_true e]; simp) ?_
      refine ev_cast (leq_l0 s t hl hs d (i + 1) (by omega)) ?_
      rw [decide_eq_true e, Bool.true_and]
    · refine ev_pos (by rw [decide_eq_false e]; simp) ?_
      exact ev_some (by rw [decide_eq_false e, Bool.false_and])
theorem leq_ev (s t : List S66) (hs : s.length ≤ 9000000000000000000) : Ev (fun k => api_Line_56.f k s t) (decide (s = t)) := by
  unfold api_Line_56.f
  by_cases h : s.length = t.length
  · refine ev_pos (by omega) ?_
    exact ev_cast (leq_l0 s t h hs s.length 0 (by omega)) (by simp)
  · refine ev_neg (by omega) ?_
    exact ev_some (by rw [decide_eq_false (fun e => h (by rw [e]))])
theorem edit_eq (a b : S47) : decide (a = b) = (decide (a.f0 = b.f0) && decide (a.f1 = b.f1)) := by
  by_cases h0 : a.f0 = b.f0
  · by_cases h1 : a.f1 = b.f1
    · have e : a = b := by cases a; cases b; simp at h0 h1; simp [h0, h1]
      simp [e]
    · have e : a ≠ b := fun e => h1 (by rw [e])
      simp [e, h1]
  · have e : a ≠ b := fun e => h0 (by rw [e])
    simp [e, h0]
theorem esame_l0 (s t : List S47) (hl : s.length = t.length) (hs : Fit s) : ∀ (d i : Nat), i + d = s.length → Ev (fun k => jalousieref08_Same.l0 k s t (i : Int)) (decide (s.drop i = t.drop i))
  | 0, i, h => by
    refine ev_succ ?_
    simp only [jalousieref08_Same.l0]
    (repeat (first | refine ev_pos (by omega) ?_ | refine ev_neg (by omega) ?_))
    rw [List.drop_of_length_le (by omega), List.drop_of_length_le (by omega)]
    exact ev_some (by simp)
  | d + 1, i, h => by
    have h1 := hs.1
    have hx := hs.2 _ (getD_mem (l := s) (i := i) (by omega) z47)
    refine ev_succ ?_
    simp only [jalousieref08_Same.l0, rdE]
    rw [w64s i (by omega), drop_cons s i (by omega) z47, drop_cons t i (by omega) z47, decide_cons, edit_eq]
    refine ev_pos (by omega) ?_
    refine ev_pos (by omega) ?_
    refine ev_pos (by omega) ?_
    by_cases e : (s.getD i z47).f0 = (t.getD i z47).f0
    · refine ev_pos e ?_
      refine Ev.bind (lsame_ev _ _ (by omega)) ?_
      by_cases e1 : (s.getD i z47).f1 = (t.getD i z47).f1
      · refine ev_pos (decide_eq_true e1) ?_
        refine ev_cast (esame_l0 s t hl hs d (i + 1) (by omega)) ?_
        rw [decide_eq_true e, decide_eq_true e1, Bool.true_and, Bool.true_and]
      · refine ev_neg (by rw [decide_eq_false e1]; simp) ?_
        exact ev_some (by rw [decide_eq_false e1, Bool.and_false, Bool.false_and])
    · refine ev_neg e ?_
      exact ev_some (by rw [decide_eq_false e, Bool.false_and, Bool.false_and])
theorem esame_ev (s t : List S47) (hs : Fit s) : Ev (fun k => jalousieref08_Same.f k s t) (decide (s = t)) := by
  unfold jalousieref08_Same.f
  by_cases h : s.length = t.length
  · refine ev_pos (by omega) ?_
    exact ev_cast (esame_l0 s t h hs s.length 0 (by omega)) (by simp)
  · refine ev_neg (by omega) ?_
    exact ev_some (by rw [decide_eq_false (fun e => h (by rw [e]))])
theorem fit_cons {x : S47} {s : List S47} (h : Fit (x :: s)) : Fit s := ⟨Nat.le_trans (Nat.le_succ _) h.1, fun y hy => h.2 y (List.mem_cons_of_mem _ hy)⟩
theorem eeq_all : ∀ (s t : List S47), Fit s → s.length = t.length → Ev (fun k => hunk_same.all k s t) (decide (s = t))
  | [], [], _, _ => ev_some rfl
  | [], _ :: _, _, h => by simp at h
  | _ :: _, [], _, h => by simp at h
  | x :: s, y :: t, hs, h => by
    have hx := hs.2 x (by simp)
    rw [decide_cons, edit_eq]
    simp only [hunk_same.all]
    refine Ev.bind (a := decide (x.f0 = y.f0) && decide (x.f1 = y.f1)) ?_ ?_
    · unfold hunk_same.one
      by_cases e : x.f0 = y.f0
      · refine ev_pos e (ev_cast (leq_ev _ _ (by omega)) ?_)
        rw [decide_eq_true e, Bool.true_and]
      · refine ev_neg e (ev_some ?_)
        rw [decide_eq_false e, Bool.false_and]
    · by_cases e : (decide (x.f0 = y.f0) && decide (x.f1 = y.f1)) = true
      · refine ev_pos e (ev_cast (eeq_all s t (fit_cons hs) (by simpa using h)) ?_)
        rw [e, Bool.true_and]
      · refine ev_neg e (ev_some ?_)
        rw [Bool.not_eq_true] at e
        rw [e, Bool.false_and]
theorem eeq_ev (s t : List S47) (hs : Fit s) : Ev (fun k => hunk_same.f k s t) (decide (s = t)) := by
  unfold hunk_same.f
  by_cases h : s.length = t.length
  · exact ev_pos h (eeq_all s t hs h)
  · refine ev_neg h (ev_some ?_)
    rw [decide_eq_false (fun e => h (by rw [e]))]
def FitH (s : List S44) : Prop := s.length ≤ 4398046511104 ∧ ∀ x ∈ s, Fit x.f4
/-- The lines of an edit, each one's own. -/
def one (x : S47) : List S47 := x.f1.map fun l => ⟨x.f0, [l]⟩
def single (s : List S47) : List S47 := s.flatMap one
theorem single_cons (x : S47) (s : List S47) : single (x :: s) = one x ++ single s := by simp [single]
theorem single_append (s t : List S47) : single (s ++ t) = single s ++ single t := by simp [single]
theorem single_len (s : List S47) : (single s).length = nl s := by
  induction s with
  | nil => rfl
  | cons x t ih =>
    rw [single_cons, nl_cons, List.length_append, ih]
    simp [one]
end Go.Proofs.Ytfnbodjmmkjlcaa.H
namespace Go.Proofs.Ytfnbodjmmkjlcaa.H
open Go.RowKit Go.Proofs.YtfnbodjmmkjlcaaW.PrintWords Go.Proofs.YtfnbodjmmkjlcaaW.PrintLast Go.Proofs.YtfnbodjmmkjlcaaW.PrintMore
set_option linter.unusedVariables false
set_option linter.unusedSimpArgs false
theorem last_rd (t : List S47) (y : S47) : rd_T47 (t ++ [y]) (((t ++ [y]).length : Int) - 1) = y := by
  have e : (((t ++ [y]).length : Int) - 1) = (t.length : Int) := by simp
  rw [e, rdE, List.getD_eq_getElem?_getD]
  simp
theorem add_nil (s : List S47) (d : Int) : script_normal.add s d [] = s := by simp [script_normal.add]
theorem add_empty (d : Int) (l : List S66) (hl : l ≠ []) : script_normal.add [] d l = [⟨d, l⟩] := by
  unfold script_normal.add
  rw [if_neg (by simpa using hl), if_neg (by simp), List.nil_append]
theorem add_ne (t : List S47) (y : S47) (d : Int) (l : List S66) (hl : l ≠ []) (h : y.f0 ≠ d) : script_normal.add (t ++ [y]) d l = t ++ [y] ++ [⟨d, l⟩] := by
  unfold script_normal.add
  rw [if_neg (by simpa using hl), last_rd, if_neg (by simp [h])]
theorem add_eq (t : List S47) (y : S47) (d : Int) (l : List S66) (hl : l ≠ []) (h : y.f0 = d) : script_normal.add (t ++ [y]) d l = t ++ [⟨d, y.f1 ++ l⟩] := by
  unfold script_normal.add
  rw [if_neg (by simpa using hl), last_rd, if_pos ⟨by simp, h⟩]
  have e : (t ++ [y]).length - 1 = t.length := by simp
  rw [e, List.set_append_right _ _ (Nat.le_refl _), Nat.sub_self]
  rfl
theorem snoc_cases {α : Type} (s : List α) : s = [] ∨ ∃ t y, s = t ++ [y] := by
  rcases List.eq_nil_or_concat s with h | ⟨t, y, h⟩
  · exact .inl h
  · exact .inr ⟨t, y, by simpa using h⟩
theorem add_add (s : List S47) (d : Int) (a b : List S66) : script_normal.add (script_normal.add s d a) d b = script_normal.add s d (a ++ b) := by
  by_cases ha : a = []
  · subst ha
    rw [add_nil, List.nil_append]
  by_cases hb : b = []
  · subst hb
    rw [add_nil, List.append_nil]
  have hab : a ++ b ≠ [] := by simp [ha]
  rcases snoc_cases s with rfl | ⟨t, y, rfl⟩
  · rw [add_empty d a ha, add_empty d _ hab]
    exact add_eq [] ⟨d, a⟩ d b hb rfl
  · by_cases h : y.f0 = d
    · rw [add_eq t y d a ha h, add_eq t _ d b hb rfl, add_eq t y d _ hab h, List.append_assoc]
    · rw [add_ne t y d a ha h, add_ne t y d _ hab h, add_eq (t ++ [y]) ⟨d, a⟩ d b hb rfl]
theorem side_add (s : List S47) (d : Int) (l : List S66) (b : Int) : side (script_normal.add s d l) b = side s b ++ (if d = b then [] else l) := by
  by_cases hl : l = []
  · subst hl
    rw [add_nil]
    simp
  rcases snoc_cases s with rfl | ⟨t, y, rfl⟩
  · rw [add_empty d l hl]
    simp [side]
  · by_cases h : y.f0 = d
    · rw [add_eq t y d l hl h, side_append, side_append, side_cons, side_cons]
      by_cases hb : d = b
      · simp [side, hb, h]
      · simp [side, hb, h]
    · rw [add_ne t y d l hl h, side_append _ [_], side_cons]
      simp [side]
theorem nl_add (s : List S47) (d : Int) (l : List S66) : nl (script_normal.add s d l) = nl s + l.length := by
  by_cases hl : l = []
  · subst hl
    rw [add_nil]
    simp
  rcases snoc_cases s with rfl | ⟨t, y, rfl⟩
  · rw [add_empty d l hl]
    simp [nl]
  · by_cases h : y.f0 = d
    · rw [add_eq t y d l hl h, nl_append, nl_append, nl_cons, nl_cons]
      simp [nl]
      omega
    · rw [add_ne t y d l hl h, nl_append _ [_], nl_cons]
      simp [nl]
def adj (a b : Int) : Prop := (a = 1 ∧ (b = 2 ∨ b = 3)) ∨ (a = 2 ∧ (b = 1 ∨ b = 3)) ∨ (a = 3 ∧ b = 1)
def good (x : S47) : Prop := (x.f0 = 1 ∨ x.f0 = 2 ∨ x.f0 = 3) ∧ x.f1 ≠ []
def Nf : List S47 → Prop
  | [] => True
  | x :: t => good x ∧ (∀ y ∈ t.head?, adj x.f0 y.f0) ∧ Nf t
theorem nf_append (s t : List S47) : Nf (s ++ t) ↔ Nf s ∧ Nf t ∧ ∀ x ∈ s.getLast?, ∀ y ∈ t.head?, adj x.f0 y.f0 := by
  induction s with
  | nil => simp [Nf]
  | cons a s ih =>
    rw [List.cons_append, Nf, ih, Nf]
    cases s with
    | nil =>
      simp [Nf]
      intro _
      exact and_comm
    | cons b s =>
      rw [List.getLast?_cons_cons]
      simp only [List.cons_append, List.head?_cons]
      constructor
      · rintro ⟨h1, h2, h3, h4, h5⟩
        exact ⟨⟨h1, h2, h3⟩, h4, h5⟩
      · rintro ⟨⟨h1, h2, h3⟩, h4, h5⟩
        exact ⟨h1, h2, h3, h4, h5⟩
theorem nf_snoc (t : List S47) (y : S47) : Nf (t ++ [y]) ↔ Nf t ∧ good y ∧ ∀ x ∈ t.getLast?, adj x.f0 y.f0 := by
  rw [nf_append]
  simp [Nf]
/-- The kind of the last edit is none or one of which b may come behind. -/
theorem nf_add (s : List S47) (d : Int) (l : List S66) (hd : d = 1 ∨ d = 2 ∨ d = 3) (hs : Nf s) (ha : ∀ x ∈ s.getLast?, x.f0 = d ∨ adj x.f0 d) : Nf (script_normal.add s d l) := by
  by_cases hl : l = []
  · subst hl
    rw [add_nil]
    exact hs
  rcases snoc_cases s with rfl | ⟨t, y, rfl⟩
  · rw [add_empty d l hl]
    simp [Nf, good, hl, hd]
  · have hy := ha y (by simp)
    by_cases h : y.f0 = d
    · rw [add_eq t y d l hl h]
      rw [nf_snoc] at hs ⊢
      exact ⟨hs.1, ⟨hd, by simp [hl]⟩, fun x hx => by have := hs.2.2 x hx; rw [h] at this; exact this⟩
    · rw [add_ne t y d l hl h, nf_snoc]
      exact ⟨hs, ⟨hd, hl⟩, fun x hx => by
        simp at hx
        subst hx
        exact hy.resolve_left h⟩
theorem last_add (s : List S47) (d : Int) (l : List S66) : ∀ x ∈ (script_normal.add s d l).getLast?, (l ≠ [] ∧ x.f0 = d) ∨ (l = [] ∧ x ∈ s.getLast?) := by
  intro x hx
  by_cases hl : l = []
  · subst hl
    rw [add_nil] at hx
    exact .inr ⟨rfl, hx⟩
  refine .inl ⟨hl, ?_⟩
  rcases snoc_cases s with rfl | ⟨t, y, rfl⟩
  · rw [add_empty d l hl] at hx
    simp at hx
    rw [← hx]
  · by_cases h : y.f0 = d
    · rw [add_eq t y d l hl h] at hx
      simp at hx
      rw [← hx]
    · rw [add_ne t y d l hl h] at hx
      simp at hx
      rw [← hx]
theorem take_in {s : List S47} {w : List S66} {x : S47} (h : x.f0 = 3) : script_normal.take (s, w) x = (s, w ++ x.f1) := by
  unfold script_normal.take
  rw [if_pos h]
theorem take_out {s : List S47} {w : List S66} {x : S47} (h : x.f0 = 2) : script_normal.take (s, w) x = (script_normal.add s 2 x.f1, w) := by
  unfold script_normal.take
  rw [if_neg (by omega), if_neg (by omega), h]
theorem take_keep {s : List S47} {w : List S66} {x : S47} (h : x.f0 = 1) (hx : x.f1 ≠ []) : script_normal.take (s, w) x = (script_normal.add (script_normal.add s 3 w) 1 x.f1, []) := by
  unfold script_normal.take
  rw [if_neg (by omega), if_pos ⟨h, List.length_pos_iff.2 hx⟩, h]
theorem take_none {s : List S47} {w : List S66} {x : S47} (hx : x.f1 = []) : script_normal.take (s, w) x = (s, w) := by
  unfold script_normal.take
  split
  · rw [hx, List.append_nil]
  · rw [if_neg (by simp [hx]), hx, add_nil]
/-- A step line by line. -/
theorem take_one (q : List S47 × List S66) (x : S47) : (one x).foldl script_normal.take q = script_normal.take q x := by
  obtain ⟨s, w⟩ := q
  obtain ⟨d, l⟩ := x
  unfold one
  simp only
  rcases snoc_cases l with rfl | ⟨t, y, rfl⟩
  · rw [take_none rfl]
    rfl
  by_cases h3 : d = 3
  · subst h3
    have go : ∀ (l : List S66) (w : List S66), (l.map fun l => (⟨3, [l]⟩ : S47)).foldl script_normal.take (s, w) = (s, w ++ l) := by
      intro l
      induction l with
      | nil => intro w; simp
      | cons a l ih =>
        intro w
        rw [List.map_cons, List.foldl_cons, take_in rfl, ih]
        simp
    rw [go, take_in rfl]
  · by_cases h1 : d = 1
    · subst h1
      have go : ∀ (l : List S66) (s : List S47), (l.map fun l => (⟨1, [l]⟩ : S47)).foldl script_normal.take (s, []) = (script_normal.add s 1 l, []) := by
        intro l
        induction l with
        | nil => intro s; simp [add_nil]
        | cons a l ih =>
          intro s
          rw [List.map_cons, List.foldl_cons, take_keep rfl (by simp), add_nil, ih, add_add]
          rfl
      rw [take_keep rfl (by simp)]
      generalize hk : t ++ [y] = k
      have hk0 : k ≠ [] := by rw [← hk]; simp
      cases k with
      | nil => exact absurd rfl hk0
      | cons a k =>
        rw [List.map_cons, List.foldl_cons, take_keep rfl (by simp), go, add_add]
        rfl
    · have go : ∀ (l : List S66) (s : List S47), (l.map fun l => (⟨d, [l]⟩ : S47)).foldl script_normal.take (s, w) = (script_normal.add s d l, w) := by
        intro l
        induction l with
        | nil => intro s; simp [add_nil]
        | cons a l ih =>
          intro s
          have e : script_normal.take (s, w) (⟨d, [a]⟩ : S47) = (script_normal.add s d [a], w) := by
            unfold script_normal.take
            rw [if_neg h3, if_neg (by simp [h1])]
          rw [List.map_cons, List.foldl_cons, e, ih, add_add]
          rfl
      rw [go]
      unfold script_normal.take
      rw [if_neg h3, if_neg (by simp [h1])]
theorem fold_single (l : List S47) : ∀ q, (single l).foldl script_normal.take q = l.foldl script_normal.take q := by
  induction l with
  | nil => intro q; rfl
  | cons x t ih =>
    intro q
    rw [single_cons, List.foldl_append, take_one, ih, List.foldl_cons]
/-- THE NORMAL FORM is told by the lines. -/
theorem p_single (l : List S47) : script_normal.p (single l) = script_normal.p l := by
  unfold script_normal.p script_normal.all
  rw [fold_single]
theorem p_of_single {s t : List S47} (h : single s = single t) : script_normal.p s = script_normal.p t := by
  rw [← p_single s, ← p_single t, h]
theorem fold_nf (l : List S47) (hl : allok l = true) : ∀ (s : List S47) (w : List S66), Nf s → (∀ x ∈ s.getLast?, x.f0 ≠ 3) → Nf (l.foldl script_normal.take (s, w)).1 ∧ ∀ x ∈ (l.foldl script_normal.take (s, w)).1.getLast?, x.f0 ≠ 3 := by
  induction l with
  | nil => exact fun s w h1 h2 => ⟨h1, h2⟩
  | cons x t ih =>
    intro s w h1 h2
    rw [allok_cons, Bool.and_eq_true] at hl
    have hx := of_decide_eq_true hl.1
    have h12 : ∀ y ∈ s.getLast?, y.f0 = 1 ∨ y.f0 = 2 := by
      intro y hy
      have h3 := h2 y hy
      have hg : good y := by
        rcases snoc_cases s with rfl | ⟨u, v, rfl⟩
        · simp at hy
        · simp at hy
          subst hy
          exact ((nf_snoc u v).1 h1).2.1
      rcases hg.1 with h | h | h
      · exact .inl h
      · exact .inr h
      · exact absurd h h3
    rw [List.foldl_cons]
    by_cases hx0 : x.f1 = []
    · rw [take_none hx0]
      exact ih hl.2 s w h1 h2
    by_cases a3 : x.f0 = 3
    · rw [take_in a3]
      exact ih hl.2 s _ h1 h2
    by_cases a2 : x.f0 = 2
    · rw [take_out a2]
      refine ih hl.2 _ w (nf_add s 2 _ (by omega) h1 fun y hy => ?_) fun y hy => ?_
      · rcases h12 y hy with h | h
        · exact .inr (.inl ⟨h, by omega⟩)
        · exact .inl h
      · rcases last_add _ _ _ y hy with h | h
        · omega
        · exact absurd h.1 hx0
    · have a1 : x.f0 = 1 := by omega
      rw [take_keep a1 hx0]
      have hf : Nf (script_normal.add s 3 w) := nf_add s 3 w (by omega) h1 fun y hy => .inr (by
        rcases h12 y hy with h | h
        · exact .inl ⟨h, by omega⟩
        · exact .inr (.inl ⟨h, by omega⟩))
      refine ih hl.2 _ [] (nf_add _ 1 _ (by omega) hf fun y hy => ?_) fun y hy => ?_
      · rcases last_add _ _ _ y hy with h | h
        · exact .inr (.inr (.inr ⟨h.2, rfl⟩))
        · rcases h12 y h.2 with h | h
          · exact .inl h
          · exact .inr (.inr (.inl ⟨h, by omega⟩))
      · rcases last_add _ _ _ y hy with h | h
        · omega
        · exact absurd h.1 hx0
theorem p_nf (l : List S47) (hl : allok l = true) : Nf (script_normal.p l) := by
  unfold script_normal.p script_normal.all
  obtain ⟨h1, h2⟩ := fold_nf l hl [] [] trivial (by simp)
  refine nf_add _ 3 _ (by omega) h1 fun y hy => .inr ?_
  have h3 := h2 y hy
  have hg : good y := by
    generalize (l.foldl script_normal.take ([], [])).1 = s at hy h1
    rcases snoc_cases s with rfl | ⟨u, v, rfl⟩
    · simp at hy
    · simp at hy
      subst hy
      exact ((nf_snoc u v).1 h1).2.1
  rcases hg.1 with h | h | h
  · exact .inl ⟨h, by omega⟩
  · exact .inr (.inl ⟨h, by omega⟩)
  · exact absurd h h3
def wl (w : List S66) : List S47 := if w = [] then [] else [⟨3, w⟩]
theorem add_wl (s r : List S47) (w : List S66) (h : Nf (s ++ wl w ++ r)) : script_normal.add s 3 w = s ++ wl w := by
  unfold wl at h ⊢
  by_cases hw : w = []
  · subst hw
    rw [if_pos rfl, add_nil, List.append_nil]
  · rw [if_neg hw] at h ⊢
    rcases snoc_cases s with rfl | ⟨t, y, rfl⟩
    · rw [add_empty 3 w hw]
      rfl
    · have h1 := ((nf_append _ _).1 h).1
      have h2 := ((nf_append _ _).1 h1).2.2 y (by simp) ⟨3, w⟩ (by simp)
      rw [add_ne t y 3 w hw (by simp [adj] at h2; omega)]
theorem add_app (s r : List S47) (x : S47) (h : Nf (s ++ x :: r)) : script_normal.add s x.f0 x.f1 = s ++ [x] := by
  have hx : good x := ((nf_append _ _).1 h).2.1.1
  rcases snoc_cases s with rfl | ⟨t, y, rfl⟩
  · rw [add_empty _ _ hx.2]
    rfl
  · have h2 := ((nf_append _ _).1 h).2.2 y (by simp) x (by simp)
    rw [add_ne t y _ _ hx.2 (by simp [adj] at h2; omega)]
theorem fold_id (l : List S47) : ∀ (s : List S47) (w : List S66), Nf (s ++ wl w ++ l) → script_normal.add (l.foldl script_normal.take (s, w)).1 3 (l.foldl script_normal.take (s, w)).2 = s ++ wl w ++ l := by
  induction l with
  | nil =>
    intro s w h
    rw [List.append_nil]
    exact add_wl s [] w h
  | cons x t ih =>
    intro s w h
    have hx : good x := ((nf_append _ _).1 h).2.1.1
    have hlast : w ≠ [] → x.f0 = 1 := by
      intro hw
      unfold wl at h
      rw [if_neg hw] at h
      have h2 := ((nf_append _ _).1 h).2.2 ⟨3, w⟩ (by simp) x (by simp)
      simp [adj] at h2
      exact h2
    rw [List.foldl_cons]
    rcases hx.1 with a | a | a
    · rw [take_keep a hx.2, add_wl s _ w h]
      have e := add_app (s ++ wl w) t x h
      rw [a] at e
      rw [e]
      have h' : Nf (s ++ wl w ++ [x] ++ wl [] ++ t) := by simpa [wl] using h
      rw [ih _ [] h']
      simp [wl]
    · have hw : w = [] := Classical.byContradiction fun hw => by have := hlast hw; omega
      subst hw
      rw [take_out a]
      have h0 : Nf (s ++ x :: t) := by simpa [wl] using h
      have e := add_app s t x h0
      rw [a] at e
      rw [e]
      have h' : Nf (s ++ [x] ++ wl [] ++ t) := by simpa [wl] using h
      rw [ih _ [] h']
      simp [wl]
    · have hw : w = [] := Classical.byContradiction fun hw => by have := hlast hw; omega
      subst hw
      rw [take_in a, List.nil_append]
      have ex : wl x.f1 = [x] := by
        unfold wl
        rw [if_neg hx.2, ← a]
      have h' : Nf (s ++ wl x.f1 ++ t) := by
        rw [ex]
        simpa [wl] using h
      rw [ih _ _ h', ex]
      simp [wl]
/-- A normal form is its own. -/
theorem p_id (n : List S47) (h : Nf n) : script_normal.p n = n := by
  have := fold_id n [] [] (by simpa [wl] using h)
  unfold script_normal.p script_normal.all
  simpa [wl] using this
theorem nf_allok : ∀ (n : List S47), Nf n → allok n = true
  | [], _ => rfl
  | x :: t, h => by
    rw [allok_cons, nf_allok t h.2.2, decide_eq_true (by have := h.1.1; omega)]
    rfl
theorem fold_sides (l : List S47) : ∀ (s : List S47) (w : List S66), side (l.foldl script_normal.take (s, w)).1 3 = side s 3 ++ side l 3 ∧ side (l.foldl script_normal.take (s, w)).1 2 ++ (l.foldl script_normal.take (s, w)).2 = side s 2 ++ w ++ side l 2 ∨ allok l = false := by
  induction l with
  | nil => intro s w; simp [side]
  | cons x t ih =>
    intro s w
    by_cases hx : 1 ≤ x.f0 ∧ x.f0 ≤ 3
    · rw [List.foldl_cons, side_cons, side_cons, allok_cons, decide_eq_true hx, Bool.true_and]
      by_cases hx0 : x.f1 = []
      · rw [take_none hx0, hx0]
        rcases ih s w with h | h
        · left
          rw [h.1, h.2]
          simp
        · exact .inr h
      by_cases a3 : x.f0 = 3
      · rw [take_in a3]
        rcases ih s (w ++ x.f1) with h | h
        · left
          rw [h.1, h.2, a3]
          simp
        · exact .inr h
      by_cases a2 : x.f0 = 2
      · rw [take_out a2]
        rcases ih (script_normal.add s 2 x.f1) w with h | h
        · left
          rw [h.1, h.2, a2, side_add, side_add]
          simp
        · exact .inr h
      · have a1 : x.f0 = 1 := by omega
        rw [take_keep a1 hx0]
        rcases ih (script_normal.add (script_normal.add s 3 w) 1 x.f1) [] with h | h
        · left
          rw [h.1, h.2, a1, side_add, side_add, side_add, side_add]
          simp
        · exact .inr h
    · right
      rw [allok_cons, decide_eq_false hx, Bool.false_and]
theorem p_side3 (l : List S47) (hl : allok l = true) : side (script_normal.p l) 3 = side l 3 := by
  unfold script_normal.p script_normal.all
  rcases fold_sides l [] [] with h | h
  · rw [side_add, h.1]
    simp [side]
  · rw [hl] at h
    cases h
theorem fold_nl (l : List S47) : ∀ (s : List S47) (w : List S66), nl (l.foldl script_normal.take (s, w)).1 + (l.foldl script_normal.take (s, w)).2.length = nl s + w.length + nl l := by
  induction l with
  | nil => intro s w; simp [nl]
  | cons x t ih =>
    intro s w
    rw [List.foldl_cons, nl_cons]
    by_cases hx0 : x.f1 = []
    · rw [take_none hx0, hx0, ih]
      simp
    by_cases a3 : x.f0 = 3
    · rw [take_in a3, ih]
      simp
      omega
    by_cases a1 : x.f0 = 1
    · rw [take_keep a1 hx0, ih, nl_add, nl_add]
      simp
      omega
    · have e : script_normal.take (s, w) x = (script_normal.add s x.f0 x.f1, w) := by
        unfold script_normal.take
        rw [if_neg a3, if_neg (by simp [a1])]
      rw [e, ih, nl_add]
      omega
theorem p_nl (l : List S47) : nl (script_normal.p l) = nl l := by
  unfold script_normal.p script_normal.all
  have := fold_nl l [] []
  rw [nl_add, this]
  simp [nl]
theorem nf_len : ∀ (n : List S47), Nf n → n.length ≤ nl n
  | [], _ => Nat.le_refl _
  | x :: t, h => by
    have := nf_len t h.2.2
    have := List.length_pos_iff.2 h.1.2
    rw [nl_cons, List.length_cons]
    omega
theorem lay_add (s : List S47) (d : Int) (l : List S66) (h : ∀ x ∈ s.getLast?, x.f0 ≠ d) : script_normal.add s d l = jalousieref08_lay.p s d l := by
  unfold jalousieref08_lay.p
  by_cases hl : l = []
  · subst hl
    rw [add_nil]
    rfl
  rw [if_neg (by simpa using hl)]
  rcases snoc_cases s with rfl | ⟨t, y, rfl⟩
  · rw [add_empty d l hl]
    rfl
  · rw [add_ne t y d l hl (h y (by simp))]
theorem lay_nil (s : List S47) (d : Int) : jalousieref08_lay.p s d [] = s := rfl
theorem lay_last (s : List S47) (d : Int) (l : List S66) : ∀ x ∈ (jalousieref08_lay.p s d l).getLast?, (l ≠ [] ∧ x.f0 = d) ∨ (l = [] ∧ x ∈ s.getLast?) := by
  intro x hx
  unfold jalousieref08_lay.p at hx
  by_cases hl : l = []
  · subst hl
    exact .inr ⟨rfl, hx⟩
  · rw [if_neg (by simpa using hl)] at hx
    simp at hx
    exact .inl ⟨hl, by rw [← hx]⟩
theorem lay_more (s : List S47) (d : Int) (l m : List S66) (hl : l ≠ []) : script_normal.add (jalousieref08_lay.p s d l) d m = jalousieref08_lay.p s d (l ++ m) := by
  unfold jalousieref08_lay.p
  by_cases hm : m = []
  · subst hm
    rw [add_nil, List.append_nil]
  rw [if_neg (by simpa using hl), if_neg (by simp [hl])]
  exact add_eq s ⟨d, l⟩ d m hm rfl
/-- What the document's state says of the program's. -/
structure Rel (q : jalousieref08_Normal.Q) (s : List S47) (w : List S66) : Prop where
  hs : s = jalousieref08_lay.p (jalousieref08_lay.p q.out 1 q.keep) 2 q.gone
  hw : w = q.made
  hk : q.out ≠ [] → q.keep ≠ []
  ho : ∀ x ∈ q.out.getLast?, x.f0 = 2 ∨ x.f0 = 3
theorem rel_last {q : jalousieref08_Normal.Q} {s : List S47} {w : List S66} (h : Rel q s w) : ∀ x ∈ s.getLast?, (q.gone ≠ [] ∧ x.f0 = 2) ∨ (q.gone = [] ∧ q.keep ≠ [] ∧ x.f0 = 1) := by
  intro x hx
  rw [h.hs] at hx
  rcases lay_last _ _ _ x hx with h1 | ⟨h1, h2⟩
  · exact .inl h1
  · rcases lay_last _ _ _ x h2 with h3 | ⟨h3, h4⟩
    · exact .inr ⟨h1, h3⟩
    · have : q.out ≠ [] := by
        intro e
        rw [e] at h4
        simp at h4
      exact absurd h3 (h.hk this)
theorem rel_fin {q : jalousieref08_Normal.Q} {s : List S47} {w : List S66} (h : Rel q s w) : script_normal.add s 3 w = jalousieref08_Normal.fin q := by
  unfold jalousieref08_Normal.fin
  rw [lay_add s 3 w (fun x hx => by rcases rel_last h x hx with h1 | h1 <;> omega), h.hs, h.hw]
theorem rel_step {q : jalousieref08_Normal.Q} {s : List S47} {w : List S66} (x : S47) (hx : 1 ≤ x.f0 ∧ x.f0 ≤ 3) (h : Rel q s w) : Rel (jalousieref08_Normal.add (jalousieref08_Normal.pre q x) x) (script_normal.take (s, w) x).1 (script_normal.take (s, w) x).2 := by
  by_cases hx0 : x.f1 = []
  · rw [take_none hx0]
    unfold jalousieref08_Normal.pre
    rw [if_neg (by simp [hx0])]
    unfold jalousieref08_Normal.add
    rw [hx0]
    simp only [List.append_nil]
    repeat' split
    all_goals exact ⟨h.hs, h.hw, h.hk, h.ho⟩
  by_cases a3 : x.f0 = 3
  · rw [take_in a3]
    unfold jalousieref08_Normal.pre
    rw [if_neg (by omega)]
    unfold jalousieref08_Normal.add
    rw [if_neg (by omega), if_neg (by omega), if_pos a3]
    exact ⟨h.hs, by rw [h.hw], h.hk, h.ho⟩
  by_cases a2 : x.f0 = 2
  · rw [take_out a2]
    unfold jalousieref08_Normal.pre
    rw [if_neg (by omega)]
    unfold jalousieref08_Normal.add
    rw [if_neg (by omega), if_pos a2]
    refine ⟨?_, h.hw, h.hk, h.ho⟩
    show script_normal.add s 2 x.f1 = _
    by_cases hg : q.gone = []
    · rw [lay_add s 2 _ (fun y hy => by rcases rel_last h y hy with h1 | h1; exact absurd hg h1.1; omega), h.hs, hg]
      rfl
    · rw [h.hs, lay_more _ _ _ _ hg]
  · have a1 : x.f0 = 1 := by omega
    rw [take_keep a1 hx0]
    unfold jalousieref08_Normal.pre
    by_cases hgm : 0 < q.gone.length + q.made.length
    · rw [if_pos ⟨a1, List.length_pos_iff.2 hx0, hgm⟩]
      unfold jalousieref08_Normal.add
      rw [if_pos a1]
      have hlast : ∀ y ∈ (jalousieref08_Normal.fin q).getLast?, y.f0 = 2 ∨ y.f0 = 3 := by
        intro y hy
        unfold jalousieref08_Normal.fin at hy
        rcases lay_last _ _ _ y hy with h1 | ⟨h1, h2⟩
        · exact .inr h1.2
        · rcases lay_last _ _ _ y h2 with h3 | ⟨h3, h4⟩
          · exact .inl h3.2
          · rw [h1, h3] at hgm
            simp at hgm
      refine ⟨?_, rfl, fun _ => by simpa using hx0, hlast⟩
      show script_normal.add (script_normal.add s 3 w) 1 x.f1 = _
      rw [rel_fin h, lay_add _ 1 _ (fun y hy => by rcases hlast y hy with h1 | h1 <;> omega)]
      rfl
    · rw [if_neg (by omega)]
      unfold jalousieref08_Normal.add
      rw [if_pos a1]
      have hg : q.gone = [] := List.eq_nil_of_length_eq_zero (by omega)
      have hm : q.made = [] := List.eq_nil_of_length_eq_zero (by omega)
      refine ⟨?_, hm.symm, fun _ => by simp [hx0], h.ho⟩
      show script_normal.add (script_normal.add s 3 w) 1 x.f1 = _
      rw [h.hw, hm, add_nil, h.hs, hg, lay_nil, lay_nil]
      show script_normal.add (jalousieref08_lay.p q.out 1 q.keep) 1 x.f1 = jalousieref08_lay.p q.out 1 (q.keep ++ x.f1)
      by_cases hk : q.keep = []
      · have ho : q.out = [] := Classical.byContradiction fun e => h.hk e hk
        rw [hk, ho, lay_nil, List.nil_append, lay_add [] 1 _ (by simp)]
      · exact lay_more _ _ _ _ hk
theorem rel_fold (l : List S47) (hl : allok l = true) : ∀ (q : jalousieref08_Normal.Q) (s : List S47) (w : List S66), Rel q s w → Rel (l.foldl (fun q x => jalousieref08_Normal.add (jalousieref08_Normal.pre q x) x) q) (l.foldl script_normal.take (s, w)).1 (l.foldl script_normal.take (s, w)).2 := by
  induction l with
  | nil => exact fun _ _ _ h => h
  | cons x t ih =>
    intro q s w h
    rw [allok_cons, Bool.and_eq_true] at hl
    rw [List.foldl_cons, List.foldl_cons]
    exact ih hl.2 _ _ _ (rel_step x (of_decide_eq_true hl.1) h)
/-- THE PROGRAM'S NORMAL FORM IS THE DOCUMENT'S. -/
theorem fin_p (l : List S47) (hl : allok l = true) : jalousieref08_Normal.fin (jalousieref08_Normal.all l) = script_normal.p l := by
  unfold script_normal.p script_normal.all jalousieref08_Normal.all
  exact (rel_fin (rel_fold l hl ⟨[], [], [], []⟩ [] [] ⟨rfl, rfl, fun h => absurd rfl h, by simp⟩)).symm
/-- The normal form, and what is wrong. -/
def nrm (s : List S47) : List S47 × Int := if chk s = 0 then (script_normal.p s, 0) else ([], chk s)
theorem nrm_ev (s : List S47) (hf : Fit s) : Ev (fun k => script_Normal.f k s) (nrm s) := by
  unfold script_Normal.f nrm
  refine Ev.bind (chk_ev s hf) ?_
  by_cases h : chk s = 0
  · refine ev_pos h ?_
    rw [if_pos h]
    obtain ⟨h1, h2, h3⟩ := chk_zero.1 h
    exact ev_bind (a := script_normal.p s) (by unfold script_normal.f; rw [if_pos ⟨by omega, by rw [nl_lines]; omega⟩]) (ev_some rfl)
  · refine ev_neg h ?_
    rw [if_neg h]
    exact ev_some rfl
theorem rnrm_ev (s : List S47) (hf : Fit s) : Ev (fun k => jalousieref08_Normal.f k s) (nrm s) := by
  unfold jalousieref08_Normal.f nrm
  refine Ev.bind (rchk_ev s hf) ?_
  by_cases h : chk s = 0
  · refine ev_pos h ?_
    rw [if_pos h]
    obtain ⟨h1, h2, h3⟩ := chk_zero.1 h
    refine ev_pos ⟨by omega, ?_⟩ (ev_some ?_)
    · have : (s.map (fun e => e.f1.length)).sum = nl s := rfl
      omega
    · rw [fin_p s h3]
  · refine ev_neg h ?_
    rw [if_neg h]
    exact ev_some rfl
end Go.Proofs.Ytfnbodjmmkjlcaa.H
namespace Go.Proofs.Ytfnbodjmmkjlcaa.H
open Go.RowKit Go.Proofs.YtfnbodjmmkjlcaaW.PrintWords Go.Proofs.YtfnbodjmmkjlcaaW.PrintLast Go.Proofs.YtfnbodjmmkjlcaaW.PrintMore
set_option linter.unusedVariables false
set_option linter.unusedSimpArgs false
/-- A hunk of edits, by where it begins. -/
def mkH (a0 b0 : Nat) (now : List S47) : S44 := ⟨a0, ((side now 3).length : Int), b0, ((side now 2).length : Int), now⟩
/-- How many lines of each side an edit goes past. -/
def ad3 (x : S47) : Nat := if x.f0 = 3 then 0 else x.f1.length
def ad2 (x : S47) : Nat := if x.f0 = 2 then 0 else x.f1.length
/-- THE HUNKS of what is left of a normal form: the hunk that is open, the lines that stay ahead, and how many lines were gone past. -/
def bld (c : Nat) : List S47 → Nat → Nat → Option (Nat × Nat × List S47) → List S66 → List S44
  | [], _, _, none, _ => []
  | [], _, _, some (a0, b0, now), _ => [mkH a0 b0 now]
  | x :: xs, a, b, none, ah => if x.f0 = 1 then bld c xs (a + ad3 x) (b + ad2 x) none x.f1 else bld c xs (a + ad3 x) (b + ad2 x) (some (a - min c ah.length, b - min c ah.length, hunk_Build.lead c ah ++ [x])) []
  | x :: xs, a, b, some (a0, b0, now), ah =>
    if x.f0 = 1 then (if xs.isEmpty = true ∨ 2 * c < x.f1.length then mkH a0 b0 (now ++ hunk_Build.trail c x.f1) :: bld c xs (a + ad3 x) (b + ad2 x) none x.f1 else bld c xs (a + ad3 x) (b + ad2 x) (some (a0, b0, now ++ [x])) ah)
    else bld c xs (a + ad3 x) (b + ad2 x) (some (a0, b0, now ++ [x])) ah
/-- Without their places. -/
def zer (l : List S44) : List S44 := l.map fun h => ⟨0, h.f1, 0, h.f3, h.f4⟩
def tl1 (l : List S44) : List S44 := match l with
  | [] => []
  | h :: t => h :: zer t
theorem lead_nl (c : Nat) (ah : List S66) : nl (hunk_Build.lead c ah) = min c ah.length := by
  unfold hunk_Build.lead
  split
  · simp [nl]
    omega
  · simp [nl]
    omega
theorem lead_good (c : Nat) (ah : List S66) : ∀ x ∈ hunk_Build.lead c ah, good x := by
  intro x hx
  unfold hunk_Build.lead at hx
  split at hx
  · simp at hx
    subst hx
    refine ⟨.inl rfl, ?_⟩
    intro e
    have := congrArg List.length e
    simp at this
    omega
  · simp at hx
theorem trail_nl (c : Nat) (l : List S66) : nl (hunk_Build.trail c l) = min c l.length := by
  unfold hunk_Build.trail
  split
  · simp [nl]
  · rw [nl_nil]
    omega
theorem trail_good (c : Nat) (l : List S66) : ∀ x ∈ hunk_Build.trail c l, good x := by
  intro x hx
  unfold hunk_Build.trail at hx
  split at hx
  · simp at hx
    subst hx
    refine ⟨.inl rfl, ?_⟩
    intro e
    have h2 : (l.take c).length = 0 := by
      have e' : l.take c = [] := by simpa using e
      rw [e']
      rfl
    rw [List.length_take] at h2
    omega
  · simp at hx
theorem good_len : ∀ (s : List S47), (∀ x ∈ s, good x) → s.length ≤ nl s
  | [], _ => Nat.le_refl _
  | x :: t, h => by
    have := good_len t fun y hy => h y (List.mem_cons_of_mem _ hy)
    have := List.length_pos_iff.2 (h x (by simp)).2
    rw [nl_cons, List.length_cons]
    omega
theorem good_allok : ∀ (s : List S47), (∀ x ∈ s, good x) → allok s = true
  | [], _ => rfl
  | x :: t, h => by
    rw [allok_cons, good_allok t fun y hy => h y (List.mem_cons_of_mem _ hy), decide_eq_true (by have := (h x (by simp)).1; omega)]
    rfl
theorem good_fit (s : List S47) (h : nl s ≤ 1000000) (hg : ∀ x ∈ s, good x) : Fit s := by
  have hl := good_len s hg
  refine ⟨by omega, fun x hx => ?_⟩
  have : x.f1.length ≤ nl s := by
    clear h hg hl
    induction s with
    | nil => cases hx
    | cons y t ih =>
      rw [nl_cons]
      rcases List.mem_cons.1 hx with rfl | hx
      · omega
      · have := ih hx
        omega
  omega
theorem good_chk (s : List S47) (h : nl s ≤ 800) (hg : ∀ x ∈ s, good x) : chk s = 0 := chk_zero.2 ⟨Nat.le_trans (good_len s hg) h, h, good_allok s hg⟩
theorem nf_good : ∀ (n : List S47), Nf n → ∀ x ∈ n, good x
  | [], _, x, hx => by cases hx
  | y :: t, h, x, hx => by
    rcases List.mem_cons.1 hx with rfl | hx
    · exact h.1
    · exact nf_good t h.2.2 x hx
theorem hk_ev (now : List S47) (h : nl now ≤ 800) (hg : ∀ x ∈ now, good x) : Ev (fun k => hunk_Build.hk k now) ⟨0, ((side now 3).length : Int), 0, ((side now 2).length : Int), now⟩ := by
  unfold hunk_Build.hk
  refine Ev.bind (sides_ev now (good_fit now (by omega) hg)) (ev_some ?_)
  unfold sds
  rw [if_pos (good_chk now h hg)]
/-- What the builder's state is. -/
def curSt (out : List S44) (cur : Option (Nat × Nat × List S47)) (ah : List S66) : hunk_Build.St := match cur with
  | none => ⟨out, [], ah⟩
  | some (_, _, now) => ⟨out, now, ah⟩
def curOk (cur : Option (Nat × Nat × List S47)) (ah : List S66) (n : List S47) : Prop := match cur with
  | none => ah.length + nl n ≤ 800
  | some (_, _, now) => now ≠ [] ∧ nl now + nl n ≤ 800 ∧ ∀ x ∈ now, good x
theorem build_ev (c : Nat) : ∀ (n : List S47) (a b : Nat) (cur : Option (Nat × Nat × List S47)) (ah : List S66) (out : List S44), (∀ x ∈ n, good x) → curOk cur ah n → Ev (fun k => (hunk_Build.allp k c n (curSt out cur ah)).bind (hunk_Build.fin k)) (out ++ zer (bld c n a b cur ah))
  | [], a, b, none, ah, out, hg, hc => by
    simp only [hunk_Build.allp, Option.bind_some]
    unfold hunk_Build.fin curSt
    refine ev_neg (by simp) (ev_some ?_)
    simp [bld, zer]
  | [], a, b, some (a0, b0, now), ah, out, hg, hc => by
    obtain ⟨h0, h1, h2⟩ := hc
    simp only [hunk_Build.allp, Option.bind_some]
    unfold hunk_Build.fin curSt
    refine ev_pos (List.length_pos_iff.2 h0) ?_
    refine Ev.bind (hk_ev now (by rw [nl_nil] at h1; omega) h2) (ev_some ?_)
    simp [bld, zer, mkH]
  | x :: xs, a, b, none, ah, out, hg, hc => by
    have hc' : ah.length + nl (x :: xs) ≤ 800 := hc
    rw [nl_cons] at hc'
    have hgx := hg x (by simp)
    have hgs : ∀ y ∈ xs, good y := fun y hy => hg y (List.mem_cons_of_mem _ hy)
    simp only [hunk_Build.allp, Option.bind_assoc, bld]
    unfold hunk_Build.takep curSt
    by_cases h1 : x.f0 = 1
    · simp only [if_pos h1]
      simp only [List.length_nil, if_true, Option.bind_some]
      exact build_ev c xs _ _ none x.f1 out hgs (by show _ ≤ _; omega)
    · simp only [if_neg h1]
      simp only [List.length_nil, if_true, Option.bind_some, List.nil_append]
      refine build_ev c xs _ _ (some (a - min c ah.length, b - min c ah.length, hunk_Build.lead c ah ++ [x])) [] out hgs ⟨by simp, ?_, ?_⟩
      · rw [nl_append, lead_nl, nl_cons, nl_nil]
        omega
      · intro y hy
        rcases List.mem_append.1 hy with hy | hy
        · exact lead_good c ah y hy
        · simp at hy
          subst hy
          exact hgx
  | x :: xs, a, b, some (a0, b0, now), ah, out, hg, hc => by
    obtain ⟨h0, h1', h2⟩ := hc
    rw [nl_cons] at h1'
    have hgx := hg x (by simp)
    have hgs : ∀ y ∈ xs, good y := fun y hy => hg y (List.mem_cons_of_mem _ hy)
    have h0' : ¬ now.length = 0 := fun e => h0 (List.eq_nil_of_length_eq_zero e)
    have hgx' : ∀ y ∈ now ++ [x], good y := by
      intro y hy
      rcases List.mem_append.1 hy with hy | hy
      · exact h2 y hy
      · simp at hy
        subst hy
        exact hgx
    have hnx : nl (now ++ [x]) + nl xs ≤ 800 := by
      rw [nl_append, nl_cons, nl_nil]
      omega
    simp only [hunk_Build.allp, Option.bind_assoc, bld]
    unfold hunk_Build.takep curSt
    simp only
    by_cases h1 : x.f0 = 1
    · simp only [if_pos h1, if_neg h0']
      by_cases hl : xs.isEmpty = true ∨ 2 * c < x.f1.length
      · simp only [if_pos hl]
        simp only [Option.bind_assoc]
        have htg : ∀ y ∈ now ++ hunk_Build.trail c x.f1, good y := by
          intro y hy
          rcases List.mem_append.1 hy with hy | hy
          · exact h2 y hy
          · exact trail_good c _ y hy
        refine Ev.bind (hk_ev (now ++ hunk_Build.trail c x.f1) (by rw [nl_append, trail_nl]; omega) htg) ?_
        simp only [Option.bind_some]
        refine ev_cast (build_ev c xs (a + ad3 x) (b + ad2 x) none x.f1 _ hgs (by show _ ≤ _; omega)) ?_
        simp [zer, mkH]
      · simp only [if_neg hl]
        simp only [Option.bind_some]
        exact build_ev c xs _ _ (some (a0, b0, now ++ [x])) ah out hgs ⟨by simp, hnx, hgx'⟩
    · simp only [if_neg h1, if_neg h0']
      simp only [Option.bind_some]
      exact build_ev c xs _ _ (some (a0, b0, now ++ [x])) ah out hgs ⟨by simp, hnx, hgx'⟩
/-- The hunk that is open comes first. -/
theorem bld_head (c : Nat) : ∀ (n : List S47) (a b a0 b0 : Nat) (now : List S47) (ah : List S66), ∃ t rest, bld c n a b (some (a0, b0, now)) ah = mkH a0 b0 (now ++ t) :: rest
  | [], a, b, a0, b0, now, ah => ⟨[], [], by simp [bld]⟩
  | x :: xs, a, b, a0, b0, now, ah => by
    simp only [bld]
    split
    · split
      · exact ⟨_, _, rfl⟩
      · obtain ⟨t, r, e⟩ := bld_head c xs (a + ad3 x) (b + ad2 x) a0 b0 (now ++ [x]) ah
        exact ⟨[x] ++ t, r, by rw [e, List.append_assoc]⟩
    · obtain ⟨t, r, e⟩ := bld_head c xs (a + ad3 x) (b + ad2 x) a0 b0 (now ++ [x]) ah
      exact ⟨[x] ++ t, r, by rw [e, List.append_assoc]⟩
theorem ld_head (c : Nat) (ah : List S66) (x : S47) (h1 : x.f0 ≠ 1) (t : List S47) : ∃ e r, hunk_Build.lead c ah ++ [x] ++ t = e :: r ∧ hunk_place.ld e = min c ah.length := by
  unfold hunk_Build.lead
  by_cases h : 0 < min c ah.length
  · rw [if_pos h]
    refine ⟨_, _, rfl, ?_⟩
    unfold hunk_place.ld
    rw [if_pos rfl]
    simp
    omega
  · rw [if_neg h]
    refine ⟨_, _, rfl, ?_⟩
    unfold hunk_place.ld
    rw [if_neg h1]
    omega
def fresh (cur : Option (Nat × Nat × List S47)) : Bool := cur.isNone
def cut0 (cur : Option (Nat × Nat × List S47)) (l : List S44) : List S44 := match cur with
  | none => zer l
  | some _ => tl1 l
def nth (cur : Option (Nat × Nat × List S47)) (i : Nat) : Nat := match cur with
  | none => i
  | some _ => i + 1
theorem place_ev (c : Nat) : ∀ (n : List S47) (k a b : Nat) (cur : Option (Nat × Nat × List S47)) (ah : List S66) (pre : List S44), (∀ x ∈ n, good x) → (cur = none → ah.length ≤ a ∧ ah.length ≤ b) → (cur ≠ none → 0 < k) →
    ∃ q, hunk_place.p c n k ⟨a, b, nth cur pre.length, fresh cur, pre ++ cut0 cur (bld c n a b cur ah)⟩ = some q ∧ q.l = pre ++ bld c n a b cur ah
  | [], k, a, b, none, ah, pre, hg, h1, h2 => ⟨_, rfl, by simp [bld, cut0, zer]⟩
  | [], k, a, b, some (a0, b0, now), ah, pre, hg, h1, h2 => ⟨_, rfl, by simp [bld, cut0, tl1, zer]⟩
  | x :: xs, k, a, b, none, ah, pre, hg, h1, h2 => by
    have hgx := hg x (by simp)
    have hgs : ∀ y ∈ xs, good y := fun y hy => hg y (List.mem_cons_of_mem _ hy)
    obtain ⟨ha, hb⟩ := h1 rfl
    simp only [hunk_place.p]
    unfold hunk_place.step
    by_cases e1 : x.f0 = 1
    · rw [if_pos e1]
      simp only [Option.bind_some, bld]
      rw [if_pos e1]
      have hfr : (if 0 < k ∧ 2 * c < x.f1.length then true else fresh none) = fresh none := by
        split <;> rfl
      rw [hfr]
      have e3 : ad3 x = x.f1.length := by unfold ad3; rw [if_neg (by omega)]
      have e2 : ad2 x = x.f1.length := by unfold ad2; rw [if_neg (by omega)]
      rw [e3, e2]
      exact place_ev c xs (k + 1) _ _ none x.f1 pre hgs (fun _ => ⟨by omega, by omega⟩) (fun h => absurd rfl h)
    · rw [if_neg e1, if_pos (by have := hgx.1; omega)]
      simp only [bld]
      rw [if_neg e1, if_pos (show fresh none = true from rfl)]
      obtain ⟨t, r, e⟩ := bld_head c xs (a + ad3 x) (b + ad2 x) (a - min c ah.length) (b - min c ah.length) (hunk_Build.lead c ah ++ [x]) []
      obtain ⟨y, s, ey, el⟩ := ld_head c ah x e1 t
      have hset : hunk_place.setp ⟨a, b, nth none pre.length, fresh none, pre ++ cut0 none (bld c xs (a + ad3 x) (b + ad2 x) (some (a - min c ah.length, b - min c ah.length, hunk_Build.lead c ah ++ [x])) [])⟩ = some (pre ++ cut0 (some (a - min c ah.length, b - min c ah.length, hunk_Build.lead c ah ++ [x])) (bld c xs (a + ad3 x) (b + ad2 x) (some (a - min c ah.length, b - min c ah.length, hunk_Build.lead c ah ++ [x])) [])) := by
        rw [e]
        unfold hunk_place.setp cut0 nth zer tl1 zer
        simp only [List.map_cons]
        have hg : (pre ++ (⟨0, (mkH (a - min c ah.length) (b - min c ah.length) (hunk_Build.lead c ah ++ [x] ++ t)).f1, 0, (mkH (a - min c ah.length) (b - min c ah.length) (hunk_Build.lead c ah ++ [x] ++ t)).f3, (mkH (a - min c ah.length) (b - min c ah.length) (hunk_Build.lead c ah ++ [x] ++ t)).f4⟩ :: List.map (fun h => (⟨0, h.f1, 0, h.f3, h.f4⟩ : S44)) r)).getD pre.length z44 = ⟨0, ((side (hunk_Build.lead c ah ++ [x] ++ t) 3).length : Int), 0, ((side (hunk_Build.lead c ah ++ [x] ++ t) 2).length : Int), hunk_Build.lead c ah ++ [x] ++ t⟩ := by
          rw [List.getD_eq_getElem?_getD, List.getElem?_append_right (Nat.le_refl _), Nat.sub_self]
          rfl
        rw [if_pos (by simp), hg]
        simp only
        split
        · rename_i e0
          rw [ey] at e0
          cases e0
        · rename_i z0 zs e0
          rw [ey] at e0
          injection e0 with e1' e2'
          subst e1'
          rw [el]
          congr 1
          rw [List.set_append_right _ _ (Nat.le_refl _), Nat.sub_self, List.set_cons_zero]
          congr 2
          unfold mkH
          congr 1 <;> omega
      rw [hset]
      simp only [Option.bind_some]
      have ex3 : (if x.f0 = 2 then a + x.f1.length else a) = a + ad3 x := by
        unfold ad3
        have := hgx.1
        split <;> split <;> omega
      have ex2 : (if x.f0 = 2 then b else b + x.f1.length) = b + ad2 x := by
        unfold ad2
        split <;> omega
      rw [ex3, ex2]
      exact place_ev c xs (k + 1) _ _ (some (a - min c ah.length, b - min c ah.length, hunk_Build.lead c ah ++ [x])) [] pre hgs (fun h => by cases h) (fun _ => by omega)
  | x :: xs, k, a, b, some (a0, b0, now), ah, pre, hg, h1, h2 => by
    have hgx := hg x (by simp)
    have hgs : ∀ y ∈ xs, good y := fun y hy => hg y (List.mem_cons_of_mem _ hy)
    have hk := h2 (by simp)
    simp only [hunk_place.p]
    unfold hunk_place.step
    by_cases e1 : x.f0 = 1
    · rw [if_pos e1]
      simp only [Option.bind_some, bld]
      rw [if_pos e1]
      have e3 : ad3 x = x.f1.length := by unfold ad3; rw [if_neg (by omega)]
      have e2 : ad2 x = x.f1.length := by unfold ad2; rw [if_neg (by omega)]
      rw [e3, e2]
      by_cases hl : xs.isEmpty = true ∨ 2 * c < x.f1.length
      · rw [if_pos hl]
        by_cases hl2 : 2 * c < x.f1.length
        · rw [if_pos ⟨hk, hl2⟩]
          obtain ⟨q, h3, h4⟩ := place_ev c xs (k + 1) (a + x.f1.length) (b + x.f1.length) none x.f1 (pre ++ [mkH a0 b0 (now ++ hunk_Build.trail c x.f1)]) hgs (fun _ => ⟨by omega, by omega⟩) (fun h => absurd rfl h)
          refine ⟨q, ?_, by rw [h4]; simp⟩
          rw [← h3]
          simp [nth, fresh, cut0, tl1]
        · have hxs : xs = [] := by simpa using hl.resolve_right hl2
          subst hxs
          exact ⟨_, rfl, by simp [bld, cut0, tl1, zer]⟩
      · rw [if_neg hl, if_neg (fun h => hl (.inr h.2))]
        exact place_ev c xs (k + 1) _ _ (some (a0, b0, now ++ [x])) ah pre hgs (fun h => by cases h) (fun _ => by omega)
    · rw [if_neg e1, if_pos (by have := hgx.1; omega)]
      simp only [bld]
      rw [if_neg e1, if_neg (by simp [fresh])]
      simp only [Option.bind_some]
      have ex3 : (if x.f0 = 2 then a + x.f1.length else a) = a + ad3 x := by
        unfold ad3
        have := hgx.1
        split <;> split <;> omega
      have ex2 : (if x.f0 = 2 then b else b + x.f1.length) = b + ad2 x := by
        unfold ad2
        split <;> omega
      rw [ex3, ex2]
      exact place_ev c xs (k + 1) _ _ (some (a0, b0, now ++ [x])) ah pre hgs (fun h => by cases h) (fun _ => by omega)
/-- The hunks of a normal form. -/
def hnk (c : Nat) (n : List S47) : List S44 := bld c n 0 0 none []
theorem run_ev (c : Nat) (n : List S47) (hn : nl n ≤ 800) (hg : ∀ x ∈ n, good x) : Ev (fun k => hunk_Build.run k c n) (hnk c n) := by
  unfold hunk_Build.run
  have hl := good_len n hg
  refine ev_pos ⟨by omega, by rw [nl_lines]; omega⟩ ?_
  have h1 : Ev (fun k => (hunk_Build.allp k c n ⟨[], [], []⟩).bind (hunk_Build.fin k)) (zer (bld c n 0 0 none [])) := build_ev c n 0 0 none [] [] hg (by show _ ≤ _; simp; exact hn)
  obtain ⟨q, h2, h3⟩ := place_ev c n 0 0 0 none [] [] hg (fun _ => ⟨Nat.le_refl _, Nat.le_refl _⟩) (fun h => absurd rfl h)
  have h4 : Ev (fun k => ((hunk_Build.allp k c n ⟨[], [], []⟩).bind (hunk_Build.fin k)).bind fun o => (hunk_place.p c n 0 ⟨0, 0, 0, true, o⟩).bind fun q => some q.l) (hnk c n) := by
    refine Ev.bind h1 ?_
    refine ev_bind h2 (ev_some ?_)
    rw [h3]
    rfl
  refine ev_as h4 ?_
  funext k
  rw [Option.bind_assoc]
/-- What Build tells. -/
def hres (s : List S47) (c : Int) : List S44 × Int := if chk s = 0 then (if c < 0 ∨ 20 < c then ([], 2) else (hnk c.toNat (script_normal.p s), 0)) else ([], chk s)
theorem bld_ev (s : List S47) (c : Int) (hf : Fit s) : Ev (fun k => hunk_Build.f k s c) (hres s c) := by
  unfold hunk_Build.f hres
  refine Ev.bind (nrm_ev s hf) ?_
  unfold nrm
  by_cases h : chk s = 0
  · rw [if_pos h, if_pos h]
    refine ev_pos rfl ?_
    by_cases hc : c < 0 ∨ 20 < c
    · refine ev_pos hc (ev_some ?_)
      rw [if_pos hc]
    · refine ev_neg hc ?_
      rw [if_neg hc]
      obtain ⟨h1, h2, h3⟩ := chk_zero.1 h
      exact Ev.bind (run_ev _ _ (by rw [p_nl]; exact h2) (nf_good _ (p_nf s h3))) (ev_some rfl)
  · rw [if_neg h, if_neg h]
    exact ev_neg h (ev_some rfl)
theorem bld_len (c : Nat) : ∀ (n : List S47) (a b : Nat) (cur : Option (Nat × Nat × List S47)) (ah : List S66), (bld c n a b cur ah).length ≤ n.length + (if cur.isSome = true then 1 else 0)
  | [], a, b, none, ah => by simp [bld]
  | [], a, b, some (a0, b0, now), ah => by simp [bld]
  | x :: xs, a, b, none, ah => by
    simp only [bld]
    split
    · have := bld_len c xs (a + ad3 x) (b + ad2 x) none x.f1
      simp at this ⊢
      omega
    · have := bld_len c xs (a + ad3 x) (b + ad2 x) (some (a - min c ah.length, b - min c ah.length, hunk_Build.lead c ah ++ [x])) []
      simp at this ⊢
      omega
  | x :: xs, a, b, some (a0, b0, now), ah => by
    have h1 := bld_len c xs (a + ad3 x) (b + ad2 x) none x.f1
    have h2 := bld_len c xs (a + ad3 x) (b + ad2 x) (some (a0, b0, now ++ [x])) ah
    simp only [bld]
    split
    · split
      · simp at h1 ⊢
        omega
      · simp at h2 ⊢
        omega
    · simp at h2 ⊢
      omega
theorem hnk_len (c : Nat) (n : List S47) : (hnk c n).length ≤ n.length := by
  have := bld_len c n 0 0 none []
  unfold hnk
  simpa using this
end Go.Proofs.Ytfnbodjmmkjlcaa.H
namespace Go.Proofs.Ytfnbodjmmkjlcaa.H
open Go.RowKit Go.Proofs.YtfnbodjmmkjlcaaW.PrintWords Go.Proofs.YtfnbodjmmkjlcaaW.PrintLast Go.Proofs.YtfnbodjmmkjlcaaW.PrintMore
set_option linter.unusedVariables false
set_option linter.unusedSimpArgs false
def lns (d : Int) (ls : List S66) : List S47 := ls.map fun l => ⟨d, [l]⟩
def mkR (a0 b0 : Nat) (now : List S47) : S44 := ⟨a0, ((side now 3).length : Int), b0, ((side now 2).length : Int), single now⟩
theorem side_one (now : List S47) (d : Int) (ls : List S66) (b : Int) : (side (now ++ [⟨d, ls⟩]) b).length = (side now b).length + (if d = b then 0 else ls.length) := by
  rw [side_append, side_cons]
  simp only [List.length_append]
  split <;> simp [side]
theorem single_one (now : List S47) (d : Int) (ls : List S66) : single (now ++ [⟨d, ls⟩]) = single now ++ lns d ls := by
  rw [single_append]
  simp [single, one, lns]
theorem mkR_nil (a0 b0 : Nat) (now : List S47) (d : Int) : mkR a0 b0 (now ++ [⟨d, []⟩]) = mkR a0 b0 now := by
  unfold mkR
  rw [side_one, side_one, single_one]
  simp [lns]
theorem mkR_trail (c a0 b0 : Nat) (now : List S47) (l : List S66) : mkR a0 b0 (now ++ [⟨1, l.take (min c l.length)⟩]) = mkR a0 b0 (now ++ hunk_Build.trail c l) := by
  unfold hunk_Build.trail
  by_cases h : 0 < min c l.length
  · rw [if_pos h]
  · rw [if_neg h, show min c l.length = 0 by omega, List.take_zero, mkR_nil, List.append_nil]
theorem lead_side (c : Nat) (ah : List S66) (b : Int) (hb : b ≠ 1) : (side (hunk_Build.lead c ah) b).length = min c ah.length := by
  unfold hunk_Build.lead
  split
  · rw [side_cons, if_neg (fun e => hb e.symm)]
    simp [side]
    omega
  · simp [side]
    omega
theorem nf_same (s t : List S47) (x y : S47) (h : Nf (s ++ x :: t)) (hf : y.f0 = x.f0) (hy : y.f1 ≠ []) : Nf (s ++ y :: t) := by
  obtain ⟨h1, h2, h3⟩ := (nf_append _ _).1 h
  refine (nf_append _ _).2 ⟨h1, ⟨⟨by rw [hf]; exact h2.1.1, hy⟩, by rw [hf]; exact h2.2.1, h2.2.2⟩, fun z hz w hw => ?_⟩
  simp at hw
  subst hw
  rw [hf]
  exact h3 z hz x (by simp)
theorem nf_left (s t : List S47) (h : Nf (s ++ t)) : Nf s := ((nf_append _ _).1 h).1
theorem nf_trail (c : Nat) (now t : List S47) (x : S47) (h : Nf (now ++ x :: t)) (hx : x.f0 = 1) : Nf (now ++ hunk_Build.trail c x.f1) := by
  unfold hunk_Build.trail
  by_cases h0 : 0 < min c x.f1.length
  · rw [if_pos h0]
    refine nf_left _ t ?_
    rw [List.append_assoc]
    refine nf_same now t x _ h hx.symm ?_
    intro e
    have h2 : (x.f1.take c).length = 0 := by
      have e' : x.f1.take c = [] := by simpa using e
      rw [e']
      rfl
    rw [List.length_take] at h2
    omega
  · rw [if_neg h0, List.append_nil]
    exact nf_left _ _ h
theorem nf_lead (c : Nat) (t : List S47) (x : S47) (h : Nf (x :: t)) (hx : x.f0 = 1) : Nf (hunk_Build.lead c x.f1 ++ t) := by
  unfold hunk_Build.lead
  by_cases h0 : 0 < min c x.f1.length
  · rw [if_pos h0]
    refine nf_same [] t x _ h hx.symm ?_
    intro e
    have := congrArg List.length e
    rw [List.length_drop, List.length_nil] at this
    omega
  · rw [if_neg h0]
    exact h.2.2
theorem bld_nf (c : Nat) : ∀ (n : List S47) (a b : Nat) (cur : Option (Nat × Nat × List S47)) (ah : List S66), (match cur with | none => Nf (hunk_Build.lead c ah ++ n) ∧ ah.length + nl n ≤ 800 | some (_, _, now) => Nf (now ++ n) ∧ nl now + nl n ≤ 800) → Nf n → ∀ h ∈ bld c n a b cur ah, Nf h.f4 ∧ nl h.f4 ≤ 800
  | [], a, b, none, ah, hc, hn, h, hh => by simp [bld] at hh
  | [], a, b, some (a0, b0, now), ah, hc, hn, h, hh => by
    simp [bld] at hh
    subst hh
    have h1 : Nf (now ++ []) := hc.1
    have h2 : nl now + nl [] ≤ 800 := hc.2
    rw [List.append_nil] at h1
    exact ⟨h1, h2⟩
  | x :: xs, a, b, none, ah, hc, hn, h, hh => by
    obtain ⟨h1, h2⟩ := hc
    rw [nl_cons] at h2
    simp only [bld] at hh
    by_cases e1 : x.f0 = 1
    · rw [if_pos e1] at hh
      exact bld_nf c xs _ _ none x.f1 ⟨nf_lead c xs x hn e1, by omega⟩ hn.2.2 h hh
    · rw [if_neg e1] at hh
      refine bld_nf c xs _ _ (some (a - min c ah.length, b - min c ah.length, hunk_Build.lead c ah ++ [x])) [] ⟨?_, ?_⟩ hn.2.2 h hh
      · simpa using h1
      · rw [nl_append, lead_nl, nl_cons, nl_nil]
        omega
  | x :: xs, a, b, some (a0, b0, now), ah, hc, hn, h, hh => by
    obtain ⟨h1, h2⟩ := hc
    rw [nl_cons] at h2
    have hstep : Nf (now ++ [x] ++ xs) ∧ nl (now ++ [x]) + nl xs ≤ 800 := ⟨by simpa using h1, by rw [nl_append, nl_cons, nl_nil]; omega⟩
    simp only [bld] at hh
    by_cases e1 : x.f0 = 1
    · rw [if_pos e1] at hh
      split at hh
      · rcases List.mem_cons.1 hh with rfl | hh
        · exact ⟨nf_trail c now xs x h1 e1, by show nl (now ++ hunk_Build.trail c x.f1) ≤ _; rw [nl_append, trail_nl]; omega⟩
        · exact bld_nf c xs _ _ none x.f1 ⟨nf_lead c xs x hn e1, by omega⟩ hn.2.2 h hh
      · exact bld_nf c xs _ _ _ _ hstep hn.2.2 h hh
    · rw [if_neg e1] at hh
      exact bld_nf c xs _ _ _ _ hstep hn.2.2 h hh
theorem hnk_nf (c : Nat) (n : List S47) (hn : Nf n) (hl : nl n ≤ 800) : ∀ h ∈ hnk c n, Nf h.f4 ∧ nl h.f4 ≤ 800 := by
  refine bld_nf c n 0 0 none [] ⟨?_, by simpa using hl⟩ hn
  unfold hunk_Build.lead
  rw [if_neg (by simp)]
  exact hn
end Go.Proofs.Ytfnbodjmmkjlcaa.H
namespace Go.Proofs.Ytfnbodjmmkjlcaa.H
open Go.RowKit Go.Proofs.YtfnbodjmmkjlcaaW.PrintWords Go.Proofs.YtfnbodjmmkjlcaaW.PrintLast Go.Proofs.YtfnbodjmmkjlcaaW.PrintMore
set_option linter.unusedVariables false
set_option linter.unusedSimpArgs false
theorem live_ev : Ev (fun k => jalousielaw09_live.f k) true := by
  refine Ev.of (fun k => jalousielaw09_live.mono k) (k := 40) ?_
  decide +kernel
theorem few_l0 (s : List S47) (hf : Fit s) : ∀ (d i n : Nat), i + d = s.length → n ≤ 200 * i → ∃ r : Bool, Ev (fun k => jalousielaw09_few.l0 k s (n : Int) (i : Int)) r ∧ (r = true → s.length ≤ 120 ∧ (i ≤ 130 → n + nl (s.drop i) ≤ 120))
  | 0, i, n, h, hn => by
    have := hf.1
    by_cases h1 : n ≤ 120
    · refine ⟨decide ((s.length : Int) ≤ 120), ev_succ ?_, fun hr => ?_⟩
      · simp only [jalousielaw09_few.l0]
        (repeat (first | refine ev_pos (by omega) ?_ | refine ev_neg (by omega) ?_))
        exact ev_some rfl
      · have := of_decide_eq_true hr
        rw [List.drop_of_length_le (by omega), nl_nil]
        omega
    · refine ⟨false, ev_succ ?_, fun hr => by cases hr⟩
      simp only [jalousielaw09_few.l0]
      (repeat (first | refine ev_pos (by omega) ?_ | refine ev_neg (by omega) ?_))
      exact ev_some rfl
  | d + 1, i, n, h, hn => by
    have h0 := hf.1
    have hx := hf.2 _ (getD_mem (l := s) (i := i) (by omega) z47)
    by_cases hi : i < 130
    · obtain ⟨r, hr, hr2⟩ := few_l0 s hf d (i + 1) (n + min (s.getD i z47).f1.length 200) (by omega) (by omega)
      refine ⟨r, ev_succ ?_, fun e => ?_⟩
      · simp only [jalousielaw09_few.l0, rdE]
        have hm : wrap64 ((n : Int) + mn (((s.getD i z47).f1.length : Nat) : Int) 200) = ((n + min (s.getD i z47).f1.length 200 : Nat) : Int) := by
          unfold mn wrap64
          split <;> omega
        rw [w64s i (by omega), hm]
        (repeat (first | refine ev_pos (by omega) ?_ | refine ev_neg (by omega) ?_))
        exact hr
      · obtain ⟨h1, h2⟩ := hr2 e
        refine ⟨h1, fun _ => ?_⟩
        have h3 := h2 (by omega)
        rw [drop_cons s i (by omega) z47, nl_cons]
        omega
    · by_cases h1 : n ≤ 120
      · refine ⟨decide ((s.length : Int) ≤ 120), ev_succ ?_, fun hr => ?_⟩
        · simp only [jalousielaw09_few.l0]
          (repeat (first | refine ev_pos (by omega) ?_ | refine ev_neg (by omega) ?_))
          exact ev_some rfl
        · have := of_decide_eq_true hr
          omega
      · refine ⟨false, ev_succ ?_, fun hr => by cases hr⟩
        simp only [jalousielaw09_few.l0]
        (repeat (first | refine ev_pos (by omega) ?_ | refine ev_neg (by omega) ?_))
        exact ev_some rfl
theorem few_ev (s : List S47) (hf : Fit s) : ∃ r : Bool, Ev (fun k => jalousielaw09_few.f k s) r ∧ (r = true → s.length ≤ 120 ∧ nl s ≤ 120) := by
  obtain ⟨r, h1, h2⟩ := few_l0 s hf s.length 0 0 (by omega) (by omega)
  refine ⟨r, h1, fun e => ?_⟩
  obtain ⟨h3, h4⟩ := h2 e
  have := h4 (by omega)
  rw [List.drop_zero] at this
  exact ⟨h3, by omega⟩
theorem fit_of (s : List S47) (h : s.length * 32 ≤ 140737488351232 ∧ ∀ y_ ∈ s, sz47 y_) : Fit s := by
  refine ⟨by omega, fun x hx => ?_⟩
  have := (h.2 x hx).2.1
  omega
theorem hres_fit (s : List S47) (c : Int) : FitH (hres s c).1 := by
  unfold hres
  split
  · split
    · exact ⟨by simp, by simp⟩
    · rename_i h _
      obtain ⟨h1, h2, h3⟩ := chk_zero.1 h
      have hn := p_nf s h3
      have hl : nl (script_normal.p s) ≤ 800 := by rw [p_nl]; exact h2
      refine ⟨?_, fun x hx => ?_⟩
      · have h4 := hnk_len c.toNat (script_normal.p s)
        have := nf_len _ hn
        simp only
        omega
      · obtain ⟨h4, h5⟩ := hnk_nf _ _ hn hl x hx
        exact good_fit _ (by omega) (nf_good _ h4)
  · exact ⟨by simp, by simp⟩
end Go.Proofs.Ytfnbodjmmkjlcaa.H
namespace Go.Proofs.Ytfnbodjmmkjlcaa.H
open Go.RowKit Go.Proofs.YtfnbodjmmkjlcaaW.PrintWords Go.Proofs.YtfnbodjmmkjlcaaW.PrintLast Go.Proofs.YtfnbodjmmkjlcaaW.PrintMore
set_option linter.unusedVariables false
set_option linter.unusedSimpArgs false
/-- Is a hunk right, but for where it stands? -/
def rightB (h : S44) : Bool := decide (chk h.f4 = 0) && decide (script_normal.p h.f4 = h.f4) && decide (0 < chg h.f4) && decide (((side h.f4 3).length : Int) = h.f1) && decide (((side h.f4 2).length : Int) = h.f3) && decide (h.f1 ≤ 400) && decide (h.f3 ≤ 400)
theorem right_iff (h : S44) : rightB h = true ↔ chk h.f4 = 0 ∧ script_normal.p h.f4 = h.f4 ∧ 0 < chg h.f4 ∧ ((side h.f4 3).length : Int) = h.f1 ∧ ((side h.f4 2).length : Int) = h.f3 ∧ h.f1 ≤ 400 ∧ h.f3 ≤ 400 := by
  unfold rightB
  simp only [Bool.and_eq_true, decide_eq_true_eq, and_assoc]
/-- Where it stands, behind what came ahead. -/
def posB (a b : Int) (h : S44) : Bool := decide (0 ≤ h.f0 ∧ h.f0 ≤ 400) && decide (0 ≤ h.f2 ∧ h.f2 ≤ 400) && decide (a ≤ h.f0) && decide (h.f0 - a = h.f2 - b)
theorem pos_iff (a b : Int) (h : S44) : posB a b h = true ↔ (0 ≤ h.f0 ∧ h.f0 ≤ 400) ∧ (0 ≤ h.f2 ∧ h.f2 ≤ 400) ∧ a ≤ h.f0 ∧ h.f0 - a = h.f2 - b := by
  unfold posB
  simp only [Bool.and_eq_true, decide_eq_true_eq, and_assoc]
theorem far_pos (a b : Int) (h : S44) : hunk_Check.far a b h.f0 h.f2 = !posB a b h := rfl
def chkA : List S44 → Int → Int → Int
  | [], _, _ => 0
  | h :: t, a, b => if (rightB h && posB a b h) = true then chkA t (h.f0 + h.f1) (h.f2 + h.f3) else 3
def anyLim (l : List S44) : Bool := l.any fun h => decide (chk h.f4 = 4)
/-- What is wrong with hunks. -/
def chkH (l : List S44) : Int := if 400 < l.length then 4 else if anyLim l = true then 4 else chkA l 0 0
theorem within_ev (n : Int) : hunk_within.f n = some (decide (0 ≤ n ∧ n ≤ 400)) := hunk_Check.within_eq n
theorem right_ev (h : S44) (hf : Fit h.f4) : Ev (fun k => hunk_right.f k h.f0 h.f1 h.f2 h.f3 h.f4) (rightB h) := by
  unfold hunk_right.f
  refine Ev.bind (nrm_ev _ hf) (Ev.bind (sides_ev _ hf) ?_)
  unfold nrm sds
  by_cases hc : chk h.f4 = 0
  · rw [if_pos hc, if_pos hc]
    obtain ⟨h1, h2, h3⟩ := chk_zero.1 hc
    have hn : nl (script_normal.p h.f4) = nl h.f4 := p_nl _
    have hlen := nf_len _ (p_nf h.f4 h3)
    have hfp : Fit (script_normal.p h.f4) := ⟨by omega, fun x hx => by
      have hx2 : x.f1.length ≤ nl (script_normal.p h.f4) := by
        generalize script_normal.p h.f4 = s at hx
        induction s with
        | nil => cases hx
        | cons y t ih =>
          rw [nl_cons]
          rcases List.mem_cons.1 hx with rfl | hx
          · omega
          · have := ih hx
            omega
      omega⟩
    refine ev_pos rfl (Ev.bind (eeq_ev _ _ hfp) ?_)
    by_cases e1 : script_normal.p h.f4 = h.f4
    · refine ev_pos (decide_eq_true e1) (Ev.bind (chg_ev (script_normal.p h.f4) (by omega) (by omega)) ?_)
      rw [e1]
      by_cases e2 : 0 < chg h.f4
      · refine ev_pos (by omega) ?_
        by_cases e3 : ((side h.f4 3).length : Int) = h.f1
        · refine ev_pos e3 ?_
          by_cases e4 : ((side h.f4 2).length : Int) = h.f3
          · refine ev_pos e4 (ev_bind (within_ev _) ?_)
            by_cases e5 : h.f1 ≤ 400
            · refine ev_pos (decide_eq_true ⟨by omega, e5⟩) (ev_bind (within_ev _) (ev_some ?_))
              unfold rightB
              rw [decide_eq_true hc, decide_eq_true e1, decide_eq_true e2, decide_eq_true e3, decide_eq_true e4, decide_eq_true e5]
              by_cases e6 : h.f3 ≤ 400
              · rw [decide_eq_true e6, decide_eq_true ⟨by omega, e6⟩]
                rfl
              · rw [decide_eq_false e6, decide_eq_false (by omega)]
                rfl
            · refine ev_neg (by simp; omega) (ev_some ?_)
              unfold rightB
              rw [decide_eq_false e5]
              simp
          · refine ev_neg e4 (ev_some ?_)
            unfold rightB
            rw [decide_eq_false e4]
            simp
        · refine ev_neg e3 (ev_some ?_)
          unfold rightB
          rw [decide_eq_false e3]
          simp
      · refine ev_neg (by omega) (ev_some ?_)
        unfold rightB
        rw [decide_eq_false e2]
        simp
    · refine ev_neg (by rw [decide_eq_false e1]; simp) (ev_some ?_)
      unfold rightB
      rw [decide_eq_false e1]
      simp
  · rw [if_neg hc, if_neg hc]
    refine ev_neg hc (ev_some ?_)
    unfold rightB
    rw [decide_eq_false hc]
    simp
theorem fitH_cons {h : S44} {t : List S44} (hf : FitH (h :: t)) : FitH t := ⟨Nat.le_trans (Nat.le_succ _) hf.1, fun x hx => hf.2 x (List.mem_cons_of_mem _ hx)⟩
theorem has_ev : ∀ (l : List S44), FitH l → Ev (fun k => hunk_Check.has k l) (anyLim l)
  | [], _ => ev_some rfl
  | h :: t, hf => by
    simp only [hunk_Check.has]
    refine Ev.bind (chk_ev _ (hf.2 h (by simp))) ?_
    by_cases e : chk h.f4 = 4
    · refine ev_pos e (ev_some ?_)
      simp [anyLim, e]
    · refine ev_neg e (ev_cast (has_ev t (fitH_cons hf)) ?_)
      simp [anyLim, e]
theorem all_ev : ∀ (l : List S44) (a b : Int), FitH l → 0 ≤ a → a ≤ 800 → 0 ≤ b → b ≤ 800 → Ev (fun k => hunk_Check.all k l a b) (chkA l a b)
  | [], _, _, _, _, _, _, _ => ev_some rfl
  | h :: t, a, b, hf, h1, h2, h3, h4 => by
    simp only [hunk_Check.all, chkA]
    refine ev_pos ⟨h1, h2, h3, h4⟩ (Ev.bind (right_ev h (hf.2 h (by simp))) ?_)
    by_cases e : rightB h = true
    · refine ev_neg (by rw [e]; simp) ?_
      rw [far_pos]
      by_cases e2 : posB a b h = true
      · obtain ⟨_, _, _, h5, h6, h7, h8⟩ := (right_iff h).1 e
        obtain ⟨h9, h10, _⟩ := (pos_iff a b h).1 e2
        refine ev_neg (by rw [e2]; simp) (ev_pos (by omega) ?_)
        refine ev_cast (all_ev t _ _ (fitH_cons hf) (by omega) (by omega) (by omega) (by omega)) ?_
        rw [if_pos (by rw [e, e2]; rfl)]
      · refine ev_pos (by simp [e2]) (ev_some ?_)
        rw [if_neg (by simp [e2])]
    · refine ev_pos (by simpa using e) (ev_some ?_)
      rw [if_neg (by simp [e])]
theorem hcheck_ev (l : List S44) (hf : FitH l) : Ev (fun k => hunk_Check.f k l) (chkH l) := by
  unfold hunk_Check.f chkH
  by_cases h : 400 < l.length
  · exact ev_pos h (ev_some (by rw [if_pos h]))
  · refine ev_neg h (Ev.bind (has_ev l hf) ?_)
    rw [if_neg h]
    by_cases e : anyLim l = true
    · exact ev_pos e (ev_some (by rw [if_pos e]))
    · refine ev_neg e ?_
      rw [if_neg e]
      exact all_ev l 0 0 hf (by omega) (by omega) (by omega) (by omega)
/-- All that is asked of a hunk. -/
def okH (a b : Int) (h : S44) : Prop := (chk h.f4 = 0 ∧ script_normal.p h.f4 = h.f4 ∧ 0 < chg h.f4 ∧ ((side h.f4 3).length : Int) = h.f1 ∧ ((side h.f4 2).length : Int) = h.f3 ∧ h.f1 ≤ 400 ∧ h.f3 ≤ 400) ∧ (0 ≤ h.f0 ∧ h.f0 ≤ 400) ∧ (0 ≤ h.f2 ∧ h.f2 ≤ 400) ∧ a ≤ h.f0 ∧ h.f0 - a = h.f2 - b
theorem okH_iff (a b : Int) (h : S44) : (rightB h && posB a b h) = true ↔ okH a b h := by
  rw [Bool.and_eq_true, right_iff, pos_iff]
  rfl
theorem chkA_ok {a b : Int} {h : S44} {t : List S44} (hn : okH a b h) : chkA t (h.f0 + h.f1) (h.f2 + h.f3) = chkA (h :: t) a b := by
  rw [chkA, if_pos ((okH_iff a b h).2 hn)]
end Go.Proofs.Ytfnbodjmmkjlcaa.H
namespace Go.Proofs.Ytfnbodjmmkjlcaa.H
open Go.RowKit Go.Proofs.YtfnbodjmmkjlcaaW.PrintWords Go.Proofs.YtfnbodjmmkjlcaaW.PrintLast Go.Proofs.YtfnbodjmmkjlcaaW.PrintMore
set_option linter.unusedVariables false
set_option linter.unusedSimpArgs false
/-- The edits of a whole text, before they are a normal form; none: the hunks do not fit. -/
def whl (A : List S66) : List S44 → Nat → List S47 → Option (List S47)
  | [], x, out => some (out ++ [⟨1, A.drop x⟩])
  | h :: t, x, out => if h.f0 + h.f1 ≤ (A.length : Int) ∧ side h.f4 3 = (A.take (h.f0 + h.f1).toNat).drop h.f0.toNat then whl A t (h.f0 + h.f1).toNat (out ++ [⟨1, (A.take h.f0.toNat).drop x⟩] ++ h.f4) else none
def whlR (o : Option (List S47)) : List S47 × Int := match o with
  | none => ([], 8)
  | some e => nrm e
/-- What Whole tells. -/
def whole (l : List S44) (A : List S66) : List S47 × Int := if chkH l = 0 then (if 400 < A.length then ([], 4) else whlR (whl A l 0 [])) else ([], chkH l)
theorem chk_elem (s : List S47) (h : nl s ≤ 800) : ∀ x ∈ s, x.f1.length ≤ 800 := by
  induction s with
  | nil => intro x hx; cases hx
  | cons y t ih =>
    intro x hx
    rw [nl_cons] at h
    rcases List.mem_cons.1 hx with rfl | hx
    · omega
    · exact ih (by omega) x hx
theorem whole_l (A : List S66) (l : List S44) (hA : A.length ≤ 400) (hf : FitH l) (hl : l.length ≤ 400) : ∀ (d i : Nat) (a b : Int) (out : List S47), i + d = l.length → chkA (l.drop i) a b = 0 → 0 ≤ a → a ≤ A.length → out.length + 802 * d ≤ 400000 → (∀ x ∈ out, x.f1.length ≤ 800) →
    Ev (fun k => hunk_Whole.l0 k A out a l (l.length : Int) (i : Int)) (whlR (whl A (l.drop i) a.toNat out))
  | 0, i, a, b, out, h, hc, ha, hb, ho, hx => by
    refine ev_succ ?_
    simp only [hunk_Whole.l0]
    (repeat (first | refine ev_pos (by omega) ?_ | refine ev_neg (by omega) ?_))
    rw [List.drop_of_length_le (l := l) (i := i) (by omega)]
    simp only [whl, whlR]
    refine ev_cast (Ev.bind (nrm_ev _ ⟨by simp; omega, ?_⟩) (ev_some rfl)) rfl
    intro x hxm
    rcases List.mem_append.1 hxm with hxm | hxm
    · have := hx x hxm
      omega
    · simp at hxm
      subst hxm
      simp
      omega
  | d + 1, i, a, b, out, h, hc, ha, hb, ho, hx => by
    have hm := hf.2 _ (getD_mem (l := l) (i := i) (by omega) z44)
    rw [drop_cons l i (by omega) z44] at hc ⊢
    refine ev_succ ?_
    simp only [hunk_Whole.l0, rdH, whl]
    (repeat (first | refine ev_pos (by omega) ?_ | refine ev_neg (by omega) ?_))
    generalize l.getD i z44 = x at hm hc ⊢
    have hok : okH a b x := by
      rw [← okH_iff]
      refine Classical.byContradiction fun e => ?_
      rw [chkA, if_neg e] at hc
      cases hc
    rw [← chkA_ok hok] at hc
    obtain ⟨⟨o1, o2, o3, o4, o5, o6, o7⟩, ⟨o8, o9⟩, ⟨o10, o11⟩, o12, o13⟩ := hok
    obtain ⟨c1, c2, c3⟩ := chk_zero.1 o1
    refine Ev.bind (sides_ev _ hm) ?_
    unfold sds
    rw [if_pos o1]
    simp only
    rw [w64i (x.f0 + x.f1) (by omega) (by omega)]
    by_cases e1 : x.f0 + x.f1 > (A.length : Int)
    · refine ev_pos e1 (ev_some ?_)
      rw [if_neg (by omega)]
      rfl
    · refine ev_neg e1 ?_
      refine ev_pos o8 (ev_pos (by omega) (ev_pos (by omega) ?_))
      refine Ev.bind (leq_ev _ _ (by omega)) ?_
      by_cases e2 : side x.f4 3 = (A.take (x.f0 + x.f1).toNat).drop x.f0.toNat
      · refine ev_pos (decide_eq_true e2) ?_
        rw [if_pos ⟨by omega, e2⟩]
        refine ev_pos ha (ev_pos o12 (ev_pos (by omega) (ev_pos (by omega) ?_)))
        simp only [Option.bind_some]
        refine ev_pos (by simp; omega) ?_
        rw [w64s i (by omega)]
        refine ev_cast (whole_l A l hA hf hl d (i + 1) (x.f0 + x.f1) (x.f2 + x.f3) _ (by omega) hc (by omega) (by omega) (by simp; omega) ?_) rfl
        intro y hy
        rcases List.mem_append.1 hy with hy | hy
        · rcases List.mem_append.1 hy with hy | hy
          · exact hx y hy
          · simp at hy
            subst hy
            simp
            omega
        · exact chk_elem _ c2 y hy
      · refine ev_neg (by rw [decide_eq_false e2]; simp) (ev_some ?_)
        rw [if_neg (fun h => e2 h.2)]
        rfl
theorem whole_ev (l : List S44) (A : List S66) (hf : FitH l) : Ev (fun k => hunk_Whole.f k l A) (whole l A) := by
  unfold hunk_Whole.f whole
  refine Ev.bind (hcheck_ev l hf) ?_
  by_cases hc : chkH l = 0
  · refine ev_pos hc ?_
    rw [if_pos hc]
    by_cases hA : 400 < A.length
    · refine ev_pos (by omega) (ev_some ?_)
      rw [if_pos hA]
    · refine ev_neg (by omega) ?_
      rw [if_neg hA]
      unfold chkH at hc
      by_cases h1 : 400 < l.length
      · rw [if_pos h1] at hc
        cases hc
      rw [if_neg h1] at hc
      by_cases h2 : anyLim l = true
      · rw [if_pos h2] at hc
        cases hc
      rw [if_neg h2] at hc
      have := whole_l A l (by omega) hf (by omega) l.length 0 0 0 [] (by omega) (by rw [List.drop_zero]; exact hc) (by omega) (by omega) (by simp; omega) (by simp)
      rw [List.drop_zero] at this
      exact this
  · refine ev_neg hc (ev_some ?_)
    rw [if_neg hc]
end Go.Proofs.Ytfnbodjmmkjlcaa.H
namespace Go.Proofs.Ytfnbodjmmkjlcaa.H
open Go.RowKit Go.Proofs.YtfnbodjmmkjlcaaW.PrintWords Go.Proofs.YtfnbodjmmkjlcaaW.PrintLast Go.Proofs.YtfnbodjmmkjlcaaW.PrintMore
set_option linter.unusedVariables false
set_option linter.unusedSimpArgs false
theorem side_le (s : List S47) (b : Int) : (side s b).length ≤ nl s := side_len s b
theorem chg_good {x : S47} (h : good x) (h1 : x.f0 ≠ 1) : 0 < chg [x] := by
  have := List.length_pos_iff.2 h.2
  rw [chg_cons, if_pos (by have := h.1; omega)]
  omega
theorem nl_sides (s : List S47) : nl s ≤ (side s 3).length + (side s 2).length := by
  induction s with
  | nil => simp [nl]
  | cons x t ih =>
    rw [nl_cons, side_cons, side_cons, List.length_append, List.length_append]
    by_cases h3 : x.f0 = 3
    · rw [if_pos h3, if_neg (by omega)]
      simp
      omega
    · rw [if_neg h3]
      omega
/-- A hunk of a normal form that changes something is right. -/
theorem mk_right (a0 b0 : Nat) (now : List S47) (hn : Nf now) (h3 : (side now 3).length ≤ 400) (h2 : (side now 2).length ≤ 400) (hc : 0 < chg now) : rightB (mkH a0 b0 now) = true := by
  rw [right_iff]
  have h := nl_sides now
  exact ⟨good_chk now (by omega) (nf_good _ hn), p_id _ hn, hc, rfl, rfl, by show ((side now 3).length : Int) ≤ 400; omega, by show ((side now 2).length : Int) ≤ 400; omega⟩
/-- What is known where the rest is n: x and y are where the last hunk ended. -/
def bOk (c : Nat) (n : List S47) (a b : Nat) (cur : Option (Nat × Nat × List S47)) (ah : List S66) (x y : Nat) : Prop := match cur with
  | none => Nf (hunk_Build.lead c ah ++ n) ∧ (n ≠ [] → x + min c ah.length ≤ a ∧ y + min c ah.length ≤ b ∧ (a : Int) - x = b - y) ∧ ah.length ≤ a ∧ ah.length ≤ b ∧ (∀ z ∈ n.head?, z.f0 = 1 → a = 0 ∧ b = 0 ∧ x = 0 ∧ y = 0 ∧ ah = [])
  | some (a0, b0, now) => Nf (now ++ n) ∧ 0 < chg now ∧ a = a0 + (side now 3).length ∧ b = b0 + (side now 2).length ∧ x ≤ a0 ∧ y ≤ b0 ∧ (a0 : Int) - x = b0 - y
theorem ad_sum (x : S47) : ad3 x + nl [] ≤ x.f1.length ∧ ad2 x ≤ x.f1.length := by
  unfold ad3 ad2
  rw [nl_nil]
  constructor <;> split <;> omega
theorem side_now (now : List S47) (x : S47) : (side (now ++ [x]) 3).length = (side now 3).length + ad3 x ∧ (side (now ++ [x]) 2).length = (side now 2).length + ad2 x := ⟨side_one now x.f0 x.f1 3, side_one now x.f0 x.f1 2⟩
theorem trail_side (c : Nat) (l : List S66) (b : Int) (hb : b ≠ 1) : (side (hunk_Build.trail c l) b).length = min c l.length := by
  unfold hunk_Build.trail
  split
  · rw [side_cons, if_neg (fun e => hb e.symm)]
    simp [side]
  · simp [side]
    omega
theorem bld_chk (c : Nat) : ∀ (n : List S47) (a b : Nat) (cur : Option (Nat × Nat × List S47)) (ah : List S66) (x y : Nat), Nf n → bOk c n a b cur ah x y → a + nl n ≤ 400 → b + nl n ≤ 400 → chkA (bld c n a b cur ah) x y = 0
  | [], a, b, none, ah, x, y, hn, hk, ha, hb => rfl
  | [], a, b, some (a0, b0, now), ah, x, y, hn, hk, ha, hb => by
    obtain ⟨h1, h2, h3, h4, h5, h6, h7⟩ := hk
    rw [List.append_nil] at h1
    simp only [bld]
    rw [chkA, if_pos]
    · rfl
    · rw [mk_right a0 b0 now h1 (by omega) (by omega) h2, Bool.true_and, pos_iff]
      simp only [mkH]
      omega
  | z :: xs, a, b, none, ah, x, y, hn, hk, ha, hb => by
    obtain ⟨h1, h2, h3, h4, h5⟩ := hk
    obtain ⟨h6, h7, h8⟩ := h2 (by simp)
    rw [nl_cons] at ha hb
    simp only [bld]
    have had := ad_sum z
    by_cases e1 : z.f0 = 1
    · rw [if_pos e1]
      obtain ⟨rfl, rfl, rfl, rfl, rfl⟩ := h5 z (by simp) e1
      have e3 : ad3 z = z.f1.length := by unfold ad3; rw [if_neg (by omega)]
      have e2 : ad2 z = z.f1.length := by unfold ad2; rw [if_neg (by omega)]
      rw [e3, e2]
      refine bld_chk c xs _ _ none z.f1 0 0 hn.2.2 ⟨nf_lead c xs z hn e1, fun _ => ⟨by omega, by omega, by omega⟩, by omega, by omega, fun w hw hw1 => ?_⟩ (by omega) (by omega)
      have := hn.2.1 w hw
      simp [adj, e1, hw1] at this
    · rw [if_neg e1]
      have hs := side_now (hunk_Build.lead c ah) z
      have hs3 := lead_side c ah 3 (by omega)
      have hs2 := lead_side c ah 2 (by omega)
      refine bld_chk c xs _ _ (some (a - min c ah.length, b - min c ah.length, hunk_Build.lead c ah ++ [z])) [] x y hn.2.2 ⟨by simpa using h1, ?_, by rw [hs.1, hs3]; omega, by rw [hs.2, hs2]; omega, by omega, by omega, by omega⟩ (by omega) (by omega)
      rw [chg_append]
      have := chg_good hn.1 e1
      omega
  | z :: xs, a, b, some (a0, b0, now), ah, x, y, hn, hk, ha, hb => by
    obtain ⟨h1, h2, h3, h4, h5, h6, h7⟩ := hk
    rw [nl_cons] at ha hb
    simp only [bld]
    have had := ad_sum z
    have hgo : chkA (bld c xs (a + ad3 z) (b + ad2 z) (some (a0, b0, now ++ [z])) ah) x y = 0 := by
      have hs := side_now now z
      refine bld_chk c xs _ _ (some (a0, b0, now ++ [z])) ah x y hn.2.2 ⟨by simpa using h1, by rw [chg_append]; omega, by rw [hs.1]; omega, by rw [hs.2]; omega, h5, h6, h7⟩ (by omega) (by omega)
    by_cases e1 : z.f0 = 1
    · rw [if_pos e1]
      have e3 : ad3 z = z.f1.length := by unfold ad3; rw [if_neg (by omega)]
      have e2 : ad2 z = z.f1.length := by unfold ad2; rw [if_neg (by omega)]
      by_cases hl : xs.isEmpty = true ∨ 2 * c < z.f1.length
      · rw [if_pos hl]
        have ht3 := trail_side c z.f1 3 (by omega)
        have ht2 := trail_side c z.f1 2 (by omega)
        have hl3 : (side (now ++ hunk_Build.trail c z.f1) 3).length = (side now 3).length + min c z.f1.length := by rw [side_append, List.length_append, ht3]
        have hl2 : (side (now ++ hunk_Build.trail c z.f1) 2).length = (side now 2).length + min c z.f1.length := by rw [side_append, List.length_append, ht2]
        rw [chkA, if_pos]
        · have f1 : (mkH a0 b0 (now ++ hunk_Build.trail c z.f1)).f0 + (mkH a0 b0 (now ++ hunk_Build.trail c z.f1)).f1 = ((a + min c z.f1.length : Nat) : Int) := by
            simp only [mkH]
            omega
          have f2 : (mkH a0 b0 (now ++ hunk_Build.trail c z.f1)).f2 + (mkH a0 b0 (now ++ hunk_Build.trail c z.f1)).f3 = ((b + min c z.f1.length : Nat) : Int) := by
            simp only [mkH]
            omega
          rw [f1, f2, e3, e2]
          refine bld_chk c xs _ _ none z.f1 _ _ hn.2.2 ⟨nf_lead c xs z hn e1, fun hxs => ?_, by omega, by omega, fun w hw hw1 => ?_⟩ (by omega) (by omega)
          · have : 2 * c < z.f1.length := hl.resolve_left (by simpa using hxs)
            exact ⟨by omega, by omega, by omega⟩
          · have := hn.2.1 w hw
            simp [adj, e1, hw1] at this
        · rw [mk_right a0 b0 _ (nf_trail c now xs z h1 e1) (by omega) (by omega) (by rw [chg_append]; omega), Bool.true_and, pos_iff]
          simp only [mkH]
          omega
      · rw [if_neg hl]
        exact hgo
    · rw [if_neg e1]
      exact hgo
theorem hnk_ok (c : Nat) (n : List S47) (hn : Nf n) : bOk c n 0 0 none [] 0 0 := by
  refine ⟨?_, fun _ => ⟨by simp, by simp, rfl⟩, by simp, by simp, fun _ _ _ => ⟨rfl, rfl, rfl, rfl, rfl⟩⟩
  unfold hunk_Build.lead
  rw [if_neg (by simp)]
  exact hn
theorem hnk_lim (c : Nat) (n : List S47) (hn : Nf n) (hl : nl n ≤ 400) : anyLim (hnk c n) = false := by
  unfold anyLim
  rw [Bool.eq_false_iff]
  intro h
  rw [List.any_eq_true] at h
  obtain ⟨x, hx, h⟩ := h
  obtain ⟨h1, h2⟩ := hnk_nf c n hn (by omega) x hx
  have := of_decide_eq_true h
  rw [good_chk _ h2 (nf_good _ h1)] at this
  cases this
/-- HUNKS THAT ARE BUILT ARE RIGHT. -/
theorem hnk_chk (c : Nat) (n : List S47) (hn : Nf n) (hl : nl n ≤ 400) : chkH (hnk c n) = 0 := by
  unfold chkH
  have h1 := bld_len c n 0 0 none []
  have h2 := nf_len n hn
  rw [if_neg (by show ¬ 400 < (bld c n 0 0 none []).length; simp at h1; omega), hnk_lim c n hn hl, if_neg (by simp)]
  exact bld_chk c n 0 0 none [] 0 0 hn (hnk_ok c n hn) (by omega) (by omega)
def sl (A : List S66) (i j : Nat) : List S66 := (A.take j).drop i
theorem sl_split (A : List S66) (i j k : Nat) (h1 : i ≤ j) (h2 : j ≤ k) (h3 : k ≤ A.length) : sl A i k = sl A i j ++ sl A j k := by
  unfold sl
  have e : A.take k = A.take j ++ (A.take k).drop j := by
    have := (List.take_append_drop j (A.take k)).symm
    rw [List.take_take, Nat.min_eq_left h2] at this
    exact this
  conv => lhs; rw [e]
  rw [List.drop_append_of_le_length (by rw [List.length_take]; omega)]
theorem sl_mid (s t u : List S66) : sl (s ++ t ++ u) s.length (s.length + t.length) = t := by
  unfold sl
  have e : (s ++ t ++ u).take (s.length + t.length) = s ++ t := by
    rw [← List.length_append, List.take_left]
  rw [e, List.drop_left]
theorem sl_end (A : List S66) (i : Nat) : sl A i A.length = A.drop i := by
  unfold sl
  rw [List.take_length]
theorem lns_append (d : Int) (s t : List S66) : lns d (s ++ t) = lns d s ++ lns d t := by simp [lns]
theorem single_lead (c : Nat) (ah : List S66) : single (hunk_Build.lead c ah) = lns 1 (ah.drop (ah.length - min c ah.length)) := by
  unfold hunk_Build.lead
  by_cases h : 0 < min c ah.length
  · rw [if_pos h]
    simp [single, one, lns]
  · rw [if_neg h, List.drop_of_length_le (by omega)]
    rfl
theorem single_trail (c : Nat) (l : List S66) : single (hunk_Build.trail c l) = lns 1 (l.take (min c l.length)) := by
  unfold hunk_Build.trail
  by_cases h : 0 < min c l.length
  · rw [if_pos h]
    simp [single, one, lns]
  · rw [if_neg h, show min c l.length = 0 by omega, List.take_zero]
    rfl
theorem side3_lead (c : Nat) (ah : List S66) : side (hunk_Build.lead c ah) 3 = ah.drop (ah.length - min c ah.length) := by
  unfold hunk_Build.lead
  by_cases h : 0 < min c ah.length
  · rw [if_pos h]
    simp [side]
  · rw [if_neg h, List.drop_of_length_le (by omega)]
    rfl
theorem side3_trail (c : Nat) (l : List S66) : side (hunk_Build.trail c l) 3 = l.take (min c l.length) := by
  unfold hunk_Build.trail
  by_cases h : 0 < min c l.length
  · rw [if_pos h]
    simp [side]
  · rw [if_neg h, show min c l.length = 0 by omega, List.take_zero]
    rfl
/-- Where the whole script stands. -/
def wOk (c : Nat) (A : List S66) (n pre : List S47) (a : Nat) (cur : Option (Nat × Nat × List S47)) (ah : List S66) (x : Nat) (out : List S47) : Prop := match cur with
  | none => single (out ++ [⟨1, sl A x a⟩]) = single pre ∧ x ≤ a ∧ (n ≠ [] → x + min c ah.length ≤ a) ∧ ∃ s, side pre 3 = s ++ ah
  | some (a0, _, now) => single (out ++ [⟨1, sl A x a0⟩] ++ now) = single pre ∧ x ≤ a0 ∧ (∀ y ∈ now, good y) ∧ now ≠ [] ∧ ∃ s, side pre 3 = s ++ side now 3 ∧ s.length = a0
theorem out_more (out now : List S47) (ls : List S66) (h1 : out.length ≤ 2 * nl out) (h2 : allok out = true) (h3 : ∀ y ∈ now, good y) (h4 : now ≠ []) : (out ++ [(⟨1, ls⟩ : S47)] ++ now).length ≤ 2 * nl (out ++ [(⟨1, ls⟩ : S47)] ++ now) ∧ allok (out ++ [(⟨1, ls⟩ : S47)] ++ now) = true := by
  have h5 := good_len now h3
  have h6 := List.length_pos_iff.2 h4
  constructor
  · simp only [List.length_append, List.length_singleton, nl_append, nl_cons, nl_nil]
    omega
  · have h7 := good_allok now h3
    unfold allok at h2 h7 ⊢
    rw [List.all_append, List.all_append, h2, h7]
    simp
theorem bld_whl (c : Nat) (A : List S66) (N : List S47) (hA : A = side N 3) : ∀ (n pre : List S47) (a b : Nat) (cur : Option (Nat × Nat × List S47)) (ah : List S66) (x : Nat) (out : List S47), N = pre ++ n → (∀ y ∈ n, good y) → a = (side pre 3).length → wOk c A n pre a cur ah x out → out.length ≤ 2 * nl out → allok out = true →
    ∃ e, whl A (bld c n a b cur ah) x out = some e ∧ single e = single N ∧ e.length ≤ 2 * nl e + 1 ∧ allok e = true
  | [], pre, a, b, none, ah, x, out, hN, hg, ha, hw, ho, hok => by
    obtain ⟨h1, h2, _, h3⟩ := hw
    rw [List.append_nil] at hN
    subst hN
    refine ⟨out ++ [⟨1, A.drop x⟩], rfl, ?_, ?_, ?_⟩
    · rw [← h1, ha, ← hA, sl_end]
    · simp only [List.length_append, List.length_singleton, nl_append]
      omega
    · unfold allok at hok ⊢
      rw [List.all_append, hok]
      simp
  | [], pre, a, b, some (a0, b0, now), ah, x, out, hN, hg, ha, hw, ho, hok => by
    obtain ⟨h1, h2, h3, h4, s, h5, h6⟩ := hw
    rw [List.append_nil] at hN
    subst hN
    obtain ⟨h7, h8⟩ := out_more out now (sl A x a0) ho hok h3 h4
    have hlen : A.length = a0 + (side now 3).length := by rw [hA, h5, List.length_append, h6]
    refine ⟨out ++ [⟨1, sl A x a0⟩] ++ now ++ [⟨1, A.drop A.length⟩], ?_, ?_, ?_, ?_⟩
    · simp only [bld, whl, mkH]
      have e1 : (((a0 : Int) + ((side now 3).length : Int))).toNat = A.length := by omega
      rw [if_pos, e1, Int.toNat_natCast]
      · rfl
      · refine ⟨by omega, ?_⟩
        rw [e1, Int.toNat_natCast, List.take_length, hA, h5, ← h6, List.drop_left]
    · rw [single_append, h1, List.drop_length]
      simp [single, one]
    · rw [List.length_append, nl_append]
      simp only [List.length_singleton]
      omega
    · unfold allok at h8 ⊢
      rw [List.all_append, h8]
      simp
  | z :: xs, pre, a, b, none, ah, x, out, hN, hg, ha, hw, ho, hok => by
    obtain ⟨h1, h2, h2k, s, h3⟩ := hw
    have hgz := hg z (by simp)
    have hgs : ∀ y ∈ xs, good y := fun y hy => hg y (List.mem_cons_of_mem _ hy)
    have hN' : N = (pre ++ [z]) ++ xs := by simp [hN]
    have hs1 : side (pre ++ [z]) 3 = side pre 3 ++ (if z.f0 = 3 then [] else z.f1) := by rw [side_append, side_cons]; simp [side]
    have hAe : A = side pre 3 ++ (if z.f0 = 3 then [] else z.f1) ++ side xs 3 := by rw [hA, hN, side_append, side_cons, List.append_assoc]
    have hadl : (if z.f0 = 3 then ([] : List S66) else z.f1).length = ad3 z := by unfold ad3; split <;> rfl
    have ha' : a + ad3 z = (side (pre ++ [z]) 3).length := by rw [hs1, List.length_append, hadl, ha]
    have hAl : a + ad3 z ≤ A.length := by rw [hAe, List.length_append, List.length_append, hadl, ha]; omega
    have hsl : sl A a (a + ad3 z) = (if z.f0 = 3 then [] else z.f1) := by
      rw [hAe, ha, ← hadl]
      exact sl_mid _ _ _
    simp only [bld]
    by_cases e1 : z.f0 = 1
    · rw [if_pos e1]
      rw [if_neg (by omega)] at hsl hs1
      refine bld_whl c A N hA xs (pre ++ [z]) _ _ none z.f1 x out hN' hgs ha' ⟨?_, by omega, fun _ => by unfold ad3; rw [if_neg (by omega)]; omega, side pre 3, hs1⟩ ho hok
      rw [sl_split A x a (a + ad3 z) h2 (by omega) hAl, hsl, single_one, lns_append, ← List.append_assoc, ← single_one, h1, single_append]
      simp [single, one, lns, e1]
    · rw [if_neg e1]
      have hal : a = s.length + ah.length := by rw [ha, h3, List.length_append]
      have hxk := h2k (by simp)
      have htl : (ah.take (ah.length - min c ah.length)).length = ah.length - min c ah.length := by rw [List.length_take]; omega
      have hdl : (ah.drop (ah.length - min c ah.length)).length = min c ah.length := by rw [List.length_drop]; omega
      have hsplit : ah = ah.take (ah.length - min c ah.length) ++ ah.drop (ah.length - min c ah.length) := (List.take_append_drop _ _).symm
      have hlast : sl A (a - min c ah.length) a = ah.drop (ah.length - min c ah.length) := by
        have hm := sl_mid (s ++ ah.take (ah.length - min c ah.length)) (ah.drop (ah.length - min c ah.length)) ((if z.f0 = 3 then [] else z.f1) ++ side xs 3)
        have eA : s ++ ah.take (ah.length - min c ah.length) ++ ah.drop (ah.length - min c ah.length) ++ ((if z.f0 = 3 then [] else z.f1) ++ side xs 3) = A := by
          rw [hAe, h3, List.append_assoc s, ← hsplit, List.append_assoc (s ++ ah)]
        rw [eA, List.length_append, htl, hdl] at hm
        rw [show a - min c ah.length = s.length + (ah.length - min c ah.length) by omega]
        rw [show s.length + (ah.length - min c ah.length) + min c ah.length = a by omega] at hm
        exact hm
      refine bld_whl c A N hA xs (pre ++ [z]) _ _ (some (a - min c ah.length, b - min c ah.length, hunk_Build.lead c ah ++ [z])) [] x out hN' hgs ha' ⟨?_, by omega, ?_, by simp, s ++ ah.take (ah.length - min c ah.length), ?_, ?_⟩ ho hok
      · rw [sl_split A x (a - min c ah.length) a (by omega) (by omega) (by omega), hlast, single_one, lns_append] at h1
        rw [← List.append_assoc, single_append, single_append, single_lead, single_one, List.append_assoc (single out), h1, single_append]
      · intro y hy
        rcases List.mem_append.1 hy with hy | hy
        · exact lead_good c ah y hy
        · simp at hy
          subst hy
          exact hgz
      · rw [hs1, h3, side_append, side3_lead, side_cons]
        have e0 : side [] 3 = ([] : List S66) := rfl
        rw [e0, List.append_nil]
        simp only [List.append_assoc]
        rw [← List.append_assoc (ah.take (ah.length - min c ah.length)), ← hsplit]
      · rw [List.length_append, htl]
        omega
  | z :: xs, pre, a, b, some (a0, b0, now), ah, x, out, hN, hg, ha, hw, ho, hok => by
    obtain ⟨h1, h2, h3, h4, s, h5, h6⟩ := hw
    have hgz := hg z (by simp)
    have hgs : ∀ y ∈ xs, good y := fun y hy => hg y (List.mem_cons_of_mem _ hy)
    have hN' : N = (pre ++ [z]) ++ xs := by simp [hN]
    have hs1 : side (pre ++ [z]) 3 = side pre 3 ++ (if z.f0 = 3 then [] else z.f1) := by rw [side_append, side_cons]; simp [side]
    have hAe : A = side pre 3 ++ (if z.f0 = 3 then [] else z.f1) ++ side xs 3 := by rw [hA, hN, side_append, side_cons, List.append_assoc]
    have hadl : (if z.f0 = 3 then ([] : List S66) else z.f1).length = ad3 z := by unfold ad3; split <;> rfl
    have ha' : a + ad3 z = (side (pre ++ [z]) 3).length := by rw [hs1, List.length_append, hadl, ha]
    have hAl : a + ad3 z ≤ A.length := by rw [hAe, List.length_append, List.length_append, hadl, ha]; omega
    have hal : a = a0 + (side now 3).length := by rw [ha, h5, List.length_append, h6]
    have hgo : ∃ e, whl A (bld c xs (a + ad3 z) (b + ad2 z) (some (a0, b0, now ++ [z])) ah) x out = some e ∧ single e = single N ∧ e.length ≤ 2 * nl e + 1 ∧ allok e = true := by
      refine bld_whl c A N hA xs (pre ++ [z]) _ _ (some (a0, b0, now ++ [z])) ah x out hN' hgs ha' ⟨?_, h2, ?_, by simp, s, ?_, h6⟩ ho hok
      · rw [← List.append_assoc, single_append, h1, single_append]
      · intro y hy
        rcases List.mem_append.1 hy with hy | hy
        · exact h3 y hy
        · simp at hy
          subst hy
          exact hgz
      · rw [hs1, h5, side_append, side_cons]
        simp [side]
    simp only [bld]
    by_cases e1 : z.f0 = 1
    · rw [if_pos e1]
      by_cases hl : xs.isEmpty = true ∨ 2 * c < z.f1.length
      · rw [if_pos hl]
        have e3 : ad3 z = z.f1.length := by unfold ad3; rw [if_neg (by omega)]
        rw [if_neg (by omega)] at hs1 hAe
        rw [e3] at ha' hAl ⊢
        have hut : (z.f1.take (min c z.f1.length)).length = min c z.f1.length := by rw [List.length_take]; omega
        have hud : (z.f1.drop (min c z.f1.length)).length = z.f1.length - min c z.f1.length := by rw [List.length_drop]
        have hsp : z.f1 = z.f1.take (min c z.f1.length) ++ z.f1.drop (min c z.f1.length) := (List.take_append_drop _ _).symm
        have hn3 : side (now ++ hunk_Build.trail c z.f1) 3 = side now 3 ++ z.f1.take (min c z.f1.length) := by rw [side_append, side3_trail]
        have hn3l : (side (now ++ hunk_Build.trail c z.f1) 3).length = (side now 3).length + min c z.f1.length := by rw [hn3, List.length_append, hut]
        have hg' : ∀ y ∈ now ++ hunk_Build.trail c z.f1, good y := by
          intro y hy
          rcases List.mem_append.1 hy with hy | hy
          · exact h3 y hy
          · exact trail_good c _ y hy
        obtain ⟨h7, h8⟩ := out_more out (now ++ hunk_Build.trail c z.f1) (sl A x a0) ho hok hg' (by simp [h4])
        have hcut : sl A a0 (a + min c z.f1.length) = side (now ++ hunk_Build.trail c z.f1) 3 := by
          have hm := sl_mid s (side (now ++ hunk_Build.trail c z.f1) 3) (z.f1.drop (min c z.f1.length) ++ side xs 3)
          have eA : s ++ side (now ++ hunk_Build.trail c z.f1) 3 ++ (z.f1.drop (min c z.f1.length) ++ side xs 3) = A := by
            rw [hAe, h5, hn3]
            conv => rhs; rw [hsp]
            simp only [List.append_assoc]
          rw [eA, hn3l, h6, show a0 + ((side now 3).length + min c z.f1.length) = a + min c z.f1.length by omega] at hm
          exact hm
        have hcut2 : sl A (a + min c z.f1.length) (a + z.f1.length) = z.f1.drop (min c z.f1.length) := by
          have hm := sl_mid (side pre 3 ++ z.f1.take (min c z.f1.length)) (z.f1.drop (min c z.f1.length)) (side xs 3)
          have eA : side pre 3 ++ z.f1.take (min c z.f1.length) ++ z.f1.drop (min c z.f1.length) ++ side xs 3 = A := by
            rw [hAe, List.append_assoc (side pre 3), ← hsp]
          rw [eA, List.length_append, hut, hud, ← ha, show a + min c z.f1.length + (z.f1.length - min c z.f1.length) = a + z.f1.length by omega] at hm
          exact hm
        have et : (((mkH a0 b0 (now ++ hunk_Build.trail c z.f1)).f0 + (mkH a0 b0 (now ++ hunk_Build.trail c z.f1)).f1)).toNat = a + min c z.f1.length := by
          simp only [mkH]
          omega
        simp only [whl]
        rw [if_pos, et]
        · show ∃ e, whl A _ (a + min c z.f1.length) (out ++ [⟨1, (A.take ((a0 : Int)).toNat).drop x⟩] ++ (now ++ hunk_Build.trail c z.f1)) = some e ∧ _
          rw [Int.toNat_natCast]
          refine bld_whl c A N hA xs (pre ++ [z]) _ _ none z.f1 (a + min c z.f1.length) _ hN' hgs ha' ⟨?_, by omega, fun hxs => ?_, side pre 3, hs1⟩ h7 h8
          · rw [hcut2, single_one, ← List.append_assoc, single_append, single_trail]
            show single (out ++ [⟨1, sl A x a0⟩] ++ now) ++ _ ++ _ = _
            rw [h1, List.append_assoc, ← lns_append, ← hsp, single_append]
            simp [single, one, lns, e1]
          · have : 2 * c < z.f1.length := hl.resolve_left (by simpa using hxs)
            omega
        · refine ⟨by simp only [mkH]; omega, ?_⟩
          rw [et]
          show _ = (A.take (a + min c z.f1.length)).drop ((a0 : Int)).toNat
          rw [Int.toNat_natCast]
          exact hcut.symm
      · rw [if_neg hl]
        exact hgo
    · rw [if_neg e1]
      exact hgo
/-- THE WHOLE SCRIPT OF HUNKS THAT ARE BUILT is the normal form that they were built of. -/
theorem hnk_whole (c : Nat) (n : List S47) (hn : Nf n) (hl : nl n ≤ 300) : whole (hnk c n) (side n 3) = (n, 0) := by
  unfold whole
  have h3 := side_le n 3
  rw [if_pos (hnk_chk c n hn (by omega)), if_neg (by omega)]
  obtain ⟨e, h1, h2, h4, h5⟩ := bld_whl c (side n 3) n rfl n [] 0 0 none [] 0 [] rfl (nf_good n hn) rfl ⟨by simp [sl, single, one], Nat.le_refl _, fun _ => by simp, [], rfl⟩ (by simp) rfl
  unfold hnk
  rw [h1]
  simp only [whlR]
  have h6 : nl e = nl n := by rw [← single_len e, h2, single_len]
  unfold nrm
  rw [if_pos (chk_zero.2 ⟨by omega, by omega, h5⟩), p_of_single h2, p_id n hn]
end Go.Proofs.Ytfnbodjmmkjlcaa.H
namespace Go.Proofs.Ytfnbodjmmkjlcaa.H
open Go.RowKit Go.Proofs.YtfnbodjmmkjlcaaW.PrintWords Go.Proofs.YtfnbodjmmkjlcaaW.PrintLast Go.Proofs.YtfnbodjmmkjlcaaW.PrintMore
set_option linter.unusedVariables false
set_option linter.unusedSimpArgs false
end Go.Proofs.Ytfnbodjmmkjlcaa.H
end
section
namespace Go.Proofs.Ytfnbodjmmkjlcaa.Pure
open Go.RowKit Go.Proofs.Ytfnbodjmmkjlcaa Go.Proofs.Ytfnbodjmmkjlcaa.H Go.Proofs.YtfnbodjmmkjlcaaW.PrintWords Go.Proofs.YtfnbodjmmkjlcaaW.PrintLast Go.Proofs.YtfnbodjmmkjlcaaW.PrintMore
theorem u8_rng {x : Int} (h : (Lit.int .u8 x).wf = true) : 0 ≤ x ∧ x ≤ 255 := by
  simpa [Lit.wf, IntKind.min, IntKind.max, IntKind.signed, IntKind.bits] using h
theorem ctx_rng {x : Int} (h : (Lit.int .u8 x).wf = true) : 0 ≤ Int.tmod (wrap64 x) 21 ∧ Int.tmod (wrap64 x) 21 ≤ 20 := by
  have := u8_rng h
  rw [w64i x (by omega) (by omega), Int.tmod_eq_emod_of_nonneg (by omega)]
  omega
theorem HunkBack : jalousielaw09_HunkBack.Pure := by
  intro s a _ ha hs _
  have hf := fit_of s hs
  obtain ⟨hc1, hc2⟩ := ctx_rng ha
  refine Ev.rounds ?_
  unfold jalousielaw09_HunkBack.f
  generalize Int.tmod (wrap64 a) 21 = c at hc1 hc2
  obtain ⟨r, hr, hr2⟩ := few_ev s hf
  refine Ev.bind hr ?_
  by_cases h : r = true
  · refine ev_pos h ?_
    obtain ⟨h1, h2⟩ := hr2 h
    refine Ev.bind (bld_ev s c hf) (Ev.bind (rnrm_ev s hf) ?_)
    have hfit := hres_fit s c
    unfold hres nrm at *
    by_cases hk : chk s = 0
    · rw [if_pos hk, if_neg (by omega)] at *
      rw [if_pos hk]
      obtain ⟨k1, k2, k3⟩ := chk_zero.1 hk
      have hn := p_nf s k3
      have hl : nl (script_normal.p s) ≤ 120 := by rw [p_nl]; exact h2
      have hnf := good_fit _ (by omega) (nf_good _ hn)
      refine ev_pos rfl (ev_pos rfl (Ev.bind (rsides_ev s hf) ?_))
      unfold sds
      rw [if_pos hk]
      refine Ev.bind (whole_ev _ _ hfit) ?_
      simp only
      rw [← p_side3 s k3, hnk_whole _ _ hn (by omega)]
      refine Ev.bind live_ev (ev_pos rfl (Ev.bind (hcheck_ev _ hfit) ?_))
      refine ev_pos (hnk_chk _ _ hn (by omega)) (ev_pos rfl ?_)
      exact Ev.bind (esame_ev _ _ hnf) (ev_some (decide_eq_true rfl))
    · rw [if_neg hk] at *
      rw [if_neg hk]
      exact ev_pos rfl (ev_neg hk (Ev.bind live_ev (ev_some rfl)))
  · exact ev_neg h (Ev.bind live_ev (ev_some rfl))
end Go.Proofs.Ytfnbodjmmkjlcaa.Pure
end
