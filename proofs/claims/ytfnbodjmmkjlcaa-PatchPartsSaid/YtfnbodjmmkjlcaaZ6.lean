/-
  What the claim needs of the words, of the walks and of the plain proofs, in one row (6).
-/
import Derived.Lib.IndexAny
import Derived.Deep.RegionHeld3
import Derived.WalkLawsBesides
import Derived.WalkSpells
import Derived.RangeFuncNested
import Derived.RangeFuncBound
import Derived.RangeFuncCalls
import Derived.RangeFuncLeaves
import Derived.RangeFuncBox
import Derived.RangeFuncMany
import Derived.Shelf.Abstract
import Derived.OwnWalkIn
import Derived.TacticsInMore
import Derived.LoopNIn
import Derived.LoopIn
import Derived.Test.YtfnbodjmmkjlcaaZ0
import Derived.Test.YtfnbodjmmkjlcaaZ1
import Derived.Test.YtfnbodjmmkjlcaaZ2
import Derived.Test.YtfnbodjmmkjlcaaZ3
import Derived.Test.YtfnbodjmmkjlcaaZ4
import Derived.Test.YtfnbodjmmkjlcaaZ5
section
namespace Go.Proofs.Ytfnbodjmmkjlcaa.H
open Go.RowKit Go.Proofs.YtfnbodjmmkjlcaaW.PrintWords Go.Proofs.YtfnbodjmmkjlcaaW.PrintLast Go.Proofs.YtfnbodjmmkjlcaaW.PrintMore
set_option linter.unusedVariables false
set_option linter.unusedSimpArgs false
theorem rdE (l : List S47) (i : Nat) : rd_T47 l (i : Int) = l.getD i z47 := by simp [rd_T47]
theorem rdH (l : List S44) (i : Nat) : rd_T44 l (i : Int) = l.getD i z44 := by simp [rd_T44]
theorem rdL (l : List S66) (i : Nat) : rd_T66 l (i : Int) = l.getD i z66 := by simp [rd_T66]
theorem getD_mem {α : Type} {l : List α} {i : Nat} (h : i < l.length) (d : α) : l.getD i d ∈ l := by
  rw [getD_lt h]
  exact List.getElem_mem h
/-- How many lines. -/
def nl (s : List S47) : Nat := (s.map (fun e => e.f1.length)).sum
theorem nl_cons (x : S47) (s : List S47) : nl (x :: s) = x.f1.length + nl s := by simp [nl]
theorem nl_nil : nl [] = 0 := rfl
theorem nl_append (s t : List S47) : nl (s ++ t) = nl s + nl t := by simp [nl]
theorem nl_lines (s : List S47) : script_normal.lines s = nl s := rfl
/-- Each stays, goes, or is put in. -/
def allok (s : List S47) : Bool := s.all fun x => decide (1 ≤ x.f0 ∧ x.f0 ≤ 3)
theorem allok_cons (x : S47) (s : List S47) : allok (x :: s) = (decide (1 ≤ x.f0 ∧ x.f0 ≤ 3) && allok s) := by simp [allok]
/-- Sizes that a machine holds. -/
def Fit (s : List S47) : Prop := s.length ≤ 4398046511104 ∧ ∀ x ∈ s, x.f1.length ≤ 5864062014805
/-- What is wrong with a script. -/
def chk (s : List S47) : Int := if 800 < s.length then 4 else if 800 < nl s then 4 else if allok s = true then 0 else 3
theorem chk_zero {s : List S47} : chk s = 0 ↔ s.length ≤ 800 ∧ nl s ≤ 800 ∧ allok s = true := by
  unfold chk
  by_cases h1 : 800 < s.length
  · rw [if_pos h1]
    constructor
    · intro h
      cases h
    · omega
  · rw [if_neg h1]
    by_cases h2 : 800 < nl s
    · rw [if_pos h2]
      constructor
      · intro h
        cases h
      · omega
    · rw [if_neg h2]
      by_cases h3 : allok s = true
      · rw [if_pos h3]
        simp [h3]
        omega
      · rw [if_neg h3]
        simp [h3]
theorem chk_l0 (s : List S47) (hf : Fit s) : ∀ (d i n : Nat) (e : Int), i + d = s.length → n ≤ 800 → Ev (fun k => script_Check.l0 k (n : Int) e s (s.length : Int) (i : Int)) (if 800 < n + nl (s.drop i) then 4 else if allok (s.drop i) = true then e else 3)
  | 0, i, n, e, h, hn => by
    refine ev_succ ?_
    simp only [script_Check.l0]
    have := hf.1
    (repeat (first | refine ev_pos (by omega) ?_ | refine ev_neg (by omega) ?_))
    rw [List.drop_of_length_le (by omega)]
    exact ev_some (by rw [if_neg (by rw [nl_nil]; omega)]; rfl)
  | d + 1, i, n, e, h, hn => by
    have h1 := hf.1
    have hx := hf.2 _ (getD_mem (l := s) (i := i) (by omega) z47)
    rw [drop_cons s i (by omega) z47]
    refine ev_succ ?_
    simp only [script_Check.l0, rdE]
    rw [w64s i (by omega)]
    generalize s.getD i z47 = x at hx
    have hm : mn (wrap64 ((n : Int) + (x.f1.length : Int))) 801 = ((min (n + x.f1.length) 801 : Nat) : Int) := by
      unfold mn wrap64
      split <;> omega
    rw [hm, nl_cons, allok_cons]
    refine ev_pos (by omega) ?_
    refine ev_pos (by omega) ?_
    refine ev_pos (by omega) ?_
    by_cases hc : 800 < n + x.f1.length
    · refine ev_pos (by omega) ?_
      exact ev_some (by rw [if_pos (by omega)])
    · refine ev_neg (by omega) ?_
      rw [Nat.min_eq_left (by omega)]
      by_cases h3 : x.f0 < 1
      · refine ev_pos h3 ?_
        refine ev_cast (chk_l0 s hf d (i + 1) (n + x.f1.length) 3 (by omega) (by omega)) ?_
        rw [decide_eq_false (by omega), Bool.false_and, Nat.add_assoc]
        split
        · rfl
        · simp
      · refine ev_neg h3 ?_
        by_cases h4 : x.f0 > 3
        · refine ev_pos h4 ?_
          refine ev_cast (chk_l0 s hf d (i + 1) (n + x.f1.length) 3 (by omega) (by omega)) ?_
          rw [decide_eq_false (by omega), Bool.false_and, Nat.add_assoc]
          split
          · rfl
          · simp
        · refine ev_neg h4 ?_
          refine ev_cast (chk_l0 s hf d (i + 1) (n + x.f1.length) e (by omega) (by omega)) ?_
          rw [decide_eq_true (by omega), Bool.true_and, Nat.add_assoc]
theorem chk_ev (s : List S47) (hf : Fit s) : Ev (fun k => script_Check.f k s) (chk s) := by
  unfold script_Check.f chk
  by_cases h : 800 < s.length
  · refine ev_pos (by omega) ?_
    exact ev_some (by rw [if_pos h])
  · refine ev_neg (by omega) ?_
    refine ev_cast (chk_l0 s hf s.length 0 0 0 (by omega) (by omega)) ?_
    rw [if_neg h, List.drop_zero, Nat.zero_add]
/-- A script's lines but those of one kind. -/
def side (s : List S47) (but : Int) : List S66 := s.flatMap fun x => if x.f0 = but then [] else x.f1
theorem side_cons (x : S47) (s : List S47) (b : Int) : side (x :: s) b = (if x.f0 = b then [] else x.f1) ++ side s b := by simp [side]
theorem side_append (s t : List S47) (b : Int) : side (s ++ t) b = side s b ++ side t b := by simp [side]
theorem side_len (s : List S47) (b : Int) : (side s b).length ≤ nl s := by
  induction s with
  | nil => simp [side, nl]
  | cons x t ih =>
    rw [side_cons, nl_cons, List.length_append]
    split
    · simp
      omega
    · omega
theorem sides_l0 (s : List S47) (hok : allok s = true) (hn : nl s ≤ 800) (hl : s.length ≤ 800) : ∀ (d i : Nat) (a b : List S66), i + d = s.length → a.length + nl (s.drop i) ≤ 800 → b.length + nl (s.drop i) ≤ 800 → Ev (fun k => script_sides.l0 k a b s (s.length : Int) (i : Int)) (a ++ side (s.drop i) 3, b ++ side (s.drop i) 2)
  | 0, i, a, b, h, ha, hb => by
    refine ev_succ ?_
    simp only [script_sides.l0]
    (repeat (first | refine ev_pos (by omega) ?_ | refine ev_neg (by omega) ?_))
    rw [List.drop_of_length_le (by omega)]
    exact ev_some (by simp [side])
  | d + 1, i, a, b, h, ha, hb => by
    have hx : 1 ≤ (s.getD i z47).f0 ∧ (s.getD i z47).f0 ≤ 3 := by
      have := List.all_eq_true.1 hok _ (getD_mem (l := s) (i := i) (by omega) z47)
      simpa using this
    rw [drop_cons s i (by omega) z47] at ha hb ⊢
    rw [nl_cons] at ha hb
    refine ev_succ ?_
    simp only [script_sides.l0, rdE]
    rw [w64s i (by omega)]
    generalize s.getD i z47 = x at hx ha hb
    rw [side_cons, side_cons]
    refine ev_pos (by omega) ?_
    refine ev_pos (by omega) ?_
    refine ev_pos (by omega) ?_
    by_cases a1 : x.f0 = 1
    · refine ev_pos a1 ?_
      (repeat (first | refine ev_pos (by omega) ?_ | refine ev_neg (by omega) ?_))
      refine ev_cast (sides_l0 s hok hn hl d (i + 1) _ _ (by omega) (by rw [List.length_append]; omega) (by rw [List.length_append]; omega)) ?_
      rw [if_neg (by omega), if_neg (by omega), List.append_assoc, List.append_assoc]
    · refine ev_neg a1 ?_
      by_cases a2 : x.f0 = 2
      · refine ev_pos a2 ?_
        (repeat (first | refine ev_pos (by omega) ?_ | refine ev_neg (by omega) ?_))
        refine ev_cast (sides_l0 s hok hn hl d (i + 1) _ _ (by omega) (by rw [List.length_append]; omega) (by omega)) ?_
        rw [if_neg (by omega), if_pos a2, List.append_assoc, List.nil_append]
      · refine ev_neg a2 ?_
        (repeat (first | refine ev_pos (by omega) ?_ | refine ev_neg (by omega) ?_))
        refine ev_cast (sides_l0 s hok hn hl d (i + 1) _ _ (by omega) (by omega) (by rw [List.length_append]; omega)) ?_
        rw [if_pos (by omega), if_neg a2, List.append_assoc, List.nil_append]
/-- Both sides, and what is wrong. -/
def sds (s : List S47) : List S66 × List S66 × Int := if chk s = 0 then (side s 3, side s 2, 0) else ([], [], chk s)
theorem sides_ev (s : List S47) (hf : Fit s) : Ev (fun k => script_Sides.f k s) (sds s) := by
  unfold script_Sides.f sds
  refine Ev.bind (chk_ev s hf) ?_
  by_cases h : chk s = 0
  · refine ev_pos h ?_
    rw [if_pos h]
    obtain ⟨h1, h2, h3⟩ := chk_zero.1 h
    refine Ev.bind (a := (side s 3, side s 2)) ?_ (ev_some rfl)
    unfold script_sides.f
    refine ev_cast (sides_l0 s h3 h2 h1 s.length 0 [] [] (by omega) (by simpa using h2) (by simpa using h2)) ?_
    simp
  · refine ev_neg h ?_
    rw [if_neg h]
    exact ev_some rfl
def chg (s : List S47) : Nat := (s.map fun x => if x.f0 = 2 ∨ x.f0 = 3 then x.f1.length else 0).sum
theorem chg_cons (x : S47) (s : List S47) : chg (x :: s) = (if x.f0 = 2 ∨ x.f0 = 3 then x.f1.length else 0) + chg s := by simp [chg]
theorem chg_l0 (s : List S47) (hn : nl s ≤ 1000000000000000000) (hl : s.length ≤ 1000000000000000000) : ∀ (d i n : Nat), i + d = s.length → n + nl (s.drop i) ≤ 1000000000000000000 → Ev (fun k => script_Changed.l0 k (n : Int) s (s.length : Int) (i : Int)) ((n + chg (s.drop i) : Nat) : Int)
  | 0, i, n, h, ha => by
    refine ev_succ ?_
    simp only [script_Changed.l0]
    (repeat (first | refine ev_pos (by omega) ?_ | refine ev_neg (by omega) ?_))
    rw [List.drop_of_length_le (by omega)]
    exact ev_some (by simp [chg])
  | d + 1, i, n, h, ha => by
    rw [drop_cons s i (by omega) z47] at ha ⊢
    rw [nl_cons] at ha
    refine ev_succ ?_
    simp only [script_Changed.l0, rdE]
    rw [w64s i (by omega)]
    generalize s.getD i z47 = x at ha
    rw [chg_cons]
    refine ev_pos (by omega) ?_
    refine ev_pos (by omega) ?_
    refine ev_pos (by omega) ?_
    have hw : wrap64 ((n : Int) + (x.f1.length : Int)) = ((n + x.f1.length : Nat) : Int) := by
      unfold wrap64
      omega
    by_cases a1 : x.f0 = 2
    · refine ev_pos a1 ?_
      rw [hw]
      refine ev_cast (chg_l0 s hn hl d (i + 1) _ (by omega) (by omega)) ?_
      rw [if_pos (Or.inl a1), Nat.add_assoc]
    · refine ev_neg a1 ?_
      by_cases a2 : x.f0 = 3
      · refine ev_pos a2 ?_
        rw [hw]
        refine ev_cast (chg_l0 s hn hl d (i + 1) _ (by omega) (by omega)) ?_
        rw [if_pos (Or.inr a2), Nat.add_assoc]
      · refine ev_neg a2 ?_
        refine ev_cast (chg_l0 s hn hl d (i + 1) _ (by omega) (by omega)) ?_
        rw [if_neg (by omega), Nat.zero_add]
theorem chg_ev (s : List S47) (hn : nl s ≤ 1000000000000000000) (hl : s.length ≤ 1000000000000000000) : Ev (fun k => script_Changed.f k s) (chg s : Int) := by
  unfold script_Changed.f
  refine ev_cast (chg_l0 s hn hl s.length 0 0 (by omega) (by simpa using hn)) ?_
  simp
end Go.Proofs.Ytfnbodjmmkjlcaa.H
namespace Go.Proofs.Ytfnbodjmmkjlcaa.H
open Go.RowKit Go.Proofs.YtfnbodjmmkjlcaaW.PrintWords Go.Proofs.YtfnbodjmmkjlcaaW.PrintLast Go.Proofs.YtfnbodjmmkjlcaaW.PrintMore
set_option linter.unusedVariables false
set_option linter.unusedSimpArgs false
instance decL : DecidableEq S66 := fun a b => decidable_of_iff (a.f0 = b.f0 ∧ a.f1 = b.f1) ⟨fun h => by cases a; cases b; simp at h; simp [h], fun h => h ▸ ⟨rfl, rfl⟩⟩
instance decE : DecidableEq S47 := fun a b => decidable_of_iff (a.f0 = b.f0 ∧ a.f1 = b.f1) ⟨fun h => by cases a; cases b; simp at h; simp [h], fun h => h ▸ ⟨rfl, rfl⟩⟩
theorem line_ne (a b : S66) : (!((a.f0.toList) == (b.f0.toList)) || (!((a.f1) == (b.f1)))) = !decide (a = b) := by
  rw [ba_beq]
  by_cases h : a = b
  · subst h
    simp
  · rw [decide_eq_false h]
    by_cases h0 : a.f0 = b.f0
    · have h1 : a.f1 ≠ b.f1 := fun h1 => h (by cases a; cases b; simp at h0 h1; simp [h0, h1])
      simp [h0, h1]
    · simp [h0]
theorem decide_cons {α : Type} [DecidableEq α] (a b : α) (s t : List α) : decide (a :: s = b :: t) = (decide (a = b) && decide (s = t)) := by
  by_cases h : a = b
  · subst h
    by_cases h2 : s = t
    · simp [h2]
    · simp [h2]
  · simp [h]
theorem lsame_l0 (s t : List S66) (hl : s.length = t.length) (hs : s.length ≤ 9000000000000000000) : ∀ (d i : Nat), i + d = s.length → Ev (fun k => jalousieref01_Same.l0 k s t (i : Int)) (decide (s.drop i = t.drop i))
  | 0, i, h => by
    refine ev_succ ?_
    simp only [jalousieref01_Same.l0]
    (repeat (first | refine ev_pos (by omega) ?_ | refine ev_neg (by omega) ?_))
    rw [List.drop_of_length_le (by omega), List.drop_of_length_le (by omega)]
    exact ev_some (by simp)
  | d + 1, i, h => by
    refine ev_succ ?_
    simp only [jalousieref01_Same.l0, rdL]
    rw [w64s i (by omega), drop_cons s i (by omega) z66, drop_cons t i (by omega) z66, decide_cons, line_ne]
    refine ev_pos (by omega) ?_
    refine ev_pos (by omega) ?_
    refine ev_pos (by omega) ?_
    by_cases e : s.getD i z66 = t.getD i z66
    · refine ev_neg (by rw [decide_eq_true e]; simp) ?_
      refine ev_cast (lsame_l0 s t hl hs d (i + 1) (by omega)) ?_
      rw [decide_eq_true e, Bool.true_and]
    · refine ev_pos (by rw [decide_eq_false e]; simp) ?_
      exact ev_some (by rw [decide_eq_false e, Bool.false_and])
theorem lsame_ev (s t : List S66) (hs : s.length ≤ 9000000000000000000) : Ev (fun k => jalousieref01_Same.f k s t) (decide (s = t)) := by
  unfold jalousieref01_Same.f
  by_cases h : s.length = t.length
  · refine ev_pos (by omega) ?_
    exact ev_cast (lsame_l0 s t h hs s.length 0 (by omega)) (by simp)
  · refine ev_neg (by omega) ?_
    exact ev_some (by rw [decide_eq_false (fun e => h (by rw [e]))])
theorem leq_l0 (s t : List S66) (hl : s.length = t.length) (hs : s.length ≤ 9000000000000000000) : ∀ (d i : Nat), i + d = s.length → Ev (fun k => api_Line_56.l0 k s t (s.length : Int) (i : Int)) (decide (s.drop i = t.drop i))
  | 0, i, h => by
    refine ev_succ ?_
    simp only [api_Line_56.l0]
    (repeat (first | refine ev_pos (by omega) ?_ | refine ev_neg (by omega) ?_))
    rw [List.drop_of_length_le (by omega), List.drop_of_length_le (by omega)]
    exact ev_some (by simp)
  | d + 1, i, h => by
    refine ev_succ ?_
    simp only [api_Line_56.l0, rdL]
    rw [w64s i (by omega), drop_cons s i (by omega) z66, drop_cons t i (by omega) z66, decide_cons, line_ne]
    refine ev_pos (by omega) ?_
    refine ev_pos (by omega) ?_
    refine ev_pos (by omega) ?_
    refine ev_pos (by omega) ?_
    by_cases e : s.getD i z66 = t.getD i z66
    · refine ev_neg (by rw [decide_eq_true e]; simp) ?_
      refine ev_cast (leq_l0 s t hl hs d (i + 1) (by omega)) ?_
      rw [decide_eq_true e, Bool.true_and]
    · refine ev_pos (by rw [decide_eq_false e]; simp) ?_
      exact ev_some (by rw [decide_eq_false e, Bool.false_and])
theorem leq_ev (s t : List S66) (hs : s.length ≤ 9000000000000000000) : Ev (fun k => api_Line_56.f k s t) (decide (s = t)) := by
  unfold api_Line_56.f
  by_cases h : s.length = t.length
  · refine ev_pos (by omega) ?_
    exact ev_cast (leq_l0 s t h hs s.length 0 (by omega)) (by simp)
  · refine ev_neg (by omega) ?_
    exact ev_some (by rw [decide_eq_false (fun e => h (by rw [e]))])
theorem edit_eq (a b : S47) : decide (a = b) = (decide (a.f0 = b.f0) && decide (a.f1 = b.f1)) := by
  by_cases h0 : a.f0 = b.f0
  · by_cases h1 : a.f1 = b.f1
    · have e : a = b := by cases a; cases b; simp at h0 h1; simp [h0, h1]
      simp [e]
    · have e : a ≠ b := fun e => h1 (by rw [e])
      simp [e, h1]
  · have e : a ≠ b := fun e => h0 (by rw [e])
    simp [e, h0]
theorem fit_cons {x : S47} {s : List S47} (h : Fit (x :: s)) : Fit s := ⟨Nat.le_trans (Nat.le_succ _) h.1, fun y hy => h.2 y (List.mem_cons_of_mem _ hy)⟩
theorem eeq_all : ∀ (s t : List S47), Fit s → s.length = t.length → Ev (fun k => hunk_same.all k s t) (decide (s = t))
  | [], [], _, _ => ev_some rfl
  | [], _ :: _, _, h => by simp at h
  | _ :: _, [], _, h => by simp at h
  | x :: s, y :: t, hs, h => by
    have hx := hs.2 x (by simp)
    rw [decide_cons, edit_eq]
    simp only [hunk_same.all]
    refine Ev.bind (a := decide (x.f0 = y.f0) && decide (x.f1 = y.f1)) ?_ ?_
    · unfold hunk_same.one
      by_cases e : x.f0 = y.f0
      · refine ev_pos e (ev_cast (leq_ev _ _ (by omega)) ?_)
        rw [decide_eq_true e, Bool.true_and]
      · refine ev_neg e (ev_some ?_)
        rw [decide_eq_false e, Bool.false_and]
    · by_cases e : (decide (x.f0 = y.f0) && decide (x.f1 = y.f1)) = true
      · refine ev_pos e (ev_cast (eeq_all s t (fit_cons hs) (by simpa using h)) ?_)
        rw [e, Bool.true_and]
      · refine ev_neg e (ev_some ?_)
        rw [Bool.not_eq_true] at e
        rw [e, Bool.false_and]
theorem eeq_ev (s t : List S47) (hs : Fit s) : Ev (fun k => hunk_same.f k s t) (decide (s = t)) := by
  unfold hunk_same.f
  by_cases h : s.length = t.length
  · exact ev_pos h (eeq_all s t hs h)
  · refine ev_neg h (ev_some ?_)
    rw [decide_eq_false (fun e => h (by rw [e]))]
def FitH (s : List S44) : Prop := s.length ≤ 4398046511104 ∧ ∀ x ∈ s, Fit x.f4
/-- The lines of an edit, each one's own. -/
def one (x : S47) : List S47 := x.f1.map fun l => ⟨x.f0, [l]⟩
def single (s : List S47) : List S47 := s.flatMap one
theorem single_cons (x : S47) (s : List S47) : single (x :: s) = one x ++ single s := by simp [single]
end Go.Proofs.Ytfnbodjmmkjlcaa.H
namespace Go.Proofs.Ytfnbodjmmkjlcaa.H
open Go.RowKit Go.Proofs.YtfnbodjmmkjlcaaW.PrintWords Go.Proofs.YtfnbodjmmkjlcaaW.PrintLast Go.Proofs.YtfnbodjmmkjlcaaW.PrintMore
set_option linter.unusedVariables false
set_option linter.unusedSimpArgs false
theorem last_rd (t : List S47) (y : S47) : rd_T47 (t ++ [y]) (((t ++ [y]).length : Int) - 1) = y := by
  have e : (((t ++ [y]).length : Int) - 1) = (t.length : Int) := by simp
  rw [e, rdE, List.getD_eq_getElem?_getD]
  simp
theorem add_nil (s : List S47) (d : Int) : script_normal.add s d [] = s := by simp [script_normal.add]
theorem add_empty (d : Int) (l : List S66) (hl : l ≠ []) : script_normal.add [] d l = [⟨d, l⟩] := by
  unfold script_normal.add
  rw [if_neg (by simpa using hl), if_neg (by simp), List.nil_append]
theorem add_ne (t : List S47) (y : S47) (d : Int) (l : List S66) (hl : l ≠ []) (h : y.f0 ≠ d) : script_normal.add (t ++ [y]) d l = t ++ [y] ++ [⟨d, l⟩] := by
  unfold script_normal.add
  rw [if_neg (by simpa using hl), last_rd, if_neg (by simp [h])]
theorem add_eq (t : List S47) (y : S47) (d : Int) (l : List S66) (hl : l ≠ []) (h : y.f0 = d) : script_normal.add (t ++ [y]) d l = t ++ [⟨d, y.f1 ++ l⟩] := by
  unfold script_normal.add
  rw [if_neg (by simpa using hl), last_rd, if_pos ⟨by simp, h⟩]
  have e : (t ++ [y]).length - 1 = t.length := by simp
  rw [e, List.set_append_right _ _ (Nat.le_refl _), Nat.sub_self]
  rfl
theorem snoc_cases {α : Type} (s : List α) : s = [] ∨ ∃ t y, s = t ++ [y] := by
  rcases List.eq_nil_or_concat s with h | ⟨t, y, h⟩
  · exact .inl h
  · exact .inr ⟨t, y, by simpa using h⟩
theorem add_add (s : List S47) (d : Int) (a b : List S66) : script_normal.add (script_normal.add s d a) d b = script_normal.add s d (a ++ b) := by
  by_cases ha : a = []
  · subst ha
    rw [add_nil, List.nil_append]
  by_cases hb : b = []
  · subst hb
    rw [add_nil, List.append_nil]
  have hab : a ++ b ≠ [] := by simp [ha]
  rcases snoc_cases s with rfl | ⟨t, y, rfl⟩
  · rw [add_empty d a ha, add_empty d _ hab]
    exact add_eq [] ⟨d, a⟩ d b hb rfl
  · by_cases h : y.f0 = d
    · rw [add_eq t y d a ha h, add_eq t _ d b hb rfl, add_eq t y d _ hab h, List.append_assoc]
    · rw [add_ne t y d a ha h, add_ne t y d _ hab h, add_eq (t ++ [y]) ⟨d, a⟩ d b hb rfl]
theorem side_add (s : List S47) (d : Int) (l : List S66) (b : Int) : side (script_normal.add s d l) b = side s b ++ (if d = b then [] else l) := by
  by_cases hl : l = []
  · subst hl
    rw [add_nil]
    simp
  rcases snoc_cases s with rfl | ⟨t, y, rfl⟩
  · rw [add_empty d l hl]
    simp [side]
  · by_cases h : y.f0 = d
    · rw [add_eq t y d l hl h, side_append, side_append, side_cons, side_cons]
      by_cases hb : d = b
      · simp [side, hb, h]
      · simp [side, hb, h]
    · rw [add_ne t y d l hl h, side_append _ [_], side_cons]
      simp [side]
theorem nl_add (s : List S47) (d : Int) (l : List S66) : nl (script_normal.add s d l) = nl s + l.length := by
  by_cases hl : l = []
  · subst hl
    rw [add_nil]
    simp
  rcases snoc_cases s with rfl | ⟨t, y, rfl⟩
  · rw [add_empty d l hl]
    simp [nl]
  · by_cases h : y.f0 = d
    · rw [add_eq t y d l hl h, nl_append, nl_append, nl_cons, nl_cons]
      simp [nl]
      omega
    · rw [add_ne t y d l hl h, nl_append _ [_], nl_cons]
      simp [nl]
def adj (a b : Int) : Prop := (a = 1 ∧ (b = 2 ∨ b = 3)) ∨ (a = 2 ∧ (b = 1 ∨ b = 3)) ∨ (a = 3 ∧ b = 1)
def good (x : S47) : Prop := (x.f0 = 1 ∨ x.f0 = 2 ∨ x.f0 = 3) ∧ x.f1 ≠ []
def Nf : List S47 → Prop
  | [] => True
  | x :: t => good x ∧ (∀ y ∈ t.head?, adj x.f0 y.f0) ∧ Nf t
theorem nf_append (s t : List S47) : Nf (s ++ t) ↔ Nf s ∧ Nf t ∧ ∀ x ∈ s.getLast?, ∀ y ∈ t.head?, adj x.f0 y.f0 := by
  induction s with
  | nil => simp [Nf]
  | cons a s ih =>
    rw [List.cons_append, Nf, ih, Nf]
    cases s with
    | nil =>
      simp [Nf]
      intro _
      exact and_comm
    | cons b s =>
      rw [List.getLast?_cons_cons]
      simp only [List.cons_append, List.head?_cons]
      constructor
      · rintro ⟨h1, h2, h3, h4, h5⟩
        exact ⟨⟨h1, h2, h3⟩, h4, h5⟩
      · rintro ⟨⟨h1, h2, h3⟩, h4, h5⟩
        exact ⟨h1, h2, h3, h4, h5⟩
theorem nf_snoc (t : List S47) (y : S47) : Nf (t ++ [y]) ↔ Nf t ∧ good y ∧ ∀ x ∈ t.getLast?, adj x.f0 y.f0 := by
  rw [nf_append]
  simp [Nf]
/-- The kind of the last edit is none or one of which b may come behind. -/
theorem nf_add (s : List S47) (d : Int) (l : List S66) (hd : d = 1 ∨ d = 2 ∨ d = 3) (hs : Nf s) (ha : ∀ x ∈ s.getLast?, x.f0 = d ∨ adj x.f0 d) : Nf (script_normal.add s d l) := by
  by_cases hl : l = []
  · subst hl
    rw [add_nil]
    exact hs
  rcases snoc_cases s with rfl | ⟨t, y, rfl⟩
  · rw [add_empty d l hl]
    simp [Nf, good, hl, hd]
  · have hy := ha y (by simp)
    by_cases h : y.f0 = d
    · rw [add_eq t y d l hl h]
      rw [nf_snoc] at hs ⊢
      exact ⟨hs.1, ⟨hd, by simp [hl]⟩, fun x hx => by have := hs.2.2 x hx; rw [h] at this; exact this⟩
    · rw [add_ne t y d l hl h, nf_snoc]
      exact ⟨hs, ⟨hd, hl⟩, fun x hx => by
        simp at hx
        subst hx
        exact hy.resolve_left h⟩
theorem last_add (s : List S47) (d : Int) (l : List S66) : ∀ x ∈ (script_normal.add s d l).getLast?, (l ≠ [] ∧ x.f0 = d) ∨ (l = [] ∧ x ∈ s.getLast?) := by
  intro x hx
  by_cases hl : l = []
  · subst hl
    rw [add_nil] at hx
    exact .inr ⟨rfl, hx⟩
  refine .inl ⟨hl, ?_⟩
  rcases snoc_cases s with rfl | ⟨t, y, rfl⟩
  · rw [add_empty d l hl] at hx
    simp at hx
    rw [← hx]
  · by_cases h : y.f0 = d
    · rw [add_eq t y d l hl h] at hx
      simp at hx
      rw [← hx]
    · rw [add_ne t y d l hl h] at hx
      simp at hx
      rw [← hx]
theorem take_in {s : List S47} {w : List S66} {x : S47} (h : x.f0 = 3) : script_normal.take (s, w) x = (s, w ++ x.f1) := by
  unfold script_normal.take
  rw [if_pos h]
theorem take_out {s : List S47} {w : List S66} {x : S47} (h : x.f0 = 2) : script_normal.take (s, w) x = (script_normal.add s 2 x.f1, w) := by
  unfold script_normal.take
  rw [if_neg (by omega), if_neg (by omega), h]
theorem take_keep {s : List S47} {w : List S66} {x : S47} (h : x.f0 = 1) (hx : x.f1 ≠ []) : script_normal.take (s, w) x = (script_normal.add (script_normal.add s 3 w) 1 x.f1, []) := by
  unfold script_normal.take
  rw [if_neg (by omega), if_pos ⟨h, List.length_pos_iff.2 hx⟩, h]
theorem take_none {s : List S47} {w : List S66} {x : S47} (hx : x.f1 = []) : script_normal.take (s, w) x = (s, w) := by
  unfold script_normal.take
  split
  · rw [hx, List.append_nil]
  · rw [if_neg (by simp [hx]), hx, add_nil]
theorem fold_nf (l : List S47) (hl : allok l = true) : ∀ (s : List S47) (w : List S66), Nf s → (∀ x ∈ s.getLast?, x.f0 ≠ 3) → Nf (l.foldl script_normal.take (s, w)).1 ∧ ∀ x ∈ (l.foldl script_normal.take (s, w)).1.getLast?, x.f0 ≠ 3 := by
  induction l with
  | nil => exact fun s w h1 h2 => ⟨h1, h2⟩
  | cons x t ih =>
    intro s w h1 h2
    rw [allok_cons, Bool.and_eq_true] at hl
    have hx := of_decide_eq_true hl.1
    have h12 : ∀ y ∈ s.getLast?, y.f0 = 1 ∨ y.f0 = 2 := by
      intro y hy
      have h3 := h2 y hy
      have hg : good y := by
        rcases snoc_cases s with rfl | ⟨u, v, rfl⟩
        · simp at hy
        · simp at hy
          subst hy
          exact ((nf_snoc u v).1 h1).2.1
      rcases hg.1 with h | h | h
      · exact .inl h
      · exact .inr h
      · exact absurd h h3
    rw [List.foldl_cons]
    by_cases hx0 : x.f1 = []
    · rw [take_none hx0]
      exact ih hl.2 s w h1 h2
    by_cases a3 : x.f0 = 3
    · rw [take_in a3]
      exact ih hl.2 s _ h1 h2
    by_cases a2 : x.f0 = 2
    · rw [take_out a2]
      refine ih hl.2 _ w (nf_add s 2 _ (by omega) h1 fun y hy => ?_) fun y hy => ?_
      · rcases h12 y hy with h | h
        · exact .inr (.inl ⟨h, by omega⟩)
        · exact .inl h
      · rcases last_add _ _ _ y hy with h | h
        · omega
        · exact absurd h.1 hx0
    · have a1 : x.f0 = 1 := by omega
      rw [take_keep a1 hx0]
      have hf : Nf (script_normal.add s 3 w) := nf_add s 3 w (by omega) h1 fun y hy => .inr (by
        rcases h12 y hy with h | h
        · exact .inl ⟨h, by omega⟩
        · exact .inr (.inl ⟨h, by omega⟩))
      refine ih hl.2 _ [] (nf_add _ 1 _ (by omega) hf fun y hy => ?_) fun y hy => ?_
      · rcases last_add _ _ _ y hy with h | h
        · exact .inr (.inr (.inr ⟨h.2, rfl⟩))
        · rcases h12 y h.2 with h | h
          · exact .inl h
          · exact .inr (.inr (.inl ⟨h, by omega⟩))
      · rcases last_add _ _ _ y hy with h | h
        · omega
        · exact absurd h.1 hx0
theorem p_nf (l : List S47) (hl : allok l = true) : Nf (script_normal.p l) := by
  unfold script_normal.p script_normal.all
  obtain ⟨h1, h2⟩ := fold_nf l hl [] [] trivial (by simp)
  refine nf_add _ 3 _ (by omega) h1 fun y hy => .inr ?_
  have h3 := h2 y hy
  have hg : good y := by
    generalize (l.foldl script_normal.take ([], [])).1 = s at hy h1
    rcases snoc_cases s with rfl | ⟨u, v, rfl⟩
    · simp at hy
    · simp at hy
      subst hy
      exact ((nf_snoc u v).1 h1).2.1
  rcases hg.1 with h | h | h
  · exact .inl ⟨h, by omega⟩
  · exact .inr (.inl ⟨h, by omega⟩)
  · exact absurd h h3
theorem nf_allok : ∀ (n : List S47), Nf n → allok n = true
  | [], _ => rfl
  | x :: t, h => by
    rw [allok_cons, nf_allok t h.2.2, decide_eq_true (by have := h.1.1; omega)]
    rfl
theorem fold_sides (l : List S47) : ∀ (s : List S47) (w : List S66), side (l.foldl script_normal.take (s, w)).1 3 = side s 3 ++ side l 3 ∧ side (l.foldl script_normal.take (s, w)).1 2 ++ (l.foldl script_normal.take (s, w)).2 = side s 2 ++ w ++ side l 2 ∨ allok l = false := by
  induction l with
  | nil => intro s w; simp [side]
  | cons x t ih =>
    intro s w
    by_cases hx : 1 ≤ x.f0 ∧ x.f0 ≤ 3
    · rw [List.foldl_cons, side_cons, side_cons, allok_cons, decide_eq_true hx, Bool.true_and]
      by_cases hx0 : x.f1 = []
      · rw [take_none hx0, hx0]
        rcases ih s w with h | h
        · left
          rw [h.1, h.2]
          simp
        · exact .inr h
      by_cases a3 : x.f0 = 3
      · rw [take_in a3]
        rcases ih s (w ++ x.f1) with h | h
        · left
          rw [h.1, h.2, a3]
          simp
        · exact .inr h
      by_cases a2 : x.f0 = 2
      · rw [take_out a2]
        rcases ih (script_normal.add s 2 x.f1) w with h | h
        · left
          rw [h.1, h.2, a2, side_add, side_add]
          simp
        · exact .inr h
      · have a1 : x.f0 = 1 := by omega
        rw [take_keep a1 hx0]
        rcases ih (script_normal.add (script_normal.add s 3 w) 1 x.f1) [] with h | h
        · left
          rw [h.1, h.2, a1, side_add, side_add, side_add, side_add]
          simp
        · exact .inr h
    · right
      rw [allok_cons, decide_eq_false hx, Bool.false_and]
theorem p_side3 (l : List S47) (hl : allok l = true) : side (script_normal.p l) 3 = side l 3 := by
  unfold script_normal.p script_normal.all
  rcases fold_sides l [] [] with h | h
  · rw [side_add, h.1]
    simp [side]
  · rw [hl] at h
    cases h
theorem fold_nl (l : List S47) : ∀ (s : List S47) (w : List S66), nl (l.foldl script_normal.take (s, w)).1 + (l.foldl script_normal.take (s, w)).2.length = nl s + w.length + nl l := by
  induction l with
  | nil => intro s w; simp [nl]
  | cons x t ih =>
    intro s w
    rw [List.foldl_cons, nl_cons]
    by_cases hx0 : x.f1 = []
    · rw [take_none hx0, hx0, ih]
      simp
    by_cases a3 : x.f0 = 3
    · rw [take_in a3, ih]
      simp
      omega
    by_cases a1 : x.f0 = 1
    · rw [take_keep a1 hx0, ih, nl_add, nl_add]
      simp
      omega
    · have e : script_normal.take (s, w) x = (script_normal.add s x.f0 x.f1, w) := by
        unfold script_normal.take
        rw [if_neg a3, if_neg (by simp [a1])]
      rw [e, ih, nl_add]
      omega
theorem p_nl (l : List S47) : nl (script_normal.p l) = nl l := by
  unfold script_normal.p script_normal.all
  have := fold_nl l [] []
  rw [nl_add, this]
  simp [nl]
theorem nf_len : ∀ (n : List S47), Nf n → n.length ≤ nl n
  | [], _ => Nat.le_refl _
  | x :: t, h => by
    have := nf_len t h.2.2
    have := List.length_pos_iff.2 h.1.2
    rw [nl_cons, List.length_cons]
    omega
theorem lay_add (s : List S47) (d : Int) (l : List S66) (h : ∀ x ∈ s.getLast?, x.f0 ≠ d) : script_normal.add s d l = jalousieref08_lay.p s d l := by
  unfold jalousieref08_lay.p
  by_cases hl : l = []
  · subst hl
    rw [add_nil]
    rfl
  rw [if_neg (by simpa using hl)]
  rcases snoc_cases s with rfl | ⟨t, y, rfl⟩
  · rw [add_empty d l hl]
    rfl
  · rw [add_ne t y d l hl (h y (by simp))]
theorem lay_nil (s : List S47) (d : Int) : jalousieref08_lay.p s d [] = s := rfl
theorem lay_last (s : List S47) (d : Int) (l : List S66) : ∀ x ∈ (jalousieref08_lay.p s d l).getLast?, (l ≠ [] ∧ x.f0 = d) ∨ (l = [] ∧ x ∈ s.getLast?) := by
  intro x hx
  unfold jalousieref08_lay.p at hx
  by_cases hl : l = []
  · subst hl
    exact .inr ⟨rfl, hx⟩
  · rw [if_neg (by simpa using hl)] at hx
    simp at hx
    exact .inl ⟨hl, by rw [← hx]⟩
theorem lay_more (s : List S47) (d : Int) (l m : List S66) (hl : l ≠ []) : script_normal.add (jalousieref08_lay.p s d l) d m = jalousieref08_lay.p s d (l ++ m) := by
  unfold jalousieref08_lay.p
  by_cases hm : m = []
  · subst hm
    rw [add_nil, List.append_nil]
  rw [if_neg (by simpa using hl), if_neg (by simp [hl])]
  exact add_eq s ⟨d, l⟩ d m hm rfl
/-- What the document's state says of the program's. -/
structure Rel (q : jalousieref08_Normal.Q) (s : List S47) (w : List S66) : Prop where
  hs : s = jalousieref08_lay.p (jalousieref08_lay.p q.out 1 q.keep) 2 q.gone
  hw : w = q.made
  hk : q.out ≠ [] → q.keep ≠ []
  ho : ∀ x ∈ q.out.getLast?, x.f0 = 2 ∨ x.f0 = 3
theorem rel_last {q : jalousieref08_Normal.Q} {s : List S47} {w : List S66} (h : Rel q s w) : ∀ x ∈ s.getLast?, (q.gone ≠ [] ∧ x.f0 = 2) ∨ (q.gone = [] ∧ q.keep ≠ [] ∧ x.f0 = 1) := by
  intro x hx
  rw [h.hs] at hx
  rcases lay_last _ _ _ x hx with h1 | ⟨h1, h2⟩
  · exact .inl h1
  · rcases lay_last _ _ _ x h2 with h3 | ⟨h3, h4⟩
    · exact .inr ⟨h1, h3⟩
    · have : q.out ≠ [] := by
        intro e
        rw [e] at h4
        simp at h4
      exact absurd h3 (h.hk this)
theorem rel_fin {q : jalousieref08_Normal.Q} {s : List S47} {w : List S66} (h : Rel q s w) : script_normal.add s 3 w = jalousieref08_Normal.fin q := by
  unfold jalousieref08_Normal.fin
  rw [lay_add s 3 w (fun x hx => by rcases rel_last h x hx with h1 | h1 <;> omega), h.hs, h.hw]
theorem rel_step {q : jalousieref08_Normal.Q} {s : List S47} {w : List S66} (x : S47) (hx : 1 ≤ x.f0 ∧ x.f0 ≤ 3) (h : Rel q s w) : Rel (jalousieref08_Normal.add (jalousieref08_Normal.pre q x) x) (script_normal.take (s, w) x).1 (script_normal.take (s, w) x).2 := by
  by_cases hx0 : x.f1 = []
  · rw [take_none hx0]
    unfold jalousieref08_Normal.pre
    rw [if_neg (by simp [hx0])]
    unfold jalousieref08_Normal.add
    rw [hx0]
    simp only [List.append_nil]
    repeat' split
    all_goals exact ⟨h.hs, h.hw, h.hk, h.ho⟩
  by_cases a3 : x.f0 = 3
  · rw [take_in a3]
    unfold jalousieref08_Normal.pre
    rw [if_neg (by omega)]
    unfold jalousieref08_Normal.add
    rw [if_neg (by omega), if_neg (by omega), if_pos a3]
    exact ⟨h.hs, by rw [h.hw], h.hk, h.ho⟩
  by_cases a2 : x.f0 = 2
  · rw [take_out a2]
    unfold jalousieref08_Normal.pre
    rw [if_neg (by omega)]
    unfold jalousieref08_Normal.add
    rw [if_neg (by omega), if_pos a2]
    refine ⟨?_, h.hw, h.hk, h.ho⟩
    show script_normal.add s 2 x.f1 = _
    by_cases hg : q.gone = []
    · rw [lay_add s 2 _ (fun y hy => by rcases rel_last h y hy with h1 | h1; exact absurd hg h1.1; omega), h.hs, hg]
      rfl
    · rw [h.hs, lay_more _ _ _ _ hg]
  · have a1 : x.f0 = 1 := by omega
    rw [take_keep a1 hx0]
    unfold jalousieref08_Normal.pre
    by_cases hgm : 0 < q.gone.length + q.made.length
    · rw [if_pos ⟨a1, List.length_pos_iff.2 hx0, hgm⟩]
      unfold jalousieref08_Normal.add
      rw [if_pos a1]
      have hlast : ∀ y ∈ (jalousieref08_Normal.fin q).getLast?, y.f0 = 2 ∨ y.f0 = 3 := by
        intro y hy
        unfold jalousieref08_Normal.fin at hy
        rcases lay_last _ _ _ y hy with h1 | ⟨h1, h2⟩
        · exact .inr h1.2
        · rcases lay_last _ _ _ y h2 with h3 | ⟨h3, h4⟩
          · exact .inl h3.2
          · rw [h1, h3] at hgm
            simp at hgm
      refine ⟨?_, rfl, fun _ => by simpa using hx0, hlast⟩
      show script_normal.add (script_normal.add s 3 w) 1 x.f1 = _
      rw [rel_fin h, lay_add _ 1 _ (fun y hy => by rcases hlast y hy with h1 | h1 <;> omega)]
      rfl
    · rw [if_neg (by omega)]
      unfold jalousieref08_Normal.add
      rw [if_pos a1]
      have hg : q.gone = [] := List.eq_nil_of_length_eq_zero (by omega)
      have hm : q.made = [] := List.eq_nil_of_length_eq_zero (by omega)
      refine ⟨?_, hm.symm, fun _ => by simp [hx0], h.ho⟩
      show script_normal.add (script_normal.add s 3 w) 1 x.f1 = _
      rw [h.hw, hm, add_nil, h.hs, hg, lay_nil, lay_nil]
      show script_normal.add (jalousieref08_lay.p q.out 1 q.keep) 1 x.f1 = jalousieref08_lay.p q.out 1 (q.keep ++ x.f1)
      by_cases hk : q.keep = []
      · have ho : q.out = [] := Classical.byContradiction fun e => h.hk e hk
        rw [hk, ho, lay_nil, List.nil_append, lay_add [] 1 _ (by simp)]
      · exact lay_more _ _ _ _ hk
/-- The normal form, and what is wrong. -/
def nrm (s : List S47) : List S47 × Int := if chk s = 0 then (script_normal.p s, 0) else ([], chk s)
theorem nrm_ev (s : List S47) (hf : Fit s) : Ev (fun k => script_Normal.f k s) (nrm s) := by
  unfold script_Normal.f nrm
  refine Ev.bind (chk_ev s hf) ?_
  by_cases h : chk s = 0
  · refine ev_pos h ?_
    rw [if_pos h]
    obtain ⟨h1, h2, h3⟩ := chk_zero.1 h
    exact ev_bind (a := script_normal.p s) (by unfold script_normal.f; rw [if_pos ⟨by omega, by rw [nl_lines]; omega⟩]) (ev_some rfl)
  · refine ev_neg h ?_
    rw [if_neg h]
    exact ev_some rfl
end Go.Proofs.Ytfnbodjmmkjlcaa.H
namespace Go.Proofs.Ytfnbodjmmkjlcaa.H
open Go.RowKit Go.Proofs.YtfnbodjmmkjlcaaW.PrintWords Go.Proofs.YtfnbodjmmkjlcaaW.PrintLast Go.Proofs.YtfnbodjmmkjlcaaW.PrintMore
set_option linter.unusedVariables false
set_option linter.unusedSimpArgs false
theorem good_len : ∀ (s : List S47), (∀ x ∈ s, good x) → s.length ≤ nl s
  | [], _ => Nat.le_refl _
  | x :: t, h => by
    have := good_len t fun y hy => h y (List.mem_cons_of_mem _ hy)
    have := List.length_pos_iff.2 (h x (by simp)).2
    rw [nl_cons, List.length_cons]
    omega
theorem good_fit (s : List S47) (h : nl s ≤ 1000000) (hg : ∀ x ∈ s, good x) : Fit s := by
  have hl := good_len s hg
  refine ⟨by omega, fun x hx => ?_⟩
  have : x.f1.length ≤ nl s := by
    clear h hg hl
    induction s with
    | nil => cases hx
    | cons y t ih =>
      rw [nl_cons]
      rcases List.mem_cons.1 hx with rfl | hx
      · omega
      · have := ih hx
        omega
  omega
theorem nf_good : ∀ (n : List S47), Nf n → ∀ x ∈ n, good x
  | [], _, x, hx => by cases hx
  | y :: t, h, x, hx => by
    rcases List.mem_cons.1 hx with rfl | hx
    · exact h.1
    · exact nf_good t h.2.2 x hx
end Go.Proofs.Ytfnbodjmmkjlcaa.H
namespace Go.Proofs.Ytfnbodjmmkjlcaa.H
open Go.RowKit Go.Proofs.YtfnbodjmmkjlcaaW.PrintWords Go.Proofs.YtfnbodjmmkjlcaaW.PrintLast Go.Proofs.YtfnbodjmmkjlcaaW.PrintMore
set_option linter.unusedVariables false
set_option linter.unusedSimpArgs false
end Go.Proofs.Ytfnbodjmmkjlcaa.H
namespace Go.Proofs.Ytfnbodjmmkjlcaa.H
open Go.RowKit Go.Proofs.YtfnbodjmmkjlcaaW.PrintWords Go.Proofs.YtfnbodjmmkjlcaaW.PrintLast Go.Proofs.YtfnbodjmmkjlcaaW.PrintMore
set_option linter.unusedVariables false
set_option linter.unusedSimpArgs false
theorem fit_of (s : List S47) (h : s.length * 32 ≤ 140737488351232 ∧ ∀ y_ ∈ s, sz47 y_) : Fit s := by
  refine ⟨by omega, fun x hx => ?_⟩
  have := (h.2 x hx).2.1
  omega
end Go.Proofs.Ytfnbodjmmkjlcaa.H
namespace Go.Proofs.Ytfnbodjmmkjlcaa.H
open Go.RowKit Go.Proofs.YtfnbodjmmkjlcaaW.PrintWords Go.Proofs.YtfnbodjmmkjlcaaW.PrintLast Go.Proofs.YtfnbodjmmkjlcaaW.PrintMore
set_option linter.unusedVariables false
set_option linter.unusedSimpArgs false
/-- Is a hunk right, but for where it stands? -/
def rightB (h : S44) : Bool := decide (chk h.f4 = 0) && decide (script_normal.p h.f4 = h.f4) && decide (0 < chg h.f4) && decide (((side h.f4 3).length : Int) = h.f1) && decide (((side h.f4 2).length : Int) = h.f3) && decide (h.f1 ≤ 400) && decide (h.f3 ≤ 400)
theorem right_iff (h : S44) : rightB h = true ↔ chk h.f4 = 0 ∧ script_normal.p h.f4 = h.f4 ∧ 0 < chg h.f4 ∧ ((side h.f4 3).length : Int) = h.f1 ∧ ((side h.f4 2).length : Int) = h.f3 ∧ h.f1 ≤ 400 ∧ h.f3 ≤ 400 := by
  unfold rightB
  simp only [Bool.and_eq_true, decide_eq_true_eq, and_assoc]
/-- Where it stands, behind what came ahead. -/
def posB (a b : Int) (h : S44) : Bool := decide (0 ≤ h.f0 ∧ h.f0 ≤ 400) && decide (0 ≤ h.f2 ∧ h.f2 ≤ 400) && decide (a ≤ h.f0) && decide (h.f0 - a = h.f2 - b)
theorem pos_iff (a b : Int) (h : S44) : posB a b h = true ↔ (0 ≤ h.f0 ∧ h.f0 ≤ 400) ∧ (0 ≤ h.f2 ∧ h.f2 ≤ 400) ∧ a ≤ h.f0 ∧ h.f0 - a = h.f2 - b := by
  unfold posB
  simp only [Bool.and_eq_true, decide_eq_true_eq, and_assoc]
theorem far_pos (a b : Int) (h : S44) : hunk_Check.far a b h.f0 h.f2 = !posB a b h := rfl
def chkA : List S44 → Int → Int → Int
  | [], _, _ => 0
  | h :: t, a, b => if (rightB h && posB a b h) = true then chkA t (h.f0 + h.f1) (h.f2 + h.f3) else 3
def anyLim (l : List S44) : Bool := l.any fun h => decide (chk h.f4 = 4)
/-- What is wrong with hunks. -/
def chkH (l : List S44) : Int := if 400 < l.length then 4 else if anyLim l = true then 4 else chkA l 0 0
theorem within_ev (n : Int) : hunk_within.f n = some (decide (0 ≤ n ∧ n ≤ 400)) := hunk_Check.within_eq n
theorem right_ev (h : S44) (hf : Fit h.f4) : Ev (fun k => hunk_right.f k h.f0 h.f1 h.f2 h.f3 h.f4) (rightB h) := by
  unfold hunk_right.f
  refine Ev.bind (nrm_ev _ hf) (Ev.bind (sides_ev _ hf) ?_)
  unfold nrm sds
  by_cases hc : chk h.f4 = 0
  · rw [if_pos hc, if_pos hc]
    obtain ⟨h1, h2, h3⟩ := chk_zero.1 hc
    have hn : nl (script_normal.p h.f4) = nl h.f4 := p_nl _
    have hlen := nf_len _ (p_nf h.f4 h3)
    have hfp : Fit (script_normal.p h.f4) := ⟨by omega, fun x hx => by
      have hx2 : x.f1.length ≤ nl (script_normal.p h.f4) := by
        generalize script_normal.p h.f4 = s at hx
        induction s with
        | nil => cases hx
        | cons y t ih =>
          rw [nl_cons]
          rcases List.mem_cons.1 hx with rfl | hx
          · omega
          · have := ih hx
            omega
      omega⟩
    refine ev_pos rfl (Ev.bind (eeq_ev _ _ hfp) ?_)
    by_cases e1 : script_normal.p h.f4 = h.f4
    · refine ev_pos (decide_eq_true e1) (Ev.bind (chg_ev (script_normal.p h.f4) (by omega) (by omega)) ?_)
      rw [e1]
      by_cases e2 : 0 < chg h.f4
      · refine ev_pos (by omega) ?_
        by_cases e3 : ((side h.f4 3).length : Int) = h.f1
        · refine ev_pos e3 ?_
          by_cases e4 : ((side h.f4 2).length : Int) = h.f3
          · refine ev_pos e4 (ev_bind (within_ev _) ?_)
            by_cases e5 : h.f1 ≤ 400
            · refine ev_pos (decide_eq_true ⟨by omega, e5⟩) (ev_bind (within_ev _) (ev_some ?_))
              unfold rightB
              rw [decide_eq_true hc, decide_eq_true e1, decide_eq_true e2, decide_eq_true e3, decide_eq_true e4, decide_eq_true e5]
              by_cases e6 : h.f3 ≤ 400
              · rw [decide_eq_true e6, decide_eq_true ⟨by omega, e6⟩]
                rfl
              · rw [decide_eq_false e6, decide_eq_false (by omega)]
                rfl
            · refine ev_neg (by simp; omega) (ev_some ?_)
              unfold rightB
              rw [decide_eq_false e5]
              simp
          · refine ev_neg e4 (ev_some ?_)
            unfold rightB
            rw [decide_eq_false e4]
            simp
        · refine ev_neg e3 (ev_some ?_)
          unfold rightB
          rw [decide_eq_false e3]
          simp
      · refine ev_neg (by omega) (ev_some ?_)
        unfold rightB
        rw [decide_eq_false e2]
        simp
    · refine ev_neg (by rw [decide_eq_false e1]; simp) (ev_some ?_)
      unfold rightB
      rw [decide_eq_false e1]
      simp
  · rw [if_neg hc, if_neg hc]
    refine ev_neg hc (ev_some ?_)
    unfold rightB
    rw [decide_eq_false hc]
    simp
theorem fitH_cons {h : S44} {t : List S44} (hf : FitH (h :: t)) : FitH t := ⟨Nat.le_trans (Nat.le_succ _) hf.1, fun x hx => hf.2 x (List.mem_cons_of_mem _ hx)⟩
theorem has_ev : ∀ (l : List S44), FitH l → Ev (fun k => hunk_Check.has k l) (anyLim l)
  | [], _ => ev_some rfl
  | h :: t, hf => by
    simp only [hunk_Check.has]
    refine Ev.bind (chk_ev _ (hf.2 h (by simp))) ?_
    by_cases e : chk h.f4 = 4
    · refine ev_pos e (ev_some ?_)
      simp [anyLim, e]
    · refine ev_neg e (ev_cast (has_ev t (fitH_cons hf)) ?_)
      simp [anyLim, e]
theorem all_ev : ∀ (l : List S44) (a b : Int), FitH l → 0 ≤ a → a ≤ 800 → 0 ≤ b → b ≤ 800 → Ev (fun k => hunk_Check.all k l a b) (chkA l a b)
  | [], _, _, _, _, _, _, _ => ev_some rfl
  | h :: t, a, b, hf, h1, h2, h3, h4 => by
    simp only [hunk_Check.all, chkA]
    refine ev_pos ⟨h1, h2, h3, h4⟩ (Ev.bind (right_ev h (hf.2 h (by simp))) ?_)
    by_cases e : rightB h = true
    · refine ev_neg (by rw [e]; simp) ?_
      rw [far_pos]
      by_cases e2 : posB a b h = true
      · obtain ⟨_, _, _, h5, h6, h7, h8⟩ := (right_iff h).1 e
        obtain ⟨h9, h10, _⟩ := (pos_iff a b h).1 e2
        refine ev_neg (by rw [e2]; simp) (ev_pos (by omega) ?_)
        refine ev_cast (all_ev t _ _ (fitH_cons hf) (by omega) (by omega) (by omega) (by omega)) ?_
        rw [if_pos (by rw [e, e2]; rfl)]
      · refine ev_pos (by simp [e2]) (ev_some ?_)
        rw [if_neg (by simp [e2])]
    · refine ev_pos (by simpa using e) (ev_some ?_)
      rw [if_neg (by simp [e])]
theorem hcheck_ev (l : List S44) (hf : FitH l) : Ev (fun k => hunk_Check.f k l) (chkH l) := by
  unfold hunk_Check.f chkH
  by_cases h : 400 < l.length
  · exact ev_pos h (ev_some (by rw [if_pos h]))
  · refine ev_neg h (Ev.bind (has_ev l hf) ?_)
    rw [if_neg h]
    by_cases e : anyLim l = true
    · exact ev_pos e (ev_some (by rw [if_pos e]))
    · refine ev_neg e ?_
      rw [if_neg e]
      exact all_ev l 0 0 hf (by omega) (by omega) (by omega) (by omega)
/-- All that is asked of a hunk. -/
def okH (a b : Int) (h : S44) : Prop := (chk h.f4 = 0 ∧ script_normal.p h.f4 = h.f4 ∧ 0 < chg h.f4 ∧ ((side h.f4 3).length : Int) = h.f1 ∧ ((side h.f4 2).length : Int) = h.f3 ∧ h.f1 ≤ 400 ∧ h.f3 ≤ 400) ∧ (0 ≤ h.f0 ∧ h.f0 ≤ 400) ∧ (0 ≤ h.f2 ∧ h.f2 ≤ 400) ∧ a ≤ h.f0 ∧ h.f0 - a = h.f2 - b
theorem okH_iff (a b : Int) (h : S44) : (rightB h && posB a b h) = true ↔ okH a b h := by
  rw [Bool.and_eq_true, right_iff, pos_iff]
  rfl
theorem chkA_ok {a b : Int} {h : S44} {t : List S44} (hn : okH a b h) : chkA t (h.f0 + h.f1) (h.f2 + h.f3) = chkA (h :: t) a b := by
  rw [chkA, if_pos ((okH_iff a b h).2 hn)]
end Go.Proofs.Ytfnbodjmmkjlcaa.H
namespace Go.Proofs.Ytfnbodjmmkjlcaa.H
open Go.RowKit Go.Proofs.YtfnbodjmmkjlcaaW.PrintWords Go.Proofs.YtfnbodjmmkjlcaaW.PrintLast Go.Proofs.YtfnbodjmmkjlcaaW.PrintMore
set_option linter.unusedVariables false
set_option linter.unusedSimpArgs false
/-- The edits of a whole text, before they are a normal form; none: the hunks do not fit. -/
def whl (A : List S66) : List S44 → Nat → List S47 → Option (List S47)
  | [], x, out => some (out ++ [⟨1, A.drop x⟩])
  | h :: t, x, out => if h.f0 + h.f1 ≤ (A.length : Int) ∧ side h.f4 3 = (A.take (h.f0 + h.f1).toNat).drop h.f0.toNat then whl A t (h.f0 + h.f1).toNat (out ++ [⟨1, (A.take h.f0.toNat).drop x⟩] ++ h.f4) else none
def whlR (o : Option (List S47)) : List S47 × Int := match o with
  | none => ([], 8)
  | some e => nrm e
/-- What Whole tells. -/
def whole (l : List S44) (A : List S66) : List S47 × Int := if chkH l = 0 then (if 400 < A.length then ([], 4) else whlR (whl A l 0 [])) else ([], chkH l)
theorem chk_elem (s : List S47) (h : nl s ≤ 800) : ∀ x ∈ s, x.f1.length ≤ 800 := by
  induction s with
  | nil => intro x hx; cases hx
  | cons y t ih =>
    intro x hx
    rw [nl_cons] at h
    rcases List.mem_cons.1 hx with rfl | hx
    · omega
    · exact ih (by omega) x hx
theorem whole_l (A : List S66) (l : List S44) (hA : A.length ≤ 400) (hf : FitH l) (hl : l.length ≤ 400) : ∀ (d i : Nat) (a b : Int) (out : List S47), i + d = l.length → chkA (l.drop i) a b = 0 → 0 ≤ a → a ≤ A.length → out.length + 802 * d ≤ 400000 → (∀ x ∈ out, x.f1.length ≤ 800) →
    Ev (fun k => hunk_Whole.l0 k A out a l (l.length : Int) (i : Int)) (whlR (whl A (l.drop i) a.toNat out))
  | 0, i, a, b, out, h, hc, ha, hb, ho, hx => by
    refine ev_succ ?_
    simp only [hunk_Whole.l0]
    (repeat (first | refine ev_pos (by omega) ?_ | refine ev_neg (by omega) ?_))
    rw [List.drop_of_length_le (l := l) (i := i) (by omega)]
    simp only [whl, whlR]
    refine ev_cast (Ev.bind (nrm_ev _ ⟨by simp; omega, ?_⟩) (ev_some rfl)) rfl
    intro x hxm
    rcases List.mem_append.1 hxm with hxm | hxm
    · have := hx x hxm
      omega
    · simp at hxm
      subst hxm
      simp
      omega
  | d + 1, i, a, b, out, h, hc, ha, hb, ho, hx => by
    have hm := hf.2 _ (getD_mem (l := l) (i := i) (by omega) z44)
    rw [drop_cons l i (by omega) z44] at hc ⊢
    refine ev_succ ?_
    simp only [hunk_Whole.l0, rdH, whl]
    (repeat (first | refine ev_pos (by omega) ?_ | refine ev_neg (by omega) ?_))
    generalize l.getD i z44 = x at hm hc ⊢
    have hok : okH a b x := by
      rw [← okH_iff]
      refine Classical.byContradiction fun e => ?_
      rw [chkA, if_neg e] at hc
      cases hc
    rw [← chkA_ok hok] at hc
    obtain ⟨⟨o1, o2, o3, o4, o5, o6, o7⟩, ⟨o8, o9⟩, ⟨o10, o11⟩, o12, o13⟩ := hok
    obtain ⟨c1, c2, c3⟩ := chk_zero.1 o1
    refine Ev.bind (sides_ev _ hm) ?_
    unfold sds
    rw [if_pos o1]
    simp only
    rw [w64i (x.f0 + x.f1) (by omega) (by omega)]
    by_cases e1 : x.f0 + x.f1 > (A.length : Int)
    · refine ev_pos e1 (ev_some ?_)
      rw [if_neg (by omega)]
      rfl
    · refine ev_neg e1 ?_
      refine ev_pos o8 (ev_pos (by omega) (ev_pos (by omega) ?_))
      refine Ev.bind (leq_ev _ _ (by omega)) ?_
      by_cases e2 : side x.f4 3 = (A.take (x.f0 + x.f1).toNat).drop x.f0.toNat
      · refine ev_pos (decide_eq_true e2) ?_
        rw [if_pos ⟨by omega, e2⟩]
        refine ev_pos ha (ev_pos o12 (ev_pos (by omega) (ev_pos (by omega) ?_)))
        simp only [Option.bind_some]
        refine ev_pos (by simp; omega) ?_
        rw [w64s i (by omega)]
        refine ev_cast (whole_l A l hA hf hl d (i + 1) (x.f0 + x.f1) (x.f2 + x.f3) _ (by omega) hc (by omega) (by omega) (by simp; omega) ?_) rfl
        intro y hy
        rcases List.mem_append.1 hy with hy | hy
        · rcases List.mem_append.1 hy with hy | hy
          · exact hx y hy
          · simp at hy
            subst hy
            simp
            omega
        · exact chk_elem _ c2 y hy
      · refine ev_neg (by rw [decide_eq_false e2]; simp) (ev_some ?_)
        rw [if_neg (fun h => e2 h.2)]
        rfl
theorem whole_ev (l : List S44) (A : List S66) (hf : FitH l) : Ev (fun k => hunk_Whole.f k l A) (whole l A) := by
  unfold hunk_Whole.f whole
  refine Ev.bind (hcheck_ev l hf) ?_
  by_cases hc : chkH l = 0
  · refine ev_pos hc ?_
    rw [if_pos hc]
    by_cases hA : 400 < A.length
    · refine ev_pos (by omega) (ev_some ?_)
      rw [if_pos hA]
    · refine ev_neg (by omega) ?_
      rw [if_neg hA]
      unfold chkH at hc
      by_cases h1 : 400 < l.length
      · rw [if_pos h1] at hc
        cases hc
      rw [if_neg h1] at hc
      by_cases h2 : anyLim l = true
      · rw [if_pos h2] at hc
        cases hc
      rw [if_neg h2] at hc
      have := whole_l A l (by omega) hf (by omega) l.length 0 0 0 [] (by omega) (by rw [List.drop_zero]; exact hc) (by omega) (by omega) (by simp; omega) (by simp)
      rw [List.drop_zero] at this
      exact this
  · refine ev_neg hc (ev_some ?_)
    rw [if_neg hc]
end Go.Proofs.Ytfnbodjmmkjlcaa.H
namespace Go.Proofs.Ytfnbodjmmkjlcaa.H
open Go.RowKit Go.Proofs.YtfnbodjmmkjlcaaW.PrintWords Go.Proofs.YtfnbodjmmkjlcaaW.PrintLast Go.Proofs.YtfnbodjmmkjlcaaW.PrintMore
set_option linter.unusedVariables false
set_option linter.unusedSimpArgs false
end Go.Proofs.Ytfnbodjmmkjlcaa.H
namespace Go.Proofs.Ytfnbodjmmkjlcaa.H
open Go.RowKit Go.Proofs.YtfnbodjmmkjlcaaW.PrintWords Go.Proofs.YtfnbodjmmkjlcaaW.PrintLast Go.Proofs.YtfnbodjmmkjlcaaW.PrintMore
set_option linter.unusedVariables false
set_option linter.unusedSimpArgs false
/-- May a text's lines be so? No line break in a line; only the last one bare, and that not empty. -/
def rgt : List S66 → Bool
  | [] => true
  | x :: t => !(x.f0.data.toList.contains 10) && (!x.f1 || (t.isEmpty && !(x.f0.data.toList.isEmpty))) && rgt t
theorem right_l0 (s : List S66) (hs : s.length ≤ 9000000000000000000) : ∀ (d i : Nat), i + d = s.length → Ev (fun k => text_Right.l0 k s s (s.length : Int) (i : Int)) (rgt (s.drop i))
  | 0, i, h => by
    refine ev_succ ?_
    simp only [text_Right.l0]
    (repeat (first | refine ev_pos (by omega) ?_ | refine ev_neg (by omega) ?_))
    rw [List.drop_of_length_le (by omega)]
    exact ev_some rfl
  | d + 1, i, h => by
    have ih := right_l0 s hs d (i + 1) (by omega)
    rw [drop_cons s i (by omega) z66]
    have hemp : ((s.drop (i + 1)).isEmpty = true) ↔ d = 0 := by
      rw [List.isEmpty_iff, List.drop_eq_nil_iff]
      omega
    refine ev_succ ?_
    simp only [text_Right.l0, rdL, rgt, strings_IndexByte.f, Option.bind_some]
    rw [w64s i (by omega), w64i ((s.length : Int) - 1) (by omega) (by omega)]
    generalize s.getD i z66 = x
    refine ev_pos (by omega) (ev_pos (by omega) (ev_pos (by omega) ?_))
    have hc := Lib.contains_iff_indexByte x.f0.data.toList 10
    have h10 : Int.toNat 10 = 10 := rfl
    rw [h10, show (10 : Nat).toUInt8 = 10 from rfl]
    by_cases h1 : Lib.indexByte x.f0.data.toList 10 ≥ 0
    · refine ev_pos h1 (ev_some ?_)
      rw [hc, decide_eq_true h1]
      rfl
    · refine ev_neg h1 ?_
      rw [hc, decide_eq_false h1]
      by_cases h2 : x.f1 = true
      · refine ev_pos h2 ?_
        by_cases h3 : d = 0
        · refine ev_neg (by omega) ?_
          rw [hemp.2 h3, h2]
          by_cases h4 : x.f0.toList = []
          · refine ev_pos h4 (ev_some ?_)
            rw [ba_toList] at h4
            rw [h4]
            rfl
          · refine ev_neg h4 (ev_cast ih ?_)
            rw [ba_toList] at h4
            cases hq : x.f0.data.toList with
            | nil => exact absurd hq h4
            | cons _ _ => simp
        · refine ev_pos (by omega) (ev_some ?_)
          rw [h2, show (s.drop (i + 1)).isEmpty = false from by rw [Bool.eq_false_iff]; exact fun h => h3 (hemp.1 h)]
          rfl
      · refine ev_neg h2 (ev_cast ih ?_)
        rw [Bool.eq_false_iff.2 h2]
        simp
theorem tright_ev (s : List S66) (hs : s.length ≤ 9000000000000000000) : Ev (fun k => text_Right.f k s) (rgt s) := by
  unfold text_Right.f
  exact ev_cast (right_l0 s hs s.length 0 (by omega)) (by simp)
/-- What Apply of a script tells. -/
def apl (s : List S47) (A : List S66) : List S66 × Int := if chk s = 0 then (if side s 3 = A then (side s 2, 0) else ([], 8)) else ([], chk s)
theorem apply_ev (s : List S47) (A : List S66) (hf : Fit s) : Ev (fun k => script_Apply.f k s A) (apl s A) := by
  unfold script_Apply.f apl
  refine Ev.bind (sides_ev s hf) ?_
  unfold sds
  by_cases h : chk s = 0
  · rw [if_pos h, if_pos h]
    have hl := (chk_zero.1 h).2.1
    have h3 := side_len s 3
    refine ev_pos rfl (Ev.bind (leq_ev _ _ (by show (side s 3).length ≤ _; omega)) ?_)
    by_cases e : side s 3 = A
    · rw [if_pos e]
      exact ev_pos (decide_eq_true e) (ev_some rfl)
    · rw [if_neg e]
      exact ev_neg (by rw [decide_eq_false e]; simp) (ev_some rfl)
  · rw [if_neg h, if_neg h]
    exact ev_neg h (ev_some rfl)
theorem whl_side (A : List S66) : ∀ (l : List S44) (a b : Int) (out e : List S47), chkA l a b = 0 → 0 ≤ a → a ≤ A.length → side out 3 = A.take a.toNat → whl A l a.toNat out = some e → side e 3 = A
  | [], a, b, out, e, _, h0, h1, hs, h => by
    simp only [whl, Option.some.injEq] at h
    subst h
    rw [side_append, hs, side_cons]
    simp [side]
  | x :: t, a, b, out, e, hc, h0, h1, hs, h => by
    have hok : okH a b x := by
      rw [← okH_iff]
      refine Classical.byContradiction fun e => ?_
      rw [chkA, if_neg e] at hc
      cases hc
    rw [← chkA_ok hok] at hc
    obtain ⟨⟨o1, o2, o3, o4, o5, o6, o7⟩, ⟨o8, o9⟩, ⟨o10, o11⟩, o12, o13⟩ := hok
    rw [whl] at h
    by_cases hq : x.f0 + x.f1 ≤ (A.length : Int) ∧ side x.f4 3 = (A.take (x.f0 + x.f1).toNat).drop x.f0.toNat
    · rw [if_pos hq] at h
      refine whl_side A t (x.f0 + x.f1) (x.f2 + x.f3) _ e hc (by omega) hq.1 ?_ h
      rw [side_append, side_append, hs, hq.2, side_cons]
      have hm : side ([] : List S47) 3 = [] := rfl
      rw [hm, List.append_nil, if_neg (show ¬ (1 : Int) = 3 by decide)]
      have e1 : A.take a.toNat ++ (A.take x.f0.toNat).drop a.toNat = A.take x.f0.toNat := by
        have := List.take_append_drop a.toNat (A.take x.f0.toNat)
        rwa [List.take_take, Nat.min_eq_left (by omega)] at this
      rw [e1]
      have := List.take_append_drop x.f0.toNat (A.take (x.f0 + x.f1).toNat)
      rwa [List.take_take, Nat.min_eq_left (by omega)] at this
    · rw [if_neg hq] at h
      cases h
theorem chkH_zero {l : List S44} (h : chkH l = 0) : l.length ≤ 400 ∧ anyLim l = false ∧ chkA l 0 0 = 0 := by
  unfold chkH at h
  by_cases h1 : 400 < l.length
  · rw [if_pos h1] at h
    cases h
  rw [if_neg h1] at h
  by_cases h2 : anyLim l = true
  · rw [if_pos h2] at h
    cases h
  rw [if_neg h2] at h
  exact ⟨by omega, Bool.eq_false_iff.2 h2, h⟩
theorem nf_chk (n : List S47) (h : Nf n) (hl : nl n ≤ 800) : chk n = 0 := chk_zero.2 ⟨Nat.le_trans (nf_len n h) hl, hl, nf_allok n h⟩
theorem whole_ok {l : List S44} {A : List S66} (h : (whole l A).2 = 0) : chk (whole l A).1 = 0 ∧ side (whole l A).1 3 = A ∧ Nf (whole l A).1 := by
  unfold whole at h ⊢
  by_cases h1 : chkH l = 0
  · rw [if_pos h1] at h ⊢
    by_cases h2 : 400 < A.length
    · rw [if_pos h2] at h
      cases h
    rw [if_neg h2] at h ⊢
    unfold whlR at h ⊢
    cases hw : whl A l 0 [] with
    | none =>
      rw [hw] at h
      cases h
    | some e =>
      rw [hw] at h
      simp only [nrm] at h ⊢
      have hs := whl_side A l 0 0 [] e (chkH_zero h1).2.2 (by omega) (by omega) (by simp [side]) hw
      by_cases hc : chk e = 0
      · rw [if_pos hc]
        obtain ⟨c1, c2, c3⟩ := chk_zero.1 hc
        refine ⟨nf_chk _ (p_nf e c3) (by rw [p_nl]; exact c2), ?_, p_nf e c3⟩
        rw [p_side3 e c3]
        exact hs
      · rw [if_neg hc] at h
        exact absurd h hc
  · rw [if_neg h1] at h
    exact absurd h h1
theorem whole_fit (l : List S44) (A : List S66) : Fit (whole l A).1 := by
  by_cases h : (whole l A).2 = 0
  · obtain ⟨h1, h2, h3⟩ := whole_ok h
    exact good_fit _ (by have := (chk_zero.1 h1).2.1; omega) (nf_good _ h3)
  · have e : (whole l A).1 = [] := by
      unfold whole at h ⊢
      by_cases h1 : chkH l = 0
      · rw [if_pos h1] at h ⊢
        by_cases h2 : 400 < A.length
        · rw [if_pos h2]
        · rw [if_neg h2] at h ⊢
          unfold whlR at h ⊢
          cases hw : whl A l 0 [] with
          | none => rfl
          | some e =>
            rw [hw] at h
            simp only [nrm] at h ⊢
            by_cases hc : chk e = 0
            · rw [if_pos hc] at h
              exact absurd rfl h
            · rw [if_neg hc]
      · rw [if_neg h1]
    rw [e]
    exact ⟨by simp, fun x hx => by cases hx⟩
/-- The script of a whole text, its new side, and what is wrong. -/
def wh (l : List S44) (A : List S66) : List S47 × List S66 × Int := if (whole l A).2 = 0 then (if 400 < (side (whole l A).1 2).length then ([], [], 4) else if rgt (side (whole l A).1 2) = true then ((whole l A).1, side (whole l A).1 2, 0) else ([], [], 3)) else ([], [], (whole l A).2)
theorem wh_ev (l : List S44) (A : List S66) (hf : FitH l) : Ev (fun k => patch_whole.f k l A) (wh l A) := by
  unfold patch_whole.f wh
  refine Ev.bind (whole_ev l A hf) ?_
  by_cases h : (whole l A).2 = 0
  · obtain ⟨h1, h2, h3⟩ := whole_ok h
    rw [if_pos h]
    refine ev_pos h (Ev.bind (apply_ev _ A (whole_fit l A)) ?_)
    unfold apl
    rw [if_pos h1, if_pos h2]
    refine ev_pos rfl ?_
    by_cases h4 : 400 < (side (whole l A).1 2).length
    · rw [if_pos h4]
      exact ev_pos (by simp only; omega) (ev_some rfl)
    · rw [if_neg h4]
      refine ev_neg (by simp only; omega) (Ev.bind (tright_ev _ (by show (side (whole l A).1 2).length ≤ _; omega)) ?_)
      by_cases h5 : rgt (side (whole l A).1 2) = true
      · exact ev_pos h5 (ev_some (by rw [if_pos h5]))
      · exact ev_neg h5 (ev_some (by rw [if_neg h5]))
  · rw [if_neg h]
    exact ev_neg h (ev_some rfl)
theorem wh_ok {l : List S44} {A : List S66} (h : (wh l A).2.2 = 0) : chk (wh l A).1 = 0 ∧ side (wh l A).1 3 = A ∧ side (wh l A).1 2 = (wh l A).2.1 ∧ (wh l A).2.1.length ≤ 400 := by
  unfold wh at h ⊢
  by_cases h1 : (whole l A).2 = 0
  · rw [if_pos h1] at h ⊢
    by_cases h2 : 400 < (side (whole l A).1 2).length
    · rw [if_pos h2] at h
      cases h
    rw [if_neg h2] at h ⊢
    by_cases h3 : rgt (side (whole l A).1 2) = true
    · rw [if_pos h3] at h ⊢
      obtain ⟨w1, w2, w3⟩ := whole_ok h1
      exact ⟨w1, w2, rfl, by simp only; omega⟩
    · rw [if_neg h3] at h
      cases h
  · rw [if_neg h1] at h
    exact absurd h h1
theorem wh_bad {l : List S44} {A : List S66} (h : (wh l A).2.2 ≠ 0) : (wh l A).1 = [] ∧ (wh l A).2.1 = [] := by
  unfold wh at h ⊢
  by_cases h1 : (whole l A).2 = 0
  · rw [if_pos h1] at h ⊢
    by_cases h2 : 400 < (side (whole l A).1 2).length
    · rw [if_pos h2]
      exact ⟨rfl, rfl⟩
    rw [if_neg h2] at h ⊢
    by_cases h3 : rgt (side (whole l A).1 2) = true
    · rw [if_pos h3] at h
      exact absurd rfl h
    · rw [if_neg h3]
      exact ⟨rfl, rfl⟩
  · rw [if_neg h1]
    exact ⟨rfl, rfl⟩
/-- A script's kinds, line by line. -/
def dos (s : List S47) : List Int := s.flatMap fun x => List.replicate x.f1.length x.f0
theorem dos_cons (x : S47) (s : List S47) : dos (x :: s) = List.replicate x.f1.length x.f0 ++ dos s := by simp [dos]
theorem dos_len (s : List S47) : (dos s).length = nl s := by
  induction s with
  | nil => rfl
  | cons x t ih => rw [dos_cons, nl_cons, List.length_append, ih, List.length_replicate]
theorem dos_single (s : List S47) : (single s).map (·.f0) = dos s := by
  induction s with
  | nil => rfl
  | cons x t ih =>
    rw [single_cons, List.map_append, ih, dos_cons]
    congr 1
    unfold one
    rw [List.map_map, show ((fun e : S47 => e.f0) ∘ fun y => (⟨x.f0, [y]⟩ : S47)) = fun _ => x.f0 from rfl, List.map_const']
def pA : List Int → Nat → Nat → List S64
  | [], _, _ => []
  | d :: t, i, j => (if d = 1 then [(⟨(i : Int), (j : Int)⟩ : S64)] else []) ++ pA t (if d = 3 then i else i + 1) (if d = 2 then j else j + 1)
def pG : List Int → Nat → Nat → List Int
  | [], _, _ => []
  | d :: t, i, j => (if d = 2 then [(i : Int)] else []) ++ pG t (if d = 3 then i else i + 1) (if d = 2 then j else j + 1)
def pM : List Int → Nat → Nat → List Int
  | [], _, _ => []
  | d :: t, i, j => (if d = 3 then [(j : Int)] else []) ++ pM t (if d = 3 then i else i + 1) (if d = 2 then j else j + 1)
theorem pA_len : ∀ (u : List Int) (i j : Nat), (pA u i j).length ≤ u.length
  | [], _, _ => Nat.le_refl _
  | d :: t, i, j => by
    have := pA_len t (if d = 3 then i else i + 1) (if d = 2 then j else j + 1)
    rw [pA, List.length_append, List.length_cons]
    generalize pA t _ _ = q at this
    split <;> simp <;> omega
theorem pG_len : ∀ (u : List Int) (i j : Nat), (pG u i j).length ≤ u.length
  | [], _, _ => Nat.le_refl _
  | d :: t, i, j => by
    have := pG_len t (if d = 3 then i else i + 1) (if d = 2 then j else j + 1)
    rw [pG, List.length_append, List.length_cons]
    generalize pG t _ _ = q at this
    split <;> simp <;> omega
theorem pM_len : ∀ (u : List Int) (i j : Nat), (pM u i j).length ≤ u.length
  | [], _, _ => Nat.le_refl _
  | d :: t, i, j => by
    have := pM_len t (if d = 3 then i else i + 1) (if d = 2 then j else j + 1)
    rw [pM, List.length_append, List.length_cons]
    generalize pM t _ _ = q at this
    split <;> simp <;> omega
def stp {σ : Type} (step : σ → Int → Nat → Nat → σ) (q : σ × Nat × Nat) (d : Int) : σ × Nat × Nat := (step q.1 d q.2.1 q.2.2, if d = 3 then q.2.1 else q.2.1 + 1, if d = 2 then q.2.2 else q.2.2 + 1)
theorem one_fold {σ : Type} (step : σ → Int → Nat → Nat → σ) (d : Int) : ∀ (m : Nat) (q : σ × Nat × Nat), patch_walk.one step d m q = (List.replicate m d).foldl (stp step) q
  | 0, q => rfl
  | m + 1, q => by
    rw [patch_walk.one, one_fold step d m, List.replicate_succ, List.foldl_cons]
    rfl
theorem all_fold {σ : Type} (step : σ → Int → Nat → Nat → σ) : ∀ (s : List S47) (q : σ × Nat × Nat), patch_walk.all step s q = (dos s).foldl (stp step) q
  | [], q => rfl
  | x :: t, q => by rw [patch_walk.all, all_fold step t, dos_cons, List.foldl_append, one_fold]
theorem foldA : ∀ (u : List Int) (xs : List S64) (i j : Nat), (u.foldl (stp patch_Apply.step) (xs, i, j)).1 = xs ++ pA u i j
  | [], xs, i, j => by simp [pA]
  | d :: t, xs, i, j => by
    rw [List.foldl_cons, stp, foldA t, pA]
    simp only [patch_Apply.step]
    split <;> simp
theorem foldG : ∀ (u : List Int) (xs : List Int) (i j : Nat), (u.foldl (stp patch_Gone.step) (xs, i, j)).1 = xs ++ pG u i j
  | [], xs, i, j => by simp [pG]
  | d :: t, xs, i, j => by
    rw [List.foldl_cons, stp, foldG t, pG]
    simp only [patch_Gone.step]
    split <;> simp
theorem foldM : ∀ (u : List Int) (xs : List Int) (i j : Nat), (u.foldl (stp patch_Made.step) (xs, i, j)).1 = xs ++ pM u i j
  | [], xs, i, j => by simp [pM]
  | d :: t, xs, i, j => by
    rw [List.foldl_cons, stp, foldM t, pM]
    simp only [patch_Made.step]
    split <;> simp
theorem wh_sizes (l : List S44) (A : List S66) : nl (wh l A).1 ≤ 800 ∧ (wh l A).1.length ≤ 800 := by
  by_cases h : (wh l A).2.2 = 0
  · obtain ⟨h1, h2, h3⟩ := chk_zero.1 (wh_ok h).1
    exact ⟨h2, h1⟩
  · rw [(wh_bad h).1]
    simp [nl]
/-- What Apply tells. -/
theorem papply_ev (l : List S44) (A : List S66) (hf : FitH l) : Ev (fun k => patch_Apply.f k l A) ((wh l A).2.1, pA (dos (wh l A).1) 0 0, (wh l A).2.2) := by
  unfold patch_Apply.f
  refine Ev.bind (wh_ev l A hf) ?_
  obtain ⟨h1, h2⟩ := wh_sizes l A
  refine ev_pos ⟨by show nl _ ≤ _; omega, by omega⟩ (ev_some ?_)
  rw [all_fold, foldA, List.nil_append]
theorem pgone_ev (l : List S44) (A : List S66) (hf : FitH l) : Ev (fun k => patch_Gone.f k l A) (pG (dos (wh l A).1) 0 0, (wh l A).2.2) := by
  unfold patch_Gone.f
  refine Ev.bind (wh_ev l A hf) ?_
  obtain ⟨h1, h2⟩ := wh_sizes l A
  refine ev_pos ⟨by show nl _ ≤ _; omega, by omega⟩ (ev_some ?_)
  rw [all_fold, foldG, List.nil_append]
theorem pmade_ev (l : List S44) (A : List S66) (hf : FitH l) : Ev (fun k => patch_Made.f k l A) (pM (dos (wh l A).1) 0 0, (wh l A).2.2) := by
  unfold patch_Made.f
  refine Ev.bind (wh_ev l A hf) ?_
  obtain ⟨h1, h2⟩ := wh_sizes l A
  refine ev_pos ⟨by show nl _ ≤ _; omega, by omega⟩ (ev_some ?_)
  rw [all_fold, foldM, List.nil_append]
end Go.Proofs.Ytfnbodjmmkjlcaa.H
namespace Go.Proofs.Ytfnbodjmmkjlcaa.H
open Go.RowKit Go.Proofs.YtfnbodjmmkjlcaaW.PrintWords Go.Proofs.YtfnbodjmmkjlcaaW.PrintLast Go.Proofs.YtfnbodjmmkjlcaaW.PrintMore
set_option linter.unusedVariables false
set_option linter.unusedSimpArgs false
theorem live11_ev : Ev (fun k => jalousielaw11_live.f k) true := by
  refine Ev.of (fun k => jalousielaw11_live.mono k) (k := 40) ?_
  decide +kernel
theorem ints_l0 (s : List Int) (hs : s.length ≤ 9000000000000000000) : ∀ (d i : Nat), i + d = s.length → Ev (fun k => jalousieref05_Ints.l0 k s s (i : Int)) true
  | 0, i, h => by
    refine ev_succ ?_
    simp only [jalousieref05_Ints.l0]
    (repeat (first | refine ev_pos (by omega) ?_ | refine ev_neg (by omega) ?_))
    exact ev_some rfl
  | d + 1, i, h => by
    refine ev_succ ?_
    simp only [jalousieref05_Ints.l0]
    rw [w64s i (by omega)]
    refine ev_pos (by omega) (ev_pos (by omega) (ev_pos (by omega) (ev_pos trivial ?_)))
    exact ints_l0 s hs d (i + 1) (by omega)
theorem side_single (s : List S47) (b : Int) : side (single s) b = side s b := by
  induction s with
  | nil => rfl
  | cons x t ih =>
    rw [single_cons, side_append, ih, side_cons]
    congr 1
    unfold one
    generalize x.f1 = ys
    induction ys with
    | nil =>
      split <;> rfl
    | cons y t ih2 =>
      rw [List.map_cons, side_cons, ih2]
      by_cases h : x.f0 = b
      · simp [h]
      · simp [h]
/-- Each line's text is one that a machine holds. -/
def SzL (A : List S66) : Prop := ∀ y ∈ A, y.f0.size ≤ 9000000000000000000
theorem min_ev (n c : Nat) : mn (n : Int) (c : Int) = ((min n c : Nat) : Int) := by
  unfold mn
  split <;> omega
theorem szl_of (A : List S66) (h : ∀ y_ ∈ A, sz66 y_) : SzL A := fun y hy => by
  have := (h y hy).1
  omega
theorem fith_of (l : List S44) (h : l.length * 56 ≤ 140737488351232 ∧ ∀ y_ ∈ l, sz44 y_) (n : Nat) : FitH (l.take n) ∧ ∀ h ∈ l.take n, ∀ x ∈ h.f4, SzL x.f1 := by
  refine ⟨⟨by rw [List.length_take]; omega, fun g hg => ?_⟩, fun g hg x hx => ?_⟩
  · have := (h.2 g (List.mem_of_mem_take hg)).2.2.2.2
    exact fit_of _ this
  · have := (h.2 g (List.mem_of_mem_take hg)).2.2.2.2.2 x hx
    exact szl_of _ this.2.2
end Go.Proofs.Ytfnbodjmmkjlcaa.H
namespace Go.Proofs.Ytfnbodjmmkjlcaa.H
open Go.RowKit Go.Proofs.YtfnbodjmmkjlcaaW.PrintWords Go.Proofs.YtfnbodjmmkjlcaaW.PrintLast Go.Proofs.YtfnbodjmmkjlcaaW.PrintMore
set_option linter.unusedVariables false
set_option linter.unusedSimpArgs false
/-- How often each number below n is there. -/
def cntv (n : Nat) (us : List Nat) : List Int := (List.range n).map fun t => (us.count t : Int)
theorem cntv_len (n : Nat) (us : List Nat) : (cntv n us).length = n := by simp [cntv]
theorem cntv_nil (n : Nat) : cntv n [] = List.replicate n 0 := by
  unfold cntv
  simp [List.map_const']
theorem cntv_get (n : Nat) (us : List Nat) (u : Nat) (h : u < n) : (cntv n us).getD u 0 = (us.count u : Int) := by
  rw [getD_lt (by rw [cntv_len]; exact h)]
  simp [cntv]
theorem cntv_set (n : Nat) (us : List Nat) (u : Nat) (h : u < n) (hl : us.length ≤ 1000000000) : (cntv n us).set u (wrap64 ((cntv n us).getD u 0 + 1)) = cntv n (us ++ [u]) := by
  have hc := List.count_le_length (a := u) (l := us)
  rw [cntv_get n us u h, w64s _ (by omega)]
  refine List.ext_getElem (by simp [cntv]) fun t h1 h2 => ?_
  rw [List.getElem_set]
  simp only [cntv, List.getElem_map, List.getElem_range, List.count_append]
  by_cases e : u = t
  · subst e
    simp
  · rw [if_neg e]
    simp [List.count_singleton, e]
def okP (A B : List S66) (p : S64) : Prop := ∃ a b : Nat, p = ⟨(a : Int), (b : Int)⟩ ∧ a < A.length ∧ b < B.length ∧ A.getD a z66 = B.getD b z66
theorem rdP (l : List S64) (i : Nat) : rd_T64 l (i : Int) = l.getD i z64 := by simp [rd_T64]
theorem parts_l0 (A B : List S66) (P : List S64) (G M : List Int) (r : Bool) (hA : A.length ≤ 1000000) (hB : B.length ≤ 1000000) (hP : P.length ≤ 1000000) (hok : ∀ p ∈ P, okP A B p) : ∀ (d i : Nat) (us vs : List Nat), i + d = P.length → us.length ≤ i → vs.length ≤ i →
    Ev (fun k => jalousielaw11_PatchParts.l1 k A B G M (cntv A.length (us ++ (P.drop i).map (·.f0.toNat))) (cntv B.length (vs ++ (P.drop i).map (·.f1.toNat))) 0) r →
    Ev (fun k => jalousielaw11_PatchParts.l0 k A B P G M (cntv A.length us) (cntv B.length vs) (i : Int)) r
  | 0, i, us, vs, h, hu, hv, hr => by
    rw [List.drop_of_length_le (by omega)] at hr
    refine ev_succ ?_
    simp only [jalousielaw11_PatchParts.l0]
    refine ev_neg (by omega) ?_
    simpa using hr
  | d + 1, i, us, vs, h, hu, hv, hr => by
    obtain ⟨a, b, hp, ha, hb, hab⟩ := hok _ (getD_mem (l := P) (i := i) (by omega) z64)
    rw [drop_cons P i (by omega) z64, hp] at hr
    refine ev_succ ?_
    simp only [jalousielaw11_PatchParts.l0, rdP]
    rw [hp]
    simp only [rdL, rdn, cntv_len, Int.toNat_natCast]
    rw [w64s i (by omega), line_ne, decide_eq_true hab, cntv_set _ _ _ ha (by omega), cntv_set _ _ _ hb (by omega)]
    refine ev_pos (by omega) (ev_pos (by omega) (ev_neg (by omega) (ev_neg (by omega) (ev_neg (by omega) (ev_neg (by omega) (ev_pos (by omega) (ev_pos (by omega) (ev_pos (by omega) (ev_pos (by omega) (ev_neg (by simp) (ev_pos (by omega) (ev_pos (by omega) ?_))))))))))))
    refine parts_l0 A B P G M r hA hB hP hok d (i + 1) (us ++ [a]) (vs ++ [b]) (by omega) (by simp; omega) (by simp; omega) ?_
    simpa using hr
theorem parts_l1 (A B : List S66) (G M : List Int) (r : Bool) (c : List Int) (hA : A.length ≤ 1000000) (hG : G.length ≤ 1000000) (hok : ∀ g ∈ G, ∃ a : Nat, g = (a : Int) ∧ a < A.length) : ∀ (d i : Nat) (us : List Nat), i + d = G.length → us.length ≤ 1000000 + i →
    Ev (fun k => jalousielaw11_PatchParts.l2 k B M (cntv A.length (us ++ (G.drop i).map Int.toNat)) c 0) r →
    Ev (fun k => jalousielaw11_PatchParts.l1 k A B G M (cntv A.length us) c (i : Int)) r
  | 0, i, us, h, hu, hr => by
    rw [List.drop_of_length_le (by omega)] at hr
    refine ev_succ ?_
    simp only [jalousielaw11_PatchParts.l1]
    refine ev_neg (by omega) ?_
    simpa using hr
  | d + 1, i, us, h, hu, hr => by
    obtain ⟨a, hp, ha⟩ := hok _ (getD_mem (l := G) (i := i) (by omega) 0)
    rw [drop_cons G i (by omega) 0, hp] at hr
    refine ev_succ ?_
    simp only [jalousielaw11_PatchParts.l1, rdn]
    rw [hp]
    simp only [rdn, cntv_len, Int.toNat_natCast]
    rw [w64s i (by omega), cntv_set _ _ _ ha (by omega)]
    refine ev_pos (by omega) (ev_pos (by omega) (ev_neg (by omega) (ev_neg (by omega) (ev_pos (by omega) (ev_pos (by omega) ?_)))))
    refine parts_l1 A B G M r c hA hG hok d (i + 1) (us ++ [a]) (by omega) (by simp; omega) ?_
    simpa using hr
theorem parts_l2 (B : List S66) (M : List Int) (r : Bool) (c : List Int) (hB : B.length ≤ 1000000) (hM : M.length ≤ 1000000) (hok : ∀ g ∈ M, ∃ a : Nat, g = (a : Int) ∧ a < B.length) : ∀ (d i : Nat) (us : List Nat), i + d = M.length → us.length ≤ 1000000 + i →
    Ev (fun k => jalousielaw11_PatchParts.l3 k c (cntv B.length (us ++ (M.drop i).map Int.toNat)) 0) r →
    Ev (fun k => jalousielaw11_PatchParts.l2 k B M c (cntv B.length us) (i : Int)) r
  | 0, i, us, h, hu, hr => by
    rw [List.drop_of_length_le (by omega)] at hr
    refine ev_succ ?_
    simp only [jalousielaw11_PatchParts.l2]
    refine ev_neg (by omega) ?_
    simpa using hr
  | d + 1, i, us, h, hu, hr => by
    obtain ⟨a, hp, ha⟩ := hok _ (getD_mem (l := M) (i := i) (by omega) 0)
    rw [drop_cons M i (by omega) 0, hp] at hr
    refine ev_succ ?_
    simp only [jalousielaw11_PatchParts.l2, rdn]
    rw [hp]
    simp only [rdn, cntv_len, Int.toNat_natCast]
    rw [w64s i (by omega), cntv_set _ _ _ ha (by omega)]
    refine ev_pos (by omega) (ev_pos (by omega) (ev_neg (by omega) (ev_neg (by omega) (ev_pos (by omega) (ev_pos (by omega) ?_)))))
    refine parts_l2 B M r c hB hM hok d (i + 1) (us ++ [a]) (by omega) (by simp; omega) ?_
    simpa using hr
theorem parts_l3 (c e : List Int) (r : Bool) (hc : c.length ≤ 1000000) (h1 : ∀ t, t < c.length → c.getD t 0 = 1) (hr : Ev (fun k => jalousielaw11_PatchParts.l4 k e 0) r) : ∀ (d i : Nat), i + d = c.length → Ev (fun k => jalousielaw11_PatchParts.l3 k c e (i : Int)) r
  | 0, i, h => by
    refine ev_succ ?_
    simp only [jalousielaw11_PatchParts.l3]
    exact ev_neg (by omega) hr
  | d + 1, i, h => by
    refine ev_succ ?_
    simp only [jalousielaw11_PatchParts.l3, rdn]
    rw [w64s i (by omega)]
    exact ev_pos (by omega) (ev_pos (by omega) (ev_pos (h1 i (by omega)) (parts_l3 c e r hc h1 hr d (i + 1) (by omega))))
theorem parts_l4 (c : List Int) (hc : c.length ≤ 1000000) (h1 : ∀ t, t < c.length → c.getD t 0 = 1) : ∀ (d i : Nat), i + d = c.length → Ev (fun k => jalousielaw11_PatchParts.l4 k c (i : Int)) true
  | 0, i, h => by
    refine ev_succ ?_
    simp only [jalousielaw11_PatchParts.l4]
    exact ev_neg (by omega) (Ev.bind live11_ev (ev_some rfl))
  | d + 1, i, h => by
    refine ev_succ ?_
    simp only [jalousielaw11_PatchParts.l4, rdn]
    rw [w64s i (by omega)]
    exact ev_pos (by omega) (ev_pos (by omega) (ev_pos (h1 i (by omega)) (parts_l4 c hc h1 d (i + 1) (by omega))))
def Ones (X : List S47) : Prop := ∀ x ∈ X, x.f1.length = 1 ∧ 1 ≤ x.f0 ∧ x.f0 ≤ 3
theorem single_ones (s : List S47) (h : allok s = true) : Ones (single s) := by
  intro x hx
  unfold single at hx
  obtain ⟨z, hz, hx⟩ := List.mem_flatMap.1 hx
  unfold one at hx
  obtain ⟨y, hy, rfl⟩ := List.mem_map.1 hx
  have := List.all_eq_true.1 h z hz
  rw [decide_eq_true_iff] at this
  exact ⟨rfl, this⟩
theorem ones_cons {x : S47} {X : List S47} (h : Ones (x :: X)) : Ones X := fun y hy => h y (List.mem_cons_of_mem _ hy)
theorem cnt3 : ∀ (X : List S47) (i j t : Nat), Ones X → ((pA (X.map (·.f0)) i j).map (·.f0.toNat) ++ (pG (X.map (·.f0)) i j).map Int.toNat).count t = if i ≤ t ∧ t < i + (side X 3).length then 1 else 0
  | [], i, j, t, _ => by
    rw [if_neg (by simp [side])]
    rfl
  | x :: X, i, j, t, h => by
    obtain ⟨h1, h2, h3⟩ := h x (List.mem_cons_self ..)
    rw [List.map_cons, pA, pG, side_cons]
    by_cases d3 : x.f0 = 3
    · have ih := cnt3 X i (j + 1) t (ones_cons h)
      rw [d3]
      simpa using ih
    · by_cases d2 : x.f0 = 2
      · have ih := cnt3 X (i + 1) j t (ones_cons h)
        rw [d2]
        simp only [List.count_append, List.map_append, List.length_append, h1] at ih ⊢
        simp [List.count_cons] at ih ⊢
        by_cases e : i = t
        · subst e
          simp at ih ⊢
          split at ih <;> split <;> omega
        · rw [if_neg e]
          split at ih <;> split <;> omega
      · have d1 : x.f0 = 1 := by omega
        have ih := cnt3 X (i + 1) (j + 1) t (ones_cons h)
        rw [d1]
        simp only [List.count_append, List.map_append, List.length_append, h1] at ih ⊢
        simp [List.count_cons] at ih ⊢
        by_cases e : i = t
        · subst e
          simp at ih ⊢
          split at ih <;> split <;> omega
        · rw [if_neg e]
          split at ih <;> split <;> omega
theorem cnt2 : ∀ (X : List S47) (i j t : Nat), Ones X → ((pA (X.map (·.f0)) i j).map (·.f1.toNat) ++ (pM (X.map (·.f0)) i j).map Int.toNat).count t = if j ≤ t ∧ t < j + (side X 2).length then 1 else 0
  | [], i, j, t, _ => by
    rw [if_neg (by simp [side])]
    rfl
  | x :: X, i, j, t, h => by
    obtain ⟨h1, h2, h3⟩ := h x (List.mem_cons_self ..)
    rw [List.map_cons, pA, pM, side_cons]
    by_cases d2 : x.f0 = 2
    · have ih := cnt2 X (i + 1) j t (ones_cons h)
      rw [d2]
      simpa using ih
    · by_cases d3 : x.f0 = 3
      · have ih := cnt2 X i (j + 1) t (ones_cons h)
        rw [d3]
        simp only [List.count_append, List.map_append, List.length_append, h1] at ih ⊢
        simp [List.count_cons] at ih ⊢
        by_cases e : j = t
        · subst e
          simp at ih ⊢
          split at ih <;> split <;> omega
        · rw [if_neg e]
          split at ih <;> split <;> omega
      · have d1 : x.f0 = 1 := by omega
        have ih := cnt2 X (i + 1) (j + 1) t (ones_cons h)
        rw [d1]
        simp only [List.count_append, List.map_append, List.length_append, h1] at ih ⊢
        simp [List.count_cons] at ih ⊢
        by_cases e : j = t
        · subst e
          simp at ih ⊢
          split at ih <;> split <;> omega
        · rw [if_neg e]
          split at ih <;> split <;> omega
theorem pA_at : ∀ (X : List S47) (i j : Nat), Ones X → ∀ p ∈ pA (X.map (·.f0)) i j, ∃ (a b : Nat) (y : S66), p = ⟨((i + a : Nat) : Int), ((j + b : Nat) : Int)⟩ ∧ (side X 3)[a]? = some y ∧ (side X 2)[b]? = some y
  | [], i, j, _, p, hp => by cases hp
  | x :: X, i, j, h, p, hp => by
    obtain ⟨h1, h2, h3⟩ := h x (List.mem_cons_self ..)
    obtain ⟨y, hy⟩ := List.length_eq_one_iff.1 h1
    rw [List.map_cons, pA] at hp
    rw [side_cons, side_cons, hy]
    rcases List.mem_append.1 hp with hp | hp
    · by_cases d1 : x.f0 = 1
      · rw [if_pos d1, List.mem_singleton] at hp
        exact ⟨0, 0, y, hp, by simp [d1], by simp [d1]⟩
      · rw [if_neg d1] at hp
        cases hp
    · obtain ⟨a, b, z, e1, e2, e3⟩ := pA_at X _ _ (ones_cons h) p hp
      by_cases d3 : x.f0 = 3
      · rw [if_pos d3, if_neg (by omega)] at e1
        exact ⟨a, b + 1, z, by rw [e1]; congr 2; omega, by simpa [d3] using e2, by simpa [d3] using e3⟩
      · by_cases d2 : x.f0 = 2
        · rw [if_neg d3, if_pos d2] at e1
          exact ⟨a + 1, b, z, by rw [e1]; congr 2; omega, by simpa [d2] using e2, by simpa [d2] using e3⟩
        · have d1 : x.f0 = 1 := by omega
          rw [if_neg d3, if_neg d2] at e1
          exact ⟨a + 1, b + 1, z, by rw [e1]; congr 2 <;> omega, by simpa [d1] using e2, by simpa [d1] using e3⟩
theorem pG_nat : ∀ (u : List Int) (i j : Nat), ∀ g ∈ pG u i j, ∃ a : Nat, g = (a : Int)
  | [], i, j, g, hg => by cases hg
  | d :: t, i, j, g, hg => by
    rw [pG] at hg
    rcases List.mem_append.1 hg with hg | hg
    · split at hg
      · exact ⟨i, List.mem_singleton.1 hg⟩
      · cases hg
    · exact pG_nat t _ _ g hg
theorem pM_nat : ∀ (u : List Int) (i j : Nat), ∀ g ∈ pM u i j, ∃ a : Nat, g = (a : Int)
  | [], i, j, g, hg => by cases hg
  | d :: t, i, j, g, hg => by
    rw [pM] at hg
    rcases List.mem_append.1 hg with hg | hg
    · split at hg
      · exact ⟨j, List.mem_singleton.1 hg⟩
      · cases hg
    · exact pM_nat t _ _ g hg
theorem parts_ev (s : List S47) (hs : chk s = 0) : Ev (fun k => jalousielaw11_PatchParts.l0 k (side s 3) (side s 2) (pA (dos s) 0 0) (pG (dos s) 0 0) (pM (dos s) 0 0) (List.replicate (side s 3).length 0) (List.replicate (side s 2).length 0) 0) true := by
  obtain ⟨c1, c2, c3⟩ := chk_zero.1 hs
  have hO := single_ones s c3
  have l3 := side_len s 3
  have l2 := side_len s 2
  have dl := dos_len s
  have e1 := pA_len (dos s) 0 0
  have e2 := pG_len (dos s) 0 0
  have e3 := pM_len (dos s) 0 0
  have n3 := fun t => cnt3 (single s) 0 0 t hO
  have n2 := fun t => cnt2 (single s) 0 0 t hO
  have hat := pA_at (single s) 0 0 hO
  rw [dos_single] at hat n3 n2
  rw [side_single] at n3 n2
  rw [side_single, side_single] at hat
  rw [← cntv_nil, ← cntv_nil]
  refine parts_l0 _ _ _ _ _ true (by omega) (by omega) (by omega) (fun p hp => ?_) (pA (dos s) 0 0).length 0 [] [] (by omega) (by simp) (by simp) ?_
  · obtain ⟨a, b, y, q1, q2, q3⟩ := hat p hp
    refine ⟨a, b, by rw [q1]; congr 2 <;> omega, (List.getElem?_eq_some_iff.1 q2).1, (List.getElem?_eq_some_iff.1 q3).1, ?_⟩
    rw [getD_some q2, getD_some q3]
  rw [List.drop_zero, List.nil_append, List.nil_append]
  refine parts_l1 _ _ _ _ true _ (by omega) (by omega) (fun g hg => ?_) (pG (dos s) 0 0).length 0 _ (by omega) (by rw [List.length_map]; omega) ?_
  · obtain ⟨a, rfl⟩ := pG_nat _ _ _ g hg
    refine ⟨a, rfl, ?_⟩
    have h1 := n3 a
    have h2 : 0 < ((pG (dos s) 0 0).map Int.toNat).count a := List.count_pos_iff.2 (List.mem_map.2 ⟨_, hg, rfl⟩)
    rw [List.count_append] at h1
    split at h1 <;> omega
  rw [List.drop_zero]
  refine parts_l2 _ _ true _ (by omega) (by omega) (fun g hg => ?_) (pM (dos s) 0 0).length 0 _ (by omega) (by rw [List.length_map]; omega) ?_
  · obtain ⟨a, rfl⟩ := pM_nat _ _ _ g hg
    refine ⟨a, rfl, ?_⟩
    have h1 := n2 a
    have h2 : 0 < ((pM (dos s) 0 0).map Int.toNat).count a := List.count_pos_iff.2 (List.mem_map.2 ⟨_, hg, rfl⟩)
    rw [List.count_append] at h1
    split at h1 <;> omega
  rw [List.drop_zero]
  refine parts_l3 _ _ true (by rw [cntv_len]; omega) (fun t ht => ?_) ?_ (side s 3).length 0 (by rw [cntv_len]; omega)
  · rw [cntv_len] at ht
    rw [cntv_get _ _ _ ht, n3 t, if_pos ⟨by omega, by omega⟩]
    rfl
  refine parts_l4 _ (by rw [cntv_len]; omega) (fun t ht => ?_) (side s 2).length 0 (by rw [cntv_len]; omega)
  rw [cntv_len] at ht
  rw [cntv_get _ _ _ ht, n2 t, if_pos ⟨by omega, by omega⟩]
  rfl
end Go.Proofs.Ytfnbodjmmkjlcaa.H
end
section
namespace Go.Proofs.Ytfnbodjmmkjlcaa.Pure
open Go.RowKit Go.Proofs.Ytfnbodjmmkjlcaa Go.Proofs.Ytfnbodjmmkjlcaa.H Go.Proofs.YtfnbodjmmkjlcaaW.PrintWords Go.Proofs.YtfnbodjmmkjlcaaW.PrintLast Go.Proofs.YtfnbodjmmkjlcaaW.PrintMore
theorem PatchParts : jalousielaw11_PatchParts.Pure := by
  intro l0 A _ _ hs hA
  refine Ev.rounds ?_
  unfold jalousielaw11_PatchParts.f
  obtain ⟨hf, hz⟩ := fith_of l0 hs (min l0.length 20)
  have hm : mn (l0.length : Int) 20 = ((min l0.length 20 : Nat) : Int) := min_ev _ 20
  rw [hm]
  refine ev_pos (by omega) (ev_pos (by omega) ?_)
  simp only [Option.bind_some, Int.toNat_natCast]
  generalize l0.take (min l0.length 20) = l at hf hz
  refine Ev.bind (papply_ev l A hf) (Ev.bind (pgone_ev l A hf) (Ev.bind (pmade_ev l A hf) ?_))
  by_cases h : (wh l A).2.2 = 0
  · obtain ⟨h1, h2, h3, h4⟩ := wh_ok h
    have h5 : A.length ≤ 800 := by
      have := side_len (wh l A).1 3
      rw [h2] at this
      have := (chk_zero.1 h1).2.1
      omega
    refine ev_pos h (ev_pos (by omega) (ev_pos (by omega) (ev_pos (by simp only; omega) (ev_pos (by simp only; omega) ?_))))
    have := parts_ev (wh l A).1 h1
    rw [h2, h3] at this
    exact this
  · obtain ⟨h1, h2⟩ := wh_bad h
    refine ev_neg h (Ev.bind live11_ev (ev_pos rfl (ev_some ?_)))
    rw [h1, h2]
    show (wrap64 (wrap64 (wrap64 (0 + 0) + 0) + 0) == 0) = true
    simp [wrap64]
end Go.Proofs.Ytfnbodjmmkjlcaa.Pure
end
