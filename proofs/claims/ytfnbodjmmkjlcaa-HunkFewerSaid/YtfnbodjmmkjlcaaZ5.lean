/-
  What the claim needs of the words, of the walks and of the plain proofs, in one row (5).
-/
import Derived.Deep.RegionHeld3
import Derived.WalkLawsBesides
import Derived.WalkSpells
import Derived.RangeFuncNested
import Derived.RangeFuncBound
import Derived.RangeFuncCalls
import Derived.RangeFuncLeaves
import Derived.RangeFuncBox
import Derived.RangeFuncMany
import Derived.Shelf.Abstract
import Derived.OwnWalkIn
import Derived.TacticsInMore
import Derived.LoopNIn
import Derived.LoopIn
import Derived.Test.YtfnbodjmmkjlcaaZ0
import Derived.Test.YtfnbodjmmkjlcaaZ1
import Derived.Test.YtfnbodjmmkjlcaaZ2
import Derived.Test.YtfnbodjmmkjlcaaZ3
import Derived.Test.YtfnbodjmmkjlcaaZ4
section
namespace Go.Proofs.Ytfnbodjmmkjlcaa.H
open Go.RowKit Go.Proofs.YtfnbodjmmkjlcaaW.PrintWords Go.Proofs.YtfnbodjmmkjlcaaW.PrintLast Go.Proofs.YtfnbodjmmkjlcaaW.PrintMore
set_option linter.unusedVariables false
set_option linter.unusedSimpArgs false
theorem rdE (l : List S47) (i : Nat) : rd_T47 l (i : Int) = l.getD i z47 := by simp [rd_T47]
theorem rdH (l : List S44) (i : Nat) : rd_T44 l (i : Int) = l.getD i z44 := by simp [rd_T44]
theorem getD_mem {α : Type} {l : List α} {i : Nat} (h : i < l.length) (d : α) : l.getD i d ∈ l := by
  rw [getD_lt h]
  exact List.getElem_mem h
/-- How many lines. -/
def nl (s : List S47) : Nat := (s.map (fun e => e.f1.length)).sum
theorem nl_cons (x : S47) (s : List S47) : nl (x :: s) = x.f1.length + nl s := by simp [nl]
theorem nl_nil : nl [] = 0 := rfl
theorem nl_append (s t : List S47) : nl (s ++ t) = nl s + nl t := by simp [nl]
theorem nl_lines (s : List S47) : script_normal.lines s = nl s := rfl
/-- Each stays, goes, or is put in. -/
def allok (s : List S47) : Bool := s.all fun x => decide (1 ≤ x.f0 ∧ x.f0 ≤ 3)
theorem allok_cons (x : S47) (s : List S47) : allok (x :: s) = (decide (1 ≤ x.f0 ∧ x.f0 ≤ 3) && allok s) := by simp [allok]
/-- Sizes that a machine holds. -/
def Fit (s : List S47) : Prop := s.length ≤ 4398046511104 ∧ ∀ x ∈ s, x.f1.length ≤ 5864062014805
/-- What is wrong with a script. -/
def chk (s : List S47) : Int := if 800 < s.length then 4 else if 800 < nl s then 4 else if allok s = true then 0 else 3
theorem chk_zero {s : List S47} : chk s = 0 ↔ s.length ≤ 800 ∧ nl s ≤ 800 ∧ allok s = true := by
  unfold chk
  by_cases h1 : 800 < s.length
  · rw [if_pos h1]
    constructor
    · intro h
      cases h
    · omega
  · rw [if_neg h1]
    by_cases h2 : 800 < nl s
    · rw [if_pos h2]
      constructor
      · intro h
        cases h
      · omega
    · rw [if_neg h2]
      by_cases h3 : allok s = true
      · rw [if_pos h3]
        simp [h3]
        omega
      · rw [if_neg h3]
        simp [h3]
theorem chk_l0 (s : List S47) (hf : Fit s) : ∀ (d i n : Nat) (e : Int), i + d = s.length → n ≤ 800 → Ev (fun k => script_Check.l0 k (n : Int) e s (s.length : Int) (i : Int)) (if 800 < n + nl (s.drop i) then 4 else if allok (s.drop i) = true then e else 3)
  | 0, i, n, e, h, hn => by
    refine ev_succ ?_
    simp only [script_Check.l0]
    have := hf.1
    (repeat (first | refine ev_pos (by omega) ?_ | refine ev_neg (by omega) ?_))
    rw [List.drop_of_length_le (by omega)]
    exact ev_some (by rw [if_neg (by rw [nl_nil]; omega)]; rfl)
  | d + 1, i, n, e, h, hn => by
    have h1 := hf.1
    have hx := hf.2 _ (getD_mem (l := s) (i := i) (by omega) z47)
    rw [drop_cons s i (by omega) z47]
    refine ev_succ ?_
    simp only [script_Check.l0, rdE]
    rw [w64s i (by omega)]
    generalize s.getD i z47 = x at hx
    have hm : mn (wrap64 ((n : Int) + (x.f1.length : Int))) 801 = ((min (n + x.f1.length) 801 : Nat) : Int) := by
      unfold mn wrap64
      split <;> omega
    rw [hm, nl_cons, allok_cons]
    refine ev_pos (by omega) ?_
    refine ev_pos (by omega) ?_
    refine ev_pos (by omega) ?_
    by_cases hc : 800 < n + x.f1.length
    · refine ev_pos (by omega) ?_
      exact ev_some (by rw [if_pos (by omega)])
    · refine ev_neg (by omega) ?_
      rw [Nat.min_eq_left (by omega)]
      by_cases h3 : x.f0 < 1
      · refine ev_pos h3 ?_
        refine ev_cast (chk_l0 s hf d (i + 1) (n + x.f1.length) 3 (by omega) (by omega)) ?_
        rw [decide_eq_false (by omega), Bool.false_and, Nat.add_assoc]
        split
        · rfl
        · simp
      · refine ev_neg h3 ?_
        by_cases h4 : x.f0 > 3
        · refine ev_pos h4 ?_
          refine ev_cast (chk_l0 s hf d (i + 1) (n + x.f1.length) 3 (by omega) (by omega)) ?_
          rw [decide_eq_false (by omega), Bool.false_and, Nat.add_assoc]
          split
          · rfl
          · simp
        · refine ev_neg h4 ?_
          refine ev_cast (chk_l0 s hf d (i + 1) (n + x.f1.length) e (by omega) (by omega)) ?_
          rw [decide_eq_true (by omega), Bool.true_and, Nat.add_assoc]
theorem chk_ev (s : List S47) (hf : Fit s) : Ev (fun k => script_Check.f k s) (chk s) := by
  unfold script_Check.f chk
  by_cases h : 800 < s.length
  · refine ev_pos (by omega) ?_
    exact ev_some (by rw [if_pos h])
  · refine ev_neg (by omega) ?_
    refine ev_cast (chk_l0 s hf s.length 0 0 0 (by omega) (by omega)) ?_
    rw [if_neg h, List.drop_zero, Nat.zero_add]
/-- A script's lines but those of one kind. -/
def side (s : List S47) (but : Int) : List S66 := s.flatMap fun x => if x.f0 = but then [] else x.f1
theorem side_cons (x : S47) (s : List S47) (b : Int) : side (x :: s) b = (if x.f0 = b then [] else x.f1) ++ side s b := by simp [side]
theorem sides_l0 (s : List S47) (hok : allok s = true) (hn : nl s ≤ 800) (hl : s.length ≤ 800) : ∀ (d i : Nat) (a b : List S66), i + d = s.length → a.length + nl (s.drop i) ≤ 800 → b.length + nl (s.drop i) ≤ 800 → Ev (fun k => script_sides.l0 k a b s (s.length : Int) (i : Int)) (a ++ side (s.drop i) 3, b ++ side (s.drop i) 2)
  | 0, i, a, b, h, ha, hb => by
    refine ev_succ ?_
    simp only [script_sides.l0]
    (repeat (first | refine ev_pos (by omega) ?_ | refine ev_neg (by omega) ?_))
    rw [List.drop_of_length_le (by omega)]
    exact ev_some (by simp [side])
  | d + 1, i, a, b, h, ha, hb => by
    have hx : 1 ≤ (s.getD i z47).f0 ∧ (s.getD i z47).f0 ≤ 3 := by
      have := List.all_eq_true.1 hok _ (getD_mem (l := s) (i := i) (by omega) z47)
      simpa using this
    rw [drop_cons s i (by omega) z47] at ha hb ⊢
    rw [nl_cons] at ha hb
    refine ev_succ ?_
    simp only [script_sides.l0, rdE]
    rw [w64s i (by omega)]
    generalize s.getD i z47 = x at hx ha hb
    rw [side_cons, side_cons]
    refine ev_pos (by omega) ?_
    refine ev_pos (by omega) ?_
    refine ev_pos (by omega) ?_
    by_cases a1 : x.f0 = 1
    · refine ev_pos a1 ?_
      (repeat (first | refine ev_pos (by omega) ?_ | refine ev_neg (by omega) ?_))
      refine ev_cast (sides_l0 s hok hn hl d (i + 1) _ _ (by omega) (by rw [List.length_append]; omega) (by rw [List.length_append]; omega)) ?_
      rw [if_neg (by omega), if_neg (by omega), List.append_assoc, List.append_assoc]
    · refine ev_neg a1 ?_
      by_cases a2 : x.f0 = 2
      · refine ev_pos a2 ?_
        (repeat (first | refine ev_pos (by omega) ?_ | refine ev_neg (by omega) ?_))
        refine ev_cast (sides_l0 s hok hn hl d (i + 1) _ _ (by omega) (by rw [List.length_append]; omega) (by omega)) ?_
        rw [if_neg (by omega), if_pos a2, List.append_assoc, List.nil_append]
      · refine ev_neg a2 ?_
        (repeat (first | refine ev_pos (by omega) ?_ | refine ev_neg (by omega) ?_))
        refine ev_cast (sides_l0 s hok hn hl d (i + 1) _ _ (by omega) (by omega) (by rw [List.length_append]; omega)) ?_
        rw [if_pos (by omega), if_neg a2, List.append_assoc, List.nil_append]
/-- Both sides, and what is wrong. -/
def sds (s : List S47) : List S66 × List S66 × Int := if chk s = 0 then (side s 3, side s 2, 0) else ([], [], chk s)
theorem sides_ev (s : List S47) (hf : Fit s) : Ev (fun k => script_Sides.f k s) (sds s) := by
  unfold script_Sides.f sds
  refine Ev.bind (chk_ev s hf) ?_
  by_cases h : chk s = 0
  · refine ev_pos h ?_
    rw [if_pos h]
    obtain ⟨h1, h2, h3⟩ := chk_zero.1 h
    refine Ev.bind (a := (side s 3, side s 2)) ?_ (ev_some rfl)
    unfold script_sides.f
    refine ev_cast (sides_l0 s h3 h2 h1 s.length 0 [] [] (by omega) (by simpa using h2) (by simpa using h2)) ?_
    simp
  · refine ev_neg h ?_
    rw [if_neg h]
    exact ev_some rfl
def chg (s : List S47) : Nat := (s.map fun x => if x.f0 = 2 ∨ x.f0 = 3 then x.f1.length else 0).sum
theorem chg_cons (x : S47) (s : List S47) : chg (x :: s) = (if x.f0 = 2 ∨ x.f0 = 3 then x.f1.length else 0) + chg s := by simp [chg]
theorem chg_append (s t : List S47) : chg (s ++ t) = chg s + chg t := by simp [chg]
theorem chg_l0 (s : List S47) (hn : nl s ≤ 1000000000000000000) (hl : s.length ≤ 1000000000000000000) : ∀ (d i n : Nat), i + d = s.length → n + nl (s.drop i) ≤ 1000000000000000000 → Ev (fun k => script_Changed.l0 k (n : Int) s (s.length : Int) (i : Int)) ((n + chg (s.drop i) : Nat) : Int)
  | 0, i, n, h, ha => by
    refine ev_succ ?_
    simp only [script_Changed.l0]
    (repeat (first | refine ev_pos (by omega) ?_ | refine ev_neg (by omega) ?_))
    rw [List.drop_of_length_le (by omega)]
    exact ev_some (by simp [chg])
  | d + 1, i, n, h, ha => by
    rw [drop_cons s i (by omega) z47] at ha ⊢
    rw [nl_cons] at ha
    refine ev_succ ?_
    simp only [script_Changed.l0, rdE]
    rw [w64s i (by omega)]
    generalize s.getD i z47 = x at ha
    rw [chg_cons]
    refine ev_pos (by omega) ?_
    refine ev_pos (by omega) ?_
    refine ev_pos (by omega) ?_
    have hw : wrap64 ((n : Int) + (x.f1.length : Int)) = ((n + x.f1.length : Nat) : Int) := by
      unfold wrap64
      omega
    by_cases a1 : x.f0 = 2
    · refine ev_pos a1 ?_
      rw [hw]
      refine ev_cast (chg_l0 s hn hl d (i + 1) _ (by omega) (by omega)) ?_
      rw [if_pos (Or.inl a1), Nat.add_assoc]
    · refine ev_neg a1 ?_
      by_cases a2 : x.f0 = 3
      · refine ev_pos a2 ?_
        rw [hw]
        refine ev_cast (chg_l0 s hn hl d (i + 1) _ (by omega) (by omega)) ?_
        rw [if_pos (Or.inr a2), Nat.add_assoc]
      · refine ev_neg a2 ?_
        refine ev_cast (chg_l0 s hn hl d (i + 1) _ (by omega) (by omega)) ?_
        rw [if_neg (by omega), Nat.zero_add]
theorem rchg_l0 (s : List S47) (hn : nl s ≤ 1000000000000000000) (hl : s.length ≤ 1000000000000000000) : ∀ (d i n : Nat), i + d = s.length → n + nl (s.drop i) ≤ 1000000000000000000 → Ev (fun k => jalousieref08_Changed.l0 k s (n : Int) (i : Int)) ((n + chg (s.drop i) : Nat) : Int)
  | 0, i, n, h, ha => by
    refine ev_succ ?_
    simp only [jalousieref08_Changed.l0]
    (repeat (first | refine ev_pos (by omega) ?_ | refine ev_neg (by omega) ?_))
    rw [List.drop_of_length_le (by omega)]
    exact ev_some (by simp [chg])
  | d + 1, i, n, h, ha => by
    rw [drop_cons s i (by omega) z47] at ha ⊢
    rw [nl_cons] at ha
    refine ev_succ ?_
    simp only [jalousieref08_Changed.l0, rdE]
    rw [w64s i (by omega)]
    generalize s.getD i z47 = x at ha
    rw [chg_cons]
    refine ev_pos (by omega) ?_
    refine ev_pos (by omega) ?_
    have hw : wrap64 ((n : Int) + (x.f1.length : Int)) = ((n + x.f1.length : Nat) : Int) := by
      unfold wrap64
      omega
    by_cases a1 : x.f0 = 2
    · refine ev_pos a1 ?_
      rw [hw]
      refine ev_cast (rchg_l0 s hn hl d (i + 1) _ (by omega) (by omega)) ?_
      rw [if_pos (Or.inl a1), Nat.add_assoc]
    · refine ev_neg a1 ?_
      by_cases a2 : x.f0 = 3
      · refine ev_pos a2 ?_
        rw [hw]
        refine ev_cast (rchg_l0 s hn hl d (i + 1) _ (by omega) (by omega)) ?_
        rw [if_pos (Or.inr a2), Nat.add_assoc]
      · refine ev_neg a2 ?_
        refine ev_cast (rchg_l0 s hn hl d (i + 1) _ (by omega) (by omega)) ?_
        rw [if_neg (by omega), Nat.zero_add]
theorem rchg_ev (s : List S47) (hn : nl s ≤ 1000000000000000000) (hl : s.length ≤ 1000000000000000000) : Ev (fun k => jalousieref08_Changed.f k s) (chg s : Int) := by
  unfold jalousieref08_Changed.f
  refine ev_cast (rchg_l0 s hn hl s.length 0 0 (by omega) (by simpa using hn)) ?_
  simp
end Go.Proofs.Ytfnbodjmmkjlcaa.H
namespace Go.Proofs.Ytfnbodjmmkjlcaa.H
open Go.RowKit Go.Proofs.YtfnbodjmmkjlcaaW.PrintWords Go.Proofs.YtfnbodjmmkjlcaaW.PrintLast Go.Proofs.YtfnbodjmmkjlcaaW.PrintMore
set_option linter.unusedVariables false
set_option linter.unusedSimpArgs false
def joins (l : List S44) : List S47 := l.flatMap (·.f4)
theorem joins_cons (h : S44) (t : List S44) : joins (h :: t) = h.f4 ++ joins t := by simp [joins]
theorem join_l (l : List S44) (hl : l.length ≤ 4398046511104) (hf : ∀ h ∈ l, ∀ x ∈ h.f4, x.f1.length < 5864062014805) : ∀ (d i : Nat) (a : List S47), i + d = l.length → a.length + (joins (l.drop i)).length ≤ 4398046511104 → Ev (fun k => hunk_Join.l0 k a l (l.length : Int) (i : Int)) (a ++ joins (l.drop i))
  | 0, i, a, h, ha => by
    refine ev_succ ?_
    simp only [hunk_Join.l0]
    (repeat (first | refine ev_pos (by omega) ?_ | refine ev_neg (by omega) ?_))
    rw [List.drop_of_length_le (by omega)]
    exact ev_some (by simp [joins])
  | d + 1, i, a, h, ha => by
    rw [drop_cons l i (by omega) z44] at ha ⊢
    rw [joins_cons, List.length_append] at ha
    have hfx := hf _ (getD_mem (l := l) (i := i) (by omega) z44)
    refine ev_succ ?_
    simp only [hunk_Join.l0, rdH]
    (repeat (first | refine ev_pos (by omega) ?_ | refine ev_neg (by omega) ?_))
    rw [joins_cons]
    generalize l.getD i z44 = x at ha hfx ⊢
    have inner : ∀ (e j : Nat) (b : List S47), j + e = x.f4.length → b.length + e + (joins (l.drop (i + 1))).length ≤ 4398046511104 → Ev (fun k => hunk_Join.l1 k b l (l.length : Int) (i : Int) x.f4 (x.f4.length : Int) (j : Int)) (b ++ (x.f4.drop j) ++ joins (l.drop (i + 1))) := by
      intro e
      induction e with
      | zero =>
        intro j b hj hb
        refine ev_succ ?_
        simp only [hunk_Join.l1]
        (repeat (first | refine ev_pos (by omega) ?_ | refine ev_neg (by omega) ?_))
        rw [w64s i (by omega), List.drop_of_length_le (l := x.f4) (by omega)]
        refine ev_cast (join_l l hl hf d (i + 1) b (by omega) (by omega)) (by simp)
      | succ e ih =>
        intro j b hj hb
        have hc := hfx _ (getD_mem (l := x.f4) (i := j) (by omega) z47)
        refine ev_succ ?_
        simp only [hunk_Join.l1, rdE]
        (repeat (first | refine ev_pos (by omega) ?_ | refine ev_neg (by omega) ?_))
        rw [w64s j (by omega), drop_cons x.f4 j (by omega) z47]
        refine ev_bind (a := (x.f4.getD j z47).f1) (by unfold api_Line_52.f; rw [if_pos hc]) ?_
        (repeat (first | refine ev_pos (by omega) ?_ | refine ev_neg (by omega) ?_))
        refine ev_cast (ih (j + 1) _ (by omega) (by rw [List.length_append]; simp; omega)) (by simp)
    refine ev_cast (inner x.f4.length 0 a (by omega) (by omega)) ?_
    rw [List.drop_zero, List.append_assoc]
theorem join_ev (l : List S44) (hl : l.length ≤ 4398046511104) (hf : ∀ h ∈ l, ∀ x ∈ h.f4, x.f1.length < 5864062014805) (hj : (joins l).length ≤ 4398046511104) : Ev (fun k => hunk_Join.f k l) (joins l) := by
  unfold hunk_Join.f
  exact ev_cast (join_l l hl hf l.length 0 [] (by omega) (by simpa using hj)) (by simp)
end Go.Proofs.Ytfnbodjmmkjlcaa.H
namespace Go.Proofs.Ytfnbodjmmkjlcaa.H
open Go.RowKit Go.Proofs.YtfnbodjmmkjlcaaW.PrintWords Go.Proofs.YtfnbodjmmkjlcaaW.PrintLast Go.Proofs.YtfnbodjmmkjlcaaW.PrintMore
set_option linter.unusedVariables false
set_option linter.unusedSimpArgs false
theorem last_rd (t : List S47) (y : S47) : rd_T47 (t ++ [y]) (((t ++ [y]).length : Int) - 1) = y := by
  have e : (((t ++ [y]).length : Int) - 1) = (t.length : Int) := by simp
  rw [e, rdE, List.getD_eq_getElem?_getD]
  simp
theorem add_nil (s : List S47) (d : Int) : script_normal.add s d [] = s := by simp [script_normal.add]
theorem add_empty (d : Int) (l : List S66) (hl : l ≠ []) : script_normal.add [] d l = [⟨d, l⟩] := by
  unfold script_normal.add
  rw [if_neg (by simpa using hl), if_neg (by simp), List.nil_append]
theorem add_ne (t : List S47) (y : S47) (d : Int) (l : List S66) (hl : l ≠ []) (h : y.f0 ≠ d) : script_normal.add (t ++ [y]) d l = t ++ [y] ++ [⟨d, l⟩] := by
  unfold script_normal.add
  rw [if_neg (by simpa using hl), last_rd, if_neg (by simp [h])]
theorem add_eq (t : List S47) (y : S47) (d : Int) (l : List S66) (hl : l ≠ []) (h : y.f0 = d) : script_normal.add (t ++ [y]) d l = t ++ [⟨d, y.f1 ++ l⟩] := by
  unfold script_normal.add
  rw [if_neg (by simpa using hl), last_rd, if_pos ⟨by simp, h⟩]
  have e : (t ++ [y]).length - 1 = t.length := by simp
  rw [e, List.set_append_right _ _ (Nat.le_refl _), Nat.sub_self]
  rfl
theorem snoc_cases {α : Type} (s : List α) : s = [] ∨ ∃ t y, s = t ++ [y] := by
  rcases List.eq_nil_or_concat s with h | ⟨t, y, h⟩
  · exact .inl h
  · exact .inr ⟨t, y, by simpa using h⟩
theorem add_add (s : List S47) (d : Int) (a b : List S66) : script_normal.add (script_normal.add s d a) d b = script_normal.add s d (a ++ b) := by
  by_cases ha : a = []
  · subst ha
    rw [add_nil, List.nil_append]
  by_cases hb : b = []
  · subst hb
    rw [add_nil, List.append_nil]
  have hab : a ++ b ≠ [] := by simp [ha]
  rcases snoc_cases s with rfl | ⟨t, y, rfl⟩
  · rw [add_empty d a ha, add_empty d _ hab]
    exact add_eq [] ⟨d, a⟩ d b hb rfl
  · by_cases h : y.f0 = d
    · rw [add_eq t y d a ha h, add_eq t _ d b hb rfl, add_eq t y d _ hab h, List.append_assoc]
    · rw [add_ne t y d a ha h, add_ne t y d _ hab h, add_eq (t ++ [y]) ⟨d, a⟩ d b hb rfl]
theorem nl_add (s : List S47) (d : Int) (l : List S66) : nl (script_normal.add s d l) = nl s + l.length := by
  by_cases hl : l = []
  · subst hl
    rw [add_nil]
    simp
  rcases snoc_cases s with rfl | ⟨t, y, rfl⟩
  · rw [add_empty d l hl]
    simp [nl]
  · by_cases h : y.f0 = d
    · rw [add_eq t y d l hl h, nl_append, nl_append, nl_cons, nl_cons]
      simp [nl]
      omega
    · rw [add_ne t y d l hl h, nl_append _ [_], nl_cons]
      simp [nl]
def adj (a b : Int) : Prop := (a = 1 ∧ (b = 2 ∨ b = 3)) ∨ (a = 2 ∧ (b = 1 ∨ b = 3)) ∨ (a = 3 ∧ b = 1)
def good (x : S47) : Prop := (x.f0 = 1 ∨ x.f0 = 2 ∨ x.f0 = 3) ∧ x.f1 ≠ []
def Nf : List S47 → Prop
  | [] => True
  | x :: t => good x ∧ (∀ y ∈ t.head?, adj x.f0 y.f0) ∧ Nf t
theorem nf_append (s t : List S47) : Nf (s ++ t) ↔ Nf s ∧ Nf t ∧ ∀ x ∈ s.getLast?, ∀ y ∈ t.head?, adj x.f0 y.f0 := by
  induction s with
  | nil => simp [Nf]
  | cons a s ih =>
    rw [List.cons_append, Nf, ih, Nf]
    cases s with
    | nil =>
      simp [Nf]
      intro _
      exact and_comm
    | cons b s =>
      rw [List.getLast?_cons_cons]
      simp only [List.cons_append, List.head?_cons]
      constructor
      · rintro ⟨h1, h2, h3, h4, h5⟩
        exact ⟨⟨h1, h2, h3⟩, h4, h5⟩
      · rintro ⟨⟨h1, h2, h3⟩, h4, h5⟩
        exact ⟨h1, h2, h3, h4, h5⟩
theorem nf_snoc (t : List S47) (y : S47) : Nf (t ++ [y]) ↔ Nf t ∧ good y ∧ ∀ x ∈ t.getLast?, adj x.f0 y.f0 := by
  rw [nf_append]
  simp [Nf]
/-- The kind of the last edit is none or one of which b may come behind. -/
theorem nf_add (s : List S47) (d : Int) (l : List S66) (hd : d = 1 ∨ d = 2 ∨ d = 3) (hs : Nf s) (ha : ∀ x ∈ s.getLast?, x.f0 = d ∨ adj x.f0 d) : Nf (script_normal.add s d l) := by
  by_cases hl : l = []
  · subst hl
    rw [add_nil]
    exact hs
  rcases snoc_cases s with rfl | ⟨t, y, rfl⟩
  · rw [add_empty d l hl]
    simp [Nf, good, hl, hd]
  · have hy := ha y (by simp)
    by_cases h : y.f0 = d
    · rw [add_eq t y d l hl h]
      rw [nf_snoc] at hs ⊢
      exact ⟨hs.1, ⟨hd, by simp [hl]⟩, fun x hx => by have := hs.2.2 x hx; rw [h] at this; exact this⟩
    · rw [add_ne t y d l hl h, nf_snoc]
      exact ⟨hs, ⟨hd, hl⟩, fun x hx => by
        simp at hx
        subst hx
        exact hy.resolve_left h⟩
theorem last_add (s : List S47) (d : Int) (l : List S66) : ∀ x ∈ (script_normal.add s d l).getLast?, (l ≠ [] ∧ x.f0 = d) ∨ (l = [] ∧ x ∈ s.getLast?) := by
  intro x hx
  by_cases hl : l = []
  · subst hl
    rw [add_nil] at hx
    exact .inr ⟨rfl, hx⟩
  refine .inl ⟨hl, ?_⟩
  rcases snoc_cases s with rfl | ⟨t, y, rfl⟩
  · rw [add_empty d l hl] at hx
    simp at hx
    rw [← hx]
  · by_cases h : y.f0 = d
    · rw [add_eq t y d l hl h] at hx
      simp at hx
      rw [← hx]
    · rw [add_ne t y d l hl h] at hx
      simp at hx
      rw [← hx]
theorem take_in {s : List S47} {w : List S66} {x : S47} (h : x.f0 = 3) : script_normal.take (s, w) x = (s, w ++ x.f1) := by
  unfold script_normal.take
  rw [if_pos h]
theorem take_out {s : List S47} {w : List S66} {x : S47} (h : x.f0 = 2) : script_normal.take (s, w) x = (script_normal.add s 2 x.f1, w) := by
  unfold script_normal.take
  rw [if_neg (by omega), if_neg (by omega), h]
theorem take_keep {s : List S47} {w : List S66} {x : S47} (h : x.f0 = 1) (hx : x.f1 ≠ []) : script_normal.take (s, w) x = (script_normal.add (script_normal.add s 3 w) 1 x.f1, []) := by
  unfold script_normal.take
  rw [if_neg (by omega), if_pos ⟨h, List.length_pos_iff.2 hx⟩, h]
theorem take_none {s : List S47} {w : List S66} {x : S47} (hx : x.f1 = []) : script_normal.take (s, w) x = (s, w) := by
  unfold script_normal.take
  split
  · rw [hx, List.append_nil]
  · rw [if_neg (by simp [hx]), hx, add_nil]
theorem fold_nf (l : List S47) (hl : allok l = true) : ∀ (s : List S47) (w : List S66), Nf s → (∀ x ∈ s.getLast?, x.f0 ≠ 3) → Nf (l.foldl script_normal.take (s, w)).1 ∧ ∀ x ∈ (l.foldl script_normal.take (s, w)).1.getLast?, x.f0 ≠ 3 := by
  induction l with
  | nil => exact fun s w h1 h2 => ⟨h1, h2⟩
  | cons x t ih =>
    intro s w h1 h2
    rw [allok_cons, Bool.and_eq_true] at hl
    have hx := of_decide_eq_true hl.1
    have h12 : ∀ y ∈ s.getLast?, y.f0 = 1 ∨ y.f0 = 2 := by
      intro y hy
      have h3 := h2 y hy
      have hg : good y := by
        rcases snoc_cases s with rfl | ⟨u, v, rfl⟩
        · simp at hy
        · simp at hy
          subst hy
          exact ((nf_snoc u v).1 h1).2.1
      rcases hg.1 with h | h | h
      · exact .inl h
      · exact .inr h
      · exact absurd h h3
    rw [List.foldl_cons]
    by_cases hx0 : x.f1 = []
    · rw [take_none hx0]
      exact ih hl.2 s w h1 h2
    by_cases a3 : x.f0 = 3
    · rw [take_in a3]
      exact ih hl.2 s _ h1 h2
    by_cases a2 : x.f0 = 2
    · rw [take_out a2]
      refine ih hl.2 _ w (nf_add s 2 _ (by omega) h1 fun y hy => ?_) fun y hy => ?_
      · rcases h12 y hy with h | h
        · exact .inr (.inl ⟨h, by omega⟩)
        · exact .inl h
      · rcases last_add _ _ _ y hy with h | h
        · omega
        · exact absurd h.1 hx0
    · have a1 : x.f0 = 1 := by omega
      rw [take_keep a1 hx0]
      have hf : Nf (script_normal.add s 3 w) := nf_add s 3 w (by omega) h1 fun y hy => .inr (by
        rcases h12 y hy with h | h
        · exact .inl ⟨h, by omega⟩
        · exact .inr (.inl ⟨h, by omega⟩))
      refine ih hl.2 _ [] (nf_add _ 1 _ (by omega) hf fun y hy => ?_) fun y hy => ?_
      · rcases last_add _ _ _ y hy with h | h
        · exact .inr (.inr (.inr ⟨h.2, rfl⟩))
        · rcases h12 y h.2 with h | h
          · exact .inl h
          · exact .inr (.inr (.inl ⟨h, by omega⟩))
      · rcases last_add _ _ _ y hy with h | h
        · omega
        · exact absurd h.1 hx0
theorem p_nf (l : List S47) (hl : allok l = true) : Nf (script_normal.p l) := by
  unfold script_normal.p script_normal.all
  obtain ⟨h1, h2⟩ := fold_nf l hl [] [] trivial (by simp)
  refine nf_add _ 3 _ (by omega) h1 fun y hy => .inr ?_
  have h3 := h2 y hy
  have hg : good y := by
    generalize (l.foldl script_normal.take ([], [])).1 = s at hy h1
    rcases snoc_cases s with rfl | ⟨u, v, rfl⟩
    · simp at hy
    · simp at hy
      subst hy
      exact ((nf_snoc u v).1 h1).2.1
  rcases hg.1 with h | h | h
  · exact .inl ⟨h, by omega⟩
  · exact .inr (.inl ⟨h, by omega⟩)
  · exact absurd h h3
theorem nf_allok : ∀ (n : List S47), Nf n → allok n = true
  | [], _ => rfl
  | x :: t, h => by
    rw [allok_cons, nf_allok t h.2.2, decide_eq_true (by have := h.1.1; omega)]
    rfl
theorem fold_nl (l : List S47) : ∀ (s : List S47) (w : List S66), nl (l.foldl script_normal.take (s, w)).1 + (l.foldl script_normal.take (s, w)).2.length = nl s + w.length + nl l := by
  induction l with
  | nil => intro s w; simp [nl]
  | cons x t ih =>
    intro s w
    rw [List.foldl_cons, nl_cons]
    by_cases hx0 : x.f1 = []
    · rw [take_none hx0, hx0, ih]
      simp
    by_cases a3 : x.f0 = 3
    · rw [take_in a3, ih]
      simp
      omega
    by_cases a1 : x.f0 = 1
    · rw [take_keep a1 hx0, ih, nl_add, nl_add]
      simp
      omega
    · have e : script_normal.take (s, w) x = (script_normal.add s x.f0 x.f1, w) := by
        unfold script_normal.take
        rw [if_neg a3, if_neg (by simp [a1])]
      rw [e, ih, nl_add]
      omega
theorem p_nl (l : List S47) : nl (script_normal.p l) = nl l := by
  unfold script_normal.p script_normal.all
  have := fold_nl l [] []
  rw [nl_add, this]
  simp [nl]
theorem nf_len : ∀ (n : List S47), Nf n → n.length ≤ nl n
  | [], _ => Nat.le_refl _
  | x :: t, h => by
    have := nf_len t h.2.2
    have := List.length_pos_iff.2 h.1.2
    rw [nl_cons, List.length_cons]
    omega
/-- The normal form, and what is wrong. -/
def nrm (s : List S47) : List S47 × Int := if chk s = 0 then (script_normal.p s, 0) else ([], chk s)
theorem nrm_ev (s : List S47) (hf : Fit s) : Ev (fun k => script_Normal.f k s) (nrm s) := by
  unfold script_Normal.f nrm
  refine Ev.bind (chk_ev s hf) ?_
  by_cases h : chk s = 0
  · refine ev_pos h ?_
    rw [if_pos h]
    obtain ⟨h1, h2, h3⟩ := chk_zero.1 h
    exact ev_bind (a := script_normal.p s) (by unfold script_normal.f; rw [if_pos ⟨by omega, by rw [nl_lines]; omega⟩]) (ev_some rfl)
  · refine ev_neg h ?_
    rw [if_neg h]
    exact ev_some rfl
end Go.Proofs.Ytfnbodjmmkjlcaa.H
namespace Go.Proofs.Ytfnbodjmmkjlcaa.H
open Go.RowKit Go.Proofs.YtfnbodjmmkjlcaaW.PrintWords Go.Proofs.YtfnbodjmmkjlcaaW.PrintLast Go.Proofs.YtfnbodjmmkjlcaaW.PrintMore
set_option linter.unusedVariables false
set_option linter.unusedSimpArgs false
/-- A hunk of edits, by where it begins. -/
def mkH (a0 b0 : Nat) (now : List S47) : S44 := ⟨a0, ((side now 3).length : Int), b0, ((side now 2).length : Int), now⟩
/-- How many lines of each side an edit goes past. -/
def ad3 (x : S47) : Nat := if x.f0 = 3 then 0 else x.f1.length
def ad2 (x : S47) : Nat := if x.f0 = 2 then 0 else x.f1.length
/-- THE HUNKS of what is left of a normal form: the hunk that is open, the lines that stay ahead, and how many lines were gone past. -/
def bld (c : Nat) : List S47 → Nat → Nat → Option (Nat × Nat × List S47) → List S66 → List S44
  | [], _, _, none, _ => []
  | [], _, _, some (a0, b0, now), _ => [mkH a0 b0 now]
  | x :: xs, a, b, none, ah => if x.f0 = 1 then bld c xs (a + ad3 x) (b + ad2 x) none x.f1 else bld c xs (a + ad3 x) (b + ad2 x) (some (a - min c ah.length, b - min c ah.length, hunk_Build.lead c ah ++ [x])) []
  | x :: xs, a, b, some (a0, b0, now), ah =>
    if x.f0 = 1 then (if xs.isEmpty = true ∨ 2 * c < x.f1.length then mkH a0 b0 (now ++ hunk_Build.trail c x.f1) :: bld c xs (a + ad3 x) (b + ad2 x) none x.f1 else bld c xs (a + ad3 x) (b + ad2 x) (some (a0, b0, now ++ [x])) ah)
    else bld c xs (a + ad3 x) (b + ad2 x) (some (a0, b0, now ++ [x])) ah
/-- Without their places. -/
def zer (l : List S44) : List S44 := l.map fun h => ⟨0, h.f1, 0, h.f3, h.f4⟩
def tl1 (l : List S44) : List S44 := match l with
  | [] => []
  | h :: t => h :: zer t
theorem lead_nl (c : Nat) (ah : List S66) : nl (hunk_Build.lead c ah) = min c ah.length := by
  unfold hunk_Build.lead
  split
  · simp [nl]
    omega
  · simp [nl]
    omega
theorem lead_good (c : Nat) (ah : List S66) : ∀ x ∈ hunk_Build.lead c ah, good x := by
  intro x hx
  unfold hunk_Build.lead at hx
  split at hx
  · simp at hx
    subst hx
    refine ⟨.inl rfl, ?_⟩
    intro e
    have := congrArg List.length e
    simp at this
    omega
  · simp at hx
theorem trail_nl (c : Nat) (l : List S66) : nl (hunk_Build.trail c l) = min c l.length := by
  unfold hunk_Build.trail
  split
  · simp [nl]
  · rw [nl_nil]
    omega
theorem trail_good (c : Nat) (l : List S66) : ∀ x ∈ hunk_Build.trail c l, good x := by
  intro x hx
  unfold hunk_Build.trail at hx
  split at hx
  · simp at hx
    subst hx
    refine ⟨.inl rfl, ?_⟩
    intro e
    have h2 : (l.take c).length = 0 := by
      have e' : l.take c = [] := by simpa using e
      rw [e']
      rfl
    rw [List.length_take] at h2
    omega
  · simp at hx
theorem good_len : ∀ (s : List S47), (∀ x ∈ s, good x) → s.length ≤ nl s
  | [], _ => Nat.le_refl _
  | x :: t, h => by
    have := good_len t fun y hy => h y (List.mem_cons_of_mem _ hy)
    have := List.length_pos_iff.2 (h x (by simp)).2
    rw [nl_cons, List.length_cons]
    omega
theorem good_allok : ∀ (s : List S47), (∀ x ∈ s, good x) → allok s = true
  | [], _ => rfl
  | x :: t, h => by
    rw [allok_cons, good_allok t fun y hy => h y (List.mem_cons_of_mem _ hy), decide_eq_true (by have := (h x (by simp)).1; omega)]
    rfl
theorem good_fit (s : List S47) (h : nl s ≤ 1000000) (hg : ∀ x ∈ s, good x) : Fit s := by
  have hl := good_len s hg
  refine ⟨by omega, fun x hx => ?_⟩
  have : x.f1.length ≤ nl s := by
    clear h hg hl
    induction s with
    | nil => cases hx
    | cons y t ih =>
      rw [nl_cons]
      rcases List.mem_cons.1 hx with rfl | hx
      · omega
      · have := ih hx
        omega
  omega
theorem good_chk (s : List S47) (h : nl s ≤ 800) (hg : ∀ x ∈ s, good x) : chk s = 0 := chk_zero.2 ⟨Nat.le_trans (good_len s hg) h, h, good_allok s hg⟩
theorem nf_good : ∀ (n : List S47), Nf n → ∀ x ∈ n, good x
  | [], _, x, hx => by cases hx
  | y :: t, h, x, hx => by
    rcases List.mem_cons.1 hx with rfl | hx
    · exact h.1
    · exact nf_good t h.2.2 x hx
theorem hk_ev (now : List S47) (h : nl now ≤ 800) (hg : ∀ x ∈ now, good x) : Ev (fun k => hunk_Build.hk k now) ⟨0, ((side now 3).length : Int), 0, ((side now 2).length : Int), now⟩ := by
  unfold hunk_Build.hk
  refine Ev.bind (sides_ev now (good_fit now (by omega) hg)) (ev_some ?_)
  unfold sds
  rw [if_pos (good_chk now h hg)]
/-- What the builder's state is. -/
def curSt (out : List S44) (cur : Option (Nat × Nat × List S47)) (ah : List S66) : hunk_Build.St := match cur with
  | none => ⟨out, [], ah⟩
  | some (_, _, now) => ⟨out, now, ah⟩
def curOk (cur : Option (Nat × Nat × List S47)) (ah : List S66) (n : List S47) : Prop := match cur with
  | none => ah.length + nl n ≤ 800
  | some (_, _, now) => now ≠ [] ∧ nl now + nl n ≤ 800 ∧ ∀ x ∈ now, good x
theorem build_ev (c : Nat) : ∀ (n : List S47) (a b : Nat) (cur : Option (Nat × Nat × List S47)) (ah : List S66) (out : List S44), (∀ x ∈ n, good x) → curOk cur ah n → Ev (fun k => (hunk_Build.allp k c n (curSt out cur ah)).bind (hunk_Build.fin k)) (out ++ zer (bld c n a b cur ah))
  | [], a, b, none, ah, out, hg, hc => by
    simp only [hunk_Build.allp, Option.bind_some]
    unfold hunk_Build.fin curSt
    refine ev_neg (by simp) (ev_some ?_)
    simp [bld, zer]
  | [], a, b, some (a0, b0, now), ah, out, hg, hc => by
    obtain ⟨h0, h1, h2⟩ := hc
    simp only [hunk_Build.allp, Option.bind_some]
    unfold hunk_Build.fin curSt
    refine ev_pos (List.length_pos_iff.2 h0) ?_
    refine Ev.bind (hk_ev now (by rw [nl_nil] at h1; omega) h2) (ev_some ?_)
    simp [bld, zer, mkH]
  | x :: xs, a, b, none, ah, out, hg, hc => by
    have hc' : ah.length + nl (x :: xs) ≤ 800 := hc
    rw [nl_cons] at hc'
    have hgx := hg x (by simp)
    have hgs : ∀ y ∈ xs, good y := fun y hy => hg y (List.mem_cons_of_mem _ hy)
    simp only [hunk_Build.allp, Option.bind_assoc, bld]
    unfold hunk_Build.takep curSt
    by_cases h1 : x.f0 = 1
    · simp only [if_pos h1]
      simp only [List.length_nil, if_true, Option.bind_some]
      exact build_ev c xs _ _ none x.f1 out hgs (by show _ ≤ _; omega)
    · simp only [if_neg h1]
      simp only [List.length_nil, if_true, Option.bind_some, List.nil_append]
      refine build_ev c xs _ _ (some (a - min c ah.length, b - min c ah.length, hunk_Build.lead c ah ++ [x])) [] out hgs ⟨by simp, ?_, ?_⟩
      · rw [nl_append, lead_nl, nl_cons, nl_nil]
        omega
      · intro y hy
        rcases List.mem_append.1 hy with hy | hy
        · exact lead_good c ah y hy
        · simp at hy
          subst hy
          exact hgx
  | x :: xs, a, b, some (a0, b0, now), ah, out, hg, hc => by
    obtain ⟨h0, h1', h2⟩ := hc
    rw [nl_cons] at h1'
    have hgx := hg x (by simp)
    have hgs : ∀ y ∈ xs, good y := fun y hy => hg y (List.mem_cons_of_mem _ hy)
    have h0' : ¬ now.length = 0 := fun e => h0 (List.eq_nil_of_length_eq_zero e)
    have hgx' : ∀ y ∈ now ++ [x], good y := by
      intro y hy
      rcases List.mem_append.1 hy with hy | hy
      · exact h2 y hy
      · simp at hy
        subst hy
        exact hgx
    have hnx : nl (now ++ [x]) + nl xs ≤ 800 := by
      rw [nl_append, nl_cons, nl_nil]
      omega
    simp only [hunk_Build.allp, Option.bind_assoc, bld]
    unfold hunk_Build.takep curSt
    simp only
    by_cases h1 : x.f0 = 1
    · simp only [if_pos h1, if_neg h0']
      by_cases hl : xs.isEmpty = true ∨ 2 * c < x.f1.length
      · simp only [if_pos hl]
        simp only [Option.bind_assoc]
        have htg : ∀ y ∈ now ++ hunk_Build.trail c x.f1, good y := by
          intro y hy
          rcases List.mem_append.1 hy with hy | hy
          · exact h2 y hy
          · exact trail_good c _ y hy
        refine Ev.bind (hk_ev (now ++ hunk_Build.trail c x.f1) (by rw [nl_append, trail_nl]; omega) htg) ?_
        simp only [Option.bind_some]
        refine ev_cast (build_ev c xs (a + ad3 x) (b + ad2 x) none x.f1 _ hgs (by show _ ≤ _; omega)) ?_
        simp [zer, mkH]
      · simp only [if_neg hl]
        simp only [Option.bind_some]
        exact build_ev c xs _ _ (some (a0, b0, now ++ [x])) ah out hgs ⟨by simp, hnx, hgx'⟩
    · simp only [if_neg h1, if_neg h0']
      simp only [Option.bind_some]
      exact build_ev c xs _ _ (some (a0, b0, now ++ [x])) ah out hgs ⟨by simp, hnx, hgx'⟩
/-- The hunk that is open comes first. -/
theorem bld_head (c : Nat) : ∀ (n : List S47) (a b a0 b0 : Nat) (now : List S47) (ah : List S66), ∃ t rest, bld c n a b (some (a0, b0, now)) ah = mkH a0 b0 (now ++ t) :: rest
  | [], a, b, a0, b0, now, ah => ⟨[], [], by simp [bld]⟩
  | x :: xs, a, b, a0, b0, now, ah => by
    simp only [bld]
    split
    · split
      · exact ⟨_, _, rfl⟩
      · obtain ⟨t, r, e⟩ := bld_head c xs (a + ad3 x) (b + ad2 x) a0 b0 (now ++ [x]) ah
        exact ⟨[x] ++ t, r, by rw [e, List.append_assoc]⟩
    · obtain ⟨t, r, e⟩ := bld_head c xs (a + ad3 x) (b + ad2 x) a0 b0 (now ++ [x]) ah
      exact ⟨[x] ++ t, r, by rw [e, List.append_assoc]⟩
theorem ld_head (c : Nat) (ah : List S66) (x : S47) (h1 : x.f0 ≠ 1) (t : List S47) : ∃ e r, hunk_Build.lead c ah ++ [x] ++ t = e :: r ∧ hunk_place.ld e = min c ah.length := by
  unfold hunk_Build.lead
  by_cases h : 0 < min c ah.length
  · rw [if_pos h]
    refine ⟨_, _, rfl, ?_⟩
    unfold hunk_place.ld
    rw [if_pos rfl]
    simp
    omega
  · rw [if_neg h]
    refine ⟨_, _, rfl, ?_⟩
    unfold hunk_place.ld
    rw [if_neg h1]
    omega
def fresh (cur : Option (Nat × Nat × List S47)) : Bool := cur.isNone
def cut0 (cur : Option (Nat × Nat × List S47)) (l : List S44) : List S44 := match cur with
  | none => zer l
  | some _ => tl1 l
def nth (cur : Option (Nat × Nat × List S47)) (i : Nat) : Nat := match cur with
  | none => i
  | some _ => i + 1
theorem place_ev (c : Nat) : ∀ (n : List S47) (k a b : Nat) (cur : Option (Nat × Nat × List S47)) (ah : List S66) (pre : List S44), (∀ x ∈ n, good x) → (cur = none → ah.length ≤ a ∧ ah.length ≤ b) → (cur ≠ none → 0 < k) →
    ∃ q, hunk_place.p c n k ⟨a, b, nth cur pre.length, fresh cur, pre ++ cut0 cur (bld c n a b cur ah)⟩ = some q ∧ q.l = pre ++ bld c n a b cur ah
  | [], k, a, b, none, ah, pre, hg, h1, h2 => ⟨_, rfl, by simp [bld, cut0, zer]⟩
  | [], k, a, b, some (a0, b0, now), ah, pre, hg, h1, h2 => ⟨_, rfl, by simp [bld, cut0, tl1, zer]⟩
  | x :: xs, k, a, b, none, ah, pre, hg, h1, h2 => by
    have hgx := hg x (by simp)
    have hgs : ∀ y ∈ xs, good y := fun y hy => hg y (List.mem_cons_of_mem _ hy)
    obtain ⟨ha, hb⟩ := h1 rfl
    simp only [hunk_place.p]
    unfold hunk_place.step
    by_cases e1 : x.f0 = 1
    · rw [if_pos e1]
      simp only [Option.bind_some, bld]
      rw [if_pos e1]
      have hfr : (if 0 < k ∧ 2 * c < x.f1.length then true else fresh none) = fresh none := by
        split <;> rfl
      rw [hfr]
      have e3 : ad3 x = x.f1.length := by unfold ad3; rw [if_neg (by omega)]
      have e2 : ad2 x = x.f1.length := by unfold ad2; rw [if_neg (by omega)]
      rw [e3, e2]
      exact place_ev c xs (k + 1) _ _ none x.f1 pre hgs (fun _ => ⟨by omega, by omega⟩) (fun h => absurd rfl h)
    · rw [if_neg e1, if_pos (by have := hgx.1; omega)]
      simp only [bld]
      rw [if_neg e1, if_pos (show fresh none = true from rfl)]
      obtain ⟨t, r, e⟩ := bld_head c xs (a + ad3 x) (b + ad2 x) (a - min c ah.length) (b - min c ah.length) (hunk_Build.lead c ah ++ [x]) []
      obtain ⟨y, s, ey, el⟩ := ld_head c ah x e1 t
      have hset : hunk_place.setp ⟨a, b, nth none pre.length, fresh none, pre ++ cut0 none (bld c xs (a + ad3 x) (b + ad2 x) (some (a - min c ah.length, b - min c ah.length, hunk_Build.lead c ah ++ [x])) [])⟩ = some (pre ++ cut0 (some (a - min c ah.length, b - min c ah.length, hunk_Build.lead c ah ++ [x])) (bld c xs (a + ad3 x) (b + ad2 x) (some (a - min c ah.length, b - min c ah.length, hunk_Build.lead c ah ++ [x])) [])) := by
        rw [e]
        unfold hunk_place.setp cut0 nth zer tl1 zer
        simp only [List.map_cons]
        have hg : (pre ++ (⟨0, (mkH (a - min c ah.length) (b - min c ah.length) (hunk_Build.lead c ah ++ [x] ++ t)).f1, 0, (mkH (a - min c ah.length) (b - min c ah.length) (hunk_Build.lead c ah ++ [x] ++ t)).f3, (mkH (a - min c ah.length) (b - min c ah.length) (hunk_Build.lead c ah ++ [x] ++ t)).f4⟩ :: List.map (fun h => (⟨0, h.f1, 0, h.f3, h.f4⟩ : S44)) r)).getD pre.length z44 = ⟨0, ((side (hunk_Build.lead c ah ++ [x] ++ t) 3).length : Int), 0, ((side (hunk_Build.lead c ah ++ [x] ++ t) 2).length : Int), hunk_Build.lead c ah ++ [x] ++ t⟩ := by
          rw [List.getD_eq_getElem?_getD, List.getElem?_append_right (Nat.le_refl _), Nat.sub_self]
          rfl
        rw [if_pos (by simp), hg]
        simp only
        split
        · rename_i e0
          rw [ey] at e0
          cases e0
        · rename_i z0 zs e0
          rw [ey] at e0
          injection e0 with e1' e2'
          subst e1'
          rw [el]
          congr 1
          rw [List.set_append_right _ _ (Nat.le_refl _), Nat.sub_self, List.set_cons_zero]
          congr 2
          unfold mkH
          congr 1 <;> omega
      rw [hset]
      simp only [Option.bind_some]
      have ex3 : (if x.f0 = 2 then a + x.f1.length else a) = a + ad3 x := by
        unfold ad3
        have := hgx.1
        split <;> split <;> omega
      have ex2 : (if x.f0 = 2 then b else b + x.f1.length) = b + ad2 x := by
        unfold ad2
        split <;> omega
      rw [ex3, ex2]
      exact place_ev c xs (k + 1) _ _ (some (a - min c ah.length, b - min c ah.length, hunk_Build.lead c ah ++ [x])) [] pre hgs (fun h => by cases h) (fun _ => by omega)
  | x :: xs, k, a, b, some (a0, b0, now), ah, pre, hg, h1, h2 => by
    have hgx := hg x (by simp)
    have hgs : ∀ y ∈ xs, good y := fun y hy => hg y (List.mem_cons_of_mem _ hy)
    have hk := h2 (by simp)
    simp only [hunk_place.p]
    unfold hunk_place.step
    by_cases e1 : x.f0 = 1
    · rw [if_pos e1]
      simp only [Option.bind_some, bld]
      rw [if_pos e1]
      have e3 : ad3 x = x.f1.length := by unfold ad3; rw [if_neg (by omega)]
      have e2 : ad2 x = x.f1.length := by unfold ad2; rw [if_neg (by omega)]
      rw [e3, e2]
      by_cases hl : xs.isEmpty = true ∨ 2 * c < x.f1.length
      · rw [if_pos hl]
        by_cases hl2 : 2 * c < x.f1.length
        · rw [if_pos ⟨hk, hl2⟩]
          obtain ⟨q, h3, h4⟩ := place_ev c xs (k + 1) (a + x.f1.length) (b + x.f1.length) none x.f1 (pre ++ [mkH a0 b0 (now ++ hunk_Build.trail c x.f1)]) hgs (fun _ => ⟨by omega, by omega⟩) (fun h => absurd rfl h)
          refine ⟨q, ?_, by rw [h4]; simp⟩
          rw [← h3]
          simp [nth, fresh, cut0, tl1]
        · have hxs : xs = [] := by simpa using hl.resolve_right hl2
          subst hxs
          exact ⟨_, rfl, by simp [bld, cut0, tl1, zer]⟩
      · rw [if_neg hl, if_neg (fun h => hl (.inr h.2))]
        exact place_ev c xs (k + 1) _ _ (some (a0, b0, now ++ [x])) ah pre hgs (fun h => by cases h) (fun _ => by omega)
    · rw [if_neg e1, if_pos (by have := hgx.1; omega)]
      simp only [bld]
      rw [if_neg e1, if_neg (by simp [fresh])]
      simp only [Option.bind_some]
      have ex3 : (if x.f0 = 2 then a + x.f1.length else a) = a + ad3 x := by
        unfold ad3
        have := hgx.1
        split <;> split <;> omega
      have ex2 : (if x.f0 = 2 then b else b + x.f1.length) = b + ad2 x := by
        unfold ad2
        split <;> omega
      rw [ex3, ex2]
      exact place_ev c xs (k + 1) _ _ (some (a0, b0, now ++ [x])) ah pre hgs (fun h => by cases h) (fun _ => by omega)
/-- The hunks of a normal form. -/
def hnk (c : Nat) (n : List S47) : List S44 := bld c n 0 0 none []
theorem run_ev (c : Nat) (n : List S47) (hn : nl n ≤ 800) (hg : ∀ x ∈ n, good x) : Ev (fun k => hunk_Build.run k c n) (hnk c n) := by
  unfold hunk_Build.run
  have hl := good_len n hg
  refine ev_pos ⟨by omega, by rw [nl_lines]; omega⟩ ?_
  have h1 : Ev (fun k => (hunk_Build.allp k c n ⟨[], [], []⟩).bind (hunk_Build.fin k)) (zer (bld c n 0 0 none [])) := build_ev c n 0 0 none [] [] hg (by show _ ≤ _; simp; exact hn)
  obtain ⟨q, h2, h3⟩ := place_ev c n 0 0 0 none [] [] hg (fun _ => ⟨Nat.le_refl _, Nat.le_refl _⟩) (fun h => absurd rfl h)
  have h4 : Ev (fun k => ((hunk_Build.allp k c n ⟨[], [], []⟩).bind (hunk_Build.fin k)).bind fun o => (hunk_place.p c n 0 ⟨0, 0, 0, true, o⟩).bind fun q => some q.l) (hnk c n) := by
    refine Ev.bind h1 ?_
    refine ev_bind h2 (ev_some ?_)
    rw [h3]
    rfl
  refine ev_as h4 ?_
  funext k
  rw [Option.bind_assoc]
/-- What Build tells. -/
def hres (s : List S47) (c : Int) : List S44 × Int := if chk s = 0 then (if c < 0 ∨ 20 < c then ([], 2) else (hnk c.toNat (script_normal.p s), 0)) else ([], chk s)
theorem bld_ev (s : List S47) (c : Int) (hf : Fit s) : Ev (fun k => hunk_Build.f k s c) (hres s c) := by
  unfold hunk_Build.f hres
  refine Ev.bind (nrm_ev s hf) ?_
  unfold nrm
  by_cases h : chk s = 0
  · rw [if_pos h, if_pos h]
    refine ev_pos rfl ?_
    by_cases hc : c < 0 ∨ 20 < c
    · refine ev_pos hc (ev_some ?_)
      rw [if_pos hc]
    · refine ev_neg hc ?_
      rw [if_neg hc]
      obtain ⟨h1, h2, h3⟩ := chk_zero.1 h
      exact Ev.bind (run_ev _ _ (by rw [p_nl]; exact h2) (nf_good _ (p_nf s h3))) (ev_some rfl)
  · rw [if_neg h, if_neg h]
    exact ev_neg h (ev_some rfl)
theorem bld_len (c : Nat) : ∀ (n : List S47) (a b : Nat) (cur : Option (Nat × Nat × List S47)) (ah : List S66), (bld c n a b cur ah).length ≤ n.length + (if cur.isSome = true then 1 else 0)
  | [], a, b, none, ah => by simp [bld]
  | [], a, b, some (a0, b0, now), ah => by simp [bld]
  | x :: xs, a, b, none, ah => by
    simp only [bld]
    split
    · have := bld_len c xs (a + ad3 x) (b + ad2 x) none x.f1
      simp at this ⊢
      omega
    · have := bld_len c xs (a + ad3 x) (b + ad2 x) (some (a - min c ah.length, b - min c ah.length, hunk_Build.lead c ah ++ [x])) []
      simp at this ⊢
      omega
  | x :: xs, a, b, some (a0, b0, now), ah => by
    have h1 := bld_len c xs (a + ad3 x) (b + ad2 x) none x.f1
    have h2 := bld_len c xs (a + ad3 x) (b + ad2 x) (some (a0, b0, now ++ [x])) ah
    simp only [bld]
    split
    · split
      · simp at h1 ⊢
        omega
      · simp at h2 ⊢
        omega
    · simp at h2 ⊢
      omega
theorem hnk_len (c : Nat) (n : List S47) : (hnk c n).length ≤ n.length := by
  have := bld_len c n 0 0 none []
  unfold hnk
  simpa using this
end Go.Proofs.Ytfnbodjmmkjlcaa.H
namespace Go.Proofs.Ytfnbodjmmkjlcaa.H
open Go.RowKit Go.Proofs.YtfnbodjmmkjlcaaW.PrintWords Go.Proofs.YtfnbodjmmkjlcaaW.PrintLast Go.Proofs.YtfnbodjmmkjlcaaW.PrintMore
set_option linter.unusedVariables false
set_option linter.unusedSimpArgs false
theorem nf_same (s t : List S47) (x y : S47) (h : Nf (s ++ x :: t)) (hf : y.f0 = x.f0) (hy : y.f1 ≠ []) : Nf (s ++ y :: t) := by
  obtain ⟨h1, h2, h3⟩ := (nf_append _ _).1 h
  refine (nf_append _ _).2 ⟨h1, ⟨⟨by rw [hf]; exact h2.1.1, hy⟩, by rw [hf]; exact h2.2.1, h2.2.2⟩, fun z hz w hw => ?_⟩
  simp at hw
  subst hw
  rw [hf]
  exact h3 z hz x (by simp)
theorem nf_left (s t : List S47) (h : Nf (s ++ t)) : Nf s := ((nf_append _ _).1 h).1
theorem nf_trail (c : Nat) (now t : List S47) (x : S47) (h : Nf (now ++ x :: t)) (hx : x.f0 = 1) : Nf (now ++ hunk_Build.trail c x.f1) := by
  unfold hunk_Build.trail
  by_cases h0 : 0 < min c x.f1.length
  · rw [if_pos h0]
    refine nf_left _ t ?_
    rw [List.append_assoc]
    refine nf_same now t x _ h hx.symm ?_
    intro e
    have h2 : (x.f1.take c).length = 0 := by
      have e' : x.f1.take c = [] := by simpa using e
      rw [e']
      rfl
    rw [List.length_take] at h2
    omega
  · rw [if_neg h0, List.append_nil]
    exact nf_left _ _ h
theorem nf_lead (c : Nat) (t : List S47) (x : S47) (h : Nf (x :: t)) (hx : x.f0 = 1) : Nf (hunk_Build.lead c x.f1 ++ t) := by
  unfold hunk_Build.lead
  by_cases h0 : 0 < min c x.f1.length
  · rw [if_pos h0]
    refine nf_same [] t x _ h hx.symm ?_
    intro e
    have := congrArg List.length e
    rw [List.length_drop, List.length_nil] at this
    omega
  · rw [if_neg h0]
    exact h.2.2
theorem bld_nf (c : Nat) : ∀ (n : List S47) (a b : Nat) (cur : Option (Nat × Nat × List S47)) (ah : List S66), (match cur with | none => Nf (hunk_Build.lead c ah ++ n) ∧ ah.length + nl n ≤ 800 | some (_, _, now) => Nf (now ++ n) ∧ nl now + nl n ≤ 800) → Nf n → ∀ h ∈ bld c n a b cur ah, Nf h.f4 ∧ nl h.f4 ≤ 800
  | [], a, b, none, ah, hc, hn, h, hh => by simp [bld] at hh
  | [], a, b, some (a0, b0, now), ah, hc, hn, h, hh => by
    simp [bld] at hh
    subst hh
    have h1 : Nf (now ++ []) := hc.1
    have h2 : nl now + nl [] ≤ 800 := hc.2
    rw [List.append_nil] at h1
    exact ⟨h1, h2⟩
  | x :: xs, a, b, none, ah, hc, hn, h, hh => by
    obtain ⟨h1, h2⟩ := hc
    rw [nl_cons] at h2
    simp only [bld] at hh
    by_cases e1 : x.f0 = 1
    · rw [if_pos e1] at hh
      exact bld_nf c xs _ _ none x.f1 ⟨nf_lead c xs x hn e1, by omega⟩ hn.2.2 h hh
    · rw [if_neg e1] at hh
      refine bld_nf c xs _ _ (some (a - min c ah.length, b - min c ah.length, hunk_Build.lead c ah ++ [x])) [] ⟨?_, ?_⟩ hn.2.2 h hh
      · simpa using h1
      · rw [nl_append, lead_nl, nl_cons, nl_nil]
        omega
  | x :: xs, a, b, some (a0, b0, now), ah, hc, hn, h, hh => by
    obtain ⟨h1, h2⟩ := hc
    rw [nl_cons] at h2
    have hstep : Nf (now ++ [x] ++ xs) ∧ nl (now ++ [x]) + nl xs ≤ 800 := ⟨by simpa using h1, by rw [nl_append, nl_cons, nl_nil]; omega⟩
    simp only [bld] at hh
    by_cases e1 : x.f0 = 1
    · rw [if_pos e1] at hh
      split at hh
      · rcases List.mem_cons.1 hh with rfl | hh
        · exact ⟨nf_trail c now xs x h1 e1, by show nl (now ++ hunk_Build.trail c x.f1) ≤ _; rw [nl_append, trail_nl]; omega⟩
        · exact bld_nf c xs _ _ none x.f1 ⟨nf_lead c xs x hn e1, by omega⟩ hn.2.2 h hh
      · exact bld_nf c xs _ _ _ _ hstep hn.2.2 h hh
    · rw [if_neg e1] at hh
      exact bld_nf c xs _ _ _ _ hstep hn.2.2 h hh
theorem hnk_nf (c : Nat) (n : List S47) (hn : Nf n) (hl : nl n ≤ 800) : ∀ h ∈ hnk c n, Nf h.f4 ∧ nl h.f4 ≤ 800 := by
  refine bld_nf c n 0 0 none [] ⟨?_, by simpa using hl⟩ hn
  unfold hunk_Build.lead
  rw [if_neg (by simp)]
  exact hn
end Go.Proofs.Ytfnbodjmmkjlcaa.H
namespace Go.Proofs.Ytfnbodjmmkjlcaa.H
open Go.RowKit Go.Proofs.YtfnbodjmmkjlcaaW.PrintWords Go.Proofs.YtfnbodjmmkjlcaaW.PrintLast Go.Proofs.YtfnbodjmmkjlcaaW.PrintMore
set_option linter.unusedVariables false
set_option linter.unusedSimpArgs false
theorem live_ev : Ev (fun k => jalousielaw09_live.f k) true := by
  refine Ev.of (fun k => jalousielaw09_live.mono k) (k := 40) ?_
  decide +kernel
theorem few_l0 (s : List S47) (hf : Fit s) : ∀ (d i n : Nat), i + d = s.length → n ≤ 200 * i → ∃ r : Bool, Ev (fun k => jalousielaw09_few.l0 k s (n : Int) (i : Int)) r ∧ (r = true → s.length ≤ 120 ∧ (i ≤ 130 → n + nl (s.drop i) ≤ 120))
  | 0, i, n, h, hn => by
    have := hf.1
    by_cases h1 : n ≤ 120
    · refine ⟨decide ((s.length : Int) ≤ 120), ev_succ ?_, fun hr => ?_⟩
      · simp only [jalousielaw09_few.l0]
        (repeat (first | refine ev_pos (by omega) ?_ | refine ev_neg (by omega) ?_))
        exact ev_some rfl
      · have := of_decide_eq_true hr
        rw [List.drop_of_length_le (by omega), nl_nil]
        omega
    · refine ⟨false, ev_succ ?_, fun hr => by cases hr⟩
      simp only [jalousielaw09_few.l0]
      (repeat (first | refine ev_pos (by omega) ?_ | refine ev_neg (by omega) ?_))
      exact ev_some rfl
  | d + 1, i, n, h, hn => by
    have h0 := hf.1
    have hx := hf.2 _ (getD_mem (l := s) (i := i) (by omega) z47)
    by_cases hi : i < 130
    · obtain ⟨r, hr, hr2⟩ := few_l0 s hf d (i + 1) (n + min (s.getD i z47).f1.length 200) (by omega) (by omega)
      refine ⟨r, ev_succ ?_, fun e => ?_⟩
      · simp only [jalousielaw09_few.l0, rdE]
        have hm : wrap64 ((n : Int) + mn (((s.getD i z47).f1.length : Nat) : Int) 200) = ((n + min (s.getD i z47).f1.length 200 : Nat) : Int) := by
          unfold mn wrap64
          split <;> omega
        rw [w64s i (by omega), hm]
        (repeat (first | refine ev_pos (by omega) ?_ | refine ev_neg (by omega) ?_))
        exact hr
      · obtain ⟨h1, h2⟩ := hr2 e
        refine ⟨h1, fun _ => ?_⟩
        have h3 := h2 (by omega)
        rw [drop_cons s i (by omega) z47, nl_cons]
        omega
    · by_cases h1 : n ≤ 120
      · refine ⟨decide ((s.length : Int) ≤ 120), ev_succ ?_, fun hr => ?_⟩
        · simp only [jalousielaw09_few.l0]
          (repeat (first | refine ev_pos (by omega) ?_ | refine ev_neg (by omega) ?_))
          exact ev_some rfl
        · have := of_decide_eq_true hr
          omega
      · refine ⟨false, ev_succ ?_, fun hr => by cases hr⟩
        simp only [jalousielaw09_few.l0]
        (repeat (first | refine ev_pos (by omega) ?_ | refine ev_neg (by omega) ?_))
        exact ev_some rfl
theorem few_ev (s : List S47) (hf : Fit s) : ∃ r : Bool, Ev (fun k => jalousielaw09_few.f k s) r ∧ (r = true → s.length ≤ 120 ∧ nl s ≤ 120) := by
  obtain ⟨r, h1, h2⟩ := few_l0 s hf s.length 0 0 (by omega) (by omega)
  refine ⟨r, h1, fun e => ?_⟩
  obtain ⟨h3, h4⟩ := h2 e
  have := h4 (by omega)
  rw [List.drop_zero] at this
  exact ⟨h3, by omega⟩
theorem fit_of (s : List S47) (h : s.length * 32 ≤ 140737488351232 ∧ ∀ y_ ∈ s, sz47 y_) : Fit s := by
  refine ⟨by omega, fun x hx => ?_⟩
  have := (h.2 x hx).2.1
  omega
end Go.Proofs.Ytfnbodjmmkjlcaa.H
namespace Go.Proofs.Ytfnbodjmmkjlcaa.H
open Go.RowKit Go.Proofs.YtfnbodjmmkjlcaaW.PrintWords Go.Proofs.YtfnbodjmmkjlcaaW.PrintLast Go.Proofs.YtfnbodjmmkjlcaaW.PrintMore
set_option linter.unusedVariables false
set_option linter.unusedSimpArgs false
end Go.Proofs.Ytfnbodjmmkjlcaa.H
namespace Go.Proofs.Ytfnbodjmmkjlcaa.H
open Go.RowKit Go.Proofs.YtfnbodjmmkjlcaaW.PrintWords Go.Proofs.YtfnbodjmmkjlcaaW.PrintLast Go.Proofs.YtfnbodjmmkjlcaaW.PrintMore
set_option linter.unusedVariables false
set_option linter.unusedSimpArgs false
theorem chk_elem (s : List S47) (h : nl s ≤ 800) : ∀ x ∈ s, x.f1.length ≤ 800 := by
  induction s with
  | nil => intro x hx; cases hx
  | cons y t ih =>
    intro x hx
    rw [nl_cons] at h
    rcases List.mem_cons.1 hx with rfl | hx
    · omega
    · exact ih (by omega) x hx
end Go.Proofs.Ytfnbodjmmkjlcaa.H
namespace Go.Proofs.Ytfnbodjmmkjlcaa.H
open Go.RowKit Go.Proofs.YtfnbodjmmkjlcaaW.PrintWords Go.Proofs.YtfnbodjmmkjlcaaW.PrintLast Go.Proofs.YtfnbodjmmkjlcaaW.PrintMore
set_option linter.unusedVariables false
set_option linter.unusedSimpArgs false
theorem chg_trail (c : Nat) (l : List S66) : chg (hunk_Build.trail c l) = 0 := by
  unfold hunk_Build.trail
  split <;> simp [chg]
theorem chg_lead (c : Nat) (l : List S66) : chg (hunk_Build.lead c l) = 0 := by
  unfold hunk_Build.lead
  split <;> simp [chg]
end Go.Proofs.Ytfnbodjmmkjlcaa.H
namespace Go.Proofs.Ytfnbodjmmkjlcaa.H
open Go.RowKit Go.Proofs.YtfnbodjmmkjlcaaW.PrintWords Go.Proofs.YtfnbodjmmkjlcaaW.PrintLast Go.Proofs.YtfnbodjmmkjlcaaW.PrintMore
set_option linter.unusedVariables false
set_option linter.unusedSimpArgs false
theorem joins_chg (c : Nat) : ∀ (n : List S47) (a b : Nat) (cur : Option (Nat × Nat × List S47)) (ah : List S66), chg (joins (bld c n a b cur ah)) = (match cur with | none => 0 | some (_, _, now) => chg now) + chg n
  | [], a, b, none, ah => rfl
  | [], a, b, some (a0, b0, now), ah => by simp [bld, joins, mkH, chg]
  | x :: xs, a, b, none, ah => by
    simp only [bld]
    by_cases e1 : x.f0 = 1
    · rw [if_pos e1, joins_chg c xs _ _ none x.f1, chg_cons, if_neg (by omega)]
      simp only [Nat.zero_add]
    · rw [if_neg e1, joins_chg c xs _ _ (some (a - min c ah.length, b - min c ah.length, hunk_Build.lead c ah ++ [x])) [], chg_cons]
      simp only
      rw [chg_append, chg_lead, chg_cons]
      simp [chg]
  | x :: xs, a, b, some (a0, b0, now), ah => by
    have hgo : chg (joins (bld c xs (a + ad3 x) (b + ad2 x) (some (a0, b0, now ++ [x])) ah)) = chg now + chg (x :: xs) := by
      rw [joins_chg c xs _ _ (some (a0, b0, now ++ [x])) ah, chg_cons]
      simp only
      rw [chg_append, chg_cons]
      simp [chg]
      omega
    simp only [bld]
    by_cases e1 : x.f0 = 1
    · rw [if_pos e1]
      split
      · rw [joins_cons, chg_append, joins_chg c xs _ _ none x.f1, chg_cons, if_neg (by omega)]
        simp only [mkH]
        rw [chg_append, chg_trail]
        omega
      · exact hgo
    · rw [if_neg e1]
      exact hgo
theorem hnk_chg (c : Nat) (n : List S47) : chg (joins (hnk c n)) = chg n := by
  unfold hnk
  rw [joins_chg]
  simp
theorem joins_size : ∀ (l : List S44), (∀ h ∈ l, h.f4.length ≤ 800 ∧ nl h.f4 ≤ 800) → (joins l).length ≤ 800 * l.length ∧ nl (joins l) ≤ 800 * l.length
  | [], _ => ⟨Nat.le_refl _, Nat.le_refl _⟩
  | h :: t, hh => by
    obtain ⟨h1, h2⟩ := joins_size t fun x hx => hh x (List.mem_cons_of_mem _ hx)
    obtain ⟨h3, h4⟩ := hh h (by simp)
    rw [joins_cons, List.length_append, nl_append, List.length_cons]
    omega
theorem hnk_join_ev (c : Nat) (n : List S47) (hn : Nf n) (hl : nl n ≤ 800) : Ev (fun k => hunk_Join.f k (hnk c n)) (joins (hnk c n)) ∧ (joins (hnk c n)).length ≤ 640000 ∧ nl (joins (hnk c n)) ≤ 640000 := by
  have h1 := hnk_nf c n hn hl
  have h2 := hnk_len c n
  have h3 := nf_len n hn
  obtain ⟨h4, h5⟩ := joins_size (hnk c n) fun h hh => ⟨Nat.le_trans (nf_len _ (h1 h hh).1) (h1 h hh).2, (h1 h hh).2⟩
  have h6 : 800 * (hnk c n).length ≤ 640000 := by omega
  exact ⟨join_ev _ (by omega) (fun h hh x hx => by have := chk_elem _ (h1 h hh).2 x hx; omega) (by omega), by omega, by omega⟩
/-- How many hunks: one is open or none. -/
def cnt (c : Nat) : Bool → List S47 → Nat
  | o, [] => if o = true then 1 else 0
  | false, x :: xs => if x.f0 = 1 then cnt c false xs else cnt c true xs
  | true, x :: xs => if x.f0 = 1 then (if xs.isEmpty = true ∨ 2 * c < x.f1.length then 1 + cnt c false xs else cnt c true xs) else cnt c true xs
theorem bld_cnt (c : Nat) : ∀ (n : List S47) (a b : Nat) (cur : Option (Nat × Nat × List S47)) (ah : List S66), (bld c n a b cur ah).length = cnt c cur.isSome n
  | [], a, b, none, ah => rfl
  | [], a, b, some (a0, b0, now), ah => rfl
  | x :: xs, a, b, none, ah => by
    simp only [bld, cnt, Option.isSome_none]
    split
    · exact bld_cnt c xs _ _ none x.f1
    · exact bld_cnt c xs _ _ (some _) []
  | x :: xs, a, b, some (a0, b0, now), ah => by
    simp only [bld, cnt, Option.isSome_some]
    split
    · split
      · rw [List.length_cons, bld_cnt c xs _ _ none x.f1, Nat.add_comm]
        rfl
      · exact bld_cnt c xs _ _ (some (a0, b0, now ++ [x])) ah
    · exact bld_cnt c xs _ _ (some (a0, b0, now ++ [x])) ah
theorem cnt_le (c d : Nat) (h : c ≤ d) : ∀ (n : List S47), cnt d false n ≤ cnt c false n ∧ cnt d true n ≤ cnt c true n ∧ cnt d true n ≤ 1 + cnt c false n
  | [] => by simp [cnt]
  | x :: xs => by
    obtain ⟨h1, h2, h3⟩ := cnt_le c d h xs
    simp only [cnt]
    by_cases e1 : x.f0 = 1
    · simp only [if_pos e1]
      by_cases e2 : xs.isEmpty = true ∨ 2 * d < x.f1.length
      · have e3 : xs.isEmpty = true ∨ 2 * c < x.f1.length := by
          rcases e2 with e2 | e2
          · exact .inl e2
          · exact .inr (by omega)
        simp only [if_pos e2, if_pos e3]
        omega
      · simp only [if_neg e2]
        split <;> omega
    · simp only [if_neg e1]
      omega
/-- WITH MORE LINES AROUND THERE ARE NOT MORE HUNKS. -/
theorem hnk_fewer (c d : Nat) (h : c ≤ d) (n : List S47) : (hnk d n).length ≤ (hnk c n).length := by
  unfold hnk
  rw [bld_cnt, bld_cnt]
  exact (cnt_le c d h n).1
end Go.Proofs.Ytfnbodjmmkjlcaa.H
end
section
namespace Go.Proofs.Ytfnbodjmmkjlcaa.Pure
open Go.RowKit Go.Proofs.Ytfnbodjmmkjlcaa Go.Proofs.Ytfnbodjmmkjlcaa.H Go.Proofs.YtfnbodjmmkjlcaaW.PrintWords Go.Proofs.YtfnbodjmmkjlcaaW.PrintLast Go.Proofs.YtfnbodjmmkjlcaaW.PrintMore
theorem u8_rng {x : Int} (h : (Lit.int .u8 x).wf = true) : 0 ≤ x ∧ x ≤ 255 := by
  simpa [Lit.wf, IntKind.min, IntKind.max, IntKind.signed, IntKind.bits] using h
theorem ctx_rng {x : Int} (h : (Lit.int .u8 x).wf = true) : 0 ≤ Int.tmod (wrap64 x) 21 ∧ Int.tmod (wrap64 x) 21 ≤ 20 := by
  have := u8_rng h
  rw [w64i x (by omega) (by omega), Int.tmod_eq_emod_of_nonneg (by omega)]
  omega
theorem HunkFewer : jalousielaw09_HunkFewer.Pure := by
  intro s a b _ ha hb hs _ _
  have hf := fit_of s hs
  obtain ⟨hc1, hc2⟩ := ctx_rng ha
  obtain ⟨hd1, hd2⟩ := ctx_rng hb
  refine Ev.rounds ?_
  unfold jalousielaw09_HunkFewer.f
  generalize Int.tmod (wrap64 a) 21 = c at hc1 hc2
  generalize Int.tmod (wrap64 b) 21 = d at hd1 hd2
  have hmn : 0 ≤ mn c d ∧ mn c d ≤ mx c d ∧ mx c d ≤ 20 := by
    unfold mn mx
    split <;> split <;> omega
  generalize mn c d = x at hmn
  generalize mx c d = y at hmn
  obtain ⟨hx, hxy, hy⟩ := hmn
  obtain ⟨r, hr, _⟩ := few_ev s hf
  refine Ev.bind hr ?_
  by_cases h : r = true
  · refine ev_pos h ?_
    refine Ev.bind (bld_ev s x hf) (Ev.bind (bld_ev s y hf) ?_)
    unfold hres
    by_cases hk : chk s = 0
    · rw [if_pos hk, if_pos hk, if_neg (by omega), if_neg (by omega)]
      obtain ⟨k1, k2, k3⟩ := chk_zero.1 hk
      have hn := p_nf s k3
      have hl : nl (script_normal.p s) ≤ 800 := by rw [p_nl]; exact k2
      have hfew := hnk_fewer x.toNat y.toNat (by omega) (script_normal.p s)
      obtain ⟨j1, j2, j3⟩ := hnk_join_ev x.toNat _ hn hl
      obtain ⟨i1, i2, i3⟩ := hnk_join_ev y.toNat _ hn hl
      refine ev_pos rfl (Ev.bind live_ev (ev_pos rfl (ev_pos (by simp only; omega) ?_)))
      refine Ev.bind j1 (Ev.bind (rchg_ev _ (by omega) (by omega)) (Ev.bind i1 (Ev.bind (rchg_ev _ (by omega) (by omega)) (ev_some ?_))))
      rw [hnk_chg, hnk_chg]
      simp
    · rw [if_neg hk, if_neg hk]
      refine ev_pos rfl (Ev.bind live_ev (ev_pos rfl (ev_pos (by simp) ?_)))
      have j1 := join_ev [] (by simp) (by simp) (by simp [joins])
      exact Ev.bind j1 (Ev.bind (rchg_ev _ (by simp [joins, nl]) (by simp [joins])) (Ev.bind j1 (Ev.bind (rchg_ev _ (by simp [joins, nl]) (by simp [joins])) (ev_some (by simp)))))
  · exact ev_neg h (Ev.bind live_ev (ev_some rfl))
end Go.Proofs.Ytfnbodjmmkjlcaa.Pure
end
