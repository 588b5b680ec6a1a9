/-
  The pure statement of FoldTrees: paths, kids and levels, or why there are none.
-/
import Derived.Test.YtcmnofbpcmnnhaaDoorFUFoldTrees
import Derived.Test.YtcmnofbpcmnnhaaDoorFPBase
namespace Go.Proofs.YtcmnofbpcmnnhaaDoor.Pure
open Go.RowKit Go.Proofs.YtcmnofbpcmnnhaaDoor Go.Proofs.YtcmnofbpcmnnhaaDoor.F Go.Proofs.YtcmnofbpcmnnhaaDoorW.PrintWords Go.Proofs.YtcmnofbpcmnnhaaDoorW.PrintLast Go.Proofs.YtcmnofbpcmnnhaaDoorW.PrintMore
theorem live_ev : Ev (fun k => jalousielaw41_live.f k) true := by
  refine Ev.of (fun k => jalousielaw41_live.mono k) (k := 40) ?_
  decide +kernel
/-- From p up: p, its parent, and so on. -/
def anc (P : List Int) : Nat → Int → List Int
  | 0, _ => []
  | f + 1, p => if p ≥ 0 then p :: anc P f (P.getD p.toNat 0) else []
theorem anc_fuel {P : List Int} (hP : ck P = 0) : ∀ (f g : Nat) (p : Int), p < (f : Int) → p < (g : Int) → p < (P.length : Int) → anc P f p = anc P g p
  | 0, 0, p, _, _, _ => rfl
  | 0, g + 1, p, h1, _, _ => by simp only [anc]; rw [if_neg (by omega)]
  | f + 1, 0, p, _, h2, _ => by simp only [anc]; rw [if_neg (by omega)]
  | f + 1, g + 1, p, h1, h2, h3 => by
    simp only [anc]
    by_cases h0 : p ≥ 0
    · have := ck_ok hP p.toNat (by omega)
      rw [if_pos h0, if_pos h0, anc_fuel hP f g _ (by omega) (by omega) (by omega)]
    · rw [if_neg h0, if_neg h0]
theorem anc_len (P : List Int) : ∀ (f : Nat) (p : Int), (anc P f p).length ≤ f
  | 0, _ => Nat.le_refl _
  | f + 1, p => by
    simp only [anc]
    split
    · have := anc_len P f (P.getD p.toNat 0)
      rw [List.length_cons]
      omega
    · exact Nat.zero_le _
theorem rdt (P : List Int) (p : Int) (h : 0 ≤ p) : rd P p = P.getD p.toNat 0 := by
  obtain ⟨q, rfl⟩ : ∃ q : Nat, p = q := ⟨p.toNat, by omega⟩
  rw [rdn, Int.toNat_natCast]
theorem path_l0 {P : List Int} (hP : ck P = 0) (hs : P.length ≤ 60) : ∀ (f : Nat) (acc : List Int) (p : Int), p < (f : Int) → -1 ≤ p → p < (P.length : Int) → acc.length + f ≤ 1000 → Ev (fun k => fold_Path.l0 k P acc p) ((acc ++ anc P f p).reverse, 0)
  | f, acc, p, h1, h2, h3, h4 => by
    refine ev_succ ?_
    simp only [fold_Path.l0]
    by_cases h0 : p ≥ 0
    · obtain ⟨g, rfl⟩ : ∃ g, f = g + 1 := ⟨f - 1, by omega⟩
      have hc := ck_ok hP p.toNat (by omega)
      have ih := path_l0 hP hs g (acc ++ [p]) (P.getD p.toNat 0) (by omega) (by omega) (by omega) (by rw [List.length_append, List.length_singleton]; omega)
      (repeat (first | refine ev_pos (by omega) ?_ | refine ev_neg (by omega) ?_))
      rw [rdt P p h0]
      simp only [anc]
      rw [if_pos h0]
      simpa [List.append_assoc] using ih
    · (repeat (first | refine ev_pos (by omega) ?_ | refine ev_neg (by omega) ?_))
      have e : anc P f p = [] := by
        cases f with
        | zero => rfl
        | succ g => simp only [anc]; rw [if_neg h0]
      rw [e, List.append_nil]
      exact Ev.bind (rev_ev acc (by omega)) (ev_some rfl)
termination_by f => f
theorem ref_path_l0 {P : List Int} (hP : ck P = 0) (hs : P.length ≤ 60) : ∀ (f : Nat) (acc : List Int) (p : Int), p < (f : Int) → -1 ≤ p → p < (P.length : Int) → acc.length + f ≤ 1000 → Ev (fun k => jalousieref41_Path.l0 k P acc p) ((anc P f p).reverse ++ acc, 0)
  | f, acc, p, h1, h2, h3, h4 => by
    refine ev_succ ?_
    simp only [jalousieref41_Path.l0]
    by_cases h0 : p ≥ 0
    · obtain ⟨g, rfl⟩ : ∃ g, f = g + 1 := ⟨f - 1, by omega⟩
      have hc := ck_ok hP p.toNat (by omega)
      have ih := ref_path_l0 hP hs g ([p] ++ acc) (P.getD p.toNat 0) (by omega) (by omega) (by omega) (by rw [List.length_append, List.length_singleton]; omega)
      (repeat (first | refine ev_pos (by omega) ?_ | refine ev_neg (by omega) ?_))
      refine ev_bind rfl ?_
      have hl : ([p] : List Int).length = 1 := rfl
      (repeat (first | refine ev_pos (by omega) ?_ | refine ev_neg (by omega) ?_))
      rw [rdt P p h0]
      simp only [anc]
      rw [if_pos h0]
      simpa [List.append_assoc] using ih
    · (repeat (first | refine ev_pos (by omega) ?_ | refine ev_neg (by omega) ?_))
      have e : anc P f p = [] := by
        cases f with
        | zero => rfl
        | succ g => simp only [anc]; rw [if_neg h0]
      rw [e]
      exact ev_some rfl
termination_by f => f
/-- The answer of both Paths. -/
def pth (P : List Int) (i : Int) : List Int × Int := if ck P = 0 then (if 0 ≤ i ∧ i < (P.length : Int) then ((anc P P.length (P.getD i.toNat 0)).reverse, 0) else ([], 2)) else ([], ck P)
theorem path_ev (P : List Int) (hs : P.length ≤ 60) (i : Int) : Ev (fun k => fold_Path.f k P i) (pth P i) := by
  unfold fold_Path.f pth
  refine Ev.bind (check_ev P (by omega)) ?_
  by_cases hc : ck P = 0
  · rw [if_pos hc]
    refine ev_pos hc ?_
    by_cases h0 : i < 0
    · (repeat (first | refine ev_pos (by omega) ?_ | refine ev_neg (by omega) ?_))
      refine ev_succ ?_
      simp only [fold_Path.j0]
      rw [if_neg (by omega)]
      exact ev_pos trivial (ev_some rfl)
    · (repeat (first | refine ev_pos (by omega) ?_ | refine ev_neg (by omega) ?_))
      refine ev_succ ?_
      simp only [fold_Path.j0]
      by_cases h1 : i ≥ (P.length : Int)
      · rw [if_neg (by omega)]
        exact ev_pos (by simpa using h1) (ev_some rfl)
      · have ho := ck_ok hc i.toNat (by omega)
        rw [if_pos (by omega)]
        refine ev_neg (by simpa using h1) ?_
        (repeat (first | refine ev_pos (by omega) ?_ | refine ev_neg (by omega) ?_))
        rw [rdt P i (by omega)]
        have := path_l0 hc hs P.length [] (P.getD i.toNat 0) (by omega) (by omega) (by omega) (by simp; omega)
        simpa using this
  · rw [if_neg hc]
    exact ev_neg hc (ev_some rfl)
theorem ref_path_ev (P : List Int) (hs : P.length ≤ 60) (i : Int) : Ev (fun k => jalousieref41_Path.f k P i) (pth P i) := by
  unfold jalousieref41_Path.f pth
  refine Ev.bind (ref_check_ev P (by omega)) ?_
  by_cases hc : ck P = 0
  · rw [if_pos hc]
    refine ev_pos hc ?_
    by_cases h0 : i < 0
    · (repeat (first | refine ev_pos (by omega) ?_ | refine ev_neg (by omega) ?_))
      refine ev_succ ?_
      simp only [jalousieref41_Path.j0]
      rw [if_neg (by omega)]
      exact ev_pos trivial (ev_some rfl)
    · (repeat (first | refine ev_pos (by omega) ?_ | refine ev_neg (by omega) ?_))
      refine ev_succ ?_
      simp only [jalousieref41_Path.j0]
      by_cases h1 : i ≥ (P.length : Int)
      · rw [if_neg (by omega)]
        exact ev_pos (by simpa using h1) (ev_some rfl)
      · have ho := ck_ok hc i.toNat (by omega)
        rw [if_pos (by omega)]
        refine ev_neg (by simpa using h1) ?_
        (repeat (first | refine ev_pos (by omega) ?_ | refine ev_neg (by omega) ?_))
        rw [rdt P i (by omega)]
        have := ref_path_l0 hc hs P.length [] (P.getD i.toNat 0) (by omega) (by omega) (by omega) (by simp; omega)
        simpa using this
  · rw [if_neg hc]
    exact ev_neg hc (ev_some rfl)
/-! ### kids -/
def kd (P : List Int) (a : Int) (i : Nat) : List Int := ((List.range i).filter fun j => P.getD j 0 == a).map fun (j : Nat) => (j : Int)
theorem kd_succ (P : List Int) (a : Int) (i : Nat) : kd P a (i + 1) = if P.getD i 0 = a then kd P a i ++ [(i : Int)] else kd P a i := by
  unfold kd
  rw [List.range_succ, List.filter_append, List.map_append]
  split
  · rename_i h
    have hb : (P.getD i 0 == a) = true := by rw [h]; exact beq_self_eq_true a
    simp only [List.filter_cons, hb, if_true, List.filter_nil, List.map_cons, List.map_nil]
  · rename_i h
    have hb : (P.getD i 0 == a) = false := beq_eq_false_iff_ne.mpr h
    simp only [List.filter_cons, hb, Bool.false_eq_true, if_false, List.filter_nil, List.map_nil, List.append_nil]
theorem kd_len (P : List Int) (a : Int) (i : Nat) : (kd P a i).length ≤ i := by
  unfold kd
  rw [List.length_map]
  exact Nat.le_trans (List.length_filter_le _ _) (by simp)
theorem kids_l0 (P : List Int) (a : Int) (hs : P.length ≤ 60) : ∀ d i : Nat, i + d = P.length → Ev (fun k => fold_Kids.l0 k a (kd P a i) P (P.length : Int) (i : Int)) (kd P a P.length)
  | 0, i, h => by
    obtain rfl : i = P.length := by omega
    refine ev_succ ?_
    simp only [fold_Kids.l0]
    (repeat (first | refine ev_pos (by omega) ?_ | refine ev_neg (by omega) ?_))
    exact ev_some rfl
  | d + 1, i, h => by
    have ih := kids_l0 P a hs d (i + 1) (by omega)
    have hl := kd_len P a i
    rw [kd_succ] at ih
    refine ev_succ ?_
    simp only [fold_Kids.l0]
    rw [w64s i (by omega), rdn]
    (repeat (first | refine ev_pos (by omega) ?_ | refine ev_neg (by omega) ?_))
    by_cases h1 : P.getD i 0 = a
    · rw [if_pos h1] at ih
      refine ev_pos h1 ?_
      (repeat (first | refine ev_pos (by omega) ?_ | refine ev_neg (by omega) ?_))
      exact ih
    · rw [if_neg h1] at ih
      exact ev_neg h1 ih
theorem ref_kids_l0 (P : List Int) (a : Int) (hs : P.length ≤ 60) (hc : ck P = 0) : ∀ d i : Nat, i + d = P.length → Ev (fun k => jalousieref41_Kids.l0 k P a (kd P a i) (i : Int)) (kd P a P.length)
  | 0, i, h => by
    obtain rfl : i = P.length := by omega
    refine ev_succ ?_
    simp only [jalousieref41_Kids.l0]
    (repeat (first | refine ev_pos (by omega) ?_ | refine ev_neg (by omega) ?_))
    refine ev_succ ?_
    simp only [jalousieref41_Kids.j1]
    exact ev_neg (by decide) (ev_some rfl)
  | d + 1, i, h => by
    have ih := ref_kids_l0 P a hs hc d (i + 1) (by omega)
    have hl := kd_len P a i
    rw [kd_succ] at ih
    refine ev_succ ?_
    simp only [jalousieref41_Kids.l0]
    (repeat (first | refine ev_pos (by omega) ?_ | refine ev_neg (by omega) ?_))
    refine Ev.bind (ref_check_ev P (by omega)) ?_
    rw [hc]
    refine ev_succ ?_
    simp only [jalousieref41_Kids.j1]
    refine ev_pos (by decide) ?_
    rw [w64s i (by omega), rdn]
    (repeat (first | refine ev_pos (by omega) ?_ | refine ev_neg (by omega) ?_))
    by_cases h1 : P.getD i 0 = a
    · rw [if_pos h1] at ih
      refine ev_pos h1 ?_
      (repeat (first | refine ev_pos (by omega) ?_ | refine ev_neg (by omega) ?_))
      exact ih
    · rw [if_neg h1] at ih
      exact ev_neg h1 ih
def kdr (P : List Int) (a : Int) : List Int := if ck P = 0 then kd P a P.length else []
theorem kids_ev (P : List Int) (a : Int) (hs : P.length ≤ 60) : Ev (fun k => fold_Kids.f k P a) (kdr P a) := by
  unfold fold_Kids.f kdr
  refine Ev.bind (check_ev P (by omega)) ?_
  by_cases hc : ck P = 0
  · rw [if_pos hc]
    exact ev_pos hc (kids_l0 P a hs P.length 0 (by omega))
  · rw [if_neg hc]
    exact ev_neg hc (ev_some rfl)
theorem ref_kids_ev (P : List Int) (a : Int) (hs : P.length ≤ 60) : Ev (fun k => jalousieref41_Kids.f k P a) (kdr P a) := by
  unfold jalousieref41_Kids.f kdr
  by_cases hc : ck P = 0
  · rw [if_pos hc]
    exact ref_kids_l0 P a hs hc P.length 0 (by omega)
  · rw [if_neg hc]
    refine ev_succ ?_
    simp only [jalousieref41_Kids.l0]
    by_cases hl : (0 : Int) < (P.length : Int)
    · (repeat (first | refine ev_pos (by omega) ?_ | refine ev_neg (by omega) ?_))
      refine Ev.bind (ref_check_ev P (by omega)) ?_
      refine ev_succ ?_
      simp only [jalousieref41_Kids.j1]
      exact ev_neg (by simpa using hc) (ev_some rfl)
    · (repeat (first | refine ev_pos (by omega) ?_ | refine ev_neg (by omega) ?_))
      refine ev_succ ?_
      simp only [jalousieref41_Kids.j1]
      exact ev_neg (by decide) (ev_some rfl)
/-! ### levels -/
def dep (P : List Int) (i : Nat) : Int := ((anc P P.length (P.getD i 0)).length : Nat)
def lv (P : List Int) (i : Nat) : List Int := (List.range i).map (dep P)
theorem lv_succ (P : List Int) (i : Nat) : lv P (i + 1) = lv P i ++ [dep P i] := by
  unfold lv
  rw [List.range_succ, List.map_append]
  rfl
theorem lv_len (P : List Int) (i : Nat) : (lv P i).length = i := by simp [lv]
theorem dep_up {P : List Int} (hc : ck P = 0) (i p : Nat) (hi : i < P.length) (hp : P.getD i 0 = (p : Int)) : dep P i = dep P p + 1 := by
  have h1 := ck_ok hc i hi
  have h2 := ck_ok hc p (by omega)
  unfold dep
  rw [hp, show anc P P.length (p : Int) = anc P (P.length - 1 + 1) (p : Int) by rw [Nat.sub_add_cancel (by omega)]]
  simp only [anc]
  rw [if_pos (by omega), Int.toNat_natCast, List.length_cons, anc_fuel hc (P.length - 1) P.length _ (by omega) (by omega) (by omega)]
  omega
theorem dep_top {P : List Int} (i : Nat) (hi : i < P.length) (hp : P.getD i 0 < 0) : dep P i = 0 := by
  unfold dep
  rw [show anc P P.length (P.getD i 0) = anc P (P.length - 1 + 1) (P.getD i 0) by rw [Nat.sub_add_cancel (by omega)]]
  simp only [anc]
  rw [if_neg (by omega)]
  rfl
theorem levels_l0 {P : List Int} (hc : ck P = 0) (hs : P.length ≤ 60) : ∀ d i : Nat, i + d = P.length → Ev (fun k => fold_Levels.l0 k (lv P i ++ List.replicate d 0) P (P.length : Int) (i : Int)) (lv P P.length)
  | 0, i, h => by
    obtain rfl : i = P.length := by omega
    refine ev_succ ?_
    simp only [fold_Levels.l0]
    (repeat (first | refine ev_pos (by omega) ?_ | refine ev_neg (by omega) ?_))
    exact ev_some (by simp)
  | d + 1, i, h => by
    have ih := levels_l0 hc hs d (i + 1) (by omega)
    have hl := lv_len P i
    have hlen : (lv P i ++ List.replicate (d + 1) (0 : Int)).length = P.length := by rw [List.length_append, hl, List.length_replicate]; omega
    have ho := ck_ok hc i (by omega)
    rw [lv_succ, List.append_assoc] at ih
    refine ev_succ ?_
    simp only [fold_Levels.l0]
    rw [w64s i (by omega), rdn]
    (repeat (first | refine ev_pos (by omega) ?_ | refine ev_neg (by omega) ?_))
    by_cases h1 : P.getD i 0 ≥ 0
    · obtain ⟨p, hp⟩ : ∃ p : Nat, P.getD i 0 = p := ⟨(P.getD i 0).toNat, by omega⟩
      rw [dep_up hc i p (by omega) hp] at ih
      rw [hp] at h1 ho ⊢
      (repeat (first | refine ev_pos (by omega) ?_ | refine ev_neg (by omega) ?_))
      have hd : rd (lv P i ++ List.replicate (d + 1) (0 : Int)) (p : Int) = dep P p := by
        rw [rdn, List.getD_eq_getElem?_getD, List.getElem?_append_left (by omega)]
        unfold lv
        rw [List.getElem?_map, List.getElem?_range (by omega)]
        rfl
      have hb : dep P p ≤ 60 := by
        unfold dep
        have := anc_len P P.length (P.getD p 0)
        omega
      have hb2 : 0 ≤ dep P p := by unfold dep; omega
      rw [hd, w64i _ (by omega) (by omega), Int.toNat_natCast]
      have hset : (lv P i ++ List.replicate (d + 1) (0 : Int)).set i (dep P p + 1) = lv P i ++ ([dep P p + 1] ++ List.replicate d 0) := by
        rw [List.set_append_right _ _ (by omega), hl, Nat.sub_self, List.replicate_succ]
        rfl
      rw [hset]
      exact ih
    · rw [dep_top i (by omega) (by omega)] at ih
      (repeat (first | refine ev_pos (by omega) ?_ | refine ev_neg (by omega) ?_))
      rw [List.replicate_succ]
      exact ih
theorem ref_levels_l0 {P : List Int} (hc : ck P = 0) (hs : P.length ≤ 60) : ∀ d i : Nat, i + d = P.length → Ev (fun k => jalousieref41_Levels.l0 k P (lv P i) (i : Int)) (lv P P.length)
  | 0, i, h => by
    obtain rfl : i = P.length := by omega
    refine ev_succ ?_
    simp only [jalousieref41_Levels.l0]
    (repeat (first | refine ev_pos (by omega) ?_ | refine ev_neg (by omega) ?_))
    exact ev_some rfl
  | d + 1, i, h => by
    have ih := ref_levels_l0 hc hs d (i + 1) (by omega)
    have hl := lv_len P i
    rw [lv_succ] at ih
    refine ev_succ ?_
    simp only [jalousieref41_Levels.l0]
    rw [w64s i (by omega)]
    (repeat (first | refine ev_pos (by omega) ?_ | refine ev_neg (by omega) ?_))
    refine Ev.bind (ref_check_ev P (by omega)) ?_
    refine ev_pos hc ?_
    refine Ev.bind (ref_path_ev P hs (i : Int)) ?_
    (repeat (first | refine ev_pos (by omega) ?_ | refine ev_neg (by omega) ?_))
    have e : ((pth P (i : Int)).1.length : Int) = dep P i := by
      unfold pth dep
      rw [if_pos hc, if_pos (by omega), Int.toNat_natCast, List.length_reverse]
    rw [e]
    exact ih
def lvr (P : List Int) : List Int := if ck P = 0 then lv P P.length else []
theorem levels_ev (P : List Int) (hs : P.length ≤ 60) : Ev (fun k => fold_Levels.f k P) (lvr P) := by
  unfold fold_Levels.f lvr
  refine Ev.bind (check_ev P (by omega)) ?_
  by_cases hc : ck P = 0
  · rw [if_pos hc]
    refine ev_pos hc ?_
    rw [Int.toNat_natCast]
    (repeat (first | refine ev_pos (by omega) ?_ | refine ev_neg (by omega) ?_))
    exact levels_l0 hc hs P.length 0 (by omega)
  · rw [if_neg hc]
    exact ev_neg hc (ev_some rfl)
theorem ref_levels_ev (P : List Int) (hs : P.length ≤ 60) : Ev (fun k => jalousieref41_Levels.f k P) (lvr P) := by
  unfold jalousieref41_Levels.f lvr
  by_cases hc : ck P = 0
  · rw [if_pos hc]
    exact ref_levels_l0 hc hs P.length 0 (by omega)
  · rw [if_neg hc]
    refine ev_succ ?_
    simp only [jalousieref41_Levels.l0]
    by_cases hl : (0 : Int) < (P.length : Int)
    · (repeat (first | refine ev_pos (by omega) ?_ | refine ev_neg (by omega) ?_))
      refine Ev.bind (ref_check_ev P (by omega)) ?_
      exact ev_neg hc (ev_some rfl)
    · (repeat (first | refine ev_pos (by omega) ?_ | refine ev_neg (by omega) ?_))
      exact ev_some rfl
theorem FoldTrees : jalousielaw41_FoldTrees.Pure := by
  intro l a hl ha hs _
  have hm : ∃ m : Nat, mn (l.length : Int) 60 = (m : Int) ∧ m ≤ 60 ∧ m ≤ l.length := by
    refine ⟨min l.length 60, ?_, Nat.min_le_right _ _, Nat.min_le_left _ _⟩
    unfold mn
    split <;> omega
  obtain ⟨m, hm, hm1, hm2⟩ := hm
  refine Ev.rounds (r := true) ?_
  unfold jalousielaw41_FoldTrees.f
  rw [hm, Int.toNat_natCast]
  have hP : (l.take m).length ≤ 60 := by rw [List.length_take]; omega
  generalize l.take m = P at hP
  (repeat (first | refine ev_pos (by omega) ?_ | refine ev_neg (by omega) ?_))
  have hp1 : (pth P a).1.length ≤ 60 := by
    unfold pth
    split
    · split
      · rw [List.length_reverse]
        have := anc_len P P.length (P.getD a.toNat 0)
        omega
      · exact Nat.zero_le _
    · exact Nat.zero_le _
  have hk1 : (kdr P a).length ≤ 60 := by
    unfold kdr
    split
    · have := kd_len P a P.length
      omega
    · exact Nat.zero_le _
  have hl1 : (lvr P).length ≤ 60 := by
    unfold lvr
    split
    · rw [lv_len]; exact hP
    · exact Nat.zero_le _
  refine Ev.bind (path_ev P hP a) ?_
  refine Ev.bind (ref_path_ev P hP a) ?_
  refine Ev.bind live_ev ?_
  refine ev_pos rfl ?_
  refine Ev.bind (ints_ev _ (by omega)) ?_
  refine ev_pos rfl ?_
  refine ev_pos rfl ?_
  refine Ev.bind (check_ev P (by omega)) ?_
  refine Ev.bind (ref_check_ev P (by omega)) ?_
  refine ev_pos rfl ?_
  refine Ev.bind (kids_ev P a hP) ?_
  refine Ev.bind (ref_kids_ev P a hP) ?_
  refine Ev.bind (ints_ev _ (by omega)) ?_
  refine ev_pos rfl ?_
  refine Ev.bind (levels_ev P hP) ?_
  refine Ev.bind (ref_levels_ev P hP) ?_
  exact Ev.bind (ints_ev _ (by omega)) (ev_some rfl)
end Go.Proofs.YtcmnofbpcmnnhaaDoor.Pure
