/-
  The pure statement of FoldAll: the lines that are shown, and their parents.
-/
import Derived.Test.YtcmnofbpcmnnhaaDoorFUFoldAll
import Derived.Test.YtcmnofbpcmnnhaaDoorFPDeep
namespace Go.Proofs.YtcmnofbpcmnnhaaDoor.Pure
open Go.RowKit Go.Proofs.YtcmnofbpcmnnhaaDoor Go.Proofs.YtcmnofbpcmnnhaaDoor.F Go.Proofs.YtcmnofbpcmnnhaaDoorW.PrintWords Go.Proofs.YtcmnofbpcmnnhaaDoorW.PrintLast Go.Proofs.YtcmnofbpcmnnhaaDoorW.PrintMore
theorem live_ev : Ev (fun k => jalousielaw41_live.f k) true := by
  refine Ev.of (fun k => jalousielaw41_live.mono k) (k := 40) ?_
  decide +kernel
/-- What is shown of the lines before q. -/
def shu (S : List Ln) (x : Int) (q : Nat) : List Bool := (List.range S.length).map fun i => decide (i < q) && decide (lvl S i < x)
theorem shu_len (S : List Ln) (x : Int) (q : Nat) : (shu S x q).length = S.length := by simp [shu]
theorem shu_get (S : List Ln) (x : Int) (q i : Nat) (h : i < S.length) : rdOf false (shu S x q) (i : Int) = (decide (i < q) && decide (lvl S i < x)) := by
  unfold rdOf
  rw [Int.toNat_natCast, getD_lt (by rw [shu_len]; exact h)]
  simp [shu]
theorem shu_zero (S : List Ln) (x : Int) : shu S x 0 = List.replicate S.length false := by
  refine List.ext_getElem (by simp [shu]) fun i h1 h2 => ?_
  simp [shu]
theorem shu_set (S : List Ln) (x : Int) (s h : Nat) (hx : lvl S s < x) (hn : ∀ q, s < q → q < s + 1 + h → ¬ lvl S q < x) : (shu S x s).set s true = shu S x (s + 1 + h) := by
  refine List.ext_getElem (by simp [shu]) fun i h1 h2 => ?_
  rw [List.getElem_set]
  simp only [shu, List.getElem_map, List.getElem_range]
  by_cases e : s = i
  · subst e
    rw [if_pos rfl, decide_eq_true (by omega), decide_eq_true hx]
    rfl
  · rw [if_neg e]
    by_cases c : i < s
    · rw [decide_eq_true c, decide_eq_true (by omega : i < s + 1 + h)]
    · rw [decide_eq_false c]
      by_cases c2 : i < s + 1 + h
      · rw [decide_eq_false (hn i (by omega) c2), Bool.and_false, Bool.and_false]
      · rw [decide_eq_false c2]
/-- The parents are told right. -/
theorem law_l1 (S : List Ln) (hS : few_ok S) (x : Int) : ∀ (d i : Nat), i + d = S.length → Ev (fun k => jalousielaw41_FoldAll.l1 k S (pas S S.length) (shu S x S.length) (i : Int)) true
  | 0, i, h => by
    have hl := hS.1
    refine ev_succ ?_
    simp only [jalousielaw41_FoldAll.l1]
    (repeat (first | refine ev_pos (by omega) ?_ | refine ev_neg (by omega) ?_))
    exact Ev.bind live_ev (ev_some rfl)
  | d + 1, i, h => by
    have hl := hS.1
    have ih := law_l1 S hS x d (i + 1) (by omega)
    refine ev_succ ?_
    simp only [jalousielaw41_FoldAll.l1]
    rw [w64s i (by omega), rdn, pas_get S _ i (by omega), pas_len, shu_len, shu_get S x _ i (by omega)]
    have hp : pa S i = -1 ∨ ∃ p : Nat, pa S i = (p : Int) ∧ p < i ∧ bb S p = false ∧ vv S p < vv S i := parU_is (vv S) (bb S) (vv S i) i
    rcases hp with hp | ⟨p, hp, h1, h2, h3⟩
    · rw [hp]
      (repeat (first | refine ev_pos (by omega) ?_ | refine ev_neg (by omega) ?_))
      by_cases c : (decide (i < S.length) && decide (lvl S i < x)) = true
      · exact ev_pos c ih
      · exact ev_neg c ih
    · have hd : lvl S i = lvl S p + 1 := dep_up (ck_pas S S.length) i p (by rw [pas_len]; omega) (by rw [pas_get S _ i (by omega), hp])
      rw [hp, shu_get S x _ p (by omega)]
      (repeat (first | refine ev_pos (by omega) ?_ | refine ev_neg (by omega) ?_))
      refine Ev.bind (of_ev S hS p (by omega)) ?_
      refine Ev.bind (of_ev S hS i (by omega)) ?_
      (repeat (first | refine ev_pos (by omega) ?_ | refine ev_neg (by omega) ?_))
      by_cases c : (decide (i < S.length) && decide (lvl S i < x)) = true
      · refine ev_pos c ?_
        have c2 := of_decide_eq_true ((Bool.and_eq_true_iff.1 c).2)
        (repeat (first | refine ev_pos (by omega) ?_ | refine ev_neg (by omega) ?_))
        rw [decide_eq_true (by omega : p < S.length), decide_eq_true (by omega : lvl S p < x)]
        exact ev_pos rfl ih
      · exact ev_neg c ih
theorem law_l0 (S : List Ln) (hS : few_ok S) (x : Int) (A : List Fo) (hA : A.length ≤ 1000) : ∀ (d j s : Nat), j + d = A.length → Tile (lvl S) x (A.drop j) s S.length → Ev (fun k => jalousielaw41_FoldAll.l0 k S A (pas S S.length) (shu S x s) (s : Int) (j : Int)) true
  | 0, j, s, h, ht => by
    have hl := hS.1
    rw [List.drop_eq_nil_of_le (by omega)] at ht
    obtain rfl : s = S.length := ht
    refine ev_succ ?_
    simp only [jalousielaw41_FoldAll.l0]
    (repeat (first | refine ev_pos (by omega) ?_ | refine ev_neg (by omega) ?_))
    refine ev_pos trivial ?_
    rw [pas_len, bne_self_eq_false]
    refine ev_succ ?_
    simp only [jalousielaw41_FoldAll.j3]
    refine ev_neg (by simp) ?_
    exact law_l1 S hS x S.length 0 (by omega)
  | d + 1, j, s, h, ht => by
    have hl := hS.1
    rw [drop_cons A j (by omega) z44] at ht
    obtain ⟨q, h1, h2, h3, ht⟩ := ht
    have hle := ht.le
    have ih := law_l0 S hS x A hA d (j + 1) (s + 1 + q) (by omega) ht
    refine ev_succ ?_
    simp only [jalousielaw41_FoldAll.l0]
    rw [rd_fo, h1, w64s j (by omega)]
    show Ev (fun k => if (j : Int) < (A.length : Int) then (if 0 ≤ (j : Int) then (if (s : Int) = (s : Int) then (if (q : Int) < 0 then (some false) else (if (q : Int) > (wrap64 ((wrap64 ((S.length : Int) - (s : Int))) - 1)) then (some false) else (if 0 ≤ (s : Int) then (if (s : Int) < ((shu S x s).length : Int) then (jalousielaw41_FoldAll.l0 k S A (pas S S.length) ((shu S x s).set (s : Int).toNat true) (wrap64 ((wrap64 ((s : Int) + 1)) + (q : Int))) ((j + 1 : Nat) : Int)) else (none)) else (none)))) else (some false)) else (none)) else _) true
    rw [w64i ((S.length : Int) - (s : Int)) (by omega) (by omega), w64i ((S.length : Int) - (s : Int) - 1) (by omega) (by omega), w64s s (by omega), w64i (((s + 1 : Nat) : Int) + (q : Int)) (by omega) (by omega), shu_len, Int.toNat_natCast, shu_set S x s q h2 h3]
    (repeat (first | refine ev_pos (by omega) ?_ | refine ev_neg (by omega) ?_))
    exact ih
theorem u8_rng {x : Int} (h : (Lit.int .u8 x).wf = true) : 0 ≤ x ∧ x ≤ 255 := by
  obtain ⟨h1, h2⟩ := Bool.and_eq_true_iff.1 h
  exact ⟨of_decide_eq_true h1, of_decide_eq_true h2⟩
theorem law_j0 (S : List Ln) (hS : few_ok S) (x y : Int) (hx : 1 ≤ x) (hy : x ≤ y) (hy2 : y ≤ 16) : Ev (fun k => jalousielaw41_FoldAll.j0 k S x y) true := by
  have hl := hS.1
  have hm := hds_mono (lvl S) x y hy S.length
  have hn := hds_len_le (lvl S) x S.length
  refine ev_succ ?_
  simp only [jalousielaw41_FoldAll.j0]
  refine Ev.bind (hide_ev S hS x hx (by omega)) ?_
  refine Ev.bind (hide_ev S hS y (by omega) hy2) ?_
  refine ev_pos rfl ?_
  refine ev_pos rfl ?_
  show Ev (fun k => jalousielaw41_FoldAll.j1 k S (hds (lvl S) x S.length) (decide (((hds (lvl S) x S.length).length : Int) > ((hds (lvl S) y S.length).length : Int)))) true
  rw [decide_eq_false (by omega)]
  refine ev_succ ?_
  simp only [jalousielaw41_FoldAll.j1]
  refine ev_neg (by simp) ?_
  refine Ev.bind (parents_ev S hS) ?_
  rw [Int.toNat_natCast]
  (repeat (first | refine ev_pos (by omega) ?_ | refine ev_neg (by omega) ?_))
  rw [← shu_zero S x]
  exact law_l0 S hS x _ (by omega) (hds (lvl S) x S.length).length 0 0 (by omega) (hds_tile (lvl S) x (lvl_zero S x hx) S.length)
theorem FoldAll : jalousielaw41_FoldAll.Pure := by
  intro l0 a b _ ha hb _ _ _
  have ha := u8_rng ha
  have hb := u8_rng hb
  refine Ev.rounds ?_
  unfold jalousielaw41_FoldAll.f
  obtain ⟨S, hS, hk⟩ := few_ev l0
  refine Ev.bind hS ?_
  have h1 : 0 ≤ mn a b ∧ mn a b ≤ 255 := by unfold mn; split <;> omega
  have h2 : 0 ≤ mx a b ∧ mx a b ≤ 255 := by unfold mx; split <;> omega
  rw [w64i (mn a b) (by omega) (by omega), w64i (mx a b) (by omega) (by omega), Int.tmod_eq_emod_of_nonneg h1.1, Int.tmod_eq_emod_of_nonneg h2.1, w64i (1 + mn a b % 16) (by omega) (by omega), w64i (1 + mn a b % 16 + mx a b % 16) (by omega) (by omega)]
  by_cases c : a = b
  · refine ev_pos c ?_
    exact law_j0 S hk _ _ (by omega) (by omega) (by omega)
  · refine ev_neg c ?_
    have h3 : 1 + mn a b % 16 ≤ mn 16 (1 + mn a b % 16 + mx a b % 16) ∧ mn 16 (1 + mn a b % 16 + mx a b % 16) ≤ 16 := by
      have p1 : 0 ≤ mn a b % 16 ∧ mn a b % 16 ≤ 15 := by omega
      have p2 : 0 ≤ mx a b % 16 ∧ mx a b % 16 ≤ 15 := by omega
      generalize mn a b % 16 = p at *
      generalize mx a b % 16 = q at *
      unfold mn
      split <;> omega
    exact law_j0 S hk _ _ (by omega) (by omega) (by omega)
end Go.Proofs.YtcmnofbpcmnnhaaDoor.Pure
