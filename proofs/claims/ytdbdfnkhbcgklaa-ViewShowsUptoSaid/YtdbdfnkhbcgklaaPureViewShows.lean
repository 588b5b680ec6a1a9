/-
  The pure statement of ViewShows (second form): what one sees of a file, as lines and as bytes, and which items these are.
-/
import Derived.Test.YtdbdfnkhbcgklaaVUViewShows
import Derived.Test.YtdbdfnkhbcgklaaVPAll
import Derived.Test.YtdbdfnkhbcgklaaV9
import Derived.Test.YtdbdfnkhbcgklaaV11
import Derived.Test.YtdbdfnkhbcgklaaV20
import Derived.Test.YtdbdfnkhbcgklaaV19
namespace Go.Proofs.Ytdbdfnkhbcgklaa.Pure
open Go.RowKit Go.Proofs.Ytdbdfnkhbcgklaa Go.Proofs.Ytdbdfnkhbcgklaa.V Go.Proofs.YtdbdfnkhbcgklaaW.PrintWords Go.Proofs.YtdbdfnkhbcgklaaW.PrintLast Go.Proofs.YtdbdfnkhbcgklaaW.PrintMore
theorem sum_len {α : Type} (f : α → Nat) (hf : ∀ x, 1 ≤ f x) : ∀ l : List α, l.length ≤ (l.map f).sum
  | [] => Nat.le_refl _
  | x :: xs => by
    have := sum_len f hf xs
    have := hf x
    simp only [List.length_cons, List.map_cons, List.sum_cons]
    omega
theorem mem_sum {α : Type} (f : α → Nat) (x : α) : ∀ l : List α, x ∈ l → f x ≤ (l.map f).sum
  | [], h => by cases h
  | y :: ys, h => by
    simp only [List.map_cons, List.sum_cons]
    rcases List.mem_cons.1 h with rfl | h
    · omega
    · have := mem_sum f x ys h
      omega
/-! ### the document's view -/
def lastv (l : List It) (o : Lb) (n : Nat) : Int := ((view_seen.revs l o n).getLast?.map fun (j : Nat) => (j : Int)).getD (-1)
def fl (l : List It) (o : Lb) (h : ByteArray) (n : Nat) : List Ln := (view_seen.revs l o n).map fun (j : Nat) => ⟨if (rd_T63 l (j : Int)).f2 = true then h else (rd_T63 l (j : Int)).f3.f0, decide ((j : Int) = lastv l o l.length) && (rd_T63 l (j : Int)).f3.f1⟩
theorem fl_all (l : List It) (o : Lb) (h : ByteArray) : fl l o h l.length = lns l o h := by
  have hlen : (fl l o h l.length).length = (its l o).length := by
    unfold fl
    rw [List.length_map, ← rv_len, rv_its]
  refine List.ext_getElem? fun n => ?_
  rcases Nat.lt_or_ge n (its l o).length with hn | hn
  · obtain ⟨j, hj, hr, hjl, hv, hk, hx⟩ := rv_get hn
    have h2 := ended_get h (its l o) n _ hx
    unfold lns
    rw [h2]
    unfold fl
    rw [List.getElem?_map, hj]
    simp only [Option.map_some]
    have e : decide ((j : Int) = lastv l o l.length) = decide (n + 1 = (its l o).length) := by
      have hrl : (view_seen.revs l o l.length).length = (its l o).length := by rw [← rv_len, rv_its]
      have hll : lastv l o l.length = ((view_seen.revs l o l.length).getD ((its l o).length - 1) 0 : Nat) := by
        unfold lastv
        rw [List.getLast?_eq_getElem?, hrl, List.getD_eq_getElem?_getD]
        rw [List.getElem?_eq_getElem (by omega)]
        rfl
      obtain ⟨j2, hj2, _, _, _, hk2, _⟩ := rv_get (l := l) (o := o) (n := (its l o).length - 1) (by omega)
      rw [hll, getD_some hj2]
      by_cases e : n + 1 = (its l o).length
      · have : n = (its l o).length - 1 := by omega
        subst this
        rw [hj] at hj2
        cases hj2
        simp [e]
      · rw [decide_eq_false e, decide_eq_false]
        intro e2
        have : j = j2 := by omega
        subst this
        omega
    rw [e]
  · rw [List.getElem?_eq_none (by omega), List.getElem?_eq_none (by rw [lns_len]; omega)]
theorem fl_len (l : List It) (o : Lb) (h : ByteArray) (n : Nat) : (fl l o h n).length ≤ n := by
  unfold fl
  rw [List.length_map]
  exact view_seen.revs_le l o n
theorem ref_of_l1 {l : List It} {o : Lb} (h : ByteArray) (hl : ∀ y ∈ l, ok63 y) (ho : ok25 o) (hs : l.length ≤ 2513169434916) : ∀ (d i : Nat), i + d = l.length → Ev (fun k => jalousieref05_Of.l1 k l h (lastv l o l.length) (i : Int) o.f0 o.f1 (fl l o h i) (rv l o i)) (lns l o h, rv l o l.length)
  | 0, i, hd => by
    obtain rfl : i = l.length := by omega
    refine ev_succ ?_
    simp only [jalousieref05_Of.l1]
    (repeat (first | refine ev_pos (by omega) ?_ | refine ev_neg (by omega) ?_))
    exact ev_some (by rw [fl_all])
  | d + 1, i, hd => by
    have ih := ref_of_l1 h hl ho hs d (i + 1) (by omega)
    have hb := below_ev (hl _ (rd_it_mem (l := l) (i := i) (by omega))).2.1 ho
    have h1 := fl_len l o h i
    have h2 := rv_le l o i
    refine ev_succ ?_
    simp only [jalousieref05_Of.l1]
    rw [w64s i (by omega)]
    (repeat (first | refine ev_pos (by omega) ?_ | refine ev_neg (by omega) ?_))
    refine Ev.bind hb ?_
    cases hv : bel (rd_T63 l (i : Int)).f1 o with
    | true =>
      refine ev_pos rfl ?_
      have e1 : fl l o h (i + 1) = fl l o h i ++ [⟨if (rd_T63 l (i : Int)).f2 = true then h else (rd_T63 l (i : Int)).f3.f0, decide ((i : Int) = lastv l o l.length) && (rd_T63 l (i : Int)).f3.f1⟩] := by
        unfold fl
        rw [view_seen.revs_hit (show view_seen.bel _ o = true from hv), List.map_append]
        rfl
      have e2 : rv l o (i + 1) = rv l o i ++ [(i : Int)] := by
        unfold rv
        rw [view_seen.revs_hit (show view_seen.bel _ o = true from hv), List.map_append]
        rfl
      rw [e1, e2] at ih
      by_cases h3 : (i : Int) = lastv l o l.length
      · rw [decide_eq_true h3, Bool.true_and] at ih
        refine ev_pos h3 ?_
        by_cases h4 : (rd_T63 l (i : Int)).f2 = true
        · rw [if_pos h4] at ih
          refine ev_pos h4 ?_
          (repeat (first | refine ev_pos (by omega) ?_ | refine ev_neg (by omega) ?_))
          exact ih
        · rw [if_neg h4] at ih
          refine ev_neg h4 ?_
          (repeat (first | refine ev_pos (by omega) ?_ | refine ev_neg (by omega) ?_))
          exact ih
      · rw [decide_eq_false h3, Bool.false_and] at ih
        refine ev_neg h3 ?_
        by_cases h4 : (rd_T63 l (i : Int)).f2 = true
        · rw [if_pos h4] at ih
          refine ev_pos h4 ?_
          (repeat (first | refine ev_pos (by omega) ?_ | refine ev_neg (by omega) ?_))
          exact ih
        · rw [if_neg h4] at ih
          refine ev_neg h4 ?_
          (repeat (first | refine ev_pos (by omega) ?_ | refine ev_neg (by omega) ?_))
          exact ih
    | false =>
      refine ev_neg (by decide) ?_
      have e1 : fl l o h (i + 1) = fl l o h i := by
        unfold fl
        rw [view_seen.revs_miss (show view_seen.bel _ o = false from hv)]
      have e2 : rv l o (i + 1) = rv l o i := by
        unfold rv
        rw [view_seen.revs_miss (show view_seen.bel _ o = false from hv)]
      rw [e1, e2] at ih
      exact ih
theorem ref_of_l0 {l : List It} {o : Lb} (h : ByteArray) (hl : ∀ y ∈ l, ok63 y) (ho : ok25 o) (hs : l.length ≤ 2513169434916) : ∀ (d i : Nat), i + d = l.length → Ev (fun k => jalousieref05_Of.l0 k l h (lastv l o i) (i : Int) o.f0 o.f1) (lns l o h, rv l o l.length)
  | 0, i, hd => by
    obtain rfl : i = l.length := by omega
    refine ev_succ ?_
    simp only [jalousieref05_Of.l0]
    (repeat (first | refine ev_pos (by omega) ?_ | refine ev_neg (by omega) ?_))
    exact ref_of_l1 h hl ho hs l.length 0 (Nat.zero_add _)
  | d + 1, i, hd => by
    have ih := ref_of_l0 h hl ho hs d (i + 1) (by omega)
    have hb := below_ev (hl _ (rd_it_mem (l := l) (i := i) (by omega))).2.1 ho
    refine ev_succ ?_
    simp only [jalousieref05_Of.l0]
    rw [w64s i (by omega)]
    (repeat (first | refine ev_pos (by omega) ?_ | refine ev_neg (by omega) ?_))
    refine Ev.bind hb ?_
    cases hv : bel (rd_T63 l (i : Int)).f1 o with
    | true =>
      refine ev_pos rfl ?_
      have e : lastv l o (i + 1) = (i : Int) := by
        unfold lastv
        rw [view_seen.revs_hit (show view_seen.bel _ o = true from hv)]
        simp
      rw [e] at ih
      exact ih
    | false =>
      refine ev_neg (by decide) ?_
      have e : lastv l o (i + 1) = lastv l o i := by
        unfold lastv
        rw [view_seen.revs_miss (show view_seen.bel _ o = false from hv)]
      rw [e] at ih
      exact ih
theorem ref_of_ev {l : List It} {o : Lb} (h : ByteArray) (hl : ∀ y ∈ l, ok63 y) (ho : ok25 o) (hs : l.length ≤ 2513169434916) : Ev (fun k => jalousieref05_Of.f k l o.f0 o.f1 h) (lns l o h, rv l o l.length) := by
  unfold jalousieref05_Of.f
  exact ref_of_l0 h hl ho hs l.length 0 (Nat.zero_add _)
/-! ### the bytes -/
/-- The bytes of the first n lines. -/
def jb (L : List Ln) : Nat → List Int
  | 0 => []
  | n + 1 => jb L n ++ bytesOf (rd_T60 L (n : Int)).f0 ++ (if (rd_T60 L (n : Int)).f1 = true ∧ ¬ n + 1 < L.length then [] else [10])
theorem jb_len (L : List Ln) (M : Nat) (hM : ∀ x ∈ L, x.f0.size ≤ M) : ∀ n, n ≤ L.length → (jb L n).length ≤ n * (M + 1)
  | 0, _ => by simp [jb]
  | n + 1, h => by
    have ih := jb_len L M hM n (by omega)
    have hx : (rd_T60 L (n : Int)).f0.size ≤ M := hM _ (by rw [rd_ln, getD_lt (by omega)]; exact List.getElem_mem _)
    rw [jb, List.length_append, List.length_append, bytesOf_length, Nat.add_mul]
    have : (if (rd_T60 L (n : Int)).f1 = true ∧ ¬ n + 1 < L.length then ([] : List Int) else [10]).length ≤ 1 := by split <;> simp
    omega
theorem join_l0 (L : List Ln) (hL : L.length ≤ 1048576) (hM : ∀ x ∈ L, x.f0.size ≤ 1048576) : ∀ (d i : Nat), i + d = L.length → Ev (fun k => text_Join.l0 k L (jb L i) L (L.length : Int) (i : Int)) (jb L L.length)
  | 0, i, hd => by
    obtain rfl : i = L.length := by omega
    refine ev_succ ?_
    simp only [text_Join.l0]
    (repeat (first | refine ev_pos (by omega) ?_ | refine ev_neg (by omega) ?_))
    exact ev_some rfl
  | d + 1, i, hd => by
    have ih := join_l0 L hL hM d (i + 1) (by omega)
    have hl := jb_len L 1048576 hM i (by omega)
    have hx : (rd_T60 L (i : Int)).f0.size ≤ 1048576 := hM _ (by rw [rd_ln, getD_lt (by omega)]; exact List.getElem_mem _)
    have hb : i * (1048576 + 1) ≤ 1048576 * 1048577 := Nat.mul_le_mul_right _ (by omega)
    have hl2 : (jb L i ++ bytesOf (rd_T60 L (i : Int)).f0).length = (jb L i).length + (rd_T60 L (i : Int)).f0.size := by rw [List.length_append, bytesOf_length]
    rw [jb] at ih
    refine ev_succ ?_
    simp only [text_Join.l0]
    rw [w64s i (by omega), w64i ((L.length : Int) - 1) (by omega) (by omega)]
    (repeat (first | refine ev_pos (by omega) ?_ | refine ev_neg (by omega) ?_))
    refine ev_bind rfl ?_
    by_cases h1 : (rd_T60 L (i : Int)).f1 = true
    · refine ev_pos h1 ?_
      by_cases h2 : i + 1 < L.length
      · rw [if_neg (by omega)] at ih
        (repeat (first | refine ev_pos (by omega) ?_ | refine ev_neg (by omega) ?_))
        exact ih
      · rw [if_pos ⟨h1, h2⟩, List.append_nil] at ih
        (repeat (first | refine ev_pos (by omega) ?_ | refine ev_neg (by omega) ?_))
        exact ih
    · rw [if_neg (fun e => h1 e.1)] at ih
      refine ev_neg h1 ?_
      (repeat (first | refine ev_pos (by omega) ?_ | refine ev_neg (by omega) ?_))
      exact ih
theorem ref_join_l0 (L : List Ln) (hL : L.length ≤ 1048576) (hM : ∀ x ∈ L, x.f0.size ≤ 1048576) : ∀ (d i : Nat), i + d = L.length → Ev (fun k => jalousieref01_Join.l0 k L (jb L i) (i : Int)) (jb L L.length)
  | 0, i, hd => by
    obtain rfl : i = L.length := by omega
    refine ev_succ ?_
    simp only [jalousieref01_Join.l0]
    (repeat (first | refine ev_pos (by omega) ?_ | refine ev_neg (by omega) ?_))
    exact ev_some rfl
  | d + 1, i, hd => by
    have ih := ref_join_l0 L hL hM d (i + 1) (by omega)
    have hl := jb_len L 1048576 hM i (by omega)
    have hx : (rd_T60 L (i : Int)).f0.size ≤ 1048576 := hM _ (by rw [rd_ln, getD_lt (by omega)]; exact List.getElem_mem _)
    have hb : i * (1048576 + 1) ≤ 1048576 * 1048577 := Nat.mul_le_mul_right _ (by omega)
    have hl2 : (jb L i ++ bytesOf (rd_T60 L (i : Int)).f0).length = (jb L i).length + (rd_T60 L (i : Int)).f0.size := by rw [List.length_append, bytesOf_length]
    rw [jb] at ih
    refine ev_succ ?_
    simp only [jalousieref01_Join.l0]
    rw [w64s i (by omega)]
    (repeat (first | refine ev_pos (by omega) ?_ | refine ev_neg (by omega) ?_))
    refine ev_bind rfl ?_
    by_cases h2 : i + 1 < L.length
    · rw [if_neg (by omega)] at ih
      (repeat (first | refine ev_pos (by omega) ?_ | refine ev_neg (by omega) ?_))
      exact ih
    · (repeat (first | refine ev_pos (by omega) ?_ | refine ev_neg (by omega) ?_))
      by_cases h1 : (rd_T60 L (i : Int)).f1 = true
      · rw [if_pos ⟨h1, h2⟩, List.append_nil] at ih
        exact ev_pos h1 ih
      · rw [if_neg (fun e => h1 e.1)] at ih
        refine ev_neg h1 ?_
        (repeat (first | refine ev_pos (by omega) ?_ | refine ev_neg (by omega) ?_))
        exact ih
theorem ViewShows : jalousielaw05_ViewShows.PureUpto := by
  intro l o h hl ho _ hb
  simp only at hb
  have hs : l.length ≤ 1048576 := by
    have := sum_len bk63 (fun x => by unfold bk63; omega) l
    omega
  have h1 := rv_its l o
  have h3 := lns_len l o h
  have h5 := its_len l o
  have hM : ∀ x ∈ lns l o h, x.f0.size ≤ 1048576 := by
    intro x hx
    obtain ⟨n, hn, rfl⟩ := List.mem_iff_getElem.1 hx
    have hn2 : n < (its l o).length := by omega
    obtain ⟨y, hy⟩ : ∃ y, (its l o)[n]? = some y := ⟨_, List.getElem?_eq_getElem hn2⟩
    have h7 := ended_get h (its l o) n y hy
    rw [show view_Of.ended h (its l o) = lns l o h from rfl, List.getElem?_eq_getElem hn] at h7
    rw [Option.some.inj h7]
    show (if y.f2 = true then h else y.f3.f0).size ≤ 1048576
    split
    · omega
    · have hyl : y ∈ l := (List.mem_filter.1 (List.mem_of_getElem? hy)).1
      have := mem_sum bk63 y l hyl
      have h8 : y.f3.f0.size ≤ bk63 y := by
        simp only [bk63, bk60]
        omega
      omega
  refine Ev.rounds (r := true) ?_
  unfold jalousielaw05_ViewShows.f
  refine ev_bind (of_f l o h (by omega)) ?_
  refine Ev.bind (ref_of_ev h hl ho (by omega)) ?_
  refine Ev.bind live_ev ?_
  refine ev_pos rfl ?_
  dsimp only
  have hsame : Ev (fun k => jalousielaw05_same.f k (lns l o h) (rv l o l.length) (lns l o h) (rv l o l.length)) true := by
    unfold jalousielaw05_same.f
    refine Ev.bind (same_ev _ (by omega)) ?_
    refine ev_pos rfl ?_
    exact Ev.bind (ints_ev _ (by omega)) (ev_some rfl)
  refine Ev.bind hsame ?_
  refine ev_pos rfl ?_
  have ht : Ev (fun k => view_Text.f k (lns l o h) (rv l o l.length)) (jb (lns l o h) (lns l o h).length) := by
    unfold view_Text.f text_Join.f
    exact Ev.bind (join_l0 _ (by omega) hM _ 0 (Nat.zero_add _)) (ev_some rfl)
  have hr : Ev (fun k => jalousieref01_Join.f k (lns l o h)) (jb (lns l o h) (lns l o h).length) := by
    unfold jalousieref01_Join.f
    exact ref_join_l0 _ (by omega) hM _ 0 (Nat.zero_add _)
  refine Ev.bind ht ?_
  refine Ev.bind hr ?_
  refine ev_pos rfl ?_
  refine Ev.bind (ids_ev l _ _ (by omega)) ?_
  refine Ev.bind (ref_ids_ev l _ _ (by omega) (by omega)) ?_
  refine Ev.bind (ints_ev _ (by rw [List.length_map]; omega)) ?_
  refine ev_pos rfl ?_
  refine ev_bind (cut_f l o (by omega)) ?_
  refine Ev.bind (ref_cut_ev hl ho (by omega)) ?_
  obtain ⟨b, hb2, hev⟩ := si_ev (its l o) (its l o) (by omega)
  rw [hb2.2 rfl] at hev
  exact Ev.bind hev (ev_some rfl)
end Go.Proofs.Ytdbdfnkhbcgklaa.Pure
