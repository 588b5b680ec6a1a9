/-
  The pure statement of ViewPuts (second form): an item that is put in stands just ahead of the line it is to stand ahead of, and all other lines as they did, for everyone who reads it.
-/
import Derived.Test.YtdbdfnkhbcgklaaVUViewPuts
import Derived.Test.YtdbdfnkhbcgklaaVPAll
import Derived.Test.YtdbdfnkhbcgklaaVPJoin
namespace Go.Proofs.Ytdbdfnkhbcgklaa.Pure
open Go.RowKit Go.Proofs.Ytdbdfnkhbcgklaa Go.Proofs.Ytdbdfnkhbcgklaa.V Go.Proofs.YtdbdfnkhbcgklaaW.PrintWords Go.Proofs.YtdbdfnkhbcgklaaW.PrintLast Go.Proofs.YtdbdfnkhbcgklaaW.PrintMore
theorem sum_len {α : Type} (f : α → Nat) (hf : ∀ x, 1 ≤ f x) : ∀ l : List α, l.length ≤ (l.map f).sum
  | [] => Nat.le_refl _
  | x :: xs => by
    have := sum_len f hf xs
    have := hf x
    simp only [List.length_cons, List.map_cons, List.sum_cons]
    omega
theorem text_at (l : List It) (o : Lb) (h : ByteArray) (n : Nat) (x : It) (hx : (its l o)[n]? = some x) : (rd_T60 (lns l o h) (n : Int)).f0 = if x.f2 = true then h else x.f3.f0 := by
  rw [rd_ln]
  unfold lns
  rw [getD_some (ended_get h (its l o) n x hx)]
theorem after_ev (L : List Ln) (l : List Int) (n p : Nat) (hn : n ≤ l.length) (hs : l.length ≤ 9000000000000000000) (hp : n = 0 ∧ p = 0 ∨ 0 < n ∧ 0 < p ∧ p ≤ 1073741824 ∧ rd l ((n : Int) - 1) = (p : Int) - 1) : Ev (fun k => view_After.f k L l (n : Int)) ((p : Int), 0) := by
  unfold view_After.f
  (repeat (first | refine ev_pos (by omega) ?_ | refine ev_neg (by omega) ?_))
  refine ev_succ ?_
  simp only [view_After.j0]
  refine ev_neg (by simp; omega) ?_
  rcases hp with ⟨h1, h2⟩ | ⟨h1, h2, h3, h4⟩
  · (repeat (first | refine ev_pos (by omega) ?_ | refine ev_neg (by omega) ?_))
    exact ev_some (by rw [h2]; rfl)
  · rw [w64i ((n : Int) - 1) (by omega) (by omega), h4, w64i _ (by omega) (by omega)]
    (repeat (first | refine ev_pos (by omega) ?_ | refine ev_neg (by omega) ?_))
    exact ev_some (by rw [Int.sub_add_cancel])
theorem puts_l0 (l m : List It) (o a q : Lb) (c : Nat) (L LW : List Ln) (B BW : List Int) (hl : l.length ≤ 1048576) (hm : m.length ≤ 2513169434916) (hL : L.length ≤ 1048576) (hLW : LW.length = L.length + 1)
    (hq : Ev (fun k => jalousieref02_Join.f k o.f0 o.f1 a.f0 a.f1) (q.f0, q.f1)) (hlen : (its m q).length = (its l q).length + 1)
    (h1 : ∀ j : Nat, j < L.length → j < c → (rd_T60 LW (j : Int)).f0 = (rd_T60 L (j : Int)).f0)
    (h2 : ∀ j : Nat, j < L.length → c ≤ j → (rd_T60 LW ((j + 1 : Nat) : Int)).f0 = (rd_T60 L (j : Int)).f0) :
    ∀ d i : Nat, i + d = L.length → Ev (fun k => jalousielaw05_ViewPuts.l0 k l (c : Int) m (i : Int) o.f0 o.f1 a.f0 a.f1 L B LW BW) true
  | 0, i, h => by
    have h5 := its_len l q
    have h6 := lns_len l q (⟨#[46, 46, 46]⟩ : ByteArray)
    have h7 := lns_len m q (⟨#[46, 46, 46]⟩ : ByteArray)
    refine ev_succ ?_
    simp only [jalousielaw05_ViewPuts.l0]
    (repeat (first | refine ev_pos (by omega) ?_ | refine ev_neg (by omega) ?_))
    refine Ev.bind hq ?_
    refine Ev.bind live_ev ?_
    refine ev_pos rfl ?_
    refine ev_bind (of_f m q _ hm) ?_
    refine ev_bind (of_f l q _ (by omega)) ?_
    dsimp only
    refine ev_some ?_
    rw [w64s _ (by omega), h6, h7, hlen]
    simp
  | d + 1, i, h => by
    have ih := puts_l0 l m o a q c L LW B BW hl hm hL hLW hq hlen h1 h2 d (i + 1) (by omega)
    refine ev_succ ?_
    simp only [jalousielaw05_ViewPuts.l0]
    rw [w64s i (by omega)]
    (repeat (first | refine ev_pos (by omega) ?_ | refine ev_neg (by omega) ?_))
    by_cases hc : c ≤ i
    · (repeat (first | refine ev_pos (by omega) ?_ | refine ev_neg (by omega) ?_))
      refine ev_pos (by rw [h2 i (by omega) hc]) ?_
      exact ih
    · (repeat (first | refine ev_pos (by omega) ?_ | refine ev_neg (by omega) ?_))
      refine ev_pos (by rw [h1 i (by omega) (by omega)]) ?_
      exact ih
theorem bel_self {o : Lb} (ho : ok25 o) : bel o o = true := by
  obtain ⟨a, o1⟩ := o
  obtain ⟨X, rfl, hX⟩ := u64_nat ho.2
  exact (bel_iff a a X X hX hX).2 ⟨by omega, fun _ _ h => h⟩
theorem its_put (l : List It) (x : It) (p : Nat) (o : Lb) (h : vis o x = true) : its ((l.take p ++ [x]) ++ l.drop p) o = ((l.take p).filter (vis o) ++ [x]) ++ (l.drop p).filter (vis o) := by
  unfold its
  rw [List.filter_append, List.filter_append]
  simp [h]
theorem its_parts (l : List It) (p : Nat) (o : Lb) : its l o = (l.take p).filter (vis o) ++ (l.drop p).filter (vis o) := by
  unfold its
  rw [← List.filter_append, List.take_append_drop]
theorem ViewPuts : jalousielaw05_ViewPuts.PureUpto := by
  intro l o i text a hl ho hi _ ha hb
  have hs1 : l.length ≤ 1048576 := by
    have := sum_len bk63 (fun x => by unfold bk63; omega) l
    simp only at hb
    omega
  clear hb
  have h1 := rv_its l o
  have h3 := lns_len l o (⟨#[46, 46, 46]⟩ : ByteArray)
  have h5 := its_len l o
  obtain ⟨I, rfl, hI⟩ : ∃ I : Nat, i = I ∧ I ≤ 255 := by
    have h : 0 ≤ i ∧ i ≤ 255 := by simpa [Lit.wf, IntKind.min, IntKind.max, IntKind.signed, IntKind.bits] using hi
    exact ⟨i.toNat, by omega, by omega⟩
  obtain ⟨c, hc⟩ : ∃ c, I % ((rv l o l.length).length + 1) = c := ⟨_, rfl⟩
  have hcl : c ≤ (its l o).length := by
    have := Nat.mod_lt I (show 0 < (rv l o l.length).length + 1 by omega)
    omega
  obtain ⟨p, hp, hpl, hpc⟩ : ∃ p : Nat, (c = 0 ∧ p = 0 ∨ 0 < c ∧ 0 < p ∧ p ≤ 1073741824 ∧ rd (rv l o l.length) ((c : Int) - 1) = (p : Int) - 1) ∧ p ≤ l.length ∧ ((l.take p).filter (vis o)).length = c := by
    by_cases h0 : c = 0
    · exact ⟨0, .inl ⟨h0, rfl⟩, Nat.zero_le _, by simp [h0]⟩
    · obtain ⟨j, hj, hr, hjl, hv, hn, hx⟩ := rv_get (l := l) (o := o) (n := c - 1) (by omega)
      refine ⟨j + 1, .inr ⟨by omega, by omega, by omega, ?_⟩, by omega, ?_⟩
      · rw [show (c : Int) - 1 = ((c - 1 : Nat) : Int) by omega, hr]
        omega
      · rw [← its_revs l o (j + 1) (by omega), List.length_map, view_seen.revs_hit (show view_seen.bel _ o = true from hv), List.length_append, hn, List.length_singleton]
        omega
  obtain ⟨q, hq, hj, hbq⟩ := join_reads ho ha
  have hvo : vis o (⟨0, ⟨o.f0, o.f1⟩, false, ⟨text, false⟩⟩ : It) = true := bel_self ho
  have hvq : vis q (⟨0, ⟨o.f0, o.f1⟩, false, ⟨text, false⟩⟩ : It) = true := hbq _ ho (.inl (bel_self ho))
  have hmo := its_put l _ p o hvo
  have hmq := its_put l _ p q hvq
  have hlo := its_parts l p o
  have hlq := its_parts l p q
  have hml : ((l.take p ++ [(⟨0, ⟨o.f0, o.f1⟩, false, ⟨text, false⟩⟩ : It)]) ++ l.drop p).length = l.length + 1 := by
    rw [List.length_append, List.length_append, List.length_take, List.length_drop, List.length_singleton]
    omega
  have hp1 : (l.take p).length = p := by rw [List.length_take]; omega
  have hp2 : (l.drop p).length = l.length - p := List.length_drop ..
  have hp3 : (l.take p ++ [(⟨0, ⟨o.f0, o.f1⟩, false, ⟨text, false⟩⟩ : It)]).length = p + 1 := by rw [List.length_append, hp1]; rfl
  have hp4 : ([] : List It).length = 0 := rfl
  have hp5 : ([] ++ l.take p : List It).length = p := hp1
  have hp6 : ([] ++ l.take p ++ [(⟨0, ⟨o.f0, o.f1⟩, false, ⟨text, false⟩⟩ : It)]).length = p + 1 := hp3
  refine Ev.rounds (r := true) ?_
  unfold jalousielaw05_ViewPuts.f
  refine ev_bind (of_f l o _ (by omega)) ?_
  dsimp only
  rw [w64s _ (by omega), w64i (I : Int) (by omega) (by omega), show Int.tmod (I : Int) (((rv l o l.length).length + 1 : Nat) : Int) = (c : Int) by rw [← hc]; rfl]
  (repeat (first | refine ev_pos (by omega) ?_ | refine ev_neg (by omega) ?_))
  refine Ev.bind (after_ev _ _ c p (by omega) (by omega) hp) ?_
  dsimp only
  (repeat (first | refine ev_pos (by omega) ?_ | refine ev_neg (by omega) ?_))
  refine ev_succ ?_
  simp only [jalousielaw05_ViewPuts.j0]
  refine ev_neg (by simp; omega) ?_
  refine ev_bind rfl ?_
  (repeat (first | refine ev_pos (by omega) ?_ | refine ev_neg (by omega) ?_))
  refine ev_bind rfl ?_
  rw [Int.toNat_natCast]
  (repeat (first | refine ev_pos (by omega) ?_ | refine ev_neg (by omega) ?_ | refine ev_bind rfl ?_))
  rw [List.nil_append]
  generalize hm : (l.take p ++ [(⟨0, ⟨o.f0, o.f1⟩, false, ⟨text, false⟩⟩ : It)]) ++ l.drop p = m at hmo hmq hml
  refine ev_bind (of_f m o _ (by omega)) ?_
  dsimp only
  have h4 := lns_len m o (⟨#[46, 46, 46]⟩ : ByteArray)
  have hlw : (its m o).length = (its l o).length + 1 := by rw [hmo, hlo]; simp; omega
  have hlh : (its m q).length = (its l q).length + 1 := by rw [hmq, hlq]; simp; omega
  rw [w64s _ (by omega)]
  (repeat (first | refine ev_pos (by omega) ?_ | refine ev_neg (by omega) ?_))
  have hat : (rd_T60 (lns m o (⟨#[46, 46, 46]⟩ : ByteArray)) (c : Int)).f0 = text := by
    rw [text_at m o _ c (⟨0, ⟨o.f0, o.f1⟩, false, ⟨text, false⟩⟩ : It) (by rw [hmo, ← hpc, List.append_assoc, List.getElem?_append_right (Nat.le_refl _), Nat.sub_self]; rfl)]
    rfl
  refine ev_succ ?_
  simp only [jalousielaw05_ViewPuts.j1]
  refine ev_neg (by rw [hat]; simp) ?_
  refine puts_l0 l m o a q c _ _ _ _ hs1 (by omega) (by omega) (by omega) hj hlh (fun j hj1 hj2 => ?_) (fun j hj1 hj2 => ?_) _ 0 (Nat.zero_add _)
  · obtain ⟨x, hx⟩ : ∃ x, (its l o)[j]? = some x := ⟨_, List.getElem?_eq_getElem (by omega)⟩
    rw [text_at l o _ j x hx, text_at m o _ j x (by
      rw [hlo, List.getElem?_append_left (by omega)] at hx
      rw [hmo, List.append_assoc, List.getElem?_append_left (by omega)]
      exact hx)]
  · obtain ⟨x, hx⟩ : ∃ x, (its l o)[j]? = some x := ⟨_, List.getElem?_eq_getElem (by omega)⟩
    rw [text_at l o _ j x hx, text_at m o _ (j + 1) x (by
      rw [hlo, List.getElem?_append_right (by omega)] at hx
      rw [hmo, List.getElem?_append_right (by rw [List.length_append, List.length_singleton]; omega), List.length_append, List.length_singleton, ← hx]
      congr 1
      omega)]
end Go.Proofs.Ytdbdfnkhbcgklaa.Pure
