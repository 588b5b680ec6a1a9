/-
  The pure statement of ViewMore: who reads more sees all that one who reads less sees, in the same order.
-/
import Derived.Test.YtdbdfnkhbcgklaaVUViewMore
import Derived.Test.YtdbdfnkhbcgklaaVPBase
import Derived.Test.YtdbdfnkhbcgklaaVPJoin
namespace Go.Proofs.Ytdbdfnkhbcgklaa.Pure
open Go.RowKit Go.Proofs.Ytdbdfnkhbcgklaa Go.Proofs.Ytdbdfnkhbcgklaa.V Go.Proofs.YtdbdfnkhbcgklaaW.PrintWords Go.Proofs.YtdbdfnkhbcgklaaW.PrintLast Go.Proofs.YtdbdfnkhbcgklaaW.PrintMore
theorem more_l1 (LA : List Ln) (A : List Int) (LB : List Ln) (B : List Int) (i K : Nat) (hi : i < A.length) (hK : K < B.length) (hB : LB.length = B.length) (hA : LA.length = A.length) (hs : B.length < 9000000000000000000)
    (heq : rd B (K : Int) = rd A (i : Int)) (hne : ∀ m, m < K → rd B (m : Int) ≠ rd A (i : Int)) (ht : (rd_T60 LB (K : Int)).f0 = (rd_T60 LA (i : Int)).f0)
    (hgo : Ev (fun k => jalousielaw05_ViewMore.l0 k (K : Int) (wrap64 ((i : Int) + 1)) LA A LB B) true) : ∀ d k0 : Nat, k0 + d = K → Ev (fun k => jalousielaw05_ViewMore.l1 k (k0 : Int) (i : Int) LA A LB B) true
  | 0, k0, h => by
    obtain rfl : k0 = K := by omega
    refine ev_succ ?_
    simp only [jalousielaw05_ViewMore.l1]
    (repeat (first | refine ev_pos (by omega) ?_ | refine ev_neg (by omega) ?_))
    refine ev_pos (by rw [ht]) ?_
    exact hgo
  | d + 1, k0, h => by
    have ih := more_l1 LA A LB B i K hi hK hB hA hs heq hne ht hgo d (k0 + 1) (by omega)
    rw [← w64s k0 (by omega)] at ih
    refine ev_succ ?_
    simp only [jalousielaw05_ViewMore.l1]
    (repeat (first | refine ev_pos (by omega) ?_ | refine ev_neg (by omega) ?_))
    refine ev_neg (hne k0 (by omega)) ?_
    exact ih
theorem text_at (l : List It) (o : Lb) (h : ByteArray) (n : Nat) (x : It) (hx : (its l o)[n]? = some x) : (rd_T60 (lns l o h) (n : Int)).f0 = if x.f2 = true then h else x.f3.f0 := by
  rw [rd_ln]
  unfold lns
  rw [getD_some (ended_get h (its l o) n x hx)]
theorem more_l0 (l : List It) (o q : Lb) (h : ByteArray) (hs : l.length ≤ 2513169434916) (hq : ∀ x ∈ l, vis o x = true → vis q x = true) :
    ∀ d i k0 : Nat, i + d = (its l o).length → (∀ j, (view_seen.revs l o l.length)[i]? = some j → k0 ≤ (view_seen.revs l q j).length) → Ev (fun k => jalousielaw05_ViewMore.l0 k (k0 : Int) (i : Int) (lns l o h) (rv l o l.length) (lns l q h) (rv l q l.length)) true
  | 0, i, k0, hd, _ => by
    have h1 := rv_its l o
    refine ev_succ ?_
    simp only [jalousielaw05_ViewMore.l0]
    (repeat (first | refine ev_pos (by omega) ?_ | refine ev_neg (by omega) ?_))
    exact Ev.bind live_ev (ev_some rfl)
  | d + 1, i, k0, hd, hk => by
    have h1 := rv_its l o
    have h2 := rv_its l q
    have h3 := lns_len l o h
    have h4 := lns_len l q h
    have h5 := its_len l o
    have h6 := its_len l q
    obtain ⟨j, hj, hr, hjl, hv, hn, hx⟩ := rv_get (l := l) (o := o) (n := i) (by omega)
    have hvq := hq _ (rd_it_mem hjl) hv
    have hK := revs_at l q j hvq l.length hjl
    have hKl : (view_seen.revs l q j).length < (rv l q l.length).length := by rw [rv_len]; exact (List.getElem?_eq_some_iff.1 hK).1
    obtain ⟨j', hj', hr', _, _, _, hx'⟩ := rv_get (l := l) (o := q) (n := (view_seen.revs l q j).length) (by omega)
    obtain rfl : j = j' := by rw [hK] at hj'; exact Option.some.inj hj'
    have ih := more_l0 l o q h hs hq d (i + 1) (view_seen.revs l q j).length (by omega) (fun j2 h2 => by
      have a1 := (List.getElem?_eq_some_iff.1 h2).1
      have a2 := revs_get l o _ _ _ h2
      refine revs_mono l q ?_
      rcases Nat.lt_or_ge j2 j with h7 | h7
      · have := revs_mono l o (Nat.le_of_lt h7)
        omega
      · exact h7)
    refine ev_succ ?_
    simp only [jalousielaw05_ViewMore.l0]
    (repeat (first | refine ev_pos (by omega) ?_ | refine ev_neg (by omega) ?_))
    refine more_l1 _ _ _ _ i (view_seen.revs l q j).length (by omega) hKl (by omega) (by omega) (by omega) (by rw [hr, hr']) (fun m hm e => ?_) (by rw [text_at l o h _ _ hx, text_at l q h _ _ hx']) ?_ _ k0 (Nat.add_sub_cancel' (hk j hj))
    · obtain ⟨j3, hj3, hr3, _, _, hn3, _⟩ := rv_get (l := l) (o := q) (n := m) (by omega)
      rw [hr3, hr] at e
      obtain rfl : j3 = j := by omega
      omega
    · rw [w64s i (by omega)]
      exact ih
theorem ViewMore : jalousielaw05_ViewMore.Pure := by
  intro l o o2 h hl ho ho2 _ hs _ _ _
  have hs1 : l.length ≤ 2513169434916 := by have := hs.1; omega
  obtain ⟨q, hq, hj, hb⟩ := join_reads ho ho2
  refine Ev.rounds (r := true) ?_
  have hf := of_f l o h hs1
  have hg := of_f l q h hs1
  refine ev_bind hf ?_
  refine Ev.bind hj ?_
  refine ev_bind hg ?_
  exact more_l0 l o q h hs1 (fun x hx hv => hb _ (hl x hx).2.1 (.inl hv)) _ 0 0 (Nat.zero_add _) (fun _ _ => Nat.zero_le _)
end Go.Proofs.Ytdbdfnkhbcgklaa.Pure
