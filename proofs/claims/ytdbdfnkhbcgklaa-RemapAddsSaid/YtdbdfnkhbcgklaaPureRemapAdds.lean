/-
  The pure statement of RemapAdds: a commit that one does not see changes no number of one's own; one that one sees gets the next one.
-/
import Derived.Test.YtdbdfnkhbcgklaaRURemapAdds
import Derived.Test.YtdbdfnkhbcgklaaRPMore
namespace Go.Proofs.Ytdbdfnkhbcgklaa.Pure
open Go.RowKit Go.Proofs.Ytdbdfnkhbcgklaa.R Go.Proofs.YtdbdfnkhbcgklaaW.PrintWords Go.Proofs.YtdbdfnkhbcgklaaW.PrintLast Go.Proofs.YtdbdfnkhbcgklaaW.PrintMore
theorem rd_app (l : List Lb) (x : Lb) (i : Nat) (h : i < l.length) : rd_T25 (l ++ [x]) (i : Int) = rd_T25 l (i : Int) := by
  rw [rd_lb, rd_lb, List.getD_eq_getElem?_getD, List.getD_eq_getElem?_getD, List.getElem?_append_left h]
theorem rv_app (l : List Lb) (x o : Lb) : ∀ n, n ≤ l.length → rv (l ++ [x]) o n = rv l o n
  | 0, _ => rfl
  | n + 1, h => by rw [rv_succ, rv_succ, rd_app l x n (by omega), rv_app l x o n (by omega)]
theorem rd_new (l : List Lb) (x : Lb) : rd_T25 (l ++ [x]) (l.length : Int) = x := by
  rw [rd_lb, List.getD_eq_getElem?_getD, List.getElem?_append_right (Nat.le_refl _), Nat.sub_self]
  rfl
theorem RemapAdds : jalousielaw17_RemapAdds.Pure := by
  intro l o x hl ho hx hs _ _
  have hs1 : l.length ≤ 8796093021952 := by have := hs.1; omega
  have hm : (l ++ [x]).length = l.length + 1 := by simp
  have hle := rv_le l o l.length
  obtain ⟨K1, h1⟩ := below_ev hx ho
  obtain ⟨K2, h2⟩ := own_ev (l := l ++ [x]) (o := o) (by omega) (l.length : Int)
  obtain ⟨K3, h3⟩ := live_ev
  obtain ⟨K4, h4⟩ := ints_ev (rv l o l.length) (by omega)
  refine ⟨K1 + K2 + K3 + K4, ?_⟩
  generalize hk : K1 + K2 + K3 + K4 = k
  have e1 := h1 k (by omega)
  have e2 := h2 k (by omega)
  have e3 := h3 k (by omega)
  have e4 := h4 k (by omega)
  simp only at e1 e2 e3 e4
  have hr : rv (l ++ [x]) o (l ++ [x]).length = if bel x o = true then rv l o l.length ++ [(l.length : Int)] else rv l o l.length := by
    rw [hm, rv_succ, rd_new, rv_app l x o l.length (Nat.le_refl _)]
  have c1 : ([] : List Lb).length + l.length < 8796093022208 := by rw [List.length_nil]; omega
  have c2 : l.length + [x].length < 8796093022208 := by rw [List.length_singleton]; omega
  have s1 := seen_f l o (by omega)
  have s2 := seen_f (l ++ [x]) o (by omega)
  rw [hr] at s2
  have head : jalousielaw17_RemapAdds.f k l o.f0 o.f1 x.f0 x.f1 = (remap_Seen.f l o.f0 o.f1).bind fun t241 => (remap_Seen.f (l ++ [x]) o.f0 o.f1).bind fun t244 => (jalousieref02_Below.f k x.f0 x.f1 o.f0 o.f1).bind fun t247 => (if t247 = true then ((remap_Own.f k (l ++ [x]) o.f0 o.f1 (l.length : Int)).bind fun bt248 => ((jalousielaw17_live.f k).bind fun t250 => (if t250 = true then (if (t244.length : Int) = (wrap64 ((t241.length : Int) + 1)) then (if 0 ≤ (t241.length : Int) then (if (t241.length : Int) ≤ (t244.length : Int) then ((jalousieref05_Ints.f k (t244.take ((t241.length : Int) : Int).toNat) t241).bind fun t255 => (if t255 = true then (if bt248.2 = true then (some (bt248.1 == (t241.length : Int))) else (some false)) else (some false))) else (none)) else (none)) else (some false)) else (some false)))) else ((jalousielaw17_live.f k).bind fun t256 => (if t256 = true then ((jalousieref05_Ints.f k t241 t244).bind fun t257 => (some t257)) else (some false)))) := by
    unfold jalousielaw17_RemapAdds.f
    rw [Option.bind_some, if_pos c1, Option.bind_some, Option.bind_some, List.nil_append]
    change (if l.length + [x].length < 8796093022208 then _ else _) = _
    rw [if_pos c2, Option.bind_some]
  rw [head, s1, Option.bind_some, s2, Option.bind_some, e1, Option.bind_some]
  clear head
  cases hb : bel x o with
  | true =>
    have ho2 := own_seen (l ++ [x]) o l.length (by omega) (by rw [rd_new]; exact hb)
    rw [ho2] at e2
    have hn : (remap_seen.revs (l ++ [x]) o l.length).length = (rv l o l.length).length := by rw [← rv_len, rv_app l x o l.length (Nat.le_refl _)]
    rw [hn] at e2
    rw [if_pos rfl, if_pos rfl, e2, Option.bind_some, e3, Option.bind_some, if_pos rfl]
    have hlen : ((rv l o l.length ++ [(l.length : Int)]).length : Int) = ((rv l o l.length).length : Int) + 1 := by rw [List.length_append, List.length_singleton]; omega
    rw [w64_id _ (by omega) (by omega), if_pos hlen, if_pos (by omega), if_pos (by omega), Int.toNat_natCast, List.take_left, e4, Option.bind_some, if_pos rfl, if_pos rfl]
    simp
  | false =>
    rw [if_neg (by decide), if_neg (by decide), e3, Option.bind_some, if_pos rfl, e4, Option.bind_some]
end Go.Proofs.Ytdbdfnkhbcgklaa.Pure
