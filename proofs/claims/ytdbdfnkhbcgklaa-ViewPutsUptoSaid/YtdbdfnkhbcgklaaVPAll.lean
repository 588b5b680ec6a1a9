/-
  PLAIN: the document's 'below' answers as the program's: on labels whose numbers fit. Small words on rounds.
  PLAIN: what one sees of items: the places, the items, the lines.
  PLAIN: IDs by places, and comparisons: the program's answers and the document's.
-/
import Derived.Test.YtdbdfnkhbcgklaaV8
import Derived.Test.YtdbdfnkhbcgklaaV4
import Derived.Test.YtdbdfnkhbcgklaaBits
import Derived.Test.YtdbdfnkhbcgklaaVSt
import Derived.Test.YtdbdfnkhbcgklaaEvs
import Derived.Test.YtdbdfnkhbcgklaaV6
import Derived.Test.YtdbdfnkhbcgklaaV13
import Derived.Test.YtdbdfnkhbcgklaaV17
import Derived.Test.YtdbdfnkhbcgklaaV12
import Derived.Test.YtdbdfnkhbcgklaaV21
import Derived.Test.YtdbdfnkhbcgklaaV3
import Derived.Test.YtdbdfnkhbcgklaaV23
import Derived.Test.YtdbdfnkhbcgklaaV18
import Derived.Test.YtdbdfnkhbcgklaaV22
namespace Go.Proofs.Ytdbdfnkhbcgklaa.V
open Go.RowKit Go.Proofs.YtdbdfnkhbcgklaaW.PrintWords Go.Proofs.YtdbdfnkhbcgklaaW.PrintLast Go.Proofs.YtdbdfnkhbcgklaaW.PrintMore
set_option linter.unusedVariables false
set_option linter.unusedSimpArgs false
theorem w64_succ (i : Nat) (h : i < 9223372036854775807) : wrap64 ((i : Int) + 1) = ((i + 1 : Nat) : Int) := by
  unfold wrap64
  omega
theorem w64_id (x : Int) (h0 : -9223372036854775808 ≤ x) (h1 : x ≤ 9223372036854775807) : wrap64 x = x := by
  unfold wrap64
  omega
/-- Rounds: one more. -/
theorem rounds_succ' {k K : Nat} (h : K + 1 ≤ k) : ∃ m, k = m + 1 ∧ K ≤ m := ⟨k - 1, by omega, by omega⟩
/-- May whoever reads o read x? -/
def bel (x o : S25) : Bool := (label_Below.f x.f0 x.f1 o.f0 o.f1).getD false
theorem bel_some (x o : S25) : label_Below.f x.f0 x.f1 o.f0 o.f1 = some (bel x o) := by
  unfold bel label_Below.f
  split <;> rfl
theorem u64_nat {x : Int} (h : (Lit.int .u64 x).wf = true) : ∃ X : Nat, x = X ∧ X < 2 ^ 64 := by
  have h1 : 0 ≤ x ∧ x ≤ 18446744073709551615 := by simpa [Lit.wf, IntKind.min, IntKind.max, IntKind.signed, IntKind.bits] using h
  have h2 : (2 : Nat) ^ 64 = 18446744073709551616 := by decide
  exact ⟨x.toNat, by omega, by omega⟩
theorem i64_rng {x : Int} (h : (Lit.int .i64 x).wf = true) : -9223372036854775808 ≤ x ∧ x ≤ 9223372036854775807 := by
  simpa [Lit.wf, IntKind.min, IntKind.max, IntKind.signed, IntKind.bits] using h
theorem has_nat (a : Int) (X c : Nat) (hc : c < 64) : jalousieref02_Has.f a (X : Int) (c : Int) = some (X.testBit c) := by
  unfold jalousieref02_Has.f
  rw [if_pos (by omega), if_pos (by omega), if_pos (by omega), Bits.shr_bit X c (by omega)]
theorem below_l0 (a b : Int) (X Y : Nat) : ∀ (d c : Nat), c + d = 64 → ∃ r : Bool, Ev (fun k => jalousieref02_Below.l0 k (c : Int) a (X : Int) b (Y : Int)) r ∧ (r = true ↔ ∀ j, c ≤ j → j < 64 → X.testBit j = true → Y.testBit j = true)
  | 0, c, h => by
    refine ⟨true, ⟨1, fun k hk => ?_⟩, by simp; omega⟩
    obtain ⟨m, rfl, _⟩ := rounds_succ' hk
    simp only [jalousieref02_Below.l0]
    rw [if_neg (by omega)]
  | d + 1, c, h => by
    obtain ⟨r, ⟨K, hK⟩, hr⟩ := below_l0 a b X Y d (c + 1) (by omega)
    have go : ∀ k, K ≤ k → jalousieref02_Below.l0 k (wrap64 ((c : Int) + 1)) a (X : Int) b (Y : Int) = some r := fun k hk => by
      rw [w64_succ c (by omega)]
      exact hK k hk
    have hx := has_nat a X c (by omega)
    have hy := has_nat b Y c (by omega)
    cases hX : X.testBit c with
    | false =>
      refine ⟨r, ⟨K + 1, fun k hk => ?_⟩, hr.trans ⟨fun g j h1 h2 h3 => ?_, fun g j h1 h2 => g j (by omega) h2⟩⟩
      · obtain ⟨m, rfl, hm⟩ := rounds_succ' hk
        simp only [jalousieref02_Below.l0]
        rw [if_pos (by omega), hx, hX]
        simpa using go m hm
      · rcases Nat.lt_or_ge c j with h4 | h4
        · exact g j (by omega) h2 h3
        · obtain rfl : j = c := by omega
          rw [hX] at h3
          cases h3
    | true =>
      cases hY : Y.testBit c with
      | false =>
        refine ⟨false, ⟨K + 1, fun k hk => ?_⟩, ⟨(fun g => by cases g), (fun g => by rw [← hY]; exact g c (Nat.le_refl _) (by omega) hX)⟩⟩
        obtain ⟨m, rfl, hm⟩ := rounds_succ' hk
        simp only [jalousieref02_Below.l0]
        rw [if_pos (by omega), hx, hX, hy, hY]
        simp
      | true =>
        refine ⟨r, ⟨K + 1, fun k hk => ?_⟩, hr.trans ⟨fun g j h1 h2 h3 => ?_, fun g j h1 h2 => g j (by omega) h2⟩⟩
        · obtain ⟨m, rfl, hm⟩ := rounds_succ' hk
          simp only [jalousieref02_Below.l0]
          rw [if_pos (by omega), hx, hX, hy, hY]
          simpa using go m hm
        · rcases Nat.lt_or_ge c j with h4 | h4
          · exact g j (by omega) h2 h3
          · obtain rfl : j = c := by omega
            exact hY
theorem bel_iff (a b : Int) (X Y : Nat) (hX : X < 2 ^ 64) (hY : Y < 2 ^ 64) : bel ⟨a, X⟩ ⟨b, Y⟩ = true ↔ a ≤ b ∧ ∀ j, j < 64 → X.testBit j = true → Y.testBit j = true := by
  unfold bel label_Below.f
  by_cases h : a ≤ b
  · rw [if_pos h]
    simp only [Option.getD_some, Bits.andNot_zero X Y hX hY]
    exact ⟨fun g => ⟨h, g⟩, fun g => g.2⟩
  · rw [if_neg h]
    simp [h]
theorem below_ev {x o : S25} (hx : ok25 x) (ho : ok25 o) : Ev (fun k => jalousieref02_Below.f k x.f0 x.f1 o.f0 o.f1) (bel x o) := by
  obtain ⟨a, x1⟩ := x
  obtain ⟨b, o1⟩ := o
  obtain ⟨X, rfl, hX⟩ := u64_nat hx.2
  obtain ⟨Y, rfl, hY⟩ := u64_nat ho.2
  unfold jalousieref02_Below.f
  by_cases h : a > b
  · have e : bel ⟨a, X⟩ ⟨b, Y⟩ = false := by
      rw [Bool.eq_false_iff]
      intro g
      have := ((bel_iff a b X Y hX hY).1 g).1
      omega
    rw [e]
    refine ⟨0, fun k _ => ?_⟩
    show (if a > b then _ else _) = _
    rw [if_pos h]
  · obtain ⟨r, ⟨K, hK⟩, hr⟩ := below_l0 a b X Y 64 0 rfl
    have e : bel ⟨a, X⟩ ⟨b, Y⟩ = r := by
      rw [Bool.eq_iff_iff, bel_iff a b X Y hX hY, hr]
      exact ⟨fun g j _ => g.2 j, fun g => ⟨by omega, fun j => g j (Nat.zero_le _)⟩⟩
    rw [e]
    refine ⟨K, fun k hk => ?_⟩
    show (if a > b then _ else _) = _
    rw [if_neg h]
    exact hK k hk
end Go.Proofs.Ytdbdfnkhbcgklaa.V
namespace Go.Proofs.Ytdbdfnkhbcgklaa.V
open Go.RowKit Go.Proofs.YtdbdfnkhbcgklaaW.PrintWords Go.Proofs.YtdbdfnkhbcgklaaW.PrintLast Go.Proofs.YtdbdfnkhbcgklaaW.PrintMore
set_option linter.unusedVariables false
set_option linter.unusedSimpArgs false
abbrev Lb := S25
abbrev It := S63
abbrev Ln := S60
theorem rd_it (l : List It) (i : Nat) : rd_T63 l (i : Int) = l.getD i z63 := by simp [rd_T63]
theorem rd_ln (l : List Ln) (i : Nat) : rd_T60 l (i : Int) = l.getD i z60 := by simp [rd_T60]
theorem rd_it_mem {l : List It} {i : Nat} (h : i < l.length) : rd_T63 l (i : Int) ∈ l := by
  rw [rd_it, getD_lt h]
  exact List.getElem_mem h
/-- Does one see an item? -/
def vis (o : Lb) (x : It) : Bool := bel x.f1 o
/-- The items that one sees. -/
def its (l : List It) (o : Lb) : List It := l.filter (vis o)
theorem take_filter (l : List It) (o : Lb) (n : Nat) (h : n < l.length) : (l.take (n + 1)).filter (vis o) = if vis o (rd_T63 l (n : Int)) = true then (l.take n).filter (vis o) ++ [rd_T63 l (n : Int)] else (l.take n).filter (vis o) := by
  rw [take_snoc l n h z63, List.filter_append, rd_it]
  generalize l.getD n z63 = x
  split
  · rename_i h1
    simp [List.filter_cons, h1]
  · rename_i h1
    simp [List.filter_cons, h1]
theorem its_revs (l : List It) (o : Lb) : ∀ n, n ≤ l.length → ((view_seen.revs l o n).map fun (j : Nat) => rd_T63 l (j : Int)) = (l.take n).filter (vis o)
  | 0, _ => by simp [view_seen.revs]
  | n + 1, h => by
    rw [take_filter l o n (by omega), ← its_revs l o n (by omega)]
    cases hb : view_seen.bel (rd_T63 l (n : Int)).f1 o with
    | true =>
      have hv : vis o (rd_T63 l (n : Int)) = true := hb
      rw [view_seen.revs_hit hb, if_pos hv, List.map_append]
      rfl
    | false =>
      have hv : vis o (rd_T63 l (n : Int)) = false := hb
      rw [view_seen.revs_miss hb, if_neg (by rw [hv]; decide)]
theorem its_all (l : List It) (o : Lb) : ((view_seen.revs l o l.length).map fun (j : Nat) => rd_T63 l (j : Int)) = its l o := by
  rw [its_revs l o _ (Nat.le_refl _), List.take_length]
  rfl
/-- The places, as Go's numbers. -/
def rv (l : List It) (o : Lb) (n : Nat) : List Int := (view_seen.revs l o n).map fun (j : Nat) => (j : Int)
theorem rv_len (l : List It) (o : Lb) (n : Nat) : (rv l o n).length = (view_seen.revs l o n).length := by simp [rv]
theorem rv_le (l : List It) (o : Lb) (n : Nat) : (rv l o n).length ≤ n := by rw [rv_len]; exact view_seen.revs_le l o n
theorem rv_its (l : List It) (o : Lb) : (rv l o l.length).length = (its l o).length := by
  rw [rv_len, ← its_all l o, List.length_map]
theorem rv_succ (l : List It) (o : Lb) (n : Nat) : rv l o (n + 1) = if vis o (rd_T63 l (n : Int)) = true then rv l o n ++ [(n : Int)] else rv l o n := by
  unfold rv
  split
  · rename_i h
    rw [view_seen.revs_hit h]
    simp
  · rename_i h
    rw [view_seen.revs_miss (by rw [← Bool.not_eq_true]; exact h)]
/-- The n-th of those seen: what is ahead of it are n. -/
theorem revs_get (l : List It) (o : Lb) : ∀ (m n j : Nat), (view_seen.revs l o m)[n]? = some j → j < m ∧ vis o (rd_T63 l (j : Int)) = true ∧ (view_seen.revs l o j).length = n
  | 0, n, j, h => by simp [view_seen.revs] at h
  | m + 1, n, j, h => by
    cases hb : view_seen.bel (rd_T63 l (m : Int)).f1 o with
    | false =>
      rw [view_seen.revs_miss hb] at h
      obtain ⟨h1, h2, h3⟩ := revs_get l o m n j h
      exact ⟨by omega, h2, h3⟩
    | true =>
      rw [view_seen.revs_hit hb] at h
      rcases Nat.lt_or_ge n (view_seen.revs l o m).length with h4 | h4
      · rw [List.getElem?_append_left h4] at h
        obtain ⟨h1, h2, h3⟩ := revs_get l o m n j h
        exact ⟨by omega, h2, h3⟩
      · have h5 := (List.getElem?_eq_some_iff.1 h).1
        rw [List.length_append, List.length_singleton] at h5
        have h6 : n = (view_seen.revs l o m).length := by omega
        subst h6
        rw [List.getElem?_append_right (Nat.le_refl _), Nat.sub_self] at h
        have : m = j := by simpa using h
        subst this
        exact ⟨by omega, hb, rfl⟩
theorem revs_at (l : List It) (o : Lb) (j : Nat) (hb : vis o (rd_T63 l (j : Int)) = true) : ∀ m, j < m → (view_seen.revs l o m)[(view_seen.revs l o j).length]? = some j
  | 0, h => by omega
  | m + 1, h => by
    rcases Nat.lt_or_ge j m with h1 | h1
    · have ih := revs_at l o j hb m h1
      cases hm : view_seen.bel (rd_T63 l (m : Int)).f1 o with
      | false => rw [view_seen.revs_miss hm]; exact ih
      | true =>
        rw [view_seen.revs_hit hm, List.getElem?_append_left (List.getElem?_eq_some_iff.1 ih).1]
        exact ih
    · obtain rfl : j = m := by omega
      rw [view_seen.revs_hit hb, List.getElem?_append_right (Nat.le_refl _), Nat.sub_self]
      rfl
theorem revs_mono (l : List It) (o : Lb) {i j : Nat} (h : i ≤ j) : (view_seen.revs l o i).length ≤ (view_seen.revs l o j).length := by
  induction j with
  | zero => obtain rfl : i = 0 := by omega
            exact Nat.le_refl _
  | succ j ih =>
    rcases Nat.lt_or_ge j i with h1 | h1
    · obtain rfl : i = j + 1 := by omega
      exact Nat.le_refl _
    · have := ih h1
      cases hm : view_seen.bel (rd_T63 l (j : Int)).f1 o with
      | false => rw [view_seen.revs_miss hm]; exact this
      | true => rw [view_seen.revs_hit hm, List.length_append]; omega
/-- The n-th place, and the n-th item. -/
theorem rv_get {l : List It} {o : Lb} {n : Nat} (h : n < (its l o).length) : ∃ j : Nat, (view_seen.revs l o l.length)[n]? = some j ∧ rd (rv l o l.length) (n : Int) = (j : Int) ∧ j < l.length ∧ vis o (rd_T63 l (j : Int)) = true ∧ (view_seen.revs l o j).length = n ∧ (its l o)[n]? = some (rd_T63 l (j : Int)) := by
  have h' : n < (view_seen.revs l o l.length).length := by rw [← rv_len, rv_its]; exact h
  obtain ⟨j, hj⟩ : ∃ j, (view_seen.revs l o l.length)[n]? = some j := ⟨_, List.getElem?_eq_getElem h'⟩
  obtain ⟨h1, h2, h3⟩ := revs_get l o _ _ _ hj
  refine ⟨j, hj, ?_, h1, h2, h3, ?_⟩
  · rw [rdn]
    unfold rv
    rw [List.getD_eq_getElem?_getD, List.getElem?_map, hj]
    rfl
  · rw [← its_all l o, List.getElem?_map, hj]
    rfl
/-- The lines that one sees. -/
def lns (l : List It) (o : Lb) (h : ByteArray) : List Ln := view_Of.ended h (its l o)
theorem ended_len (h : ByteArray) (xs : List It) : (view_Of.ended h xs).length = xs.length := by
  unfold view_Of.ended
  cases hx : xs.getLast? with
  | none =>
    have : xs = [] := by simpa using hx
    simp [this]
  | some y => simp [view_Of.lines]
theorem ended_get (h : ByteArray) (xs : List It) (i : Nat) (x : It) (hi : xs[i]? = some x) : (view_Of.ended h xs)[i]? = some ⟨if x.f2 = true then h else x.f3.f0, decide (i + 1 = xs.length) && x.f3.f1⟩ := by
  have hlt := (List.getElem?_eq_some_iff.1 hi).1
  unfold view_Of.ended
  cases hx : xs.getLast? with
  | none =>
    have : xs = [] := by simpa using hx
    subst this
    simp at hi
  | some y =>
    rw [List.getLast?_eq_getElem?] at hx
    by_cases he : i + 1 = xs.length
    · have e : xs.length - 1 = i := by omega
      rw [e] at hx
      rw [hx] at hi
      have := Option.some.inj hi
      subst this
      simp only
      rw [e, List.getElem?_set_self (by simp [view_Of.lines]; exact hlt)]
      simp [view_Of.ln, he]
    · simp only
      rw [List.getElem?_set_ne (by omega)]
      simp [view_Of.lines, hi, view_Of.ln, he]
theorem of_f (l : List It) (o : Lb) (h : ByteArray) (hs : l.length ≤ 2513169434916) : view_Of.f l o.f0 o.f1 h = some (lns l o h, rv l o l.length) := by
  unfold view_Of.f
  rw [if_pos hs]
  show some (view_Of.ended h ((view_seen.revs l o l.length).map fun (j : Nat) => rd_T63 l (j : Int)), _) = _
  rw [its_all]
  rfl
theorem cut_f (l : List It) (o : Lb) (hs : l.length ≤ 2513169434916) : view_Cut.f l o.f0 o.f1 = some (its l o) := by
  unfold view_Cut.f
  rw [if_pos hs]
  show some ((view_seen.revs l o l.length).map fun (j : Nat) => rd_T63 l (j : Int)) = _
  rw [its_all]
theorem lns_len (l : List It) (o : Lb) (h : ByteArray) : (lns l o h).length = (its l o).length := ended_len h _
theorem its_len (l : List It) (o : Lb) : (its l o).length ≤ l.length := List.length_filter_le _ _
theorem live_ev : Ev (fun k => jalousielaw05_live.f k) true := by
  refine Ev.of (fun k => jalousielaw05_live.mono k) (k := 12) ?_
  decide +kernel
end Go.Proofs.Ytdbdfnkhbcgklaa.V
namespace Go.Proofs.Ytdbdfnkhbcgklaa.V
open Go.RowKit Go.Proofs.YtdbdfnkhbcgklaaW.PrintWords Go.Proofs.YtdbdfnkhbcgklaaW.PrintLast Go.Proofs.YtdbdfnkhbcgklaaW.PrintMore
set_option linter.unusedVariables false
set_option linter.unusedSimpArgs false
/-- The ID at a place. -/
def idat (l : List It) (a : Int) : Int := if 0 ≤ a ∧ a < (l.length : Int) then (rd_T63 l a).f0 else 0
theorem ids_l0 (l : List It) (B : List Int) (hs : B.length ≤ 17592186044416) : ∀ d i : Nat, i + d = B.length → Ev (fun k => view_IDs.l0 k l ((B.take i).map (idat l)) B (B.length : Int) (i : Int)) (B.map (idat l))
  | 0, i, h => by
    obtain rfl : i = B.length := by omega
    refine ev_succ ?_
    simp only [view_IDs.l0]
    (repeat (first | refine ev_pos (by omega) ?_ | refine ev_neg (by omega) ?_))
    exact ev_some (by rw [List.take_length])
  | d + 1, i, h => by
    have ih := ids_l0 l B hs d (i + 1) (by omega)
    have hl : ((B.take i).map (idat l)).length = i := by rw [List.length_map, List.length_take]; omega
    rw [take_snoc B i (by omega) 0, List.map_append, List.map_cons, List.map_nil] at ih
    refine ev_succ ?_
    simp only [view_IDs.l0]
    rw [w64s i (by omega), rdn]
    (repeat (first | refine ev_pos (by omega) ?_ | refine ev_neg (by omega) ?_))
    generalize B.getD i 0 = a at ih ⊢
    by_cases h0 : 0 ≤ a
    · by_cases h1 : a < (l.length : Int)
      · rw [show idat l a = _ from if_pos ⟨h0, h1⟩] at ih
        (repeat (first | refine ev_pos (by omega) ?_ | refine ev_neg (by omega) ?_))
        exact ih
      · rw [show idat l a = _ from if_neg (by omega)] at ih
        (repeat (first | refine ev_pos (by omega) ?_ | refine ev_neg (by omega) ?_))
        exact ih
    · rw [show idat l a = _ from if_neg (by omega)] at ih
      (repeat (first | refine ev_pos (by omega) ?_ | refine ev_neg (by omega) ?_))
      exact ih
theorem ids_ev (l : List It) (L : List Ln) (B : List Int) (hs : B.length ≤ 17592186044416) : Ev (fun k => view_IDs.f k l L B) (B.map (idat l)) := by
  unfold view_IDs.f
  exact ids_l0 l B hs B.length 0 (by omega)
theorem ref_ids_l1 (l : List It) (L : List Ln) (B : List Int) (out : List Int) (i : Nat) (hi : i < B.length) (hs : out.length < 17592186044416) (hl : l.length ≤ 9000000000000000000) (r : List Int)
    (hgo : Ev (fun k => jalousieref05_IDs.l0 k l (out ++ [idat l (rd B (i : Int))]) (wrap64 ((i : Int) + 1)) L B) r) :
    ∀ d j : Nat, j + d = l.length → Ev (fun k => jalousieref05_IDs.l1 k l out (i : Int) (if 0 ≤ rd B (i : Int) ∧ rd B (i : Int) < (j : Int) then (rd_T63 l (rd B (i : Int))).f0 else 0) (j : Int) L B) r
  | 0, j, h => by
    obtain rfl : j = l.length := by omega
    refine ev_succ ?_
    simp only [jalousieref05_IDs.l1]
    (repeat (first | refine ev_pos (by omega) ?_ | refine ev_neg (by omega) ?_))
    exact hgo
  | d + 1, j, h => by
    have ih := ref_ids_l1 l L B out i hi hs hl r hgo d (j + 1) (by omega)
    refine ev_succ ?_
    simp only [jalousieref05_IDs.l1]
    rw [w64s j (by omega)]
    (repeat (first | refine ev_pos (by omega) ?_ | refine ev_neg (by omega) ?_))
    by_cases h1 : (j : Int) = rd B (i : Int)
    · rw [if_pos ⟨by omega, by omega⟩, ← h1] at ih
      (repeat (first | refine ev_pos (by omega) ?_ | refine ev_neg (by omega) ?_))
      exact ih
    · refine ev_neg h1 ?_
      have e : (0 ≤ rd B (i : Int) ∧ rd B (i : Int) < ((j + 1 : Nat) : Int)) = (0 ≤ rd B (i : Int) ∧ rd B (i : Int) < (j : Int)) := propext ⟨fun g => ⟨g.1, by omega⟩, fun g => ⟨g.1, by omega⟩⟩
      simp only [e] at ih
      exact ih
theorem ref_ids_l0 (l : List It) (L : List Ln) (B : List Int) (hl : l.length ≤ 9000000000000000000) (hs : B.length ≤ 17592186044416) : ∀ d i : Nat, i + d = B.length → Ev (fun k => jalousieref05_IDs.l0 k l ((B.take i).map (idat l)) (i : Int) L B) (B.map (idat l))
  | 0, i, h => by
    obtain rfl : i = B.length := by omega
    refine ev_succ ?_
    simp only [jalousieref05_IDs.l0]
    (repeat (first | refine ev_pos (by omega) ?_ | refine ev_neg (by omega) ?_))
    exact ev_some (by rw [List.take_length])
  | d + 1, i, h => by
    have ih := ref_ids_l0 l L B hl hs d (i + 1) (by omega)
    have hln : ((B.take i).map (idat l)).length = i := by rw [List.length_map, List.length_take]; omega
    rw [take_snoc B i (by omega) 0, List.map_append, List.map_cons, List.map_nil] at ih
    refine ev_succ ?_
    simp only [jalousieref05_IDs.l0]
    (repeat (first | refine ev_pos (by omega) ?_ | refine ev_neg (by omega) ?_))
    have := ref_ids_l1 l L B ((B.take i).map (idat l)) i (by omega) (by omega) hl (B.map (idat l)) (by rw [w64s i (by omega), rdn]; exact ih) l.length 0 (by omega)
    rw [if_neg (by omega)] at this
    exact this
theorem ref_ids_ev (l : List It) (L : List Ln) (B : List Int) (hl : l.length ≤ 9000000000000000000) (hs : B.length ≤ 17592186044416) : Ev (fun k => jalousieref05_IDs.f k l L B) (B.map (idat l)) := by
  unfold jalousieref05_IDs.f
  exact ref_ids_l0 l L B hl hs B.length 0 (by omega)
theorem ints_l0 (l : List Int) (hs : l.length ≤ 9000000000000000000) : ∀ (d i : Nat), i + d = l.length → Ev (fun k => jalousieref05_Ints.l0 k l l (i : Int)) true
  | 0, i, h => by
    refine ev_succ ?_
    simp only [jalousieref05_Ints.l0]
    (repeat (first | refine ev_pos (by omega) ?_ | refine ev_neg (by omega) ?_))
    exact ev_some rfl
  | d + 1, i, h => by
    have ih := ints_l0 l hs d (i + 1) (by omega)
    refine ev_succ ?_
    simp only [jalousieref05_Ints.l0]
    rw [w64s i (by omega)]
    (repeat (first | refine ev_pos (by omega) ?_ | refine ev_neg (by omega) ?_))
    exact ih
/-- Two that are the same. -/
theorem ints_ev (l : List Int) (hs : l.length ≤ 9000000000000000000) : Ev (fun k => jalousieref05_Ints.f k l l) true := by
  unfold jalousieref05_Ints.f
  refine ev_pos rfl ?_
  exact ints_l0 l hs l.length 0 (by omega)
theorem same_l0 (l : List Ln) (hs : l.length ≤ 9000000000000000000) : ∀ (d i : Nat), i + d = l.length → Ev (fun k => jalousieref01_Same.l0 k l l (i : Int)) true
  | 0, i, h => by
    refine ev_succ ?_
    simp only [jalousieref01_Same.l0]
    (repeat (first | refine ev_pos (by omega) ?_ | refine ev_neg (by omega) ?_))
    exact ev_some rfl
  | d + 1, i, h => by
    have ih := same_l0 l hs d (i + 1) (by omega)
    refine ev_succ ?_
    simp only [jalousieref01_Same.l0]
    rw [w64s i (by omega)]
    (repeat (first | refine ev_pos (by omega) ?_ | refine ev_neg (by omega) ?_))
    refine ev_neg (by simp) ?_
    exact ih
theorem same_ev (l : List Ln) (hs : l.length ≤ 9000000000000000000) : Ev (fun k => jalousieref01_Same.f k l l) true := by
  unfold jalousieref01_Same.f
  refine ev_pos rfl ?_
  exact same_l0 l hs l.length 0 (by omega)
theorem ref_cut_l0 {l : List It} {o : Lb} (hl : ∀ y ∈ l, ok63 y) (ho : ok25 o) (hs : l.length ≤ 2513169434916) : ∀ (d i : Nat), i + d = l.length → Ev (fun k => jalousieref05_Cut.l0 k l ((l.take i).filter (vis o)) (i : Int) o.f0 o.f1) (its l o)
  | 0, i, h => by
    obtain rfl : i = l.length := by omega
    refine ev_succ ?_
    simp only [jalousieref05_Cut.l0]
    (repeat (first | refine ev_pos (by omega) ?_ | refine ev_neg (by omega) ?_))
    exact ev_some (by rw [List.take_length]; rfl)
  | d + 1, i, h => by
    have ih := ref_cut_l0 hl ho hs d (i + 1) (by omega)
    have hb := below_ev (hl _ (rd_it_mem (l := l) (i := i) (by omega))).2.1 ho
    have hlen : ((l.take i).filter (vis o)).length ≤ i := Nat.le_trans (List.length_filter_le _ _) (List.length_take_le _ _)
    rw [take_filter l o i (by omega)] at ih
    refine ev_succ ?_
    simp only [jalousieref05_Cut.l0]
    rw [w64s i (by omega)]
    (repeat (first | refine ev_pos (by omega) ?_ | refine ev_neg (by omega) ?_))
    refine Ev.bind hb ?_
    by_cases h1 : vis o (rd_T63 l (i : Int)) = true
    · rw [if_pos h1] at ih
      refine ev_pos h1 ?_
      (repeat (first | refine ev_pos (by omega) ?_ | refine ev_neg (by omega) ?_))
      exact ih
    · rw [if_neg h1] at ih
      refine ev_neg h1 ?_
      exact ih
theorem ref_cut_ev {l : List It} {o : Lb} (hl : ∀ y ∈ l, ok63 y) (ho : ok25 o) (hs : l.length ≤ 2513169434916) : Ev (fun k => jalousieref05_Cut.f k l o.f0 o.f1) (its l o) := by
  unfold jalousieref05_Cut.f
  exact ref_cut_l0 hl ho hs l.length 0 (by omega)
theorem si_l0 (l m : List It) (hlm : l.length = m.length) (hs : l.length ≤ 9000000000000000000) : ∀ (d i : Nat), i + d = l.length → (∀ j, j < i → l[j]? = m[j]?) → ∃ b : Bool, (b = true ↔ l = m) ∧ Ev (fun k => jalousielaw05_sameItems.l0 k l m (i : Int)) b
  | 0, i, h, hj => by
    have he : l = m := List.ext_getElem? fun n => by
      rcases Nat.lt_or_ge n i with h1 | h1
      · exact hj n h1
      · rw [List.getElem?_eq_none (by omega), List.getElem?_eq_none (by omega)]
    refine ⟨true, ⟨fun _ => he, fun _ => rfl⟩, ev_succ ?_⟩
    simp only [jalousielaw05_sameItems.l0]
    (repeat (first | refine ev_pos (by omega) ?_ | refine ev_neg (by omega) ?_))
    exact ev_some rfl
  | d + 1, i, h, hj => by
    by_cases h1 : l.getD i z63 = m.getD i z63
    · obtain ⟨b, hb, ih⟩ := si_l0 l m hlm hs d (i + 1) (by omega) (fun j hj2 => by
        rcases Nat.lt_or_ge j i with h2 | h2
        · exact hj j h2
        · obtain rfl : j = i := by omega
          rw [getD_lt (by omega), getD_lt (by omega)] at h1
          rw [List.getElem?_eq_getElem (by omega), List.getElem?_eq_getElem (by omega), h1])
      refine ⟨b, hb, ev_succ ?_⟩
      simp only [jalousielaw05_sameItems.l0]
      rw [w64s i (by omega)]
      (repeat (first | refine ev_pos (by omega) ?_ | refine ev_neg (by omega) ?_))
      simp only [ba_beq, rd_it]
      rw [h1]
      refine ev_neg (by simp) ?_
      exact ih
    · refine ⟨false, ⟨(fun e => by cases e), fun e => (h1 (by rw [e])).elim⟩, ev_succ ?_⟩
      simp only [jalousielaw05_sameItems.l0]
      (repeat (first | refine ev_pos (by omega) ?_ | refine ev_neg (by omega) ?_))
      simp only [ba_beq, rd_it]
      refine ev_pos ?_ (ev_some rfl)
      generalize l.getD i z63 = x at h1
      generalize m.getD i z63 = y at h1
      obtain ⟨x0, ⟨x1, x2⟩, x3, ⟨x4, x5⟩⟩ := x
      obtain ⟨y0, ⟨y1, y2⟩, y3, ⟨y4, y5⟩⟩ := y
      simp only [S63.mk.injEq, S25.mk.injEq, S60.mk.injEq, not_and] at h1
      simp only [Bool.or_eq_true, Bool.not_eq_true', beq_eq_false_iff_ne, decide_eq_false_iff_not, ne_eq]
      by_cases a0 : x0 = y0
      · by_cases a1 : x1 = y1
        · by_cases a2 : x2 = y2
          · by_cases a3 : x3 = y3
            · by_cases a4 : x4 = y4
              · exact .inr (.inr (.inr (.inr (h1 a0 ⟨a1, a2⟩ a3 a4))))
              · exact .inr (.inr (.inr (.inl a4)))
            · exact .inr (.inr (.inl a3))
          · exact .inr (.inl (.inr a2))
        · exact .inr (.inl (.inl a1))
      · exact .inl a0
theorem si_ev (l m : List It) (hs : l.length ≤ 9000000000000000000) : ∃ b : Bool, (b = true ↔ l = m) ∧ Ev (fun k => jalousielaw05_sameItems.f k l m) b := by
  unfold jalousielaw05_sameItems.f
  by_cases h : l.length = m.length
  · obtain ⟨b, hb, he⟩ := si_l0 l m h hs l.length 0 (by omega) (fun j hj => by omega)
    exact ⟨b, hb, ev_pos (by omega) he⟩
  · refine ⟨false, ⟨(fun e => by cases e), fun e => (h (by rw [e])).elim⟩, ev_neg (by omega) (ev_some rfl)⟩
end Go.Proofs.Ytdbdfnkhbcgklaa.V
