/-
  A REGION THAT DRAWS ITS ORDER, IN A ROUND OF A LOOP OVER A FUNCTION, BY ITS PLAIN STEPS: what is shown of it outside holds in a round too (no deferred calls in it).
-/
import Derived.Test.YtcmnofbpcmnnhaaDoorWLast
import Derived.Test.YtcmnofbpcmnnhaaDoorWTab
import Derived.Test.YtcmnofbpcmnnhaaDoorWInv
import Derived.RangeFuncNested
import Derived.RangeFuncBound
import Derived.RangeFuncCalls
import Derived.RangeFuncLeaves
import Derived.RangeFuncBox
import Derived.RangeFuncMany
import Derived.OwnWalkIn
namespace Go.Proofs.YtcmnofbpcmnnhaaDoor.Rr
open Go.RowKit
theorem upon_round {P : Program} {o : Oper} {a : Act} {K : Act → World → Prop} {Q : Exit → Act → World → Prop} {r : Result Next} {l n : Nat} (h : o.upon P a K Q r) : o.uponIn (Fence.wide.inRound l) n P a K Q r := by
  cases r with
  | ok x w' =>
    cases x <;> simp only [Oper.upon, Oper.uponIn] at h ⊢
    all_goals first
    | exact h
    | exact ⟨fun hd => by simp [Fence.wide, Fence.inRound] at hd, CallsIn.mono (CallsIn.inRound l (callsIn_wide.2 h)) (fun e w'' he => by cases e <;> exact he)⟩
    | exact ⟨fun hd => by simp [Fence.wide, Fence.inRound] at hd, fun c cs _ => let ⟨v, w2, r2, s⟩ := h c cs; ⟨v, w2, r2, stepsIn_wide.2 s⟩⟩
  | halt x w' => cases x <;> simp only [Oper.upon, Oper.uponIn] at h ⊢ <;> exact h
theorem wpOp_round {P : Program} {ops : Array Oper} {Q : Exit → Act → World → Prop} (hQ : ¬ LetsOut Q) {i : Nat} {K K' : Act → World → Prop} {a : Act} {w : World} {l n : Nat} (hd : ∀ (i : Nat) (o : Oper), ops[i]? = some o → ∀ c, o.op ≠ .defer c) (hK : ∀ a w, K a w → K' a w)
    (h : wpOp P ops Q i K a w) : wpOpIn (Fence.wide.inRound l) n P ops Q i K' a w := by
  unfold wpOp at h
  unfold wpOpIn
  cases ho : ops[i]? with
  | none =>
    rw [ho] at h
    exact hK _ _ h
  | some o =>
    rw [ho] at h
    simp only at h ⊢
    split
    · rename_i hw
      rw [if_pos hw] at h
      rcases h with h | ⟨_, h⟩
      · refine Oper.wpIn_mono hK ⟨fun _ _ => trivial, ?_⟩
        rw [Oper.semAt_plain _ _ _ (hd i o ho)]
        exact upon_round h
      · exact absurd h hQ
    · rename_i hw
      rw [if_neg hw] at h
      exact ⟨fun _ _ => trivial, hK _ _ h⟩
theorem wpAny_round {P : Program} {md : Region.Mode} {ops : Array Oper} {Q : Exit → Act → World → Prop} (hQ : ¬ LetsOut Q) {l n : Nat} (hd : ∀ (i : Nat) (o : Oper), ops[i]? = some o → ∀ c, o.op ≠ .defer c) :
    ∀ (fuel : Nat) (b : Array Bool) (a : Act) (w : World), wpAny P md ops Q fuel b a w → wpAnyIn (Fence.wide.inRound l) n P md ops Q fuel b a w
  | 0, _, _, _, h => h
  | fuel + 1, _, _, _, h => ⟨h.1, fun i hi => wpOp_round hQ hd (fun a' w' => wpAny_round hQ hd fuel _ a' w') (h.2 i hi)⟩
/-- The region, in a round. -/
theorem region {P : Program} {ops : Array Oper} {Q : Exit → Act → World → Prop} {id l n : Nat} {a : Act} {w : World} (hm : P.follows .mixedOrders = true) (hQ : ¬ LetsOut Q) (hd : ∀ (i : Nat) (o : Oper), ops[i]? = some o → ∀ c, o.op ≠ .defer c)
    (h : wpAny P .any ops Q ops.size (Array.replicate ops.size false) a w.drew) : (Code.region id ops true).wpIn (Fence.wide.inRound l) n P Q a w :=
  wpIn_region_any hm (wpAny_round hQ hd _ _ _ _ h)
def noDefer (ops : Array Oper) : Bool := ops.toList.all fun o => match o.op with
  | .defer _ => false
  | _ => true
theorem no_defer {ops : Array Oper} (h : noDefer ops = true) : ∀ (i : Nat) (o : Oper), ops[i]? = some o → ∀ c, o.op ≠ .defer c := by
  intro i o ho c e
  have h1 := List.all_eq_true.1 h o (by rw [← Array.getElem?_toList] at ho; exact List.mem_of_getElem? ho)
  rw [e] at h1
  cases h1
/-- An append as one step, wherever the new elements lie. -/
theorem app_step {P : Program} {ops : Array Oper} {o : Oper} {a : Act} {Q : Exit → Act → World → Prop} {K : Act → World → Prop} {W : World} (base : Nat) (hw : Region.wanted o (yielded ops a.tmps) = true) (s x : Operand) (t e : TypeId) (z : Value) (size bytes : Nat)
    (ho : o.op = .call { callee := .builtin .append, args := #[s, x], argTypes := #[t, t] })
    (ht : P.underlying t = some (.slice e)) (hinfo : (P.info? e).map (fun i => (i.zero, i.size, i.bytes)) = some (some z, size, bytes)) (hz : z.cells.size = size) (hs0 : 0 < size) (hb0 : 0 < bytes)
    (v : Value) (n : Nat) (xs ys : List Value) (ad : Addr) (hs : a.eval s = v) (hx : a.eval x = .slice (some ad) 1 1) (hys : ys.length = size) (hc : ∀ j u, ys[j]? = some u → W.cell? (ad.add j) = some u) (h1 : ∀ u ∈ ys, u.oneCell' = true)
    (HO : W.ownsRow base e size v n xs) (hbase : base ≤ W.heap.size) (hl : (n + 1) * bytes ≤ 140737488355328)
    (h : ∀ v1 w1, w1.ownsRow base e size v1 (n + 1) (xs ++ ys) → W.grownBy w1 v.ownBlock → (v1.ownBlock = v.ownBlock ∨ v1.ownBlock = some W.heap.size) → K (a.put o.dst v1) w1) :
    if Region.wanted o (yielded ops a.tmps) = true then Oper.wp P o a W K Q else K (a.put o.dst undef) W := by
  obtain ⟨i0, hi, hzz⟩ := Option.map_eq_some_iff.1 hinfo
  simp only [Prod.mk.injEq] at hzz
  obtain ⟨hz0, hz1, hz2⟩ := hzz
  have hlen : n + 1 ≤ 140737488355328 := Nat.le_trans (Nat.le_mul_of_pos_right _ hb0) hl
  rw [if_pos hw]
  obtain ⟨v1, w1, hr, hown, hg, _, hat⟩ := run_append_own_at (P := P) W base t o.type e i0 z size bytes ht hi hz0 hz1 hz2 hz hs0 v n xs HO ad 1 1 ys (by rw [hys]; simp) hc h1 (by simp only [maxLen]; omega) hl hbase
  unfold Oper.wp execOp
  simp only [ho, resolve, invoke, builtin, Sem.run_bind, Sem.run_pure, Result.andThen_ok, List.map_toArray, List.map_cons, List.map_nil, hs, hx, hr]
  exact h v1 w1 hown hg hat
theorem blk_ne_row {X : World} {b base size n : Nat} {cs : Array Value} {t e : TypeId} {v : Value} {xs : List Value} (hb : X.heap[b]? = some (.cells cs t (0, 0))) (hr : X.ownsRow base e size v n xs) (hte : t ≠ e) : some b ≠ v.ownBlock := by
  intro e'
  rcases hr.2 with ⟨rfl, _⟩ | ⟨g, cap, cur, rfl, _, hgb, _⟩
  · simp [Value.ownBlock] at e'
  · obtain rfl : b = g := by simpa [Value.ownBlock] using e'
    rw [hb] at hgb
    injection hgb with h
    injection h with _ h2
    exact hte h2
theorem rows_apart {X : World} {b1 b2 s1 s2 n1 n2 : Nat} {e1 e2 : TypeId} {v1 v2 : Value} {xs ys : List Value} (h1 : X.ownsRow b1 e1 s1 v1 n1 xs) (h2 : X.ownsRow b2 e2 s2 v2 n2 ys) (hne : e1 ≠ e2) : v1.ownBlock = none ∨ v1.ownBlock ≠ v2.ownBlock := by
  rcases h1.2 with ⟨rfl, _⟩ | ⟨g, cap, cur, rfl, _, hgb, _⟩
  · exact .inl rfl
  · exact .inr (blk_ne_row hgb h2 hne)
theorem apart' {X : World} {b1 b2 s1 s2 n1 n2 : Nat} {e1 e2 : TypeId} {v1 v2 : Value} {xs ys : List Value} (h1 : X.ownsRow b1 e1 s1 v1 n1 xs) (h2 : X.ownsRow b2 e2 s2 v2 n2 ys) (hne : e1 ≠ e2) : v1 = .slice none 0 0 ∨ v1.ownBlock ≠ v2.ownBlock := by
  rcases h1.2 with ⟨rfl, _⟩ | ⟨g, cap, cur, rfl, _, hgb, _⟩
  · exact .inl rfl
  · exact .inr (blk_ne_row hgb h2 hne)
theorem row_drew {X : World} {b s n : Nat} {e : TypeId} {v : Value} {xs : List Value} (h : X.ownsRow b e s v n xs) : X.drew.ownsRow b e s v n xs := h
theorem grown_set (X : World) (p : Addr) (u : Value) : X.grownBy (X.setCell p u) (some p.block) :=
  ⟨rfl, rfl, rfl, by rw [World.size_setCell]; exact Nat.le_refl _, fun k _ hk => Below.heap_setCell X p u k (fun e => hk (by rw [e]))⟩
theorem row_set {X : World} {b s n : Nat} {e t : TypeId} {v : Value} {xs : List Value} {g : Nat} {cs : Array Value} (h : X.ownsRow b e s v n xs) (hb : X.heap[g]? = some (.cells cs t (0, 0))) (hte : t ≠ e) (j : Nat) (u : Value) : (X.setCell ⟨g, j, none⟩ u).ownsRow b e s v n xs :=
  h.kept (grown_set X ⟨g, j, none⟩ u) (.inr (Ne.symm (blk_ne_row hb h hte)))
theorem row_own_set {X : World} {b s n g cap : Nat} {e : TypeId} {xs : List Value} (h : X.ownsRow b e s (.slice (some ⟨g, 0, none⟩) n cap) n xs) (j : Nat) (u : Value) : (X.setCell ⟨g, j, none⟩ u).ownsRow b e s (.slice (some ⟨g, 0, none⟩) n cap) n (xs.set j u) := by
  refine ⟨by rw [List.length_set]; exact h.1, ?_⟩
  rcases h.2 with ⟨hv, _⟩ | ⟨g', cap', cur, hv, hb, hgb, h1, h2, h3, h4⟩
  · cases hv
  · cases hv
    refine .inr ⟨g, cap, cur.setIfInBounds j u, rfl, hb, Go.Proofs.YtcmnofbpcmnnhaaDoorW.PrintWords.blk_set hgb j u, h1, h2, by simpa using h3, ?_⟩
    rw [Array.toList_setIfInBounds, List.take_set, h4]
/-- A row's own cell. -/
theorem row_cell {X : World} {b s n g cap : Nat} {e : TypeId} {xs : List Value} (h : X.ownsRow b e s (.slice (some ⟨g, 0, none⟩) n cap) n xs) (j : Nat) {u : Value} (hj : xs[j]? = some u) : X.cell? ⟨g, j, none⟩ = some u ∧ X.frozen? ⟨g, j, none⟩ = false := by
  rcases h.2 with ⟨hv, _⟩ | ⟨g', cap', cur, hv, hb, hgb, h1, h2, h3, h4⟩
  · cases hv
  · cases hv
    refine ⟨(Go.Proofs.YtcmnofbpcmnnhaaDoorW.PrintWords.blk_cell hgb j).trans ?_, Go.Proofs.YtcmnofbpcmnnhaaDoorW.PrintWords.blk_frozen hgb j⟩
    rw [← h4, List.getElem?_take] at hj
    split at hj
    · rw [← Array.getElem?_toList]; exact hj
    · cases hj
/-- Rows of elements that lie one after another. -/
theorem reps {α : Type} {R : α → List Value → Prop} {c : α → List Value} {n : Nat} (hn : ∀ x, (c x).length = n) (hR : ∀ x, R x (c x)) : ∀ xs : List α, Go.Proofs.YtcmnofbpcmnnhaaDoorW.PrintWords.Reps R n xs (xs.flatMap c)
  | [] => Go.Proofs.YtcmnofbpcmnnhaaDoorW.PrintWords.Reps.none _ _
  | x :: xs => by
    have ih := reps hn hR xs
    refine ⟨by rw [List.flatMap_cons, List.length_append, ih.1, hn, List.length_cons, Nat.add_mul, Nat.one_mul, Nat.add_comm], fun j p hj => ?_⟩
    cases j with
    | zero =>
      have : x = p := by simpa using hj
      subst this
      have hx : (List.drop (0 * n) (List.flatMap c (x :: xs))).take n = c x := by
        rw [Nat.zero_mul, List.drop_zero, List.flatMap_cons, List.take_append_of_le_length (by rw [hn]; exact Nat.le_refl _), List.take_of_length_le (by rw [hn]; exact Nat.le_refl _)]
      rw [hx]
      exact hR x
    | succ j =>
      have hj' : xs[j]? = some p := by simpa using hj
      have hx : (List.drop ((j + 1) * n) (List.flatMap c (x :: xs))).take n = (List.drop (j * n) (List.flatMap c xs)).take n := by
        rw [List.flatMap_cons, show (j + 1) * n = (c x).length + j * n by rw [hn, Nat.add_mul, Nat.one_mul, Nat.add_comm], List.drop_append, List.drop_of_length_le (by rw [hn]; omega), List.nil_append]
        simp
      rw [hx]
      exact ih.2 j p hj'
/-- The new world is the old one but for new blocks and two rows. -/
structure Ag (W X : World) (r1 r2 : Option Nat) : Prop where
  os : X.os = W.os
  tape : X.tape = W.tape
  output : X.output = W.output
  size : W.heap.size ≤ X.heap.size
  block : ∀ k, k < W.heap.size → some k ≠ r1 → some k ≠ r2 → X.heap[k]? = W.heap[k]?
theorem Ag.refl (W : World) (r1 r2 : Option Nat) : Ag W W r1 r2 := ⟨rfl, rfl, rfl, Nat.le_refl _, fun _ _ _ _ => rfl⟩
theorem Ag.drew {W X : World} {r1 r2 : Option Nat} (h : Ag W X r1 r2) : Ag W X.drew r1 r2 := ⟨h.os, h.tape, h.output, h.size, h.block⟩
theorem Ag.alloc {W X : World} {r1 r2 : Option Nat} (h : Ag W X r1 r2) (o : Obj) : Ag W (X.alloc o) r1 r2 :=
  ⟨h.os, h.tape, h.output, by have := h.size; simp; omega, fun k hk a b => (Below.heap_alloc X o k (by have := h.size; omega)).trans (h.block k hk a b)⟩
theorem Ag.grown {W X Y : World} {r1 r2 row : Option Nat} (h : Ag W X r1 r2) (hg : X.grownBy Y row) (hr : row = r1 ∨ row = r2 ∨ ∀ k, row = some k → W.heap.size ≤ k) : Ag W Y r1 r2 :=
  ⟨hg.os.trans h.os, hg.tape.trans h.tape, hg.output.trans h.output, Nat.le_trans h.size hg.size, fun k hk a b => (hg.block k (by have := h.size; omega) (fun e => by
    rcases hr with rfl | rfl | hr
    · exact a e
    · exact b e
    · have := hr k e.symm; omega)).trans (h.block k hk a b)⟩
theorem Ag.set {W X : World} {r1 r2 : Option Nat} (h : Ag W X r1 r2) {p : Addr} (u : Value) (hp : some p.block = r1 ∨ some p.block = r2 ∨ W.heap.size ≤ p.block) : Ag W (X.setCell p u) r1 r2 :=
  ⟨h.os, h.tape, h.output, by rw [World.size_setCell]; exact h.size, fun k hk a b => (Below.heap_setCell X p u k (fun e => by
    subst e
    rcases hp with hp | hp | hp
    · exact a hp
    · exact b hp
    · omega)).trans (h.block k hk a b)⟩
theorem row_cells {X : World} {b s n : Nat} {e : TypeId} {v : Value} {xs : List Value} (h : X.ownsRow b e s v n xs) : ∀ k o, v.ownBlock = some k → X.heap[k]? = some o → o.isCells = true := by
  intro k o hk ho
  rcases h.2 with ⟨rfl, _⟩ | ⟨g, cap, cur, rfl, _, hgb, _⟩
  · simp [Value.ownBlock] at hk
  · obtain rfl : g = k := by simpa [Value.ownBlock] using hk
    rw [hgb] at ho; cases ho; rfl
theorem row_ge {X : World} {b s n : Nat} {e : TypeId} {v : Value} {xs : List Value} (h : X.ownsRow b e s v n xs) : ∀ k, v.ownBlock = some k → b ≤ k := by
  intro k hk
  rcases h.2 with ⟨rfl, _⟩ | ⟨g, cap, cur, rfl, hb, _⟩
  · simp [Value.ownBlock] at hk
  · obtain rfl : g = k := by simpa [Value.ownBlock] using hk
    exact hb
theorem Ag.keeps {W X : World} {r1 r2 : Option Nat} (h : Ag W X r1 r2) (c1 : ∀ k o, r1 = some k → W.heap[k]? = some o → o.isCells = true) (c2 : ∀ k o, r2 = some k → W.heap[k]? = some o → o.isCells = true) : KeepsOthers W X :=
  ⟨h.size, fun k o hk ho => (h.block k (Array.getElem?_eq_some_iff.1 hk).1 (fun e => by rw [c1 k o e.symm hk] at ho; cases ho) (fun e => by rw [c2 k o e.symm hk] at ho; cases ho)).trans hk⟩
theorem Ag.below {W X : World} {r1 r2 : Option Nat} {B : Nat} (h : Ag W X r1 r2) (hB : B ≤ W.heap.size) (c1 : ∀ k, r1 = some k → B ≤ k) (c2 : ∀ k, r2 = some k → B ≤ k) : Below B W X :=
  ⟨h.os, h.tape, h.output, h.size, fun k hk => h.block k (by omega) (fun e => by have := c1 k e.symm; omega) (fun e => by have := c2 k e.symm; omega)⟩
open Go.Proofs.YtcmnofbpcmnnhaaDoorW.PrintLast in
/-- .. step by step. -/
theorem start {P : Program} {ops : Array Oper} {Q : Exit → Act → World → Prop} {S : World → Prop} {ds : List Nat} {id l n m : Nat} {a : Act} {w : World} (b : Array Bool) (hm : P.follows .mixedOrders = true) (hQ : ¬ LetsOut Q) (hd : noDefer ops = true) (hn : ops.size = m) (hl : Array.replicate m false = b) (hS : S w.drew)
    (h : S w.drew → wpAnyLast P .any ops Q S ds m b a w.drew) : (Code.region id ops true).wpIn (Fence.wide.inRound l) n P Q a w := by
  subst hn
  subst hl
  exact region hm hQ (no_defer hd) (wpAny_of_last _ _ _ _ (h hS))
end Go.Proofs.YtcmnofbpcmnnhaaDoor.Rr
