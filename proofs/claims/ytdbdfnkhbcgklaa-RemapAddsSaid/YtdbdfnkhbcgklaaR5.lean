-- PRINTED by print.py (a twelfth state) out of the translation. Not trusted: Lean checks it.
import Derived.RangeFuncNested
import Derived.RangeFuncBound
import Derived.RangeFuncCalls
import Derived.RangeFuncLeaves
import Derived.RangeFuncBox
import Derived.RangeFuncMany
import Derived.Shelf.Abstract
import Derived.OwnWalkIn
import Derived.TacticsInMore
import Derived.LoopNIn
import Derived.LoopIn
import Derived.Test.YtdbdfnkhbcgklaaR0
import Derived.Test.YtdbdfnkhbcgklaaR4
namespace Go.Proofs.Ytdbdfnkhbcgklaa.R
open Go.RowKit Go.Proofs.YtdbdfnkhbcgklaaW.PrintWords Go.Proofs.YtdbdfnkhbcgklaaW.PrintLast Go.Proofs.YtdbdfnkhbcgklaaW.PrintMore
attribute [local go_sem] max2_int min2_int max_two min_two max_three min_three max_four min_four   -- for this text's walks alone
set_option linter.unusedVariables false
set_option linter.unusedSimpArgs false

/-! ### remap_seen: function 41 (by hand) -/
open Go.Shelf
attribute [local go_sem] Oper.semAt_some
/-- May whoever reads o read x? -/
def remap_seen.bel (x o : S25) : Bool := (label_Below.f x.f0 x.f1 o.f0 o.f1).getD false
theorem remap_seen.bel_some (x o : S25) : label_Below.f x.f0 x.f1 o.f0 o.f1 = some (remap_seen.bel x o) := by
  unfold remap_seen.bel label_Below.f
  split <;> rfl
/-- The places, below n, of what one sees. -/
def remap_seen.revs (l : List S25) (o : S25) (n : Nat) : List Nat := (List.range n).filter fun j => remap_seen.bel (rd_T25 l (j : Int)) o
theorem remap_seen.revs_hit {l : List S25} {o : S25} {n : Nat} (h : remap_seen.bel (rd_T25 l (n : Int)) o = true) : remap_seen.revs l o (n + 1) = remap_seen.revs l o n ++ [n] := by
  simp [remap_seen.revs, List.range_succ, List.filter_append, h]
theorem remap_seen.revs_miss {l : List S25} {o : S25} {n : Nat} (h : remap_seen.bel (rd_T25 l (n : Int)) o = false) : remap_seen.revs l o (n + 1) = remap_seen.revs l o n := by
  simp [remap_seen.revs, List.range_succ, List.filter_append, h]
theorem remap_seen.revs_le (l : List S25) (o : S25) (n : Nat) : (remap_seen.revs l o n).length ≤ n := by
  unfold remap_seen.revs
  exact Nat.le_trans (List.length_filter_le _ _) (by simp)
/-- The same, each with its own number. -/
def remap_seen.prs (l : List S25) (o : S25) (n : Nat) : List (Nat × Nat) := (remap_seen.revs l o n).zipIdx.map fun q => (q.2, q.1)
theorem remap_seen.prs_hit {l : List S25} {o : S25} {n : Nat} (h : remap_seen.bel (rd_T25 l (n : Int)) o = true) : remap_seen.prs l o (n + 1) = remap_seen.prs l o n ++ [((remap_seen.revs l o n).length, n)] := by
  simp [remap_seen.prs, remap_seen.revs_hit h, List.zipIdx_append]
theorem remap_seen.prs_miss {l : List S25} {o : S25} {n : Nat} (h : remap_seen.bel (rd_T25 l (n : Int)) o = false) : remap_seen.prs l o (n + 1) = remap_seen.prs l o n := by
  simp [remap_seen.prs, remap_seen.revs_miss h]
theorem remap_seen.prs_length (l : List S25) (o : S25) (n : Nat) : (remap_seen.prs l o n).length = (remap_seen.revs l o n).length := by simp [remap_seen.prs]
/-- What a round keeps: what lay before the call, and the label's box. -/
def remap_seen.Kp (n₀ Bo : Nat) (W W' : World) : Prop := Below n₀ W W' ∧ W'.heap[Bo]? = W.heap[Bo]?
theorem remap_seen.Kp_t {n₀ Bo : Nat} {X Y Z : World} (h : remap_seen.Kp n₀ Bo X Y) (k : remap_seen.Kp n₀ Bo Y Z) : remap_seen.Kp n₀ Bo X Z := ⟨h.1.trans k.1, k.2.trans h.2⟩
theorem remap_seen.Kp_b {n₀ Bo : Nat} {w : World} (hn : n₀ ≤ w.heap.size) (hb : Bo < w.heap.size) (W : World) (l : Nat) (o o' : Obj) (hl : w.heap.size ≤ l) (h : W.heap[l]? = some o) (h1 : o.isCells = false) (h2 : o.isWalk = false) : remap_seen.Kp n₀ Bo W (W.putObj l o') :=
  ⟨belowK_b hn W l o o' hl h h1 h2, World.putObj_heap_other (by omega)⟩
set_option maxRecDepth 100000 in
set_option maxHeartbeats 4000000 in
theorem remap_seen.closure_in (n : Nat) (hn : 1 ≤ n) (l Bl Bo : Nat) (w0 : World) (A : Option Addr) (c : Nat) (xs : List S25) (o : S25) (J Jx : List (Nat × Nat) → World → Prop)
    (hY : ∀ pre x W, J pre W → pre.length < xs.length → YieldAt Fence.wide (n - 1) Try.prog l #[.int .i64 (x.1 : Int), .int .i64 (x.2 : Int)] W fun e W' =>
      (e = .returned (.bool true) ∧ J (pre ++ [x]) W' ∧ remap_seen.Kp w0.heap.size Bo W W') ∨ (e = .returned (.bool false) ∧ Jx (pre ++ [x]) W'))
    (W : World) (hJ : AbidesFrom W.heap.size J) (hBl : W.cell? ⟨Bl, 0, none⟩ = some (.slice A xs.length c)) (hBo : W.heap[Bo]? = some (.cells #[.int .i64 o.f0, .int .u64 o.f1] 25 (0, 0)))
    (hC0 : Kd.C k25 w0 A xs.length xs) (hc0 : xs.length ≤ c) (hB0 : Below w0.heap.size w0 W) (h0 : J [] W) :
    CallsIn Fence.wide n Try.prog 46 #[.func (.yield l) #[] #[], .pointer (some ⟨Bl, 0, none⟩), .pointer (some ⟨Bo, 0, none⟩)] W fun e W' => (∃ v, e = .returned v) ∧
      ((∃ ys, ys = remap_seen.prs xs o xs.length ∧ J ys W') ∨ (∃ pre, (∃ m, m < xs.length ∧ pre = remap_seen.prs xs o (m + 1)) ∧ Jx pre W')) := by
  have hm := hC0.2.1
  refine callsIn_of_wp Try.func46 rfl trivial ?_ rfl
  simp only [Try.ntmps46, List.size_toArray, List.length_cons, List.length_nil, Nat.reduceAdd, Nat.reduceSub, Array.replicate_succ, Array.replicate_zero, List.push_toArray, List.append_toArray, List.nil_append, List.cons_append]
  gi_wp2
  gi_loopw [4, 9] (fun k i wr => ∃ m : Nat, m ≤ xs.length ∧ i = .int .i64 (m : Int) ∧ k = .int .i64 ((remap_seen.revs xs o m).length : Int) ∧ J (remap_seen.prs xs o m) wr ∧ Below w0.heap.size w0 wr ∧ wr.heap[Bo]? = some (.cells #[.int .i64 o.f0, .int .u64 o.f1] 25 (0, 0)))
    (fun _ i _ => xs.length - (intOf i).toNat)
  case atStart => exact ⟨0, Nat.zero_le _, rfl, rfl, h0, hB0, hBo⟩
  case round =>
    obtain ⟨m, hmx, rfl, rfl, hJs, hB, hBo⟩ := hrel
    have hb0 : wr.cell? ⟨Bo, 0, none⟩ = some (.int .i64 o.f0) := (blk_cell hBo 0).trans rfl
    have hb1 : wr.cell? ⟨Bo, 1, none⟩ = some (.int .u64 o.f1) := (blk_cell hBo 1).trans rfl
    by_cases hlt : m < xs.length
    · obtain ⟨ad, e, hx0, hx1⟩ := at_T25 hC0 (m : Int) (by omega) (by omega)
      cases e
      replace hx0 := (hB.cell (World.block_lt_of_cell? w0 _ hx0)).trans hx0
      replace hx1 := (hB.cell (World.block_lt_of_cell? w0 _ hx1)).trans hx1
      simp only [Int.toNat_natCast] at hx0 hx1
      have hblt : Bo < wr.heap.size := (Array.getElem?_eq_some_iff.1 hBo).1
      have hbne : Bo ≠ wr.heap.size := by omega
      have hbs := remap_seen.bel_some (rd_T25 xs (m : Int)) o
      cases hbel : remap_seen.bel (rd_T25 xs (m : Int)) o with
      | false =>
        rw [hbel] at hbs
        gi_wp2_with (refine ⟨trivial, ?_⟩; gi_at_call 47; refine (callsIn_wide.2 (label_Below.calls _ _ _ _ false _ hbs)).mono ?_; rintro e w' ⟨rfl, hbw⟩)
        go_roundw
        case rel =>
          have hg : wr.grownBy w' none := World.grownBy.trans (World.grownBy_alloc wr _ none) (grown_of_below hbw none)
          refine ⟨m + 1, by omega, by simp, by rw [remap_seen.revs_miss hbel], ?_, below_then (below_then hB hB.size (below_alloc (Below.refl _ _) _)) (by simp; have := hB.size; omega) hbw, ?_⟩
          · rw [remap_seen.prs_miss hbel]
            exact hJ _ _ _ none hJs hg (fun r e => by cases e)
          · exact (hg.block Bo hblt (by simp)).trans hBo
        case measure => simp [intOf]; omega
      | true =>
        rw [hbel] at hbs
        have hrl := remap_seen.revs_le xs o m
        have hyl : (remap_seen.prs xs o m).length < xs.length := by rw [remap_seen.prs_length]; omega
        gi_wp2_with (refine ⟨trivial, ?_⟩; gi_at_call 47; refine (callsIn_wide.2 (label_Below.calls _ _ _ _ true _ hbs)).mono ?_; rintro e w' ⟨rfl, hbw⟩; have hg : wr.grownBy w' none := World.grownBy.trans (World.grownBy_alloc wr _ none) (grown_of_below hbw none); obtain ⟨fn, tmps, assign, body, hy, hR⟩ := hY _ ((remap_seen.revs xs o m).length, m) w' (hJ _ _ _ none hJs hg (fun r e => by cases e)) hyl; dsimp only at hy)
        refine hR.mono ?_
        rintro e W3 (⟨rfl, hJ3, hk3⟩ | ⟨rfl, hJx3⟩)
        · gi_wp2
          go_roundw
          case rel =>
            refine ⟨m + 1, by omega, by simp, by rw [remap_seen.revs_hit hbel]; simp, by rw [remap_seen.prs_hit hbel]; exact hJ3, ?_, ?_⟩
            · exact (below_then (below_then hB hB.size (below_alloc (Below.refl _ _) _)) (by simp; have := hB.size; omega) hbw).trans hk3.1
            · exact hk3.2.trans ((hg.block Bo hblt (by simp)).trans hBo)
          case measure => simp [intOf]; omega
        · gi_wp2
          refine bodyPost_ret (results_none rfl _ _ _) rfl ?_
          exact ⟨⟨_, rfl⟩, .inr ⟨_, ⟨m, hlt, (remap_seen.prs_hit hbel).symm⟩, hJx3⟩⟩
    · obtain rfl : m = xs.length := by omega
      clear hmx hlt
      gi_wp2
      go_end0
      exact ⟨⟨_, rfl⟩, .inl ⟨_, rfl, hJs⟩⟩

set_option maxHeartbeats 1000000 in
theorem remap_seen.calls_in (n : Nat) (A : Option Addr) (c : Nat) (len : Nat) (o : S25) (w : World) :
    CallsIn Fence.wide n Try.prog 41 #[.slice A len c, .agg #[.int .i64 o.f0, .int .u64 o.f1]] w fun e w' =>
      e = .returned (.func (.func 46) #[] #[.pointer (some ⟨w.heap.size, 0, none⟩), .pointer (some ⟨w.heap.size + 1, 0, none⟩)]) ∧ w' = (w.alloc (.cells #[.slice A len c] 22)).alloc (.cells #[.int .i64 o.f0, .int .u64 o.f1] 25) := by
  refine callsIn_of_wp Try.func41 rfl trivial ?_ rfl
  simp only [Try.ntmps41, List.size_toArray, List.length_cons, List.length_nil, Nat.reduceAdd, Nat.reduceSub, Array.replicate_succ, Array.replicate_zero, List.push_toArray, List.append_toArray, List.nil_append, List.cons_append]
  gi_wp2
  go_ret
  exact ⟨rfl, rfl⟩


end Go.Proofs.Ytdbdfnkhbcgklaa.R
