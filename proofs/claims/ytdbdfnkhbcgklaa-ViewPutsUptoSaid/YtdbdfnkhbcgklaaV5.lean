-- PRINTED by print.py (a twelfth state) out of the translation. Not trusted: Lean checks it.
import Derived.RangeFuncNested
import Derived.RangeFuncBound
import Derived.RangeFuncCalls
import Derived.RangeFuncLeaves
import Derived.RangeFuncBox
import Derived.RangeFuncMany
import Derived.Shelf.Abstract
import Derived.OwnWalkIn
import Derived.TacticsInMore
import Derived.LoopNIn
import Derived.LoopIn
import Derived.Test.YtdbdfnkhbcgklaaV0
import Derived.Test.YtdbdfnkhbcgklaaV4
namespace Go.Proofs.Ytdbdfnkhbcgklaa.V
open Go.RowKit Go.Proofs.YtdbdfnkhbcgklaaW.PrintWords Go.Proofs.YtdbdfnkhbcgklaaW.PrintLast Go.Proofs.YtdbdfnkhbcgklaaW.PrintMore
attribute [local go_sem] max2_int min2_int max_two min_two max_three min_three max_four min_four   -- for this text's walks alone
set_option linter.unusedVariables false
set_option linter.unusedSimpArgs false

/-! ### view_seen: function 44 (by hand) -/
open Go.Shelf
attribute [local go_sem] Oper.semAt_some
/-- May whoever reads o read x? -/
def view_seen.bel (x o : S25) : Bool := (label_Below.f x.f0 x.f1 o.f0 o.f1).getD false
theorem view_seen.bel_some (x o : S25) : label_Below.f x.f0 x.f1 o.f0 o.f1 = some (view_seen.bel x o) := by
  unfold view_seen.bel label_Below.f
  split <;> rfl
/-- The places, below n, of what one sees. -/
def view_seen.revs (l : List S63) (o : S25) (n : Nat) : List Nat := (List.range n).filter fun j => view_seen.bel (rd_T63 l (j : Int)).f1 o
theorem view_seen.revs_hit {l : List S63} {o : S25} {n : Nat} (h : view_seen.bel (rd_T63 l (n : Int)).f1 o = true) : view_seen.revs l o (n + 1) = view_seen.revs l o n ++ [n] := by
  simp [view_seen.revs, List.range_succ, List.filter_append, h]
theorem view_seen.revs_miss {l : List S63} {o : S25} {n : Nat} (h : view_seen.bel (rd_T63 l (n : Int)).f1 o = false) : view_seen.revs l o (n + 1) = view_seen.revs l o n := by
  simp [view_seen.revs, List.range_succ, List.filter_append, h]
theorem view_seen.revs_le (l : List S63) (o : S25) (n : Nat) : (view_seen.revs l o n).length ≤ n := by
  unfold view_seen.revs
  exact Nat.le_trans (List.length_filter_le _ _) (by simp)
/-- The same, each with its item. -/
def view_seen.prs (l : List S63) (o : S25) (n : Nat) : List (Nat × S63) := (view_seen.revs l o n).map fun j => (j, rd_T63 l (j : Int))
theorem view_seen.prs_hit {l : List S63} {o : S25} {n : Nat} (h : view_seen.bel (rd_T63 l (n : Int)).f1 o = true) : view_seen.prs l o (n + 1) = view_seen.prs l o n ++ [(n, rd_T63 l (n : Int))] := by
  simp [view_seen.prs, view_seen.revs_hit h]
theorem view_seen.prs_miss {l : List S63} {o : S25} {n : Nat} (h : view_seen.bel (rd_T63 l (n : Int)).f1 o = false) : view_seen.prs l o (n + 1) = view_seen.prs l o n := by
  simp [view_seen.prs, view_seen.revs_miss h]
theorem view_seen.prs_length (l : List S63) (o : S25) (n : Nat) : (view_seen.prs l o n).length = (view_seen.revs l o n).length := by simp [view_seen.prs]
/-- What a round keeps: what lay before the call, and the label's box. -/
def view_seen.Kp (n₀ Bo : Nat) (W W' : World) : Prop := Below n₀ W W' ∧ W'.heap[Bo]? = W.heap[Bo]?
theorem view_seen.Kp_t {n₀ Bo : Nat} {X Y Z : World} (h : view_seen.Kp n₀ Bo X Y) (k : view_seen.Kp n₀ Bo Y Z) : view_seen.Kp n₀ Bo X Z := ⟨h.1.trans k.1, k.2.trans h.2⟩
theorem view_seen.Kp_b {n₀ Bo : Nat} {w : World} (hn : n₀ ≤ w.heap.size) (hb : Bo < w.heap.size) (W : World) (l : Nat) (o o' : Obj) (hl : w.heap.size ≤ l) (h : W.heap[l]? = some o) (h1 : o.isCells = false) (h2 : o.isWalk = false) : view_seen.Kp n₀ Bo W (W.putObj l o') :=
  ⟨belowK_b hn W l o o' hl h h1 h2, World.putObj_heap_other (by omega)⟩
set_option maxRecDepth 100000 in
set_option maxHeartbeats 8000000 in
theorem view_seen.closure_in (n : Nat) (hn : 1 ≤ n) (l Bl Bo : Nat) (w0 : World) (A : Option Addr) (c : Nat) (xs : List S63) (o : S25) (J Jx : List (Nat × S63) → World → Prop)
    (hY : ∀ pre x W, J pre W → pre.length < xs.length → YieldAt Fence.wide (n - 1) Try.prog l #[.int .i64 (x.1 : Int), .agg #[.int .i64 x.2.f0, .int .i64 x.2.f1.f0, .int .u64 x.2.f1.f1, .bool x.2.f2, .string x.2.f3.f0, .bool x.2.f3.f1]] W fun e W' =>
      (e = .returned (.bool true) ∧ J (pre ++ [x]) W' ∧ view_seen.Kp w0.heap.size Bo W W') ∨ (e = .returned (.bool false) ∧ Jx (pre ++ [x]) W'))
    (W : World) (hJ : AbidesFrom W.heap.size J) (hBl : W.cell? ⟨Bl, 0, none⟩ = some (.slice A xs.length c)) (hBo : W.heap[Bo]? = some (.cells #[.int .i64 o.f0, .int .u64 o.f1] 25 (0, 0)))
    (hC0 : Kd.C k63 w0 A xs.length xs) (hc0 : xs.length ≤ c) (hB0 : Below w0.heap.size w0 W) (h0 : J [] W) :
    CallsIn Fence.wide n Try.prog 48 #[.func (.yield l) #[] #[], .pointer (some ⟨Bl, 0, none⟩), .pointer (some ⟨Bo, 0, none⟩)] W fun e W' => (∃ v, e = .returned v) ∧
      ((∃ ys, ys = view_seen.prs xs o xs.length ∧ J ys W') ∨ (∃ pre, (∃ m, m < xs.length ∧ pre = view_seen.prs xs o (m + 1)) ∧ Jx pre W')) := by
  have hm := hC0.2.1
  have hu25 := Try.underlying25
  have hu63 := Try.underlying63
  refine callsIn_of_wp Try.func48 rfl trivial ?_ rfl
  simp only [Try.ntmps48, List.size_toArray, List.length_cons, List.length_nil, Nat.reduceAdd, Nat.reduceSub, Array.replicate_succ, Array.replicate_zero, List.push_toArray, List.append_toArray, List.nil_append, List.cons_append]
  gi_wp2
  gi_loopw [8] (fun i wr => ∃ m : Nat, m ≤ xs.length ∧ i = .int .i64 (m : Int) ∧ J (view_seen.prs xs o m) wr ∧ Below w0.heap.size w0 wr ∧ wr.heap[Bo]? = some (.cells #[.int .i64 o.f0, .int .u64 o.f1] 25 (0, 0)))
    (fun i _ => xs.length - (intOf i).toNat)
  case atStart => exact ⟨0, Nat.zero_le _, rfl, h0, hB0, hBo⟩
  case round =>
    obtain ⟨m, hmx, rfl, hJs, hB, hBo⟩ := hrel
    have hb0 : wr.cell? ⟨Bo, 0, none⟩ = some (.int .i64 o.f0) := (blk_cell hBo 0).trans rfl
    have hb1 : wr.cell? ⟨Bo, 1, none⟩ = some (.int .u64 o.f1) := (blk_cell hBo 1).trans rfl
    by_cases hlt : m < xs.length
    · obtain ⟨ad, e, hx0, hx1, hx2, hx3, hx4, hx5⟩ := at_T63 hC0 (m : Int) (by omega) (by omega)
      cases e
      replace hx0 := (hB.cell (World.block_lt_of_cell? w0 _ hx0)).trans hx0
      replace hx1 := (hB.cell (World.block_lt_of_cell? w0 _ hx1)).trans hx1
      replace hx2 := (hB.cell (World.block_lt_of_cell? w0 _ hx2)).trans hx2
      replace hx3 := (hB.cell (World.block_lt_of_cell? w0 _ hx3)).trans hx3
      replace hx4 := (hB.cell (World.block_lt_of_cell? w0 _ hx4)).trans hx4
      replace hx5 := (hB.cell (World.block_lt_of_cell? w0 _ hx5)).trans hx5
      simp only [Int.toNat_natCast] at hx0 hx1 hx2 hx3 hx4 hx5
      have hblt : Bo < wr.heap.size := (Array.getElem?_eq_some_iff.1 hBo).1
      have hbne : Bo ≠ wr.heap.size := by omega
      have hbs := view_seen.bel_some (rd_T63 xs (m : Int)).f1 o
      cases hbel : view_seen.bel (rd_T63 xs (m : Int)).f1 o with
      | false =>
        rw [hbel] at hbs
        gi_wp2_with (refine ⟨trivial, ?_⟩; gi_at_call 47; refine (callsIn_wide.2 (label_Below.calls _ _ _ _ false _ hbs)).mono ?_; rintro e w' ⟨rfl, hbw⟩)
        refine ⟨fun _ h => (by cases h), ?_⟩
        gi_wp2
        go_roundw
        case rel =>
          have hg : wr.grownBy w' none := World.grownBy.trans (World.grownBy_alloc wr _ none) (grown_of_below hbw none)
          refine ⟨m + 1, by omega, by simp, ?_, below_then (below_then hB hB.size (below_alloc (Below.refl _ _) _)) (by simp; have := hB.size; omega) hbw, ?_⟩
          · rw [view_seen.prs_miss hbel]
            exact hJ _ _ _ none hJs hg (fun r e => by cases e)
          · exact (hg.block Bo hblt (by simp)).trans hBo
        case measure => simp [intOf]; omega
      | true =>
        rw [hbel] at hbs
        have hrl := view_seen.revs_le xs o m
        have hyl : (view_seen.prs xs o m).length < xs.length := by rw [view_seen.prs_length]; omega
        gi_wp2_with (refine ⟨trivial, ?_⟩; gi_at_call 47; refine (callsIn_wide.2 (label_Below.calls _ _ _ _ true _ hbs)).mono ?_; rintro e w' ⟨rfl, hbw⟩; have hg : wr.grownBy w' none := World.grownBy.trans (World.grownBy_alloc wr _ none) (grown_of_below hbw none); have hBn : w'.heap[wr.heap.size]? = some (.cells #[.int .i64 (rd_T63 xs (m : Int)).f0, .int .i64 (rd_T63 xs (m : Int)).f1.f0, .int .u64 (rd_T63 xs (m : Int)).f1.f1, .bool (rd_T63 xs (m : Int)).f2, .string (rd_T63 xs (m : Int)).f3.f0, .bool (rd_T63 xs (m : Int)).f3.f1] 63 (0, 0)) := (hbw.block wr.heap.size (by simp)).trans (World.alloc_heap_new wr _); have hn0 : w'.cell? ⟨wr.heap.size, 0, none⟩ = some (.int .i64 (rd_T63 xs (m : Int)).f0) := (blk_cell hBn 0).trans rfl; have hn1 : w'.cell? ⟨wr.heap.size, 1, none⟩ = some (.int .i64 (rd_T63 xs (m : Int)).f1.f0) := (blk_cell hBn 1).trans rfl; have hn2 : w'.cell? ⟨wr.heap.size, 2, none⟩ = some (.int .u64 (rd_T63 xs (m : Int)).f1.f1) := (blk_cell hBn 2).trans rfl; have hn3 : w'.cell? ⟨wr.heap.size, 3, none⟩ = some (.bool (rd_T63 xs (m : Int)).f2) := (blk_cell hBn 3).trans rfl; have hn4 : w'.cell? ⟨wr.heap.size, 4, none⟩ = some (.string (rd_T63 xs (m : Int)).f3.f0) := (blk_cell hBn 4).trans rfl; have hn5 : w'.cell? ⟨wr.heap.size, 5, none⟩ = some (.bool (rd_T63 xs (m : Int)).f3.f1) := (blk_cell hBn 5).trans rfl; obtain ⟨fn, tmps, assign, body, hy, hR⟩ := hY _ (m, rd_T63 xs (m : Int)) w' (hJ _ _ _ none hJs hg (fun r e => by cases e)) hyl; dsimp only at hy)
        refine hR.mono ?_
        rintro e W3 (⟨rfl, hJ3, hk3⟩ | ⟨rfl, hJx3⟩)
        · gi_wp2
          go_roundw
          case rel =>
            refine ⟨m + 1, by omega, by simp, by rw [view_seen.prs_hit hbel]; exact hJ3, ?_, ?_⟩
            · exact (below_then (below_then hB hB.size (below_alloc (Below.refl _ _) _)) (by simp; have := hB.size; omega) hbw).trans hk3.1
            · exact hk3.2.trans ((hg.block Bo hblt (by simp)).trans hBo)
          case measure => simp [intOf]; omega
        · gi_wp2
          refine bodyPost_ret (results_none rfl _ _ _) rfl ?_
          exact ⟨⟨_, rfl⟩, .inr ⟨_, ⟨m, hlt, (view_seen.prs_hit hbel).symm⟩, hJx3⟩⟩
    · obtain rfl : m = xs.length := by omega
      clear hmx hlt
      gi_wp2
      go_end0
      exact ⟨⟨_, rfl⟩, .inl ⟨_, rfl, hJs⟩⟩

set_option maxHeartbeats 1000000 in
theorem view_seen.calls_in (n : Nat) (A : Option Addr) (c : Nat) (len : Nat) (o : S25) (w : World) :
    CallsIn Fence.wide n Try.prog 44 #[.slice A len c, .agg #[.int .i64 o.f0, .int .u64 o.f1]] w fun e w' =>
      e = .returned (.func (.func 48) #[] #[.pointer (some ⟨w.heap.size, 0, none⟩), .pointer (some ⟨w.heap.size + 1, 0, none⟩)]) ∧ w' = (w.alloc (.cells #[.slice A len c] 39)).alloc (.cells #[.int .i64 o.f0, .int .u64 o.f1] 25) := by
  refine callsIn_of_wp Try.func44 rfl trivial ?_ rfl
  simp only [Try.ntmps44, List.size_toArray, List.length_cons, List.length_nil, Nat.reduceAdd, Nat.reduceSub, Array.replicate_succ, Array.replicate_zero, List.push_toArray, List.append_toArray, List.nil_append, List.cons_append]
  gi_wp2
  go_ret
  exact ⟨rfl, rfl⟩


end Go.Proofs.Ytdbdfnkhbcgklaa.V
