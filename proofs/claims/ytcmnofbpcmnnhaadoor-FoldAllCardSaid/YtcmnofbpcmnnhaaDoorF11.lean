-- PRINTED by print.py (a twelfth state) out of the translation. Not trusted: Lean checks it.
import Derived.RangeFuncNested
import Derived.RangeFuncBound
import Derived.RangeFuncCalls
import Derived.RangeFuncLeaves
import Derived.RangeFuncBox
import Derived.RangeFuncMany
import Derived.Shelf.Abstract
import Derived.OwnWalkIn
import Derived.TacticsInMore
import Derived.LoopNIn
import Derived.LoopIn
import Derived.Test.YtcmnofbpcmnnhaaDoorF0
namespace Go.Proofs.YtcmnofbpcmnnhaaDoor.F
open Go.RowKit Go.Proofs.YtcmnofbpcmnnhaaDoorW.PrintWords Go.Proofs.YtcmnofbpcmnnhaaDoorW.PrintLast Go.Proofs.YtcmnofbpcmnnhaaDoorW.PrintMore
attribute [local go_sem] max2_int min2_int max_two min_two max_three min_three max_four min_four   -- for this text's walks alone
set_option linter.unusedVariables false
set_option linter.unusedSimpArgs false

/-! ### api_Line: function 65 (by hand) -/
open Go.Shelf
attribute [local go_sem] Oper.semAt_some
abbrev bwd_Line.I (xs : List S26) := {j : Nat // j < xs.length}
/-- The places that have come after d rounds: from the last one on. -/
def bwd_Line.upto (xs : List S26) : Nat → List (bwd_Line.I xs)
  | 0 => []
  | d + 1 => bwd_Line.upto xs d ++ (if h : xs.length - 1 - d < xs.length then [⟨xs.length - 1 - d, h⟩] else [])
theorem bwd_Line.upto_succ {xs : List S26} {d q : Nat} (h : d + (q + 1) = xs.length) : bwd_Line.upto xs (d + 1) = bwd_Line.upto xs d ++ [⟨q, by omega⟩] := by
  have e : xs.length - 1 - d = q := by omega
  simp only [bwd_Line.upto, e]
  rw [dif_pos (by omega)]
theorem bwd_Line.upto_len {xs : List S26} : ∀ {d : Nat}, d ≤ xs.length → (bwd_Line.upto xs d).length = d
  | 0, _ => rfl
  | d + 1, h => by
    rw [bwd_Line.upto_succ (q := xs.length - (d + 1)) (by omega), List.length_append, bwd_Line.upto_len (by omega)]
    rfl
def bwd_Line.enc (xs : List S26) (x : bwd_Line.I xs) : Array Value := #[.int .i64 (x.1 : Int), .agg #[.string (rd_T26 xs (x.1 : Int)).f0, .bool (rd_T26 xs (x.1 : Int)).f1]]
def bwd_Line.Kp (n₀ Bl : Nat) (W W' : World) : Prop := Below n₀ W W' ∧ W'.heap[Bl]? = W.heap[Bl]?
theorem bwd_Line.Kp_t {n₀ Bl : Nat} {X Y Z : World} (h : bwd_Line.Kp n₀ Bl X Y) (k : bwd_Line.Kp n₀ Bl Y Z) : bwd_Line.Kp n₀ Bl X Z := ⟨h.1.trans k.1, k.2.trans h.2⟩
theorem bwd_Line.Kp_b {n₀ Bl : Nat} {w : World} (hn : n₀ ≤ w.heap.size) (hb : Bl < w.heap.size) (W : World) (l : Nat) (o o' : Obj) (hl : w.heap.size ≤ l) (h : W.heap[l]? = some o) (h1 : o.isCells = false) (h2 : o.isWalk = false) : bwd_Line.Kp n₀ Bl W (W.putObj l o') :=
  ⟨belowK_b hn W l o o' hl h h1 h2, World.putObj_heap_other (by omega)⟩
set_option maxRecDepth 100000 in
set_option maxHeartbeats 8000000 in
theorem bwd_Line.closure_in (n : Nat) (hn : 1 ≤ n) (l Bl : Nat) (w0 : World) (A : Option Addr) (c : Nat) (xs : List S26) (J Jx : List (bwd_Line.I xs) → World → Prop)
    (hY : ∀ pre x W, J pre W → pre.length < xs.length → YieldAt Fence.wide (n - 1) Tryd.prog l #[.int .i64 (x.1 : Int), .agg #[.string (rd_T26 xs (x.1 : Int)).f0, .bool (rd_T26 xs (x.1 : Int)).f1]] W fun e W' =>
      (e = .returned (.bool true) ∧ J (pre ++ [x]) W' ∧ bwd_Line.Kp w0.heap.size Bl W W') ∨ (e = .returned (.bool false) ∧ Jx (pre ++ [x]) W'))
    (W : World) (hJ : AbidesFrom W.heap.size J) (hBl : W.heap[Bl]? = some (.cells #[.slice A xs.length c] 22 (0, 0)))
    (hC0 : Kd.C k26 w0 A xs.length xs) (hc0 : xs.length ≤ c) (hB0 : Below w0.heap.size w0 W) (h0 : J [] W) :
    CallsIn Fence.wide n Tryd.prog 87 #[.func (.yield l) #[] #[], .pointer (some ⟨Bl, 0, none⟩)] W fun e W' => (∃ v, e = .returned v) ∧
      ((∃ ys, ys = bwd_Line.upto xs xs.length ∧ J ys W') ∨ (∃ pre, (∃ m, m < xs.length ∧ pre = bwd_Line.upto xs (m + 1)) ∧ Jx pre W')) := by
  have hm := hC0.2.1
  have hu26 := Tryd.underlying26
  have hcB : W.cell? ⟨Bl, 0, none⟩ = some (.slice A xs.length c) := (blk_cell hBl 0).trans rfl
  refine callsIn_of_wp Tryd.func87 rfl trivial ?_ rfl
  simp only [Tryd.ntmps87, List.size_toArray, List.length_cons, List.length_nil, Nat.reduceAdd, Nat.reduceSub, Array.replicate_succ, Array.replicate_zero, List.push_toArray, List.append_toArray, List.nil_append, List.cons_append]
  gi_wp2
  gi_loopw [3] (fun i wr => ∃ (d q : Nat) (z : Int), d + q = xs.length ∧ i = .int .i64 z ∧ z = (q : Int) - 1 ∧ J (bwd_Line.upto xs d) wr ∧ Below w0.heap.size w0 wr ∧ wr.heap[Bl]? = some (.cells #[.slice A xs.length c] 22 (0, 0)))
    (fun i _ => (intOf i + 1).toNat)
  case atStart => exact ⟨0, xs.length, _, Nat.zero_add _, rfl, rfl, h0, hB0, hBl⟩
  case round =>
    obtain ⟨d, q, z, hdq, rfl, hz, hJs, hB, hBl⟩ := hrel
    have hcB : wr.cell? ⟨Bl, 0, none⟩ = some (.slice A xs.length c) := (blk_cell hBl 0).trans rfl
    cases q with
    | zero =>
      obtain rfl : z = -1 := by omega
      clear hz
      gi_wp2
      go_end0
      obtain rfl : d = xs.length := by omega
      exact ⟨⟨_, rfl⟩, .inl ⟨_, rfl, hJs⟩⟩
    | succ q =>
      obtain rfl : z = (q : Int) := by omega
      clear hz
      obtain ⟨ad, e, hx0, hx1⟩ := at_T26 hC0 (q : Int) (by omega) (by omega)
      cases e
      replace hx0 := (hB.cell (World.block_lt_of_cell? w0 _ hx0)).trans hx0
      replace hx1 := (hB.cell (World.block_lt_of_cell? w0 _ hx1)).trans hx1
      simp only [Int.toNat_natCast] at hx0 hx1
      have hql : q < xs.length := by omega
      obtain ⟨fn, tmps, assign, body, hy, hR⟩ := hY (bwd_Line.upto xs d) ⟨q, hql⟩ wr hJs (by rw [bwd_Line.upto_len (by omega)]; omega)
      dsimp only at hy
      gi_wp2
      refine hR.mono ?_
      rintro e W3 (⟨rfl, hJ3, hk3⟩ | ⟨rfl, hJx3⟩)
      · gi_wp2
        go_roundw
        case rel =>
          exact ⟨d + 1, q, _, by omega, rfl, rfl, by rw [bwd_Line.upto_succ hdq]; exact hJ3, hB.trans hk3.1, hk3.2.trans hBl⟩
        case measure => simp [intOf]
      · gi_wp2
        refine bodyPost_ret (results_none rfl _ _ _) rfl ?_
        exact ⟨⟨_, rfl⟩, .inr ⟨_, ⟨d, by omega, (bwd_Line.upto_succ hdq).symm⟩, hJx3⟩⟩
/-- The iterator's contract, as 'for .. range slices.Backward(l)' wants it. -/
theorem bwd_Line.stops (n : Nat) (hn : 1 ≤ n) (Bl : Nat) (w0 w : World) (A : Option Addr) (c : Nat) (xs : List S26)
    (hBl : w.heap[Bl]? = some (.cells #[.slice A xs.length c] 22 (0, 0))) (hC0 : Kd.C k26 w0 A xs.length xs) (hc0 : xs.length ≤ c) (hB0 : Below w0.heap.size w0 w) :
    SeqStopsK Fence.wide n Tryd.prog 87 #[.pointer (some ⟨Bl, 0, none⟩)] (fun x : bwd_Line.I xs => #[Value.int .i64 (x.1 : Int), .agg #[.string (rd_T26 xs (x.1 : Int)).f0, .bool (rd_T26 xs (x.1 : Int)).f1]]) (bwd_Line.Kp w0.heap.size Bl)
      (fun ys => ys = bwd_Line.upto xs xs.length) (fun pre => ∃ m, m < xs.length ∧ pre = bwd_Line.upto xs (m + 1)) xs.length w := fun l J Jx W hW hJ _ hY h0 => by
  have hlt := (Array.getElem?_eq_some_iff.1 hBl).1
  exact bwd_Line.closure_in n hn l Bl w0 A c xs J Jx hY W hJ ((hW.block Bl hlt).trans hBl) hC0 hc0 (below_then hB0 hB0.size hW) h0
set_option maxHeartbeats 1000000 in
theorem bwd_Line.calls_in (n : Nat) (A : Option Addr) (c : Nat) (len : Nat) (w : World) :
    CallsIn Fence.wide n Tryd.prog 65 #[.slice A len c] w fun e w' =>
      e = .returned (.func (.func 87) #[] #[.pointer (some ⟨w.heap.size, 0, none⟩)]) ∧ w' = w.alloc (.cells #[.slice A len c] 22) := by
  refine callsIn_of_wp Tryd.func65 rfl trivial ?_ rfl
  simp only [Tryd.ntmps65, List.size_toArray, List.length_cons, List.length_nil, Nat.reduceAdd, Nat.reduceSub, Array.replicate_succ, Array.replicate_zero, List.push_toArray, List.append_toArray, List.nil_append, List.cons_append]
  gi_wp2
  go_ret
  exact ⟨rfl, rfl⟩


end Go.Proofs.YtcmnofbpcmnnhaaDoor.F
