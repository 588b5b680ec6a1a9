-- PRINTED by print.py (a twelfth state) out of the translation. Not trusted: Lean checks it.
import Derived.Test.YtcmnofbpcmnnhaaDoorRr
import Derived.RangeFuncNested
import Derived.RangeFuncBound
import Derived.RangeFuncCalls
import Derived.RangeFuncLeaves
import Derived.RangeFuncBox
import Derived.RangeFuncMany
import Derived.Shelf.Abstract
import Derived.OwnWalkIn
import Derived.TacticsInMore
import Derived.LoopNIn
import Derived.LoopIn
import Derived.Test.YtcmnofbpcmnnhaaDoorF0
import Derived.Test.YtcmnofbpcmnnhaaDoorF3
import Derived.Test.YtcmnofbpcmnnhaaDoorF10
import Derived.Test.YtcmnofbpcmnnhaaDoorF11
namespace Go.Proofs.YtcmnofbpcmnnhaaDoor.F
open Go.RowKit Go.Proofs.YtcmnofbpcmnnhaaDoorW.PrintWords Go.Proofs.YtcmnofbpcmnnhaaDoorW.PrintLast Go.Proofs.YtcmnofbpcmnnhaaDoorW.PrintMore
attribute [local go_sem] max2_int min2_int max_two min_two max_three min_three max_four min_four   -- for this text's walks alone
set_option linter.unusedVariables false
set_option linter.unusedSimpArgs false

/-! ### fold_insets: function 41 (by hand) -/
open Go.Shelf
attribute [local go_sem] Oper.semAt_some
/-- How far the first line with a text is set in. -/
def fold_insets.nx (k : Nat) : List S26 → Int
  | [] => 0
  | x :: xs => if (fold_bare.f x.f0).getD true = true then fold_insets.nx k xs else (fold_Inset.f k x.f0).getD 0
def fold_insets.okB (k : Nat) (x : S26) : Bool := (fold_bare.f x.f0).isSome && (fold_Inset.f k x.f0).isSome
def fold_insets.out (k : Nat) (l0 : List S26) : List Int := (List.range l0.length).map fun i => fold_insets.nx k (l0.drop i)
def fold_insets.f (k : Nat) (l0 : List S26) : Option (List Int) := if l0.length ≤ 17592186044416 ∧ l0.all (fold_insets.okB k) = true then some (fold_insets.out k l0) else none
theorem fold_insets.more {k : Nat} {x : S26} (h : fold_insets.okB k x = true) : fold_Inset.f (k + 1) x.f0 = fold_Inset.f k x.f0 := by
  unfold fold_insets.okB at h
  cases hi : fold_Inset.f k x.f0 with
  | none => rw [hi] at h; simp at h
  | some v => exact fold_Inset.mono _ k v hi
theorem fold_insets.nx_more {k : Nat} : ∀ {l : List S26}, l.all (fold_insets.okB k) = true → fold_insets.nx (k + 1) l = fold_insets.nx k l
  | [], _ => rfl
  | x :: xs, h => by
    rw [List.all_cons, Bool.and_eq_true] at h
    unfold fold_insets.nx
    rw [fold_insets.nx_more h.2, fold_insets.more h.1]
theorem fold_insets.mono : ∀ a0 k, LeO (fold_insets.f k a0) (fold_insets.f (k + 1) a0) := by
  intro l k r h
  unfold fold_insets.f at h ⊢
  split at h
  · rename_i hc
    obtain rfl := Option.some.inj h
    have h1 : l.all (fold_insets.okB (k + 1)) = true := List.all_eq_true.2 fun x hx => by
      have h2 := List.all_eq_true.1 hc.2 x hx
      have h3 := h2
      unfold fold_insets.okB at h2 ⊢
      rw [fold_insets.more h3]
      exact h2
    rw [if_pos ⟨hc.1, h1⟩]
    congr 1
    unfold fold_insets.out
    refine List.map_congr_left fun i _ => ?_
    exact fold_insets.nx_more (List.all_eq_true.2 fun x hx => List.all_eq_true.1 hc.2 x (List.mem_of_mem_drop hx))
  · cases h
/-! ### what the loop holds -/
/-- After d rounds (from the end): what is next, and the row. -/
def fold_insets.row (k : Nat) (l0 : List S26) (q : Nat) : List Int := List.replicate q 0 ++ (fold_insets.out k l0).drop q
theorem fold_insets.row_len (k : Nat) (l0 : List S26) (q : Nat) (h : q ≤ l0.length) : (fold_insets.row k l0 q).length = l0.length := by
  unfold fold_insets.row fold_insets.out
  simp
  omega
theorem fold_insets.row_set (k : Nat) (l0 : List S26) (q : Nat) (h : q < l0.length) : (fold_insets.row k l0 (q + 1)).set q (fold_insets.nx k (l0.drop q)) = fold_insets.row k l0 q := by
  have hl : (fold_insets.out k l0).length = l0.length := by simp [fold_insets.out]
  have hg : (fold_insets.out k l0)[q]'(by omega) = fold_insets.nx k (l0.drop q) := by simp [fold_insets.out]
  have hd := List.drop_eq_getElem_cons (l := fold_insets.out k l0) (i := q) (by omega)
  rw [hg] at hd
  unfold fold_insets.row
  rw [hd, List.replicate_succ', List.append_assoc, List.set_append_right _ _ (by simp), List.length_replicate, Nat.sub_self]
  rfl
theorem fold_insets.at {k : Nat} {l0 : List S26} (h : l0.all (fold_insets.okB k) = true) (q : Nat) (hq : q < l0.length) :
    (fold_bare.f (rd_T26 l0 (q : Int)).f0 = some true ∧ fold_insets.nx k (l0.drop q) = fold_insets.nx k (l0.drop (q + 1))) ∨
    (fold_bare.f (rd_T26 l0 (q : Int)).f0 = some false ∧ fold_Inset.f k (rd_T26 l0 (q : Int)).f0 = some (fold_insets.nx k (l0.drop q))) := by
  have hx : rd_T26 l0 (q : Int) = l0[q] := by
    simp [rd_T26, hq]
  have h1 := List.all_eq_true.1 h _ (List.getElem_mem hq)
  rw [hx, List.drop_eq_getElem_cons hq]
  generalize l0[q] = x at h1
  unfold fold_insets.okB at h1
  simp only [fold_insets.nx]
  cases hb : fold_bare.f x.f0 with
  | none => rw [hb] at h1; simp at h1
  | some b =>
    cases hi : fold_Inset.f k x.f0 with
    | none => rw [hi] at h1; simp at h1
    | some v => cases b <;> simp
theorem fold_insets.own_blk {β : Type} {B b : Nat} {cs : β → Array Value} {t : TypeId} : OwnFrom B (fun (s : β) W => W.heap[b]? = some (.cells (cs s) t (0, 0))) := fun s W W' row hs hg hr =>
  (hg.block b (Array.getElem?_eq_some_iff.1 hs).1 (fun e => by
    obtain ⟨_, o, ho, hc⟩ := hr b e.symm
    rw [hs] at ho
    cases ho
    cases hc)).trans hs
/-- One round: what is next, and the row. -/
def fold_insets.stp (k : Nat) (l0 : List S26) (s : Int × List Int) (j : bwd_Line.I l0) : Int × List Int :=
  (if (fold_bare.f (rd_T26 l0 (j.1 : Int)).f0).getD true = true then s.1 else (fold_Inset.f k (rd_T26 l0 (j.1 : Int)).f0).getD 0,
   s.2.set j.1 (if (fold_bare.f (rd_T26 l0 (j.1 : Int)).f0).getD true = true then s.1 else (fold_Inset.f k (rd_T26 l0 (j.1 : Int)).f0).getD 0))
def fold_insets.st (k : Nat) (l0 : List S26) (pre : List (bwd_Line.I l0)) : Int × List Int := pre.foldl (fold_insets.stp k l0) (0, List.replicate l0.length 0)
theorem fold_insets.st_snoc (k : Nat) (l0 : List S26) (pre : List (bwd_Line.I l0)) (x : bwd_Line.I l0) : fold_insets.st k l0 (pre ++ [x]) = fold_insets.stp k l0 (fold_insets.st k l0 pre) x := by
  simp [fold_insets.st, List.foldl_append]
theorem fold_insets.st_len (k : Nat) (l0 : List S26) (pre : List (bwd_Line.I l0)) : (fold_insets.st k l0 pre).2.length = l0.length := by
  unfold fold_insets.st
  suffices h : ∀ (pre : List (bwd_Line.I l0)) (s : Int × List Int), s.2.length = l0.length → (pre.foldl (fold_insets.stp k l0) s).2.length = l0.length from h pre _ (by simp)
  intro pre
  induction pre with
  | nil => exact fun s h => h
  | cons x xs ih => exact fun s h => ih _ (by simp [fold_insets.stp, h])
theorem fold_insets.st_upto {k : Nat} {l0 : List S26} (h : l0.all (fold_insets.okB k) = true) : ∀ (d q : Nat), d + q = l0.length → fold_insets.st k l0 (bwd_Line.upto l0 d) = (fold_insets.nx k (l0.drop q), fold_insets.row k l0 q)
  | 0, q, e => by
    obtain rfl : q = l0.length := by omega
    have hl : (fold_insets.out k l0).length = l0.length := by simp [fold_insets.out]
    rw [List.drop_length]
    unfold fold_insets.row
    rw [List.drop_of_length_le (by omega), List.append_nil]
    rfl
  | d + 1, q, e => by
    have ih := fold_insets.st_upto h d (q + 1) (by omega)
    have hq : q < l0.length := by omega
    have hs := fold_insets.row_set k l0 q hq
    rw [bwd_Line.upto_succ (q := q) (by omega), fold_insets.st_snoc, ih]
    unfold fold_insets.stp
    rcases fold_insets.at h q hq with ⟨h1, h2⟩ | ⟨h1, h2⟩
    · simp only [h1, Option.getD_some, if_true]
      rw [h2] at hs ⊢
      rw [hs]
    · simp only [h1, h2, Option.getD_some]
      rw [if_neg (by decide), hs]
def fold_insets.M (xs : List Int) : Array Value := (xs.map (Value.int .i64)).toArray
theorem fold_insets.M_set (xs : List Int) (j : Nat) (v : Int) : (fold_insets.M xs).setIfInBounds j (.int .i64 v) = fold_insets.M (xs.set j v) := by
  simp [fold_insets.M, List.map_set]
theorem fold_insets.made (W : World) {i0 : TypeInfo} (hi : Tryd.prog.info? 3 = some i0) (hz0 : i0.zero = some (.int .i64 0)) (hz1 : i0.size = 1) (hz2 : i0.bytes = 8) (m : Nat) (hm : m ≤ 17592186044416) :
    (Instr.makeSlice 27 (.int .i64 (m : Int)) (.int .i64 (m : Int))).run Tryd.prog W = .ok (.slice (some ⟨W.heap.size, 0, none⟩) m m) (W.alloc (.cells (fold_insets.M (List.replicate m 0)) 3)) := by
  have h := run_make (P := Tryd.prog) (w := W) 27 3 i0 (.int .i64 0) Tryd.underlying27 hi hz0 .i64 .i64 (m : Int) (m : Int) (by omega) (by omega) (by rw [hz2]; omega) (by omega)
  rw [h, hz1, Int.toNat_natCast, Nat.mul_one]
  have e : madeCells (Value.int .i64 0).cells m = fold_insets.M (List.replicate m 0) := by
    apply Array.ext'
    apply List.ext_getElem
    · simp [fold_insets.M, madeCells]
    · intro i h1 h2
      simp [fold_insets.M, madeCells, Value.cells, Nat.mod_one]
  rw [e]
theorem fold_insets.reps (w : World) (base : Nat) (ok : Nat → Prop) (ys : List Int) : Reps ((Kd.int .i64).M w base ok) 1 ys (ys.map (Value.int .i64)) := by
  have : ys.map (Value.int .i64) = ys.flatMap fun i => [Value.int .i64 i] := by
    induction ys with
    | nil => rfl
    | cons a b ih => rw [List.map_cons, List.flatMap_cons, ← ih]; rfl
  rw [this]
  exact Rr.reps (R := (Kd.int .i64).M w base ok) (c := fun i => [Value.int .i64 i]) (fun _ => rfl) (fun i => rfl) _
set_option maxRecDepth 100000 in
set_option maxHeartbeats 8000000 in
theorem fold_insets.calls (k : Nat) (A0 : Option Addr) (c0 : Nat) (l0 : List S26) (r : List Int) (w : World) (hr0 : Kd.C k26 w A0 l0.length l0) (hc0 : l0.length ≤ c0) (h : fold_insets.f k l0 = some r) :
    Calls Tryd.prog 41 #[.slice A0 l0.length c0] w fun e w' => ∃ v0_ : Value, e = .returned (v0_) ∧ Kd.R (Kd.int .i64) 3 w' w.heap.size (fun _ => True) v0_ r ∧ Below w.heap.size w w' := by
  unfold fold_insets.f at h
  split at h
  · rename_i hcond
    obtain ⟨hlen, hall⟩ := hcond
    obtain rfl := Option.some.inj h
    clear h
    obtain ⟨iI, ji, jz0, jz1, jz2⟩ := info_parts (show (Tryd.prog.info? 3).map (fun i => (i.zero, i.size, i.bytes)) = some (some (.int .i64 0), 1, 8) by kernel_rfl)
    have hmk : ∀ W : World, (Instr.makeSlice 27 (.int .i64 (l0.length : Int)) (.int .i64 (l0.length : Int))).run Tryd.prog W = .ok (.slice (some ⟨W.heap.size, 0, none⟩) l0.length l0.length) (W.alloc (.cells (fold_insets.M (List.replicate l0.length 0)) 3)) := fun W => fold_insets.made W ji jz0 jz1 jz2 l0.length hlen
    have hu26 := Tryd.underlying26
    refine (callsIn_wide (n := 3)).1 ?_
    refine callsIn_of_wp_marks Tryd.func41 rfl trivial ?_ rfl
    simp only [Tryd.ntmps41, List.size_toArray, List.length_cons, List.length_nil, Nat.reduceAdd, Nat.reduceSub, Array.replicate_succ, Array.replicate_zero, List.push_toArray, List.append_toArray, List.nil_append, List.cons_append]
    gi_wp2_with (refine ⟨trivial, ?_⟩; gi_at_call 65; refine (bwd_Line.calls_in 2 A0 c0 l0.length _).mono ?_; rintro e w' ⟨rfl, rfl⟩)
    have hgz : w.heap.size + 0 = w.heap.size := rfl
    have h0M : ((((w.alloc (.cells (fold_insets.M (List.replicate l0.length 0)) 3)).alloc (.cells #[.slice (some ⟨w.heap.size, 0, none⟩) l0.length l0.length] 27)).alloc (.cells #[.int .i64 0] 3)).alloc (.cells #[.slice A0 l0.length c0] 22)).heap[w.heap.size]? = some (.cells (fold_insets.M (List.replicate l0.length 0)) 3 (0, 0)) :=
      (Below.heap_alloc _ _ _ (by simp <;> omega)).trans ((Below.heap_alloc _ _ _ (by simp <;> omega)).trans ((Below.heap_alloc _ _ _ (by simp <;> omega)).trans (World.alloc_heap_new w _)))
    have h0O : ((((w.alloc (.cells (fold_insets.M (List.replicate l0.length 0)) 3)).alloc (.cells #[.slice (some ⟨w.heap.size, 0, none⟩) l0.length l0.length] 27)).alloc (.cells #[.int .i64 0] 3)).alloc (.cells #[.slice A0 l0.length c0] 22)).heap[w.heap.size + 1]? = some (.cells #[.slice (some ⟨w.heap.size, 0, none⟩) l0.length l0.length] 27 (0, 0)) := by
      have h := World.alloc_heap_new (w.alloc (.cells (fold_insets.M (List.replicate l0.length 0)) 3)) (.cells #[.slice (some ⟨w.heap.size, 0, none⟩) l0.length l0.length] 27)
      rw [World.size_alloc] at h
      exact (Below.heap_alloc _ _ _ (by simp <;> omega)).trans ((Below.heap_alloc _ _ _ (by simp <;> omega)).trans h)
    have h0N : ((((w.alloc (.cells (fold_insets.M (List.replicate l0.length 0)) 3)).alloc (.cells #[.slice (some ⟨w.heap.size, 0, none⟩) l0.length l0.length] 27)).alloc (.cells #[.int .i64 0] 3)).alloc (.cells #[.slice A0 l0.length c0] 22)).heap[w.heap.size + 2]? = some (.cells #[.int .i64 0] 3 (0, 0)) := by
      have h := World.alloc_heap_new ((w.alloc (.cells (fold_insets.M (List.replicate l0.length 0)) 3)).alloc (.cells #[.slice (some ⟨w.heap.size, 0, none⟩) l0.length l0.length] 27)) (.cells #[.int .i64 0] 3)
      simp only [World.size_alloc, Nat.add_assoc, Nat.reduceAdd] at h
      exact (Below.heap_alloc _ _ _ (by simp <;> omega)).trans h
    have h0L : ((((w.alloc (.cells (fold_insets.M (List.replicate l0.length 0)) 3)).alloc (.cells #[.slice (some ⟨w.heap.size, 0, none⟩) l0.length l0.length] 27)).alloc (.cells #[.int .i64 0] 3)).alloc (.cells #[.slice A0 l0.length c0] 22)).heap[w.heap.size + 3]? = some (.cells #[.slice A0 l0.length c0] 22 (0, 0)) := by
      have h := World.alloc_heap_new (((w.alloc (.cells (fold_insets.M (List.replicate l0.length 0)) 3)).alloc (.cells #[.slice (some ⟨w.heap.size, 0, none⟩) l0.length l0.length] 27)).alloc (.cells #[.int .i64 0] 3)) (.cells #[.slice A0 l0.length c0] 22)
      simpa only [World.size_alloc, Nat.add_assoc, Nat.reduceAdd] using h
    have hB0 : Below w.heap.size w ((((w.alloc (.cells (fold_insets.M (List.replicate l0.length 0)) 3)).alloc (.cells #[.slice (some ⟨w.heap.size, 0, none⟩) l0.length l0.length] 27)).alloc (.cells #[.int .i64 0] 3)).alloc (.cells #[.slice A0 l0.length c0] 22)) := below_alloc (below_alloc (below_alloc (below_alloc (Below.refl _ _) _) _) _) _
    refine wpIn_rangeFunc_ownH rfl (by omega) (gf := 87) (lb := #[.pointer (some ⟨w.heap.size + 3, 0, none⟩)]) rfl trivial (enters_of Tryd.func87 (by kernel_rfl) rfl)
      (bwd_Line.stops 2 (by omega) (w.heap.size + 3) w _ A0 c0 l0 h0L hr0 hc0 hB0) bwd_Line.Kp_t (bwd_Line.Kp_b (by simp; omega) (by simp)) (Below.refl _ _) (fun _ => rfl)
      (fun pre W => W.heap[w.heap.size]? = some (.cells (fold_insets.M (fold_insets.st k l0 pre).2) 3 (0, 0)) ∧ W.heap[w.heap.size + 1]? = some (.cells #[.slice (some ⟨w.heap.size, 0, none⟩) l0.length l0.length] 27 (0, 0)) ∧ W.heap[w.heap.size + 2]? = some (.cells #[.int .i64 (fold_insets.st k l0 pre).1] 3 (0, 0)) ∧ W.heap[w.heap.size + 3]? = some (.cells #[.slice A0 l0.length c0] 22 (0, 0)) ∧ Below w.heap.size w W)
      (fun _ _ _ => False)
      ?hI (fun _ _ _ _ _ hs _ _ => hs) ⟨h0M, h0O, h0N, h0L, hB0⟩
      (fun x a' W => ∃ Bx, w.heap.size + 3 < Bx ∧ W.heap[Bx]? = some (.cells #[.string (rd_T26 l0 (x.1 : Int)).f0, .bool (rd_T26 l0 (x.1 : Int)).f1] 26 (0, 0)) ∧ a' = { tmps := #[.slice A0 l0.length c0, undef, .slice none 0 0, .pointer (some ⟨w.heap.size + 1, 0, none⟩), .pointer (some ⟨w.heap.size + 2, 0, none⟩), .int .i64 (x.1 : Int), .pointer (some ⟨Bx, 0, none⟩), .slice A0 l0.length c0, .int .i64 (l0.length : Int), .slice (some ⟨w.heap.size, 0, none⟩) l0.length l0.length, .slice A0 l0.length c0, .func (.func 87) #[] #[.pointer (some ⟨w.heap.size + 3, 0, none⟩)], .int .i64 (x.1 : Int), .agg #[.string (rd_T26 l0 (x.1 : Int)).f0, .bool (rd_T26 l0 (x.1 : Int)).f1], undef, undef, undef, undef, undef, undef, undef, undef, undef, undef, undef, undef], defers := [] })
      ?hAx ?assign ?body ?done ?stop
    case hI =>
      rintro s X Y row ⟨h1, h2, h3, h4, h5⟩ hg hr
      exact ⟨fold_insets.own_blk (cs := fun s => fold_insets.M (fold_insets.st k l0 s).2) s X Y row h1 hg hr, fold_insets.own_blk (cs := fun _ => _) s X Y row h2 hg hr, fold_insets.own_blk (cs := fun s => #[.int .i64 (fold_insets.st k l0 s).1]) s X Y row h3 hg hr, fold_insets.own_blk (cs := fun _ => _) s X Y row h4 hg hr, ownFrom_below (Nat.le_refl _) (by simp; omega) s X Y row h5 hg hr⟩
    case hAx =>
      intro x a' s X Y row hs hg hr
      obtain ⟨Bx, h1, h2, h3⟩ := hs
      exact ⟨Bx, h1, fold_insets.own_blk (cs := fun _ => _) () X Y row h2 hg hr, h3⟩
    case assign =>
      rintro l pre x W K ⟨h1, h2, h3, h4, hB⟩ hK
      gi_wp2
      have hlt := (Array.getElem?_eq_some_iff.1 h4).1
      refine hK _ _ ((KeepsOthers.alloc _ _).from _) ⟨(Below.refl _ W).alloc hB.size _, Below.heap_alloc W _ _ hlt⟩ ⟨(Below.heap_alloc W _ _ (by omega)).trans h1, (Below.heap_alloc W _ _ (by omega)).trans h2, (Below.heap_alloc W _ _ (by omega)).trans h3, (Below.heap_alloc W _ _ (by omega)).trans h4, hB.alloc hB.size _⟩ ⟨W.heap.size, hlt, World.alloc_heap_new W _, rfl⟩
    case body =>
      rintro l pre x a' W hl ⟨r, hr⟩ ⟨h1, h2, h3, h4, hB⟩ ⟨Bx, hBx, hX, rfl⟩ hlt
      have hn0 : W.cell? ⟨Bx, 0, none⟩ = some (.string (rd_T26 l0 (x.1 : Int)).f0) := (blk_cell hX 0).trans rfl
      have hn1 : W.cell? ⟨Bx, 1, none⟩ = some (.bool (rd_T26 l0 (x.1 : Int)).f1) := (blk_cell hX 1).trans rfl
      have h2c : W.cell? ⟨w.heap.size + 1, 0, none⟩ = some (.slice (some ⟨w.heap.size, 0, none⟩) l0.length l0.length) := (blk_cell h2 0).trans rfl
      have h3c : W.cell? ⟨w.heap.size + 2, 0, none⟩ = some (.int .i64 (fold_insets.st k l0 pre).1) := (blk_cell h3 0).trans rfl
      have ltM := (Array.getElem?_eq_some_iff.1 h1).1
      have ltO := (Array.getElem?_eq_some_iff.1 h2).1
      have ltN := (Array.getElem?_eq_some_iff.1 h3).1
      have ltL := (Array.getElem?_eq_some_iff.1 h4).1
      have ltX := (Array.getElem?_eq_some_iff.1 hX).1
      have hxl := x.2
      have hsl := fold_insets.st_len k l0 pre
      have h1n : 1 ≤ 3 - 1 - 1 := by omega
      obtain ⟨old, hold⟩ : ∃ v, (fold_insets.M (fold_insets.st k l0 pre).2)[x.1]? = some v := ⟨_, Array.getElem?_eq_getElem (by simp [fold_insets.M, hsl]; exact x.2)⟩
      rcases fold_insets.at hall x.1 x.2 with ⟨hb, hnx⟩ | ⟨hb, hi⟩
      · clear hnx
        gi_wp2_with (refine ⟨trivial, ?_⟩; gi_at_call 42; refine (CallsIn.inRound l (callsIn_wide.2 (fold_bare.calls _ true _ hb))).mono ?_; rintro e w' ⟨rfl, hbw⟩; have g1 := (hbw.block _ ltM).trans h1; have g2 := (hbw.block _ ltO).trans h2; have g3 := (hbw.block _ ltN).trans h3; have g4 := (hbw.block _ ltL).trans h4; have c2 : w'.cell? ⟨w.heap.size + 1, 0, none⟩ = some (.slice (some ⟨w.heap.size, 0, none⟩) l0.length l0.length) := (blk_cell g2 0).trans rfl; have c3 : w'.cell? ⟨w.heap.size + 2, 0, none⟩ = some (.int .i64 (fold_insets.st k l0 pre).1) := (blk_cell g3 0).trans rfl; have cM : w'.cell? ⟨w.heap.size, x.1, none⟩ = some old := (blk_cell g1 x.1).trans hold; have fM := blk_frozen g1 x.1; have f3 := blk_frozen g3 0)
        have hst : fold_insets.st k l0 (pre ++ [x]) = ((fold_insets.st k l0 pre).1, (fold_insets.st k l0 pre).2.set x.1 (fold_insets.st k l0 pre).1) := by
          rw [fold_insets.st_snoc]
          unfold fold_insets.stp
          simp [hb]
        exact ⟨((KeepsOthers.of_grownBy (grown_of_below hbw none) (fun _ _ e => by simp at e)).trans (KeepsOthers.setCell _ _ _)).from _, ⟨(hbw.mono hB.size).setCell (Nat.le_refl _) _, (Below.heap_setCell _ _ _ _ (by simp)).trans (hbw.block _ ltL)⟩, ⟨blk_put g1 x.1 _ (by rw [hst, fold_insets.M_set]), blk_far g2 (by simp) _, by rw [hst]; exact blk_far g3 (by simp) _, blk_far g4 (by simp) _, (hB.trans (hbw.mono hB.size)).setCell (Nat.le_refl _) _⟩⟩
      · gi_wp2_with (first | (refine ⟨trivial, ?_⟩; gi_at_call 42; refine (CallsIn.inRound l (callsIn_wide.2 (fold_bare.calls _ false _ hb))).mono ?_; rintro e w' ⟨rfl, hbw⟩; have g1 := (hbw.block _ ltM).trans h1; have g2 := (hbw.block _ ltO).trans h2; have g3 := (hbw.block _ ltN).trans h3; have g4 := (hbw.block _ ltL).trans h4; have c2 : w'.cell? ⟨w.heap.size + 1, 0, none⟩ = some (.slice (some ⟨w.heap.size, 0, none⟩) l0.length l0.length) := (blk_cell g2 0).trans rfl; have c3 : w'.cell? ⟨w.heap.size + 2, 0, none⟩ = some (.int .i64 (fold_insets.st k l0 pre).1) := (blk_cell g3 0).trans rfl; have cM : w'.cell? ⟨w.heap.size, x.1, none⟩ = some old := (blk_cell g1 x.1).trans hold; have fM := blk_frozen g1 x.1; have f3 := blk_frozen g3 0; have gX := (hbw.block _ ltX).trans hX; have hm0 : w'.cell? ⟨Bx, 0, none⟩ = some (.string (rd_T26 l0 (x.1 : Int)).f0) := (blk_cell gX 0).trans rfl) | (refine ⟨trivial, ?_⟩; gi_at_call 13; refine (CallsIn.inRound l (callsIn_wide.2 (fold_Inset.calls k _ _ _ hi))).mono ?_; rintro e w2 ⟨rfl, ⟨nd, rfl⟩⟩))
        have hst : fold_insets.st k l0 (pre ++ [x]) = (fold_insets.nx k (l0.drop x.1), (fold_insets.st k l0 pre).2.set x.1 (fold_insets.nx k (l0.drop x.1))) := by
          rw [fold_insets.st_snoc]
          unfold fold_insets.stp
          simp [hb, hi]
        have g1' := blk_far (p := ⟨w.heap.size + 2, 0, none⟩) (blk_drewN g1 nd) (by simp) (.int .i64 (fold_insets.nx k (l0.drop x.1)))
        have g2' := blk_far (p := ⟨w.heap.size + 2, 0, none⟩) (blk_drewN g2 nd) (by simp) (.int .i64 (fold_insets.nx k (l0.drop x.1)))
        have g3' := blk_put (blk_drewN g3 nd) 0 (.int .i64 (fold_insets.nx k (l0.drop x.1))) rfl
        have g4' := blk_far (p := ⟨w.heap.size + 2, 0, none⟩) (blk_drewN g4 nd) (by simp) (.int .i64 (fold_insets.nx k (l0.drop x.1)))
        exact ⟨((((KeepsOthers.of_grownBy (grown_of_below hbw none) (fun _ _ e => by simp at e)).trans (show KeepsOthers w' (w'.drewN nd) from ⟨Nat.le_refl _, fun _ _ h _ => h⟩)).trans (KeepsOthers.setCell _ _ _)).trans (KeepsOthers.setCell _ _ _)).from _,
          ⟨((pw_below_drewN (hbw.mono hB.size) nd).setCell (by simp) _).setCell (Nat.le_refl _) _, (blk_far g4' (by simp) _).trans h4.symm⟩,
          ⟨blk_put g1' x.1 _ (by rw [hst, fold_insets.M_set]), blk_far g2' (by simp) _, by rw [hst]; exact blk_far g3' (by simp) _, blk_far g4' (by simp) _, (((pw_below_drewN (hB.trans (hbw.mono hB.size)) nd).setCell (by simp) _).setCell (Nat.le_refl _) _)⟩⟩
    case done =>
      rintro D ys W hD rfl ⟨h1, h2, h3, h4, hB⟩ hK
      have h2c : W.cell? ⟨w.heap.size + 1, 0, none⟩ = some (.slice (some ⟨w.heap.size, 0, none⟩) l0.length l0.length) := (blk_cell h2 0).trans rfl
      gi_wp2
      refine ⟨by simp, .inl ⟨_, _, rfl, run_takeDeferred hK, ?_⟩⟩
      have hst := fold_insets.st_upto hall l0.length 0 (by omega)
      rw [hst] at h1
      have hrow : fold_insets.row k l0 0 = fold_insets.out k l0 := by simp [fold_insets.row]
      simp only [hrow] at h1
      have hol : (fold_insets.out k l0).length = l0.length := by simp [fold_insets.out]
      have hrowW : W.ownsRow w.heap.size 3 1 (.slice (some ⟨w.heap.size, 0, none⟩) l0.length l0.length) (fold_insets.out k l0).length ((fold_insets.out k l0).map (Value.int .i64)) :=
        ⟨by simp, .inr ⟨w.heap.size, l0.length, _, by rw [hol], Nat.le_refl _, h1, by omega, by unfold maxLen; omega, by simp [fold_insets.M, hol], by simp [fold_insets.M]; exact List.take_of_length_le (by simp)⟩⟩
      exact ⟨_, results_tmp rfl _ _ _, _, rfl, ⟨fun _ _ => trivial, _, ownsRow_putObj hrowW _ hK rfl, fold_insets.reps _ _ _ _⟩, hB.trans (belowK_b (w := w) (Nat.le_refl _) W D _ _ (by simp at hD; omega) hK rfl rfl)⟩
    case stop =>
      rintro D c pre W _ _ h _
      exact h.elim
  · cases h


end Go.Proofs.YtcmnofbpcmnnhaaDoor.F
