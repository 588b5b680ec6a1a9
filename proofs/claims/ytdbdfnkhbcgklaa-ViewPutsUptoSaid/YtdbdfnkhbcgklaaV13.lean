-- PRINTED by print.py (a twelfth state) out of the translation. Not trusted: Lean checks it.
import Derived.RangeFuncNested
import Derived.RangeFuncBound
import Derived.RangeFuncCalls
import Derived.RangeFuncLeaves
import Derived.RangeFuncBox
import Derived.RangeFuncMany
import Derived.Shelf.Abstract
import Derived.OwnWalkIn
import Derived.TacticsInMore
import Derived.LoopNIn
import Derived.LoopIn
import Derived.Test.YtdbdfnkhbcgklaaV0
import Derived.Test.YtdbdfnkhbcgklaaV5
namespace Go.Proofs.Ytdbdfnkhbcgklaa.V
open Go.RowKit Go.Proofs.YtdbdfnkhbcgklaaW.PrintWords Go.Proofs.YtdbdfnkhbcgklaaW.PrintLast Go.Proofs.YtdbdfnkhbcgklaaW.PrintMore
attribute [local go_sem] max2_int min2_int max_two min_two max_three min_three max_four min_four   -- for this text's walks alone
set_option linter.unusedVariables false
set_option linter.unusedSimpArgs false

/-! ### view_Cut: function 35 (by hand) -/
open Go.Shelf
attribute [local go_sem] Oper.semAt_some
def view_Cut.f (l0 : List S63) (a1_0 a1_1 : Int) : Option (List S63) := if l0.length ≤ 2513169434916 then some ((view_seen.revs l0 ⟨a1_0, a1_1⟩ l0.length).map fun (j : Nat) => rd_T63 l0 (j : Int)) else none
theorem view_Cut.info : (Try.prog.info? 63).map (fun i => (i.zero, i.size, i.bytes)) = some (some (.agg #[.int .i64 0, .int .i64 0, .int .u64 0, .bool false, .string (⟨#[]⟩ : ByteArray), .bool false]), 6, 56) := by kernel_rfl
def view_Cut.cells (x : S63) : List Value := [.int .i64 x.f0, .int .i64 x.f1.f0, .int .u64 x.f1.f1, .bool x.f2, .string x.f3.f0, .bool x.f3.f1]
/-- The iterator's contract, as 'for .. range seen(l, o)' wants it. -/
theorem view_Cut.stops (n : Nat) (hn : 1 ≤ n) (Bl Bo : Nat) (w0 w : World) (A : Option Addr) (c : Nat) (xs : List S63) (o : S25) (hBl : w.cell? ⟨Bl, 0, none⟩ = some (.slice A xs.length c)) (hbl : Bl < w.heap.size)
    (hBo : w.heap[Bo]? = some (.cells #[.int .i64 o.f0, .int .u64 o.f1] 25 (0, 0))) (hC0 : Kd.C k63 w0 A xs.length xs) (hc0 : xs.length ≤ c) (hB0 : Below w0.heap.size w0 w) :
    SeqStopsK Fence.wide n Try.prog 48 #[.pointer (some ⟨Bl, 0, none⟩), .pointer (some ⟨Bo, 0, none⟩)] (fun x : Nat × S63 => #[Value.int .i64 (x.1 : Int), .agg #[.int .i64 x.2.f0, .int .i64 x.2.f1.f0, .int .u64 x.2.f1.f1, .bool x.2.f2, .string x.2.f3.f0, .bool x.2.f3.f1]]) (view_seen.Kp w0.heap.size Bo)
      (fun ys => ys = view_seen.prs xs o xs.length) (fun pre => ∃ m, m < xs.length ∧ pre = view_seen.prs xs o (m + 1)) xs.length w := fun l J Jx W hW hJ _ hY h0 => by
  have hlt := (Array.getElem?_eq_some_iff.1 hBo).1
  exact view_seen.closure_in n hn l Bl Bo w0 A c xs o J Jx hY W hJ ((hW.cell (p := ⟨Bl, 0, none⟩) hbl).trans hBl) ((hW.block Bo hlt).trans hBo) hC0 hc0 (below_then hB0 hB0.size hW) h0
theorem view_Cut.own_blk {β : Type} {B b : Nat} {cs : Array Value} {t : TypeId} : OwnFrom B (fun (_ : β) W => W.heap[b]? = some (.cells cs t (0, 0))) := fun s W W' row hs hg hr =>
  (hg.block b (Array.getElem?_eq_some_iff.1 hs).1 (fun e => by
    obtain ⟨_, o, ho, hc⟩ := hr b e.symm
    rw [hs] at ho
    cases ho
    cases hc)).trans hs
theorem view_Cut.blk_after {W w1 : World} {Bo out base size n : Nat} {cs : Array Value} {t e : TypeId} {v v' : Value} {xs : List Value} {tmp : Obj} (hbo : W.heap[Bo]? = some (.cells cs t (0, 0))) (hrow : W.ownsRow base e size v n xs) (hte : t ≠ e)
    (hgrow : (W.alloc tmp).grownBy w1 v.ownBlock) (hne : Bo ≠ out) : (w1.setCell ⟨out, 0, none⟩ v').heap[Bo]? = W.heap[Bo]? := by
  have hlt := (Array.getElem?_eq_some_iff.1 hbo).1
  rw [Below.heap_setCell _ _ _ _ hne, hgrow.block Bo (by simp; omega) (fun e' => by
    obtain ⟨cells, hc⟩ := own_typed hrow Bo e'.symm
    rw [hbo] at hc
    injection hc with hc
    injection hc with _ h2
    exact hte h2)]
  exact Below.heap_alloc W _ Bo hlt
theorem view_Cut.reps {R : S63 → List Value → Prop} (hR : ∀ x, R x (view_Cut.cells x)) : ∀ xs : List S63, Reps R 6 xs (xs.flatMap view_Cut.cells)
  | [] => Reps.none _ _
  | x :: xs => by
    have ih := view_Cut.reps hR xs
    refine ⟨by rw [List.flatMap_cons, List.length_append, ih.1]; simp [view_Cut.cells]; omega, fun j p hj => ?_⟩
    cases j with
    | zero =>
      have : x = p := by simpa using hj
      subst this
      have hx : (List.drop (0 * 6) (List.flatMap view_Cut.cells (x :: xs))).take 6 = view_Cut.cells x := by simp [List.flatMap_cons, view_Cut.cells]
      rw [hx]
      exact hR x
    | succ j =>
      have hx : List.drop ((j + 1) * 6) (List.flatMap view_Cut.cells (x :: xs)) = List.drop (j * 6) (xs.flatMap view_Cut.cells) := by
        rw [List.flatMap_cons, show (j + 1) * 6 = (view_Cut.cells x).length + j * 6 by simp [view_Cut.cells]; omega, List.drop_append]
        simp
      rw [hx]
      exact ih.2 j p (by simpa using hj)
set_option maxRecDepth 100000 in
set_option maxHeartbeats 8000000 in
theorem view_Cut.calls (A0 : Option Addr) (c0 : Nat) (l0 : List S63) (a1_0 a1_1 : Int) (r : List S63) (w : World) (hr0 : Kd.C k63 w A0 l0.length l0) (hc0 : l0.length ≤ c0) (h : view_Cut.f l0 a1_0 a1_1 = some r) :
    Calls Try.prog 35 #[.slice A0 l0.length c0, .agg #[.int .i64 a1_0, .int .u64 a1_1]] w fun e w' => ∃ v0_ : Value, e = .returned (v0_) ∧ Kd.R k63 63 w' w.heap.size (fun _ => True) v0_ r ∧ Below w.heap.size w w' := by
  unfold view_Cut.f at h
  split at h
  · rename_i hlen
    obtain rfl := Option.some.inj h
    clear h
    obtain ⟨i0, hi, hz0, hz1, hz2⟩ := info_parts view_Cut.info
    have hu63 := Try.underlying63
    refine (callsIn_wide (n := 3)).1 ?_
    refine callsIn_of_wp_marks Try.func35 rfl trivial ?_ rfl
    simp only [Try.ntmps35, List.size_toArray, List.length_cons, List.length_nil, Nat.reduceAdd, Nat.reduceSub, Array.replicate_succ, Array.replicate_zero, List.push_toArray, List.append_toArray, List.nil_append, List.cons_append]
    gi_wp2_with (refine ⟨trivial, ?_⟩; gi_at_call 44; refine (view_seen.calls_in 2 A0 c0 l0.length ⟨a1_0, a1_1⟩ _).mono ?_; rintro e w' ⟨rfl, rfl⟩)
    have bO := Boxed.new (w.alloc (.cells #[.int .i64 a1_0, .int .u64 a1_1] 25)) 39 (.slice none 0 0)
    rw [World.size_alloc] at bO
    have hbl := (Boxed.new ((w.alloc (.cells #[.int .i64 a1_0, .int .u64 a1_1] 25)).alloc (.cells #[.slice none 0 0] 39)) 39 (.slice A0 l0.length c0)).alloc (.cells #[.int .i64 a1_0, .int .u64 a1_1] 25)
    have hbo := World.alloc_heap_new (((w.alloc (.cells #[.int .i64 a1_0, .int .u64 a1_1] 25)).alloc (.cells #[.slice none 0 0] 39)).alloc (.cells #[.slice A0 l0.length c0] 39)) (.cells #[.int .i64 a1_0, .int .u64 a1_1] 25)
    simp only [World.size_alloc] at hbl hbo
    have hB0 : Below w.heap.size w ((((w.alloc (.cells #[.int .i64 a1_0, .int .u64 a1_1] 25)).alloc (.cells #[.slice none 0 0] 39)).alloc (.cells #[.slice A0 l0.length c0] 39)).alloc (.cells #[.int .i64 a1_0, .int .u64 a1_1] 25)) := below_alloc (below_alloc (below_alloc (below_alloc (Below.refl _ _) _) _) _) _
    have bO2 := (bO.alloc (.cells #[.slice A0 l0.length c0] 39)).alloc (.cells #[.int .i64 a1_0, .int .u64 a1_1] 25)
    refine wpIn_rangeFunc_ownH rfl (by omega) (gf := 48) (lb := #[.pointer (some ⟨w.heap.size + 2, 0, none⟩), .pointer (some ⟨w.heap.size + 3, 0, none⟩)]) rfl trivial (enters_of Try.func48 (by kernel_rfl) rfl)
      (view_Cut.stops 2 (by omega) (w.heap.size + 2) (w.heap.size + 3) w _ A0 c0 l0 ⟨a1_0, a1_1⟩ hbl.cell (by simp) hbo hr0 hc0 hB0) view_seen.Kp_t (view_seen.Kp_b (by simp; omega) (by simp)) (Below.refl _ _) (fun _ => rfl)
      (fun pre W => (∃ v, Boxed W (w.heap.size + 1) 39 v ∧ W.ownsRow w.heap.size 63 6 v pre.length (pre.flatMap fun x => view_Cut.cells x.2) ∧ True) ∧ Below w.heap.size w W ∧ W.heap[w.heap.size + 3]? = some (.cells #[.int .i64 a1_0, .int .u64 a1_1] 25 (0, 0)))
      (fun _ _ _ => False)
      ?hI (fun _ _ _ _ _ hs _ _ => hs) ⟨⟨_, bO2, World.ownsRow_nil _ _ _ _, trivial⟩, hB0, hbo⟩
      (fun x a' W => ∃ Bx, w.heap.size + 3 < Bx ∧ W.heap[Bx]? = some (.cells #[.int .i64 x.2.f0, .int .i64 x.2.f1.f0, .int .u64 x.2.f1.f1, .bool x.2.f2, .string x.2.f3.f0, .bool x.2.f3.f1] 63 (0, 0)) ∧ a' = { tmps := #[.slice A0 l0.length c0, .agg #[.int .i64 a1_0, .int .u64 a1_1], undef, .pointer (some ⟨w.heap.size, 0, none⟩), .slice none 0 0, .pointer (some ⟨w.heap.size + 1, 0, none⟩), undef, .pointer (some ⟨Bx, 0, none⟩), .slice A0 l0.length c0, .agg #[.int .i64 a1_0, .int .u64 a1_1], .func (.func 48) #[] #[.pointer (some ⟨w.heap.size + 2, 0, none⟩), .pointer (some ⟨w.heap.size + 3, 0, none⟩)], .int .i64 (x.1 : Int), .agg #[.int .i64 x.2.f0, .int .i64 x.2.f1.f0, .int .u64 x.2.f1.f1, .bool x.2.f2, .string x.2.f3.f0, .bool x.2.f3.f1], undef, undef, undef, undef, undef], defers := [] })
      ?hAx ?assign ?body ?done ?stop
    case hI => exact OwnFrom.and (Own.from (holdsRow_own w.heap.size (w.heap.size + 1) 39 63 6 (fun (pre : List (Nat × S63)) => pre.length) (fun pre => pre.flatMap fun x => view_Cut.cells x.2) (fun _ _ => True)) _) (OwnFrom.and (ownFrom_below (Nat.le_refl _) (by simp; omega)) view_Cut.own_blk)
    case hAx =>
      intro x a' s X Y row hs hg hr
      obtain ⟨Bx, h1, h2, h3⟩ := hs
      exact ⟨Bx, h1, view_Cut.own_blk () X Y row h2 hg hr, h3⟩
    case assign =>
      rintro l pre x W K ⟨⟨v, hv, hrow, _⟩, hB, hbo⟩ hK
      gi_wp2
      have hlt := (Array.getElem?_eq_some_iff.1 hbo).1
      refine hK _ _ ((KeepsOthers.alloc _ _).from _) ⟨(Below.refl _ W).alloc hB.size _, Below.heap_alloc W _ _ hlt⟩ ⟨⟨v, hv.alloc _, hrow.alloc _, trivial⟩, hB.alloc hB.size _, (Below.heap_alloc W _ _ hlt).trans hbo⟩ ⟨W.heap.size, hlt, World.alloc_heap_new W _, rfl⟩
    case body =>
      rintro l pre x a' W hl ⟨r, hr⟩ ⟨⟨v, hv, hrow, _⟩, hB, hbo⟩ ⟨Bx, hBx, hX, rfl⟩ hlt
      have hc := hv.cell
      have hn0 : W.cell? ⟨Bx, 0, none⟩ = some (.int .i64 x.2.f0) := (blk_cell hX 0).trans rfl
      have hn1 : W.cell? ⟨Bx, 1, none⟩ = some (.int .i64 x.2.f1.f0) := (blk_cell hX 1).trans rfl
      have hn2 : W.cell? ⟨Bx, 2, none⟩ = some (.int .u64 x.2.f1.f1) := (blk_cell hX 2).trans rfl
      have hn3 : W.cell? ⟨Bx, 3, none⟩ = some (.bool x.2.f2) := (blk_cell hX 3).trans rfl
      have hn4 : W.cell? ⟨Bx, 4, none⟩ = some (.string x.2.f3.f0) := (blk_cell hX 4).trans rfl
      have hn5 : W.cell? ⟨Bx, 5, none⟩ = some (.bool x.2.f3.f1) := (blk_cell hX 5).trans rfl
      gi_wp2_with (gi_at_builtin; refine wpListIn_append_own _ rfl _ _ 39 rfl w.heap.size 63 i0 _ 6 56 Try.underlying39 hi hz0 hz1 hz2 rfl (by decide) _ _ _ rfl (hrow.alloc _) ⟨W.heap.size, 0, none⟩ 1 1 (view_Cut.cells x.2) rfl rfl (World.news_of_block (cs := #[.int .i64 x.2.f0, .int .i64 x.2.f1.f0, .int .u64 x.2.f1.f1, .bool x.2.f2, .string x.2.f3.f0, .bool x.2.f3.f1]) (t := 63) (fr := (0, 0)) (heap_alloc_new W _)) (by simp [view_Cut.cells, Value.oneCell']) (by simp only [maxLen]; omega) (by omega) (by have := hB.size; simp; omega) ?_; intro v' w1 hown' hgrow _; obtain ⟨g', cap', rfl⟩ := ownsRow_succ hown'; obtain ⟨hv1, hv2, hr2, hk2, hb2⟩ := hv.appended (by decide) hrow hB.size (by omega) hown' hgrow; have hq := view_Cut.blk_after (v' := .slice (some ⟨g', 0, none⟩) (pre.length + 1) cap') hbo hrow (by decide) hgrow (show w.heap.size + 3 ≠ w.heap.size + 1 by omega); have hc1 := hv1.cell; have hf1 := hv1.frozen)
      exact ⟨hk2.from _, ⟨hb2, hq⟩, ⟨⟨_, hv2, by simpa using hr2, trivial⟩, hB.trans hb2, hq.trans hbo⟩⟩
    case done =>
      rintro D ys W hD rfl ⟨⟨v, hv, hrow, _⟩, hB, _⟩ hK
      have hc := hv.cell
      gi_wp2
      refine ⟨by simp, .inl ⟨_, _, rfl, run_takeDeferred hK, ?_⟩⟩
      have hfm : (view_seen.prs l0 ⟨a1_0, a1_1⟩ l0.length).flatMap (fun x => view_Cut.cells x.2) = ((view_seen.revs l0 ⟨a1_0, a1_1⟩ l0.length).map fun (j : Nat) => rd_T63 l0 (j : Int)).flatMap view_Cut.cells := by simp [view_seen.prs, List.flatMap_map]
      have hl : (view_seen.prs l0 ⟨a1_0, a1_1⟩ l0.length).length = ((view_seen.revs l0 ⟨a1_0, a1_1⟩ l0.length).map fun (j : Nat) => rd_T63 l0 (j : Int)).length := by rw [view_seen.prs_length, List.length_map]
      rw [hfm, hl] at hrow
      exact ⟨_, results_tmp rfl _ _ _, v, rfl, ⟨fun _ _ => trivial, _, ownsRow_putObj hrow _ hK rfl, view_Cut.reps (fun x => k63_mkM _ _ _ x) _⟩, hB.trans (belowK_b (w := w) (Nat.le_refl _) W D _ _ (by simp at hD; omega) hK rfl rfl)⟩
    case stop =>
      rintro D c pre W _ _ h _
      exact h.elim
  · cases h


end Go.Proofs.Ytdbdfnkhbcgklaa.V
