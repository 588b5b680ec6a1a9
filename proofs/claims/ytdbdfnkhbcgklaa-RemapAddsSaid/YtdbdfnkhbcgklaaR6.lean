-- PRINTED by print.py (a twelfth state) out of the translation. Not trusted: Lean checks it.
import Derived.RangeFuncNested
import Derived.RangeFuncBound
import Derived.RangeFuncCalls
import Derived.RangeFuncLeaves
import Derived.RangeFuncBox
import Derived.RangeFuncMany
import Derived.Shelf.Abstract
import Derived.OwnWalkIn
import Derived.TacticsInMore
import Derived.LoopNIn
import Derived.LoopIn
import Derived.Test.YtdbdfnkhbcgklaaR0
import Derived.Test.YtdbdfnkhbcgklaaR5
namespace Go.Proofs.Ytdbdfnkhbcgklaa.R
open Go.RowKit Go.Proofs.YtdbdfnkhbcgklaaW.PrintWords Go.Proofs.YtdbdfnkhbcgklaaW.PrintLast Go.Proofs.YtdbdfnkhbcgklaaW.PrintMore
attribute [local go_sem] max2_int min2_int max_two min_two max_three min_three max_four min_four   -- for this text's walks alone
set_option linter.unusedVariables false
set_option linter.unusedSimpArgs false

/-! ### remap_Seen: function 14 (by hand) -/
open Go.Shelf
attribute [local go_sem] Oper.semAt_some
def remap_Seen.f (l0 : List S25) (a1_0 a1_1 : Int) : Option (List Int) := if l0.length ≤ 8796093022208 then some ((remap_seen.revs l0 ⟨a1_0, a1_1⟩ l0.length).map fun (j : Nat) => (j : Int)) else none
theorem remap_Seen.info : (Try.prog.info? 3).map (fun i => (i.zero, i.size, i.bytes)) = some (some (.int .i64 0), 1, 8) := by kernel_rfl
/-- The iterator's contract, as 'for .. range seen(l, o)' wants it. -/
theorem remap_Seen.stops (n : Nat) (hn : 1 ≤ n) (Bl Bo : Nat) (w0 w : World) (A : Option Addr) (c : Nat) (xs : List S25) (o : S25) (hBl : w.cell? ⟨Bl, 0, none⟩ = some (.slice A xs.length c)) (hbl : Bl < w.heap.size)
    (hBo : w.heap[Bo]? = some (.cells #[.int .i64 o.f0, .int .u64 o.f1] 25 (0, 0))) (hC0 : Kd.C k25 w0 A xs.length xs) (hc0 : xs.length ≤ c) (hB0 : Below w0.heap.size w0 w) :
    SeqStopsK Fence.wide n Try.prog 46 #[.pointer (some ⟨Bl, 0, none⟩), .pointer (some ⟨Bo, 0, none⟩)] (fun x : Nat × Nat => #[Value.int .i64 (x.1 : Int), Value.int .i64 (x.2 : Int)]) (remap_seen.Kp w0.heap.size Bo)
      (fun ys => ys = remap_seen.prs xs o xs.length) (fun pre => ∃ m, m < xs.length ∧ pre = remap_seen.prs xs o (m + 1)) xs.length w := fun l J Jx W hW hJ _ hY h0 => by
  have hlt := (Array.getElem?_eq_some_iff.1 hBo).1
  exact remap_seen.closure_in n hn l Bl Bo w0 A c xs o J Jx hY W hJ ((hW.cell (p := ⟨Bl, 0, none⟩) hbl).trans hBl) ((hW.block Bo hlt).trans hBo) hC0 hc0 (below_then hB0 hB0.size hW) h0
theorem remap_Seen.prs_snd (l : List S25) (o : S25) (n : Nat) : (remap_seen.prs l o n).map (fun x => (x.2 : Int)) = (remap_seen.revs l o n).map (fun (j : Nat) => (j : Int)) := by
  unfold remap_seen.prs
  rw [List.map_map]
  conv => rhs; rw [← List.zipIdx_map_fst 0 (remap_seen.revs l o n)]
  rw [List.map_map]
  rfl
theorem remap_Seen.own_blk {β : Type} {B b : Nat} {cs : Array Value} {t : TypeId} : OwnFrom B (fun (_ : β) W => W.heap[b]? = some (.cells cs t (0, 0))) := fun s W W' row hs hg hr =>
  (hg.block b (Array.getElem?_eq_some_iff.1 hs).1 (fun e => by
    obtain ⟨_, o, ho, hc⟩ := hr b e.symm
    rw [hs] at ho
    cases ho
    cases hc)).trans hs
theorem remap_Seen.blk_after {W w1 : World} {Bo out base size n : Nat} {cs : Array Value} {t e : TypeId} {v v' : Value} {xs : List Value} {tmp : Obj} (hbo : W.heap[Bo]? = some (.cells cs t (0, 0))) (hrow : W.ownsRow base e size v n xs) (hte : t ≠ e)
    (hgrow : (W.alloc tmp).grownBy w1 v.ownBlock) (hne : Bo ≠ out) : (w1.setCell ⟨out, 0, none⟩ v').heap[Bo]? = W.heap[Bo]? := by
  have hlt := (Array.getElem?_eq_some_iff.1 hbo).1
  rw [Below.heap_setCell _ _ _ _ hne, hgrow.block Bo (by simp; omega) (fun e' => by
    obtain ⟨cells, hc⟩ := own_typed hrow Bo e'.symm
    rw [hbo] at hc
    injection hc with hc
    injection hc with _ h2
    exact hte h2)]
  exact Below.heap_alloc W _ Bo hlt
set_option maxRecDepth 100000 in
set_option maxHeartbeats 4000000 in
theorem remap_Seen.calls (A0 : Option Addr) (c0 : Nat) (l0 : List S25) (a1_0 a1_1 : Int) (r : List Int) (w : World) (hr0 : Kd.C k25 w A0 l0.length l0) (hc0 : l0.length ≤ c0) (h : remap_Seen.f l0 a1_0 a1_1 = some r) :
    Calls Try.prog 14 #[.slice A0 l0.length c0, .agg #[.int .i64 a1_0, .int .u64 a1_1]] w fun e w' => ∃ v0_ : Value, e = .returned (v0_) ∧ Kd.R (Kd.int .i64) 3 w' w.heap.size (fun _ => True) v0_ r ∧ Below w.heap.size w w' := by
  unfold remap_Seen.f at h
  split at h
  · rename_i hlen
    obtain rfl := Option.some.inj h
    clear h
    obtain ⟨i0, hi, hz0, hz1, hz2⟩ := info_parts remap_Seen.info
    refine (callsIn_wide (n := 3)).1 ?_
    refine callsIn_of_wp_marks Try.func14 rfl trivial ?_ rfl
    simp only [Try.ntmps14, List.size_toArray, List.length_cons, List.length_nil, Nat.reduceAdd, Nat.reduceSub, Array.replicate_succ, Array.replicate_zero, List.push_toArray, List.append_toArray, List.nil_append, List.cons_append]
    gi_wp2_with (refine ⟨trivial, ?_⟩; gi_at_call 41; refine (remap_seen.calls_in 2 A0 c0 l0.length ⟨a1_0, a1_1⟩ _).mono ?_; rintro e w' ⟨rfl, rfl⟩)
    have bO := Boxed.new (w.alloc (.cells #[.int .i64 a1_0, .int .u64 a1_1] 25)) 27 (.slice none 0 0)
    rw [World.size_alloc] at bO
    have hbl := (Boxed.new ((w.alloc (.cells #[.int .i64 a1_0, .int .u64 a1_1] 25)).alloc (.cells #[.slice none 0 0] 27)) 22 (.slice A0 l0.length c0)).alloc (.cells #[.int .i64 a1_0, .int .u64 a1_1] 25)
    have hbo := World.alloc_heap_new (((w.alloc (.cells #[.int .i64 a1_0, .int .u64 a1_1] 25)).alloc (.cells #[.slice none 0 0] 27)).alloc (.cells #[.slice A0 l0.length c0] 22)) (.cells #[.int .i64 a1_0, .int .u64 a1_1] 25)
    simp only [World.size_alloc] at hbl hbo
    have hB0 : Below w.heap.size w ((((w.alloc (.cells #[.int .i64 a1_0, .int .u64 a1_1] 25)).alloc (.cells #[.slice none 0 0] 27)).alloc (.cells #[.slice A0 l0.length c0] 22)).alloc (.cells #[.int .i64 a1_0, .int .u64 a1_1] 25)) := below_alloc (below_alloc (below_alloc (below_alloc (Below.refl _ _) _) _) _) _
    have bO2 := (bO.alloc (.cells #[.slice A0 l0.length c0] 22)).alloc (.cells #[.int .i64 a1_0, .int .u64 a1_1] 25)
    refine wpIn_rangeFunc_ownG rfl (by omega) (gf := 46) (lb := #[.pointer (some ⟨w.heap.size + 2, 0, none⟩), .pointer (some ⟨w.heap.size + 3, 0, none⟩)]) rfl trivial (enters_of Try.func46 (by kernel_rfl) rfl)
      (remap_Seen.stops 2 (by omega) (w.heap.size + 2) (w.heap.size + 3) w _ A0 c0 l0 ⟨a1_0, a1_1⟩ hbl.cell (by simp) hbo hr0 hc0 hB0) remap_seen.Kp_t (remap_seen.Kp_b (by simp; omega) (by simp)) (Below.refl _ _) (fun _ => rfl)
      (fun pre W => (∃ v, Boxed W (w.heap.size + 1) 27 v ∧ W.ownsRow w.heap.size 3 1 v pre.length ((pre.map fun x => (x.2 : Int)).map (Value.int .i64)) ∧ True) ∧ Below w.heap.size w W ∧ W.heap[w.heap.size + 3]? = some (.cells #[.int .i64 a1_0, .int .u64 a1_1] 25 (0, 0)))
      (fun _ _ _ => False)
      ?hI
      (fun _ _ _ _ _ hs _ _ => hs)
      ⟨⟨_, bO2, World.ownsRow_nil _ _ _ _, trivial⟩, hB0, hbo⟩
      (fun x => { tmps := #[.slice A0 l0.length c0, .agg #[.int .i64 a1_0, .int .u64 a1_1], undef, .pointer (some ⟨w.heap.size, 0, none⟩), .slice none 0 0, .pointer (some ⟨w.heap.size + 1, 0, none⟩), undef, .int .i64 (x.2 : Int), .slice A0 l0.length c0, .agg #[.int .i64 a1_0, .int .u64 a1_1], .func (.func 46) #[] #[.pointer (some ⟨w.heap.size + 2, 0, none⟩), .pointer (some ⟨w.heap.size + 3, 0, none⟩)], .int .i64 (x.1 : Int), .int .i64 (x.2 : Int), undef, undef, undef, undef, undef], defers := [] }) ?assign ?body ?done ?stop
    case hI => exact OwnFrom.and (Own.from (holdsRow_own w.heap.size (w.heap.size + 1) 27 3 1 (fun (pre : List (Nat × Nat)) => pre.length) (fun pre => (pre.map fun x => (x.2 : Int)).map (Value.int .i64)) (fun _ _ => True)) _) (OwnFrom.and (ownFrom_below (Nat.le_refl _) (by simp; omega)) remap_Seen.own_blk)
    case assign =>
      intro l x W K hK
      gi_wp2
      exact hK
    case body =>
      rintro l pre x W ⟨⟨v, hv, hrow, _⟩, hB, hbo⟩ hlt
      have hc := hv.cell
      gi_wp2_with (gi_at_builtin; refine wpListIn_append_own _ rfl _ _ 27 rfl w.heap.size 3 i0 (.int .i64 0) 1 8 Try.underlying27 hi hz0 hz1 hz2 rfl (by decide) _ _ _ rfl (hrow.alloc _) ⟨W.heap.size, 0, none⟩ 1 1 [.int .i64 (x.2 : Int)] rfl rfl (cell_one_new _ _ _) (by simp [Value.oneCell']) (by simp only [maxLen]; omega) (by omega) (by have := hB.size; simp; omega) ?_; intro v' w1 hown' hgrow _; obtain ⟨g', cap', rfl⟩ := ownsRow_succ hown'; obtain ⟨hv1, hv2, hr2, hk2, hb2⟩ := hv.appended (by decide) hrow hB.size (by omega) hown' hgrow; have hq := remap_Seen.blk_after (v' := .slice (some ⟨g', 0, none⟩) (pre.length + 1) cap') hbo hrow (by decide) hgrow (show w.heap.size + 3 ≠ w.heap.size + 1 by omega); have hc1 := hv1.cell; have hf1 := hv1.frozen)
      exact ⟨hk2.from _, ⟨hb2, hq⟩, ⟨⟨_, hv2, by simpa using hr2, trivial⟩, hB.trans hb2, hq.trans hbo⟩⟩
    case done =>
      rintro D ys W hD rfl ⟨⟨v, hv, hrow, _⟩, hB, _⟩ hK
      have hc := hv.cell
      gi_wp2
      refine ⟨by simp, .inl ⟨_, _, rfl, run_takeDeferred hK, ?_⟩⟩
      rw [remap_Seen.prs_snd] at hrow
      have hl : (remap_seen.prs l0 ⟨a1_0, a1_1⟩ l0.length).length = ((remap_seen.revs l0 ⟨a1_0, a1_1⟩ l0.length).map (fun (j : Nat) => (j : Int))).length := by rw [remap_seen.prs_length, List.length_map]
      rw [hl] at hrow
      exact ⟨_, results_tmp rfl _ _ _, v, rfl, Kd.R_of_own (ownsRow_putObj hrow _ hK rfl) (fun _ _ => trivial), hB.trans (belowK_b (w := w) (Nat.le_refl _) W D _ _ (by simp at hD; omega) hK rfl rfl)⟩
    case stop =>
      rintro D c pre W _ _ h _
      exact h.elim
  · cases h


end Go.Proofs.Ytdbdfnkhbcgklaa.R
