-- PRINTED by print.py (a twelfth state) out of the translation. Not trusted: Lean checks it.
import Derived.RangeFuncNested
import Derived.RangeFuncBound
import Derived.RangeFuncCalls
import Derived.RangeFuncLeaves
import Derived.RangeFuncBox
import Derived.RangeFuncMany
import Derived.Shelf.Abstract
import Derived.OwnWalkIn
import Derived.TacticsInMore
import Derived.LoopNIn
import Derived.LoopIn
import Derived.Test.YtdbdfnkhbcgklaaR0
import Derived.Test.YtdbdfnkhbcgklaaR5
import Derived.Test.YtdbdfnkhbcgklaaR6
namespace Go.Proofs.Ytdbdfnkhbcgklaa.R
open Go.RowKit Go.Proofs.YtdbdfnkhbcgklaaW.PrintWords Go.Proofs.YtdbdfnkhbcgklaaW.PrintLast Go.Proofs.YtdbdfnkhbcgklaaW.PrintMore
attribute [local go_sem] max2_int min2_int max_two min_two max_three min_three max_four min_four   -- for this text's walks alone
set_option linter.unusedVariables false
set_option linter.unusedSimpArgs false

/-! ### remap_Full: function 15 (by hand) -/
open Go.Shelf
attribute [local go_sem] Oper.semAt_some
def remap_Full.f (l0 : List S25) (a1_0 a1_1 a2 : Int) : Option (Int × Bool) := if 0 ≤ a2 ∧ a2 < ((remap_seen.revs l0 ⟨a1_0, a1_1⟩ l0.length).length : Int) then some ((((remap_seen.revs l0 ⟨a1_0, a1_1⟩ l0.length).getD a2.toNat 0 : Nat) : Int), true) else some (0, false)
theorem remap_Full.prs_get {l : List S25} {o : S25} {n : Nat} {i : Nat} {x : Nat × Nat} (h : (remap_seen.prs l o n)[i]? = some x) : x.1 = i ∧ (remap_seen.revs l o n)[i]? = some x.2 := by
  unfold remap_seen.prs at h
  rw [List.getElem?_map] at h
  obtain ⟨q, hq, rfl⟩ := Option.map_eq_some_iff.1 h
  rw [List.getElem?_zipIdx] at hq
  obtain ⟨y, hy, rfl⟩ := Option.map_eq_some_iff.1 hq
  exact ⟨by simp, hy⟩
/-- More of the list: what was there stays. -/
theorem remap_Full.revs_prefix (l : List S25) (o : S25) (m n : Nat) (h : m ≤ n) : remap_seen.revs l o m <+: remap_seen.revs l o n := by
  induction n with
  | zero =>
    obtain rfl : m = 0 := by omega
    exact List.prefix_refl _
  | succ n ih =>
    rcases Nat.lt_or_ge n m with h1 | h1
    · obtain rfl : m = n + 1 := by omega
      exact List.prefix_refl _
    · refine (ih h1).trans ?_
      cases hb : remap_seen.bel (rd_T25 l (n : Int)) o with
      | true => rw [remap_seen.revs_hit hb]; exact List.prefix_append _ _
      | false => rw [remap_seen.revs_miss hb]; exact List.prefix_refl _
set_option maxRecDepth 100000 in
set_option maxHeartbeats 4000000 in
theorem remap_Full.calls (A0 : Option Addr) (c0 : Nat) (l0 : List S25) (a1_0 a1_1 a2 : Int) (r1 : Int) (r2 : Bool) (w : World) (hr0 : Kd.C k25 w A0 l0.length l0) (hc0 : l0.length ≤ c0) (h : remap_Full.f l0 a1_0 a1_1 a2 = some (r1, r2)) :
    Calls Try.prog 15 #[.slice A0 l0.length c0, .agg #[.int .i64 a1_0, .int .u64 a1_1], .int .i64 a2] w fun e w' => e = .returned (.tuple #[.int .i64 r1, .bool r2]) ∧ Below w.heap.size w w' := by
  refine (callsIn_wide (n := 3)).1 ?_
  refine callsIn_of_wp_marks Try.func15 rfl trivial ?_ rfl
  simp only [Try.ntmps15, List.size_toArray, List.length_cons, List.length_nil, Nat.reduceAdd, Nat.reduceSub, Array.replicate_succ, Array.replicate_zero, List.push_toArray, List.append_toArray, List.nil_append, List.cons_append]
  gi_wp2_with (refine ⟨trivial, ?_⟩; gi_at_call 41; refine (remap_seen.calls_in 2 A0 c0 l0.length ⟨a1_0, a1_1⟩ _).mono ?_; rintro e w' ⟨rfl, rfl⟩)
  have bK0 := Boxed.new (w.alloc (.cells #[.int .i64 a1_0, .int .u64 a1_1] 25)) 3 (.int .i64 a2)
  have bR0 := Boxed.new ((w.alloc (.cells #[.int .i64 a1_0, .int .u64 a1_1] 25)).alloc (.cells #[.int .i64 a2] 3)) 3 (.int .i64 0)
  have bI0 := Boxed.new (((w.alloc (.cells #[.int .i64 a1_0, .int .u64 a1_1] 25)).alloc (.cells #[.int .i64 a2] 3)).alloc (.cells #[.int .i64 0] 3)) 4 (.bool false)
  have bL0 := Boxed.new ((((w.alloc (.cells #[.int .i64 a1_0, .int .u64 a1_1] 25)).alloc (.cells #[.int .i64 a2] 3)).alloc (.cells #[.int .i64 0] 3)).alloc (.cells #[.bool false] 4)) 22 (.slice A0 l0.length c0)
  have hbo := World.alloc_heap_new (((((w.alloc (.cells #[.int .i64 a1_0, .int .u64 a1_1] 25)).alloc (.cells #[.int .i64 a2] 3)).alloc (.cells #[.int .i64 0] 3)).alloc (.cells #[.bool false] 4)).alloc (.cells #[.slice A0 l0.length c0] 22)) (.cells #[.int .i64 a1_0, .int .u64 a1_1] 25)
  have bK := (((bK0.alloc (.cells #[.int .i64 0] 3)).alloc (.cells #[.bool false] 4)).alloc (.cells #[.slice A0 l0.length c0] 22)).alloc (.cells #[.int .i64 a1_0, .int .u64 a1_1] 25)
  have bR := ((bR0.alloc (.cells #[.bool false] 4)).alloc (.cells #[.slice A0 l0.length c0] 22)).alloc (.cells #[.int .i64 a1_0, .int .u64 a1_1] 25)
  have bI := (bI0.alloc (.cells #[.slice A0 l0.length c0] 22)).alloc (.cells #[.int .i64 a1_0, .int .u64 a1_1] 25)
  have bL := bL0.alloc (.cells #[.int .i64 a1_0, .int .u64 a1_1] 25)
  simp only [World.size_alloc, Nat.add_assoc, Nat.reduceAdd] at bK bR bI bL hbo
  clear bK0 bR0 bI0 bL0
  have hB0 : Below w.heap.size w ((((((w.alloc (.cells #[.int .i64 a1_0, .int .u64 a1_1] 25)).alloc (.cells #[.int .i64 a2] 3)).alloc (.cells #[.int .i64 0] 3)).alloc (.cells #[.bool false] 4)).alloc (.cells #[.slice A0 l0.length c0] 22)).alloc (.cells #[.int .i64 a1_0, .int .u64 a1_1] 25)) := below_alloc (below_alloc (below_alloc (below_alloc (below_alloc (below_alloc (Below.refl _ _) _) _) _) _) _) _
  refine wpIn_rangeFunc_ownG rfl (by omega) (gf := 46) (lb := #[.pointer (some ⟨w.heap.size + 4, 0, none⟩), .pointer (some ⟨w.heap.size + 5, 0, none⟩)]) rfl trivial (enters_of Try.func46 (by kernel_rfl) rfl)
    (remap_Seen.stops 2 (by omega) (w.heap.size + 4) (w.heap.size + 5) w _ A0 c0 l0 ⟨a1_0, a1_1⟩ bL.cell (by simp) hbo hr0 hc0 hB0) remap_seen.Kp_t (remap_seen.Kp_b (by simp; omega) (by simp)) (Below.refl _ _) (fun _ => rfl)
    (fun pre W => ((∀ p ∈ pre, (p.1 : Int) ≠ a2) ∧ True) ∧ Boxed W (w.heap.size + 1) 3 (.int .i64 a2) ∧ Boxed W (w.heap.size + 2) 3 (.int .i64 0) ∧ Boxed W (w.heap.size + 3) 4 (.bool false) ∧ Below w.heap.size w W)
    (fun c pre W => (c = .ret ∧ ∃ ini last, pre = ini ++ [last] ∧ (last.1 : Int) = a2 ∧ Boxed W (w.heap.size + 2) 3 (.int .i64 (last.2 : Int)) ∧ Boxed W (w.heap.size + 3) 4 (.bool true)) ∧ Below w.heap.size w W)
    ?hI ?hIx ⟨⟨by simp, trivial⟩, bK, bR, bI, hB0⟩
    (fun x => { tmps := #[.slice A0 l0.length c0, .agg #[.int .i64 a1_0, .int .u64 a1_1], .int .i64 a2, undef, .pointer (some ⟨w.heap.size, 0, none⟩), .pointer (some ⟨w.heap.size + 1, 0, none⟩), .pointer (some ⟨w.heap.size + 2, 0, none⟩), .pointer (some ⟨w.heap.size + 3, 0, none⟩), .int .i64 (x.1 : Int), .int .i64 (x.2 : Int), .slice A0 l0.length c0, .agg #[.int .i64 a1_0, .int .u64 a1_1], .func (.func 46) #[] #[.pointer (some ⟨w.heap.size + 4, 0, none⟩), .pointer (some ⟨w.heap.size + 5, 0, none⟩)], .int .i64 (x.1 : Int), .int .i64 (x.2 : Int), undef, undef, undef, undef], defers := [] }) ?assign ?body ?done ?stop
  case hI => exact fun s X Y row hs hg hr => ⟨hs.1, remap_Seen.own_blk s X Y row hs.2.1 hg hr, remap_Seen.own_blk s X Y row hs.2.2.1 hg hr, remap_Seen.own_blk s X Y row hs.2.2.2.1 hg hr, ownFrom_below (Nat.le_refl _) (by simp; omega) s X Y row hs.2.2.2.2 hg hr⟩
  case hIx =>
    intro c s X Y row hs hg hr
    obtain ⟨⟨hc, ini, last, e1, e2, e3, e4⟩, hB⟩ := hs
    exact ⟨⟨hc, ini, last, e1, e2, remap_Seen.own_blk s X Y row e3 hg hr, remap_Seen.own_blk s X Y row e4 hg hr⟩, ownFrom_below (Nat.le_refl _) (by simp; omega) s X Y row hB hg hr⟩
  case assign =>
    intro l x W K hK
    gi_wp2
    exact hK
  case body =>
    rintro l pre x W ⟨⟨hne, _⟩, hk, hr, hi, hB⟩ hlt
    have hck := hk.cell
    have hcr := hr.cell
    have hci := hi.cell
    have hfr := hr.frozen
    have hfi := hi.frozen
    by_cases hx : (x.1 : Int) = a2
    · have hxb : ((x.1 : Int) == a2) = true := by rw [hx]; simp
      gi_wp2
      exact ⟨((KeepsOthers.setCell _ _ _).trans (KeepsOthers.setCell _ _ _)).from _, ⟨rfl, pre, x, rfl, hx, (hr.set _).kept (grownBy_setCell' _ _ _) (by simp), (hi.kept (grownBy_setCell' _ _ _) (by simp)).set _⟩,
        (hB.setCell (p := ⟨w.heap.size + 2, 0, none⟩) (by simp) _).setCell (p := ⟨w.heap.size + 3, 0, none⟩) (by simp) _⟩
    · have hxb : ((x.1 : Int) == a2) = false := by simpa using hx
      gi_wp2
      exact ⟨KeepsFrom.refl _ _, ⟨Below.refl _ _, rfl⟩, ⟨fun p hp => (List.mem_append.1 hp).elim (hne p) (fun e => by simp at e; subst e; exact hx), trivial⟩, hk, hr, hi, hB⟩
  case done =>
    rintro D ys W hD rfl ⟨⟨hne, _⟩, hk, hr, hi, hB⟩ hK
    have hcr := hr.cell
    have hci := hi.cell
    have hfr := hr.frozen
    have hfi := hi.frozen
    have hno : ¬ (0 ≤ a2 ∧ a2 < ((remap_seen.revs l0 ⟨a1_0, a1_1⟩ l0.length).length : Int)) := by
      rintro ⟨g1, g2⟩
      obtain ⟨x, hx⟩ : ∃ x, (remap_seen.prs l0 ⟨a1_0, a1_1⟩ l0.length)[a2.toNat]? = some x := ⟨_, List.getElem?_eq_getElem (by rw [remap_seen.prs_length]; omega)⟩
      have h1 := (remap_Full.prs_get hx).1
      exact hne x (List.mem_of_getElem? hx) (by omega)
    unfold remap_Full.f at h
    rw [if_neg hno] at h
    obtain ⟨rfl, rfl⟩ := Prod.mk.inj (Option.some.inj h)
    gi_wp2
    have hK' := ((KeepsOthers.setCell W ⟨w.heap.size + 2, 0, none⟩ (.int .i64 0)).trans (KeepsOthers.setCell _ ⟨w.heap.size + 3, 0, none⟩ (.bool false))).same D _ hK rfl
    have hr1 := ((hr.set (.int .i64 0)).kept (grownBy_setCell' _ (w.heap.size + 3) (.bool false)) (by simp)).cell
    have hi1 := ((hi.kept (grownBy_setCell' _ (w.heap.size + 2) (.int .i64 0)) (by simp)).set (.bool false)).cell
    refine ⟨by simp, .inl ⟨_, _, rfl, run_takeDeferred hK', ?_⟩⟩
    have hc5 := cell_kept hr1 (grownBy_putObj' _ D (.deferred none)) (fun r e => by cases e; exact ⟨_, hK', rfl⟩)
    have hc6 := cell_kept hi1 (grownBy_putObj' _ D (.deferred none)) (fun r e => by cases e; exact ⟨_, hK', rfl⟩)
    refine ⟨.tuple #[.int .i64 0, .bool false], ?_, rfl, ((hB.setCell (p := ⟨w.heap.size + 2, 0, none⟩) (by simp) _).setCell (p := ⟨w.heap.size + 3, 0, none⟩) (by simp) _).trans (belowK_b (w := w) (Nat.le_refl _) _ D _ _ (by simp at hD; omega) hK' rfl rfl)⟩
    simp [results, Try.f15, go_sem, hc5, hc6]
  case stop =>
    rintro D c pre W hD ⟨m, hm, rfl⟩ ⟨⟨rfl, ini, last, e1, e2, hr, hi⟩, hB⟩ hK
    have hlast : (remap_seen.prs l0 ⟨a1_0, a1_1⟩ (m + 1))[ini.length]? = some last := by rw [e1]; simp
    obtain ⟨g1, g2⟩ := remap_Full.prs_get hlast
    obtain ⟨tl, htl⟩ := remap_Full.revs_prefix l0 ⟨a1_0, a1_1⟩ (m + 1) l0.length (by omega)
    have g3 : (remap_seen.revs l0 ⟨a1_0, a1_1⟩ l0.length)[ini.length]? = some last.2 := by
      rw [← htl, List.getElem?_append_left (List.getElem?_eq_some_iff.1 g2).1]
      exact g2
    have g4 := (List.getElem?_eq_some_iff.1 g3).1
    have g5 : a2.toNat = ini.length := by omega
    unfold remap_Full.f at h
    rw [if_pos ⟨by omega, by omega⟩, g5, List.getD_eq_getElem?_getD, g3] at h
    obtain ⟨rfl, rfl⟩ := Prod.mk.inj (Option.some.inj h)
    gi_wp2
    refine ⟨by simp, .inl ⟨_, _, rfl, run_takeDeferred hK, ?_⟩⟩
    have hc5 := cell_kept hr.cell (grownBy_putObj' _ D (.deferred none)) (fun r e => by cases e; exact ⟨_, hK, rfl⟩)
    have hc6 := cell_kept hi.cell (grownBy_putObj' _ D (.deferred none)) (fun r e => by cases e; exact ⟨_, hK, rfl⟩)
    refine ⟨.tuple #[.int .i64 (last.2 : Int), .bool true], ?_, rfl, hB.trans (belowK_b (w := w) (Nat.le_refl _) W D _ _ (by simp at hD; omega) hK rfl rfl)⟩
    simp [results, Try.f15, go_sem, hc5, hc6]


end Go.Proofs.Ytdbdfnkhbcgklaa.R
