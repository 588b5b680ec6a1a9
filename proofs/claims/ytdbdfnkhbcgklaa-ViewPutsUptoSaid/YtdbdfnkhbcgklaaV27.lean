-- PRINTED by print.py (a twelfth state) out of the translation. Not trusted: Lean checks it.
import Derived.Test.YtdbdfnkhbcgklaaV0
import Derived.Test.YtdbdfnkhbcgklaaV7
namespace Go.Proofs.Ytdbdfnkhbcgklaa.V
open Go.RowKit Go.Proofs.YtdbdfnkhbcgklaaW.PrintWords Go.Proofs.YtdbdfnkhbcgklaaW.PrintLast Go.Proofs.YtdbdfnkhbcgklaaW.PrintMore
attribute [local go_sem] max2_int min2_int max_two min_two max_three min_three max_four min_four   -- for this text's walks alone
set_option linter.unusedVariables false
set_option linter.unusedSimpArgs false

/-! ### jalousieref02_pick: function 43 -/
def jalousieref02_pick.l0 : Nat → Bool → Int → Int → Int → Int → Int → Int → Option (Int)
  | 0, _, _, _, _, _, _, _ => none
  | k + 1, x2, x7, x8, x342000, x342001, x343000, x343001 => if x8 ≥ 0 then ((jalousieref02_Has.f x342000 x342001 x8).bind fun t343 => (if t343 = true then ((jalousieref02_Has.f x343000 x343001 x8).bind fun t344 => (if t344 = true then (jalousieref02_pick.l0 k x2 (IntKind.u64.wrap ((IntKind.u64.wrap (2 * x7)) + 1)) (wrap64 (x8 - 1)) x342000 x342001 x343000 x343001) else (if x2 = true then (jalousieref02_pick.l0 k x2 (IntKind.u64.wrap (2 * x7)) (wrap64 (x8 - 1)) x342000 x342001 x343000 x343001) else ((jalousieref02_Has.f x342000 x342001 x8).bind fun t345 => (if t345 = true then (jalousieref02_pick.l0 k x2 (IntKind.u64.wrap ((IntKind.u64.wrap (2 * x7)) + 1)) (wrap64 (x8 - 1)) x342000 x342001 x343000 x343001) else ((jalousieref02_Has.f x343000 x343001 x8).bind fun t346 => (if t346 = true then (jalousieref02_pick.l0 k x2 (IntKind.u64.wrap ((IntKind.u64.wrap (2 * x7)) + 1)) (wrap64 (x8 - 1)) x342000 x342001 x343000 x343001) else (jalousieref02_pick.l0 k x2 (IntKind.u64.wrap (2 * x7)) (wrap64 (x8 - 1)) x342000 x342001 x343000 x343001)))))))) else (if x2 = true then (jalousieref02_pick.l0 k x2 (IntKind.u64.wrap (2 * x7)) (wrap64 (x8 - 1)) x342000 x342001 x343000 x343001) else ((jalousieref02_Has.f x342000 x342001 x8).bind fun t347 => (if t347 = true then (jalousieref02_pick.l0 k x2 (IntKind.u64.wrap ((IntKind.u64.wrap (2 * x7)) + 1)) (wrap64 (x8 - 1)) x342000 x342001 x343000 x343001) else ((jalousieref02_Has.f x343000 x343001 x8).bind fun t348 => (if t348 = true then (jalousieref02_pick.l0 k x2 (IntKind.u64.wrap ((IntKind.u64.wrap (2 * x7)) + 1)) (wrap64 (x8 - 1)) x342000 x342001 x343000 x343001) else (jalousieref02_pick.l0 k x2 (IntKind.u64.wrap (2 * x7)) (wrap64 (x8 - 1)) x342000 x342001 x343000 x343001)))))))) else (some x7)
def jalousieref02_pick.f (k : Nat) (a0_0 : Int) (a0_1 : Int) (a1_0 : Int) (a1_1 : Int) (a2 : Bool) : Option (Int) := jalousieref02_pick.l0 k a2 0 63 a0_0 a0_1 a1_0 a1_1
theorem jalousieref02_pick.mono_l : ∀ k, (∀ y0 y1 y2 y3 y4 y5 y6, LeO (jalousieref02_pick.l0 k y0 y1 y2 y3 y4 y5 y6) (jalousieref02_pick.l0 (k + 1) y0 y1 y2 y3 y4 y5 y6))
  | 0 => fun _ _ _ _ _ _ _ r h => by simp [jalousieref02_pick.l0] at h
  | k + 1 => by
    have ih0 := jalousieref02_pick.mono_l k
    · intro y0 y1 y2 y3 y4 y5 y6
      unfold jalousieref02_pick.l0
      repeat' first
      | (with_reducible exact ih0 _ _ _ _ _ _ _)
      | (with_reducible exact LeO.refl _)
      | (with_reducible exact LeO.none _)
      | (with_reducible refine LeO.ite ?_ ?_)
      | (with_reducible refine LeO.bind ?_ (fun _ => ?_))
      | exact ih0 _ _ _ _ _ _ _
      | exact LeO.none _
      | refine LeO.ite ?_ ?_
      | refine LeO.bind ?_ (fun _ => ?_)
theorem jalousieref02_pick.mono : ∀ a0 a1 a2 a3 a4 k, LeO (jalousieref02_pick.f k a0 a1 a2 a3 a4) (jalousieref02_pick.f (k + 1) a0 a1 a2 a3 a4) := by
  intro a0 a1 a2 a3 a4 k
  have ih0 := jalousieref02_pick.mono_l k
  unfold jalousieref02_pick.f
  repeat' first
      | (with_reducible exact ih0 _ _ _ _ _ _ _)
      | (with_reducible exact LeO.refl _)
      | (with_reducible exact LeO.none _)
      | (with_reducible refine LeO.ite ?_ ?_)
      | (with_reducible refine LeO.bind ?_ (fun _ => ?_))
      | exact ih0 _ _ _ _ _ _ _
      | exact LeO.none _
      | refine LeO.ite ?_ ?_
      | refine LeO.bind ?_ (fun _ => ?_)
set_option maxHeartbeats 8000000 in
set_option maxRecDepth 100000 in
theorem jalousieref02_pick.calls (k : Nat) (a0_0 : Int) (a0_1 : Int) (a1_0 : Int) (a1_1 : Int) (a2 : Bool) (r : Int) (w : World) (h : jalousieref02_pick.f k a0_0 a0_1 a1_0 a1_1 a2 = some r) :
    Calls Try.prog 43 #[.agg #[.int .i64 a0_0, .int .u64 a0_1], .agg #[.int .i64 a1_0, .int .u64 a1_1], .bool a2] w fun e w' => e = .returned (.int .u64 r) ∧ Below w.heap.size w w' := by
  have hu25 := Try.underlying25
  have HB := Aside0.mk (Below.refl w.heap.size w)
  have H : (jalousieref02_pick.l0 k a2 0 63 a0_0 a0_1 a1_0 a1_1) = some r := h
  clear h
  have H' := Aside0.mk H
  clear H
  go_enter Try.func43, Try.ntmps43
  go_wp2_with (first | ((with_reducible refine gate_dst (N := 3) rfl ?_); refine box_event ?hg (N := 3) ?hd (cs := #[.int .i64 a0_0, .int .u64 a0_1]) (t := 25) ?hr ?_; (case hd => rfl); (case hg => rfl); (case hr => first | (go_simp; done) | (go_simp; rfl)); intro gb341 hg w4 hbox hb; have n0_ := Aside0.mk (below_step (by repeat (first | (with_reducible first | exact HB.out | apply below_alloc | apply pw_below_drewN | apply below_drew1) | exact HB.out)) hb); have n1_ := Aside0.mk (hbox); have n2_ := Aside0.mk ((by rw [hg]; exact (below_size (by repeat (first | (with_reducible first | exact HB.out | apply below_alloc | apply pw_below_drewN | apply below_drew1) | exact HB.out))) : w.heap.size ≤ gb341)); have n3_ := Aside0.mk ((by rw [hg]; exact (below_size (by repeat (first | (with_reducible first | exact HB.out | apply below_alloc | apply pw_below_drewN | apply below_drew1) | exact HB.out))) : w.heap.size ≤ gb341)); clear HB; have HB := n0_; have BK341 := n1_; have GW341 := n2_; have GE341 := n3_; clear n0_ n1_ n2_ n3_; clear hb hbox hg) | ((with_reducible refine gate_dst (N := 4) rfl ?_); refine box_event ?hg (N := 4) ?hd (cs := #[.int .i64 a1_0, .int .u64 a1_1]) (t := 25) ?hr ?_; (case hd => rfl); (case hg => rfl); (case hr => first | (go_simp; done) | (go_simp; rfl)); intro gb342 hg w5 hbox hb; have n0_ := Aside0.mk (blk_below (g := gb341) (o := .cells #[.int .i64 a0_0, .int .u64 a0_1] 25 (0, 0)) (by (with_reducible repeat (first | refine blk_drewN ?_ _ | refine blk_drew ?_ | refine blk_alloc ?_ _)); exact BK341.out) hb); have n1_ := Aside0.mk (below_step (by repeat (first | (with_reducible first | exact HB.out | apply below_alloc | apply pw_below_drewN | apply below_drew1 | refine below_set ?_ GE341.out) | exact HB.out)) hb); have n2_ := Aside0.mk (hbox); have n3_ := Aside0.mk ((by rw [hg]; exact (below_size (by repeat (first | (with_reducible first | exact HB.out | apply below_alloc | apply pw_below_drewN | apply below_drew1 | refine below_set ?_ GE341.out) | exact HB.out))) : w.heap.size ≤ gb342)); have n4_ := Aside0.mk ((by rw [hg]; exact (below_size (by repeat (first | (with_reducible first | exact HB.out | apply below_alloc | apply pw_below_drewN | apply below_drew1 | refine below_set ?_ GE341.out) | exact HB.out))) : w.heap.size ≤ gb342)); have n5_ := Aside0.mk ((by rw [hg]; exact Nat.ne_of_lt (blk_lt (g := gb341) (o := .cells #[.int .i64 a0_0, .int .u64 a0_1] 25 (0, 0)) (by (with_reducible repeat (first | refine blk_drewN ?_ _ | refine blk_drew ?_ | refine blk_alloc ?_ _)); exact BK341.out)) : gb341 ≠ gb342)); have n6_ := Aside0.mk ((by rw [hg]; exact Nat.ne_of_gt (blk_lt (g := gb341) (o := .cells #[.int .i64 a0_0, .int .u64 a0_1] 25 (0, 0)) (by (with_reducible repeat (first | refine blk_drewN ?_ _ | refine blk_drew ?_ | refine blk_alloc ?_ _)); exact BK341.out)) : gb342 ≠ gb341)); clear BK341; clear HB; have BK341 := n0_; have HB := n1_; have BK342 := n2_; have GW342 := n3_; have GE342 := n4_; have NB341_342 := n5_; have NB342_341 := n6_; clear n0_ n1_ n2_ n3_ n4_ n5_ n6_; clear hb hbox hg))
  go_loopg [7, 8] k (fun kq v7 v8 w' => ∃ (x7_1 : Int) (x8_1 : Int), v7 = .int .u64 x7_1 ∧ v8 = .int .i64 x8_1 ∧ Aside0 (jalousieref02_pick.l0 kq a2 x7_1 x8_1 a0_0 a0_1 a1_0 a1_1 = some r) ∧ Aside0 (kq ≤ k) ∧ Aside0 (w'.heap[gb341]? = some (.cells #[.int .i64 a0_0, .int .u64 a0_1] 25 (0, 0))) ∧ Aside0 (w'.heap[gb342]? = some (.cells #[.int .i64 a1_0, .int .u64 a1_1] 25 (0, 0))) ∧ Aside0 (Below w.heap.size w w'))
  case atStart => exact ⟨(0), (63), (by first | rfl | (simp; done) | (simp [*]; done)), (by first | rfl | (simp; done) | (simp [*]; done)), H', ⟨Nat.le_refl _⟩, ⟨by (with_reducible repeat (first | refine blk_drewN ?_ _ | refine blk_drew ?_ | refine blk_alloc ?_ _)); exact BK341.out⟩, ⟨by (with_reducible repeat (first | refine blk_drewN ?_ _ | refine blk_drew ?_ | refine blk_alloc ?_ _)); exact BK342.out⟩, ⟨by repeat (first | (with_reducible first | exact HB.out | apply below_alloc | apply pw_below_drewN | apply below_drew1 | refine below_set ?_ GE341.out | refine below_set ?_ GE342.out) | exact HB.out)⟩⟩
  case round =>
    clear H'
    try clear p2
    try clear c4
    obtain ⟨x7_1, x8_1, rfl, rfl, HA, HK1, BK341, BK342, HB⟩ := hrel
    cases gk with
    | zero => exact absurd HA.out (by simp [jalousieref02_pick.l0])
    | succ k1 =>
      have H := HA.out
      clear HA
      simp only [jalousieref02_pick.l0] at H
      by_cases c6 : x8_1 ≥ 0
      · rw [if_pos c6] at H
        have c6b0 : decide (0 ≤ x8_1) = true := decide_eq_true c6
        clear c6
        replace H := Option.bind_eq_some_iff.mp H
        obtain ⟨t343, A70, H⟩ := H
        replace H : (if t343 = true then ((jalousieref02_Has.f a1_0 a1_1 x8_1).bind fun t344 => (if t344 = true then (jalousieref02_pick.l0 k1 a2 (IntKind.u64.wrap ((IntKind.u64.wrap (2 * x7_1)) + 1)) (wrap64 (x8_1 - 1)) a0_0 a0_1 a1_0 a1_1) else (if a2 = true then (jalousieref02_pick.l0 k1 a2 (IntKind.u64.wrap (2 * x7_1)) (wrap64 (x8_1 - 1)) a0_0 a0_1 a1_0 a1_1) else ((jalousieref02_Has.f a0_0 a0_1 x8_1).bind fun t345 => (if t345 = true then (jalousieref02_pick.l0 k1 a2 (IntKind.u64.wrap ((IntKind.u64.wrap (2 * x7_1)) + 1)) (wrap64 (x8_1 - 1)) a0_0 a0_1 a1_0 a1_1) else ((jalousieref02_Has.f a1_0 a1_1 x8_1).bind fun t346 => (if t346 = true then (jalousieref02_pick.l0 k1 a2 (IntKind.u64.wrap ((IntKind.u64.wrap (2 * x7_1)) + 1)) (wrap64 (x8_1 - 1)) a0_0 a0_1 a1_0 a1_1) else (jalousieref02_pick.l0 k1 a2 (IntKind.u64.wrap (2 * x7_1)) (wrap64 (x8_1 - 1)) a0_0 a0_1 a1_0 a1_1)))))))) else (if a2 = true then (jalousieref02_pick.l0 k1 a2 (IntKind.u64.wrap (2 * x7_1)) (wrap64 (x8_1 - 1)) a0_0 a0_1 a1_0 a1_1) else ((jalousieref02_Has.f a0_0 a0_1 x8_1).bind fun t347 => (if t347 = true then (jalousieref02_pick.l0 k1 a2 (IntKind.u64.wrap ((IntKind.u64.wrap (2 * x7_1)) + 1)) (wrap64 (x8_1 - 1)) a0_0 a0_1 a1_0 a1_1) else ((jalousieref02_Has.f a1_0 a1_1 x8_1).bind fun t348 => (if t348 = true then (jalousieref02_pick.l0 k1 a2 (IntKind.u64.wrap ((IntKind.u64.wrap (2 * x7_1)) + 1)) (wrap64 (x8_1 - 1)) a0_0 a0_1 a1_0 a1_1) else (jalousieref02_pick.l0 k1 a2 (IntKind.u64.wrap (2 * x7_1)) (wrap64 (x8_1 - 1)) a0_0 a0_1 a1_0 a1_1))))))) = some r := H
        have A7 := Aside0.mk A70
        clear A70
        by_cases c8 : t343 = true
        · subst c8
          have H1 : ((jalousieref02_Has.f a1_0 a1_1 x8_1).bind fun t344 => (if t344 = true then (jalousieref02_pick.l0 k1 a2 (IntKind.u64.wrap ((IntKind.u64.wrap (2 * x7_1)) + 1)) (wrap64 (x8_1 - 1)) a0_0 a0_1 a1_0 a1_1) else (if a2 = true then (jalousieref02_pick.l0 k1 a2 (IntKind.u64.wrap (2 * x7_1)) (wrap64 (x8_1 - 1)) a0_0 a0_1 a1_0 a1_1) else ((jalousieref02_Has.f a0_0 a0_1 x8_1).bind fun t345 => (if t345 = true then (jalousieref02_pick.l0 k1 a2 (IntKind.u64.wrap ((IntKind.u64.wrap (2 * x7_1)) + 1)) (wrap64 (x8_1 - 1)) a0_0 a0_1 a1_0 a1_1) else ((jalousieref02_Has.f a1_0 a1_1 x8_1).bind fun t346 => (if t346 = true then (jalousieref02_pick.l0 k1 a2 (IntKind.u64.wrap ((IntKind.u64.wrap (2 * x7_1)) + 1)) (wrap64 (x8_1 - 1)) a0_0 a0_1 a1_0 a1_1) else (jalousieref02_pick.l0 k1 a2 (IntKind.u64.wrap (2 * x7_1)) (wrap64 (x8_1 - 1)) a0_0 a0_1 a1_0 a1_1)))))))) = some r := by rw [if_pos rfl] at H; exact H
          clear H
          have H := H1
          clear H1
          replace H := Option.bind_eq_some_iff.mp H
          obtain ⟨t344, A90, H⟩ := H
          replace H : (if t344 = true then (jalousieref02_pick.l0 k1 a2 (IntKind.u64.wrap ((IntKind.u64.wrap (2 * x7_1)) + 1)) (wrap64 (x8_1 - 1)) a0_0 a0_1 a1_0 a1_1) else (if a2 = true then (jalousieref02_pick.l0 k1 a2 (IntKind.u64.wrap (2 * x7_1)) (wrap64 (x8_1 - 1)) a0_0 a0_1 a1_0 a1_1) else ((jalousieref02_Has.f a0_0 a0_1 x8_1).bind fun t345 => (if t345 = true then (jalousieref02_pick.l0 k1 a2 (IntKind.u64.wrap ((IntKind.u64.wrap (2 * x7_1)) + 1)) (wrap64 (x8_1 - 1)) a0_0 a0_1 a1_0 a1_1) else ((jalousieref02_Has.f a1_0 a1_1 x8_1).bind fun t346 => (if t346 = true then (jalousieref02_pick.l0 k1 a2 (IntKind.u64.wrap ((IntKind.u64.wrap (2 * x7_1)) + 1)) (wrap64 (x8_1 - 1)) a0_0 a0_1 a1_0 a1_1) else (jalousieref02_pick.l0 k1 a2 (IntKind.u64.wrap (2 * x7_1)) (wrap64 (x8_1 - 1)) a0_0 a0_1 a1_0 a1_1))))))) = some r := H
          have A9 := Aside0.mk A90
          clear A90
          by_cases c10 : t344 = true
          · subst c10
            have H1 : (jalousieref02_pick.l0 k1 a2 (IntKind.u64.wrap ((IntKind.u64.wrap (2 * x7_1)) + 1)) (wrap64 (x8_1 - 1)) a0_0 a0_1 a1_0 a1_1) = some r := by rw [if_pos rfl] at H; exact H
            clear H
            have H := H1
            clear H1
            first
            | exact absurd (Option.some.inj (A7.out.symm.trans A9.out)) (by decide)
            | skip
              have H' := Aside0.mk H
              clear H
              have hnb11 := NB341_342.out
              have hnc11 := NB342_341.out
              have hcz12_0 : wr.cell? ⟨gb341, 0, none⟩ = some (.int .i64 a0_0) := (blk_cell BK341.out 0).trans rfl
              have hcz12_1 : wr.cell? ⟨gb341, 1, none⟩ = some (.int .u64 a0_1) := (blk_cell BK341.out 1).trans rfl
              have hfz12_0 := blk_frozen BK341.out 0
              have hfz12_1 := blk_frozen BK341.out 1
              go_wp2_with (first | ((with_reducible refine gate_callee (f := 40) rfl ?_); refine goesL_ (some 17) rfl rfl Try.func40 (by kernel_rfl) rfl #[.agg #[.int .i64 a0_0, .int .u64 a0_1], .int .i64 x8_1] rfl (by (try simp only [List.map_toArray, List.map_cons, List.map_nil]); first | done | rfl | (simp only [List.length_drop, List.length_take]; rfl)) ?_; (with_reducible refine (jalousieref02_Has.calls a0_0 a0_1 x8_1 true _ A7.out).mono ?_); rintro e w13 ⟨rfl, hb⟩; refine ⟨_, rfl, ?_⟩; have n0_ := Aside0.mk (blk_below (g := gb341) (o := .cells #[.int .i64 a0_0, .int .u64 a0_1] 25 (0, 0)) (by (with_reducible repeat (first | refine blk_drewN ?_ _ | refine blk_drew ?_ | refine blk_alloc ?_ _)); exact BK341.out) hb); have n1_ := Aside0.mk (blk_below (g := gb342) (o := .cells #[.int .i64 a1_0, .int .u64 a1_1] 25 (0, 0)) (by (with_reducible repeat (first | refine blk_drewN ?_ _ | refine blk_drew ?_ | refine blk_alloc ?_ _)); exact BK342.out) hb); have n2_ := Aside0.mk (below_step (by repeat (first | (with_reducible first | exact HB.out | apply below_alloc | apply pw_below_drewN | apply below_drew1 | refine below_set ?_ GE341.out | refine below_set ?_ GE342.out) | exact HB.out)) hb); clear BK341; clear BK342; clear HB; have BK341 := n0_; have BK342 := n1_; have HB := n2_; clear n0_ n1_ n2_; (try clear hb); (try clear hb2); (try clear hk); (try clear hi); have hcz14_0 : w13.cell? ⟨gb342, 0, none⟩ = some (.int .i64 a1_0) := (blk_cell BK342.out 0).trans rfl; have hcz14_1 : w13.cell? ⟨gb342, 1, none⟩ = some (.int .u64 a1_1) := (blk_cell BK342.out 1).trans rfl; have hfz14_0 := blk_frozen BK342.out 0; have hfz14_1 := blk_frozen BK342.out 1) | (go_at_call 40; (with_reducible refine (jalousieref02_Has.calls a1_0 a1_1 x8_1 true _ A9.out).mono ?_); rintro e w15 ⟨rfl, hb⟩; have n0_ := Aside0.mk (blk_below (g := gb341) (o := .cells #[.int .i64 a0_0, .int .u64 a0_1] 25 (0, 0)) (by (with_reducible repeat (first | refine blk_drewN ?_ _ | refine blk_drew ?_ | refine blk_alloc ?_ _)); exact BK341.out) hb); have n1_ := Aside0.mk (blk_below (g := gb342) (o := .cells #[.int .i64 a1_0, .int .u64 a1_1] 25 (0, 0)) (by (with_reducible repeat (first | refine blk_drewN ?_ _ | refine blk_drew ?_ | refine blk_alloc ?_ _)); exact BK342.out) hb); have n2_ := Aside0.mk (below_step (by repeat (first | (with_reducible first | exact HB.out | apply below_alloc | apply pw_below_drewN | apply below_drew1 | refine below_set ?_ GE341.out | refine below_set ?_ GE342.out) | exact HB.out)) hb); clear BK341; clear BK342; clear HB; have BK341 := n0_; have BK342 := n1_; have HB := n2_; clear n0_ n1_ n2_; (try clear hb); (try clear hb2); (try clear hk); (try clear hi)))
              go_roundg k1
              case measure => have := HK1.out; omega
              case rel => exact ⟨(IntKind.u64.wrap ((IntKind.u64.wrap (2 * x7_1)) + 1)), (wrap64 (x8_1 - 1)), (by first | rfl | (simp; done) | (simp [*]; done)), (by first | rfl | (simp; done) | (simp [*]; done)), H', ⟨by have := HK1.out; omega⟩, ⟨by (with_reducible repeat (first | refine blk_drewN ?_ _ | refine blk_drew ?_ | refine blk_alloc ?_ _)); exact BK341.out⟩, ⟨by (with_reducible repeat (first | refine blk_drewN ?_ _ | refine blk_drew ?_ | refine blk_alloc ?_ _)); exact BK342.out⟩, ⟨by repeat (first | (with_reducible first | exact HB.out | apply below_alloc | apply pw_below_drewN | apply below_drew1 | refine below_set ?_ GE341.out | refine below_set ?_ GE342.out) | exact HB.out)⟩⟩
          · replace c10 := Bool.eq_false_iff.mpr c10
            subst c10
            have H1 : (if a2 = true then (jalousieref02_pick.l0 k1 a2 (IntKind.u64.wrap (2 * x7_1)) (wrap64 (x8_1 - 1)) a0_0 a0_1 a1_0 a1_1) else ((jalousieref02_Has.f a0_0 a0_1 x8_1).bind fun t345 => (if t345 = true then (jalousieref02_pick.l0 k1 a2 (IntKind.u64.wrap ((IntKind.u64.wrap (2 * x7_1)) + 1)) (wrap64 (x8_1 - 1)) a0_0 a0_1 a1_0 a1_1) else ((jalousieref02_Has.f a1_0 a1_1 x8_1).bind fun t346 => (if t346 = true then (jalousieref02_pick.l0 k1 a2 (IntKind.u64.wrap ((IntKind.u64.wrap (2 * x7_1)) + 1)) (wrap64 (x8_1 - 1)) a0_0 a0_1 a1_0 a1_1) else (jalousieref02_pick.l0 k1 a2 (IntKind.u64.wrap (2 * x7_1)) (wrap64 (x8_1 - 1)) a0_0 a0_1 a1_0 a1_1)))))) = some r := by rw [if_neg (show ¬ (false = true) by decide)] at H; exact H
            clear H
            have H := H1
            clear H1
            by_cases c16 : a2 = true
            · subst c16
              have H1 : (jalousieref02_pick.l0 k1 true (IntKind.u64.wrap (2 * x7_1)) (wrap64 (x8_1 - 1)) a0_0 a0_1 a1_0 a1_1) = some r := by rw [if_pos rfl] at H; exact H
              clear H
              have H := H1
              clear H1
              first
              | exact absurd (Option.some.inj (A7.out.symm.trans A9.out)) (by decide)
              | skip
                have H' := Aside0.mk H
                clear H
                have hnb17 := NB341_342.out
                have hnc17 := NB342_341.out
                have hcz18_0 : wr.cell? ⟨gb341, 0, none⟩ = some (.int .i64 a0_0) := (blk_cell BK341.out 0).trans rfl
                have hcz18_1 : wr.cell? ⟨gb341, 1, none⟩ = some (.int .u64 a0_1) := (blk_cell BK341.out 1).trans rfl
                have hfz18_0 := blk_frozen BK341.out 0
                have hfz18_1 := blk_frozen BK341.out 1
                go_wp2_with (first | ((with_reducible refine gate_callee (f := 40) rfl ?_); refine goesL_ (some 17) rfl rfl Try.func40 (by kernel_rfl) rfl #[.agg #[.int .i64 a0_0, .int .u64 a0_1], .int .i64 x8_1] rfl (by (try simp only [List.map_toArray, List.map_cons, List.map_nil]); first | done | rfl | (simp only [List.length_drop, List.length_take]; rfl)) ?_; (with_reducible refine (jalousieref02_Has.calls a0_0 a0_1 x8_1 true _ A7.out).mono ?_); rintro e w19 ⟨rfl, hb⟩; refine ⟨_, rfl, ?_⟩; have n0_ := Aside0.mk (blk_below (g := gb341) (o := .cells #[.int .i64 a0_0, .int .u64 a0_1] 25 (0, 0)) (by (with_reducible repeat (first | refine blk_drewN ?_ _ | refine blk_drew ?_ | refine blk_alloc ?_ _)); exact BK341.out) hb); have n1_ := Aside0.mk (blk_below (g := gb342) (o := .cells #[.int .i64 a1_0, .int .u64 a1_1] 25 (0, 0)) (by (with_reducible repeat (first | refine blk_drewN ?_ _ | refine blk_drew ?_ | refine blk_alloc ?_ _)); exact BK342.out) hb); have n2_ := Aside0.mk (below_step (by repeat (first | (with_reducible first | exact HB.out | apply below_alloc | apply pw_below_drewN | apply below_drew1 | refine below_set ?_ GE341.out | refine below_set ?_ GE342.out) | exact HB.out)) hb); clear BK341; clear BK342; clear HB; have BK341 := n0_; have BK342 := n1_; have HB := n2_; clear n0_ n1_ n2_; (try clear hb); (try clear hb2); (try clear hk); (try clear hi); have hcz20_0 : w19.cell? ⟨gb342, 0, none⟩ = some (.int .i64 a1_0) := (blk_cell BK342.out 0).trans rfl; have hcz20_1 : w19.cell? ⟨gb342, 1, none⟩ = some (.int .u64 a1_1) := (blk_cell BK342.out 1).trans rfl; have hfz20_0 := blk_frozen BK342.out 0; have hfz20_1 := blk_frozen BK342.out 1) | (go_at_call 40; (with_reducible refine (jalousieref02_Has.calls a1_0 a1_1 x8_1 false _ A9.out).mono ?_); rintro e w21 ⟨rfl, hb⟩; have n0_ := Aside0.mk (blk_below (g := gb341) (o := .cells #[.int .i64 a0_0, .int .u64 a0_1] 25 (0, 0)) (by (with_reducible repeat (first | refine blk_drewN ?_ _ | refine blk_drew ?_ | refine blk_alloc ?_ _)); exact BK341.out) hb); have n1_ := Aside0.mk (blk_below (g := gb342) (o := .cells #[.int .i64 a1_0, .int .u64 a1_1] 25 (0, 0)) (by (with_reducible repeat (first | refine blk_drewN ?_ _ | refine blk_drew ?_ | refine blk_alloc ?_ _)); exact BK342.out) hb); have n2_ := Aside0.mk (below_step (by repeat (first | (with_reducible first | exact HB.out | apply below_alloc | apply pw_below_drewN | apply below_drew1 | refine below_set ?_ GE341.out | refine below_set ?_ GE342.out) | exact HB.out)) hb); clear BK341; clear BK342; clear HB; have BK341 := n0_; have BK342 := n1_; have HB := n2_; clear n0_ n1_ n2_; (try clear hb); (try clear hb2); (try clear hk); (try clear hi)))
                go_roundg k1
                case measure => have := HK1.out; omega
                case rel => exact ⟨(IntKind.u64.wrap (2 * x7_1)), (wrap64 (x8_1 - 1)), (by first | rfl | (simp; done) | (simp [*]; done)), (by first | rfl | (simp; done) | (simp [*]; done)), H', ⟨by have := HK1.out; omega⟩, ⟨by (with_reducible repeat (first | refine blk_drewN ?_ _ | refine blk_drew ?_ | refine blk_alloc ?_ _)); exact BK341.out⟩, ⟨by (with_reducible repeat (first | refine blk_drewN ?_ _ | refine blk_drew ?_ | refine blk_alloc ?_ _)); exact BK342.out⟩, ⟨by repeat (first | (with_reducible first | exact HB.out | apply below_alloc | apply pw_below_drewN | apply below_drew1 | refine below_set ?_ GE341.out | refine below_set ?_ GE342.out) | exact HB.out)⟩⟩
            · replace c16 := Bool.eq_false_iff.mpr c16
              subst c16
              have H1 : ((jalousieref02_Has.f a0_0 a0_1 x8_1).bind fun t345 => (if t345 = true then (jalousieref02_pick.l0 k1 false (IntKind.u64.wrap ((IntKind.u64.wrap (2 * x7_1)) + 1)) (wrap64 (x8_1 - 1)) a0_0 a0_1 a1_0 a1_1) else ((jalousieref02_Has.f a1_0 a1_1 x8_1).bind fun t346 => (if t346 = true then (jalousieref02_pick.l0 k1 false (IntKind.u64.wrap ((IntKind.u64.wrap (2 * x7_1)) + 1)) (wrap64 (x8_1 - 1)) a0_0 a0_1 a1_0 a1_1) else (jalousieref02_pick.l0 k1 false (IntKind.u64.wrap (2 * x7_1)) (wrap64 (x8_1 - 1)) a0_0 a0_1 a1_0 a1_1))))) = some r := by rw [if_neg (show ¬ (false = true) by decide)] at H; exact H
              clear H
              have H := H1
              clear H1
              replace H := Option.bind_eq_some_iff.mp H
              obtain ⟨t345, A220, H⟩ := H
              replace H : (if t345 = true then (jalousieref02_pick.l0 k1 false (IntKind.u64.wrap ((IntKind.u64.wrap (2 * x7_1)) + 1)) (wrap64 (x8_1 - 1)) a0_0 a0_1 a1_0 a1_1) else ((jalousieref02_Has.f a1_0 a1_1 x8_1).bind fun t346 => (if t346 = true then (jalousieref02_pick.l0 k1 false (IntKind.u64.wrap ((IntKind.u64.wrap (2 * x7_1)) + 1)) (wrap64 (x8_1 - 1)) a0_0 a0_1 a1_0 a1_1) else (jalousieref02_pick.l0 k1 false (IntKind.u64.wrap (2 * x7_1)) (wrap64 (x8_1 - 1)) a0_0 a0_1 a1_0 a1_1)))) = some r := H
              have A22 := Aside0.mk A220
              clear A220
              by_cases c23 : t345 = true
              · subst c23
                have H1 : (jalousieref02_pick.l0 k1 false (IntKind.u64.wrap ((IntKind.u64.wrap (2 * x7_1)) + 1)) (wrap64 (x8_1 - 1)) a0_0 a0_1 a1_0 a1_1) = some r := by rw [if_pos rfl] at H; exact H
                clear H
                have H := H1
                clear H1
                first
                | exact absurd (Option.some.inj (A7.out.symm.trans A9.out)) (by decide)
                | exact absurd (Option.some.inj (A7.out.symm.trans A22.out)) (by decide)
                | exact absurd (Option.some.inj (A9.out.symm.trans A22.out)) (by decide)
                | skip
                  have H' := Aside0.mk H
                  clear H
                  have hnb24 := NB341_342.out
                  have hnc24 := NB342_341.out
                  have hcz25_0 : wr.cell? ⟨gb341, 0, none⟩ = some (.int .i64 a0_0) := (blk_cell BK341.out 0).trans rfl
                  have hcz25_1 : wr.cell? ⟨gb341, 1, none⟩ = some (.int .u64 a0_1) := (blk_cell BK341.out 1).trans rfl
                  have hfz25_0 := blk_frozen BK341.out 0
                  have hfz25_1 := blk_frozen BK341.out 1
                  go_wp2_with (first | ((with_reducible refine gate_callee (f := 40) rfl ?_); refine goesL_ (some 17) rfl rfl Try.func40 (by kernel_rfl) rfl #[.agg #[.int .i64 a0_0, .int .u64 a0_1], .int .i64 x8_1] rfl (by (try simp only [List.map_toArray, List.map_cons, List.map_nil]); first | done | rfl | (simp only [List.length_drop, List.length_take]; rfl)) ?_; (with_reducible refine (jalousieref02_Has.calls a0_0 a0_1 x8_1 true _ A7.out).mono ?_); rintro e w26 ⟨rfl, hb⟩; refine ⟨_, rfl, ?_⟩; have n0_ := Aside0.mk (blk_below (g := gb341) (o := .cells #[.int .i64 a0_0, .int .u64 a0_1] 25 (0, 0)) (by (with_reducible repeat (first | refine blk_drewN ?_ _ | refine blk_drew ?_ | refine blk_alloc ?_ _)); exact BK341.out) hb); have n1_ := Aside0.mk (blk_below (g := gb342) (o := .cells #[.int .i64 a1_0, .int .u64 a1_1] 25 (0, 0)) (by (with_reducible repeat (first | refine blk_drewN ?_ _ | refine blk_drew ?_ | refine blk_alloc ?_ _)); exact BK342.out) hb); have n2_ := Aside0.mk (below_step (by repeat (first | (with_reducible first | exact HB.out | apply below_alloc | apply pw_below_drewN | apply below_drew1 | refine below_set ?_ GE341.out | refine below_set ?_ GE342.out) | exact HB.out)) hb); clear BK341; clear BK342; clear HB; have BK341 := n0_; have BK342 := n1_; have HB := n2_; clear n0_ n1_ n2_; (try clear hb); (try clear hb2); (try clear hk); (try clear hi); have hcz27_0 : w26.cell? ⟨gb342, 0, none⟩ = some (.int .i64 a1_0) := (blk_cell BK342.out 0).trans rfl; have hcz27_1 : w26.cell? ⟨gb342, 1, none⟩ = some (.int .u64 a1_1) := (blk_cell BK342.out 1).trans rfl; have hfz27_0 := blk_frozen BK342.out 0; have hfz27_1 := blk_frozen BK342.out 1) | (go_at_call 40; (with_reducible refine (jalousieref02_Has.calls a1_0 a1_1 x8_1 false _ A9.out).mono ?_); rintro e w28 ⟨rfl, hb⟩; have n0_ := Aside0.mk (blk_below (g := gb341) (o := .cells #[.int .i64 a0_0, .int .u64 a0_1] 25 (0, 0)) (by (with_reducible repeat (first | refine blk_drewN ?_ _ | refine blk_drew ?_ | refine blk_alloc ?_ _)); exact BK341.out) hb); have n1_ := Aside0.mk (blk_below (g := gb342) (o := .cells #[.int .i64 a1_0, .int .u64 a1_1] 25 (0, 0)) (by (with_reducible repeat (first | refine blk_drewN ?_ _ | refine blk_drew ?_ | refine blk_alloc ?_ _)); exact BK342.out) hb); have n2_ := Aside0.mk (below_step (by repeat (first | (with_reducible first | exact HB.out | apply below_alloc | apply pw_below_drewN | apply below_drew1 | refine below_set ?_ GE341.out | refine below_set ?_ GE342.out) | exact HB.out)) hb); clear BK341; clear BK342; clear HB; have BK341 := n0_; have BK342 := n1_; have HB := n2_; clear n0_ n1_ n2_; (try clear hb); (try clear hb2); (try clear hk); (try clear hi); have hcz29_0 : w28.cell? ⟨gb341, 0, none⟩ = some (.int .i64 a0_0) := (blk_cell BK341.out 0).trans rfl; have hcz29_1 : w28.cell? ⟨gb341, 1, none⟩ = some (.int .u64 a0_1) := (blk_cell BK341.out 1).trans rfl; have hfz29_0 := blk_frozen BK341.out 0; have hfz29_1 := blk_frozen BK341.out 1) | (go_at_call 40; (with_reducible refine (jalousieref02_Has.calls a0_0 a0_1 x8_1 true _ A22.out).mono ?_); rintro e w30 ⟨rfl, hb⟩; have n0_ := Aside0.mk (blk_below (g := gb341) (o := .cells #[.int .i64 a0_0, .int .u64 a0_1] 25 (0, 0)) (by (with_reducible repeat (first | refine blk_drewN ?_ _ | refine blk_drew ?_ | refine blk_alloc ?_ _)); exact BK341.out) hb); have n1_ := Aside0.mk (blk_below (g := gb342) (o := .cells #[.int .i64 a1_0, .int .u64 a1_1] 25 (0, 0)) (by (with_reducible repeat (first | refine blk_drewN ?_ _ | refine blk_drew ?_ | refine blk_alloc ?_ _)); exact BK342.out) hb); have n2_ := Aside0.mk (below_step (by repeat (first | (with_reducible first | exact HB.out | apply below_alloc | apply pw_below_drewN | apply below_drew1 | refine below_set ?_ GE341.out | refine below_set ?_ GE342.out) | exact HB.out)) hb); clear BK341; clear BK342; clear HB; have BK341 := n0_; have BK342 := n1_; have HB := n2_; clear n0_ n1_ n2_; (try clear hb); (try clear hb2); (try clear hk); (try clear hi)))
                  go_roundg k1
                  case measure => have := HK1.out; omega
                  case rel => exact ⟨(IntKind.u64.wrap ((IntKind.u64.wrap (2 * x7_1)) + 1)), (wrap64 (x8_1 - 1)), (by first | rfl | (simp; done) | (simp [*]; done)), (by first | rfl | (simp; done) | (simp [*]; done)), H', ⟨by have := HK1.out; omega⟩, ⟨by (with_reducible repeat (first | refine blk_drewN ?_ _ | refine blk_drew ?_ | refine blk_alloc ?_ _)); exact BK341.out⟩, ⟨by (with_reducible repeat (first | refine blk_drewN ?_ _ | refine blk_drew ?_ | refine blk_alloc ?_ _)); exact BK342.out⟩, ⟨by repeat (first | (with_reducible first | exact HB.out | apply below_alloc | apply pw_below_drewN | apply below_drew1 | refine below_set ?_ GE341.out | refine below_set ?_ GE342.out) | exact HB.out)⟩⟩
              · replace c23 := Bool.eq_false_iff.mpr c23
                subst c23
                have H1 : ((jalousieref02_Has.f a1_0 a1_1 x8_1).bind fun t346 => (if t346 = true then (jalousieref02_pick.l0 k1 false (IntKind.u64.wrap ((IntKind.u64.wrap (2 * x7_1)) + 1)) (wrap64 (x8_1 - 1)) a0_0 a0_1 a1_0 a1_1) else (jalousieref02_pick.l0 k1 false (IntKind.u64.wrap (2 * x7_1)) (wrap64 (x8_1 - 1)) a0_0 a0_1 a1_0 a1_1))) = some r := by rw [if_neg (show ¬ (false = true) by decide)] at H; exact H
                clear H
                have H := H1
                clear H1
                replace H := Option.bind_eq_some_iff.mp H
                obtain ⟨t346, A310, H⟩ := H
                replace H : (if t346 = true then (jalousieref02_pick.l0 k1 false (IntKind.u64.wrap ((IntKind.u64.wrap (2 * x7_1)) + 1)) (wrap64 (x8_1 - 1)) a0_0 a0_1 a1_0 a1_1) else (jalousieref02_pick.l0 k1 false (IntKind.u64.wrap (2 * x7_1)) (wrap64 (x8_1 - 1)) a0_0 a0_1 a1_0 a1_1)) = some r := H
                have A31 := Aside0.mk A310
                clear A310
                by_cases c32 : t346 = true
                · subst c32
                  have H1 : (jalousieref02_pick.l0 k1 false (IntKind.u64.wrap ((IntKind.u64.wrap (2 * x7_1)) + 1)) (wrap64 (x8_1 - 1)) a0_0 a0_1 a1_0 a1_1) = some r := by rw [if_pos rfl] at H; exact H
                  clear H
                  have H := H1
                  clear H1
                  first
                  | exact absurd (Option.some.inj (A7.out.symm.trans A9.out)) (by decide)
                  | exact absurd (Option.some.inj (A7.out.symm.trans A22.out)) (by decide)
                  | exact absurd (Option.some.inj (A7.out.symm.trans A31.out)) (by decide)
                  | exact absurd (Option.some.inj (A9.out.symm.trans A22.out)) (by decide)
                  | exact absurd (Option.some.inj (A9.out.symm.trans A31.out)) (by decide)
                  | exact absurd (Option.some.inj (A22.out.symm.trans A31.out)) (by decide)
                  | skip
                    have H' := Aside0.mk H
                    clear H
                    have hnb33 := NB341_342.out
                    have hnc33 := NB342_341.out
                    have hcz34_0 : wr.cell? ⟨gb341, 0, none⟩ = some (.int .i64 a0_0) := (blk_cell BK341.out 0).trans rfl
                    have hcz34_1 : wr.cell? ⟨gb341, 1, none⟩ = some (.int .u64 a0_1) := (blk_cell BK341.out 1).trans rfl
                    have hfz34_0 := blk_frozen BK341.out 0
                    have hfz34_1 := blk_frozen BK341.out 1
                    go_wp2_with (first | ((with_reducible refine gate_callee (f := 40) rfl ?_); refine goesL_ (some 17) rfl rfl Try.func40 (by kernel_rfl) rfl #[.agg #[.int .i64 a0_0, .int .u64 a0_1], .int .i64 x8_1] rfl (by (try simp only [List.map_toArray, List.map_cons, List.map_nil]); first | done | rfl | (simp only [List.length_drop, List.length_take]; rfl)) ?_; (with_reducible refine (jalousieref02_Has.calls a0_0 a0_1 x8_1 true _ A7.out).mono ?_); rintro e w35 ⟨rfl, hb⟩; refine ⟨_, rfl, ?_⟩; have n0_ := Aside0.mk (blk_below (g := gb341) (o := .cells #[.int .i64 a0_0, .int .u64 a0_1] 25 (0, 0)) (by (with_reducible repeat (first | refine blk_drewN ?_ _ | refine blk_drew ?_ | refine blk_alloc ?_ _)); exact BK341.out) hb); have n1_ := Aside0.mk (blk_below (g := gb342) (o := .cells #[.int .i64 a1_0, .int .u64 a1_1] 25 (0, 0)) (by (with_reducible repeat (first | refine blk_drewN ?_ _ | refine blk_drew ?_ | refine blk_alloc ?_ _)); exact BK342.out) hb); have n2_ := Aside0.mk (below_step (by repeat (first | (with_reducible first | exact HB.out | apply below_alloc | apply pw_below_drewN | apply below_drew1 | refine below_set ?_ GE341.out | refine below_set ?_ GE342.out) | exact HB.out)) hb); clear BK341; clear BK342; clear HB; have BK341 := n0_; have BK342 := n1_; have HB := n2_; clear n0_ n1_ n2_; (try clear hb); (try clear hb2); (try clear hk); (try clear hi); have hcz36_0 : w35.cell? ⟨gb342, 0, none⟩ = some (.int .i64 a1_0) := (blk_cell BK342.out 0).trans rfl; have hcz36_1 : w35.cell? ⟨gb342, 1, none⟩ = some (.int .u64 a1_1) := (blk_cell BK342.out 1).trans rfl; have hfz36_0 := blk_frozen BK342.out 0; have hfz36_1 := blk_frozen BK342.out 1) | (go_at_call 40; (with_reducible refine (jalousieref02_Has.calls a1_0 a1_1 x8_1 false _ A9.out).mono ?_); rintro e w37 ⟨rfl, hb⟩; have n0_ := Aside0.mk (blk_below (g := gb341) (o := .cells #[.int .i64 a0_0, .int .u64 a0_1] 25 (0, 0)) (by (with_reducible repeat (first | refine blk_drewN ?_ _ | refine blk_drew ?_ | refine blk_alloc ?_ _)); exact BK341.out) hb); have n1_ := Aside0.mk (blk_below (g := gb342) (o := .cells #[.int .i64 a1_0, .int .u64 a1_1] 25 (0, 0)) (by (with_reducible repeat (first | refine blk_drewN ?_ _ | refine blk_drew ?_ | refine blk_alloc ?_ _)); exact BK342.out) hb); have n2_ := Aside0.mk (below_step (by repeat (first | (with_reducible first | exact HB.out | apply below_alloc | apply pw_below_drewN | apply below_drew1 | refine below_set ?_ GE341.out | refine below_set ?_ GE342.out) | exact HB.out)) hb); clear BK341; clear BK342; clear HB; have BK341 := n0_; have BK342 := n1_; have HB := n2_; clear n0_ n1_ n2_; (try clear hb); (try clear hb2); (try clear hk); (try clear hi); have hcz38_0 : w37.cell? ⟨gb341, 0, none⟩ = some (.int .i64 a0_0) := (blk_cell BK341.out 0).trans rfl; have hcz38_1 : w37.cell? ⟨gb341, 1, none⟩ = some (.int .u64 a0_1) := (blk_cell BK341.out 1).trans rfl; have hfz38_0 := blk_frozen BK341.out 0; have hfz38_1 := blk_frozen BK341.out 1) | (go_at_call 40; (with_reducible refine (jalousieref02_Has.calls a0_0 a0_1 x8_1 false _ A22.out).mono ?_); rintro e w39 ⟨rfl, hb⟩; have n0_ := Aside0.mk (blk_below (g := gb341) (o := .cells #[.int .i64 a0_0, .int .u64 a0_1] 25 (0, 0)) (by (with_reducible repeat (first | refine blk_drewN ?_ _ | refine blk_drew ?_ | refine blk_alloc ?_ _)); exact BK341.out) hb); have n1_ := Aside0.mk (blk_below (g := gb342) (o := .cells #[.int .i64 a1_0, .int .u64 a1_1] 25 (0, 0)) (by (with_reducible repeat (first | refine blk_drewN ?_ _ | refine blk_drew ?_ | refine blk_alloc ?_ _)); exact BK342.out) hb); have n2_ := Aside0.mk (below_step (by repeat (first | (with_reducible first | exact HB.out | apply below_alloc | apply pw_below_drewN | apply below_drew1 | refine below_set ?_ GE341.out | refine below_set ?_ GE342.out) | exact HB.out)) hb); clear BK341; clear BK342; clear HB; have BK341 := n0_; have BK342 := n1_; have HB := n2_; clear n0_ n1_ n2_; (try clear hb); (try clear hb2); (try clear hk); (try clear hi); have hcz40_0 : w39.cell? ⟨gb342, 0, none⟩ = some (.int .i64 a1_0) := (blk_cell BK342.out 0).trans rfl; have hcz40_1 : w39.cell? ⟨gb342, 1, none⟩ = some (.int .u64 a1_1) := (blk_cell BK342.out 1).trans rfl; have hfz40_0 := blk_frozen BK342.out 0; have hfz40_1 := blk_frozen BK342.out 1) | (go_at_call 40; (with_reducible refine (jalousieref02_Has.calls a1_0 a1_1 x8_1 true _ A31.out).mono ?_); rintro e w41 ⟨rfl, hb⟩; have n0_ := Aside0.mk (blk_below (g := gb341) (o := .cells #[.int .i64 a0_0, .int .u64 a0_1] 25 (0, 0)) (by (with_reducible repeat (first | refine blk_drewN ?_ _ | refine blk_drew ?_ | refine blk_alloc ?_ _)); exact BK341.out) hb); have n1_ := Aside0.mk (blk_below (g := gb342) (o := .cells #[.int .i64 a1_0, .int .u64 a1_1] 25 (0, 0)) (by (with_reducible repeat (first | refine blk_drewN ?_ _ | refine blk_drew ?_ | refine blk_alloc ?_ _)); exact BK342.out) hb); have n2_ := Aside0.mk (below_step (by repeat (first | (with_reducible first | exact HB.out | apply below_alloc | apply pw_below_drewN | apply below_drew1 | refine below_set ?_ GE341.out | refine below_set ?_ GE342.out) | exact HB.out)) hb); clear BK341; clear BK342; clear HB; have BK341 := n0_; have BK342 := n1_; have HB := n2_; clear n0_ n1_ n2_; (try clear hb); (try clear hb2); (try clear hk); (try clear hi)))
                    go_roundg k1
                    case measure => have := HK1.out; omega
                    case rel => exact ⟨(IntKind.u64.wrap ((IntKind.u64.wrap (2 * x7_1)) + 1)), (wrap64 (x8_1 - 1)), (by first | rfl | (simp; done) | (simp [*]; done)), (by first | rfl | (simp; done) | (simp [*]; done)), H', ⟨by have := HK1.out; omega⟩, ⟨by (with_reducible repeat (first | refine blk_drewN ?_ _ | refine blk_drew ?_ | refine blk_alloc ?_ _)); exact BK341.out⟩, ⟨by (with_reducible repeat (first | refine blk_drewN ?_ _ | refine blk_drew ?_ | refine blk_alloc ?_ _)); exact BK342.out⟩, ⟨by repeat (first | (with_reducible first | exact HB.out | apply below_alloc | apply pw_below_drewN | apply below_drew1 | refine below_set ?_ GE341.out | refine below_set ?_ GE342.out) | exact HB.out)⟩⟩
                · replace c32 := Bool.eq_false_iff.mpr c32
                  subst c32
                  have H1 : (jalousieref02_pick.l0 k1 false (IntKind.u64.wrap (2 * x7_1)) (wrap64 (x8_1 - 1)) a0_0 a0_1 a1_0 a1_1) = some r := by rw [if_neg (show ¬ (false = true) by decide)] at H; exact H
                  clear H
                  have H := H1
                  clear H1
                  first
                  | exact absurd (Option.some.inj (A7.out.symm.trans A9.out)) (by decide)
                  | exact absurd (Option.some.inj (A7.out.symm.trans A22.out)) (by decide)
                  | exact absurd (Option.some.inj (A7.out.symm.trans A31.out)) (by decide)
                  | exact absurd (Option.some.inj (A9.out.symm.trans A22.out)) (by decide)
                  | exact absurd (Option.some.inj (A9.out.symm.trans A31.out)) (by decide)
                  | exact absurd (Option.some.inj (A22.out.symm.trans A31.out)) (by decide)
                  | skip
                    have H' := Aside0.mk H
                    clear H
                    have hnb42 := NB341_342.out
                    have hnc42 := NB342_341.out
                    have hcz43_0 : wr.cell? ⟨gb341, 0, none⟩ = some (.int .i64 a0_0) := (blk_cell BK341.out 0).trans rfl
                    have hcz43_1 : wr.cell? ⟨gb341, 1, none⟩ = some (.int .u64 a0_1) := (blk_cell BK341.out 1).trans rfl
                    have hfz43_0 := blk_frozen BK341.out 0
                    have hfz43_1 := blk_frozen BK341.out 1
                    go_wp2_with (first | ((with_reducible refine gate_callee (f := 40) rfl ?_); refine goesL_ (some 17) rfl rfl Try.func40 (by kernel_rfl) rfl #[.agg #[.int .i64 a0_0, .int .u64 a0_1], .int .i64 x8_1] rfl (by (try simp only [List.map_toArray, List.map_cons, List.map_nil]); first | done | rfl | (simp only [List.length_drop, List.length_take]; rfl)) ?_; (with_reducible refine (jalousieref02_Has.calls a0_0 a0_1 x8_1 true _ A7.out).mono ?_); rintro e w44 ⟨rfl, hb⟩; refine ⟨_, rfl, ?_⟩; have n0_ := Aside0.mk (blk_below (g := gb341) (o := .cells #[.int .i64 a0_0, .int .u64 a0_1] 25 (0, 0)) (by (with_reducible repeat (first | refine blk_drewN ?_ _ | refine blk_drew ?_ | refine blk_alloc ?_ _)); exact BK341.out) hb); have n1_ := Aside0.mk (blk_below (g := gb342) (o := .cells #[.int .i64 a1_0, .int .u64 a1_1] 25 (0, 0)) (by (with_reducible repeat (first | refine blk_drewN ?_ _ | refine blk_drew ?_ | refine blk_alloc ?_ _)); exact BK342.out) hb); have n2_ := Aside0.mk (below_step (by repeat (first | (with_reducible first | exact HB.out | apply below_alloc | apply pw_below_drewN | apply below_drew1 | refine below_set ?_ GE341.out | refine below_set ?_ GE342.out) | exact HB.out)) hb); clear BK341; clear BK342; clear HB; have BK341 := n0_; have BK342 := n1_; have HB := n2_; clear n0_ n1_ n2_; (try clear hb); (try clear hb2); (try clear hk); (try clear hi); have hcz45_0 : w44.cell? ⟨gb342, 0, none⟩ = some (.int .i64 a1_0) := (blk_cell BK342.out 0).trans rfl; have hcz45_1 : w44.cell? ⟨gb342, 1, none⟩ = some (.int .u64 a1_1) := (blk_cell BK342.out 1).trans rfl; have hfz45_0 := blk_frozen BK342.out 0; have hfz45_1 := blk_frozen BK342.out 1) | (go_at_call 40; (with_reducible refine (jalousieref02_Has.calls a1_0 a1_1 x8_1 false _ A9.out).mono ?_); rintro e w46 ⟨rfl, hb⟩; have n0_ := Aside0.mk (blk_below (g := gb341) (o := .cells #[.int .i64 a0_0, .int .u64 a0_1] 25 (0, 0)) (by (with_reducible repeat (first | refine blk_drewN ?_ _ | refine blk_drew ?_ | refine blk_alloc ?_ _)); exact BK341.out) hb); have n1_ := Aside0.mk (blk_below (g := gb342) (o := .cells #[.int .i64 a1_0, .int .u64 a1_1] 25 (0, 0)) (by (with_reducible repeat (first | refine blk_drewN ?_ _ | refine blk_drew ?_ | refine blk_alloc ?_ _)); exact BK342.out) hb); have n2_ := Aside0.mk (below_step (by repeat (first | (with_reducible first | exact HB.out | apply below_alloc | apply pw_below_drewN | apply below_drew1 | refine below_set ?_ GE341.out | refine below_set ?_ GE342.out) | exact HB.out)) hb); clear BK341; clear BK342; clear HB; have BK341 := n0_; have BK342 := n1_; have HB := n2_; clear n0_ n1_ n2_; (try clear hb); (try clear hb2); (try clear hk); (try clear hi); have hcz47_0 : w46.cell? ⟨gb341, 0, none⟩ = some (.int .i64 a0_0) := (blk_cell BK341.out 0).trans rfl; have hcz47_1 : w46.cell? ⟨gb341, 1, none⟩ = some (.int .u64 a0_1) := (blk_cell BK341.out 1).trans rfl; have hfz47_0 := blk_frozen BK341.out 0; have hfz47_1 := blk_frozen BK341.out 1) | (go_at_call 40; (with_reducible refine (jalousieref02_Has.calls a0_0 a0_1 x8_1 false _ A22.out).mono ?_); rintro e w48 ⟨rfl, hb⟩; have n0_ := Aside0.mk (blk_below (g := gb341) (o := .cells #[.int .i64 a0_0, .int .u64 a0_1] 25 (0, 0)) (by (with_reducible repeat (first | refine blk_drewN ?_ _ | refine blk_drew ?_ | refine blk_alloc ?_ _)); exact BK341.out) hb); have n1_ := Aside0.mk (blk_below (g := gb342) (o := .cells #[.int .i64 a1_0, .int .u64 a1_1] 25 (0, 0)) (by (with_reducible repeat (first | refine blk_drewN ?_ _ | refine blk_drew ?_ | refine blk_alloc ?_ _)); exact BK342.out) hb); have n2_ := Aside0.mk (below_step (by repeat (first | (with_reducible first | exact HB.out | apply below_alloc | apply pw_below_drewN | apply below_drew1 | refine below_set ?_ GE341.out | refine below_set ?_ GE342.out) | exact HB.out)) hb); clear BK341; clear BK342; clear HB; have BK341 := n0_; have BK342 := n1_; have HB := n2_; clear n0_ n1_ n2_; (try clear hb); (try clear hb2); (try clear hk); (try clear hi); have hcz49_0 : w48.cell? ⟨gb342, 0, none⟩ = some (.int .i64 a1_0) := (blk_cell BK342.out 0).trans rfl; have hcz49_1 : w48.cell? ⟨gb342, 1, none⟩ = some (.int .u64 a1_1) := (blk_cell BK342.out 1).trans rfl; have hfz49_0 := blk_frozen BK342.out 0; have hfz49_1 := blk_frozen BK342.out 1) | (go_at_call 40; (with_reducible refine (jalousieref02_Has.calls a1_0 a1_1 x8_1 false _ A31.out).mono ?_); rintro e w50 ⟨rfl, hb⟩; have n0_ := Aside0.mk (blk_below (g := gb341) (o := .cells #[.int .i64 a0_0, .int .u64 a0_1] 25 (0, 0)) (by (with_reducible repeat (first | refine blk_drewN ?_ _ | refine blk_drew ?_ | refine blk_alloc ?_ _)); exact BK341.out) hb); have n1_ := Aside0.mk (blk_below (g := gb342) (o := .cells #[.int .i64 a1_0, .int .u64 a1_1] 25 (0, 0)) (by (with_reducible repeat (first | refine blk_drewN ?_ _ | refine blk_drew ?_ | refine blk_alloc ?_ _)); exact BK342.out) hb); have n2_ := Aside0.mk (below_step (by repeat (first | (with_reducible first | exact HB.out | apply below_alloc | apply pw_below_drewN | apply below_drew1 | refine below_set ?_ GE341.out | refine below_set ?_ GE342.out) | exact HB.out)) hb); clear BK341; clear BK342; clear HB; have BK341 := n0_; have BK342 := n1_; have HB := n2_; clear n0_ n1_ n2_; (try clear hb); (try clear hb2); (try clear hk); (try clear hi)))
                    go_roundg k1
                    case measure => have := HK1.out; omega
                    case rel => exact ⟨(IntKind.u64.wrap (2 * x7_1)), (wrap64 (x8_1 - 1)), (by first | rfl | (simp; done) | (simp [*]; done)), (by first | rfl | (simp; done) | (simp [*]; done)), H', ⟨by have := HK1.out; omega⟩, ⟨by (with_reducible repeat (first | refine blk_drewN ?_ _ | refine blk_drew ?_ | refine blk_alloc ?_ _)); exact BK341.out⟩, ⟨by (with_reducible repeat (first | refine blk_drewN ?_ _ | refine blk_drew ?_ | refine blk_alloc ?_ _)); exact BK342.out⟩, ⟨by repeat (first | (with_reducible first | exact HB.out | apply below_alloc | apply pw_below_drewN | apply below_drew1 | refine below_set ?_ GE341.out | refine below_set ?_ GE342.out) | exact HB.out)⟩⟩
        · replace c8 := Bool.eq_false_iff.mpr c8
          subst c8
          have H1 : (if a2 = true then (jalousieref02_pick.l0 k1 a2 (IntKind.u64.wrap (2 * x7_1)) (wrap64 (x8_1 - 1)) a0_0 a0_1 a1_0 a1_1) else ((jalousieref02_Has.f a0_0 a0_1 x8_1).bind fun t347 => (if t347 = true then (jalousieref02_pick.l0 k1 a2 (IntKind.u64.wrap ((IntKind.u64.wrap (2 * x7_1)) + 1)) (wrap64 (x8_1 - 1)) a0_0 a0_1 a1_0 a1_1) else ((jalousieref02_Has.f a1_0 a1_1 x8_1).bind fun t348 => (if t348 = true then (jalousieref02_pick.l0 k1 a2 (IntKind.u64.wrap ((IntKind.u64.wrap (2 * x7_1)) + 1)) (wrap64 (x8_1 - 1)) a0_0 a0_1 a1_0 a1_1) else (jalousieref02_pick.l0 k1 a2 (IntKind.u64.wrap (2 * x7_1)) (wrap64 (x8_1 - 1)) a0_0 a0_1 a1_0 a1_1)))))) = some r := by rw [if_neg (show ¬ (false = true) by decide)] at H; exact H
          clear H
          have H := H1
          clear H1
          by_cases c51 : a2 = true
          · subst c51
            have H1 : (jalousieref02_pick.l0 k1 true (IntKind.u64.wrap (2 * x7_1)) (wrap64 (x8_1 - 1)) a0_0 a0_1 a1_0 a1_1) = some r := by rw [if_pos rfl] at H; exact H
            clear H
            have H := H1
            clear H1
            have H' := Aside0.mk H
            clear H
            have hnb52 := NB341_342.out
            have hnc52 := NB342_341.out
            have hcz53_0 : wr.cell? ⟨gb341, 0, none⟩ = some (.int .i64 a0_0) := (blk_cell BK341.out 0).trans rfl
            have hcz53_1 : wr.cell? ⟨gb341, 1, none⟩ = some (.int .u64 a0_1) := (blk_cell BK341.out 1).trans rfl
            have hfz53_0 := blk_frozen BK341.out 0
            have hfz53_1 := blk_frozen BK341.out 1
            go_wp2_with (first | ((with_reducible refine gate_callee (f := 40) rfl ?_); refine goesL_ (some 17) rfl rfl Try.func40 (by kernel_rfl) rfl #[.agg #[.int .i64 a0_0, .int .u64 a0_1], .int .i64 x8_1] rfl (by (try simp only [List.map_toArray, List.map_cons, List.map_nil]); first | done | rfl | (simp only [List.length_drop, List.length_take]; rfl)) ?_; (with_reducible refine (jalousieref02_Has.calls a0_0 a0_1 x8_1 false _ A7.out).mono ?_); rintro e w54 ⟨rfl, hb⟩; refine ⟨_, rfl, ?_⟩; have n0_ := Aside0.mk (blk_below (g := gb341) (o := .cells #[.int .i64 a0_0, .int .u64 a0_1] 25 (0, 0)) (by (with_reducible repeat (first | refine blk_drewN ?_ _ | refine blk_drew ?_ | refine blk_alloc ?_ _)); exact BK341.out) hb); have n1_ := Aside0.mk (blk_below (g := gb342) (o := .cells #[.int .i64 a1_0, .int .u64 a1_1] 25 (0, 0)) (by (with_reducible repeat (first | refine blk_drewN ?_ _ | refine blk_drew ?_ | refine blk_alloc ?_ _)); exact BK342.out) hb); have n2_ := Aside0.mk (below_step (by repeat (first | (with_reducible first | exact HB.out | apply below_alloc | apply pw_below_drewN | apply below_drew1 | refine below_set ?_ GE341.out | refine below_set ?_ GE342.out) | exact HB.out)) hb); clear BK341; clear BK342; clear HB; have BK341 := n0_; have BK342 := n1_; have HB := n2_; clear n0_ n1_ n2_; (try clear hb); (try clear hb2); (try clear hk); (try clear hi)))
            go_roundg k1
            case measure => have := HK1.out; omega
            case rel => exact ⟨(IntKind.u64.wrap (2 * x7_1)), (wrap64 (x8_1 - 1)), (by first | rfl | (simp; done) | (simp [*]; done)), (by first | rfl | (simp; done) | (simp [*]; done)), H', ⟨by have := HK1.out; omega⟩, ⟨by (with_reducible repeat (first | refine blk_drewN ?_ _ | refine blk_drew ?_ | refine blk_alloc ?_ _)); exact BK341.out⟩, ⟨by (with_reducible repeat (first | refine blk_drewN ?_ _ | refine blk_drew ?_ | refine blk_alloc ?_ _)); exact BK342.out⟩, ⟨by repeat (first | (with_reducible first | exact HB.out | apply below_alloc | apply pw_below_drewN | apply below_drew1 | refine below_set ?_ GE341.out | refine below_set ?_ GE342.out) | exact HB.out)⟩⟩
          · replace c51 := Bool.eq_false_iff.mpr c51
            subst c51
            have H1 : ((jalousieref02_Has.f a0_0 a0_1 x8_1).bind fun t347 => (if t347 = true then (jalousieref02_pick.l0 k1 false (IntKind.u64.wrap ((IntKind.u64.wrap (2 * x7_1)) + 1)) (wrap64 (x8_1 - 1)) a0_0 a0_1 a1_0 a1_1) else ((jalousieref02_Has.f a1_0 a1_1 x8_1).bind fun t348 => (if t348 = true then (jalousieref02_pick.l0 k1 false (IntKind.u64.wrap ((IntKind.u64.wrap (2 * x7_1)) + 1)) (wrap64 (x8_1 - 1)) a0_0 a0_1 a1_0 a1_1) else (jalousieref02_pick.l0 k1 false (IntKind.u64.wrap (2 * x7_1)) (wrap64 (x8_1 - 1)) a0_0 a0_1 a1_0 a1_1))))) = some r := by rw [if_neg (show ¬ (false = true) by decide)] at H; exact H
            clear H
            have H := H1
            clear H1
            replace H := Option.bind_eq_some_iff.mp H
            obtain ⟨t347, A550, H⟩ := H
            replace H : (if t347 = true then (jalousieref02_pick.l0 k1 false (IntKind.u64.wrap ((IntKind.u64.wrap (2 * x7_1)) + 1)) (wrap64 (x8_1 - 1)) a0_0 a0_1 a1_0 a1_1) else ((jalousieref02_Has.f a1_0 a1_1 x8_1).bind fun t348 => (if t348 = true then (jalousieref02_pick.l0 k1 false (IntKind.u64.wrap ((IntKind.u64.wrap (2 * x7_1)) + 1)) (wrap64 (x8_1 - 1)) a0_0 a0_1 a1_0 a1_1) else (jalousieref02_pick.l0 k1 false (IntKind.u64.wrap (2 * x7_1)) (wrap64 (x8_1 - 1)) a0_0 a0_1 a1_0 a1_1)))) = some r := H
            have A55 := Aside0.mk A550
            clear A550
            by_cases c56 : t347 = true
            · subst c56
              have H1 : (jalousieref02_pick.l0 k1 false (IntKind.u64.wrap ((IntKind.u64.wrap (2 * x7_1)) + 1)) (wrap64 (x8_1 - 1)) a0_0 a0_1 a1_0 a1_1) = some r := by rw [if_pos rfl] at H; exact H
              clear H
              have H := H1
              clear H1
              first
              | exact absurd (Option.some.inj (A7.out.symm.trans A55.out)) (by decide)
              | skip
                have H' := Aside0.mk H
                clear H
                have hnb57 := NB341_342.out
                have hnc57 := NB342_341.out
                have hcz58_0 : wr.cell? ⟨gb341, 0, none⟩ = some (.int .i64 a0_0) := (blk_cell BK341.out 0).trans rfl
                have hcz58_1 : wr.cell? ⟨gb341, 1, none⟩ = some (.int .u64 a0_1) := (blk_cell BK341.out 1).trans rfl
                have hfz58_0 := blk_frozen BK341.out 0
                have hfz58_1 := blk_frozen BK341.out 1
                go_wp2_with (first | ((with_reducible refine gate_callee (f := 40) rfl ?_); refine goesL_ (some 17) rfl rfl Try.func40 (by kernel_rfl) rfl #[.agg #[.int .i64 a0_0, .int .u64 a0_1], .int .i64 x8_1] rfl (by (try simp only [List.map_toArray, List.map_cons, List.map_nil]); first | done | rfl | (simp only [List.length_drop, List.length_take]; rfl)) ?_; (with_reducible refine (jalousieref02_Has.calls a0_0 a0_1 x8_1 false _ A7.out).mono ?_); rintro e w59 ⟨rfl, hb⟩; refine ⟨_, rfl, ?_⟩; have n0_ := Aside0.mk (blk_below (g := gb341) (o := .cells #[.int .i64 a0_0, .int .u64 a0_1] 25 (0, 0)) (by (with_reducible repeat (first | refine blk_drewN ?_ _ | refine blk_drew ?_ | refine blk_alloc ?_ _)); exact BK341.out) hb); have n1_ := Aside0.mk (blk_below (g := gb342) (o := .cells #[.int .i64 a1_0, .int .u64 a1_1] 25 (0, 0)) (by (with_reducible repeat (first | refine blk_drewN ?_ _ | refine blk_drew ?_ | refine blk_alloc ?_ _)); exact BK342.out) hb); have n2_ := Aside0.mk (below_step (by repeat (first | (with_reducible first | exact HB.out | apply below_alloc | apply pw_below_drewN | apply below_drew1 | refine below_set ?_ GE341.out | refine below_set ?_ GE342.out) | exact HB.out)) hb); clear BK341; clear BK342; clear HB; have BK341 := n0_; have BK342 := n1_; have HB := n2_; clear n0_ n1_ n2_; (try clear hb); (try clear hb2); (try clear hk); (try clear hi); have hcz60_0 : w59.cell? ⟨gb341, 0, none⟩ = some (.int .i64 a0_0) := (blk_cell BK341.out 0).trans rfl; have hcz60_1 : w59.cell? ⟨gb341, 1, none⟩ = some (.int .u64 a0_1) := (blk_cell BK341.out 1).trans rfl; have hfz60_0 := blk_frozen BK341.out 0; have hfz60_1 := blk_frozen BK341.out 1) | (go_at_call 40; (with_reducible refine (jalousieref02_Has.calls a0_0 a0_1 x8_1 true _ A55.out).mono ?_); rintro e w61 ⟨rfl, hb⟩; have n0_ := Aside0.mk (blk_below (g := gb341) (o := .cells #[.int .i64 a0_0, .int .u64 a0_1] 25 (0, 0)) (by (with_reducible repeat (first | refine blk_drewN ?_ _ | refine blk_drew ?_ | refine blk_alloc ?_ _)); exact BK341.out) hb); have n1_ := Aside0.mk (blk_below (g := gb342) (o := .cells #[.int .i64 a1_0, .int .u64 a1_1] 25 (0, 0)) (by (with_reducible repeat (first | refine blk_drewN ?_ _ | refine blk_drew ?_ | refine blk_alloc ?_ _)); exact BK342.out) hb); have n2_ := Aside0.mk (below_step (by repeat (first | (with_reducible first | exact HB.out | apply below_alloc | apply pw_below_drewN | apply below_drew1 | refine below_set ?_ GE341.out | refine below_set ?_ GE342.out) | exact HB.out)) hb); clear BK341; clear BK342; clear HB; have BK341 := n0_; have BK342 := n1_; have HB := n2_; clear n0_ n1_ n2_; (try clear hb); (try clear hb2); (try clear hk); (try clear hi)))
                go_roundg k1
                case measure => have := HK1.out; omega
                case rel => exact ⟨(IntKind.u64.wrap ((IntKind.u64.wrap (2 * x7_1)) + 1)), (wrap64 (x8_1 - 1)), (by first | rfl | (simp; done) | (simp [*]; done)), (by first | rfl | (simp; done) | (simp [*]; done)), H', ⟨by have := HK1.out; omega⟩, ⟨by (with_reducible repeat (first | refine blk_drewN ?_ _ | refine blk_drew ?_ | refine blk_alloc ?_ _)); exact BK341.out⟩, ⟨by (with_reducible repeat (first | refine blk_drewN ?_ _ | refine blk_drew ?_ | refine blk_alloc ?_ _)); exact BK342.out⟩, ⟨by repeat (first | (with_reducible first | exact HB.out | apply below_alloc | apply pw_below_drewN | apply below_drew1 | refine below_set ?_ GE341.out | refine below_set ?_ GE342.out) | exact HB.out)⟩⟩
            · replace c56 := Bool.eq_false_iff.mpr c56
              subst c56
              have H1 : ((jalousieref02_Has.f a1_0 a1_1 x8_1).bind fun t348 => (if t348 = true then (jalousieref02_pick.l0 k1 false (IntKind.u64.wrap ((IntKind.u64.wrap (2 * x7_1)) + 1)) (wrap64 (x8_1 - 1)) a0_0 a0_1 a1_0 a1_1) else (jalousieref02_pick.l0 k1 false (IntKind.u64.wrap (2 * x7_1)) (wrap64 (x8_1 - 1)) a0_0 a0_1 a1_0 a1_1))) = some r := by rw [if_neg (show ¬ (false = true) by decide)] at H; exact H
              clear H
              have H := H1
              clear H1
              replace H := Option.bind_eq_some_iff.mp H
              obtain ⟨t348, A620, H⟩ := H
              replace H : (if t348 = true then (jalousieref02_pick.l0 k1 false (IntKind.u64.wrap ((IntKind.u64.wrap (2 * x7_1)) + 1)) (wrap64 (x8_1 - 1)) a0_0 a0_1 a1_0 a1_1) else (jalousieref02_pick.l0 k1 false (IntKind.u64.wrap (2 * x7_1)) (wrap64 (x8_1 - 1)) a0_0 a0_1 a1_0 a1_1)) = some r := H
              have A62 := Aside0.mk A620
              clear A620
              by_cases c63 : t348 = true
              · subst c63
                have H1 : (jalousieref02_pick.l0 k1 false (IntKind.u64.wrap ((IntKind.u64.wrap (2 * x7_1)) + 1)) (wrap64 (x8_1 - 1)) a0_0 a0_1 a1_0 a1_1) = some r := by rw [if_pos rfl] at H; exact H
                clear H
                have H := H1
                clear H1
                first
                | exact absurd (Option.some.inj (A7.out.symm.trans A55.out)) (by decide)
                | exact absurd (Option.some.inj (A7.out.symm.trans A62.out)) (by decide)
                | exact absurd (Option.some.inj (A55.out.symm.trans A62.out)) (by decide)
                | skip
                  have H' := Aside0.mk H
                  clear H
                  have hnb64 := NB341_342.out
                  have hnc64 := NB342_341.out
                  have hcz65_0 : wr.cell? ⟨gb341, 0, none⟩ = some (.int .i64 a0_0) := (blk_cell BK341.out 0).trans rfl
                  have hcz65_1 : wr.cell? ⟨gb341, 1, none⟩ = some (.int .u64 a0_1) := (blk_cell BK341.out 1).trans rfl
                  have hfz65_0 := blk_frozen BK341.out 0
                  have hfz65_1 := blk_frozen BK341.out 1
                  go_wp2_with (first | ((with_reducible refine gate_callee (f := 40) rfl ?_); refine goesL_ (some 17) rfl rfl Try.func40 (by kernel_rfl) rfl #[.agg #[.int .i64 a0_0, .int .u64 a0_1], .int .i64 x8_1] rfl (by (try simp only [List.map_toArray, List.map_cons, List.map_nil]); first | done | rfl | (simp only [List.length_drop, List.length_take]; rfl)) ?_; (with_reducible refine (jalousieref02_Has.calls a0_0 a0_1 x8_1 false _ A7.out).mono ?_); rintro e w66 ⟨rfl, hb⟩; refine ⟨_, rfl, ?_⟩; have n0_ := Aside0.mk (blk_below (g := gb341) (o := .cells #[.int .i64 a0_0, .int .u64 a0_1] 25 (0, 0)) (by (with_reducible repeat (first | refine blk_drewN ?_ _ | refine blk_drew ?_ | refine blk_alloc ?_ _)); exact BK341.out) hb); have n1_ := Aside0.mk (blk_below (g := gb342) (o := .cells #[.int .i64 a1_0, .int .u64 a1_1] 25 (0, 0)) (by (with_reducible repeat (first | refine blk_drewN ?_ _ | refine blk_drew ?_ | refine blk_alloc ?_ _)); exact BK342.out) hb); have n2_ := Aside0.mk (below_step (by repeat (first | (with_reducible first | exact HB.out | apply below_alloc | apply pw_below_drewN | apply below_drew1 | refine below_set ?_ GE341.out | refine below_set ?_ GE342.out) | exact HB.out)) hb); clear BK341; clear BK342; clear HB; have BK341 := n0_; have BK342 := n1_; have HB := n2_; clear n0_ n1_ n2_; (try clear hb); (try clear hb2); (try clear hk); (try clear hi); have hcz67_0 : w66.cell? ⟨gb341, 0, none⟩ = some (.int .i64 a0_0) := (blk_cell BK341.out 0).trans rfl; have hcz67_1 : w66.cell? ⟨gb341, 1, none⟩ = some (.int .u64 a0_1) := (blk_cell BK341.out 1).trans rfl; have hfz67_0 := blk_frozen BK341.out 0; have hfz67_1 := blk_frozen BK341.out 1) | (go_at_call 40; (with_reducible refine (jalousieref02_Has.calls a0_0 a0_1 x8_1 false _ A55.out).mono ?_); rintro e w68 ⟨rfl, hb⟩; have n0_ := Aside0.mk (blk_below (g := gb341) (o := .cells #[.int .i64 a0_0, .int .u64 a0_1] 25 (0, 0)) (by (with_reducible repeat (first | refine blk_drewN ?_ _ | refine blk_drew ?_ | refine blk_alloc ?_ _)); exact BK341.out) hb); have n1_ := Aside0.mk (blk_below (g := gb342) (o := .cells #[.int .i64 a1_0, .int .u64 a1_1] 25 (0, 0)) (by (with_reducible repeat (first | refine blk_drewN ?_ _ | refine blk_drew ?_ | refine blk_alloc ?_ _)); exact BK342.out) hb); have n2_ := Aside0.mk (below_step (by repeat (first | (with_reducible first | exact HB.out | apply below_alloc | apply pw_below_drewN | apply below_drew1 | refine below_set ?_ GE341.out | refine below_set ?_ GE342.out) | exact HB.out)) hb); clear BK341; clear BK342; clear HB; have BK341 := n0_; have BK342 := n1_; have HB := n2_; clear n0_ n1_ n2_; (try clear hb); (try clear hb2); (try clear hk); (try clear hi); have hcz69_0 : w68.cell? ⟨gb342, 0, none⟩ = some (.int .i64 a1_0) := (blk_cell BK342.out 0).trans rfl; have hcz69_1 : w68.cell? ⟨gb342, 1, none⟩ = some (.int .u64 a1_1) := (blk_cell BK342.out 1).trans rfl; have hfz69_0 := blk_frozen BK342.out 0; have hfz69_1 := blk_frozen BK342.out 1) | (go_at_call 40; (with_reducible refine (jalousieref02_Has.calls a1_0 a1_1 x8_1 true _ A62.out).mono ?_); rintro e w70 ⟨rfl, hb⟩; have n0_ := Aside0.mk (blk_below (g := gb341) (o := .cells #[.int .i64 a0_0, .int .u64 a0_1] 25 (0, 0)) (by (with_reducible repeat (first | refine blk_drewN ?_ _ | refine blk_drew ?_ | refine blk_alloc ?_ _)); exact BK341.out) hb); have n1_ := Aside0.mk (blk_below (g := gb342) (o := .cells #[.int .i64 a1_0, .int .u64 a1_1] 25 (0, 0)) (by (with_reducible repeat (first | refine blk_drewN ?_ _ | refine blk_drew ?_ | refine blk_alloc ?_ _)); exact BK342.out) hb); have n2_ := Aside0.mk (below_step (by repeat (first | (with_reducible first | exact HB.out | apply below_alloc | apply pw_below_drewN | apply below_drew1 | refine below_set ?_ GE341.out | refine below_set ?_ GE342.out) | exact HB.out)) hb); clear BK341; clear BK342; clear HB; have BK341 := n0_; have BK342 := n1_; have HB := n2_; clear n0_ n1_ n2_; (try clear hb); (try clear hb2); (try clear hk); (try clear hi)))
                  go_roundg k1
                  case measure => have := HK1.out; omega
                  case rel => exact ⟨(IntKind.u64.wrap ((IntKind.u64.wrap (2 * x7_1)) + 1)), (wrap64 (x8_1 - 1)), (by first | rfl | (simp; done) | (simp [*]; done)), (by first | rfl | (simp; done) | (simp [*]; done)), H', ⟨by have := HK1.out; omega⟩, ⟨by (with_reducible repeat (first | refine blk_drewN ?_ _ | refine blk_drew ?_ | refine blk_alloc ?_ _)); exact BK341.out⟩, ⟨by (with_reducible repeat (first | refine blk_drewN ?_ _ | refine blk_drew ?_ | refine blk_alloc ?_ _)); exact BK342.out⟩, ⟨by repeat (first | (with_reducible first | exact HB.out | apply below_alloc | apply pw_below_drewN | apply below_drew1 | refine below_set ?_ GE341.out | refine below_set ?_ GE342.out) | exact HB.out)⟩⟩
              · replace c63 := Bool.eq_false_iff.mpr c63
                subst c63
                have H1 : (jalousieref02_pick.l0 k1 false (IntKind.u64.wrap (2 * x7_1)) (wrap64 (x8_1 - 1)) a0_0 a0_1 a1_0 a1_1) = some r := by rw [if_neg (show ¬ (false = true) by decide)] at H; exact H
                clear H
                have H := H1
                clear H1
                first
                | exact absurd (Option.some.inj (A7.out.symm.trans A55.out)) (by decide)
                | exact absurd (Option.some.inj (A7.out.symm.trans A62.out)) (by decide)
                | exact absurd (Option.some.inj (A55.out.symm.trans A62.out)) (by decide)
                | skip
                  have H' := Aside0.mk H
                  clear H
                  have hnb71 := NB341_342.out
                  have hnc71 := NB342_341.out
                  have hcz72_0 : wr.cell? ⟨gb341, 0, none⟩ = some (.int .i64 a0_0) := (blk_cell BK341.out 0).trans rfl
                  have hcz72_1 : wr.cell? ⟨gb341, 1, none⟩ = some (.int .u64 a0_1) := (blk_cell BK341.out 1).trans rfl
                  have hfz72_0 := blk_frozen BK341.out 0
                  have hfz72_1 := blk_frozen BK341.out 1
                  go_wp2_with (first | ((with_reducible refine gate_callee (f := 40) rfl ?_); refine goesL_ (some 17) rfl rfl Try.func40 (by kernel_rfl) rfl #[.agg #[.int .i64 a0_0, .int .u64 a0_1], .int .i64 x8_1] rfl (by (try simp only [List.map_toArray, List.map_cons, List.map_nil]); first | done | rfl | (simp only [List.length_drop, List.length_take]; rfl)) ?_; (with_reducible refine (jalousieref02_Has.calls a0_0 a0_1 x8_1 false _ A7.out).mono ?_); rintro e w73 ⟨rfl, hb⟩; refine ⟨_, rfl, ?_⟩; have n0_ := Aside0.mk (blk_below (g := gb341) (o := .cells #[.int .i64 a0_0, .int .u64 a0_1] 25 (0, 0)) (by (with_reducible repeat (first | refine blk_drewN ?_ _ | refine blk_drew ?_ | refine blk_alloc ?_ _)); exact BK341.out) hb); have n1_ := Aside0.mk (blk_below (g := gb342) (o := .cells #[.int .i64 a1_0, .int .u64 a1_1] 25 (0, 0)) (by (with_reducible repeat (first | refine blk_drewN ?_ _ | refine blk_drew ?_ | refine blk_alloc ?_ _)); exact BK342.out) hb); have n2_ := Aside0.mk (below_step (by repeat (first | (with_reducible first | exact HB.out | apply below_alloc | apply pw_below_drewN | apply below_drew1 | refine below_set ?_ GE341.out | refine below_set ?_ GE342.out) | exact HB.out)) hb); clear BK341; clear BK342; clear HB; have BK341 := n0_; have BK342 := n1_; have HB := n2_; clear n0_ n1_ n2_; (try clear hb); (try clear hb2); (try clear hk); (try clear hi); have hcz74_0 : w73.cell? ⟨gb341, 0, none⟩ = some (.int .i64 a0_0) := (blk_cell BK341.out 0).trans rfl; have hcz74_1 : w73.cell? ⟨gb341, 1, none⟩ = some (.int .u64 a0_1) := (blk_cell BK341.out 1).trans rfl; have hfz74_0 := blk_frozen BK341.out 0; have hfz74_1 := blk_frozen BK341.out 1) | (go_at_call 40; (with_reducible refine (jalousieref02_Has.calls a0_0 a0_1 x8_1 false _ A55.out).mono ?_); rintro e w75 ⟨rfl, hb⟩; have n0_ := Aside0.mk (blk_below (g := gb341) (o := .cells #[.int .i64 a0_0, .int .u64 a0_1] 25 (0, 0)) (by (with_reducible repeat (first | refine blk_drewN ?_ _ | refine blk_drew ?_ | refine blk_alloc ?_ _)); exact BK341.out) hb); have n1_ := Aside0.mk (blk_below (g := gb342) (o := .cells #[.int .i64 a1_0, .int .u64 a1_1] 25 (0, 0)) (by (with_reducible repeat (first | refine blk_drewN ?_ _ | refine blk_drew ?_ | refine blk_alloc ?_ _)); exact BK342.out) hb); have n2_ := Aside0.mk (below_step (by repeat (first | (with_reducible first | exact HB.out | apply below_alloc | apply pw_below_drewN | apply below_drew1 | refine below_set ?_ GE341.out | refine below_set ?_ GE342.out) | exact HB.out)) hb); clear BK341; clear BK342; clear HB; have BK341 := n0_; have BK342 := n1_; have HB := n2_; clear n0_ n1_ n2_; (try clear hb); (try clear hb2); (try clear hk); (try clear hi); have hcz76_0 : w75.cell? ⟨gb342, 0, none⟩ = some (.int .i64 a1_0) := (blk_cell BK342.out 0).trans rfl; have hcz76_1 : w75.cell? ⟨gb342, 1, none⟩ = some (.int .u64 a1_1) := (blk_cell BK342.out 1).trans rfl; have hfz76_0 := blk_frozen BK342.out 0; have hfz76_1 := blk_frozen BK342.out 1) | (go_at_call 40; (with_reducible refine (jalousieref02_Has.calls a1_0 a1_1 x8_1 false _ A62.out).mono ?_); rintro e w77 ⟨rfl, hb⟩; have n0_ := Aside0.mk (blk_below (g := gb341) (o := .cells #[.int .i64 a0_0, .int .u64 a0_1] 25 (0, 0)) (by (with_reducible repeat (first | refine blk_drewN ?_ _ | refine blk_drew ?_ | refine blk_alloc ?_ _)); exact BK341.out) hb); have n1_ := Aside0.mk (blk_below (g := gb342) (o := .cells #[.int .i64 a1_0, .int .u64 a1_1] 25 (0, 0)) (by (with_reducible repeat (first | refine blk_drewN ?_ _ | refine blk_drew ?_ | refine blk_alloc ?_ _)); exact BK342.out) hb); have n2_ := Aside0.mk (below_step (by repeat (first | (with_reducible first | exact HB.out | apply below_alloc | apply pw_below_drewN | apply below_drew1 | refine below_set ?_ GE341.out | refine below_set ?_ GE342.out) | exact HB.out)) hb); clear BK341; clear BK342; clear HB; have BK341 := n0_; have BK342 := n1_; have HB := n2_; clear n0_ n1_ n2_; (try clear hb); (try clear hb2); (try clear hk); (try clear hi)))
                  go_roundg k1
                  case measure => have := HK1.out; omega
                  case rel => exact ⟨(IntKind.u64.wrap (2 * x7_1)), (wrap64 (x8_1 - 1)), (by first | rfl | (simp; done) | (simp [*]; done)), (by first | rfl | (simp; done) | (simp [*]; done)), H', ⟨by have := HK1.out; omega⟩, ⟨by (with_reducible repeat (first | refine blk_drewN ?_ _ | refine blk_drew ?_ | refine blk_alloc ?_ _)); exact BK341.out⟩, ⟨by (with_reducible repeat (first | refine blk_drewN ?_ _ | refine blk_drew ?_ | refine blk_alloc ?_ _)); exact BK342.out⟩, ⟨by repeat (first | (with_reducible first | exact HB.out | apply below_alloc | apply pw_below_drewN | apply below_drew1 | refine below_set ?_ GE341.out | refine below_set ?_ GE342.out) | exact HB.out)⟩⟩
      · rw [if_neg c6] at H
        have c6b0 : decide (0 ≤ x8_1) = false := decide_eq_false c6
        clear c6
        obtain rfl := Option.some.inj H
        go_wp2
        go_ret
        exact ⟨by first | rfl | (simp [errW_none, errW_some] <;> rfl) | (simp [*, errW_none, errW_some] <;> rfl), by repeat (first | (with_reducible first | exact HB.out | apply below_alloc | apply pw_below_drewN | apply below_drew1 | refine below_set ?_ GE341.out | refine below_set ?_ GE342.out) | exact HB.out)⟩

end Go.Proofs.Ytdbdfnkhbcgklaa.V
