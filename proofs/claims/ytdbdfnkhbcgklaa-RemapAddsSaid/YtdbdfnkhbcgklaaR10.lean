-- PRINTED by print.py (a twelfth state) out of the translation. Not trusted: Lean checks it.
import Derived.Test.YtdbdfnkhbcgklaaR0
import Derived.Test.YtdbdfnkhbcgklaaR7
import Derived.Test.YtdbdfnkhbcgklaaR8
import Derived.Test.YtdbdfnkhbcgklaaR9
namespace Go.Proofs.Ytdbdfnkhbcgklaa.R
open Go.RowKit Go.Proofs.YtdbdfnkhbcgklaaW.PrintWords Go.Proofs.YtdbdfnkhbcgklaaW.PrintLast Go.Proofs.YtdbdfnkhbcgklaaW.PrintMore
attribute [local go_sem] max2_int min2_int max_two min_two max_three min_three max_four min_four   -- for this text's walks alone
set_option linter.unusedVariables false
set_option linter.unusedSimpArgs false

/-! ### jalousielaw17_live: function 16 -/
def jalousielaw17_live.f (k : Nat)  : Option (Bool) := (some (([(⟨0, 0⟩ : S25), (⟨1, 0⟩ : S25), (⟨0, 0⟩ : S25)] : List (S25)) : List (S25))).bind fun y117 => ((remap_Full.f y117 0 0 1).bind fun bt120 => ((remap_Last.f y117 1 0).bind fun bt122 => (if bt120.1 = 2 then (if bt120.2 = true then (if bt122.1 = 2 then (if bt122.2 = true then ((remap_Count.f k y117 0 0).bind fun t124 => (some (t124 == 2))) else (some false)) else (some false)) else (some false)) else (some false))))
theorem jalousielaw17_live.mono : ∀ k, LeO (jalousielaw17_live.f k ) (jalousielaw17_live.f (k + 1) ) := by
  intro  k
  unfold jalousielaw17_live.f
  repeat' first
      | (with_reducible exact remap_Count.mono _ _ _ _)
      | (with_reducible exact LeO.refl _)
      | (with_reducible exact LeO.none _)
      | (with_reducible refine LeO.ite ?_ ?_)
      | (with_reducible refine LeO.bind ?_ (fun _ => ?_))
      | exact remap_Count.mono _ _ _ _
      | exact LeO.none _
      | refine LeO.ite ?_ ?_
      | refine LeO.bind ?_ (fun _ => ?_)
set_option maxHeartbeats 8000000 in
set_option maxRecDepth 100000 in
theorem jalousielaw17_live.calls (k : Nat)  (r : Bool) (w : World) (h : jalousielaw17_live.f k  = some r) (HRT : Aside0 (r = true) := by exact ⟨rfl⟩) :
    Calls Try.prog 16 #[] w fun e w' => e = .returned (.bool r) ∧ Below w.heap.size w w' := by
  have hu25 := Try.underlying25
  have HB := Aside0.mk (Below.refl w.heap.size w)
  have H : ((some (([(⟨0, 0⟩ : S25), (⟨1, 0⟩ : S25), (⟨0, 0⟩ : S25)] : List (S25)) : List (S25))).bind fun y117 => ((remap_Full.f y117 0 0 1).bind fun bt120 => ((remap_Last.f y117 1 0).bind fun bt122 => (if bt120.1 = 2 then (if bt120.2 = true then (if bt122.1 = 2 then (if bt122.2 = true then ((remap_Count.f k y117 0 0).bind fun t124 => (some (t124 == 2))) else (some false)) else (some false)) else (some false)) else (some false))))) = some r := h
  clear h
  obtain ⟨y117, hy117⟩ : ∃ y_ : List (S25), y_ = (([(⟨0, 0⟩ : S25), (⟨1, 0⟩ : S25), (⟨0, 0⟩ : S25)] : List (S25))) := ⟨_, rfl⟩
  replace H : ((remap_Full.f y117 0 0 1).bind fun bt120 => ((remap_Last.f y117 1 0).bind fun bt122 => (if bt120.1 = 2 then (if bt120.2 = true then (if bt122.1 = 2 then (if bt122.2 = true then ((remap_Count.f k y117 0 0).bind fun t124 => (some (t124 == 2))) else (some false)) else (some false)) else (some false)) else (some false)))) = some r := by first | (rw [hy117]; with_reducible exact H) | (have H2_ := (Option.bind_some _ _).symm.trans H; rw [hy117]; with_reducible exact H2_) | (have H2_ := (Option.bind_some _ _).symm.trans H; with_reducible exact H2_) | with_reducible exact H | (rw [hy117]; exact H) | exact H
  have Ny117 := Aside0.mk hy117
  clear hy117
  replace H := Option.bind_eq_some_iff.mp H
  obtain ⟨⟨t120, t121⟩, A10, H⟩ := H
  replace H : ((remap_Last.f y117 1 0).bind fun bt122 => (if t120 = 2 then (if t121 = true then (if bt122.1 = 2 then (if bt122.2 = true then ((remap_Count.f k y117 0 0).bind fun t124 => (some (t124 == 2))) else (some false)) else (some false)) else (some false)) else (some false))) = some r := H
  have A1 := Aside0.mk A10
  clear A10
  replace H := Option.bind_eq_some_iff.mp H
  obtain ⟨⟨t122, t123⟩, A20, H⟩ := H
  replace H : (if t120 = 2 then (if t121 = true then (if t122 = 2 then (if t123 = true then ((remap_Count.f k y117 0 0).bind fun t124 => (some (t124 == 2))) else (some false)) else (some false)) else (some false)) else (some false)) = some r := H
  have A2 := Aside0.mk A20
  clear A20
  by_cases c3 : t120 = 2
  · rw [if_pos c3] at H
    have c3b0 : (t120 == 2) = true := beq_iff_eq.mpr c3
    have c3b1 : (t120 != 2) = false := bne_eq_false_iff_eq.mpr c3
    clear c3
    by_cases c4 : t121 = true
    · subst c4
      have H1 : (if t122 = 2 then (if t123 = true then ((remap_Count.f k y117 0 0).bind fun t124 => (some (t124 == 2))) else (some false)) else (some false)) = some r := by rw [if_pos rfl] at H; exact H
      clear H
      have H := H1
      clear H1
      by_cases c5 : t122 = 2
      · rw [if_pos c5] at H
        have c5b0 : (t122 == 2) = true := beq_iff_eq.mpr c5
        have c5b1 : (t122 != 2) = false := bne_eq_false_iff_eq.mpr c5
        clear c5
        by_cases c6 : t123 = true
        · subst c6
          have H1 : ((remap_Count.f k y117 0 0).bind fun t124 => (some (t124 == 2))) = some r := by rw [if_pos rfl] at H; exact H
          clear H
          have H := H1
          clear H1
          replace H := Option.bind_eq_some_iff.mp H
          obtain ⟨t124, A70, H⟩ := H
          replace H : (some (t124 == 2)) = some r := H
          have A7 := Aside0.mk A70
          clear A70
          obtain rfl := Option.some.inj H
          go_enter Try.func16, Try.ntmps16
          go_wp2_with (first | ((with_reducible refine gate_dst (N := 9) rfl ?_); refine Kd.R_lit k25 _ 25 ?hg (N := 9) ?hd (xs := ([(⟨0, 0⟩ : S25), (⟨1, 0⟩ : S25), (⟨0, 0⟩ : S25)] : List (S25))) (inner := [.int .i64 0, .int .u64 0, .int .i64 1, .int .u64 0, .int .i64 0, .int .u64 0]) (ok := fun _ => True) (okp := fun _ => True) ?hr ?hp (fun _ hk => hk) trivial (Below.refl _ _) (Nat.le_refl _) (by simp) ?_; (case hd => rfl); (case hg => rfl); (case hr => first | (go_simp; done) | (go_simp; rfl)); (case hp => exact (Reps.c2 (show Kd.M k25 _ _ _ (⟨0, 0⟩ : S25) [.int .i64 0, .int .u64 0] from (k25_mkM _ _ _ (⟨0, 0⟩ : S25) )) (Reps.c2 (show Kd.M k25 _ _ _ (⟨1, 0⟩ : S25) [.int .i64 1, .int .u64 0] from (k25_mkM _ _ _ (⟨1, 0⟩ : S25) )) (Reps.c2 (show Kd.M k25 _ _ _ (⟨0, 0⟩ : S25) [.int .i64 0, .int .u64 0] from (k25_mkM _ _ _ (⟨0, 0⟩ : S25) )) (Reps.none _ _))))); intro v118 w8 ho9 hb hg_ hnew_; clear hg_ hnew_; (first | rw [← Ny117.out] at ho9 | (simp only [Int.reduceToNat] at ho9; rw [← Ny117.out] at ho9)); have n0_ := Aside0.mk (Kd.R_lower ho9 (below_size (by repeat (first | (with_reducible first | exact HB.out | apply below_alloc | apply pw_below_drewN | apply below_drew1) | exact HB.out)))); have n1_ := Aside0.mk (below_step (by repeat (first | (with_reducible first | exact HB.out | apply below_alloc | apply pw_below_drewN | apply below_drew1) | exact HB.out)) hb); clear HB; have HO119 := n0_; have HB := n1_; clear n0_ n1_; clear hb ho9; obtain ⟨Ao10, co10, eo10⟩ := Kd.R_slice HO119.out; subst eo10) | ((with_reducible refine gate_callee (f := 15) rfl ?_); refine goesL_ (some 13) rfl rfl Try.func15 (by kernel_rfl) rfl #[.slice Ao10 y117.length co10, .agg #[.int .i64 0, .int .u64 0], .int .i64 1] rfl (by (try simp only [List.map_toArray, List.map_cons, List.map_nil]); first | done | rfl | (simp only [List.length_drop, List.length_take]; rfl)) ?_; (with_reducible refine (remap_Full.calls _ _ y117 0 0 1 t120 true _ ?side1 ?side2 A1.out).mono ?_); (case side1 => repeat (first | exact (Kd.R_reads' HO119.out).2.2 | (with_reducible refine Kd.C_alloc ?_ _) | (with_reducible refine Kd.C_drewN ?_ _) | (with_reducible refine Kd.C_drew ?_))); (case side2 => exact (Kd.R_reads' HO119.out).2.1); rintro e w11 ⟨rfl, hb⟩; refine ⟨_, rfl, ?_⟩; have n0_ := Aside0.mk (Kd.R_below (by (with_reducible repeat (first | apply Kd.R_alloc | apply Kd.R_drewN | apply Kd.R_drew)); exact HO119.out) hb); have n1_ := Aside0.mk (below_step (by repeat (first | (with_reducible first | exact HB.out | apply below_alloc | apply pw_below_drewN | apply below_drew1) | exact HB.out)) hb); clear HO119; clear HB; have HO119 := n0_; have HB := n1_; clear n0_ n1_; (try clear hb); (try clear hb2); (try clear hk); (try clear hi)) | ((with_reducible refine gate_callee (f := 21) rfl ?_); refine goesL_ (some 19) rfl rfl Try.func21 (by kernel_rfl) rfl #[.slice Ao10 y117.length co10, .agg #[.int .i64 1, .int .u64 0]] rfl (by (try simp only [List.map_toArray, List.map_cons, List.map_nil]); first | done | rfl | (simp only [List.length_drop, List.length_take]; rfl)) ?_; (with_reducible refine (remap_Last.calls _ _ y117 1 0 t122 true _ ?side1 ?side2 A2.out).mono ?_); (case side1 => repeat (first | exact (Kd.R_reads' HO119.out).2.2 | (with_reducible refine Kd.C_alloc ?_ _) | (with_reducible refine Kd.C_drewN ?_ _) | (with_reducible refine Kd.C_drew ?_))); (case side2 => exact (Kd.R_reads' HO119.out).2.1); rintro e w12 ⟨rfl, hb⟩; refine ⟨_, rfl, ?_⟩; have n0_ := Aside0.mk (Kd.R_below (by (with_reducible repeat (first | apply Kd.R_alloc | apply Kd.R_drewN | apply Kd.R_drew)); exact HO119.out) hb); have n1_ := Aside0.mk (below_step (by repeat (first | (with_reducible first | exact HB.out | apply below_alloc | apply pw_below_drewN | apply below_drew1) | exact HB.out)) hb); clear HO119; clear HB; have HO119 := n0_; have HB := n1_; clear n0_ n1_; (try clear hb); (try clear hb2); (try clear hk); (try clear hi)) | (go_at_call 23; (with_reducible refine (remap_Count.calls k _ _ y117 0 0 t124 _ ?side1 ?side2 A7.out).mono ?_); (case side1 => repeat (first | exact (Kd.R_reads' HO119.out).2.2 | (with_reducible refine Kd.C_alloc ?_ _) | (with_reducible refine Kd.C_drewN ?_ _) | (with_reducible refine Kd.C_drew ?_))); (case side2 => exact (Kd.R_reads' HO119.out).2.1); rintro e w13 ⟨rfl, hb⟩; have n0_ := Aside0.mk (Kd.R_below (by (with_reducible repeat (first | apply Kd.R_alloc | apply Kd.R_drewN | apply Kd.R_drew)); exact HO119.out) hb); have n1_ := Aside0.mk (below_step (by repeat (first | (with_reducible first | exact HB.out | apply below_alloc | apply pw_below_drewN | apply below_drew1) | exact HB.out)) hb); clear HO119; clear HB; have HO119 := n0_; have HB := n1_; clear n0_ n1_; (try clear hb); (try clear hb2); (try clear hk); (try clear hi)))
          go_ret
          exact ⟨by first | rfl | (simp [errW_none, errW_some] <;> rfl) | (simp [*, errW_none, errW_some] <;> rfl), by repeat (first | (with_reducible first | exact HB.out | apply below_alloc | apply pw_below_drewN | apply below_drew1) | exact HB.out)⟩
        · replace c6 := Bool.eq_false_iff.mpr c6
          subst c6
          have H1 : (some false) = some r := by rw [if_neg (show ¬ (false = true) by decide)] at H; exact H
          clear H
          have H := H1
          clear H1
          exact absurd (Option.some.inj (H.trans (congrArg some HRT.out))) (by decide)
      · rw [if_neg c5] at H
        have c5b0 : (t122 == 2) = false := beq_eq_false_iff_ne.mpr c5
        have c5b1 : (t122 != 2) = true := bne_iff_ne.mpr c5
        exact absurd (Option.some.inj (H.trans (congrArg some HRT.out))) (by decide)
    · replace c4 := Bool.eq_false_iff.mpr c4
      subst c4
      have H1 : (some false) = some r := by rw [if_neg (show ¬ (false = true) by decide)] at H; exact H
      clear H
      have H := H1
      clear H1
      exact absurd (Option.some.inj (H.trans (congrArg some HRT.out))) (by decide)
  · rw [if_neg c3] at H
    have c3b0 : (t120 == 2) = false := beq_eq_false_iff_ne.mpr c3
    have c3b1 : (t120 != 2) = true := bne_iff_ne.mpr c3
    exact absurd (Option.some.inj (H.trans (congrArg some HRT.out))) (by decide)

end Go.Proofs.Ytdbdfnkhbcgklaa.R
