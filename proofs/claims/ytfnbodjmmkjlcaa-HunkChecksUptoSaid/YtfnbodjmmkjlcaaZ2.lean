/-
  What the claim needs of the words, of the walks and of the plain proofs, in one row (2).
-/
import Derived.Deep.RegionHeld3
import Derived.WalkLawsBesides
import Derived.WalkSpells
import Derived.RangeFuncNested
import Derived.RangeFuncBound
import Derived.RangeFuncCalls
import Derived.RangeFuncLeaves
import Derived.RangeFuncBox
import Derived.RangeFuncMany
import Derived.Shelf.Abstract
import Derived.OwnWalkIn
import Derived.TacticsInMore
import Derived.LoopNIn
import Derived.LoopIn
import Derived.Test.YtfnbodjmmkjlcaaZ0
import Derived.Test.YtfnbodjmmkjlcaaZ1
section
namespace Go.Proofs.Ytfnbodjmmkjlcaa.H
open Go.RowKit Go.Proofs.YtfnbodjmmkjlcaaW.PrintWords Go.Proofs.YtfnbodjmmkjlcaaW.PrintLast Go.Proofs.YtfnbodjmmkjlcaaW.PrintMore
attribute [local go_sem] max2_int min2_int max_two min_two max_three min_three max_four min_four   -- for this text's walks alone
set_option linter.unusedVariables false
set_option linter.unusedSimpArgs false

def hunk_right.f (k : Nat) (a0_0 : Int) (a0_1 : Int) (a0_2 : Int) (a0_3 : Int) (l0_4 : List (S47)) : Option (Bool) := (script_Normal.f k l0_4).bind fun bt136 => ((script_Sides.f k l0_4).bind fun bt140 => (if bt136.2 = 0 then ((hunk_same.f k bt136.1 l0_4).bind fun t147 => (if t147 = true then ((script_Changed.f k bt136.1).bind fun t148 => (if t148 > 0 then (if (bt140.1.length : Int) = a0_1 then (if (bt140.2.1.length : Int) = a0_3 then ((hunk_within.f a0_1).bind fun t149 => (if t149 = true then ((hunk_within.f a0_3).bind fun t150 => (some t150)) else (some false))) else (some false)) else (some false)) else (some false))) else (some false))) else (some false)))
theorem hunk_right.mono : ∀ a0 a1 a2 a3 a4 k, LeO (hunk_right.f k a0 a1 a2 a3 a4) (hunk_right.f (k + 1) a0 a1 a2 a3 a4) := by
 intro a0 a1 a2 a3 a4 k
 unfold hunk_right.f
 repeat' first
   | (with_reducible exact hunk_same.mono _ _ _)
   | (with_reducible exact script_Changed.mono _ _)
   | (with_reducible exact script_Normal.mono _ _)
   | (with_reducible exact script_Sides.mono _ _)
   | (with_reducible exact LeO.refl _)
   | (with_reducible exact LeO.none _)
   | (with_reducible refine LeO.ite ?_ ?_)
   | (with_reducible refine LeO.bind ?_ (fun _ => ?_))
   | exact hunk_same.mono _ _ _
   | exact script_Changed.mono _ _
   | exact script_Normal.mono _ _
   | exact script_Sides.mono _ _
   | exact LeO.none _
   | refine LeO.ite ?_ ?_
   | refine LeO.bind ?_ (fun _ => ?_)
set_option maxHeartbeats 8000000 in
set_option maxRecDepth 100000 in
theorem hunk_right.calls (k : Nat) (a0_0 : Int) (a0_1 : Int) (a0_2 : Int) (a0_3 : Int) (A0_4 : Option Addr) (c0_4 : Nat) (l0_4 : List (S47)) (r : Bool) (w : World) (hr0_4 : Kd.C k47 w A0_4 l0_4.length l0_4) (hc0_4 : l0_4.length ≤ c0_4) (h : hunk_right.f k a0_0 a0_1 a0_2 a0_3 l0_4 = some r) :
  Calls Try.prog 50 #[.agg #[.int .i64 a0_0, .int .i64 a0_1, .int .i64 a0_2, .int .i64 a0_3, .slice A0_4 l0_4.length c0_4]] w fun e w' => e = .returned (.bool r) ∧ Below w.heap.size w w' := by
 have hu44 := Try.underlying44
 have HR0_4 := Aside0.mk hr0_4
 have HC0_4 := Aside0.mk hc0_4
 clear hr0_4 hc0_4
 have HB := Aside0.mk (Below.refl w.heap.size w)
 have H : ((script_Normal.f k l0_4).bind fun bt136 => ((script_Sides.f k l0_4).bind fun bt140 => (if bt136.2 = 0 then ((hunk_same.f k bt136.1 l0_4).bind fun t147 => (if t147 = true then ((script_Changed.f k bt136.1).bind fun t148 => (if t148 > 0 then (if (bt140.1.length : Int) = a0_1 then (if (bt140.2.1.length : Int) = a0_3 then ((hunk_within.f a0_1).bind fun t149 => (if t149 = true then ((hunk_within.f a0_3).bind fun t150 => (some t150)) else (some false))) else (some false)) else (some false)) else (some false))) else (some false))) else (some false)))) = some r := h
 clear h
 replace H := Option.bind_eq_some_iff.mp H
 obtain ⟨⟨t136, t137⟩, A20, H⟩ := H
 replace H : ((script_Sides.f k l0_4).bind fun bt140 => (if t137 = 0 then ((hunk_same.f k t136 l0_4).bind fun t147 => (if t147 = true then ((script_Changed.f k t136).bind fun t148 => (if t148 > 0 then (if (bt140.1.length : Int) = a0_1 then (if (bt140.2.1.length : Int) = a0_3 then ((hunk_within.f a0_1).bind fun t149 => (if t149 = true then ((hunk_within.f a0_3).bind fun t150 => (some t150)) else (some false))) else (some false)) else (some false)) else (some false))) else (some false))) else (some false))) = some r := H
 have A2 := Aside0.mk A20
 clear A20
 replace H := Option.bind_eq_some_iff.mp H
 obtain ⟨⟨t140, t141, t142⟩, A30, H⟩ := H
 replace H : (if t137 = 0 then ((hunk_same.f k t136 l0_4).bind fun t147 => (if t147 = true then ((script_Changed.f k t136).bind fun t148 => (if t148 > 0 then (if (t140.length : Int) = a0_1 then (if (t141.length : Int) = a0_3 then ((hunk_within.f a0_1).bind fun t149 => (if t149 = true then ((hunk_within.f a0_3).bind fun t150 => (some t150)) else (some false))) else (some false)) else (some false)) else (some false))) else (some false))) else (some false)) = some r := H
 have A3 := Aside0.mk A30
 clear A30
 by_cases c4 : t137 = 0
 ·rw [if_pos c4] at H
  have c4b0 : (t137 == 0) = true := beq_iff_eq.mpr c4
  have c4b1 : (t137 != 0) = false := bne_eq_false_iff_eq.mpr c4
  clear c4
  replace H := Option.bind_eq_some_iff.mp H
  obtain ⟨t147, A50, H⟩ := H
  replace H : (if t147 = true then ((script_Changed.f k t136).bind fun t148 => (if t148 > 0 then (if (t140.length : Int) = a0_1 then (if (t141.length : Int) = a0_3 then ((hunk_within.f a0_1).bind fun t149 => (if t149 = true then ((hunk_within.f a0_3).bind fun t150 => (some t150)) else (some false))) else (some false)) else (some false)) else (some false))) else (some false)) = some r := H
  have A5 := Aside0.mk A50
  clear A50
  by_cases c6 : t147 = true
  ·subst c6
   have H1 : ((script_Changed.f k t136).bind fun t148 => (if t148 > 0 then (if (t140.length : Int) = a0_1 then (if (t141.length : Int) = a0_3 then ((hunk_within.f a0_1).bind fun t149 => (if t149 = true then ((hunk_within.f a0_3).bind fun t150 => (some t150)) else (some false))) else (some false)) else (some false)) else (some false))) = some r := by rw [if_pos rfl] at H; exact H
   clear H
   have H := H1
   clear H1
   replace H := Option.bind_eq_some_iff.mp H
   obtain ⟨t148, A70, H⟩ := H
   replace H : (if t148 > 0 then (if (t140.length : Int) = a0_1 then (if (t141.length : Int) = a0_3 then ((hunk_within.f a0_1).bind fun t149 => (if t149 = true then ((hunk_within.f a0_3).bind fun t150 => (some t150)) else (some false))) else (some false)) else (some false)) else (some false)) = some r := H
   have A7 := Aside0.mk A70
   clear A70
   by_cases c8 : t148 > 0
   ·rw [if_pos c8] at H
    have c8b0 : decide (0 < t148) = true := decide_eq_true c8
    clear c8
    by_cases c9 : (t140.length : Int) = a0_1
    ·rw [if_pos c9] at H
     have c9b0 : ((t140.length : Int) == a0_1) = true := beq_iff_eq.mpr c9
     have c9b1 : ((t140.length : Int) != a0_1) = false := bne_eq_false_iff_eq.mpr c9
     clear c9
     by_cases c10 : (t141.length : Int) = a0_3
     ·rw [if_pos c10] at H
      have c10b0 : ((t141.length : Int) == a0_3) = true := beq_iff_eq.mpr c10
      have c10b1 : ((t141.length : Int) != a0_3) = false := bne_eq_false_iff_eq.mpr c10
      clear c10
      replace H := Option.bind_eq_some_iff.mp H
      obtain ⟨t149, A110, H⟩ := H
      replace H : (if t149 = true then ((hunk_within.f a0_3).bind fun t150 => (some t150)) else (some false)) = some r := H
      have A11 := Aside0.mk A110
      clear A110
      by_cases c12 : t149 = true
      ·subst c12
       have H1 : ((hunk_within.f a0_3).bind fun t150 => (some t150)) = some r := by rw [if_pos rfl] at H; exact H
       clear H
       have H := H1
       clear H1
       replace H := Option.bind_eq_some_iff.mp H
       obtain ⟨t150, A130, H⟩ := H
       replace H : (some t150) = some r := H
       have A13 := Aside0.mk A130
       clear A130
       obtain rfl := Option.some.inj H
       go_enter Try.func50, Try.ntmps50
       go_wp2_with (first | ((with_reducible refine gate_dst (N := 1) rfl ?_); (try (refine gate_guard (by rfl) ?_; dsimp only)); refine box_event ?hg (N := 1) ?hd (cs := #[.int .i64 a0_0, .int .i64 a0_1, .int .i64 a0_2, .int .i64 a0_3, .slice A0_4 l0_4.length c0_4]) (t := 44) ?hr ?_; (case hd => rfl); (case hg => rfl); (case hr => first | (go_simp; done) | (go_simp; rfl)); intro gb135 hg w14 hbox hb; have n0_ := Aside0.mk (below_step (by repeat (first | (with_reducible first | exact HB.out | apply below_alloc | apply pw_below_drewN | apply below_drew1) | exact HB.out)) hb); have n1_ := Aside0.mk (hbox); have n2_ := Aside0.mk ((by rw [hg]; exact (below_size (by repeat (first | (with_reducible first | exact HB.out | apply below_alloc | apply pw_below_drewN | apply below_drew1) | exact HB.out))) : w.heap.size ≤ gb135)); have n3_ := Aside0.mk ((by rw [hg]; exact (below_size (by repeat (first | (with_reducible first | exact HB.out | apply below_alloc | apply pw_below_drewN | apply below_drew1) | exact HB.out))) : w.heap.size ≤ gb135)); clear HB; have HB := n0_; have BK135 := n1_; have GW135 := n2_; have GE135 := n3_; clear n0_ n1_ n2_ n3_; clear hb hbox hg; have hcz15_0 : w14.cell? ⟨gb135, 0, none⟩ = some (.int .i64 a0_0) := (blk_cell BK135.out 0).trans rfl; have hcz15_1 : w14.cell? ⟨gb135, 1, none⟩ = some (.int .i64 a0_1) := (blk_cell BK135.out 1).trans rfl; have hcz15_2 : w14.cell? ⟨gb135, 2, none⟩ = some (.int .i64 a0_2) := (blk_cell BK135.out 2).trans rfl; have hcz15_3 : w14.cell? ⟨gb135, 3, none⟩ = some (.int .i64 a0_3) := (blk_cell BK135.out 3).trans rfl; have hcz15_4 : w14.cell? ⟨gb135, 4, none⟩ = some (.slice A0_4 l0_4.length c0_4) := (blk_cell BK135.out 4).trans rfl; have hfz15_0 := blk_frozen BK135.out 0; have hfz15_1 := blk_frozen BK135.out 1; have hfz15_2 := blk_frozen BK135.out 2; have hfz15_3 := blk_frozen BK135.out 3; have hfz15_4 := blk_frozen BK135.out 4) | ((with_reducible refine gate_callee (f := 42) rfl ?_); refine goesL_ (some 11) rfl rfl Try.func42 (by kernel_rfl) rfl #[.slice A0_4 l0_4.length c0_4] rfl (by (try simp only [List.map_toArray, List.map_cons, List.map_nil]); first | done | rfl | (simp only [List.length_drop, List.length_take]; rfl)) ?_; (with_reducible refine (script_Normal.calls k _ _ l0_4 t136 t137 _ ?side1 ?side2 A2.out).mono ?_); (case side1 => repeat (first | exact (Kd.C_below HR0_4.out HB.out) | (with_reducible refine Kd.C_alloc ?_ _) | (with_reducible refine Kd.C_drewN ?_ _) | (with_reducible refine Kd.C_drew ?_))); (case side2 => exact HC0_4.out); rintro e w16 ⟨v138, rfl, ho0, hb⟩; refine ⟨_, rfl, ?_⟩; have n0_ := Aside0.mk (Kd.S_lower ho0 (below_size (by repeat (first | (with_reducible first | exact HB.out | apply below_alloc | apply pw_below_drewN | apply below_drew1 | refine below_set ?_ GE135.out) | exact HB.out)))); have n1_ := Aside0.mk (blk_below (g := gb135) (o := .cells #[.int .i64 a0_0, .int .i64 a0_1, .int .i64 a0_2, .int .i64 a0_3, .slice A0_4 l0_4.length c0_4] 44 (0, 0)) (by (with_reducible repeat first|refine zb1 ?_ _|refine zb2 ?_|refine zb3 ?_ _); exact BK135.out) hb); have n2_ := Aside0.mk (below_step (by repeat (first | (with_reducible first | exact HB.out | apply below_alloc | apply pw_below_drewN | apply below_drew1 | refine below_set ?_ GE135.out) | exact HB.out)) hb); clear BK135; clear HB; have HO139 := n0_; have BK135 := n1_; have HB := n2_; clear n0_ n1_ n2_; (try clear hb); (try clear hb2); (try clear hk); (try clear hi); (try clear ho0); have hcz17_0 : w16.cell? ⟨gb135, 0, none⟩ = some (.int .i64 a0_0) := (blk_cell BK135.out 0).trans rfl; have hcz17_1 : w16.cell? ⟨gb135, 1, none⟩ = some (.int .i64 a0_1) := (blk_cell BK135.out 1).trans rfl; have hcz17_2 : w16.cell? ⟨gb135, 2, none⟩ = some (.int .i64 a0_2) := (blk_cell BK135.out 2).trans rfl; have hcz17_3 : w16.cell? ⟨gb135, 3, none⟩ = some (.int .i64 a0_3) := (blk_cell BK135.out 3).trans rfl; have hcz17_4 : w16.cell? ⟨gb135, 4, none⟩ = some (.slice A0_4 l0_4.length c0_4) := (blk_cell BK135.out 4).trans rfl; have hfz17_0 := blk_frozen BK135.out 0; have hfz17_1 := blk_frozen BK135.out 1; have hfz17_2 := blk_frozen BK135.out 2; have hfz17_3 := blk_frozen BK135.out 3; have hfz17_4 := blk_frozen BK135.out 4) | ((with_reducible refine gate_callee (f := 55) rfl ?_); refine goesL_ (some 17) rfl rfl Try.func55 (by kernel_rfl) rfl #[.slice A0_4 l0_4.length c0_4] rfl (by (try simp only [List.map_toArray, List.map_cons, List.map_nil]); first | done | rfl | (simp only [List.length_drop, List.length_take]; rfl)) ?_; (with_reducible refine (script_Sides.calls k _ _ l0_4 t140 t141 t142 _ ?side1 ?side2 A3.out).mono ?_); (case side1 => repeat (first | exact (Kd.C_below HR0_4.out HB.out) | (with_reducible refine Kd.C_alloc ?_ _) | (with_reducible refine Kd.C_drewN ?_ _) | (with_reducible refine Kd.C_drew ?_))); (case side2 => exact HC0_4.out); rintro e w18 ⟨v143, v145, rfl, ho0, ho1, hb⟩; refine ⟨_, rfl, ?_⟩; have n0_ := Aside0.mk (Kd.S_mono (Kd.S_told (Kd.S_told (Kd.S_old (by (with_reducible repeat (first | apply Kd.S_alloc | apply Kd.S_drewN | apply Kd.S_drew)); exact HO139.out) hb) (Kd.R_base ho0)) (Kd.R_base ho1)) (fun _ h_ => h_.1)); have n1_ := Aside0.mk (Kd.R_lower ho0 (below_size (by repeat (first | (with_reducible first | exact HB.out | apply below_alloc | apply pw_below_drewN | apply below_drew1 | refine below_set ?_ GE135.out) | exact HB.out)))); have n2_ := Aside0.mk (Kd.R_lower ho1 (below_size (by repeat (first | (with_reducible first | exact HB.out | apply below_alloc | apply pw_below_drewN | apply below_drew1 | refine below_set ?_ GE135.out) | exact HB.out)))); have n3_ := Aside0.mk (blk_below (g := gb135) (o := .cells #[.int .i64 a0_0, .int .i64 a0_1, .int .i64 a0_2, .int .i64 a0_3, .slice A0_4 l0_4.length c0_4] 44 (0, 0)) (by (with_reducible repeat first|refine zb1 ?_ _|refine zb2 ?_|refine zb3 ?_ _); exact BK135.out) hb); have n4_ := Aside0.mk (below_step (by repeat (first | (with_reducible first | exact HB.out | apply below_alloc | apply pw_below_drewN | apply below_drew1 | refine below_set ?_ GE135.out) | exact HB.out)) hb); clear HO139; clear BK135; clear HB; have HO139 := n0_; have HO144 := n1_; have HO146 := n2_; have BK135 := n3_; have HB := n4_; clear n0_ n1_ n2_ n3_ n4_; (try clear hb); (try clear hb2); (try clear hk); (try clear hi); (try clear ho0); (try clear ho1); have hcz19_0 : w18.cell? ⟨gb135, 0, none⟩ = some (.int .i64 a0_0) := (blk_cell BK135.out 0).trans rfl; have hcz19_1 : w18.cell? ⟨gb135, 1, none⟩ = some (.int .i64 a0_1) := (blk_cell BK135.out 1).trans rfl; have hcz19_2 : w18.cell? ⟨gb135, 2, none⟩ = some (.int .i64 a0_2) := (blk_cell BK135.out 2).trans rfl; have hcz19_3 : w18.cell? ⟨gb135, 3, none⟩ = some (.int .i64 a0_3) := (blk_cell BK135.out 3).trans rfl; have hcz19_4 : w18.cell? ⟨gb135, 4, none⟩ = some (.slice A0_4 l0_4.length c0_4) := (blk_cell BK135.out 4).trans rfl; have hfz19_0 := blk_frozen BK135.out 0; have hfz19_1 := blk_frozen BK135.out 1; have hfz19_2 := blk_frozen BK135.out 2; have hfz19_3 := blk_frozen BK135.out 3; have hfz19_4 := blk_frozen BK135.out 4; obtain ⟨Ao20, co20, eo20⟩ := Kd.S_slice HO139.out; subst eo20) | (go_at_call 71; (with_reducible refine (hunk_same.calls k _ _ t136 _ _ l0_4 true _ ?side1 ?side2 ?side3 ?side4 A5.out).mono ?_); (case side1 => repeat (first | exact (Kd.S_reads' HO139.out).2.2 | (with_reducible refine Kd.C_alloc ?_ _) | (with_reducible refine Kd.C_drewN ?_ _) | (with_reducible refine Kd.C_drew ?_))); (case side2 => exact (Kd.S_reads' HO139.out).2.1); (case side3 => repeat (first | exact (Kd.C_below HR0_4.out HB.out) | (with_reducible refine Kd.C_alloc ?_ _) | (with_reducible refine Kd.C_drewN ?_ _) | (with_reducible refine Kd.C_drew ?_))); (case side4 => exact HC0_4.out); rintro e w21 ⟨rfl, hb⟩; have n0_ := Aside0.mk (Kd.S_below (by (with_reducible repeat (first | apply Kd.S_alloc | apply Kd.S_drewN | apply Kd.S_drew)); exact HO139.out) hb); have n1_ := Aside0.mk (Kd.R_below (by (with_reducible repeat first|apply zr1|apply zr2|apply zr3); exact HO144.out) hb); have n2_ := Aside0.mk (Kd.R_below (by (with_reducible repeat first|apply zr1|apply zr2|apply zr3); exact HO146.out) hb); have n3_ := Aside0.mk (blk_below (g := gb135) (o := .cells #[.int .i64 a0_0, .int .i64 a0_1, .int .i64 a0_2, .int .i64 a0_3, .slice A0_4 l0_4.length c0_4] 44 (0, 0)) (by (with_reducible repeat first|refine zb1 ?_ _|refine zb2 ?_|refine zb3 ?_ _); exact BK135.out) hb); have n4_ := Aside0.mk (below_step (by repeat (first | (with_reducible first | exact HB.out | apply below_alloc | apply pw_below_drewN | apply below_drew1 | refine below_set ?_ GE135.out) | exact HB.out)) hb); clear HO139; clear HO144; clear HO146; clear BK135; clear HB; have HO139 := n0_; have HO144 := n1_; have HO146 := n2_; have BK135 := n3_; have HB := n4_; clear n0_ n1_ n2_ n3_ n4_; (try clear hb); (try clear hb2); (try clear hk); (try clear hi)) | (go_at_call 72; (with_reducible refine (script_Changed.calls k _ _ t136 t148 _ ?side1 ?side2 A7.out).mono ?_); (case side1 => repeat (first | exact (Kd.S_reads' HO139.out).2.2 | (with_reducible refine Kd.C_alloc ?_ _) | (with_reducible refine Kd.C_drewN ?_ _) | (with_reducible refine Kd.C_drew ?_))); (case side2 => exact (Kd.S_reads' HO139.out).2.1); rintro e w22 ⟨rfl, hb⟩; have n0_ := Aside0.mk (Kd.S_below (by (with_reducible repeat (first | apply Kd.S_alloc | apply Kd.S_drewN | apply Kd.S_drew)); exact HO139.out) hb); have n1_ := Aside0.mk (Kd.R_below (by (with_reducible repeat first|apply zr1|apply zr2|apply zr3); exact HO144.out) hb); have n2_ := Aside0.mk (Kd.R_below (by (with_reducible repeat first|apply zr1|apply zr2|apply zr3); exact HO146.out) hb); have n3_ := Aside0.mk (blk_below (g := gb135) (o := .cells #[.int .i64 a0_0, .int .i64 a0_1, .int .i64 a0_2, .int .i64 a0_3, .slice A0_4 l0_4.length c0_4] 44 (0, 0)) (by (with_reducible repeat first|refine zb1 ?_ _|refine zb2 ?_|refine zb3 ?_ _); exact BK135.out) hb); have n4_ := Aside0.mk (below_step (by repeat (first | (with_reducible first | exact HB.out | apply below_alloc | apply pw_below_drewN | apply below_drew1 | refine below_set ?_ GE135.out) | exact HB.out)) hb); clear HO139; clear HO144; clear HO146; clear BK135; clear HB; have HO139 := n0_; have HO144 := n1_; have HO146 := n2_; have BK135 := n3_; have HB := n4_; clear n0_ n1_ n2_ n3_ n4_; (try clear hb); (try clear hb2); (try clear hk); (try clear hi); obtain ⟨Ao23, co23, eo23⟩ := Kd.R_slice HO144.out; subst eo23; have hcz24_0 : w22.cell? ⟨gb135, 0, none⟩ = some (.int .i64 a0_0) := (blk_cell BK135.out 0).trans rfl; have hcz24_1 : w22.cell? ⟨gb135, 1, none⟩ = some (.int .i64 a0_1) := (blk_cell BK135.out 1).trans rfl; have hcz24_2 : w22.cell? ⟨gb135, 2, none⟩ = some (.int .i64 a0_2) := (blk_cell BK135.out 2).trans rfl; have hcz24_3 : w22.cell? ⟨gb135, 3, none⟩ = some (.int .i64 a0_3) := (blk_cell BK135.out 3).trans rfl; have hcz24_4 : w22.cell? ⟨gb135, 4, none⟩ = some (.slice A0_4 l0_4.length c0_4) := (blk_cell BK135.out 4).trans rfl; have hfz24_0 := blk_frozen BK135.out 0; have hfz24_1 := blk_frozen BK135.out 1; have hfz24_2 := blk_frozen BK135.out 2; have hfz24_3 := blk_frozen BK135.out 3; have hfz24_4 := blk_frozen BK135.out 4; obtain ⟨Ao25, co25, eo25⟩ := Kd.R_slice HO146.out; subst eo25) | (go_at_call 51; (with_reducible refine (hunk_within.calls a0_1 true _ A11.out).mono ?_); rintro e w' ⟨rfl, ⟨nd, rfl⟩⟩) | (go_at_call 51; (with_reducible refine (hunk_within.calls a0_3 t150 _ A13.out).mono ?_); rintro e w' ⟨rfl, ⟨nd, rfl⟩⟩))
       go_ret
       exact ⟨by first | rfl | (simp [errW_none, errW_some] <;> rfl) | (simp [*, errW_none, errW_some] <;> rfl), by repeat (first | (with_reducible first | exact HB.out | apply below_alloc | apply pw_below_drewN | apply below_drew1 | refine below_set ?_ GE135.out) | exact HB.out)⟩
      ·replace c12 := Bool.eq_false_iff.mpr c12
       subst c12
       have H1 : (some false) = some r := by rw [if_neg (show ¬ (false = true) by decide)] at H; exact H
       clear H
       have H := H1
       clear H1
       obtain rfl := Option.some.inj H
       go_enter Try.func50, Try.ntmps50
       go_wp2_with (first | ((with_reducible refine gate_dst (N := 1) rfl ?_); (try (refine gate_guard (by rfl) ?_; dsimp only)); refine box_event ?hg (N := 1) ?hd (cs := #[.int .i64 a0_0, .int .i64 a0_1, .int .i64 a0_2, .int .i64 a0_3, .slice A0_4 l0_4.length c0_4]) (t := 44) ?hr ?_; (case hd => rfl); (case hg => rfl); (case hr => first | (go_simp; done) | (go_simp; rfl)); intro gb135 hg w26 hbox hb; have n0_ := Aside0.mk (below_step (by repeat (first | (with_reducible first | exact HB.out | apply below_alloc | apply pw_below_drewN | apply below_drew1) | exact HB.out)) hb); have n1_ := Aside0.mk (hbox); have n2_ := Aside0.mk ((by rw [hg]; exact (below_size (by repeat (first | (with_reducible first | exact HB.out | apply below_alloc | apply pw_below_drewN | apply below_drew1) | exact HB.out))) : w.heap.size ≤ gb135)); have n3_ := Aside0.mk ((by rw [hg]; exact (below_size (by repeat (first | (with_reducible first | exact HB.out | apply below_alloc | apply pw_below_drewN | apply below_drew1) | exact HB.out))) : w.heap.size ≤ gb135)); clear HB; have HB := n0_; have BK135 := n1_; have GW135 := n2_; have GE135 := n3_; clear n0_ n1_ n2_ n3_; clear hb hbox hg; have hcz27_0 : w26.cell? ⟨gb135, 0, none⟩ = some (.int .i64 a0_0) := (blk_cell BK135.out 0).trans rfl; have hcz27_1 : w26.cell? ⟨gb135, 1, none⟩ = some (.int .i64 a0_1) := (blk_cell BK135.out 1).trans rfl; have hcz27_2 : w26.cell? ⟨gb135, 2, none⟩ = some (.int .i64 a0_2) := (blk_cell BK135.out 2).trans rfl; have hcz27_3 : w26.cell? ⟨gb135, 3, none⟩ = some (.int .i64 a0_3) := (blk_cell BK135.out 3).trans rfl; have hcz27_4 : w26.cell? ⟨gb135, 4, none⟩ = some (.slice A0_4 l0_4.length c0_4) := (blk_cell BK135.out 4).trans rfl; have hfz27_0 := blk_frozen BK135.out 0; have hfz27_1 := blk_frozen BK135.out 1; have hfz27_2 := blk_frozen BK135.out 2; have hfz27_3 := blk_frozen BK135.out 3; have hfz27_4 := blk_frozen BK135.out 4) | ((with_reducible refine gate_callee (f := 42) rfl ?_); refine goesL_ (some 11) rfl rfl Try.func42 (by kernel_rfl) rfl #[.slice A0_4 l0_4.length c0_4] rfl (by (try simp only [List.map_toArray, List.map_cons, List.map_nil]); first | done | rfl | (simp only [List.length_drop, List.length_take]; rfl)) ?_; (with_reducible refine (script_Normal.calls k _ _ l0_4 t136 t137 _ ?side1 ?side2 A2.out).mono ?_); (case side1 => repeat (first | exact (Kd.C_below HR0_4.out HB.out) | (with_reducible refine Kd.C_alloc ?_ _) | (with_reducible refine Kd.C_drewN ?_ _) | (with_reducible refine Kd.C_drew ?_))); (case side2 => exact HC0_4.out); rintro e w28 ⟨v138, rfl, ho0, hb⟩; refine ⟨_, rfl, ?_⟩; have n0_ := Aside0.mk (Kd.S_lower ho0 (below_size (by repeat (first | (with_reducible first | exact HB.out | apply below_alloc | apply pw_below_drewN | apply below_drew1 | refine below_set ?_ GE135.out) | exact HB.out)))); have n1_ := Aside0.mk (blk_below (g := gb135) (o := .cells #[.int .i64 a0_0, .int .i64 a0_1, .int .i64 a0_2, .int .i64 a0_3, .slice A0_4 l0_4.length c0_4] 44 (0, 0)) (by (with_reducible repeat first|refine zb1 ?_ _|refine zb2 ?_|refine zb3 ?_ _); exact BK135.out) hb); have n2_ := Aside0.mk (below_step (by repeat (first | (with_reducible first | exact HB.out | apply below_alloc | apply pw_below_drewN | apply below_drew1 | refine below_set ?_ GE135.out) | exact HB.out)) hb); clear BK135; clear HB; have HO139 := n0_; have BK135 := n1_; have HB := n2_; clear n0_ n1_ n2_; (try clear hb); (try clear hb2); (try clear hk); (try clear hi); (try clear ho0); have hcz29_0 : w28.cell? ⟨gb135, 0, none⟩ = some (.int .i64 a0_0) := (blk_cell BK135.out 0).trans rfl; have hcz29_1 : w28.cell? ⟨gb135, 1, none⟩ = some (.int .i64 a0_1) := (blk_cell BK135.out 1).trans rfl; have hcz29_2 : w28.cell? ⟨gb135, 2, none⟩ = some (.int .i64 a0_2) := (blk_cell BK135.out 2).trans rfl; have hcz29_3 : w28.cell? ⟨gb135, 3, none⟩ = some (.int .i64 a0_3) := (blk_cell BK135.out 3).trans rfl; have hcz29_4 : w28.cell? ⟨gb135, 4, none⟩ = some (.slice A0_4 l0_4.length c0_4) := (blk_cell BK135.out 4).trans rfl; have hfz29_0 := blk_frozen BK135.out 0; have hfz29_1 := blk_frozen BK135.out 1; have hfz29_2 := blk_frozen BK135.out 2; have hfz29_3 := blk_frozen BK135.out 3; have hfz29_4 := blk_frozen BK135.out 4) | ((with_reducible refine gate_callee (f := 55) rfl ?_); refine goesL_ (some 17) rfl rfl Try.func55 (by kernel_rfl) rfl #[.slice A0_4 l0_4.length c0_4] rfl (by (try simp only [List.map_toArray, List.map_cons, List.map_nil]); first | done | rfl | (simp only [List.length_drop, List.length_take]; rfl)) ?_; (with_reducible refine (script_Sides.calls k _ _ l0_4 t140 t141 t142 _ ?side1 ?side2 A3.out).mono ?_); (case side1 => repeat (first | exact (Kd.C_below HR0_4.out HB.out) | (with_reducible refine Kd.C_alloc ?_ _) | (with_reducible refine Kd.C_drewN ?_ _) | (with_reducible refine Kd.C_drew ?_))); (case side2 => exact HC0_4.out); rintro e w30 ⟨v143, v145, rfl, ho0, ho1, hb⟩; refine ⟨_, rfl, ?_⟩; have n0_ := Aside0.mk (Kd.S_mono (Kd.S_told (Kd.S_told (Kd.S_old (by (with_reducible repeat (first | apply Kd.S_alloc | apply Kd.S_drewN | apply Kd.S_drew)); exact HO139.out) hb) (Kd.R_base ho0)) (Kd.R_base ho1)) (fun _ h_ => h_.1)); have n1_ := Aside0.mk (Kd.R_lower ho0 (below_size (by repeat (first | (with_reducible first | exact HB.out | apply below_alloc | apply pw_below_drewN | apply below_drew1 | refine below_set ?_ GE135.out) | exact HB.out)))); have n2_ := Aside0.mk (Kd.R_lower ho1 (below_size (by repeat (first | (with_reducible first | exact HB.out | apply below_alloc | apply pw_below_drewN | apply below_drew1 | refine below_set ?_ GE135.out) | exact HB.out)))); have n3_ := Aside0.mk (blk_below (g := gb135) (o := .cells #[.int .i64 a0_0, .int .i64 a0_1, .int .i64 a0_2, .int .i64 a0_3, .slice A0_4 l0_4.length c0_4] 44 (0, 0)) (by (with_reducible repeat first|refine zb1 ?_ _|refine zb2 ?_|refine zb3 ?_ _); exact BK135.out) hb); have n4_ := Aside0.mk (below_step (by repeat (first | (with_reducible first | exact HB.out | apply below_alloc | apply pw_below_drewN | apply below_drew1 | refine below_set ?_ GE135.out) | exact HB.out)) hb); clear HO139; clear BK135; clear HB; have HO139 := n0_; have HO144 := n1_; have HO146 := n2_; have BK135 := n3_; have HB := n4_; clear n0_ n1_ n2_ n3_ n4_; (try clear hb); (try clear hb2); (try clear hk); (try clear hi); (try clear ho0); (try clear ho1); have hcz31_0 : w30.cell? ⟨gb135, 0, none⟩ = some (.int .i64 a0_0) := (blk_cell BK135.out 0).trans rfl; have hcz31_1 : w30.cell? ⟨gb135, 1, none⟩ = some (.int .i64 a0_1) := (blk_cell BK135.out 1).trans rfl; have hcz31_2 : w30.cell? ⟨gb135, 2, none⟩ = some (.int .i64 a0_2) := (blk_cell BK135.out 2).trans rfl; have hcz31_3 : w30.cell? ⟨gb135, 3, none⟩ = some (.int .i64 a0_3) := (blk_cell BK135.out 3).trans rfl; have hcz31_4 : w30.cell? ⟨gb135, 4, none⟩ = some (.slice A0_4 l0_4.length c0_4) := (blk_cell BK135.out 4).trans rfl; have hfz31_0 := blk_frozen BK135.out 0; have hfz31_1 := blk_frozen BK135.out 1; have hfz31_2 := blk_frozen BK135.out 2; have hfz31_3 := blk_frozen BK135.out 3; have hfz31_4 := blk_frozen BK135.out 4; obtain ⟨Ao32, co32, eo32⟩ := Kd.S_slice HO139.out; subst eo32) | (go_at_call 71; (with_reducible refine (hunk_same.calls k _ _ t136 _ _ l0_4 true _ ?side1 ?side2 ?side3 ?side4 A5.out).mono ?_); (case side1 => repeat (first | exact (Kd.S_reads' HO139.out).2.2 | (with_reducible refine Kd.C_alloc ?_ _) | (with_reducible refine Kd.C_drewN ?_ _) | (with_reducible refine Kd.C_drew ?_))); (case side2 => exact (Kd.S_reads' HO139.out).2.1); (case side3 => repeat (first | exact (Kd.C_below HR0_4.out HB.out) | (with_reducible refine Kd.C_alloc ?_ _) | (with_reducible refine Kd.C_drewN ?_ _) | (with_reducible refine Kd.C_drew ?_))); (case side4 => exact HC0_4.out); rintro e w33 ⟨rfl, hb⟩; have n0_ := Aside0.mk (Kd.S_below (by (with_reducible repeat (first | apply Kd.S_alloc | apply Kd.S_drewN | apply Kd.S_drew)); exact HO139.out) hb); have n1_ := Aside0.mk (Kd.R_below (by (with_reducible repeat first|apply zr1|apply zr2|apply zr3); exact HO144.out) hb); have n2_ := Aside0.mk (Kd.R_below (by (with_reducible repeat first|apply zr1|apply zr2|apply zr3); exact HO146.out) hb); have n3_ := Aside0.mk (blk_below (g := gb135) (o := .cells #[.int .i64 a0_0, .int .i64 a0_1, .int .i64 a0_2, .int .i64 a0_3, .slice A0_4 l0_4.length c0_4] 44 (0, 0)) (by (with_reducible repeat first|refine zb1 ?_ _|refine zb2 ?_|refine zb3 ?_ _); exact BK135.out) hb); have n4_ := Aside0.mk (below_step (by repeat (first | (with_reducible first | exact HB.out | apply below_alloc | apply pw_below_drewN | apply below_drew1 | refine below_set ?_ GE135.out) | exact HB.out)) hb); clear HO139; clear HO144; clear HO146; clear BK135; clear HB; have HO139 := n0_; have HO144 := n1_; have HO146 := n2_; have BK135 := n3_; have HB := n4_; clear n0_ n1_ n2_ n3_ n4_; (try clear hb); (try clear hb2); (try clear hk); (try clear hi)) | (go_at_call 72; (with_reducible refine (script_Changed.calls k _ _ t136 t148 _ ?side1 ?side2 A7.out).mono ?_); (case side1 => repeat (first | exact (Kd.S_reads' HO139.out).2.2 | (with_reducible refine Kd.C_alloc ?_ _) | (with_reducible refine Kd.C_drewN ?_ _) | (with_reducible refine Kd.C_drew ?_))); (case side2 => exact (Kd.S_reads' HO139.out).2.1); rintro e w34 ⟨rfl, hb⟩; have n0_ := Aside0.mk (Kd.S_below (by (with_reducible repeat (first | apply Kd.S_alloc | apply Kd.S_drewN | apply Kd.S_drew)); exact HO139.out) hb); have n1_ := Aside0.mk (Kd.R_below (by (with_reducible repeat first|apply zr1|apply zr2|apply zr3); exact HO144.out) hb); have n2_ := Aside0.mk (Kd.R_below (by (with_reducible repeat first|apply zr1|apply zr2|apply zr3); exact HO146.out) hb); have n3_ := Aside0.mk (blk_below (g := gb135) (o := .cells #[.int .i64 a0_0, .int .i64 a0_1, .int .i64 a0_2, .int .i64 a0_3, .slice A0_4 l0_4.length c0_4] 44 (0, 0)) (by (with_reducible repeat first|refine zb1 ?_ _|refine zb2 ?_|refine zb3 ?_ _); exact BK135.out) hb); have n4_ := Aside0.mk (below_step (by repeat (first | (with_reducible first | exact HB.out | apply below_alloc | apply pw_below_drewN | apply below_drew1 | refine below_set ?_ GE135.out) | exact HB.out)) hb); clear HO139; clear HO144; clear HO146; clear BK135; clear HB; have HO139 := n0_; have HO144 := n1_; have HO146 := n2_; have BK135 := n3_; have HB := n4_; clear n0_ n1_ n2_ n3_ n4_; (try clear hb); (try clear hb2); (try clear hk); (try clear hi); obtain ⟨Ao35, co35, eo35⟩ := Kd.R_slice HO144.out; subst eo35; have hcz36_0 : w34.cell? ⟨gb135, 0, none⟩ = some (.int .i64 a0_0) := (blk_cell BK135.out 0).trans rfl; have hcz36_1 : w34.cell? ⟨gb135, 1, none⟩ = some (.int .i64 a0_1) := (blk_cell BK135.out 1).trans rfl; have hcz36_2 : w34.cell? ⟨gb135, 2, none⟩ = some (.int .i64 a0_2) := (blk_cell BK135.out 2).trans rfl; have hcz36_3 : w34.cell? ⟨gb135, 3, none⟩ = some (.int .i64 a0_3) := (blk_cell BK135.out 3).trans rfl; have hcz36_4 : w34.cell? ⟨gb135, 4, none⟩ = some (.slice A0_4 l0_4.length c0_4) := (blk_cell BK135.out 4).trans rfl; have hfz36_0 := blk_frozen BK135.out 0; have hfz36_1 := blk_frozen BK135.out 1; have hfz36_2 := blk_frozen BK135.out 2; have hfz36_3 := blk_frozen BK135.out 3; have hfz36_4 := blk_frozen BK135.out 4; obtain ⟨Ao37, co37, eo37⟩ := Kd.R_slice HO146.out; subst eo37) | (go_at_call 51; (with_reducible refine (hunk_within.calls a0_1 false _ A11.out).mono ?_); rintro e w' ⟨rfl, ⟨nd, rfl⟩⟩))
       go_ret
       exact ⟨by first | rfl | (simp [errW_none, errW_some] <;> rfl) | (simp [*, errW_none, errW_some] <;> rfl), by repeat (first | (with_reducible first | exact HB.out | apply below_alloc | apply pw_below_drewN | apply below_drew1 | refine below_set ?_ GE135.out) | exact HB.out)⟩
     ·rw [if_neg c10] at H
      have c10b0 : ((t141.length : Int) == a0_3) = false := beq_eq_false_iff_ne.mpr c10
      have c10b1 : ((t141.length : Int) != a0_3) = true := bne_iff_ne.mpr c10
      obtain rfl := Option.some.inj H
      go_enter Try.func50, Try.ntmps50
      go_wp2_with (first | ((with_reducible refine gate_dst (N := 1) rfl ?_); (try (refine gate_guard (by rfl) ?_; dsimp only)); refine box_event ?hg (N := 1) ?hd (cs := #[.int .i64 a0_0, .int .i64 a0_1, .int .i64 a0_2, .int .i64 a0_3, .slice A0_4 l0_4.length c0_4]) (t := 44) ?hr ?_; (case hd => rfl); (case hg => rfl); (case hr => first | (go_simp; done) | (go_simp; rfl)); intro gb135 hg w38 hbox hb; have n0_ := Aside0.mk (below_step (by repeat (first | (with_reducible first | exact HB.out | apply below_alloc | apply pw_below_drewN | apply below_drew1) | exact HB.out)) hb); have n1_ := Aside0.mk (hbox); have n2_ := Aside0.mk ((by rw [hg]; exact (below_size (by repeat (first | (with_reducible first | exact HB.out | apply below_alloc | apply pw_below_drewN | apply below_drew1) | exact HB.out))) : w.heap.size ≤ gb135)); have n3_ := Aside0.mk ((by rw [hg]; exact (below_size (by repeat (first | (with_reducible first | exact HB.out | apply below_alloc | apply pw_below_drewN | apply below_drew1) | exact HB.out))) : w.heap.size ≤ gb135)); clear HB; have HB := n0_; have BK135 := n1_; have GW135 := n2_; have GE135 := n3_; clear n0_ n1_ n2_ n3_; clear hb hbox hg; have hcz39_0 : w38.cell? ⟨gb135, 0, none⟩ = some (.int .i64 a0_0) := (blk_cell BK135.out 0).trans rfl; have hcz39_1 : w38.cell? ⟨gb135, 1, none⟩ = some (.int .i64 a0_1) := (blk_cell BK135.out 1).trans rfl; have hcz39_2 : w38.cell? ⟨gb135, 2, none⟩ = some (.int .i64 a0_2) := (blk_cell BK135.out 2).trans rfl; have hcz39_3 : w38.cell? ⟨gb135, 3, none⟩ = some (.int .i64 a0_3) := (blk_cell BK135.out 3).trans rfl; have hcz39_4 : w38.cell? ⟨gb135, 4, none⟩ = some (.slice A0_4 l0_4.length c0_4) := (blk_cell BK135.out 4).trans rfl; have hfz39_0 := blk_frozen BK135.out 0; have hfz39_1 := blk_frozen BK135.out 1; have hfz39_2 := blk_frozen BK135.out 2; have hfz39_3 := blk_frozen BK135.out 3; have hfz39_4 := blk_frozen BK135.out 4) | ((with_reducible refine gate_callee (f := 42) rfl ?_); refine goesL_ (some 11) rfl rfl Try.func42 (by kernel_rfl) rfl #[.slice A0_4 l0_4.length c0_4] rfl (by (try simp only [List.map_toArray, List.map_cons, List.map_nil]); first | done | rfl | (simp only [List.length_drop, List.length_take]; rfl)) ?_; (with_reducible refine (script_Normal.calls k _ _ l0_4 t136 t137 _ ?side1 ?side2 A2.out).mono ?_); (case side1 => repeat (first | exact (Kd.C_below HR0_4.out HB.out) | (with_reducible refine Kd.C_alloc ?_ _) | (with_reducible refine Kd.C_drewN ?_ _) | (with_reducible refine Kd.C_drew ?_))); (case side2 => exact HC0_4.out); rintro e w40 ⟨v138, rfl, ho0, hb⟩; refine ⟨_, rfl, ?_⟩; have n0_ := Aside0.mk (Kd.S_lower ho0 (below_size (by repeat (first | (with_reducible first | exact HB.out | apply below_alloc | apply pw_below_drewN | apply below_drew1 | refine below_set ?_ GE135.out) | exact HB.out)))); have n1_ := Aside0.mk (blk_below (g := gb135) (o := .cells #[.int .i64 a0_0, .int .i64 a0_1, .int .i64 a0_2, .int .i64 a0_3, .slice A0_4 l0_4.length c0_4] 44 (0, 0)) (by (with_reducible repeat first|refine zb1 ?_ _|refine zb2 ?_|refine zb3 ?_ _); exact BK135.out) hb); have n2_ := Aside0.mk (below_step (by repeat (first | (with_reducible first | exact HB.out | apply below_alloc | apply pw_below_drewN | apply below_drew1 | refine below_set ?_ GE135.out) | exact HB.out)) hb); clear BK135; clear HB; have HO139 := n0_; have BK135 := n1_; have HB := n2_; clear n0_ n1_ n2_; (try clear hb); (try clear hb2); (try clear hk); (try clear hi); (try clear ho0); have hcz41_0 : w40.cell? ⟨gb135, 0, none⟩ = some (.int .i64 a0_0) := (blk_cell BK135.out 0).trans rfl; have hcz41_1 : w40.cell? ⟨gb135, 1, none⟩ = some (.int .i64 a0_1) := (blk_cell BK135.out 1).trans rfl; have hcz41_2 : w40.cell? ⟨gb135, 2, none⟩ = some (.int .i64 a0_2) := (blk_cell BK135.out 2).trans rfl; have hcz41_3 : w40.cell? ⟨gb135, 3, none⟩ = some (.int .i64 a0_3) := (blk_cell BK135.out 3).trans rfl; have hcz41_4 : w40.cell? ⟨gb135, 4, none⟩ = some (.slice A0_4 l0_4.length c0_4) := (blk_cell BK135.out 4).trans rfl; have hfz41_0 := blk_frozen BK135.out 0; have hfz41_1 := blk_frozen BK135.out 1; have hfz41_2 := blk_frozen BK135.out 2; have hfz41_3 := blk_frozen BK135.out 3; have hfz41_4 := blk_frozen BK135.out 4) | ((with_reducible refine gate_callee (f := 55) rfl ?_); refine goesL_ (some 17) rfl rfl Try.func55 (by kernel_rfl) rfl #[.slice A0_4 l0_4.length c0_4] rfl (by (try simp only [List.map_toArray, List.map_cons, List.map_nil]); first | done | rfl | (simp only [List.length_drop, List.length_take]; rfl)) ?_; (with_reducible refine (script_Sides.calls k _ _ l0_4 t140 t141 t142 _ ?side1 ?side2 A3.out).mono ?_); (case side1 => repeat (first | exact (Kd.C_below HR0_4.out HB.out) | (with_reducible refine Kd.C_alloc ?_ _) | (with_reducible refine Kd.C_drewN ?_ _) | (with_reducible refine Kd.C_drew ?_))); (case side2 => exact HC0_4.out); rintro e w42 ⟨v143, v145, rfl, ho0, ho1, hb⟩; refine ⟨_, rfl, ?_⟩; have n0_ := Aside0.mk (Kd.S_mono (Kd.S_told (Kd.S_told (Kd.S_old (by (with_reducible repeat (first | apply Kd.S_alloc | apply Kd.S_drewN | apply Kd.S_drew)); exact HO139.out) hb) (Kd.R_base ho0)) (Kd.R_base ho1)) (fun _ h_ => h_.1)); have n1_ := Aside0.mk (Kd.R_lower ho0 (below_size (by repeat (first | (with_reducible first | exact HB.out | apply below_alloc | apply pw_below_drewN | apply below_drew1 | refine below_set ?_ GE135.out) | exact HB.out)))); have n2_ := Aside0.mk (Kd.R_lower ho1 (below_size (by repeat (first | (with_reducible first | exact HB.out | apply below_alloc | apply pw_below_drewN | apply below_drew1 | refine below_set ?_ GE135.out) | exact HB.out)))); have n3_ := Aside0.mk (blk_below (g := gb135) (o := .cells #[.int .i64 a0_0, .int .i64 a0_1, .int .i64 a0_2, .int .i64 a0_3, .slice A0_4 l0_4.length c0_4] 44 (0, 0)) (by (with_reducible repeat first|refine zb1 ?_ _|refine zb2 ?_|refine zb3 ?_ _); exact BK135.out) hb); have n4_ := Aside0.mk (below_step (by repeat (first | (with_reducible first | exact HB.out | apply below_alloc | apply pw_below_drewN | apply below_drew1 | refine below_set ?_ GE135.out) | exact HB.out)) hb); clear HO139; clear BK135; clear HB; have HO139 := n0_; have HO144 := n1_; have HO146 := n2_; have BK135 := n3_; have HB := n4_; clear n0_ n1_ n2_ n3_ n4_; (try clear hb); (try clear hb2); (try clear hk); (try clear hi); (try clear ho0); (try clear ho1); have hcz43_0 : w42.cell? ⟨gb135, 0, none⟩ = some (.int .i64 a0_0) := (blk_cell BK135.out 0).trans rfl; have hcz43_1 : w42.cell? ⟨gb135, 1, none⟩ = some (.int .i64 a0_1) := (blk_cell BK135.out 1).trans rfl; have hcz43_2 : w42.cell? ⟨gb135, 2, none⟩ = some (.int .i64 a0_2) := (blk_cell BK135.out 2).trans rfl; have hcz43_3 : w42.cell? ⟨gb135, 3, none⟩ = some (.int .i64 a0_3) := (blk_cell BK135.out 3).trans rfl; have hcz43_4 : w42.cell? ⟨gb135, 4, none⟩ = some (.slice A0_4 l0_4.length c0_4) := (blk_cell BK135.out 4).trans rfl; have hfz43_0 := blk_frozen BK135.out 0; have hfz43_1 := blk_frozen BK135.out 1; have hfz43_2 := blk_frozen BK135.out 2; have hfz43_3 := blk_frozen BK135.out 3; have hfz43_4 := blk_frozen BK135.out 4; obtain ⟨Ao44, co44, eo44⟩ := Kd.S_slice HO139.out; subst eo44) | (go_at_call 71; (with_reducible refine (hunk_same.calls k _ _ t136 _ _ l0_4 true _ ?side1 ?side2 ?side3 ?side4 A5.out).mono ?_); (case side1 => repeat (first | exact (Kd.S_reads' HO139.out).2.2 | (with_reducible refine Kd.C_alloc ?_ _) | (with_reducible refine Kd.C_drewN ?_ _) | (with_reducible refine Kd.C_drew ?_))); (case side2 => exact (Kd.S_reads' HO139.out).2.1); (case side3 => repeat (first | exact (Kd.C_below HR0_4.out HB.out) | (with_reducible refine Kd.C_alloc ?_ _) | (with_reducible refine Kd.C_drewN ?_ _) | (with_reducible refine Kd.C_drew ?_))); (case side4 => exact HC0_4.out); rintro e w45 ⟨rfl, hb⟩; have n0_ := Aside0.mk (Kd.S_below (by (with_reducible repeat (first | apply Kd.S_alloc | apply Kd.S_drewN | apply Kd.S_drew)); exact HO139.out) hb); have n1_ := Aside0.mk (Kd.R_below (by (with_reducible repeat first|apply zr1|apply zr2|apply zr3); exact HO144.out) hb); have n2_ := Aside0.mk (Kd.R_below (by (with_reducible repeat first|apply zr1|apply zr2|apply zr3); exact HO146.out) hb); have n3_ := Aside0.mk (blk_below (g := gb135) (o := .cells #[.int .i64 a0_0, .int .i64 a0_1, .int .i64 a0_2, .int .i64 a0_3, .slice A0_4 l0_4.length c0_4] 44 (0, 0)) (by (with_reducible repeat first|refine zb1 ?_ _|refine zb2 ?_|refine zb3 ?_ _); exact BK135.out) hb); have n4_ := Aside0.mk (below_step (by repeat (first | (with_reducible first | exact HB.out | apply below_alloc | apply pw_below_drewN | apply below_drew1 | refine below_set ?_ GE135.out) | exact HB.out)) hb); clear HO139; clear HO144; clear HO146; clear BK135; clear HB; have HO139 := n0_; have HO144 := n1_; have HO146 := n2_; have BK135 := n3_; have HB := n4_; clear n0_ n1_ n2_ n3_ n4_; (try clear hb); (try clear hb2); (try clear hk); (try clear hi)) | (go_at_call 72; (with_reducible refine (script_Changed.calls k _ _ t136 t148 _ ?side1 ?side2 A7.out).mono ?_); (case side1 => repeat (first | exact (Kd.S_reads' HO139.out).2.2 | (with_reducible refine Kd.C_alloc ?_ _) | (with_reducible refine Kd.C_drewN ?_ _) | (with_reducible refine Kd.C_drew ?_))); (case side2 => exact (Kd.S_reads' HO139.out).2.1); rintro e w46 ⟨rfl, hb⟩; have n0_ := Aside0.mk (Kd.S_below (by (with_reducible repeat (first | apply Kd.S_alloc | apply Kd.S_drewN | apply Kd.S_drew)); exact HO139.out) hb); have n1_ := Aside0.mk (Kd.R_below (by (with_reducible repeat first|apply zr1|apply zr2|apply zr3); exact HO144.out) hb); have n2_ := Aside0.mk (Kd.R_below (by (with_reducible repeat first|apply zr1|apply zr2|apply zr3); exact HO146.out) hb); have n3_ := Aside0.mk (blk_below (g := gb135) (o := .cells #[.int .i64 a0_0, .int .i64 a0_1, .int .i64 a0_2, .int .i64 a0_3, .slice A0_4 l0_4.length c0_4] 44 (0, 0)) (by (with_reducible repeat first|refine zb1 ?_ _|refine zb2 ?_|refine zb3 ?_ _); exact BK135.out) hb); have n4_ := Aside0.mk (below_step (by repeat (first | (with_reducible first | exact HB.out | apply below_alloc | apply pw_below_drewN | apply below_drew1 | refine below_set ?_ GE135.out) | exact HB.out)) hb); clear HO139; clear HO144; clear HO146; clear BK135; clear HB; have HO139 := n0_; have HO144 := n1_; have HO146 := n2_; have BK135 := n3_; have HB := n4_; clear n0_ n1_ n2_ n3_ n4_; (try clear hb); (try clear hb2); (try clear hk); (try clear hi); obtain ⟨Ao47, co47, eo47⟩ := Kd.R_slice HO144.out; subst eo47; have hcz48_0 : w46.cell? ⟨gb135, 0, none⟩ = some (.int .i64 a0_0) := (blk_cell BK135.out 0).trans rfl; have hcz48_1 : w46.cell? ⟨gb135, 1, none⟩ = some (.int .i64 a0_1) := (blk_cell BK135.out 1).trans rfl; have hcz48_2 : w46.cell? ⟨gb135, 2, none⟩ = some (.int .i64 a0_2) := (blk_cell BK135.out 2).trans rfl; have hcz48_3 : w46.cell? ⟨gb135, 3, none⟩ = some (.int .i64 a0_3) := (blk_cell BK135.out 3).trans rfl; have hcz48_4 : w46.cell? ⟨gb135, 4, none⟩ = some (.slice A0_4 l0_4.length c0_4) := (blk_cell BK135.out 4).trans rfl; have hfz48_0 := blk_frozen BK135.out 0; have hfz48_1 := blk_frozen BK135.out 1; have hfz48_2 := blk_frozen BK135.out 2; have hfz48_3 := blk_frozen BK135.out 3; have hfz48_4 := blk_frozen BK135.out 4; obtain ⟨Ao49, co49, eo49⟩ := Kd.R_slice HO146.out; subst eo49))
      go_ret
      exact ⟨by first | rfl | (simp [errW_none, errW_some] <;> rfl) | (simp [*, errW_none, errW_some] <;> rfl), by repeat (first | (with_reducible first | exact HB.out | apply below_alloc | apply pw_below_drewN | apply below_drew1 | refine below_set ?_ GE135.out) | exact HB.out)⟩
    ·rw [if_neg c9] at H
     have c9b0 : ((t140.length : Int) == a0_1) = false := beq_eq_false_iff_ne.mpr c9
     have c9b1 : ((t140.length : Int) != a0_1) = true := bne_iff_ne.mpr c9
     obtain rfl := Option.some.inj H
     go_enter Try.func50, Try.ntmps50
     go_wp2_with (first | ((with_reducible refine gate_dst (N := 1) rfl ?_); (try (refine gate_guard (by rfl) ?_; dsimp only)); refine box_event ?hg (N := 1) ?hd (cs := #[.int .i64 a0_0, .int .i64 a0_1, .int .i64 a0_2, .int .i64 a0_3, .slice A0_4 l0_4.length c0_4]) (t := 44) ?hr ?_; (case hd => rfl); (case hg => rfl); (case hr => first | (go_simp; done) | (go_simp; rfl)); intro gb135 hg w50 hbox hb; have n0_ := Aside0.mk (below_step (by repeat (first | (with_reducible first | exact HB.out | apply below_alloc | apply pw_below_drewN | apply below_drew1) | exact HB.out)) hb); have n1_ := Aside0.mk (hbox); have n2_ := Aside0.mk ((by rw [hg]; exact (below_size (by repeat (first | (with_reducible first | exact HB.out | apply below_alloc | apply pw_below_drewN | apply below_drew1) | exact HB.out))) : w.heap.size ≤ gb135)); have n3_ := Aside0.mk ((by rw [hg]; exact (below_size (by repeat (first | (with_reducible first | exact HB.out | apply below_alloc | apply pw_below_drewN | apply below_drew1) | exact HB.out))) : w.heap.size ≤ gb135)); clear HB; have HB := n0_; have BK135 := n1_; have GW135 := n2_; have GE135 := n3_; clear n0_ n1_ n2_ n3_; clear hb hbox hg; have hcz51_0 : w50.cell? ⟨gb135, 0, none⟩ = some (.int .i64 a0_0) := (blk_cell BK135.out 0).trans rfl; have hcz51_1 : w50.cell? ⟨gb135, 1, none⟩ = some (.int .i64 a0_1) := (blk_cell BK135.out 1).trans rfl; have hcz51_2 : w50.cell? ⟨gb135, 2, none⟩ = some (.int .i64 a0_2) := (blk_cell BK135.out 2).trans rfl; have hcz51_3 : w50.cell? ⟨gb135, 3, none⟩ = some (.int .i64 a0_3) := (blk_cell BK135.out 3).trans rfl; have hcz51_4 : w50.cell? ⟨gb135, 4, none⟩ = some (.slice A0_4 l0_4.length c0_4) := (blk_cell BK135.out 4).trans rfl; have hfz51_0 := blk_frozen BK135.out 0; have hfz51_1 := blk_frozen BK135.out 1; have hfz51_2 := blk_frozen BK135.out 2; have hfz51_3 := blk_frozen BK135.out 3; have hfz51_4 := blk_frozen BK135.out 4) | ((with_reducible refine gate_callee (f := 42) rfl ?_); refine goesL_ (some 11) rfl rfl Try.func42 (by kernel_rfl) rfl #[.slice A0_4 l0_4.length c0_4] rfl (by (try simp only [List.map_toArray, List.map_cons, List.map_nil]); first | done | rfl | (simp only [List.length_drop, List.length_take]; rfl)) ?_; (with_reducible refine (script_Normal.calls k _ _ l0_4 t136 t137 _ ?side1 ?side2 A2.out).mono ?_); (case side1 => repeat (first | exact (Kd.C_below HR0_4.out HB.out) | (with_reducible refine Kd.C_alloc ?_ _) | (with_reducible refine Kd.C_drewN ?_ _) | (with_reducible refine Kd.C_drew ?_))); (case side2 => exact HC0_4.out); rintro e w52 ⟨v138, rfl, ho0, hb⟩; refine ⟨_, rfl, ?_⟩; have n0_ := Aside0.mk (Kd.S_lower ho0 (below_size (by repeat (first | (with_reducible first | exact HB.out | apply below_alloc | apply pw_below_drewN | apply below_drew1 | refine below_set ?_ GE135.out) | exact HB.out)))); have n1_ := Aside0.mk (blk_below (g := gb135) (o := .cells #[.int .i64 a0_0, .int .i64 a0_1, .int .i64 a0_2, .int .i64 a0_3, .slice A0_4 l0_4.length c0_4] 44 (0, 0)) (by (with_reducible repeat first|refine zb1 ?_ _|refine zb2 ?_|refine zb3 ?_ _); exact BK135.out) hb); have n2_ := Aside0.mk (below_step (by repeat (first | (with_reducible first | exact HB.out | apply below_alloc | apply pw_below_drewN | apply below_drew1 | refine below_set ?_ GE135.out) | exact HB.out)) hb); clear BK135; clear HB; have HO139 := n0_; have BK135 := n1_; have HB := n2_; clear n0_ n1_ n2_; (try clear hb); (try clear hb2); (try clear hk); (try clear hi); (try clear ho0); have hcz53_0 : w52.cell? ⟨gb135, 0, none⟩ = some (.int .i64 a0_0) := (blk_cell BK135.out 0).trans rfl; have hcz53_1 : w52.cell? ⟨gb135, 1, none⟩ = some (.int .i64 a0_1) := (blk_cell BK135.out 1).trans rfl; have hcz53_2 : w52.cell? ⟨gb135, 2, none⟩ = some (.int .i64 a0_2) := (blk_cell BK135.out 2).trans rfl; have hcz53_3 : w52.cell? ⟨gb135, 3, none⟩ = some (.int .i64 a0_3) := (blk_cell BK135.out 3).trans rfl; have hcz53_4 : w52.cell? ⟨gb135, 4, none⟩ = some (.slice A0_4 l0_4.length c0_4) := (blk_cell BK135.out 4).trans rfl; have hfz53_0 := blk_frozen BK135.out 0; have hfz53_1 := blk_frozen BK135.out 1; have hfz53_2 := blk_frozen BK135.out 2; have hfz53_3 := blk_frozen BK135.out 3; have hfz53_4 := blk_frozen BK135.out 4) | ((with_reducible refine gate_callee (f := 55) rfl ?_); refine goesL_ (some 17) rfl rfl Try.func55 (by kernel_rfl) rfl #[.slice A0_4 l0_4.length c0_4] rfl (by (try simp only [List.map_toArray, List.map_cons, List.map_nil]); first | done | rfl | (simp only [List.length_drop, List.length_take]; rfl)) ?_; (with_reducible refine (script_Sides.calls k _ _ l0_4 t140 t141 t142 _ ?side1 ?side2 A3.out).mono ?_); (case side1 => repeat (first | exact (Kd.C_below HR0_4.out HB.out) | (with_reducible refine Kd.C_alloc ?_ _) | (with_reducible refine Kd.C_drewN ?_ _) | (with_reducible refine Kd.C_drew ?_))); (case side2 => exact HC0_4.out); rintro e w54 ⟨v143, v145, rfl, ho0, ho1, hb⟩; refine ⟨_, rfl, ?_⟩; have n0_ := Aside0.mk (Kd.S_mono (Kd.S_told (Kd.S_told (Kd.S_old (by (with_reducible repeat (first | apply Kd.S_alloc | apply Kd.S_drewN | apply Kd.S_drew)); exact HO139.out) hb) (Kd.R_base ho0)) (Kd.R_base ho1)) (fun _ h_ => h_.1)); have n1_ := Aside0.mk (Kd.R_lower ho0 (below_size (by repeat (first | (with_reducible first | exact HB.out | apply below_alloc | apply pw_below_drewN | apply below_drew1 | refine below_set ?_ GE135.out) | exact HB.out)))); have n2_ := Aside0.mk (Kd.R_lower ho1 (below_size (by repeat (first | (with_reducible first | exact HB.out | apply below_alloc | apply pw_below_drewN | apply below_drew1 | refine below_set ?_ GE135.out) | exact HB.out)))); have n3_ := Aside0.mk (blk_below (g := gb135) (o := .cells #[.int .i64 a0_0, .int .i64 a0_1, .int .i64 a0_2, .int .i64 a0_3, .slice A0_4 l0_4.length c0_4] 44 (0, 0)) (by (with_reducible repeat first|refine zb1 ?_ _|refine zb2 ?_|refine zb3 ?_ _); exact BK135.out) hb); have n4_ := Aside0.mk (below_step (by repeat (first | (with_reducible first | exact HB.out | apply below_alloc | apply pw_below_drewN | apply below_drew1 | refine below_set ?_ GE135.out) | exact HB.out)) hb); clear HO139; clear BK135; clear HB; have HO139 := n0_; have HO144 := n1_; have HO146 := n2_; have BK135 := n3_; have HB := n4_; clear n0_ n1_ n2_ n3_ n4_; (try clear hb); (try clear hb2); (try clear hk); (try clear hi); (try clear ho0); (try clear ho1); have hcz55_0 : w54.cell? ⟨gb135, 0, none⟩ = some (.int .i64 a0_0) := (blk_cell BK135.out 0).trans rfl; have hcz55_1 : w54.cell? ⟨gb135, 1, none⟩ = some (.int .i64 a0_1) := (blk_cell BK135.out 1).trans rfl; have hcz55_2 : w54.cell? ⟨gb135, 2, none⟩ = some (.int .i64 a0_2) := (blk_cell BK135.out 2).trans rfl; have hcz55_3 : w54.cell? ⟨gb135, 3, none⟩ = some (.int .i64 a0_3) := (blk_cell BK135.out 3).trans rfl; have hcz55_4 : w54.cell? ⟨gb135, 4, none⟩ = some (.slice A0_4 l0_4.length c0_4) := (blk_cell BK135.out 4).trans rfl; have hfz55_0 := blk_frozen BK135.out 0; have hfz55_1 := blk_frozen BK135.out 1; have hfz55_2 := blk_frozen BK135.out 2; have hfz55_3 := blk_frozen BK135.out 3; have hfz55_4 := blk_frozen BK135.out 4; obtain ⟨Ao56, co56, eo56⟩ := Kd.S_slice HO139.out; subst eo56) | (go_at_call 71; (with_reducible refine (hunk_same.calls k _ _ t136 _ _ l0_4 true _ ?side1 ?side2 ?side3 ?side4 A5.out).mono ?_); (case side1 => repeat (first | exact (Kd.S_reads' HO139.out).2.2 | (with_reducible refine Kd.C_alloc ?_ _) | (with_reducible refine Kd.C_drewN ?_ _) | (with_reducible refine Kd.C_drew ?_))); (case side2 => exact (Kd.S_reads' HO139.out).2.1); (case side3 => repeat (first | exact (Kd.C_below HR0_4.out HB.out) | (with_reducible refine Kd.C_alloc ?_ _) | (with_reducible refine Kd.C_drewN ?_ _) | (with_reducible refine Kd.C_drew ?_))); (case side4 => exact HC0_4.out); rintro e w57 ⟨rfl, hb⟩; have n0_ := Aside0.mk (Kd.S_below (by (with_reducible repeat (first | apply Kd.S_alloc | apply Kd.S_drewN | apply Kd.S_drew)); exact HO139.out) hb); have n1_ := Aside0.mk (Kd.R_below (by (with_reducible repeat first|apply zr1|apply zr2|apply zr3); exact HO144.out) hb); have n2_ := Aside0.mk (Kd.R_below (by (with_reducible repeat first|apply zr1|apply zr2|apply zr3); exact HO146.out) hb); have n3_ := Aside0.mk (blk_below (g := gb135) (o := .cells #[.int .i64 a0_0, .int .i64 a0_1, .int .i64 a0_2, .int .i64 a0_3, .slice A0_4 l0_4.length c0_4] 44 (0, 0)) (by (with_reducible repeat first|refine zb1 ?_ _|refine zb2 ?_|refine zb3 ?_ _); exact BK135.out) hb); have n4_ := Aside0.mk (below_step (by repeat (first | (with_reducible first | exact HB.out | apply below_alloc | apply pw_below_drewN | apply below_drew1 | refine below_set ?_ GE135.out) | exact HB.out)) hb); clear HO139; clear HO144; clear HO146; clear BK135; clear HB; have HO139 := n0_; have HO144 := n1_; have HO146 := n2_; have BK135 := n3_; have HB := n4_; clear n0_ n1_ n2_ n3_ n4_; (try clear hb); (try clear hb2); (try clear hk); (try clear hi)) | (go_at_call 72; (with_reducible refine (script_Changed.calls k _ _ t136 t148 _ ?side1 ?side2 A7.out).mono ?_); (case side1 => repeat (first | exact (Kd.S_reads' HO139.out).2.2 | (with_reducible refine Kd.C_alloc ?_ _) | (with_reducible refine Kd.C_drewN ?_ _) | (with_reducible refine Kd.C_drew ?_))); (case side2 => exact (Kd.S_reads' HO139.out).2.1); rintro e w58 ⟨rfl, hb⟩; have n0_ := Aside0.mk (Kd.S_below (by (with_reducible repeat (first | apply Kd.S_alloc | apply Kd.S_drewN | apply Kd.S_drew)); exact HO139.out) hb); have n1_ := Aside0.mk (Kd.R_below (by (with_reducible repeat first|apply zr1|apply zr2|apply zr3); exact HO144.out) hb); have n2_ := Aside0.mk (Kd.R_below (by (with_reducible repeat first|apply zr1|apply zr2|apply zr3); exact HO146.out) hb); have n3_ := Aside0.mk (blk_below (g := gb135) (o := .cells #[.int .i64 a0_0, .int .i64 a0_1, .int .i64 a0_2, .int .i64 a0_3, .slice A0_4 l0_4.length c0_4] 44 (0, 0)) (by (with_reducible repeat first|refine zb1 ?_ _|refine zb2 ?_|refine zb3 ?_ _); exact BK135.out) hb); have n4_ := Aside0.mk (below_step (by repeat (first | (with_reducible first | exact HB.out | apply below_alloc | apply pw_below_drewN | apply below_drew1 | refine below_set ?_ GE135.out) | exact HB.out)) hb); clear HO139; clear HO144; clear HO146; clear BK135; clear HB; have HO139 := n0_; have HO144 := n1_; have HO146 := n2_; have BK135 := n3_; have HB := n4_; clear n0_ n1_ n2_ n3_ n4_; (try clear hb); (try clear hb2); (try clear hk); (try clear hi); obtain ⟨Ao59, co59, eo59⟩ := Kd.R_slice HO144.out; subst eo59; have hcz60_0 : w58.cell? ⟨gb135, 0, none⟩ = some (.int .i64 a0_0) := (blk_cell BK135.out 0).trans rfl; have hcz60_1 : w58.cell? ⟨gb135, 1, none⟩ = some (.int .i64 a0_1) := (blk_cell BK135.out 1).trans rfl; have hcz60_2 : w58.cell? ⟨gb135, 2, none⟩ = some (.int .i64 a0_2) := (blk_cell BK135.out 2).trans rfl; have hcz60_3 : w58.cell? ⟨gb135, 3, none⟩ = some (.int .i64 a0_3) := (blk_cell BK135.out 3).trans rfl; have hcz60_4 : w58.cell? ⟨gb135, 4, none⟩ = some (.slice A0_4 l0_4.length c0_4) := (blk_cell BK135.out 4).trans rfl; have hfz60_0 := blk_frozen BK135.out 0; have hfz60_1 := blk_frozen BK135.out 1; have hfz60_2 := blk_frozen BK135.out 2; have hfz60_3 := blk_frozen BK135.out 3; have hfz60_4 := blk_frozen BK135.out 4))
     go_ret
     exact ⟨by first | rfl | (simp [errW_none, errW_some] <;> rfl) | (simp [*, errW_none, errW_some] <;> rfl), by repeat (first | (with_reducible first | exact HB.out | apply below_alloc | apply pw_below_drewN | apply below_drew1 | refine below_set ?_ GE135.out) | exact HB.out)⟩
   ·rw [if_neg c8] at H
    have c8b0 : decide (0 < t148) = false := decide_eq_false c8
    clear c8
    obtain rfl := Option.some.inj H
    go_enter Try.func50, Try.ntmps50
    go_wp2_with (first | ((with_reducible refine gate_dst (N := 1) rfl ?_); (try (refine gate_guard (by rfl) ?_; dsimp only)); refine box_event ?hg (N := 1) ?hd (cs := #[.int .i64 a0_0, .int .i64 a0_1, .int .i64 a0_2, .int .i64 a0_3, .slice A0_4 l0_4.length c0_4]) (t := 44) ?hr ?_; (case hd => rfl); (case hg => rfl); (case hr => first | (go_simp; done) | (go_simp; rfl)); intro gb135 hg w61 hbox hb; have n0_ := Aside0.mk (below_step (by repeat (first | (with_reducible first | exact HB.out | apply below_alloc | apply pw_below_drewN | apply below_drew1) | exact HB.out)) hb); have n1_ := Aside0.mk (hbox); have n2_ := Aside0.mk ((by rw [hg]; exact (below_size (by repeat (first | (with_reducible first | exact HB.out | apply below_alloc | apply pw_below_drewN | apply below_drew1) | exact HB.out))) : w.heap.size ≤ gb135)); have n3_ := Aside0.mk ((by rw [hg]; exact (below_size (by repeat (first | (with_reducible first | exact HB.out | apply below_alloc | apply pw_below_drewN | apply below_drew1) | exact HB.out))) : w.heap.size ≤ gb135)); clear HB; have HB := n0_; have BK135 := n1_; have GW135 := n2_; have GE135 := n3_; clear n0_ n1_ n2_ n3_; clear hb hbox hg; have hcz62_0 : w61.cell? ⟨gb135, 0, none⟩ = some (.int .i64 a0_0) := (blk_cell BK135.out 0).trans rfl; have hcz62_1 : w61.cell? ⟨gb135, 1, none⟩ = some (.int .i64 a0_1) := (blk_cell BK135.out 1).trans rfl; have hcz62_2 : w61.cell? ⟨gb135, 2, none⟩ = some (.int .i64 a0_2) := (blk_cell BK135.out 2).trans rfl; have hcz62_3 : w61.cell? ⟨gb135, 3, none⟩ = some (.int .i64 a0_3) := (blk_cell BK135.out 3).trans rfl; have hcz62_4 : w61.cell? ⟨gb135, 4, none⟩ = some (.slice A0_4 l0_4.length c0_4) := (blk_cell BK135.out 4).trans rfl; have hfz62_0 := blk_frozen BK135.out 0; have hfz62_1 := blk_frozen BK135.out 1; have hfz62_2 := blk_frozen BK135.out 2; have hfz62_3 := blk_frozen BK135.out 3; have hfz62_4 := blk_frozen BK135.out 4) | ((with_reducible refine gate_callee (f := 42) rfl ?_); refine goesL_ (some 11) rfl rfl Try.func42 (by kernel_rfl) rfl #[.slice A0_4 l0_4.length c0_4] rfl (by (try simp only [List.map_toArray, List.map_cons, List.map_nil]); first | done | rfl | (simp only [List.length_drop, List.length_take]; rfl)) ?_; (with_reducible refine (script_Normal.calls k _ _ l0_4 t136 t137 _ ?side1 ?side2 A2.out).mono ?_); (case side1 => repeat (first | exact (Kd.C_below HR0_4.out HB.out) | (with_reducible refine Kd.C_alloc ?_ _) | (with_reducible refine Kd.C_drewN ?_ _) | (with_reducible refine Kd.C_drew ?_))); (case side2 => exact HC0_4.out); rintro e w63 ⟨v138, rfl, ho0, hb⟩; refine ⟨_, rfl, ?_⟩; have n0_ := Aside0.mk (Kd.S_lower ho0 (below_size (by repeat (first | (with_reducible first | exact HB.out | apply below_alloc | apply pw_below_drewN | apply below_drew1 | refine below_set ?_ GE135.out) | exact HB.out)))); have n1_ := Aside0.mk (blk_below (g := gb135) (o := .cells #[.int .i64 a0_0, .int .i64 a0_1, .int .i64 a0_2, .int .i64 a0_3, .slice A0_4 l0_4.length c0_4] 44 (0, 0)) (by (with_reducible repeat first|refine zb1 ?_ _|refine zb2 ?_|refine zb3 ?_ _); exact BK135.out) hb); have n2_ := Aside0.mk (below_step (by repeat (first | (with_reducible first | exact HB.out | apply below_alloc | apply pw_below_drewN | apply below_drew1 | refine below_set ?_ GE135.out) | exact HB.out)) hb); clear BK135; clear HB; have HO139 := n0_; have BK135 := n1_; have HB := n2_; clear n0_ n1_ n2_; (try clear hb); (try clear hb2); (try clear hk); (try clear hi); (try clear ho0); have hcz64_0 : w63.cell? ⟨gb135, 0, none⟩ = some (.int .i64 a0_0) := (blk_cell BK135.out 0).trans rfl; have hcz64_1 : w63.cell? ⟨gb135, 1, none⟩ = some (.int .i64 a0_1) := (blk_cell BK135.out 1).trans rfl; have hcz64_2 : w63.cell? ⟨gb135, 2, none⟩ = some (.int .i64 a0_2) := (blk_cell BK135.out 2).trans rfl; have hcz64_3 : w63.cell? ⟨gb135, 3, none⟩ = some (.int .i64 a0_3) := (blk_cell BK135.out 3).trans rfl; have hcz64_4 : w63.cell? ⟨gb135, 4, none⟩ = some (.slice A0_4 l0_4.length c0_4) := (blk_cell BK135.out 4).trans rfl; have hfz64_0 := blk_frozen BK135.out 0; have hfz64_1 := blk_frozen BK135.out 1; have hfz64_2 := blk_frozen BK135.out 2; have hfz64_3 := blk_frozen BK135.out 3; have hfz64_4 := blk_frozen BK135.out 4) | ((with_reducible refine gate_callee (f := 55) rfl ?_); refine goesL_ (some 17) rfl rfl Try.func55 (by kernel_rfl) rfl #[.slice A0_4 l0_4.length c0_4] rfl (by (try simp only [List.map_toArray, List.map_cons, List.map_nil]); first | done | rfl | (simp only [List.length_drop, List.length_take]; rfl)) ?_; (with_reducible refine (script_Sides.calls k _ _ l0_4 t140 t141 t142 _ ?side1 ?side2 A3.out).mono ?_); (case side1 => repeat (first | exact (Kd.C_below HR0_4.out HB.out) | (with_reducible refine Kd.C_alloc ?_ _) | (with_reducible refine Kd.C_drewN ?_ _) | (with_reducible refine Kd.C_drew ?_))); (case side2 => exact HC0_4.out); rintro e w65 ⟨v143, v145, rfl, ho0, ho1, hb⟩; refine ⟨_, rfl, ?_⟩; have n0_ := Aside0.mk (Kd.S_mono (Kd.S_told (Kd.S_told (Kd.S_old (by (with_reducible repeat (first | apply Kd.S_alloc | apply Kd.S_drewN | apply Kd.S_drew)); exact HO139.out) hb) (Kd.R_base ho0)) (Kd.R_base ho1)) (fun _ h_ => h_.1)); have n1_ := Aside0.mk (Kd.R_lower ho0 (below_size (by repeat (first | (with_reducible first | exact HB.out | apply below_alloc | apply pw_below_drewN | apply below_drew1 | refine below_set ?_ GE135.out) | exact HB.out)))); have n2_ := Aside0.mk (Kd.R_lower ho1 (below_size (by repeat (first | (with_reducible first | exact HB.out | apply below_alloc | apply pw_below_drewN | apply below_drew1 | refine below_set ?_ GE135.out) | exact HB.out)))); have n3_ := Aside0.mk (blk_below (g := gb135) (o := .cells #[.int .i64 a0_0, .int .i64 a0_1, .int .i64 a0_2, .int .i64 a0_3, .slice A0_4 l0_4.length c0_4] 44 (0, 0)) (by (with_reducible repeat first|refine zb1 ?_ _|refine zb2 ?_|refine zb3 ?_ _); exact BK135.out) hb); have n4_ := Aside0.mk (below_step (by repeat (first | (with_reducible first | exact HB.out | apply below_alloc | apply pw_below_drewN | apply below_drew1 | refine below_set ?_ GE135.out) | exact HB.out)) hb); clear HO139; clear BK135; clear HB; have HO139 := n0_; have HO144 := n1_; have HO146 := n2_; have BK135 := n3_; have HB := n4_; clear n0_ n1_ n2_ n3_ n4_; (try clear hb); (try clear hb2); (try clear hk); (try clear hi); (try clear ho0); (try clear ho1); have hcz66_0 : w65.cell? ⟨gb135, 0, none⟩ = some (.int .i64 a0_0) := (blk_cell BK135.out 0).trans rfl; have hcz66_1 : w65.cell? ⟨gb135, 1, none⟩ = some (.int .i64 a0_1) := (blk_cell BK135.out 1).trans rfl; have hcz66_2 : w65.cell? ⟨gb135, 2, none⟩ = some (.int .i64 a0_2) := (blk_cell BK135.out 2).trans rfl; have hcz66_3 : w65.cell? ⟨gb135, 3, none⟩ = some (.int .i64 a0_3) := (blk_cell BK135.out 3).trans rfl; have hcz66_4 : w65.cell? ⟨gb135, 4, none⟩ = some (.slice A0_4 l0_4.length c0_4) := (blk_cell BK135.out 4).trans rfl; have hfz66_0 := blk_frozen BK135.out 0; have hfz66_1 := blk_frozen BK135.out 1; have hfz66_2 := blk_frozen BK135.out 2; have hfz66_3 := blk_frozen BK135.out 3; have hfz66_4 := blk_frozen BK135.out 4; obtain ⟨Ao67, co67, eo67⟩ := Kd.S_slice HO139.out; subst eo67) | (go_at_call 71; (with_reducible refine (hunk_same.calls k _ _ t136 _ _ l0_4 true _ ?side1 ?side2 ?side3 ?side4 A5.out).mono ?_); (case side1 => repeat (first | exact (Kd.S_reads' HO139.out).2.2 | (with_reducible refine Kd.C_alloc ?_ _) | (with_reducible refine Kd.C_drewN ?_ _) | (with_reducible refine Kd.C_drew ?_))); (case side2 => exact (Kd.S_reads' HO139.out).2.1); (case side3 => repeat (first | exact (Kd.C_below HR0_4.out HB.out) | (with_reducible refine Kd.C_alloc ?_ _) | (with_reducible refine Kd.C_drewN ?_ _) | (with_reducible refine Kd.C_drew ?_))); (case side4 => exact HC0_4.out); rintro e w68 ⟨rfl, hb⟩; have n0_ := Aside0.mk (Kd.S_below (by (with_reducible repeat (first | apply Kd.S_alloc | apply Kd.S_drewN | apply Kd.S_drew)); exact HO139.out) hb); have n1_ := Aside0.mk (Kd.R_below (by (with_reducible repeat first|apply zr1|apply zr2|apply zr3); exact HO144.out) hb); have n2_ := Aside0.mk (Kd.R_below (by (with_reducible repeat first|apply zr1|apply zr2|apply zr3); exact HO146.out) hb); have n3_ := Aside0.mk (blk_below (g := gb135) (o := .cells #[.int .i64 a0_0, .int .i64 a0_1, .int .i64 a0_2, .int .i64 a0_3, .slice A0_4 l0_4.length c0_4] 44 (0, 0)) (by (with_reducible repeat first|refine zb1 ?_ _|refine zb2 ?_|refine zb3 ?_ _); exact BK135.out) hb); have n4_ := Aside0.mk (below_step (by repeat (first | (with_reducible first | exact HB.out | apply below_alloc | apply pw_below_drewN | apply below_drew1 | refine below_set ?_ GE135.out) | exact HB.out)) hb); clear HO139; clear HO144; clear HO146; clear BK135; clear HB; have HO139 := n0_; have HO144 := n1_; have HO146 := n2_; have BK135 := n3_; have HB := n4_; clear n0_ n1_ n2_ n3_ n4_; (try clear hb); (try clear hb2); (try clear hk); (try clear hi)) | (go_at_call 72; (with_reducible refine (script_Changed.calls k _ _ t136 t148 _ ?side1 ?side2 A7.out).mono ?_); (case side1 => repeat (first | exact (Kd.S_reads' HO139.out).2.2 | (with_reducible refine Kd.C_alloc ?_ _) | (with_reducible refine Kd.C_drewN ?_ _) | (with_reducible refine Kd.C_drew ?_))); (case side2 => exact (Kd.S_reads' HO139.out).2.1); rintro e w69 ⟨rfl, hb⟩; have n0_ := Aside0.mk (Kd.S_below (by (with_reducible repeat (first | apply Kd.S_alloc | apply Kd.S_drewN | apply Kd.S_drew)); exact HO139.out) hb); have n1_ := Aside0.mk (Kd.R_below (by (with_reducible repeat first|apply zr1|apply zr2|apply zr3); exact HO144.out) hb); have n2_ := Aside0.mk (Kd.R_below (by (with_reducible repeat first|apply zr1|apply zr2|apply zr3); exact HO146.out) hb); have n3_ := Aside0.mk (blk_below (g := gb135) (o := .cells #[.int .i64 a0_0, .int .i64 a0_1, .int .i64 a0_2, .int .i64 a0_3, .slice A0_4 l0_4.length c0_4] 44 (0, 0)) (by (with_reducible repeat first|refine zb1 ?_ _|refine zb2 ?_|refine zb3 ?_ _); exact BK135.out) hb); have n4_ := Aside0.mk (below_step (by repeat (first | (with_reducible first | exact HB.out | apply below_alloc | apply pw_below_drewN | apply below_drew1 | refine below_set ?_ GE135.out) | exact HB.out)) hb); clear HO139; clear HO144; clear HO146; clear BK135; clear HB; have HO139 := n0_; have HO144 := n1_; have HO146 := n2_; have BK135 := n3_; have HB := n4_; clear n0_ n1_ n2_ n3_ n4_; (try clear hb); (try clear hb2); (try clear hk); (try clear hi)))
    go_ret
    exact ⟨by first | rfl | (simp [errW_none, errW_some] <;> rfl) | (simp [*, errW_none, errW_some] <;> rfl), by repeat (first | (with_reducible first | exact HB.out | apply below_alloc | apply pw_below_drewN | apply below_drew1 | refine below_set ?_ GE135.out) | exact HB.out)⟩
  ·replace c6 := Bool.eq_false_iff.mpr c6
   subst c6
   have H1 : (some false) = some r := by rw [if_neg (show ¬ (false = true) by decide)] at H; exact H
   clear H
   have H := H1
   clear H1
   obtain rfl := Option.some.inj H
   go_enter Try.func50, Try.ntmps50
   go_wp2_with (first | ((with_reducible refine gate_dst (N := 1) rfl ?_); (try (refine gate_guard (by rfl) ?_; dsimp only)); refine box_event ?hg (N := 1) ?hd (cs := #[.int .i64 a0_0, .int .i64 a0_1, .int .i64 a0_2, .int .i64 a0_3, .slice A0_4 l0_4.length c0_4]) (t := 44) ?hr ?_; (case hd => rfl); (case hg => rfl); (case hr => first | (go_simp; done) | (go_simp; rfl)); intro gb135 hg w70 hbox hb; have n0_ := Aside0.mk (below_step (by repeat (first | (with_reducible first | exact HB.out | apply below_alloc | apply pw_below_drewN | apply below_drew1) | exact HB.out)) hb); have n1_ := Aside0.mk (hbox); have n2_ := Aside0.mk ((by rw [hg]; exact (below_size (by repeat (first | (with_reducible first | exact HB.out | apply below_alloc | apply pw_below_drewN | apply below_drew1) | exact HB.out))) : w.heap.size ≤ gb135)); have n3_ := Aside0.mk ((by rw [hg]; exact (below_size (by repeat (first | (with_reducible first | exact HB.out | apply below_alloc | apply pw_below_drewN | apply below_drew1) | exact HB.out))) : w.heap.size ≤ gb135)); clear HB; have HB := n0_; have BK135 := n1_; have GW135 := n2_; have GE135 := n3_; clear n0_ n1_ n2_ n3_; clear hb hbox hg; have hcz71_0 : w70.cell? ⟨gb135, 0, none⟩ = some (.int .i64 a0_0) := (blk_cell BK135.out 0).trans rfl; have hcz71_1 : w70.cell? ⟨gb135, 1, none⟩ = some (.int .i64 a0_1) := (blk_cell BK135.out 1).trans rfl; have hcz71_2 : w70.cell? ⟨gb135, 2, none⟩ = some (.int .i64 a0_2) := (blk_cell BK135.out 2).trans rfl; have hcz71_3 : w70.cell? ⟨gb135, 3, none⟩ = some (.int .i64 a0_3) := (blk_cell BK135.out 3).trans rfl; have hcz71_4 : w70.cell? ⟨gb135, 4, none⟩ = some (.slice A0_4 l0_4.length c0_4) := (blk_cell BK135.out 4).trans rfl; have hfz71_0 := blk_frozen BK135.out 0; have hfz71_1 := blk_frozen BK135.out 1; have hfz71_2 := blk_frozen BK135.out 2; have hfz71_3 := blk_frozen BK135.out 3; have hfz71_4 := blk_frozen BK135.out 4) | ((with_reducible refine gate_callee (f := 42) rfl ?_); refine goesL_ (some 11) rfl rfl Try.func42 (by kernel_rfl) rfl #[.slice A0_4 l0_4.length c0_4] rfl (by (try simp only [List.map_toArray, List.map_cons, List.map_nil]); first | done | rfl | (simp only [List.length_drop, List.length_take]; rfl)) ?_; (with_reducible refine (script_Normal.calls k _ _ l0_4 t136 t137 _ ?side1 ?side2 A2.out).mono ?_); (case side1 => repeat (first | exact (Kd.C_below HR0_4.out HB.out) | (with_reducible refine Kd.C_alloc ?_ _) | (with_reducible refine Kd.C_drewN ?_ _) | (with_reducible refine Kd.C_drew ?_))); (case side2 => exact HC0_4.out); rintro e w72 ⟨v138, rfl, ho0, hb⟩; refine ⟨_, rfl, ?_⟩; have n0_ := Aside0.mk (Kd.S_lower ho0 (below_size (by repeat (first | (with_reducible first | exact HB.out | apply below_alloc | apply pw_below_drewN | apply below_drew1 | refine below_set ?_ GE135.out) | exact HB.out)))); have n1_ := Aside0.mk (blk_below (g := gb135) (o := .cells #[.int .i64 a0_0, .int .i64 a0_1, .int .i64 a0_2, .int .i64 a0_3, .slice A0_4 l0_4.length c0_4] 44 (0, 0)) (by (with_reducible repeat first|refine zb1 ?_ _|refine zb2 ?_|refine zb3 ?_ _); exact BK135.out) hb); have n2_ := Aside0.mk (below_step (by repeat (first | (with_reducible first | exact HB.out | apply below_alloc | apply pw_below_drewN | apply below_drew1 | refine below_set ?_ GE135.out) | exact HB.out)) hb); clear BK135; clear HB; have HO139 := n0_; have BK135 := n1_; have HB := n2_; clear n0_ n1_ n2_; (try clear hb); (try clear hb2); (try clear hk); (try clear hi); (try clear ho0); have hcz73_0 : w72.cell? ⟨gb135, 0, none⟩ = some (.int .i64 a0_0) := (blk_cell BK135.out 0).trans rfl; have hcz73_1 : w72.cell? ⟨gb135, 1, none⟩ = some (.int .i64 a0_1) := (blk_cell BK135.out 1).trans rfl; have hcz73_2 : w72.cell? ⟨gb135, 2, none⟩ = some (.int .i64 a0_2) := (blk_cell BK135.out 2).trans rfl; have hcz73_3 : w72.cell? ⟨gb135, 3, none⟩ = some (.int .i64 a0_3) := (blk_cell BK135.out 3).trans rfl; have hcz73_4 : w72.cell? ⟨gb135, 4, none⟩ = some (.slice A0_4 l0_4.length c0_4) := (blk_cell BK135.out 4).trans rfl; have hfz73_0 := blk_frozen BK135.out 0; have hfz73_1 := blk_frozen BK135.out 1; have hfz73_2 := blk_frozen BK135.out 2; have hfz73_3 := blk_frozen BK135.out 3; have hfz73_4 := blk_frozen BK135.out 4) | ((with_reducible refine gate_callee (f := 55) rfl ?_); refine goesL_ (some 17) rfl rfl Try.func55 (by kernel_rfl) rfl #[.slice A0_4 l0_4.length c0_4] rfl (by (try simp only [List.map_toArray, List.map_cons, List.map_nil]); first | done | rfl | (simp only [List.length_drop, List.length_take]; rfl)) ?_; (with_reducible refine (script_Sides.calls k _ _ l0_4 t140 t141 t142 _ ?side1 ?side2 A3.out).mono ?_); (case side1 => repeat (first | exact (Kd.C_below HR0_4.out HB.out) | (with_reducible refine Kd.C_alloc ?_ _) | (with_reducible refine Kd.C_drewN ?_ _) | (with_reducible refine Kd.C_drew ?_))); (case side2 => exact HC0_4.out); rintro e w74 ⟨v143, v145, rfl, ho0, ho1, hb⟩; refine ⟨_, rfl, ?_⟩; have n0_ := Aside0.mk (Kd.S_mono (Kd.S_told (Kd.S_told (Kd.S_old (by (with_reducible repeat (first | apply Kd.S_alloc | apply Kd.S_drewN | apply Kd.S_drew)); exact HO139.out) hb) (Kd.R_base ho0)) (Kd.R_base ho1)) (fun _ h_ => h_.1)); have n1_ := Aside0.mk (Kd.R_lower ho0 (below_size (by repeat (first | (with_reducible first | exact HB.out | apply below_alloc | apply pw_below_drewN | apply below_drew1 | refine below_set ?_ GE135.out) | exact HB.out)))); have n2_ := Aside0.mk (Kd.R_lower ho1 (below_size (by repeat (first | (with_reducible first | exact HB.out | apply below_alloc | apply pw_below_drewN | apply below_drew1 | refine below_set ?_ GE135.out) | exact HB.out)))); have n3_ := Aside0.mk (blk_below (g := gb135) (o := .cells #[.int .i64 a0_0, .int .i64 a0_1, .int .i64 a0_2, .int .i64 a0_3, .slice A0_4 l0_4.length c0_4] 44 (0, 0)) (by (with_reducible repeat first|refine zb1 ?_ _|refine zb2 ?_|refine zb3 ?_ _); exact BK135.out) hb); have n4_ := Aside0.mk (below_step (by repeat (first | (with_reducible first | exact HB.out | apply below_alloc | apply pw_below_drewN | apply below_drew1 | refine below_set ?_ GE135.out) | exact HB.out)) hb); clear HO139; clear BK135; clear HB; have HO139 := n0_; have HO144 := n1_; have HO146 := n2_; have BK135 := n3_; have HB := n4_; clear n0_ n1_ n2_ n3_ n4_; (try clear hb); (try clear hb2); (try clear hk); (try clear hi); (try clear ho0); (try clear ho1); have hcz75_0 : w74.cell? ⟨gb135, 0, none⟩ = some (.int .i64 a0_0) := (blk_cell BK135.out 0).trans rfl; have hcz75_1 : w74.cell? ⟨gb135, 1, none⟩ = some (.int .i64 a0_1) := (blk_cell BK135.out 1).trans rfl; have hcz75_2 : w74.cell? ⟨gb135, 2, none⟩ = some (.int .i64 a0_2) := (blk_cell BK135.out 2).trans rfl; have hcz75_3 : w74.cell? ⟨gb135, 3, none⟩ = some (.int .i64 a0_3) := (blk_cell BK135.out 3).trans rfl; have hcz75_4 : w74.cell? ⟨gb135, 4, none⟩ = some (.slice A0_4 l0_4.length c0_4) := (blk_cell BK135.out 4).trans rfl; have hfz75_0 := blk_frozen BK135.out 0; have hfz75_1 := blk_frozen BK135.out 1; have hfz75_2 := blk_frozen BK135.out 2; have hfz75_3 := blk_frozen BK135.out 3; have hfz75_4 := blk_frozen BK135.out 4; obtain ⟨Ao76, co76, eo76⟩ := Kd.S_slice HO139.out; subst eo76) | (go_at_call 71; (with_reducible refine (hunk_same.calls k _ _ t136 _ _ l0_4 false _ ?side1 ?side2 ?side3 ?side4 A5.out).mono ?_); (case side1 => repeat (first | exact (Kd.S_reads' HO139.out).2.2 | (with_reducible refine Kd.C_alloc ?_ _) | (with_reducible refine Kd.C_drewN ?_ _) | (with_reducible refine Kd.C_drew ?_))); (case side2 => exact (Kd.S_reads' HO139.out).2.1); (case side3 => repeat (first | exact (Kd.C_below HR0_4.out HB.out) | (with_reducible refine Kd.C_alloc ?_ _) | (with_reducible refine Kd.C_drewN ?_ _) | (with_reducible refine Kd.C_drew ?_))); (case side4 => exact HC0_4.out); rintro e w77 ⟨rfl, hb⟩; have n0_ := Aside0.mk (Kd.S_below (by (with_reducible repeat (first | apply Kd.S_alloc | apply Kd.S_drewN | apply Kd.S_drew)); exact HO139.out) hb); have n1_ := Aside0.mk (Kd.R_below (by (with_reducible repeat first|apply zr1|apply zr2|apply zr3); exact HO144.out) hb); have n2_ := Aside0.mk (Kd.R_below (by (with_reducible repeat first|apply zr1|apply zr2|apply zr3); exact HO146.out) hb); have n3_ := Aside0.mk (blk_below (g := gb135) (o := .cells #[.int .i64 a0_0, .int .i64 a0_1, .int .i64 a0_2, .int .i64 a0_3, .slice A0_4 l0_4.length c0_4] 44 (0, 0)) (by (with_reducible repeat first|refine zb1 ?_ _|refine zb2 ?_|refine zb3 ?_ _); exact BK135.out) hb); have n4_ := Aside0.mk (below_step (by repeat (first | (with_reducible first | exact HB.out | apply below_alloc | apply pw_below_drewN | apply below_drew1 | refine below_set ?_ GE135.out) | exact HB.out)) hb); clear HO139; clear HO144; clear HO146; clear BK135; clear HB; have HO139 := n0_; have HO144 := n1_; have HO146 := n2_; have BK135 := n3_; have HB := n4_; clear n0_ n1_ n2_ n3_ n4_; (try clear hb); (try clear hb2); (try clear hk); (try clear hi)))
   go_ret
   exact ⟨by first | rfl | (simp [errW_none, errW_some] <;> rfl) | (simp [*, errW_none, errW_some] <;> rfl), by repeat (first | (with_reducible first | exact HB.out | apply below_alloc | apply pw_below_drewN | apply below_drew1 | refine below_set ?_ GE135.out) | exact HB.out)⟩
 ·rw [if_neg c4] at H
  have c4b0 : (t137 == 0) = false := beq_eq_false_iff_ne.mpr c4
  have c4b1 : (t137 != 0) = true := bne_iff_ne.mpr c4
  obtain rfl := Option.some.inj H
  go_enter Try.func50, Try.ntmps50
  go_wp2_with (first | ((with_reducible refine gate_dst (N := 1) rfl ?_); (try (refine gate_guard (by rfl) ?_; dsimp only)); refine box_event ?hg (N := 1) ?hd (cs := #[.int .i64 a0_0, .int .i64 a0_1, .int .i64 a0_2, .int .i64 a0_3, .slice A0_4 l0_4.length c0_4]) (t := 44) ?hr ?_; (case hd => rfl); (case hg => rfl); (case hr => first | (go_simp; done) | (go_simp; rfl)); intro gb135 hg w78 hbox hb; have n0_ := Aside0.mk (below_step (by repeat (first | (with_reducible first | exact HB.out | apply below_alloc | apply pw_below_drewN | apply below_drew1) | exact HB.out)) hb); have n1_ := Aside0.mk (hbox); have n2_ := Aside0.mk ((by rw [hg]; exact (below_size (by repeat (first | (with_reducible first | exact HB.out | apply below_alloc | apply pw_below_drewN | apply below_drew1) | exact HB.out))) : w.heap.size ≤ gb135)); have n3_ := Aside0.mk ((by rw [hg]; exact (below_size (by repeat (first | (with_reducible first | exact HB.out | apply below_alloc | apply pw_below_drewN | apply below_drew1) | exact HB.out))) : w.heap.size ≤ gb135)); clear HB; have HB := n0_; have BK135 := n1_; have GW135 := n2_; have GE135 := n3_; clear n0_ n1_ n2_ n3_; clear hb hbox hg; have hcz79_0 : w78.cell? ⟨gb135, 0, none⟩ = some (.int .i64 a0_0) := (blk_cell BK135.out 0).trans rfl; have hcz79_1 : w78.cell? ⟨gb135, 1, none⟩ = some (.int .i64 a0_1) := (blk_cell BK135.out 1).trans rfl; have hcz79_2 : w78.cell? ⟨gb135, 2, none⟩ = some (.int .i64 a0_2) := (blk_cell BK135.out 2).trans rfl; have hcz79_3 : w78.cell? ⟨gb135, 3, none⟩ = some (.int .i64 a0_3) := (blk_cell BK135.out 3).trans rfl; have hcz79_4 : w78.cell? ⟨gb135, 4, none⟩ = some (.slice A0_4 l0_4.length c0_4) := (blk_cell BK135.out 4).trans rfl; have hfz79_0 := blk_frozen BK135.out 0; have hfz79_1 := blk_frozen BK135.out 1; have hfz79_2 := blk_frozen BK135.out 2; have hfz79_3 := blk_frozen BK135.out 3; have hfz79_4 := blk_frozen BK135.out 4) | ((with_reducible refine gate_callee (f := 42) rfl ?_); refine goesL_ (some 11) rfl rfl Try.func42 (by kernel_rfl) rfl #[.slice A0_4 l0_4.length c0_4] rfl (by (try simp only [List.map_toArray, List.map_cons, List.map_nil]); first | done | rfl | (simp only [List.length_drop, List.length_take]; rfl)) ?_; (with_reducible refine (script_Normal.calls k _ _ l0_4 t136 t137 _ ?side1 ?side2 A2.out).mono ?_); (case side1 => repeat (first | exact (Kd.C_below HR0_4.out HB.out) | (with_reducible refine Kd.C_alloc ?_ _) | (with_reducible refine Kd.C_drewN ?_ _) | (with_reducible refine Kd.C_drew ?_))); (case side2 => exact HC0_4.out); rintro e w80 ⟨v138, rfl, ho0, hb⟩; refine ⟨_, rfl, ?_⟩; have n0_ := Aside0.mk (Kd.S_lower ho0 (below_size (by repeat (first | (with_reducible first | exact HB.out | apply below_alloc | apply pw_below_drewN | apply below_drew1 | refine below_set ?_ GE135.out) | exact HB.out)))); have n1_ := Aside0.mk (blk_below (g := gb135) (o := .cells #[.int .i64 a0_0, .int .i64 a0_1, .int .i64 a0_2, .int .i64 a0_3, .slice A0_4 l0_4.length c0_4] 44 (0, 0)) (by (with_reducible repeat first|refine zb1 ?_ _|refine zb2 ?_|refine zb3 ?_ _); exact BK135.out) hb); have n2_ := Aside0.mk (below_step (by repeat (first | (with_reducible first | exact HB.out | apply below_alloc | apply pw_below_drewN | apply below_drew1 | refine below_set ?_ GE135.out) | exact HB.out)) hb); clear BK135; clear HB; have HO139 := n0_; have BK135 := n1_; have HB := n2_; clear n0_ n1_ n2_; (try clear hb); (try clear hb2); (try clear hk); (try clear hi); (try clear ho0); have hcz81_0 : w80.cell? ⟨gb135, 0, none⟩ = some (.int .i64 a0_0) := (blk_cell BK135.out 0).trans rfl; have hcz81_1 : w80.cell? ⟨gb135, 1, none⟩ = some (.int .i64 a0_1) := (blk_cell BK135.out 1).trans rfl; have hcz81_2 : w80.cell? ⟨gb135, 2, none⟩ = some (.int .i64 a0_2) := (blk_cell BK135.out 2).trans rfl; have hcz81_3 : w80.cell? ⟨gb135, 3, none⟩ = some (.int .i64 a0_3) := (blk_cell BK135.out 3).trans rfl; have hcz81_4 : w80.cell? ⟨gb135, 4, none⟩ = some (.slice A0_4 l0_4.length c0_4) := (blk_cell BK135.out 4).trans rfl; have hfz81_0 := blk_frozen BK135.out 0; have hfz81_1 := blk_frozen BK135.out 1; have hfz81_2 := blk_frozen BK135.out 2; have hfz81_3 := blk_frozen BK135.out 3; have hfz81_4 := blk_frozen BK135.out 4) | ((with_reducible refine gate_callee (f := 55) rfl ?_); refine goesL_ (some 17) rfl rfl Try.func55 (by kernel_rfl) rfl #[.slice A0_4 l0_4.length c0_4] rfl (by (try simp only [List.map_toArray, List.map_cons, List.map_nil]); first | done | rfl | (simp only [List.length_drop, List.length_take]; rfl)) ?_; (with_reducible refine (script_Sides.calls k _ _ l0_4 t140 t141 t142 _ ?side1 ?side2 A3.out).mono ?_); (case side1 => repeat (first | exact (Kd.C_below HR0_4.out HB.out) | (with_reducible refine Kd.C_alloc ?_ _) | (with_reducible refine Kd.C_drewN ?_ _) | (with_reducible refine Kd.C_drew ?_))); (case side2 => exact HC0_4.out); rintro e w82 ⟨v143, v145, rfl, ho0, ho1, hb⟩; refine ⟨_, rfl, ?_⟩; have n0_ := Aside0.mk (Kd.S_mono (Kd.S_told (Kd.S_told (Kd.S_old (by (with_reducible repeat (first | apply Kd.S_alloc | apply Kd.S_drewN | apply Kd.S_drew)); exact HO139.out) hb) (Kd.R_base ho0)) (Kd.R_base ho1)) (fun _ h_ => h_.1)); have n1_ := Aside0.mk (Kd.R_lower ho0 (below_size (by repeat (first | (with_reducible first | exact HB.out | apply below_alloc | apply pw_below_drewN | apply below_drew1 | refine below_set ?_ GE135.out) | exact HB.out)))); have n2_ := Aside0.mk (Kd.R_lower ho1 (below_size (by repeat (first | (with_reducible first | exact HB.out | apply below_alloc | apply pw_below_drewN | apply below_drew1 | refine below_set ?_ GE135.out) | exact HB.out)))); have n3_ := Aside0.mk (blk_below (g := gb135) (o := .cells #[.int .i64 a0_0, .int .i64 a0_1, .int .i64 a0_2, .int .i64 a0_3, .slice A0_4 l0_4.length c0_4] 44 (0, 0)) (by (with_reducible repeat first|refine zb1 ?_ _|refine zb2 ?_|refine zb3 ?_ _); exact BK135.out) hb); have n4_ := Aside0.mk (below_step (by repeat (first | (with_reducible first | exact HB.out | apply below_alloc | apply pw_below_drewN | apply below_drew1 | refine below_set ?_ GE135.out) | exact HB.out)) hb); clear HO139; clear BK135; clear HB; have HO139 := n0_; have HO144 := n1_; have HO146 := n2_; have BK135 := n3_; have HB := n4_; clear n0_ n1_ n2_ n3_ n4_; (try clear hb); (try clear hb2); (try clear hk); (try clear hi); (try clear ho0); (try clear ho1)))
  go_ret
  exact ⟨by first | rfl | (simp [errW_none, errW_some] <;> rfl) | (simp [*, errW_none, errW_some] <;> rfl), by repeat (first | (with_reducible first | exact HB.out | apply below_alloc | apply pw_below_drewN | apply below_drew1 | refine below_set ?_ GE135.out) | exact HB.out)⟩

end Go.Proofs.Ytfnbodjmmkjlcaa.H
end
section
namespace Go.Proofs.Ytfnbodjmmkjlcaa.H
open Go.RowKit Go.Proofs.YtfnbodjmmkjlcaaW.PrintWords Go.Proofs.YtfnbodjmmkjlcaaW.PrintLast Go.Proofs.YtfnbodjmmkjlcaaW.PrintMore
attribute [local go_sem] max2_int min2_int max_two min_two max_three min_three max_four min_four   -- for this text's walks alone
set_option linter.unusedVariables false
set_option linter.unusedSimpArgs false

/-- Is there a hunk with too many edits or lines? -/
def hunk_Check.has (k : Nat) : List S44 → Option Bool
 | [] => some false
 | h :: t => (script_Check.f k h.f4).bind fun e => if e = 4 then some true else hunk_Check.has k t
def hunk_Check.far (a b x y : Int) : Bool := !(decide (0 ≤ x ∧ x ≤ 400) && decide (0 ≤ y ∧ y ≤ 400) && decide (a ≤ x) && decide (x - a = y - b))
def hunk_Check.all (k : Nat) : List S44 → Int → Int → Option Int
 | [], _, _ => some 0
 | h :: t, a, b => if 0 ≤ a ∧ a ≤ 800 ∧ 0 ≤ b ∧ b ≤ 800 then (hunk_right.f k h.f0 h.f1 h.f2 h.f3 h.f4).bind fun r => if r = false then some 3 else if hunk_Check.far a b h.f0 h.f2 = true then some 3 else if 0 ≤ h.f1 ∧ h.f1 ≤ 400 ∧ 0 ≤ h.f3 ∧ h.f3 ≤ 400 then hunk_Check.all k t (h.f0 + h.f1) (h.f2 + h.f3) else none else none
def hunk_Check.f (k : Nat) (l0 : List S44) : Option Int := if 400 < l0.length then some 4 else (hunk_Check.has k l0).bind fun b => if b = true then some 4 else hunk_Check.all k l0 0 0
theorem hunk_Check.has_mono (k : Nat) : ∀ l, LeO (hunk_Check.has k l) (hunk_Check.has (k + 1) l)
 | [] => LeO.refl _
 | h :: t => LeO.bind (script_Check.mono _ k) (fun _ => LeO.ite (LeO.refl _) (hunk_Check.has_mono k t))
theorem hunk_Check.all_mono (k : Nat) : ∀ l a b, LeO (hunk_Check.all k l a b) (hunk_Check.all (k + 1) l a b)
 | [], _, _ => LeO.refl _
 | h :: t, a, b => LeO.ite (LeO.bind (hunk_right.mono _ _ _ _ _ k) (fun _ => LeO.ite (LeO.refl _) (LeO.ite (LeO.refl _) (LeO.ite (hunk_Check.all_mono k t _ _) (LeO.refl _))))) (LeO.refl _)
theorem hunk_Check.mono : ∀ a0 k, LeO (hunk_Check.f k a0) (hunk_Check.f (k + 1) a0) := fun a0 k => LeO.ite (LeO.refl _) (LeO.bind (hunk_Check.has_mono k a0) (fun _ => LeO.ite (LeO.refl _) (hunk_Check.all_mono k a0 0 0)))
set_option maxHeartbeats 4000000 in
set_option maxRecDepth 100000 in
theorem hunk_Check.one_calls (k : Nat) (h : S44) (A : Option Addr) (c : Nat) (e : Int) (w : World) (hC : Kd.C k47 w A h.f4.length h.f4) (hc : h.f4.length ≤ c) (he : script_Check.f k h.f4 = some e) :
  Calls Try.prog 48 #[.agg #[.int .i64 h.f0, .int .i64 h.f1, .int .i64 h.f2, .int .i64 h.f3, .slice A h.f4.length c]] w fun e' w' => e' = .returned (.bool (e == 4)) ∧ Below w.heap.size w w' := by
 have HC := Aside0.mk hC
 have Hc := Aside0.mk hc
 have He := Aside0.mk he
 clear hC hc he
 go_enter Try.func48, Try.ntmps48
 go_wp2_with (go_at_call 49; refine (script_Check.calls k A c h.f4 e _ (Kd.C_below HC.out (below_alloc (Below.refl _ _) _)) Hc.out He.out).mono ?_; rintro e2 w2 ⟨rfl, hb⟩)
 go_ret
 exact ⟨rfl, below_step (below_alloc (Below.refl _ _) _) hb⟩
set_option maxHeartbeats 4000000 in
set_option maxRecDepth 100000 in
theorem hunk_Check.has_calls (k : Nat) (A0 : Option Addr) (c0 : Nat) (l0 : List S44) (r : Bool) (w : World) (hr0 : Kd.C k44 w A0 l0.length l0) (hc0 : l0.length ≤ c0) (h : hunk_Check.has k l0 = some r) :
  Calls Try.prog 47 #[.slice A0 l0.length c0, .func (.func 48) #[] #[]] w fun e w' => e = .returned (.bool r) ∧ Below w.heap.size w w' := by
 have HR0 := Aside0.mk hr0
 have HC0 := Aside0.mk hc0
 have H := Aside0.mk h
 clear hr0 hc0 h
 go_enter Try.func47, Try.ntmps47
 go_wp2
 go_loopw [8] (fun v wr => ∃ n : Nat, n ≤ l0.length ∧ v = .int .i64 (n : Int) ∧ hunk_Check.has k (l0.drop n) = some r ∧ Below w.heap.size w wr)
  (fun v _ => l0.length - (intOf v).toNat)
 case atStart => exact ⟨0, Nat.zero_le _, rfl, H.out, Below.refl _ _⟩
 case round =>
  obtain ⟨n, hn, rfl, ha, hB⟩ := hrel
  have hsl : l0.length ≤ 9223372036854775807 := HR0.out.2.1
  by_cases hlt : n < l0.length
  ·have hx : rd_T44 l0 (n : Int) = l0[n] := by
    simp [rd_T44, hlt]
   have hlt' : decide ((n : Int) < (l0.length : Int)) = true := decide_eq_true (by omega)
   have hlt2 : ((n : Int) < (l0.length : Int)) = True := eq_true (by omega)
   rw [List.drop_eq_getElem_cons hlt, ← hx] at ha
   unfold hunk_Check.has at ha
   obtain ⟨q, hq, ha⟩ := Option.bind_eq_some_iff.1 ha
   obtain ⟨ad, A4, c4, e, hx0, hx1, hx2, hx3, hx4, hl4, hC4⟩ := at_T44 HR0.out (n : Int) (by omega) (by omega)
   cases e
   replace hx0 := (hB.cell (World.block_lt_of_cell? w _ hx0)).trans hx0
   replace hx1 := (hB.cell (World.block_lt_of_cell? w _ hx1)).trans hx1
   replace hx2 := (hB.cell (World.block_lt_of_cell? w _ hx2)).trans hx2
   replace hx3 := (hB.cell (World.block_lt_of_cell? w _ hx3)).trans hx3
   replace hx4 := (hB.cell (World.block_lt_of_cell? w _ hx4)).trans hx4
   simp only [Int.toNat_natCast] at hx0 hx1 hx2 hx3 hx4
   have HC4 := Aside0.mk hC4
   have Hl4 := Aside0.mk hl4
   have HB := Aside0.mk hB
   have Hq := Aside0.mk hq
   have HWn : Aside0 (wrap64 ((n : Int) + 1) = ((n + 1 : Nat) : Int)) := ⟨by unfold wrap64; omega⟩
   clear hx hC4 hl4 hB hq
   by_cases hq4 : q = 4
   ·rw [if_pos hq4] at ha
    obtain rfl := Option.some.inj ha
    have hq4' : (q == 4) = true := beq_iff_eq.mpr hq4
    clear ha hq4
    go_wp2_with (go_at_call 48; refine (hunk_Check.one_calls k (rd_T44 l0 (n : Int)) A4 c4 q _ (Kd.C_below HC4.out HB.out) Hl4.out Hq.out).mono ?_; rintro e w2 ⟨rfl, hb2⟩)
    go_ret
    exact ⟨rfl, below_step HB.out hb2⟩
   ·rw [if_neg hq4] at ha
    have hq4' : (q == 4) = false := beq_eq_false_iff_ne.mpr hq4
    have Ha := Aside0.mk ha
    clear ha hq4
    go_wp2_with (go_at_call 48; refine (hunk_Check.one_calls k (rd_T44 l0 (n : Int)) A4 c4 q _ (Kd.C_below HC4.out HB.out) Hl4.out Hq.out).mono ?_; rintro e w2 ⟨rfl, hb2⟩)
    go_roundw
    case rel => exact ⟨n + 1, by omega, by first | rfl | exact congrArg _ HWn.out, Ha.out, below_step HB.out hb2⟩
    case measure =>
     try rw [HWn.out]
     simp only [intOf, Int.toNat_natCast]
     omega
  ·obtain rfl : n = l0.length := by omega
   have hlt' : decide ((l0.length : Int) < (l0.length : Int)) = false := decide_eq_false (by omega)
   rw [List.drop_length] at ha
   obtain rfl := Option.some.inj ha
   clear ha
   go_wp2
   go_ret
   exact ⟨rfl, hB⟩
theorem hunk_Check.within_eq (x : Int) : hunk_within.f x = some (decide (0 ≤ x ∧ x ≤ 400)) := by
 unfold hunk_within.f
 split
 ·rename_i h
  congr 1
  exact decide_eq_decide.2 ⟨fun h2 => ⟨h, h2⟩, fun h2 => h2.2⟩
 ·rename_i h
  congr 1
  exact (decide_eq_false (fun h2 => h h2.1)).symm
set_option maxHeartbeats 4000000 in
set_option maxRecDepth 100000 in
theorem hunk_Check.calls (k : Nat) (A0 : Option Addr) (c0 : Nat) (l0 : List S44) (r : Int) (w : World) (hr0 : Kd.C k44 w A0 l0.length l0) (hc0 : l0.length ≤ c0) (h : hunk_Check.f k l0 = some r) :
  Calls Try.prog 18 #[.slice A0 l0.length c0] w fun e w' => e = .returned (.int .i64 r) ∧ Below w.heap.size w w' := by
 unfold hunk_Check.f at h
 have HR0 := Aside0.mk hr0
 have HC0 := Aside0.mk hc0
 by_cases hl : 400 < l0.length
 ·rw [if_pos hl] at h
  obtain rfl := Option.some.inj h
  have hl' : decide (((l0.length : Nat) : Int) > 400) = true := decide_eq_true (by omega)
  have hl2 : decide (400 < l0.length) = true := decide_eq_true hl
  clear h hl hr0 hc0
  go_enter Try.func18, Try.ntmps18
  go_wp2
  go_ret
  exact ⟨rfl, Below.refl _ _⟩
 ·rw [if_neg hl] at h
  have hl' : decide (((l0.length : Nat) : Int) > 400) = false := decide_eq_false (by omega)
  have hl2 : decide (400 < l0.length) = false := decide_eq_false hl
  obtain ⟨b, hb, h⟩ := Option.bind_eq_some_iff.1 h
  have HH := Aside0.mk (hunk_Check.has_calls k A0 c0 l0 b w hr0 hc0 hb)
  clear hb hl hr0 hc0
  cases b with
  | true =>
   rw [if_pos rfl] at h
   obtain rfl := Option.some.inj h
   clear h
   go_enter Try.func18, Try.ntmps18
   go_wp2_with (go_at_call 47; refine HH.out.mono ?_; rintro e w1 ⟨rfl, hb1⟩)
   go_ret
   exact ⟨rfl, hb1⟩
  | false =>
   rw [if_neg (by decide)] at h
   have H := Aside0.mk h
   clear h
   go_enter Try.func18, Try.ntmps18
   go_wp2_with (go_at_call 47; refine HH.out.mono ?_; rintro e w1 ⟨rfl, hb1⟩)
   go_loopw [3, 4, 16] (fun va vb v wr => ∃ (n : Nat) (a b : Int), n ≤ l0.length ∧ va = .int .i64 a ∧ vb = .int .i64 b ∧ v = .int .i64 (n : Int) ∧ hunk_Check.all k (l0.drop n) a b = some r ∧ Below w.heap.size w wr)
    (fun _ _ v _ => l0.length - (intOf v).toNat)
   case atStart => exact ⟨0, 0, 0, Nat.zero_le _, rfl, rfl, rfl, H.out, hb1⟩
   case round =>
    obtain ⟨n, a, b, hn, rfl, rfl, rfl, ha, hB⟩ := hrel
    have hsl : l0.length ≤ 9223372036854775807 := HR0.out.2.1
    by_cases hlt : n < l0.length
    ·have hx : rd_T44 l0 (n : Int) = l0[n] := by
      simp [rd_T44, hlt]
     have hlt' : decide ((n : Int) < (l0.length : Int)) = true := decide_eq_true (by omega)
     rw [List.drop_eq_getElem_cons hlt, ← hx] at ha
     obtain ⟨ad, A4, c4, e, hx0, hx1, hx2, hx3, hx4, hl4, hC4⟩ := at_T44 HR0.out (n : Int) (by omega) (by omega)
     cases e
     replace hx0 := (hB.cell (World.block_lt_of_cell? w _ hx0)).trans hx0
     replace hx1 := (hB.cell (World.block_lt_of_cell? w _ hx1)).trans hx1
     replace hx2 := (hB.cell (World.block_lt_of_cell? w _ hx2)).trans hx2
     replace hx3 := (hB.cell (World.block_lt_of_cell? w _ hx3)).trans hx3
     replace hx4 := (hB.cell (World.block_lt_of_cell? w _ hx4)).trans hx4
     simp only [Int.toNat_natCast] at hx0 hx1 hx2 hx3 hx4
     generalize rd_T44 l0 (n : Int) = x at ha hx0 hx1 hx2 hx3 hx4 hl4 hC4
     unfold hunk_Check.all at ha
     split at ha
     case isFalse => cases ha
     rename_i hab
     obtain ⟨q, hq, ha⟩ := Option.bind_eq_some_iff.1 ha
     have HC4 := Aside0.mk hC4
     have Hl4 := Aside0.mk hl4
     have HB := Aside0.mk hB
     have Hr := Aside0.mk hq
     have HX := Aside0.mk (World.alloc_heap_new wr (.cells #[.int .i64 x.f0, .int .i64 x.f1, .int .i64 x.f2, .int .i64 x.f3, .slice A4 x.f4.length c4] 44 (0, 0)))
     have HBx := Aside0.mk (hB.alloc hB.size (.cells #[.int .i64 x.f0, .int .i64 x.f1, .int .i64 x.f2, .int .i64 x.f3, .slice A4 x.f4.length c4] 44))
     have HWn : Aside0 (wrap64 ((n : Int) + 1) = ((n + 1 : Nat) : Int)) := ⟨by unfold wrap64; omega⟩
     clear hC4 hl4 hB hq hx
     cases q with
     | false =>
      rw [if_pos rfl] at ha
      obtain rfl := Option.some.inj ha
      clear ha
      go_wp2_with
(first | (go_at_call 50; have hcl := hunk_right.calls k x.f0 x.f1 x.f2 x.f3 A4 c4 x.f4 false _ (Kd.C_below HC4.out HBx.out) Hl4.out Hr.out; refine hcl.mono ?_; clear hcl; rintro e W1 ⟨rfl, hb1⟩; have hX1 := (hb1.block _ (blk_lt HX.out)).trans HX.out; have hX10 : W1.cell? ⟨wr.heap.size, 0, none⟩ = some (.int .i64 x.f0) := (blk_cell hX1 0).trans rfl; have hX12 : W1.cell? ⟨wr.heap.size, 2, none⟩ = some (.int .i64 x.f2) := (blk_cell hX1 2).trans rfl; have HX1 := Aside0.mk hX1; have HB1 := Aside0.mk hb1; clear hX1 hb1) | (go_at_call 51; have hcl := hunk_within.calls x.f0 (decide (0 ≤ x.f0 ∧ x.f0 ≤ 400)) W1 (hunk_Check.within_eq _); with_reducible refine hcl.mono ?_; clear hcl; rintro e W2 ⟨rfl, hd2⟩; have hX2 := (hd2.below.block _ (blk_lt HX1.out)).trans HX1.out; have hX20 : W2.cell? ⟨wr.heap.size, 0, none⟩ = some (.int .i64 x.f0) := (blk_cell hX2 0).trans rfl; have hX22 : W2.cell? ⟨wr.heap.size, 2, none⟩ = some (.int .i64 x.f2) := (blk_cell hX2 2).trans rfl; have HX2 := Aside0.mk hX2; have HB2 := Aside0.mk (HB1.out.trans (hd2.below.mono HB1.out.size)); clear hX2 hd2) | (go_at_call 51; have hcl := hunk_within.calls x.f2 (decide (0 ≤ x.f2 ∧ x.f2 ≤ 400)) W2 (hunk_Check.within_eq _); with_reducible refine hcl.mono ?_; clear hcl; rintro e W3 ⟨rfl, hd3⟩; have hX3 := (hd3.below.block _ (blk_lt HX2.out)).trans HX2.out; have hX30 : W3.cell? ⟨wr.heap.size, 0, none⟩ = some (.int .i64 x.f0) := (blk_cell hX3 0).trans rfl; have hX31 : W3.cell? ⟨wr.heap.size, 1, none⟩ = some (.int .i64 x.f1) := (blk_cell hX3 1).trans rfl; have hX32 : W3.cell? ⟨wr.heap.size, 2, none⟩ = some (.int .i64 x.f2) := (blk_cell hX3 2).trans rfl; have hX33 : W3.cell? ⟨wr.heap.size, 3, none⟩ = some (.int .i64 x.f3) := (blk_cell hX3 3).trans rfl; have HX3 := Aside0.mk hX3; have HB3 := Aside0.mk (HB2.out.trans (hd3.below.mono HB2.out.size)); clear hX3 hd3))
      go_ret
      exact ⟨rfl, below_step HBx.out HB1.out⟩
     | true =>
      rw [if_neg (by decide)] at ha
      obtain ⟨ha1, ha2, ha3, ha4⟩ := hab
      by_cases p0 : 0 ≤ x.f0 ∧ x.f0 ≤ 400
      ·have p0' : decide (0 ≤ x.f0 ∧ x.f0 ≤ 400) = true := decide_eq_true p0
       by_cases p2 : 0 ≤ x.f2 ∧ x.f2 ≤ 400
       ·have p2' : decide (0 ≤ x.f2 ∧ x.f2 ≤ 400) = true := decide_eq_true p2
        by_cases pa : a ≤ x.f0
        ·have pa' : decide (x.f0 < a) = false := decide_eq_false (by omega)
         obtain ⟨p01, p02⟩ := p0
         obtain ⟨p21, p22⟩ := p2
         by_cases pd : x.f0 - a = x.f2 - b
         ·have pd' : (x.f0 - a != x.f2 - b) = false := bne_eq_false_iff_eq.mpr pd
          have hfar : hunk_Check.far a b x.f0 x.f2 = false := by
           unfold hunk_Check.far
           rw [p0', p2', decide_eq_true pa, decide_eq_true pd]
           rfl
          rw [hfar, if_neg (by decide)] at ha
          split at ha
          case isFalse => cases ha
          rename_i h13
          obtain ⟨q1, q2, q3, q4⟩ := h13
          have HW0 : Aside0 (wrap64 (x.f0 + x.f1) = x.f0 + x.f1) := ⟨by unfold wrap64; omega⟩
          have HW2 : Aside0 (wrap64 (x.f2 + x.f3) = x.f2 + x.f3) := ⟨by unfold wrap64; omega⟩
          have Ha := Aside0.mk ha
          clear ha hfar pd pa
          go_wp2_with
(first | (go_at_call 50; have hcl := hunk_right.calls k x.f0 x.f1 x.f2 x.f3 A4 c4 x.f4 true _ (Kd.C_below HC4.out HBx.out) Hl4.out Hr.out; refine hcl.mono ?_; clear hcl; rintro e W1 ⟨rfl, hb1⟩; have hX1 := (hb1.block _ (blk_lt HX.out)).trans HX.out; have hX10 : W1.cell? ⟨wr.heap.size, 0, none⟩ = some (.int .i64 x.f0) := (blk_cell hX1 0).trans rfl; have hX12 : W1.cell? ⟨wr.heap.size, 2, none⟩ = some (.int .i64 x.f2) := (blk_cell hX1 2).trans rfl; have HX1 := Aside0.mk hX1; have HB1 := Aside0.mk hb1; clear hX1 hb1) | (go_at_call 51; have hcl := hunk_within.calls x.f0 (decide (0 ≤ x.f0 ∧ x.f0 ≤ 400)) W1 (hunk_Check.within_eq _); with_reducible refine hcl.mono ?_; clear hcl; rintro e W2 ⟨rfl, hd2⟩; have hX2 := (hd2.below.block _ (blk_lt HX1.out)).trans HX1.out; have hX20 : W2.cell? ⟨wr.heap.size, 0, none⟩ = some (.int .i64 x.f0) := (blk_cell hX2 0).trans rfl; have hX22 : W2.cell? ⟨wr.heap.size, 2, none⟩ = some (.int .i64 x.f2) := (blk_cell hX2 2).trans rfl; have HX2 := Aside0.mk hX2; have HB2 := Aside0.mk (HB1.out.trans (hd2.below.mono HB1.out.size)); clear hX2 hd2) | (go_at_call 51; have hcl := hunk_within.calls x.f2 (decide (0 ≤ x.f2 ∧ x.f2 ≤ 400)) W2 (hunk_Check.within_eq _); with_reducible refine hcl.mono ?_; clear hcl; rintro e W3 ⟨rfl, hd3⟩; have hX3 := (hd3.below.block _ (blk_lt HX2.out)).trans HX2.out; have hX30 : W3.cell? ⟨wr.heap.size, 0, none⟩ = some (.int .i64 x.f0) := (blk_cell hX3 0).trans rfl; have hX31 : W3.cell? ⟨wr.heap.size, 1, none⟩ = some (.int .i64 x.f1) := (blk_cell hX3 1).trans rfl; have hX32 : W3.cell? ⟨wr.heap.size, 2, none⟩ = some (.int .i64 x.f2) := (blk_cell hX3 2).trans rfl; have hX33 : W3.cell? ⟨wr.heap.size, 3, none⟩ = some (.int .i64 x.f3) := (blk_cell hX3 3).trans rfl; have HX3 := Aside0.mk hX3; have HB3 := Aside0.mk (HB2.out.trans (hd3.below.mono HB2.out.size)); clear hX3 hd3))
          have hX3 := blk_drew HX3.out
          have HB4 := Aside0.mk (HB3.out.drew)
          clear hX30 hX31 hX32 hX33
          refine start_ (n := 12) (S := fun w' => w'.cell? ⟨wr.heap.size, 0, none⟩ = some (.int .i64 x.f0) ∧ w'.cell? ⟨wr.heap.size, 1, none⟩ = some (.int .i64 x.f1) ∧ w'.cell? ⟨wr.heap.size, 2, none⟩ = some (.int .i64 x.f2) ∧ w'.cell? ⟨wr.heap.size, 3, none⟩ = some (.int .i64 x.f3)) (ds := []) (Sq.bl 12 0) (by kernel_rfl) rfl (by rfl) ⟨(blk_cell hX3 0).trans rfl, (blk_cell hX3 1).trans rfl, (blk_cell hX3 2).trans rfl, (blk_cell hX3 3).trans rfl⟩ (fun hS => ?_)
          refine Sq.pu (v := ?_) (a' := ?_) 0 52 (Sq.bl 12 1) (by kernel_rfl) rfl rfl (fun _ _ _ h => h) (by rfl) ?_ ?_ ?_; rotate_left; (· intro w'; go_simp; with_reducible rfl); rotate_left; (· simp only [Act.put, List.setIfInBounds_toArray, List.set_cons_zero, List.set_cons_succ, i64_w, i32_w, HW0.out, HW2.out]; rfl)
          refine Sq.pu (v := ?_) (a' := ?_) 2 54 (Sq.bl 12 5) (by kernel_rfl) rfl rfl (fun _ _ _ h => h) (by rfl) ?_ ?_ ?_; rotate_left; (· intro w'; go_simp; with_reducible rfl); rotate_left; (· simp only [Act.put, List.setIfInBounds_toArray, List.set_cons_zero, List.set_cons_succ, i64_w, i32_w, HW0.out, HW2.out]; rfl)
          refine Sq.pu (v := ?_) (a' := ?_) 5 57 (Sq.bl 12 37) (by kernel_rfl) rfl rfl (fun _ _ _ h => h) (by rfl) ?_ ?_ ?_; rotate_left; (· intro w'; go_simp; with_reducible rfl); rotate_left; (· simp only [Act.put, List.setIfInBounds_toArray, List.set_cons_zero, List.set_cons_succ, i64_w, i32_w, HW0.out, HW2.out]; rfl)
          refine Sq.pu (v := ?_) (a' := ?_) 7 59 (Sq.bl 12 165) (by kernel_rfl) rfl rfl (fun _ _ _ h => h) (by rfl) ?_ ?_ ?_; rotate_left; (· intro w'; go_simp; with_reducible rfl); rotate_left; (· simp only [Act.put, List.setIfInBounds_toArray, List.set_cons_zero, List.set_cons_succ, i64_w, i32_w, HW0.out, HW2.out]; rfl)
          refine take_ (i := 1) (N := some 53) (v := ?_) (a' := ?_) (Sq.bl 12 167) rfl rfl (by kernel_rfl) (fun _ _ _ h => h) (Or.inl ⟨by rfl, ?_⟩) hS ?_ ?_; rotate_left; (· rintro w' ⟨s0, s1, s2, s3⟩; go_simp; with_reducible rfl); rotate_left; (· simp only [Act.put, List.setIfInBounds_toArray, List.set_cons_zero, List.set_cons_succ, i64_w, i32_w, HW0.out, HW2.out]; rfl)
          refine take_ (i := 3) (N := some 55) (v := ?_) (a' := ?_) (Sq.bl 12 175) rfl rfl (by kernel_rfl) (fun _ _ _ h => h) (Or.inl ⟨by rfl, ?_⟩) hS ?_ ?_; rotate_left; (· rintro w' ⟨s0, s1, s2, s3⟩; go_simp; with_reducible rfl); rotate_left; (· simp only [Act.put, List.setIfInBounds_toArray, List.set_cons_zero, List.set_cons_succ, i64_w, i32_w, HW0.out, HW2.out]; rfl)
          refine Sq.pu (v := ?_) (a' := ?_) 4 56 (Sq.bl 12 191) (by kernel_rfl) rfl rfl (fun _ _ _ h => h) (by rfl) ?_ ?_ ?_; rotate_left; (· intro w'; go_simp; with_reducible rfl); rotate_left; (· simp only [Act.put, List.setIfInBounds_toArray, List.set_cons_zero, List.set_cons_succ, i64_w, i32_w, HW0.out, HW2.out]; rfl)
          refine Sq.pu (v := ?_) (a' := ?_) 10 3 (Sq.bl 12 1215) (by kernel_rfl) rfl rfl (fun _ _ _ h => h) (by rfl) ?_ ?_ ?_; rotate_left; (· intro w'; go_simp; with_reducible rfl); rotate_left; (· simp only [Act.put, List.setIfInBounds_toArray, List.set_cons_zero, List.set_cons_succ, i64_w, i32_w, HW0.out, HW2.out]; rfl)
          refine take_ (i := 6) (N := some 58) (v := ?_) (a' := ?_) (Sq.bl 12 1279) rfl rfl (by kernel_rfl) (fun _ _ _ h => h) (Or.inl ⟨by rfl, ?_⟩) hS ?_ ?_; rotate_left; (· rintro w' ⟨s0, s1, s2, s3⟩; go_simp; with_reducible rfl); rotate_left; (· simp only [Act.put, List.setIfInBounds_toArray, List.set_cons_zero, List.set_cons_succ, i64_w, i32_w, HW0.out, HW2.out]; rfl)
          refine take_ (i := 8) (N := some 60) (v := ?_) (a' := ?_) (Sq.bl 12 1535) rfl rfl (by kernel_rfl) (fun _ _ _ h => h) (Or.inl ⟨by rfl, ?_⟩) hS ?_ ?_; rotate_left; (· rintro w' ⟨s0, s1, s2, s3⟩; go_simp; with_reducible rfl); rotate_left; (· simp only [Act.put, List.setIfInBounds_toArray, List.set_cons_zero, List.set_cons_succ, i64_w, i32_w, HW0.out, HW2.out]; rfl)
          refine Sq.pu (v := ?_) (a' := ?_) 9 61 (Sq.bl 12 2047) (by kernel_rfl) rfl rfl (fun _ _ _ h => h) (by rfl) ?_ ?_ ?_; rotate_left; (· intro w'; go_simp; with_reducible rfl); rotate_left; (· simp only [Act.put, List.setIfInBounds_toArray, List.set_cons_zero, List.set_cons_succ, i64_w, i32_w, HW0.out, HW2.out]; rfl)
          refine Sq.pu (v := ?_) (a' := ?_) 11 4 (Sq.bl 12 4095) (by kernel_rfl) rfl rfl (fun _ _ _ h => h) (by rfl) ?_ ?_ ?_; rotate_left; (· intro w'; go_simp; with_reducible rfl); rotate_left; (· simp only [Act.put, List.setIfInBounds_toArray, List.set_cons_zero, List.set_cons_succ, i64_w, i32_w, HW0.out, HW2.out]; rfl)
          refine done_ (by kernel_rfl) ?_
          go_wp2
          go_roundw
          case rel => exact ⟨n + 1, x.f0 + x.f1, x.f2 + x.f3, by omega, by first | rfl | exact congrArg _ HW0.out, by first | rfl | exact congrArg _ HW2.out, by first | rfl | exact congrArg _ HWn.out, Ha.out, below_step HBx.out HB4.out⟩
          case measure =>
           try rw [HWn.out]
           simp only [intOf, Int.toNat_natCast]
           omega
         ·have pd' : (x.f0 - a != x.f2 - b) = true := bne_iff_ne.mpr pd
          have hfar : hunk_Check.far a b x.f0 x.f2 = true := by
           unfold hunk_Check.far
           rw [p0', p2', decide_eq_true pa, decide_eq_false pd]
           rfl
          rw [hfar, if_pos rfl] at ha
          obtain rfl := Option.some.inj ha
          clear ha hfar pd pa
          go_wp2_with
(first | (go_at_call 50; have hcl := hunk_right.calls k x.f0 x.f1 x.f2 x.f3 A4 c4 x.f4 true _ (Kd.C_below HC4.out HBx.out) Hl4.out Hr.out; refine hcl.mono ?_; clear hcl; rintro e W1 ⟨rfl, hb1⟩; have hX1 := (hb1.block _ (blk_lt HX.out)).trans HX.out; have hX10 : W1.cell? ⟨wr.heap.size, 0, none⟩ = some (.int .i64 x.f0) := (blk_cell hX1 0).trans rfl; have hX12 : W1.cell? ⟨wr.heap.size, 2, none⟩ = some (.int .i64 x.f2) := (blk_cell hX1 2).trans rfl; have HX1 := Aside0.mk hX1; have HB1 := Aside0.mk hb1; clear hX1 hb1) | (go_at_call 51; have hcl := hunk_within.calls x.f0 (decide (0 ≤ x.f0 ∧ x.f0 ≤ 400)) W1 (hunk_Check.within_eq _); with_reducible refine hcl.mono ?_; clear hcl; rintro e W2 ⟨rfl, hd2⟩; have hX2 := (hd2.below.block _ (blk_lt HX1.out)).trans HX1.out; have hX20 : W2.cell? ⟨wr.heap.size, 0, none⟩ = some (.int .i64 x.f0) := (blk_cell hX2 0).trans rfl; have hX22 : W2.cell? ⟨wr.heap.size, 2, none⟩ = some (.int .i64 x.f2) := (blk_cell hX2 2).trans rfl; have HX2 := Aside0.mk hX2; have HB2 := Aside0.mk (HB1.out.trans (hd2.below.mono HB1.out.size)); clear hX2 hd2) | (go_at_call 51; have hcl := hunk_within.calls x.f2 (decide (0 ≤ x.f2 ∧ x.f2 ≤ 400)) W2 (hunk_Check.within_eq _); with_reducible refine hcl.mono ?_; clear hcl; rintro e W3 ⟨rfl, hd3⟩; have hX3 := (hd3.below.block _ (blk_lt HX2.out)).trans HX2.out; have hX30 : W3.cell? ⟨wr.heap.size, 0, none⟩ = some (.int .i64 x.f0) := (blk_cell hX3 0).trans rfl; have hX31 : W3.cell? ⟨wr.heap.size, 1, none⟩ = some (.int .i64 x.f1) := (blk_cell hX3 1).trans rfl; have hX32 : W3.cell? ⟨wr.heap.size, 2, none⟩ = some (.int .i64 x.f2) := (blk_cell hX3 2).trans rfl; have hX33 : W3.cell? ⟨wr.heap.size, 3, none⟩ = some (.int .i64 x.f3) := (blk_cell hX3 3).trans rfl; have HX3 := Aside0.mk hX3; have HB3 := Aside0.mk (HB2.out.trans (hd3.below.mono HB2.out.size)); clear hX3 hd3))
          go_ret
          exact ⟨rfl, below_step HBx.out HB3.out⟩
        ·have pa' : decide (x.f0 < a) = true := decide_eq_true (by omega)
         have hfar : hunk_Check.far a b x.f0 x.f2 = true := by
          unfold hunk_Check.far
          rw [p0', p2', decide_eq_false pa]
          rfl
         rw [hfar, if_pos rfl] at ha
         obtain rfl := Option.some.inj ha
         clear ha hfar pa p0 p2
         go_wp2_with
(first | (go_at_call 50; have hcl := hunk_right.calls k x.f0 x.f1 x.f2 x.f3 A4 c4 x.f4 true _ (Kd.C_below HC4.out HBx.out) Hl4.out Hr.out; refine hcl.mono ?_; clear hcl; rintro e W1 ⟨rfl, hb1⟩; have hX1 := (hb1.block _ (blk_lt HX.out)).trans HX.out; have hX10 : W1.cell? ⟨wr.heap.size, 0, none⟩ = some (.int .i64 x.f0) := (blk_cell hX1 0).trans rfl; have hX12 : W1.cell? ⟨wr.heap.size, 2, none⟩ = some (.int .i64 x.f2) := (blk_cell hX1 2).trans rfl; have HX1 := Aside0.mk hX1; have HB1 := Aside0.mk hb1; clear hX1 hb1) | (go_at_call 51; have hcl := hunk_within.calls x.f0 (decide (0 ≤ x.f0 ∧ x.f0 ≤ 400)) W1 (hunk_Check.within_eq _); with_reducible refine hcl.mono ?_; clear hcl; rintro e W2 ⟨rfl, hd2⟩; have hX2 := (hd2.below.block _ (blk_lt HX1.out)).trans HX1.out; have hX20 : W2.cell? ⟨wr.heap.size, 0, none⟩ = some (.int .i64 x.f0) := (blk_cell hX2 0).trans rfl; have hX22 : W2.cell? ⟨wr.heap.size, 2, none⟩ = some (.int .i64 x.f2) := (blk_cell hX2 2).trans rfl; have HX2 := Aside0.mk hX2; have HB2 := Aside0.mk (HB1.out.trans (hd2.below.mono HB1.out.size)); clear hX2 hd2) | (go_at_call 51; have hcl := hunk_within.calls x.f2 (decide (0 ≤ x.f2 ∧ x.f2 ≤ 400)) W2 (hunk_Check.within_eq _); with_reducible refine hcl.mono ?_; clear hcl; rintro e W3 ⟨rfl, hd3⟩; have hX3 := (hd3.below.block _ (blk_lt HX2.out)).trans HX2.out; have hX30 : W3.cell? ⟨wr.heap.size, 0, none⟩ = some (.int .i64 x.f0) := (blk_cell hX3 0).trans rfl; have hX31 : W3.cell? ⟨wr.heap.size, 1, none⟩ = some (.int .i64 x.f1) := (blk_cell hX3 1).trans rfl; have hX32 : W3.cell? ⟨wr.heap.size, 2, none⟩ = some (.int .i64 x.f2) := (blk_cell hX3 2).trans rfl; have hX33 : W3.cell? ⟨wr.heap.size, 3, none⟩ = some (.int .i64 x.f3) := (blk_cell hX3 3).trans rfl; have HX3 := Aside0.mk hX3; have HB3 := Aside0.mk (HB2.out.trans (hd3.below.mono HB2.out.size)); clear hX3 hd3))
         go_ret
         exact ⟨rfl, below_step HBx.out HB3.out⟩
       ·have p2' : decide (0 ≤ x.f2 ∧ x.f2 ≤ 400) = false := decide_eq_false p2
        have hfar : hunk_Check.far a b x.f0 x.f2 = true := by
         unfold hunk_Check.far
         rw [p0', p2']
         rfl
        rw [hfar, if_pos rfl] at ha
        obtain rfl := Option.some.inj ha
        clear ha hfar p0 p2
        go_wp2_with
(first | (go_at_call 50; have hcl := hunk_right.calls k x.f0 x.f1 x.f2 x.f3 A4 c4 x.f4 true _ (Kd.C_below HC4.out HBx.out) Hl4.out Hr.out; refine hcl.mono ?_; clear hcl; rintro e W1 ⟨rfl, hb1⟩; have hX1 := (hb1.block _ (blk_lt HX.out)).trans HX.out; have hX10 : W1.cell? ⟨wr.heap.size, 0, none⟩ = some (.int .i64 x.f0) := (blk_cell hX1 0).trans rfl; have hX12 : W1.cell? ⟨wr.heap.size, 2, none⟩ = some (.int .i64 x.f2) := (blk_cell hX1 2).trans rfl; have HX1 := Aside0.mk hX1; have HB1 := Aside0.mk hb1; clear hX1 hb1) | (go_at_call 51; have hcl := hunk_within.calls x.f0 (decide (0 ≤ x.f0 ∧ x.f0 ≤ 400)) W1 (hunk_Check.within_eq _); with_reducible refine hcl.mono ?_; clear hcl; rintro e W2 ⟨rfl, hd2⟩; have hX2 := (hd2.below.block _ (blk_lt HX1.out)).trans HX1.out; have hX20 : W2.cell? ⟨wr.heap.size, 0, none⟩ = some (.int .i64 x.f0) := (blk_cell hX2 0).trans rfl; have hX22 : W2.cell? ⟨wr.heap.size, 2, none⟩ = some (.int .i64 x.f2) := (blk_cell hX2 2).trans rfl; have HX2 := Aside0.mk hX2; have HB2 := Aside0.mk (HB1.out.trans (hd2.below.mono HB1.out.size)); clear hX2 hd2) | (go_at_call 51; have hcl := hunk_within.calls x.f2 (decide (0 ≤ x.f2 ∧ x.f2 ≤ 400)) W2 (hunk_Check.within_eq _); with_reducible refine hcl.mono ?_; clear hcl; rintro e W3 ⟨rfl, hd3⟩; have hX3 := (hd3.below.block _ (blk_lt HX2.out)).trans HX2.out; have hX30 : W3.cell? ⟨wr.heap.size, 0, none⟩ = some (.int .i64 x.f0) := (blk_cell hX3 0).trans rfl; have hX31 : W3.cell? ⟨wr.heap.size, 1, none⟩ = some (.int .i64 x.f1) := (blk_cell hX3 1).trans rfl; have hX32 : W3.cell? ⟨wr.heap.size, 2, none⟩ = some (.int .i64 x.f2) := (blk_cell hX3 2).trans rfl; have hX33 : W3.cell? ⟨wr.heap.size, 3, none⟩ = some (.int .i64 x.f3) := (blk_cell hX3 3).trans rfl; have HX3 := Aside0.mk hX3; have HB3 := Aside0.mk (HB2.out.trans (hd3.below.mono HB2.out.size)); clear hX3 hd3))
        go_ret
        exact ⟨rfl, below_step HBx.out HB3.out⟩
      ·have p0' : decide (0 ≤ x.f0 ∧ x.f0 ≤ 400) = false := decide_eq_false p0
       have hfar : hunk_Check.far a b x.f0 x.f2 = true := by
        unfold hunk_Check.far
        rw [p0']
        rfl
       rw [hfar, if_pos rfl] at ha
       obtain rfl := Option.some.inj ha
       clear ha hfar p0
       go_wp2_with
(first | (go_at_call 50; have hcl := hunk_right.calls k x.f0 x.f1 x.f2 x.f3 A4 c4 x.f4 true _ (Kd.C_below HC4.out HBx.out) Hl4.out Hr.out; refine hcl.mono ?_; clear hcl; rintro e W1 ⟨rfl, hb1⟩; have hX1 := (hb1.block _ (blk_lt HX.out)).trans HX.out; have hX10 : W1.cell? ⟨wr.heap.size, 0, none⟩ = some (.int .i64 x.f0) := (blk_cell hX1 0).trans rfl; have hX12 : W1.cell? ⟨wr.heap.size, 2, none⟩ = some (.int .i64 x.f2) := (blk_cell hX1 2).trans rfl; have HX1 := Aside0.mk hX1; have HB1 := Aside0.mk hb1; clear hX1 hb1) | (go_at_call 51; have hcl := hunk_within.calls x.f0 (decide (0 ≤ x.f0 ∧ x.f0 ≤ 400)) W1 (hunk_Check.within_eq _); with_reducible refine hcl.mono ?_; clear hcl; rintro e W2 ⟨rfl, hd2⟩; have hX2 := (hd2.below.block _ (blk_lt HX1.out)).trans HX1.out; have hX20 : W2.cell? ⟨wr.heap.size, 0, none⟩ = some (.int .i64 x.f0) := (blk_cell hX2 0).trans rfl; have hX22 : W2.cell? ⟨wr.heap.size, 2, none⟩ = some (.int .i64 x.f2) := (blk_cell hX2 2).trans rfl; have HX2 := Aside0.mk hX2; have HB2 := Aside0.mk (HB1.out.trans (hd2.below.mono HB1.out.size)); clear hX2 hd2) | (go_at_call 51; have hcl := hunk_within.calls x.f2 (decide (0 ≤ x.f2 ∧ x.f2 ≤ 400)) W2 (hunk_Check.within_eq _); with_reducible refine hcl.mono ?_; clear hcl; rintro e W3 ⟨rfl, hd3⟩; have hX3 := (hd3.below.block _ (blk_lt HX2.out)).trans HX2.out; have hX30 : W3.cell? ⟨wr.heap.size, 0, none⟩ = some (.int .i64 x.f0) := (blk_cell hX3 0).trans rfl; have hX31 : W3.cell? ⟨wr.heap.size, 1, none⟩ = some (.int .i64 x.f1) := (blk_cell hX3 1).trans rfl; have hX32 : W3.cell? ⟨wr.heap.size, 2, none⟩ = some (.int .i64 x.f2) := (blk_cell hX3 2).trans rfl; have hX33 : W3.cell? ⟨wr.heap.size, 3, none⟩ = some (.int .i64 x.f3) := (blk_cell hX3 3).trans rfl; have HX3 := Aside0.mk hX3; have HB3 := Aside0.mk (HB2.out.trans (hd3.below.mono HB2.out.size)); clear hX3 hd3))
       go_ret
       exact ⟨rfl, below_step HBx.out HB2.out⟩
    ·obtain rfl : n = l0.length := by omega
     have hlt' : decide ((l0.length : Int) < (l0.length : Int)) = false := decide_eq_false (by omega)
     rw [List.drop_length] at ha
     obtain rfl := Option.some.inj ha
     clear ha
     go_wp2
     go_ret
     exact ⟨rfl, hB⟩


end Go.Proofs.Ytfnbodjmmkjlcaa.H
end
section
namespace Go.Proofs.Ytfnbodjmmkjlcaa.H
open Go.RowKit Go.Proofs.YtfnbodjmmkjlcaaW.PrintWords Go.Proofs.YtfnbodjmmkjlcaaW.PrintLast Go.Proofs.YtfnbodjmmkjlcaaW.PrintMore
attribute [local go_sem] max2_int min2_int max_two min_two max_three min_three max_four min_four   -- for this text's walks alone
set_option linter.unusedVariables false
set_option linter.unusedSimpArgs false

mutual
def hunk_Join.l0 : Nat → List (S47) → List (S44) → Int → Int → Option ((List (S47)))
 | 0, _, _, _, _ => none
 | k + 1, x3, x8, x9, x10 => if x10 < x9 then (if 0 ≤ x10 then (if x10 < (x8.length : Int) then (hunk_Join.l1 k x3 x8 x9 x10 ((rd_T44 x8 x10).f4) (((rd_T44 x8 x10).f4).length : Int) 0) else (none)) else (none)) else (some x3)
def hunk_Join.l1 : Nat → List (S47) → List (S44) → Int → Int → List (S47) → Int → Int → Option ((List (S47)))
 | 0, _, _, _, _, _, _, _ => none
 | k + 1, x3, x8, x9, x10, x15, x16, x17 => if x17 < x16 then (if 0 ≤ x17 then (if x17 < (x15.length : Int) then ((api_Line_52.f ((rd_T47 x15 x17).f1)).bind fun t155 => (if x3.length < 4398046511104 then (hunk_Join.l1 k (x3 ++ [(⟨(rd_T47 x15 x17).f0, t155⟩ : S47)]) x8 x9 x10 x15 x16 (wrap64 (x17 + 1))) else (none))) else (none)) else (none)) else (hunk_Join.l0 k x3 x8 x9 (wrap64 (x10 + 1)))
end
def hunk_Join.f (k : Nat) (l0 : List (S44)) : Option ((List (S47))) := hunk_Join.l0 k ([] : List (S47)) l0 (l0.length : Int) 0
theorem hunk_Join.mono_l : ∀ k, (∀ y0 y1 y2 y3, LeO (hunk_Join.l0 k y0 y1 y2 y3) (hunk_Join.l0 (k + 1) y0 y1 y2 y3)) ∧ (∀ y0 y1 y2 y3 y4 y5 y6, LeO (hunk_Join.l1 k y0 y1 y2 y3 y4 y5 y6) (hunk_Join.l1 (k + 1) y0 y1 y2 y3 y4 y5 y6))
 | 0 => ⟨fun _ _ _ _ r h => by simp [hunk_Join.l0] at h, fun _ _ _ _ _ _ _ r h => by simp [hunk_Join.l1] at h⟩
 | k + 1 => by
  obtain ⟨ih0, ih1⟩ := hunk_Join.mono_l k
  refine ⟨?_, ?_⟩
  ·intro y0 y1 y2 y3
   unfold hunk_Join.l0
   repeat' first
   | (with_reducible exact ih0 _ _ _ _)
   | (with_reducible exact ih1 _ _ _ _ _ _ _)
   | (with_reducible exact LeO.refl _)
   | (with_reducible exact LeO.none _)
   | (with_reducible refine LeO.ite ?_ ?_)
   | (with_reducible refine LeO.bind ?_ (fun _ => ?_))
   | exact ih0 _ _ _ _
   | exact ih1 _ _ _ _ _ _ _
   | exact LeO.none _
   | refine LeO.ite ?_ ?_
   | refine LeO.bind ?_ (fun _ => ?_)
  ·intro y0 y1 y2 y3 y4 y5 y6
   unfold hunk_Join.l1
   repeat' first
   | (with_reducible exact ih0 _ _ _ _)
   | (with_reducible exact ih1 _ _ _ _ _ _ _)
   | (with_reducible exact LeO.refl _)
   | (with_reducible exact LeO.none _)
   | (with_reducible refine LeO.ite ?_ ?_)
   | (with_reducible refine LeO.bind ?_ (fun _ => ?_))
   | exact ih0 _ _ _ _
   | exact ih1 _ _ _ _ _ _ _
   | exact LeO.none _
   | refine LeO.ite ?_ ?_
   | refine LeO.bind ?_ (fun _ => ?_)
theorem hunk_Join.mono : ∀ a0 k, LeO (hunk_Join.f k a0) (hunk_Join.f (k + 1) a0) := by
 intro a0 k
 obtain ⟨ih0, ih1⟩ := hunk_Join.mono_l k
 unfold hunk_Join.f
 repeat' first
   | (with_reducible exact ih0 _ _ _ _)
   | (with_reducible exact ih1 _ _ _ _ _ _ _)
   | (with_reducible exact LeO.refl _)
   | (with_reducible exact LeO.none _)
   | (with_reducible refine LeO.ite ?_ ?_)
   | (with_reducible refine LeO.bind ?_ (fun _ => ?_))
   | exact ih0 _ _ _ _
   | exact ih1 _ _ _ _ _ _ _
   | exact LeO.none _
   | refine LeO.ite ?_ ?_
   | refine LeO.bind ?_ (fun _ => ?_)
def hunk_Join.T8 : Bool × List (List Nat × List Nat) := (true, [([], []), ([], []), ([1], [1]), ([], []), ([3], [3]), ([4], [4]), ([2, 5], [2, 5]), ([6], [6]), ([0, 7, 5], [0, 7]), ([8, 8, 0, 1, 2, 3, 4, 5, 6, 7, 8], [0, 8])])
def hunk_Join.B8 : List Nat := [0, 0, 2, 0, 8, 24, 62, 126, 255, 511]
theorem hunk_Join.tab8 : rtab .any (opsOf Try.f21 8) = hunk_Join.T8 := by kernel_rfl
theorem hunk_Join.bits8 : waitsOk hunk_Join.T8.2 hunk_Join.B8 = true := by kernel_rfl
set_option maxHeartbeats 8000000 in
set_option maxRecDepth 100000 in
theorem hunk_Join.calls (k : Nat) (A0 : Option Addr) (c0 : Nat) (l0 : List (S44)) (r : List (S47)) (w : World) (hr0 : Kd.C k44 w A0 l0.length l0) (hc0 : l0.length ≤ c0) (h : hunk_Join.f k l0 = some r) :
  Calls Try.prog 21 #[.slice A0 l0.length c0] w fun e w' => ∃ v0_ : Value, e = .returned (v0_) ∧ Kd.S k47 47 w' w.heap.size (fun _ => True) v0_ r ∧ Below w.heap.size w w' := by
 have hu44 := Try.underlying44
 have hu47 := Try.underlying47
 have HR0 := Aside0.mk hr0
 have HC0 := Aside0.mk hc0
 clear hr0 hc0
 have HB := Aside0.mk (Below.refl w.heap.size w)
 have H : (hunk_Join.l0 k ([] : List (S47)) l0 (l0.length : Int) 0) = some r := h
 clear h
 have H' := Aside0.mk H
 clear H
 go_enter Try.func21, Try.ntmps21
 go_wp2
 go_loopg [3, 10] k (fun kq v3 v10 w' => ∃ (x3_1 : List (S47)) (x10_1 : Int), v10 = .int .i64 x10_1 ∧ Aside0 (hunk_Join.l0 kq x3_1 l0 (l0.length : Int) x10_1 = some r) ∧ Aside0 (kq ≤ k) ∧ Aside0 (Kd.S k47 47 w' w.heap.size (fun _ => True) v3 x3_1) ∧ Aside0 (Below w.heap.size w w'))
 case atStart => exact ⟨(([] : List (S47))), (0), (by first | rfl | (simp; done) | (simp [*]; done)), H', ⟨Nat.le_refl _⟩, ⟨by first | exact Kd.S_nil _ _ _ _ _ | exact Kd.N_nil _ _ _ _ _ | exact Kd.V_nil _ _ _ _ _ | exact Kd.Q_nil _ _ _ _ _ | exact Kd.R_nil _ _ _ _ _⟩, ⟨by repeat (first | (with_reducible first | exact HB.out | apply below_alloc | apply pw_below_drewN | apply below_drew1) | exact HB.out)⟩⟩
 case round =>
  clear H'
  obtain ⟨x3_1, x10_1, rfl, HA, HK1, HO_3, HB⟩ := hrel
  cases gk with
  | zero => exact absurd HA.out (by simp [hunk_Join.l0])
  | succ k1 =>
   have H := HA.out
   clear HA
   simp only [hunk_Join.l0] at H
   by_cases c2 : x10_1 < (l0.length : Int)
   ·rw [if_pos c2] at H
    have c2b0 : decide (x10_1 < (l0.length : Int)) = true := decide_eq_true c2
    clear c2
    by_cases c3 : 0 ≤ x10_1
    ·rw [if_pos c3] at H
     have c3b0 : decide (0 ≤ x10_1) = true := decide_eq_true c3
     clear c3
     by_cases c4 : x10_1 < (l0.length : Int)
     ·rw [if_pos c4] at H
      have c4b0 : decide (x10_1 < (l0.length : Int)) = true := decide_eq_true c4
      clear c4
      have H' := Aside0.mk H
      clear H
      have p151 : 0 ≤ (x10_1 : Int) := of_decide_eq_true (by first | (with_reducible assumption) | assumption)
      have q151 : x10_1 < (l0.length : Int) := of_decide_eq_true (by first | (with_reducible assumption) | assumption)
      obtain ⟨ad151, A151_4, c151_4, e151, hx151_0, hx151_1, hx151_2, hx151_3, hx151_4, hl151_4, hi151_4⟩ := at_T44 HR0.out x10_1 p151 q151
      cases e151
      replace hx151_0 := (HB.out.cell (World.block_lt_of_cell? w _ hx151_0)).trans hx151_0
      replace hx151_1 := (HB.out.cell (World.block_lt_of_cell? w _ hx151_1)).trans hx151_1
      replace hx151_2 := (HB.out.cell (World.block_lt_of_cell? w _ hx151_2)).trans hx151_2
      replace hx151_3 := (HB.out.cell (World.block_lt_of_cell? w _ hx151_3)).trans hx151_3
      replace hx151_4 := (HB.out.cell (World.block_lt_of_cell? w _ hx151_4)).trans hx151_4
      have HR151_4 := Aside0.mk hi151_4
      have HC151_4 := Aside0.mk hl151_4
      clear hi151_4 hl151_4
      replace p151 := eq_true p151
      replace q151 := eq_true q151
      go_wp2_with (first | ((with_reducible refine gate_dst (N := 5) rfl ?_); refine box_event ?hg (N := 5) ?hd (cs := #[.int .i64 0, .int .i64 0, .int .i64 0, .int .i64 0, .slice none 0 0]) (t := 44) ?hr ?_; (case hd => rfl); (case hg => rfl); (case hr => first | (go_simp; done) | (go_simp; rfl)); intro gb152 hg w5 hbox hb; have n0_ := Aside0.mk (Kd.S_below (by (with_reducible repeat (first | apply Kd.S_alloc | apply Kd.S_drewN | apply Kd.S_drew)); exact HO_3.out) hb); have n1_ := Aside0.mk (below_step (by repeat (first | (with_reducible first | exact HB.out | apply below_alloc | apply pw_below_drewN | apply below_drew1) | exact HB.out)) hb); have n2_ := Aside0.mk (hbox); have n3_ := Aside0.mk ((by rw [hg]; exact (below_size (by repeat (first | (with_reducible first | exact HB.out | apply below_alloc | apply pw_below_drewN | apply below_drew1) | exact HB.out))) : w.heap.size ≤ gb152)); have n4_ := Aside0.mk ((by rw [hg]; exact (below_size (by repeat (first | (with_reducible first | exact HB.out | apply below_alloc | apply pw_below_drewN | apply below_drew1) | exact HB.out))) : w.heap.size ≤ gb152)); clear HO_3; clear HB; have HO_3 := n0_; have HB := n1_; have BK152 := n2_; have GW152 := n3_; have GE152 := n4_; clear n0_ n1_ n2_ n3_ n4_; clear hb hbox hg; have hcz6_0 : w5.cell? ⟨gb152, 0, none⟩ = some (.int .i64 0) := (blk_cell BK152.out 0).trans rfl; have hcz6_1 : w5.cell? ⟨gb152, 1, none⟩ = some (.int .i64 0) := (blk_cell BK152.out 1).trans rfl; have hcz6_2 : w5.cell? ⟨gb152, 2, none⟩ = some (.int .i64 0) := (blk_cell BK152.out 2).trans rfl; have hcz6_3 : w5.cell? ⟨gb152, 3, none⟩ = some (.int .i64 0) := (blk_cell BK152.out 3).trans rfl; have hcz6_4 : w5.cell? ⟨gb152, 4, none⟩ = some (.slice none 0 0) := (blk_cell BK152.out 4).trans rfl; have hfz6_0 := blk_frozen BK152.out 0; have hfz6_1 := blk_frozen BK152.out 1; have hfz6_2 := blk_frozen BK152.out 2; have hfz6_3 := blk_frozen BK152.out 3; have hfz6_4 := blk_frozen BK152.out 4))
      go_loopg [3, 17] k1 (fun kq v3 v17 w' => ∃ (x3_2 : List (S47)) (x17_2 : Int), v17 = .int .i64 x17_2 ∧ Aside0 (hunk_Join.l1 kq x3_2 l0 (l0.length : Int) x10_1 ((rd_T44 l0 x10_1).f4) (((rd_T44 l0 x10_1).f4).length : Int) x17_2 = some r) ∧ Aside0 (kq ≤ k1) ∧ Aside0 (Kd.S k47 47 w' w.heap.size (fun _ => True) v3 x3_2) ∧ Aside0 (w'.heap[gb152]? = some (.cells #[.int .i64 ((rd_T44 l0 x10_1).f0), .int .i64 ((rd_T44 l0 x10_1).f1), .int .i64 ((rd_T44 l0 x10_1).f2), .int .i64 ((rd_T44 l0 x10_1).f3), (.slice A151_4 ((rd_T44 l0 x10_1).f4).length c151_4)] 44 (0, 0))) ∧ Aside0 (Below w.heap.size w w'))
      case atStart => exact ⟨(x3_1), (0), (by first | rfl | (simp; done) | (simp [*]; done)), H', ⟨Nat.le_refl _⟩, ⟨by (with_reducible repeat (first | apply Kd.S_alloc | apply Kd.S_drewN | apply Kd.S_drew)); exact Kd.S_mono (Kd.S_far (p := ⟨gb152, 4, none⟩) (Kd.S_far (p := ⟨gb152, 3, none⟩) (Kd.S_far (p := ⟨gb152, 2, none⟩) (Kd.S_far (p := ⟨gb152, 1, none⟩) (Kd.S_far (p := ⟨gb152, 0, none⟩) (Kd.S_types HO_3.out BK152.out (by decide)) (fun _ hk => hk.2) (.int .i64 ((rd_T44 l0 x10_1).f0))) (fun _ hk => hk.2) (.int .i64 ((rd_T44 l0 x10_1).f1))) (fun _ hk => hk.2) (.int .i64 ((rd_T44 l0 x10_1).f2))) (fun _ hk => hk.2) (.int .i64 ((rd_T44 l0 x10_1).f3))) (fun _ hk => hk.2) (.slice A151_4 ((rd_T44 l0 x10_1).f4).length c151_4)) (fun _ hk => trivial)⟩, ⟨by (with_reducible repeat first|refine zb1 ?_ _|refine zb2 ?_|refine zb3 ?_ _); refine blk_put (cs := #[.int .i64 ((rd_T44 l0 x10_1).f0), .int .i64 ((rd_T44 l0 x10_1).f1), .int .i64 ((rd_T44 l0 x10_1).f2), .int .i64 ((rd_T44 l0 x10_1).f3), .slice none 0 0]) ?_ 4 _ rfl; (with_reducible repeat first|refine zb1 ?_ _|refine zb2 ?_|refine zb3 ?_ _); refine blk_put (cs := #[.int .i64 ((rd_T44 l0 x10_1).f0), .int .i64 ((rd_T44 l0 x10_1).f1), .int .i64 ((rd_T44 l0 x10_1).f2), .int .i64 0, .slice none 0 0]) ?_ 3 _ rfl; (with_reducible repeat first|refine zb1 ?_ _|refine zb2 ?_|refine zb3 ?_ _); refine blk_put (cs := #[.int .i64 ((rd_T44 l0 x10_1).f0), .int .i64 ((rd_T44 l0 x10_1).f1), .int .i64 0, .int .i64 0, .slice none 0 0]) ?_ 2 _ rfl; (with_reducible repeat first|refine zb1 ?_ _|refine zb2 ?_|refine zb3 ?_ _); refine blk_put (cs := #[.int .i64 ((rd_T44 l0 x10_1).f0), .int .i64 0, .int .i64 0, .int .i64 0, .slice none 0 0]) ?_ 1 _ rfl; (with_reducible repeat first|refine zb1 ?_ _|refine zb2 ?_|refine zb3 ?_ _); refine blk_put (cs := #[.int .i64 0, .int .i64 0, .int .i64 0, .int .i64 0, .slice none 0 0]) ?_ 0 _ rfl; (with_reducible repeat first|refine zb1 ?_ _|refine zb2 ?_|refine zb3 ?_ _); exact BK152.out⟩, ⟨by repeat (first | (with_reducible first | exact HB.out | apply below_alloc | apply pw_below_drewN | apply below_drew1 | refine below_set ?_ GE152.out) | exact HB.out)⟩⟩
      case round =>
       clear H'
       try clear c1
       try clear p1
       try clear q1
       try clear hx1
       try clear c2
       try clear c2b0
       try clear p2
       try clear c3
       try clear c3b0
       try clear c4
       try clear c4b0
       try clear hcz6_0
       try clear hcz6_1
       try clear hcz6_2
       try clear hcz6_3
       try clear hcz6_4
       try clear hfz6_0
       try clear hfz6_1
       try clear hfz6_2
       try clear hfz6_3
       try clear hfz6_4
       try clear hx151_0
       try clear hx151_1
       try clear hx151_2
       try clear hx151_3
       try clear hx151_4
       try clear p151
       try clear q151
       obtain ⟨x3_2, x17_2, rfl, HA, HK2, HO_3, BK152, HB⟩ := hrel
       cases gk with
       | zero => exact absurd HA.out (by simp [hunk_Join.l1])
       | succ k2 =>
        have H := HA.out
        clear HA
        simp only [hunk_Join.l1] at H
        by_cases c7 : x17_2 < (((rd_T44 l0 x10_1).f4).length : Int)
        ·rw [if_pos c7] at H
         have c7b0 : decide (x17_2 < (((rd_T44 l0 x10_1).f4).length : Int)) = true := decide_eq_true c7
         clear c7
         by_cases c8 : 0 ≤ x17_2
         ·rw [if_pos c8] at H
          have c8b0 : decide (0 ≤ x17_2) = true := decide_eq_true c8
          clear c8
          by_cases c9 : x17_2 < (((rd_T44 l0 x10_1).f4).length : Int)
          ·rw [if_pos c9] at H
           have c9b0 : decide (x17_2 < (((rd_T44 l0 x10_1).f4).length : Int)) = true := decide_eq_true c9
           clear c9
           replace H := Option.bind_eq_some_iff.mp H
           obtain ⟨t155, A100, H⟩ := H
           replace H : (if x3_2.length < 4398046511104 then (hunk_Join.l1 k2 (x3_2 ++ [(⟨(rd_T47 ((rd_T44 l0 x10_1).f4) x17_2).f0, t155⟩ : S47)]) l0 (l0.length : Int) x10_1 ((rd_T44 l0 x10_1).f4) (((rd_T44 l0 x10_1).f4).length : Int) (wrap64 (x17_2 + 1))) else (none)) = some r := H
           have A10 := Aside0.mk A100
           clear A100
           by_cases c11 : x3_2.length < 4398046511104
           ·rw [if_pos c11] at H
            have LMc11 := Aside0.mk c11
            clear c11
            obtain ⟨y158, hy158⟩ : ∃ y_ : List (S47), y_ = (x3_2 ++ [(⟨(rd_T47 ((rd_T44 l0 x10_1).f4) x17_2).f0, t155⟩ : S47)]) := ⟨_, rfl⟩
            replace H : (hunk_Join.l1 k2 y158 l0 (l0.length : Int) x10_1 ((rd_T44 l0 x10_1).f4) (((rd_T44 l0 x10_1).f4).length : Int) (wrap64 (x17_2 + 1))) = some r := by first | (rw [hy158]; with_reducible exact H) | (have H2_ := (Option.bind_some _ _).symm.trans H; rw [hy158]; with_reducible exact H2_) | (have H2_ := (Option.bind_some _ _).symm.trans H; with_reducible exact H2_) | with_reducible exact H | (rw [hy158]; exact H) | exact H
            have Ny158 := Aside0.mk hy158
            clear hy158
            have H' := Aside0.mk H
            clear H
            have p153 : 0 ≤ (x17_2 : Int) := of_decide_eq_true (by first | (with_reducible assumption) | assumption)
            have q153 : x17_2 < (((rd_T44 l0 x10_1).f4).length : Int) := of_decide_eq_true (by first | (with_reducible assumption) | assumption)
            obtain ⟨ad153, A153_1, c153_1, e153, hx153_0, hx153_1, hl153_1, hi153_1⟩ := at_T47 HR151_4.out x17_2 p153 q153
            cases e153
            replace hx153_0 := (HB.out.cell (World.block_lt_of_cell? w _ hx153_0)).trans hx153_0
            replace hx153_1 := (HB.out.cell (World.block_lt_of_cell? w _ hx153_1)).trans hx153_1
            have HR153_1 := Aside0.mk hi153_1
            have HC153_1 := Aside0.mk hl153_1
            clear hi153_1 hl153_1
            replace p153 := eq_true p153
            replace q153 := eq_true q153
            try go_wp2_with (first | ((with_reducible refine gate_dst (N := 7) rfl ?_); refine box_event ?hg (N := 7) ?hd (cs := #[.int .i64 0, .slice none 0 0]) (t := 47) ?hr ?_; (case hd => rfl); (case hg => rfl); (case hr => first | (go_simp; done) | (go_simp; rfl)); intro gb154 hg w12 hbox hb; have n0_ := Aside0.mk (Kd.S_below (Kd.S_elderB (by (with_reducible repeat (first | apply Kd.S_alloc | apply Kd.S_drewN | apply Kd.S_drew)); exact HO_3.out) gb154 (Nat.le_of_eq hg.symm)) hb); have n1_ := Aside0.mk (blk_below (g := gb152) (o := .cells #[.int .i64 ((rd_T44 l0 x10_1).f0), .int .i64 ((rd_T44 l0 x10_1).f1), .int .i64 ((rd_T44 l0 x10_1).f2), .int .i64 ((rd_T44 l0 x10_1).f3), .slice (some ad153) ((rd_T44 l0 x10_1).f4).length c151_4] 44 (0, 0)) (by (with_reducible repeat first|refine zb1 ?_ _|refine zb2 ?_|refine zb3 ?_ _); exact BK152.out) hb); have n2_ := Aside0.mk (below_step (by repeat (first | (with_reducible first | exact HB.out | apply below_alloc | apply pw_below_drewN | apply below_drew1 | refine below_set ?_ GE152.out) | exact HB.out)) hb); have n3_ := Aside0.mk (hbox); have n4_ := Aside0.mk ((by rw [hg]; exact (below_size (by repeat (first | (with_reducible first | exact HB.out | apply below_alloc | apply pw_below_drewN | apply below_drew1 | refine below_set ?_ GE152.out) | exact HB.out))) : w.heap.size ≤ gb154)); have n5_ := Aside0.mk ((by rw [hg]; exact (below_size (by repeat (first | (with_reducible first | exact HB.out | apply below_alloc | apply pw_below_drewN | apply below_drew1 | refine below_set ?_ GE152.out) | exact HB.out))) : w.heap.size ≤ gb154)); have n6_ := Aside0.mk ((by rw [hg]; exact Nat.ne_of_lt (blk_lt (g := gb152) (o := .cells #[.int .i64 ((rd_T44 l0 x10_1).f0), .int .i64 ((rd_T44 l0 x10_1).f1), .int .i64 ((rd_T44 l0 x10_1).f2), .int .i64 ((rd_T44 l0 x10_1).f3), .slice (some ad153) ((rd_T44 l0 x10_1).f4).length c151_4] 44 (0, 0)) (by (with_reducible repeat first|refine zb1 ?_ _|refine zb2 ?_|refine zb3 ?_ _); exact BK152.out)) : gb152 ≠ gb154)); have n7_ := Aside0.mk ((by rw [hg]; exact Nat.ne_of_gt (blk_lt (g := gb152) (o := .cells #[.int .i64 ((rd_T44 l0 x10_1).f0), .int .i64 ((rd_T44 l0 x10_1).f1), .int .i64 ((rd_T44 l0 x10_1).f2), .int .i64 ((rd_T44 l0 x10_1).f3), .slice (some ad153) ((rd_T44 l0 x10_1).f4).length c151_4] 44 (0, 0)) (by (with_reducible repeat first|refine zb1 ?_ _|refine zb2 ?_|refine zb3 ?_ _); exact BK152.out)) : gb154 ≠ gb152)); clear HO_3; clear BK152; clear HB; have HO_3 := n0_; have BK152 := n1_; have HB := n2_; have BK154 := n3_; have GW154 := n4_; have GE154 := n5_; have NB152_154 := n6_; have NB154_152 := n7_; clear n0_ n1_ n2_ n3_ n4_ n5_ n6_ n7_; clear hb hbox hg; have hnb13 := NB154_152.out; have hnc13 := NB152_154.out; have hcz14_0 : w12.cell? ⟨gb154, 0, none⟩ = some (.int .i64 0) := (blk_cell BK154.out 0).trans rfl; have hcz14_1 : w12.cell? ⟨gb154, 1, none⟩ = some (.slice none 0 0) := (blk_cell BK154.out 1).trans rfl; have hfz14_0 := blk_frozen BK154.out 0; have hfz14_1 := blk_frozen BK154.out 1))
            have n0_ : Aside0 (Kd.S k47 47 ((w12.setCell ⟨gb154, 0, none⟩ (.int .i64 ((rd_T47 ((rd_T44 l0 x10_1).f4) x17_2).f0))).setCell ⟨gb154, 1, none⟩ (.slice A153_1 ((rd_T47 ((rd_T44 l0 x10_1).f4) x17_2).f1).length c153_1)) w.heap.size (fun k_ => k_ ≠ gb154) u3 x3_2) := ⟨by (with_reducible repeat (first | apply Kd.S_alloc | apply Kd.S_drewN | apply Kd.S_drew)); exact Kd.S_mono (Kd.S_far (p := ⟨gb154, 1, none⟩) (Kd.S_far (p := ⟨gb154, 0, none⟩) (Kd.S_mono HO_3.out (fun k_ hk => (⟨hk, hk.2⟩ : _ ∧ k_ ≠ gb154))) (fun _ hk => hk.2) (.int .i64 ((rd_T47 ((rd_T44 l0 x10_1).f4) x17_2).f0))) (fun _ hk => hk.2) (.slice A153_1 ((rd_T47 ((rd_T44 l0 x10_1).f4) x17_2).f1).length c153_1)) (fun _ hk => hk.1.2)⟩
            have n1_ : Aside0 (((w12.setCell ⟨gb154, 0, none⟩ (.int .i64 ((rd_T47 ((rd_T44 l0 x10_1).f4) x17_2).f0))).setCell ⟨gb154, 1, none⟩ (.slice A153_1 ((rd_T47 ((rd_T44 l0 x10_1).f4) x17_2).f1).length c153_1)).heap[gb152]? = some (.cells #[.int .i64 ((rd_T44 l0 x10_1).f0), .int .i64 ((rd_T44 l0 x10_1).f1), .int .i64 ((rd_T44 l0 x10_1).f2), .int .i64 ((rd_T44 l0 x10_1).f3), .slice (some ad153) ((rd_T44 l0 x10_1).f4).length c151_4] 44 (0, 0))) := ⟨by (with_reducible repeat first|refine zb1 ?_ _|refine zb2 ?_|refine zb3 ?_ _); refine blk_far ?_ NB152_154.out _; (with_reducible repeat first|refine zb1 ?_ _|refine zb2 ?_|refine zb3 ?_ _); refine blk_far ?_ NB152_154.out _; (with_reducible repeat first|refine zb1 ?_ _|refine zb2 ?_|refine zb3 ?_ _); exact BK152.out⟩
            have n2_ : Aside0 (((w12.setCell ⟨gb154, 0, none⟩ (.int .i64 ((rd_T47 ((rd_T44 l0 x10_1).f4) x17_2).f0))).setCell ⟨gb154, 1, none⟩ (.slice A153_1 ((rd_T47 ((rd_T44 l0 x10_1).f4) x17_2).f1).length c153_1)).heap[gb154]? = some (.cells #[.int .i64 ((rd_T47 ((rd_T44 l0 x10_1).f4) x17_2).f0), .slice A153_1 ((rd_T47 ((rd_T44 l0 x10_1).f4) x17_2).f1).length c153_1] 47 (0, 0))) := ⟨by (with_reducible repeat first|refine zb1 ?_ _|refine zb2 ?_|refine zb3 ?_ _); refine blk_put (cs := #[.int .i64 ((rd_T47 ((rd_T44 l0 x10_1).f4) x17_2).f0), .slice none 0 0]) ?_ 1 _ rfl; (with_reducible repeat first|refine zb1 ?_ _|refine zb2 ?_|refine zb3 ?_ _); refine blk_put (cs := #[.int .i64 0, .slice none 0 0]) ?_ 0 _ rfl; (with_reducible repeat first|refine zb1 ?_ _|refine zb2 ?_|refine zb3 ?_ _); exact BK154.out⟩
            have n3_ : Aside0 (Below w.heap.size w ((w12.setCell ⟨gb154, 0, none⟩ (.int .i64 ((rd_T47 ((rd_T44 l0 x10_1).f4) x17_2).f0))).setCell ⟨gb154, 1, none⟩ (.slice A153_1 ((rd_T47 ((rd_T44 l0 x10_1).f4) x17_2).f1).length c153_1))) := ⟨by repeat (first | (with_reducible first | exact HB.out | apply below_alloc | apply pw_below_drewN | apply below_drew1 | refine below_set ?_ GE152.out | refine below_set ?_ GE154.out) | exact HB.out)⟩
            (try clear HO_3)
            (try clear BK152)
            (try clear BK154)
            (try clear HB)
            generalize ((w12.setCell ⟨gb154, 0, none⟩ (.int .i64 ((rd_T47 ((rd_T44 l0 x10_1).f4) x17_2).f0))).setCell ⟨gb154, 1, none⟩ (.slice A153_1 ((rd_T47 ((rd_T44 l0 x10_1).f4) x17_2).f1).length c153_1)) = w15 at n0_ n1_ n2_ n3_ ⊢
            have HO_3 := n0_
            have BK152 := n1_
            have BK154 := n2_
            have HB := n3_
            clear n0_ n1_ n2_ n3_
            have n0_ := Aside0.mk (Kd.S_drew HO_3.out)
            have n1_ := Aside0.mk (blk_drew BK152.out)
            have n2_ := Aside0.mk (blk_drew BK154.out)
            have n3_ := Aside0.mk (below_drew1 HB.out)
            clear HO_3
            clear BK152
            clear BK154
            clear HB
            have HO_3 := n0_
            have BK152 := n1_
            have BK154 := n2_
            have HB := n3_
            clear n0_ n1_ n2_ n3_
            refine start_ (n := 10) (S := fun w' => w'.cell? ⟨gb154, 0, none⟩ = some (.int .i64 ((rd_T47 ((rd_T44 l0 x10_1).f4) x17_2).f0)) ∧ w'.cell? ⟨gb154, 1, none⟩ = some (.slice A153_1 ((rd_T47 ((rd_T44 l0 x10_1).f4) x17_2).f1).length c153_1)) (ds := []) (Sq.bl 10 0) (by kernel_rfl) rfl rfl ⟨(blk_cell BK154.out 0).trans rfl, (blk_cell BK154.out 1).trans rfl⟩ (fun hHeld => ?_); refine with_tabW hunk_Join.tab8 hunk_Join.bits8 (fun HT_ HW_ => ?_)
            generalize w15.drew = w16 at HO_3 BK152 BK154 HB hHeld ⊢
            refine Sq.pu (v := ?_) (a' := ?_) 0 21 (Sq.bl 10 1) (any_of HT_.out (by kernel_rfl)) rfl rfl (fun _ _ _ h => h) (by rfl) ?_ ?_ ?_; rotate_left; (· intro w'; go_simp; with_reducible rfl); rotate_left; (· simp only [Act.put,zp1,zp2,zp3,zp4,zp5]; rfl)
            refine Sq.pu (v := ?_) (a' := ?_) 1 22 (Sq.bl 10 3) (any_of HT_.out (by kernel_rfl)) rfl rfl (fun _ _ _ h => h) (by rfl) ?_ ?_ ?_; rotate_left; (· intro w'; go_simp; with_reducible rfl); rotate_left; (· simp only [Act.put,zp1,zp2,zp3,zp4,zp5]; rfl)
            refine Sq.pu (v := ?_) (a' := ?_) 3 24 (Sq.bl 10 11) (any_of HT_.out (by kernel_rfl)) rfl rfl (fun _ _ _ h => h) (by rfl) ?_ ?_ ?_; rotate_left; (· intro w'; go_simp; with_reducible rfl); rotate_left; (· simp only [Act.put,zp1,zp2,zp3,zp4,zp5]; rfl)
            refine take_ (i := 2) (N := some 23) (v := ?_) (a' := ?_) (Sq.bl 10 15) rfl rfl (take_ofW HT_.out HW_.out (by kernel_rfl)) (fun _ _ _ h => h) (Or.inl ⟨by rfl, ?_⟩) hHeld ?_ ?_
            rotate_left
            ·rintro w' ⟨s0, s1⟩
             go_simp
             with_reducible rfl
            rotate_left
            ·simp only [Act.put,zp1,zp2,zp3,zp4,zp5]
             rfl
            refine take_ (i := 4) (N := some 25) (v := ?_) (a' := ?_) (Sq.bl 10 31) rfl rfl (take_ofW HT_.out HW_.out (by kernel_rfl)) (fun _ _ _ h => h) (Or.inl ⟨by rfl, ?_⟩) hHeld ?_ ?_
            rotate_left
            ·rintro w' ⟨s0, s1⟩
             go_simp
             with_reducible rfl
            rotate_left
            ·simp only [Act.put,zp1,zp2,zp3,zp4,zp5]
             rfl
            refine one_ (i := 5) (N := some 26) (Sq.bl 10 63) rfl rfl (one_of HT_.out (by kernel_rfl)) (by decide) (fun K hK => ?_)
            refine goes_ Try.func52 (by kernel_rfl) rfl #[.slice A153_1 ((rd_T47 ((rd_T44 l0 x10_1).f4) x17_2).f1).length c153_1] (by rfl) rfl rfl (by (try simp only [List.map_toArray, List.map_cons, List.map_nil]); first | done | rfl | (simp only [List.length_drop, List.length_take]; rfl)) ?_
            with_reducible refine (api_Line_52.calls _ _ ((rd_T47 ((rd_T44 l0 x10_1).f4) x17_2).f1) t155 _ ?side1 ?side2 A10.out).mono ?_
            (case side1 => repeat (first | exact (Kd.C_below HR153_1.out HB.out) | (with_reducible refine Kd.C_alloc ?_ _) | (with_reducible refine Kd.C_drewN ?_ _) | (with_reducible refine Kd.C_drew ?_)))
            (case side2 => exact HC153_1.out)
            rintro e w17 ⟨v156, rfl, ho0, hb⟩
            refine ⟨_, rfl, ?_⟩
            have n0_ := Aside0.mk (Kd.S_elder' (by (with_reducible repeat (first | apply Kd.S_alloc | apply Kd.S_drewN | apply Kd.S_drew)); exact HO_3.out) (Kd.R_base ho0) hb)
            have n1_ := Aside0.mk (Kd.R_lower ho0 (below_size (by repeat (first | (with_reducible first | exact HB.out | apply below_alloc | apply pw_below_drewN | apply below_drew1 | refine below_set ?_ GE152.out | refine below_set ?_ GE154.out) | exact HB.out))))
            have n2_ := Aside0.mk (blk_below (g := gb152) (o := .cells #[.int .i64 ((rd_T44 l0 x10_1).f0), .int .i64 ((rd_T44 l0 x10_1).f1), .int .i64 ((rd_T44 l0 x10_1).f2), .int .i64 ((rd_T44 l0 x10_1).f3), .slice (some ad153) ((rd_T44 l0 x10_1).f4).length c151_4] 44 (0, 0)) (by (with_reducible repeat first|refine zb1 ?_ _|refine zb2 ?_|refine zb3 ?_ _); exact BK152.out) hb)
            have n3_ := Aside0.mk (blk_below (g := gb154) (o := .cells #[.int .i64 ((rd_T47 ((rd_T44 l0 x10_1).f4) x17_2).f0), .slice A153_1 ((rd_T47 ((rd_T44 l0 x10_1).f4) x17_2).f1).length c153_1] 47 (0, 0)) (by (with_reducible repeat first|refine zb1 ?_ _|refine zb2 ?_|refine zb3 ?_ _); exact BK154.out) hb)
            have n4_ := Aside0.mk (below_step (by repeat (first | (with_reducible first | exact HB.out | apply below_alloc | apply pw_below_drewN | apply below_drew1 | refine below_set ?_ GE152.out | refine below_set ?_ GE154.out) | exact HB.out)) hb)
            clear HO_3
            clear BK152
            clear BK154
            clear HB
            have HO_3 := n0_
            have HO157 := n1_
            have BK152 := n2_
            have BK154 := n3_
            have HB := n4_
            clear n0_ n1_ n2_ n3_ n4_
            (try clear hb)
            (try clear hb2)
            (try clear hk)
            (try clear hi)
            (try clear ho0)
            obtain ⟨Ao18, co18, eo18⟩ := Kd.R_slice HO157.out
            (first | subst eo18 | (injection eo18 with f1_ f2_ f3_; have f4_ := f1_.symm; have f5_ := f3_.symm; clear f1_ f2_ f3_; subst f4_; subst f5_))
            refine hK.out _ _ ⟨(blk_cell BK154.out 0).trans rfl, (blk_cell BK154.out 1).trans rfl⟩ (fun hHeld => ?_)
            clear hK K
            refine norm_ (a' := ?_) ?_ ?_
            rotate_left
            ·show Act.put _ (some 26) _ = _
             simp only [Act.put,zp1,zp2,zp3,zp4,zp5]
             rfl
            refine Sq.pu (v := ?_) (a' := ?_) 6 27 (Sq.bl 10 127) (any_of HT_.out (by kernel_rfl)) rfl rfl (fun _ _ _ h => h) (by rfl) ?_ ?_ ?_; rotate_left; (· intro w'; go_simp; with_reducible rfl); rotate_left; (· simp only [Act.put,zp1,zp2,zp3,zp4,zp5]; rfl)
            refine one_ (i := 7) (N := some 28) (Sq.bl 10 255) rfl rfl (one_of HT_.out (by kernel_rfl)) (by decide) (fun K hK => ?_)
            refine value_ (w1 := ?_) (v := ?_) (by rfl) rfl ?_ ?_
            rotate_left 2
            ·go_simp
             constructor
             ·rfl
             ·rfl
            refine hK.out _ _ ⟨(blk_cell (blk_alloc BK154.out _) 0).trans rfl, (blk_cell (blk_alloc BK154.out _) 1).trans rfl⟩ (fun hHeld => ?_)
            clear hK K
            refine norm_ (a' := ?_) ?_ ?_
            rotate_left
            ·show Act.put _ (some 28) _ = _
             simp only [Act.put,zp1,zp2,zp3,zp4,zp5]
             rfl
            refine one_ (i := 8) (N := some 29) (Sq.bl 10 511) rfl rfl (one_of HT_.out (by kernel_rfl)) (by decide) (fun K hK => ?_)
            refine Kd.S_append_step k47 (w0 := w) w.heap.size (by rfl) (.tmp 21) (.tmp 28) 22 47 (.agg #[(.int .i64 0), (.slice none 0 0)]) 32 rfl Try.underlying22 info47 rfl (by decide) (by omega) u3 x3_2 (⟨(rd_T47 ((rd_T44 l0 x10_1).f4) x17_2).f0, t155⟩ : S47) [.int .i64 ((rd_T47 ((rd_T44 l0 x10_1).f4) x17_2).f0), .slice Ao18 t155.length co18] (fun k_ => k_ ≠ gb154) (fun k_ => some k_ = (.slice Ao18 t155.length co18 : Value).ownBlock) rfl rfl ?aP (fun k_ hk_ => ((Kd.R_mono (ok' := fun k_ => ((fun k_ => k_ ≠ gb154)) k_ ∧ some k_ ≠ (u3 : Value).ownBlock) (Kd.R_types (Kd.R_apart' (HO157.out) (Kd.S_typed HO_3.out) (by decide)) BK154.out (by decide)) (fun k_ hk => ⟨hk.2, hk.1.2⟩))).1 k_ hk_.symm) ?aF ?aO ?aB ?aS ?aL ?_
            (case aP => exact k47_mkM _ _ _ (⟨(rd_T47 ((rd_T44 l0 x10_1).f4) x17_2).f0, t155⟩ : S47) (Kd.R_mono (Kd.R_tight rfl (Kd.R_mono (ok' := fun k_ => ((fun k_ => k_ ≠ gb154)) k_ ∧ some k_ ≠ (u3 : Value).ownBlock) (Kd.R_types (Kd.R_apart' (HO157.out) (Kd.S_typed HO_3.out) (by decide)) BK154.out (by decide)) (fun k_ hk => ⟨hk.2, hk.1.2⟩))) (fun _ h_ => h_)))
            (case aB => exact (by repeat (first | (with_reducible first | exact HB.out | apply below_alloc | apply pw_below_drewN | apply below_drew1 | refine below_set ?_ GE152.out | refine below_set ?_ GE154.out) | exact HB.out)))
            (case aF => exact (fun k_ hk => Kd.freshB (g := gb154) (o := .cells #[.int .i64 ((rd_T47 ((rd_T44 l0 x10_1).f4) x17_2).f0), .slice A153_1 ((rd_T47 ((rd_T44 l0 x10_1).f4) x17_2).f1).length c153_1] 47 (0, 0)) (by (with_reducible repeat first|refine zb1 ?_ _|refine zb2 ?_|refine zb3 ?_ _); exact BK154.out) k_ hk))
            (case aO => exact (by (with_reducible repeat (first | apply Kd.S_alloc | apply Kd.S_drewN | apply Kd.S_drew)); exact Kd.S_mono HO_3.out (fun k_ hk => ⟨hk.1, fun e_ => hk.2 e_⟩)))
            (case aS => exact (below_size (by repeat (first | (with_reducible first | exact HB.out | apply below_alloc | apply pw_below_drewN | apply below_drew1 | refine below_set ?_ GE152.out | refine below_set ?_ GE154.out) | exact HB.out))))
            (case aL => have := LMc11.out; omega)
            intro v159 w19 ho hb hg hat
            rw [← Ny158.out] at ho
            have n0_ := Aside0.mk (blk_grown (g := gb152) (o := .cells #[.int .i64 ((rd_T44 l0 x10_1).f0), .int .i64 ((rd_T44 l0 x10_1).f1), .int .i64 ((rd_T44 l0 x10_1).f2), .int .i64 ((rd_T44 l0 x10_1).f3), .slice (some ad153) ((rd_T44 l0 x10_1).f4).length c151_4] 44 (0, 0)) (by (with_reducible repeat first|refine zb1 ?_ _|refine zb2 ?_|refine zb3 ?_ _); exact BK152.out) hg (Kd.S_ne HO_3.out BK152.out (by decide)))
            have n1_ := Aside0.mk (blk_grown (g := gb154) (o := .cells #[.int .i64 ((rd_T47 ((rd_T44 l0 x10_1).f4) x17_2).f0), .slice A153_1 ((rd_T47 ((rd_T44 l0 x10_1).f4) x17_2).f1).length c153_1] 47 (0, 0)) (by (with_reducible repeat first|refine zb1 ?_ _|refine zb2 ?_|refine zb3 ?_ _); exact BK154.out) hg (Kd.S_away HO_3.out (fun _ hk => hk.1)))
            have n2_ := Aside0.mk (hb)
            have n3_ := Aside0.mk (ho)
            clear BK152
            clear BK154
            clear HB
            clear HO_3
            clear HO157
            have BK152 := n0_
            have BK154 := n1_
            have HB := n2_
            have HO160 := n3_
            clear n0_ n1_ n2_ n3_
            clear ho hb hg hat
            refine hK.out _ _ ⟨(blk_cell BK154.out 0).trans rfl, (blk_cell BK154.out 1).trans rfl⟩ (fun hHeld => ?_)
            clear hK K
            refine norm_ (a' := ?_) ?_ ?_
            rotate_left
            ·show Act.put _ (some 29) _ = _
             simp only [Act.put,zp1,zp2,zp3,zp4,zp5]
             rfl
            refine Sq.pu (v := ?_) (a' := ?_) 9 3 (Sq.bl 10 1023) (any_of HT_.out (by kernel_rfl)) rfl rfl (fun _ _ _ h => h) (by rfl) ?_ ?_ ?_; rotate_left; (· intro w'; go_simp; with_reducible rfl); rotate_left; (· simp only [Act.put,zp1,zp2,zp3,zp4,zp5]; rfl)
            refine done_ (done_of HT_.out (by kernel_rfl)) ?_
            try go_wp2
            go_roundg k2
            case measure => have := HK1.out; have := HK2.out; omega
            case rel => exact ⟨(y158), (wrap64 (x17_2 + 1)), (by first | rfl | (simp; done) | (simp [*]; done)), H', ⟨by have := HK1.out; have := HK2.out; omega⟩, ⟨by (with_reducible repeat (first | apply Kd.S_alloc | apply Kd.S_drewN | apply Kd.S_drew)); exact Kd.S_mono HO160.out (fun _ hk => trivial)⟩, ⟨by (with_reducible repeat first|refine zb1 ?_ _|refine zb2 ?_|refine zb3 ?_ _); exact BK152.out⟩, ⟨by repeat (first | (with_reducible first | exact HB.out | apply below_alloc | apply pw_below_drewN | apply below_drew1 | refine below_set ?_ GE152.out | refine below_set ?_ GE154.out) | exact HB.out)⟩⟩
           ·rw [if_neg c11] at H
            exact absurd H (by simp)
          ·rw [if_neg c9] at H
           exact absurd H (by simp)
         ·rw [if_neg c8] at H
          exact absurd H (by simp)
        ·rw [if_neg c7] at H
         have c7b0 : decide (x17_2 < (((rd_T44 l0 x10_1).f4).length : Int)) = false := decide_eq_false c7
         clear c7
         have H' := Aside0.mk H
         clear H
         go_wp2
         go_roundg k2
         case measure => have := HK1.out; have := HK2.out; omega
         case rel => exact ⟨(x3_2), (wrap64 (x10_1 + 1)), (by first | rfl | (simp; done) | (simp [*]; done)), H', ⟨by have := HK1.out; have := HK2.out; omega⟩, ⟨by (with_reducible repeat (first | apply Kd.S_alloc | apply Kd.S_drewN | apply Kd.S_drew)); exact HO_3.out⟩, ⟨by repeat (first | (with_reducible first | exact HB.out | apply below_alloc | apply pw_below_drewN | apply below_drew1 | refine below_set ?_ GE152.out) | exact HB.out)⟩⟩
     ·rw [if_neg c4] at H
      exact absurd H (by simp)
    ·rw [if_neg c3] at H
     exact absurd H (by simp)
   ·rw [if_neg c2] at H
    have c2b0 : decide (x10_1 < (l0.length : Int)) = false := decide_eq_false c2
    clear c2
    obtain rfl := Option.some.inj H
    go_wp2
    go_ret
    exact ⟨_, by first | rfl | (simp [errW_none, errW_some] <;> rfl) | (simp [*, errW_none, errW_some] <;> rfl), by (with_reducible repeat (first | apply Kd.S_alloc | apply Kd.S_drewN | apply Kd.S_drew)); exact HO_3.out, by repeat (first | (with_reducible first | exact HB.out | apply below_alloc | apply pw_below_drewN | apply below_drew1) | exact HB.out)⟩

end Go.Proofs.Ytfnbodjmmkjlcaa.H
end
section
namespace Go.Proofs.Ytfnbodjmmkjlcaa.H
open Go.RowKit Go.Proofs.YtfnbodjmmkjlcaaW.PrintWords Go.Proofs.YtfnbodjmmkjlcaaW.PrintLast Go.Proofs.YtfnbodjmmkjlcaaW.PrintMore
attribute [local go_sem] max2_int min2_int max_two min_two max_three min_three max_four min_four   -- for this text's walks alone
set_option linter.unusedVariables false
set_option linter.unusedSimpArgs false

/-- The lines that a hunk begins with. -/
def hunk_Build.lead (c : Nat) (ah : List S66) : List S47 := if 0 < min c ah.length then [⟨1, ah.drop (ah.length - min c ah.length)⟩] else []
/-- The lines that a hunk ends with. -/
def hunk_Build.trail (c : Nat) (l : List S66) : List S47 := if 0 < min c l.length then [⟨1, l.take (min c l.length)⟩] else []
/-- A builder's state: hunks, the edits of the one that goes on, lines ahead. -/
structure hunk_Build.St where
 out : List S44
 now : List S47
 ah : List S66
def hunk_Build.At (B b : Nat) (kp : Nat → Prop) (w : World) (c : Nat) (out : List S44) (now : List S47) (va : Value) : Prop :=
 ∃ vo vn : Value, w.heap[b]? = some (.cells #[.int .i64 (c : Int), vo, vn, .int .i64 0, .int .i64 0, va] 76 (0, 0)) ∧ Kd.R k44 44 w B (fun k => ¬ kp k ∧ some k ≠ vn.ownBlock) vo out ∧ Kd.R k47 47 w B (fun k => ¬ kp k ∧ some k ≠ vo.ownBlock) vn now
def hunk_Build.mnn (a b : Nat) : Nat := min a b
theorem hunk_Build.min2 (k k' : IntKind) (x y : Nat) : Builtin.min2 (.int k (x : Int)) (.int k' (y : Int)) = pure (.int k ((hunk_Build.mnn x y : Nat) : Int)) := by
 rw [min2_int]
 unfold hunk_Build.mnn
 congr 2
 split <;> omega
attribute [local go_sem 3000] hunk_Build.min2
theorem hunk_Build.cut_tail (w0 : World) (A : Option Addr) (ca : Nat) (ah : List S66) (m : Nat) (hm : m ≤ ah.length) (hca : ah.length ≤ ca) (hC : Kd.C k66 w0 A ah.length ah) :
  ∃ (dl : List S66) (A' : Option Addr) (c' : Nat), dl = ah.drop m ∧ (∀ W : World, (Instr.slice 37 (.slice A ah.length ca) (some (.int .i64 (m : Int))) none none).run Try.prog W = .ok (.slice A' dl.length c') W) ∧ Kd.C k66 w0 A' dl.length dl ∧ dl.length ≤ c' := by
 obtain ⟨i0, hi, hz⟩ := Option.map_eq_some_iff.1 info66
 simp only [Prod.mk.injEq] at hz
 refine ⟨ah.drop m, _, ca - m, rfl, fun W => ?_, Kd.C_drop hC hm hca, by simp; omega⟩
 rw [cut_from (P := Try.prog) 37 66 .i64 Try.underlying37 hi 2 hz.2.1 A ah.length ca (m : Int) (by omega) (by omega) W, Int.toNat_natCast, List.length_drop]
 rfl
theorem hunk_Build.cut_head (w0 : World) (A : Option Addr) (ca : Nat) (ah : List S66) (m : Nat) (hm : m ≤ ah.length) (hca : ah.length ≤ ca) (hC : Kd.C k66 w0 A ah.length ah) :
  ∃ (dl : List S66), dl = ah.take m ∧ (∀ W : World, (Instr.slice 37 (.slice A ah.length ca) none (some (.int .i64 (m : Int))) none).run Try.prog W = .ok (.slice A dl.length ca) W) ∧ Kd.C k66 w0 A dl.length dl ∧ dl.length ≤ ca := by
 obtain ⟨i0, hi, hz⟩ := Option.map_eq_some_iff.1 info66
 refine ⟨ah.take m, rfl, fun W => ?_, Kd.C_take hC hm, by simp; omega⟩
 rw [cut_to (P := Try.prog) 37 66 .i64 Try.underlying37 hi A ah.length ca (m : Int) (by omega) (by omega) hca W, Int.toNat_natCast, List.length_take, Nat.min_eq_left hm]
theorem hunk_Build.At.setva {B b : Nat} {kp : Nat → Prop} {w : World} {c : Nat} {out : List S44} {now : List S47} {va : Value} (h : hunk_Build.At B b kp w c out now va) (va' : Value) : hunk_Build.At B b kp (w.setCell ⟨b, 5, none⟩ va') c out now va' := by
 obtain ⟨vo, vn, hb, hvo, hvn⟩ := h
 exact ⟨vo, vn, (blk_set hb 5 _).trans rfl, Kd.R_set hvo hb (by decide) 5 _, Kd.R_set hvn hb (by decide) 5 _⟩
theorem hunk_Build.At.blk {B b : Nat} {kp : Nat → Prop} {w : World} {c : Nat} {out : List S44} {now : List S47} {va : Value} (h : hunk_Build.At B b kp w c out now va) : ∃ vo vn : Value, w.heap[b]? = some (.cells #[.int .i64 (c : Int), vo, vn, .int .i64 0, .int .i64 0, va] 76 (0, 0)) := by
 obtain ⟨vo, vn, hb, _⟩ := h
 exact ⟨vo, vn, hb⟩
theorem hunk_Build.keep_set {b i : Nat} {kp : Nat → Prop} {w w' : World} (hkb : ¬ kp b) (h : ∀ k, kp k → w'.heap[k]? = w.heap[k]?) (v : Value) : ∀ k, kp k → (w'.setCell ⟨b, i, none⟩ v).heap[k]? = w.heap[k]? := fun k hk =>
 (Below.heap_setCell w' ⟨b, i, none⟩ v k (fun e => hkb ((show k = b from e) ▸ hk))).trans (h k hk)
/-- An edit laid behind those of the hunk that goes on. -/
theorem hunk_Build.put_done {w0 w w2 w4 : World} {b : Nat} {kp : Nat → Prop} {c : Nat} {out : List S44} {now : List S47} {e : S47} {vo vn v4 va : Value} (hBb : w0.heap.size ≤ b) (hkb : ¬ kp b) (hkl : ∀ k, kp k → k < w.heap.size)
  (hvo : Kd.R k44 44 w w0.heap.size (fun k => ¬ kp k ∧ some k ≠ vn.ownBlock) vo out) (hvn : Kd.R k47 47 w w0.heap.size (fun k => ¬ kp k ∧ some k ≠ vo.ownBlock) vn now) (hbel : Below w.heap.size w w2)
  (hb4 : w4.heap[b]? = some (.cells #[.int .i64 (c : Int), vo, vn, .int .i64 0, .int .i64 0, va] 76 (0, 0))) (ho4 : Kd.R k47 47 w4 w0.heap.size (fun k => ¬ kp k ∧ some k ≠ vo.ownBlock) v4 (now ++ [e]))
  (hbel4 : Below w0.heap.size w w4) (hg4 : w2.grownBy w4 vn.ownBlock) (hat4 : v4.ownBlock = vn.ownBlock ∨ ∃ b, v4.ownBlock = some b ∧ w2.heap.size ≤ b) :
  hunk_Build.At w0.heap.size b kp (w4.setCell ⟨b, 2, none⟩ v4) c out (now ++ [e]) va ∧ Below w0.heap.size w (w4.setCell ⟨b, 2, none⟩ v4) ∧ ∀ k, kp k → (w4.setCell ⟨b, 2, none⟩ v4).heap[k]? = w.heap[k]? := by
 refine ⟨⟨vo, v4, (blk_set hb4 2 _).trans rfl, Kd.R_set (Kd.R_after (Kd.R_below hvo hbel) hg4 hat4) hb4 (by decide) 2 _, Kd.R_set ho4 hb4 (by decide) 2 _⟩, hbel4.setCell hBb _, hunk_Build.keep_set hkb (fun k hk => (hg4.block k (Nat.lt_of_lt_of_le (hkl k hk) hbel.size) (fun e => (hvn.1 k e.symm).1 hk)).trans (hbel.block k (hkl k hk))) _⟩
theorem hunk_Build.infoH : (Try.prog.info? 44).map (fun i => (i.zero, i.size, i.bytes)) = some (some (.agg #[(.int .i64 0), (.int .i64 0), (.int .i64 0), (.int .i64 0), (.slice none 0 0)]), 5, 56) := by kernel_rfl
/-- The hunk that is made of edits. -/
def hunk_Build.hk (k : Nat) (now : List S47) : Option S44 := (script_Sides.f k now).bind fun t => some ⟨0, (t.1.length : Int), 0, (t.2.1.length : Int), now⟩
set_option maxHeartbeats 4000000 in
set_option maxRecDepth 100000 in
theorem hunk_Build.end_calls (k : Nat) (w0 : World) (b : Nat) (kp : Nat → Prop) (c : Nat) (out : List S44) (now : List S47) (l : List S66) (A : Option Addr) (cl : Nat) (va : Value) (r1 r2 : List S66) (r3 : Int) (w : World) (hBb : w0.heap.size ≤ b) (hkb : ¬ kp b) (hkl : ∀ k, kp k → k < w.heap.size)
  (ha : hunk_Build.At w0.heap.size b kp w c out now va) (hC : Kd.C k66 w0 A l.length l) (hcl : l.length ≤ cl) (hbw : Below w0.heap.size w0 w) (h1 : now.length ≤ 1000000000) (h2 : l.length ≤ 1000000000) (h3 : c ≤ 1000000000) (h4 : out.length ≤ 1000000000) (hSS : script_Sides.f k (now ++ hunk_Build.trail c l) = some (r1, r2, r3)) :
  Calls Try.prog 44 #[.pointer (some ⟨b, 0, none⟩), .slice A l.length cl] w fun e w' => e = .returned (.tuple #[]) ∧ hunk_Build.At w0.heap.size b kp w' c (out ++ [⟨0, (r1.length : Int), 0, (r2.length : Int), now ++ hunk_Build.trail c l⟩]) [] va ∧ Below w0.heap.size w w' ∧ (∀ k, kp k → w'.heap[k]? = w.heap[k]?) := by
 obtain ⟨now2, hnow2⟩ : ∃ n2, n2 = now ++ hunk_Build.trail c l := ⟨_, rfl⟩
 rw [← hnow2] at hSS ⊢
 have ha0 := ha
 obtain ⟨vo, vn, hb, hvo, hvn⟩ := ha
 obtain ⟨An, cn, rfl⟩ := Kd.R_slice hvn
 have hx0 : w.cell? ⟨b, 0, none⟩ = some (.int .i64 (c : Int)) := (blk_cell hb 0).trans rfl
 have hx2 : w.cell? ⟨b, 2, none⟩ = some (.slice An now.length cn) := (blk_cell hb 2).trans rfl
 have hf2 := blk_frozen hb 2
 by_cases hk : 0 < min c l.length
 ·have hr : hunk_Build.trail c l = [⟨1, l.take (min c l.length)⟩] := if_pos hk
  rw [hr] at hnow2
  obtain ⟨q, hq⟩ : ∃ q : Nat, q = hunk_Build.mnn c l.length := ⟨_, rfl⟩
  have hq2 : q = min c l.length := hq
  rw [← hq2] at hk hnow2
  have hk' : decide (0 < hunk_Build.mnn c l.length) = true := decide_eq_true (by rw [← hq]; exact hk)
  obtain ⟨dl, hdl, hcut, hCd, hcd⟩ := hunk_Build.cut_head w0 A cl l q (by omega) hcl hC
  rw [← hdl] at hnow2
  have hdl2 : dl.length ≤ 1000000000 := by rw [hdl, List.length_take]; omega
  have HQQ := Aside0.mk hq
  have Hn2 := Aside0.mk hnow2
  clear hr hdl hq hq2 hnow2 ha0
  go_enter Try.func44, Try.ntmps44
  go_wp2
  rw [← HQQ.out]
  refine start_ (n := 15) (S := fun w' => w'.cell? ⟨b, 2, none⟩ = some (.slice An now.length cn) ∧ w'.frozen? ⟨b, 2, none⟩ = false) (ds := [14]) (Sq.bl 15 0) (by kernel_rfl) rfl (by rfl) ⟨hx2, hf2⟩ (fun hS => ?_)
  refine Sq.pu (v := ?_) (a' := ?_) 0 17 (Sq.bl 15 1) (by kernel_rfl) rfl rfl (fun _ _ _ h => h) (by rfl) ?_ ?_ ?_; rotate_left; (· intro w'; go_simp; with_reducible rfl); rotate_left; (· simp only [Act.put,zp1,zp2,zp3,zp4,zp5]; rfl)
  refine Sq.pu (v := ?_) (a' := ?_) 1 18 (Sq.bl 15 3) (by kernel_rfl) rfl rfl (fun _ _ _ h => h) (by rfl) ?_ ?_ ?_; rotate_left; (· intro w'; go_simp; with_reducible rfl); rotate_left; (· simp only [Act.put,zp1,zp2,zp3,zp4,zp5]; rfl)
  refine Sq.pu (v := ?_) (a' := ?_) 2 19 (Sq.bl 15 7) (by kernel_rfl) rfl rfl (fun _ _ _ h => h) (by rfl) ?_ ?_ ?_; rotate_left; (· intro w'; go_simp; with_reducible rfl); rotate_left; (· simp only [Act.put,zp1,zp2,zp3,zp4,zp5]; rfl)
  refine Sq.pu (v := ?_) (a' := ?_) 3 20 (Sq.bl 15 15) (by kernel_rfl) rfl rfl (fun _ _ _ h => h) (by rfl) ?_ ?_ ?_; rotate_left; (· intro w'; go_simp; with_reducible rfl); rotate_left; (· simp only [Act.put,zp1,zp2,zp3,zp4,zp5]; rfl)
  refine Sq.pu (v := ?_) (a' := ?_) 5 22 (Sq.bl 15 47) (by kernel_rfl) rfl rfl (fun _ _ _ h => h) (by rfl) ?_ ?_ ?_; rotate_left; (· intro w'; go_simp; with_reducible rfl); rotate_left; (· simp only [Act.put,zp1,zp2,zp3,zp4,zp5]; rfl)
  refine Sq.pu (v := ?_) (a' := ?_) 6 23 (Sq.bl 15 111) (by kernel_rfl) rfl rfl (fun _ _ _ h => h) (by rfl) ?_ ?_ ?_; rotate_left; (· intro w'; go_simp; with_reducible rfl); rotate_left; (· simp only [Act.put,zp1,zp2,zp3,zp4,zp5]; rfl)
  refine Sq.pu (v := ?_) (a' := ?_) 7 24 (Sq.bl 15 239) (by kernel_rfl) rfl rfl (fun _ _ _ h => h) (by rfl) ?_ ?_ ?_; rotate_left; (· intro w'; go_simp; with_reducible rfl); rotate_left; (· simp only [Act.put,zp1,zp2,zp3,zp4,zp5]; rfl)
  refine take_ (i := 4) (N := some 21) (v := ?_) (a' := ?_) (Sq.bl 15 255) rfl rfl (by kernel_rfl) (fun _ _ _ h => h) (Or.inl ⟨by rfl, ?_⟩) hS ?_ ?_; rotate_left; (· rintro w' ⟨s0, s1⟩; go_simp; with_reducible rfl); rotate_left; (· simp only [Act.put,zp1,zp2,zp3,zp4,zp5]; rfl)
  refine one_ (i := 8) (N := some 25) (Sq.bl 15 511) rfl rfl (by kernel_rfl) (by decide) (fun K hK => ?_)
  refine goes_ Try.func52 (by kernel_rfl) rfl #[.slice A dl.length cl] (by rfl) rfl rfl (by (try simp only [List.map_toArray, List.map_cons, List.map_nil]); first | done | rfl | skip) ?_
  refine (api_Line_52.made A cl dl _ (Kd.C_below hCd (hbw.trans (Below.drew (Below.refl _ _)))) hcd (by omega)).mono ?_
  rintro e w2 ⟨v0, rfl, ho, hbel⟩
  obtain ⟨A3, c3, rfl⟩ := Kd.R_slice ho
  have hs2 : w.heap.size ≤ w2.heap.size := hbel.size
  have hb2 := (hbel.block b (blk_lt hb)).trans hb
  refine ⟨_, rfl, hK.out _ _ ⟨(blk_cell hb2 2).trans rfl, blk_frozen hb2 2⟩ (fun hS => ?_)⟩
  clear hK K
  refine norm_ (a' := ?_) ?_ ?_
  rotate_left
  ·show Act.put _ (some 25) _ = _
   simp only [Act.put,zp1,zp2,zp3,zp4,zp5]
   rfl
  refine Sq.pu (v := ?_) (a' := ?_) 9 26 (Sq.bl 15 1023) (by kernel_rfl) rfl rfl (fun _ _ _ h => h) (by rfl) ?_ ?_ ?_; rotate_left; (· intro w'; go_simp; with_reducible rfl); rotate_left; (· simp only [Act.put,zp1,zp2,zp3,zp4,zp5]; rfl)
  refine one_ (i := 10) (N := some 27) (Sq.bl 15 2047) rfl rfl (by kernel_rfl) (by decide) (fun K hK => ?_)
  refine value_ (w1 := ?_) (v := ?_) (by rfl) rfl ?_ ?_
  rotate_left 2
  ·go_simp
   constructor
   ·rfl
   ·rfl
  have hb3 := blk_alloc hb2 (.cells #[.int .i64 1, .slice A3 dl.length c3] 47)
  refine hK.out _ _ ⟨(blk_cell hb3 2).trans rfl, blk_frozen hb3 2⟩ (fun hS => ?_)
  clear hK K
  refine norm_ (a' := ?_) ?_ ?_
  rotate_left
  ·show Act.put _ (some 27) _ = _
   simp only [Act.put,zp1,zp2,zp3,zp4,zp5]
   rfl
  refine one_ (i := 11) (N := some 28) (Sq.bl 15 4095) rfl rfl (by kernel_rfl) (by decide) (fun K hK => ?_)
  refine Kd.R_append_step k47 (w0 := w) w0.heap.size (by rfl) (.tmp 21) (.tmp 27) 22 47 (.agg #[(.int .i64 0), (.slice none 0 0)]) 32 rfl Try.underlying22 info47 rfl (by decide) (by omega) (.slice An now.length cn) now (⟨1, dl⟩ : S47) [.int .i64 1, .slice A3 dl.length c3] (fun k => ¬ kp k ∧ some k ≠ vo.ownBlock) (fun k => w.heap.size ≤ k ∧ k < w2.heap.size) rfl rfl ?aP ?aK ?aF ?aO ?aB ?aS ?aL ?_
  (case aP => exact k47_mkM _ _ _ (⟨1, dl⟩ : S47) (Kd.R_lower (Kd.R_mono (Kd.R_bound ho) (fun k hk => ⟨hk.2.1, hk.2.2.1⟩)) (by have := hbw.size; have : w.drew.heap.size = w.heap.size := rfl; omega)))
  (case aK => exact fun k hk => ⟨⟨fun e => by have := hkl k e; omega, fun e => by have := Kd.R_lt hvo k e.symm; omega⟩, fun e => by have := Kd.R_lt hvn k e.symm; omega⟩)
  (case aF => exact fun k hk => ⟨fun e => by have := hkl k e; omega, fun e => by have := Kd.R_lt hvo k e.symm; omega⟩)
  (case aO => exact Kd.R_below hvn (below_then (below_drew (Below.refl _ _)) (Nat.le_refl _) hbel))
  (case aB => exact (below_then (below_drew (Below.refl _ _)) (Nat.le_refl _) hbel).mono hbw.size)
  (case aS => exact (by have := hbw.size; omega))
  (case aL => omega)
  intro v4 w4 ho4 hbel4 hg4 hat4
  obtain ⟨A4, c4, rfl⟩ := Kd.R_slice ho4
  have hneb : some b ≠ (Value.slice An now.length cn).ownBlock := Kd.R_ne hvn hb (by decide)
  have hb4 := (hg4.block b (blk_lt hb2) hneb).trans hb2
  refine hK.out _ _ ⟨(blk_cell hb4 2).trans rfl, blk_frozen hb4 2⟩ (fun hS => ?_)
  have hbel2 : Below w.heap.size w w2 := below_then (below_drew (Below.refl _ _)) (Nat.le_refl _) hbel
  have hdone := hunk_Build.put_done hBb hkb hkl hvo hvn hbel2 hb4 ho4 hbel4 hg4 hat4
  rw [List.length_append, ← Hn2.out] at hdone
  clear hK K
  refine norm_ (a' := ?_) ?_ ?_
  rotate_left
  ·show Act.put _ (some 28) _ = _
   simp only [Act.put,zp1,zp2,zp3,zp4,zp5]
   rfl
  refine Sq.pu (v := ?_) (a' := ?_) 12 29 (Sq.bl 15 8191) (by kernel_rfl) rfl rfl (fun _ _ _ h => h) (by rfl) ?_ ?_ ?_; rotate_left; (· intro w'; go_simp; with_reducible rfl); rotate_left; (· simp only [Act.put,zp1,zp2,zp3,zp4,zp5]; rfl)
  refine Sq.pu (v := ?_) (a' := ?_) 13 30 (Sq.bl 15 16383) (by kernel_rfl) rfl rfl (fun _ _ _ h => h) (by rfl) ?_ ?_ ?_; rotate_left; (· intro w'; go_simp; with_reducible rfl); rotate_left; (· simp only [Act.put,zp1,zp2,zp3,zp4,zp5]; rfl)
  refine last_ (i := 14) (N := none) (Sq.bl 15 32767) rfl rfl (by kernel_rfl) (by decide) (fun K hK => ?_)
  refine skip_ (w1 := ?_) (by rfl) rfl ?_ ?_
  rotate_left
  ·go_simp
   rfl
  refine hK.out _ _ ?_
  clear hK K
  refine done_ (by kernel_rfl) ?_
  obtain ⟨hA5, hB5, hk5⟩ := hdone
  have hA5 := Aside0.mk hA5
  have hB5 := Aside0.mk hB5
  have hk5 := Aside0.mk hk5
  try simp only [List.length_singleton] at hA5 hB5 hk5
  generalize w4.setCell ⟨b, 2, none⟩ (.slice A4 (now.length + 1) c4) = w5 at hA5 hB5 hk5 ⊢
  clear ho4 hbel4 hg4 hat4 hb4 hneb hb3 hb2 hs2 hbel hbel2 ho hx0 hx2 hf2 hvo hvn hb hCd hcut hk hk' hdl2 hcd
  obtain ⟨vo5, vn5, hb, hvo, hvn⟩ := hA5.out
  obtain ⟨An5, cn5, rfl, hcn, hCn⟩ := Kd.R_reads hvn
  obtain ⟨Ao5, co5, rfl⟩ := Kd.R_slice hvo
  have hx1 : w5.cell? ⟨b, 1, none⟩ = some (.slice Ao5 out.length co5) := (blk_cell hb 1).trans rfl
  have hx2 : w5.cell? ⟨b, 2, none⟩ = some (.slice An5 now2.length cn5) := (blk_cell hb 2).trans rfl
  have hSd := Aside0.mk (script_Sides.calls k An5 cn5 now2 r1 r2 r3 w5 hCn hcn hSS)
  have hb5 := Aside0.mk hb
  have hvo5 := Aside0.mk hvo
  have hvn5 := Aside0.mk hvn
  clear hb hvo hvn hCn hcn hSS hA5
  go_wp2_with (go_at_call 55; refine hSd.out.mono ?_; rintro e w6 ⟨v60, v61, rfl, ho60, ho61, hbel6⟩; obtain ⟨A60, c60, rfl⟩ := Kd.R_slice ho60; obtain ⟨A61, c61, rfl⟩ := Kd.R_slice ho61; clear ho60 ho61)
  have hb := (hbel6.block b (blk_lt hb5.out)).trans hb5.out
  have hf1 := blk_frozen hb 1
  have hx1 : w6.cell? ⟨b, 1, none⟩ = some (.slice Ao5 out.length co5) := (blk_cell hb 1).trans rfl
  have hx2 : w6.cell? ⟨b, 2, none⟩ = some (.slice An5 now2.length cn5) := (blk_cell hb 2).trans rfl
  have hvo6 := Kd.R_below hvo5.out hbel6
  have hvn6 := Kd.R_below hvn5.out hbel6
  have hs6 := hbel6.size
  have hs5 := hB5.out.size
  have hs0 := hbw.size
  refine start_ (n := 19) (S := fun w' => w'.cell? ⟨b, 1, none⟩ = some (.slice Ao5 out.length co5) ∧ w'.cell? ⟨b, 2, none⟩ = some (.slice An5 now2.length cn5) ∧ w'.frozen? ⟨b, 1, none⟩ = false) (ds := [18]) (Sq.bl 19 0) (by kernel_rfl) rfl (by rfl) ⟨hx1, hx2, hf1⟩ (fun hS => ?_)
  have hb := blk_drew hb; have hvo6 := Kd.R_drew hvo6; have hvn6 := Kd.R_drew hvn6; have hbel6 := hbel6.drew; have HSZ : Aside0 (w6.drew.heap.size = w6.heap.size) := ⟨rfl⟩; clear hx1 hx2 hf1; generalize w6.drew = w6d at hb hvo6 hvn6 hbel6 HSZ hS ⊢
  refine Sq.pu (v := ?_) (a' := ?_) 0 40 (Sq.bl 19 1) (by kernel_rfl) rfl rfl (fun _ _ _ h => h) (by rfl) ?_ ?_ ?_; rotate_left; (· intro w'; go_simp; with_reducible rfl); rotate_left; (· simp only [Act.put,zp1,zp2,zp3,zp4,zp5]; rfl)
  refine Sq.pu (v := ?_) (a' := ?_) 1 41 (Sq.bl 19 3) (by kernel_rfl) rfl rfl (fun _ _ _ h => h) (by rfl) ?_ ?_ ?_; rotate_left; (· intro w'; go_simp; with_reducible rfl); rotate_left; (· simp only [Act.put,zp1,zp2,zp3,zp4,zp5]; rfl)
  refine Sq.pu (v := ?_) (a' := ?_) 2 42 (Sq.bl 19 7) (by kernel_rfl) rfl rfl (fun _ _ _ h => h) (by rfl) ?_ ?_ ?_; rotate_left; (· intro w'; go_simp; with_reducible rfl); rotate_left; (· simp only [Act.put,zp1,zp2,zp3,zp4,zp5]; rfl)
  refine Sq.pu (v := ?_) (a' := ?_) 3 43 (Sq.bl 19 15) (by kernel_rfl) rfl rfl (fun _ _ _ h => h) (by rfl) ?_ ?_ ?_; rotate_left; (· intro w'; go_simp; with_reducible rfl); rotate_left; (· simp only [Act.put,zp1,zp2,zp3,zp4,zp5]; rfl)
  refine Sq.pu (v := ?_) (a' := ?_) 5 45 (Sq.bl 19 47) (by kernel_rfl) rfl rfl (fun _ _ _ h => h) (by rfl) ?_ ?_ ?_; rotate_left; (· intro w'; go_simp; with_reducible rfl); rotate_left; (· simp only [Act.put,zp1,zp2,zp3,zp4,zp5]; rfl)
  refine Sq.pu (v := ?_) (a' := ?_) 6 46 (Sq.bl 19 111) (by kernel_rfl) rfl rfl (fun _ _ _ h => h) (by rfl) ?_ ?_ ?_; rotate_left; (· intro w'; go_simp; with_reducible rfl); rotate_left; (· simp only [Act.put,zp1,zp2,zp3,zp4,zp5]; rfl)
  refine Sq.pu (v := ?_) (a' := ?_) 7 47 (Sq.bl 19 239) (by kernel_rfl) rfl rfl (fun _ _ _ h => h) (by rfl) ?_ ?_ ?_; rotate_left; (· intro w'; go_simp; with_reducible rfl); rotate_left; (· simp only [Act.put,zp1,zp2,zp3,zp4,zp5]; rfl)
  refine Sq.pu (v := ?_) (a' := ?_) 8 48 (Sq.bl 19 495) (by kernel_rfl) rfl rfl (fun _ _ _ h => h) (by rfl) ?_ ?_ ?_; rotate_left; (· intro w'; go_simp; with_reducible rfl); rotate_left; (· simp only [Act.put,zp1,zp2,zp3,zp4,zp5]; rfl)
  refine Sq.pu (v := ?_) (a' := ?_) 9 49 (Sq.bl 19 1007) (by kernel_rfl) rfl rfl (fun _ _ _ h => h) (by rfl) ?_ ?_ ?_; rotate_left; (· intro w'; go_simp; with_reducible rfl); rotate_left; (· simp only [Act.put,zp1,zp2,zp3,zp4,zp5]; rfl)
  refine Sq.pu (v := ?_) (a' := ?_) 10 50 (Sq.bl 19 2031) (by kernel_rfl) rfl rfl (fun _ _ _ h => h) (by rfl) ?_ ?_ ?_; rotate_left; (· intro w'; go_simp; with_reducible rfl); rotate_left; (· simp only [Act.put,zp1,zp2,zp3,zp4,zp5]; rfl)
  refine Sq.pu (v := ?_) (a' := ?_) 11 51 (Sq.bl 19 4079) (by kernel_rfl) rfl rfl (fun _ _ _ h => h) (by rfl) ?_ ?_ ?_; rotate_left; (· intro w'; go_simp; with_reducible rfl); rotate_left; (· simp only [Act.put,zp1,zp2,zp3,zp4,zp5]; rfl)
  refine take_ (i := 4) (N := some 44) (v := ?_) (a' := ?_) (Sq.bl 19 4095) rfl rfl (by kernel_rfl) (fun _ _ _ h => h) (Or.inl ⟨by rfl, ?_⟩) hS ?_ ?_; rotate_left; (· rintro w' ⟨s0, s1, s2⟩; go_simp; with_reducible rfl); rotate_left; (· simp only [Act.put,zp1,zp2,zp3,zp4,zp5]; rfl)
  refine take_ (i := 12) (N := some 52) (v := ?_) (a' := ?_) (Sq.bl 19 8191) rfl rfl (by kernel_rfl) (fun _ _ _ h => h) (Or.inl ⟨by rfl, ?_⟩) hS ?_ ?_; rotate_left; (· rintro w' ⟨s0, s1, s2⟩; go_simp; with_reducible rfl); rotate_left; (· simp only [Act.put,zp1,zp2,zp3,zp4,zp5]; rfl)
  refine Sq.pu (v := ?_) (a' := ?_) 13 53 (Sq.bl 19 16383) (by kernel_rfl) rfl rfl (fun _ _ _ h => h) (by rfl) ?_ ?_ ?_; rotate_left; (· intro w'; go_simp; with_reducible rfl); rotate_left; (· simp only [Act.put,zp1,zp2,zp3,zp4,zp5]; rfl)
  refine one_ (i := 14) (N := some 54) (Sq.bl 19 32767) rfl rfl (by kernel_rfl) (by decide) (fun K hK => ?_)
  refine value_ (w1 := ?_) (v := ?_) (by rfl) rfl ?_ ?_
  rotate_left 2
  ·go_simp
   constructor
   ·rfl
   ·rfl
  have hb7 := blk_alloc hb (.cells #[.int .i64 0, .int .i64 (r1.length : Int), .int .i64 0, .int .i64 (r2.length : Int), .slice An5 now2.length cn5] 44)
  refine hK.out _ _ ⟨(blk_cell hb7 1).trans rfl, (blk_cell hb7 2).trans rfl, blk_frozen hb7 1⟩ (fun hS => ?_)
  clear hK K
  refine norm_ (a' := ?_) ?_ ?_
  rotate_left
  ·show Act.put _ (some 54) _ = _
   simp only [Act.put,zp1,zp2,zp3,zp4,zp5]
   rfl
  refine one_ (i := 15) (N := some 55) (Sq.bl 19 65535) rfl rfl (by kernel_rfl) (by decide) (fun K hK => ?_)
  refine Kd.R_append_step k44 (w0 := w6d) w0.heap.size (by rfl) (.tmp 44) (.tmp 54) 25 44 (.agg #[(.int .i64 0), (.int .i64 0), (.int .i64 0), (.int .i64 0), (.slice none 0 0)]) 56 rfl Try.underlying25 hunk_Build.infoH rfl (by decide) (by omega) (.slice Ao5 out.length co5) out (⟨0, (r1.length : Int), 0, (r2.length : Int), now2⟩ : S44) [.int .i64 0, .int .i64 (r1.length : Int), .int .i64 0, .int .i64 (r2.length : Int), .slice An5 now2.length cn5] (fun k => ¬ kp k) (fun k => ¬ kp k ∧ some k ≠ (Value.slice Ao5 out.length co5).ownBlock) rfl rfl ?aP (fun _ h => h) ?aF ?aO ?aB ?aS ?aL ?_
  (case aP => exact k44_mkM _ _ _ (⟨0, (r1.length : Int), 0, (r2.length : Int), now2⟩ : S44) hvn6)
  (case aF => exact fun k hk e => by have := hkl k e; have := HSZ.out; omega)
  (case aO => exact Kd.R_mono hvo6 (fun _ h => h.1))
  (case aB => exact Below.refl _ _)
  (case aS => have := HSZ.out; omega)
  (case aL => omega)
  intro v7 w7 ho7 hbel7 hg7 hat7
  obtain ⟨A7, c7, rfl⟩ := Kd.R_slice ho7
  have hb8 := (hg7.block b (blk_lt hb) (Kd.R_ne hvo6 hb (by decide))).trans hb
  refine hK.out _ _ ⟨(blk_cell hb8 1).trans rfl, (blk_cell hb8 2).trans rfl, blk_frozen hb8 1⟩ (fun hS => ?_)
  have hk7 : ∀ k, kp k → w7.heap[k]? = w.heap[k]? := fun k hk => ((hg7.block k (by have := hkl k hk; have := HSZ.out; omega) (fun e => (hvo6.1 k e.symm).1 hk)).trans (hbel6.block k (by have := hkl k hk; omega))).trans (hk5.out k hk)
  rw [List.length_append] at ho7
  have hb9 := blk_set hb8 1 (.slice A7 (out.length + 1) c7)
  have hA7 : hunk_Build.At w0.heap.size b kp ((w7.setCell ⟨b, 1, none⟩ (.slice A7 (out.length + 1) c7)).setCell ⟨b, 2, none⟩ (.slice none 0 0)) c (out ++ [⟨0, (r1.length : Int), 0, (r2.length : Int), now2⟩]) [] va := ⟨.slice A7 (out.length + 1) c7, .slice none 0 0, (blk_set hb9 2 _).trans rfl, Kd.R_set (Kd.R_set (Kd.R_mono ho7 (fun k hk => ⟨hk, by simp [Value.ownBlock]⟩)) hb8 (by decide) 1 _) hb9 (by decide) 2 _, Kd.R_nil _ _ _ _ _⟩
  have hB7 : Below w0.heap.size w ((w7.setCell ⟨b, 1, none⟩ (.slice A7 (out.length + 1) c7)).setCell ⟨b, 2, none⟩ (.slice none 0 0)) := (((hB5.out.trans (hbel6.mono (by omega))).trans hbel7).setCell hBb _).setCell hBb _
  have hk8 := hunk_Build.keep_set (i := 2) hkb (hunk_Build.keep_set (i := 1) hkb hk7 (.slice A7 (out.length + 1) c7)) (.slice none 0 0)
  have hA8 := Aside0.mk hA7
  have hB8 := Aside0.mk hB7
  have hk9 := Aside0.mk hk8
  have hf9 := blk_frozen hb9 2
  have hx9 := blk_cell hb9 2
  clear ho7 hbel7 hg7 hat7 hA7 hB7 hk8 hk7 hb8 hb9
  clear hK K
  refine norm_ (a' := ?_) ?_ ?_
  rotate_left
  ·show Act.put _ (some 55) _ = _
   simp only [Act.put,zp1,zp2,zp3,zp4,zp5]
   rfl
  refine Sq.pu (v := ?_) (a' := ?_) 16 56 (Sq.bl 19 131071) (by kernel_rfl) rfl rfl (fun _ _ _ h => h) (by rfl) ?_ ?_ ?_; rotate_left; (· intro w'; go_simp; with_reducible rfl); rotate_left; (· simp only [Act.put,zp1,zp2,zp3,zp4,zp5]; rfl)
  refine Sq.pu (v := ?_) (a' := ?_) 17 57 (Sq.bl 19 262143) (by kernel_rfl) rfl rfl (fun _ _ _ h => h) (by rfl) ?_ ?_ ?_; rotate_left; (· intro w'; go_simp; with_reducible rfl); rotate_left; (· simp only [Act.put,zp1,zp2,zp3,zp4,zp5]; rfl)
  refine last_ (i := 18) (N := none) (Sq.bl 19 524287) rfl rfl (by kernel_rfl) (by decide) (fun K hK => ?_)
  refine skip_ (w1 := ?_) (by rfl) rfl ?_ ?_
  rotate_left
  ·go_simp
   rfl
  refine hK.out _ _ ?_
  clear hK K
  refine done_ (by kernel_rfl) ?_
  try go_wp2
  go_end0
  exact ⟨rfl, hA8.out, hB8.out, hk9.out⟩
 ·have hr : hunk_Build.trail c l = [] := if_neg hk
  rw [hr, List.append_nil] at hnow2
  have hk' : decide (0 < hunk_Build.mnn c l.length) = false := decide_eq_false hk
  rw [← hnow2] at ha0
  have hA5 := Aside0.mk ha0
  have hB5 := Aside0.mk (Below.refl w0.heap.size w)
  clear hr hk hvo hvn hb ha0 hnow2 hx2 hf2
  obtain ⟨vo5, vn5, hb, hvo, hvn⟩ := hA5.out
  obtain ⟨An5, cn5, rfl, hcn, hCn⟩ := Kd.R_reads hvn
  obtain ⟨Ao5, co5, rfl⟩ := Kd.R_slice hvo
  have hx1 : w.cell? ⟨b, 1, none⟩ = some (.slice Ao5 out.length co5) := (blk_cell hb 1).trans rfl
  have hx2 : w.cell? ⟨b, 2, none⟩ = some (.slice An5 now2.length cn5) := (blk_cell hb 2).trans rfl
  have hSd := Aside0.mk (script_Sides.calls k An5 cn5 now2 r1 r2 r3 w hCn hcn hSS)
  have hb5 := Aside0.mk hb
  have hvo5 := Aside0.mk hvo
  have hvn5 := Aside0.mk hvn
  clear hb hvo hvn hCn hcn hSS hA5
  go_enter Try.func44, Try.ntmps44
  go_wp2_with (go_at_call 55; refine hSd.out.mono ?_; rintro e w6 ⟨v60, v61, rfl, ho60, ho61, hbel6⟩; obtain ⟨A60, c60, rfl⟩ := Kd.R_slice ho60; obtain ⟨A61, c61, rfl⟩ := Kd.R_slice ho61; clear ho60 ho61)
  have hb := (hbel6.block b (blk_lt hb5.out)).trans hb5.out
  have hf1 := blk_frozen hb 1
  have hx1 : w6.cell? ⟨b, 1, none⟩ = some (.slice Ao5 out.length co5) := (blk_cell hb 1).trans rfl
  have hx2 : w6.cell? ⟨b, 2, none⟩ = some (.slice An5 now2.length cn5) := (blk_cell hb 2).trans rfl
  have hvo6 := Kd.R_below hvo5.out hbel6
  have hvn6 := Kd.R_below hvn5.out hbel6
  have hs6 := hbel6.size
  have hs5 := hB5.out.size
  have hs0 := hbw.size
  refine start_ (n := 19) (S := fun w' => w'.cell? ⟨b, 1, none⟩ = some (.slice Ao5 out.length co5) ∧ w'.cell? ⟨b, 2, none⟩ = some (.slice An5 now2.length cn5) ∧ w'.frozen? ⟨b, 1, none⟩ = false) (ds := [18]) (Sq.bl 19 0) (by kernel_rfl) rfl (by rfl) ⟨hx1, hx2, hf1⟩ (fun hS => ?_)
  have hb := blk_drew hb; have hvo6 := Kd.R_drew hvo6; have hvn6 := Kd.R_drew hvn6; have hbel6 := hbel6.drew; have HSZ : Aside0 (w6.drew.heap.size = w6.heap.size) := ⟨rfl⟩; clear hx1 hx2 hf1; generalize w6.drew = w6d at hb hvo6 hvn6 hbel6 HSZ hS ⊢
  refine Sq.pu (v := ?_) (a' := ?_) 0 40 (Sq.bl 19 1) (by kernel_rfl) rfl rfl (fun _ _ _ h => h) (by rfl) ?_ ?_ ?_; rotate_left; (· intro w'; go_simp; with_reducible rfl); rotate_left; (· simp only [Act.put,zp1,zp2,zp3,zp4,zp5]; rfl)
  refine Sq.pu (v := ?_) (a' := ?_) 1 41 (Sq.bl 19 3) (by kernel_rfl) rfl rfl (fun _ _ _ h => h) (by rfl) ?_ ?_ ?_; rotate_left; (· intro w'; go_simp; with_reducible rfl); rotate_left; (· simp only [Act.put,zp1,zp2,zp3,zp4,zp5]; rfl)
  refine Sq.pu (v := ?_) (a' := ?_) 2 42 (Sq.bl 19 7) (by kernel_rfl) rfl rfl (fun _ _ _ h => h) (by rfl) ?_ ?_ ?_; rotate_left; (· intro w'; go_simp; with_reducible rfl); rotate_left; (· simp only [Act.put,zp1,zp2,zp3,zp4,zp5]; rfl)
  refine Sq.pu (v := ?_) (a' := ?_) 3 43 (Sq.bl 19 15) (by kernel_rfl) rfl rfl (fun _ _ _ h => h) (by rfl) ?_ ?_ ?_; rotate_left; (· intro w'; go_simp; with_reducible rfl); rotate_left; (· simp only [Act.put,zp1,zp2,zp3,zp4,zp5]; rfl)
  refine Sq.pu (v := ?_) (a' := ?_) 5 45 (Sq.bl 19 47) (by kernel_rfl) rfl rfl (fun _ _ _ h => h) (by rfl) ?_ ?_ ?_; rotate_left; (· intro w'; go_simp; with_reducible rfl); rotate_left; (· simp only [Act.put,zp1,zp2,zp3,zp4,zp5]; rfl)
  refine Sq.pu (v := ?_) (a' := ?_) 6 46 (Sq.bl 19 111) (by kernel_rfl) rfl rfl (fun _ _ _ h => h) (by rfl) ?_ ?_ ?_; rotate_left; (· intro w'; go_simp; with_reducible rfl); rotate_left; (· simp only [Act.put,zp1,zp2,zp3,zp4,zp5]; rfl)
  refine Sq.pu (v := ?_) (a' := ?_) 7 47 (Sq.bl 19 239) (by kernel_rfl) rfl rfl (fun _ _ _ h => h) (by rfl) ?_ ?_ ?_; rotate_left; (· intro w'; go_simp; with_reducible rfl); rotate_left; (· simp only [Act.put,zp1,zp2,zp3,zp4,zp5]; rfl)
  refine Sq.pu (v := ?_) (a' := ?_) 8 48 (Sq.bl 19 495) (by kernel_rfl) rfl rfl (fun _ _ _ h => h) (by rfl) ?_ ?_ ?_; rotate_left; (· intro w'; go_simp; with_reducible rfl); rotate_left; (· simp only [Act.put,zp1,zp2,zp3,zp4,zp5]; rfl)
  refine Sq.pu (v := ?_) (a' := ?_) 9 49 (Sq.bl 19 1007) (by kernel_rfl) rfl rfl (fun _ _ _ h => h) (by rfl) ?_ ?_ ?_; rotate_left; (· intro w'; go_simp; with_reducible rfl); rotate_left; (· simp only [Act.put,zp1,zp2,zp3,zp4,zp5]; rfl)
  refine Sq.pu (v := ?_) (a' := ?_) 10 50 (Sq.bl 19 2031) (by kernel_rfl) rfl rfl (fun _ _ _ h => h) (by rfl) ?_ ?_ ?_; rotate_left; (· intro w'; go_simp; with_reducible rfl); rotate_left; (· simp only [Act.put,zp1,zp2,zp3,zp4,zp5]; rfl)
  refine Sq.pu (v := ?_) (a' := ?_) 11 51 (Sq.bl 19 4079) (by kernel_rfl) rfl rfl (fun _ _ _ h => h) (by rfl) ?_ ?_ ?_; rotate_left; (· intro w'; go_simp; with_reducible rfl); rotate_left; (· simp only [Act.put,zp1,zp2,zp3,zp4,zp5]; rfl)
  refine take_ (i := 4) (N := some 44) (v := ?_) (a' := ?_) (Sq.bl 19 4095) rfl rfl (by kernel_rfl) (fun _ _ _ h => h) (Or.inl ⟨by rfl, ?_⟩) hS ?_ ?_; rotate_left; (· rintro w' ⟨s0, s1, s2⟩; go_simp; with_reducible rfl); rotate_left; (· simp only [Act.put,zp1,zp2,zp3,zp4,zp5]; rfl)
  refine take_ (i := 12) (N := some 52) (v := ?_) (a' := ?_) (Sq.bl 19 8191) rfl rfl (by kernel_rfl) (fun _ _ _ h => h) (Or.inl ⟨by rfl, ?_⟩) hS ?_ ?_; rotate_left; (· rintro w' ⟨s0, s1, s2⟩; go_simp; with_reducible rfl); rotate_left; (· simp only [Act.put,zp1,zp2,zp3,zp4,zp5]; rfl)
  refine Sq.pu (v := ?_) (a' := ?_) 13 53 (Sq.bl 19 16383) (by kernel_rfl) rfl rfl (fun _ _ _ h => h) (by rfl) ?_ ?_ ?_; rotate_left; (· intro w'; go_simp; with_reducible rfl); rotate_left; (· simp only [Act.put,zp1,zp2,zp3,zp4,zp5]; rfl)
  refine one_ (i := 14) (N := some 54) (Sq.bl 19 32767) rfl rfl (by kernel_rfl) (by decide) (fun K hK => ?_)
  refine value_ (w1 := ?_) (v := ?_) (by rfl) rfl ?_ ?_
  rotate_left 2
  ·go_simp
   constructor
   ·rfl
   ·rfl
  have hb7 := blk_alloc hb (.cells #[.int .i64 0, .int .i64 (r1.length : Int), .int .i64 0, .int .i64 (r2.length : Int), .slice An5 now2.length cn5] 44)
  refine hK.out _ _ ⟨(blk_cell hb7 1).trans rfl, (blk_cell hb7 2).trans rfl, blk_frozen hb7 1⟩ (fun hS => ?_)
  clear hK K
  refine norm_ (a' := ?_) ?_ ?_
  rotate_left
  ·show Act.put _ (some 54) _ = _
   simp only [Act.put,zp1,zp2,zp3,zp4,zp5]
   rfl
  refine one_ (i := 15) (N := some 55) (Sq.bl 19 65535) rfl rfl (by kernel_rfl) (by decide) (fun K hK => ?_)
  refine Kd.R_append_step k44 (w0 := w6d) w0.heap.size (by rfl) (.tmp 44) (.tmp 54) 25 44 (.agg #[(.int .i64 0), (.int .i64 0), (.int .i64 0), (.int .i64 0), (.slice none 0 0)]) 56 rfl Try.underlying25 hunk_Build.infoH rfl (by decide) (by omega) (.slice Ao5 out.length co5) out (⟨0, (r1.length : Int), 0, (r2.length : Int), now2⟩ : S44) [.int .i64 0, .int .i64 (r1.length : Int), .int .i64 0, .int .i64 (r2.length : Int), .slice An5 now2.length cn5] (fun k => ¬ kp k) (fun k => ¬ kp k ∧ some k ≠ (Value.slice Ao5 out.length co5).ownBlock) rfl rfl ?aP (fun _ h => h) ?aF ?aO ?aB ?aS ?aL ?_
  (case aP => exact k44_mkM _ _ _ (⟨0, (r1.length : Int), 0, (r2.length : Int), now2⟩ : S44) hvn6)
  (case aF => exact fun k hk e => by have := hkl k e; have := HSZ.out; omega)
  (case aO => exact Kd.R_mono hvo6 (fun _ h => h.1))
  (case aB => exact Below.refl _ _)
  (case aS => have := HSZ.out; omega)
  (case aL => omega)
  intro v7 w7 ho7 hbel7 hg7 hat7
  obtain ⟨A7, c7, rfl⟩ := Kd.R_slice ho7
  have hb8 := (hg7.block b (blk_lt hb) (Kd.R_ne hvo6 hb (by decide))).trans hb
  refine hK.out _ _ ⟨(blk_cell hb8 1).trans rfl, (blk_cell hb8 2).trans rfl, blk_frozen hb8 1⟩ (fun hS => ?_)
  have hk7 : ∀ k, kp k → w7.heap[k]? = w.heap[k]? := fun k hk => ((hg7.block k (by have := hkl k hk; have := HSZ.out; omega) (fun e => (hvo6.1 k e.symm).1 hk)).trans (hbel6.block k (by have := hkl k hk; omega))).trans rfl
  rw [List.length_append] at ho7
  have hb9 := blk_set hb8 1 (.slice A7 (out.length + 1) c7)
  have hA7 : hunk_Build.At w0.heap.size b kp ((w7.setCell ⟨b, 1, none⟩ (.slice A7 (out.length + 1) c7)).setCell ⟨b, 2, none⟩ (.slice none 0 0)) c (out ++ [⟨0, (r1.length : Int), 0, (r2.length : Int), now2⟩]) [] va := ⟨.slice A7 (out.length + 1) c7, .slice none 0 0, (blk_set hb9 2 _).trans rfl, Kd.R_set (Kd.R_set (Kd.R_mono ho7 (fun k hk => ⟨hk, by simp [Value.ownBlock]⟩)) hb8 (by decide) 1 _) hb9 (by decide) 2 _, Kd.R_nil _ _ _ _ _⟩
  have hB7 : Below w0.heap.size w ((w7.setCell ⟨b, 1, none⟩ (.slice A7 (out.length + 1) c7)).setCell ⟨b, 2, none⟩ (.slice none 0 0)) := (((hB5.out.trans (hbel6.mono (by omega))).trans hbel7).setCell hBb _).setCell hBb _
  have hk8 := hunk_Build.keep_set (i := 2) hkb (hunk_Build.keep_set (i := 1) hkb hk7 (.slice A7 (out.length + 1) c7)) (.slice none 0 0)
  have hA8 := Aside0.mk hA7
  have hB8 := Aside0.mk hB7
  have hk9 := Aside0.mk hk8
  have hf9 := blk_frozen hb9 2
  have hx9 := blk_cell hb9 2
  clear ho7 hbel7 hg7 hat7 hA7 hB7 hk8 hk7 hb8 hb9
  clear hK K
  refine norm_ (a' := ?_) ?_ ?_
  rotate_left
  ·show Act.put _ (some 55) _ = _
   simp only [Act.put,zp1,zp2,zp3,zp4,zp5]
   rfl
  refine Sq.pu (v := ?_) (a' := ?_) 16 56 (Sq.bl 19 131071) (by kernel_rfl) rfl rfl (fun _ _ _ h => h) (by rfl) ?_ ?_ ?_; rotate_left; (· intro w'; go_simp; with_reducible rfl); rotate_left; (· simp only [Act.put,zp1,zp2,zp3,zp4,zp5]; rfl)
  refine Sq.pu (v := ?_) (a' := ?_) 17 57 (Sq.bl 19 262143) (by kernel_rfl) rfl rfl (fun _ _ _ h => h) (by rfl) ?_ ?_ ?_; rotate_left; (· intro w'; go_simp; with_reducible rfl); rotate_left; (· simp only [Act.put,zp1,zp2,zp3,zp4,zp5]; rfl)
  refine last_ (i := 18) (N := none) (Sq.bl 19 524287) rfl rfl (by kernel_rfl) (by decide) (fun K hK => ?_)
  refine skip_ (w1 := ?_) (by rfl) rfl ?_ ?_
  rotate_left
  ·go_simp
   rfl
  refine hK.out _ _ ?_
  clear hK K
  refine done_ (by kernel_rfl) ?_
  try go_wp2
  go_end0
  exact ⟨rfl, hA8.out, hB8.out, hk9.out⟩


end Go.Proofs.Ytfnbodjmmkjlcaa.H
end
section
namespace Go.Proofs.Ytfnbodjmmkjlcaa.H
open Go.RowKit Go.Proofs.YtfnbodjmmkjlcaaW.PrintWords Go.Proofs.YtfnbodjmmkjlcaaW.PrintLast Go.Proofs.YtfnbodjmmkjlcaaW.PrintMore
attribute [local go_sem] max2_int min2_int max_two min_two max_three min_three max_four min_four   -- for this text's walks alone
set_option linter.unusedVariables false
set_option linter.unusedSimpArgs false

def hunk_changes.f (a0_0 : Int) (l0_1 : List (S66)) : Option (Bool) := some (a0_0 != 1)
set_option maxHeartbeats 8000000 in
set_option maxRecDepth 100000 in
theorem hunk_changes.calls (a0_0 : Int) (A0_1 : Option Addr) (c0_1 : Nat) (l0_1 : List (S66)) (r : Bool) (w : World) (hr0_1 : Kd.C k66 w A0_1 l0_1.length l0_1) (hc0_1 : l0_1.length ≤ c0_1) (h : hunk_changes.f a0_0 l0_1 = some r) :
    Calls Try.prog 68 #[.agg #[.int .i64 a0_0, .slice A0_1 l0_1.length c0_1]] w fun e w' => e = .returned (.bool r) ∧ Below w.heap.size w w' := by
  have hu47 := Try.underlying47
  have HR0_1 := Aside0.mk hr0_1
  have HC0_1 := Aside0.mk hc0_1
  clear hr0_1 hc0_1
  have HB := Aside0.mk (Below.refl w.heap.size w)
  have H : (some (a0_0 != 1)) = some r := h
  clear h
  obtain rfl := Option.some.inj H
  go_enter Try.func68, Try.ntmps68
  go_wp2_with (first | ((with_reducible refine gate_dst (N := 1) rfl ?_); refine box_event ?hg (N := 1) ?hd (cs := #[.int .i64 a0_0, .slice A0_1 l0_1.length c0_1]) (t := 47) ?hr ?_; (case hd => rfl); (case hg => rfl); (case hr => first | (go_simp; done) | (go_simp; rfl)); intro gb132 hg w2 hbox hb; have n0_ := Aside0.mk (below_step (by repeat (first | (with_reducible first | exact HB.out | apply below_alloc | apply pw_below_drewN | apply below_drew1) | exact HB.out)) hb); have n1_ := Aside0.mk (hbox); have n2_ := Aside0.mk ((by rw [hg]; exact (below_size (by repeat (first | (with_reducible first | exact HB.out | apply below_alloc | apply pw_below_drewN | apply below_drew1) | exact HB.out))) : w.heap.size ≤ gb132)); have n3_ := Aside0.mk ((by rw [hg]; exact (below_size (by repeat (first | (with_reducible first | exact HB.out | apply below_alloc | apply pw_below_drewN | apply below_drew1) | exact HB.out))) : w.heap.size ≤ gb132)); clear HB; have HB := n0_; have BK132 := n1_; have GW132 := n2_; have GE132 := n3_; clear n0_ n1_ n2_ n3_; clear hb hbox hg; have hcz3_0 : w2.cell? ⟨gb132, 0, none⟩ = some (.int .i64 a0_0) := (blk_cell BK132.out 0).trans rfl; have hcz3_1 : w2.cell? ⟨gb132, 1, none⟩ = some (.slice A0_1 l0_1.length c0_1) := (blk_cell BK132.out 1).trans rfl; have hfz3_0 := blk_frozen BK132.out 0; have hfz3_1 := blk_frozen BK132.out 1))
  go_ret
  exact ⟨by first | rfl | (simp [errW_none, errW_some] <;> rfl) | (simp [*, errW_none, errW_some] <;> rfl), by repeat (first | (with_reducible first | exact HB.out | apply below_alloc | apply pw_below_drewN | apply below_drew1 | refine below_set ?_ GE132.out) | exact HB.out)⟩

end Go.Proofs.Ytfnbodjmmkjlcaa.H
end
section
namespace Go.Proofs.Ytfnbodjmmkjlcaa.H
open Go.RowKit Go.Proofs.YtfnbodjmmkjlcaaW.PrintWords Go.Proofs.YtfnbodjmmkjlcaaW.PrintLast Go.Proofs.YtfnbodjmmkjlcaaW.PrintMore
attribute [local go_sem] max2_int min2_int max_two min_two max_three min_three max_four min_four   -- for this text's walks alone
set_option linter.unusedVariables false
set_option linter.unusedSimpArgs false

attribute [local go_sem 3000] hunk_Build.min2
set_option maxHeartbeats 4000000 in
set_option maxRecDepth 100000 in
theorem hunk_Build.begin_calls (w0 : World) (b : Nat) (kp : Nat → Prop) (c : Nat) (out : List S44) (now : List S47) (ah : List S66) (A : Option Addr) (ca : Nat) (w : World) (hBb : w0.heap.size ≤ b) (hkb : ¬ kp b) (hkl : ∀ k, kp k → k < w.heap.size)
  (ha : hunk_Build.At w0.heap.size b kp w c out now (.slice A ah.length ca)) (hC : Kd.C k66 w0 A ah.length ah) (hca : ah.length ≤ ca) (hbw : Below w0.heap.size w0 w) (h1 : now.length ≤ 1000000000) (h2 : ah.length ≤ 1000000000) (h3 : c ≤ 1000000000) :
  Calls Try.prog 69 #[.pointer (some ⟨b, 0, none⟩)] w fun e w' => e = .returned (.tuple #[]) ∧ hunk_Build.At w0.heap.size b kp w' c out (now ++ hunk_Build.lead c ah) (.slice none 0 0) ∧ Below w0.heap.size w w' ∧ (∀ k, kp k → w'.heap[k]? = w.heap[k]?) := by
 obtain ⟨vo, vn, hb, hvo, hvn⟩ := ha
 obtain ⟨An, cn, rfl⟩ := Kd.R_slice hvn
 have hx0 : w.cell? ⟨b, 0, none⟩ = some (.int .i64 (c : Int)) := (blk_cell hb 0).trans rfl
 have hx2 : w.cell? ⟨b, 2, none⟩ = some (.slice An now.length cn) := (blk_cell hb 2).trans rfl
 have hx5 : w.cell? ⟨b, 5, none⟩ = some (.slice A ah.length ca) := (blk_cell hb 5).trans rfl
 have hf2 := blk_frozen hb 2
 have hf5 := blk_frozen hb 5
 by_cases hk : 0 < min c ah.length
 ·have hr : hunk_Build.lead c ah = [⟨1, ah.drop (ah.length - min c ah.length)⟩] := if_pos hk
  rw [hr]
  obtain ⟨q, hq⟩ : ∃ q : Nat, q = hunk_Build.mnn c ah.length := ⟨_, rfl⟩
  have hq2 : q = min c ah.length := hq
  rw [← hq2] at hk ⊢
  have hk' : decide (0 < hunk_Build.mnn c ah.length) = true := decide_eq_true (by rw [← hq]; exact hk)
  obtain ⟨m, hm⟩ : ∃ m : Nat, m = ah.length - q := ⟨_, rfl⟩
  rw [← hm]
  obtain ⟨dl, Ad, cd, hdl, hcut, hCd, hcd⟩ := hunk_Build.cut_tail w0 A ca ah m (by omega) hca hC
  rw [← hdl]
  have HQ : Aside0 (wrap64 ((ah.length : Int) - (q : Int)) = (m : Int)) := ⟨by unfold wrap64; omega⟩
  have hdl2 : dl.length ≤ 1000000000 := by rw [hdl, List.length_drop]; omega
  have HQQ := Aside0.mk hq
  have HM := Aside0.mk hm
  clear hr hdl hq hq2 hm
  go_enter Try.func69, Try.ntmps69
  go_wp2
  rw [← HQQ.out]
  refine start_ (n := 20) (S := fun w' => w'.cell? ⟨b, 2, none⟩ = some (.slice An now.length cn) ∧ w'.cell? ⟨b, 5, none⟩ = some (.slice A ah.length ca) ∧ w'.frozen? ⟨b, 2, none⟩ = false) (ds := [19]) (Sq.bl 20 0) (by kernel_rfl) rfl (by rfl) ⟨hx2, hx5, hf2⟩ (fun hS => ?_)
  refine Sq.pu (v := ?_) (a' := ?_) 0 17 (Sq.bl 20 1) (by kernel_rfl) rfl rfl (fun _ _ _ h => h) (by rfl) ?_ ?_ ?_; rotate_left; (· intro w'; go_simp; with_reducible rfl); rotate_left; (· simp only [Act.put, List.setIfInBounds_toArray, List.set_cons_zero, List.set_cons_succ, i64_w, i32_w, HQ.out]; rfl)
  refine Sq.pu (v := ?_) (a' := ?_) 1 18 (Sq.bl 20 3) (by kernel_rfl) rfl rfl (fun _ _ _ h => h) (by rfl) ?_ ?_ ?_; rotate_left; (· intro w'; go_simp; with_reducible rfl); rotate_left; (· simp only [Act.put, List.setIfInBounds_toArray, List.set_cons_zero, List.set_cons_succ, i64_w, i32_w, HQ.out]; rfl)
  refine Sq.pu (v := ?_) (a' := ?_) 2 19 (Sq.bl 20 7) (by kernel_rfl) rfl rfl (fun _ _ _ h => h) (by rfl) ?_ ?_ ?_; rotate_left; (· intro w'; go_simp; with_reducible rfl); rotate_left; (· simp only [Act.put, List.setIfInBounds_toArray, List.set_cons_zero, List.set_cons_succ, i64_w, i32_w, HQ.out]; rfl)
  refine Sq.pu (v := ?_) (a' := ?_) 3 20 (Sq.bl 20 15) (by kernel_rfl) rfl rfl (fun _ _ _ h => h) (by rfl) ?_ ?_ ?_; rotate_left; (· intro w'; go_simp; with_reducible rfl); rotate_left; (· simp only [Act.put, List.setIfInBounds_toArray, List.set_cons_zero, List.set_cons_succ, i64_w, i32_w, HQ.out]; rfl)
  refine Sq.pu (v := ?_) (a' := ?_) 5 22 (Sq.bl 20 47) (by kernel_rfl) rfl rfl (fun _ _ _ h => h) (by rfl) ?_ ?_ ?_; rotate_left; (· intro w'; go_simp; with_reducible rfl); rotate_left; (· simp only [Act.put, List.setIfInBounds_toArray, List.set_cons_zero, List.set_cons_succ, i64_w, i32_w, HQ.out]; rfl)
  refine Sq.pu (v := ?_) (a' := ?_) 6 23 (Sq.bl 20 111) (by kernel_rfl) rfl rfl (fun _ _ _ h => h) (by rfl) ?_ ?_ ?_; rotate_left; (· intro w'; go_simp; with_reducible rfl); rotate_left; (· simp only [Act.put, List.setIfInBounds_toArray, List.set_cons_zero, List.set_cons_succ, i64_w, i32_w, HQ.out]; rfl)
  refine Sq.pu (v := ?_) (a' := ?_) 7 24 (Sq.bl 20 239) (by kernel_rfl) rfl rfl (fun _ _ _ h => h) (by rfl) ?_ ?_ ?_; rotate_left; (· intro w'; go_simp; with_reducible rfl); rotate_left; (· simp only [Act.put, List.setIfInBounds_toArray, List.set_cons_zero, List.set_cons_succ, i64_w, i32_w, HQ.out]; rfl)
  refine Sq.pu (v := ?_) (a' := ?_) 9 26 (Sq.bl 20 751) (by kernel_rfl) rfl rfl (fun _ _ _ h => h) (by rfl) ?_ ?_ ?_; rotate_left; (· intro w'; go_simp; with_reducible rfl); rotate_left; (· simp only [Act.put, List.setIfInBounds_toArray, List.set_cons_zero, List.set_cons_succ, i64_w, i32_w, HQ.out]; rfl)
  refine Sq.pu (v := ?_) (a' := ?_) 10 27 (Sq.bl 20 1775) (by kernel_rfl) rfl rfl (fun _ _ _ h => h) (by rfl) ?_ ?_ ?_; rotate_left; (· intro w'; go_simp; with_reducible rfl); rotate_left; (· simp only [Act.put, List.setIfInBounds_toArray, List.set_cons_zero, List.set_cons_succ, i64_w, i32_w, HQ.out]; rfl)
  refine Sq.pu (v := ?_) (a' := ?_) 11 28 (Sq.bl 20 3823) (by kernel_rfl) rfl rfl (fun _ _ _ h => h) (by rfl) ?_ ?_ ?_; rotate_left; (· intro w'; go_simp; with_reducible rfl); rotate_left; (· simp only [Act.put, List.setIfInBounds_toArray, List.set_cons_zero, List.set_cons_succ, i64_w, i32_w, HQ.out]; rfl)
  refine take_ (i := 4) (N := some 21) (v := ?_) (a' := ?_) (Sq.bl 20 3839) rfl rfl (by kernel_rfl) (fun _ _ _ h => h) (Or.inl ⟨by rfl, ?_⟩) hS ?_ ?_; rotate_left; (· rintro w' ⟨s0, s1, s2⟩; go_simp; with_reducible rfl); rotate_left; (· simp only [Act.put, List.setIfInBounds_toArray, List.set_cons_zero, List.set_cons_succ, i64_w, i32_w, HQ.out]; rfl)
  refine take_ (i := 8) (N := some 25) (v := ?_) (a' := ?_) (Sq.bl 20 4095) rfl rfl (by kernel_rfl) (fun _ _ _ h => h) (Or.inl ⟨by rfl, ?_⟩) hS ?_ ?_; rotate_left; (· rintro w' ⟨s0, s1, s2⟩; go_simp; with_reducible rfl); rotate_left; (· simp only [Act.put, List.setIfInBounds_toArray, List.set_cons_zero, List.set_cons_succ, i64_w, i32_w, HQ.out]; rfl)
  refine Sq.pu (v := ?_) (a' := ?_) 12 29 (Sq.bl 20 8191) (by kernel_rfl) rfl rfl (fun _ _ _ h => h) (by rfl) ?_ ?_ ?_; rotate_left; (· intro w'; go_simp; with_reducible rfl); rotate_left; (· simp only [Act.put, List.setIfInBounds_toArray, List.set_cons_zero, List.set_cons_succ, i64_w, i32_w, HQ.out]; rfl)
  refine one_ (i := 13) (N := some 30) (Sq.bl 20 16383) rfl rfl (by kernel_rfl) (by decide) (fun K hK => ?_)
  refine goes_ Try.func52 (by kernel_rfl) rfl #[.slice Ad dl.length cd] (by rfl) rfl rfl (by (try simp only [List.map_toArray, List.map_cons, List.map_nil]); first | done | rfl | skip) ?_
  refine (api_Line_52.made Ad cd dl _ (Kd.C_below hCd (hbw.trans (Below.drew (Below.refl _ _)))) hcd (by omega)).mono ?_
  rintro e w2 ⟨v0, rfl, ho, hbel⟩
  obtain ⟨A3, c3, rfl⟩ := Kd.R_slice ho
  have hs2 : w.heap.size ≤ w2.heap.size := hbel.size
  have hb2 := (hbel.block b (blk_lt hb)).trans hb
  refine ⟨_, rfl, hK.out _ _ ⟨(blk_cell hb2 2).trans rfl, (blk_cell hb2 5).trans rfl, blk_frozen hb2 2⟩ (fun hS => ?_)⟩
  clear hK K
  refine norm_ (a' := ?_) ?_ ?_
  rotate_left
  ·show Act.put _ (some 30) _ = _
   simp only [Act.put, List.setIfInBounds_toArray, List.set_cons_zero, List.set_cons_succ, i64_w, i32_w, HQ.out]
   rfl
  refine Sq.pu (v := ?_) (a' := ?_) 14 31 (Sq.bl 20 32767) (by kernel_rfl) rfl rfl (fun _ _ _ h => h) (by rfl) ?_ ?_ ?_; rotate_left; (· intro w'; go_simp; with_reducible rfl); rotate_left; (· simp only [Act.put, List.setIfInBounds_toArray, List.set_cons_zero, List.set_cons_succ, i64_w, i32_w, HQ.out]; rfl)
  refine one_ (i := 15) (N := some 32) (Sq.bl 20 65535) rfl rfl (by kernel_rfl) (by decide) (fun K hK => ?_)
  refine value_ (w1 := ?_) (v := ?_) (by rfl) rfl ?_ ?_
  rotate_left 2
  ·go_simp
   constructor
   ·rfl
   ·rfl
  have hb3 := blk_alloc hb2 (.cells #[.int .i64 1, .slice A3 dl.length c3] 47)
  refine hK.out _ _ ⟨(blk_cell hb3 2).trans rfl, (blk_cell hb3 5).trans rfl, blk_frozen hb3 2⟩ (fun hS => ?_)
  clear hK K
  refine norm_ (a' := ?_) ?_ ?_
  rotate_left
  ·show Act.put _ (some 32) _ = _
   simp only [Act.put, List.setIfInBounds_toArray, List.set_cons_zero, List.set_cons_succ, i64_w, i32_w, HQ.out]
   rfl
  refine one_ (i := 16) (N := some 33) (Sq.bl 20 131071) rfl rfl (by kernel_rfl) (by decide) (fun K hK => ?_)
  refine Kd.R_append_step k47 (w0 := w) w0.heap.size (by rfl) (.tmp 21) (.tmp 32) 22 47 (.agg #[(.int .i64 0), (.slice none 0 0)]) 32 rfl Try.underlying22 info47 rfl (by decide) (by omega) (.slice An now.length cn) now (⟨1, dl⟩ : S47) [.int .i64 1, .slice A3 dl.length c3] (fun k => ¬ kp k ∧ some k ≠ vo.ownBlock) (fun k => w.heap.size ≤ k ∧ k < w2.heap.size) rfl rfl ?aP ?aK ?aF ?aO ?aB ?aS ?aL ?_
  (case aP => exact k47_mkM _ _ _ (⟨1, dl⟩ : S47) (Kd.R_lower (Kd.R_mono (Kd.R_bound ho) (fun k hk => ⟨hk.2.1, hk.2.2.1⟩)) (by have := hbw.size; have : w.drew.heap.size = w.heap.size := rfl; omega)))
  (case aK => exact fun k hk => ⟨⟨fun e => by have := hkl k e; omega, fun e => by have := Kd.R_lt hvo k e.symm; omega⟩, fun e => by have := Kd.R_lt hvn k e.symm; omega⟩)
  (case aF => exact fun k hk => ⟨fun e => by have := hkl k e; omega, fun e => by have := Kd.R_lt hvo k e.symm; omega⟩)
  (case aO => exact Kd.R_below hvn (below_then (below_drew (Below.refl _ _)) (Nat.le_refl _) hbel))
  (case aB => exact (below_then (below_drew (Below.refl _ _)) (Nat.le_refl _) hbel).mono hbw.size)
  (case aS => exact (by have := hbw.size; omega))
  (case aL => omega)
  intro v4 w4 ho4 hbel4 hg4 hat4
  obtain ⟨A4, c4, rfl⟩ := Kd.R_slice ho4
  have hneb : some b ≠ (Value.slice An now.length cn).ownBlock := Kd.R_ne hvn hb (by decide)
  have hb4 := (hg4.block b (blk_lt hb2) hneb).trans hb2
  refine hK.out _ _ ⟨(blk_cell hb4 2).trans rfl, (blk_cell hb4 5).trans rfl, blk_frozen hb4 2⟩ (fun hS => ?_)
  have hbel2 : Below w.heap.size w w2 := below_then (below_drew (Below.refl _ _)) (Nat.le_refl _) hbel
  have hdone := hunk_Build.put_done hBb hkb hkl hvo hvn hbel2 hb4 ho4 hbel4 hg4 hat4
  rw [List.length_append] at hdone
  clear hK K
  refine norm_ (a' := ?_) ?_ ?_
  rotate_left
  ·show Act.put _ (some 33) _ = _
   simp only [Act.put, List.setIfInBounds_toArray, List.set_cons_zero, List.set_cons_succ, i64_w, i32_w, HQ.out]
   rfl
  refine Sq.pu (v := ?_) (a' := ?_) 17 34 (Sq.bl 20 262143) (by kernel_rfl) rfl rfl (fun _ _ _ h => h) (by rfl) ?_ ?_ ?_; rotate_left; (· intro w'; go_simp; with_reducible rfl); rotate_left; (· simp only [Act.put, List.setIfInBounds_toArray, List.set_cons_zero, List.set_cons_succ, i64_w, i32_w, HQ.out]; rfl)
  refine Sq.pu (v := ?_) (a' := ?_) 18 35 (Sq.bl 20 524287) (by kernel_rfl) rfl rfl (fun _ _ _ h => h) (by rfl) ?_ ?_ ?_; rotate_left; (· intro w'; go_simp; with_reducible rfl); rotate_left; (· simp only [Act.put, List.setIfInBounds_toArray, List.set_cons_zero, List.set_cons_succ, i64_w, i32_w, HQ.out]; rfl)
  refine last_ (i := 19) (N := none) (Sq.bl 20 1048575) rfl rfl (by kernel_rfl) (by decide) (fun K hK => ?_)
  refine skip_ (w1 := ?_) (by rfl) rfl ?_ ?_
  rotate_left
  ·go_simp
   rfl
  refine hK.out _ _ ?_
  clear hK K
  refine done_ (by kernel_rfl) ?_
  obtain ⟨hA5, hB5, hk5⟩ := hdone
  obtain ⟨vo5, vn5, hb5⟩ := hA5.blk
  have hA6 := Aside0.mk hA5
  have hB6 := Aside0.mk hB5
  have hk6 := Aside0.mk hk5
  have hc6 := blk_cell hb5 5
  have hf6 := blk_frozen hb5 5
  clear hA5 hB5 hk5
  try simp only [List.length_singleton] at hA6 hB6 hk6 hb5 hc6 hf6
  generalize w4.setCell ⟨b, 2, none⟩ (.slice A4 (now.length + 1) c4) = w5 at hA6 hB6 hk6 hb5 hc6 hf6 ⊢
  go_wp2
  go_end0
  exact ⟨rfl, hA6.out.setva _, hB6.out.setCell hBb _, hunk_Build.keep_set hkb hk6.out _⟩
 ·have hr : hunk_Build.lead c ah = [] := if_neg hk
  rw [hr, List.append_nil]
  have hk' : decide (0 < hunk_Build.mnn c ah.length) = false := decide_eq_false hk
  clear hr hk
  go_enter Try.func69, Try.ntmps69
  go_wp2
  go_end0
  exact ⟨rfl, ⟨vo, _, (blk_set hb 5 _).trans rfl, Kd.R_set hvo hb (by decide) 5 _, Kd.R_set hvn hb (by decide) 5 _⟩, (Below.refl _ _).setCell (by omega) _, fun k hk => Below.heap_setCell w ⟨b, 5, none⟩ _ k (fun e => hkb ((show k = b from e) ▸ hk))⟩


end Go.Proofs.Ytfnbodjmmkjlcaa.H
end
