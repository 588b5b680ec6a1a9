/-
  What the claim needs of the words, of the walks and of the plain proofs, in one row (7).
-/
import Derived.RangeFuncNested
import Derived.RangeFuncBound
import Derived.RangeFuncCalls
import Derived.RangeFuncLeaves
import Derived.RangeFuncBox
import Derived.RangeFuncMany
import Derived.OwnWalkIn
import Derived.Test.YtfnbodjmmkjlcaaZ0
import Derived.Test.YtfnbodjmmkjlcaaZ1
import Derived.Test.YtfnbodjmmkjlcaaZ2
import Derived.Test.YtfnbodjmmkjlcaaZ3
import Derived.Test.YtfnbodjmmkjlcaaZ4
import Derived.Test.YtfnbodjmmkjlcaaZ5
import Derived.Test.YtfnbodjmmkjlcaaZ6
section
namespace Go.Proofs.Ytfnbodjmmkjlcaa.H
open Go.RowKit Go.Proofs.YtfnbodjmmkjlcaaW.PrintWords Go.Proofs.YtfnbodjmmkjlcaaW.PrintLast Go.Proofs.YtfnbodjmmkjlcaaW.PrintMore
attribute [local go_sem] max2_int min2_int max_two min_two max_three min_three max_four min_four   -- for this text's walks alone
set_option linter.unusedVariables false
set_option linter.unusedSimpArgs false

def jalousieref08_Invert.l0 : Nat → List (S47) → List (S47) → Int → Option ((List (S47)) × Int)
 | 0, _, _, _ => none
 | k + 1, x0, x4, x5 => if x5 < (x0.length : Int) then (if 0 ≤ x5 then (if ((rd_T47 x0 x5).f0) = 2 then (if ((rd_T47 x0 x5).f0) = 3 then (if x4.length < 4398046511104 then (jalousieref08_Invert.l0 k x0 (x4 ++ [(⟨2, (rd_T47 x0 x5).f1⟩ : S47)]) (wrap64 (x5 + 1))) else (none)) else (if x4.length < 4398046511104 then (jalousieref08_Invert.l0 k x0 (x4 ++ [(⟨3, (rd_T47 x0 x5).f1⟩ : S47)]) (wrap64 (x5 + 1))) else (none))) else (if ((rd_T47 x0 x5).f0) = 3 then (if x4.length < 4398046511104 then (jalousieref08_Invert.l0 k x0 (x4 ++ [(⟨2, (rd_T47 x0 x5).f1⟩ : S47)]) (wrap64 (x5 + 1))) else (none)) else (if x4.length < 4398046511104 then (jalousieref08_Invert.l0 k x0 (x4 ++ [(⟨(rd_T47 x0 x5).f0, (rd_T47 x0 x5).f1⟩ : S47)]) (wrap64 (x5 + 1))) else (none)))) else (none)) else ((jalousieref08_Normal.f k x4).bind fun bt799 => (some (bt799.1, bt799.2)))
def jalousieref08_Invert.f (k : Nat) (l0 : List (S47)) : Option ((List (S47)) × Int) := jalousieref08_Invert.l0 k l0 (([] : List (S47))) 0
set_option maxHeartbeats 8000000 in
set_option maxRecDepth 100000 in
theorem jalousieref08_Invert.calls (k : Nat) (P0_ : Nat → Prop) (A0 : Option Addr) (c0 : Nat) (l0 : List (S47)) (r1 : List (S47)) (r2 : Int) (w : World) (hs0 : Kd.V k47 47 w w.heap.size (fun k_ => P0_ k_) (.slice A0 l0.length c0) l0) (h : jalousieref08_Invert.f k l0 = some (r1, r2)) :
  Calls Try.prog 66 #[.slice A0 l0.length c0] w fun e w' => ∃ v0_ : Value, e = .returned (.tuple #[v0_, .int .i64 r2]) ∧ Kd.N k47 47 w' w.heap.size (fun k_ => (P0_ k_ ∨ w.heap.size ≤ k_)) v0_ r1 ∧ Below w.heap.size w w' := by
 have hu47 := Try.underlying47
 have HO0 := Aside0.mk (show Kd.V k47 47 w w.heap.size (fun k_ => (P0_ k_ ∨ w.heap.size ≤ k_)) (.slice A0 l0.length c0) l0 from Kd.V_mono hs0 (fun k_ hk => .inl hk))
 have HB := Aside0.mk (Below.refl w.heap.size w)
 have H : (jalousieref08_Invert.l0 k l0 (([] : List (S47))) 0) = some (r1, r2) := h
 clear h
 obtain ⟨y796, hy796⟩ : ∃ y_ : List (S47), y_ = (([] : List (S47))) := ⟨_, rfl⟩
 replace H : (jalousieref08_Invert.l0 k l0 y796 0) = some (r1, r2) := by first | (rw [hy796]; with_reducible exact H) | (have H2_ := (Option.bind_some _ _).symm.trans H; rw [hy796]; with_reducible exact H2_) | (have H2_ := (Option.bind_some _ _).symm.trans H; with_reducible exact H2_) | with_reducible exact H | (rw [hy796]; exact H) | exact H
 have Ny796 := Aside0.mk hy796
 clear hy796
 have H' := Aside0.mk H
 clear H
 go_enter Try.func66, Try.ntmps66
 go_wp2_with (first | ((with_reducible refine gate_dst (N := 7) rfl ?_); refine Kd.N_lit k47 _ 47 ?hg (N' := 7) ?hd (xs := ([] : List (S47))) (inner := []) (ok := (fun k_ => (P0_ k_ ∨ w.heap.size ≤ k_))) (okp := (fun k_ => (P0_ k_ ∨ w.heap.size ≤ k_))) ?hr ?hp (fun _ hk => hk) ((show ∀ k_, w.heap.size ≤ k_ → (fun k_ => (P0_ k_ ∨ w.heap.size ≤ k_)) k_ from fun k_ hk => (.inr (Nat.le_trans (below_size (by repeat (first | (with_reducible first | exact HB.out | apply below_alloc | apply pw_below_drewN | apply below_drew1) | exact HB.out))) hk))) _ (Nat.le_refl _)) (Below.refl _ _) (Nat.le_refl _) (by simp) ?_; (case hd => rfl); (case hg => rfl); (case hr => first | (go_simp; done) | (go_simp; rfl)); (case hp => exact (Reps.none _ _)); intro v797 w2 ho3 hb hg_ hnew_; clear hg_ hnew_; (first | rw [← Ny796.out] at ho3 | (simp only [Int.reduceToNat] at ho3; rw [← Ny796.out] at ho3)); have n0_ := Aside0.mk (Kd.V_elder' (by (with_reducible repeat (first | apply Kd.V_alloc | apply Kd.V_drewN | apply Kd.V_drew)); exact HO0.out) (by first | exact Kd.S_base ho3 | exact Kd.R_base ho3 | exact Kd.N_base ho3) hb); have n1_ := Aside0.mk (Kd.N_lower ho3 (below_size (by repeat (first | (with_reducible first | exact HB.out | apply below_alloc | apply pw_below_drewN | apply below_drew1) | exact HB.out)))); have n2_ := Aside0.mk (below_step (by repeat (first | (with_reducible first | exact HB.out | apply below_alloc | apply pw_below_drewN | apply below_drew1) | exact HB.out)) hb); clear HO0; clear HB; have HO0 := n0_; have HO798 := n1_; have HB := n2_; clear n0_ n1_ n2_; clear hb ho3))
 go_loopg [4, 5] k (fun kq v4 v5 w' => ∃ (x4_1 : List (S47)) (x5_1 : Int), v5 = .int .i64 x5_1 ∧ Aside0 (jalousieref08_Invert.l0 kq l0 x4_1 x5_1 = some (r1, r2)) ∧ Aside0 (kq ≤ k) ∧ Aside0 (Kd.V k47 47 w' w.heap.size (fun k_ => (P0_ k_ ∨ w.heap.size ≤ k_) ∧ some k_ ≠ (v4 : Value).ownBlock) (.slice A0 l0.length c0) l0) ∧ Aside0 (Kd.N k47 47 w' w.heap.size (fun k_ => (P0_ k_ ∨ w.heap.size ≤ k_)) v4 x4_1) ∧ Aside0 (Below w.heap.size w w'))
 case atStart => exact ⟨(y796), (0), (by first | rfl | (simp; done) | (simp [*]; done)), H', ⟨Nat.le_refl _⟩, ⟨by (with_reducible repeat (first | apply Kd.V_alloc | apply Kd.V_drewN | apply Kd.V_drew)); exact HO0.out⟩, ⟨by (with_reducible repeat (first | apply Kd.N_alloc | apply Kd.N_drewN | apply Kd.N_drew)); exact HO798.out⟩, ⟨by repeat (first | (with_reducible first | exact HB.out | apply below_alloc | apply pw_below_drewN | apply below_drew1) | exact HB.out)⟩⟩
 case round =>
  clear H'
  try clear p2
  obtain ⟨x4_1, x5_1, rfl, HA, HK1, HO_0, HO_4, HB⟩ := hrel
  cases gk with
  | zero => exact absurd HA.out (by simp [jalousieref08_Invert.l0])
  | succ k1 =>
   have H := HA.out
   clear HA
   simp only [jalousieref08_Invert.l0] at H
   by_cases c4 : x5_1 < (l0.length : Int)
   ·rw [if_pos c4] at H
    have c4b0 : decide (x5_1 < (l0.length : Int)) = true := decide_eq_true c4
    clear c4
    by_cases c5 : 0 ≤ x5_1
    ·rw [if_pos c5] at H
     have c5b0 : decide (0 ≤ x5_1) = true := decide_eq_true c5
     clear c5
     by_cases c6 : ((rd_T47 l0 x5_1).f0) = 2
     ·rw [if_pos c6] at H
      have c6b0 : (((rd_T47 l0 x5_1).f0) == 2) = true := beq_iff_eq.mpr c6
      have c6b1 : (((rd_T47 l0 x5_1).f0) != 2) = false := bne_eq_false_iff_eq.mpr c6
      clear c6
      by_cases c7 : ((rd_T47 l0 x5_1).f0) = 3
      ·rw [if_pos c7] at H
       have c7b0 : (((rd_T47 l0 x5_1).f0) == 3) = true := beq_iff_eq.mpr c7
       have c7b1 : (((rd_T47 l0 x5_1).f0) != 3) = false := bne_eq_false_iff_eq.mpr c7
       clear c7
       by_cases c8 : x4_1.length < 4398046511104
       ·rw [if_pos c8] at H
        have LMc8 := Aside0.mk c8
        clear c8
        obtain ⟨y807, hy807⟩ : ∃ y_ : List (S47), y_ = (x4_1 ++ [(⟨2, (rd_T47 l0 x5_1).f1⟩ : S47)]) := ⟨_, rfl⟩
        replace H : (jalousieref08_Invert.l0 k1 l0 y807 (wrap64 (x5_1 + 1))) = some (r1, r2) := by first | (rw [hy807]; with_reducible exact H) | (have H2_ := (Option.bind_some _ _).symm.trans H; rw [hy807]; with_reducible exact H2_) | (have H2_ := (Option.bind_some _ _).symm.trans H; with_reducible exact H2_) | with_reducible exact H | (rw [hy807]; exact H) | exact H
        have Ny807 := Aside0.mk hy807
        clear hy807
        have H' := Aside0.mk H
        clear H
        have p803 : 0 ≤ (x5_1 : Int) := of_decide_eq_true (by first | (with_reducible assumption) | assumption)
        have q803 : x5_1 < (l0.length : Int) := of_decide_eq_true (by first | (with_reducible assumption) | assumption)
        obtain ⟨ad803, A803_1, c803_1, e803, hx803_0, hx803_1, hl803_1, hi803_1⟩ := at_T47 (Kd.V_reads' HO_0.out).2.2 x5_1 p803 q803
        cases e803
        obtain ⟨ce803, hce803, hMe803, hcc803⟩ := Kd.V_get HO_0.out z47 x5_1 p803 (by first | exact q803 | exact of_decide_eq_true (by first | (with_reducible assumption) | assumption) | (have e_ := (Kd.V_reads' HO_0.out).1; omega))
        obtain ⟨ua803_1, uc803_1, rfl, ul803_1, ge803_1⟩ := k47_openF hMe803
        have hv803_1 := hcc803 1 _ rfl
        rw [add_field _ _ 1 (by omega)] at hv803_1
        replace hv803_1 := Option.some.inj (hv803_1.symm.trans hx803_1)
        injection hv803_1 with hva_ hvn_ hvc_
        rw [hva_] at ge803_1
        rw [hvc_] at ul803_1
        have HL803_1 := Aside0.mk (show Kd.V k66 66 _ w.heap.size _ _ ((rd_T47 l0 x5_1).f1) from Kd.V_mk ul803_1 ge803_1)
        clear hva_ hvn_ hvc_ ge803_1 ul803_1
        clear hcc803 hce803
        have HR803_1 := Aside0.mk hi803_1
        have HC803_1 := Aside0.mk hl803_1
        clear hi803_1 hl803_1
        replace p803 := eq_true p803
        replace q803 := eq_true q803
        go_wp2_with (first | ((with_reducible refine gate_dst (N := 6) rfl ?_); refine box_event ?hg (N := 6) ?hd (cs := #[.int .i64 0, .slice none 0 0]) (t := 47) ?hr ?_; (case hd => rfl); (case hg => rfl); (case hr => first | (go_simp; done) | (go_simp; rfl)); intro gb804 hg w9 hbox hb; have n0_ := Aside0.mk (Kd.V_below (Kd.V_elderB (by (with_reducible repeat (first | apply Kd.V_alloc | apply Kd.V_drewN | apply Kd.V_drew)); exact HO_0.out) gb804 (Nat.le_of_eq hg.symm)) hb); have n1_ := Aside0.mk (Kd.N_below (Kd.N_elderB (by (with_reducible repeat (first | apply Kd.N_alloc | apply Kd.N_drewN | apply Kd.N_drew)); exact HO_4.out) gb804 (Nat.le_of_eq hg.symm)) hb); have n2_ := Aside0.mk (Kd.V_below (Kd.V_elderB (by (with_reducible repeat (first | apply Kd.V_alloc | apply Kd.V_drewN | apply Kd.V_drew)); exact HL803_1.out) gb804 (Nat.le_of_eq hg.symm)) hb); have n3_ := Aside0.mk (Kd.C_below (by repeat (first | (with_reducible exact HR803_1.out) | (with_reducible refine Kd.C_alloc ?_ _) | (with_reducible refine Kd.C_drewN ?_ _) | (with_reducible refine Kd.C_drew ?_) | exact HR803_1.out)) hb); have n4_ := Aside0.mk (below_step (by repeat (first | (with_reducible first | exact HB.out | apply below_alloc | apply pw_below_drewN | apply below_drew1) | exact HB.out)) hb); have n5_ := Aside0.mk (hbox); have n6_ := Aside0.mk ((by rw [hg]; exact (below_size (by repeat (first | (with_reducible first | exact HB.out | apply below_alloc | apply pw_below_drewN | apply below_drew1) | exact HB.out))) : w.heap.size ≤ gb804)); have n7_ := Aside0.mk ((by rw [hg]; exact (below_size (by repeat (first | (with_reducible first | exact HB.out | apply below_alloc | apply pw_below_drewN | apply below_drew1) | exact HB.out))) : w.heap.size ≤ gb804)); clear HO_0; clear HO_4; clear HL803_1; clear HR803_1; clear HB; have HO_0 := n0_; have HO_4 := n1_; have HL803_1 := n2_; have HR803_1 := n3_; have HB := n4_; have BK804 := n5_; have GW804 := n6_; have GE804 := n7_; clear n0_ n1_ n2_ n3_ n4_ n5_ n6_ n7_; clear hb hbox hg; have hcz10_0 : w9.cell? ⟨gb804, 0, none⟩ = some (.int .i64 0) := (blk_cell BK804.out 0).trans rfl; have hcz10_1 : w9.cell? ⟨gb804, 1, none⟩ = some (.slice none 0 0) := (blk_cell BK804.out 1).trans rfl; have hfz10_0 := blk_frozen BK804.out 0; have hfz10_1 := blk_frozen BK804.out 1) | ((with_reducible refine gate_store (t := 47) (p := 6) rfl ?_); refine store_event (t := 47) (p := 6) (v := ?vo_w11) (w1 := ((w9.setCell ⟨gb804, 0, none⟩ (.int .i64 ((rd_T47 l0 x5_1).f0))).setCell ⟨gb804, 1, none⟩ (.slice A803_1 ((rd_T47 l0 x5_1).f1).length c803_1))) ?hg ?ho ?hn ?hr ?_; (case ho => rfl); (case hg => rfl); (case hn => rfl); (case hr => first | (go_simp; done) | (go_simp; rfl)); intro w11 hw; have n0_ : Aside0 (Kd.V k47 47 w11 w.heap.size (fun k_ => (P0_ k_ ∨ w.heap.size ≤ k_) ∧ some k_ ≠ (u4 : Value).ownBlock ∧ k_ ≠ gb804) (.slice (some ad803) l0.length c0) l0) := ⟨(by rw [hw]; exact (by (with_reducible repeat (first | apply Kd.V_alloc | apply Kd.V_drewN | apply Kd.V_drew)); exact Kd.V_mono (Kd.V_far (p := ⟨gb804, 1, none⟩) (Kd.V_far (p := ⟨gb804, 0, none⟩) (Kd.V_mono HO_0.out (fun k_ hk => (⟨hk, hk.2⟩ : _ ∧ k_ ≠ gb804))) (fun _ hk => hk.2) (.int .i64 ((rd_T47 l0 x5_1).f0))) (fun _ hk => hk.2) (.slice A803_1 ((rd_T47 l0 x5_1).f1).length c803_1)) (fun _ hk => ⟨hk.1.1.1, ⟨hk.1.1.2, hk.1.2⟩⟩)))⟩; have n1_ : Aside0 (Kd.N k47 47 w11 w.heap.size (fun k_ => (P0_ k_ ∨ w.heap.size ≤ k_) ∧ k_ ≠ gb804) u4 x4_1) := ⟨(by rw [hw]; exact (by (with_reducible repeat (first | apply Kd.N_alloc | apply Kd.N_drewN | apply Kd.N_drew)); exact Kd.N_mono (Kd.N_far (p := ⟨gb804, 1, none⟩) (Kd.N_far (p := ⟨gb804, 0, none⟩) (Kd.N_mono HO_4.out (fun k_ hk => (⟨hk, hk.2⟩ : _ ∧ k_ ≠ gb804))) (fun _ hk => hk.2) (.int .i64 ((rd_T47 l0 x5_1).f0))) (fun _ hk => hk.2) (.slice A803_1 ((rd_T47 l0 x5_1).f1).length c803_1)) (fun _ hk => ⟨hk.1.1, hk.1.2⟩)))⟩; have n2_ : Aside0 (Kd.V k66 66 w11 w.heap.size (fun k_ => (P0_ k_ ∨ w.heap.size ≤ k_) ∧ some k_ ≠ (u4 : Value).ownBlock ∧ k_ ≠ gb804) (.slice A803_1 ((rd_T47 l0 x5_1).f1).length c803_1) ((rd_T47 l0 x5_1).f1)) := ⟨(by rw [hw]; exact (by (with_reducible repeat (first | apply Kd.V_alloc | apply Kd.V_drewN | apply Kd.V_drew)); exact Kd.V_mono (Kd.V_far (p := ⟨gb804, 1, none⟩) (Kd.V_far (p := ⟨gb804, 0, none⟩) (Kd.V_mono HL803_1.out (fun k_ hk => (⟨hk, hk.2⟩ : _ ∧ k_ ≠ gb804))) (fun _ hk => hk.2) (.int .i64 ((rd_T47 l0 x5_1).f0))) (fun _ hk => hk.2) (.slice A803_1 ((rd_T47 l0 x5_1).f1).length c803_1)) (fun _ hk => ⟨hk.1.1.1, ⟨hk.1.1.2, hk.1.2⟩⟩)))⟩; have n3_ : Aside0 (w11.heap[gb804]? = some (.cells #[.int .i64 ((rd_T47 l0 x5_1).f0), .slice A803_1 ((rd_T47 l0 x5_1).f1).length c803_1] 47 (0, 0))) := ⟨(by rw [hw]; exact (by (with_reducible repeat first|refine zb1 ?_ _|refine zb2 ?_|refine zb3 ?_ _); refine blk_put (cs := #[.int .i64 ((rd_T47 l0 x5_1).f0), .slice none 0 0]) ?_ 1 _ rfl; (with_reducible repeat first|refine zb1 ?_ _|refine zb2 ?_|refine zb3 ?_ _); refine blk_put (cs := #[.int .i64 0, .slice none 0 0]) ?_ 0 _ rfl; (with_reducible repeat first|refine zb1 ?_ _|refine zb2 ?_|refine zb3 ?_ _); exact BK804.out))⟩; have n4_ : Aside0 (Below w.heap.size w w11) := ⟨(by rw [hw]; exact (by repeat (first | (with_reducible first | exact HB.out | apply below_alloc | apply pw_below_drewN | apply below_drew1 | refine below_set ?_ GE804.out) | exact HB.out)))⟩; clear hw; clear HO_0; clear HO_4; clear HL803_1; clear BK804; clear HB; have HO_0 := n0_; have HO_4 := n1_; have HL803_1 := n2_; have BK804 := n3_; have HB := n4_; clear n0_ n1_ n2_ n3_ n4_; have p805 : 0 ≤ (x5_1 : Int) := of_decide_eq_true (by first | (with_reducible assumption) | assumption); have q805 : x5_1 < (l0.length : Int) := of_decide_eq_true (by first | (with_reducible assumption) | assumption); obtain ⟨ad805, A805_1, c805_1, e805, hx805_0, hx805_1, hl805_1, hi805_1⟩ := at_T47 (Kd.V_reads' HO_0.out).2.2 x5_1 p805 q805; obtain rfl : ad803 = ad805 := (by injection e805); obtain ⟨ce805, hce805, hMe805, hcc805⟩ := Kd.V_get HO_0.out z47 x5_1 p805 (by first | exact q805 | exact of_decide_eq_true (by first | (with_reducible assumption) | assumption) | (have e_ := (Kd.V_reads' HO_0.out).1; omega)); obtain ⟨ua805_1, uc805_1, rfl, ul805_1, ge805_1⟩ := k47_openF hMe805; have hv805_1 := hcc805 1 _ rfl; rw [add_field _ _ 1 (by omega)] at hv805_1; replace hv805_1 := Option.some.inj (hv805_1.symm.trans hx805_1); injection hv805_1 with hva_ hvn_ hvc_; rw [hva_] at ge805_1; rw [hvc_] at ul805_1; have HL805_1 := Aside0.mk (show Kd.V k66 66 _ w.heap.size _ _ ((rd_T47 l0 x5_1).f1) from Kd.V_mk ul805_1 ge805_1); clear hva_ hvn_ hvc_ ge805_1 ul805_1; clear hcc805 hce805; have HR805_1 := Aside0.mk hi805_1; have HC805_1 := Aside0.mk hl805_1; clear hi805_1 hl805_1; replace p805 := eq_true p805; replace q805 := eq_true q805; have hcz12_0 : w11.cell? ⟨gb804, 0, none⟩ = some (.int .i64 ((rd_T47 l0 x5_1).f0)) := (blk_cell BK804.out 0).trans rfl; have hcz12_1 : w11.cell? ⟨gb804, 1, none⟩ = some (.slice A803_1 ((rd_T47 l0 x5_1).f1).length c803_1) := (blk_cell BK804.out 1).trans rfl; have hfz12_0 := blk_frozen BK804.out 0; have hfz12_1 := blk_frozen BK804.out 1) | ((with_reducible refine gate_store (t := 45) (p := 24) rfl ?_); refine store_event (t := 45) (p := 24) (v := ?vo_w13) (w1 := (w11.setCell ⟨gb804, 0, none⟩ (.int .i64 3))) ?hg ?ho ?hn ?hr ?_; (case ho => rfl); (case hg => rfl); (case hn => rfl); (case hr => first | (go_simp; done) | (go_simp; rfl)); intro w13 hw; have n0_ : Aside0 (Kd.V k47 47 w13 w.heap.size (fun k_ => (P0_ k_ ∨ w.heap.size ≤ k_) ∧ some k_ ≠ (u4 : Value).ownBlock ∧ k_ ≠ gb804) (.slice (some ad803) l0.length c0) l0) := ⟨(by rw [hw]; exact (by (with_reducible repeat (first | apply Kd.V_alloc | apply Kd.V_drewN | apply Kd.V_drew)); exact Kd.V_mono (Kd.V_far (p := ⟨gb804, 0, none⟩) (Kd.V_mono HO_0.out (fun k_ hk => (⟨hk, hk.2.2⟩ : _ ∧ k_ ≠ gb804))) (fun _ hk => hk.2) (.int .i64 3)) (fun _ hk => ⟨hk.1.1, ⟨hk.1.2.1, hk.1.2.2⟩⟩)))⟩; have n1_ : Aside0 (Kd.N k47 47 w13 w.heap.size (fun k_ => (P0_ k_ ∨ w.heap.size ≤ k_) ∧ k_ ≠ gb804) u4 x4_1) := ⟨(by rw [hw]; exact (by (with_reducible repeat (first | apply Kd.N_alloc | apply Kd.N_drewN | apply Kd.N_drew)); exact Kd.N_mono (Kd.N_far (p := ⟨gb804, 0, none⟩) (Kd.N_mono HO_4.out (fun k_ hk => (⟨hk, hk.2⟩ : _ ∧ k_ ≠ gb804))) (fun _ hk => hk.2) (.int .i64 3)) (fun _ hk => ⟨hk.1.1, hk.1.2⟩)))⟩; have n2_ : Aside0 (Kd.V k66 66 w13 w.heap.size (fun k_ => (P0_ k_ ∨ w.heap.size ≤ k_) ∧ some k_ ≠ (u4 : Value).ownBlock ∧ k_ ≠ gb804) (.slice A803_1 ((rd_T47 l0 x5_1).f1).length c803_1) ((rd_T47 l0 x5_1).f1)) := ⟨(by rw [hw]; exact (by (with_reducible repeat (first | apply Kd.V_alloc | apply Kd.V_drewN | apply Kd.V_drew)); exact Kd.V_mono (Kd.V_far (p := ⟨gb804, 0, none⟩) (Kd.V_mono HL803_1.out (fun k_ hk => (⟨hk, hk.2.2⟩ : _ ∧ k_ ≠ gb804))) (fun _ hk => hk.2) (.int .i64 3)) (fun _ hk => ⟨hk.1.1, ⟨hk.1.2.1, hk.1.2.2⟩⟩)))⟩; have n3_ : Aside0 (Kd.V k66 66 w13 w.heap.size (fun k_ => (P0_ k_ ∨ w.heap.size ≤ k_) ∧ some k_ ≠ (u4 : Value).ownBlock ∧ k_ ≠ gb804) (.slice A805_1 ((rd_T47 l0 x5_1).f1).length c805_1) ((rd_T47 l0 x5_1).f1)) := ⟨(by rw [hw]; exact (by (with_reducible repeat (first | apply Kd.V_alloc | apply Kd.V_drewN | apply Kd.V_drew)); exact Kd.V_mono (Kd.V_far (p := ⟨gb804, 0, none⟩) (Kd.V_mono HL805_1.out (fun k_ hk => (⟨hk, hk.2.2⟩ : _ ∧ k_ ≠ gb804))) (fun _ hk => hk.2) (.int .i64 3)) (fun _ hk => ⟨hk.1.1, ⟨hk.1.2.1, hk.1.2.2⟩⟩)))⟩; have n4_ : Aside0 (w13.heap[gb804]? = some (.cells #[.int .i64 3, .slice A803_1 ((rd_T47 l0 x5_1).f1).length c803_1] 47 (0, 0))) := ⟨(by rw [hw]; exact (by (with_reducible repeat first|refine zb1 ?_ _|refine zb2 ?_|refine zb3 ?_ _); refine blk_put (cs := #[.int .i64 ((rd_T47 l0 x5_1).f0), .slice A803_1 ((rd_T47 l0 x5_1).f1).length c803_1]) ?_ 0 _ rfl; (with_reducible repeat first|refine zb1 ?_ _|refine zb2 ?_|refine zb3 ?_ _); exact BK804.out))⟩; have n5_ : Aside0 (Below w.heap.size w w13) := ⟨(by rw [hw]; exact (by repeat (first | (with_reducible first | exact HB.out | apply below_alloc | apply pw_below_drewN | apply below_drew1 | refine below_set ?_ GE804.out) | exact HB.out)))⟩; clear hw; clear HO_0; clear HO_4; clear HL803_1; clear HL805_1; clear BK804; clear HB; have HO_0 := n0_; have HO_4 := n1_; have HL803_1 := n2_; have HL805_1 := n3_; have BK804 := n4_; have HB := n5_; clear n0_ n1_ n2_ n3_ n4_ n5_; have p806 : 0 ≤ (x5_1 : Int) := of_decide_eq_true (by first | (with_reducible assumption) | assumption); have q806 : x5_1 < (l0.length : Int) := of_decide_eq_true (by first | (with_reducible assumption) | assumption); obtain ⟨ad806, A806_1, c806_1, e806, hx806_0, hx806_1, hl806_1, hi806_1⟩ := at_T47 (Kd.V_reads' HO_0.out).2.2 x5_1 p806 q806; obtain rfl : ad803 = ad806 := (by injection e806); obtain ⟨ce806, hce806, hMe806, hcc806⟩ := Kd.V_get HO_0.out z47 x5_1 p806 (by first | exact q806 | exact of_decide_eq_true (by first | (with_reducible assumption) | assumption) | (have e_ := (Kd.V_reads' HO_0.out).1; omega)); obtain ⟨ua806_1, uc806_1, rfl, ul806_1, ge806_1⟩ := k47_openF hMe806; have hv806_1 := hcc806 1 _ rfl; rw [add_field _ _ 1 (by omega)] at hv806_1; replace hv806_1 := Option.some.inj (hv806_1.symm.trans hx806_1); injection hv806_1 with hva_ hvn_ hvc_; rw [hva_] at ge806_1; rw [hvc_] at ul806_1; have HL806_1 := Aside0.mk (show Kd.V k66 66 _ w.heap.size _ _ ((rd_T47 l0 x5_1).f1) from Kd.V_mk ul806_1 ge806_1); clear hva_ hvn_ hvc_ ge806_1 ul806_1; clear hcc806 hce806; have HR806_1 := Aside0.mk hi806_1; have HC806_1 := Aside0.mk hl806_1; clear hi806_1 hl806_1; replace p806 := eq_true p806; replace q806 := eq_true q806; have hcz14_0 : w13.cell? ⟨gb804, 0, none⟩ = some (.int .i64 3) := (blk_cell BK804.out 0).trans rfl; have hcz14_1 : w13.cell? ⟨gb804, 1, none⟩ = some (.slice A803_1 ((rd_T47 l0 x5_1).f1).length c803_1) := (blk_cell BK804.out 1).trans rfl; have hfz14_0 := blk_frozen BK804.out 0; have hfz14_1 := blk_frozen BK804.out 1) | ((with_reducible refine gate_store (t := 45) (p := 31) rfl ?_); refine store_event (t := 45) (p := 31) (v := ?vo_w15) (w1 := (w13.setCell ⟨gb804, 0, none⟩ (.int .i64 2))) ?hg ?ho ?hn ?hr ?_; (case ho => rfl); (case hg => rfl); (case hn => rfl); (case hr => first | (go_simp; done) | (go_simp; rfl)); intro w15 hw; have n0_ : Aside0 (Kd.V k47 47 w15 w.heap.size (fun k_ => (P0_ k_ ∨ w.heap.size ≤ k_) ∧ some k_ ≠ (u4 : Value).ownBlock ∧ k_ ≠ gb804) (.slice (some ad803) l0.length c0) l0) := ⟨(by rw [hw]; exact (by (with_reducible repeat (first | apply Kd.V_alloc | apply Kd.V_drewN | apply Kd.V_drew)); exact Kd.V_mono (Kd.V_far (p := ⟨gb804, 0, none⟩) (Kd.V_mono HO_0.out (fun k_ hk => (⟨hk, hk.2.2⟩ : _ ∧ k_ ≠ gb804))) (fun _ hk => hk.2) (.int .i64 2)) (fun _ hk => ⟨hk.1.1, ⟨hk.1.2.1, hk.1.2.2⟩⟩)))⟩; have n1_ : Aside0 (Kd.N k47 47 w15 w.heap.size (fun k_ => (P0_ k_ ∨ w.heap.size ≤ k_) ∧ k_ ≠ gb804) u4 x4_1) := ⟨(by rw [hw]; exact (by (with_reducible repeat (first | apply Kd.N_alloc | apply Kd.N_drewN | apply Kd.N_drew)); exact Kd.N_mono (Kd.N_far (p := ⟨gb804, 0, none⟩) (Kd.N_mono HO_4.out (fun k_ hk => (⟨hk, hk.2⟩ : _ ∧ k_ ≠ gb804))) (fun _ hk => hk.2) (.int .i64 2)) (fun _ hk => ⟨hk.1.1, hk.1.2⟩)))⟩; have n2_ : Aside0 (Kd.V k66 66 w15 w.heap.size (fun k_ => (P0_ k_ ∨ w.heap.size ≤ k_) ∧ some k_ ≠ (u4 : Value).ownBlock ∧ k_ ≠ gb804) (.slice A803_1 ((rd_T47 l0 x5_1).f1).length c803_1) ((rd_T47 l0 x5_1).f1)) := ⟨(by rw [hw]; exact (by (with_reducible repeat (first | apply Kd.V_alloc | apply Kd.V_drewN | apply Kd.V_drew)); exact Kd.V_mono (Kd.V_far (p := ⟨gb804, 0, none⟩) (Kd.V_mono HL803_1.out (fun k_ hk => (⟨hk, hk.2.2⟩ : _ ∧ k_ ≠ gb804))) (fun _ hk => hk.2) (.int .i64 2)) (fun _ hk => ⟨hk.1.1, ⟨hk.1.2.1, hk.1.2.2⟩⟩)))⟩; have n3_ : Aside0 (Kd.V k66 66 w15 w.heap.size (fun k_ => (P0_ k_ ∨ w.heap.size ≤ k_) ∧ some k_ ≠ (u4 : Value).ownBlock ∧ k_ ≠ gb804) (.slice A805_1 ((rd_T47 l0 x5_1).f1).length c805_1) ((rd_T47 l0 x5_1).f1)) := ⟨(by rw [hw]; exact (by (with_reducible repeat (first | apply Kd.V_alloc | apply Kd.V_drewN | apply Kd.V_drew)); exact Kd.V_mono (Kd.V_far (p := ⟨gb804, 0, none⟩) (Kd.V_mono HL805_1.out (fun k_ hk => (⟨hk, hk.2.2⟩ : _ ∧ k_ ≠ gb804))) (fun _ hk => hk.2) (.int .i64 2)) (fun _ hk => ⟨hk.1.1, ⟨hk.1.2.1, hk.1.2.2⟩⟩)))⟩; have n4_ : Aside0 (Kd.V k66 66 w15 w.heap.size (fun k_ => (P0_ k_ ∨ w.heap.size ≤ k_) ∧ some k_ ≠ (u4 : Value).ownBlock ∧ k_ ≠ gb804) (.slice A806_1 ((rd_T47 l0 x5_1).f1).length c806_1) ((rd_T47 l0 x5_1).f1)) := ⟨(by rw [hw]; exact (by (with_reducible repeat (first | apply Kd.V_alloc | apply Kd.V_drewN | apply Kd.V_drew)); exact Kd.V_mono (Kd.V_far (p := ⟨gb804, 0, none⟩) (Kd.V_mono HL806_1.out (fun k_ hk => (⟨hk, hk.2.2⟩ : _ ∧ k_ ≠ gb804))) (fun _ hk => hk.2) (.int .i64 2)) (fun _ hk => ⟨hk.1.1, ⟨hk.1.2.1, hk.1.2.2⟩⟩)))⟩; have n5_ : Aside0 (w15.heap[gb804]? = some (.cells #[.int .i64 2, .slice A803_1 ((rd_T47 l0 x5_1).f1).length c803_1] 47 (0, 0))) := ⟨(by rw [hw]; exact (by (with_reducible repeat first|refine zb1 ?_ _|refine zb2 ?_|refine zb3 ?_ _); refine blk_put (cs := #[.int .i64 3, .slice A803_1 ((rd_T47 l0 x5_1).f1).length c803_1]) ?_ 0 _ rfl; (with_reducible repeat first|refine zb1 ?_ _|refine zb2 ?_|refine zb3 ?_ _); exact BK804.out))⟩; have n6_ : Aside0 (Below w.heap.size w w15) := ⟨(by rw [hw]; exact (by repeat (first | (with_reducible first | exact HB.out | apply below_alloc | apply pw_below_drewN | apply below_drew1 | refine below_set ?_ GE804.out) | exact HB.out)))⟩; clear hw; clear HO_0; clear HO_4; clear HL803_1; clear HL805_1; clear HL806_1; clear BK804; clear HB; have HO_0 := n0_; have HO_4 := n1_; have HL803_1 := n2_; have HL805_1 := n3_; have HL806_1 := n4_; have BK804 := n5_; have HB := n6_; clear n0_ n1_ n2_ n3_ n4_ n5_ n6_; have hcz16_0 : w15.cell? ⟨gb804, 0, none⟩ = some (.int .i64 2) := (blk_cell BK804.out 0).trans rfl; have hcz16_1 : w15.cell? ⟨gb804, 1, none⟩ = some (.slice A803_1 ((rd_T47 l0 x5_1).f1).length c803_1) := (blk_cell BK804.out 1).trans rfl; have hfz16_0 := blk_frozen BK804.out 0; have hfz16_1 := blk_frozen BK804.out 1) | ((with_reducible refine gate_builtin (b := .append) (xs := #[.tmp 32, .tmp 34]) rfl ?_); at_builtin; refine Kd.N_append k47 (w0 := w) w.heap.size rfl (.tmp 32) (.tmp 34) 22 47 (.agg #[(.int .i64 0), (.slice none 0 0)]) 32 rfl Try.underlying22 info47 rfl (by decide) (by omega) u4 x4_1 (⟨2, (rd_T47 l0 x5_1).f1⟩ : S47) [.int .i64 2, .slice A803_1 ((rd_T47 l0 x5_1).f1).length c803_1] (fun k_ => (P0_ k_ ∨ w.heap.size ≤ k_) ∧ k_ ≠ gb804) (fun k_ => ((fun k_ => (P0_ k_ ∨ w.heap.size ≤ k_) ∧ k_ ≠ gb804)) k_ ∧ some k_ ≠ (u4 : Value).ownBlock) rfl rfl ?aP (fun _ hk => hk) ?aF ?aO ?aB ?aS ?aL ?_; (case aP => exact (k47_mkF _ _ (⟨2, (rd_T47 l0 x5_1).f1⟩ : S47) (Kd.V_reads' (Kd.V_mono (ok' := (fun k_ => ((fun k_ => (P0_ k_ ∨ w.heap.size ≤ k_) ∧ k_ ≠ gb804)) k_ ∧ some k_ ≠ (u4 : Value).ownBlock)) (HL803_1.out) (fun k_ hk => ⟨⟨hk.1, hk.2.2⟩, hk.2.1⟩))).2.1 (Kd.V_F (Kd.V_mono (ok' := (fun k_ => ((fun k_ => (P0_ k_ ∨ w.heap.size ≤ k_) ∧ k_ ≠ gb804)) k_ ∧ some k_ ≠ (u4 : Value).ownBlock)) (HL803_1.out) (fun k_ hk => ⟨⟨hk.1, hk.2.2⟩, hk.2.1⟩))))); (case aB => exact (by repeat (first | (with_reducible first | exact HB.out | apply below_alloc | apply pw_below_drewN | apply below_drew1 | refine below_set ?_ GE804.out) | exact HB.out))); (case aF => exact (fun k_ hk => ⟨(.inr (Nat.le_trans (below_size (by repeat (first | (with_reducible first | exact HB.out | apply below_alloc | apply pw_below_drewN | apply below_drew1 | refine below_set ?_ GE804.out) | exact HB.out))) hk)), Kd.freshB (g := gb804) (o := .cells #[.int .i64 2, .slice A803_1 ((rd_T47 l0 x5_1).f1).length c803_1] 47 (0, 0)) (by (with_reducible repeat first|refine zb1 ?_ _|refine zb2 ?_|refine zb3 ?_ _); exact BK804.out) k_ hk⟩)); (case aO => exact (by (with_reducible repeat (first | apply Kd.N_alloc | apply Kd.N_drewN | apply Kd.N_drew)); exact HO_4.out)); (case aS => exact (below_size (by repeat (first | (with_reducible first | exact HB.out | apply below_alloc | apply pw_below_drewN | apply below_drew1 | refine below_set ?_ GE804.out) | exact HB.out)))); (case aL => have := LMc8.out; omega); intro v808 w17 ho hb hg hat; rw [← Ny807.out] at ho; have n0_ := Aside0.mk (Kd.V_afterv (ok := (fun k_ => (P0_ k_ ∨ w.heap.size ≤ k_) ∧ k_ ≠ gb804)) (by (with_reducible repeat (first | apply Kd.V_alloc | apply Kd.V_drewN | apply Kd.V_drew)); exact Kd.V_mono HO_0.out (fun _ hk => ⟨⟨hk.1, hk.2.2⟩, hk.2.1⟩)) hg hat); have n1_ := Aside0.mk (Kd.V_afterv (ok := (fun k_ => (P0_ k_ ∨ w.heap.size ≤ k_) ∧ k_ ≠ gb804)) (by (with_reducible repeat (first | apply Kd.V_alloc | apply Kd.V_drewN | apply Kd.V_drew)); exact Kd.V_mono HL803_1.out (fun _ hk => ⟨⟨hk.1, hk.2.2⟩, hk.2.1⟩)) hg hat); have n2_ := Aside0.mk (blk_grown (g := gb804) (o := .cells #[.int .i64 2, .slice A803_1 ((rd_T47 l0 x5_1).f1).length c803_1] 47 (0, 0)) (by (with_reducible repeat first|refine zb1 ?_ _|refine zb2 ?_|refine zb3 ?_ _); exact BK804.out) hg (Kd.N_away HO_4.out (fun _ hk => hk.2))); have n3_ := Aside0.mk (Kd.V_afterv (ok := (fun k_ => (P0_ k_ ∨ w.heap.size ≤ k_) ∧ k_ ≠ gb804)) (by (with_reducible repeat (first | apply Kd.V_alloc | apply Kd.V_drewN | apply Kd.V_drew)); exact Kd.V_mono HL805_1.out (fun _ hk => ⟨⟨hk.1, hk.2.2⟩, hk.2.1⟩)) hg hat); have n4_ := Aside0.mk (Kd.V_afterv (ok := (fun k_ => (P0_ k_ ∨ w.heap.size ≤ k_) ∧ k_ ≠ gb804)) (by (with_reducible repeat (first | apply Kd.V_alloc | apply Kd.V_drewN | apply Kd.V_drew)); exact Kd.V_mono HL806_1.out (fun _ hk => ⟨⟨hk.1, hk.2.2⟩, hk.2.1⟩)) hg hat); have n5_ := Aside0.mk (hb); have n6_ := Aside0.mk (ho); clear HO_0; clear HL803_1; clear BK804; clear HL805_1; clear HL806_1; clear HB; clear HO_4; have HO_0 := n0_; have HL803_1 := n1_; have BK804 := n2_; have HL805_1 := n3_; have HL806_1 := n4_; have HB := n5_; have HO809 := n6_; clear n0_ n1_ n2_ n3_ n4_ n5_ n6_; clear ho hb hg hat))
        go_roundg k1
        case measure => have := HK1.out; omega
        case rel => exact ⟨(y807), (wrap64 (x5_1 + 1)), (by first | rfl | (simp; done) | (simp [*]; done)), H', ⟨by have := HK1.out; omega⟩, ⟨by (with_reducible repeat (first | apply Kd.V_alloc | apply Kd.V_drewN | apply Kd.V_drew)); exact Kd.V_mono HO_0.out (fun _ hk => ⟨hk.1.1, hk.2⟩)⟩, ⟨by (with_reducible repeat (first | apply Kd.N_alloc | apply Kd.N_drewN | apply Kd.N_drew)); exact Kd.N_mono HO809.out (fun _ hk => hk.1)⟩, ⟨by repeat (first | (with_reducible first | exact HB.out | apply below_alloc | apply pw_below_drewN | apply below_drew1 | refine below_set ?_ GE804.out) | exact HB.out)⟩⟩
       ·rw [if_neg c8] at H
        exact absurd H (by simp)
      ·rw [if_neg c7] at H
       have c7b0 : (((rd_T47 l0 x5_1).f0) == 3) = false := beq_eq_false_iff_ne.mpr c7
       have c7b1 : (((rd_T47 l0 x5_1).f0) != 3) = true := bne_iff_ne.mpr c7
       by_cases c18 : x4_1.length < 4398046511104
       ·rw [if_pos c18] at H
        have LMc18 := Aside0.mk c18
        clear c18
        obtain ⟨y810, hy810⟩ : ∃ y_ : List (S47), y_ = (x4_1 ++ [(⟨3, (rd_T47 l0 x5_1).f1⟩ : S47)]) := ⟨_, rfl⟩
        replace H : (jalousieref08_Invert.l0 k1 l0 y810 (wrap64 (x5_1 + 1))) = some (r1, r2) := by first | (rw [hy810]; with_reducible exact H) | (have H2_ := (Option.bind_some _ _).symm.trans H; rw [hy810]; with_reducible exact H2_) | (have H2_ := (Option.bind_some _ _).symm.trans H; with_reducible exact H2_) | with_reducible exact H | (rw [hy810]; exact H) | exact H
        have Ny810 := Aside0.mk hy810
        clear hy810
        have H' := Aside0.mk H
        clear H
        have p803 : 0 ≤ (x5_1 : Int) := of_decide_eq_true (by first | (with_reducible assumption) | assumption)
        have q803 : x5_1 < (l0.length : Int) := of_decide_eq_true (by first | (with_reducible assumption) | assumption)
        obtain ⟨ad803, A803_1, c803_1, e803, hx803_0, hx803_1, hl803_1, hi803_1⟩ := at_T47 (Kd.V_reads' HO_0.out).2.2 x5_1 p803 q803
        cases e803
        obtain ⟨ce803, hce803, hMe803, hcc803⟩ := Kd.V_get HO_0.out z47 x5_1 p803 (by first | exact q803 | exact of_decide_eq_true (by first | (with_reducible assumption) | assumption) | (have e_ := (Kd.V_reads' HO_0.out).1; omega))
        obtain ⟨ua803_1, uc803_1, rfl, ul803_1, ge803_1⟩ := k47_openF hMe803
        have hv803_1 := hcc803 1 _ rfl
        rw [add_field _ _ 1 (by omega)] at hv803_1
        replace hv803_1 := Option.some.inj (hv803_1.symm.trans hx803_1)
        injection hv803_1 with hva_ hvn_ hvc_
        rw [hva_] at ge803_1
        rw [hvc_] at ul803_1
        have HL803_1 := Aside0.mk (show Kd.V k66 66 _ w.heap.size _ _ ((rd_T47 l0 x5_1).f1) from Kd.V_mk ul803_1 ge803_1)
        clear hva_ hvn_ hvc_ ge803_1 ul803_1
        clear hcc803 hce803
        have HR803_1 := Aside0.mk hi803_1
        have HC803_1 := Aside0.mk hl803_1
        clear hi803_1 hl803_1
        replace p803 := eq_true p803
        replace q803 := eq_true q803
        go_wp2_with (first | ((with_reducible refine gate_dst (N := 6) rfl ?_); refine box_event ?hg (N := 6) ?hd (cs := #[.int .i64 0, .slice none 0 0]) (t := 47) ?hr ?_; (case hd => rfl); (case hg => rfl); (case hr => first | (go_simp; done) | (go_simp; rfl)); intro gb804 hg w19 hbox hb; have n0_ := Aside0.mk (Kd.V_below (Kd.V_elderB (by (with_reducible repeat (first | apply Kd.V_alloc | apply Kd.V_drewN | apply Kd.V_drew)); exact HO_0.out) gb804 (Nat.le_of_eq hg.symm)) hb); have n1_ := Aside0.mk (Kd.N_below (Kd.N_elderB (by (with_reducible repeat (first | apply Kd.N_alloc | apply Kd.N_drewN | apply Kd.N_drew)); exact HO_4.out) gb804 (Nat.le_of_eq hg.symm)) hb); have n2_ := Aside0.mk (Kd.V_below (Kd.V_elderB (by (with_reducible repeat (first | apply Kd.V_alloc | apply Kd.V_drewN | apply Kd.V_drew)); exact HL803_1.out) gb804 (Nat.le_of_eq hg.symm)) hb); have n3_ := Aside0.mk (Kd.C_below (by repeat (first | (with_reducible exact HR803_1.out) | (with_reducible refine Kd.C_alloc ?_ _) | (with_reducible refine Kd.C_drewN ?_ _) | (with_reducible refine Kd.C_drew ?_) | exact HR803_1.out)) hb); have n4_ := Aside0.mk (below_step (by repeat (first | (with_reducible first | exact HB.out | apply below_alloc | apply pw_below_drewN | apply below_drew1) | exact HB.out)) hb); have n5_ := Aside0.mk (hbox); have n6_ := Aside0.mk ((by rw [hg]; exact (below_size (by repeat (first | (with_reducible first | exact HB.out | apply below_alloc | apply pw_below_drewN | apply below_drew1) | exact HB.out))) : w.heap.size ≤ gb804)); have n7_ := Aside0.mk ((by rw [hg]; exact (below_size (by repeat (first | (with_reducible first | exact HB.out | apply below_alloc | apply pw_below_drewN | apply below_drew1) | exact HB.out))) : w.heap.size ≤ gb804)); clear HO_0; clear HO_4; clear HL803_1; clear HR803_1; clear HB; have HO_0 := n0_; have HO_4 := n1_; have HL803_1 := n2_; have HR803_1 := n3_; have HB := n4_; have BK804 := n5_; have GW804 := n6_; have GE804 := n7_; clear n0_ n1_ n2_ n3_ n4_ n5_ n6_ n7_; clear hb hbox hg; have hcz20_0 : w19.cell? ⟨gb804, 0, none⟩ = some (.int .i64 0) := (blk_cell BK804.out 0).trans rfl; have hcz20_1 : w19.cell? ⟨gb804, 1, none⟩ = some (.slice none 0 0) := (blk_cell BK804.out 1).trans rfl; have hfz20_0 := blk_frozen BK804.out 0; have hfz20_1 := blk_frozen BK804.out 1) | ((with_reducible refine gate_store (t := 47) (p := 6) rfl ?_); refine store_event (t := 47) (p := 6) (v := ?vo_w21) (w1 := ((w19.setCell ⟨gb804, 0, none⟩ (.int .i64 ((rd_T47 l0 x5_1).f0))).setCell ⟨gb804, 1, none⟩ (.slice A803_1 ((rd_T47 l0 x5_1).f1).length c803_1))) ?hg ?ho ?hn ?hr ?_; (case ho => rfl); (case hg => rfl); (case hn => rfl); (case hr => first | (go_simp; done) | (go_simp; rfl)); intro w21 hw; have n0_ : Aside0 (Kd.V k47 47 w21 w.heap.size (fun k_ => (P0_ k_ ∨ w.heap.size ≤ k_) ∧ some k_ ≠ (u4 : Value).ownBlock ∧ k_ ≠ gb804) (.slice (some ad803) l0.length c0) l0) := ⟨(by rw [hw]; exact (by (with_reducible repeat (first | apply Kd.V_alloc | apply Kd.V_drewN | apply Kd.V_drew)); exact Kd.V_mono (Kd.V_far (p := ⟨gb804, 1, none⟩) (Kd.V_far (p := ⟨gb804, 0, none⟩) (Kd.V_mono HO_0.out (fun k_ hk => (⟨hk, hk.2⟩ : _ ∧ k_ ≠ gb804))) (fun _ hk => hk.2) (.int .i64 ((rd_T47 l0 x5_1).f0))) (fun _ hk => hk.2) (.slice A803_1 ((rd_T47 l0 x5_1).f1).length c803_1)) (fun _ hk => ⟨hk.1.1.1, ⟨hk.1.1.2, hk.1.2⟩⟩)))⟩; have n1_ : Aside0 (Kd.N k47 47 w21 w.heap.size (fun k_ => (P0_ k_ ∨ w.heap.size ≤ k_) ∧ k_ ≠ gb804) u4 x4_1) := ⟨(by rw [hw]; exact (by (with_reducible repeat (first | apply Kd.N_alloc | apply Kd.N_drewN | apply Kd.N_drew)); exact Kd.N_mono (Kd.N_far (p := ⟨gb804, 1, none⟩) (Kd.N_far (p := ⟨gb804, 0, none⟩) (Kd.N_mono HO_4.out (fun k_ hk => (⟨hk, hk.2⟩ : _ ∧ k_ ≠ gb804))) (fun _ hk => hk.2) (.int .i64 ((rd_T47 l0 x5_1).f0))) (fun _ hk => hk.2) (.slice A803_1 ((rd_T47 l0 x5_1).f1).length c803_1)) (fun _ hk => ⟨hk.1.1, hk.1.2⟩)))⟩; have n2_ : Aside0 (Kd.V k66 66 w21 w.heap.size (fun k_ => (P0_ k_ ∨ w.heap.size ≤ k_) ∧ some k_ ≠ (u4 : Value).ownBlock ∧ k_ ≠ gb804) (.slice A803_1 ((rd_T47 l0 x5_1).f1).length c803_1) ((rd_T47 l0 x5_1).f1)) := ⟨(by rw [hw]; exact (by (with_reducible repeat (first | apply Kd.V_alloc | apply Kd.V_drewN | apply Kd.V_drew)); exact Kd.V_mono (Kd.V_far (p := ⟨gb804, 1, none⟩) (Kd.V_far (p := ⟨gb804, 0, none⟩) (Kd.V_mono HL803_1.out (fun k_ hk => (⟨hk, hk.2⟩ : _ ∧ k_ ≠ gb804))) (fun _ hk => hk.2) (.int .i64 ((rd_T47 l0 x5_1).f0))) (fun _ hk => hk.2) (.slice A803_1 ((rd_T47 l0 x5_1).f1).length c803_1)) (fun _ hk => ⟨hk.1.1.1, ⟨hk.1.1.2, hk.1.2⟩⟩)))⟩; have n3_ : Aside0 (w21.heap[gb804]? = some (.cells #[.int .i64 ((rd_T47 l0 x5_1).f0), .slice A803_1 ((rd_T47 l0 x5_1).f1).length c803_1] 47 (0, 0))) := ⟨(by rw [hw]; exact (by (with_reducible repeat first|refine zb1 ?_ _|refine zb2 ?_|refine zb3 ?_ _); refine blk_put (cs := #[.int .i64 ((rd_T47 l0 x5_1).f0), .slice none 0 0]) ?_ 1 _ rfl; (with_reducible repeat first|refine zb1 ?_ _|refine zb2 ?_|refine zb3 ?_ _); refine blk_put (cs := #[.int .i64 0, .slice none 0 0]) ?_ 0 _ rfl; (with_reducible repeat first|refine zb1 ?_ _|refine zb2 ?_|refine zb3 ?_ _); exact BK804.out))⟩; have n4_ : Aside0 (Below w.heap.size w w21) := ⟨(by rw [hw]; exact (by repeat (first | (with_reducible first | exact HB.out | apply below_alloc | apply pw_below_drewN | apply below_drew1 | refine below_set ?_ GE804.out) | exact HB.out)))⟩; clear hw; clear HO_0; clear HO_4; clear HL803_1; clear BK804; clear HB; have HO_0 := n0_; have HO_4 := n1_; have HL803_1 := n2_; have BK804 := n3_; have HB := n4_; clear n0_ n1_ n2_ n3_ n4_; have p805 : 0 ≤ (x5_1 : Int) := of_decide_eq_true (by first | (with_reducible assumption) | assumption); have q805 : x5_1 < (l0.length : Int) := of_decide_eq_true (by first | (with_reducible assumption) | assumption); obtain ⟨ad805, A805_1, c805_1, e805, hx805_0, hx805_1, hl805_1, hi805_1⟩ := at_T47 (Kd.V_reads' HO_0.out).2.2 x5_1 p805 q805; obtain rfl : ad803 = ad805 := (by injection e805); obtain ⟨ce805, hce805, hMe805, hcc805⟩ := Kd.V_get HO_0.out z47 x5_1 p805 (by first | exact q805 | exact of_decide_eq_true (by first | (with_reducible assumption) | assumption) | (have e_ := (Kd.V_reads' HO_0.out).1; omega)); obtain ⟨ua805_1, uc805_1, rfl, ul805_1, ge805_1⟩ := k47_openF hMe805; have hv805_1 := hcc805 1 _ rfl; rw [add_field _ _ 1 (by omega)] at hv805_1; replace hv805_1 := Option.some.inj (hv805_1.symm.trans hx805_1); injection hv805_1 with hva_ hvn_ hvc_; rw [hva_] at ge805_1; rw [hvc_] at ul805_1; have HL805_1 := Aside0.mk (show Kd.V k66 66 _ w.heap.size _ _ ((rd_T47 l0 x5_1).f1) from Kd.V_mk ul805_1 ge805_1); clear hva_ hvn_ hvc_ ge805_1 ul805_1; clear hcc805 hce805; have HR805_1 := Aside0.mk hi805_1; have HC805_1 := Aside0.mk hl805_1; clear hi805_1 hl805_1; replace p805 := eq_true p805; replace q805 := eq_true q805; have hcz22_0 : w21.cell? ⟨gb804, 0, none⟩ = some (.int .i64 ((rd_T47 l0 x5_1).f0)) := (blk_cell BK804.out 0).trans rfl; have hcz22_1 : w21.cell? ⟨gb804, 1, none⟩ = some (.slice A803_1 ((rd_T47 l0 x5_1).f1).length c803_1) := (blk_cell BK804.out 1).trans rfl; have hfz22_0 := blk_frozen BK804.out 0; have hfz22_1 := blk_frozen BK804.out 1) | ((with_reducible refine gate_store (t := 45) (p := 24) rfl ?_); refine store_event (t := 45) (p := 24) (v := ?vo_w23) (w1 := (w21.setCell ⟨gb804, 0, none⟩ (.int .i64 3))) ?hg ?ho ?hn ?hr ?_; (case ho => rfl); (case hg => rfl); (case hn => rfl); (case hr => first | (go_simp; done) | (go_simp; rfl)); intro w23 hw; have n0_ : Aside0 (Kd.V k47 47 w23 w.heap.size (fun k_ => (P0_ k_ ∨ w.heap.size ≤ k_) ∧ some k_ ≠ (u4 : Value).ownBlock ∧ k_ ≠ gb804) (.slice (some ad803) l0.length c0) l0) := ⟨(by rw [hw]; exact (by (with_reducible repeat (first | apply Kd.V_alloc | apply Kd.V_drewN | apply Kd.V_drew)); exact Kd.V_mono (Kd.V_far (p := ⟨gb804, 0, none⟩) (Kd.V_mono HO_0.out (fun k_ hk => (⟨hk, hk.2.2⟩ : _ ∧ k_ ≠ gb804))) (fun _ hk => hk.2) (.int .i64 3)) (fun _ hk => ⟨hk.1.1, ⟨hk.1.2.1, hk.1.2.2⟩⟩)))⟩; have n1_ : Aside0 (Kd.N k47 47 w23 w.heap.size (fun k_ => (P0_ k_ ∨ w.heap.size ≤ k_) ∧ k_ ≠ gb804) u4 x4_1) := ⟨(by rw [hw]; exact (by (with_reducible repeat (first | apply Kd.N_alloc | apply Kd.N_drewN | apply Kd.N_drew)); exact Kd.N_mono (Kd.N_far (p := ⟨gb804, 0, none⟩) (Kd.N_mono HO_4.out (fun k_ hk => (⟨hk, hk.2⟩ : _ ∧ k_ ≠ gb804))) (fun _ hk => hk.2) (.int .i64 3)) (fun _ hk => ⟨hk.1.1, hk.1.2⟩)))⟩; have n2_ : Aside0 (Kd.V k66 66 w23 w.heap.size (fun k_ => (P0_ k_ ∨ w.heap.size ≤ k_) ∧ some k_ ≠ (u4 : Value).ownBlock ∧ k_ ≠ gb804) (.slice A803_1 ((rd_T47 l0 x5_1).f1).length c803_1) ((rd_T47 l0 x5_1).f1)) := ⟨(by rw [hw]; exact (by (with_reducible repeat (first | apply Kd.V_alloc | apply Kd.V_drewN | apply Kd.V_drew)); exact Kd.V_mono (Kd.V_far (p := ⟨gb804, 0, none⟩) (Kd.V_mono HL803_1.out (fun k_ hk => (⟨hk, hk.2.2⟩ : _ ∧ k_ ≠ gb804))) (fun _ hk => hk.2) (.int .i64 3)) (fun _ hk => ⟨hk.1.1, ⟨hk.1.2.1, hk.1.2.2⟩⟩)))⟩; have n3_ : Aside0 (Kd.V k66 66 w23 w.heap.size (fun k_ => (P0_ k_ ∨ w.heap.size ≤ k_) ∧ some k_ ≠ (u4 : Value).ownBlock ∧ k_ ≠ gb804) (.slice A805_1 ((rd_T47 l0 x5_1).f1).length c805_1) ((rd_T47 l0 x5_1).f1)) := ⟨(by rw [hw]; exact (by (with_reducible repeat (first | apply Kd.V_alloc | apply Kd.V_drewN | apply Kd.V_drew)); exact Kd.V_mono (Kd.V_far (p := ⟨gb804, 0, none⟩) (Kd.V_mono HL805_1.out (fun k_ hk => (⟨hk, hk.2.2⟩ : _ ∧ k_ ≠ gb804))) (fun _ hk => hk.2) (.int .i64 3)) (fun _ hk => ⟨hk.1.1, ⟨hk.1.2.1, hk.1.2.2⟩⟩)))⟩; have n4_ : Aside0 (w23.heap[gb804]? = some (.cells #[.int .i64 3, .slice A803_1 ((rd_T47 l0 x5_1).f1).length c803_1] 47 (0, 0))) := ⟨(by rw [hw]; exact (by (with_reducible repeat first|refine zb1 ?_ _|refine zb2 ?_|refine zb3 ?_ _); refine blk_put (cs := #[.int .i64 ((rd_T47 l0 x5_1).f0), .slice A803_1 ((rd_T47 l0 x5_1).f1).length c803_1]) ?_ 0 _ rfl; (with_reducible repeat first|refine zb1 ?_ _|refine zb2 ?_|refine zb3 ?_ _); exact BK804.out))⟩; have n5_ : Aside0 (Below w.heap.size w w23) := ⟨(by rw [hw]; exact (by repeat (first | (with_reducible first | exact HB.out | apply below_alloc | apply pw_below_drewN | apply below_drew1 | refine below_set ?_ GE804.out) | exact HB.out)))⟩; clear hw; clear HO_0; clear HO_4; clear HL803_1; clear HL805_1; clear BK804; clear HB; have HO_0 := n0_; have HO_4 := n1_; have HL803_1 := n2_; have HL805_1 := n3_; have BK804 := n4_; have HB := n5_; clear n0_ n1_ n2_ n3_ n4_ n5_; have p806 : 0 ≤ (x5_1 : Int) := of_decide_eq_true (by first | (with_reducible assumption) | assumption); have q806 : x5_1 < (l0.length : Int) := of_decide_eq_true (by first | (with_reducible assumption) | assumption); obtain ⟨ad806, A806_1, c806_1, e806, hx806_0, hx806_1, hl806_1, hi806_1⟩ := at_T47 (Kd.V_reads' HO_0.out).2.2 x5_1 p806 q806; obtain rfl : ad803 = ad806 := (by injection e806); obtain ⟨ce806, hce806, hMe806, hcc806⟩ := Kd.V_get HO_0.out z47 x5_1 p806 (by first | exact q806 | exact of_decide_eq_true (by first | (with_reducible assumption) | assumption) | (have e_ := (Kd.V_reads' HO_0.out).1; omega)); obtain ⟨ua806_1, uc806_1, rfl, ul806_1, ge806_1⟩ := k47_openF hMe806; have hv806_1 := hcc806 1 _ rfl; rw [add_field _ _ 1 (by omega)] at hv806_1; replace hv806_1 := Option.some.inj (hv806_1.symm.trans hx806_1); injection hv806_1 with hva_ hvn_ hvc_; rw [hva_] at ge806_1; rw [hvc_] at ul806_1; have HL806_1 := Aside0.mk (show Kd.V k66 66 _ w.heap.size _ _ ((rd_T47 l0 x5_1).f1) from Kd.V_mk ul806_1 ge806_1); clear hva_ hvn_ hvc_ ge806_1 ul806_1; clear hcc806 hce806; have HR806_1 := Aside0.mk hi806_1; have HC806_1 := Aside0.mk hl806_1; clear hi806_1 hl806_1; replace p806 := eq_true p806; replace q806 := eq_true q806; have hcz24_0 : w23.cell? ⟨gb804, 0, none⟩ = some (.int .i64 3) := (blk_cell BK804.out 0).trans rfl; have hcz24_1 : w23.cell? ⟨gb804, 1, none⟩ = some (.slice A803_1 ((rd_T47 l0 x5_1).f1).length c803_1) := (blk_cell BK804.out 1).trans rfl; have hfz24_0 := blk_frozen BK804.out 0; have hfz24_1 := blk_frozen BK804.out 1) | ((with_reducible refine gate_builtin (b := .append) (xs := #[.tmp 32, .tmp 34]) rfl ?_); at_builtin; refine Kd.N_append k47 (w0 := w) w.heap.size rfl (.tmp 32) (.tmp 34) 22 47 (.agg #[(.int .i64 0), (.slice none 0 0)]) 32 rfl Try.underlying22 info47 rfl (by decide) (by omega) u4 x4_1 (⟨3, (rd_T47 l0 x5_1).f1⟩ : S47) [.int .i64 3, .slice A803_1 ((rd_T47 l0 x5_1).f1).length c803_1] (fun k_ => (P0_ k_ ∨ w.heap.size ≤ k_) ∧ k_ ≠ gb804) (fun k_ => ((fun k_ => (P0_ k_ ∨ w.heap.size ≤ k_) ∧ k_ ≠ gb804)) k_ ∧ some k_ ≠ (u4 : Value).ownBlock) rfl rfl ?aP (fun _ hk => hk) ?aF ?aO ?aB ?aS ?aL ?_; (case aP => exact (k47_mkF _ _ (⟨3, (rd_T47 l0 x5_1).f1⟩ : S47) (Kd.V_reads' (Kd.V_mono (ok' := (fun k_ => ((fun k_ => (P0_ k_ ∨ w.heap.size ≤ k_) ∧ k_ ≠ gb804)) k_ ∧ some k_ ≠ (u4 : Value).ownBlock)) (HL803_1.out) (fun k_ hk => ⟨⟨hk.1, hk.2.2⟩, hk.2.1⟩))).2.1 (Kd.V_F (Kd.V_mono (ok' := (fun k_ => ((fun k_ => (P0_ k_ ∨ w.heap.size ≤ k_) ∧ k_ ≠ gb804)) k_ ∧ some k_ ≠ (u4 : Value).ownBlock)) (HL803_1.out) (fun k_ hk => ⟨⟨hk.1, hk.2.2⟩, hk.2.1⟩))))); (case aB => exact (by repeat (first | (with_reducible first | exact HB.out | apply below_alloc | apply pw_below_drewN | apply below_drew1 | refine below_set ?_ GE804.out) | exact HB.out))); (case aF => exact (fun k_ hk => ⟨(.inr (Nat.le_trans (below_size (by repeat (first | (with_reducible first | exact HB.out | apply below_alloc | apply pw_below_drewN | apply below_drew1 | refine below_set ?_ GE804.out) | exact HB.out))) hk)), Kd.freshB (g := gb804) (o := .cells #[.int .i64 3, .slice A803_1 ((rd_T47 l0 x5_1).f1).length c803_1] 47 (0, 0)) (by (with_reducible repeat first|refine zb1 ?_ _|refine zb2 ?_|refine zb3 ?_ _); exact BK804.out) k_ hk⟩)); (case aO => exact (by (with_reducible repeat (first | apply Kd.N_alloc | apply Kd.N_drewN | apply Kd.N_drew)); exact HO_4.out)); (case aS => exact (below_size (by repeat (first | (with_reducible first | exact HB.out | apply below_alloc | apply pw_below_drewN | apply below_drew1 | refine below_set ?_ GE804.out) | exact HB.out)))); (case aL => have := LMc18.out; omega); intro v811 w25 ho hb hg hat; rw [← Ny810.out] at ho; have n0_ := Aside0.mk (Kd.V_afterv (ok := (fun k_ => (P0_ k_ ∨ w.heap.size ≤ k_) ∧ k_ ≠ gb804)) (by (with_reducible repeat (first | apply Kd.V_alloc | apply Kd.V_drewN | apply Kd.V_drew)); exact Kd.V_mono HO_0.out (fun _ hk => ⟨⟨hk.1, hk.2.2⟩, hk.2.1⟩)) hg hat); have n1_ := Aside0.mk (Kd.V_afterv (ok := (fun k_ => (P0_ k_ ∨ w.heap.size ≤ k_) ∧ k_ ≠ gb804)) (by (with_reducible repeat (first | apply Kd.V_alloc | apply Kd.V_drewN | apply Kd.V_drew)); exact Kd.V_mono HL803_1.out (fun _ hk => ⟨⟨hk.1, hk.2.2⟩, hk.2.1⟩)) hg hat); have n2_ := Aside0.mk (blk_grown (g := gb804) (o := .cells #[.int .i64 3, .slice A803_1 ((rd_T47 l0 x5_1).f1).length c803_1] 47 (0, 0)) (by (with_reducible repeat first|refine zb1 ?_ _|refine zb2 ?_|refine zb3 ?_ _); exact BK804.out) hg (Kd.N_away HO_4.out (fun _ hk => hk.2))); have n3_ := Aside0.mk (Kd.V_afterv (ok := (fun k_ => (P0_ k_ ∨ w.heap.size ≤ k_) ∧ k_ ≠ gb804)) (by (with_reducible repeat (first | apply Kd.V_alloc | apply Kd.V_drewN | apply Kd.V_drew)); exact Kd.V_mono HL805_1.out (fun _ hk => ⟨⟨hk.1, hk.2.2⟩, hk.2.1⟩)) hg hat); have n4_ := Aside0.mk (Kd.V_afterv (ok := (fun k_ => (P0_ k_ ∨ w.heap.size ≤ k_) ∧ k_ ≠ gb804)) (by (with_reducible repeat (first | apply Kd.V_alloc | apply Kd.V_drewN | apply Kd.V_drew)); exact Kd.V_mono HL806_1.out (fun _ hk => ⟨⟨hk.1, hk.2.2⟩, hk.2.1⟩)) hg hat); have n5_ := Aside0.mk (hb); have n6_ := Aside0.mk (ho); clear HO_0; clear HL803_1; clear BK804; clear HL805_1; clear HL806_1; clear HB; clear HO_4; have HO_0 := n0_; have HL803_1 := n1_; have BK804 := n2_; have HL805_1 := n3_; have HL806_1 := n4_; have HB := n5_; have HO812 := n6_; clear n0_ n1_ n2_ n3_ n4_ n5_ n6_; clear ho hb hg hat))
        go_roundg k1
        case measure => have := HK1.out; omega
        case rel => exact ⟨(y810), (wrap64 (x5_1 + 1)), (by first | rfl | (simp; done) | (simp [*]; done)), H', ⟨by have := HK1.out; omega⟩, ⟨by (with_reducible repeat (first | apply Kd.V_alloc | apply Kd.V_drewN | apply Kd.V_drew)); exact Kd.V_mono HO_0.out (fun _ hk => ⟨hk.1.1, hk.2⟩)⟩, ⟨by (with_reducible repeat (first | apply Kd.N_alloc | apply Kd.N_drewN | apply Kd.N_drew)); exact Kd.N_mono HO812.out (fun _ hk => hk.1)⟩, ⟨by repeat (first | (with_reducible first | exact HB.out | apply below_alloc | apply pw_below_drewN | apply below_drew1 | refine below_set ?_ GE804.out) | exact HB.out)⟩⟩
       ·rw [if_neg c18] at H
        exact absurd H (by simp)
     ·rw [if_neg c6] at H
      have c6b0 : (((rd_T47 l0 x5_1).f0) == 2) = false := beq_eq_false_iff_ne.mpr c6
      have c6b1 : (((rd_T47 l0 x5_1).f0) != 2) = true := bne_iff_ne.mpr c6
      by_cases c26 : ((rd_T47 l0 x5_1).f0) = 3
      ·rw [if_pos c26] at H
       have c26b0 : (((rd_T47 l0 x5_1).f0) == 3) = true := beq_iff_eq.mpr c26
       have c26b1 : (((rd_T47 l0 x5_1).f0) != 3) = false := bne_eq_false_iff_eq.mpr c26
       clear c26
       by_cases c27 : x4_1.length < 4398046511104
       ·rw [if_pos c27] at H
        have LMc27 := Aside0.mk c27
        clear c27
        obtain ⟨y814, hy814⟩ : ∃ y_ : List (S47), y_ = (x4_1 ++ [(⟨2, (rd_T47 l0 x5_1).f1⟩ : S47)]) := ⟨_, rfl⟩
        replace H : (jalousieref08_Invert.l0 k1 l0 y814 (wrap64 (x5_1 + 1))) = some (r1, r2) := by first | (rw [hy814]; with_reducible exact H) | (have H2_ := (Option.bind_some _ _).symm.trans H; rw [hy814]; with_reducible exact H2_) | (have H2_ := (Option.bind_some _ _).symm.trans H; with_reducible exact H2_) | with_reducible exact H | (rw [hy814]; exact H) | exact H
        have Ny814 := Aside0.mk hy814
        clear hy814
        have H' := Aside0.mk H
        clear H
        have p803 : 0 ≤ (x5_1 : Int) := of_decide_eq_true (by first | (with_reducible assumption) | assumption)
        have q803 : x5_1 < (l0.length : Int) := of_decide_eq_true (by first | (with_reducible assumption) | assumption)
        obtain ⟨ad803, A803_1, c803_1, e803, hx803_0, hx803_1, hl803_1, hi803_1⟩ := at_T47 (Kd.V_reads' HO_0.out).2.2 x5_1 p803 q803
        cases e803
        obtain ⟨ce803, hce803, hMe803, hcc803⟩ := Kd.V_get HO_0.out z47 x5_1 p803 (by first | exact q803 | exact of_decide_eq_true (by first | (with_reducible assumption) | assumption) | (have e_ := (Kd.V_reads' HO_0.out).1; omega))
        obtain ⟨ua803_1, uc803_1, rfl, ul803_1, ge803_1⟩ := k47_openF hMe803
        have hv803_1 := hcc803 1 _ rfl
        rw [add_field _ _ 1 (by omega)] at hv803_1
        replace hv803_1 := Option.some.inj (hv803_1.symm.trans hx803_1)
        injection hv803_1 with hva_ hvn_ hvc_
        rw [hva_] at ge803_1
        rw [hvc_] at ul803_1
        have HL803_1 := Aside0.mk (show Kd.V k66 66 _ w.heap.size _ _ ((rd_T47 l0 x5_1).f1) from Kd.V_mk ul803_1 ge803_1)
        clear hva_ hvn_ hvc_ ge803_1 ul803_1
        clear hcc803 hce803
        have HR803_1 := Aside0.mk hi803_1
        have HC803_1 := Aside0.mk hl803_1
        clear hi803_1 hl803_1
        replace p803 := eq_true p803
        replace q803 := eq_true q803
        go_wp2_with (first | ((with_reducible refine gate_dst (N := 6) rfl ?_); refine box_event ?hg (N := 6) ?hd (cs := #[.int .i64 0, .slice none 0 0]) (t := 47) ?hr ?_; (case hd => rfl); (case hg => rfl); (case hr => first | (go_simp; done) | (go_simp; rfl)); intro gb804 hg w28 hbox hb; have n0_ := Aside0.mk (Kd.V_below (Kd.V_elderB (by (with_reducible repeat (first | apply Kd.V_alloc | apply Kd.V_drewN | apply Kd.V_drew)); exact HO_0.out) gb804 (Nat.le_of_eq hg.symm)) hb); have n1_ := Aside0.mk (Kd.N_below (Kd.N_elderB (by (with_reducible repeat (first | apply Kd.N_alloc | apply Kd.N_drewN | apply Kd.N_drew)); exact HO_4.out) gb804 (Nat.le_of_eq hg.symm)) hb); have n2_ := Aside0.mk (Kd.V_below (Kd.V_elderB (by (with_reducible repeat (first | apply Kd.V_alloc | apply Kd.V_drewN | apply Kd.V_drew)); exact HL803_1.out) gb804 (Nat.le_of_eq hg.symm)) hb); have n3_ := Aside0.mk (Kd.C_below (by repeat (first | (with_reducible exact HR803_1.out) | (with_reducible refine Kd.C_alloc ?_ _) | (with_reducible refine Kd.C_drewN ?_ _) | (with_reducible refine Kd.C_drew ?_) | exact HR803_1.out)) hb); have n4_ := Aside0.mk (below_step (by repeat (first | (with_reducible first | exact HB.out | apply below_alloc | apply pw_below_drewN | apply below_drew1) | exact HB.out)) hb); have n5_ := Aside0.mk (hbox); have n6_ := Aside0.mk ((by rw [hg]; exact (below_size (by repeat (first | (with_reducible first | exact HB.out | apply below_alloc | apply pw_below_drewN | apply below_drew1) | exact HB.out))) : w.heap.size ≤ gb804)); have n7_ := Aside0.mk ((by rw [hg]; exact (below_size (by repeat (first | (with_reducible first | exact HB.out | apply below_alloc | apply pw_below_drewN | apply below_drew1) | exact HB.out))) : w.heap.size ≤ gb804)); clear HO_0; clear HO_4; clear HL803_1; clear HR803_1; clear HB; have HO_0 := n0_; have HO_4 := n1_; have HL803_1 := n2_; have HR803_1 := n3_; have HB := n4_; have BK804 := n5_; have GW804 := n6_; have GE804 := n7_; clear n0_ n1_ n2_ n3_ n4_ n5_ n6_ n7_; clear hb hbox hg; have hcz29_0 : w28.cell? ⟨gb804, 0, none⟩ = some (.int .i64 0) := (blk_cell BK804.out 0).trans rfl; have hcz29_1 : w28.cell? ⟨gb804, 1, none⟩ = some (.slice none 0 0) := (blk_cell BK804.out 1).trans rfl; have hfz29_0 := blk_frozen BK804.out 0; have hfz29_1 := blk_frozen BK804.out 1) | ((with_reducible refine gate_store (t := 47) (p := 6) rfl ?_); refine store_event (t := 47) (p := 6) (v := ?vo_w30) (w1 := ((w28.setCell ⟨gb804, 0, none⟩ (.int .i64 ((rd_T47 l0 x5_1).f0))).setCell ⟨gb804, 1, none⟩ (.slice A803_1 ((rd_T47 l0 x5_1).f1).length c803_1))) ?hg ?ho ?hn ?hr ?_; (case ho => rfl); (case hg => rfl); (case hn => rfl); (case hr => first | (go_simp; done) | (go_simp; rfl)); intro w30 hw; have n0_ : Aside0 (Kd.V k47 47 w30 w.heap.size (fun k_ => (P0_ k_ ∨ w.heap.size ≤ k_) ∧ some k_ ≠ (u4 : Value).ownBlock ∧ k_ ≠ gb804) (.slice (some ad803) l0.length c0) l0) := ⟨(by rw [hw]; exact (by (with_reducible repeat (first | apply Kd.V_alloc | apply Kd.V_drewN | apply Kd.V_drew)); exact Kd.V_mono (Kd.V_far (p := ⟨gb804, 1, none⟩) (Kd.V_far (p := ⟨gb804, 0, none⟩) (Kd.V_mono HO_0.out (fun k_ hk => (⟨hk, hk.2⟩ : _ ∧ k_ ≠ gb804))) (fun _ hk => hk.2) (.int .i64 ((rd_T47 l0 x5_1).f0))) (fun _ hk => hk.2) (.slice A803_1 ((rd_T47 l0 x5_1).f1).length c803_1)) (fun _ hk => ⟨hk.1.1.1, ⟨hk.1.1.2, hk.1.2⟩⟩)))⟩; have n1_ : Aside0 (Kd.N k47 47 w30 w.heap.size (fun k_ => (P0_ k_ ∨ w.heap.size ≤ k_) ∧ k_ ≠ gb804) u4 x4_1) := ⟨(by rw [hw]; exact (by (with_reducible repeat (first | apply Kd.N_alloc | apply Kd.N_drewN | apply Kd.N_drew)); exact Kd.N_mono (Kd.N_far (p := ⟨gb804, 1, none⟩) (Kd.N_far (p := ⟨gb804, 0, none⟩) (Kd.N_mono HO_4.out (fun k_ hk => (⟨hk, hk.2⟩ : _ ∧ k_ ≠ gb804))) (fun _ hk => hk.2) (.int .i64 ((rd_T47 l0 x5_1).f0))) (fun _ hk => hk.2) (.slice A803_1 ((rd_T47 l0 x5_1).f1).length c803_1)) (fun _ hk => ⟨hk.1.1, hk.1.2⟩)))⟩; have n2_ : Aside0 (Kd.V k66 66 w30 w.heap.size (fun k_ => (P0_ k_ ∨ w.heap.size ≤ k_) ∧ some k_ ≠ (u4 : Value).ownBlock ∧ k_ ≠ gb804) (.slice A803_1 ((rd_T47 l0 x5_1).f1).length c803_1) ((rd_T47 l0 x5_1).f1)) := ⟨(by rw [hw]; exact (by (with_reducible repeat (first | apply Kd.V_alloc | apply Kd.V_drewN | apply Kd.V_drew)); exact Kd.V_mono (Kd.V_far (p := ⟨gb804, 1, none⟩) (Kd.V_far (p := ⟨gb804, 0, none⟩) (Kd.V_mono HL803_1.out (fun k_ hk => (⟨hk, hk.2⟩ : _ ∧ k_ ≠ gb804))) (fun _ hk => hk.2) (.int .i64 ((rd_T47 l0 x5_1).f0))) (fun _ hk => hk.2) (.slice A803_1 ((rd_T47 l0 x5_1).f1).length c803_1)) (fun _ hk => ⟨hk.1.1.1, ⟨hk.1.1.2, hk.1.2⟩⟩)))⟩; have n3_ : Aside0 (w30.heap[gb804]? = some (.cells #[.int .i64 ((rd_T47 l0 x5_1).f0), .slice A803_1 ((rd_T47 l0 x5_1).f1).length c803_1] 47 (0, 0))) := ⟨(by rw [hw]; exact (by (with_reducible repeat first|refine zb1 ?_ _|refine zb2 ?_|refine zb3 ?_ _); refine blk_put (cs := #[.int .i64 ((rd_T47 l0 x5_1).f0), .slice none 0 0]) ?_ 1 _ rfl; (with_reducible repeat first|refine zb1 ?_ _|refine zb2 ?_|refine zb3 ?_ _); refine blk_put (cs := #[.int .i64 0, .slice none 0 0]) ?_ 0 _ rfl; (with_reducible repeat first|refine zb1 ?_ _|refine zb2 ?_|refine zb3 ?_ _); exact BK804.out))⟩; have n4_ : Aside0 (Below w.heap.size w w30) := ⟨(by rw [hw]; exact (by repeat (first | (with_reducible first | exact HB.out | apply below_alloc | apply pw_below_drewN | apply below_drew1 | refine below_set ?_ GE804.out) | exact HB.out)))⟩; clear hw; clear HO_0; clear HO_4; clear HL803_1; clear BK804; clear HB; have HO_0 := n0_; have HO_4 := n1_; have HL803_1 := n2_; have BK804 := n3_; have HB := n4_; clear n0_ n1_ n2_ n3_ n4_; have p805 : 0 ≤ (x5_1 : Int) := of_decide_eq_true (by first | (with_reducible assumption) | assumption); have q805 : x5_1 < (l0.length : Int) := of_decide_eq_true (by first | (with_reducible assumption) | assumption); obtain ⟨ad805, A805_1, c805_1, e805, hx805_0, hx805_1, hl805_1, hi805_1⟩ := at_T47 (Kd.V_reads' HO_0.out).2.2 x5_1 p805 q805; obtain rfl : ad803 = ad805 := (by injection e805); obtain ⟨ce805, hce805, hMe805, hcc805⟩ := Kd.V_get HO_0.out z47 x5_1 p805 (by first | exact q805 | exact of_decide_eq_true (by first | (with_reducible assumption) | assumption) | (have e_ := (Kd.V_reads' HO_0.out).1; omega)); obtain ⟨ua805_1, uc805_1, rfl, ul805_1, ge805_1⟩ := k47_openF hMe805; have hv805_1 := hcc805 1 _ rfl; rw [add_field _ _ 1 (by omega)] at hv805_1; replace hv805_1 := Option.some.inj (hv805_1.symm.trans hx805_1); injection hv805_1 with hva_ hvn_ hvc_; rw [hva_] at ge805_1; rw [hvc_] at ul805_1; have HL805_1 := Aside0.mk (show Kd.V k66 66 _ w.heap.size _ _ ((rd_T47 l0 x5_1).f1) from Kd.V_mk ul805_1 ge805_1); clear hva_ hvn_ hvc_ ge805_1 ul805_1; clear hcc805 hce805; have HR805_1 := Aside0.mk hi805_1; have HC805_1 := Aside0.mk hl805_1; clear hi805_1 hl805_1; replace p805 := eq_true p805; replace q805 := eq_true q805; have p813 : 0 ≤ (x5_1 : Int) := of_decide_eq_true (by first | (with_reducible assumption) | assumption); have q813 : x5_1 < (l0.length : Int) := of_decide_eq_true (by first | (with_reducible assumption) | assumption); obtain ⟨ad813, A813_1, c813_1, e813, hx813_0, hx813_1, hl813_1, hi813_1⟩ := at_T47 (Kd.V_reads' HO_0.out).2.2 x5_1 p813 q813; obtain rfl : ad803 = ad813 := (by injection e813); obtain ⟨ce813, hce813, hMe813, hcc813⟩ := Kd.V_get HO_0.out z47 x5_1 p813 (by first | exact q813 | exact of_decide_eq_true (by first | (with_reducible assumption) | assumption) | (have e_ := (Kd.V_reads' HO_0.out).1; omega)); obtain ⟨ua813_1, uc813_1, rfl, ul813_1, ge813_1⟩ := k47_openF hMe813; have hv813_1 := hcc813 1 _ rfl; rw [add_field _ _ 1 (by omega)] at hv813_1; replace hv813_1 := Option.some.inj (hv813_1.symm.trans hx813_1); injection hv813_1 with hva_ hvn_ hvc_; rw [hva_] at ge813_1; rw [hvc_] at ul813_1; have HL813_1 := Aside0.mk (show Kd.V k66 66 _ w.heap.size _ _ ((rd_T47 l0 x5_1).f1) from Kd.V_mk ul813_1 ge813_1); clear hva_ hvn_ hvc_ ge813_1 ul813_1; clear hcc813 hce813; have HR813_1 := Aside0.mk hi813_1; have HC813_1 := Aside0.mk hl813_1; clear hi813_1 hl813_1; replace p813 := eq_true p813; replace q813 := eq_true q813; have ea_ := Option.some.inj (hx805_1.symm.trans hx813_1); injection ea_ with ea_ en_ ec_; subst ea_; subst ec_; clear en_; have hcz31_0 : w30.cell? ⟨gb804, 0, none⟩ = some (.int .i64 ((rd_T47 l0 x5_1).f0)) := (blk_cell BK804.out 0).trans rfl; have hcz31_1 : w30.cell? ⟨gb804, 1, none⟩ = some (.slice A803_1 ((rd_T47 l0 x5_1).f1).length c803_1) := (blk_cell BK804.out 1).trans rfl; have hfz31_0 := blk_frozen BK804.out 0; have hfz31_1 := blk_frozen BK804.out 1) | ((with_reducible refine gate_store (t := 45) (p := 31) rfl ?_); refine store_event (t := 45) (p := 31) (v := ?vo_w32) (w1 := (w30.setCell ⟨gb804, 0, none⟩ (.int .i64 2))) ?hg ?ho ?hn ?hr ?_; (case ho => rfl); (case hg => rfl); (case hn => rfl); (case hr => first | (go_simp; done) | (go_simp; rfl)); intro w32 hw; have n0_ : Aside0 (Kd.V k47 47 w32 w.heap.size (fun k_ => (P0_ k_ ∨ w.heap.size ≤ k_) ∧ some k_ ≠ (u4 : Value).ownBlock ∧ k_ ≠ gb804) (.slice (some ad803) l0.length c0) l0) := ⟨(by rw [hw]; exact (by (with_reducible repeat (first | apply Kd.V_alloc | apply Kd.V_drewN | apply Kd.V_drew)); exact Kd.V_mono (Kd.V_far (p := ⟨gb804, 0, none⟩) (Kd.V_mono HO_0.out (fun k_ hk => (⟨hk, hk.2.2⟩ : _ ∧ k_ ≠ gb804))) (fun _ hk => hk.2) (.int .i64 2)) (fun _ hk => ⟨hk.1.1, ⟨hk.1.2.1, hk.1.2.2⟩⟩)))⟩; have n1_ : Aside0 (Kd.N k47 47 w32 w.heap.size (fun k_ => (P0_ k_ ∨ w.heap.size ≤ k_) ∧ k_ ≠ gb804) u4 x4_1) := ⟨(by rw [hw]; exact (by (with_reducible repeat (first | apply Kd.N_alloc | apply Kd.N_drewN | apply Kd.N_drew)); exact Kd.N_mono (Kd.N_far (p := ⟨gb804, 0, none⟩) (Kd.N_mono HO_4.out (fun k_ hk => (⟨hk, hk.2⟩ : _ ∧ k_ ≠ gb804))) (fun _ hk => hk.2) (.int .i64 2)) (fun _ hk => ⟨hk.1.1, hk.1.2⟩)))⟩; have n2_ : Aside0 (Kd.V k66 66 w32 w.heap.size (fun k_ => (P0_ k_ ∨ w.heap.size ≤ k_) ∧ some k_ ≠ (u4 : Value).ownBlock ∧ k_ ≠ gb804) (.slice A803_1 ((rd_T47 l0 x5_1).f1).length c803_1) ((rd_T47 l0 x5_1).f1)) := ⟨(by rw [hw]; exact (by (with_reducible repeat (first | apply Kd.V_alloc | apply Kd.V_drewN | apply Kd.V_drew)); exact Kd.V_mono (Kd.V_far (p := ⟨gb804, 0, none⟩) (Kd.V_mono HL803_1.out (fun k_ hk => (⟨hk, hk.2.2⟩ : _ ∧ k_ ≠ gb804))) (fun _ hk => hk.2) (.int .i64 2)) (fun _ hk => ⟨hk.1.1, ⟨hk.1.2.1, hk.1.2.2⟩⟩)))⟩; have n3_ : Aside0 (Kd.V k66 66 w32 w.heap.size (fun k_ => (P0_ k_ ∨ w.heap.size ≤ k_) ∧ some k_ ≠ (u4 : Value).ownBlock ∧ k_ ≠ gb804) (.slice A805_1 ((rd_T47 l0 x5_1).f1).length c805_1) ((rd_T47 l0 x5_1).f1)) := ⟨(by rw [hw]; exact (by (with_reducible repeat (first | apply Kd.V_alloc | apply Kd.V_drewN | apply Kd.V_drew)); exact Kd.V_mono (Kd.V_far (p := ⟨gb804, 0, none⟩) (Kd.V_mono HL805_1.out (fun k_ hk => (⟨hk, hk.2.2⟩ : _ ∧ k_ ≠ gb804))) (fun _ hk => hk.2) (.int .i64 2)) (fun _ hk => ⟨hk.1.1, ⟨hk.1.2.1, hk.1.2.2⟩⟩)))⟩; have n4_ : Aside0 (Kd.V k66 66 w32 w.heap.size (fun k_ => (P0_ k_ ∨ w.heap.size ≤ k_) ∧ some k_ ≠ (u4 : Value).ownBlock ∧ k_ ≠ gb804) (.slice A805_1 ((rd_T47 l0 x5_1).f1).length c805_1) ((rd_T47 l0 x5_1).f1)) := ⟨(by rw [hw]; exact (by (with_reducible repeat (first | apply Kd.V_alloc | apply Kd.V_drewN | apply Kd.V_drew)); exact Kd.V_mono (Kd.V_far (p := ⟨gb804, 0, none⟩) (Kd.V_mono HL813_1.out (fun k_ hk => (⟨hk, hk.2.2⟩ : _ ∧ k_ ≠ gb804))) (fun _ hk => hk.2) (.int .i64 2)) (fun _ hk => ⟨hk.1.1, ⟨hk.1.2.1, hk.1.2.2⟩⟩)))⟩; have n5_ : Aside0 (w32.heap[gb804]? = some (.cells #[.int .i64 2, .slice A803_1 ((rd_T47 l0 x5_1).f1).length c803_1] 47 (0, 0))) := ⟨(by rw [hw]; exact (by (with_reducible repeat first|refine zb1 ?_ _|refine zb2 ?_|refine zb3 ?_ _); refine blk_put (cs := #[.int .i64 ((rd_T47 l0 x5_1).f0), .slice A803_1 ((rd_T47 l0 x5_1).f1).length c803_1]) ?_ 0 _ rfl; (with_reducible repeat first|refine zb1 ?_ _|refine zb2 ?_|refine zb3 ?_ _); exact BK804.out))⟩; have n6_ : Aside0 (Below w.heap.size w w32) := ⟨(by rw [hw]; exact (by repeat (first | (with_reducible first | exact HB.out | apply below_alloc | apply pw_below_drewN | apply below_drew1 | refine below_set ?_ GE804.out) | exact HB.out)))⟩; clear hw; clear HO_0; clear HO_4; clear HL803_1; clear HL805_1; clear HL813_1; clear BK804; clear HB; have HO_0 := n0_; have HO_4 := n1_; have HL803_1 := n2_; have HL805_1 := n3_; have HL813_1 := n4_; have BK804 := n5_; have HB := n6_; clear n0_ n1_ n2_ n3_ n4_ n5_ n6_; have hcz33_0 : w32.cell? ⟨gb804, 0, none⟩ = some (.int .i64 2) := (blk_cell BK804.out 0).trans rfl; have hcz33_1 : w32.cell? ⟨gb804, 1, none⟩ = some (.slice A803_1 ((rd_T47 l0 x5_1).f1).length c803_1) := (blk_cell BK804.out 1).trans rfl; have hfz33_0 := blk_frozen BK804.out 0; have hfz33_1 := blk_frozen BK804.out 1) | ((with_reducible refine gate_builtin (b := .append) (xs := #[.tmp 32, .tmp 34]) rfl ?_); at_builtin; refine Kd.N_append k47 (w0 := w) w.heap.size rfl (.tmp 32) (.tmp 34) 22 47 (.agg #[(.int .i64 0), (.slice none 0 0)]) 32 rfl Try.underlying22 info47 rfl (by decide) (by omega) u4 x4_1 (⟨2, (rd_T47 l0 x5_1).f1⟩ : S47) [.int .i64 2, .slice A803_1 ((rd_T47 l0 x5_1).f1).length c803_1] (fun k_ => (P0_ k_ ∨ w.heap.size ≤ k_) ∧ k_ ≠ gb804) (fun k_ => ((fun k_ => (P0_ k_ ∨ w.heap.size ≤ k_) ∧ k_ ≠ gb804)) k_ ∧ some k_ ≠ (u4 : Value).ownBlock) rfl rfl ?aP (fun _ hk => hk) ?aF ?aO ?aB ?aS ?aL ?_; (case aP => exact (k47_mkF _ _ (⟨2, (rd_T47 l0 x5_1).f1⟩ : S47) (Kd.V_reads' (Kd.V_mono (ok' := (fun k_ => ((fun k_ => (P0_ k_ ∨ w.heap.size ≤ k_) ∧ k_ ≠ gb804)) k_ ∧ some k_ ≠ (u4 : Value).ownBlock)) (HL803_1.out) (fun k_ hk => ⟨⟨hk.1, hk.2.2⟩, hk.2.1⟩))).2.1 (Kd.V_F (Kd.V_mono (ok' := (fun k_ => ((fun k_ => (P0_ k_ ∨ w.heap.size ≤ k_) ∧ k_ ≠ gb804)) k_ ∧ some k_ ≠ (u4 : Value).ownBlock)) (HL803_1.out) (fun k_ hk => ⟨⟨hk.1, hk.2.2⟩, hk.2.1⟩))))); (case aB => exact (by repeat (first | (with_reducible first | exact HB.out | apply below_alloc | apply pw_below_drewN | apply below_drew1 | refine below_set ?_ GE804.out) | exact HB.out))); (case aF => exact (fun k_ hk => ⟨(.inr (Nat.le_trans (below_size (by repeat (first | (with_reducible first | exact HB.out | apply below_alloc | apply pw_below_drewN | apply below_drew1 | refine below_set ?_ GE804.out) | exact HB.out))) hk)), Kd.freshB (g := gb804) (o := .cells #[.int .i64 2, .slice A803_1 ((rd_T47 l0 x5_1).f1).length c803_1] 47 (0, 0)) (by (with_reducible repeat first|refine zb1 ?_ _|refine zb2 ?_|refine zb3 ?_ _); exact BK804.out) k_ hk⟩)); (case aO => exact (by (with_reducible repeat (first | apply Kd.N_alloc | apply Kd.N_drewN | apply Kd.N_drew)); exact HO_4.out)); (case aS => exact (below_size (by repeat (first | (with_reducible first | exact HB.out | apply below_alloc | apply pw_below_drewN | apply below_drew1 | refine below_set ?_ GE804.out) | exact HB.out)))); (case aL => have := LMc27.out; omega); intro v815 w34 ho hb hg hat; rw [← Ny814.out] at ho; have n0_ := Aside0.mk (Kd.V_afterv (ok := (fun k_ => (P0_ k_ ∨ w.heap.size ≤ k_) ∧ k_ ≠ gb804)) (by (with_reducible repeat (first | apply Kd.V_alloc | apply Kd.V_drewN | apply Kd.V_drew)); exact Kd.V_mono HO_0.out (fun _ hk => ⟨⟨hk.1, hk.2.2⟩, hk.2.1⟩)) hg hat); have n1_ := Aside0.mk (Kd.V_afterv (ok := (fun k_ => (P0_ k_ ∨ w.heap.size ≤ k_) ∧ k_ ≠ gb804)) (by (with_reducible repeat (first | apply Kd.V_alloc | apply Kd.V_drewN | apply Kd.V_drew)); exact Kd.V_mono HL803_1.out (fun _ hk => ⟨⟨hk.1, hk.2.2⟩, hk.2.1⟩)) hg hat); have n2_ := Aside0.mk (blk_grown (g := gb804) (o := .cells #[.int .i64 2, .slice A803_1 ((rd_T47 l0 x5_1).f1).length c803_1] 47 (0, 0)) (by (with_reducible repeat first|refine zb1 ?_ _|refine zb2 ?_|refine zb3 ?_ _); exact BK804.out) hg (Kd.N_away HO_4.out (fun _ hk => hk.2))); have n3_ := Aside0.mk (Kd.V_afterv (ok := (fun k_ => (P0_ k_ ∨ w.heap.size ≤ k_) ∧ k_ ≠ gb804)) (by (with_reducible repeat (first | apply Kd.V_alloc | apply Kd.V_drewN | apply Kd.V_drew)); exact Kd.V_mono HL805_1.out (fun _ hk => ⟨⟨hk.1, hk.2.2⟩, hk.2.1⟩)) hg hat); have n4_ := Aside0.mk (Kd.V_afterv (ok := (fun k_ => (P0_ k_ ∨ w.heap.size ≤ k_) ∧ k_ ≠ gb804)) (by (with_reducible repeat (first | apply Kd.V_alloc | apply Kd.V_drewN | apply Kd.V_drew)); exact Kd.V_mono HL813_1.out (fun _ hk => ⟨⟨hk.1, hk.2.2⟩, hk.2.1⟩)) hg hat); have n5_ := Aside0.mk (hb); have n6_ := Aside0.mk (ho); clear HO_0; clear HL803_1; clear BK804; clear HL805_1; clear HL813_1; clear HB; clear HO_4; have HO_0 := n0_; have HL803_1 := n1_; have BK804 := n2_; have HL805_1 := n3_; have HL813_1 := n4_; have HB := n5_; have HO816 := n6_; clear n0_ n1_ n2_ n3_ n4_ n5_ n6_; clear ho hb hg hat))
        go_roundg k1
        case measure => have := HK1.out; omega
        case rel => exact ⟨(y814), (wrap64 (x5_1 + 1)), (by first | rfl | (simp; done) | (simp [*]; done)), H', ⟨by have := HK1.out; omega⟩, ⟨by (with_reducible repeat (first | apply Kd.V_alloc | apply Kd.V_drewN | apply Kd.V_drew)); exact Kd.V_mono HO_0.out (fun _ hk => ⟨hk.1.1, hk.2⟩)⟩, ⟨by (with_reducible repeat (first | apply Kd.N_alloc | apply Kd.N_drewN | apply Kd.N_drew)); exact Kd.N_mono HO816.out (fun _ hk => hk.1)⟩, ⟨by repeat (first | (with_reducible first | exact HB.out | apply below_alloc | apply pw_below_drewN | apply below_drew1 | refine below_set ?_ GE804.out) | exact HB.out)⟩⟩
       ·rw [if_neg c27] at H
        exact absurd H (by simp)
      ·rw [if_neg c26] at H
       have c26b0 : (((rd_T47 l0 x5_1).f0) == 3) = false := beq_eq_false_iff_ne.mpr c26
       have c26b1 : (((rd_T47 l0 x5_1).f0) != 3) = true := bne_iff_ne.mpr c26
       by_cases c35 : x4_1.length < 4398046511104
       ·rw [if_pos c35] at H
        have LMc35 := Aside0.mk c35
        clear c35
        obtain ⟨y817, hy817⟩ : ∃ y_ : List (S47), y_ = (x4_1 ++ [(⟨(rd_T47 l0 x5_1).f0, (rd_T47 l0 x5_1).f1⟩ : S47)]) := ⟨_, rfl⟩
        replace H : (jalousieref08_Invert.l0 k1 l0 y817 (wrap64 (x5_1 + 1))) = some (r1, r2) := by first | (rw [hy817]; with_reducible exact H) | (have H2_ := (Option.bind_some _ _).symm.trans H; rw [hy817]; with_reducible exact H2_) | (have H2_ := (Option.bind_some _ _).symm.trans H; with_reducible exact H2_) | with_reducible exact H | (rw [hy817]; exact H) | exact H
        have Ny817 := Aside0.mk hy817
        clear hy817
        have H' := Aside0.mk H
        clear H
        have p803 : 0 ≤ (x5_1 : Int) := of_decide_eq_true (by first | (with_reducible assumption) | assumption)
        have q803 : x5_1 < (l0.length : Int) := of_decide_eq_true (by first | (with_reducible assumption) | assumption)
        obtain ⟨ad803, A803_1, c803_1, e803, hx803_0, hx803_1, hl803_1, hi803_1⟩ := at_T47 (Kd.V_reads' HO_0.out).2.2 x5_1 p803 q803
        cases e803
        obtain ⟨ce803, hce803, hMe803, hcc803⟩ := Kd.V_get HO_0.out z47 x5_1 p803 (by first | exact q803 | exact of_decide_eq_true (by first | (with_reducible assumption) | assumption) | (have e_ := (Kd.V_reads' HO_0.out).1; omega))
        obtain ⟨ua803_1, uc803_1, rfl, ul803_1, ge803_1⟩ := k47_openF hMe803
        have hv803_1 := hcc803 1 _ rfl
        rw [add_field _ _ 1 (by omega)] at hv803_1
        replace hv803_1 := Option.some.inj (hv803_1.symm.trans hx803_1)
        injection hv803_1 with hva_ hvn_ hvc_
        rw [hva_] at ge803_1
        rw [hvc_] at ul803_1
        have HL803_1 := Aside0.mk (show Kd.V k66 66 _ w.heap.size _ _ ((rd_T47 l0 x5_1).f1) from Kd.V_mk ul803_1 ge803_1)
        clear hva_ hvn_ hvc_ ge803_1 ul803_1
        clear hcc803 hce803
        have HR803_1 := Aside0.mk hi803_1
        have HC803_1 := Aside0.mk hl803_1
        clear hi803_1 hl803_1
        replace p803 := eq_true p803
        replace q803 := eq_true q803
        go_wp2_with (first | ((with_reducible refine gate_dst (N := 6) rfl ?_); refine box_event ?hg (N := 6) ?hd (cs := #[.int .i64 0, .slice none 0 0]) (t := 47) ?hr ?_; (case hd => rfl); (case hg => rfl); (case hr => first | (go_simp; done) | (go_simp; rfl)); intro gb804 hg w36 hbox hb; have n0_ := Aside0.mk (Kd.V_below (Kd.V_elderB (by (with_reducible repeat (first | apply Kd.V_alloc | apply Kd.V_drewN | apply Kd.V_drew)); exact HO_0.out) gb804 (Nat.le_of_eq hg.symm)) hb); have n1_ := Aside0.mk (Kd.N_below (Kd.N_elderB (by (with_reducible repeat (first | apply Kd.N_alloc | apply Kd.N_drewN | apply Kd.N_drew)); exact HO_4.out) gb804 (Nat.le_of_eq hg.symm)) hb); have n2_ := Aside0.mk (Kd.V_below (Kd.V_elderB (by (with_reducible repeat (first | apply Kd.V_alloc | apply Kd.V_drewN | apply Kd.V_drew)); exact HL803_1.out) gb804 (Nat.le_of_eq hg.symm)) hb); have n3_ := Aside0.mk (Kd.C_below (by repeat (first | (with_reducible exact HR803_1.out) | (with_reducible refine Kd.C_alloc ?_ _) | (with_reducible refine Kd.C_drewN ?_ _) | (with_reducible refine Kd.C_drew ?_) | exact HR803_1.out)) hb); have n4_ := Aside0.mk (below_step (by repeat (first | (with_reducible first | exact HB.out | apply below_alloc | apply pw_below_drewN | apply below_drew1) | exact HB.out)) hb); have n5_ := Aside0.mk (hbox); have n6_ := Aside0.mk ((by rw [hg]; exact (below_size (by repeat (first | (with_reducible first | exact HB.out | apply below_alloc | apply pw_below_drewN | apply below_drew1) | exact HB.out))) : w.heap.size ≤ gb804)); have n7_ := Aside0.mk ((by rw [hg]; exact (below_size (by repeat (first | (with_reducible first | exact HB.out | apply below_alloc | apply pw_below_drewN | apply below_drew1) | exact HB.out))) : w.heap.size ≤ gb804)); clear HO_0; clear HO_4; clear HL803_1; clear HR803_1; clear HB; have HO_0 := n0_; have HO_4 := n1_; have HL803_1 := n2_; have HR803_1 := n3_; have HB := n4_; have BK804 := n5_; have GW804 := n6_; have GE804 := n7_; clear n0_ n1_ n2_ n3_ n4_ n5_ n6_ n7_; clear hb hbox hg; have hcz37_0 : w36.cell? ⟨gb804, 0, none⟩ = some (.int .i64 0) := (blk_cell BK804.out 0).trans rfl; have hcz37_1 : w36.cell? ⟨gb804, 1, none⟩ = some (.slice none 0 0) := (blk_cell BK804.out 1).trans rfl; have hfz37_0 := blk_frozen BK804.out 0; have hfz37_1 := blk_frozen BK804.out 1) | ((with_reducible refine gate_store (t := 47) (p := 6) rfl ?_); refine store_event (t := 47) (p := 6) (v := ?vo_w38) (w1 := ((w36.setCell ⟨gb804, 0, none⟩ (.int .i64 ((rd_T47 l0 x5_1).f0))).setCell ⟨gb804, 1, none⟩ (.slice A803_1 ((rd_T47 l0 x5_1).f1).length c803_1))) ?hg ?ho ?hn ?hr ?_; (case ho => rfl); (case hg => rfl); (case hn => rfl); (case hr => first | (go_simp; done) | (go_simp; rfl)); intro w38 hw; have n0_ : Aside0 (Kd.V k47 47 w38 w.heap.size (fun k_ => (P0_ k_ ∨ w.heap.size ≤ k_) ∧ some k_ ≠ (u4 : Value).ownBlock ∧ k_ ≠ gb804) (.slice (some ad803) l0.length c0) l0) := ⟨(by rw [hw]; exact (by (with_reducible repeat (first | apply Kd.V_alloc | apply Kd.V_drewN | apply Kd.V_drew)); exact Kd.V_mono (Kd.V_far (p := ⟨gb804, 1, none⟩) (Kd.V_far (p := ⟨gb804, 0, none⟩) (Kd.V_mono HO_0.out (fun k_ hk => (⟨hk, hk.2⟩ : _ ∧ k_ ≠ gb804))) (fun _ hk => hk.2) (.int .i64 ((rd_T47 l0 x5_1).f0))) (fun _ hk => hk.2) (.slice A803_1 ((rd_T47 l0 x5_1).f1).length c803_1)) (fun _ hk => ⟨hk.1.1.1, ⟨hk.1.1.2, hk.1.2⟩⟩)))⟩; have n1_ : Aside0 (Kd.N k47 47 w38 w.heap.size (fun k_ => (P0_ k_ ∨ w.heap.size ≤ k_) ∧ k_ ≠ gb804) u4 x4_1) := ⟨(by rw [hw]; exact (by (with_reducible repeat (first | apply Kd.N_alloc | apply Kd.N_drewN | apply Kd.N_drew)); exact Kd.N_mono (Kd.N_far (p := ⟨gb804, 1, none⟩) (Kd.N_far (p := ⟨gb804, 0, none⟩) (Kd.N_mono HO_4.out (fun k_ hk => (⟨hk, hk.2⟩ : _ ∧ k_ ≠ gb804))) (fun _ hk => hk.2) (.int .i64 ((rd_T47 l0 x5_1).f0))) (fun _ hk => hk.2) (.slice A803_1 ((rd_T47 l0 x5_1).f1).length c803_1)) (fun _ hk => ⟨hk.1.1, hk.1.2⟩)))⟩; have n2_ : Aside0 (Kd.V k66 66 w38 w.heap.size (fun k_ => (P0_ k_ ∨ w.heap.size ≤ k_) ∧ some k_ ≠ (u4 : Value).ownBlock ∧ k_ ≠ gb804) (.slice A803_1 ((rd_T47 l0 x5_1).f1).length c803_1) ((rd_T47 l0 x5_1).f1)) := ⟨(by rw [hw]; exact (by (with_reducible repeat (first | apply Kd.V_alloc | apply Kd.V_drewN | apply Kd.V_drew)); exact Kd.V_mono (Kd.V_far (p := ⟨gb804, 1, none⟩) (Kd.V_far (p := ⟨gb804, 0, none⟩) (Kd.V_mono HL803_1.out (fun k_ hk => (⟨hk, hk.2⟩ : _ ∧ k_ ≠ gb804))) (fun _ hk => hk.2) (.int .i64 ((rd_T47 l0 x5_1).f0))) (fun _ hk => hk.2) (.slice A803_1 ((rd_T47 l0 x5_1).f1).length c803_1)) (fun _ hk => ⟨hk.1.1.1, ⟨hk.1.1.2, hk.1.2⟩⟩)))⟩; have n3_ : Aside0 (w38.heap[gb804]? = some (.cells #[.int .i64 ((rd_T47 l0 x5_1).f0), .slice A803_1 ((rd_T47 l0 x5_1).f1).length c803_1] 47 (0, 0))) := ⟨(by rw [hw]; exact (by (with_reducible repeat first|refine zb1 ?_ _|refine zb2 ?_|refine zb3 ?_ _); refine blk_put (cs := #[.int .i64 ((rd_T47 l0 x5_1).f0), .slice none 0 0]) ?_ 1 _ rfl; (with_reducible repeat first|refine zb1 ?_ _|refine zb2 ?_|refine zb3 ?_ _); refine blk_put (cs := #[.int .i64 0, .slice none 0 0]) ?_ 0 _ rfl; (with_reducible repeat first|refine zb1 ?_ _|refine zb2 ?_|refine zb3 ?_ _); exact BK804.out))⟩; have n4_ : Aside0 (Below w.heap.size w w38) := ⟨(by rw [hw]; exact (by repeat (first | (with_reducible first | exact HB.out | apply below_alloc | apply pw_below_drewN | apply below_drew1 | refine below_set ?_ GE804.out) | exact HB.out)))⟩; clear hw; clear HO_0; clear HO_4; clear HL803_1; clear BK804; clear HB; have HO_0 := n0_; have HO_4 := n1_; have HL803_1 := n2_; have BK804 := n3_; have HB := n4_; clear n0_ n1_ n2_ n3_ n4_; have p805 : 0 ≤ (x5_1 : Int) := of_decide_eq_true (by first | (with_reducible assumption) | assumption); have q805 : x5_1 < (l0.length : Int) := of_decide_eq_true (by first | (with_reducible assumption) | assumption); obtain ⟨ad805, A805_1, c805_1, e805, hx805_0, hx805_1, hl805_1, hi805_1⟩ := at_T47 (Kd.V_reads' HO_0.out).2.2 x5_1 p805 q805; obtain rfl : ad803 = ad805 := (by injection e805); obtain ⟨ce805, hce805, hMe805, hcc805⟩ := Kd.V_get HO_0.out z47 x5_1 p805 (by first | exact q805 | exact of_decide_eq_true (by first | (with_reducible assumption) | assumption) | (have e_ := (Kd.V_reads' HO_0.out).1; omega)); obtain ⟨ua805_1, uc805_1, rfl, ul805_1, ge805_1⟩ := k47_openF hMe805; have hv805_1 := hcc805 1 _ rfl; rw [add_field _ _ 1 (by omega)] at hv805_1; replace hv805_1 := Option.some.inj (hv805_1.symm.trans hx805_1); injection hv805_1 with hva_ hvn_ hvc_; rw [hva_] at ge805_1; rw [hvc_] at ul805_1; have HL805_1 := Aside0.mk (show Kd.V k66 66 _ w.heap.size _ _ ((rd_T47 l0 x5_1).f1) from Kd.V_mk ul805_1 ge805_1); clear hva_ hvn_ hvc_ ge805_1 ul805_1; clear hcc805 hce805; have HR805_1 := Aside0.mk hi805_1; have HC805_1 := Aside0.mk hl805_1; clear hi805_1 hl805_1; replace p805 := eq_true p805; replace q805 := eq_true q805; have p813 : 0 ≤ (x5_1 : Int) := of_decide_eq_true (by first | (with_reducible assumption) | assumption); have q813 : x5_1 < (l0.length : Int) := of_decide_eq_true (by first | (with_reducible assumption) | assumption); obtain ⟨ad813, A813_1, c813_1, e813, hx813_0, hx813_1, hl813_1, hi813_1⟩ := at_T47 (Kd.V_reads' HO_0.out).2.2 x5_1 p813 q813; obtain rfl : ad803 = ad813 := (by injection e813); obtain ⟨ce813, hce813, hMe813, hcc813⟩ := Kd.V_get HO_0.out z47 x5_1 p813 (by first | exact q813 | exact of_decide_eq_true (by first | (with_reducible assumption) | assumption) | (have e_ := (Kd.V_reads' HO_0.out).1; omega)); obtain ⟨ua813_1, uc813_1, rfl, ul813_1, ge813_1⟩ := k47_openF hMe813; have hv813_1 := hcc813 1 _ rfl; rw [add_field _ _ 1 (by omega)] at hv813_1; replace hv813_1 := Option.some.inj (hv813_1.symm.trans hx813_1); injection hv813_1 with hva_ hvn_ hvc_; rw [hva_] at ge813_1; rw [hvc_] at ul813_1; have HL813_1 := Aside0.mk (show Kd.V k66 66 _ w.heap.size _ _ ((rd_T47 l0 x5_1).f1) from Kd.V_mk ul813_1 ge813_1); clear hva_ hvn_ hvc_ ge813_1 ul813_1; clear hcc813 hce813; have HR813_1 := Aside0.mk hi813_1; have HC813_1 := Aside0.mk hl813_1; clear hi813_1 hl813_1; replace p813 := eq_true p813; replace q813 := eq_true q813; have ea_ := Option.some.inj (hx805_1.symm.trans hx813_1); injection ea_ with ea_ en_ ec_; subst ea_; subst ec_; clear en_; have hcz39_0 : w38.cell? ⟨gb804, 0, none⟩ = some (.int .i64 ((rd_T47 l0 x5_1).f0)) := (blk_cell BK804.out 0).trans rfl; have hcz39_1 : w38.cell? ⟨gb804, 1, none⟩ = some (.slice A803_1 ((rd_T47 l0 x5_1).f1).length c803_1) := (blk_cell BK804.out 1).trans rfl; have hfz39_0 := blk_frozen BK804.out 0; have hfz39_1 := blk_frozen BK804.out 1) | ((with_reducible refine gate_builtin (b := .append) (xs := #[.tmp 32, .tmp 34]) rfl ?_); at_builtin; refine Kd.N_append k47 (w0 := w) w.heap.size rfl (.tmp 32) (.tmp 34) 22 47 (.agg #[(.int .i64 0), (.slice none 0 0)]) 32 rfl Try.underlying22 info47 rfl (by decide) (by omega) u4 x4_1 (⟨(rd_T47 l0 x5_1).f0, (rd_T47 l0 x5_1).f1⟩ : S47) [.int .i64 ((rd_T47 l0 x5_1).f0), .slice A803_1 ((rd_T47 l0 x5_1).f1).length c803_1] (fun k_ => (P0_ k_ ∨ w.heap.size ≤ k_) ∧ k_ ≠ gb804) (fun k_ => ((fun k_ => (P0_ k_ ∨ w.heap.size ≤ k_) ∧ k_ ≠ gb804)) k_ ∧ some k_ ≠ (u4 : Value).ownBlock) rfl rfl ?aP (fun _ hk => hk) ?aF ?aO ?aB ?aS ?aL ?_; (case aP => exact (k47_mkF _ _ (⟨(rd_T47 l0 x5_1).f0, (rd_T47 l0 x5_1).f1⟩ : S47) (Kd.V_reads' (Kd.V_mono (ok' := (fun k_ => ((fun k_ => (P0_ k_ ∨ w.heap.size ≤ k_) ∧ k_ ≠ gb804)) k_ ∧ some k_ ≠ (u4 : Value).ownBlock)) (HL803_1.out) (fun k_ hk => ⟨⟨hk.1, hk.2.2⟩, hk.2.1⟩))).2.1 (Kd.V_F (Kd.V_mono (ok' := (fun k_ => ((fun k_ => (P0_ k_ ∨ w.heap.size ≤ k_) ∧ k_ ≠ gb804)) k_ ∧ some k_ ≠ (u4 : Value).ownBlock)) (HL803_1.out) (fun k_ hk => ⟨⟨hk.1, hk.2.2⟩, hk.2.1⟩))))); (case aB => exact (by repeat (first | (with_reducible first | exact HB.out | apply below_alloc | apply pw_below_drewN | apply below_drew1 | refine below_set ?_ GE804.out) | exact HB.out))); (case aF => exact (fun k_ hk => ⟨(.inr (Nat.le_trans (below_size (by repeat (first | (with_reducible first | exact HB.out | apply below_alloc | apply pw_below_drewN | apply below_drew1 | refine below_set ?_ GE804.out) | exact HB.out))) hk)), Kd.freshB (g := gb804) (o := .cells #[.int .i64 ((rd_T47 l0 x5_1).f0), .slice A803_1 ((rd_T47 l0 x5_1).f1).length c803_1] 47 (0, 0)) (by (with_reducible repeat first|refine zb1 ?_ _|refine zb2 ?_|refine zb3 ?_ _); exact BK804.out) k_ hk⟩)); (case aO => exact (by (with_reducible repeat (first | apply Kd.N_alloc | apply Kd.N_drewN | apply Kd.N_drew)); exact HO_4.out)); (case aS => exact (below_size (by repeat (first | (with_reducible first | exact HB.out | apply below_alloc | apply pw_below_drewN | apply below_drew1 | refine below_set ?_ GE804.out) | exact HB.out)))); (case aL => have := LMc35.out; omega); intro v818 w40 ho hb hg hat; rw [← Ny817.out] at ho; have n0_ := Aside0.mk (Kd.V_afterv (ok := (fun k_ => (P0_ k_ ∨ w.heap.size ≤ k_) ∧ k_ ≠ gb804)) (by (with_reducible repeat (first | apply Kd.V_alloc | apply Kd.V_drewN | apply Kd.V_drew)); exact Kd.V_mono HO_0.out (fun _ hk => ⟨⟨hk.1, hk.2.2⟩, hk.2.1⟩)) hg hat); have n1_ := Aside0.mk (Kd.V_afterv (ok := (fun k_ => (P0_ k_ ∨ w.heap.size ≤ k_) ∧ k_ ≠ gb804)) (by (with_reducible repeat (first | apply Kd.V_alloc | apply Kd.V_drewN | apply Kd.V_drew)); exact Kd.V_mono HL803_1.out (fun _ hk => ⟨⟨hk.1, hk.2.2⟩, hk.2.1⟩)) hg hat); have n2_ := Aside0.mk (blk_grown (g := gb804) (o := .cells #[.int .i64 ((rd_T47 l0 x5_1).f0), .slice A803_1 ((rd_T47 l0 x5_1).f1).length c803_1] 47 (0, 0)) (by (with_reducible repeat first|refine zb1 ?_ _|refine zb2 ?_|refine zb3 ?_ _); exact BK804.out) hg (Kd.N_away HO_4.out (fun _ hk => hk.2))); have n3_ := Aside0.mk (Kd.V_afterv (ok := (fun k_ => (P0_ k_ ∨ w.heap.size ≤ k_) ∧ k_ ≠ gb804)) (by (with_reducible repeat (first | apply Kd.V_alloc | apply Kd.V_drewN | apply Kd.V_drew)); exact Kd.V_mono HL805_1.out (fun _ hk => ⟨⟨hk.1, hk.2.2⟩, hk.2.1⟩)) hg hat); have n4_ := Aside0.mk (Kd.V_afterv (ok := (fun k_ => (P0_ k_ ∨ w.heap.size ≤ k_) ∧ k_ ≠ gb804)) (by (with_reducible repeat (first | apply Kd.V_alloc | apply Kd.V_drewN | apply Kd.V_drew)); exact Kd.V_mono HL813_1.out (fun _ hk => ⟨⟨hk.1, hk.2.2⟩, hk.2.1⟩)) hg hat); have n5_ := Aside0.mk (hb); have n6_ := Aside0.mk (ho); clear HO_0; clear HL803_1; clear BK804; clear HL805_1; clear HL813_1; clear HB; clear HO_4; have HO_0 := n0_; have HL803_1 := n1_; have BK804 := n2_; have HL805_1 := n3_; have HL813_1 := n4_; have HB := n5_; have HO819 := n6_; clear n0_ n1_ n2_ n3_ n4_ n5_ n6_; clear ho hb hg hat))
        go_roundg k1
        case measure => have := HK1.out; omega
        case rel => exact ⟨(y817), (wrap64 (x5_1 + 1)), (by first | rfl | (simp; done) | (simp [*]; done)), H', ⟨by have := HK1.out; omega⟩, ⟨by (with_reducible repeat (first | apply Kd.V_alloc | apply Kd.V_drewN | apply Kd.V_drew)); exact Kd.V_mono HO_0.out (fun _ hk => ⟨hk.1.1, hk.2⟩)⟩, ⟨by (with_reducible repeat (first | apply Kd.N_alloc | apply Kd.N_drewN | apply Kd.N_drew)); exact Kd.N_mono HO819.out (fun _ hk => hk.1)⟩, ⟨by repeat (first | (with_reducible first | exact HB.out | apply below_alloc | apply pw_below_drewN | apply below_drew1 | refine below_set ?_ GE804.out) | exact HB.out)⟩⟩
       ·rw [if_neg c35] at H
        exact absurd H (by simp)
    ·rw [if_neg c5] at H
     exact absurd H (by simp)
   ·rw [if_neg c4] at H
    have c4b0 : decide (x5_1 < (l0.length : Int)) = false := decide_eq_false c4
    clear c4
    replace H := Option.bind_eq_some_iff.mp H
    obtain ⟨⟨t799, t800⟩, A410, H⟩ := H
    replace H : (some (t799, t800)) = some (r1, r2) := H
    have A41 := Aside0.mk A410
    clear A410
    simp only [Option.some.injEq, Prod.mk.injEq] at H
    obtain ⟨rfl, rfl⟩ := H
    obtain ⟨Ao42, co42, eo42⟩ := Kd.N_slice HO_4.out
    subst eo42
    go_wp2_with (first | ((with_reducible refine gate_callee (f := 23) rfl ?_); refine goesL_ (some 37) rfl rfl Try.func23 (by kernel_rfl) rfl #[.slice Ao42 x4_1.length co42] rfl (by (try simp only [List.map_toArray, List.map_cons, List.map_nil]); first | done | rfl | (simp only [List.length_drop, List.length_take]; rfl)) ?_; (with_reducible refine (jalousieref08_Normal.calls k1 _ _ x4_1 t799 t800 _ ?side1 ?side2 A41.out).mono ?_); (case side1 => repeat (first | exact (Kd.N_reads' HO_4.out).2.2 | (with_reducible refine Kd.C_alloc ?_ _) | (with_reducible refine Kd.C_drewN ?_ _) | (with_reducible refine Kd.C_drew ?_))); (case side2 => exact (Kd.N_reads' HO_4.out).2.1); rintro e w43 ⟨v801, rfl, ho0, hb⟩; refine ⟨_, rfl, ?_⟩; have n0_ := Aside0.mk (Kd.V_elder' (by (with_reducible repeat (first | apply Kd.V_alloc | apply Kd.V_drewN | apply Kd.V_drew)); exact HO_0.out) (by first | exact Kd.S_base ho0 | exact Kd.R_base ho0 | exact Kd.N_base ho0) hb); have n1_ := Aside0.mk (Kd.N_elder' (by (with_reducible repeat (first | apply Kd.N_alloc | apply Kd.N_drewN | apply Kd.N_drew)); exact HO_4.out) (by first | exact Kd.S_base ho0 | exact Kd.R_base ho0 | exact Kd.N_base ho0) hb); have n2_ := Aside0.mk (Kd.N_lower (Kd.N_mono (ok' := fun k_ => (P0_ k_ ∨ w.heap.size ≤ k_) ∧ some k_ ≠ (.slice Ao42 x4_1.length co42 : Value).ownBlock) (Kd.S_N (Kd.S_bound ho0)) (fun k_ hk_ => ⟨(.inr (Nat.le_trans (below_size (by repeat (first | (with_reducible first | exact HB.out | apply below_alloc | apply pw_below_drewN | apply below_drew1) | exact HB.out))) hk_.2.1)), (Kd.fresh' (Kd.N_lt (by (with_reducible repeat (first | apply Kd.N_alloc | apply Kd.N_drewN | apply Kd.N_drew)); exact HO_4.out)) k_ hk_.2.1)⟩)) (below_size (by repeat (first | (with_reducible first | exact HB.out | apply below_alloc | apply pw_below_drewN | apply below_drew1) | exact HB.out)))); have n3_ := Aside0.mk (below_step (by repeat (first | (with_reducible first | exact HB.out | apply below_alloc | apply pw_below_drewN | apply below_drew1) | exact HB.out)) hb); clear HO_0; clear HO_4; clear HB; have HO_0 := n0_; have HO_4 := n1_; have HO802 := n2_; have HB := n3_; clear n0_ n1_ n2_ n3_; (try clear hb); (try clear hb2); (try clear hk); (try clear hi); (try clear ho0)))
    go_ret2
    exact ⟨_, by first | rfl | (simp [errW_none, errW_some] <;> rfl) | (simp [*, errW_none, errW_some] <;> rfl), by (with_reducible repeat (first | apply Kd.N_alloc | apply Kd.N_drewN | apply Kd.N_drew)); exact Kd.N_mono HO802.out (fun _ hk => hk.1), by repeat (first | (with_reducible first | exact HB.out | apply below_alloc | apply pw_below_drewN | apply below_drew1) | exact HB.out)⟩

end Go.Proofs.Ytfnbodjmmkjlcaa.H
end
section
namespace Go.Proofs.Ytfnbodjmmkjlcaa.H
open Go.RowKit Go.Proofs.YtfnbodjmmkjlcaaW.PrintWords Go.Proofs.YtfnbodjmmkjlcaaW.PrintLast Go.Proofs.YtfnbodjmmkjlcaaW.PrintMore
attribute [local go_sem] max2_int min2_int max_two min_two max_three min_three max_four min_four   -- for this text's walks alone
set_option linter.unusedVariables false
set_option linter.unusedSimpArgs false

def jalousieref11_Reverse.l0 : Nat → List (S44) → List (S44) → Int → Option ((List (S44)) × Int)
 | 0, _, _, _ => none
 | k + 1, x0, x5, x6 => if x6 < (x0.length : Int) then (if 0 ≤ x6 then ((jalousieref08_Invert.f k ((rd_T44 x0 x6).f4)).bind fun bt825 => (if x5.length < 2513169434916 then (jalousieref11_Reverse.l0 k x0 (x5 ++ [(⟨(rd_T44 x0 x6).f2, (rd_T44 x0 x6).f3, (rd_T44 x0 x6).f0, (rd_T44 x0 x6).f1, bt825.1⟩ : S44)]) (wrap64 (x6 + 1))) else (none))) else (none)) else (some (x5, 0))
def jalousieref11_Reverse.f (k : Nat) (l0 : List (S44)) : Option ((List (S44)) × Int) := (jalousieref09_Check.f k l0).bind fun t820 => (if t820 = 0 then (jalousieref11_Reverse.l0 k l0 (([] : List (S44))) 0) else (some (([] : List (S44)), t820)))
def jalousieref11_Reverse.T9 : Bool × List (List Nat × List Nat) := (true, [([], []), ([], []), ([], []), ([1, 2], [1, 2]), ([3], [3]), ([4], [4]), ([], []), ([], []), ([6, 7], [6, 7]), ([8], [8]), ([9], [9]), ([], []), ([], []), ([11, 12], [11, 12]), ([13], [13]), ([14], [14]), ([], []), ([], []), ([16, 17], [16, 17]), ([18], [18]), ([19], [19]), ([], []), ([5, 10, 15, 20, 21], [5, 10, 15, 20, 21]), ([22], [22]), ([0, 23], [0, 23]), ([24, 24, 0, 1, 2, 3, 4, 5, 6, 7, 8, 9, 10, 11, 12, 13, 14, 15, 16, 17, 18, 19, 20, 21, 22, 23, 24], [0, 24])])
def jalousieref11_Reverse.B9 : List Nat := [0, 0, 0, 6, 14, 30, 0, 0, 192, 448, 960, 0, 0, 6144, 14336, 30720, 0, 0, 196608, 458752, 983040, 0, 4194302, 8388606, 16777215, 33554431]
theorem jalousieref11_Reverse.tab9 : rtab .any (opsOf Try.f39 9) = jalousieref11_Reverse.T9 := by kernel_rfl
theorem jalousieref11_Reverse.bits9 : waitsOk jalousieref11_Reverse.T9.2 jalousieref11_Reverse.B9 = true := by kernel_rfl
set_option maxHeartbeats 8000000 in
set_option maxRecDepth 100000 in
theorem jalousieref11_Reverse.calls (k : Nat) (P0_ : Nat → Prop) (A0 : Option Addr) (c0 : Nat) (l0 : List (S44)) (r1 : List (S44)) (r2 : Int) (w : World) (hs0 : Kd.V k44 44 w w.heap.size (fun k_ => P0_ k_) (.slice A0 l0.length c0) l0) (h : jalousieref11_Reverse.f k l0 = some (r1, r2)) :
  Calls Try.prog 39 #[.slice A0 l0.length c0] w fun e w' => ∃ v0_ : Value, e = .returned (.tuple #[v0_, .int .i64 r2]) ∧ Kd.N k44 44 w' w.heap.size (fun k_ => (P0_ k_ ∨ w.heap.size ≤ k_)) v0_ r1 ∧ Below w.heap.size w w' := by
 have hu44 := Try.underlying44
 have HO0 := Aside0.mk (show Kd.V k44 44 w w.heap.size (fun k_ => (P0_ k_ ∨ w.heap.size ≤ k_)) (.slice A0 l0.length c0) l0 from Kd.V_mono hs0 (fun k_ hk => .inl hk))
 have HB := Aside0.mk (Below.refl w.heap.size w)
 have H : ((jalousieref09_Check.f k l0).bind fun t820 => (if t820 = 0 then (jalousieref11_Reverse.l0 k l0 (([] : List (S44))) 0) else (some (([] : List (S44)), t820)))) = some (r1, r2) := h
 clear h
 replace H := Option.bind_eq_some_iff.mp H
 obtain ⟨t820, A20, H⟩ := H
 replace H : (if t820 = 0 then (jalousieref11_Reverse.l0 k l0 (([] : List (S44))) 0) else (some (([] : List (S44)), t820))) = some (r1, r2) := H
 have A2 := Aside0.mk A20
 clear A20
 by_cases c3 : t820 = 0
 ·rw [if_pos c3] at H
  have c3b0 : (t820 == 0) = true := beq_iff_eq.mpr c3
  have c3b1 : (t820 != 0) = false := bne_eq_false_iff_eq.mpr c3
  clear c3
  obtain ⟨y821, hy821⟩ : ∃ y_ : List (S44), y_ = (([] : List (S44))) := ⟨_, rfl⟩
  replace H : (jalousieref11_Reverse.l0 k l0 y821 0) = some (r1, r2) := by first | (rw [hy821]; with_reducible exact H) | (have H2_ := (Option.bind_some _ _).symm.trans H; rw [hy821]; with_reducible exact H2_) | (have H2_ := (Option.bind_some _ _).symm.trans H; with_reducible exact H2_) | with_reducible exact H | (rw [hy821]; exact H) | exact H
  have Ny821 := Aside0.mk hy821
  clear hy821
  have H' := Aside0.mk H
  clear H
  go_enter Try.func39, Try.ntmps39
  go_wp2_with (first | ((with_reducible refine gate_callee (f := 19) rfl ?_); refine goesL_ (some 10) rfl rfl Try.func19 (by kernel_rfl) rfl #[.slice A0 l0.length c0] rfl (by (try simp only [List.map_toArray, List.map_cons, List.map_nil]); first | done | rfl | (simp only [List.length_drop, List.length_take]; rfl)) ?_; (with_reducible refine (jalousieref09_Check.calls k _ _ l0 t820 _ ?side1 ?side2 A2.out).mono ?_); (case side1 => repeat (first | exact (Kd.V_reads' HO0.out).2.2 | (with_reducible refine Kd.C_alloc ?_ _) | (with_reducible refine Kd.C_drewN ?_ _) | (with_reducible refine Kd.C_drew ?_))); (case side2 => exact (Kd.V_reads' HO0.out).2.1); rintro e w4 ⟨rfl, hb⟩; refine ⟨_, rfl, ?_⟩; have n0_ := Aside0.mk (Kd.V_below (by (with_reducible repeat (first | apply Kd.V_alloc | apply Kd.V_drewN | apply Kd.V_drew)); exact HO0.out) hb); have n1_ := Aside0.mk (below_step (by repeat (first | (with_reducible first | exact HB.out | apply below_alloc | apply pw_below_drewN | apply below_drew1) | exact HB.out)) hb); clear HO0; clear HB; have HO0 := n0_; have HB := n1_; clear n0_ n1_; (try clear hb); (try clear hb2); (try clear hk); (try clear hi)) | ((with_reducible refine gate_dst (N := 14) rfl ?_); refine Kd.N_lit k44 _ 44 ?hg (N' := 14) ?hd (xs := ([] : List (S44))) (inner := []) (ok := (fun k_ => (P0_ k_ ∨ w.heap.size ≤ k_))) (okp := (fun k_ => (P0_ k_ ∨ w.heap.size ≤ k_))) ?hr ?hp (fun _ hk => hk) ((show ∀ k_, w4.heap.size ≤ k_ → (fun k_ => (P0_ k_ ∨ w.heap.size ≤ k_)) k_ from fun k_ hk => (.inr (Nat.le_trans (below_size (by repeat (first | (with_reducible first | exact HB.out | apply below_alloc | apply pw_below_drewN | apply below_drew1) | exact HB.out))) hk))) _ (Nat.le_refl _)) (Below.refl _ _) (Nat.le_refl _) (by simp) ?_; (case hd => rfl); (case hg => rfl); (case hr => first | (go_simp; done) | (go_simp; rfl)); (case hp => exact (Reps.none _ _)); intro v822 w5 ho6 hb hg_ hnew_; clear hg_ hnew_; (first | rw [← Ny821.out] at ho6 | (simp only [Int.reduceToNat] at ho6; rw [← Ny821.out] at ho6)); have n0_ := Aside0.mk (Kd.V_elder' (by (with_reducible repeat (first | apply Kd.V_alloc | apply Kd.V_drewN | apply Kd.V_drew)); exact HO0.out) (by first | exact Kd.S_base ho6 | exact Kd.R_base ho6 | exact Kd.N_base ho6) hb); have n1_ := Aside0.mk (Kd.N_lower ho6 (below_size (by repeat (first | (with_reducible first | exact HB.out | apply below_alloc | apply pw_below_drewN | apply below_drew1) | exact HB.out)))); have n2_ := Aside0.mk (below_step (by repeat (first | (with_reducible first | exact HB.out | apply below_alloc | apply pw_below_drewN | apply below_drew1) | exact HB.out)) hb); clear HO0; clear HB; have HO0 := n0_; have HO823 := n1_; have HB := n2_; clear n0_ n1_ n2_; clear hb ho6))
  go_loopg [5, 6] k (fun kq v5 v6 w' => ∃ (x5_1 : List (S44)) (x6_1 : Int), v6 = .int .i64 x6_1 ∧ Aside0 (jalousieref11_Reverse.l0 kq l0 x5_1 x6_1 = some (r1, r2)) ∧ Aside0 (kq ≤ k) ∧ Aside0 (Kd.V k44 44 w' w.heap.size (fun k_ => (P0_ k_ ∨ w.heap.size ≤ k_) ∧ some k_ ≠ (v5 : Value).ownBlock) (.slice A0 l0.length c0) l0) ∧ Aside0 (Kd.N k44 44 w' w.heap.size (fun k_ => (P0_ k_ ∨ w.heap.size ≤ k_)) v5 x5_1) ∧ Aside0 (Below w.heap.size w w'))
  case atStart => exact ⟨(y821), (0), (by first | rfl | (simp; done) | (simp [*]; done)), H', ⟨Nat.le_refl _⟩, ⟨by (with_reducible repeat (first | apply Kd.V_alloc | apply Kd.V_drewN | apply Kd.V_drew)); exact HO0.out⟩, ⟨by (with_reducible repeat (first | apply Kd.N_alloc | apply Kd.N_drewN | apply Kd.N_drew)); exact HO823.out⟩, ⟨by repeat (first | (with_reducible first | exact HB.out | apply below_alloc | apply pw_below_drewN | apply below_drew1) | exact HB.out)⟩⟩
  case round =>
   clear H'
   try clear c1
   try clear p2
   try clear c3
   try clear c3b0
   try clear c3b1
   obtain ⟨x5_1, x6_1, rfl, HA, HK1, HO_0, HO_5, HB⟩ := hrel
   cases gk with
   | zero => exact absurd HA.out (by simp [jalousieref11_Reverse.l0])
   | succ k1 =>
    have H := HA.out
    clear HA
    simp only [jalousieref11_Reverse.l0] at H
    by_cases c7 : x6_1 < (l0.length : Int)
    ·rw [if_pos c7] at H
     have c7b0 : decide (x6_1 < (l0.length : Int)) = true := decide_eq_true c7
     clear c7
     by_cases c8 : 0 ≤ x6_1
     ·rw [if_pos c8] at H
      have c8b0 : decide (0 ≤ x6_1) = true := decide_eq_true c8
      clear c8
      replace H := Option.bind_eq_some_iff.mp H
      obtain ⟨⟨t825, t828⟩, A90, H⟩ := H
      replace H : (if x5_1.length < 2513169434916 then (jalousieref11_Reverse.l0 k1 l0 (x5_1 ++ [(⟨(rd_T44 l0 x6_1).f2, (rd_T44 l0 x6_1).f3, (rd_T44 l0 x6_1).f0, (rd_T44 l0 x6_1).f1, t825⟩ : S44)]) (wrap64 (x6_1 + 1))) else (none)) = some (r1, r2) := H
      have A9 := Aside0.mk A90
      clear A90
      by_cases c10 : x5_1.length < 2513169434916
      ·rw [if_pos c10] at H
       have LMc10 := Aside0.mk c10
       clear c10
       obtain ⟨y833, hy833⟩ : ∃ y_ : List (S44), y_ = (x5_1 ++ [(⟨(rd_T44 l0 x6_1).f2, (rd_T44 l0 x6_1).f3, (rd_T44 l0 x6_1).f0, (rd_T44 l0 x6_1).f1, t825⟩ : S44)]) := ⟨_, rfl⟩
       replace H : (jalousieref11_Reverse.l0 k1 l0 y833 (wrap64 (x6_1 + 1))) = some (r1, r2) := by first | (rw [hy833]; with_reducible exact H) | (have H2_ := (Option.bind_some _ _).symm.trans H; rw [hy833]; with_reducible exact H2_) | (have H2_ := (Option.bind_some _ _).symm.trans H; with_reducible exact H2_) | with_reducible exact H | (rw [hy833]; exact H) | exact H
       have Ny833 := Aside0.mk hy833
       clear hy833
       have H' := Aside0.mk H
       clear H
       have p824 : 0 ≤ (x6_1 : Int) := of_decide_eq_true (by first | (with_reducible assumption) | assumption)
       have q824 : x6_1 < (l0.length : Int) := of_decide_eq_true (by first | (with_reducible assumption) | assumption)
       obtain ⟨ad824, A824_4, c824_4, e824, hx824_0, hx824_1, hx824_2, hx824_3, hx824_4, hl824_4, hi824_4⟩ := at_T44 (Kd.V_reads' HO_0.out).2.2 x6_1 p824 q824
       cases e824
       obtain ⟨ce824, hce824, hMe824, hcc824⟩ := Kd.V_get HO_0.out z44 x6_1 p824 (by first | exact q824 | exact of_decide_eq_true (by first | (with_reducible assumption) | assumption) | (have e_ := (Kd.V_reads' HO_0.out).1; omega))
       obtain ⟨ua824_4, uc824_4, rfl, ul824_4, ge824_4⟩ := k44_openF hMe824
       have hv824_4 := hcc824 4 _ rfl
       rw [add_field _ _ 4 (by omega)] at hv824_4
       replace hv824_4 := Option.some.inj (hv824_4.symm.trans hx824_4)
       injection hv824_4 with hva_ hvn_ hvc_
       rw [hva_] at ge824_4
       rw [hvc_] at ul824_4
       have HL824_4 := Aside0.mk (show Kd.V k47 47 _ w.heap.size _ _ ((rd_T44 l0 x6_1).f4) from Kd.V_mk ul824_4 ge824_4)
       clear hva_ hvn_ hvc_ ge824_4 ul824_4
       clear hcc824 hce824
       have HR824_4 := Aside0.mk hi824_4
       have HC824_4 := Aside0.mk hl824_4
       clear hi824_4 hl824_4
       replace p824 := eq_true p824
       replace q824 := eq_true q824
       try go_wp2_with (first | ((with_reducible refine gate_callee (f := 66) rfl ?_); refine goesL_ (some 27) rfl rfl Try.func66 (by kernel_rfl) rfl #[.slice A824_4 ((rd_T44 l0 x6_1).f4).length c824_4] rfl (by (try simp only [List.map_toArray, List.map_cons, List.map_nil]); first | done | rfl | (simp only [List.length_drop, List.length_take]; rfl)) ?_; (with_reducible refine (jalousieref08_Invert.calls k1 (fun k_ => ((P0_ k_ ∨ w.heap.size ≤ k_) ∧ some k_ ≠ (u5 : Value).ownBlock)) _ _ ((rd_T44 l0 x6_1).f4) t825 t828 _ ?side1 A9.out).mono ?_); (case side1 => exact HL824_4.out); rintro e w11 ⟨v826, rfl, ho0, hb⟩; refine ⟨_, rfl, ?_⟩; have n0_ := Aside0.mk (Kd.V_elder' (by (with_reducible repeat (first | apply Kd.V_alloc | apply Kd.V_drewN | apply Kd.V_drew)); exact HO_0.out) (by first | exact Kd.S_base ho0 | exact Kd.R_base ho0 | exact Kd.N_base ho0) hb); have n1_ := Aside0.mk (Kd.N_elder' (by (with_reducible repeat (first | apply Kd.N_alloc | apply Kd.N_drewN | apply Kd.N_drew)); exact HO_5.out) (by first | exact Kd.S_base ho0 | exact Kd.R_base ho0 | exact Kd.N_base ho0) hb); have n2_ := Aside0.mk (Kd.V_elder' (by (with_reducible repeat (first | apply Kd.V_alloc | apply Kd.V_drewN | apply Kd.V_drew)); exact HL824_4.out) (by first | exact Kd.S_base ho0 | exact Kd.R_base ho0 | exact Kd.N_base ho0) hb); have n3_ := Aside0.mk (Kd.N_lower (Kd.N_mono (ok' := fun k_ => (P0_ k_ ∨ w.heap.size ≤ k_) ∧ some k_ ≠ (u5 : Value).ownBlock) ho0 (fun k_ hk_ => ⟨Or.elim hk_ (fun hs_ => hs_.1) (fun hn_ => (.inr (Nat.le_trans (below_size (by repeat (first | (with_reducible first | exact HB.out | apply below_alloc | apply pw_below_drewN | apply below_drew1) | exact HB.out))) hn_))), Or.elim hk_ (fun hs_ => hs_.2) (fun hn_ => (Kd.fresh' (Kd.N_lt (by (with_reducible repeat (first | apply Kd.N_alloc | apply Kd.N_drewN | apply Kd.N_drew)); exact HO_5.out)) k_ hn_))⟩)) (below_size (by repeat (first | (with_reducible first | exact HB.out | apply below_alloc | apply pw_below_drewN | apply below_drew1) | exact HB.out)))); have n4_ := Aside0.mk (Kd.C_below (by repeat (first | (with_reducible exact HR824_4.out) | (with_reducible refine Kd.C_alloc ?_ _) | (with_reducible refine Kd.C_drewN ?_ _) | (with_reducible refine Kd.C_drew ?_) | exact HR824_4.out)) hb); have n5_ := Aside0.mk (below_step (by repeat (first | (with_reducible first | exact HB.out | apply below_alloc | apply pw_below_drewN | apply below_drew1) | exact HB.out)) hb); clear HO_0; clear HO_5; clear HL824_4; clear HR824_4; clear HB; have HO_0 := n0_; have HO_5 := n1_; have HL824_4 := n2_; have HO827 := n3_; have HR824_4 := n4_; have HB := n5_; clear n0_ n1_ n2_ n3_ n4_ n5_; (try clear hb); (try clear hb2); (try clear hk); (try clear hi); (try clear ho0)))
       have n0_ := Aside0.mk (Kd.V_drew HO_0.out)
       have n1_ := Aside0.mk (Kd.N_drew HO_5.out)
       have n2_ := Aside0.mk (Kd.V_drew HL824_4.out)
       have n3_ := Aside0.mk (Kd.N_drew HO827.out)
       have n4_ := Aside0.mk (Kd.C_drew HR824_4.out)
       have n5_ := Aside0.mk (below_drew1 HB.out)
       clear HO_0
       clear HO_5
       clear HL824_4
       clear HO827
       clear HR824_4
       clear HB
       have HO_0 := n0_
       have HO_5 := n1_
       have HL824_4 := n2_
       have HO827 := n3_
       have HR824_4 := n4_
       have HB := n5_
       clear n0_ n1_ n2_ n3_ n4_ n5_
       have p829 : 0 ≤ (x6_1 : Int) := of_decide_eq_true (by first | (with_reducible assumption) | assumption)
       have q829 : x6_1 < (l0.length : Int) := of_decide_eq_true (by first | (with_reducible assumption) | assumption)
       obtain ⟨ad829, A829_4, c829_4, e829, hx829_0, hx829_1, hx829_2, hx829_3, hx829_4, hl829_4, hi829_4⟩ := at_T44 (Kd.V_reads' HO_0.out).2.2 x6_1 p829 q829
       obtain rfl : ad824 = ad829 := (by injection e829)
       obtain ⟨ce829, hce829, hMe829, hcc829⟩ := Kd.V_get HO_0.out z44 x6_1 p829 (by first | exact q829 | exact of_decide_eq_true (by first | (with_reducible assumption) | assumption) | (have e_ := (Kd.V_reads' HO_0.out).1; omega))
       obtain ⟨ua829_4, uc829_4, rfl, ul829_4, ge829_4⟩ := k44_openF hMe829
       have hv829_4 := hcc829 4 _ rfl
       rw [add_field _ _ 4 (by omega)] at hv829_4
       replace hv829_4 := Option.some.inj (hv829_4.symm.trans hx829_4)
       injection hv829_4 with hva_ hvn_ hvc_
       rw [hva_] at ge829_4
       rw [hvc_] at ul829_4
       have HL829_4 := Aside0.mk (show Kd.V k47 47 _ w.heap.size _ _ ((rd_T44 l0 x6_1).f4) from Kd.V_mk ul829_4 ge829_4)
       clear hva_ hvn_ hvc_ ge829_4 ul829_4
       clear hcc829 hce829
       have HR829_4 := Aside0.mk hi829_4
       have HC829_4 := Aside0.mk hl829_4
       clear hi829_4 hl829_4
       replace p829 := eq_true p829
       replace q829 := eq_true q829
       have p830 : 0 ≤ (x6_1 : Int) := of_decide_eq_true (by first | (with_reducible assumption) | assumption)
       have q830 : x6_1 < (l0.length : Int) := of_decide_eq_true (by first | (with_reducible assumption) | assumption)
       obtain ⟨ad830, A830_4, c830_4, e830, hx830_0, hx830_1, hx830_2, hx830_3, hx830_4, hl830_4, hi830_4⟩ := at_T44 (Kd.V_reads' HO_0.out).2.2 x6_1 p830 q830
       obtain rfl : ad824 = ad830 := (by injection e830)
       obtain ⟨ce830, hce830, hMe830, hcc830⟩ := Kd.V_get HO_0.out z44 x6_1 p830 (by first | exact q830 | exact of_decide_eq_true (by first | (with_reducible assumption) | assumption) | (have e_ := (Kd.V_reads' HO_0.out).1; omega))
       obtain ⟨ua830_4, uc830_4, rfl, ul830_4, ge830_4⟩ := k44_openF hMe830
       have hv830_4 := hcc830 4 _ rfl
       rw [add_field _ _ 4 (by omega)] at hv830_4
       replace hv830_4 := Option.some.inj (hv830_4.symm.trans hx830_4)
       injection hv830_4 with hva_ hvn_ hvc_
       rw [hva_] at ge830_4
       rw [hvc_] at ul830_4
       have HL830_4 := Aside0.mk (show Kd.V k47 47 _ w.heap.size _ _ ((rd_T44 l0 x6_1).f4) from Kd.V_mk ul830_4 ge830_4)
       clear hva_ hvn_ hvc_ ge830_4 ul830_4
       clear hcc830 hce830
       have HR830_4 := Aside0.mk hi830_4
       have HC830_4 := Aside0.mk hl830_4
       clear hi830_4 hl830_4
       replace p830 := eq_true p830
       replace q830 := eq_true q830
       have ea_ := Option.some.inj (hx829_4.symm.trans hx830_4)
       injection ea_ with ea_ en_ ec_
       subst ea_
       subst ec_
       clear en_
       have p831 : 0 ≤ (x6_1 : Int) := of_decide_eq_true (by first | (with_reducible assumption) | assumption)
       have q831 : x6_1 < (l0.length : Int) := of_decide_eq_true (by first | (with_reducible assumption) | assumption)
       obtain ⟨ad831, A831_4, c831_4, e831, hx831_0, hx831_1, hx831_2, hx831_3, hx831_4, hl831_4, hi831_4⟩ := at_T44 (Kd.V_reads' HO_0.out).2.2 x6_1 p831 q831
       obtain rfl : ad824 = ad831 := (by injection e831)
       obtain ⟨ce831, hce831, hMe831, hcc831⟩ := Kd.V_get HO_0.out z44 x6_1 p831 (by first | exact q831 | exact of_decide_eq_true (by first | (with_reducible assumption) | assumption) | (have e_ := (Kd.V_reads' HO_0.out).1; omega))
       obtain ⟨ua831_4, uc831_4, rfl, ul831_4, ge831_4⟩ := k44_openF hMe831
       have hv831_4 := hcc831 4 _ rfl
       rw [add_field _ _ 4 (by omega)] at hv831_4
       replace hv831_4 := Option.some.inj (hv831_4.symm.trans hx831_4)
       injection hv831_4 with hva_ hvn_ hvc_
       rw [hva_] at ge831_4
       rw [hvc_] at ul831_4
       have HL831_4 := Aside0.mk (show Kd.V k47 47 _ w.heap.size _ _ ((rd_T44 l0 x6_1).f4) from Kd.V_mk ul831_4 ge831_4)
       clear hva_ hvn_ hvc_ ge831_4 ul831_4
       clear hcc831 hce831
       have HR831_4 := Aside0.mk hi831_4
       have HC831_4 := Aside0.mk hl831_4
       clear hi831_4 hl831_4
       replace p831 := eq_true p831
       replace q831 := eq_true q831
       have ea_ := Option.some.inj (hx829_4.symm.trans hx831_4)
       injection ea_ with ea_ en_ ec_
       subst ea_
       subst ec_
       clear en_
       have p832 : 0 ≤ (x6_1 : Int) := of_decide_eq_true (by first | (with_reducible assumption) | assumption)
       have q832 : x6_1 < (l0.length : Int) := of_decide_eq_true (by first | (with_reducible assumption) | assumption)
       obtain ⟨ad832, A832_4, c832_4, e832, hx832_0, hx832_1, hx832_2, hx832_3, hx832_4, hl832_4, hi832_4⟩ := at_T44 (Kd.V_reads' HO_0.out).2.2 x6_1 p832 q832
       obtain rfl : ad824 = ad832 := (by injection e832)
       obtain ⟨ce832, hce832, hMe832, hcc832⟩ := Kd.V_get HO_0.out z44 x6_1 p832 (by first | exact q832 | exact of_decide_eq_true (by first | (with_reducible assumption) | assumption) | (have e_ := (Kd.V_reads' HO_0.out).1; omega))
       obtain ⟨ua832_4, uc832_4, rfl, ul832_4, ge832_4⟩ := k44_openF hMe832
       have hv832_4 := hcc832 4 _ rfl
       rw [add_field _ _ 4 (by omega)] at hv832_4
       replace hv832_4 := Option.some.inj (hv832_4.symm.trans hx832_4)
       injection hv832_4 with hva_ hvn_ hvc_
       rw [hva_] at ge832_4
       rw [hvc_] at ul832_4
       have HL832_4 := Aside0.mk (show Kd.V k47 47 _ w.heap.size _ _ ((rd_T44 l0 x6_1).f4) from Kd.V_mk ul832_4 ge832_4)
       clear hva_ hvn_ hvc_ ge832_4 ul832_4
       clear hcc832 hce832
       have HR832_4 := Aside0.mk hi832_4
       have HC832_4 := Aside0.mk hl832_4
       clear hi832_4 hl832_4
       replace p832 := eq_true p832
       replace q832 := eq_true q832
       have ea_ := Option.some.inj (hx829_4.symm.trans hx832_4)
       injection ea_ with ea_ en_ ec_
       subst ea_
       subst ec_
       clear en_
       obtain ⟨Ao13, co13, eo13⟩ := Kd.N_slice HO827.out
       (first | subst eo13 | (injection eo13 with f1_ f2_ f3_; have f4_ := f1_.symm; have f5_ := f3_.symm; clear f1_ f2_ f3_; subst f4_; subst f5_))
       refine start_ (n := 26) (S := fun w' => w'.cell? (ad824.add ((x6_1).toNat * 5)) = some (.int .i64 ((rd_T44 l0 x6_1).f0)) ∧ w'.cell? ⟨(ad824.add ((x6_1).toNat * 5)).block, (ad824.add ((x6_1).toNat * 5)).off + 1, none⟩ = some (.int .i64 ((rd_T44 l0 x6_1).f1)) ∧ w'.cell? ⟨(ad824.add ((x6_1).toNat * 5)).block, (ad824.add ((x6_1).toNat * 5)).off + 2, none⟩ = some (.int .i64 ((rd_T44 l0 x6_1).f2)) ∧ w'.cell? ⟨(ad824.add ((x6_1).toNat * 5)).block, (ad824.add ((x6_1).toNat * 5)).off + 3, none⟩ = some (.int .i64 ((rd_T44 l0 x6_1).f3)) ∧ w'.cell? ⟨(ad824.add ((x6_1).toNat * 5)).block, (ad824.add ((x6_1).toNat * 5)).off + 4, none⟩ = some (.slice A829_4 ((rd_T44 l0 x6_1).f4).length c829_4) ∧ w'.cell? (ad824.add ((x6_1).toNat * 5)) = some (.int .i64 ((rd_T44 l0 x6_1).f0)) ∧ w'.cell? ⟨(ad824.add ((x6_1).toNat * 5)).block, (ad824.add ((x6_1).toNat * 5)).off + 1, none⟩ = some (.int .i64 ((rd_T44 l0 x6_1).f1)) ∧ w'.cell? ⟨(ad824.add ((x6_1).toNat * 5)).block, (ad824.add ((x6_1).toNat * 5)).off + 2, none⟩ = some (.int .i64 ((rd_T44 l0 x6_1).f2)) ∧ w'.cell? ⟨(ad824.add ((x6_1).toNat * 5)).block, (ad824.add ((x6_1).toNat * 5)).off + 3, none⟩ = some (.int .i64 ((rd_T44 l0 x6_1).f3)) ∧ w'.cell? ⟨(ad824.add ((x6_1).toNat * 5)).block, (ad824.add ((x6_1).toNat * 5)).off + 4, none⟩ = some (.slice A829_4 ((rd_T44 l0 x6_1).f4).length c829_4) ∧ w'.cell? (ad824.add ((x6_1).toNat * 5)) = some (.int .i64 ((rd_T44 l0 x6_1).f0)) ∧ w'.cell? ⟨(ad824.add ((x6_1).toNat * 5)).block, (ad824.add ((x6_1).toNat * 5)).off + 1, none⟩ = some (.int .i64 ((rd_T44 l0 x6_1).f1)) ∧ w'.cell? ⟨(ad824.add ((x6_1).toNat * 5)).block, (ad824.add ((x6_1).toNat * 5)).off + 2, none⟩ = some (.int .i64 ((rd_T44 l0 x6_1).f2)) ∧ w'.cell? ⟨(ad824.add ((x6_1).toNat * 5)).block, (ad824.add ((x6_1).toNat * 5)).off + 3, none⟩ = some (.int .i64 ((rd_T44 l0 x6_1).f3)) ∧ w'.cell? ⟨(ad824.add ((x6_1).toNat * 5)).block, (ad824.add ((x6_1).toNat * 5)).off + 4, none⟩ = some (.slice A829_4 ((rd_T44 l0 x6_1).f4).length c829_4) ∧ w'.cell? (ad824.add ((x6_1).toNat * 5)) = some (.int .i64 ((rd_T44 l0 x6_1).f0)) ∧ w'.cell? ⟨(ad824.add ((x6_1).toNat * 5)).block, (ad824.add ((x6_1).toNat * 5)).off + 1, none⟩ = some (.int .i64 ((rd_T44 l0 x6_1).f1)) ∧ w'.cell? ⟨(ad824.add ((x6_1).toNat * 5)).block, (ad824.add ((x6_1).toNat * 5)).off + 2, none⟩ = some (.int .i64 ((rd_T44 l0 x6_1).f2)) ∧ w'.cell? ⟨(ad824.add ((x6_1).toNat * 5)).block, (ad824.add ((x6_1).toNat * 5)).off + 3, none⟩ = some (.int .i64 ((rd_T44 l0 x6_1).f3)) ∧ w'.cell? ⟨(ad824.add ((x6_1).toNat * 5)).block, (ad824.add ((x6_1).toNat * 5)).off + 4, none⟩ = some (.slice A829_4 ((rd_T44 l0 x6_1).f4).length c829_4)) (ds := [23, 24]) (Sq.bl 26 0) (by kernel_rfl) rfl rfl ⟨hx829_0, hx829_1, hx829_2, hx829_3, hx829_4, hx830_0, hx830_1, hx830_2, hx830_3, hx830_4, hx831_0, hx831_1, hx831_2, hx831_3, hx831_4, hx832_0, hx832_1, hx832_2, hx832_3, hx832_4⟩ (fun hHeld => ?_); refine with_tabW jalousieref11_Reverse.tab9 jalousieref11_Reverse.bits9 (fun HT_ HW_ => ?_)
       generalize w11.drew = w12 at HO_0 HO_5 HL824_4 HO827 HR824_4 HB HL829_4 HL830_4 HL831_4 HL832_4 HR829_4 HR830_4 HR831_4 HR832_4 hx829_0 hx829_1 hx829_2 hx829_3 hx829_4 hx830_0 hx830_1 hx830_2 hx830_3 hx830_4 hx831_0 hx831_1 hx831_2 hx831_3 hx831_4 hx832_0 hx832_1 hx832_2 hx832_3 hx832_4 hHeld ⊢
       refine Sq.pu (v := ?_) (a' := ?_) 0 30 (Sq.bl 26 1) (any_of HT_.out (by kernel_rfl)) rfl rfl (fun _ _ _ h => h) (by rfl) ?_ ?_ ?_; rotate_left; (· intro w'; go_simp; with_reducible rfl); rotate_left; (· simp only [Act.put,zp1,zp2,zp3,zp4,zp5]; rfl)
       refine Sq.pu (v := ?_) (a' := ?_) 1 31 (Sq.bl 26 3) (any_of HT_.out (by kernel_rfl)) rfl rfl (fun _ _ _ h => h) (by rfl) ?_ ?_ ?_; rotate_left; (· intro w'; go_simp; with_reducible rfl); rotate_left; (· simp only [Act.put,zp1,zp2,zp3,zp4,zp5]; rfl)
       refine Sq.pu (v := ?_) (a' := ?_) 2 32 (Sq.bl 26 7) (any_of HT_.out (by kernel_rfl)) rfl rfl (fun _ _ _ h => h) (by rfl) ?_ ?_ ?_; rotate_left; (· intro w'; go_simp; with_reducible rfl); rotate_left; (· simp only [Act.put,zp1,zp2,zp3,zp4,zp5]; rfl)
       refine Sq.pu (v := ?_) (a' := ?_) 3 33 (Sq.bl 26 15) (any_of HT_.out (by kernel_rfl)) rfl rfl (fun _ _ _ h => h) (by rfl) ?_ ?_ ?_; rotate_left; (· intro w'; go_simp; with_reducible rfl); rotate_left; (· simp only [Act.put,zp1,zp2,zp3,zp4,zp5]; rfl)
       refine Sq.pu (v := ?_) (a' := ?_) 4 34 (Sq.bl 26 31) (any_of HT_.out (by kernel_rfl)) rfl rfl (fun _ _ _ h => h) (by rfl) ?_ ?_ ?_; rotate_left; (· intro w'; go_simp; with_reducible rfl); rotate_left; (· simp only [Act.put,zp1,zp2,zp3,zp4,zp5]; rfl)
       refine Sq.pu (v := ?_) (a' := ?_) 6 36 (Sq.bl 26 95) (any_of HT_.out (by kernel_rfl)) rfl rfl (fun _ _ _ h => h) (by rfl) ?_ ?_ ?_; rotate_left; (· intro w'; go_simp; with_reducible rfl); rotate_left; (· simp only [Act.put,zp1,zp2,zp3,zp4,zp5]; rfl)
       refine Sq.pu (v := ?_) (a' := ?_) 7 37 (Sq.bl 26 223) (any_of HT_.out (by kernel_rfl)) rfl rfl (fun _ _ _ h => h) (by rfl) ?_ ?_ ?_; rotate_left; (· intro w'; go_simp; with_reducible rfl); rotate_left; (· simp only [Act.put,zp1,zp2,zp3,zp4,zp5]; rfl)
       refine Sq.pu (v := ?_) (a' := ?_) 8 38 (Sq.bl 26 479) (any_of HT_.out (by kernel_rfl)) rfl rfl (fun _ _ _ h => h) (by rfl) ?_ ?_ ?_; rotate_left; (· intro w'; go_simp; with_reducible rfl); rotate_left; (· simp only [Act.put,zp1,zp2,zp3,zp4,zp5]; rfl)
       refine Sq.pu (v := ?_) (a' := ?_) 9 39 (Sq.bl 26 991) (any_of HT_.out (by kernel_rfl)) rfl rfl (fun _ _ _ h => h) (by rfl) ?_ ?_ ?_; rotate_left; (· intro w'; go_simp; with_reducible rfl); rotate_left; (· simp only [Act.put,zp1,zp2,zp3,zp4,zp5]; rfl)
       refine Sq.pu (v := ?_) (a' := ?_) 11 41 (Sq.bl 26 3039) (any_of HT_.out (by kernel_rfl)) rfl rfl (fun _ _ _ h => h) (by rfl) ?_ ?_ ?_; rotate_left; (· intro w'; go_simp; with_reducible rfl); rotate_left; (· simp only [Act.put,zp1,zp2,zp3,zp4,zp5]; rfl)
       refine Sq.pu (v := ?_) (a' := ?_) 12 42 (Sq.bl 26 7135) (any_of HT_.out (by kernel_rfl)) rfl rfl (fun _ _ _ h => h) (by rfl) ?_ ?_ ?_; rotate_left; (· intro w'; go_simp; with_reducible rfl); rotate_left; (· simp only [Act.put,zp1,zp2,zp3,zp4,zp5]; rfl)
       refine Sq.pu (v := ?_) (a' := ?_) 13 43 (Sq.bl 26 15327) (any_of HT_.out (by kernel_rfl)) rfl rfl (fun _ _ _ h => h) (by rfl) ?_ ?_ ?_; rotate_left; (· intro w'; go_simp; with_reducible rfl); rotate_left; (· simp only [Act.put,zp1,zp2,zp3,zp4,zp5]; rfl)
       refine Sq.pu (v := ?_) (a' := ?_) 14 44 (Sq.bl 26 31711) (any_of HT_.out (by kernel_rfl)) rfl rfl (fun _ _ _ h => h) (by rfl) ?_ ?_ ?_; rotate_left; (· intro w'; go_simp; with_reducible rfl); rotate_left; (· simp only [Act.put,zp1,zp2,zp3,zp4,zp5]; rfl)
       refine Sq.pu (v := ?_) (a' := ?_) 16 46 (Sq.bl 26 97247) (any_of HT_.out (by kernel_rfl)) rfl rfl (fun _ _ _ h => h) (by rfl) ?_ ?_ ?_; rotate_left; (· intro w'; go_simp; with_reducible rfl); rotate_left; (· simp only [Act.put,zp1,zp2,zp3,zp4,zp5]; rfl)
       refine Sq.pu (v := ?_) (a' := ?_) 17 47 (Sq.bl 26 228319) (any_of HT_.out (by kernel_rfl)) rfl rfl (fun _ _ _ h => h) (by rfl) ?_ ?_ ?_; rotate_left; (· intro w'; go_simp; with_reducible rfl); rotate_left; (· simp only [Act.put,zp1,zp2,zp3,zp4,zp5]; rfl)
       refine Sq.pu (v := ?_) (a' := ?_) 18 48 (Sq.bl 26 490463) (any_of HT_.out (by kernel_rfl)) rfl rfl (fun _ _ _ h => h) (by rfl) ?_ ?_ ?_; rotate_left; (· intro w'; go_simp; with_reducible rfl); rotate_left; (· simp only [Act.put,zp1,zp2,zp3,zp4,zp5]; rfl)
       refine Sq.pu (v := ?_) (a' := ?_) 19 49 (Sq.bl 26 1014751) (any_of HT_.out (by kernel_rfl)) rfl rfl (fun _ _ _ h => h) (by rfl) ?_ ?_ ?_; rotate_left; (· intro w'; go_simp; with_reducible rfl); rotate_left; (· simp only [Act.put,zp1,zp2,zp3,zp4,zp5]; rfl)
       refine Sq.pu (v := ?_) (a' := ?_) 21 51 (Sq.bl 26 3111903) (any_of HT_.out (by kernel_rfl)) rfl rfl (fun _ _ _ h => h) (by rfl) ?_ ?_ ?_; rotate_left; (· intro w'; go_simp; with_reducible rfl); rotate_left; (· simp only [Act.put,zp1,zp2,zp3,zp4,zp5]; rfl)
       refine take_ (i := 5) (N := some 35) (v := ?_) (a' := ?_) (Sq.bl 26 3111935) rfl rfl (take_ofW HT_.out HW_.out (by kernel_rfl)) (fun _ _ _ h => h) (Or.inl ⟨by rfl, ?_⟩) hHeld ?_ ?_
       rotate_left
       ·rintro w' ⟨s0, s1, s2, s3, s4, s5, s6, s7, s8, s9, s10, s11, s12, s13, s14, s15, s16, s17, s18, s19⟩
        go_simp
        with_reducible rfl
       rotate_left
       ·simp only [Act.put,zp1,zp2,zp3,zp4,zp5]
        rfl
       refine take_ (i := 10) (N := some 40) (v := ?_) (a' := ?_) (Sq.bl 26 3112959) rfl rfl (take_ofW HT_.out HW_.out (by kernel_rfl)) (fun _ _ _ h => h) (Or.inl ⟨by rfl, ?_⟩) hHeld ?_ ?_
       rotate_left
       ·rintro w' ⟨s0, s1, s2, s3, s4, s5, s6, s7, s8, s9, s10, s11, s12, s13, s14, s15, s16, s17, s18, s19⟩
        go_simp
        with_reducible rfl
       rotate_left
       ·simp only [Act.put,zp1,zp2,zp3,zp4,zp5]
        rfl
       refine take_ (i := 15) (N := some 45) (v := ?_) (a' := ?_) (Sq.bl 26 3145727) rfl rfl (take_ofW HT_.out HW_.out (by kernel_rfl)) (fun _ _ _ h => h) (Or.inl ⟨by rfl, ?_⟩) hHeld ?_ ?_
       rotate_left
       ·rintro w' ⟨s0, s1, s2, s3, s4, s5, s6, s7, s8, s9, s10, s11, s12, s13, s14, s15, s16, s17, s18, s19⟩
        go_simp
        with_reducible rfl
       rotate_left
       ·simp only [Act.put,zp1,zp2,zp3,zp4,zp5]
        rfl
       refine take_ (i := 20) (N := some 50) (v := ?_) (a' := ?_) (Sq.bl 26 4194303) rfl rfl (take_ofW HT_.out HW_.out (by kernel_rfl)) (fun _ _ _ h => h) (Or.inl ⟨by rfl, ?_⟩) hHeld ?_ ?_
       rotate_left
       ·rintro w' ⟨s0, s1, s2, s3, s4, s5, s6, s7, s8, s9, s10, s11, s12, s13, s14, s15, s16, s17, s18, s19⟩
        go_simp
        with_reducible rfl
       rotate_left
       ·simp only [Act.put,zp1,zp2,zp3,zp4,zp5]
        rfl
       refine Sq.pu (v := ?_) (a' := ?_) 22 52 (Sq.bl 26 8388607) (any_of HT_.out (by kernel_rfl)) rfl rfl (fun _ _ _ h => h) (by rfl) ?_ ?_ ?_; rotate_left; (· intro w'; go_simp; with_reducible rfl); rotate_left; (· simp only [Act.put,zp1,zp2,zp3,zp4,zp5]; rfl)
       refine last_ (i := 23) (N := some 53) (Sq.bl 26 16777215) rfl rfl (one_of HT_.out (by kernel_rfl)) (by decide) (fun K hK => ?_)
       refine value_ (w1 := ?_) (v := ?_) (by rfl) rfl ?_ ?_
       rotate_left 2
       ·go_simp
        constructor
        ·rfl
        ·rfl
       refine hK.out _ _ ?_
       clear hK K
       refine norm_ (a' := ?_) ?_ ?_
       rotate_left
       ·show Act.put _ (some 53) _ = _
        simp only [Act.put,zp1,zp2,zp3,zp4,zp5]
        rfl
       refine last_ (i := 24) (N := some 54) (Sq.bl 26 33554431) rfl rfl (one_of HT_.out (by kernel_rfl)) (by decide) (fun K hK => ?_)
       refine Kd.N_append_step k44 (w0 := w) w.heap.size (by rfl) (.tmp 30) (.tmp 53) 25 44 (.agg #[(.int .i64 0), (.int .i64 0), (.int .i64 0), (.int .i64 0), (.slice none 0 0)]) 56 rfl Try.underlying25 info44 rfl (by decide) (by omega) u5 x5_1 (⟨(rd_T44 l0 x6_1).f2, (rd_T44 l0 x6_1).f3, (rd_T44 l0 x6_1).f0, (rd_T44 l0 x6_1).f1, t825⟩ : S44) [.int .i64 ((rd_T44 l0 x6_1).f2), .int .i64 ((rd_T44 l0 x6_1).f3), .int .i64 ((rd_T44 l0 x6_1).f0), .int .i64 ((rd_T44 l0 x6_1).f1), .slice Ao13 t825.length co13] (fun k_ => (P0_ k_ ∨ w.heap.size ≤ k_)) (fun k_ => ((fun k_ => (P0_ k_ ∨ w.heap.size ≤ k_))) k_ ∧ some k_ ≠ (u5 : Value).ownBlock) rfl rfl ?aP (fun _ hk => hk) ?aF ?aO ?aB ?aS ?aL ?_
       (case aP => exact (k44_mkF _ _ (⟨(rd_T44 l0 x6_1).f2, (rd_T44 l0 x6_1).f3, (rd_T44 l0 x6_1).f0, (rd_T44 l0 x6_1).f1, t825⟩ : S44) (Kd.N_reads' (Kd.N_mono (ok' := (fun k_ => ((fun k_ => (P0_ k_ ∨ w.heap.size ≤ k_))) k_ ∧ some k_ ≠ (u5 : Value).ownBlock)) (HO827.out) (fun k_ hk => ⟨hk.1, hk.2⟩))).2.1 (Kd.N_F (Kd.N_mono (ok' := (fun k_ => ((fun k_ => (P0_ k_ ∨ w.heap.size ≤ k_))) k_ ∧ some k_ ≠ (u5 : Value).ownBlock)) (HO827.out) (fun k_ hk => ⟨hk.1, hk.2⟩)))))
       (case aB => exact (by repeat (first | (with_reducible first | exact HB.out | apply below_alloc | apply pw_below_drewN | apply below_drew1) | exact HB.out)))
       (case aF => exact (fun k_ hk => (.inr (Nat.le_trans (below_size (by repeat (first | (with_reducible first | exact HB.out | apply below_alloc | apply pw_below_drewN | apply below_drew1) | exact HB.out))) hk))))
       (case aO => exact (by (with_reducible repeat (first | apply Kd.N_alloc | apply Kd.N_drewN | apply Kd.N_drew)); exact Kd.N_mono HO_5.out (fun _ hk => hk.1)))
       (case aS => exact (below_size (by repeat (first | (with_reducible first | exact HB.out | apply below_alloc | apply pw_below_drewN | apply below_drew1) | exact HB.out))))
       (case aL => have := LMc10.out; omega)
       intro v834 w14 ho hb hg hat
       rw [← Ny833.out] at ho
       have n0_ := Aside0.mk (Kd.V_afterv (ok := (fun k_ => (P0_ k_ ∨ w.heap.size ≤ k_) ∧ some k_ ≠ (.slice Ao13 t825.length co13 : Value).ownBlock)) (by (with_reducible repeat (first | apply Kd.V_alloc | apply Kd.V_drewN | apply Kd.V_drew)); exact Kd.V_mono HO_0.out (fun _ hk => ⟨⟨hk.1.1, hk.2⟩, hk.1.2⟩)) hg hat)
       have n1_ := Aside0.mk (Kd.V_afterv (ok := (fun k_ => (P0_ k_ ∨ w.heap.size ≤ k_) ∧ some k_ ≠ (.slice Ao13 t825.length co13 : Value).ownBlock)) (by (with_reducible repeat (first | apply Kd.V_alloc | apply Kd.V_drewN | apply Kd.V_drew)); exact Kd.V_mono HL824_4.out (fun _ hk => ⟨⟨hk.1.1, hk.2⟩, hk.1.2⟩)) hg hat)
       have n2_ := Aside0.mk (Kd.V_afterv (ok := (fun k_ => (P0_ k_ ∨ w.heap.size ≤ k_) ∧ some k_ ≠ (.slice Ao13 t825.length co13 : Value).ownBlock)) (by (with_reducible repeat (first | apply Kd.V_alloc | apply Kd.V_drewN | apply Kd.V_drew)); exact Kd.V_mono HL829_4.out (fun _ hk => ⟨⟨hk.1.1, hk.2⟩, hk.1.2⟩)) hg hat)
       have n3_ := Aside0.mk (Kd.V_afterv (ok := (fun k_ => (P0_ k_ ∨ w.heap.size ≤ k_) ∧ some k_ ≠ (.slice Ao13 t825.length co13 : Value).ownBlock)) (by (with_reducible repeat (first | apply Kd.V_alloc | apply Kd.V_drewN | apply Kd.V_drew)); exact Kd.V_mono HL830_4.out (fun _ hk => ⟨⟨hk.1.1, hk.2⟩, hk.1.2⟩)) hg hat)
       have n4_ := Aside0.mk (Kd.V_afterv (ok := (fun k_ => (P0_ k_ ∨ w.heap.size ≤ k_) ∧ some k_ ≠ (.slice Ao13 t825.length co13 : Value).ownBlock)) (by (with_reducible repeat (first | apply Kd.V_alloc | apply Kd.V_drewN | apply Kd.V_drew)); exact Kd.V_mono HL831_4.out (fun _ hk => ⟨⟨hk.1.1, hk.2⟩, hk.1.2⟩)) hg hat)
       have n5_ := Aside0.mk (Kd.V_afterv (ok := (fun k_ => (P0_ k_ ∨ w.heap.size ≤ k_) ∧ some k_ ≠ (.slice Ao13 t825.length co13 : Value).ownBlock)) (by (with_reducible repeat (first | apply Kd.V_alloc | apply Kd.V_drewN | apply Kd.V_drew)); exact Kd.V_mono HL832_4.out (fun _ hk => ⟨⟨hk.1.1, hk.2⟩, hk.1.2⟩)) hg hat)
       have n6_ := Aside0.mk (hb)
       have n7_ := Aside0.mk (ho)
       clear HO_0
       clear HL824_4
       clear HL829_4
       clear HL830_4
       clear HL831_4
       clear HL832_4
       clear HB
       clear HO_5
       clear HO827
       have HO_0 := n0_
       have HL824_4 := n1_
       have HL829_4 := n2_
       have HL830_4 := n3_
       have HL831_4 := n4_
       have HL832_4 := n5_
       have HB := n6_
       have HO835 := n7_
       clear n0_ n1_ n2_ n3_ n4_ n5_ n6_ n7_
       clear ho hb hg hat
       refine hK.out _ _ ?_
       clear hK K
       refine norm_ (a' := ?_) ?_ ?_
       rotate_left
       ·show Act.put _ (some 54) _ = _
        simp only [Act.put,zp1,zp2,zp3,zp4,zp5]
        rfl
       refine Sq.pu (v := ?_) (a' := ?_) 25 5 (Sq.bl 26 67108863) (any_of HT_.out (by kernel_rfl)) rfl rfl (fun _ _ _ h => h) (by rfl) ?_ ?_ ?_; rotate_left; (· intro w'; go_simp; with_reducible rfl); rotate_left; (· simp only [Act.put,zp1,zp2,zp3,zp4,zp5]; rfl)
       refine done_ (done_of HT_.out (by kernel_rfl)) ?_
       try go_wp2
       go_roundg k1
       case measure => have := HK1.out; omega
       case rel => exact ⟨(y833), (wrap64 (x6_1 + 1)), (by first | rfl | (simp; done) | (simp [*]; done)), H', ⟨by have := HK1.out; omega⟩, ⟨by (with_reducible repeat (first | apply Kd.V_alloc | apply Kd.V_drewN | apply Kd.V_drew)); exact Kd.V_mono HO_0.out (fun _ hk => ⟨hk.1.1, hk.2⟩)⟩, ⟨by (with_reducible repeat (first | apply Kd.N_alloc | apply Kd.N_drewN | apply Kd.N_drew)); exact HO835.out⟩, ⟨by repeat (first | (with_reducible first | exact HB.out | apply below_alloc | apply pw_below_drewN | apply below_drew1) | exact HB.out)⟩⟩
      ·rw [if_neg c10] at H
       exact absurd H (by simp)
     ·rw [if_neg c8] at H
      exact absurd H (by simp)
    ·rw [if_neg c7] at H
     have c7b0 : decide (x6_1 < (l0.length : Int)) = false := decide_eq_false c7
     clear c7
     simp only [Option.some.injEq, Prod.mk.injEq] at H
     obtain ⟨rfl, rfl⟩ := H
     go_wp2
     go_ret2
     exact ⟨_, by first | rfl | (simp [errW_none, errW_some] <;> rfl) | (simp [*, errW_none, errW_some] <;> rfl), by (with_reducible repeat (first | apply Kd.N_alloc | apply Kd.N_drewN | apply Kd.N_drew)); exact HO_5.out, by repeat (first | (with_reducible first | exact HB.out | apply below_alloc | apply pw_below_drewN | apply below_drew1) | exact HB.out)⟩
 ·rw [if_neg c3] at H
  have c3b0 : (t820 == 0) = false := beq_eq_false_iff_ne.mpr c3
  have c3b1 : (t820 != 0) = true := bne_iff_ne.mpr c3
  simp only [Option.some.injEq, Prod.mk.injEq] at H
  obtain ⟨rfl, rfl⟩ := H
  go_enter Try.func39, Try.ntmps39
  go_wp2_with (first | ((with_reducible refine gate_callee (f := 19) rfl ?_); refine goesL_ (some 10) rfl rfl Try.func19 (by kernel_rfl) rfl #[.slice A0 l0.length c0] rfl (by (try simp only [List.map_toArray, List.map_cons, List.map_nil]); first | done | rfl | (simp only [List.length_drop, List.length_take]; rfl)) ?_; (with_reducible refine (jalousieref09_Check.calls k _ _ l0 t820 _ ?side1 ?side2 A2.out).mono ?_); (case side1 => repeat (first | exact (Kd.V_reads' HO0.out).2.2 | (with_reducible refine Kd.C_alloc ?_ _) | (with_reducible refine Kd.C_drewN ?_ _) | (with_reducible refine Kd.C_drew ?_))); (case side2 => exact (Kd.V_reads' HO0.out).2.1); rintro e w15 ⟨rfl, hb⟩; refine ⟨_, rfl, ?_⟩; have n0_ := Aside0.mk (Kd.V_below (by (with_reducible repeat (first | apply Kd.V_alloc | apply Kd.V_drewN | apply Kd.V_drew)); exact HO0.out) hb); have n1_ := Aside0.mk (below_step (by repeat (first | (with_reducible first | exact HB.out | apply below_alloc | apply pw_below_drewN | apply below_drew1) | exact HB.out)) hb); clear HO0; clear HB; have HO0 := n0_; have HB := n1_; clear n0_ n1_; (try clear hb); (try clear hb2); (try clear hk); (try clear hi)))
  go_ret2
  exact ⟨_, by first | rfl | (simp [errW_none, errW_some] <;> rfl) | (simp [*, errW_none, errW_some] <;> rfl), by first | exact Kd.R_nil _ _ _ _ _ | exact Kd.N_nil _ _ _ _ _ | exact Kd.V_nil _ _ _ _ _ | exact Kd.Q_nil _ _ _ _ _ | exact Kd.S_nil _ _ _ _ _, by repeat (first | (with_reducible first | exact HB.out | apply below_alloc | apply pw_below_drewN | apply below_drew1) | exact HB.out)⟩

end Go.Proofs.Ytfnbodjmmkjlcaa.H
end
section
namespace Go.Proofs.Ytfnbodjmmkjlcaa.H
open Go.RowKit Go.Proofs.YtfnbodjmmkjlcaaW.PrintWords Go.Proofs.YtfnbodjmmkjlcaaW.PrintLast Go.Proofs.YtfnbodjmmkjlcaaW.PrintMore
attribute [local go_sem] max2_int min2_int max_two min_two max_three min_three max_four min_four   -- for this text's walks alone
set_option linter.unusedVariables false
set_option linter.unusedSimpArgs false

def jalousielaw11_PatchReverses.l0 : Nat → List (S44) → Int → List (S44) → Int → Int → Int → Int → Int → List (S47) → Int → Option (Bool)
 | 0, _, _, _, _, _, _, _, _, _, _ => none
 | k + 1, x3, x4, x5, x6, x7, x8, x9, x10, x11, x12 => if x12 < (x11.length : Int) then (if 0 ≤ x12 then (if ((rd_T47 x11 x12).f0) = 3 then (if ((rd_T47 x11 x12).f0) = 2 then (jalousielaw11_PatchReverses.l0 k x3 x4 x5 x6 x7 x8 (wrap64 (x9 + 1)) (wrap64 (x10 + 1)) x11 (wrap64 (x12 + 1))) else (jalousielaw11_PatchReverses.l0 k x3 x4 x5 x6 x7 x8 (wrap64 (x9 + 1)) x10 x11 (wrap64 (x12 + 1)))) else (if ((rd_T47 x11 x12).f0) = 2 then (jalousielaw11_PatchReverses.l0 k x3 x4 x5 x6 x7 x8 x9 (wrap64 (x10 + 1)) x11 (wrap64 (x12 + 1))) else (jalousielaw11_PatchReverses.l0 k x3 x4 x5 x6 x7 x8 x9 x10 x11 (wrap64 (x12 + 1))))) else (none)) else ((jalousielaw11_live.f k).bind fun t856 => (if t856 = true then ((jalousieref09_Same.f k x3 x5).bind fun t857 => (if t857 = true then (if x4 = x6 then (if x7 = x9 then (some (x8 == x10)) else (some false)) else (some false)) else (some false))) else (some false)))
def jalousielaw11_PatchReverses.f (k : Nat) (l0 : List (S44)) : Option (Bool) := if 0 ≤ (mn (l0.length : Int) 20) then (if (mn (l0.length : Int) 20) ≤ (l0.length : Int) then ((some (l0.take ((mn (l0.length : Int) 20) : Int).toNat : List (S44))).bind fun y836 => ((patch_Reverse.f k y836).bind fun bt840 => ((jalousieref11_Reverse.f k y836).bind fun bt844 => ((patch_Size.f k y836).bind fun bt848 => ((jalousieref09_Join.f k y836).bind fun t850 => ((jalousieref09_Single.f k t850).bind fun t853 => (jalousielaw11_PatchReverses.l0 k bt840.1 bt840.2 bt844.1 bt844.2 bt848.1 bt848.2 0 0 t853 0))))))) else (none)) else (none)
set_option maxHeartbeats 8000000 in
set_option maxRecDepth 100000 in
theorem jalousielaw11_PatchReverses.calls (k : Nat) (A0 : Option Addr) (c0 : Nat) (l0 : List (S44)) (r : Bool) (w : World) (hr0 : Kd.C k44 w A0 l0.length l0) (hc0 : l0.length ≤ c0) (h : jalousielaw11_PatchReverses.f k l0 = some r) (HRT : Aside0 (r = true) := by first | exact ⟨rfl⟩ | assumption) :
  Calls Try.prog 11 #[.slice A0 l0.length c0] w fun e w' => e = .returned (.bool r) ∧ Below w.heap.size w w' := by
 have HR0 := Aside0.mk hr0
 have HC0 := Aside0.mk hc0
 clear hr0 hc0
 have HB := Aside0.mk (Below.refl w.heap.size w)
 have H : (if 0 ≤ (mn (l0.length : Int) 20) then (if (mn (l0.length : Int) 20) ≤ (l0.length : Int) then ((some (l0.take ((mn (l0.length : Int) 20) : Int).toNat : List (S44))).bind fun y836 => ((patch_Reverse.f k y836).bind fun bt840 => ((jalousieref11_Reverse.f k y836).bind fun bt844 => ((patch_Size.f k y836).bind fun bt848 => ((jalousieref09_Join.f k y836).bind fun t850 => ((jalousieref09_Single.f k t850).bind fun t853 => (jalousielaw11_PatchReverses.l0 k bt840.1 bt840.2 bt844.1 bt844.2 bt848.1 bt848.2 0 0 t853 0))))))) else (none)) else (none)) = some r := h
 clear h
 obtain ⟨ji2, hji2⟩ : ∃ j_ : Int, (mn (l0.length : Int) 20) = j_ := ⟨_, rfl⟩
 replace H : (if 0 ≤ (ji2) then (if (ji2) ≤ (l0.length : Int) then ((some (l0.take ((ji2) : Int).toNat : List (S44))).bind fun y836 => ((patch_Reverse.f k y836).bind fun bt840 => ((jalousieref11_Reverse.f k y836).bind fun bt844 => ((patch_Size.f k y836).bind fun bt848 => ((jalousieref09_Join.f k y836).bind fun t850 => ((jalousieref09_Single.f k t850).bind fun t853 => (jalousielaw11_PatchReverses.l0 k bt840.1 bt840.2 bt844.1 bt844.2 bt848.1 bt848.2 0 0 t853 0))))))) else (none)) else (none)) = some r := by first | (rw [hji2] at H; exact H) | (simp only [hji2] at H ⊢; exact H)
 (try (have hji2h : ji2 ≤ 20 := by (rw [← hji2]; unfold mn; (repeat' split) <;> omega)))
 (try (have hji2g : ji2 ≤ 64 := by omega))
 (try (have hji2l : 0 ≤ ji2 := by (rw [← hji2]; unfold mn; (repeat' split) <;> omega)))
 (try (have hji2m : 0 ≤ ji2 := by omega))
 have hji2_ : (if 20 < (l0.length : Int) then 20 else (l0.length : Int)) = ji2 := hji2
 by_cases c3 : 0 ≤ (ji2)
 ·rw [if_pos c3] at H
  have c3b0 := eq_true c3
  have c3b1 : decide (0 ≤ (ji2)) = true := decide_eq_true c3
  clear c3
  by_cases c4 : (ji2) ≤ (l0.length : Int)
  ·rw [if_pos c4] at H
   have c4b0 := eq_true c4
   have c4b1 : decide ((ji2) ≤ (l0.length : Int)) = true := decide_eq_true c4
   clear c4
   obtain ⟨y836, hy836⟩ : ∃ y_ : List (S44), y_ = (l0.take ((ji2) : Int).toNat) := ⟨_, rfl⟩
   replace H : ((patch_Reverse.f k y836).bind fun bt840 => ((jalousieref11_Reverse.f k y836).bind fun bt844 => ((patch_Size.f k y836).bind fun bt848 => ((jalousieref09_Join.f k y836).bind fun t850 => ((jalousieref09_Single.f k t850).bind fun t853 => (jalousielaw11_PatchReverses.l0 k bt840.1 bt840.2 bt844.1 bt844.2 bt848.1 bt848.2 0 0 t853 0)))))) = some r := by first | (rw [hy836]; with_reducible exact H) | (have H2_ := (Option.bind_some _ _).symm.trans H; rw [hy836]; with_reducible exact H2_) | (have H2_ := (Option.bind_some _ _).symm.trans H; with_reducible exact H2_) | with_reducible exact H | (rw [hy836]; exact H) | exact H
   have Ny836 := Aside0.mk hy836
   clear hy836
   replace H := Option.bind_eq_some_iff.mp H
   obtain ⟨⟨t840, t843⟩, A50, H⟩ := H
   replace H : ((jalousieref11_Reverse.f k y836).bind fun bt844 => ((patch_Size.f k y836).bind fun bt848 => ((jalousieref09_Join.f k y836).bind fun t850 => ((jalousieref09_Single.f k t850).bind fun t853 => (jalousielaw11_PatchReverses.l0 k t840 t843 bt844.1 bt844.2 bt848.1 bt848.2 0 0 t853 0))))) = some r := H
   have A5 := Aside0.mk A50
   clear A50
   replace H := Option.bind_eq_some_iff.mp H
   obtain ⟨⟨t844, t847⟩, A60, H⟩ := H
   replace H : ((patch_Size.f k y836).bind fun bt848 => ((jalousieref09_Join.f k y836).bind fun t850 => ((jalousieref09_Single.f k t850).bind fun t853 => (jalousielaw11_PatchReverses.l0 k t840 t843 t844 t847 bt848.1 bt848.2 0 0 t853 0)))) = some r := H
   have A6 := Aside0.mk A60
   clear A60
   replace H := Option.bind_eq_some_iff.mp H
   obtain ⟨⟨t848, t849⟩, A70, H⟩ := H
   replace H : ((jalousieref09_Join.f k y836).bind fun t850 => ((jalousieref09_Single.f k t850).bind fun t853 => (jalousielaw11_PatchReverses.l0 k t840 t843 t844 t847 t848 t849 0 0 t853 0))) = some r := H
   have A7 := Aside0.mk A70
   clear A70
   replace H := Option.bind_eq_some_iff.mp H
   obtain ⟨t850, A80, H⟩ := H
   replace H : ((jalousieref09_Single.f k t850).bind fun t853 => (jalousielaw11_PatchReverses.l0 k t840 t843 t844 t847 t848 t849 0 0 t853 0)) = some r := H
   have A8 := Aside0.mk A80
   clear A80
   replace H := Option.bind_eq_some_iff.mp H
   obtain ⟨t853, A90, H⟩ := H
   replace H : (jalousielaw11_PatchReverses.l0 k t840 t843 t844 t847 t848 t849 0 0 t853 0) = some r := H
   have A9 := Aside0.mk A90
   clear A90
   have H' := Aside0.mk H
   clear H
   have q10 : ((ji2) : Int) ≤ ((l0.length : Int) : Int) := of_decide_eq_true (by first | (with_reducible assumption) | assumption)
   obtain ⟨i010, hi010, _, hsz10, _⟩ := info_parts info44
   have hroom10 : l0.length ≤ c0 := HC0.out
   have hC10 : Kd.C k44 _ A0 l0.length l0 := HR0.out
   have hcut10 := cut_to (P := Try.prog) 25 44 .i64 Try.underlying25 hi010 A0 l0.length c0 (ji2) (of_decide_eq_true (by first | (with_reducible assumption) | assumption)) q10 hroom10
   have hr10 := Kd.C_take (m := ((ji2) : Int).toNat) hC10 (by omega)
   have hy10 : y836.length = ((ji2) : Int).toNat := (by rw [Ny836.out, List.length_take]; omega)
   rw [← Ny836.out] at hr10
   rw [← hy10] at hcut10
   have HR839 := Aside0.mk hr10
   have HC839 := Aside0.mk (show y836.length ≤ c0 from by omega)
   clear hr10 hC10 hroom10 hi010 hsz10
   have KY10 := Aside0.mk hy10
   clear hy10
   replace q10 := eq_true q10
   go_enter Try.func11, Try.ntmps11
   go_wp2_with (first | ((with_reducible refine gate_callee (f := 38) rfl ?_); refine goesL_ (some 20) rfl rfl Try.func38 (by kernel_rfl) rfl #[.slice A0 y836.length c0] rfl (by (try simp only [List.map_toArray, List.map_cons, List.map_nil]); first | done | rfl | (simp only [List.length_drop, List.length_take]; rfl)) ?_; (with_reducible refine (patch_Reverse.calls k (fun k_ => k_ < w.heap.size) _ _ y836 t840 t843 _ ?side1 A5.out).mono ?_); (case side1 => exact Kd.V_mk HC839.out (Kd.F_below (Kd.C_F k44_heap HR839.out) (by repeat (first | (with_reducible first | exact HB.out | apply below_alloc | apply pw_below_drewN | apply below_drew1) | exact HB.out)))); rintro e w11 ⟨v841, rfl, ho0, hb⟩; refine ⟨_, rfl, ?_⟩; have n0_ := Aside0.mk (Kd.N_lower (Kd.N_mono (ok' := fun k_ => True) ho0 (fun k_ hk_ => trivial)) (below_size (by repeat (first | (with_reducible first | exact HB.out | apply below_alloc | apply pw_below_drewN | apply below_drew1) | exact HB.out)))); have n1_ := Aside0.mk (below_step (by repeat (first | (with_reducible first | exact HB.out | apply below_alloc | apply pw_below_drewN | apply below_drew1) | exact HB.out)) hb); clear HB; have HO842 := n0_; have HB := n1_; clear n0_ n1_; (try clear hb); (try clear hb2); (try clear hk); (try clear hi); (try clear ho0)) | ((with_reducible refine gate_callee (f := 39) rfl ?_); refine goesL_ (some 25) rfl rfl Try.func39 (by kernel_rfl) rfl #[.slice A0 y836.length c0] rfl (by (try simp only [List.map_toArray, List.map_cons, List.map_nil]); first | done | rfl | (simp only [List.length_drop, List.length_take]; rfl)) ?_; (with_reducible refine (jalousieref11_Reverse.calls k (fun k_ => k_ < w.heap.size) _ _ y836 t844 t847 _ ?side1 A6.out).mono ?_); (case side1 => exact Kd.V_mk HC839.out (Kd.F_below (Kd.C_F k44_heap HR839.out) (by repeat (first | (with_reducible first | exact HB.out | apply below_alloc | apply pw_below_drewN | apply below_drew1) | exact HB.out)))); rintro e w12 ⟨v845, rfl, ho0, hb⟩; refine ⟨_, rfl, ?_⟩; have n0_ := Aside0.mk (Kd.N_elder' (by (with_reducible repeat (first | apply Kd.N_alloc | apply Kd.N_drewN | apply Kd.N_drew)); exact HO842.out) (by first | exact Kd.S_base ho0 | exact Kd.R_base ho0 | exact Kd.N_base ho0) hb); have n1_ := Aside0.mk (Kd.N_lower (Kd.N_mono (ok' := fun k_ => some k_ ≠ (v841 : Value).ownBlock) ho0 (fun k_ hk_ => Or.elim hk_ (fun hs_ => fun e_ => Nat.not_le.2 hs_ (Kd.N_base HO842.out k_ e_.symm)) (fun hn_ => (Kd.fresh' (Kd.N_lt (by (with_reducible repeat (first | apply Kd.N_alloc | apply Kd.N_drewN | apply Kd.N_drew)); exact HO842.out)) k_ hn_)))) (below_size (by repeat (first | (with_reducible first | exact HB.out | apply below_alloc | apply pw_below_drewN | apply below_drew1) | exact HB.out)))); have n2_ := Aside0.mk (below_step (by repeat (first | (with_reducible first | exact HB.out | apply below_alloc | apply pw_below_drewN | apply below_drew1) | exact HB.out)) hb); clear HO842; clear HB; have HO842 := n0_; have HO846 := n1_; have HB := n2_; clear n0_ n1_ n2_; (try clear hb); (try clear hb2); (try clear hk); (try clear hi); (try clear ho0)) | ((with_reducible refine gate_callee (f := 40) rfl ?_); refine goesL_ (some 30) rfl rfl Try.func40 (by kernel_rfl) rfl #[.slice A0 y836.length c0] rfl (by (try simp only [List.map_toArray, List.map_cons, List.map_nil]); first | done | rfl | (simp only [List.length_drop, List.length_take]; rfl)) ?_; (with_reducible refine (patch_Size.calls k _ _ y836 t848 t849 _ ?side1 ?side2 A7.out).mono ?_); (case side1 => repeat (first | exact (Kd.C_below HR839.out HB.out) | (with_reducible refine Kd.C_alloc ?_ _) | (with_reducible refine Kd.C_drewN ?_ _) | (with_reducible refine Kd.C_drew ?_))); (case side2 => exact HC839.out); rintro e w13 ⟨rfl, hb⟩; refine ⟨_, rfl, ?_⟩; have n0_ := Aside0.mk (Kd.N_below (by (with_reducible repeat (first | apply Kd.N_alloc | apply Kd.N_drewN | apply Kd.N_drew)); exact HO842.out) hb); have n1_ := Aside0.mk (Kd.N_below (by (with_reducible repeat (first | apply Kd.N_alloc | apply Kd.N_drewN | apply Kd.N_drew)); exact HO846.out) hb); have n2_ := Aside0.mk (below_step (by repeat (first | (with_reducible first | exact HB.out | apply below_alloc | apply pw_below_drewN | apply below_drew1) | exact HB.out)) hb); clear HO842; clear HO846; clear HB; have HO842 := n0_; have HO846 := n1_; have HB := n2_; clear n0_ n1_ n2_; (try clear hb); (try clear hb2); (try clear hk); (try clear hi)) | ((with_reducible refine gate_callee (f := 22) rfl ?_); refine goesL_ (some 34) rfl rfl Try.func22 (by kernel_rfl) rfl #[.slice A0 y836.length c0] rfl (by (try simp only [List.map_toArray, List.map_cons, List.map_nil]); first | done | rfl | (simp only [List.length_drop, List.length_take]; rfl)) ?_; (with_reducible refine (jalousieref09_Join.calls k (fun k_ => k_ < w.heap.size) _ _ y836 t850 _ ?side1 A8.out).mono ?_); (case side1 => exact Kd.V_mk HC839.out (Kd.F_below (Kd.C_F k44_heap HR839.out) (by repeat (first | (with_reducible first | exact HB.out | apply below_alloc | apply pw_below_drewN | apply below_drew1) | exact HB.out)))); rintro e w14 ⟨v851, rfl, ho0, hb⟩; refine ⟨_, rfl, ?_⟩; have n0_ := Aside0.mk (Kd.N_elder' (by (with_reducible repeat (first | apply Kd.N_alloc | apply Kd.N_drewN | apply Kd.N_drew)); exact HO842.out) (by first | exact Kd.S_base ho0 | exact Kd.R_base ho0 | exact Kd.N_base ho0) hb); have n1_ := Aside0.mk (Kd.N_elder' (by (with_reducible repeat (first | apply Kd.N_alloc | apply Kd.N_drewN | apply Kd.N_drew)); exact HO846.out) (by first | exact Kd.S_base ho0 | exact Kd.R_base ho0 | exact Kd.N_base ho0) hb); have n2_ := Aside0.mk (Kd.N_lower (Kd.N_mono (ok' := fun k_ => some k_ ≠ (v841 : Value).ownBlock ∧ some k_ ≠ (v845 : Value).ownBlock) ho0 (fun k_ hk_ => ⟨Or.elim hk_ (fun hs_ => fun e_ => Nat.not_le.2 hs_ (Kd.N_base HO842.out k_ e_.symm)) (fun hn_ => (Kd.fresh' (Kd.N_lt (by (with_reducible repeat (first | apply Kd.N_alloc | apply Kd.N_drewN | apply Kd.N_drew)); exact HO842.out)) k_ hn_)), Or.elim hk_ (fun hs_ => fun e_ => Nat.not_le.2 hs_ (Kd.N_base HO846.out k_ e_.symm)) (fun hn_ => (Kd.fresh' (Kd.N_lt (by (with_reducible repeat (first | apply Kd.N_alloc | apply Kd.N_drewN | apply Kd.N_drew)); exact HO846.out)) k_ hn_))⟩)) (below_size (by repeat (first | (with_reducible first | exact HB.out | apply below_alloc | apply pw_below_drewN | apply below_drew1) | exact HB.out)))); have n3_ := Aside0.mk (below_step (by repeat (first | (with_reducible first | exact HB.out | apply below_alloc | apply pw_below_drewN | apply below_drew1) | exact HB.out)) hb); clear HO842; clear HO846; clear HB; have HO842 := n0_; have HO846 := n1_; have HO852 := n2_; have HB := n3_; clear n0_ n1_ n2_ n3_; (try clear hb); (try clear hb2); (try clear hk); (try clear hi); (try clear ho0); obtain ⟨Ao15, co15, eo15⟩ := Kd.N_slice HO852.out; subst eo15) | ((with_reducible refine gate_callee (f := 41) rfl ?_); refine goesL_ (some 35) rfl rfl Try.func41 (by kernel_rfl) rfl #[.slice Ao15 t850.length co15] rfl (by (try simp only [List.map_toArray, List.map_cons, List.map_nil]); first | done | rfl | (simp only [List.length_drop, List.length_take]; rfl)) ?_; (with_reducible refine (jalousieref09_Single.calls k _ _ t850 t853 _ ?side1 ?side2 A9.out).mono ?_); (case side1 => repeat (first | exact (Kd.N_reads' HO852.out).2.2 | (with_reducible refine Kd.C_alloc ?_ _) | (with_reducible refine Kd.C_drewN ?_ _) | (with_reducible refine Kd.C_drew ?_))); (case side2 => exact (Kd.N_reads' HO852.out).2.1); rintro e w16 ⟨v854, rfl, ho0, hb⟩; refine ⟨_, rfl, ?_⟩; have n0_ := Aside0.mk (Kd.N_elder' (by (with_reducible repeat (first | apply Kd.N_alloc | apply Kd.N_drewN | apply Kd.N_drew)); exact HO842.out) (by first | exact Kd.S_base ho0 | exact Kd.R_base ho0 | exact Kd.N_base ho0) hb); have n1_ := Aside0.mk (Kd.N_elder' (by (with_reducible repeat (first | apply Kd.N_alloc | apply Kd.N_drewN | apply Kd.N_drew)); exact HO846.out) (by first | exact Kd.S_base ho0 | exact Kd.R_base ho0 | exact Kd.N_base ho0) hb); have n2_ := Aside0.mk (Kd.N_elder' (by (with_reducible repeat (first | apply Kd.N_alloc | apply Kd.N_drewN | apply Kd.N_drew)); exact HO852.out) (by first | exact Kd.S_base ho0 | exact Kd.R_base ho0 | exact Kd.N_base ho0) hb); have n3_ := Aside0.mk (Kd.N_lower (Kd.N_mono (ok' := fun k_ => some k_ ≠ (v841 : Value).ownBlock ∧ some k_ ≠ (v845 : Value).ownBlock ∧ some k_ ≠ (.slice Ao15 t850.length co15 : Value).ownBlock) (Kd.S_N (Kd.S_bound ho0)) (fun k_ hk_ => ⟨(Kd.fresh' (Kd.N_lt (by (with_reducible repeat (first | apply Kd.N_alloc | apply Kd.N_drewN | apply Kd.N_drew)); exact HO842.out)) k_ hk_.2.1), (Kd.fresh' (Kd.N_lt (by (with_reducible repeat (first | apply Kd.N_alloc | apply Kd.N_drewN | apply Kd.N_drew)); exact HO846.out)) k_ hk_.2.1), (Kd.fresh' (Kd.N_lt (by (with_reducible repeat (first | apply Kd.N_alloc | apply Kd.N_drewN | apply Kd.N_drew)); exact HO852.out)) k_ hk_.2.1)⟩)) (below_size (by repeat (first | (with_reducible first | exact HB.out | apply below_alloc | apply pw_below_drewN | apply below_drew1) | exact HB.out)))); have n4_ := Aside0.mk (below_step (by repeat (first | (with_reducible first | exact HB.out | apply below_alloc | apply pw_below_drewN | apply below_drew1) | exact HB.out)) hb); clear HO842; clear HO846; clear HO852; clear HB; have HO842 := n0_; have HO846 := n1_; have HO852 := n2_; have HO855 := n3_; have HB := n4_; clear n0_ n1_ n2_ n3_ n4_; (try clear hb); (try clear hb2); (try clear hk); (try clear hi); (try clear ho0)))
   go_loopg [9, 10, 12] k (fun kq v9 v10 v12 w' => ∃ (x9_1 : Int) (x10_1 : Int) (x12_1 : Int), v9 = .int .i64 x9_1 ∧ v10 = .int .i64 x10_1 ∧ v12 = .int .i64 x12_1 ∧ Aside0 (jalousielaw11_PatchReverses.l0 kq t840 t843 t844 t847 t848 t849 x9_1 x10_1 t853 x12_1 = some r) ∧ Aside0 (kq ≤ k) ∧ Aside0 (Kd.N k44 44 w' w.heap.size (fun k_ => some k_ ≠ (v845 : Value).ownBlock ∧ some k_ ≠ (v854 : Value).ownBlock) v841 t840) ∧ Aside0 (Kd.N k44 44 w' w.heap.size (fun k_ => some k_ ≠ (v841 : Value).ownBlock ∧ some k_ ≠ (v854 : Value).ownBlock) v845 t844) ∧ Aside0 (Kd.N k47 47 w' w.heap.size (fun k_ => some k_ ≠ (v841 : Value).ownBlock ∧ some k_ ≠ (v845 : Value).ownBlock) v854 t853) ∧ Aside0 (Below w.heap.size w w'))
   case atStart => exact ⟨(0), (0), (0), (by first | rfl | (simp; done) | (simp [*]; done)), (by first | rfl | (simp; done) | (simp [*]; done)), (by first | rfl | (simp; done) | (simp [*]; done)), H', ⟨Nat.le_refl _⟩, ⟨by (with_reducible repeat (first | apply Kd.N_alloc | apply Kd.N_drewN | apply Kd.N_drew)); exact Kd.N_mono HO842.out (fun _ hk => ⟨hk.1.1.2, hk.2⟩)⟩, ⟨by (with_reducible repeat (first | apply Kd.N_alloc | apply Kd.N_drewN | apply Kd.N_drew)); exact Kd.N_mono HO846.out (fun _ hk => ⟨hk.1.1, hk.2⟩)⟩, ⟨by (with_reducible repeat (first | apply Kd.N_alloc | apply Kd.N_drewN | apply Kd.N_drew)); exact Kd.N_mono HO855.out (fun _ hk => ⟨hk.1, hk.2.1⟩)⟩, ⟨by repeat (first | (with_reducible first | exact HB.out | apply below_alloc | apply pw_below_drewN | apply below_drew1) | exact HB.out)⟩⟩
   case round =>
    clear H'
    try clear c1
    try clear q1
    try clear c2
    try clear p2
    try clear c3
    try clear c3b0
    try clear c3b1
    try clear c4
    try clear c4b0
    try clear c4b1
    try clear q10
    try clear c11
    try clear q10
    obtain ⟨x9_1, x10_1, x12_1, rfl, rfl, rfl, HA, HK1, HO_3, HO_5, HO_11, HB⟩ := hrel
    cases gk with
    | zero => exact absurd HA.out (by simp [jalousielaw11_PatchReverses.l0])
    | succ k1 =>
     have H := HA.out
     clear HA
     simp only [jalousielaw11_PatchReverses.l0] at H
     by_cases c17 : x12_1 < (t853.length : Int)
     ·rw [if_pos c17] at H
      have c17b0 : decide (x12_1 < (t853.length : Int)) = true := decide_eq_true c17
      clear c17
      by_cases c18 : 0 ≤ x12_1
      ·rw [if_pos c18] at H
       have c18b0 : decide (0 ≤ x12_1) = true := decide_eq_true c18
       clear c18
       by_cases c19 : ((rd_T47 t853 x12_1).f0) = 3
       ·rw [if_pos c19] at H
        have c19b0 : (((rd_T47 t853 x12_1).f0) == 3) = true := beq_iff_eq.mpr c19
        have c19b1 : (((rd_T47 t853 x12_1).f0) != 3) = false := bne_eq_false_iff_eq.mpr c19
        clear c19
        by_cases c20 : ((rd_T47 t853 x12_1).f0) = 2
        ·rw [if_pos c20] at H
         have c20b0 : (((rd_T47 t853 x12_1).f0) == 2) = true := beq_iff_eq.mpr c20
         have c20b1 : (((rd_T47 t853 x12_1).f0) != 2) = false := bne_eq_false_iff_eq.mpr c20
         clear c20
         have H' := Aside0.mk H
         clear H
         obtain ⟨Ao21, co21, eo21⟩ := Kd.N_slice HO_11.out
         subst eo21
         have p858 : 0 ≤ (x12_1 : Int) := of_decide_eq_true (by first | (with_reducible assumption) | assumption)
         have q858 : x12_1 < (t853.length : Int) := of_decide_eq_true (by first | (with_reducible assumption) | assumption)
         obtain ⟨ad858, A858_1, c858_1, e858, hx858_0, hx858_1, hl858_1, hi858_1⟩ := at_T47 (Kd.N_reads' HO_11.out).2.2 x12_1 p858 q858
         cases e858
         obtain ⟨ce858, hce858, hMe858, hcc858⟩ := Kd.N_get HO_11.out z47 x12_1 p858 (by first | exact q858 | exact of_decide_eq_true (by first | (with_reducible assumption) | assumption) | (have e_ := (Kd.N_reads' HO_11.out).1; omega))
         obtain ⟨ua858_1, uc858_1, rfl, ul858_1, ge858_1⟩ := k47_openF hMe858
         have hv858_1 := hcc858 1 _ rfl
         rw [add_field _ _ 1 (by omega)] at hv858_1
         replace hv858_1 := Option.some.inj (hv858_1.symm.trans hx858_1)
         injection hv858_1 with hva_ hvn_ hvc_
         rw [hva_] at ge858_1
         rw [hvc_] at ul858_1
         have HL858_1 := Aside0.mk (show Kd.V k66 66 _ w.heap.size _ _ ((rd_T47 t853 x12_1).f1) from Kd.V_mk ul858_1 ge858_1)
         clear hva_ hvn_ hvc_ ge858_1 ul858_1
         clear hcc858 hce858
         have HR858_1 := Aside0.mk hi858_1
         have HC858_1 := Aside0.mk hl858_1
         clear hi858_1 hl858_1
         replace p858 := eq_true p858
         replace q858 := eq_true q858
         have p859 : 0 ≤ (x12_1 : Int) := of_decide_eq_true (by first | (with_reducible assumption) | assumption)
         have q859 : x12_1 < (t853.length : Int) := of_decide_eq_true (by first | (with_reducible assumption) | assumption)
         obtain ⟨ad859, A859_1, c859_1, e859, hx859_0, hx859_1, hl859_1, hi859_1⟩ := at_T47 (Kd.N_reads' HO_11.out).2.2 x12_1 p859 q859
         obtain rfl : ad858 = ad859 := (by injection e859)
         obtain ⟨ce859, hce859, hMe859, hcc859⟩ := Kd.N_get HO_11.out z47 x12_1 p859 (by first | exact q859 | exact of_decide_eq_true (by first | (with_reducible assumption) | assumption) | (have e_ := (Kd.N_reads' HO_11.out).1; omega))
         obtain ⟨ua859_1, uc859_1, rfl, ul859_1, ge859_1⟩ := k47_openF hMe859
         have hv859_1 := hcc859 1 _ rfl
         rw [add_field _ _ 1 (by omega)] at hv859_1
         replace hv859_1 := Option.some.inj (hv859_1.symm.trans hx859_1)
         injection hv859_1 with hva_ hvn_ hvc_
         rw [hva_] at ge859_1
         rw [hvc_] at ul859_1
         have HL859_1 := Aside0.mk (show Kd.V k66 66 _ w.heap.size _ _ ((rd_T47 t853 x12_1).f1) from Kd.V_mk ul859_1 ge859_1)
         clear hva_ hvn_ hvc_ ge859_1 ul859_1
         clear hcc859 hce859
         have HR859_1 := Aside0.mk hi859_1
         have HC859_1 := Aside0.mk hl859_1
         clear hi859_1 hl859_1
         replace p859 := eq_true p859
         replace q859 := eq_true q859
         have ea_ := Option.some.inj (hx858_1.symm.trans hx859_1)
         injection ea_ with ea_ en_ ec_
         subst ea_
         subst ec_
         clear en_
         go_wp2
         go_roundg k1
         case measure => have := HK1.out; omega
         case rel => exact ⟨(wrap64 (x9_1 + 1)), (wrap64 (x10_1 + 1)), (wrap64 (x12_1 + 1)), (by first | rfl | (simp; done) | (simp [*]; done)), (by first | rfl | (simp; done) | (simp [*]; done)), (by first | rfl | (simp; done) | (simp [*]; done)), H', ⟨by have := HK1.out; omega⟩, ⟨by (with_reducible repeat (first | apply Kd.N_alloc | apply Kd.N_drewN | apply Kd.N_drew)); exact HO_3.out⟩, ⟨by (with_reducible repeat (first | apply Kd.N_alloc | apply Kd.N_drewN | apply Kd.N_drew)); exact HO_5.out⟩, ⟨by (with_reducible repeat (first | apply Kd.N_alloc | apply Kd.N_drewN | apply Kd.N_drew)); exact HO_11.out⟩, ⟨by repeat (first | (with_reducible first | exact HB.out | apply below_alloc | apply pw_below_drewN | apply below_drew1) | exact HB.out)⟩⟩
        ·rw [if_neg c20] at H
         have c20b0 : (((rd_T47 t853 x12_1).f0) == 2) = false := beq_eq_false_iff_ne.mpr c20
         have c20b1 : (((rd_T47 t853 x12_1).f0) != 2) = true := bne_iff_ne.mpr c20
         have H' := Aside0.mk H
         clear H
         obtain ⟨Ao22, co22, eo22⟩ := Kd.N_slice HO_11.out
         subst eo22
         have p858 : 0 ≤ (x12_1 : Int) := of_decide_eq_true (by first | (with_reducible assumption) | assumption)
         have q858 : x12_1 < (t853.length : Int) := of_decide_eq_true (by first | (with_reducible assumption) | assumption)
         obtain ⟨ad858, A858_1, c858_1, e858, hx858_0, hx858_1, hl858_1, hi858_1⟩ := at_T47 (Kd.N_reads' HO_11.out).2.2 x12_1 p858 q858
         cases e858
         obtain ⟨ce858, hce858, hMe858, hcc858⟩ := Kd.N_get HO_11.out z47 x12_1 p858 (by first | exact q858 | exact of_decide_eq_true (by first | (with_reducible assumption) | assumption) | (have e_ := (Kd.N_reads' HO_11.out).1; omega))
         obtain ⟨ua858_1, uc858_1, rfl, ul858_1, ge858_1⟩ := k47_openF hMe858
         have hv858_1 := hcc858 1 _ rfl
         rw [add_field _ _ 1 (by omega)] at hv858_1
         replace hv858_1 := Option.some.inj (hv858_1.symm.trans hx858_1)
         injection hv858_1 with hva_ hvn_ hvc_
         rw [hva_] at ge858_1
         rw [hvc_] at ul858_1
         have HL858_1 := Aside0.mk (show Kd.V k66 66 _ w.heap.size _ _ ((rd_T47 t853 x12_1).f1) from Kd.V_mk ul858_1 ge858_1)
         clear hva_ hvn_ hvc_ ge858_1 ul858_1
         clear hcc858 hce858
         have HR858_1 := Aside0.mk hi858_1
         have HC858_1 := Aside0.mk hl858_1
         clear hi858_1 hl858_1
         replace p858 := eq_true p858
         replace q858 := eq_true q858
         have p859 : 0 ≤ (x12_1 : Int) := of_decide_eq_true (by first | (with_reducible assumption) | assumption)
         have q859 : x12_1 < (t853.length : Int) := of_decide_eq_true (by first | (with_reducible assumption) | assumption)
         obtain ⟨ad859, A859_1, c859_1, e859, hx859_0, hx859_1, hl859_1, hi859_1⟩ := at_T47 (Kd.N_reads' HO_11.out).2.2 x12_1 p859 q859
         obtain rfl : ad858 = ad859 := (by injection e859)
         obtain ⟨ce859, hce859, hMe859, hcc859⟩ := Kd.N_get HO_11.out z47 x12_1 p859 (by first | exact q859 | exact of_decide_eq_true (by first | (with_reducible assumption) | assumption) | (have e_ := (Kd.N_reads' HO_11.out).1; omega))
         obtain ⟨ua859_1, uc859_1, rfl, ul859_1, ge859_1⟩ := k47_openF hMe859
         have hv859_1 := hcc859 1 _ rfl
         rw [add_field _ _ 1 (by omega)] at hv859_1
         replace hv859_1 := Option.some.inj (hv859_1.symm.trans hx859_1)
         injection hv859_1 with hva_ hvn_ hvc_
         rw [hva_] at ge859_1
         rw [hvc_] at ul859_1
         have HL859_1 := Aside0.mk (show Kd.V k66 66 _ w.heap.size _ _ ((rd_T47 t853 x12_1).f1) from Kd.V_mk ul859_1 ge859_1)
         clear hva_ hvn_ hvc_ ge859_1 ul859_1
         clear hcc859 hce859
         have HR859_1 := Aside0.mk hi859_1
         have HC859_1 := Aside0.mk hl859_1
         clear hi859_1 hl859_1
         replace p859 := eq_true p859
         replace q859 := eq_true q859
         have ea_ := Option.some.inj (hx858_1.symm.trans hx859_1)
         injection ea_ with ea_ en_ ec_
         subst ea_
         subst ec_
         clear en_
         go_wp2
         go_roundg k1
         case measure => have := HK1.out; omega
         case rel => exact ⟨(wrap64 (x9_1 + 1)), (x10_1), (wrap64 (x12_1 + 1)), (by first | rfl | (simp; done) | (simp [*]; done)), (by first | rfl | (simp; done) | (simp [*]; done)), (by first | rfl | (simp; done) | (simp [*]; done)), H', ⟨by have := HK1.out; omega⟩, ⟨by (with_reducible repeat (first | apply Kd.N_alloc | apply Kd.N_drewN | apply Kd.N_drew)); exact HO_3.out⟩, ⟨by (with_reducible repeat (first | apply Kd.N_alloc | apply Kd.N_drewN | apply Kd.N_drew)); exact HO_5.out⟩, ⟨by (with_reducible repeat (first | apply Kd.N_alloc | apply Kd.N_drewN | apply Kd.N_drew)); exact HO_11.out⟩, ⟨by repeat (first | (with_reducible first | exact HB.out | apply below_alloc | apply pw_below_drewN | apply below_drew1) | exact HB.out)⟩⟩
       ·rw [if_neg c19] at H
        have c19b0 : (((rd_T47 t853 x12_1).f0) == 3) = false := beq_eq_false_iff_ne.mpr c19
        have c19b1 : (((rd_T47 t853 x12_1).f0) != 3) = true := bne_iff_ne.mpr c19
        by_cases c23 : ((rd_T47 t853 x12_1).f0) = 2
        ·rw [if_pos c23] at H
         have c23b0 : (((rd_T47 t853 x12_1).f0) == 2) = true := beq_iff_eq.mpr c23
         have c23b1 : (((rd_T47 t853 x12_1).f0) != 2) = false := bne_eq_false_iff_eq.mpr c23
         clear c23
         have H' := Aside0.mk H
         clear H
         obtain ⟨Ao24, co24, eo24⟩ := Kd.N_slice HO_11.out
         subst eo24
         have p858 : 0 ≤ (x12_1 : Int) := of_decide_eq_true (by first | (with_reducible assumption) | assumption)
         have q858 : x12_1 < (t853.length : Int) := of_decide_eq_true (by first | (with_reducible assumption) | assumption)
         obtain ⟨ad858, A858_1, c858_1, e858, hx858_0, hx858_1, hl858_1, hi858_1⟩ := at_T47 (Kd.N_reads' HO_11.out).2.2 x12_1 p858 q858
         cases e858
         obtain ⟨ce858, hce858, hMe858, hcc858⟩ := Kd.N_get HO_11.out z47 x12_1 p858 (by first | exact q858 | exact of_decide_eq_true (by first | (with_reducible assumption) | assumption) | (have e_ := (Kd.N_reads' HO_11.out).1; omega))
         obtain ⟨ua858_1, uc858_1, rfl, ul858_1, ge858_1⟩ := k47_openF hMe858
         have hv858_1 := hcc858 1 _ rfl
         rw [add_field _ _ 1 (by omega)] at hv858_1
         replace hv858_1 := Option.some.inj (hv858_1.symm.trans hx858_1)
         injection hv858_1 with hva_ hvn_ hvc_
         rw [hva_] at ge858_1
         rw [hvc_] at ul858_1
         have HL858_1 := Aside0.mk (show Kd.V k66 66 _ w.heap.size _ _ ((rd_T47 t853 x12_1).f1) from Kd.V_mk ul858_1 ge858_1)
         clear hva_ hvn_ hvc_ ge858_1 ul858_1
         clear hcc858 hce858
         have HR858_1 := Aside0.mk hi858_1
         have HC858_1 := Aside0.mk hl858_1
         clear hi858_1 hl858_1
         replace p858 := eq_true p858
         replace q858 := eq_true q858
         have p860 : 0 ≤ (x12_1 : Int) := of_decide_eq_true (by first | (with_reducible assumption) | assumption)
         have q860 : x12_1 < (t853.length : Int) := of_decide_eq_true (by first | (with_reducible assumption) | assumption)
         obtain ⟨ad860, A860_1, c860_1, e860, hx860_0, hx860_1, hl860_1, hi860_1⟩ := at_T47 (Kd.N_reads' HO_11.out).2.2 x12_1 p860 q860
         obtain rfl : ad858 = ad860 := (by injection e860)
         obtain ⟨ce860, hce860, hMe860, hcc860⟩ := Kd.N_get HO_11.out z47 x12_1 p860 (by first | exact q860 | exact of_decide_eq_true (by first | (with_reducible assumption) | assumption) | (have e_ := (Kd.N_reads' HO_11.out).1; omega))
         obtain ⟨ua860_1, uc860_1, rfl, ul860_1, ge860_1⟩ := k47_openF hMe860
         have hv860_1 := hcc860 1 _ rfl
         rw [add_field _ _ 1 (by omega)] at hv860_1
         replace hv860_1 := Option.some.inj (hv860_1.symm.trans hx860_1)
         injection hv860_1 with hva_ hvn_ hvc_
         rw [hva_] at ge860_1
         rw [hvc_] at ul860_1
         have HL860_1 := Aside0.mk (show Kd.V k66 66 _ w.heap.size _ _ ((rd_T47 t853 x12_1).f1) from Kd.V_mk ul860_1 ge860_1)
         clear hva_ hvn_ hvc_ ge860_1 ul860_1
         clear hcc860 hce860
         have HR860_1 := Aside0.mk hi860_1
         have HC860_1 := Aside0.mk hl860_1
         clear hi860_1 hl860_1
         replace p860 := eq_true p860
         replace q860 := eq_true q860
         have ea_ := Option.some.inj (hx858_1.symm.trans hx860_1)
         injection ea_ with ea_ en_ ec_
         subst ea_
         subst ec_
         clear en_
         go_wp2
         go_roundg k1
         case measure => have := HK1.out; omega
         case rel => exact ⟨(x9_1), (wrap64 (x10_1 + 1)), (wrap64 (x12_1 + 1)), (by first | rfl | (simp; done) | (simp [*]; done)), (by first | rfl | (simp; done) | (simp [*]; done)), (by first | rfl | (simp; done) | (simp [*]; done)), H', ⟨by have := HK1.out; omega⟩, ⟨by (with_reducible repeat (first | apply Kd.N_alloc | apply Kd.N_drewN | apply Kd.N_drew)); exact HO_3.out⟩, ⟨by (with_reducible repeat (first | apply Kd.N_alloc | apply Kd.N_drewN | apply Kd.N_drew)); exact HO_5.out⟩, ⟨by (with_reducible repeat (first | apply Kd.N_alloc | apply Kd.N_drewN | apply Kd.N_drew)); exact HO_11.out⟩, ⟨by repeat (first | (with_reducible first | exact HB.out | apply below_alloc | apply pw_below_drewN | apply below_drew1) | exact HB.out)⟩⟩
        ·rw [if_neg c23] at H
         have c23b0 : (((rd_T47 t853 x12_1).f0) == 2) = false := beq_eq_false_iff_ne.mpr c23
         have c23b1 : (((rd_T47 t853 x12_1).f0) != 2) = true := bne_iff_ne.mpr c23
         have H' := Aside0.mk H
         clear H
         obtain ⟨Ao25, co25, eo25⟩ := Kd.N_slice HO_11.out
         subst eo25
         have p858 : 0 ≤ (x12_1 : Int) := of_decide_eq_true (by first | (with_reducible assumption) | assumption)
         have q858 : x12_1 < (t853.length : Int) := of_decide_eq_true (by first | (with_reducible assumption) | assumption)
         obtain ⟨ad858, A858_1, c858_1, e858, hx858_0, hx858_1, hl858_1, hi858_1⟩ := at_T47 (Kd.N_reads' HO_11.out).2.2 x12_1 p858 q858
         cases e858
         obtain ⟨ce858, hce858, hMe858, hcc858⟩ := Kd.N_get HO_11.out z47 x12_1 p858 (by first | exact q858 | exact of_decide_eq_true (by first | (with_reducible assumption) | assumption) | (have e_ := (Kd.N_reads' HO_11.out).1; omega))
         obtain ⟨ua858_1, uc858_1, rfl, ul858_1, ge858_1⟩ := k47_openF hMe858
         have hv858_1 := hcc858 1 _ rfl
         rw [add_field _ _ 1 (by omega)] at hv858_1
         replace hv858_1 := Option.some.inj (hv858_1.symm.trans hx858_1)
         injection hv858_1 with hva_ hvn_ hvc_
         rw [hva_] at ge858_1
         rw [hvc_] at ul858_1
         have HL858_1 := Aside0.mk (show Kd.V k66 66 _ w.heap.size _ _ ((rd_T47 t853 x12_1).f1) from Kd.V_mk ul858_1 ge858_1)
         clear hva_ hvn_ hvc_ ge858_1 ul858_1
         clear hcc858 hce858
         have HR858_1 := Aside0.mk hi858_1
         have HC858_1 := Aside0.mk hl858_1
         clear hi858_1 hl858_1
         replace p858 := eq_true p858
         replace q858 := eq_true q858
         have p860 : 0 ≤ (x12_1 : Int) := of_decide_eq_true (by first | (with_reducible assumption) | assumption)
         have q860 : x12_1 < (t853.length : Int) := of_decide_eq_true (by first | (with_reducible assumption) | assumption)
         obtain ⟨ad860, A860_1, c860_1, e860, hx860_0, hx860_1, hl860_1, hi860_1⟩ := at_T47 (Kd.N_reads' HO_11.out).2.2 x12_1 p860 q860
         obtain rfl : ad858 = ad860 := (by injection e860)
         obtain ⟨ce860, hce860, hMe860, hcc860⟩ := Kd.N_get HO_11.out z47 x12_1 p860 (by first | exact q860 | exact of_decide_eq_true (by first | (with_reducible assumption) | assumption) | (have e_ := (Kd.N_reads' HO_11.out).1; omega))
         obtain ⟨ua860_1, uc860_1, rfl, ul860_1, ge860_1⟩ := k47_openF hMe860
         have hv860_1 := hcc860 1 _ rfl
         rw [add_field _ _ 1 (by omega)] at hv860_1
         replace hv860_1 := Option.some.inj (hv860_1.symm.trans hx860_1)
         injection hv860_1 with hva_ hvn_ hvc_
         rw [hva_] at ge860_1
         rw [hvc_] at ul860_1
         have HL860_1 := Aside0.mk (show Kd.V k66 66 _ w.heap.size _ _ ((rd_T47 t853 x12_1).f1) from Kd.V_mk ul860_1 ge860_1)
         clear hva_ hvn_ hvc_ ge860_1 ul860_1
         clear hcc860 hce860
         have HR860_1 := Aside0.mk hi860_1
         have HC860_1 := Aside0.mk hl860_1
         clear hi860_1 hl860_1
         replace p860 := eq_true p860
         replace q860 := eq_true q860
         have ea_ := Option.some.inj (hx858_1.symm.trans hx860_1)
         injection ea_ with ea_ en_ ec_
         subst ea_
         subst ec_
         clear en_
         go_wp2
         go_roundg k1
         case measure => have := HK1.out; omega
         case rel => exact ⟨(x9_1), (x10_1), (wrap64 (x12_1 + 1)), (by first | rfl | (simp; done) | (simp [*]; done)), (by first | rfl | (simp; done) | (simp [*]; done)), (by first | rfl | (simp; done) | (simp [*]; done)), H', ⟨by have := HK1.out; omega⟩, ⟨by (with_reducible repeat (first | apply Kd.N_alloc | apply Kd.N_drewN | apply Kd.N_drew)); exact HO_3.out⟩, ⟨by (with_reducible repeat (first | apply Kd.N_alloc | apply Kd.N_drewN | apply Kd.N_drew)); exact HO_5.out⟩, ⟨by (with_reducible repeat (first | apply Kd.N_alloc | apply Kd.N_drewN | apply Kd.N_drew)); exact HO_11.out⟩, ⟨by repeat (first | (with_reducible first | exact HB.out | apply below_alloc | apply pw_below_drewN | apply below_drew1) | exact HB.out)⟩⟩
      ·rw [if_neg c18] at H
       exact absurd H (by simp)
     ·rw [if_neg c17] at H
      have c17b0 : decide (x12_1 < (t853.length : Int)) = false := decide_eq_false c17
      clear c17
      replace H := Option.bind_eq_some_iff.mp H
      obtain ⟨t856, A260, H⟩ := H
      replace H : (if t856 = true then ((jalousieref09_Same.f k1 t840 t844).bind fun t857 => (if t857 = true then (if t843 = t847 then (if t848 = x9_1 then (some (t849 == x10_1)) else (some false)) else (some false)) else (some false))) else (some false)) = some r := H
      have A26 := Aside0.mk A260
      clear A260
      by_cases c27 : t856 = true
      ·subst c27
       have H1 : ((jalousieref09_Same.f k1 t840 t844).bind fun t857 => (if t857 = true then (if t843 = t847 then (if t848 = x9_1 then (some (t849 == x10_1)) else (some false)) else (some false)) else (some false))) = some r := by rw [if_pos rfl] at H; exact H
       clear H
       have H := H1
       clear H1
       replace H := Option.bind_eq_some_iff.mp H
       obtain ⟨t857, A280, H⟩ := H
       replace H : (if t857 = true then (if t843 = t847 then (if t848 = x9_1 then (some (t849 == x10_1)) else (some false)) else (some false)) else (some false)) = some r := H
       have A28 := Aside0.mk A280
       clear A280
       by_cases c29 : t857 = true
       ·subst c29
        have H1 : (if t843 = t847 then (if t848 = x9_1 then (some (t849 == x10_1)) else (some false)) else (some false)) = some r := by rw [if_pos rfl] at H; exact H
        clear H
        have H := H1
        clear H1
        by_cases c30 : t843 = t847
        ·rw [if_pos c30] at H
         have c30b0 : (t843 == t847) = true := beq_iff_eq.mpr c30
         have c30b1 : (t843 != t847) = false := bne_eq_false_iff_eq.mpr c30
         clear c30
         by_cases c31 : t848 = x9_1
         ·rw [if_pos c31] at H
          have c31b0 : (t848 == x9_1) = true := beq_iff_eq.mpr c31
          have c31b1 : (t848 != x9_1) = false := bne_eq_false_iff_eq.mpr c31
          clear c31
          obtain rfl := Option.some.inj H
          obtain ⟨Ao32, co32, eo32⟩ := Kd.N_slice HO_11.out
          subst eo32
          go_wp2_with (first | ((with_reducible refine gate_callee (f := 32) rfl ?_); refine goesL_ (some 58) rfl rfl Try.func32 (by kernel_rfl) rfl #[] rfl (by (try simp only [List.map_toArray, List.map_cons, List.map_nil]); first | done | rfl | (simp only [List.length_drop, List.length_take]; rfl)) ?_; (with_reducible refine (jalousielaw11_live.calls k1  true _ A26.out).mono ?_); rintro e w33 ⟨rfl, hb⟩; refine ⟨_, rfl, ?_⟩; have n0_ := Aside0.mk (Kd.N_below (by (with_reducible repeat (first | apply Kd.N_alloc | apply Kd.N_drewN | apply Kd.N_drew)); exact HO_3.out) hb); have n1_ := Aside0.mk (Kd.N_below (by (with_reducible repeat (first | apply Kd.N_alloc | apply Kd.N_drewN | apply Kd.N_drew)); exact HO_5.out) hb); have n2_ := Aside0.mk (Kd.N_below (by (with_reducible repeat (first | apply Kd.N_alloc | apply Kd.N_drewN | apply Kd.N_drew)); exact HO_11.out) hb); have n3_ := Aside0.mk (below_step (by repeat (first | (with_reducible first | exact HB.out | apply below_alloc | apply pw_below_drewN | apply below_drew1) | exact HB.out)) hb); clear HO_3; clear HO_5; clear HO_11; clear HB; have HO_3 := n0_; have HO_5 := n1_; have HO_11 := n2_; have HB := n3_; clear n0_ n1_ n2_ n3_; (try clear hb); (try clear hb2); (try clear hk); (try clear hi); obtain ⟨Ao34, co34, eo34⟩ := Kd.N_slice HO_3.out; subst eo34; obtain ⟨Ao35, co35, eo35⟩ := Kd.N_slice HO_5.out; subst eo35) | (go_at_call 17; (with_reducible refine (jalousieref09_Same.calls k1 _ _ t840 _ _ t844 true _ ?side1 ?side2 ?side3 ?side4 A28.out).mono ?_); (case side1 => repeat (first | exact (Kd.N_reads' HO_3.out).2.2 | (with_reducible refine Kd.C_alloc ?_ _) | (with_reducible refine Kd.C_drewN ?_ _) | (with_reducible refine Kd.C_drew ?_))); (case side2 => exact (Kd.N_reads' HO_3.out).2.1); (case side3 => repeat (first | exact (Kd.N_reads' HO_5.out).2.2 | (with_reducible refine Kd.C_alloc ?_ _) | (with_reducible refine Kd.C_drewN ?_ _) | (with_reducible refine Kd.C_drew ?_))); (case side4 => exact (Kd.N_reads' HO_5.out).2.1); rintro e w' ⟨rfl, ⟨nd, rfl⟩⟩))
          go_ret
          exact ⟨by first | rfl | (simp [errW_none, errW_some] <;> rfl) | (simp only [← hji2]; first | rfl | (simp [errW_none, errW_some] <;> rfl)) | (simp [*, errW_none, errW_some] <;> rfl), by repeat (first | (with_reducible first | exact HB.out | apply below_alloc | apply pw_below_drewN | apply below_drew1) | exact HB.out)⟩
         ·rw [if_neg c31] at H
          have c31b0 : (t848 == x9_1) = false := beq_eq_false_iff_ne.mpr c31
          have c31b1 : (t848 != x9_1) = true := bne_iff_ne.mpr c31
          exact absurd (Option.some.inj (H.trans (congrArg some HRT.out))) (by decide)
        ·rw [if_neg c30] at H
         have c30b0 : (t843 == t847) = false := beq_eq_false_iff_ne.mpr c30
         have c30b1 : (t843 != t847) = true := bne_iff_ne.mpr c30
         exact absurd (Option.some.inj (H.trans (congrArg some HRT.out))) (by decide)
       ·replace c29 := Bool.eq_false_iff.mpr c29
        subst c29
        have H1 : (some false) = some r := by rw [if_neg (show ¬ (false = true) by decide)] at H; exact H
        clear H
        have H := H1
        clear H1
        exact absurd (Option.some.inj (H.trans (congrArg some HRT.out))) (by decide)
      ·replace c27 := Bool.eq_false_iff.mpr c27
       subst c27
       have H1 : (some false) = some r := by rw [if_neg (show ¬ (false = true) by decide)] at H; exact H
       clear H
       have H := H1
       clear H1
       exact absurd (Option.some.inj (H.trans (congrArg some HRT.out))) (by decide)
  ·rw [if_neg c4] at H
   exact absurd H (by simp)
 ·rw [if_neg c3] at H
  exact absurd H (by simp)

end Go.Proofs.Ytfnbodjmmkjlcaa.H
end
section
namespace Go.Proofs.Ytfnbodjmmkjlcaa.H
open Go.RowKit Go.Proofs.YtfnbodjmmkjlcaaW.PrintWords Go.Proofs.YtfnbodjmmkjlcaaW.PrintLast Go.Proofs.YtfnbodjmmkjlcaaW.PrintMore
set_option linter.unusedVariables false
/-- The same within the second form's bound. -/
def jalousielaw11_PatchReverses.PureUpto : Prop := ∀ (l0 : (List S44)), (∀ y_ ∈ l0, ok44 y_) → (fun l_ => (l_.map bk44).sum + 1) l0 ≤ 1048576 → ∃ k, jalousielaw11_PatchReverses.f k l0 = some true
end Go.Proofs.Ytfnbodjmmkjlcaa.H
end
section
namespace Go.Proofs.Ytfnbodjmmkjlcaa
open Go.RowKit Go.Proofs.YtfnbodjmmkjlcaaW.PrintWords Go.Proofs.YtfnbodjmmkjlcaaW.PrintMore
theorem ev_succ {α : Type} {g : Nat → Option α} {r : α} (h : Ev (fun k => g (k + 1)) r) : Ev g r := Ev.step (fun _ => rfl) h
theorem ev_pos {α : Type} {c : Prop} [Decidable c] {f g : Nat → Option α} {r : α} (h : c) (k : Ev f r) : Ev (fun n => if c then f n else g n) r := by
  obtain ⟨K, k⟩ := k
  exact ⟨K, fun n hn => (if_pos h).trans (k n hn)⟩
theorem ev_neg {α : Type} {c : Prop} [Decidable c] {f g : Nat → Option α} {r : α} (h : ¬ c) (k : Ev g r) : Ev (fun n => if c then f n else g n) r := by
  obtain ⟨K, k⟩ := k
  exact ⟨K, fun n hn => (if_neg h).trans (k n hn)⟩
theorem ev_some {α : Type} {a r : α} (h : a = r) : Ev (fun _ => some a) r := ⟨0, fun _ _ => congrArg some h⟩
theorem ev_bind {α β : Type} {x : Option α} {f : Nat → α → Option β} {a : α} {r : β} (h : x = some a) (k : Ev (fun n => f n a) r) : Ev (fun n => x.bind (f n)) r := by
  subst h
  exact k
theorem ev_cast {α : Type} {g : Nat → Option α} {r q : α} (h : Ev g r) (e : r = q) : Ev g q := e ▸ h
theorem w64s (i : Nat) (h : i < 9223372036854775807) : wrap64 ((i : Int) + 1) = ((i + 1 : Nat) : Int) := by
  unfold wrap64
  omega
theorem w64i (x : Int) (h0 : -9223372036854775808 ≤ x) (h1 : x ≤ 9223372036854775807) : wrap64 x = x := by
  unfold wrap64
  omega
theorem getD_lt {α : Type} {l : List α} {i : Nat} (h : i < l.length) (d : α) : l.getD i d = l[i] := by
  rw [List.getD_eq_getElem?_getD, List.getElem?_eq_getElem h]
  rfl
theorem getD_some {α : Type} {l : List α} {i : Nat} {x : α} (h : l[i]? = some x) (d : α) : l.getD i d = x := by
  rw [List.getD_eq_getElem?_getD, h]
  rfl
theorem drop_cons {α : Type} (l : List α) (i : Nat) (h : i < l.length) (d : α) : l.drop i = l.getD i d :: l.drop (i + 1) := by
  rw [List.drop_eq_getElem_cons h, getD_lt h]
theorem take_snoc {α : Type} (l : List α) (i : Nat) (h : i < l.length) (d : α) : l.take (i + 1) = l.take i ++ [l.getD i d] := by
  rw [List.take_succ_eq_append_getElem h, getD_lt h]
theorem ba_toList (s : ByteArray) : s.toList = s.data.toList := by
  obtain ⟨⟨l⟩⟩ := s
  exact ByteArray.toList_mk l
theorem ba_inj {a b : ByteArray} (h : a.toList = b.toList) : a = b := by
  rw [ba_toList, ba_toList] at h
  obtain ⟨⟨l⟩⟩ := a
  obtain ⟨⟨m⟩⟩ := b
  simp only at h
  subst h
  rfl
theorem ba_beq (a b : ByteArray) : (a.toList == b.toList) = decide (a = b) := by
  by_cases h : a = b
  · subst h
    simp
  · rw [decide_eq_false h]
    simp only [beq_eq_false_iff_ne, ne_eq]
    exact fun e => h (ba_inj e)
end Go.Proofs.Ytfnbodjmmkjlcaa
end
section
namespace Go.Proofs.Ytfnbodjmmkjlcaa.H
open Go.RowKit Go.Proofs.YtfnbodjmmkjlcaaW.PrintWords Go.Proofs.YtfnbodjmmkjlcaaW.PrintLast Go.Proofs.YtfnbodjmmkjlcaaW.PrintMore
attribute [local go_sem] max2_int min2_int max_two min_two max_three min_three max_four min_four   -- for this text's walks alone
set_option linter.unusedVariables false
set_option linter.unusedSimpArgs false

mutual
def hunk_Join.l0 : Nat → List (S47) → List (S44) → Int → Int → Option ((List (S47)))
  | 0, _, _, _, _ => none
  | k + 1, x3, x8, x9, x10 => if x10 < x9 then (if 0 ≤ x10 then (if x10 < (x8.length : Int) then (hunk_Join.l1 k x3 x8 x9 x10 ((rd_T44 x8 x10).f4) (((rd_T44 x8 x10).f4).length : Int) 0) else (none)) else (none)) else (some x3)
def hunk_Join.l1 : Nat → List (S47) → List (S44) → Int → Int → List (S47) → Int → Int → Option ((List (S47)))
  | 0, _, _, _, _, _, _, _ => none
  | k + 1, x3, x8, x9, x10, x15, x16, x17 => if x17 < x16 then (if 0 ≤ x17 then (if x17 < (x15.length : Int) then ((api_Line_52.f ((rd_T47 x15 x17).f1)).bind fun t155 => (if x3.length < 4398046511104 then (hunk_Join.l1 k (x3 ++ [(⟨(rd_T47 x15 x17).f0, t155⟩ : S47)]) x8 x9 x10 x15 x16 (wrap64 (x17 + 1))) else (none))) else (none)) else (none)) else (hunk_Join.l0 k x3 x8 x9 (wrap64 (x10 + 1)))
end
def hunk_Join.f (k : Nat) (l0 : List (S44)) : Option ((List (S47))) := hunk_Join.l0 k ([] : List (S47)) l0 (l0.length : Int) 0
end Go.Proofs.Ytfnbodjmmkjlcaa.H
end
