/-
  What the claim needs of the words, of the walks and of the plain proofs, in one row (4).
-/
import Derived.RangeFuncNested
import Derived.RangeFuncBound
import Derived.RangeFuncCalls
import Derived.RangeFuncLeaves
import Derived.RangeFuncBox
import Derived.RangeFuncMany
import Derived.OwnWalkIn
import Derived.Test.YtfnbodjmmkjlcaaZ0
import Derived.Test.YtfnbodjmmkjlcaaZ1
import Derived.Test.YtfnbodjmmkjlcaaZ2
import Derived.Test.YtfnbodjmmkjlcaaZ3
section
namespace Go.Proofs.Ytfnbodjmmkjlcaa.H
open Go.RowKit Go.Proofs.YtfnbodjmmkjlcaaW.PrintWords Go.Proofs.YtfnbodjmmkjlcaaW.PrintLast Go.Proofs.YtfnbodjmmkjlcaaW.PrintMore
attribute [local go_sem] max2_int min2_int max_two min_two max_three min_three max_four min_four   -- for this text's walks alone
set_option linter.unusedVariables false
set_option linter.unusedSimpArgs false

def hunk_Whole.l0 : Nat → List (S66) → List (S47) → Int → List (S44) → Int → Int → Option ((List (S47)) × Int)
 | 0, _, _, _, _, _, _ => none
 | k + 1, x1, x7, x8, x23, x24, x25 => if x25 < x24 then (if 0 ≤ x25 then (if x25 < (x23.length : Int) then ((script_Sides.f k ((rd_T44 x23 x25).f4)).bind fun bt178 => (if (wrap64 (((rd_T44 x23 x25).f0) + ((rd_T44 x23 x25).f1))) > (x1.length : Int) then (some (([] : List (S47)), 8)) else (if 0 ≤ ((rd_T44 x23 x25).f0) then (if ((rd_T44 x23 x25).f0) ≤ (wrap64 (((rd_T44 x23 x25).f0) + ((rd_T44 x23 x25).f1))) then (if (wrap64 (((rd_T44 x23 x25).f0) + ((rd_T44 x23 x25).f1))) ≤ (x1.length : Int) then ((api_Line_56.f k bt178.1 ((x1.take ((wrap64 (((rd_T44 x23 x25).f0) + ((rd_T44 x23 x25).f1))) : Int).toNat).drop (((rd_T44 x23 x25).f0) : Int).toNat)).bind fun t190 => (if t190 = true then (if 0 ≤ x8 then (if x8 ≤ ((rd_T44 x23 x25).f0) then (if ((rd_T44 x23 x25).f0) ≤ (x1.length : Int) then (if x7.length < 4398046511104 then ((some (x7 ++ [(⟨1, ((x1.take (((rd_T44 x23 x25).f0) : Int).toNat).drop (x8 : Int).toNat)⟩ : S47)] : List (S47))).bind fun y196 => (if y196.length + ((rd_T44 x23 x25).f4).length < 4398046511104 then (hunk_Whole.l0 k x1 (y196 ++ ((rd_T44 x23 x25).f4)) (wrap64 (((rd_T44 x23 x25).f0) + ((rd_T44 x23 x25).f1))) x23 x24 (wrap64 (x25 + 1))) else (none))) else (none)) else (none)) else (none)) else (none)) else (some (([] : List (S47)), 8)))) else (none)) else (none)) else (none)))) else (none)) else (none)) else (if 0 ≤ x8 then (if x8 ≤ (x1.length : Int) then (if x7.length < 4398046511104 then ((script_Normal.f k (x7 ++ [(⟨1, (x1.drop (x8 : Int).toNat)⟩ : S47)])).bind fun bt172 => (some (bt172.1, bt172.2))) else (none)) else (none)) else (none))
def hunk_Whole.f (k : Nat) (l0 : List (S44)) (l1 : List (S66)) : Option ((List (S47)) × Int) := (hunk_Check.f k l0).bind fun t163 => (if t163 = 0 then (if (l1.length : Int) > 400 then (some (([] : List (S47)), 4)) else (hunk_Whole.l0 k l1 ([] : List (S47)) 0 l0 (l0.length : Int) 0)) else (some (([] : List (S47)), t163)))
theorem hunk_Whole.mono_l : ∀ k, (∀ y0 y1 y2 y3 y4 y5, LeO (hunk_Whole.l0 k y0 y1 y2 y3 y4 y5) (hunk_Whole.l0 (k + 1) y0 y1 y2 y3 y4 y5))
 | 0 => fun _ _ _ _ _ _ r h => by simp [hunk_Whole.l0] at h
 | k + 1 => by
  have ih0 := hunk_Whole.mono_l k
  ·intro y0 y1 y2 y3 y4 y5
   unfold hunk_Whole.l0
   repeat' first
   | (with_reducible exact ih0 _ _ _ _ _ _)
   | (with_reducible exact api_Line_56.mono _ _ _)
   | (with_reducible exact hunk_Check.mono _ _)
   | (with_reducible exact script_Normal.mono _ _)
   | (with_reducible exact script_Sides.mono _ _)
   | (with_reducible exact LeO.refl _)
   | (with_reducible exact LeO.none _)
   | (with_reducible refine LeO.ite ?_ ?_)
   | (with_reducible refine LeO.bind ?_ (fun _ => ?_))
   | exact ih0 _ _ _ _ _ _
   | exact api_Line_56.mono _ _ _
   | exact hunk_Check.mono _ _
   | exact script_Normal.mono _ _
   | exact script_Sides.mono _ _
   | exact LeO.none _
   | refine LeO.ite ?_ ?_
   | refine LeO.bind ?_ (fun _ => ?_)
theorem hunk_Whole.mono : ∀ a0 a1 k, LeO (hunk_Whole.f k a0 a1) (hunk_Whole.f (k + 1) a0 a1) := by
 intro a0 a1 k
 have ih0 := hunk_Whole.mono_l k
 unfold hunk_Whole.f
 repeat' first
   | (with_reducible exact ih0 _ _ _ _ _ _)
   | (with_reducible exact api_Line_56.mono _ _ _)
   | (with_reducible exact hunk_Check.mono _ _)
   | (with_reducible exact script_Normal.mono _ _)
   | (with_reducible exact script_Sides.mono _ _)
   | (with_reducible exact LeO.refl _)
   | (with_reducible exact LeO.none _)
   | (with_reducible refine LeO.ite ?_ ?_)
   | (with_reducible refine LeO.bind ?_ (fun _ => ?_))
   | exact ih0 _ _ _ _ _ _
   | exact api_Line_56.mono _ _ _
   | exact hunk_Check.mono _ _
   | exact script_Normal.mono _ _
   | exact script_Sides.mono _ _
   | exact LeO.none _
   | refine LeO.ite ?_ ?_
   | refine LeO.bind ?_ (fun _ => ?_)
def hunk_Whole.T15 : Bool × List (List Nat × List Nat) := (true, [([], []), ([], []), ([], []), ([], []), ([3], [3]), ([], []), ([5], [5]), ([1, 2, 4, 6], [1, 2, 4, 6]), ([7], [7]), ([8], [8]), ([0, 9], [0, 9]), ([], []), ([11], [11]), ([10, 12, 10], [10, 12]), ([13, 13, 0, 1, 2, 3, 4, 5, 6, 7, 8, 9, 10, 11, 12, 13], [0, 13])])
def hunk_Whole.B15 : List Nat := [0, 0, 0, 0, 8, 0, 32, 126, 254, 510, 1023, 0, 2048, 8191, 16383]
theorem hunk_Whole.tab15 : rtab .any (opsOf Try.f25 15) = hunk_Whole.T15 := by kernel_rfl
theorem hunk_Whole.bits15 : waitsOk hunk_Whole.T15.2 hunk_Whole.B15 = true := by kernel_rfl
set_option maxHeartbeats 8000000 in
set_option maxRecDepth 100000 in
theorem hunk_Whole.calls (k : Nat) (P0_ : Nat → Prop) (A0 : Option Addr) (c0 : Nat) (l0 : List (S44)) (P1_ : Nat → Prop) (A1 : Option Addr) (c1 : Nat) (l1 : List (S66)) (r1 : List (S47)) (r2 : Int) (w : World) (hs0 : Kd.V k44 44 w w.heap.size (fun k_ => P0_ k_) (.slice A0 l0.length c0) l0) (hs1 : Kd.V k66 66 w w.heap.size (fun k_ => P1_ k_) (.slice A1 l1.length c1) l1) (h : hunk_Whole.f k l0 l1 = some (r1, r2)) :
  Calls Try.prog 25 #[.slice A0 l0.length c0, .slice A1 l1.length c1] w fun e w' => ∃ v0_ : Value, e = .returned (.tuple #[v0_, .int .i64 r2]) ∧ Kd.N k47 47 w' w.heap.size (fun k_ => ((P0_ k_ ∨ P1_ k_) ∨ w.heap.size ≤ k_)) v0_ r1 ∧ Below w.heap.size w w' := by
 have hu44 := Try.underlying44
 have hu47 := Try.underlying47
 have HO0 := Aside0.mk (show Kd.V k44 44 w w.heap.size (fun k_ => ((P0_ k_ ∨ P1_ k_) ∨ w.heap.size ≤ k_)) (.slice A0 l0.length c0) l0 from Kd.V_mono hs0 (fun k_ hk => .inl (.inl hk)))
 have HO1 := Aside0.mk (show Kd.V k66 66 w w.heap.size (fun k_ => ((P0_ k_ ∨ P1_ k_) ∨ w.heap.size ≤ k_)) (.slice A1 l1.length c1) l1 from Kd.V_mono hs1 (fun k_ hk => .inl (.inr hk)))
 have HB := Aside0.mk (Below.refl w.heap.size w)
 have H : ((hunk_Check.f k l0).bind fun t163 => (if t163 = 0 then (if (l1.length : Int) > 400 then (some (([] : List (S47)), 4)) else (hunk_Whole.l0 k l1 ([] : List (S47)) 0 l0 (l0.length : Int) 0)) else (some (([] : List (S47)), t163)))) = some (r1, r2) := h
 clear h
 replace H := Option.bind_eq_some_iff.mp H
 obtain ⟨t163, A30, H⟩ := H
 replace H : (if t163 = 0 then (if (l1.length : Int) > 400 then (some (([] : List (S47)), 4)) else (hunk_Whole.l0 k l1 ([] : List (S47)) 0 l0 (l0.length : Int) 0)) else (some (([] : List (S47)), t163))) = some (r1, r2) := H
 have A3 := Aside0.mk A30
 clear A30
 by_cases c4 : t163 = 0
 ·rw [if_pos c4] at H
  have c4b0 : (t163 == 0) = true := beq_iff_eq.mpr c4
  have c4b1 : (t163 != 0) = false := bne_eq_false_iff_eq.mpr c4
  clear c4
  by_cases c5 : (l1.length : Int) > 400
  ·rw [if_pos c5] at H
   have c5b0 : decide (400 < (l1.length : Int)) = true := decide_eq_true c5
   have c5b1 : decide (400 < l1.length) = true := decide_eq_true (by omega)
   clear c5
   simp only [Option.some.injEq, Prod.mk.injEq] at H
   obtain ⟨rfl, rfl⟩ := H
   go_enter Try.func25, Try.ntmps25
   go_wp2_with (first | ((with_reducible refine gate_callee (f := 18) rfl ?_); refine goesL_ (some 16) rfl rfl Try.func18 (by kernel_rfl) rfl #[.slice A0 l0.length c0] rfl (by (try simp only [List.map_toArray, List.map_cons, List.map_nil]); first | done | rfl | (simp only [List.length_drop, List.length_take]; rfl)) ?_; (with_reducible refine (hunk_Check.calls k _ _ l0 t163 _ ?side1 ?side2 A3.out).mono ?_); (case side1 => repeat (first | exact (Kd.V_reads' HO0.out).2.2 | (with_reducible refine Kd.C_alloc ?_ _) | (with_reducible refine Kd.C_drewN ?_ _) | (with_reducible refine Kd.C_drew ?_))); (case side2 => exact (Kd.V_reads' HO0.out).2.1); rintro e w6 ⟨rfl, hb⟩; refine ⟨_, rfl, ?_⟩; have n0_ := Aside0.mk (Kd.V_below (by (with_reducible repeat (first | apply Kd.V_alloc | apply Kd.V_drewN | apply Kd.V_drew)); exact HO0.out) hb); have n1_ := Aside0.mk (Kd.V_below (by (with_reducible repeat (first | apply Kd.V_alloc | apply Kd.V_drewN | apply Kd.V_drew)); exact HO1.out) hb); have n2_ := Aside0.mk (below_step (by repeat (first | (with_reducible first | exact HB.out | apply below_alloc | apply pw_below_drewN | apply below_drew1) | exact HB.out)) hb); clear HO0; clear HO1; clear HB; have HO0 := n0_; have HO1 := n1_; have HB := n2_; clear n0_ n1_ n2_; (try clear hb); (try clear hb2); (try clear hk); (try clear hi)))
   go_ret2
   exact ⟨_, by first | rfl | (simp [errW_none, errW_some] <;> rfl) | (simp [*, errW_none, errW_some] <;> rfl), by first | exact Kd.S_nil _ _ _ _ _ | exact Kd.N_nil _ _ _ _ _ | exact Kd.V_nil _ _ _ _ _ | exact Kd.Q_nil _ _ _ _ _ | exact Kd.R_nil _ _ _ _ _, by repeat (first | (with_reducible first | exact HB.out | apply below_alloc | apply pw_below_drewN | apply below_drew1) | exact HB.out)⟩
  ·rw [if_neg c5] at H
   have c5b0 : decide (400 < (l1.length : Int)) = false := decide_eq_false c5
   have c5b1 : decide (400 < l1.length) = false := decide_eq_false (by omega)
   clear c5
   have H' := Aside0.mk H
   clear H
   go_enter Try.func25, Try.ntmps25
   go_wp2_with (first | ((with_reducible refine gate_callee (f := 18) rfl ?_); refine goesL_ (some 16) rfl rfl Try.func18 (by kernel_rfl) rfl #[.slice A0 l0.length c0] rfl (by (try simp only [List.map_toArray, List.map_cons, List.map_nil]); first | done | rfl | (simp only [List.length_drop, List.length_take]; rfl)) ?_; (with_reducible refine (hunk_Check.calls k _ _ l0 t163 _ ?side1 ?side2 A3.out).mono ?_); (case side1 => repeat (first | exact (Kd.V_reads' HO0.out).2.2 | (with_reducible refine Kd.C_alloc ?_ _) | (with_reducible refine Kd.C_drewN ?_ _) | (with_reducible refine Kd.C_drew ?_))); (case side2 => exact (Kd.V_reads' HO0.out).2.1); rintro e w7 ⟨rfl, hb⟩; refine ⟨_, rfl, ?_⟩; have n0_ := Aside0.mk (Kd.V_below (by (with_reducible repeat (first | apply Kd.V_alloc | apply Kd.V_drewN | apply Kd.V_drew)); exact HO0.out) hb); have n1_ := Aside0.mk (Kd.V_below (by (with_reducible repeat (first | apply Kd.V_alloc | apply Kd.V_drewN | apply Kd.V_drew)); exact HO1.out) hb); have n2_ := Aside0.mk (below_step (by repeat (first | (with_reducible first | exact HB.out | apply below_alloc | apply pw_below_drewN | apply below_drew1) | exact HB.out)) hb); clear HO0; clear HO1; clear HB; have HO0 := n0_; have HO1 := n1_; have HB := n2_; clear n0_ n1_ n2_; (try clear hb); (try clear hb2); (try clear hk); (try clear hi)))
   go_loopg [7, 8, 25] k (fun kq v7 v8 v25 w' => ∃ (x7_1 : List (S47)) (x8_1 : Int) (x25_1 : Int), v8 = .int .i64 x8_1 ∧ v25 = .int .i64 x25_1 ∧ Aside0 (hunk_Whole.l0 kq l1 x7_1 x8_1 l0 (l0.length : Int) x25_1 = some (r1, r2)) ∧ Aside0 (kq ≤ k) ∧ Aside0 (Kd.V k66 66 w' w.heap.size (fun k_ => ((P0_ k_ ∨ P1_ k_) ∨ w.heap.size ≤ k_) ∧ some k_ ≠ (v7 : Value).ownBlock) (.slice A1 l1.length c1) l1) ∧ Aside0 (Kd.N k47 47 w' w.heap.size (fun k_ => ((P0_ k_ ∨ P1_ k_) ∨ w.heap.size ≤ k_)) v7 x7_1) ∧ Aside0 (Kd.V k44 44 w' w.heap.size (fun k_ => ((P0_ k_ ∨ P1_ k_) ∨ w.heap.size ≤ k_) ∧ some k_ ≠ (v7 : Value).ownBlock) (.slice A0 l0.length c0) l0) ∧ Aside0 (Below w.heap.size w w'))
   case atStart => exact ⟨(([] : List (S47))), (0), (0), (by first | rfl | (simp; done) | (simp [*]; done)), (by first | rfl | (simp; done) | (simp [*]; done)), H', ⟨Nat.le_refl _⟩, ⟨by (with_reducible repeat (first | apply Kd.V_alloc | apply Kd.V_drewN | apply Kd.V_drew)); exact Kd.V_mono HO1.out (fun _ hk => ⟨hk, (by simp [Value.ownBlock])⟩)⟩, ⟨by first | exact Kd.S_nil _ _ _ _ _ | exact Kd.N_nil _ _ _ _ _ | exact Kd.V_nil _ _ _ _ _ | exact Kd.Q_nil _ _ _ _ _ | exact Kd.R_nil _ _ _ _ _⟩, ⟨by (with_reducible repeat (first | apply Kd.V_alloc | apply Kd.V_drewN | apply Kd.V_drew)); exact Kd.V_mono HO0.out (fun _ hk => ⟨hk, (by simp [Value.ownBlock])⟩)⟩, ⟨by repeat (first | (with_reducible first | exact HB.out | apply below_alloc | apply pw_below_drewN | apply below_drew1) | exact HB.out)⟩⟩
   case round =>
    clear H'
    try clear c1
    try clear c2
    try clear p2
    try clear c4
    try clear c4b0
    try clear c4b1
    try clear c5
    try clear c5b0
    try clear c5b1
    obtain ⟨x7_1, x8_1, x25_1, rfl, rfl, HA, HK1, HO_1, HO_7, HO_23, HB⟩ := hrel
    cases gk with
    | zero => exact absurd HA.out (by simp [hunk_Whole.l0])
    | succ k1 =>
     have H := HA.out
     clear HA
     simp only [hunk_Whole.l0] at H
     by_cases c8 : x25_1 < (l0.length : Int)
     ·rw [if_pos c8] at H
      have c8b0 : decide (x25_1 < (l0.length : Int)) = true := decide_eq_true c8
      clear c8
      by_cases c9 : 0 ≤ x25_1
      ·rw [if_pos c9] at H
       have c9b0 : decide (0 ≤ x25_1) = true := decide_eq_true c9
       clear c9
       by_cases c10 : x25_1 < (l0.length : Int)
       ·rw [if_pos c10] at H
        have c10b0 : decide (x25_1 < (l0.length : Int)) = true := decide_eq_true c10
        clear c10
        replace H := Option.bind_eq_some_iff.mp H
        obtain ⟨⟨t178, t179, t180⟩, A110, H⟩ := H
        replace H : (if (wrap64 (((rd_T44 l0 x25_1).f0) + ((rd_T44 l0 x25_1).f1))) > (l1.length : Int) then (some (([] : List (S47)), 8)) else (if 0 ≤ ((rd_T44 l0 x25_1).f0) then (if ((rd_T44 l0 x25_1).f0) ≤ (wrap64 (((rd_T44 l0 x25_1).f0) + ((rd_T44 l0 x25_1).f1))) then (if (wrap64 (((rd_T44 l0 x25_1).f0) + ((rd_T44 l0 x25_1).f1))) ≤ (l1.length : Int) then ((api_Line_56.f k1 t178 ((l1.take ((wrap64 (((rd_T44 l0 x25_1).f0) + ((rd_T44 l0 x25_1).f1))) : Int).toNat).drop (((rd_T44 l0 x25_1).f0) : Int).toNat)).bind fun t190 => (if t190 = true then (if 0 ≤ x8_1 then (if x8_1 ≤ ((rd_T44 l0 x25_1).f0) then (if ((rd_T44 l0 x25_1).f0) ≤ (l1.length : Int) then (if x7_1.length < 4398046511104 then ((some (x7_1 ++ [(⟨1, ((l1.take (((rd_T44 l0 x25_1).f0) : Int).toNat).drop (x8_1 : Int).toNat)⟩ : S47)] : List (S47))).bind fun y196 => (if y196.length + ((rd_T44 l0 x25_1).f4).length < 4398046511104 then (hunk_Whole.l0 k1 l1 (y196 ++ ((rd_T44 l0 x25_1).f4)) (wrap64 (((rd_T44 l0 x25_1).f0) + ((rd_T44 l0 x25_1).f1))) l0 (l0.length : Int) (wrap64 (x25_1 + 1))) else (none))) else (none)) else (none)) else (none)) else (none)) else (some (([] : List (S47)), 8)))) else (none)) else (none)) else (none))) = some (r1, r2) := H
        have A11 := Aside0.mk A110
        clear A110
        by_cases c12 : (wrap64 (((rd_T44 l0 x25_1).f0) + ((rd_T44 l0 x25_1).f1))) > (l1.length : Int)
        ·rw [if_pos c12] at H
         have c12b0 : decide ((l1.length : Int) < (wrap64 (((rd_T44 l0 x25_1).f0) + ((rd_T44 l0 x25_1).f1)))) = true := decide_eq_true c12
         clear c12
         simp only [Option.some.injEq, Prod.mk.injEq] at H
         obtain ⟨rfl, rfl⟩ := H
         have p176 : 0 ≤ (x25_1 : Int) := of_decide_eq_true (by first | (with_reducible assumption) | assumption)
         have q176 : x25_1 < (l0.length : Int) := of_decide_eq_true (by first | (with_reducible assumption) | assumption)
         obtain ⟨ad176, A176_4, c176_4, e176, hx176_0, hx176_1, hx176_2, hx176_3, hx176_4, hl176_4, hi176_4⟩ := at_T44 (Kd.V_reads' HO_23.out).2.2 x25_1 p176 q176
         cases e176
         obtain ⟨ce176, hce176, hMe176, hcc176⟩ := Kd.V_get HO_23.out z44 x25_1 p176 (by first | exact q176 | exact of_decide_eq_true (by first | (with_reducible assumption) | assumption) | (have e_ := (Kd.V_reads' HO_23.out).1; omega))
         obtain ⟨ua176_4, uc176_4, rfl, ul176_4, ge176_4⟩ := k44_openF hMe176
         have hv176_4 := hcc176 4 _ rfl
         rw [add_field _ _ 4 (by omega)] at hv176_4
         replace hv176_4 := Option.some.inj (hv176_4.symm.trans hx176_4)
         injection hv176_4 with hva_ hvn_ hvc_
         rw [hva_] at ge176_4
         rw [hvc_] at ul176_4
         have HL176_4 := Aside0.mk (show Kd.V k47 47 _ w.heap.size _ _ ((rd_T44 l0 x25_1).f4) from Kd.V_mk ul176_4 ge176_4)
         clear hva_ hvn_ hvc_ ge176_4 ul176_4
         clear hcc176 hce176
         have HR176_4 := Aside0.mk hi176_4
         have HC176_4 := Aside0.mk hl176_4
         clear hi176_4 hl176_4
         replace p176 := eq_true p176
         replace q176 := eq_true q176
         go_wp2_with (first | ((with_reducible refine gate_dst (N := 10) rfl ?_); refine box_event ?hg (N := 10) ?hd (cs := #[.int .i64 0, .int .i64 0, .int .i64 0, .int .i64 0, .slice none 0 0]) (t := 44) ?hr ?_; (case hd => rfl); (case hg => rfl); (case hr => first | (go_simp; done) | (go_simp; rfl)); intro gb177 hg w13 hbox hb; have n0_ := Aside0.mk (Kd.V_below (Kd.V_elderB (by (with_reducible repeat (first | apply Kd.V_alloc | apply Kd.V_drewN | apply Kd.V_drew)); exact HO_1.out) gb177 (Nat.le_of_eq hg.symm)) hb); have n1_ := Aside0.mk (Kd.N_below (Kd.N_elderB (by (with_reducible repeat (first | apply Kd.N_alloc | apply Kd.N_drewN | apply Kd.N_drew)); exact HO_7.out) gb177 (Nat.le_of_eq hg.symm)) hb); have n2_ := Aside0.mk (Kd.V_below (Kd.V_elderB (by (with_reducible repeat (first | apply Kd.V_alloc | apply Kd.V_drewN | apply Kd.V_drew)); exact HO_23.out) gb177 (Nat.le_of_eq hg.symm)) hb); have n3_ := Aside0.mk (Kd.V_below (Kd.V_elderB (by (with_reducible repeat (first | apply Kd.V_alloc | apply Kd.V_drewN | apply Kd.V_drew)); exact HL176_4.out) gb177 (Nat.le_of_eq hg.symm)) hb); have n4_ := Aside0.mk (Kd.C_below (by repeat (first | (with_reducible exact HR176_4.out) | (with_reducible refine Kd.C_alloc ?_ _) | (with_reducible refine Kd.C_drewN ?_ _) | (with_reducible refine Kd.C_drew ?_) | exact HR176_4.out)) hb); have n5_ := Aside0.mk (below_step (by repeat (first | (with_reducible first | exact HB.out | apply below_alloc | apply pw_below_drewN | apply below_drew1) | exact HB.out)) hb); have n6_ := Aside0.mk (hbox); have n7_ := Aside0.mk ((by rw [hg]; exact (below_size (by repeat (first | (with_reducible first | exact HB.out | apply below_alloc | apply pw_below_drewN | apply below_drew1) | exact HB.out))) : w.heap.size ≤ gb177)); have n8_ := Aside0.mk ((by rw [hg]; exact (below_size (by repeat (first | (with_reducible first | exact HB.out | apply below_alloc | apply pw_below_drewN | apply below_drew1) | exact HB.out))) : w.heap.size ≤ gb177)); clear HO_1; clear HO_7; clear HO_23; clear HL176_4; clear HR176_4; clear HB; have HO_1 := n0_; have HO_7 := n1_; have HO_23 := n2_; have HL176_4 := n3_; have HR176_4 := n4_; have HB := n5_; have BK177 := n6_; have GW177 := n7_; have GE177 := n8_; clear n0_ n1_ n2_ n3_ n4_ n5_ n6_ n7_ n8_; clear hb hbox hg; have hcz14_0 : w13.cell? ⟨gb177, 0, none⟩ = some (.int .i64 0) := (blk_cell BK177.out 0).trans rfl; have hcz14_1 : w13.cell? ⟨gb177, 1, none⟩ = some (.int .i64 0) := (blk_cell BK177.out 1).trans rfl; have hcz14_2 : w13.cell? ⟨gb177, 2, none⟩ = some (.int .i64 0) := (blk_cell BK177.out 2).trans rfl; have hcz14_3 : w13.cell? ⟨gb177, 3, none⟩ = some (.int .i64 0) := (blk_cell BK177.out 3).trans rfl; have hcz14_4 : w13.cell? ⟨gb177, 4, none⟩ = some (.slice none 0 0) := (blk_cell BK177.out 4).trans rfl; have hfz14_0 := blk_frozen BK177.out 0; have hfz14_1 := blk_frozen BK177.out 1; have hfz14_2 := blk_frozen BK177.out 2; have hfz14_3 := blk_frozen BK177.out 3; have hfz14_4 := blk_frozen BK177.out 4) | ((with_reducible refine gate_callee (f := 55) rfl ?_); refine goesL_ (some 37) rfl rfl Try.func55 (by kernel_rfl) rfl #[.slice A176_4 ((rd_T44 l0 x25_1).f4).length c176_4] rfl (by (try simp only [List.map_toArray, List.map_cons, List.map_nil]); first | done | rfl | (simp only [List.length_drop, List.length_take]; rfl)) ?_; (with_reducible refine (script_Sides.calls k1 _ _ ((rd_T44 l0 x25_1).f4) t178 t179 t180 _ ?side1 ?side2 A11.out).mono ?_); (case side1 => repeat (first | exact ((Kd.V_reads' (by (with_reducible repeat (first | apply Kd.V_alloc | apply Kd.V_drewN | apply Kd.V_drew)); exact (Kd.V_mono (Kd.V_far (p := ⟨gb177, 4, none⟩) (Kd.V_far (p := ⟨gb177, 3, none⟩) (Kd.V_far (p := ⟨gb177, 2, none⟩) (Kd.V_far (p := ⟨gb177, 1, none⟩) (Kd.V_far (p := ⟨gb177, 0, none⟩) (Kd.V_mono HL176_4.out (fun k_ hk => (⟨hk, hk.2⟩ : _ ∧ k_ ≠ gb177))) (fun _ hk => hk.2) (.int .i64 ((rd_T44 l0 x25_1).f0))) (fun _ hk => hk.2) (.int .i64 ((rd_T44 l0 x25_1).f1))) (fun _ hk => hk.2) (.int .i64 ((rd_T44 l0 x25_1).f2))) (fun _ hk => hk.2) (.int .i64 ((rd_T44 l0 x25_1).f3))) (fun _ hk => hk.2) (.slice A176_4 ((rd_T44 l0 x25_1).f4).length c176_4)) (fun _ h_ => h_.1)))).2.2) | (with_reducible refine Kd.C_alloc ?_ _) | (with_reducible refine Kd.C_drewN ?_ _) | (with_reducible refine Kd.C_drew ?_))); (case side2 => exact HC176_4.out); rintro e w15 ⟨v181, v183, rfl, ho0, ho1, hb⟩; refine ⟨_, rfl, ?_⟩; have n0_ := Aside0.mk (Kd.V_mono (Kd.V_told (Kd.V_told (Kd.V_old (by (with_reducible repeat (first | apply Kd.V_alloc | apply Kd.V_drewN | apply Kd.V_drew)); exact (Kd.V_mono (Kd.V_far (p := ⟨gb177, 4, none⟩) (Kd.V_far (p := ⟨gb177, 3, none⟩) (Kd.V_far (p := ⟨gb177, 2, none⟩) (Kd.V_far (p := ⟨gb177, 1, none⟩) (Kd.V_far (p := ⟨gb177, 0, none⟩) (Kd.V_mono HO_1.out (fun k_ hk => (⟨hk, hk.2⟩ : _ ∧ k_ ≠ gb177))) (fun _ hk => hk.2) (.int .i64 ((rd_T44 l0 x25_1).f0))) (fun _ hk => hk.2) (.int .i64 ((rd_T44 l0 x25_1).f1))) (fun _ hk => hk.2) (.int .i64 ((rd_T44 l0 x25_1).f2))) (fun _ hk => hk.2) (.int .i64 ((rd_T44 l0 x25_1).f3))) (fun _ hk => hk.2) (.slice A176_4 ((rd_T44 l0 x25_1).f4).length c176_4)) (fun _ h_ => h_.1))) hb) (Kd.R_base ho0)) (Kd.R_base ho1)) (fun _ h_ => h_.1)); have n1_ := Aside0.mk (Kd.N_mono (Kd.N_told (Kd.N_told (Kd.N_old (by (with_reducible repeat (first | apply Kd.N_alloc | apply Kd.N_drewN | apply Kd.N_drew)); exact (Kd.N_mono (Kd.N_far (p := ⟨gb177, 4, none⟩) (Kd.N_far (p := ⟨gb177, 3, none⟩) (Kd.N_far (p := ⟨gb177, 2, none⟩) (Kd.N_far (p := ⟨gb177, 1, none⟩) (Kd.N_far (p := ⟨gb177, 0, none⟩) (Kd.N_mono HO_7.out (fun k_ hk => (⟨hk, hk.2⟩ : _ ∧ k_ ≠ gb177))) (fun _ hk => hk.2) (.int .i64 ((rd_T44 l0 x25_1).f0))) (fun _ hk => hk.2) (.int .i64 ((rd_T44 l0 x25_1).f1))) (fun _ hk => hk.2) (.int .i64 ((rd_T44 l0 x25_1).f2))) (fun _ hk => hk.2) (.int .i64 ((rd_T44 l0 x25_1).f3))) (fun _ hk => hk.2) (.slice A176_4 ((rd_T44 l0 x25_1).f4).length c176_4)) (fun _ h_ => h_.1))) hb) (Kd.R_base ho0)) (Kd.R_base ho1)) (fun _ h_ => h_.1)); have n2_ := Aside0.mk (Kd.V_mono (Kd.V_told (Kd.V_told (Kd.V_old (by (with_reducible repeat (first | apply Kd.V_alloc | apply Kd.V_drewN | apply Kd.V_drew)); exact (Kd.V_mono (Kd.V_far (p := ⟨gb177, 4, none⟩) (Kd.V_far (p := ⟨gb177, 3, none⟩) (Kd.V_far (p := ⟨gb177, 2, none⟩) (Kd.V_far (p := ⟨gb177, 1, none⟩) (Kd.V_far (p := ⟨gb177, 0, none⟩) (Kd.V_mono HO_23.out (fun k_ hk => (⟨hk, hk.2⟩ : _ ∧ k_ ≠ gb177))) (fun _ hk => hk.2) (.int .i64 ((rd_T44 l0 x25_1).f0))) (fun _ hk => hk.2) (.int .i64 ((rd_T44 l0 x25_1).f1))) (fun _ hk => hk.2) (.int .i64 ((rd_T44 l0 x25_1).f2))) (fun _ hk => hk.2) (.int .i64 ((rd_T44 l0 x25_1).f3))) (fun _ hk => hk.2) (.slice A176_4 ((rd_T44 l0 x25_1).f4).length c176_4)) (fun _ h_ => h_.1))) hb) (Kd.R_base ho0)) (Kd.R_base ho1)) (fun _ h_ => h_.1)); have n3_ := Aside0.mk (Kd.V_mono (Kd.V_told (Kd.V_told (Kd.V_old (by (with_reducible repeat (first | apply Kd.V_alloc | apply Kd.V_drewN | apply Kd.V_drew)); exact (Kd.V_mono (Kd.V_far (p := ⟨gb177, 4, none⟩) (Kd.V_far (p := ⟨gb177, 3, none⟩) (Kd.V_far (p := ⟨gb177, 2, none⟩) (Kd.V_far (p := ⟨gb177, 1, none⟩) (Kd.V_far (p := ⟨gb177, 0, none⟩) (Kd.V_mono HL176_4.out (fun k_ hk => (⟨hk, hk.2⟩ : _ ∧ k_ ≠ gb177))) (fun _ hk => hk.2) (.int .i64 ((rd_T44 l0 x25_1).f0))) (fun _ hk => hk.2) (.int .i64 ((rd_T44 l0 x25_1).f1))) (fun _ hk => hk.2) (.int .i64 ((rd_T44 l0 x25_1).f2))) (fun _ hk => hk.2) (.int .i64 ((rd_T44 l0 x25_1).f3))) (fun _ hk => hk.2) (.slice A176_4 ((rd_T44 l0 x25_1).f4).length c176_4)) (fun _ h_ => h_.1))) hb) (Kd.R_base ho0)) (Kd.R_base ho1)) (fun _ h_ => h_.1)); have n4_ := Aside0.mk (Kd.R_lower (Kd.R_newM (M := fun k_ => (w.heap.size ≤ k_)) ho0 (below_size (by repeat (first | (with_reducible first | exact HB.out | apply below_alloc | apply pw_below_drewN | apply below_drew1 | refine below_set ?_ GE177.out) | exact HB.out))) (fun k_ h_ => h_)) (below_size (by repeat (first | (with_reducible first | exact HB.out | apply below_alloc | apply pw_below_drewN | apply below_drew1 | refine below_set ?_ GE177.out) | exact HB.out)))); have n5_ := Aside0.mk (Kd.R_lower (Kd.R_newM (M := fun k_ => (w.heap.size ≤ k_)) ho1 (below_size (by repeat (first | (with_reducible first | exact HB.out | apply below_alloc | apply pw_below_drewN | apply below_drew1 | refine below_set ?_ GE177.out) | exact HB.out))) (fun k_ h_ => h_)) (below_size (by repeat (first | (with_reducible first | exact HB.out | apply below_alloc | apply pw_below_drewN | apply below_drew1 | refine below_set ?_ GE177.out) | exact HB.out)))); have n6_ := Aside0.mk (Kd.C_below ((Kd.V_reads' (by (with_reducible repeat (first | apply Kd.V_alloc | apply Kd.V_drewN | apply Kd.V_drew)); exact (Kd.V_mono (Kd.V_far (p := ⟨gb177, 4, none⟩) (Kd.V_far (p := ⟨gb177, 3, none⟩) (Kd.V_far (p := ⟨gb177, 2, none⟩) (Kd.V_far (p := ⟨gb177, 1, none⟩) (Kd.V_far (p := ⟨gb177, 0, none⟩) (Kd.V_mono HL176_4.out (fun k_ hk => (⟨hk, hk.2⟩ : _ ∧ k_ ≠ gb177))) (fun _ hk => hk.2) (.int .i64 ((rd_T44 l0 x25_1).f0))) (fun _ hk => hk.2) (.int .i64 ((rd_T44 l0 x25_1).f1))) (fun _ hk => hk.2) (.int .i64 ((rd_T44 l0 x25_1).f2))) (fun _ hk => hk.2) (.int .i64 ((rd_T44 l0 x25_1).f3))) (fun _ hk => hk.2) (.slice A176_4 ((rd_T44 l0 x25_1).f4).length c176_4)) (fun _ h_ => h_.1)))).2.2) hb); have n7_ := Aside0.mk (blk_below (g := gb177) (o := .cells #[.int .i64 ((rd_T44 l0 x25_1).f0), .int .i64 ((rd_T44 l0 x25_1).f1), .int .i64 ((rd_T44 l0 x25_1).f2), .int .i64 ((rd_T44 l0 x25_1).f3), .slice A176_4 ((rd_T44 l0 x25_1).f4).length c176_4] 44 (0, 0)) (by (with_reducible repeat first|refine zb1 ?_ _|refine zb2 ?_|refine zb3 ?_ _); refine blk_put (cs := #[.int .i64 ((rd_T44 l0 x25_1).f0), .int .i64 ((rd_T44 l0 x25_1).f1), .int .i64 ((rd_T44 l0 x25_1).f2), .int .i64 ((rd_T44 l0 x25_1).f3), .slice none 0 0]) ?_ 4 _ rfl; (with_reducible repeat first|refine zb1 ?_ _|refine zb2 ?_|refine zb3 ?_ _); refine blk_put (cs := #[.int .i64 ((rd_T44 l0 x25_1).f0), .int .i64 ((rd_T44 l0 x25_1).f1), .int .i64 ((rd_T44 l0 x25_1).f2), .int .i64 0, .slice none 0 0]) ?_ 3 _ rfl; (with_reducible repeat first|refine zb1 ?_ _|refine zb2 ?_|refine zb3 ?_ _); refine blk_put (cs := #[.int .i64 ((rd_T44 l0 x25_1).f0), .int .i64 ((rd_T44 l0 x25_1).f1), .int .i64 0, .int .i64 0, .slice none 0 0]) ?_ 2 _ rfl; (with_reducible repeat first|refine zb1 ?_ _|refine zb2 ?_|refine zb3 ?_ _); refine blk_put (cs := #[.int .i64 ((rd_T44 l0 x25_1).f0), .int .i64 0, .int .i64 0, .int .i64 0, .slice none 0 0]) ?_ 1 _ rfl; (with_reducible repeat first|refine zb1 ?_ _|refine zb2 ?_|refine zb3 ?_ _); refine blk_put (cs := #[.int .i64 0, .int .i64 0, .int .i64 0, .int .i64 0, .slice none 0 0]) ?_ 0 _ rfl; (with_reducible repeat first|refine zb1 ?_ _|refine zb2 ?_|refine zb3 ?_ _); exact BK177.out) hb); have n8_ := Aside0.mk (below_step (by repeat (first | (with_reducible first | exact HB.out | apply below_alloc | apply pw_below_drewN | apply below_drew1 | refine below_set ?_ GE177.out) | exact HB.out)) hb); clear HO_1; clear HO_7; clear HO_23; clear HL176_4; clear HR176_4; clear BK177; clear HB; have HO_1 := n0_; have HO_7 := n1_; have HO_23 := n2_; have HL176_4 := n3_; have HO182 := n4_; have HO184 := n5_; have HR176_4 := n6_; have BK177 := n7_; have HB := n8_; clear n0_ n1_ n2_ n3_ n4_ n5_ n6_ n7_ n8_; (try clear hb); (try clear hb2); (try clear hk); (try clear hi); (try clear ho0); (try clear ho1)))
         go_ret2
         exact ⟨_, by first | rfl | (simp [errW_none, errW_some] <;> rfl) | (simp [*, errW_none, errW_some] <;> rfl), by first | exact Kd.S_nil _ _ _ _ _ | exact Kd.N_nil _ _ _ _ _ | exact Kd.V_nil _ _ _ _ _ | exact Kd.Q_nil _ _ _ _ _ | exact Kd.R_nil _ _ _ _ _, by repeat (first | (with_reducible first | exact HB.out | apply below_alloc | apply pw_below_drewN | apply below_drew1 | refine below_set ?_ GE177.out) | exact HB.out)⟩
        ·rw [if_neg c12] at H
         have c12b0 : decide ((l1.length : Int) < (wrap64 (((rd_T44 l0 x25_1).f0) + ((rd_T44 l0 x25_1).f1)))) = false := decide_eq_false c12
         clear c12
         by_cases c16 : 0 ≤ ((rd_T44 l0 x25_1).f0)
         ·rw [if_pos c16] at H
          have c16b0 := eq_true c16
          have c16b1 : decide (0 ≤ ((rd_T44 l0 x25_1).f0)) = true := decide_eq_true c16
          clear c16
          by_cases c17 : ((rd_T44 l0 x25_1).f0) ≤ (wrap64 (((rd_T44 l0 x25_1).f0) + ((rd_T44 l0 x25_1).f1)))
          ·rw [if_pos c17] at H
           have c17b0 := eq_true c17
           have c17b1 : decide (((rd_T44 l0 x25_1).f0) ≤ (wrap64 (((rd_T44 l0 x25_1).f0) + ((rd_T44 l0 x25_1).f1)))) = true := decide_eq_true c17
           by_cases c18 : (wrap64 (((rd_T44 l0 x25_1).f0) + ((rd_T44 l0 x25_1).f1))) ≤ (l1.length : Int)
           ·rw [if_pos c18] at H
            have c18b0 := eq_true c18
            have c18b1 : decide ((wrap64 (((rd_T44 l0 x25_1).f0) + ((rd_T44 l0 x25_1).f1))) ≤ (l1.length : Int)) = true := decide_eq_true c18
            obtain ⟨y185, hy185⟩ : ∃ y_ : List (S66), y_ = ((l1.take ((wrap64 (((rd_T44 l0 x25_1).f0) + ((rd_T44 l0 x25_1).f1))) : Int).toNat).drop (((rd_T44 l0 x25_1).f0) : Int).toNat) := ⟨_, rfl⟩
            replace H : ((api_Line_56.f k1 t178 y185).bind fun t190 => (if t190 = true then (if 0 ≤ x8_1 then (if x8_1 ≤ ((rd_T44 l0 x25_1).f0) then (if ((rd_T44 l0 x25_1).f0) ≤ (l1.length : Int) then (if x7_1.length < 4398046511104 then ((some (x7_1 ++ [(⟨1, ((l1.take (((rd_T44 l0 x25_1).f0) : Int).toNat).drop (x8_1 : Int).toNat)⟩ : S47)] : List (S47))).bind fun y196 => (if y196.length + ((rd_T44 l0 x25_1).f4).length < 4398046511104 then (hunk_Whole.l0 k1 l1 (y196 ++ ((rd_T44 l0 x25_1).f4)) (wrap64 (((rd_T44 l0 x25_1).f0) + ((rd_T44 l0 x25_1).f1))) l0 (l0.length : Int) (wrap64 (x25_1 + 1))) else (none))) else (none)) else (none)) else (none)) else (none)) else (some (([] : List (S47)), 8)))) = some (r1, r2) := by first | (rw [hy185]; with_reducible exact H) | (have H2_ := (Option.bind_some _ _).symm.trans H; rw [hy185]; with_reducible exact H2_) | (have H2_ := (Option.bind_some _ _).symm.trans H; with_reducible exact H2_) | with_reducible exact H | (rw [hy185]; exact H) | exact H
            have Ny185 := Aside0.mk hy185
            clear hy185
            replace H := Option.bind_eq_some_iff.mp H
            obtain ⟨t190, A190, H⟩ := H
            replace H : (if t190 = true then (if 0 ≤ x8_1 then (if x8_1 ≤ ((rd_T44 l0 x25_1).f0) then (if ((rd_T44 l0 x25_1).f0) ≤ (l1.length : Int) then (if x7_1.length < 4398046511104 then ((some (x7_1 ++ [(⟨1, ((l1.take (((rd_T44 l0 x25_1).f0) : Int).toNat).drop (x8_1 : Int).toNat)⟩ : S47)] : List (S47))).bind fun y196 => (if y196.length + ((rd_T44 l0 x25_1).f4).length < 4398046511104 then (hunk_Whole.l0 k1 l1 (y196 ++ ((rd_T44 l0 x25_1).f4)) (wrap64 (((rd_T44 l0 x25_1).f0) + ((rd_T44 l0 x25_1).f1))) l0 (l0.length : Int) (wrap64 (x25_1 + 1))) else (none))) else (none)) else (none)) else (none)) else (none)) else (some (([] : List (S47)), 8))) = some (r1, r2) := H
            have A19 := Aside0.mk A190
            clear A190
            by_cases c20 : t190 = true
            ·subst c20
             have H1 : (if 0 ≤ x8_1 then (if x8_1 ≤ ((rd_T44 l0 x25_1).f0) then (if ((rd_T44 l0 x25_1).f0) ≤ (l1.length : Int) then (if x7_1.length < 4398046511104 then ((some (x7_1 ++ [(⟨1, ((l1.take (((rd_T44 l0 x25_1).f0) : Int).toNat).drop (x8_1 : Int).toNat)⟩ : S47)] : List (S47))).bind fun y196 => (if y196.length + ((rd_T44 l0 x25_1).f4).length < 4398046511104 then (hunk_Whole.l0 k1 l1 (y196 ++ ((rd_T44 l0 x25_1).f4)) (wrap64 (((rd_T44 l0 x25_1).f0) + ((rd_T44 l0 x25_1).f1))) l0 (l0.length : Int) (wrap64 (x25_1 + 1))) else (none))) else (none)) else (none)) else (none)) else (none)) = some (r1, r2) := by rw [if_pos rfl] at H; exact H
             clear H
             have H := H1
             clear H1
             by_cases c21 : 0 ≤ x8_1
             ·rw [if_pos c21] at H
              have c21b0 := eq_true c21
              have c21b1 : decide (0 ≤ x8_1) = true := decide_eq_true c21
              clear c21
              by_cases c22 : x8_1 ≤ ((rd_T44 l0 x25_1).f0)
              ·rw [if_pos c22] at H
               have c22b0 := eq_true c22
               have c22b1 : decide (x8_1 ≤ ((rd_T44 l0 x25_1).f0)) = true := decide_eq_true c22
               clear c22
               by_cases c23 : ((rd_T44 l0 x25_1).f0) ≤ (l1.length : Int)
               ·rw [if_pos c23] at H
                have c23b0 := eq_true c23
                have c23b1 : decide (((rd_T44 l0 x25_1).f0) ≤ (l1.length : Int)) = true := decide_eq_true c23
                clear c23
                obtain ⟨y191, hy191⟩ : ∃ y_ : List (S66), y_ = ((l1.take (((rd_T44 l0 x25_1).f0) : Int).toNat).drop (x8_1 : Int).toNat) := ⟨_, rfl⟩
                replace H : (if x7_1.length < 4398046511104 then ((some (x7_1 ++ [(⟨1, y191⟩ : S47)] : List (S47))).bind fun y196 => (if y196.length + ((rd_T44 l0 x25_1).f4).length < 4398046511104 then (hunk_Whole.l0 k1 l1 (y196 ++ ((rd_T44 l0 x25_1).f4)) (wrap64 (((rd_T44 l0 x25_1).f0) + ((rd_T44 l0 x25_1).f1))) l0 (l0.length : Int) (wrap64 (x25_1 + 1))) else (none))) else (none)) = some (r1, r2) := by first | (rw [hy191]; with_reducible exact H) | (have H2_ := (Option.bind_some _ _).symm.trans H; rw [hy191]; with_reducible exact H2_) | (have H2_ := (Option.bind_some _ _).symm.trans H; with_reducible exact H2_) | with_reducible exact H | (rw [hy191]; exact H) | exact H
                have Ny191 := Aside0.mk hy191
                clear hy191
                by_cases c24 : x7_1.length < 4398046511104
                ·rw [if_pos c24] at H
                 have LMc24 := Aside0.mk c24
                 clear c24
                 obtain ⟨y196, hy196⟩ : ∃ y_ : List (S47), y_ = (x7_1 ++ [(⟨1, y191⟩ : S47)]) := ⟨_, rfl⟩
                 replace H : (if y196.length + ((rd_T44 l0 x25_1).f4).length < 4398046511104 then (hunk_Whole.l0 k1 l1 (y196 ++ ((rd_T44 l0 x25_1).f4)) (wrap64 (((rd_T44 l0 x25_1).f0) + ((rd_T44 l0 x25_1).f1))) l0 (l0.length : Int) (wrap64 (x25_1 + 1))) else (none)) = some (r1, r2) := by first | (rw [hy196]; with_reducible exact H) | (have H2_ := (Option.bind_some _ _).symm.trans H; rw [hy196]; with_reducible exact H2_) | (have H2_ := (Option.bind_some _ _).symm.trans H; with_reducible exact H2_) | with_reducible exact H | (rw [hy196]; exact H) | exact H
                 have Ny196 := Aside0.mk hy196
                 clear hy196
                 by_cases c25 : y196.length + ((rd_T44 l0 x25_1).f4).length < 4398046511104
                 ·rw [if_pos c25] at H
                  have LMc25 := Aside0.mk c25
                  clear c25
                  obtain ⟨y199, hy199⟩ : ∃ y_ : List (S47), y_ = (y196 ++ ((rd_T44 l0 x25_1).f4)) := ⟨_, rfl⟩
                  replace H : (hunk_Whole.l0 k1 l1 y199 (wrap64 (((rd_T44 l0 x25_1).f0) + ((rd_T44 l0 x25_1).f1))) l0 (l0.length : Int) (wrap64 (x25_1 + 1))) = some (r1, r2) := by first | (rw [hy199]; with_reducible exact H) | (have H2_ := (Option.bind_some _ _).symm.trans H; rw [hy199]; with_reducible exact H2_) | (have H2_ := (Option.bind_some _ _).symm.trans H; with_reducible exact H2_) | with_reducible exact H | (rw [hy199]; exact H) | exact H
                  have Ny199 := Aside0.mk hy199
                  clear hy199
                  have H' := Aside0.mk H
                  clear H
                  have p176 : 0 ≤ (x25_1 : Int) := of_decide_eq_true (by first | (with_reducible assumption) | assumption)
                  have q176 : x25_1 < (l0.length : Int) := of_decide_eq_true (by first | (with_reducible assumption) | assumption)
                  obtain ⟨ad176, A176_4, c176_4, e176, hx176_0, hx176_1, hx176_2, hx176_3, hx176_4, hl176_4, hi176_4⟩ := at_T44 (Kd.V_reads' HO_23.out).2.2 x25_1 p176 q176
                  cases e176
                  obtain ⟨ce176, hce176, hMe176, hcc176⟩ := Kd.V_get HO_23.out z44 x25_1 p176 (by first | exact q176 | exact of_decide_eq_true (by first | (with_reducible assumption) | assumption) | (have e_ := (Kd.V_reads' HO_23.out).1; omega))
                  obtain ⟨ua176_4, uc176_4, rfl, ul176_4, ge176_4⟩ := k44_openF hMe176
                  have hv176_4 := hcc176 4 _ rfl
                  rw [add_field _ _ 4 (by omega)] at hv176_4
                  replace hv176_4 := Option.some.inj (hv176_4.symm.trans hx176_4)
                  injection hv176_4 with hva_ hvn_ hvc_
                  rw [hva_] at ge176_4
                  rw [hvc_] at ul176_4
                  have HL176_4 := Aside0.mk (show Kd.V k47 47 _ w.heap.size _ _ ((rd_T44 l0 x25_1).f4) from Kd.V_mk ul176_4 ge176_4)
                  clear hva_ hvn_ hvc_ ge176_4 ul176_4
                  clear hcc176 hce176
                  have HR176_4 := Aside0.mk hi176_4
                  have HC176_4 := Aside0.mk hl176_4
                  clear hi176_4 hl176_4
                  replace p176 := eq_true p176
                  replace q176 := eq_true q176
                  try go_wp2_with (first | ((with_reducible refine gate_dst (N := 10) rfl ?_); refine box_event ?hg (N := 10) ?hd (cs := #[.int .i64 0, .int .i64 0, .int .i64 0, .int .i64 0, .slice none 0 0]) (t := 44) ?hr ?_; (case hd => rfl); (case hg => rfl); (case hr => first | (go_simp; done) | (go_simp; rfl)); intro gb177 hg w26 hbox hb; have n0_ := Aside0.mk (Kd.V_below (Kd.V_elderB (by (with_reducible repeat (first | apply Kd.V_alloc | apply Kd.V_drewN | apply Kd.V_drew)); exact HO_1.out) gb177 (Nat.le_of_eq hg.symm)) hb); have n1_ := Aside0.mk (Kd.N_below (Kd.N_elderB (by (with_reducible repeat (first | apply Kd.N_alloc | apply Kd.N_drewN | apply Kd.N_drew)); exact HO_7.out) gb177 (Nat.le_of_eq hg.symm)) hb); have n2_ := Aside0.mk (Kd.V_below (Kd.V_elderB (by (with_reducible repeat (first | apply Kd.V_alloc | apply Kd.V_drewN | apply Kd.V_drew)); exact HO_23.out) gb177 (Nat.le_of_eq hg.symm)) hb); have n3_ := Aside0.mk (Kd.V_below (Kd.V_elderB (by (with_reducible repeat (first | apply Kd.V_alloc | apply Kd.V_drewN | apply Kd.V_drew)); exact HL176_4.out) gb177 (Nat.le_of_eq hg.symm)) hb); have n4_ := Aside0.mk (Kd.C_below (by repeat (first | (with_reducible exact HR176_4.out) | (with_reducible refine Kd.C_alloc ?_ _) | (with_reducible refine Kd.C_drewN ?_ _) | (with_reducible refine Kd.C_drew ?_) | exact HR176_4.out)) hb); have n5_ := Aside0.mk (below_step (by repeat (first | (with_reducible first | exact HB.out | apply below_alloc | apply pw_below_drewN | apply below_drew1) | exact HB.out)) hb); have n6_ := Aside0.mk (hbox); have n7_ := Aside0.mk ((by rw [hg]; exact (below_size (by repeat (first | (with_reducible first | exact HB.out | apply below_alloc | apply pw_below_drewN | apply below_drew1) | exact HB.out))) : w.heap.size ≤ gb177)); have n8_ := Aside0.mk ((by rw [hg]; exact (below_size (by repeat (first | (with_reducible first | exact HB.out | apply below_alloc | apply pw_below_drewN | apply below_drew1) | exact HB.out))) : w.heap.size ≤ gb177)); clear HO_1; clear HO_7; clear HO_23; clear HL176_4; clear HR176_4; clear HB; have HO_1 := n0_; have HO_7 := n1_; have HO_23 := n2_; have HL176_4 := n3_; have HR176_4 := n4_; have HB := n5_; have BK177 := n6_; have GW177 := n7_; have GE177 := n8_; clear n0_ n1_ n2_ n3_ n4_ n5_ n6_ n7_ n8_; clear hb hbox hg; have hcz27_0 : w26.cell? ⟨gb177, 0, none⟩ = some (.int .i64 0) := (blk_cell BK177.out 0).trans rfl; have hcz27_1 : w26.cell? ⟨gb177, 1, none⟩ = some (.int .i64 0) := (blk_cell BK177.out 1).trans rfl; have hcz27_2 : w26.cell? ⟨gb177, 2, none⟩ = some (.int .i64 0) := (blk_cell BK177.out 2).trans rfl; have hcz27_3 : w26.cell? ⟨gb177, 3, none⟩ = some (.int .i64 0) := (blk_cell BK177.out 3).trans rfl; have hcz27_4 : w26.cell? ⟨gb177, 4, none⟩ = some (.slice none 0 0) := (blk_cell BK177.out 4).trans rfl; have hfz27_0 := blk_frozen BK177.out 0; have hfz27_1 := blk_frozen BK177.out 1; have hfz27_2 := blk_frozen BK177.out 2; have hfz27_3 := blk_frozen BK177.out 3; have hfz27_4 := blk_frozen BK177.out 4) | ((with_reducible refine gate_callee (f := 55) rfl ?_); refine goesL_ (some 37) rfl rfl Try.func55 (by kernel_rfl) rfl #[.slice A176_4 ((rd_T44 l0 x25_1).f4).length c176_4] rfl (by (try simp only [List.map_toArray, List.map_cons, List.map_nil]); first | done | rfl | (simp only [List.length_drop, List.length_take]; rfl)) ?_; (with_reducible refine (script_Sides.calls k1 _ _ ((rd_T44 l0 x25_1).f4) t178 t179 t180 _ ?side1 ?side2 A11.out).mono ?_); (case side1 => repeat (first | exact ((Kd.V_reads' (by (with_reducible repeat (first | apply Kd.V_alloc | apply Kd.V_drewN | apply Kd.V_drew)); exact (Kd.V_mono (Kd.V_far (p := ⟨gb177, 4, none⟩) (Kd.V_far (p := ⟨gb177, 3, none⟩) (Kd.V_far (p := ⟨gb177, 2, none⟩) (Kd.V_far (p := ⟨gb177, 1, none⟩) (Kd.V_far (p := ⟨gb177, 0, none⟩) (Kd.V_mono HL176_4.out (fun k_ hk => (⟨hk, hk.2⟩ : _ ∧ k_ ≠ gb177))) (fun _ hk => hk.2) (.int .i64 ((rd_T44 l0 x25_1).f0))) (fun _ hk => hk.2) (.int .i64 ((rd_T44 l0 x25_1).f1))) (fun _ hk => hk.2) (.int .i64 ((rd_T44 l0 x25_1).f2))) (fun _ hk => hk.2) (.int .i64 ((rd_T44 l0 x25_1).f3))) (fun _ hk => hk.2) (.slice A176_4 ((rd_T44 l0 x25_1).f4).length c176_4)) (fun _ h_ => h_.1)))).2.2) | (with_reducible refine Kd.C_alloc ?_ _) | (with_reducible refine Kd.C_drewN ?_ _) | (with_reducible refine Kd.C_drew ?_))); (case side2 => exact HC176_4.out); rintro e w28 ⟨v181, v183, rfl, ho0, ho1, hb⟩; refine ⟨_, rfl, ?_⟩; have n0_ := Aside0.mk (Kd.V_mono (Kd.V_told (Kd.V_told (Kd.V_old (by (with_reducible repeat (first | apply Kd.V_alloc | apply Kd.V_drewN | apply Kd.V_drew)); exact (Kd.V_mono (Kd.V_far (p := ⟨gb177, 4, none⟩) (Kd.V_far (p := ⟨gb177, 3, none⟩) (Kd.V_far (p := ⟨gb177, 2, none⟩) (Kd.V_far (p := ⟨gb177, 1, none⟩) (Kd.V_far (p := ⟨gb177, 0, none⟩) (Kd.V_mono HO_1.out (fun k_ hk => (⟨hk, hk.2⟩ : _ ∧ k_ ≠ gb177))) (fun _ hk => hk.2) (.int .i64 ((rd_T44 l0 x25_1).f0))) (fun _ hk => hk.2) (.int .i64 ((rd_T44 l0 x25_1).f1))) (fun _ hk => hk.2) (.int .i64 ((rd_T44 l0 x25_1).f2))) (fun _ hk => hk.2) (.int .i64 ((rd_T44 l0 x25_1).f3))) (fun _ hk => hk.2) (.slice A176_4 ((rd_T44 l0 x25_1).f4).length c176_4)) (fun _ h_ => h_.1))) hb) (Kd.R_base ho0)) (Kd.R_base ho1)) (fun _ h_ => h_.1)); have n1_ := Aside0.mk (Kd.N_mono (Kd.N_told (Kd.N_told (Kd.N_old (by (with_reducible repeat (first | apply Kd.N_alloc | apply Kd.N_drewN | apply Kd.N_drew)); exact (Kd.N_mono (Kd.N_far (p := ⟨gb177, 4, none⟩) (Kd.N_far (p := ⟨gb177, 3, none⟩) (Kd.N_far (p := ⟨gb177, 2, none⟩) (Kd.N_far (p := ⟨gb177, 1, none⟩) (Kd.N_far (p := ⟨gb177, 0, none⟩) (Kd.N_mono HO_7.out (fun k_ hk => (⟨hk, hk.2⟩ : _ ∧ k_ ≠ gb177))) (fun _ hk => hk.2) (.int .i64 ((rd_T44 l0 x25_1).f0))) (fun _ hk => hk.2) (.int .i64 ((rd_T44 l0 x25_1).f1))) (fun _ hk => hk.2) (.int .i64 ((rd_T44 l0 x25_1).f2))) (fun _ hk => hk.2) (.int .i64 ((rd_T44 l0 x25_1).f3))) (fun _ hk => hk.2) (.slice A176_4 ((rd_T44 l0 x25_1).f4).length c176_4)) (fun _ h_ => h_.1))) hb) (Kd.R_base ho0)) (Kd.R_base ho1)) (fun _ h_ => h_.1)); have n2_ := Aside0.mk (Kd.V_mono (Kd.V_told (Kd.V_told (Kd.V_old (by (with_reducible repeat (first | apply Kd.V_alloc | apply Kd.V_drewN | apply Kd.V_drew)); exact (Kd.V_mono (Kd.V_far (p := ⟨gb177, 4, none⟩) (Kd.V_far (p := ⟨gb177, 3, none⟩) (Kd.V_far (p := ⟨gb177, 2, none⟩) (Kd.V_far (p := ⟨gb177, 1, none⟩) (Kd.V_far (p := ⟨gb177, 0, none⟩) (Kd.V_mono HO_23.out (fun k_ hk => (⟨hk, hk.2⟩ : _ ∧ k_ ≠ gb177))) (fun _ hk => hk.2) (.int .i64 ((rd_T44 l0 x25_1).f0))) (fun _ hk => hk.2) (.int .i64 ((rd_T44 l0 x25_1).f1))) (fun _ hk => hk.2) (.int .i64 ((rd_T44 l0 x25_1).f2))) (fun _ hk => hk.2) (.int .i64 ((rd_T44 l0 x25_1).f3))) (fun _ hk => hk.2) (.slice A176_4 ((rd_T44 l0 x25_1).f4).length c176_4)) (fun _ h_ => h_.1))) hb) (Kd.R_base ho0)) (Kd.R_base ho1)) (fun _ h_ => h_.1)); have n3_ := Aside0.mk (Kd.V_mono (Kd.V_told (Kd.V_told (Kd.V_old (by (with_reducible repeat (first | apply Kd.V_alloc | apply Kd.V_drewN | apply Kd.V_drew)); exact (Kd.V_mono (Kd.V_far (p := ⟨gb177, 4, none⟩) (Kd.V_far (p := ⟨gb177, 3, none⟩) (Kd.V_far (p := ⟨gb177, 2, none⟩) (Kd.V_far (p := ⟨gb177, 1, none⟩) (Kd.V_far (p := ⟨gb177, 0, none⟩) (Kd.V_mono HL176_4.out (fun k_ hk => (⟨hk, hk.2⟩ : _ ∧ k_ ≠ gb177))) (fun _ hk => hk.2) (.int .i64 ((rd_T44 l0 x25_1).f0))) (fun _ hk => hk.2) (.int .i64 ((rd_T44 l0 x25_1).f1))) (fun _ hk => hk.2) (.int .i64 ((rd_T44 l0 x25_1).f2))) (fun _ hk => hk.2) (.int .i64 ((rd_T44 l0 x25_1).f3))) (fun _ hk => hk.2) (.slice A176_4 ((rd_T44 l0 x25_1).f4).length c176_4)) (fun _ h_ => h_.1))) hb) (Kd.R_base ho0)) (Kd.R_base ho1)) (fun _ h_ => h_.1)); have n4_ := Aside0.mk (Kd.R_lower (Kd.R_newM (M := fun k_ => (w.heap.size ≤ k_)) ho0 (below_size (by repeat (first | (with_reducible first | exact HB.out | apply below_alloc | apply pw_below_drewN | apply below_drew1 | refine below_set ?_ GE177.out) | exact HB.out))) (fun k_ h_ => h_)) (below_size (by repeat (first | (with_reducible first | exact HB.out | apply below_alloc | apply pw_below_drewN | apply below_drew1 | refine below_set ?_ GE177.out) | exact HB.out)))); have n5_ := Aside0.mk (Kd.R_lower (Kd.R_newM (M := fun k_ => (w.heap.size ≤ k_)) ho1 (below_size (by repeat (first | (with_reducible first | exact HB.out | apply below_alloc | apply pw_below_drewN | apply below_drew1 | refine below_set ?_ GE177.out) | exact HB.out))) (fun k_ h_ => h_)) (below_size (by repeat (first | (with_reducible first | exact HB.out | apply below_alloc | apply pw_below_drewN | apply below_drew1 | refine below_set ?_ GE177.out) | exact HB.out)))); have n6_ := Aside0.mk (Kd.C_below ((Kd.V_reads' (by (with_reducible repeat (first | apply Kd.V_alloc | apply Kd.V_drewN | apply Kd.V_drew)); exact (Kd.V_mono (Kd.V_far (p := ⟨gb177, 4, none⟩) (Kd.V_far (p := ⟨gb177, 3, none⟩) (Kd.V_far (p := ⟨gb177, 2, none⟩) (Kd.V_far (p := ⟨gb177, 1, none⟩) (Kd.V_far (p := ⟨gb177, 0, none⟩) (Kd.V_mono HL176_4.out (fun k_ hk => (⟨hk, hk.2⟩ : _ ∧ k_ ≠ gb177))) (fun _ hk => hk.2) (.int .i64 ((rd_T44 l0 x25_1).f0))) (fun _ hk => hk.2) (.int .i64 ((rd_T44 l0 x25_1).f1))) (fun _ hk => hk.2) (.int .i64 ((rd_T44 l0 x25_1).f2))) (fun _ hk => hk.2) (.int .i64 ((rd_T44 l0 x25_1).f3))) (fun _ hk => hk.2) (.slice A176_4 ((rd_T44 l0 x25_1).f4).length c176_4)) (fun _ h_ => h_.1)))).2.2) hb); have n7_ := Aside0.mk (blk_below (g := gb177) (o := .cells #[.int .i64 ((rd_T44 l0 x25_1).f0), .int .i64 ((rd_T44 l0 x25_1).f1), .int .i64 ((rd_T44 l0 x25_1).f2), .int .i64 ((rd_T44 l0 x25_1).f3), .slice A176_4 ((rd_T44 l0 x25_1).f4).length c176_4] 44 (0, 0)) (by (with_reducible repeat first|refine zb1 ?_ _|refine zb2 ?_|refine zb3 ?_ _); refine blk_put (cs := #[.int .i64 ((rd_T44 l0 x25_1).f0), .int .i64 ((rd_T44 l0 x25_1).f1), .int .i64 ((rd_T44 l0 x25_1).f2), .int .i64 ((rd_T44 l0 x25_1).f3), .slice none 0 0]) ?_ 4 _ rfl; (with_reducible repeat first|refine zb1 ?_ _|refine zb2 ?_|refine zb3 ?_ _); refine blk_put (cs := #[.int .i64 ((rd_T44 l0 x25_1).f0), .int .i64 ((rd_T44 l0 x25_1).f1), .int .i64 ((rd_T44 l0 x25_1).f2), .int .i64 0, .slice none 0 0]) ?_ 3 _ rfl; (with_reducible repeat first|refine zb1 ?_ _|refine zb2 ?_|refine zb3 ?_ _); refine blk_put (cs := #[.int .i64 ((rd_T44 l0 x25_1).f0), .int .i64 ((rd_T44 l0 x25_1).f1), .int .i64 0, .int .i64 0, .slice none 0 0]) ?_ 2 _ rfl; (with_reducible repeat first|refine zb1 ?_ _|refine zb2 ?_|refine zb3 ?_ _); refine blk_put (cs := #[.int .i64 ((rd_T44 l0 x25_1).f0), .int .i64 0, .int .i64 0, .int .i64 0, .slice none 0 0]) ?_ 1 _ rfl; (with_reducible repeat first|refine zb1 ?_ _|refine zb2 ?_|refine zb3 ?_ _); refine blk_put (cs := #[.int .i64 0, .int .i64 0, .int .i64 0, .int .i64 0, .slice none 0 0]) ?_ 0 _ rfl; (with_reducible repeat first|refine zb1 ?_ _|refine zb2 ?_|refine zb3 ?_ _); exact BK177.out) hb); have n8_ := Aside0.mk (below_step (by repeat (first | (with_reducible first | exact HB.out | apply below_alloc | apply pw_below_drewN | apply below_drew1 | refine below_set ?_ GE177.out) | exact HB.out)) hb); clear HO_1; clear HO_7; clear HO_23; clear HL176_4; clear HR176_4; clear BK177; clear HB; have HO_1 := n0_; have HO_7 := n1_; have HO_23 := n2_; have HL176_4 := n3_; have HO182 := n4_; have HO184 := n5_; have HR176_4 := n6_; have BK177 := n7_; have HB := n8_; clear n0_ n1_ n2_ n3_ n4_ n5_ n6_ n7_ n8_; (try clear hb); (try clear hb2); (try clear hk); (try clear hi); (try clear ho0); (try clear ho1); have hcz29_0 : w28.cell? ⟨gb177, 0, none⟩ = some (.int .i64 ((rd_T44 l0 x25_1).f0)) := (blk_cell BK177.out 0).trans rfl; have hcz29_1 : w28.cell? ⟨gb177, 1, none⟩ = some (.int .i64 ((rd_T44 l0 x25_1).f1)) := (blk_cell BK177.out 1).trans rfl; have hcz29_2 : w28.cell? ⟨gb177, 2, none⟩ = some (.int .i64 ((rd_T44 l0 x25_1).f2)) := (blk_cell BK177.out 2).trans rfl; have hcz29_3 : w28.cell? ⟨gb177, 3, none⟩ = some (.int .i64 ((rd_T44 l0 x25_1).f3)) := (blk_cell BK177.out 3).trans rfl; have hcz29_4 : w28.cell? ⟨gb177, 4, none⟩ = some (.slice A176_4 ((rd_T44 l0 x25_1).f4).length c176_4) := (blk_cell BK177.out 4).trans rfl; have hfz29_0 := blk_frozen BK177.out 0; have hfz29_1 := blk_frozen BK177.out 1; have hfz29_2 := blk_frozen BK177.out 2; have hfz29_3 := blk_frozen BK177.out 3; have hfz29_4 := blk_frozen BK177.out 4; have q30 : ((wrap64 (((rd_T44 l0 x25_1).f0) + ((rd_T44 l0 x25_1).f1))) : Int) ≤ ((l1.length : Int) : Int) := of_decide_eq_true (by first | (with_reducible assumption) | assumption); obtain ⟨i030, hi030, _, hsz30, _⟩ := info_parts info66; have hroom30 : l1.length ≤ c1 := (Kd.V_reads' HO_1.out).2.1; have hC30 : Kd.F k66 _ _ A1 l1.length l1 := (Kd.V_at (base := w.heap.size) HO_1.out).2.2; have ql30 : (((rd_T44 l0 x25_1).f0) : Int) ≤ ((wrap64 (((rd_T44 l0 x25_1).f0) + ((rd_T44 l0 x25_1).f1))) : Int) := of_decide_eq_true (by first | (with_reducible assumption) | assumption); have q030 : (0 : Int) ≤ (((rd_T44 l0 x25_1).f0) : Int) := of_decide_eq_true (by first | (with_reducible assumption) | assumption); have hcut30 := cut_mid (P := Try.prog) 37 66 .i64 .i64 Try.underlying37 hi030 2 hsz30 A1 l1.length c1 ((rd_T44 l0 x25_1).f0) (wrap64 (((rd_T44 l0 x25_1).f0) + ((rd_T44 l0 x25_1).f1))) q030 ql30 q30 hroom30; have hr30 := Kd.F_mid (lo := (((rd_T44 l0 x25_1).f0) : Int).toNat) (hi := ((wrap64 (((rd_T44 l0 x25_1).f0) + ((rd_T44 l0 x25_1).f1))) : Int).toNat) (c := c1) hC30 (by omega) (by omega) hroom30; obtain ⟨A30, hA30⟩ : ∃ A1_, A1_ = (if c1 = (((rd_T44 l0 x25_1).f0) : Int).toNat then A1 else (A1 : Option Addr).map (·.add ((((rd_T44 l0 x25_1).f0) : Int).toNat * 2))) := ⟨_, rfl⟩; obtain ⟨c30, hc30⟩ : ∃ c1_, c1_ = c1 - (((rd_T44 l0 x25_1).f0) : Int).toNat := ⟨_, rfl⟩; have hy30 : y185.length = ((wrap64 (((rd_T44 l0 x25_1).f0) + ((rd_T44 l0 x25_1).f1))) : Int).toNat - (((rd_T44 l0 x25_1).f0) : Int).toNat := (by rw [Ny185.out, List.length_drop, List.length_take] <;> omega); rw [show ((l1).take ((wrap64 (((rd_T44 l0 x25_1).f0) + ((rd_T44 l0 x25_1).f1))) : Int).toNat).drop (((rd_T44 l0 x25_1).f0) : Int).toNat = y185 from Ny185.out.symm] at hr30; replace hr30 : Kd.F k66 _ _ A30 y185.length y185 := (by rw [hA30]; exact hr30); rw [← hy30, ← hA30, ← hc30] at hcut30; have HO189 := Aside0.mk (show Kd.V k66 66 _ w.heap.size _ (.slice A30 y185.length c30) y185 from Kd.V_mk (by rw [hy30, hc30]; exact Nat.sub_le_sub_right (Nat.le_trans (by omega) hroom30) _) hr30); have HC189 := Aside0.mk (show y185.length ≤ c30 from by rw [hy30, hc30]; exact Nat.sub_le_sub_right (Nat.le_trans (by omega) hroom30) _); clear hr30 hC30 hroom30 hi030 hsz30 hc30; have KY30 := Aside0.mk hy30; have KA30 := Aside0.mk hA30; clear hy30 hA30; replace q30 := eq_true q30; obtain ⟨Ao31, co31, eo31⟩ := Kd.R_slice HO182.out; subst eo31) | (go_at_call 56; (with_reducible refine (api_Line_56.calls k1 _ _ t178 _ _ y185 true _ ?side1 ?side2 ?side3 ?side4 A19.out).mono ?_); (case side1 => repeat (first | exact (Kd.R_reads' HO182.out).2.2 | (with_reducible refine Kd.C_alloc ?_ _) | (with_reducible refine Kd.C_drewN ?_ _) | (with_reducible refine Kd.C_drew ?_))); (case side2 => exact (Kd.R_reads' HO182.out).2.1); (case side3 => repeat (first | exact (Kd.V_reads' HO189.out).2.2 | (with_reducible refine Kd.C_alloc ?_ _) | (with_reducible refine Kd.C_drewN ?_ _) | (with_reducible refine Kd.C_drew ?_))); (case side4 => exact (Kd.V_reads' HO189.out).2.1); rintro e w' ⟨rfl, ⟨nd, rfl⟩⟩))
                  (try (rw [drewN_self w28]; generalize hq_ : World.drewN w28 _ = w28; have n0_ : Aside0 (Kd.V k47 47 w28 w.heap.size (fun k_ => ((P0_ k_ ∨ P1_ k_) ∨ w.heap.size ≤ k_) ∧ some k_ ≠ (.slice Ao31 t178.length co31 : Value).ownBlock ∧ some k_ ≠ (v183 : Value).ownBlock ∧ some k_ ≠ (u7 : Value).ownBlock ∧ k_ ≠ gb177) (.slice A176_4 ((rd_T44 l0 x25_1).f4).length c176_4) ((rd_T44 l0 x25_1).f4)) := ⟨by rw [← hq_]; exact (by (with_reducible repeat (first | apply Kd.V_alloc | apply Kd.V_drewN | apply Kd.V_drew)); exact Kd.V_mono HL176_4.out (fun k_ hk => by (try simp only [and_assoc] at hk); simp only [and_assoc, hk, ne_eq, not_false_eq_true, and_self, true_and]))⟩; have n1_ : Aside0 (Kd.R k66 66 w28 w.heap.size (fun k_ => (w.heap.size ≤ k_) ∧ some k_ ≠ (v183 : Value).ownBlock) (.slice Ao31 t178.length co31) t178) := ⟨by rw [← hq_]; exact (by (with_reducible repeat first|apply zr1|apply zr2|apply zr3); exact HO182.out)⟩; have n2_ : Aside0 (Kd.R k66 66 w28 w.heap.size (fun k_ => (w.heap.size ≤ k_) ∧ some k_ ≠ (.slice Ao31 t178.length co31 : Value).ownBlock) v183 t179) := ⟨by rw [← hq_]; exact (by (with_reducible repeat first|apply zr1|apply zr2|apply zr3); exact HO184.out)⟩; have n3_ : Aside0 (Kd.V k66 66 w28 w.heap.size (fun k_ => ((P0_ k_ ∨ P1_ k_) ∨ w.heap.size ≤ k_) ∧ some k_ ≠ (.slice Ao31 t178.length co31 : Value).ownBlock ∧ some k_ ≠ (v183 : Value).ownBlock ∧ some k_ ≠ (u7 : Value).ownBlock ∧ k_ ≠ gb177) (.slice A30 y185.length c30) y185) := ⟨by rw [← hq_]; exact (by (with_reducible repeat (first | apply Kd.V_alloc | apply Kd.V_drewN | apply Kd.V_drew)); exact Kd.V_mono HO189.out (fun k_ hk => by (try simp only [and_assoc] at hk); simp only [and_assoc, hk, ne_eq, not_false_eq_true, and_self, true_and]))⟩; have n4_ : Aside0 (Kd.V k66 66 w28 w.heap.size (fun k_ => ((P0_ k_ ∨ P1_ k_) ∨ w.heap.size ≤ k_) ∧ some k_ ≠ (.slice Ao31 t178.length co31 : Value).ownBlock ∧ some k_ ≠ (v183 : Value).ownBlock ∧ some k_ ≠ (u7 : Value).ownBlock ∧ k_ ≠ gb177) (.slice A1 l1.length c1) l1) := ⟨by rw [← hq_]; exact (by (with_reducible repeat (first | apply Kd.V_alloc | apply Kd.V_drewN | apply Kd.V_drew)); exact Kd.V_mono HO_1.out (fun k_ hk => by (try simp only [and_assoc] at hk); simp only [and_assoc, hk, ne_eq, not_false_eq_true, and_self, true_and]))⟩; have n5_ : Aside0 (Kd.V k44 44 w28 w.heap.size (fun k_ => ((P0_ k_ ∨ P1_ k_) ∨ w.heap.size ≤ k_) ∧ some k_ ≠ (.slice Ao31 t178.length co31 : Value).ownBlock ∧ some k_ ≠ (v183 : Value).ownBlock ∧ some k_ ≠ (u7 : Value).ownBlock ∧ k_ ≠ gb177) (.slice (some ad176) l0.length c0) l0) := ⟨by rw [← hq_]; exact (by (with_reducible repeat (first | apply Kd.V_alloc | apply Kd.V_drewN | apply Kd.V_drew)); exact Kd.V_mono HO_23.out (fun k_ hk => by (try simp only [and_assoc] at hk); simp only [and_assoc, hk, ne_eq, not_false_eq_true, and_self, true_and]))⟩; have n6_ : Aside0 (Kd.N k47 47 w28 w.heap.size (fun k_ => ((P0_ k_ ∨ P1_ k_) ∨ w.heap.size ≤ k_) ∧ some k_ ≠ (.slice Ao31 t178.length co31 : Value).ownBlock ∧ some k_ ≠ (v183 : Value).ownBlock ∧ k_ ≠ gb177) u7 x7_1) := ⟨by rw [← hq_]; exact (by (with_reducible repeat (first | apply Kd.N_alloc | apply Kd.N_drewN | apply Kd.N_drew)); exact Kd.N_mono HO_7.out (fun k_ hk => by (try simp only [and_assoc] at hk); simp only [and_assoc, hk, ne_eq, not_false_eq_true, and_self, true_and]))⟩; have n7_ : Aside0 (w28.heap[gb177]? = some (.cells #[.int .i64 ((rd_T44 l0 x25_1).f0), .int .i64 ((rd_T44 l0 x25_1).f1), .int .i64 ((rd_T44 l0 x25_1).f2), .int .i64 ((rd_T44 l0 x25_1).f3), .slice A176_4 ((rd_T44 l0 x25_1).f4).length c176_4] 44 (0, 0))) := ⟨by rw [← hq_]; exact (by (with_reducible repeat first|refine zb1 ?_ _|refine zb2 ?_|refine zb3 ?_ _); exact BK177.out)⟩; have n8_ : Aside0 (Below w.heap.size w w28) := ⟨by rw [← hq_]; exact (by repeat (first | (with_reducible first | exact HB.out | apply below_alloc | apply pw_below_drewN | apply below_drew1 | refine below_set ?_ GE177.out) | exact HB.out))⟩; have n9_ : Aside0 (Kd.C k47 w28 A176_4 ((rd_T44 l0 x25_1).f4).length ((rd_T44 l0 x25_1).f4)) := ⟨by rw [← hq_]; exact (by repeat (first | (with_reducible exact HR176_4.out) | (with_reducible refine Kd.C_alloc ?_ _) | (with_reducible refine Kd.C_drewN ?_ _) | (with_reducible refine Kd.C_drew ?_) | exact HR176_4.out))⟩; clear HL176_4 HO182 HO184 HO189 HO_1 HO_23 HO_7 BK177 HB HR176_4 hq_; have HL176_4 := n0_; have HO182 := n1_; have HO184 := n2_; have HO189 := n3_; have HO_1 := n4_; have HO_23 := n5_; have HO_7 := n6_; have BK177 := n7_; have HB := n8_; have HR176_4 := n9_; clear n0_ n1_ n2_ n3_ n4_ n5_ n6_ n7_ n8_ n9_))
                  have n0_ := Aside0.mk (Kd.V_drew HO_1.out)
                  have n1_ := Aside0.mk (Kd.N_drew HO_7.out)
                  have n2_ := Aside0.mk (Kd.V_drew HO_23.out)
                  have n3_ := Aside0.mk (Kd.V_drew HL176_4.out)
                  have n4_ := Aside0.mk (Kd.R_drew HO182.out)
                  have n5_ := Aside0.mk (Kd.R_drew HO184.out)
                  have n6_ := Aside0.mk (Kd.V_drew HO189.out)
                  have n7_ := Aside0.mk (blk_drew BK177.out)
                  have n8_ := Aside0.mk (Kd.C_drew HR176_4.out)
                  have n9_ := Aside0.mk (below_drew1 HB.out)
                  clear HO_1
                  clear HO_7
                  clear HO_23
                  clear HL176_4
                  clear HO182
                  clear HO184
                  clear HO189
                  clear BK177
                  clear HR176_4
                  clear HB
                  have HO_1 := n0_
                  have HO_7 := n1_
                  have HO_23 := n2_
                  have HL176_4 := n3_
                  have HO182 := n4_
                  have HO184 := n5_
                  have HO189 := n6_
                  have BK177 := n7_
                  have HR176_4 := n8_
                  have HB := n9_
                  clear n0_ n1_ n2_ n3_ n4_ n5_ n6_ n7_ n8_ n9_
                  have q33 : (((rd_T44 l0 x25_1).f0) : Int) ≤ ((l1.length : Int) : Int) := of_decide_eq_true (by first | (with_reducible assumption) | assumption)
                  obtain ⟨i033, hi033, _, hsz33, _⟩ := info_parts info66
                  have hroom33 : l1.length ≤ c1 := (Kd.V_reads' HO_1.out).2.1
                  have hC33 : Kd.F k66 _ _ A1 l1.length l1 := (Kd.V_at (base := w.heap.size) HO_1.out).2.2
                  have ql33 : (x8_1 : Int) ≤ (((rd_T44 l0 x25_1).f0) : Int) := of_decide_eq_true (by first | (with_reducible assumption) | assumption)
                  have q033 : (0 : Int) ≤ (x8_1 : Int) := of_decide_eq_true (by first | (with_reducible assumption) | assumption)
                  have hcut33 := Ra.cut_mid3 (P := Try.prog) 37 66 .i64 .i64 .i64 Try.underlying37 hi033 2 hsz33 A1 l1.length c1 x8_1 ((rd_T44 l0 x25_1).f0) q033 ql33 q33 hroom33
                  have hr33 := Kd.F_cut (m := (x8_1 : Int).toNat) (c := (((rd_T44 l0 x25_1).f0) : Int).toNat) (Kd.F_take hC33 (m := (((rd_T44 l0 x25_1).f0) : Int).toNat) (by omega)) (by rw [List.length_take]; omega) (by rw [List.length_take]; omega)
                  obtain ⟨A33, hA33⟩ : ∃ A1_, A1_ = (if (((rd_T44 l0 x25_1).f0) : Int).toNat = (x8_1 : Int).toNat then A1 else (A1 : Option Addr).map (·.add ((x8_1 : Int).toNat * 2))) := ⟨_, rfl⟩
                  obtain ⟨c33, hc33⟩ : ∃ c1_, c1_ = (((rd_T44 l0 x25_1).f0) : Int).toNat - (x8_1 : Int).toNat := ⟨_, rfl⟩
                  have hy33 : y191.length = (((rd_T44 l0 x25_1).f0) : Int).toNat - (x8_1 : Int).toNat := (by rw [Ny191.out, List.length_drop, List.length_take] <;> omega)
                  rw [show ((l1).take (((rd_T44 l0 x25_1).f0) : Int).toNat).drop (x8_1 : Int).toNat = y191 from Ny191.out.symm] at hr33
                  replace hr33 : Kd.F k66 _ _ A33 y191.length y191 := (by rw [hA33]; exact hr33)
                  rw [← hy33, ← hA33] at hcut33
                  rw [show (Value.slice A33 y191.length y191.length) = .slice A33 y191.length c33 from by rw [hc33, hy33]] at hcut33
                  have HO195 := Aside0.mk (show Kd.V k66 66 _ w.heap.size _ (.slice A33 y191.length c33) y191 from Kd.V_mk (by rw [hc33]; exact Nat.le_of_eq hy33) hr33)
                  have HC195 := Aside0.mk (show y191.length ≤ c33 from by rw [hc33]; exact Nat.le_of_eq hy33)
                  clear hr33 hC33 hroom33 hi033 hsz33 hc33
                  have KY33 := Aside0.mk hy33
                  have KA33 := Aside0.mk hA33
                  clear hy33 hA33
                  replace q33 := eq_true q33
                  refine start_ (n := 15) (S := fun w' => w'.cell? ⟨gb177, 0, none⟩ = some (.int .i64 ((rd_T44 l0 x25_1).f0)) ∧ w'.cell? ⟨gb177, 1, none⟩ = some (.int .i64 ((rd_T44 l0 x25_1).f1)) ∧ w'.cell? ⟨gb177, 2, none⟩ = some (.int .i64 ((rd_T44 l0 x25_1).f2)) ∧ w'.cell? ⟨gb177, 3, none⟩ = some (.int .i64 ((rd_T44 l0 x25_1).f3)) ∧ w'.cell? ⟨gb177, 4, none⟩ = some (.slice A176_4 ((rd_T44 l0 x25_1).f4).length c176_4)) (ds := []) (Sq.bl 15 0) (by kernel_rfl) rfl rfl ⟨(blk_cell BK177.out 0).trans rfl, (blk_cell BK177.out 1).trans rfl, (blk_cell BK177.out 2).trans rfl, (blk_cell BK177.out 3).trans rfl, (blk_cell BK177.out 4).trans rfl⟩ (fun hHeld => ?_); refine with_tabW hunk_Whole.tab15 hunk_Whole.bits15 (fun HT_ HW_ => ?_)
                  generalize w28.drew = w32 at HO_1 HO_7 HO_23 HL176_4 HO182 HO184 HO189 BK177 HR176_4 HB HO195 hHeld ⊢
                  refine Sq.pu (v := ?_) (a' := ?_) 0 55 (Sq.bl 15 1) (any_of HT_.out (by kernel_rfl)) rfl rfl (fun _ _ _ h => h) (by rfl) ?_ ?_ ?_; rotate_left; (· intro w'; go_simp; with_reducible rfl); rotate_left; (· simp only [Act.put,zp1,zp2,zp3,zp4,zp5]; rfl)
                  refine Sq.pu (v := ?_) (a' := ?_) 1 56 (Sq.bl 15 3) (any_of HT_.out (by kernel_rfl)) rfl rfl (fun _ _ _ h => h) (by rfl) ?_ ?_ ?_; rotate_left; (· intro w'; go_simp; with_reducible rfl); rotate_left; (· simp only [Act.put,zp1,zp2,zp3,zp4,zp5]; rfl)
                  refine Sq.pu (v := ?_) (a' := ?_) 2 57 (Sq.bl 15 7) (any_of HT_.out (by kernel_rfl)) rfl rfl (fun _ _ _ h => h) (by rfl) ?_ ?_ ?_; rotate_left; (· intro w'; go_simp; with_reducible rfl); rotate_left; (· simp only [Act.put,zp1,zp2,zp3,zp4,zp5]; rfl)
                  refine Sq.pu (v := ?_) (a' := ?_) 3 58 (Sq.bl 15 15) (any_of HT_.out (by kernel_rfl)) rfl rfl (fun _ _ _ h => h) (by rfl) ?_ ?_ ?_; rotate_left; (· intro w'; go_simp; with_reducible rfl); rotate_left; (· simp only [Act.put,zp1,zp2,zp3,zp4,zp5]; rfl)
                  refine Sq.pu (v := ?_) (a' := ?_) 5 60 (Sq.bl 15 47) (any_of HT_.out (by kernel_rfl)) rfl rfl (fun _ _ _ h => h) (by rfl) ?_ ?_ ?_; rotate_left; (· intro w'; go_simp; with_reducible rfl); rotate_left; (· simp only [Act.put,zp1,zp2,zp3,zp4,zp5]; rfl)
                  refine Sq.pu (v := ?_) (a' := ?_) 11 66 (Sq.bl 15 2095) (any_of HT_.out (by kernel_rfl)) rfl rfl (fun _ _ _ h => h) (by rfl) ?_ ?_ ?_; rotate_left; (· intro w'; go_simp; with_reducible rfl); rotate_left; (· simp only [Act.put,zp1,zp2,zp3,zp4,zp5]; rfl)
                  refine take_ (i := 4) (N := some 59) (v := ?_) (a' := ?_) (Sq.bl 15 2111) rfl rfl (take_ofW HT_.out HW_.out (by kernel_rfl)) (fun _ _ _ h => h) (Or.inl ⟨by rfl, ?_⟩) hHeld ?_ ?_
                  rotate_left
                  ·rintro w' ⟨s0, s1, s2, s3, s4⟩
                   go_simp
                   with_reducible rfl
                  rotate_left
                  ·simp only [Act.put,zp1,zp2,zp3,zp4,zp5]
                   rfl
                  refine take_ (i := 6) (N := some 61) (v := ?_) (a' := ?_) (Sq.bl 15 2175) rfl rfl (take_ofW HT_.out HW_.out (by kernel_rfl)) (fun _ _ _ h => h) (Or.inl ⟨by rfl, ?_⟩) hHeld ?_ ?_
                  rotate_left
                  ·rintro w' ⟨s0, s1, s2, s3, s4⟩
                   go_simp
                   with_reducible rfl
                  rotate_left
                  ·simp only [Act.put,zp1,zp2,zp3,zp4,zp5]
                   rfl
                  refine Sq.pu (v := ?_) (a' := ?_) 7 62 (Sq.bl 15 2303) (any_of HT_.out (by kernel_rfl)) rfl rfl (fun _ _ _ h => h) (by rfl) ?_ ?_ ?_; rotate_left; (· intro w'; go_simp; with_reducible rfl); rotate_left; (· simp only [Act.put,zp1,zp2,zp3,zp4,zp5]; rfl)
                  refine Sq.pu (v := ?_) (a' := ?_) 8 63 (Sq.bl 15 2559) (any_of HT_.out (by kernel_rfl)) rfl rfl (fun _ _ _ h => h) (by rfl) ?_ ?_ ?_; rotate_left; (· intro w'; go_simp; with_reducible rfl); rotate_left; (· simp only [Act.put,zp1,zp2,zp3,zp4,zp5]; rfl)
                  refine take_ (i := 12) (N := some 67) (v := ?_) (a' := ?_) (Sq.bl 15 6655) rfl rfl (take_ofW HT_.out HW_.out (by kernel_rfl)) (fun _ _ _ h => h) (Or.inl ⟨by rfl, ?_⟩) hHeld ?_ ?_
                  rotate_left
                  ·rintro w' ⟨s0, s1, s2, s3, s4⟩
                   go_simp
                   with_reducible rfl
                  rotate_left
                  ·simp only [Act.put,zp1,zp2,zp3,zp4,zp5]
                   rfl
                  refine one_ (i := 9) (N := some 64) (Sq.bl 15 7167) rfl rfl (one_of HT_.out (by kernel_rfl)) (by decide) (fun K hK => ?_)
                  refine value_ (w1 := ?_) (v := ?_) (by rfl) rfl ?_ ?_
                  rotate_left 2
                  ·go_simp
                   constructor
                   ·rfl
                   ·rfl
                  refine hK.out _ _ ⟨(blk_cell (blk_alloc BK177.out _) 0).trans rfl, (blk_cell (blk_alloc BK177.out _) 1).trans rfl, (blk_cell (blk_alloc BK177.out _) 2).trans rfl, (blk_cell (blk_alloc BK177.out _) 3).trans rfl, (blk_cell (blk_alloc BK177.out _) 4).trans rfl⟩ (fun hHeld => ?_)
                  clear hK K
                  refine norm_ (a' := ?_) ?_ ?_
                  rotate_left
                  ·show Act.put _ (some 64) _ = _
                   simp only [Act.put,zp1,zp2,zp3,zp4,zp5]
                   rfl
                  refine one_ (i := 10) (N := some 65) (Sq.bl 15 8191) rfl rfl (one_of HT_.out (by kernel_rfl)) (by decide) (fun K hK => ?_)
                  refine Kd.N_append_step k47 (w0 := w) w.heap.size (by rfl) (.tmp 55) (.tmp 64) 22 47 (.agg #[(.int .i64 0), (.slice none 0 0)]) 32 rfl Try.underlying22 info47 rfl (by decide) (by omega) u7 x7_1 (⟨1, y191⟩ : S47) [.int .i64 1, .slice A33 y191.length c33] (fun k_ => ((P0_ k_ ∨ P1_ k_) ∨ w.heap.size ≤ k_) ∧ some k_ ≠ (.slice Ao31 t178.length co31 : Value).ownBlock ∧ some k_ ≠ (v183 : Value).ownBlock ∧ k_ ≠ gb177) (fun k_ => ((fun k_ => ((P0_ k_ ∨ P1_ k_) ∨ w.heap.size ≤ k_) ∧ some k_ ≠ (.slice Ao31 t178.length co31 : Value).ownBlock ∧ some k_ ≠ (v183 : Value).ownBlock ∧ k_ ≠ gb177)) k_ ∧ some k_ ≠ (u7 : Value).ownBlock) rfl rfl ?aP (fun _ hk => hk) ?aF ?aO ?aB ?aS ?aL ?_
                  (case aP => exact (k47_mkF _ _ (⟨1, y191⟩ : S47) (Kd.V_reads' (Kd.V_mono (ok' := (fun k_ => ((fun k_ => ((P0_ k_ ∨ P1_ k_) ∨ w.heap.size ≤ k_) ∧ some k_ ≠ (.slice Ao31 t178.length co31 : Value).ownBlock ∧ some k_ ≠ (v183 : Value).ownBlock ∧ k_ ≠ gb177)) k_ ∧ some k_ ≠ (u7 : Value).ownBlock)) (HO195.out) (fun k_ hk => by (try simp only [and_assoc] at hk); simp only [and_assoc, hk, ne_eq, not_false_eq_true, and_self, true_and]))).2.1 (Kd.V_F (Kd.V_mono (ok' := (fun k_ => ((fun k_ => ((P0_ k_ ∨ P1_ k_) ∨ w.heap.size ≤ k_) ∧ some k_ ≠ (.slice Ao31 t178.length co31 : Value).ownBlock ∧ some k_ ≠ (v183 : Value).ownBlock ∧ k_ ≠ gb177)) k_ ∧ some k_ ≠ (u7 : Value).ownBlock)) (HO195.out) (fun k_ hk => by (try simp only [and_assoc] at hk); simp only [and_assoc, hk, ne_eq, not_false_eq_true, and_self, true_and])))))
                  (case aB => exact (by repeat (first | (with_reducible first | exact HB.out | apply below_alloc | apply pw_below_drewN | apply below_drew1 | refine below_set ?_ GE177.out) | exact HB.out)))
                  (case aF => exact (fun k_ hk => ⟨(.inr (Nat.le_trans (below_size (by repeat (first | (with_reducible first | exact HB.out | apply below_alloc | apply pw_below_drewN | apply below_drew1 | refine below_set ?_ GE177.out) | exact HB.out))) hk)), Kd.fresh' (Kd.R_lt (by (with_reducible repeat first|apply zr1|apply zr2|apply zr3); exact HO182.out)) k_ hk, Kd.fresh' (Kd.R_lt (by (with_reducible repeat first|apply zr1|apply zr2|apply zr3); exact HO184.out)) k_ hk, Kd.freshB (g := gb177) (o := .cells #[.int .i64 ((rd_T44 l0 x25_1).f0), .int .i64 ((rd_T44 l0 x25_1).f1), .int .i64 ((rd_T44 l0 x25_1).f2), .int .i64 ((rd_T44 l0 x25_1).f3), .slice A176_4 ((rd_T44 l0 x25_1).f4).length c176_4] 44 (0, 0)) (by (with_reducible repeat first|refine zb1 ?_ _|refine zb2 ?_|refine zb3 ?_ _); exact BK177.out) k_ hk⟩))
                  (case aO => exact (by (with_reducible repeat (first | apply Kd.N_alloc | apply Kd.N_drewN | apply Kd.N_drew)); exact Kd.N_mono HO_7.out (fun k_ hk => by (try simp only [and_assoc] at hk); simp only [and_assoc, hk, ne_eq, not_false_eq_true, and_self, true_and])))
                  (case aS => exact (below_size (by repeat (first | (with_reducible first | exact HB.out | apply below_alloc | apply pw_below_drewN | apply below_drew1 | refine below_set ?_ GE177.out) | exact HB.out))))
                  (case aL => have := LMc24.out; omega)
                  intro v197 w34 ho hb hg hat
                  rw [← Ny196.out] at ho
                  have n0_ := Aside0.mk (Kd.V_afterv (ok := (fun k_ => ((P0_ k_ ∨ P1_ k_) ∨ w.heap.size ≤ k_) ∧ some k_ ≠ (.slice Ao31 t178.length co31 : Value).ownBlock ∧ some k_ ≠ (v183 : Value).ownBlock ∧ k_ ≠ gb177)) (by (with_reducible repeat (first | apply Kd.V_alloc | apply Kd.V_drewN | apply Kd.V_drew)); exact Kd.V_mono HO_1.out (fun k_ hk => by (try simp only [and_assoc] at hk); simp only [and_assoc, hk, ne_eq, not_false_eq_true, and_self, true_and])) hg hat)
                  have n1_ := Aside0.mk (Kd.V_afterv (ok := (fun k_ => ((P0_ k_ ∨ P1_ k_) ∨ w.heap.size ≤ k_) ∧ some k_ ≠ (.slice Ao31 t178.length co31 : Value).ownBlock ∧ some k_ ≠ (v183 : Value).ownBlock ∧ k_ ≠ gb177)) (by (with_reducible repeat (first | apply Kd.V_alloc | apply Kd.V_drewN | apply Kd.V_drew)); exact Kd.V_mono HO_23.out (fun k_ hk => by (try simp only [and_assoc] at hk); simp only [and_assoc, hk, ne_eq, not_false_eq_true, and_self, true_and])) hg hat)
                  have n2_ := Aside0.mk (Kd.V_afterv (ok := (fun k_ => ((P0_ k_ ∨ P1_ k_) ∨ w.heap.size ≤ k_) ∧ some k_ ≠ (.slice Ao31 t178.length co31 : Value).ownBlock ∧ some k_ ≠ (v183 : Value).ownBlock ∧ k_ ≠ gb177)) (by (with_reducible repeat (first | apply Kd.V_alloc | apply Kd.V_drewN | apply Kd.V_drew)); exact Kd.V_mono HL176_4.out (fun k_ hk => by (try simp only [and_assoc] at hk); simp only [and_assoc, hk, ne_eq, not_false_eq_true, and_self, true_and])) hg hat)
                  have n3_ := Aside0.mk (blk_grown (g := gb177) (o := .cells #[.int .i64 ((rd_T44 l0 x25_1).f0), .int .i64 ((rd_T44 l0 x25_1).f1), .int .i64 ((rd_T44 l0 x25_1).f2), .int .i64 ((rd_T44 l0 x25_1).f3), .slice A176_4 ((rd_T44 l0 x25_1).f4).length c176_4] 44 (0, 0)) (by (with_reducible repeat first|refine zb1 ?_ _|refine zb2 ?_|refine zb3 ?_ _); exact BK177.out) hg (Kd.N_ne HO_7.out BK177.out (by decide)))
                  have n4_ := Aside0.mk (Kd.R_over' (by (with_reducible repeat first|apply zr1|apply zr2|apply zr3); exact HO182.out) (Kd.N_typed (by (with_reducible repeat (first | apply Kd.N_alloc | apply Kd.N_drewN | apply Kd.N_drew)); exact HO_7.out)) (by decide) hg)
                  have n5_ := Aside0.mk (Kd.R_over' (by (with_reducible repeat first|apply zr1|apply zr2|apply zr3); exact HO184.out) (Kd.N_typed (by (with_reducible repeat (first | apply Kd.N_alloc | apply Kd.N_drewN | apply Kd.N_drew)); exact HO_7.out)) (by decide) hg)
                  have n6_ := Aside0.mk (Kd.V_afterv (ok := (fun k_ => ((P0_ k_ ∨ P1_ k_) ∨ w.heap.size ≤ k_) ∧ some k_ ≠ (.slice Ao31 t178.length co31 : Value).ownBlock ∧ some k_ ≠ (v183 : Value).ownBlock ∧ k_ ≠ gb177)) (by (with_reducible repeat (first | apply Kd.V_alloc | apply Kd.V_drewN | apply Kd.V_drew)); exact Kd.V_mono HO189.out (fun k_ hk => by (try simp only [and_assoc] at hk); simp only [and_assoc, hk, ne_eq, not_false_eq_true, and_self, true_and])) hg hat)
                  have n7_ := Aside0.mk (Kd.V_afterv (ok := (fun k_ => ((P0_ k_ ∨ P1_ k_) ∨ w.heap.size ≤ k_) ∧ some k_ ≠ (.slice Ao31 t178.length co31 : Value).ownBlock ∧ some k_ ≠ (v183 : Value).ownBlock ∧ k_ ≠ gb177)) (by (with_reducible repeat (first | apply Kd.V_alloc | apply Kd.V_drewN | apply Kd.V_drew)); exact Kd.V_mono HO195.out (fun k_ hk => by (try simp only [and_assoc] at hk); simp only [and_assoc, hk, ne_eq, not_false_eq_true, and_self, true_and])) hg hat)
                  have n8_ := Aside0.mk (hb)
                  have n9_ := Aside0.mk (ho)
                  clear HO_1
                  clear HO_23
                  clear HL176_4
                  clear BK177
                  clear HO182
                  clear HO184
                  clear HO189
                  clear HO195
                  clear HB
                  clear HO_7
                  have HO_1 := n0_
                  have HO_23 := n1_
                  have HL176_4 := n2_
                  have BK177 := n3_
                  have HO182 := n4_
                  have HO184 := n5_
                  have HO189 := n6_
                  have HO195 := n7_
                  have HB := n8_
                  have HO198 := n9_
                  clear n0_ n1_ n2_ n3_ n4_ n5_ n6_ n7_ n8_ n9_
                  clear ho hb hg hat
                  refine hK.out _ _ ⟨(blk_cell BK177.out 0).trans rfl, (blk_cell BK177.out 1).trans rfl, (blk_cell BK177.out 2).trans rfl, (blk_cell BK177.out 3).trans rfl, (blk_cell BK177.out 4).trans rfl⟩ (fun hHeld => ?_)
                  clear hK K
                  refine norm_ (a' := ?_) ?_ ?_
                  rotate_left
                  ·show Act.put _ (some 65) _ = _
                   simp only [Act.put,zp1,zp2,zp3,zp4,zp5]
                   rfl
                  refine one_ (i := 13) (N := some 68) (Sq.bl 15 16383) rfl rfl (one_of HT_.out (by kernel_rfl)) (by decide) (fun K hK => ?_)
                  refine Kd.N_append_rows_step k47 (w0 := w) w.heap.size (by rfl) (.tmp 65) (.tmp 67) 22 47 (.agg #[(.int .i64 0), (.slice none 0 0)]) 32 rfl Try.underlying22 info47 rfl (by decide) (by omega) v197 y196 ((rd_T44 l0 x25_1).f4) _ _ _ (fun k_ => ((P0_ k_ ∨ P1_ k_) ∨ w.heap.size ≤ k_) ∧ some k_ ≠ (.slice Ao31 t178.length co31 : Value).ownBlock ∧ some k_ ≠ (v183 : Value).ownBlock ∧ k_ ≠ gb177) (fun k_ => ((fun k_ => ((P0_ k_ ∨ P1_ k_) ∨ w.heap.size ≤ k_) ∧ some k_ ≠ (.slice Ao31 t178.length co31 : Value).ownBlock ∧ some k_ ≠ (v183 : Value).ownBlock ∧ k_ ≠ gb177)) k_ ∧ some k_ ≠ (v197 : Value).ownBlock) rfl rfl ?aO ?aR (fun _ hk => hk) ?aF ?aB ?aS ?aL ?_
                  (case aR => exact (by skip; exact Kd.V_F (Kd.V_mono (ok' := (fun k_ => ((fun k_ => ((P0_ k_ ∨ P1_ k_) ∨ w.heap.size ≤ k_) ∧ some k_ ≠ (.slice Ao31 t178.length co31 : Value).ownBlock ∧ some k_ ≠ (v183 : Value).ownBlock ∧ k_ ≠ gb177)) k_ ∧ some k_ ≠ (v197 : Value).ownBlock)) (HL176_4.out) (fun k_ hk => by (try simp only [and_assoc] at hk); simp only [and_assoc, hk, ne_eq, not_false_eq_true, and_self, true_and]))))
                  (case aB => exact (by repeat (first | (with_reducible first | exact HB.out | apply below_alloc | apply pw_below_drewN | apply below_drew1 | refine below_set ?_ GE177.out) | exact HB.out)))
                  (case aF => exact (fun k_ hk => ⟨(.inr (Nat.le_trans (below_size (by repeat (first | (with_reducible first | exact HB.out | apply below_alloc | apply pw_below_drewN | apply below_drew1 | refine below_set ?_ GE177.out) | exact HB.out))) hk)), Kd.fresh' (Kd.R_lt (by (with_reducible repeat first|apply zr1|apply zr2|apply zr3); exact HO182.out)) k_ hk, Kd.fresh' (Kd.R_lt (by (with_reducible repeat first|apply zr1|apply zr2|apply zr3); exact HO184.out)) k_ hk, Kd.freshB (g := gb177) (o := .cells #[.int .i64 ((rd_T44 l0 x25_1).f0), .int .i64 ((rd_T44 l0 x25_1).f1), .int .i64 ((rd_T44 l0 x25_1).f2), .int .i64 ((rd_T44 l0 x25_1).f3), .slice A176_4 ((rd_T44 l0 x25_1).f4).length c176_4] 44 (0, 0)) (by (with_reducible repeat first|refine zb1 ?_ _|refine zb2 ?_|refine zb3 ?_ _); exact BK177.out) k_ hk⟩))
                  (case aO => exact (by (with_reducible repeat (first | apply Kd.N_alloc | apply Kd.N_drewN | apply Kd.N_drew)); exact HO198.out))
                  (case aS => exact (below_size (by repeat (first | (with_reducible first | exact HB.out | apply below_alloc | apply pw_below_drewN | apply below_drew1 | refine below_set ?_ GE177.out) | exact HB.out))))
                  (case aL => have := LMc25.out; omega)
                  intro v200 w35 ho hb hg hat
                  rw [← Ny199.out] at ho
                  have n0_ := Aside0.mk (Kd.V_afterv (ok := (fun k_ => ((P0_ k_ ∨ P1_ k_) ∨ w.heap.size ≤ k_) ∧ some k_ ≠ (.slice Ao31 t178.length co31 : Value).ownBlock ∧ some k_ ≠ (v183 : Value).ownBlock ∧ k_ ≠ gb177)) (by (with_reducible repeat (first | apply Kd.V_alloc | apply Kd.V_drewN | apply Kd.V_drew)); exact HO_1.out) hg hat)
                  have n1_ := Aside0.mk (Kd.V_afterv (ok := (fun k_ => ((P0_ k_ ∨ P1_ k_) ∨ w.heap.size ≤ k_) ∧ some k_ ≠ (.slice Ao31 t178.length co31 : Value).ownBlock ∧ some k_ ≠ (v183 : Value).ownBlock ∧ k_ ≠ gb177)) (by (with_reducible repeat (first | apply Kd.V_alloc | apply Kd.V_drewN | apply Kd.V_drew)); exact HO_23.out) hg hat)
                  have n2_ := Aside0.mk (Kd.V_afterv (ok := (fun k_ => ((P0_ k_ ∨ P1_ k_) ∨ w.heap.size ≤ k_) ∧ some k_ ≠ (.slice Ao31 t178.length co31 : Value).ownBlock ∧ some k_ ≠ (v183 : Value).ownBlock ∧ k_ ≠ gb177)) (by (with_reducible repeat (first | apply Kd.V_alloc | apply Kd.V_drewN | apply Kd.V_drew)); exact HL176_4.out) hg hat)
                  have n3_ := Aside0.mk (blk_grown (g := gb177) (o := .cells #[.int .i64 ((rd_T44 l0 x25_1).f0), .int .i64 ((rd_T44 l0 x25_1).f1), .int .i64 ((rd_T44 l0 x25_1).f2), .int .i64 ((rd_T44 l0 x25_1).f3), .slice A176_4 ((rd_T44 l0 x25_1).f4).length c176_4] 44 (0, 0)) (by (with_reducible repeat first|refine zb1 ?_ _|refine zb2 ?_|refine zb3 ?_ _); exact BK177.out) hg (Kd.N_ne HO198.out BK177.out (by decide)))
                  have n4_ := Aside0.mk (Kd.R_over' (by (with_reducible repeat first|apply zr1|apply zr2|apply zr3); exact HO182.out) (Kd.N_typed (by (with_reducible repeat (first | apply Kd.N_alloc | apply Kd.N_drewN | apply Kd.N_drew)); exact HO198.out)) (by decide) hg)
                  have n5_ := Aside0.mk (Kd.R_over' (by (with_reducible repeat first|apply zr1|apply zr2|apply zr3); exact HO184.out) (Kd.N_typed (by (with_reducible repeat (first | apply Kd.N_alloc | apply Kd.N_drewN | apply Kd.N_drew)); exact HO198.out)) (by decide) hg)
                  have n6_ := Aside0.mk (Kd.V_afterv (ok := (fun k_ => ((P0_ k_ ∨ P1_ k_) ∨ w.heap.size ≤ k_) ∧ some k_ ≠ (.slice Ao31 t178.length co31 : Value).ownBlock ∧ some k_ ≠ (v183 : Value).ownBlock ∧ k_ ≠ gb177)) (by (with_reducible repeat (first | apply Kd.V_alloc | apply Kd.V_drewN | apply Kd.V_drew)); exact HO189.out) hg hat)
                  have n7_ := Aside0.mk (Kd.V_afterv (ok := (fun k_ => ((P0_ k_ ∨ P1_ k_) ∨ w.heap.size ≤ k_) ∧ some k_ ≠ (.slice Ao31 t178.length co31 : Value).ownBlock ∧ some k_ ≠ (v183 : Value).ownBlock ∧ k_ ≠ gb177)) (by (with_reducible repeat (first | apply Kd.V_alloc | apply Kd.V_drewN | apply Kd.V_drew)); exact HO195.out) hg hat)
                  have n8_ := Aside0.mk (hb)
                  have n9_ := Aside0.mk (ho)
                  clear HO_1
                  clear HO_23
                  clear HL176_4
                  clear BK177
                  clear HO182
                  clear HO184
                  clear HO189
                  clear HO195
                  clear HB
                  clear HO198
                  have HO_1 := n0_
                  have HO_23 := n1_
                  have HL176_4 := n2_
                  have BK177 := n3_
                  have HO182 := n4_
                  have HO184 := n5_
                  have HO189 := n6_
                  have HO195 := n7_
                  have HB := n8_
                  have HO201 := n9_
                  clear n0_ n1_ n2_ n3_ n4_ n5_ n6_ n7_ n8_ n9_
                  clear ho hb hg hat
                  refine hK.out _ _ ⟨(blk_cell BK177.out 0).trans rfl, (blk_cell BK177.out 1).trans rfl, (blk_cell BK177.out 2).trans rfl, (blk_cell BK177.out 3).trans rfl, (blk_cell BK177.out 4).trans rfl⟩ (fun hHeld => ?_)
                  clear hK K
                  refine norm_ (a' := ?_) ?_ ?_
                  rotate_left
                  ·show Act.put _ (some 68) _ = _
                   simp only [Act.put,zp1,zp2,zp3,zp4,zp5]
                   rfl
                  refine Sq.pu (v := ?_) (a' := ?_) 14 7 (Sq.bl 15 32767) (any_of HT_.out (by kernel_rfl)) rfl rfl (fun _ _ _ h => h) (by rfl) ?_ ?_ ?_; rotate_left; (· intro w'; go_simp; with_reducible rfl); rotate_left; (· simp only [Act.put,zp1,zp2,zp3,zp4,zp5]; rfl)
                  refine done_ (done_of HT_.out (by kernel_rfl)) ?_
                  try go_wp2
                  go_roundg k1
                  case measure => have := HK1.out; omega
                  case rel => exact ⟨(y199), (wrap64 (((rd_T44 l0 x25_1).f0) + ((rd_T44 l0 x25_1).f1))), (wrap64 (x25_1 + 1)), (by first | rfl | (simp; done) | (simp [*]; done)), (by first | rfl | (simp; done) | (simp [*]; done)), H', ⟨by have := HK1.out; omega⟩, ⟨by (with_reducible repeat (first | apply Kd.V_alloc | apply Kd.V_drewN | apply Kd.V_drew)); exact Kd.V_mono HO_1.out (fun k_ hk => by (try simp only [and_assoc] at hk); simp only [and_assoc, hk, ne_eq, not_false_eq_true, and_self, true_and])⟩, ⟨by (with_reducible repeat (first | apply Kd.N_alloc | apply Kd.N_drewN | apply Kd.N_drew)); exact Kd.N_mono HO201.out (fun _ hk => hk.1)⟩, ⟨by (with_reducible repeat (first | apply Kd.V_alloc | apply Kd.V_drewN | apply Kd.V_drew)); exact Kd.V_mono HO_23.out (fun k_ hk => by (try simp only [and_assoc] at hk); simp only [and_assoc, hk, ne_eq, not_false_eq_true, and_self, true_and])⟩, ⟨by repeat (first | (with_reducible first | exact HB.out | apply below_alloc | apply pw_below_drewN | apply below_drew1 | refine below_set ?_ GE177.out) | exact HB.out)⟩⟩
                 ·rw [if_neg c25] at H
                  exact absurd H (by simp)
                ·rw [if_neg c24] at H
                 exact absurd H (by simp)
               ·rw [if_neg c23] at H
                exact absurd H (by simp)
              ·rw [if_neg c22] at H
               exact absurd H (by simp)
             ·rw [if_neg c21] at H
              exact absurd H (by simp)
            ·replace c20 := Bool.eq_false_iff.mpr c20
             subst c20
             have H1 : (some (([] : List (S47)), 8)) = some (r1, r2) := by rw [if_neg (show ¬ (false = true) by decide)] at H; exact H
             clear H
             have H := H1
             clear H1
             simp only [Option.some.injEq, Prod.mk.injEq] at H
             obtain ⟨rfl, rfl⟩ := H
             have p176 : 0 ≤ (x25_1 : Int) := of_decide_eq_true (by first | (with_reducible assumption) | assumption)
             have q176 : x25_1 < (l0.length : Int) := of_decide_eq_true (by first | (with_reducible assumption) | assumption)
             obtain ⟨ad176, A176_4, c176_4, e176, hx176_0, hx176_1, hx176_2, hx176_3, hx176_4, hl176_4, hi176_4⟩ := at_T44 (Kd.V_reads' HO_23.out).2.2 x25_1 p176 q176
             cases e176
             obtain ⟨ce176, hce176, hMe176, hcc176⟩ := Kd.V_get HO_23.out z44 x25_1 p176 (by first | exact q176 | exact of_decide_eq_true (by first | (with_reducible assumption) | assumption) | (have e_ := (Kd.V_reads' HO_23.out).1; omega))
             obtain ⟨ua176_4, uc176_4, rfl, ul176_4, ge176_4⟩ := k44_openF hMe176
             have hv176_4 := hcc176 4 _ rfl
             rw [add_field _ _ 4 (by omega)] at hv176_4
             replace hv176_4 := Option.some.inj (hv176_4.symm.trans hx176_4)
             injection hv176_4 with hva_ hvn_ hvc_
             rw [hva_] at ge176_4
             rw [hvc_] at ul176_4
             have HL176_4 := Aside0.mk (show Kd.V k47 47 _ w.heap.size _ _ ((rd_T44 l0 x25_1).f4) from Kd.V_mk ul176_4 ge176_4)
             clear hva_ hvn_ hvc_ ge176_4 ul176_4
             clear hcc176 hce176
             have HR176_4 := Aside0.mk hi176_4
             have HC176_4 := Aside0.mk hl176_4
             clear hi176_4 hl176_4
             replace p176 := eq_true p176
             replace q176 := eq_true q176
             go_wp2_with (first | ((with_reducible refine gate_dst (N := 10) rfl ?_); refine box_event ?hg (N := 10) ?hd (cs := #[.int .i64 0, .int .i64 0, .int .i64 0, .int .i64 0, .slice none 0 0]) (t := 44) ?hr ?_; (case hd => rfl); (case hg => rfl); (case hr => first | (go_simp; done) | (go_simp; rfl)); intro gb177 hg w36 hbox hb; have n0_ := Aside0.mk (Kd.V_below (Kd.V_elderB (by (with_reducible repeat (first | apply Kd.V_alloc | apply Kd.V_drewN | apply Kd.V_drew)); exact HO_1.out) gb177 (Nat.le_of_eq hg.symm)) hb); have n1_ := Aside0.mk (Kd.N_below (Kd.N_elderB (by (with_reducible repeat (first | apply Kd.N_alloc | apply Kd.N_drewN | apply Kd.N_drew)); exact HO_7.out) gb177 (Nat.le_of_eq hg.symm)) hb); have n2_ := Aside0.mk (Kd.V_below (Kd.V_elderB (by (with_reducible repeat (first | apply Kd.V_alloc | apply Kd.V_drewN | apply Kd.V_drew)); exact HO_23.out) gb177 (Nat.le_of_eq hg.symm)) hb); have n3_ := Aside0.mk (Kd.V_below (Kd.V_elderB (by (with_reducible repeat (first | apply Kd.V_alloc | apply Kd.V_drewN | apply Kd.V_drew)); exact HL176_4.out) gb177 (Nat.le_of_eq hg.symm)) hb); have n4_ := Aside0.mk (Kd.C_below (by repeat (first | (with_reducible exact HR176_4.out) | (with_reducible refine Kd.C_alloc ?_ _) | (with_reducible refine Kd.C_drewN ?_ _) | (with_reducible refine Kd.C_drew ?_) | exact HR176_4.out)) hb); have n5_ := Aside0.mk (below_step (by repeat (first | (with_reducible first | exact HB.out | apply below_alloc | apply pw_below_drewN | apply below_drew1) | exact HB.out)) hb); have n6_ := Aside0.mk (hbox); have n7_ := Aside0.mk ((by rw [hg]; exact (below_size (by repeat (first | (with_reducible first | exact HB.out | apply below_alloc | apply pw_below_drewN | apply below_drew1) | exact HB.out))) : w.heap.size ≤ gb177)); have n8_ := Aside0.mk ((by rw [hg]; exact (below_size (by repeat (first | (with_reducible first | exact HB.out | apply below_alloc | apply pw_below_drewN | apply below_drew1) | exact HB.out))) : w.heap.size ≤ gb177)); clear HO_1; clear HO_7; clear HO_23; clear HL176_4; clear HR176_4; clear HB; have HO_1 := n0_; have HO_7 := n1_; have HO_23 := n2_; have HL176_4 := n3_; have HR176_4 := n4_; have HB := n5_; have BK177 := n6_; have GW177 := n7_; have GE177 := n8_; clear n0_ n1_ n2_ n3_ n4_ n5_ n6_ n7_ n8_; clear hb hbox hg; have hcz37_0 : w36.cell? ⟨gb177, 0, none⟩ = some (.int .i64 0) := (blk_cell BK177.out 0).trans rfl; have hcz37_1 : w36.cell? ⟨gb177, 1, none⟩ = some (.int .i64 0) := (blk_cell BK177.out 1).trans rfl; have hcz37_2 : w36.cell? ⟨gb177, 2, none⟩ = some (.int .i64 0) := (blk_cell BK177.out 2).trans rfl; have hcz37_3 : w36.cell? ⟨gb177, 3, none⟩ = some (.int .i64 0) := (blk_cell BK177.out 3).trans rfl; have hcz37_4 : w36.cell? ⟨gb177, 4, none⟩ = some (.slice none 0 0) := (blk_cell BK177.out 4).trans rfl; have hfz37_0 := blk_frozen BK177.out 0; have hfz37_1 := blk_frozen BK177.out 1; have hfz37_2 := blk_frozen BK177.out 2; have hfz37_3 := blk_frozen BK177.out 3; have hfz37_4 := blk_frozen BK177.out 4) | ((with_reducible refine gate_callee (f := 55) rfl ?_); refine goesL_ (some 37) rfl rfl Try.func55 (by kernel_rfl) rfl #[.slice A176_4 ((rd_T44 l0 x25_1).f4).length c176_4] rfl (by (try simp only [List.map_toArray, List.map_cons, List.map_nil]); first | done | rfl | (simp only [List.length_drop, List.length_take]; rfl)) ?_; (with_reducible refine (script_Sides.calls k1 _ _ ((rd_T44 l0 x25_1).f4) t178 t179 t180 _ ?side1 ?side2 A11.out).mono ?_); (case side1 => repeat (first | exact ((Kd.V_reads' (by (with_reducible repeat (first | apply Kd.V_alloc | apply Kd.V_drewN | apply Kd.V_drew)); exact (Kd.V_mono (Kd.V_far (p := ⟨gb177, 4, none⟩) (Kd.V_far (p := ⟨gb177, 3, none⟩) (Kd.V_far (p := ⟨gb177, 2, none⟩) (Kd.V_far (p := ⟨gb177, 1, none⟩) (Kd.V_far (p := ⟨gb177, 0, none⟩) (Kd.V_mono HL176_4.out (fun k_ hk => (⟨hk, hk.2⟩ : _ ∧ k_ ≠ gb177))) (fun _ hk => hk.2) (.int .i64 ((rd_T44 l0 x25_1).f0))) (fun _ hk => hk.2) (.int .i64 ((rd_T44 l0 x25_1).f1))) (fun _ hk => hk.2) (.int .i64 ((rd_T44 l0 x25_1).f2))) (fun _ hk => hk.2) (.int .i64 ((rd_T44 l0 x25_1).f3))) (fun _ hk => hk.2) (.slice A176_4 ((rd_T44 l0 x25_1).f4).length c176_4)) (fun _ h_ => h_.1)))).2.2) | (with_reducible refine Kd.C_alloc ?_ _) | (with_reducible refine Kd.C_drewN ?_ _) | (with_reducible refine Kd.C_drew ?_))); (case side2 => exact HC176_4.out); rintro e w38 ⟨v181, v183, rfl, ho0, ho1, hb⟩; refine ⟨_, rfl, ?_⟩; have n0_ := Aside0.mk (Kd.V_mono (Kd.V_told (Kd.V_told (Kd.V_old (by (with_reducible repeat (first | apply Kd.V_alloc | apply Kd.V_drewN | apply Kd.V_drew)); exact (Kd.V_mono (Kd.V_far (p := ⟨gb177, 4, none⟩) (Kd.V_far (p := ⟨gb177, 3, none⟩) (Kd.V_far (p := ⟨gb177, 2, none⟩) (Kd.V_far (p := ⟨gb177, 1, none⟩) (Kd.V_far (p := ⟨gb177, 0, none⟩) (Kd.V_mono HO_1.out (fun k_ hk => (⟨hk, hk.2⟩ : _ ∧ k_ ≠ gb177))) (fun _ hk => hk.2) (.int .i64 ((rd_T44 l0 x25_1).f0))) (fun _ hk => hk.2) (.int .i64 ((rd_T44 l0 x25_1).f1))) (fun _ hk => hk.2) (.int .i64 ((rd_T44 l0 x25_1).f2))) (fun _ hk => hk.2) (.int .i64 ((rd_T44 l0 x25_1).f3))) (fun _ hk => hk.2) (.slice A176_4 ((rd_T44 l0 x25_1).f4).length c176_4)) (fun _ h_ => h_.1))) hb) (Kd.R_base ho0)) (Kd.R_base ho1)) (fun _ h_ => h_.1)); have n1_ := Aside0.mk (Kd.N_mono (Kd.N_told (Kd.N_told (Kd.N_old (by (with_reducible repeat (first | apply Kd.N_alloc | apply Kd.N_drewN | apply Kd.N_drew)); exact (Kd.N_mono (Kd.N_far (p := ⟨gb177, 4, none⟩) (Kd.N_far (p := ⟨gb177, 3, none⟩) (Kd.N_far (p := ⟨gb177, 2, none⟩) (Kd.N_far (p := ⟨gb177, 1, none⟩) (Kd.N_far (p := ⟨gb177, 0, none⟩) (Kd.N_mono HO_7.out (fun k_ hk => (⟨hk, hk.2⟩ : _ ∧ k_ ≠ gb177))) (fun _ hk => hk.2) (.int .i64 ((rd_T44 l0 x25_1).f0))) (fun _ hk => hk.2) (.int .i64 ((rd_T44 l0 x25_1).f1))) (fun _ hk => hk.2) (.int .i64 ((rd_T44 l0 x25_1).f2))) (fun _ hk => hk.2) (.int .i64 ((rd_T44 l0 x25_1).f3))) (fun _ hk => hk.2) (.slice A176_4 ((rd_T44 l0 x25_1).f4).length c176_4)) (fun _ h_ => h_.1))) hb) (Kd.R_base ho0)) (Kd.R_base ho1)) (fun _ h_ => h_.1)); have n2_ := Aside0.mk (Kd.V_mono (Kd.V_told (Kd.V_told (Kd.V_old (by (with_reducible repeat (first | apply Kd.V_alloc | apply Kd.V_drewN | apply Kd.V_drew)); exact (Kd.V_mono (Kd.V_far (p := ⟨gb177, 4, none⟩) (Kd.V_far (p := ⟨gb177, 3, none⟩) (Kd.V_far (p := ⟨gb177, 2, none⟩) (Kd.V_far (p := ⟨gb177, 1, none⟩) (Kd.V_far (p := ⟨gb177, 0, none⟩) (Kd.V_mono HO_23.out (fun k_ hk => (⟨hk, hk.2⟩ : _ ∧ k_ ≠ gb177))) (fun _ hk => hk.2) (.int .i64 ((rd_T44 l0 x25_1).f0))) (fun _ hk => hk.2) (.int .i64 ((rd_T44 l0 x25_1).f1))) (fun _ hk => hk.2) (.int .i64 ((rd_T44 l0 x25_1).f2))) (fun _ hk => hk.2) (.int .i64 ((rd_T44 l0 x25_1).f3))) (fun _ hk => hk.2) (.slice A176_4 ((rd_T44 l0 x25_1).f4).length c176_4)) (fun _ h_ => h_.1))) hb) (Kd.R_base ho0)) (Kd.R_base ho1)) (fun _ h_ => h_.1)); have n3_ := Aside0.mk (Kd.V_mono (Kd.V_told (Kd.V_told (Kd.V_old (by (with_reducible repeat (first | apply Kd.V_alloc | apply Kd.V_drewN | apply Kd.V_drew)); exact (Kd.V_mono (Kd.V_far (p := ⟨gb177, 4, none⟩) (Kd.V_far (p := ⟨gb177, 3, none⟩) (Kd.V_far (p := ⟨gb177, 2, none⟩) (Kd.V_far (p := ⟨gb177, 1, none⟩) (Kd.V_far (p := ⟨gb177, 0, none⟩) (Kd.V_mono HL176_4.out (fun k_ hk => (⟨hk, hk.2⟩ : _ ∧ k_ ≠ gb177))) (fun _ hk => hk.2) (.int .i64 ((rd_T44 l0 x25_1).f0))) (fun _ hk => hk.2) (.int .i64 ((rd_T44 l0 x25_1).f1))) (fun _ hk => hk.2) (.int .i64 ((rd_T44 l0 x25_1).f2))) (fun _ hk => hk.2) (.int .i64 ((rd_T44 l0 x25_1).f3))) (fun _ hk => hk.2) (.slice A176_4 ((rd_T44 l0 x25_1).f4).length c176_4)) (fun _ h_ => h_.1))) hb) (Kd.R_base ho0)) (Kd.R_base ho1)) (fun _ h_ => h_.1)); have n4_ := Aside0.mk (Kd.R_lower (Kd.R_newM (M := fun k_ => (w.heap.size ≤ k_)) ho0 (below_size (by repeat (first | (with_reducible first | exact HB.out | apply below_alloc | apply pw_below_drewN | apply below_drew1 | refine below_set ?_ GE177.out) | exact HB.out))) (fun k_ h_ => h_)) (below_size (by repeat (first | (with_reducible first | exact HB.out | apply below_alloc | apply pw_below_drewN | apply below_drew1 | refine below_set ?_ GE177.out) | exact HB.out)))); have n5_ := Aside0.mk (Kd.R_lower (Kd.R_newM (M := fun k_ => (w.heap.size ≤ k_)) ho1 (below_size (by repeat (first | (with_reducible first | exact HB.out | apply below_alloc | apply pw_below_drewN | apply below_drew1 | refine below_set ?_ GE177.out) | exact HB.out))) (fun k_ h_ => h_)) (below_size (by repeat (first | (with_reducible first | exact HB.out | apply below_alloc | apply pw_below_drewN | apply below_drew1 | refine below_set ?_ GE177.out) | exact HB.out)))); have n6_ := Aside0.mk (Kd.C_below ((Kd.V_reads' (by (with_reducible repeat (first | apply Kd.V_alloc | apply Kd.V_drewN | apply Kd.V_drew)); exact (Kd.V_mono (Kd.V_far (p := ⟨gb177, 4, none⟩) (Kd.V_far (p := ⟨gb177, 3, none⟩) (Kd.V_far (p := ⟨gb177, 2, none⟩) (Kd.V_far (p := ⟨gb177, 1, none⟩) (Kd.V_far (p := ⟨gb177, 0, none⟩) (Kd.V_mono HL176_4.out (fun k_ hk => (⟨hk, hk.2⟩ : _ ∧ k_ ≠ gb177))) (fun _ hk => hk.2) (.int .i64 ((rd_T44 l0 x25_1).f0))) (fun _ hk => hk.2) (.int .i64 ((rd_T44 l0 x25_1).f1))) (fun _ hk => hk.2) (.int .i64 ((rd_T44 l0 x25_1).f2))) (fun _ hk => hk.2) (.int .i64 ((rd_T44 l0 x25_1).f3))) (fun _ hk => hk.2) (.slice A176_4 ((rd_T44 l0 x25_1).f4).length c176_4)) (fun _ h_ => h_.1)))).2.2) hb); have n7_ := Aside0.mk (blk_below (g := gb177) (o := .cells #[.int .i64 ((rd_T44 l0 x25_1).f0), .int .i64 ((rd_T44 l0 x25_1).f1), .int .i64 ((rd_T44 l0 x25_1).f2), .int .i64 ((rd_T44 l0 x25_1).f3), .slice A176_4 ((rd_T44 l0 x25_1).f4).length c176_4] 44 (0, 0)) (by (with_reducible repeat first|refine zb1 ?_ _|refine zb2 ?_|refine zb3 ?_ _); refine blk_put (cs := #[.int .i64 ((rd_T44 l0 x25_1).f0), .int .i64 ((rd_T44 l0 x25_1).f1), .int .i64 ((rd_T44 l0 x25_1).f2), .int .i64 ((rd_T44 l0 x25_1).f3), .slice none 0 0]) ?_ 4 _ rfl; (with_reducible repeat first|refine zb1 ?_ _|refine zb2 ?_|refine zb3 ?_ _); refine blk_put (cs := #[.int .i64 ((rd_T44 l0 x25_1).f0), .int .i64 ((rd_T44 l0 x25_1).f1), .int .i64 ((rd_T44 l0 x25_1).f2), .int .i64 0, .slice none 0 0]) ?_ 3 _ rfl; (with_reducible repeat first|refine zb1 ?_ _|refine zb2 ?_|refine zb3 ?_ _); refine blk_put (cs := #[.int .i64 ((rd_T44 l0 x25_1).f0), .int .i64 ((rd_T44 l0 x25_1).f1), .int .i64 0, .int .i64 0, .slice none 0 0]) ?_ 2 _ rfl; (with_reducible repeat first|refine zb1 ?_ _|refine zb2 ?_|refine zb3 ?_ _); refine blk_put (cs := #[.int .i64 ((rd_T44 l0 x25_1).f0), .int .i64 0, .int .i64 0, .int .i64 0, .slice none 0 0]) ?_ 1 _ rfl; (with_reducible repeat first|refine zb1 ?_ _|refine zb2 ?_|refine zb3 ?_ _); refine blk_put (cs := #[.int .i64 0, .int .i64 0, .int .i64 0, .int .i64 0, .slice none 0 0]) ?_ 0 _ rfl; (with_reducible repeat first|refine zb1 ?_ _|refine zb2 ?_|refine zb3 ?_ _); exact BK177.out) hb); have n8_ := Aside0.mk (below_step (by repeat (first | (with_reducible first | exact HB.out | apply below_alloc | apply pw_below_drewN | apply below_drew1 | refine below_set ?_ GE177.out) | exact HB.out)) hb); clear HO_1; clear HO_7; clear HO_23; clear HL176_4; clear HR176_4; clear BK177; clear HB; have HO_1 := n0_; have HO_7 := n1_; have HO_23 := n2_; have HL176_4 := n3_; have HO182 := n4_; have HO184 := n5_; have HR176_4 := n6_; have BK177 := n7_; have HB := n8_; clear n0_ n1_ n2_ n3_ n4_ n5_ n6_ n7_ n8_; (try clear hb); (try clear hb2); (try clear hk); (try clear hi); (try clear ho0); (try clear ho1); have hcz39_0 : w38.cell? ⟨gb177, 0, none⟩ = some (.int .i64 ((rd_T44 l0 x25_1).f0)) := (blk_cell BK177.out 0).trans rfl; have hcz39_1 : w38.cell? ⟨gb177, 1, none⟩ = some (.int .i64 ((rd_T44 l0 x25_1).f1)) := (blk_cell BK177.out 1).trans rfl; have hcz39_2 : w38.cell? ⟨gb177, 2, none⟩ = some (.int .i64 ((rd_T44 l0 x25_1).f2)) := (blk_cell BK177.out 2).trans rfl; have hcz39_3 : w38.cell? ⟨gb177, 3, none⟩ = some (.int .i64 ((rd_T44 l0 x25_1).f3)) := (blk_cell BK177.out 3).trans rfl; have hcz39_4 : w38.cell? ⟨gb177, 4, none⟩ = some (.slice A176_4 ((rd_T44 l0 x25_1).f4).length c176_4) := (blk_cell BK177.out 4).trans rfl; have hfz39_0 := blk_frozen BK177.out 0; have hfz39_1 := blk_frozen BK177.out 1; have hfz39_2 := blk_frozen BK177.out 2; have hfz39_3 := blk_frozen BK177.out 3; have hfz39_4 := blk_frozen BK177.out 4; have q40 : ((wrap64 (((rd_T44 l0 x25_1).f0) + ((rd_T44 l0 x25_1).f1))) : Int) ≤ ((l1.length : Int) : Int) := of_decide_eq_true (by first | (with_reducible assumption) | assumption); obtain ⟨i040, hi040, _, hsz40, _⟩ := info_parts info66; have hroom40 : l1.length ≤ c1 := (Kd.V_reads' HO_1.out).2.1; have hC40 : Kd.F k66 _ _ A1 l1.length l1 := (Kd.V_at (base := w.heap.size) HO_1.out).2.2; have ql40 : (((rd_T44 l0 x25_1).f0) : Int) ≤ ((wrap64 (((rd_T44 l0 x25_1).f0) + ((rd_T44 l0 x25_1).f1))) : Int) := of_decide_eq_true (by first | (with_reducible assumption) | assumption); have q040 : (0 : Int) ≤ (((rd_T44 l0 x25_1).f0) : Int) := of_decide_eq_true (by first | (with_reducible assumption) | assumption); have hcut40 := cut_mid (P := Try.prog) 37 66 .i64 .i64 Try.underlying37 hi040 2 hsz40 A1 l1.length c1 ((rd_T44 l0 x25_1).f0) (wrap64 (((rd_T44 l0 x25_1).f0) + ((rd_T44 l0 x25_1).f1))) q040 ql40 q40 hroom40; have hr40 := Kd.F_mid (lo := (((rd_T44 l0 x25_1).f0) : Int).toNat) (hi := ((wrap64 (((rd_T44 l0 x25_1).f0) + ((rd_T44 l0 x25_1).f1))) : Int).toNat) (c := c1) hC40 (by omega) (by omega) hroom40; obtain ⟨A40, hA40⟩ : ∃ A1_, A1_ = (if c1 = (((rd_T44 l0 x25_1).f0) : Int).toNat then A1 else (A1 : Option Addr).map (·.add ((((rd_T44 l0 x25_1).f0) : Int).toNat * 2))) := ⟨_, rfl⟩; obtain ⟨c40, hc40⟩ : ∃ c1_, c1_ = c1 - (((rd_T44 l0 x25_1).f0) : Int).toNat := ⟨_, rfl⟩; have hy40 : y185.length = ((wrap64 (((rd_T44 l0 x25_1).f0) + ((rd_T44 l0 x25_1).f1))) : Int).toNat - (((rd_T44 l0 x25_1).f0) : Int).toNat := (by rw [Ny185.out, List.length_drop, List.length_take] <;> omega); rw [show ((l1).take ((wrap64 (((rd_T44 l0 x25_1).f0) + ((rd_T44 l0 x25_1).f1))) : Int).toNat).drop (((rd_T44 l0 x25_1).f0) : Int).toNat = y185 from Ny185.out.symm] at hr40; replace hr40 : Kd.F k66 _ _ A40 y185.length y185 := (by rw [hA40]; exact hr40); rw [← hy40, ← hA40, ← hc40] at hcut40; have HO189 := Aside0.mk (show Kd.V k66 66 _ w.heap.size _ (.slice A40 y185.length c40) y185 from Kd.V_mk (by rw [hy40, hc40]; exact Nat.sub_le_sub_right (Nat.le_trans (by omega) hroom40) _) hr40); have HC189 := Aside0.mk (show y185.length ≤ c40 from by rw [hy40, hc40]; exact Nat.sub_le_sub_right (Nat.le_trans (by omega) hroom40) _); clear hr40 hC40 hroom40 hi040 hsz40 hc40; have KY40 := Aside0.mk hy40; have KA40 := Aside0.mk hA40; clear hy40 hA40; replace q40 := eq_true q40; obtain ⟨Ao41, co41, eo41⟩ := Kd.R_slice HO182.out; subst eo41) | (go_at_call 56; (with_reducible refine (api_Line_56.calls k1 _ _ t178 _ _ y185 false _ ?side1 ?side2 ?side3 ?side4 A19.out).mono ?_); (case side1 => repeat (first | exact (Kd.R_reads' HO182.out).2.2 | (with_reducible refine Kd.C_alloc ?_ _) | (with_reducible refine Kd.C_drewN ?_ _) | (with_reducible refine Kd.C_drew ?_))); (case side2 => exact (Kd.R_reads' HO182.out).2.1); (case side3 => repeat (first | exact (Kd.V_reads' HO189.out).2.2 | (with_reducible refine Kd.C_alloc ?_ _) | (with_reducible refine Kd.C_drewN ?_ _) | (with_reducible refine Kd.C_drew ?_))); (case side4 => exact (Kd.V_reads' HO189.out).2.1); rintro e w' ⟨rfl, ⟨nd, rfl⟩⟩))
             go_ret2
             exact ⟨_, by first | rfl | (simp [errW_none, errW_some] <;> rfl) | (simp [*, errW_none, errW_some] <;> rfl), by first | exact Kd.S_nil _ _ _ _ _ | exact Kd.N_nil _ _ _ _ _ | exact Kd.V_nil _ _ _ _ _ | exact Kd.Q_nil _ _ _ _ _ | exact Kd.R_nil _ _ _ _ _, by repeat (first | (with_reducible first | exact HB.out | apply below_alloc | apply pw_below_drewN | apply below_drew1 | refine below_set ?_ GE177.out) | exact HB.out)⟩
           ·rw [if_neg c18] at H
            exact absurd H (by simp)
          ·rw [if_neg c17] at H
           exact absurd H (by simp)
         ·rw [if_neg c16] at H
          exact absurd H (by simp)
       ·rw [if_neg c10] at H
        exact absurd H (by simp)
      ·rw [if_neg c9] at H
       exact absurd H (by simp)
     ·rw [if_neg c8] at H
      have c8b0 : decide (x25_1 < (l0.length : Int)) = false := decide_eq_false c8
      clear c8
      by_cases c42 : 0 ≤ x8_1
      ·rw [if_pos c42] at H
       have c42b0 := eq_true c42
       have c42b1 : decide (0 ≤ x8_1) = true := decide_eq_true c42
       clear c42
       by_cases c43 : x8_1 ≤ (l1.length : Int)
       ·rw [if_pos c43] at H
        have c43b0 := eq_true c43
        have c43b1 : decide (x8_1 ≤ (l1.length : Int)) = true := decide_eq_true c43
        clear c43
        obtain ⟨y164, hy164⟩ : ∃ y_ : List (S66), y_ = (l1.drop (x8_1 : Int).toNat) := ⟨_, rfl⟩
        replace H : (if x7_1.length < 4398046511104 then ((script_Normal.f k1 (x7_1 ++ [(⟨1, y164⟩ : S47)])).bind fun bt172 => (some (bt172.1, bt172.2))) else (none)) = some (r1, r2) := by first | (rw [hy164]; with_reducible exact H) | (have H2_ := (Option.bind_some _ _).symm.trans H; rw [hy164]; with_reducible exact H2_) | (have H2_ := (Option.bind_some _ _).symm.trans H; with_reducible exact H2_) | with_reducible exact H | (rw [hy164]; exact H) | exact H
        have Ny164 := Aside0.mk hy164
        clear hy164
        by_cases c44 : x7_1.length < 4398046511104
        ·rw [if_pos c44] at H
         have LMc44 := Aside0.mk c44
         clear c44
         obtain ⟨y169, hy169⟩ : ∃ y_ : List (S47), y_ = (x7_1 ++ [(⟨1, y164⟩ : S47)]) := ⟨_, rfl⟩
         replace H : ((script_Normal.f k1 y169).bind fun bt172 => (some (bt172.1, bt172.2))) = some (r1, r2) := by first | (rw [hy169]; with_reducible exact H) | (have H2_ := (Option.bind_some _ _).symm.trans H; rw [hy169]; with_reducible exact H2_) | (have H2_ := (Option.bind_some _ _).symm.trans H; with_reducible exact H2_) | with_reducible exact H | (rw [hy169]; exact H) | exact H
         have Ny169 := Aside0.mk hy169
         clear hy169
         replace H := Option.bind_eq_some_iff.mp H
         obtain ⟨⟨t172, t173⟩, A450, H⟩ := H
         replace H : (some (t172, t173)) = some (r1, r2) := H
         have A45 := Aside0.mk A450
         clear A450
         simp only [Option.some.injEq, Prod.mk.injEq] at H
         obtain ⟨rfl, rfl⟩ := H
         have q46 : (x8_1 : Int) ≤ ((l1.length : Int) : Int) := of_decide_eq_true (by first | (with_reducible assumption) | assumption)
         obtain ⟨i046, hi046, _, hsz46, _⟩ := info_parts info66
         have hroom46 : l1.length ≤ c1 := (Kd.V_reads' HO_1.out).2.1
         have hC46 : Kd.F k66 _ _ A1 l1.length l1 := (Kd.V_at (base := w.heap.size) HO_1.out).2.2
         have q046 : (0 : Int) ≤ (x8_1 : Int) := of_decide_eq_true (by first | (with_reducible assumption) | assumption)
         have hcut46 := cut_from (P := Try.prog) 37 66 .i64 Try.underlying37 hi046 2 hsz46 A1 l1.length c1 x8_1 q046 q46
         have hr46 := Kd.F_cut (m := (x8_1 : Int).toNat) (c := c1) hC46 (by omega) hroom46
         obtain ⟨A46, hA46⟩ : ∃ A1_, A1_ = (if c1 = (x8_1 : Int).toNat then A1 else (A1 : Option Addr).map (·.add ((x8_1 : Int).toNat * 2))) := ⟨_, rfl⟩
         obtain ⟨c46, hc46⟩ : ∃ c1_, c1_ = c1 - (x8_1 : Int).toNat := ⟨_, rfl⟩
         have hy46 : y164.length = l1.length - (x8_1 : Int).toNat := (by rw [Ny164.out, List.length_drop] <;> omega)
         rw [show (l1).drop (x8_1 : Int).toNat = y164 from Ny164.out.symm] at hr46
         replace hr46 : Kd.F k66 _ _ A46 y164.length y164 := (by rw [hA46]; exact hr46)
         rw [← hy46, ← hA46, ← hc46] at hcut46
         have HO168 := Aside0.mk (show Kd.V k66 66 _ w.heap.size _ (.slice A46 y164.length c46) y164 from Kd.V_mk (by rw [hy46, hc46]; exact Nat.sub_le_sub_right hroom46 _) hr46)
         have HC168 := Aside0.mk (show y164.length ≤ c46 from by rw [hy46, hc46]; exact Nat.sub_le_sub_right hroom46 _)
         clear hr46 hC46 hroom46 hi046 hsz46 hc46
         have KY46 := Aside0.mk hy46
         have KA46 := Aside0.mk hA46
         clear hy46 hA46
         replace q46 := eq_true q46
         go_wp2_with (first | ((with_reducible refine gate_builtin (b := .append) (xs := #[.tmp 71, .tmp 76]) rfl ?_); at_builtin; refine Kd.N_append k47 (w0 := w) w.heap.size rfl (.tmp 71) (.tmp 76) 22 47 (.agg #[(.int .i64 0), (.slice none 0 0)]) 32 rfl Try.underlying22 info47 rfl (by decide) (by omega) u7 x7_1 (⟨1, y164⟩ : S47) [.int .i64 1, .slice A46 y164.length c46] (fun k_ => ((P0_ k_ ∨ P1_ k_) ∨ w.heap.size ≤ k_)) (fun k_ => ((fun k_ => ((P0_ k_ ∨ P1_ k_) ∨ w.heap.size ≤ k_))) k_ ∧ some k_ ≠ (u7 : Value).ownBlock) rfl rfl ?aP (fun _ hk => hk) ?aF ?aO ?aB ?aS ?aL ?_; (case aP => exact (k47_mkF _ _ (⟨1, y164⟩ : S47) (Kd.V_reads' (Kd.V_mono (ok' := (fun k_ => ((fun k_ => ((P0_ k_ ∨ P1_ k_) ∨ w.heap.size ≤ k_))) k_ ∧ some k_ ≠ (u7 : Value).ownBlock)) (HO168.out) (fun k_ hk => by (try simp only [and_assoc] at hk); simp only [and_assoc, hk, ne_eq, not_false_eq_true, and_self, true_and]))).2.1 (Kd.V_F (Kd.V_mono (ok' := (fun k_ => ((fun k_ => ((P0_ k_ ∨ P1_ k_) ∨ w.heap.size ≤ k_))) k_ ∧ some k_ ≠ (u7 : Value).ownBlock)) (HO168.out) (fun k_ hk => by (try simp only [and_assoc] at hk); simp only [and_assoc, hk, ne_eq, not_false_eq_true, and_self, true_and]))))); (case aB => exact (by repeat (first | (with_reducible first | exact HB.out | apply below_alloc | apply pw_below_drewN | apply below_drew1) | exact HB.out))); (case aF => exact (fun k_ hk => (.inr (Nat.le_trans (below_size (by repeat (first | (with_reducible first | exact HB.out | apply below_alloc | apply pw_below_drewN | apply below_drew1) | exact HB.out))) hk)))); (case aO => exact (by (with_reducible repeat (first | apply Kd.N_alloc | apply Kd.N_drewN | apply Kd.N_drew)); exact HO_7.out)); (case aS => exact (below_size (by repeat (first | (with_reducible first | exact HB.out | apply below_alloc | apply pw_below_drewN | apply below_drew1) | exact HB.out)))); (case aL => have := LMc44.out; omega); intro v170 w47 ho hb hg hat; rw [← Ny169.out] at ho; have n0_ := Aside0.mk (Kd.V_afterv (ok := (fun k_ => ((P0_ k_ ∨ P1_ k_) ∨ w.heap.size ≤ k_))) (by (with_reducible repeat (first | apply Kd.V_alloc | apply Kd.V_drewN | apply Kd.V_drew)); exact HO_1.out) hg hat); have n1_ := Aside0.mk (Kd.V_afterv (ok := (fun k_ => ((P0_ k_ ∨ P1_ k_) ∨ w.heap.size ≤ k_))) (by (with_reducible repeat (first | apply Kd.V_alloc | apply Kd.V_drewN | apply Kd.V_drew)); exact HO_23.out) hg hat); have n2_ := Aside0.mk (Kd.V_afterv (ok := (fun k_ => ((P0_ k_ ∨ P1_ k_) ∨ w.heap.size ≤ k_))) (by (with_reducible repeat (first | apply Kd.V_alloc | apply Kd.V_drewN | apply Kd.V_drew)); exact HO168.out) hg hat); have n3_ := Aside0.mk (hb); have n4_ := Aside0.mk (ho); clear HO_1; clear HO_23; clear HO168; clear HB; clear HO_7; have HO_1 := n0_; have HO_23 := n1_; have HO168 := n2_; have HB := n3_; have HO171 := n4_; clear n0_ n1_ n2_ n3_ n4_; clear ho hb hg hat; obtain ⟨Ao48, co48, eo48⟩ := Kd.N_slice HO171.out; subst eo48) | ((with_reducible refine gate_callee (f := 42) rfl ?_); refine goesL_ (some 78) rfl rfl Try.func42 (by kernel_rfl) rfl #[.slice Ao48 y169.length co48] rfl (by (try simp only [List.map_toArray, List.map_cons, List.map_nil]); first | done | rfl | (simp only [List.length_drop, List.length_take]; rfl)) ?_; (with_reducible refine (script_Normal.calls k1 _ _ y169 t172 t173 _ ?side1 ?side2 A45.out).mono ?_); (case side1 => repeat (first | exact (Kd.N_reads' HO171.out).2.2 | (with_reducible refine Kd.C_alloc ?_ _) | (with_reducible refine Kd.C_drewN ?_ _) | (with_reducible refine Kd.C_drew ?_))); (case side2 => exact (Kd.N_reads' HO171.out).2.1); rintro e w49 ⟨v174, rfl, ho0, hb⟩; refine ⟨_, rfl, ?_⟩; have n0_ := Aside0.mk (Kd.V_elder' (by (with_reducible repeat (first | apply Kd.V_alloc | apply Kd.V_drewN | apply Kd.V_drew)); exact HO_1.out) (by first | exact Kd.S_base ho0 | exact Kd.R_base ho0 | exact Kd.N_base ho0) hb); have n1_ := Aside0.mk (Kd.V_elder' (by (with_reducible repeat (first | apply Kd.V_alloc | apply Kd.V_drewN | apply Kd.V_drew)); exact HO_23.out) (by first | exact Kd.S_base ho0 | exact Kd.R_base ho0 | exact Kd.N_base ho0) hb); have n2_ := Aside0.mk (Kd.V_elder' (by (with_reducible repeat (first | apply Kd.V_alloc | apply Kd.V_drewN | apply Kd.V_drew)); exact HO168.out) (by first | exact Kd.S_base ho0 | exact Kd.R_base ho0 | exact Kd.N_base ho0) hb); have n3_ := Aside0.mk (Kd.N_elder' (by (with_reducible repeat (first | apply Kd.N_alloc | apply Kd.N_drewN | apply Kd.N_drew)); exact HO171.out) (by first | exact Kd.S_base ho0 | exact Kd.R_base ho0 | exact Kd.N_base ho0) hb); have n4_ := Aside0.mk (Kd.N_lower (Kd.N_mono (ok' := fun k_ => ((P0_ k_ ∨ P1_ k_) ∨ w.heap.size ≤ k_) ∧ some k_ ≠ (.slice Ao48 y169.length co48 : Value).ownBlock) (Kd.S_N (Kd.S_bound ho0)) (fun k_ hk_ => ⟨(.inr (Nat.le_trans (below_size (by repeat (first | (with_reducible first | exact HB.out | apply below_alloc | apply pw_below_drewN | apply below_drew1) | exact HB.out))) hk_.2.1)), (Kd.fresh' (Kd.N_lt (by (with_reducible repeat (first | apply Kd.N_alloc | apply Kd.N_drewN | apply Kd.N_drew)); exact HO171.out)) k_ hk_.2.1)⟩)) (below_size (by repeat (first | (with_reducible first | exact HB.out | apply below_alloc | apply pw_below_drewN | apply below_drew1) | exact HB.out)))); have n5_ := Aside0.mk (below_step (by repeat (first | (with_reducible first | exact HB.out | apply below_alloc | apply pw_below_drewN | apply below_drew1) | exact HB.out)) hb); clear HO_1; clear HO_23; clear HO168; clear HO171; clear HB; have HO_1 := n0_; have HO_23 := n1_; have HO168 := n2_; have HO171 := n3_; have HO175 := n4_; have HB := n5_; clear n0_ n1_ n2_ n3_ n4_ n5_; (try clear hb); (try clear hb2); (try clear hk); (try clear hi); (try clear ho0)))
         go_ret2
         exact ⟨_, by first | rfl | (simp [errW_none, errW_some] <;> rfl) | (simp [*, errW_none, errW_some] <;> rfl), by (with_reducible repeat (first | apply Kd.N_alloc | apply Kd.N_drewN | apply Kd.N_drew)); exact Kd.N_mono HO175.out (fun _ hk => hk.1), by repeat (first | (with_reducible first | exact HB.out | apply below_alloc | apply pw_below_drewN | apply below_drew1) | exact HB.out)⟩
        ·rw [if_neg c44] at H
         exact absurd H (by simp)
       ·rw [if_neg c43] at H
        exact absurd H (by simp)
      ·rw [if_neg c42] at H
       exact absurd H (by simp)
 ·rw [if_neg c4] at H
  have c4b0 : (t163 == 0) = false := beq_eq_false_iff_ne.mpr c4
  have c4b1 : (t163 != 0) = true := bne_iff_ne.mpr c4
  simp only [Option.some.injEq, Prod.mk.injEq] at H
  obtain ⟨rfl, rfl⟩ := H
  go_enter Try.func25, Try.ntmps25
  go_wp2_with (first | ((with_reducible refine gate_callee (f := 18) rfl ?_); refine goesL_ (some 16) rfl rfl Try.func18 (by kernel_rfl) rfl #[.slice A0 l0.length c0] rfl (by (try simp only [List.map_toArray, List.map_cons, List.map_nil]); first | done | rfl | (simp only [List.length_drop, List.length_take]; rfl)) ?_; (with_reducible refine (hunk_Check.calls k _ _ l0 t163 _ ?side1 ?side2 A3.out).mono ?_); (case side1 => repeat (first | exact (Kd.V_reads' HO0.out).2.2 | (with_reducible refine Kd.C_alloc ?_ _) | (with_reducible refine Kd.C_drewN ?_ _) | (with_reducible refine Kd.C_drew ?_))); (case side2 => exact (Kd.V_reads' HO0.out).2.1); rintro e w50 ⟨rfl, hb⟩; refine ⟨_, rfl, ?_⟩; have n0_ := Aside0.mk (Kd.V_below (by (with_reducible repeat (first | apply Kd.V_alloc | apply Kd.V_drewN | apply Kd.V_drew)); exact HO0.out) hb); have n1_ := Aside0.mk (Kd.V_below (by (with_reducible repeat (first | apply Kd.V_alloc | apply Kd.V_drewN | apply Kd.V_drew)); exact HO1.out) hb); have n2_ := Aside0.mk (below_step (by repeat (first | (with_reducible first | exact HB.out | apply below_alloc | apply pw_below_drewN | apply below_drew1) | exact HB.out)) hb); clear HO0; clear HO1; clear HB; have HO0 := n0_; have HO1 := n1_; have HB := n2_; clear n0_ n1_ n2_; (try clear hb); (try clear hb2); (try clear hk); (try clear hi)))
  go_ret2
  exact ⟨_, by first | rfl | (simp [errW_none, errW_some] <;> rfl) | (simp [*, errW_none, errW_some] <;> rfl), by first | exact Kd.S_nil _ _ _ _ _ | exact Kd.N_nil _ _ _ _ _ | exact Kd.V_nil _ _ _ _ _ | exact Kd.Q_nil _ _ _ _ _ | exact Kd.R_nil _ _ _ _ _, by repeat (first | (with_reducible first | exact HB.out | apply below_alloc | apply pw_below_drewN | apply below_drew1) | exact HB.out)⟩

end Go.Proofs.Ytfnbodjmmkjlcaa.H
end
section
namespace Go.Proofs.Ytfnbodjmmkjlcaa.H
open Go.RowKit Go.Proofs.YtfnbodjmmkjlcaaW.PrintWords Go.Proofs.YtfnbodjmmkjlcaaW.PrintLast Go.Proofs.YtfnbodjmmkjlcaaW.PrintMore
attribute [local go_sem] max2_int min2_int max_two min_two max_three min_three max_four min_four   -- for this text's walks alone
set_option linter.unusedVariables false
set_option linter.unusedSimpArgs false

def jalousielaw09_live.f (k : Nat)  : Option (Bool) := (hunk_Build.f k (([(⟨1, (([(⟨(⟨#[97]⟩ : ByteArray), false⟩ : S66), (⟨(⟨#[98]⟩ : ByteArray), false⟩ : S66)] : List (S66)))⟩ : S47), (⟨2, (([(⟨(⟨#[99]⟩ : ByteArray), false⟩ : S66)] : List (S66)))⟩ : S47)] : List (S47))) 1).bind fun bt211 => ((hunk_Whole.f k bt211.1 (([(⟨(⟨#[97]⟩ : ByteArray), false⟩ : S66), (⟨(⟨#[98]⟩ : ByteArray), false⟩ : S66), (⟨(⟨#[99]⟩ : ByteArray), false⟩ : S66)] : List (S66)))).bind fun bt218 => (if bt211.2 = 0 then (if (bt211.1.length : Int) = 1 then (if 0 < (bt211.1.length : Int) then (if ((rd_T44 bt211.1 0).f0) = 1 then (if ((rd_T44 bt211.1 0).f1) = 2 then (if ((rd_T44 bt211.1 0).f3) = 1 then ((hunk_Check.f k bt211.1).bind fun t225 => (if t225 = 0 then (if bt218.2 = 0 then (if (bt218.1.length : Int) = 2 then ((hunk_Join.f k bt211.1).bind fun t226 => (some ((t226.length : Int) == 2))) else (some false)) else (some false)) else (some false))) else (some false)) else (some false)) else (some false)) else (none)) else (some false)) else (some false)))
theorem jalousielaw09_live.mono : ∀ k, LeO (jalousielaw09_live.f k ) (jalousielaw09_live.f (k + 1) ) := by
 intro  k
 unfold jalousielaw09_live.f
 repeat' first
   | (with_reducible exact hunk_Build.mono _ _ _)
   | (with_reducible exact hunk_Check.mono _ _)
   | (with_reducible exact hunk_Join.mono _ _)
   | (with_reducible exact hunk_Whole.mono _ _ _)
   | (with_reducible exact LeO.refl _)
   | (with_reducible exact LeO.none _)
   | (with_reducible refine LeO.ite ?_ ?_)
   | (with_reducible refine LeO.bind ?_ (fun _ => ?_))
   | exact hunk_Build.mono _ _ _
   | exact hunk_Check.mono _ _
   | exact hunk_Join.mono _ _
   | exact hunk_Whole.mono _ _ _
   | exact LeO.none _
   | refine LeO.ite ?_ ?_
   | refine LeO.bind ?_ (fun _ => ?_)
set_option maxHeartbeats 8000000 in
set_option maxRecDepth 100000 in
theorem jalousielaw09_live.calls (k : Nat)  (r : Bool) (w : World) (h : jalousielaw09_live.f k  = some r) (HRT : Aside0 (r = true) := by first | exact ⟨rfl⟩ | assumption) :
  Calls Try.prog 14 #[] w fun e w' => e = .returned (.bool r) ∧ Below w.heap.size w w' := by
 have hu66 := Try.underlying66
 have hu47 := Try.underlying47
 have HB := Aside0.mk (Below.refl w.heap.size w)
 have H : ((hunk_Build.f k (([(⟨1, (([(⟨(⟨#[97]⟩ : ByteArray), false⟩ : S66), (⟨(⟨#[98]⟩ : ByteArray), false⟩ : S66)] : List (S66)))⟩ : S47), (⟨2, (([(⟨(⟨#[99]⟩ : ByteArray), false⟩ : S66)] : List (S66)))⟩ : S47)] : List (S47))) 1).bind fun bt211 => ((hunk_Whole.f k bt211.1 (([(⟨(⟨#[97]⟩ : ByteArray), false⟩ : S66), (⟨(⟨#[98]⟩ : ByteArray), false⟩ : S66), (⟨(⟨#[99]⟩ : ByteArray), false⟩ : S66)] : List (S66)))).bind fun bt218 => (if bt211.2 = 0 then (if (bt211.1.length : Int) = 1 then (if 0 < (bt211.1.length : Int) then (if ((rd_T44 bt211.1 0).f0) = 1 then (if ((rd_T44 bt211.1 0).f1) = 2 then (if ((rd_T44 bt211.1 0).f3) = 1 then ((hunk_Check.f k bt211.1).bind fun t225 => (if t225 = 0 then (if bt218.2 = 0 then (if (bt218.1.length : Int) = 2 then ((hunk_Join.f k bt211.1).bind fun t226 => (some ((t226.length : Int) == 2))) else (some false)) else (some false)) else (some false))) else (some false)) else (some false)) else (some false)) else (none)) else (some false)) else (some false)))) = some r := h
 clear h
 obtain ⟨y202, hy202⟩ : ∃ y_ : List (S66), y_ = (([(⟨(⟨#[97]⟩ : ByteArray), false⟩ : S66), (⟨(⟨#[98]⟩ : ByteArray), false⟩ : S66)] : List (S66))) := ⟨_, rfl⟩
 replace H : ((hunk_Build.f k (([(⟨1, y202⟩ : S47), (⟨2, (([(⟨(⟨#[99]⟩ : ByteArray), false⟩ : S66)] : List (S66)))⟩ : S47)] : List (S47))) 1).bind fun bt211 => ((hunk_Whole.f k bt211.1 (([(⟨(⟨#[97]⟩ : ByteArray), false⟩ : S66), (⟨(⟨#[98]⟩ : ByteArray), false⟩ : S66), (⟨(⟨#[99]⟩ : ByteArray), false⟩ : S66)] : List (S66)))).bind fun bt218 => (if bt211.2 = 0 then (if (bt211.1.length : Int) = 1 then (if 0 < (bt211.1.length : Int) then (if ((rd_T44 bt211.1 0).f0) = 1 then (if ((rd_T44 bt211.1 0).f1) = 2 then (if ((rd_T44 bt211.1 0).f3) = 1 then ((hunk_Check.f k bt211.1).bind fun t225 => (if t225 = 0 then (if bt218.2 = 0 then (if (bt218.1.length : Int) = 2 then ((hunk_Join.f k bt211.1).bind fun t226 => (some ((t226.length : Int) == 2))) else (some false)) else (some false)) else (some false))) else (some false)) else (some false)) else (some false)) else (none)) else (some false)) else (some false)))) = some r := by first | (rw [hy202]; with_reducible exact H) | (have H2_ := (Option.bind_some _ _).symm.trans H; rw [hy202]; with_reducible exact H2_) | (have H2_ := (Option.bind_some _ _).symm.trans H; with_reducible exact H2_) | with_reducible exact H | (rw [hy202]; exact H) | exact H
 have Ny202 := Aside0.mk hy202
 clear hy202
 obtain ⟨y205, hy205⟩ : ∃ y_ : List (S66), y_ = (([(⟨(⟨#[99]⟩ : ByteArray), false⟩ : S66)] : List (S66))) := ⟨_, rfl⟩
 replace H : ((hunk_Build.f k (([(⟨1, y202⟩ : S47), (⟨2, y205⟩ : S47)] : List (S47))) 1).bind fun bt211 => ((hunk_Whole.f k bt211.1 (([(⟨(⟨#[97]⟩ : ByteArray), false⟩ : S66), (⟨(⟨#[98]⟩ : ByteArray), false⟩ : S66), (⟨(⟨#[99]⟩ : ByteArray), false⟩ : S66)] : List (S66)))).bind fun bt218 => (if bt211.2 = 0 then (if (bt211.1.length : Int) = 1 then (if 0 < (bt211.1.length : Int) then (if ((rd_T44 bt211.1 0).f0) = 1 then (if ((rd_T44 bt211.1 0).f1) = 2 then (if ((rd_T44 bt211.1 0).f3) = 1 then ((hunk_Check.f k bt211.1).bind fun t225 => (if t225 = 0 then (if bt218.2 = 0 then (if (bt218.1.length : Int) = 2 then ((hunk_Join.f k bt211.1).bind fun t226 => (some ((t226.length : Int) == 2))) else (some false)) else (some false)) else (some false))) else (some false)) else (some false)) else (some false)) else (none)) else (some false)) else (some false)))) = some r := by first | (rw [hy205]; with_reducible exact H) | (have H2_ := (Option.bind_some _ _).symm.trans H; rw [hy205]; with_reducible exact H2_) | (have H2_ := (Option.bind_some _ _).symm.trans H; with_reducible exact H2_) | with_reducible exact H | (rw [hy205]; exact H) | exact H
 have Ny205 := Aside0.mk hy205
 clear hy205
 obtain ⟨y208, hy208⟩ : ∃ y_ : List (S47), y_ = (([(⟨1, y202⟩ : S47), (⟨2, y205⟩ : S47)] : List (S47))) := ⟨_, rfl⟩
 replace H : ((hunk_Build.f k y208 1).bind fun bt211 => ((hunk_Whole.f k bt211.1 (([(⟨(⟨#[97]⟩ : ByteArray), false⟩ : S66), (⟨(⟨#[98]⟩ : ByteArray), false⟩ : S66), (⟨(⟨#[99]⟩ : ByteArray), false⟩ : S66)] : List (S66)))).bind fun bt218 => (if bt211.2 = 0 then (if (bt211.1.length : Int) = 1 then (if 0 < (bt211.1.length : Int) then (if ((rd_T44 bt211.1 0).f0) = 1 then (if ((rd_T44 bt211.1 0).f1) = 2 then (if ((rd_T44 bt211.1 0).f3) = 1 then ((hunk_Check.f k bt211.1).bind fun t225 => (if t225 = 0 then (if bt218.2 = 0 then (if (bt218.1.length : Int) = 2 then ((hunk_Join.f k bt211.1).bind fun t226 => (some ((t226.length : Int) == 2))) else (some false)) else (some false)) else (some false))) else (some false)) else (some false)) else (some false)) else (none)) else (some false)) else (some false)))) = some r := by first | (rw [hy208]; with_reducible exact H) | (have H2_ := (Option.bind_some _ _).symm.trans H; rw [hy208]; with_reducible exact H2_) | (have H2_ := (Option.bind_some _ _).symm.trans H; with_reducible exact H2_) | with_reducible exact H | (rw [hy208]; exact H) | exact H
 have Ny208 := Aside0.mk hy208
 clear hy208
 replace H := Option.bind_eq_some_iff.mp H
 obtain ⟨⟨t211, t212⟩, A10, H⟩ := H
 replace H : ((hunk_Whole.f k t211 (([(⟨(⟨#[97]⟩ : ByteArray), false⟩ : S66), (⟨(⟨#[98]⟩ : ByteArray), false⟩ : S66), (⟨(⟨#[99]⟩ : ByteArray), false⟩ : S66)] : List (S66)))).bind fun bt218 => (if t212 = 0 then (if (t211.length : Int) = 1 then (if 0 < (t211.length : Int) then (if ((rd_T44 t211 0).f0) = 1 then (if ((rd_T44 t211 0).f1) = 2 then (if ((rd_T44 t211 0).f3) = 1 then ((hunk_Check.f k t211).bind fun t225 => (if t225 = 0 then (if bt218.2 = 0 then (if (bt218.1.length : Int) = 2 then ((hunk_Join.f k t211).bind fun t226 => (some ((t226.length : Int) == 2))) else (some false)) else (some false)) else (some false))) else (some false)) else (some false)) else (some false)) else (none)) else (some false)) else (some false))) = some r := H
 have A1 := Aside0.mk A10
 clear A10
 obtain ⟨y215, hy215⟩ : ∃ y_ : List (S66), y_ = (([(⟨(⟨#[97]⟩ : ByteArray), false⟩ : S66), (⟨(⟨#[98]⟩ : ByteArray), false⟩ : S66), (⟨(⟨#[99]⟩ : ByteArray), false⟩ : S66)] : List (S66))) := ⟨_, rfl⟩
 replace H : ((hunk_Whole.f k t211 y215).bind fun bt218 => (if t212 = 0 then (if (t211.length : Int) = 1 then (if 0 < (t211.length : Int) then (if ((rd_T44 t211 0).f0) = 1 then (if ((rd_T44 t211 0).f1) = 2 then (if ((rd_T44 t211 0).f3) = 1 then ((hunk_Check.f k t211).bind fun t225 => (if t225 = 0 then (if bt218.2 = 0 then (if (bt218.1.length : Int) = 2 then ((hunk_Join.f k t211).bind fun t226 => (some ((t226.length : Int) == 2))) else (some false)) else (some false)) else (some false))) else (some false)) else (some false)) else (some false)) else (none)) else (some false)) else (some false))) = some r := by first | (rw [hy215]; with_reducible exact H) | (have H2_ := (Option.bind_some _ _).symm.trans H; rw [hy215]; with_reducible exact H2_) | (have H2_ := (Option.bind_some _ _).symm.trans H; with_reducible exact H2_) | with_reducible exact H | (rw [hy215]; exact H) | exact H
 have Ny215 := Aside0.mk hy215
 clear hy215
 replace H := Option.bind_eq_some_iff.mp H
 obtain ⟨⟨t218, t221⟩, A20, H⟩ := H
 replace H : (if t212 = 0 then (if (t211.length : Int) = 1 then (if 0 < (t211.length : Int) then (if ((rd_T44 t211 0).f0) = 1 then (if ((rd_T44 t211 0).f1) = 2 then (if ((rd_T44 t211 0).f3) = 1 then ((hunk_Check.f k t211).bind fun t225 => (if t225 = 0 then (if t221 = 0 then (if (t218.length : Int) = 2 then ((hunk_Join.f k t211).bind fun t226 => (some ((t226.length : Int) == 2))) else (some false)) else (some false)) else (some false))) else (some false)) else (some false)) else (some false)) else (none)) else (some false)) else (some false)) = some r := H
 have A2 := Aside0.mk A20
 clear A20
 by_cases c3 : t212 = 0
 ·rw [if_pos c3] at H
  have c3b0 : (t212 == 0) = true := beq_iff_eq.mpr c3
  have c3b1 : (t212 != 0) = false := bne_eq_false_iff_eq.mpr c3
  clear c3
  by_cases c4 : (t211.length : Int) = 1
  ·rw [if_pos c4] at H
   have c4b0 : ((t211.length : Int) == 1) = true := beq_iff_eq.mpr c4
   have c4b1 : ((t211.length : Int) != 1) = false := bne_eq_false_iff_eq.mpr c4
   clear c4
   by_cases c5 : 0 < (t211.length : Int)
   ·rw [if_pos c5] at H
    have c5b0 : decide (0 < (t211.length : Int)) = true := decide_eq_true c5
    have c5b1 : decide (0 < t211.length) = true := decide_eq_true (by omega)
    clear c5
    by_cases c6 : ((rd_T44 t211 0).f0) = 1
    ·rw [if_pos c6] at H
     have c6b0 : (((rd_T44 t211 0).f0) == 1) = true := beq_iff_eq.mpr c6
     have c6b1 : (((rd_T44 t211 0).f0) != 1) = false := bne_eq_false_iff_eq.mpr c6
     clear c6
     by_cases c7 : ((rd_T44 t211 0).f1) = 2
     ·rw [if_pos c7] at H
      have c7b0 : (((rd_T44 t211 0).f1) == 2) = true := beq_iff_eq.mpr c7
      have c7b1 : (((rd_T44 t211 0).f1) != 2) = false := bne_eq_false_iff_eq.mpr c7
      clear c7
      by_cases c8 : ((rd_T44 t211 0).f3) = 1
      ·rw [if_pos c8] at H
       have c8b0 : (((rd_T44 t211 0).f3) == 1) = true := beq_iff_eq.mpr c8
       have c8b1 : (((rd_T44 t211 0).f3) != 1) = false := bne_eq_false_iff_eq.mpr c8
       clear c8
       replace H := Option.bind_eq_some_iff.mp H
       obtain ⟨t225, A90, H⟩ := H
       replace H : (if t225 = 0 then (if t221 = 0 then (if (t218.length : Int) = 2 then ((hunk_Join.f k t211).bind fun t226 => (some ((t226.length : Int) == 2))) else (some false)) else (some false)) else (some false)) = some r := H
       have A9 := Aside0.mk A90
       clear A90
       by_cases c10 : t225 = 0
       ·rw [if_pos c10] at H
        have c10b0 : (t225 == 0) = true := beq_iff_eq.mpr c10
        have c10b1 : (t225 != 0) = false := bne_eq_false_iff_eq.mpr c10
        clear c10
        by_cases c11 : t221 = 0
        ·rw [if_pos c11] at H
         have c11b0 : (t221 == 0) = true := beq_iff_eq.mpr c11
         have c11b1 : (t221 != 0) = false := bne_eq_false_iff_eq.mpr c11
         clear c11
         by_cases c12 : (t218.length : Int) = 2
         ·rw [if_pos c12] at H
          have c12b0 : ((t218.length : Int) == 2) = true := beq_iff_eq.mpr c12
          have c12b1 : ((t218.length : Int) != 2) = false := bne_eq_false_iff_eq.mpr c12
          clear c12
          replace H := Option.bind_eq_some_iff.mp H
          obtain ⟨t226, A130, H⟩ := H
          replace H : (some ((t226.length : Int) == 2)) = some r := H
          have A13 := Aside0.mk A130
          clear A130
          obtain rfl := Option.some.inj H
          go_enter Try.func14, Try.ntmps14
          go_wp2_with (first | ((with_reducible refine gate_dst (N := 8) rfl ?_); (try (refine gate_guard (by rfl) ?_; dsimp only)); refine Kd.R_lit k66 _ 66 ?hg (N := 8) ?hd (xs := ([(⟨(⟨#[97]⟩ : ByteArray), false⟩ : S66), (⟨(⟨#[98]⟩ : ByteArray), false⟩ : S66)] : List (S66))) (inner := [.string (⟨#[97]⟩ : ByteArray), .bool false, .string (⟨#[98]⟩ : ByteArray), .bool false]) (ok := fun _ => True) (okp := fun _ => True) ?hr ?hp (fun _ hk => hk) trivial (Below.refl _ _) (Nat.le_refl _) (by simp) ?_; (case hd => rfl); (case hg => rfl); (case hr => first | (go_simp; done) | (go_simp; rfl)); (case hp => exact (Reps.c2 (show Kd.M k66 _ _ _ (⟨(⟨#[97]⟩ : ByteArray), false⟩ : S66) [.string (⟨#[97]⟩ : ByteArray), .bool false] from (k66_mkM _ _ _ (⟨(⟨#[97]⟩ : ByteArray), false⟩ : S66) )) (Reps.c2 (show Kd.M k66 _ _ _ (⟨(⟨#[98]⟩ : ByteArray), false⟩ : S66) [.string (⟨#[98]⟩ : ByteArray), .bool false] from (k66_mkM _ _ _ (⟨(⟨#[98]⟩ : ByteArray), false⟩ : S66) )) (Reps.none _ _)))); intro v203 w14 ho15 hb hg_ hnew_; clear hg_ hnew_; (first | rw [← Ny202.out] at ho15 | (simp only [Int.reduceToNat] at ho15; rw [← Ny202.out] at ho15)); have n0_ := Aside0.mk (Kd.R_lower ho15 (below_size (by repeat (first | (with_reducible first | exact HB.out | apply below_alloc | apply pw_below_drewN | apply below_drew1) | exact HB.out)))); have n1_ := Aside0.mk (below_step (by repeat (first | (with_reducible first | exact HB.out | apply below_alloc | apply pw_below_drewN | apply below_drew1) | exact HB.out)) hb); clear HB; have HO204 := n0_; have HB := n1_; clear n0_ n1_; clear hb ho15; obtain ⟨Ao16, co16, eo16⟩ := Kd.R_slice HO204.out; subst eo16) | ((with_reducible refine gate_dst (N := 11) rfl ?_); (try (refine gate_guard (by rfl) ?_; dsimp only)); refine Kd.R_lit k66 _ 66 ?hg (N := 11) ?hd (xs := ([(⟨(⟨#[99]⟩ : ByteArray), false⟩ : S66)] : List (S66))) (inner := [.string (⟨#[99]⟩ : ByteArray), .bool false]) (ok := fun _ => True) (okp := fun _ => True) ?hr ?hp (fun _ hk => hk) trivial (Below.refl _ _) (Nat.le_refl _) (by simp) ?_; (case hd => rfl); (case hg => rfl); (case hr => first | (go_simp; done) | (go_simp; rfl)); (case hp => exact (Reps.c2 (show Kd.M k66 _ _ _ (⟨(⟨#[99]⟩ : ByteArray), false⟩ : S66) [.string (⟨#[99]⟩ : ByteArray), .bool false] from (k66_mkM _ _ _ (⟨(⟨#[99]⟩ : ByteArray), false⟩ : S66) )) (Reps.none _ _))); intro v206 w17 ho18 hb hg_ hnew_; clear hg_ hnew_; (first | rw [← Ny205.out] at ho18 | (simp only [Int.reduceToNat] at ho18; rw [← Ny205.out] at ho18)); have n0_ := Aside0.mk (Kd.R_elder' (by (with_reducible repeat first|apply zr1|apply zr2|apply zr3); exact HO204.out) (Kd.R_base ho18) hb); have n1_ := Aside0.mk (Kd.R_lower (Kd.R_new' ho18 (Kd.R_lt (by (with_reducible repeat first|apply zr1|apply zr2|apply zr3); exact HO204.out))) (below_size (by repeat (first | (with_reducible first | exact HB.out | apply below_alloc | apply pw_below_drewN | apply below_drew1) | exact HB.out)))); have n2_ := Aside0.mk (below_step (by repeat (first | (with_reducible first | exact HB.out | apply below_alloc | apply pw_below_drewN | apply below_drew1) | exact HB.out)) hb); clear HO204; clear HB; have HO204 := n0_; have HO207 := n1_; have HB := n2_; clear n0_ n1_ n2_; clear hb ho18; obtain ⟨Ao19, co19, eo19⟩ := Kd.R_slice HO207.out; subst eo19) | ((with_reducible refine gate_dst (N := 13) rfl ?_); (try (refine gate_guard (by rfl) ?_; dsimp only)); refine Kd.N_lit k47 _ 47 ?hg (N' := 13) ?hd (xs := ([(⟨1, y202⟩ : S47), (⟨2, y205⟩ : S47)] : List (S47))) (inner := [.int .i64 1, .slice Ao16 y202.length co16, .int .i64 2, .slice Ao19 y205.length co19]) (ok := (fun _ => True)) (okp := (fun _ => True)) ?hr ?hp (fun _ hk => hk) ((show ∀ k_, w17.heap.size ≤ k_ → (fun _ => True) k_ from fun k_ hk => trivial) _ (Nat.le_refl _)) (Below.refl _ _) (Nat.le_refl _) (by simp) ?_; (case hd => rfl); (case hg => rfl); (case hr => first | (go_simp; done) | (go_simp; rfl)); (case hp => exact (Reps.c2 (show Kd.FK k47 _ _ (⟨1, y202⟩ : S47) [.int .i64 1, .slice Ao16 y202.length co16] from (k47_mkF _ _ (⟨1, y202⟩ : S47) (Kd.R_reads' (Kd.R_mono (ok' := (fun _ => True)) (HO204.out) (fun k_ hk => trivial))).2.1 (Kd.R_F (Kd.R_mono (ok' := (fun _ => True)) (HO204.out) (fun k_ hk => trivial))))) (Reps.c2 (show Kd.FK k47 _ _ (⟨2, y205⟩ : S47) [.int .i64 2, .slice Ao19 y205.length co19] from (k47_mkF _ _ (⟨2, y205⟩ : S47) (Kd.R_reads' (Kd.R_mono (ok' := (fun _ => True)) (HO207.out) (fun k_ hk => trivial))).2.1 (Kd.R_F (Kd.R_mono (ok' := (fun _ => True)) (HO207.out) (fun k_ hk => trivial))))) (Reps.none _ _)))); intro v209 w20 ho21 hb hg_ hnew_; clear hg_ hnew_; (first | rw [← Ny208.out] at ho21 | (simp only [Int.reduceToNat] at ho21; rw [← Ny208.out] at ho21)); have n0_ := Aside0.mk (Kd.N_lower ho21 (below_size (by repeat (first | (with_reducible first | exact HB.out | apply below_alloc | apply pw_below_drewN | apply below_drew1) | exact HB.out)))); have n1_ := Aside0.mk (below_step (by repeat (first | (with_reducible first | exact HB.out | apply below_alloc | apply pw_below_drewN | apply below_drew1) | exact HB.out)) hb); clear HB; clear HO204; clear HO207; have HO210 := n0_; have HB := n1_; clear n0_ n1_; clear hb ho21; obtain ⟨Ao22, co22, eo22⟩ := Kd.N_slice HO210.out; subst eo22) | ((with_reducible refine gate_callee (f := 15) rfl ?_); refine goesL_ (some 14) rfl rfl Try.func15 (by kernel_rfl) rfl #[.slice Ao22 y208.length co22, .int .i64 1] rfl (by (try simp only [List.map_toArray, List.map_cons, List.map_nil]); first | done | rfl | (simp only [List.length_drop, List.length_take]; rfl)) ?_; (with_reducible refine (hunk_Build.calls k _ _ y208 1 t211 t212 _ ?side1 ?side2 A1.out).mono ?_); (case side1 => repeat (first | exact (Kd.N_reads' HO210.out).2.2 | (with_reducible refine Kd.C_alloc ?_ _) | (with_reducible refine Kd.C_drewN ?_ _) | (with_reducible refine Kd.C_drew ?_))); (case side2 => exact (Kd.N_reads' HO210.out).2.1); rintro e w23 ⟨v213, rfl, ho0, hb⟩; refine ⟨_, rfl, ?_⟩; have n0_ := Aside0.mk (Kd.N_elder' (by (with_reducible repeat (first | apply Kd.N_alloc | apply Kd.N_drewN | apply Kd.N_drew)); exact HO210.out) (by first | exact Kd.S_base ho0 | exact Kd.R_base ho0 | exact Kd.N_base ho0) hb); have n1_ := Aside0.mk (Kd.N_lower (Kd.N_mono (ok' := fun k_ => some k_ ≠ (.slice Ao22 y208.length co22 : Value).ownBlock) (Kd.R_N (Kd.R_bound ho0)) (fun k_ hk_ => (Kd.fresh' (Kd.N_lt (by (with_reducible repeat (first | apply Kd.N_alloc | apply Kd.N_drewN | apply Kd.N_drew)); exact HO210.out)) k_ hk_.2.1))) (below_size (by repeat (first | (with_reducible first | exact HB.out | apply below_alloc | apply pw_below_drewN | apply below_drew1) | exact HB.out)))); have n2_ := Aside0.mk (below_step (by repeat (first | (with_reducible first | exact HB.out | apply below_alloc | apply pw_below_drewN | apply below_drew1) | exact HB.out)) hb); clear HO210; clear HB; have HO210 := n0_; have HO214 := n1_; have HB := n2_; clear n0_ n1_ n2_; (try clear hb); (try clear hb2); (try clear hk); (try clear hi); (try clear ho0)) | ((with_reducible refine gate_dst (N := 22) rfl ?_); (try (refine gate_guard (by rfl) ?_; dsimp only)); refine Kd.R_lit k66 _ 66 ?hg (N := 22) ?hd (xs := ([(⟨(⟨#[97]⟩ : ByteArray), false⟩ : S66), (⟨(⟨#[98]⟩ : ByteArray), false⟩ : S66), (⟨(⟨#[99]⟩ : ByteArray), false⟩ : S66)] : List (S66))) (inner := [.string (⟨#[97]⟩ : ByteArray), .bool false, .string (⟨#[98]⟩ : ByteArray), .bool false, .string (⟨#[99]⟩ : ByteArray), .bool false]) (ok := fun _ => True) (okp := fun _ => True) ?hr ?hp (fun _ hk => hk) trivial (Below.refl _ _) (Nat.le_refl _) (by simp) ?_; (case hd => rfl); (case hg => rfl); (case hr => first | (go_simp; done) | (go_simp; rfl)); (case hp => exact (Reps.c2 (show Kd.M k66 _ _ _ (⟨(⟨#[97]⟩ : ByteArray), false⟩ : S66) [.string (⟨#[97]⟩ : ByteArray), .bool false] from (k66_mkM _ _ _ (⟨(⟨#[97]⟩ : ByteArray), false⟩ : S66) )) (Reps.c2 (show Kd.M k66 _ _ _ (⟨(⟨#[98]⟩ : ByteArray), false⟩ : S66) [.string (⟨#[98]⟩ : ByteArray), .bool false] from (k66_mkM _ _ _ (⟨(⟨#[98]⟩ : ByteArray), false⟩ : S66) )) (Reps.c2 (show Kd.M k66 _ _ _ (⟨(⟨#[99]⟩ : ByteArray), false⟩ : S66) [.string (⟨#[99]⟩ : ByteArray), .bool false] from (k66_mkM _ _ _ (⟨(⟨#[99]⟩ : ByteArray), false⟩ : S66) )) (Reps.none _ _))))); intro v216 w24 ho25 hb hg_ hnew_; clear hg_ hnew_; (first | rw [← Ny215.out] at ho25 | (simp only [Int.reduceToNat] at ho25; rw [← Ny215.out] at ho25)); have n0_ := Aside0.mk (Kd.N_elder' (by (with_reducible repeat (first | apply Kd.N_alloc | apply Kd.N_drewN | apply Kd.N_drew)); exact HO210.out) (Kd.R_base ho25) hb); have n1_ := Aside0.mk (Kd.N_elder' (by (with_reducible repeat (first | apply Kd.N_alloc | apply Kd.N_drewN | apply Kd.N_drew)); exact HO214.out) (Kd.R_base ho25) hb); have n2_ := Aside0.mk (Kd.R_lower ho25 (below_size (by repeat (first | (with_reducible first | exact HB.out | apply below_alloc | apply pw_below_drewN | apply below_drew1) | exact HB.out)))); have n3_ := Aside0.mk (below_step (by repeat (first | (with_reducible first | exact HB.out | apply below_alloc | apply pw_below_drewN | apply below_drew1) | exact HB.out)) hb); clear HO210; clear HO214; clear HB; have HO210 := n0_; have HO214 := n1_; have HO217 := n2_; have HB := n3_; clear n0_ n1_ n2_ n3_; clear hb ho25; obtain ⟨Ao26, co26, eo26⟩ := Kd.N_slice HO214.out; subst eo26; obtain ⟨Ao27, co27, eo27⟩ := Kd.R_slice HO217.out; subst eo27) | ((with_reducible refine gate_callee (f := 25) rfl ?_); refine goesL_ (some 23) rfl rfl Try.func25 (by kernel_rfl) rfl #[.slice Ao26 t211.length co26, .slice Ao27 y215.length co27] rfl (by (try simp only [List.map_toArray, List.map_cons, List.map_nil]); first | done | rfl | (simp only [List.length_drop, List.length_take]; rfl)) ?_; (with_reducible refine (hunk_Whole.calls k (fun k_ => (some k_ ≠ (.slice Ao22 y208.length co22 : Value).ownBlock ∧ some k_ ≠ (.slice Ao27 y215.length co27 : Value).ownBlock)) _ _ t211 (fun k_ => some k_ = (.slice Ao27 y215.length co27 : Value).ownBlock) _ _ y215 t218 t221 _ ?side1 ?side2 A2.out).mono ?_); (case side1 => exact Kd.N_V (HO214.out)); (case side2 => exact Kd.R_V (Kd.R_tight rfl (Kd.R_apart' (Kd.R_apart' (HO217.out) (Kd.N_typed HO210.out) (by decide)) (Kd.N_typed HO214.out) (by decide)))); rintro e w28 ⟨v219, rfl, ho0, hb⟩; refine ⟨_, rfl, ?_⟩; have n0_ := Aside0.mk (Kd.N_elder' (by (with_reducible repeat (first | apply Kd.N_alloc | apply Kd.N_drewN | apply Kd.N_drew)); exact HO210.out) (by first | exact Kd.S_base ho0 | exact Kd.R_base ho0 | exact Kd.N_base ho0) hb); have n1_ := Aside0.mk (Kd.N_elder' (by (with_reducible repeat (first | apply Kd.N_alloc | apply Kd.N_drewN | apply Kd.N_drew)); exact HO214.out) (by first | exact Kd.S_base ho0 | exact Kd.R_base ho0 | exact Kd.N_base ho0) hb); have n2_ := Aside0.mk (Kd.R_below (by (with_reducible repeat first|apply zr1|apply zr2|apply zr3); exact HO217.out) hb); have n3_ := Aside0.mk (Kd.N_lower (Kd.N_mono (ok' := fun k_ => some k_ ≠ (.slice Ao22 y208.length co22 : Value).ownBlock) ho0 (fun k_ hk_ => Or.elim hk_ (fun hs_ => Or.elim hs_ (fun hs_ => hs_.1) (fun hs_ => ((Kd.R_apart' (Kd.R_apart' (HO217.out) (Kd.N_typed HO210.out) (by decide)) (Kd.N_typed HO214.out) (by decide)).1 k_ hs_.symm).1.2)) (fun hn_ => (Kd.fresh' (Kd.N_lt (by (with_reducible repeat (first | apply Kd.N_alloc | apply Kd.N_drewN | apply Kd.N_drew)); exact HO210.out)) k_ hn_)))) (below_size (by repeat (first | (with_reducible first | exact HB.out | apply below_alloc | apply pw_below_drewN | apply below_drew1) | exact HB.out)))); have n4_ := Aside0.mk (below_step (by repeat (first | (with_reducible first | exact HB.out | apply below_alloc | apply pw_below_drewN | apply below_drew1) | exact HB.out)) hb); clear HO210; clear HO214; clear HO217; clear HB; have HO210 := n0_; have HO214 := n1_; have HO217 := n2_; have HO220 := n3_; have HB := n4_; clear n0_ n1_ n2_ n3_ n4_; (try clear hb); (try clear hb2); (try clear hk); (try clear hi); (try clear ho0); have p222 : 0 ≤ (0 : Int) := (by omega); have q222 : 0 < (t211.length : Int) := of_decide_eq_true (by first | (with_reducible assumption) | assumption); obtain ⟨ad222, A222_4, c222_4, e222, hx222_0, hx222_1, hx222_2, hx222_3, hx222_4, hl222_4, hi222_4⟩ := at_T44 (Kd.N_reads' HO214.out).2.2 0 p222 q222; cases e222; obtain ⟨ce222, hce222, hMe222, hcc222⟩ := Kd.N_get HO214.out z44 0 p222 (by first | exact q222 | exact of_decide_eq_true (by first | (with_reducible assumption) | assumption) | (have e_ := (Kd.N_reads' HO214.out).1; omega)); obtain ⟨ua222_4, uc222_4, rfl, ul222_4, ge222_4⟩ := k44_openF hMe222; have hv222_4 := hcc222 4 _ rfl; rw [add_field _ _ 4 (by omega)] at hv222_4; replace hv222_4 := Option.some.inj (hv222_4.symm.trans hx222_4); injection hv222_4 with hva_ hvn_ hvc_; rw [hva_] at ge222_4; rw [hvc_] at ul222_4; have HL222_4 := Aside0.mk (show Kd.V k47 47 _ w.heap.size _ _ ((rd_T44 t211 0).f4) from Kd.V_mk ul222_4 ge222_4); clear hva_ hvn_ hvc_ ge222_4 ul222_4; clear hcc222 hce222; have qi222 : (0 < t211.length) = True := eq_true (by omega); (try rw [show ((0 : Int)).toNat = 0 from rfl] at hx222_0); (try rw [show 0 * 5 = 0 from rfl] at hx222_0); (try rw [Addr.add_zero'] at hx222_0); (try rw [show ((0 : Int)).toNat = 0 from rfl] at hx222_1); (try rw [show 0 * 5 = 0 from rfl] at hx222_1); (try rw [Addr.add_zero'] at hx222_1); (try rw [show ((0 : Int)).toNat = 0 from rfl] at hx222_2); (try rw [show 0 * 5 = 0 from rfl] at hx222_2); (try rw [Addr.add_zero'] at hx222_2); (try rw [show ((0 : Int)).toNat = 0 from rfl] at hx222_3); (try rw [show 0 * 5 = 0 from rfl] at hx222_3); (try rw [Addr.add_zero'] at hx222_3); (try rw [show ((0 : Int)).toNat = 0 from rfl] at hx222_4); (try rw [show 0 * 5 = 0 from rfl] at hx222_4); (try rw [Addr.add_zero'] at hx222_4); have HR222_4 := Aside0.mk hi222_4; have HC222_4 := Aside0.mk hl222_4; clear hi222_4 hl222_4; replace p222 := eq_true p222; replace q222 := eq_true q222; have p223 : 0 ≤ (0 : Int) := (by omega); have q223 : 0 < (t211.length : Int) := of_decide_eq_true (by first | (with_reducible assumption) | assumption); obtain ⟨ad223, A223_4, c223_4, e223, hx223_0, hx223_1, hx223_2, hx223_3, hx223_4, hl223_4, hi223_4⟩ := at_T44 (Kd.N_reads' HO214.out).2.2 0 p223 q223; obtain rfl : ad222 = ad223 := (by injection e223); obtain ⟨ce223, hce223, hMe223, hcc223⟩ := Kd.N_get HO214.out z44 0 p223 (by first | exact q223 | exact of_decide_eq_true (by first | (with_reducible assumption) | assumption) | (have e_ := (Kd.N_reads' HO214.out).1; omega)); obtain ⟨ua223_4, uc223_4, rfl, ul223_4, ge223_4⟩ := k44_openF hMe223; have hv223_4 := hcc223 4 _ rfl; rw [add_field _ _ 4 (by omega)] at hv223_4; replace hv223_4 := Option.some.inj (hv223_4.symm.trans hx223_4); injection hv223_4 with hva_ hvn_ hvc_; rw [hva_] at ge223_4; rw [hvc_] at ul223_4; have HL223_4 := Aside0.mk (show Kd.V k47 47 _ w.heap.size _ _ ((rd_T44 t211 0).f4) from Kd.V_mk ul223_4 ge223_4); clear hva_ hvn_ hvc_ ge223_4 ul223_4; clear hcc223 hce223; have qi223 : (0 < t211.length) = True := eq_true (by omega); (try rw [show ((0 : Int)).toNat = 0 from rfl] at hx223_0); (try rw [show 0 * 5 = 0 from rfl] at hx223_0); (try rw [Addr.add_zero'] at hx223_0); (try rw [show ((0 : Int)).toNat = 0 from rfl] at hx223_1); (try rw [show 0 * 5 = 0 from rfl] at hx223_1); (try rw [Addr.add_zero'] at hx223_1); (try rw [show ((0 : Int)).toNat = 0 from rfl] at hx223_2); (try rw [show 0 * 5 = 0 from rfl] at hx223_2); (try rw [Addr.add_zero'] at hx223_2); (try rw [show ((0 : Int)).toNat = 0 from rfl] at hx223_3); (try rw [show 0 * 5 = 0 from rfl] at hx223_3); (try rw [Addr.add_zero'] at hx223_3); (try rw [show ((0 : Int)).toNat = 0 from rfl] at hx223_4); (try rw [show 0 * 5 = 0 from rfl] at hx223_4); (try rw [Addr.add_zero'] at hx223_4); have HR223_4 := Aside0.mk hi223_4; have HC223_4 := Aside0.mk hl223_4; clear hi223_4 hl223_4; replace p223 := eq_true p223; replace q223 := eq_true q223; have ea_ := Option.some.inj (hx222_4.symm.trans hx223_4); injection ea_ with ea_ en_ ec_; subst ea_; subst ec_; clear en_; have p224 : 0 ≤ (0 : Int) := (by omega); have q224 : 0 < (t211.length : Int) := of_decide_eq_true (by first | (with_reducible assumption) | assumption); obtain ⟨ad224, A224_4, c224_4, e224, hx224_0, hx224_1, hx224_2, hx224_3, hx224_4, hl224_4, hi224_4⟩ := at_T44 (Kd.N_reads' HO214.out).2.2 0 p224 q224; obtain rfl : ad222 = ad224 := (by injection e224); obtain ⟨ce224, hce224, hMe224, hcc224⟩ := Kd.N_get HO214.out z44 0 p224 (by first | exact q224 | exact of_decide_eq_true (by first | (with_reducible assumption) | assumption) | (have e_ := (Kd.N_reads' HO214.out).1; omega)); obtain ⟨ua224_4, uc224_4, rfl, ul224_4, ge224_4⟩ := k44_openF hMe224; have hv224_4 := hcc224 4 _ rfl; rw [add_field _ _ 4 (by omega)] at hv224_4; replace hv224_4 := Option.some.inj (hv224_4.symm.trans hx224_4); injection hv224_4 with hva_ hvn_ hvc_; rw [hva_] at ge224_4; rw [hvc_] at ul224_4; have HL224_4 := Aside0.mk (show Kd.V k47 47 _ w.heap.size _ _ ((rd_T44 t211 0).f4) from Kd.V_mk ul224_4 ge224_4); clear hva_ hvn_ hvc_ ge224_4 ul224_4; clear hcc224 hce224; have qi224 : (0 < t211.length) = True := eq_true (by omega); (try rw [show ((0 : Int)).toNat = 0 from rfl] at hx224_0); (try rw [show 0 * 5 = 0 from rfl] at hx224_0); (try rw [Addr.add_zero'] at hx224_0); (try rw [show ((0 : Int)).toNat = 0 from rfl] at hx224_1); (try rw [show 0 * 5 = 0 from rfl] at hx224_1); (try rw [Addr.add_zero'] at hx224_1); (try rw [show ((0 : Int)).toNat = 0 from rfl] at hx224_2); (try rw [show 0 * 5 = 0 from rfl] at hx224_2); (try rw [Addr.add_zero'] at hx224_2); (try rw [show ((0 : Int)).toNat = 0 from rfl] at hx224_3); (try rw [show 0 * 5 = 0 from rfl] at hx224_3); (try rw [Addr.add_zero'] at hx224_3); (try rw [show ((0 : Int)).toNat = 0 from rfl] at hx224_4); (try rw [show 0 * 5 = 0 from rfl] at hx224_4); (try rw [Addr.add_zero'] at hx224_4); have HR224_4 := Aside0.mk hi224_4; have HC224_4 := Aside0.mk hl224_4; clear hi224_4 hl224_4; replace p224 := eq_true p224; replace q224 := eq_true q224; have ea_ := Option.some.inj (hx222_4.symm.trans hx224_4); injection ea_ with ea_ en_ ec_; subst ea_; subst ec_; clear en_) | (go_at_call 18; (with_reducible refine (hunk_Check.calls k _ _ t211 t225 _ ?side1 ?side2 A9.out).mono ?_); (case side1 => repeat (first | exact (Kd.N_reads' HO214.out).2.2 | (with_reducible refine Kd.C_alloc ?_ _) | (with_reducible refine Kd.C_drewN ?_ _) | (with_reducible refine Kd.C_drew ?_))); (case side2 => exact (Kd.N_reads' HO214.out).2.1); rintro e w29 ⟨rfl, hb⟩; have n0_ := Aside0.mk (Kd.N_below (by (with_reducible repeat (first | apply Kd.N_alloc | apply Kd.N_drewN | apply Kd.N_drew)); exact HO210.out) hb); have n1_ := Aside0.mk (Kd.N_below (by (with_reducible repeat (first | apply Kd.N_alloc | apply Kd.N_drewN | apply Kd.N_drew)); exact HO214.out) hb); have n2_ := Aside0.mk (Kd.R_below (by (with_reducible repeat first|apply zr1|apply zr2|apply zr3); exact HO217.out) hb); have n3_ := Aside0.mk (Kd.N_below (by (with_reducible repeat (first | apply Kd.N_alloc | apply Kd.N_drewN | apply Kd.N_drew)); exact HO220.out) hb); have n4_ := Aside0.mk (Kd.V_below (by (with_reducible repeat (first | apply Kd.V_alloc | apply Kd.V_drewN | apply Kd.V_drew)); exact HL222_4.out) hb); have n5_ := Aside0.mk (Kd.V_below (by (with_reducible repeat (first | apply Kd.V_alloc | apply Kd.V_drewN | apply Kd.V_drew)); exact HL223_4.out) hb); have n6_ := Aside0.mk (Kd.V_below (by (with_reducible repeat (first | apply Kd.V_alloc | apply Kd.V_drewN | apply Kd.V_drew)); exact HL224_4.out) hb); have n7_ := Aside0.mk (Kd.C_below (by repeat (first | (with_reducible exact HR222_4.out) | (with_reducible refine Kd.C_alloc ?_ _) | (with_reducible refine Kd.C_drewN ?_ _) | (with_reducible refine Kd.C_drew ?_) | exact HR222_4.out)) hb); have n8_ := Aside0.mk (Kd.C_below (by repeat (first | (with_reducible exact HR223_4.out) | (with_reducible refine Kd.C_alloc ?_ _) | (with_reducible refine Kd.C_drewN ?_ _) | (with_reducible refine Kd.C_drew ?_) | exact HR223_4.out)) hb); have n9_ := Aside0.mk (Kd.C_below (by repeat (first | (with_reducible exact HR224_4.out) | (with_reducible refine Kd.C_alloc ?_ _) | (with_reducible refine Kd.C_drewN ?_ _) | (with_reducible refine Kd.C_drew ?_) | exact HR224_4.out)) hb); have n10_ := Aside0.mk (below_step (by repeat (first | (with_reducible first | exact HB.out | apply below_alloc | apply pw_below_drewN | apply below_drew1) | exact HB.out)) hb); clear HO210; clear HO214; clear HO217; clear HO220; clear HL222_4; clear HL223_4; clear HL224_4; clear HR222_4; clear HR223_4; clear HR224_4; clear HB; have HO210 := n0_; have HO214 := n1_; have HO217 := n2_; have HO220 := n3_; have HL222_4 := n4_; have HL223_4 := n5_; have HL224_4 := n6_; have HR222_4 := n7_; have HR223_4 := n8_; have HR224_4 := n9_; have HB := n10_; clear n0_ n1_ n2_ n3_ n4_ n5_ n6_ n7_ n8_ n9_ n10_; (try clear hb); (try clear hb2); (try clear hk); (try clear hi); obtain ⟨Ao30, co30, eo30⟩ := Kd.N_slice HO220.out; subst eo30) | (go_at_call 21; (with_reducible refine (hunk_Join.calls k _ _ t211 t226 _ ?side1 ?side2 A13.out).mono ?_); (case side1 => repeat (first | exact (Kd.N_reads' HO214.out).2.2 | (with_reducible refine Kd.C_alloc ?_ _) | (with_reducible refine Kd.C_drewN ?_ _) | (with_reducible refine Kd.C_drew ?_))); (case side2 => exact (Kd.N_reads' HO214.out).2.1); rintro e w31 ⟨v227, rfl, ho0, hb⟩; have n0_ := Aside0.mk (Kd.N_elder' (by (with_reducible repeat (first | apply Kd.N_alloc | apply Kd.N_drewN | apply Kd.N_drew)); exact HO210.out) (by first | exact Kd.S_base ho0 | exact Kd.R_base ho0 | exact Kd.N_base ho0) hb); have n1_ := Aside0.mk (Kd.N_elder' (by (with_reducible repeat (first | apply Kd.N_alloc | apply Kd.N_drewN | apply Kd.N_drew)); exact HO214.out) (by first | exact Kd.S_base ho0 | exact Kd.R_base ho0 | exact Kd.N_base ho0) hb); have n2_ := Aside0.mk (Kd.R_below (by (with_reducible repeat first|apply zr1|apply zr2|apply zr3); exact HO217.out) hb); have n3_ := Aside0.mk (Kd.N_elder' (by (with_reducible repeat (first | apply Kd.N_alloc | apply Kd.N_drewN | apply Kd.N_drew)); exact HO220.out) (by first | exact Kd.S_base ho0 | exact Kd.R_base ho0 | exact Kd.N_base ho0) hb); have n4_ := Aside0.mk (Kd.V_elder' (by (with_reducible repeat (first | apply Kd.V_alloc | apply Kd.V_drewN | apply Kd.V_drew)); exact HL222_4.out) (by first | exact Kd.S_base ho0 | exact Kd.R_base ho0 | exact Kd.N_base ho0) hb); have n5_ := Aside0.mk (Kd.V_elder' (by (with_reducible repeat (first | apply Kd.V_alloc | apply Kd.V_drewN | apply Kd.V_drew)); exact HL223_4.out) (by first | exact Kd.S_base ho0 | exact Kd.R_base ho0 | exact Kd.N_base ho0) hb); have n6_ := Aside0.mk (Kd.V_elder' (by (with_reducible repeat (first | apply Kd.V_alloc | apply Kd.V_drewN | apply Kd.V_drew)); exact HL224_4.out) (by first | exact Kd.S_base ho0 | exact Kd.R_base ho0 | exact Kd.N_base ho0) hb); have n7_ := Aside0.mk (Kd.N_lower (Kd.N_mono (ok' := fun k_ => some k_ ≠ (.slice Ao22 y208.length co22 : Value).ownBlock ∧ some k_ ≠ (.slice (some ad222) t211.length co26 : Value).ownBlock ∧ some k_ ≠ (.slice Ao27 y215.length co27 : Value).ownBlock ∧ some k_ ≠ (.slice Ao30 t218.length co30 : Value).ownBlock) (Kd.S_N (Kd.S_bound ho0)) (fun k_ hk_ => ⟨(Kd.fresh' (Kd.N_lt (by (with_reducible repeat (first | apply Kd.N_alloc | apply Kd.N_drewN | apply Kd.N_drew)); exact HO210.out)) k_ hk_.2.1), (Kd.fresh' (Kd.N_lt (by (with_reducible repeat (first | apply Kd.N_alloc | apply Kd.N_drewN | apply Kd.N_drew)); exact HO214.out)) k_ hk_.2.1), (Kd.fresh' (Kd.R_lt (by (with_reducible repeat first|apply zr1|apply zr2|apply zr3); exact HO217.out)) k_ hk_.2.1), (Kd.fresh' (Kd.N_lt (by (with_reducible repeat (first | apply Kd.N_alloc | apply Kd.N_drewN | apply Kd.N_drew)); exact HO220.out)) k_ hk_.2.1)⟩)) (below_size (by repeat (first | (with_reducible first | exact HB.out | apply below_alloc | apply pw_below_drewN | apply below_drew1) | exact HB.out)))); have n8_ := Aside0.mk (Kd.C_below (by repeat (first | (with_reducible exact HR222_4.out) | (with_reducible refine Kd.C_alloc ?_ _) | (with_reducible refine Kd.C_drewN ?_ _) | (with_reducible refine Kd.C_drew ?_) | exact HR222_4.out)) hb); have n9_ := Aside0.mk (Kd.C_below (by repeat (first | (with_reducible exact HR223_4.out) | (with_reducible refine Kd.C_alloc ?_ _) | (with_reducible refine Kd.C_drewN ?_ _) | (with_reducible refine Kd.C_drew ?_) | exact HR223_4.out)) hb); have n10_ := Aside0.mk (Kd.C_below (by repeat (first | (with_reducible exact HR224_4.out) | (with_reducible refine Kd.C_alloc ?_ _) | (with_reducible refine Kd.C_drewN ?_ _) | (with_reducible refine Kd.C_drew ?_) | exact HR224_4.out)) hb); have n11_ := Aside0.mk (below_step (by repeat (first | (with_reducible first | exact HB.out | apply below_alloc | apply pw_below_drewN | apply below_drew1) | exact HB.out)) hb); clear HO210; clear HO214; clear HO217; clear HO220; clear HL222_4; clear HL223_4; clear HL224_4; clear HR222_4; clear HR223_4; clear HR224_4; clear HB; have HO210 := n0_; have HO214 := n1_; have HO217 := n2_; have HO220 := n3_; have HL222_4 := n4_; have HL223_4 := n5_; have HL224_4 := n6_; have HO228 := n7_; have HR222_4 := n8_; have HR223_4 := n9_; have HR224_4 := n10_; have HB := n11_; clear n0_ n1_ n2_ n3_ n4_ n5_ n6_ n7_ n8_ n9_ n10_ n11_; (try clear hb); (try clear hb2); (try clear hk); (try clear hi); (try clear ho0); obtain ⟨Ao32, co32, eo32⟩ := Kd.N_slice HO228.out; subst eo32))
          go_ret
          exact ⟨by first | rfl | (simp [errW_none, errW_some] <;> rfl) | (simp [*, errW_none, errW_some] <;> rfl), by repeat (first | (with_reducible first | exact HB.out | apply below_alloc | apply pw_below_drewN | apply below_drew1) | exact HB.out)⟩
         ·rw [if_neg c12] at H
          have c12b0 : ((t218.length : Int) == 2) = false := beq_eq_false_iff_ne.mpr c12
          have c12b1 : ((t218.length : Int) != 2) = true := bne_iff_ne.mpr c12
          exact absurd (Option.some.inj (H.trans (congrArg some HRT.out))) (by decide)
        ·rw [if_neg c11] at H
         have c11b0 : (t221 == 0) = false := beq_eq_false_iff_ne.mpr c11
         have c11b1 : (t221 != 0) = true := bne_iff_ne.mpr c11
         exact absurd (Option.some.inj (H.trans (congrArg some HRT.out))) (by decide)
       ·rw [if_neg c10] at H
        have c10b0 : (t225 == 0) = false := beq_eq_false_iff_ne.mpr c10
        have c10b1 : (t225 != 0) = true := bne_iff_ne.mpr c10
        exact absurd (Option.some.inj (H.trans (congrArg some HRT.out))) (by decide)
      ·rw [if_neg c8] at H
       have c8b0 : (((rd_T44 t211 0).f3) == 1) = false := beq_eq_false_iff_ne.mpr c8
       have c8b1 : (((rd_T44 t211 0).f3) != 1) = true := bne_iff_ne.mpr c8
       exact absurd (Option.some.inj (H.trans (congrArg some HRT.out))) (by decide)
     ·rw [if_neg c7] at H
      have c7b0 : (((rd_T44 t211 0).f1) == 2) = false := beq_eq_false_iff_ne.mpr c7
      have c7b1 : (((rd_T44 t211 0).f1) != 2) = true := bne_iff_ne.mpr c7
      exact absurd (Option.some.inj (H.trans (congrArg some HRT.out))) (by decide)
    ·rw [if_neg c6] at H
     have c6b0 : (((rd_T44 t211 0).f0) == 1) = false := beq_eq_false_iff_ne.mpr c6
     have c6b1 : (((rd_T44 t211 0).f0) != 1) = true := bne_iff_ne.mpr c6
     exact absurd (Option.some.inj (H.trans (congrArg some HRT.out))) (by decide)
   ·rw [if_neg c5] at H
    exact absurd H (by simp)
  ·rw [if_neg c4] at H
   have c4b0 : ((t211.length : Int) == 1) = false := beq_eq_false_iff_ne.mpr c4
   have c4b1 : ((t211.length : Int) != 1) = true := bne_iff_ne.mpr c4
   exact absurd (Option.some.inj (H.trans (congrArg some HRT.out))) (by decide)
 ·rw [if_neg c3] at H
  have c3b0 : (t212 == 0) = false := beq_eq_false_iff_ne.mpr c3
  have c3b1 : (t212 != 0) = true := bne_iff_ne.mpr c3
  exact absurd (Option.some.inj (H.trans (congrArg some HRT.out))) (by decide)

end Go.Proofs.Ytfnbodjmmkjlcaa.H
end
section
namespace Go.Proofs.Ytfnbodjmmkjlcaa.H
open Go.RowKit Go.Proofs.YtfnbodjmmkjlcaaW.PrintWords Go.Proofs.YtfnbodjmmkjlcaaW.PrintLast Go.Proofs.YtfnbodjmmkjlcaaW.PrintMore
attribute [local go_sem] max2_int min2_int max_two min_two max_three min_three max_four min_four   -- for this text's walks alone
set_option linter.unusedVariables false
set_option linter.unusedSimpArgs false

mutual
def jalousieref08_Check.l0 : Nat → List (S47) → Int → Int → Option (Int)
 | 0, _, _, _ => none
 | k + 1, x0, x3, x4 => if x4 < (x0.length : Int) then (if 0 ≤ x4 then (if (((rd_T47 x0 x4).f1).length : Int) > (wrap64 (800 - x3)) then (some 4) else (jalousieref08_Check.l0 k x0 (wrap64 (x3 + (((rd_T47 x0 x4).f1).length : Int))) (wrap64 (x4 + 1)))) else (none)) else (jalousieref08_Check.l1 k x0 0)
def jalousieref08_Check.l1 : Nat → List (S47) → Int → Option (Int)
 | 0, _, _ => none
 | k + 1, x0, x5 => if x5 < (x0.length : Int) then (if 0 ≤ x5 then (if ((rd_T47 x0 x5).f0) = 1 then (jalousieref08_Check.l1 k x0 (wrap64 (x5 + 1))) else (if ((rd_T47 x0 x5).f0) = 2 then (jalousieref08_Check.l1 k x0 (wrap64 (x5 + 1))) else (if ((rd_T47 x0 x5).f0) = 3 then (jalousieref08_Check.l1 k x0 (wrap64 (x5 + 1))) else (some 3)))) else (none)) else (some 0)
end
def jalousieref08_Check.f (k : Nat) (l0 : List (S47)) : Option (Int) := if (l0.length : Int) > 800 then (some 4) else (jalousieref08_Check.l0 k l0 0 0)
set_option maxHeartbeats 8000000 in
set_option maxRecDepth 100000 in
theorem jalousieref08_Check.calls (k : Nat) (A0 : Option Addr) (c0 : Nat) (l0 : List (S47)) (r : Int) (w : World) (hr0 : Kd.C k47 w A0 l0.length l0) (hc0 : l0.length ≤ c0) (h : jalousieref08_Check.f k l0 = some r) :
  Calls Try.prog 26 #[.slice A0 l0.length c0] w fun e w' => e = .returned (.int .i64 r) ∧ Drawn0 w w' := by
 have HR0 := Aside0.mk hr0
 have HC0 := Aside0.mk hc0
 clear hr0 hc0
 have H : (if (l0.length : Int) > 800 then (some 4) else (jalousieref08_Check.l0 k l0 0 0)) = some r := h
 clear h
 by_cases c2 : (l0.length : Int) > 800
 ·rw [if_pos c2] at H
  have c2b0 : decide (800 < (l0.length : Int)) = true := decide_eq_true c2
  have c2b1 : decide (800 < l0.length) = true := decide_eq_true (by omega)
  clear c2
  obtain rfl := Option.some.inj H
  go_enter Try.func26, Try.ntmps26
  go_wp2
  go_ret
  exact ⟨by first | rfl | (simp; done) | (simp [*]; done), by repeat (first | exact Drawn0.refl _ | apply Drawn0.step)⟩
 ·rw [if_neg c2] at H
  have c2b0 : decide (800 < (l0.length : Int)) = false := decide_eq_false c2
  have c2b1 : decide (800 < l0.length) = false := decide_eq_false (by omega)
  clear c2
  have H' := Aside0.mk H
  clear H
  go_enter Try.func26, Try.ntmps26
  go_wp2
  go_loopg [3, 4] k (fun kq v3 v4 w' => ∃ (x3_1 : Int) (x4_1 : Int), v3 = .int .i64 x3_1 ∧ v4 = .int .i64 x4_1 ∧ Aside0 (jalousieref08_Check.l0 kq l0 x3_1 x4_1 = some r) ∧ Aside0 (kq ≤ k) ∧ Drawn0 w w')
  case atStart => exact ⟨(0), (0), (by first | rfl | (simp; done) | (simp [*]; done)), (by first | rfl | (simp; done) | (simp [*]; done)), H', ⟨Nat.le_refl _⟩, by repeat (first | exact Drawn0.refl _ | apply Drawn0.step)⟩
  case round =>
   clear H'
   try clear c2
   try clear c2b0
   try clear c2b1
   try clear p2
   obtain ⟨x3_1, x4_1, rfl, rfl, HA, HK1, ⟨m1, rfl⟩⟩ := hrel
   cases gk with
   | zero => exact absurd HA.out (by simp [jalousieref08_Check.l0])
   | succ k1 =>
    have H := HA.out
    clear HA
    simp only [jalousieref08_Check.l0] at H
    by_cases c3 : x4_1 < (l0.length : Int)
    ·rw [if_pos c3] at H
     have c3b0 : decide (x4_1 < (l0.length : Int)) = true := decide_eq_true c3
     clear c3
     by_cases c4 : 0 ≤ x4_1
     ·rw [if_pos c4] at H
      have c4b0 : decide (0 ≤ x4_1) = true := decide_eq_true c4
      clear c4
      by_cases c5 : (((rd_T47 l0 x4_1).f1).length : Int) > (wrap64 (800 - x3_1))
      ·rw [if_pos c5] at H
       have c5b0 : decide ((wrap64 (800 - x3_1)) < (((rd_T47 l0 x4_1).f1).length : Int)) = true := decide_eq_true c5
       clear c5
       obtain rfl := Option.some.inj H
       have p229 : 0 ≤ (x4_1 : Int) := of_decide_eq_true (by first | (with_reducible assumption) | assumption)
       have q229 : x4_1 < (l0.length : Int) := of_decide_eq_true (by first | (with_reducible assumption) | assumption)
       obtain ⟨ad229, A229_1, c229_1, e229, hx229_0, hx229_1, hl229_1, hi229_1⟩ := at_T47 HR0.out x4_1 p229 q229
       cases e229
       have HR229_1 := Aside0.mk hi229_1
       have HC229_1 := Aside0.mk hl229_1
       clear hi229_1 hl229_1
       replace p229 := eq_true p229
       replace q229 := eq_true q229
       go_wp2
       go_ret
       exact ⟨by first | rfl | (simp; done) | (simp [*]; done), by repeat (first | exact Drawn0.refl _ | apply Drawn0.step)⟩
      ·rw [if_neg c5] at H
       have c5b0 : decide ((wrap64 (800 - x3_1)) < (((rd_T47 l0 x4_1).f1).length : Int)) = false := decide_eq_false c5
       clear c5
       have H' := Aside0.mk H
       clear H
       have p229 : 0 ≤ (x4_1 : Int) := of_decide_eq_true (by first | (with_reducible assumption) | assumption)
       have q229 : x4_1 < (l0.length : Int) := of_decide_eq_true (by first | (with_reducible assumption) | assumption)
       obtain ⟨ad229, A229_1, c229_1, e229, hx229_0, hx229_1, hl229_1, hi229_1⟩ := at_T47 HR0.out x4_1 p229 q229
       cases e229
       have HR229_1 := Aside0.mk hi229_1
       have HC229_1 := Aside0.mk hl229_1
       clear hi229_1 hl229_1
       replace p229 := eq_true p229
       replace q229 := eq_true q229
       have p230 : 0 ≤ (x4_1 : Int) := of_decide_eq_true (by first | (with_reducible assumption) | assumption)
       have q230 : x4_1 < (l0.length : Int) := of_decide_eq_true (by first | (with_reducible assumption) | assumption)
       obtain ⟨ad230, A230_1, c230_1, e230, hx230_0, hx230_1, hl230_1, hi230_1⟩ := at_T47 HR0.out x4_1 p230 q230
       obtain rfl : ad229 = ad230 := (by injection e230)
       have HR230_1 := Aside0.mk hi230_1
       have HC230_1 := Aside0.mk hl230_1
       clear hi230_1 hl230_1
       replace p230 := eq_true p230
       replace q230 := eq_true q230
       have ea_ := Option.some.inj (hx229_1.symm.trans hx230_1)
       injection ea_ with ea_ en_ ec_
       subst ea_
       subst ec_
       clear en_
       go_wp2
       go_roundg k1
       case measure => have := HK1.out; omega
       case rel => exact ⟨(wrap64 (x3_1 + (((rd_T47 l0 x4_1).f1).length : Int))), (wrap64 (x4_1 + 1)), (by first | rfl | (simp; done) | (simp [*]; done)), (by first | rfl | (simp; done) | (simp [*]; done)), H', ⟨by have := HK1.out; omega⟩, by repeat (first | exact Drawn0.refl _ | apply Drawn0.step)⟩
     ·rw [if_neg c4] at H
      exact absurd H (by simp)
    ·rw [if_neg c3] at H
     have c3b0 : decide (x4_1 < (l0.length : Int)) = false := decide_eq_false c3
     clear c3
     have H' := Aside0.mk H
     clear H
     go_wp2
     go_loopg [5] k1 (fun kq v5 w' => ∃ (x5_2 : Int), v5 = .int .i64 x5_2 ∧ Aside0 (jalousieref08_Check.l1 kq l0 x5_2 = some r) ∧ Aside0 (kq ≤ k1) ∧ Drawn0 w w')
     case atStart => exact ⟨(0), (by first | rfl | (simp; done) | (simp [*]; done)), H', ⟨Nat.le_refl _⟩, by repeat (first | exact Drawn0.refl _ | apply Drawn0.step)⟩
     case round =>
      clear H'
      try clear c2
      try clear c2b0
      try clear c2b1
      try clear p2
      try clear q2
      try clear hx2
      try clear c3
      try clear c3b0
      try clear c4
      try clear c4b0
      try clear c5
      try clear c5b0
      try clear hx229_0
      try clear hx229_1
      try clear hx230_0
      try clear hx230_1
      try clear p2
      try clear p229
      try clear p230
      try clear q229
      try clear q230
      obtain ⟨x5_2, rfl, HA, HK2, ⟨m2, rfl⟩⟩ := hrel
      cases gk with
      | zero => exact absurd HA.out (by simp [jalousieref08_Check.l1])
      | succ k2 =>
       have H := HA.out
       clear HA
       simp only [jalousieref08_Check.l1] at H
       by_cases c6 : x5_2 < (l0.length : Int)
       ·rw [if_pos c6] at H
        have c6b0 : decide (x5_2 < (l0.length : Int)) = true := decide_eq_true c6
        clear c6
        by_cases c7 : 0 ≤ x5_2
        ·rw [if_pos c7] at H
         have c7b0 : decide (0 ≤ x5_2) = true := decide_eq_true c7
         clear c7
         by_cases c8 : ((rd_T47 l0 x5_2).f0) = 1
         ·rw [if_pos c8] at H
          have c8b0 : (((rd_T47 l0 x5_2).f0) == 1) = true := beq_iff_eq.mpr c8
          have c8b1 : (((rd_T47 l0 x5_2).f0) != 1) = false := bne_eq_false_iff_eq.mpr c8
          clear c8
          have H' := Aside0.mk H
          clear H
          have p231 : 0 ≤ (x5_2 : Int) := of_decide_eq_true (by first | (with_reducible assumption) | assumption)
          have q231 : x5_2 < (l0.length : Int) := of_decide_eq_true (by first | (with_reducible assumption) | assumption)
          obtain ⟨ad231, A231_1, c231_1, e231, hx231_0, hx231_1, hl231_1, hi231_1⟩ := at_T47 HR0.out x5_2 p231 q231
          cases e231
          have HR231_1 := Aside0.mk hi231_1
          have HC231_1 := Aside0.mk hl231_1
          clear hi231_1 hl231_1
          replace p231 := eq_true p231
          replace q231 := eq_true q231
          go_wp2
          go_roundg k2
          case measure => have := HK1.out; have := HK2.out; omega
          case rel => exact ⟨(wrap64 (x5_2 + 1)), (by first | rfl | (simp; done) | (simp [*]; done)), H', ⟨by have := HK1.out; have := HK2.out; omega⟩, by repeat (first | exact Drawn0.refl _ | apply Drawn0.step)⟩
         ·rw [if_neg c8] at H
          have c8b0 : (((rd_T47 l0 x5_2).f0) == 1) = false := beq_eq_false_iff_ne.mpr c8
          have c8b1 : (((rd_T47 l0 x5_2).f0) != 1) = true := bne_iff_ne.mpr c8
          by_cases c9 : ((rd_T47 l0 x5_2).f0) = 2
          ·rw [if_pos c9] at H
           have c9b0 : (((rd_T47 l0 x5_2).f0) == 2) = true := beq_iff_eq.mpr c9
           have c9b1 : (((rd_T47 l0 x5_2).f0) != 2) = false := bne_eq_false_iff_eq.mpr c9
           clear c9
           have H' := Aside0.mk H
           clear H
           have p231 : 0 ≤ (x5_2 : Int) := of_decide_eq_true (by first | (with_reducible assumption) | assumption)
           have q231 : x5_2 < (l0.length : Int) := of_decide_eq_true (by first | (with_reducible assumption) | assumption)
           obtain ⟨ad231, A231_1, c231_1, e231, hx231_0, hx231_1, hl231_1, hi231_1⟩ := at_T47 HR0.out x5_2 p231 q231
           cases e231
           have HR231_1 := Aside0.mk hi231_1
           have HC231_1 := Aside0.mk hl231_1
           clear hi231_1 hl231_1
           replace p231 := eq_true p231
           replace q231 := eq_true q231
           have p232 : 0 ≤ (x5_2 : Int) := of_decide_eq_true (by first | (with_reducible assumption) | assumption)
           have q232 : x5_2 < (l0.length : Int) := of_decide_eq_true (by first | (with_reducible assumption) | assumption)
           obtain ⟨ad232, A232_1, c232_1, e232, hx232_0, hx232_1, hl232_1, hi232_1⟩ := at_T47 HR0.out x5_2 p232 q232
           obtain rfl : ad231 = ad232 := (by injection e232)
           have HR232_1 := Aside0.mk hi232_1
           have HC232_1 := Aside0.mk hl232_1
           clear hi232_1 hl232_1
           replace p232 := eq_true p232
           replace q232 := eq_true q232
           have ea_ := Option.some.inj (hx231_1.symm.trans hx232_1)
           injection ea_ with ea_ en_ ec_
           subst ea_
           subst ec_
           clear en_
           go_wp2
           go_roundg k2
           case measure => have := HK1.out; have := HK2.out; omega
           case rel => exact ⟨(wrap64 (x5_2 + 1)), (by first | rfl | (simp; done) | (simp [*]; done)), H', ⟨by have := HK1.out; have := HK2.out; omega⟩, by repeat (first | exact Drawn0.refl _ | apply Drawn0.step)⟩
          ·rw [if_neg c9] at H
           have c9b0 : (((rd_T47 l0 x5_2).f0) == 2) = false := beq_eq_false_iff_ne.mpr c9
           have c9b1 : (((rd_T47 l0 x5_2).f0) != 2) = true := bne_iff_ne.mpr c9
           by_cases c10 : ((rd_T47 l0 x5_2).f0) = 3
           ·rw [if_pos c10] at H
            have c10b0 : (((rd_T47 l0 x5_2).f0) == 3) = true := beq_iff_eq.mpr c10
            have c10b1 : (((rd_T47 l0 x5_2).f0) != 3) = false := bne_eq_false_iff_eq.mpr c10
            clear c10
            have H' := Aside0.mk H
            clear H
            have p231 : 0 ≤ (x5_2 : Int) := of_decide_eq_true (by first | (with_reducible assumption) | assumption)
            have q231 : x5_2 < (l0.length : Int) := of_decide_eq_true (by first | (with_reducible assumption) | assumption)
            obtain ⟨ad231, A231_1, c231_1, e231, hx231_0, hx231_1, hl231_1, hi231_1⟩ := at_T47 HR0.out x5_2 p231 q231
            cases e231
            have HR231_1 := Aside0.mk hi231_1
            have HC231_1 := Aside0.mk hl231_1
            clear hi231_1 hl231_1
            replace p231 := eq_true p231
            replace q231 := eq_true q231
            have p232 : 0 ≤ (x5_2 : Int) := of_decide_eq_true (by first | (with_reducible assumption) | assumption)
            have q232 : x5_2 < (l0.length : Int) := of_decide_eq_true (by first | (with_reducible assumption) | assumption)
            obtain ⟨ad232, A232_1, c232_1, e232, hx232_0, hx232_1, hl232_1, hi232_1⟩ := at_T47 HR0.out x5_2 p232 q232
            obtain rfl : ad231 = ad232 := (by injection e232)
            have HR232_1 := Aside0.mk hi232_1
            have HC232_1 := Aside0.mk hl232_1
            clear hi232_1 hl232_1
            replace p232 := eq_true p232
            replace q232 := eq_true q232
            have ea_ := Option.some.inj (hx231_1.symm.trans hx232_1)
            injection ea_ with ea_ en_ ec_
            subst ea_
            subst ec_
            clear en_
            have p233 : 0 ≤ (x5_2 : Int) := of_decide_eq_true (by first | (with_reducible assumption) | assumption)
            have q233 : x5_2 < (l0.length : Int) := of_decide_eq_true (by first | (with_reducible assumption) | assumption)
            obtain ⟨ad233, A233_1, c233_1, e233, hx233_0, hx233_1, hl233_1, hi233_1⟩ := at_T47 HR0.out x5_2 p233 q233
            obtain rfl : ad231 = ad233 := (by injection e233)
            have HR233_1 := Aside0.mk hi233_1
            have HC233_1 := Aside0.mk hl233_1
            clear hi233_1 hl233_1
            replace p233 := eq_true p233
            replace q233 := eq_true q233
            have ea_ := Option.some.inj (hx231_1.symm.trans hx233_1)
            injection ea_ with ea_ en_ ec_
            subst ea_
            subst ec_
            clear en_
            go_wp2
            go_roundg k2
            case measure => have := HK1.out; have := HK2.out; omega
            case rel => exact ⟨(wrap64 (x5_2 + 1)), (by first | rfl | (simp; done) | (simp [*]; done)), H', ⟨by have := HK1.out; have := HK2.out; omega⟩, by repeat (first | exact Drawn0.refl _ | apply Drawn0.step)⟩
           ·rw [if_neg c10] at H
            have c10b0 : (((rd_T47 l0 x5_2).f0) == 3) = false := beq_eq_false_iff_ne.mpr c10
            have c10b1 : (((rd_T47 l0 x5_2).f0) != 3) = true := bne_iff_ne.mpr c10
            obtain rfl := Option.some.inj H
            have p231 : 0 ≤ (x5_2 : Int) := of_decide_eq_true (by first | (with_reducible assumption) | assumption)
            have q231 : x5_2 < (l0.length : Int) := of_decide_eq_true (by first | (with_reducible assumption) | assumption)
            obtain ⟨ad231, A231_1, c231_1, e231, hx231_0, hx231_1, hl231_1, hi231_1⟩ := at_T47 HR0.out x5_2 p231 q231
            cases e231
            have HR231_1 := Aside0.mk hi231_1
            have HC231_1 := Aside0.mk hl231_1
            clear hi231_1 hl231_1
            replace p231 := eq_true p231
            replace q231 := eq_true q231
            have p232 : 0 ≤ (x5_2 : Int) := of_decide_eq_true (by first | (with_reducible assumption) | assumption)
            have q232 : x5_2 < (l0.length : Int) := of_decide_eq_true (by first | (with_reducible assumption) | assumption)
            obtain ⟨ad232, A232_1, c232_1, e232, hx232_0, hx232_1, hl232_1, hi232_1⟩ := at_T47 HR0.out x5_2 p232 q232
            obtain rfl : ad231 = ad232 := (by injection e232)
            have HR232_1 := Aside0.mk hi232_1
            have HC232_1 := Aside0.mk hl232_1
            clear hi232_1 hl232_1
            replace p232 := eq_true p232
            replace q232 := eq_true q232
            have ea_ := Option.some.inj (hx231_1.symm.trans hx232_1)
            injection ea_ with ea_ en_ ec_
            subst ea_
            subst ec_
            clear en_
            have p233 : 0 ≤ (x5_2 : Int) := of_decide_eq_true (by first | (with_reducible assumption) | assumption)
            have q233 : x5_2 < (l0.length : Int) := of_decide_eq_true (by first | (with_reducible assumption) | assumption)
            obtain ⟨ad233, A233_1, c233_1, e233, hx233_0, hx233_1, hl233_1, hi233_1⟩ := at_T47 HR0.out x5_2 p233 q233
            obtain rfl : ad231 = ad233 := (by injection e233)
            have HR233_1 := Aside0.mk hi233_1
            have HC233_1 := Aside0.mk hl233_1
            clear hi233_1 hl233_1
            replace p233 := eq_true p233
            replace q233 := eq_true q233
            have ea_ := Option.some.inj (hx231_1.symm.trans hx233_1)
            injection ea_ with ea_ en_ ec_
            subst ea_
            subst ec_
            clear en_
            go_wp2
            go_ret
            exact ⟨by first | rfl | (simp; done) | (simp [*]; done), by repeat (first | exact Drawn0.refl _ | apply Drawn0.step)⟩
        ·rw [if_neg c7] at H
         exact absurd H (by simp)
       ·rw [if_neg c6] at H
        have c6b0 : decide (x5_2 < (l0.length : Int)) = false := decide_eq_false c6
        clear c6
        obtain rfl := Option.some.inj H
        go_wp2
        go_ret
        exact ⟨by first | rfl | (simp; done) | (simp [*]; done), by repeat (first | exact Drawn0.refl _ | apply Drawn0.step)⟩

end Go.Proofs.Ytfnbodjmmkjlcaa.H
end
section
namespace Go.Proofs.Ytfnbodjmmkjlcaa.H
open Go.RowKit Go.Proofs.YtfnbodjmmkjlcaaW.PrintWords Go.Proofs.YtfnbodjmmkjlcaaW.PrintLast Go.Proofs.YtfnbodjmmkjlcaaW.PrintMore
attribute [local go_sem] max2_int min2_int max_two min_two max_three min_three max_four min_four   -- for this text's walks alone
set_option linter.unusedVariables false
set_option linter.unusedSimpArgs false

def jalousieref08_Changed.l0 : Nat → List (S47) → Int → Int → Option (Int)
 | 0, _, _, _ => none
 | k + 1, x0, x3, x4 => if x4 < (x0.length : Int) then (if 0 ≤ x4 then (if ((rd_T47 x0 x4).f0) = 2 then (jalousieref08_Changed.l0 k x0 (wrap64 (x3 + (((rd_T47 x0 x4).f1).length : Int))) (wrap64 (x4 + 1))) else (if ((rd_T47 x0 x4).f0) = 3 then (jalousieref08_Changed.l0 k x0 (wrap64 (x3 + (((rd_T47 x0 x4).f1).length : Int))) (wrap64 (x4 + 1))) else (jalousieref08_Changed.l0 k x0 x3 (wrap64 (x4 + 1))))) else (none)) else (some x3)
def jalousieref08_Changed.f (k : Nat) (l0 : List (S47)) : Option (Int) := jalousieref08_Changed.l0 k l0 0 0
set_option maxHeartbeats 8000000 in
set_option maxRecDepth 100000 in
theorem jalousieref08_Changed.calls (k : Nat) (A0 : Option Addr) (c0 : Nat) (l0 : List (S47)) (r : Int) (w : World) (hr0 : Kd.C k47 w A0 l0.length l0) (hc0 : l0.length ≤ c0) (h : jalousieref08_Changed.f k l0 = some r) :
  Calls Try.prog 27 #[.slice A0 l0.length c0] w fun e w' => e = .returned (.int .i64 r) ∧ Drawn0 w w' := by
 have HR0 := Aside0.mk hr0
 have HC0 := Aside0.mk hc0
 clear hr0 hc0
 have H : (jalousieref08_Changed.l0 k l0 0 0) = some r := h
 clear h
 have H' := Aside0.mk H
 clear H
 go_enter Try.func27, Try.ntmps27
 go_wp2
 go_loopg [3, 4] k (fun kq v3 v4 w' => ∃ (x3_1 : Int) (x4_1 : Int), v3 = .int .i64 x3_1 ∧ v4 = .int .i64 x4_1 ∧ Aside0 (jalousieref08_Changed.l0 kq l0 x3_1 x4_1 = some r) ∧ Aside0 (kq ≤ k) ∧ Drawn0 w w')
 case atStart => exact ⟨(0), (0), (by first | rfl | (simp; done) | (simp [*]; done)), (by first | rfl | (simp; done) | (simp [*]; done)), H', ⟨Nat.le_refl _⟩, by repeat (first | exact Drawn0.refl _ | apply Drawn0.step)⟩
 case round =>
  clear H'
  obtain ⟨x3_1, x4_1, rfl, rfl, HA, HK1, ⟨m1, rfl⟩⟩ := hrel
  cases gk with
  | zero => exact absurd HA.out (by simp [jalousieref08_Changed.l0])
  | succ k1 =>
   have H := HA.out
   clear HA
   simp only [jalousieref08_Changed.l0] at H
   by_cases c2 : x4_1 < (l0.length : Int)
   ·rw [if_pos c2] at H
    have c2b0 : decide (x4_1 < (l0.length : Int)) = true := decide_eq_true c2
    clear c2
    by_cases c3 : 0 ≤ x4_1
    ·rw [if_pos c3] at H
     have c3b0 : decide (0 ≤ x4_1) = true := decide_eq_true c3
     clear c3
     by_cases c4 : ((rd_T47 l0 x4_1).f0) = 2
     ·rw [if_pos c4] at H
      have c4b0 : (((rd_T47 l0 x4_1).f0) == 2) = true := beq_iff_eq.mpr c4
      have c4b1 : (((rd_T47 l0 x4_1).f0) != 2) = false := bne_eq_false_iff_eq.mpr c4
      clear c4
      have H' := Aside0.mk H
      clear H
      have p282 : 0 ≤ (x4_1 : Int) := of_decide_eq_true (by first | (with_reducible assumption) | assumption)
      have q282 : x4_1 < (l0.length : Int) := of_decide_eq_true (by first | (with_reducible assumption) | assumption)
      obtain ⟨ad282, A282_1, c282_1, e282, hx282_0, hx282_1, hl282_1, hi282_1⟩ := at_T47 HR0.out x4_1 p282 q282
      cases e282
      have HR282_1 := Aside0.mk hi282_1
      have HC282_1 := Aside0.mk hl282_1
      clear hi282_1 hl282_1
      replace p282 := eq_true p282
      replace q282 := eq_true q282
      have p283 : 0 ≤ (x4_1 : Int) := of_decide_eq_true (by first | (with_reducible assumption) | assumption)
      have q283 : x4_1 < (l0.length : Int) := of_decide_eq_true (by first | (with_reducible assumption) | assumption)
      obtain ⟨ad283, A283_1, c283_1, e283, hx283_0, hx283_1, hl283_1, hi283_1⟩ := at_T47 HR0.out x4_1 p283 q283
      obtain rfl : ad282 = ad283 := (by injection e283)
      have HR283_1 := Aside0.mk hi283_1
      have HC283_1 := Aside0.mk hl283_1
      clear hi283_1 hl283_1
      replace p283 := eq_true p283
      replace q283 := eq_true q283
      have ea_ := Option.some.inj (hx282_1.symm.trans hx283_1)
      injection ea_ with ea_ en_ ec_
      subst ea_
      subst ec_
      clear en_
      go_wp2
      go_roundg k1
      case measure => have := HK1.out; omega
      case rel => exact ⟨(wrap64 (x3_1 + (((rd_T47 l0 x4_1).f1).length : Int))), (wrap64 (x4_1 + 1)), (by first | rfl | (simp; done) | (simp [*]; done)), (by first | rfl | (simp; done) | (simp [*]; done)), H', ⟨by have := HK1.out; omega⟩, by repeat (first | exact Drawn0.refl _ | apply Drawn0.step)⟩
     ·rw [if_neg c4] at H
      have c4b0 : (((rd_T47 l0 x4_1).f0) == 2) = false := beq_eq_false_iff_ne.mpr c4
      have c4b1 : (((rd_T47 l0 x4_1).f0) != 2) = true := bne_iff_ne.mpr c4
      by_cases c5 : ((rd_T47 l0 x4_1).f0) = 3
      ·rw [if_pos c5] at H
       have c5b0 : (((rd_T47 l0 x4_1).f0) == 3) = true := beq_iff_eq.mpr c5
       have c5b1 : (((rd_T47 l0 x4_1).f0) != 3) = false := bne_eq_false_iff_eq.mpr c5
       clear c5
       have H' := Aside0.mk H
       clear H
       have p282 : 0 ≤ (x4_1 : Int) := of_decide_eq_true (by first | (with_reducible assumption) | assumption)
       have q282 : x4_1 < (l0.length : Int) := of_decide_eq_true (by first | (with_reducible assumption) | assumption)
       obtain ⟨ad282, A282_1, c282_1, e282, hx282_0, hx282_1, hl282_1, hi282_1⟩ := at_T47 HR0.out x4_1 p282 q282
       cases e282
       have HR282_1 := Aside0.mk hi282_1
       have HC282_1 := Aside0.mk hl282_1
       clear hi282_1 hl282_1
       replace p282 := eq_true p282
       replace q282 := eq_true q282
       have p284 : 0 ≤ (x4_1 : Int) := of_decide_eq_true (by first | (with_reducible assumption) | assumption)
       have q284 : x4_1 < (l0.length : Int) := of_decide_eq_true (by first | (with_reducible assumption) | assumption)
       obtain ⟨ad284, A284_1, c284_1, e284, hx284_0, hx284_1, hl284_1, hi284_1⟩ := at_T47 HR0.out x4_1 p284 q284
       obtain rfl : ad282 = ad284 := (by injection e284)
       have HR284_1 := Aside0.mk hi284_1
       have HC284_1 := Aside0.mk hl284_1
       clear hi284_1 hl284_1
       replace p284 := eq_true p284
       replace q284 := eq_true q284
       have ea_ := Option.some.inj (hx282_1.symm.trans hx284_1)
       injection ea_ with ea_ en_ ec_
       subst ea_
       subst ec_
       clear en_
       have p285 : 0 ≤ (x4_1 : Int) := of_decide_eq_true (by first | (with_reducible assumption) | assumption)
       have q285 : x4_1 < (l0.length : Int) := of_decide_eq_true (by first | (with_reducible assumption) | assumption)
       obtain ⟨ad285, A285_1, c285_1, e285, hx285_0, hx285_1, hl285_1, hi285_1⟩ := at_T47 HR0.out x4_1 p285 q285
       obtain rfl : ad282 = ad285 := (by injection e285)
       have HR285_1 := Aside0.mk hi285_1
       have HC285_1 := Aside0.mk hl285_1
       clear hi285_1 hl285_1
       replace p285 := eq_true p285
       replace q285 := eq_true q285
       have ea_ := Option.some.inj (hx282_1.symm.trans hx285_1)
       injection ea_ with ea_ en_ ec_
       subst ea_
       subst ec_
       clear en_
       go_wp2
       go_roundg k1
       case measure => have := HK1.out; omega
       case rel => exact ⟨(wrap64 (x3_1 + (((rd_T47 l0 x4_1).f1).length : Int))), (wrap64 (x4_1 + 1)), (by first | rfl | (simp; done) | (simp [*]; done)), (by first | rfl | (simp; done) | (simp [*]; done)), H', ⟨by have := HK1.out; omega⟩, by repeat (first | exact Drawn0.refl _ | apply Drawn0.step)⟩
      ·rw [if_neg c5] at H
       have c5b0 : (((rd_T47 l0 x4_1).f0) == 3) = false := beq_eq_false_iff_ne.mpr c5
       have c5b1 : (((rd_T47 l0 x4_1).f0) != 3) = true := bne_iff_ne.mpr c5
       have H' := Aside0.mk H
       clear H
       have p282 : 0 ≤ (x4_1 : Int) := of_decide_eq_true (by first | (with_reducible assumption) | assumption)
       have q282 : x4_1 < (l0.length : Int) := of_decide_eq_true (by first | (with_reducible assumption) | assumption)
       obtain ⟨ad282, A282_1, c282_1, e282, hx282_0, hx282_1, hl282_1, hi282_1⟩ := at_T47 HR0.out x4_1 p282 q282
       cases e282
       have HR282_1 := Aside0.mk hi282_1
       have HC282_1 := Aside0.mk hl282_1
       clear hi282_1 hl282_1
       replace p282 := eq_true p282
       replace q282 := eq_true q282
       have p284 : 0 ≤ (x4_1 : Int) := of_decide_eq_true (by first | (with_reducible assumption) | assumption)
       have q284 : x4_1 < (l0.length : Int) := of_decide_eq_true (by first | (with_reducible assumption) | assumption)
       obtain ⟨ad284, A284_1, c284_1, e284, hx284_0, hx284_1, hl284_1, hi284_1⟩ := at_T47 HR0.out x4_1 p284 q284
       obtain rfl : ad282 = ad284 := (by injection e284)
       have HR284_1 := Aside0.mk hi284_1
       have HC284_1 := Aside0.mk hl284_1
       clear hi284_1 hl284_1
       replace p284 := eq_true p284
       replace q284 := eq_true q284
       have ea_ := Option.some.inj (hx282_1.symm.trans hx284_1)
       injection ea_ with ea_ en_ ec_
       subst ea_
       subst ec_
       clear en_
       go_wp2
       go_roundg k1
       case measure => have := HK1.out; omega
       case rel => exact ⟨(x3_1), (wrap64 (x4_1 + 1)), (by first | rfl | (simp; done) | (simp [*]; done)), (by first | rfl | (simp; done) | (simp [*]; done)), H', ⟨by have := HK1.out; omega⟩, by repeat (first | exact Drawn0.refl _ | apply Drawn0.step)⟩
    ·rw [if_neg c3] at H
     exact absurd H (by simp)
   ·rw [if_neg c2] at H
    have c2b0 : decide (x4_1 < (l0.length : Int)) = false := decide_eq_false c2
    clear c2
    obtain rfl := Option.some.inj H
    go_wp2
    go_ret
    exact ⟨by first | rfl | (simp; done) | (simp [*]; done), by repeat (first | exact Drawn0.refl _ | apply Drawn0.step)⟩

end Go.Proofs.Ytfnbodjmmkjlcaa.H
end
