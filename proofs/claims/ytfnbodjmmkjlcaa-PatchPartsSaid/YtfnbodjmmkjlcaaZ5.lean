/-
  What the claim needs of the words, of the walks and of the plain proofs, in one row (5).
-/
import Derived.RangeFuncNested
import Derived.RangeFuncBound
import Derived.RangeFuncCalls
import Derived.RangeFuncLeaves
import Derived.RangeFuncBox
import Derived.RangeFuncMany
import Derived.OwnWalkIn
import Derived.Deep.RegionHeld3
import Derived.WalkLawsBesides
import Derived.WalkSpells
import Derived.Shelf.Abstract
import Derived.TacticsInMore
import Derived.LoopNIn
import Derived.LoopIn
import Derived.Test.YtfnbodjmmkjlcaaZ0
import Derived.Test.YtfnbodjmmkjlcaaZ1
import Derived.Test.YtfnbodjmmkjlcaaZ2
import Derived.Test.YtfnbodjmmkjlcaaZ3
import Derived.Test.YtfnbodjmmkjlcaaZ4
section
namespace Go.Proofs.Ytfnbodjmmkjlcaa.H
open Go.RowKit Go.Proofs.YtfnbodjmmkjlcaaW.PrintWords Go.Proofs.YtfnbodjmmkjlcaaW.PrintLast Go.Proofs.YtfnbodjmmkjlcaaW.PrintMore
attribute [local go_sem] max2_int min2_int max_two min_two max_three min_three max_four min_four   -- for this text's walks alone
set_option linter.unusedVariables false
set_option linter.unusedSimpArgs false

attribute [local go_sem high] eqA66
mutual
def jalousielaw11_PatchParts.l0 : Nat → List (S66) → List (S66) → List (S64) → List Int → List Int → List Int → List Int → Int → Option (Bool)
 | 0, _, _, _, _, _, _, _, _ => none
 | k + 1, x1, x5, x6, x8, x10, x12, x13, x14 => if x14 < (x6.length : Int) then (if 0 ≤ x14 then (if ((rd_T64 x6 x14).f0) < 0 then (some false) else (if ((rd_T64 x6 x14).f0) ≥ (x1.length : Int) then (some false) else (if ((rd_T64 x6 x14).f1) < 0 then (some false) else (if ((rd_T64 x6 x14).f1) ≥ (x5.length : Int) then (some false) else (if 0 ≤ ((rd_T64 x6 x14).f0) then (if ((rd_T64 x6 x14).f0) < (x1.length : Int) then (if 0 ≤ ((rd_T64 x6 x14).f1) then (if ((rd_T64 x6 x14).f1) < (x5.length : Int) then (if (!((((rd_T66 x1 ((rd_T64 x6 x14).f0)).f0).toList) == (((rd_T66 x5 ((rd_T64 x6 x14).f1)).f0).toList)) || (!(((rd_T66 x1 ((rd_T64 x6 x14).f0)).f1) == ((rd_T66 x5 ((rd_T64 x6 x14).f1)).f1)))) = true then (some false) else (if ((rd_T64 x6 x14).f0) < (x12.length : Int) then (if ((rd_T64 x6 x14).f1) < (x13.length : Int) then (jalousielaw11_PatchParts.l0 k x1 x5 x6 x8 x10 (x12.set (((rd_T64 x6 x14).f0) : Int).toNat (wrap64 ((rd x12 ((rd_T64 x6 x14).f0)) + 1))) (x13.set (((rd_T64 x6 x14).f1) : Int).toNat (wrap64 ((rd x13 ((rd_T64 x6 x14).f1)) + 1))) (wrap64 (x14 + 1))) else (none)) else (none))) else (none)) else (none)) else (none)) else (none)))))) else (none)) else (jalousielaw11_PatchParts.l1 k x1 x5 x8 x10 x12 x13 0)
def jalousielaw11_PatchParts.l1 : Nat → List (S66) → List (S66) → List Int → List Int → List Int → List Int → Int → Option (Bool)
 | 0, _, _, _, _, _, _, _ => none
 | k + 1, x1, x5, x8, x10, x12, x13, x17 => if x17 < (x8.length : Int) then (if 0 ≤ x17 then (if (rd x8 x17) < 0 then (some false) else (if (rd x8 x17) ≥ (x1.length : Int) then (some false) else (if 0 ≤ (rd x8 x17) then (if (rd x8 x17) < (x12.length : Int) then (jalousielaw11_PatchParts.l1 k x1 x5 x8 x10 (x12.set ((rd x8 x17) : Int).toNat (wrap64 ((rd x12 (rd x8 x17)) + 1))) x13 (wrap64 (x17 + 1))) else (none)) else (none)))) else (none)) else (jalousielaw11_PatchParts.l2 k x5 x10 x12 x13 0)
def jalousielaw11_PatchParts.l2 : Nat → List (S66) → List Int → List Int → List Int → Int → Option (Bool)
 | 0, _, _, _, _, _ => none
 | k + 1, x5, x10, x12, x13, x18 => if x18 < (x10.length : Int) then (if 0 ≤ x18 then (if (rd x10 x18) < 0 then (some false) else (if (rd x10 x18) ≥ (x5.length : Int) then (some false) else (if 0 ≤ (rd x10 x18) then (if (rd x10 x18) < (x13.length : Int) then (jalousielaw11_PatchParts.l2 k x5 x10 x12 (x13.set ((rd x10 x18) : Int).toNat (wrap64 ((rd x13 (rd x10 x18)) + 1))) (wrap64 (x18 + 1))) else (none)) else (none)))) else (none)) else (jalousielaw11_PatchParts.l3 k x12 x13 0)
def jalousielaw11_PatchParts.l3 : Nat → List Int → List Int → Int → Option (Bool)
 | 0, _, _, _ => none
 | k + 1, x12, x13, x19 => if x19 < (x12.length : Int) then (if 0 ≤ x19 then (if (rd x12 x19) = 1 then (jalousielaw11_PatchParts.l3 k x12 x13 (wrap64 (x19 + 1))) else (some false)) else (none)) else (jalousielaw11_PatchParts.l4 k x13 0)
def jalousielaw11_PatchParts.l4 : Nat → List Int → Int → Option (Bool)
 | 0, _, _ => none
 | k + 1, x13, x20 => if x20 < (x13.length : Int) then (if 0 ≤ x20 then (if (rd x13 x20) = 1 then (jalousielaw11_PatchParts.l4 k x13 (wrap64 (x20 + 1))) else (some false)) else (none)) else ((jalousielaw11_live.f k).bind fun t586 => (some t586))
end
def jalousielaw11_PatchParts.f (k : Nat) (l0 : List (S44)) (l1 : List (S66)) : Option (Bool) := if 0 ≤ (mn (l0.length : Int) 20) then (if (mn (l0.length : Int) 20) ≤ (l0.length : Int) then ((some (l0.take ((mn (l0.length : Int) 20) : Int).toNat : List (S44))).bind fun y540 => ((patch_Apply.f k y540 l1).bind fun bt544 => ((patch_Gone.f k y540 l1).bind fun bt551 => ((patch_Made.f k y540 l1).bind fun bt555 => (if bt544.2.2 = 0 then (if 0 ≤ (l1.length : Int) then (if ((l1.length : Int) : Int).toNat ≤ 35184372088832 then (if 0 ≤ (bt544.1.length : Int) then (if ((bt544.1.length : Int) : Int).toNat ≤ 35184372088832 then (jalousielaw11_PatchParts.l0 k l1 bt544.1 bt544.2.1 bt551.1 bt555.1 (List.replicate ((l1.length : Int) : Int).toNat 0) (List.replicate ((bt544.1.length : Int) : Int).toNat 0) 0) else (none)) else (none)) else (none)) else (none)) else ((jalousielaw11_live.f k).bind fun t559 => (if t559 = true then (some ((wrap64 ((wrap64 ((wrap64 ((bt544.1.length : Int) + (bt544.2.1.length : Int))) + (bt551.1.length : Int))) + (bt555.1.length : Int))) == 0)) else (some false)))))))) else (none)) else (none)
def jalousielaw11_PatchParts.T7 : Bool × List (List Nat × List Nat) := (true, [([], []), ([0], [0]), ([1, 1], [1]), ([], []), ([3], [3]), ([4, 4], [4]), ([2, 0, 1, 2], [2]), ([5, 6, 0, 1, 2, 3, 4, 5, 6], [5])])
def jalousielaw11_PatchParts.B7 : List Nat := [0, 1, 3, 0, 8, 24, 7, 127]
theorem jalousielaw11_PatchParts.tab7 : rtab .any (opsOf Try.f9 7) = jalousielaw11_PatchParts.T7 := by kernel_rfl
theorem jalousielaw11_PatchParts.bits7 : waitsOk jalousielaw11_PatchParts.T7.2 jalousielaw11_PatchParts.B7 = true := by kernel_rfl
def jalousielaw11_PatchParts.T11 : Bool × List (List Nat × List Nat) := (true, [([], []), ([], []), ([0, 1], [0, 1]), ([2], [2]), ([3], [3]), ([], []), ([], []), ([5, 6], [5, 6]), ([7], [7]), ([8], [8]), ([4, 0, 1, 2, 3, 4], [4]), ([9, 10, 0, 1, 2, 3, 4, 5, 6, 7, 8, 9, 10], [9])])
def jalousielaw11_PatchParts.B11 : List Nat := [0, 0, 3, 7, 15, 0, 0, 96, 224, 480, 31, 2047]
theorem jalousielaw11_PatchParts.tab11 : rtab .any (opsOf Try.f9 11) = jalousielaw11_PatchParts.T11 := by kernel_rfl
theorem jalousielaw11_PatchParts.bits11 : waitsOk jalousielaw11_PatchParts.T11.2 jalousielaw11_PatchParts.B11 = true := by kernel_rfl
def jalousielaw11_PatchParts.T12 : Bool × List (List Nat × List Nat) := (true, [([], []), ([0], [0]), ([1], [1]), ([2], [2]), ([2], [2]), ([4, 2], [2, 4]), ([3, 5, 2], [2, 3, 5]), ([2, 6], [2, 6]), ([7, 2], [7]), ([8], [8]), ([9, 8], [8, 9]), ([8, 10], [8, 10]), ([11, 8], [11]), ([12], [12]), ([12], [12]), ([14, 12], [12, 14]), ([13, 15, 12], [12, 13, 15]), ([12, 16], [12, 16]), ([17, 12], [17]), ([18], [18]), ([18], [18]), ([19, 20, 18], [18, 19, 20]), ([21, 18], [18, 21]), ([18], [18]), ([18], [18]), ([23, 24, 18], [18, 23, 24]), ([25, 18], [18, 25]), ([22, 26, 18], [18, 22, 26]), ([18, 27], [18, 27])])
def jalousielaw11_PatchParts.B12 : List Nat := [0, 1, 3, 7, 7, 23, 63, 127, 255, 511, 1023, 2047, 4095, 8191, 8191, 24575, 65535, 131071, 262143, 524287, 524287, 2097151, 4194303, 524287, 524287, 25690111, 59244543, 134217727, 268435455]
theorem jalousielaw11_PatchParts.tab12 : rtab .any (opsOf Try.f9 12) = jalousielaw11_PatchParts.T12 := by kernel_rfl
theorem jalousielaw11_PatchParts.bits12 : waitsOk jalousielaw11_PatchParts.T12.2 jalousielaw11_PatchParts.B12 = true := by kernel_rfl
set_option maxHeartbeats 8000000 in
set_option maxRecDepth 100000 in
theorem jalousielaw11_PatchParts.calls (k : Nat) (A0 : Option Addr) (c0 : Nat) (l0 : List (S44)) (A1 : Option Addr) (c1 : Nat) (l1 : List (S66)) (r : Bool) (w : World) (hr0 : Kd.C k44 w A0 l0.length l0) (hc0 : l0.length ≤ c0) (hr1 : Kd.C k66 w A1 l1.length l1) (hc1 : l1.length ≤ c1) (h : jalousielaw11_PatchParts.f k l0 l1 = some r) (HRT : Aside0 (r = true) := by first | exact ⟨rfl⟩ | assumption) :
  Calls Try.prog 9 #[.slice A0 l0.length c0, .slice A1 l1.length c1] w fun e w' => e = .returned (.bool r) ∧ Below w.heap.size w w' := by
 have hu66 := Try.underlying66
 have HR0 := Aside0.mk hr0
 have HC0 := Aside0.mk hc0
 clear hr0 hc0
 have HR1 := Aside0.mk hr1
 have HC1 := Aside0.mk hc1
 clear hr1 hc1
 have HB := Aside0.mk (Below.refl w.heap.size w)
 have H : (if 0 ≤ (mn (l0.length : Int) 20) then (if (mn (l0.length : Int) 20) ≤ (l0.length : Int) then ((some (l0.take ((mn (l0.length : Int) 20) : Int).toNat : List (S44))).bind fun y540 => ((patch_Apply.f k y540 l1).bind fun bt544 => ((patch_Gone.f k y540 l1).bind fun bt551 => ((patch_Made.f k y540 l1).bind fun bt555 => (if bt544.2.2 = 0 then (if 0 ≤ (l1.length : Int) then (if ((l1.length : Int) : Int).toNat ≤ 35184372088832 then (if 0 ≤ (bt544.1.length : Int) then (if ((bt544.1.length : Int) : Int).toNat ≤ 35184372088832 then (jalousielaw11_PatchParts.l0 k l1 bt544.1 bt544.2.1 bt551.1 bt555.1 (List.replicate ((l1.length : Int) : Int).toNat 0) (List.replicate ((bt544.1.length : Int) : Int).toNat 0) 0) else (none)) else (none)) else (none)) else (none)) else ((jalousielaw11_live.f k).bind fun t559 => (if t559 = true then (some ((wrap64 ((wrap64 ((wrap64 ((bt544.1.length : Int) + (bt544.2.1.length : Int))) + (bt551.1.length : Int))) + (bt555.1.length : Int))) == 0)) else (some false)))))))) else (none)) else (none)) = some r := h
 clear h
 obtain ⟨ji3, hji3⟩ : ∃ j_ : Int, (mn (l0.length : Int) 20) = j_ := ⟨_, rfl⟩
 replace H : (if 0 ≤ (ji3) then (if (ji3) ≤ (l0.length : Int) then ((some (l0.take ((ji3) : Int).toNat : List (S44))).bind fun y540 => ((patch_Apply.f k y540 l1).bind fun bt544 => ((patch_Gone.f k y540 l1).bind fun bt551 => ((patch_Made.f k y540 l1).bind fun bt555 => (if bt544.2.2 = 0 then (if 0 ≤ (l1.length : Int) then (if ((l1.length : Int) : Int).toNat ≤ 35184372088832 then (if 0 ≤ (bt544.1.length : Int) then (if ((bt544.1.length : Int) : Int).toNat ≤ 35184372088832 then (jalousielaw11_PatchParts.l0 k l1 bt544.1 bt544.2.1 bt551.1 bt555.1 (List.replicate ((l1.length : Int) : Int).toNat 0) (List.replicate ((bt544.1.length : Int) : Int).toNat 0) 0) else (none)) else (none)) else (none)) else (none)) else ((jalousielaw11_live.f k).bind fun t559 => (if t559 = true then (some ((wrap64 ((wrap64 ((wrap64 ((bt544.1.length : Int) + (bt544.2.1.length : Int))) + (bt551.1.length : Int))) + (bt555.1.length : Int))) == 0)) else (some false)))))))) else (none)) else (none)) = some r := by first | (rw [hji3] at H; exact H) | (simp only [hji3] at H ⊢; exact H)
 (try (have hji3h : ji3 ≤ 20 := by (rw [← hji3]; unfold mn; (repeat' split) <;> omega)))
 (try (have hji3g : ji3 ≤ 64 := by omega))
 (try (have hji3l : 0 ≤ ji3 := by (rw [← hji3]; unfold mn; (repeat' split) <;> omega)))
 (try (have hji3m : 0 ≤ ji3 := by omega))
 have hji3_ : (if 20 < (l0.length : Int) then 20 else (l0.length : Int)) = ji3 := hji3
 by_cases c4 : 0 ≤ (ji3)
 ·rw [if_pos c4] at H
  have c4b0 := eq_true c4
  have c4b1 : decide (0 ≤ (ji3)) = true := decide_eq_true c4
  clear c4
  by_cases c5 : (ji3) ≤ (l0.length : Int)
  ·rw [if_pos c5] at H
   have c5b0 := eq_true c5
   have c5b1 : decide ((ji3) ≤ (l0.length : Int)) = true := decide_eq_true c5
   clear c5
   obtain ⟨y540, hy540⟩ : ∃ y_ : List (S44), y_ = (l0.take ((ji3) : Int).toNat) := ⟨_, rfl⟩
   replace H : ((patch_Apply.f k y540 l1).bind fun bt544 => ((patch_Gone.f k y540 l1).bind fun bt551 => ((patch_Made.f k y540 l1).bind fun bt555 => (if bt544.2.2 = 0 then (if 0 ≤ (l1.length : Int) then (if ((l1.length : Int) : Int).toNat ≤ 35184372088832 then (if 0 ≤ (bt544.1.length : Int) then (if ((bt544.1.length : Int) : Int).toNat ≤ 35184372088832 then (jalousielaw11_PatchParts.l0 k l1 bt544.1 bt544.2.1 bt551.1 bt555.1 (List.replicate ((l1.length : Int) : Int).toNat 0) (List.replicate ((bt544.1.length : Int) : Int).toNat 0) 0) else (none)) else (none)) else (none)) else (none)) else ((jalousielaw11_live.f k).bind fun t559 => (if t559 = true then (some ((wrap64 ((wrap64 ((wrap64 ((bt544.1.length : Int) + (bt544.2.1.length : Int))) + (bt551.1.length : Int))) + (bt555.1.length : Int))) == 0)) else (some false))))))) = some r := by first | (rw [hy540]; with_reducible exact H) | (have H2_ := (Option.bind_some _ _).symm.trans H; rw [hy540]; with_reducible exact H2_) | (have H2_ := (Option.bind_some _ _).symm.trans H; with_reducible exact H2_) | with_reducible exact H | (rw [hy540]; exact H) | exact H
   have Ny540 := Aside0.mk hy540
   clear hy540
   replace H := Option.bind_eq_some_iff.mp H
   obtain ⟨⟨t544, t545, t546⟩, A60, H⟩ := H
   replace H : ((patch_Gone.f k y540 l1).bind fun bt551 => ((patch_Made.f k y540 l1).bind fun bt555 => (if t546 = 0 then (if 0 ≤ (l1.length : Int) then (if ((l1.length : Int) : Int).toNat ≤ 35184372088832 then (if 0 ≤ (t544.length : Int) then (if ((t544.length : Int) : Int).toNat ≤ 35184372088832 then (jalousielaw11_PatchParts.l0 k l1 t544 t545 bt551.1 bt555.1 (List.replicate ((l1.length : Int) : Int).toNat 0) (List.replicate ((t544.length : Int) : Int).toNat 0) 0) else (none)) else (none)) else (none)) else (none)) else ((jalousielaw11_live.f k).bind fun t559 => (if t559 = true then (some ((wrap64 ((wrap64 ((wrap64 ((t544.length : Int) + (t545.length : Int))) + (bt551.1.length : Int))) + (bt555.1.length : Int))) == 0)) else (some false)))))) = some r := H
   have A6 := Aside0.mk A60
   clear A60
   replace H := Option.bind_eq_some_iff.mp H
   obtain ⟨⟨t551, t552⟩, A70, H⟩ := H
   replace H : ((patch_Made.f k y540 l1).bind fun bt555 => (if t546 = 0 then (if 0 ≤ (l1.length : Int) then (if ((l1.length : Int) : Int).toNat ≤ 35184372088832 then (if 0 ≤ (t544.length : Int) then (if ((t544.length : Int) : Int).toNat ≤ 35184372088832 then (jalousielaw11_PatchParts.l0 k l1 t544 t545 t551 bt555.1 (List.replicate ((l1.length : Int) : Int).toNat 0) (List.replicate ((t544.length : Int) : Int).toNat 0) 0) else (none)) else (none)) else (none)) else (none)) else ((jalousielaw11_live.f k).bind fun t559 => (if t559 = true then (some ((wrap64 ((wrap64 ((wrap64 ((t544.length : Int) + (t545.length : Int))) + (t551.length : Int))) + (bt555.1.length : Int))) == 0)) else (some false))))) = some r := H
   have A7 := Aside0.mk A70
   clear A70
   replace H := Option.bind_eq_some_iff.mp H
   obtain ⟨⟨t555, t556⟩, A80, H⟩ := H
   replace H : (if t546 = 0 then (if 0 ≤ (l1.length : Int) then (if ((l1.length : Int) : Int).toNat ≤ 35184372088832 then (if 0 ≤ (t544.length : Int) then (if ((t544.length : Int) : Int).toNat ≤ 35184372088832 then (jalousielaw11_PatchParts.l0 k l1 t544 t545 t551 t555 (List.replicate ((l1.length : Int) : Int).toNat 0) (List.replicate ((t544.length : Int) : Int).toNat 0) 0) else (none)) else (none)) else (none)) else (none)) else ((jalousielaw11_live.f k).bind fun t559 => (if t559 = true then (some ((wrap64 ((wrap64 ((wrap64 ((t544.length : Int) + (t545.length : Int))) + (t551.length : Int))) + (t555.length : Int))) == 0)) else (some false)))) = some r := H
   have A8 := Aside0.mk A80
   clear A80
   by_cases c9 : t546 = 0
   ·rw [if_pos c9] at H
    have c9b0 : (t546 == 0) = true := beq_iff_eq.mpr c9
    have c9b1 : (t546 != 0) = false := bne_eq_false_iff_eq.mpr c9
    clear c9
    by_cases c10 : 0 ≤ (l1.length : Int)
    ·rw [if_pos c10] at H
     have c10b0 := eq_true c10
     have c10b1 : decide (0 ≤ (l1.length : Int)) = true := decide_eq_true c10
     clear c10
     by_cases c11 : ((l1.length : Int) : Int).toNat ≤ 35184372088832
     ·rw [if_pos c11] at H
      have c11b0 := eq_true c11
      have c11b1 : decide (((l1.length : Int) : Int).toNat ≤ 35184372088832) = true := decide_eq_true c11
      clear c11
      obtain ⟨y560, hy560⟩ : ∃ y_ : List Int, y_ = (List.replicate ((l1.length : Int) : Int).toNat 0) := ⟨_, rfl⟩
      replace H : (if 0 ≤ (t544.length : Int) then (if ((t544.length : Int) : Int).toNat ≤ 35184372088832 then (jalousielaw11_PatchParts.l0 k l1 t544 t545 t551 t555 y560 (List.replicate ((t544.length : Int) : Int).toNat 0) 0) else (none)) else (none)) = some r := by first | (rw [hy560]; with_reducible exact H) | (have H2_ := (Option.bind_some _ _).symm.trans H; rw [hy560]; with_reducible exact H2_) | (have H2_ := (Option.bind_some _ _).symm.trans H; with_reducible exact H2_) | with_reducible exact H | (rw [hy560]; exact H) | exact H
      have Ny560 := Aside0.mk hy560
      clear hy560
      by_cases c12 : 0 ≤ (t544.length : Int)
      ·rw [if_pos c12] at H
       have c12b0 := eq_true c12
       have c12b1 : decide (0 ≤ (t544.length : Int)) = true := decide_eq_true c12
       clear c12
       by_cases c13 : ((t544.length : Int) : Int).toNat ≤ 35184372088832
       ·rw [if_pos c13] at H
        have c13b0 := eq_true c13
        have c13b1 : decide (((t544.length : Int) : Int).toNat ≤ 35184372088832) = true := decide_eq_true c13
        clear c13
        obtain ⟨y563, hy563⟩ : ∃ y_ : List Int, y_ = (List.replicate ((t544.length : Int) : Int).toNat 0) := ⟨_, rfl⟩
        replace H : (jalousielaw11_PatchParts.l0 k l1 t544 t545 t551 t555 y560 y563 0) = some r := by first | (rw [hy563]; with_reducible exact H) | (have H2_ := (Option.bind_some _ _).symm.trans H; rw [hy563]; with_reducible exact H2_) | (have H2_ := (Option.bind_some _ _).symm.trans H; with_reducible exact H2_) | with_reducible exact H | (rw [hy563]; exact H) | exact H
        have Ny563 := Aside0.mk hy563
        clear hy563
        have H' := Aside0.mk H
        clear H
        have q14 : ((ji3) : Int) ≤ ((l0.length : Int) : Int) := of_decide_eq_true (by first | (with_reducible assumption) | assumption)
        obtain ⟨i014, hi014, _, hsz14, _⟩ := info_parts info44
        have hroom14 : l0.length ≤ c0 := HC0.out
        have hC14 : Kd.C k44 _ A0 l0.length l0 := HR0.out
        have hcut14 := cut_to (P := Try.prog) 25 44 .i64 Try.underlying25 hi014 A0 l0.length c0 (ji3) (of_decide_eq_true (by first | (with_reducible assumption) | assumption)) q14 hroom14
        have hr14 := Kd.C_take (m := ((ji3) : Int).toNat) hC14 (by omega)
        have hy14 : y540.length = ((ji3) : Int).toNat := (by rw [Ny540.out, List.length_take]; omega)
        rw [← Ny540.out] at hr14
        rw [← hy14] at hcut14
        have HR543 := Aside0.mk hr14
        have HC543 := Aside0.mk (show y540.length ≤ c0 from by omega)
        clear hr14 hC14 hroom14 hi014 hsz14
        have KY14 := Aside0.mk hy14
        clear hy14
        replace q14 := eq_true q14
        go_enter Try.func9, Try.ntmps9
        try go_wp2_with (first | ((with_reducible refine gate_callee (f := 28) rfl ?_); refine goesL_ (some 29) rfl rfl Try.func28 (by kernel_rfl) rfl #[.slice A0 y540.length c0, .slice A1 l1.length c1] rfl (by (try simp only [List.map_toArray, List.map_cons, List.map_nil]); first | done | rfl | (simp only [List.length_drop, List.length_take]; rfl)) ?_; (with_reducible refine (patch_Apply.calls k _ _ y540 _ _ l1 t544 t545 t546 _ ?side1 ?side2 ?side3 ?side4 A6.out).mono ?_); (case side1 => repeat (first | exact HR543.out | (with_reducible refine Kd.C_alloc ?_ _) | (with_reducible refine Kd.C_drewN ?_ _) | (with_reducible refine Kd.C_drew ?_))); (case side2 => exact HC543.out); (case side3 => repeat (first | exact HR1.out | (with_reducible refine Kd.C_alloc ?_ _) | (with_reducible refine Kd.C_drewN ?_ _) | (with_reducible refine Kd.C_drew ?_))); (case side4 => exact HC1.out); rintro e w15 ⟨v547, v549, rfl, ho0, ho1, hb⟩; refine ⟨_, rfl, ?_⟩; have n0_ := Aside0.mk (Kd.R_lower ho0 (below_size (by repeat (first | (with_reducible first | exact HB.out | apply below_alloc | apply pw_below_drewN | apply below_drew1) | exact HB.out)))); have n1_ := Aside0.mk (Kd.R_lower ho1 (below_size (by repeat (first | (with_reducible first | exact HB.out | apply below_alloc | apply pw_below_drewN | apply below_drew1) | exact HB.out)))); have n2_ := Aside0.mk (below_step (by repeat (first | (with_reducible first | exact HB.out | apply below_alloc | apply pw_below_drewN | apply below_drew1) | exact HB.out)) hb); clear HB; have HO548 := n0_; have HO550 := n1_; have HB := n2_; clear n0_ n1_ n2_; (try clear hb); (try clear hb2); (try clear hk); (try clear hi); (try clear ho0); (try clear ho1)) | ((with_reducible refine gate_callee (f := 29) rfl ?_); refine goesL_ (some 36) rfl rfl Try.func29 (by kernel_rfl) rfl #[.slice A0 y540.length c0, .slice A1 l1.length c1] rfl (by (try simp only [List.map_toArray, List.map_cons, List.map_nil]); first | done | rfl | (simp only [List.length_drop, List.length_take]; rfl)) ?_; (with_reducible refine (patch_Gone.calls k _ _ y540 _ _ l1 t551 t552 _ ?side1 ?side2 ?side3 ?side4 A7.out).mono ?_); (case side1 => repeat (first | exact (Kd.C_below HR543.out HB.out) | (with_reducible refine Kd.C_alloc ?_ _) | (with_reducible refine Kd.C_drewN ?_ _) | (with_reducible refine Kd.C_drew ?_))); (case side2 => exact HC543.out); (case side3 => repeat (first | exact (Kd.C_below HR1.out HB.out) | (with_reducible refine Kd.C_alloc ?_ _) | (with_reducible refine Kd.C_drewN ?_ _) | (with_reducible refine Kd.C_drew ?_))); (case side4 => exact HC1.out); rintro e w16 ⟨v553, rfl, ho0, hb⟩; refine ⟨_, rfl, ?_⟩; have n0_ := Aside0.mk (Kd.R_below (by (with_reducible repeat first|apply zr1|apply zr2|apply zr3); exact HO548.out) hb); have n1_ := Aside0.mk (Kd.R_below (by (with_reducible repeat first|apply zr1|apply zr2|apply zr3); exact HO550.out) hb); have n2_ := Aside0.mk (Kd.R_lower ho0 (below_size (by repeat (first | (with_reducible first | exact HB.out | apply below_alloc | apply pw_below_drewN | apply below_drew1) | exact HB.out)))); have n3_ := Aside0.mk (below_step (by repeat (first | (with_reducible first | exact HB.out | apply below_alloc | apply pw_below_drewN | apply below_drew1) | exact HB.out)) hb); clear HO548; clear HO550; clear HB; have HO548 := n0_; have HO550 := n1_; have HO554 := n2_; have HB := n3_; clear n0_ n1_ n2_ n3_; (try clear hb); (try clear hb2); (try clear hk); (try clear hi); (try clear ho0)) | ((with_reducible refine gate_callee (f := 30) rfl ?_); refine goesL_ (some 42) rfl rfl Try.func30 (by kernel_rfl) rfl #[.slice A0 y540.length c0, .slice A1 l1.length c1] rfl (by (try simp only [List.map_toArray, List.map_cons, List.map_nil]); first | done | rfl | (simp only [List.length_drop, List.length_take]; rfl)) ?_; (with_reducible refine (patch_Made.calls k _ _ y540 _ _ l1 t555 t556 _ ?side1 ?side2 ?side3 ?side4 A8.out).mono ?_); (case side1 => repeat (first | exact (Kd.C_below HR543.out HB.out) | (with_reducible refine Kd.C_alloc ?_ _) | (with_reducible refine Kd.C_drewN ?_ _) | (with_reducible refine Kd.C_drew ?_))); (case side2 => exact HC543.out); (case side3 => repeat (first | exact (Kd.C_below HR1.out HB.out) | (with_reducible refine Kd.C_alloc ?_ _) | (with_reducible refine Kd.C_drewN ?_ _) | (with_reducible refine Kd.C_drew ?_))); (case side4 => exact HC1.out); rintro e w17 ⟨v557, rfl, ho0, hb⟩; refine ⟨_, rfl, ?_⟩; have n0_ := Aside0.mk (Kd.R_below (by (with_reducible repeat first|apply zr1|apply zr2|apply zr3); exact HO548.out) hb); have n1_ := Aside0.mk (Kd.R_below (by (with_reducible repeat first|apply zr1|apply zr2|apply zr3); exact HO550.out) hb); have n2_ := Aside0.mk (Kd.R_elder' (by (with_reducible repeat first|apply zr1|apply zr2|apply zr3); exact HO554.out) (Kd.R_base ho0) hb); have n3_ := Aside0.mk (Kd.R_lower (Kd.R_new' ho0 (Kd.R_lt (by (with_reducible repeat first|apply zr1|apply zr2|apply zr3); exact HO554.out))) (below_size (by repeat (first | (with_reducible first | exact HB.out | apply below_alloc | apply pw_below_drewN | apply below_drew1) | exact HB.out)))); have n4_ := Aside0.mk (below_step (by repeat (first | (with_reducible first | exact HB.out | apply below_alloc | apply pw_below_drewN | apply below_drew1) | exact HB.out)) hb); clear HO548; clear HO550; clear HO554; clear HB; have HO548 := n0_; have HO550 := n1_; have HO554 := n2_; have HO558 := n3_; have HB := n4_; clear n0_ n1_ n2_ n3_ n4_; (try clear hb); (try clear hb2); (try clear hk); (try clear hi); (try clear ho0)))
        have n0_ := Aside0.mk (Kd.R_drew HO548.out)
        have n1_ := Aside0.mk (Kd.R_drew HO550.out)
        have n2_ := Aside0.mk (Kd.R_drew HO554.out)
        have n3_ := Aside0.mk (Kd.R_drew HO558.out)
        have n4_ := Aside0.mk (below_drew1 HB.out)
        clear HO548
        clear HO550
        clear HO554
        clear HO558
        clear HB
        have HO548 := n0_
        have HO550 := n1_
        have HO554 := n2_
        have HO558 := n3_
        have HB := n4_
        clear n0_ n1_ n2_ n3_ n4_
        obtain ⟨Ao19, co19, eo19⟩ := Kd.R_slice HO548.out
        (first | subst eo19 | (injection eo19 with f1_ f2_ f3_; have f4_ := f1_.symm; have f5_ := f3_.symm; clear f1_ f2_ f3_; subst f4_; subst f5_))
        refine start_ (n := 8) (S := fun w' => True) (ds := []) (Sq.bl 8 0) (by kernel_rfl) rfl rfl trivial (fun hHeld => ?_); refine with_tabW jalousielaw11_PatchParts.tab7 jalousielaw11_PatchParts.bits7 (fun HT_ HW_ => ?_)
        generalize w17.drew = w18 at HO548 HO550 HO554 HO558 HB hHeld ⊢
        refine Sq.pu (v := ?_) (a' := ?_) 0 62 (Sq.bl 8 1) (any_of HT_.out (by kernel_rfl)) rfl rfl (fun _ _ _ h => h) (by rfl) ?_ ?_ ?_; rotate_left; (· intro w'; go_simp; with_reducible rfl); rotate_left; (· simp only [Act.put,zp1,zp2,zp3,zp4,zp5]; rfl)
        refine Sq.pu (v := ?_) (a' := ?_) 1 63 (Sq.bl 8 3) (any_of HT_.out (by kernel_rfl)) rfl rfl (fun _ _ _ h => h) (by rfl) ?_ ?_ ?_; rotate_left; (· intro w'; go_simp; with_reducible rfl); rotate_left; (· simp only [Act.put,zp1,zp2,zp3,zp4,zp5]; rfl)
        refine Sq.pu (v := ?_) (a' := ?_) 3 65 (Sq.bl 8 11) (any_of HT_.out (by kernel_rfl)) rfl rfl (fun _ _ _ h => h) (by rfl) ?_ ?_ ?_; rotate_left; (· intro w'; go_simp; with_reducible rfl); rotate_left; (· simp only [Act.put,zp1,zp2,zp3,zp4,zp5]; rfl)
        refine Sq.pu (v := ?_) (a' := ?_) 4 66 (Sq.bl 8 27) (any_of HT_.out (by kernel_rfl)) rfl rfl (fun _ _ _ h => h) (by rfl) ?_ ?_ ?_; rotate_left; (· intro w'; go_simp; with_reducible rfl); rotate_left; (· simp only [Act.put,zp1,zp2,zp3,zp4,zp5]; rfl)
        refine join_ (σ := Value × Value) 1 (Sq.bl 8 127) (fun s_ => [(64, s_.1), (67, s_.2), (12, s_.1)]) (fun s_ w' => (Kd.R k66 66 w' w.heap.size (fun _ => True) (.slice Ao19 t544.length co19) t544) ∧ (Kd.R k64 64 w' w.heap.size (fun _ => True) v549 t545) ∧ (Kd.R (Kd.int .i64) 3 w' w.heap.size (fun k_ => some k_ ≠ (v557 : Value).ownBlock ∧ some k_ ≠ (s_.1 : Value).ownBlock ∧ some k_ ≠ (s_.2 : Value).ownBlock) v553 t551) ∧ (Kd.R (Kd.int .i64) 3 w' w.heap.size (fun k_ => some k_ ≠ (v553 : Value).ownBlock ∧ some k_ ≠ (s_.1 : Value).ownBlock ∧ some k_ ≠ (s_.2 : Value).ownBlock) v557 t555) ∧ (Kd.R (Kd.int .i64) 3 w' w.heap.size (fun k_ => some k_ ≠ (v553 : Value).ownBlock ∧ some k_ ≠ (v557 : Value).ownBlock ∧ some k_ ≠ (s_.2 : Value).ownBlock) s_.1 y560) ∧ (Kd.R (Kd.int .i64) 3 w' w.heap.size (fun k_ => some k_ ≠ (v553 : Value).ownBlock ∧ some k_ ≠ (v557 : Value).ownBlock ∧ some k_ ≠ (s_.1 : Value).ownBlock) s_.2 y563) ∧ (Below w.heap.size w w')) ?_ ?_
        rotate_left
        ·intro hCont
         refine two_ (i := 2) (j := 5) (Ni := some 64) (Nj := some 67) (Sq.bl 8 31) (Sq.bl 8 59) rfl rfl rfl rfl (two_of HT_.out (by kernel_rfl)) (by decide) (by decide) (fun K hK => ?_) (fun K hK => ?_)
         ·skip
          refine Kd.R_make_step (Kd.int .i64) _ 3 (by rfl) (N := 64) rfl 53 _ _ rfl (l1.length : Int) rfl rfl Try.underlying53 (.int .i64 0) 8 info3 rfl (by decide) (by omega) 0 (ok := fun _ => True) (okp := fun _ => True) rfl (fun _ hk => hk) trivial (of_decide_eq_true (by first | (with_reducible assumption) | assumption)) (Nat.le_trans (Nat.mul_le_mul_right _ (of_decide_eq_true (by first | (with_reducible assumption) | assumption) : (l1.length : Int).toNat ≤ 35184372088832)) (by omega)) (Below.refl _ _) (Nat.le_refl _) ?_
          intro v561 w20 ho21 hb hg_ hnew_
          clear hg_ hnew_
          (first | rw [← Ny560.out] at ho21 | (simp only [Int.reduceToNat] at ho21; rw [← Ny560.out] at ho21))
          have n0_ := Aside0.mk (Kd.R_below (by (with_reducible repeat first|apply zr1|apply zr2|apply zr3); exact HO548.out) hb)
          have n1_ := Aside0.mk (Kd.R_below (by (with_reducible repeat first|apply zr1|apply zr2|apply zr3); exact HO550.out) hb)
          have n2_ := Aside0.mk (Kd.R_elder' (by (with_reducible repeat first|apply zr1|apply zr2|apply zr3); exact HO554.out) (Kd.R_base ho21) hb)
          have n3_ := Aside0.mk (Kd.R_elder' (by (with_reducible repeat first|apply zr1|apply zr2|apply zr3); exact HO558.out) (Kd.R_base ho21) hb)
          have n4_ := Aside0.mk (Kd.R_lower (Kd.R_new' (Kd.R_new' ho21 (Kd.R_lt (by (with_reducible repeat first|apply zr1|apply zr2|apply zr3); exact HO554.out))) (Kd.R_lt (by (with_reducible repeat first|apply zr1|apply zr2|apply zr3); exact HO558.out))) (below_size (by repeat (first | (with_reducible first | exact HB.out | apply below_alloc | apply pw_below_drewN | apply below_drew1) | exact HB.out))))
          have n5_ := Aside0.mk (below_step (by repeat (first | (with_reducible first | exact HB.out | apply below_alloc | apply pw_below_drewN | apply below_drew1) | exact HB.out)) hb)
          clear HO548
          clear HO550
          clear HO554
          clear HO558
          clear HB
          have HO548 := n0_
          have HO550 := n1_
          have HO554 := n2_
          have HO558 := n3_
          have HO562 := n4_
          have HB := n5_
          clear n0_ n1_ n2_ n3_ n4_ n5_
          clear hb ho21
          refine hK.out _ _ trivial (fun hHeld => ?_)
          clear hK K
          refine norm_ (a' := ?_) ?_ ?_
          rotate_left
          ·show Act.put _ (some 64) _ = _
           simp only [Act.put,zp1,zp2,zp3,zp4,zp5]
           rfl
          refine Sq.pu (v := ?_) (a' := ?_) 6 12 (Sq.bl 8 95) (any_of HT_.out (by kernel_rfl)) rfl rfl (fun _ _ _ h => h) (by rfl) ?_ ?_ ?_; rotate_left; (· intro w'; go_simp; with_reducible rfl); rotate_left; (· simp only [Act.put,zp1,zp2,zp3,zp4,zp5]; rfl)
          refine one_ (i := 5) (N := some 67) (Sq.bl 8 127) rfl rfl (one_of HT_.out (by kernel_rfl)) (by decide) (fun K hK => ?_)
          refine Kd.R_make_step (Kd.int .i64) _ 3 (by rfl) (N := 67) rfl 53 _ _ rfl (t544.length : Int) rfl rfl Try.underlying53 (.int .i64 0) 8 info3 rfl (by decide) (by omega) 0 (ok := fun _ => True) (okp := fun _ => True) rfl (fun _ hk => hk) trivial (of_decide_eq_true (by first | (with_reducible assumption) | assumption)) (Nat.le_trans (Nat.mul_le_mul_right _ (of_decide_eq_true (by first | (with_reducible assumption) | assumption) : (t544.length : Int).toNat ≤ 35184372088832)) (by omega)) (Below.refl _ _) (Nat.le_refl _) ?_
          intro v564 w22 ho23 hb hg_ hnew_
          clear hg_ hnew_
          (first | rw [← Ny563.out] at ho23 | (simp only [Int.reduceToNat] at ho23; rw [← Ny563.out] at ho23))
          have n0_ := Aside0.mk (Kd.R_below (by (with_reducible repeat first|apply zr1|apply zr2|apply zr3); exact HO548.out) hb)
          have n1_ := Aside0.mk (Kd.R_below (by (with_reducible repeat first|apply zr1|apply zr2|apply zr3); exact HO550.out) hb)
          have n2_ := Aside0.mk (Kd.R_elder' (by (with_reducible repeat first|apply zr1|apply zr2|apply zr3); exact HO554.out) (Kd.R_base ho23) hb)
          have n3_ := Aside0.mk (Kd.R_elder' (by (with_reducible repeat first|apply zr1|apply zr2|apply zr3); exact HO558.out) (Kd.R_base ho23) hb)
          have n4_ := Aside0.mk (Kd.R_elder' (by (with_reducible repeat first|apply zr1|apply zr2|apply zr3); exact HO562.out) (Kd.R_base ho23) hb)
          have n5_ := Aside0.mk (Kd.R_lower (Kd.R_new' (Kd.R_new' (Kd.R_new' ho23 (Kd.R_lt (by (with_reducible repeat first|apply zr1|apply zr2|apply zr3); exact HO554.out))) (Kd.R_lt (by (with_reducible repeat first|apply zr1|apply zr2|apply zr3); exact HO558.out))) (Kd.R_lt (by (with_reducible repeat first|apply zr1|apply zr2|apply zr3); exact HO562.out))) (below_size (by repeat (first | (with_reducible first | exact HB.out | apply below_alloc | apply pw_below_drewN | apply below_drew1) | exact HB.out))))
          have n6_ := Aside0.mk (below_step (by repeat (first | (with_reducible first | exact HB.out | apply below_alloc | apply pw_below_drewN | apply below_drew1) | exact HB.out)) hb)
          clear HO548
          clear HO550
          clear HO554
          clear HO558
          clear HO562
          clear HB
          have HO548 := n0_
          have HO550 := n1_
          have HO554 := n2_
          have HO558 := n3_
          have HO562 := n4_
          have HO565 := n5_
          have HB := n6_
          clear n0_ n1_ n2_ n3_ n4_ n5_ n6_
          clear hb ho23
          refine hK.out _ _ trivial (fun hHeld => ?_)
          clear hK K
          refine norm_ (a' := ?_) ?_ ?_
          rotate_left
          ·show Act.put _ (some 67) _ = _
           simp only [Act.put,zp1,zp2,zp3,zp4,zp5]
           rfl
          exact norm_ (by simp only [putAll, Act.put, List.setIfInBounds_toArray, List.set_cons_zero, List.set_cons_succ]) (hCont (v561, v564) _ ⟨(by (with_reducible repeat first|apply zr1|apply zr2|apply zr3); exact HO548.out), (by (with_reducible repeat first|apply zr1|apply zr2|apply zr3); exact HO550.out), (by (with_reducible repeat first|apply zr1|apply zr2|apply zr3); exact Kd.R_mono HO554.out (fun _ hk => ⟨hk.1.1.2, ⟨hk.1.2, hk.2⟩⟩)), (by (with_reducible repeat first|apply zr1|apply zr2|apply zr3); exact Kd.R_mono HO558.out (fun _ hk => ⟨hk.1.1.2, ⟨hk.1.2, hk.2⟩⟩)), (by (with_reducible repeat first|apply zr1|apply zr2|apply zr3); exact Kd.R_mono HO562.out (fun _ hk => ⟨hk.1.1.2, ⟨hk.1.2, hk.2⟩⟩)), (by (with_reducible repeat first|apply zr1|apply zr2|apply zr3); exact Kd.R_mono HO565.out (fun _ hk => ⟨hk.1.1.2, ⟨hk.1.2, hk.2⟩⟩)), (by repeat (first | (with_reducible first | exact HB.out | apply below_alloc | apply pw_below_drewN | apply below_drew1) | exact HB.out))⟩)
         ·skip
          refine Kd.R_make_step (Kd.int .i64) _ 3 (by rfl) (N := 67) rfl 53 _ _ rfl (t544.length : Int) rfl rfl Try.underlying53 (.int .i64 0) 8 info3 rfl (by decide) (by omega) 0 (ok := fun _ => True) (okp := fun _ => True) rfl (fun _ hk => hk) trivial (of_decide_eq_true (by first | (with_reducible assumption) | assumption)) (Nat.le_trans (Nat.mul_le_mul_right _ (of_decide_eq_true (by first | (with_reducible assumption) | assumption) : (t544.length : Int).toNat ≤ 35184372088832)) (by omega)) (Below.refl _ _) (Nat.le_refl _) ?_
          intro v564 w20 ho21 hb hg_ hnew_
          clear hg_ hnew_
          (first | rw [← Ny563.out] at ho21 | (simp only [Int.reduceToNat] at ho21; rw [← Ny563.out] at ho21))
          have n0_ := Aside0.mk (Kd.R_below (by (with_reducible repeat first|apply zr1|apply zr2|apply zr3); exact HO548.out) hb)
          have n1_ := Aside0.mk (Kd.R_below (by (with_reducible repeat first|apply zr1|apply zr2|apply zr3); exact HO550.out) hb)
          have n2_ := Aside0.mk (Kd.R_elder' (by (with_reducible repeat first|apply zr1|apply zr2|apply zr3); exact HO554.out) (Kd.R_base ho21) hb)
          have n3_ := Aside0.mk (Kd.R_elder' (by (with_reducible repeat first|apply zr1|apply zr2|apply zr3); exact HO558.out) (Kd.R_base ho21) hb)
          have n4_ := Aside0.mk (Kd.R_lower (Kd.R_new' (Kd.R_new' ho21 (Kd.R_lt (by (with_reducible repeat first|apply zr1|apply zr2|apply zr3); exact HO554.out))) (Kd.R_lt (by (with_reducible repeat first|apply zr1|apply zr2|apply zr3); exact HO558.out))) (below_size (by repeat (first | (with_reducible first | exact HB.out | apply below_alloc | apply pw_below_drewN | apply below_drew1) | exact HB.out))))
          have n5_ := Aside0.mk (below_step (by repeat (first | (with_reducible first | exact HB.out | apply below_alloc | apply pw_below_drewN | apply below_drew1) | exact HB.out)) hb)
          clear HO548
          clear HO550
          clear HO554
          clear HO558
          clear HB
          have HO548 := n0_
          have HO550 := n1_
          have HO554 := n2_
          have HO558 := n3_
          have HO565 := n4_
          have HB := n5_
          clear n0_ n1_ n2_ n3_ n4_ n5_
          clear hb ho21
          refine hK.out _ _ trivial (fun hHeld => ?_)
          clear hK K
          refine norm_ (a' := ?_) ?_ ?_
          rotate_left
          ·show Act.put _ (some 67) _ = _
           simp only [Act.put,zp1,zp2,zp3,zp4,zp5]
           rfl
          refine one_ (i := 2) (N := some 64) (Sq.bl 8 63) rfl rfl (one_of HT_.out (by kernel_rfl)) (by decide) (fun K hK => ?_)
          refine Kd.R_make_step (Kd.int .i64) _ 3 (by rfl) (N := 64) rfl 53 _ _ rfl (l1.length : Int) rfl rfl Try.underlying53 (.int .i64 0) 8 info3 rfl (by decide) (by omega) 0 (ok := fun _ => True) (okp := fun _ => True) rfl (fun _ hk => hk) trivial (of_decide_eq_true (by first | (with_reducible assumption) | assumption)) (Nat.le_trans (Nat.mul_le_mul_right _ (of_decide_eq_true (by first | (with_reducible assumption) | assumption) : (l1.length : Int).toNat ≤ 35184372088832)) (by omega)) (Below.refl _ _) (Nat.le_refl _) ?_
          intro v561 w22 ho23 hb hg_ hnew_
          clear hg_ hnew_
          (first | rw [← Ny560.out] at ho23 | (simp only [Int.reduceToNat] at ho23; rw [← Ny560.out] at ho23))
          have n0_ := Aside0.mk (Kd.R_below (by (with_reducible repeat first|apply zr1|apply zr2|apply zr3); exact HO548.out) hb)
          have n1_ := Aside0.mk (Kd.R_below (by (with_reducible repeat first|apply zr1|apply zr2|apply zr3); exact HO550.out) hb)
          have n2_ := Aside0.mk (Kd.R_elder' (by (with_reducible repeat first|apply zr1|apply zr2|apply zr3); exact HO554.out) (Kd.R_base ho23) hb)
          have n3_ := Aside0.mk (Kd.R_elder' (by (with_reducible repeat first|apply zr1|apply zr2|apply zr3); exact HO558.out) (Kd.R_base ho23) hb)
          have n4_ := Aside0.mk (Kd.R_elder' (by (with_reducible repeat first|apply zr1|apply zr2|apply zr3); exact HO565.out) (Kd.R_base ho23) hb)
          have n5_ := Aside0.mk (Kd.R_lower (Kd.R_new' (Kd.R_new' (Kd.R_new' ho23 (Kd.R_lt (by (with_reducible repeat first|apply zr1|apply zr2|apply zr3); exact HO554.out))) (Kd.R_lt (by (with_reducible repeat first|apply zr1|apply zr2|apply zr3); exact HO558.out))) (Kd.R_lt (by (with_reducible repeat first|apply zr1|apply zr2|apply zr3); exact HO565.out))) (below_size (by repeat (first | (with_reducible first | exact HB.out | apply below_alloc | apply pw_below_drewN | apply below_drew1) | exact HB.out))))
          have n6_ := Aside0.mk (below_step (by repeat (first | (with_reducible first | exact HB.out | apply below_alloc | apply pw_below_drewN | apply below_drew1) | exact HB.out)) hb)
          clear HO548
          clear HO550
          clear HO554
          clear HO558
          clear HO565
          clear HB
          have HO548 := n0_
          have HO550 := n1_
          have HO554 := n2_
          have HO558 := n3_
          have HO565 := n4_
          have HO562 := n5_
          have HB := n6_
          clear n0_ n1_ n2_ n3_ n4_ n5_ n6_
          clear hb ho23
          refine hK.out _ _ trivial (fun hHeld => ?_)
          clear hK K
          refine norm_ (a' := ?_) ?_ ?_
          rotate_left
          ·show Act.put _ (some 64) _ = _
           simp only [Act.put,zp1,zp2,zp3,zp4,zp5]
           rfl
          refine Sq.pu (v := ?_) (a' := ?_) 6 12 (Sq.bl 8 127) (any_of HT_.out (by kernel_rfl)) rfl rfl (fun _ _ _ h => h) (by rfl) ?_ ?_ ?_; rotate_left; (· intro w'; go_simp; with_reducible rfl); rotate_left; (· simp only [Act.put,zp1,zp2,zp3,zp4,zp5]; rfl)
          exact norm_ (by simp only [putAll, Act.put, List.setIfInBounds_toArray, List.set_cons_zero, List.set_cons_succ]) (hCont (v561, v564) _ ⟨(by (with_reducible repeat first|apply zr1|apply zr2|apply zr3); exact HO548.out), (by (with_reducible repeat first|apply zr1|apply zr2|apply zr3); exact HO550.out), (by (with_reducible repeat first|apply zr1|apply zr2|apply zr3); exact Kd.R_mono HO554.out (fun _ hk => ⟨hk.1.1.2, ⟨hk.2, hk.1.2⟩⟩)), (by (with_reducible repeat first|apply zr1|apply zr2|apply zr3); exact Kd.R_mono HO558.out (fun _ hk => ⟨hk.1.1.2, ⟨hk.2, hk.1.2⟩⟩)), (by (with_reducible repeat first|apply zr1|apply zr2|apply zr3); exact Kd.R_mono HO562.out (fun _ hk => ⟨hk.1.1.2, ⟨hk.1.2, hk.2⟩⟩)), (by (with_reducible repeat first|apply zr1|apply zr2|apply zr3); exact Kd.R_mono HO565.out (fun _ hk => ⟨hk.1.1.2, ⟨hk.1.2, hk.2⟩⟩)), (by repeat (first | (with_reducible first | exact HB.out | apply below_alloc | apply pw_below_drewN | apply below_drew1) | exact HB.out))⟩)
        rintro ⟨v561, v564⟩ w24 ⟨h0_, h1_, h2_, h3_, h4_, h5_, h6_⟩
        have n0_ : Aside0 (Kd.R k66 66 w24 w.heap.size (fun _ => True) (.slice Ao19 t544.length co19) t544) := ⟨h0_⟩
        have n1_ : Aside0 (Kd.R k64 64 w24 w.heap.size (fun _ => True) v549 t545) := ⟨h1_⟩
        have n2_ : Aside0 (Kd.R (Kd.int .i64) 3 w24 w.heap.size (fun k_ => some k_ ≠ (v557 : Value).ownBlock ∧ some k_ ≠ (v561 : Value).ownBlock ∧ some k_ ≠ (v564 : Value).ownBlock) v553 t551) := ⟨h2_⟩
        have n3_ : Aside0 (Kd.R (Kd.int .i64) 3 w24 w.heap.size (fun k_ => some k_ ≠ (v553 : Value).ownBlock ∧ some k_ ≠ (v561 : Value).ownBlock ∧ some k_ ≠ (v564 : Value).ownBlock) v557 t555) := ⟨h3_⟩
        have n4_ : Aside0 (Kd.R (Kd.int .i64) 3 w24 w.heap.size (fun k_ => some k_ ≠ (v553 : Value).ownBlock ∧ some k_ ≠ (v557 : Value).ownBlock ∧ some k_ ≠ (v564 : Value).ownBlock) v561 y560) := ⟨h4_⟩
        have n5_ : Aside0 (Kd.R (Kd.int .i64) 3 w24 w.heap.size (fun k_ => some k_ ≠ (v553 : Value).ownBlock ∧ some k_ ≠ (v557 : Value).ownBlock ∧ some k_ ≠ (v561 : Value).ownBlock) v564 y563) := ⟨h5_⟩
        have n6_ : Aside0 (Below w.heap.size w w24) := ⟨h6_⟩
        clear HO548
        clear HO550
        clear HO554
        clear HO558
        clear HB
        clear h0_ h1_ h2_ h3_ h4_ h5_ h6_
        have HO548 := n0_
        have HO550 := n1_
        have HO554 := n2_
        have HO558 := n3_
        have HO562 := n4_
        have HO565 := n5_
        have HB := n6_
        clear n0_ n1_ n2_ n3_ n4_ n5_ n6_
        have hHeld := trivial
        refine norm_ (a' := ?_) ?_ ?_
        rotate_left
        ·simp only [putAll, Act.put, List.setIfInBounds_toArray, List.set_cons_zero, List.set_cons_succ]
         rfl
        refine Sq.pu (v := ?_) (a' := ?_) 7 13 (Sq.bl 8 255) (any_of HT_.out (by kernel_rfl)) rfl rfl (fun _ _ _ h => h) (by rfl) ?_ ?_ ?_; rotate_left; (· intro w'; go_simp; with_reducible rfl); rotate_left; (· simp only [Act.put,zp1,zp2,zp3,zp4,zp5]; rfl)
        refine done_ (done_of HT_.out (by kernel_rfl)) ?_
        try go_wp2
        go_loopg [14] k (fun kq v14 w' => ∃ (x12_1 : List Int) (x13_1 : List Int) (x14_1 : Int), v14 = .int .i64 x14_1 ∧ Aside0 (jalousielaw11_PatchParts.l0 kq l1 t544 t545 t551 t555 x12_1 x13_1 x14_1 = some r) ∧ Aside0 (kq ≤ k) ∧ Aside0 (Kd.R k66 66 w' w.heap.size (fun _ => True) (.slice Ao19 t544.length co19) t544) ∧ Aside0 (Kd.R k64 64 w' w.heap.size (fun _ => True) v549 t545) ∧ Aside0 (Kd.R (Kd.int .i64) 3 w' w.heap.size (fun k_ => some k_ ≠ (v557 : Value).ownBlock ∧ some k_ ≠ (v561 : Value).ownBlock ∧ some k_ ≠ (v564 : Value).ownBlock) v553 t551) ∧ Aside0 (Kd.R (Kd.int .i64) 3 w' w.heap.size (fun k_ => some k_ ≠ (v553 : Value).ownBlock ∧ some k_ ≠ (v561 : Value).ownBlock ∧ some k_ ≠ (v564 : Value).ownBlock) v557 t555) ∧ Aside0 (Kd.R (Kd.int .i64) 3 w' w.heap.size (fun k_ => some k_ ≠ (v553 : Value).ownBlock ∧ some k_ ≠ (v557 : Value).ownBlock ∧ some k_ ≠ (v564 : Value).ownBlock) v561 x12_1) ∧ Aside0 (Kd.R (Kd.int .i64) 3 w' w.heap.size (fun k_ => some k_ ≠ (v553 : Value).ownBlock ∧ some k_ ≠ (v557 : Value).ownBlock ∧ some k_ ≠ (v561 : Value).ownBlock) v564 x13_1) ∧ Aside0 (Below w.heap.size w w'))
        case atStart => exact ⟨(y560), (y563), (0), (by first | rfl | (simp; done) | (simp [*]; done)), H', ⟨Nat.le_refl _⟩, ⟨by (with_reducible repeat first|apply zr1|apply zr2|apply zr3); exact HO548.out⟩, ⟨by (with_reducible repeat first|apply zr1|apply zr2|apply zr3); exact HO550.out⟩, ⟨by (with_reducible repeat first|apply zr1|apply zr2|apply zr3); exact HO554.out⟩, ⟨by (with_reducible repeat first|apply zr1|apply zr2|apply zr3); exact HO558.out⟩, ⟨by (with_reducible repeat first|apply zr1|apply zr2|apply zr3); exact HO562.out⟩, ⟨by (with_reducible repeat first|apply zr1|apply zr2|apply zr3); exact HO565.out⟩, ⟨by repeat (first | (with_reducible first | exact HB.out | apply below_alloc | apply pw_below_drewN | apply below_drew1) | exact HB.out)⟩⟩
        case round =>
         clear H'
         try clear c1
         try clear q1
         try clear c2
         try clear p2
         try clear c3
         try clear c4
         try clear c4b0
         try clear c4b1
         try clear c5
         try clear c5b0
         try clear c5b1
         try clear p6
         try clear c9
         try clear c9b0
         try clear c9b1
         try clear c10
         try clear c10b0
         try clear c10b1
         try clear c11
         try clear c11b0
         try clear c11b1
         try clear c12
         try clear c12b0
         try clear c12b1
         try clear c13
         try clear c13b0
         try clear c13b1
         try clear q14
         try clear q14
         obtain ⟨x12_1, x13_1, x14_1, rfl, HA, HK1, HO_5, HO_6, HO_8, HO_10, HO_12, HO_13, HB⟩ := hrel
         cases gk with
         | zero => exact absurd HA.out (by simp [jalousielaw11_PatchParts.l0])
         | succ k1 =>
          have H := HA.out
          clear HA
          simp only [jalousielaw11_PatchParts.l0] at H
          by_cases c25 : x14_1 < (t545.length : Int)
          ·rw [if_pos c25] at H
           have c25b0 : decide (x14_1 < (t545.length : Int)) = true := decide_eq_true c25
           clear c25
           by_cases c26 : 0 ≤ x14_1
           ·rw [if_pos c26] at H
            have c26b0 : decide (0 ≤ x14_1) = true := decide_eq_true c26
            clear c26
            by_cases c27 : ((rd_T64 t545 x14_1).f0) < 0
            ·rw [if_pos c27] at H
             have c27b0 : decide (((rd_T64 t545 x14_1).f0) < 0) = true := decide_eq_true c27
             clear c27
             exact absurd (Option.some.inj (H.trans (congrArg some HRT.out))) (by decide)
            ·rw [if_neg c27] at H
             have c27b0 : decide (((rd_T64 t545 x14_1).f0) < 0) = false := decide_eq_false c27
             clear c27
             by_cases c28 : ((rd_T64 t545 x14_1).f0) ≥ (l1.length : Int)
             ·rw [if_pos c28] at H
              have c28b0 : decide ((l1.length : Int) ≤ ((rd_T64 t545 x14_1).f0)) = true := decide_eq_true c28
              clear c28
              exact absurd (Option.some.inj (H.trans (congrArg some HRT.out))) (by decide)
             ·rw [if_neg c28] at H
              have c28b0 : decide ((l1.length : Int) ≤ ((rd_T64 t545 x14_1).f0)) = false := decide_eq_false c28
              clear c28
              by_cases c29 : ((rd_T64 t545 x14_1).f1) < 0
              ·rw [if_pos c29] at H
               have c29b0 : decide (((rd_T64 t545 x14_1).f1) < 0) = true := decide_eq_true c29
               clear c29
               exact absurd (Option.some.inj (H.trans (congrArg some HRT.out))) (by decide)
              ·rw [if_neg c29] at H
               have c29b0 : decide (((rd_T64 t545 x14_1).f1) < 0) = false := decide_eq_false c29
               clear c29
               by_cases c30 : ((rd_T64 t545 x14_1).f1) ≥ (t544.length : Int)
               ·rw [if_pos c30] at H
                have c30b0 : decide ((t544.length : Int) ≤ ((rd_T64 t545 x14_1).f1)) = true := decide_eq_true c30
                clear c30
                exact absurd (Option.some.inj (H.trans (congrArg some HRT.out))) (by decide)
               ·rw [if_neg c30] at H
                have c30b0 : decide ((t544.length : Int) ≤ ((rd_T64 t545 x14_1).f1)) = false := decide_eq_false c30
                clear c30
                by_cases c31 : 0 ≤ ((rd_T64 t545 x14_1).f0)
                ·rw [if_pos c31] at H
                 have c31b0 : decide (0 ≤ ((rd_T64 t545 x14_1).f0)) = true := decide_eq_true c31
                 clear c31
                 by_cases c32 : ((rd_T64 t545 x14_1).f0) < (l1.length : Int)
                 ·rw [if_pos c32] at H
                  have c32b0 : decide (((rd_T64 t545 x14_1).f0) < (l1.length : Int)) = true := decide_eq_true c32
                  clear c32
                  by_cases c33 : 0 ≤ ((rd_T64 t545 x14_1).f1)
                  ·rw [if_pos c33] at H
                   have c33b0 : decide (0 ≤ ((rd_T64 t545 x14_1).f1)) = true := decide_eq_true c33
                   clear c33
                   by_cases c34 : ((rd_T64 t545 x14_1).f1) < (t544.length : Int)
                   ·rw [if_pos c34] at H
                    have c34b0 : decide (((rd_T64 t545 x14_1).f1) < (t544.length : Int)) = true := decide_eq_true c34
                    clear c34
                    by_cases c35 : (!((((rd_T66 l1 ((rd_T64 t545 x14_1).f0)).f0).toList) == (((rd_T66 t544 ((rd_T64 t545 x14_1).f1)).f0).toList)) || (!(((rd_T66 l1 ((rd_T64 t545 x14_1).f0)).f1) == ((rd_T66 t544 ((rd_T64 t545 x14_1).f1)).f1)))) = true
                    ·rw [if_pos c35] at H
                     have c35b0 : (!((((rd_T66 l1 ((rd_T64 t545 x14_1).f0)).f0).toList) == (((rd_T66 t544 ((rd_T64 t545 x14_1).f1)).f0).toList)) || (!(((rd_T66 l1 ((rd_T64 t545 x14_1).f0)).f1) == ((rd_T66 t544 ((rd_T64 t545 x14_1).f1)).f1)))) = true := c35
                     clear c35
                     exact absurd (Option.some.inj (H.trans (congrArg some HRT.out))) (by decide)
                    ·rw [if_neg c35] at H
                     have c35b0 : (!((((rd_T66 l1 ((rd_T64 t545 x14_1).f0)).f0).toList) == (((rd_T66 t544 ((rd_T64 t545 x14_1).f1)).f0).toList)) || (!(((rd_T66 l1 ((rd_T64 t545 x14_1).f0)).f1) == ((rd_T66 t544 ((rd_T64 t545 x14_1).f1)).f1)))) = false := by simpa using c35
                     clear c35
                     by_cases c36 : ((rd_T64 t545 x14_1).f0) < (x12_1.length : Int)
                     ·rw [if_pos c36] at H
                      have c36b0 : decide (((rd_T64 t545 x14_1).f0) < (x12_1.length : Int)) = true := decide_eq_true c36
                      clear c36
                      obtain ⟨y571, hy571⟩ : ∃ y_ : List Int, y_ = (x12_1.set (((rd_T64 t545 x14_1).f0) : Int).toNat (wrap64 ((rd x12_1 ((rd_T64 t545 x14_1).f0)) + 1))) := ⟨_, rfl⟩
                      replace H : (if ((rd_T64 t545 x14_1).f1) < (x13_1.length : Int) then (jalousielaw11_PatchParts.l0 k1 l1 t544 t545 t551 t555 y571 (x13_1.set (((rd_T64 t545 x14_1).f1) : Int).toNat (wrap64 ((rd x13_1 ((rd_T64 t545 x14_1).f1)) + 1))) (wrap64 (x14_1 + 1))) else (none)) = some r := by first | (rw [hy571]; with_reducible exact H) | (have H2_ := (Option.bind_some _ _).symm.trans H; rw [hy571]; with_reducible exact H2_) | (have H2_ := (Option.bind_some _ _).symm.trans H; with_reducible exact H2_) | with_reducible exact H | (rw [hy571]; exact H) | exact H
                      have Ny571 := Aside0.mk hy571
                      clear hy571
                      by_cases c38 : ((rd_T64 t545 x14_1).f1) < (x13_1.length : Int)
                      ·rw [if_pos c38] at H
                       have c38b0 : decide (((rd_T64 t545 x14_1).f1) < (x13_1.length : Int)) = true := decide_eq_true c38
                       clear c38
                       obtain ⟨y573, hy573⟩ : ∃ y_ : List Int, y_ = (x13_1.set (((rd_T64 t545 x14_1).f1) : Int).toNat (wrap64 ((rd x13_1 ((rd_T64 t545 x14_1).f1)) + 1))) := ⟨_, rfl⟩
                       replace H : (jalousielaw11_PatchParts.l0 k1 l1 t544 t545 t551 t555 y571 y573 (wrap64 (x14_1 + 1))) = some r := by first | (rw [hy573]; with_reducible exact H) | (have H2_ := (Option.bind_some _ _).symm.trans H; rw [hy573]; with_reducible exact H2_) | (have H2_ := (Option.bind_some _ _).symm.trans H; with_reducible exact H2_) | with_reducible exact H | (rw [hy573]; exact H) | exact H
                       have Ny573 := Aside0.mk hy573
                       clear hy573
                       have H' := Aside0.mk H
                       clear H
                       obtain ⟨Ao40, co40, eo40⟩ := Kd.R_slice HO_6.out
                       subst eo40
                       try go_wp2
                       have n0_ := Aside0.mk (Kd.R_drew HO_5.out)
                       have n1_ := Aside0.mk (Kd.R_drew HO_6.out)
                       have n2_ := Aside0.mk (Kd.R_drew HO_8.out)
                       have n3_ := Aside0.mk (Kd.R_drew HO_10.out)
                       have n4_ := Aside0.mk (Kd.R_drew HO_12.out)
                       have n5_ := Aside0.mk (Kd.R_drew HO_13.out)
                       have n6_ := Aside0.mk (below_drew1 HB.out)
                       clear HO_5
                       clear HO_6
                       clear HO_8
                       clear HO_10
                       clear HO_12
                       clear HO_13
                       clear HB
                       have HO_5 := n0_
                       have HO_6 := n1_
                       have HO_8 := n2_
                       have HO_10 := n3_
                       have HO_12 := n4_
                       have HO_13 := n5_
                       have HB := n6_
                       clear n0_ n1_ n2_ n3_ n4_ n5_ n6_
                       have p566 : 0 ≤ (x14_1 : Int) := of_decide_eq_true (by first | (with_reducible assumption) | assumption)
                       have q566 : x14_1 < (t545.length : Int) := of_decide_eq_true (by first | (with_reducible assumption) | assumption)
                       obtain ⟨ad566, e566, hx566_0, hx566_1⟩ := at_T64 (Kd.R_reads' HO_6.out).2.2 x14_1 p566 q566
                       cases e566
                       replace p566 := eq_true p566
                       replace q566 := eq_true q566
                       have p567 : 0 ≤ (x14_1 : Int) := of_decide_eq_true (by first | (with_reducible assumption) | assumption)
                       have q567 : x14_1 < (t545.length : Int) := of_decide_eq_true (by first | (with_reducible assumption) | assumption)
                       obtain ⟨ad567, e567, hx567_0, hx567_1⟩ := at_T64 (Kd.R_reads' HO_6.out).2.2 x14_1 p567 q567
                       obtain rfl : ad566 = ad567 := (by injection e567)
                       replace p567 := eq_true p567
                       replace q567 := eq_true q567
                       refine start_ (n := 12) (S := fun w' => w'.cell? (ad566.add ((x14_1).toNat * 2)) = some (.int .i64 ((rd_T64 t545 x14_1).f0)) ∧ w'.cell? ⟨(ad566.add ((x14_1).toNat * 2)).block, (ad566.add ((x14_1).toNat * 2)).off + 1, none⟩ = some (.int .i64 ((rd_T64 t545 x14_1).f1)) ∧ w'.cell? (ad566.add ((x14_1).toNat * 2)) = some (.int .i64 ((rd_T64 t545 x14_1).f0)) ∧ w'.cell? ⟨(ad566.add ((x14_1).toNat * 2)).block, (ad566.add ((x14_1).toNat * 2)).off + 1, none⟩ = some (.int .i64 ((rd_T64 t545 x14_1).f1))) (ds := []) (Sq.bl 12 0) (by kernel_rfl) rfl rfl ⟨hx566_0, hx566_1, hx567_0, hx567_1⟩ (fun hHeld => ?_); refine with_tabW jalousielaw11_PatchParts.tab11 jalousielaw11_PatchParts.bits11 (fun HT_ HW_ => ?_)
                       generalize wr.drew = w41 at HO_5 HO_6 HO_8 HO_10 HO_12 HO_13 HB hx566_0 hx566_1 hx567_0 hx567_1 hHeld ⊢
                       refine Sq.pu (v := ?_) (a' := ?_) 0 74 (Sq.bl 12 1) (any_of HT_.out (by kernel_rfl)) rfl rfl (fun _ _ _ h => h) (by rfl) ?_ ?_ ?_; rotate_left; (· intro w'; go_simp; with_reducible rfl); rotate_left; (· simp only [Act.put,zp1,zp2,zp3,zp4,zp5]; rfl)
                       refine Sq.pu (v := ?_) (a' := ?_) 1 75 (Sq.bl 12 3) (any_of HT_.out (by kernel_rfl)) rfl rfl (fun _ _ _ h => h) (by rfl) ?_ ?_ ?_; rotate_left; (· intro w'; go_simp; with_reducible rfl); rotate_left; (· simp only [Act.put,zp1,zp2,zp3,zp4,zp5]; rfl)
                       refine Sq.pu (v := ?_) (a' := ?_) 2 76 (Sq.bl 12 7) (any_of HT_.out (by kernel_rfl)) rfl rfl (fun _ _ _ h => h) (by rfl) ?_ ?_ ?_; rotate_left; (· intro w'; go_simp; with_reducible rfl); rotate_left; (· simp only [Act.put,zp1,zp2,zp3,zp4,zp5]; rfl)
                       refine Sq.pu (v := ?_) (a' := ?_) 3 77 (Sq.bl 12 15) (any_of HT_.out (by kernel_rfl)) rfl rfl (fun _ _ _ h => h) (by rfl) ?_ ?_ ?_; rotate_left; (· intro w'; go_simp; with_reducible rfl); rotate_left; (· simp only [Act.put,zp1,zp2,zp3,zp4,zp5]; rfl)
                       refine Sq.pu (v := ?_) (a' := ?_) 5 79 (Sq.bl 12 47) (any_of HT_.out (by kernel_rfl)) rfl rfl (fun _ _ _ h => h) (by rfl) ?_ ?_ ?_; rotate_left; (· intro w'; go_simp; with_reducible rfl); rotate_left; (· simp only [Act.put,zp1,zp2,zp3,zp4,zp5]; rfl)
                       refine Sq.pu (v := ?_) (a' := ?_) 6 80 (Sq.bl 12 111) (any_of HT_.out (by kernel_rfl)) rfl rfl (fun _ _ _ h => h) (by rfl) ?_ ?_ ?_; rotate_left; (· intro w'; go_simp; with_reducible rfl); rotate_left; (· simp only [Act.put,zp1,zp2,zp3,zp4,zp5]; rfl)
                       refine Sq.pu (v := ?_) (a' := ?_) 7 81 (Sq.bl 12 239) (any_of HT_.out (by kernel_rfl)) rfl rfl (fun _ _ _ h => h) (by rfl) ?_ ?_ ?_; rotate_left; (· intro w'; go_simp; with_reducible rfl); rotate_left; (· simp only [Act.put,zp1,zp2,zp3,zp4,zp5]; rfl)
                       refine Sq.pu (v := ?_) (a' := ?_) 8 82 (Sq.bl 12 495) (any_of HT_.out (by kernel_rfl)) rfl rfl (fun _ _ _ h => h) (by rfl) ?_ ?_ ?_; rotate_left; (· intro w'; go_simp; with_reducible rfl); rotate_left; (· simp only [Act.put,zp1,zp2,zp3,zp4,zp5]; rfl)
                       refine take_ (i := 4) (N := some 78) (v := ?_) (a' := ?_) (Sq.bl 12 511) rfl rfl (take_ofW HT_.out HW_.out (by kernel_rfl)) (fun _ _ _ h => h) (Or.inl ⟨by rfl, ?_⟩) hHeld ?_ ?_
                       rotate_left
                       ·rintro w' ⟨s0, s1, s2, s3⟩
                        go_simp
                        with_reducible rfl
                       rotate_left
                       ·simp only [Act.put,zp1,zp2,zp3,zp4,zp5]
                        rfl
                       refine Sq.pu (v := ?_) (a' := ?_) 10 15 (Sq.bl 12 1535) (any_of HT_.out (by kernel_rfl)) rfl rfl (fun _ _ _ h => h) (by rfl) ?_ ?_ ?_; rotate_left; (· intro w'; go_simp; with_reducible rfl); rotate_left; (· simp only [Act.put,zp1,zp2,zp3,zp4,zp5]; rfl)
                       refine take_ (i := 9) (N := some 83) (v := ?_) (a' := ?_) (Sq.bl 12 2047) rfl rfl (take_ofW HT_.out HW_.out (by kernel_rfl)) (fun _ _ _ h => h) (Or.inl ⟨by rfl, ?_⟩) hHeld ?_ ?_
                       rotate_left
                       ·rintro w' ⟨s0, s1, s2, s3⟩
                        go_simp
                        with_reducible rfl
                       rotate_left
                       ·simp only [Act.put,zp1,zp2,zp3,zp4,zp5]
                        rfl
                       refine Sq.pu (v := ?_) (a' := ?_) 11 16 (Sq.bl 12 4095) (any_of HT_.out (by kernel_rfl)) rfl rfl (fun _ _ _ h => h) (by rfl) ?_ ?_ ?_; rotate_left; (· intro w'; go_simp; with_reducible rfl); rotate_left; (· simp only [Act.put,zp1,zp2,zp3,zp4,zp5]; rfl)
                       refine done_ (done_of HT_.out (by kernel_rfl)) ?_
                       try go_wp2
                       have n0_ := Aside0.mk (Kd.R_drew HO_5.out)
                       have n1_ := Aside0.mk (Kd.R_drew HO_6.out)
                       have n2_ := Aside0.mk (Kd.R_drew HO_8.out)
                       have n3_ := Aside0.mk (Kd.R_drew HO_10.out)
                       have n4_ := Aside0.mk (Kd.R_drew HO_12.out)
                       have n5_ := Aside0.mk (Kd.R_drew HO_13.out)
                       have n6_ := Aside0.mk (below_drew1 HB.out)
                       clear HO_5
                       clear HO_6
                       clear HO_8
                       clear HO_10
                       clear HO_12
                       clear HO_13
                       clear HB
                       have HO_5 := n0_
                       have HO_6 := n1_
                       have HO_8 := n2_
                       have HO_10 := n3_
                       have HO_12 := n4_
                       have HO_13 := n5_
                       have HB := n6_
                       clear n0_ n1_ n2_ n3_ n4_ n5_ n6_
                       have p568 : 0 ≤ (((rd_T64 t545 x14_1).f0) : Int) := of_decide_eq_true (by first | (with_reducible assumption) | assumption)
                       have q568 : ((rd_T64 t545 x14_1).f0) < (l1.length : Int) := of_decide_eq_true (by first | (with_reducible assumption) | assumption)
                       obtain ⟨ad568, e568, hx568_0, hx568_1⟩ := at_T66 HR1.out ((rd_T64 t545 x14_1).f0) p568 q568
                       have hw568_1 := hx568_1
                       have hw568_0 := hx568_0
                       cases e568
                       replace hx568_0 := (HB.out.cell (World.block_lt_of_cell? w _ hx568_0)).trans hx568_0
                       replace hx568_1 := (HB.out.cell (World.block_lt_of_cell? w _ hx568_1)).trans hx568_1
                       replace p568 := eq_true p568
                       replace q568 := eq_true q568
                       have p569 : 0 ≤ (((rd_T64 t545 x14_1).f1) : Int) := of_decide_eq_true (by first | (with_reducible assumption) | assumption)
                       have q569 : ((rd_T64 t545 x14_1).f1) < (t544.length : Int) := of_decide_eq_true (by first | (with_reducible assumption) | assumption)
                       obtain ⟨ad569, e569, hx569_0, hx569_1⟩ := at_T66 (Kd.R_reads' HO_5.out).2.2 ((rd_T64 t545 x14_1).f1) p569 q569
                       cases e569
                       replace p569 := eq_true p569
                       replace q569 := eq_true q569
                       refine start_ (n := 29) (S := fun w' => w'.cell? (ad568.add ((((rd_T64 t545 x14_1).f0)).toNat * 2)) = some (.string ((rd_T66 l1 ((rd_T64 t545 x14_1).f0)).f0)) ∧ w'.cell? ⟨(ad568.add ((((rd_T64 t545 x14_1).f0)).toNat * 2)).block, (ad568.add ((((rd_T64 t545 x14_1).f0)).toNat * 2)).off + 1, none⟩ = some (.bool ((rd_T66 l1 ((rd_T64 t545 x14_1).f0)).f1)) ∧ w'.cell? (ad569.add ((((rd_T64 t545 x14_1).f1)).toNat * 2)) = some (.string ((rd_T66 t544 ((rd_T64 t545 x14_1).f1)).f0)) ∧ w'.cell? ⟨(ad569.add ((((rd_T64 t545 x14_1).f1)).toNat * 2)).block, (ad569.add ((((rd_T64 t545 x14_1).f1)).toNat * 2)).off + 1, none⟩ = some (.bool ((rd_T66 t544 ((rd_T64 t545 x14_1).f1)).f1))) (ds := []) (Sq.bl 29 0) (by kernel_rfl) rfl rfl ⟨((HB.out.cell (World.block_lt_of_cell? w _ hw568_0)).trans hw568_0), ((HB.out.cell (World.block_lt_of_cell? w _ hw568_1)).trans hw568_1), hx569_0, hx569_1⟩ (fun hHeld => ?_); refine with_tabW jalousielaw11_PatchParts.tab12 jalousielaw11_PatchParts.bits12 (fun HT_ HW_ => ?_)
                       generalize w41.drew = w42 at HO_5 HO_6 HO_8 HO_10 HO_12 HO_13 HB hx568_0 hx568_1 hx569_0 hx569_1 hHeld ⊢
                       refine Sq.pu (v := ?_) (a' := ?_) 0 84 (Sq.bl 29 1) (any_of HT_.out (by kernel_rfl)) rfl rfl (fun _ _ _ h => h) (by rfl) ?_ ?_ ?_; rotate_left; (· intro w'; go_simp; with_reducible rfl); rotate_left; (· simp only [Act.put,zp1,zp2,zp3,zp4,zp5]; rfl)
                       refine Sq.pu (v := ?_) (a' := ?_) 1 85 (Sq.bl 29 3) (any_of HT_.out (by kernel_rfl)) rfl rfl (fun _ _ _ h => h) (by rfl) ?_ ?_ ?_; rotate_left; (· intro w'; go_simp; with_reducible rfl); rotate_left; (· simp only [Act.put,zp1,zp2,zp3,zp4,zp5]; rfl)
                       refine Sq.pu (v := ?_) (a' := ?_) 2 86 (Sq.bl 29 7) (any_of HT_.out (by kernel_rfl)) rfl rfl (fun _ _ _ h => h) (by rfl) ?_ ?_ ?_; rotate_left; (· intro w'; go_simp; with_reducible rfl); rotate_left; (· simp only [Act.put,zp1,zp2,zp3,zp4,zp5]; rfl)
                       refine Sq.pu (v := ?_) (a' := ?_) 3 87 (Sq.bl 29 15) (any_of HT_.out (by kernel_rfl)) rfl rfl (fun _ _ _ h => h) (by rfl) ?_ ?_ ?_; rotate_left; (· intro w'; go_simp; with_reducible rfl); rotate_left; (· simp only [Act.put,zp1,zp2,zp3,zp4,zp5]; rfl)
                       refine Sq.pu (v := ?_) (a' := ?_) 4 88 (Sq.bl 29 31) (any_of HT_.out (by kernel_rfl)) rfl rfl (fun _ _ _ h => h) (by rfl) ?_ ?_ ?_; rotate_left; (· intro w'; go_simp; with_reducible rfl); rotate_left; (· simp only [Act.put,zp1,zp2,zp3,zp4,zp5]; rfl)
                       refine Sq.pu (v := ?_) (a' := ?_) 5 89 (Sq.bl 29 63) (any_of HT_.out (by kernel_rfl)) rfl rfl (fun _ _ _ h => h) (by rfl) ?_ ?_ ?_; rotate_left; (· intro w'; go_simp; with_reducible rfl); rotate_left; (· simp only [Act.put,zp1,zp2,zp3,zp4,zp5]; rfl)
                       refine Sq.pu (v := ?_) (a' := ?_) 6 90 (Sq.bl 29 127) (any_of HT_.out (by kernel_rfl)) rfl rfl (fun _ _ _ h => h) (by rfl) ?_ ?_ ?_; rotate_left; (· intro w'; go_simp; with_reducible rfl); rotate_left; (· simp only [Act.put,zp1,zp2,zp3,zp4,zp5]; rfl)
                       refine Sq.pu (v := ?_) (a' := ?_) 7 91 (Sq.bl 29 255) (any_of HT_.out (by kernel_rfl)) rfl rfl (fun _ _ _ h => h) (by rfl) ?_ ?_ ?_; rotate_left; (· intro w'; go_simp; with_reducible rfl); rotate_left; (· simp only [Act.put,zp1,zp2,zp3,zp4,zp5]; rfl)
                       refine Sq.pu (v := ?_) (a' := ?_) 8 92 (Sq.bl 29 511) (any_of HT_.out (by kernel_rfl)) rfl rfl (fun _ _ _ h => h) (by rfl) ?_ ?_ ?_; rotate_left; (· intro w'; go_simp; with_reducible rfl); rotate_left; (· simp only [Act.put,zp1,zp2,zp3,zp4,zp5]; rfl)
                       refine Sq.pu (v := ?_) (a' := ?_) 9 93 (Sq.bl 29 1023) (any_of HT_.out (by kernel_rfl)) rfl rfl (fun _ _ _ h => h) (by rfl) ?_ ?_ ?_; rotate_left; (· intro w'; go_simp; with_reducible rfl); rotate_left; (· simp only [Act.put,zp1,zp2,zp3,zp4,zp5]; rfl)
                       refine Sq.pu (v := ?_) (a' := ?_) 10 94 (Sq.bl 29 2047) (any_of HT_.out (by kernel_rfl)) rfl rfl (fun _ _ _ h => h) (by rfl) ?_ ?_ ?_; rotate_left; (· intro w'; go_simp; with_reducible rfl); rotate_left; (· simp only [Act.put,zp1,zp2,zp3,zp4,zp5]; rfl)
                       refine Sq.pu (v := ?_) (a' := ?_) 11 95 (Sq.bl 29 4095) (any_of HT_.out (by kernel_rfl)) rfl rfl (fun _ _ _ h => h) (by rfl) ?_ ?_ ?_; rotate_left; (· intro w'; go_simp; with_reducible rfl); rotate_left; (· simp only [Act.put,zp1,zp2,zp3,zp4,zp5]; rfl)
                       refine Sq.pu (v := ?_) (a' := ?_) 12 96 (Sq.bl 29 8191) (any_of HT_.out (by kernel_rfl)) rfl rfl (fun _ _ _ h => h) (by rfl) ?_ ?_ ?_; rotate_left; (· intro w'; go_simp; with_reducible rfl); rotate_left; (· simp only [Act.put,zp1,zp2,zp3,zp4,zp5]; rfl)
                       refine Sq.pu (v := ?_) (a' := ?_) 13 97 (Sq.bl 29 16383) (any_of HT_.out (by kernel_rfl)) rfl rfl (fun _ _ _ h => h) (by rfl) ?_ ?_ ?_; rotate_left; (· intro w'; go_simp; with_reducible rfl); rotate_left; (· simp only [Act.put,zp1,zp2,zp3,zp4,zp5]; rfl)
                       refine Sq.pu (v := ?_) (a' := ?_) 14 98 (Sq.bl 29 32767) (any_of HT_.out (by kernel_rfl)) rfl rfl (fun _ _ _ h => h) (by rfl) ?_ ?_ ?_; rotate_left; (· intro w'; go_simp; with_reducible rfl); rotate_left; (· simp only [Act.put,zp1,zp2,zp3,zp4,zp5]; rfl)
                       refine Sq.pu (v := ?_) (a' := ?_) 15 99 (Sq.bl 29 65535) (any_of HT_.out (by kernel_rfl)) rfl rfl (fun _ _ _ h => h) (by rfl) ?_ ?_ ?_; rotate_left; (· intro w'; go_simp; with_reducible rfl); rotate_left; (· simp only [Act.put,zp1,zp2,zp3,zp4,zp5]; rfl)
                       refine Sq.pu (v := ?_) (a' := ?_) 16 100 (Sq.bl 29 131071) (any_of HT_.out (by kernel_rfl)) rfl rfl (fun _ _ _ h => h) (by rfl) ?_ ?_ ?_; rotate_left; (· intro w'; go_simp; with_reducible rfl); rotate_left; (· simp only [Act.put,zp1,zp2,zp3,zp4,zp5]; rfl)
                       refine Sq.pu (v := ?_) (a' := ?_) 17 101 (Sq.bl 29 262143) (any_of HT_.out (by kernel_rfl)) rfl rfl (fun _ _ _ h => h) (by rfl) ?_ ?_ ?_; rotate_left; (· intro w'; go_simp; with_reducible rfl); rotate_left; (· simp only [Act.put,zp1,zp2,zp3,zp4,zp5]; rfl)
                       refine Sq.pu (v := ?_) (a' := ?_) 18 102 (Sq.bl 29 524287) (any_of HT_.out (by kernel_rfl)) rfl rfl (fun _ _ _ h => h) (by rfl) ?_ ?_ ?_; rotate_left; (· intro w'; go_simp; with_reducible rfl); rotate_left; (· simp only [Act.put,zp1,zp2,zp3,zp4,zp5]; rfl)
                       refine Sq.pu (v := ?_) (a' := ?_) 19 103 (Sq.bl 29 1048575) (any_of HT_.out (by kernel_rfl)) rfl rfl (fun _ _ _ h => h) (by rfl) ?_ ?_ ?_; rotate_left; (· intro w'; go_simp; with_reducible rfl); rotate_left; (· simp only [Act.put,zp1,zp2,zp3,zp4,zp5]; rfl)
                       refine Sq.pu (v := ?_) (a' := ?_) 20 104 (Sq.bl 29 2097151) (any_of HT_.out (by kernel_rfl)) rfl rfl (fun _ _ _ h => h) (by rfl) ?_ ?_ ?_; rotate_left; (· intro w'; go_simp; with_reducible rfl); rotate_left; (· simp only [Act.put,zp1,zp2,zp3,zp4,zp5]; rfl)
                       refine Sq.pu (v := ?_) (a' := ?_) 21 105 (Sq.bl 29 4194303) (any_of HT_.out (by kernel_rfl)) rfl rfl (fun _ _ _ h => h) (by rfl) ?_ ?_ ?_; rotate_left; (· intro w'; go_simp; with_reducible rfl); rotate_left; (· simp only [Act.put,zp1,zp2,zp3,zp4,zp5]; rfl)
                       refine Sq.pu (v := ?_) (a' := ?_) 23 107 (Sq.bl 29 12582911) (any_of HT_.out (by kernel_rfl)) rfl rfl (fun _ _ _ h => h) (by rfl) ?_ ?_ ?_; rotate_left; (· intro w'; go_simp; with_reducible rfl); rotate_left; (· simp only [Act.put,zp1,zp2,zp3,zp4,zp5]; rfl)
                       refine Sq.pu (v := ?_) (a' := ?_) 24 108 (Sq.bl 29 29360127) (any_of HT_.out (by kernel_rfl)) rfl rfl (fun _ _ _ h => h) (by rfl) ?_ ?_ ?_; rotate_left; (· intro w'; go_simp; with_reducible rfl); rotate_left; (· simp only [Act.put,zp1,zp2,zp3,zp4,zp5]; rfl)
                       refine Sq.pu (v := ?_) (a' := ?_) 25 109 (Sq.bl 29 62914559) (any_of HT_.out (by kernel_rfl)) rfl rfl (fun _ _ _ h => h) (by rfl) ?_ ?_ ?_; rotate_left; (· intro w'; go_simp; with_reducible rfl); rotate_left; (· simp only [Act.put,zp1,zp2,zp3,zp4,zp5]; rfl)
                       refine take_ (i := 22) (N := some 106) (v := ?_) (a' := ?_) (Sq.bl 29 67108863) rfl rfl (take_ofW HT_.out HW_.out (by kernel_rfl)) (fun _ _ _ h => h) (Or.inl ⟨by rfl, ?_⟩) hHeld ?_ ?_
                       rotate_left
                       ·rintro w' ⟨s0, s1, s2, s3⟩
                        go_simp
                        with_reducible rfl
                       rotate_left
                       ·simp only [Act.put,zp1,zp2,zp3,zp4,zp5]
                        rfl
                       refine take_ (i := 26) (N := some 110) (v := ?_) (a' := ?_) (Sq.bl 29 134217727) rfl rfl (take_ofW HT_.out HW_.out (by kernel_rfl)) (fun _ _ _ h => h) (Or.inl ⟨by rfl, ?_⟩) hHeld ?_ ?_
                       rotate_left
                       ·rintro w' ⟨s0, s1, s2, s3⟩
                        go_simp
                        with_reducible rfl
                       rotate_left
                       ·simp only [Act.put,zp1,zp2,zp3,zp4,zp5]
                        rfl
                       refine Sq.pu (v := ?_) (a' := ?_) 27 111 (Sq.bl 29 268435455) (any_of HT_.out (by kernel_rfl)) rfl rfl (fun _ _ _ h => h) (by rfl) ?_ ?_ ?_; rotate_left; (· intro w'; go_simp; with_reducible rfl); rotate_left; (· simp only [Act.put,zp1,zp2,zp3,zp4,zp5]; rfl)
                       refine Sq.pu (v := ?_) (a' := ?_) 28 112 (Sq.bl 29 536870911) (any_of HT_.out (by kernel_rfl)) rfl rfl (fun _ _ _ h => h) (by rfl) ?_ ?_ ?_; rotate_left; (· intro w'; go_simp; with_reducible rfl); rotate_left; (· simp only [Act.put,zp1,zp2,zp3,zp4,zp5]; rfl)
                       refine done_ (done_of HT_.out (by kernel_rfl)) ?_
                       obtain ⟨Ao43, co43, eo43⟩ := Kd.R_slice HO_12.out
                       subst eo43
                       have p570 : 0 ≤ (((rd_T64 t545 x14_1).f0) : Int) := of_decide_eq_true (by first | (with_reducible assumption) | assumption)
                       have q570 : ((rd_T64 t545 x14_1).f0) < (x12_1.length : Int) := of_decide_eq_true (by first | (with_reducible assumption) | assumption)
                       obtain ⟨ad570, e570, hx570_0⟩ := Kd.at_int (Kd.R_reads' HO_12.out).2.2 ((rd_T64 t545 x14_1).f0) p570 q570
                       cases e570
                       replace p570 := eq_true p570
                       replace q570 := eq_true q570
                       have p37 : 0 ≤ (((rd_T64 t545 x14_1).f0) : Int) := of_decide_eq_true (by first | (with_reducible assumption) | assumption)
                       have q37 : (((rd_T64 t545 x14_1).f0) : Int) < ((x12_1.length : Int) : Int) := of_decide_eq_true (by first | (with_reducible assumption) | assumption)
                       obtain ⟨go37, co37, eo37, gb37, gl37, cl37, HG37⟩ := Kd.R_form HO_12.out (by omega)
                       (first | cases eo37 | (injection eo37 with ea_ en_ ec_; (first | subst ea_ | (injection ea_ with ea_; subst ea_)); subst ec_; clear en_))
                       have GB37 := Aside0.mk gb37
                       have GG37 := Aside0.mk HG37
                       clear gb37 gl37 HG37
                       (first | simp only [add_plain] at hx570_0 | skip)
                       obtain ⟨hx37_0, hf37_0⟩ := Kd.R_celln 0 HO_12.out (((rd_T64 t545 x14_1).f0) : Int) p37 q37
                       replace p37 := eq_true p37
                       replace q37 := eq_true q37
                       obtain ⟨hy44_, hz44_⟩ := Kd.R_celln 0 HO_12.out (((rd_T64 t545 x14_1).f0) : Int) (of_decide_eq_true (by first | (with_reducible assumption) | assumption)) (of_decide_eq_true (by first | (with_reducible assumption) | assumption))
                       have HP44 := Kd.R_putg HO_12.out (((rd_T64 t545 x14_1).f0) : Int) (wrap64 ((rd x12_1 ((rd_T64 t545 x14_1).f0)) + 1))
                       try go_wp2_with (first | ((with_reducible refine gate_store (t := 3) (p := 118) rfl ?_); refine store_event (t := 3) (p := 118) (v := ?vo_w45) (w1 := (w42.setCell ⟨go37, (((rd_T64 t545 x14_1).f0) : Int).toNat, none⟩ (.int .i64 (wrap64 ((rd x12_1 ((rd_T64 t545 x14_1).f0)) + 1))))) ?hg ?ho ?hn ?hr ?_; (case ho => rfl); (case hg => rfl); (case hn => rfl); (case hr => first | (go_simp; done) | (go_simp; rfl)); intro w45 hw; have hg : w42.grownBy w45 (some go37) := (by rw [hw]; exact HP44.2); have hp_ : Kd.R (Kd.int .i64) 3 w45 w.heap.size (fun k_ => some k_ ≠ (v553 : Value).ownBlock ∧ some k_ ≠ (v557 : Value).ownBlock ∧ some k_ ≠ (v564 : Value).ownBlock) (.slice (some ⟨go37, 0, none⟩) x12_1.length co43) y571 := (by rw [hw, Ny571.out]; exact HP44.1); clear HP44; have n0_ := Aside0.mk (Kd.R_over' (v := (.slice (some ⟨go37, 0, none⟩) x12_1.length co43)) (by (with_reducible repeat first|apply zr1|apply zr2|apply zr3); exact HO_5.out) (Kd.R_typed HO_12.out) (by decide) hg); have n1_ := Aside0.mk (Kd.R_over' (v := (.slice (some ⟨go37, 0, none⟩) x12_1.length co43)) (by (with_reducible repeat first|apply zr1|apply zr2|apply zr3); exact HO_6.out) (Kd.R_typed HO_12.out) (by decide) hg); have n2_ := Aside0.mk (Kd.R_after (v := (.slice (some ⟨go37, 0, none⟩) x12_1.length co43)) (v1 := (.slice (some ⟨go37, 0, none⟩) x12_1.length co43)) (ok := (fun k_ => some k_ ≠ (v557 : Value).ownBlock ∧ some k_ ≠ (v564 : Value).ownBlock)) (by (with_reducible repeat first|apply zr1|apply zr2|apply zr3); exact Kd.R_mono HO_8.out (fun _ hk => ⟨⟨hk.1, hk.2.2⟩, hk.2.1⟩)) hg (.inl rfl)); have n3_ := Aside0.mk (Kd.R_after (v := (.slice (some ⟨go37, 0, none⟩) x12_1.length co43)) (v1 := (.slice (some ⟨go37, 0, none⟩) x12_1.length co43)) (ok := (fun k_ => some k_ ≠ (v553 : Value).ownBlock ∧ some k_ ≠ (v564 : Value).ownBlock)) (by (with_reducible repeat first|apply zr1|apply zr2|apply zr3); exact Kd.R_mono HO_10.out (fun _ hk => ⟨⟨hk.1, hk.2.2⟩, hk.2.1⟩)) hg (.inl rfl)); have n4_ := Aside0.mk (hp_); have n5_ := Aside0.mk (Kd.R_after (v := (.slice (some ⟨go37, 0, none⟩) x12_1.length co43)) (v1 := (.slice (some ⟨go37, 0, none⟩) x12_1.length co43)) (ok := (fun k_ => some k_ ≠ (v553 : Value).ownBlock ∧ some k_ ≠ (v557 : Value).ownBlock)) (by (with_reducible repeat first|apply zr1|apply zr2|apply zr3); exact Kd.R_mono HO_13.out (fun _ hk => ⟨⟨hk.1, hk.2.1⟩, hk.2.2⟩)) hg (.inl rfl)); have n6_ := Aside0.mk ((by rw [hw]; exact below_set (HB.out) GB37.out : Below w.heap.size w w45)); clear HO_5; clear HO_6; clear HO_8; clear HO_10; clear HO_12; clear HO_13; clear HB; have HO_5 := n0_; have HO_6 := n1_; have HO_8 := n2_; have HO_10 := n3_; have HO_12 := n4_; have HO_13 := n5_; have HB := n6_; clear n0_ n1_ n2_ n3_ n4_ n5_ n6_; clear hg hw hp_; obtain ⟨Ao46, co46, eo46⟩ := Kd.R_slice HO_13.out; subst eo46; have p572 : 0 ≤ (((rd_T64 t545 x14_1).f1) : Int) := of_decide_eq_true (by first | (with_reducible assumption) | assumption); have q572 : ((rd_T64 t545 x14_1).f1) < (x13_1.length : Int) := of_decide_eq_true (by first | (with_reducible assumption) | assumption); obtain ⟨ad572, e572, hx572_0⟩ := Kd.at_int (Kd.R_reads' HO_13.out).2.2 ((rd_T64 t545 x14_1).f1) p572 q572; cases e572; replace p572 := eq_true p572; replace q572 := eq_true q572; have p39 : 0 ≤ (((rd_T64 t545 x14_1).f1) : Int) := of_decide_eq_true (by first | (with_reducible assumption) | assumption); have q39 : (((rd_T64 t545 x14_1).f1) : Int) < ((x13_1.length : Int) : Int) := of_decide_eq_true (by first | (with_reducible assumption) | assumption); obtain ⟨go39, co39, eo39, gb39, gl39, cl39, HG39⟩ := Kd.R_form HO_13.out (by omega); (first | cases eo39 | (injection eo39 with ea_ en_ ec_; (first | subst ea_ | (injection ea_ with ea_; subst ea_)); subst ec_; clear en_)); have GB39 := Aside0.mk gb39; have GG39 := Aside0.mk HG39; clear gb39 gl39 HG39; (first | simp only [add_plain] at hx572_0 | skip); obtain ⟨hx39_0, hf39_0⟩ := Kd.R_celln 0 HO_13.out (((rd_T64 t545 x14_1).f1) : Int) p39 q39; replace p39 := eq_true p39; replace q39 := eq_true q39; have n_ := Aside0.mk (Kd.R_mono (ok' := (fun k_ => some k_ ≠ (v553 : Value).ownBlock ∧ some k_ ≠ (v557 : Value).ownBlock ∧ some k_ ≠ (.slice (some ⟨go37, 0, none⟩) x12_1.length co43 : Value).ownBlock)) HO_13.out (fun k_ hk => ⟨hk.1.1, ⟨hk.1.2, hk.2⟩⟩)); clear HO_13; have HO_13 := n_; clear n_; obtain ⟨hy47_, hz47_⟩ := Kd.R_celln 0 HO_13.out (((rd_T64 t545 x14_1).f1) : Int) (of_decide_eq_true (by first | (with_reducible assumption) | assumption)) (of_decide_eq_true (by first | (with_reducible assumption) | assumption)); have HP47 := Kd.R_putg HO_13.out (((rd_T64 t545 x14_1).f1) : Int) (wrap64 ((rd x13_1 ((rd_T64 t545 x14_1).f1)) + 1))) | ((with_reducible refine gate_store (t := 3) (p := 124) rfl ?_); refine store_event (t := 3) (p := 124) (v := ?vo_w48) (w1 := (w45.setCell ⟨go39, (((rd_T64 t545 x14_1).f1) : Int).toNat, none⟩ (.int .i64 (wrap64 ((rd x13_1 ((rd_T64 t545 x14_1).f1)) + 1))))) ?hg ?ho ?hn ?hr ?_; (case ho => rfl); (case hg => rfl); (case hn => rfl); (case hr => first | (go_simp; done) | (go_simp; rfl)); intro w48 hw; have hg : w45.grownBy w48 (some go39) := (by rw [hw]; exact HP47.2); have hp_ : Kd.R (Kd.int .i64) 3 w48 w.heap.size (fun k_ => some k_ ≠ (v553 : Value).ownBlock ∧ some k_ ≠ (v557 : Value).ownBlock ∧ some k_ ≠ (.slice (some ⟨go37, 0, none⟩) x12_1.length co43 : Value).ownBlock) (.slice (some ⟨go39, 0, none⟩) x13_1.length co46) y573 := (by rw [hw, Ny573.out]; exact HP47.1); clear HP47; have n0_ := Aside0.mk (Kd.R_over' (v := (.slice (some ⟨go39, 0, none⟩) x13_1.length co46)) (by (with_reducible repeat first|apply zr1|apply zr2|apply zr3); exact HO_5.out) (Kd.R_typed HO_13.out) (by decide) hg); have n1_ := Aside0.mk (Kd.R_over' (v := (.slice (some ⟨go39, 0, none⟩) x13_1.length co46)) (by (with_reducible repeat first|apply zr1|apply zr2|apply zr3); exact HO_6.out) (Kd.R_typed HO_13.out) (by decide) hg); have n2_ := Aside0.mk (Kd.R_after (v := (.slice (some ⟨go39, 0, none⟩) x13_1.length co46)) (v1 := (.slice (some ⟨go39, 0, none⟩) x13_1.length co46)) (ok := (fun k_ => some k_ ≠ (v557 : Value).ownBlock ∧ some k_ ≠ (.slice (some ⟨go37, 0, none⟩) x12_1.length co43 : Value).ownBlock)) (by (with_reducible repeat first|apply zr1|apply zr2|apply zr3); exact Kd.R_mono HO_8.out (fun _ hk => ⟨⟨hk.1.1, hk.2⟩, hk.1.2⟩)) hg (.inl rfl)); have n3_ := Aside0.mk (Kd.R_after (v := (.slice (some ⟨go39, 0, none⟩) x13_1.length co46)) (v1 := (.slice (some ⟨go39, 0, none⟩) x13_1.length co46)) (ok := (fun k_ => some k_ ≠ (v553 : Value).ownBlock ∧ some k_ ≠ (.slice (some ⟨go37, 0, none⟩) x12_1.length co43 : Value).ownBlock)) (by (with_reducible repeat first|apply zr1|apply zr2|apply zr3); exact Kd.R_mono HO_10.out (fun _ hk => ⟨⟨hk.1.1, hk.2⟩, hk.1.2⟩)) hg (.inl rfl)); have n4_ := Aside0.mk (Kd.R_after (v := (.slice (some ⟨go39, 0, none⟩) x13_1.length co46)) (v1 := (.slice (some ⟨go39, 0, none⟩) x13_1.length co46)) (ok := (fun k_ => some k_ ≠ (v553 : Value).ownBlock ∧ some k_ ≠ (v557 : Value).ownBlock)) (by (with_reducible repeat first|apply zr1|apply zr2|apply zr3); exact Kd.R_mono HO_12.out (fun _ hk => ⟨⟨hk.1, hk.2.1⟩, hk.2.2⟩)) hg (.inl rfl)); have n5_ := Aside0.mk (hp_); have n6_ := Aside0.mk ((by rw [hw]; exact below_set (HB.out) GB39.out : Below w.heap.size w w48)); clear HO_5; clear HO_6; clear HO_8; clear HO_10; clear HO_12; clear HO_13; clear HB; have HO_5 := n0_; have HO_6 := n1_; have HO_8 := n2_; have HO_10 := n3_; have HO_12 := n4_; have HO_13 := n5_; have HB := n6_; clear n0_ n1_ n2_ n3_ n4_ n5_ n6_; clear hg hw hp_))
                       go_roundg k1
                       case measure => have := HK1.out; omega
                       case rel => exact ⟨(y571), (y573), (wrap64 (x14_1 + 1)), (by first | rfl | (simp; done) | (simp [*]; done)), H', ⟨by have := HK1.out; omega⟩, ⟨by (with_reducible repeat first|apply zr1|apply zr2|apply zr3); exact HO_5.out⟩, ⟨by (with_reducible repeat first|apply zr1|apply zr2|apply zr3); exact HO_6.out⟩, ⟨by (with_reducible repeat first|apply zr1|apply zr2|apply zr3); exact Kd.R_mono HO_8.out (fun _ hk => ⟨hk.1.1, ⟨hk.1.2, hk.2⟩⟩)⟩, ⟨by (with_reducible repeat first|apply zr1|apply zr2|apply zr3); exact Kd.R_mono HO_10.out (fun _ hk => ⟨hk.1.1, ⟨hk.1.2, hk.2⟩⟩)⟩, ⟨by (with_reducible repeat first|apply zr1|apply zr2|apply zr3); exact Kd.R_mono HO_12.out (fun _ hk => ⟨hk.1.1, ⟨hk.1.2, hk.2⟩⟩)⟩, ⟨by (with_reducible repeat first|apply zr1|apply zr2|apply zr3); exact HO_13.out⟩, ⟨by repeat (first | (with_reducible first | exact HB.out | apply below_alloc | apply pw_below_drewN | apply below_drew1) | exact HB.out)⟩⟩
                      ·rw [if_neg c38] at H
                       exact absurd H (by simp)
                     ·rw [if_neg c36] at H
                      exact absurd H (by simp)
                   ·rw [if_neg c34] at H
                    exact absurd H (by simp)
                  ·rw [if_neg c33] at H
                   exact absurd H (by simp)
                 ·rw [if_neg c32] at H
                  exact absurd H (by simp)
                ·rw [if_neg c31] at H
                 exact absurd H (by simp)
           ·rw [if_neg c26] at H
            exact absurd H (by simp)
          ·rw [if_neg c25] at H
           have c25b0 : decide (x14_1 < (t545.length : Int)) = false := decide_eq_false c25
           clear c25
           have H' := Aside0.mk H
           clear H
           obtain ⟨Ao49, co49, eo49⟩ := Kd.R_slice HO_6.out
           subst eo49
           go_wp2
           go_loopg [17] k1 (fun kq v17 w' => ∃ (x12_2 : List Int) (x17_2 : Int), v17 = .int .i64 x17_2 ∧ Aside0 (jalousielaw11_PatchParts.l1 kq l1 t544 t551 t555 x12_2 x13_1 x17_2 = some r) ∧ Aside0 (kq ≤ k1) ∧ Aside0 (Kd.R k66 66 w' w.heap.size (fun _ => True) (.slice Ao19 t544.length co19) t544) ∧ Aside0 (Kd.R (Kd.int .i64) 3 w' w.heap.size (fun k_ => some k_ ≠ (v557 : Value).ownBlock ∧ some k_ ≠ (v561 : Value).ownBlock ∧ some k_ ≠ (v564 : Value).ownBlock) v553 t551) ∧ Aside0 (Kd.R (Kd.int .i64) 3 w' w.heap.size (fun k_ => some k_ ≠ (v553 : Value).ownBlock ∧ some k_ ≠ (v561 : Value).ownBlock ∧ some k_ ≠ (v564 : Value).ownBlock) v557 t555) ∧ Aside0 (Kd.R (Kd.int .i64) 3 w' w.heap.size (fun k_ => some k_ ≠ (v553 : Value).ownBlock ∧ some k_ ≠ (v557 : Value).ownBlock ∧ some k_ ≠ (v564 : Value).ownBlock) v561 x12_2) ∧ Aside0 (Kd.R (Kd.int .i64) 3 w' w.heap.size (fun k_ => some k_ ≠ (v553 : Value).ownBlock ∧ some k_ ≠ (v557 : Value).ownBlock ∧ some k_ ≠ (v561 : Value).ownBlock) v564 x13_1) ∧ Aside0 (Below w.heap.size w w'))
           case atStart => exact ⟨(x12_1), (0), (by first | rfl | (simp; done) | (simp [*]; done)), H', ⟨Nat.le_refl _⟩, ⟨by (with_reducible repeat first|apply zr1|apply zr2|apply zr3); exact HO_5.out⟩, ⟨by (with_reducible repeat first|apply zr1|apply zr2|apply zr3); exact HO_8.out⟩, ⟨by (with_reducible repeat first|apply zr1|apply zr2|apply zr3); exact HO_10.out⟩, ⟨by (with_reducible repeat first|apply zr1|apply zr2|apply zr3); exact HO_12.out⟩, ⟨by (with_reducible repeat first|apply zr1|apply zr2|apply zr3); exact HO_13.out⟩, ⟨by repeat (first | (with_reducible first | exact HB.out | apply below_alloc | apply pw_below_drewN | apply below_drew1) | exact HB.out)⟩⟩
           case round =>
            clear H'
            try clear c1
            try clear q1
            try clear c2
            try clear p2
            try clear c3
            try clear p3
            try clear q3
            try clear hx3
            try clear hf3
            try clear c4
            try clear c4b0
            try clear c4b1
            try clear c5
            try clear c5b0
            try clear c5b1
            try clear p5
            try clear q5
            try clear hx5
            try clear p6
            try clear c9
            try clear c9b0
            try clear c9b1
            try clear c10
            try clear c10b0
            try clear c10b1
            try clear c11
            try clear c11b0
            try clear c11b1
            try clear c12
            try clear c12b0
            try clear c12b1
            try clear c13
            try clear c13b0
            try clear c13b1
            try clear q14
            try clear c25
            try clear c25b0
            try clear c26
            try clear c26b0
            try clear c27
            try clear c27b0
            try clear c28
            try clear c28b0
            try clear c29
            try clear c29b0
            try clear c30
            try clear c30b0
            try clear c31
            try clear c31b0
            try clear c32
            try clear c32b0
            try clear c33
            try clear c33b0
            try clear c34
            try clear c34b0
            try clear c35
            try clear c35b0
            try clear c36
            try clear c36b0
            try clear p37
            try clear q37
            try clear hx37
            try clear hf37
            try clear c38
            try clear c38b0
            try clear p39
            try clear q39
            try clear hx39
            try clear hf39
            try clear hx37_0
            try clear hx39_0
            try clear hx566_0
            try clear hx566_1
            try clear hx567_0
            try clear hx567_1
            try clear hx568_0
            try clear hx568_1
            try clear hx569_0
            try clear hx569_1
            try clear hx570_0
            try clear hx572_0
            try clear p2
            try clear p37
            try clear p39
            try clear p566
            try clear p567
            try clear p568
            try clear p569
            try clear p570
            try clear p572
            try clear p6
            try clear q1
            try clear q14
            try clear q37
            try clear q39
            try clear q566
            try clear q567
            try clear q568
            try clear q569
            try clear q570
            try clear q572
            obtain ⟨x12_2, x17_2, rfl, HA, HK2, HO_5, HO_8, HO_10, HO_12, HO_13, HB⟩ := hrel
            cases gk with
            | zero => exact absurd HA.out (by simp [jalousielaw11_PatchParts.l1])
            | succ k2 =>
             have H := HA.out
             clear HA
             simp only [jalousielaw11_PatchParts.l1] at H
             by_cases c50 : x17_2 < (t551.length : Int)
             ·rw [if_pos c50] at H
              have c50b0 : decide (x17_2 < (t551.length : Int)) = true := decide_eq_true c50
              clear c50
              by_cases c51 : 0 ≤ x17_2
              ·rw [if_pos c51] at H
               have c51b0 : decide (0 ≤ x17_2) = true := decide_eq_true c51
               clear c51
               by_cases c52 : (rd t551 x17_2) < 0
               ·rw [if_pos c52] at H
                have c52b0 : decide ((rd t551 x17_2) < 0) = true := decide_eq_true c52
                clear c52
                exact absurd (Option.some.inj (H.trans (congrArg some HRT.out))) (by decide)
               ·rw [if_neg c52] at H
                have c52b0 : decide ((rd t551 x17_2) < 0) = false := decide_eq_false c52
                clear c52
                by_cases c53 : (rd t551 x17_2) ≥ (l1.length : Int)
                ·rw [if_pos c53] at H
                 have c53b0 : decide ((l1.length : Int) ≤ (rd t551 x17_2)) = true := decide_eq_true c53
                 clear c53
                 exact absurd (Option.some.inj (H.trans (congrArg some HRT.out))) (by decide)
                ·rw [if_neg c53] at H
                 have c53b0 : decide ((l1.length : Int) ≤ (rd t551 x17_2)) = false := decide_eq_false c53
                 clear c53
                 by_cases c54 : 0 ≤ (rd t551 x17_2)
                 ·rw [if_pos c54] at H
                  have c54b0 : decide (0 ≤ (rd t551 x17_2)) = true := decide_eq_true c54
                  clear c54
                  by_cases c55 : (rd t551 x17_2) < (x12_2.length : Int)
                  ·rw [if_pos c55] at H
                   have c55b0 : decide ((rd t551 x17_2) < (x12_2.length : Int)) = true := decide_eq_true c55
                   clear c55
                   obtain ⟨y578, hy578⟩ : ∃ y_ : List Int, y_ = (x12_2.set ((rd t551 x17_2) : Int).toNat (wrap64 ((rd x12_2 (rd t551 x17_2)) + 1))) := ⟨_, rfl⟩
                   replace H : (jalousielaw11_PatchParts.l1 k2 l1 t544 t551 t555 y578 x13_1 (wrap64 (x17_2 + 1))) = some r := by first | (rw [hy578]; with_reducible exact H) | (have H2_ := (Option.bind_some _ _).symm.trans H; rw [hy578]; with_reducible exact H2_) | (have H2_ := (Option.bind_some _ _).symm.trans H; with_reducible exact H2_) | with_reducible exact H | (rw [hy578]; exact H) | exact H
                   have Ny578 := Aside0.mk hy578
                   clear hy578
                   have H' := Aside0.mk H
                   clear H
                   obtain ⟨Ao57, co57, eo57⟩ := Kd.R_slice HO_8.out
                   subst eo57
                   have p574 : 0 ≤ (x17_2 : Int) := of_decide_eq_true (by first | (with_reducible assumption) | assumption)
                   have q574 : x17_2 < (t551.length : Int) := of_decide_eq_true (by first | (with_reducible assumption) | assumption)
                   obtain ⟨ad574, e574, hx574_0⟩ := Kd.at_int (Kd.R_reads' HO_8.out).2.2 x17_2 p574 q574
                   cases e574
                   replace p574 := eq_true p574
                   replace q574 := eq_true q574
                   have p575 : 0 ≤ (x17_2 : Int) := of_decide_eq_true (by first | (with_reducible assumption) | assumption)
                   have q575 : x17_2 < (t551.length : Int) := of_decide_eq_true (by first | (with_reducible assumption) | assumption)
                   obtain ⟨ad575, e575, hx575_0⟩ := Kd.at_int (Kd.R_reads' HO_8.out).2.2 x17_2 p575 q575
                   obtain rfl : ad574 = ad575 := (by injection e575)
                   replace p575 := eq_true p575
                   replace q575 := eq_true q575
                   have p576 : 0 ≤ (x17_2 : Int) := of_decide_eq_true (by first | (with_reducible assumption) | assumption)
                   have q576 : x17_2 < (t551.length : Int) := of_decide_eq_true (by first | (with_reducible assumption) | assumption)
                   obtain ⟨ad576, e576, hx576_0⟩ := Kd.at_int (Kd.R_reads' HO_8.out).2.2 x17_2 p576 q576
                   obtain rfl : ad574 = ad576 := (by injection e576)
                   replace p576 := eq_true p576
                   replace q576 := eq_true q576
                   obtain ⟨Ao58, co58, eo58⟩ := Kd.R_slice HO_12.out
                   subst eo58
                   have p577 : 0 ≤ ((rd t551 x17_2) : Int) := of_decide_eq_true (by first | (with_reducible assumption) | assumption)
                   have q577 : (rd t551 x17_2) < (x12_2.length : Int) := of_decide_eq_true (by first | (with_reducible assumption) | assumption)
                   obtain ⟨ad577, e577, hx577_0⟩ := Kd.at_int (Kd.R_reads' HO_12.out).2.2 (rd t551 x17_2) p577 q577
                   cases e577
                   replace p577 := eq_true p577
                   replace q577 := eq_true q577
                   have p56 : 0 ≤ ((rd t551 x17_2) : Int) := of_decide_eq_true (by first | (with_reducible assumption) | assumption)
                   have q56 : ((rd t551 x17_2) : Int) < ((x12_2.length : Int) : Int) := of_decide_eq_true (by first | (with_reducible assumption) | assumption)
                   obtain ⟨go56, co56, eo56, gb56, gl56, cl56, HG56⟩ := Kd.R_form HO_12.out (by omega)
                   (first | cases eo56 | (injection eo56 with ea_ en_ ec_; (first | subst ea_ | (injection ea_ with ea_; subst ea_)); subst ec_; clear en_))
                   have GB56 := Aside0.mk gb56
                   have GG56 := Aside0.mk HG56
                   clear gb56 gl56 HG56
                   (first | simp only [add_plain] at hx577_0 | skip)
                   obtain ⟨hx56_0, hf56_0⟩ := Kd.R_celln 0 HO_12.out ((rd t551 x17_2) : Int) p56 q56
                   replace p56 := eq_true p56
                   replace q56 := eq_true q56
                   have HP59 := Kd.R_putg HO_12.out ((rd t551 x17_2) : Int) (wrap64 ((rd x12_2 (rd t551 x17_2)) + 1))
                   go_wp2_with (first | ((with_reducible refine gate_store (t := 3) (p := 153) rfl ?_); refine store_event (t := 3) (p := 153) (v := ?vo_w60) (w1 := (wr.setCell ⟨go56, ((rd t551 x17_2) : Int).toNat, none⟩ (.int .i64 (wrap64 ((rd x12_2 (rd t551 x17_2)) + 1))))) ?hg ?ho ?hn ?hr ?_; (case ho => rfl); (case hg => rfl); (case hn => rfl); (case hr => first | (go_simp; done) | (go_simp; rfl)); intro w60 hw; have hg : wr.grownBy w60 (some go56) := (by rw [hw]; exact HP59.2); have hp_ : Kd.R (Kd.int .i64) 3 w60 w.heap.size (fun k_ => some k_ ≠ (.slice (some ad574) t551.length co57 : Value).ownBlock ∧ some k_ ≠ (v557 : Value).ownBlock ∧ some k_ ≠ (v564 : Value).ownBlock) (.slice (some ⟨go56, 0, none⟩) x12_2.length co58) y578 := (by rw [hw, Ny578.out]; exact HP59.1); clear HP59; have n0_ := Aside0.mk (Kd.R_over' (v := (.slice (some ⟨go56, 0, none⟩) x12_2.length co58)) (by (with_reducible repeat first|apply zr1|apply zr2|apply zr3); exact HO_5.out) (Kd.R_typed HO_12.out) (by decide) hg); have n1_ := Aside0.mk (Kd.R_after (v := (.slice (some ⟨go56, 0, none⟩) x12_2.length co58)) (v1 := (.slice (some ⟨go56, 0, none⟩) x12_2.length co58)) (ok := (fun k_ => some k_ ≠ (v557 : Value).ownBlock ∧ some k_ ≠ (v564 : Value).ownBlock)) (by (with_reducible repeat first|apply zr1|apply zr2|apply zr3); exact Kd.R_mono HO_8.out (fun _ hk => ⟨⟨hk.1, hk.2.2⟩, hk.2.1⟩)) hg (.inl rfl)); have n2_ := Aside0.mk (Kd.R_after (v := (.slice (some ⟨go56, 0, none⟩) x12_2.length co58)) (v1 := (.slice (some ⟨go56, 0, none⟩) x12_2.length co58)) (ok := (fun k_ => some k_ ≠ (.slice (some ad574) t551.length co57 : Value).ownBlock ∧ some k_ ≠ (v564 : Value).ownBlock)) (by (with_reducible repeat first|apply zr1|apply zr2|apply zr3); exact Kd.R_mono HO_10.out (fun _ hk => ⟨⟨hk.1, hk.2.2⟩, hk.2.1⟩)) hg (.inl rfl)); have n3_ := Aside0.mk (hp_); have n4_ := Aside0.mk (Kd.R_after (v := (.slice (some ⟨go56, 0, none⟩) x12_2.length co58)) (v1 := (.slice (some ⟨go56, 0, none⟩) x12_2.length co58)) (ok := (fun k_ => some k_ ≠ (.slice (some ad574) t551.length co57 : Value).ownBlock ∧ some k_ ≠ (v557 : Value).ownBlock)) (by (with_reducible repeat first|apply zr1|apply zr2|apply zr3); exact Kd.R_mono HO_13.out (fun _ hk => ⟨⟨hk.1, hk.2.1⟩, hk.2.2⟩)) hg (.inl rfl)); have n5_ := Aside0.mk ((by rw [hw]; exact below_set (HB.out) GB56.out : Below w.heap.size w w60)); clear HO_5; clear HO_8; clear HO_10; clear HO_12; clear HO_13; clear HB; have HO_5 := n0_; have HO_8 := n1_; have HO_10 := n2_; have HO_12 := n3_; have HO_13 := n4_; have HB := n5_; clear n0_ n1_ n2_ n3_ n4_ n5_; clear hg hw hp_))
                   go_roundg k2
                   case measure => have := HK1.out; have := HK2.out; omega
                   case rel => exact ⟨(y578), (wrap64 (x17_2 + 1)), (by first | rfl | (simp; done) | (simp [*]; done)), H', ⟨by have := HK1.out; have := HK2.out; omega⟩, ⟨by (with_reducible repeat first|apply zr1|apply zr2|apply zr3); exact HO_5.out⟩, ⟨by (with_reducible repeat first|apply zr1|apply zr2|apply zr3); exact Kd.R_mono HO_8.out (fun _ hk => ⟨hk.1.1, ⟨hk.2, hk.1.2⟩⟩)⟩, ⟨by (with_reducible repeat first|apply zr1|apply zr2|apply zr3); exact Kd.R_mono HO_10.out (fun _ hk => ⟨hk.1.1, ⟨hk.2, hk.1.2⟩⟩)⟩, ⟨by (with_reducible repeat first|apply zr1|apply zr2|apply zr3); exact HO_12.out⟩, ⟨by (with_reducible repeat first|apply zr1|apply zr2|apply zr3); exact Kd.R_mono HO_13.out (fun _ hk => ⟨hk.1.1, ⟨hk.1.2, hk.2⟩⟩)⟩, ⟨by repeat (first | (with_reducible first | exact HB.out | apply below_alloc | apply pw_below_drewN | apply below_drew1) | exact HB.out)⟩⟩
                  ·rw [if_neg c55] at H
                   exact absurd H (by simp)
                 ·rw [if_neg c54] at H
                  exact absurd H (by simp)
              ·rw [if_neg c51] at H
               exact absurd H (by simp)
             ·rw [if_neg c50] at H
              have c50b0 : decide (x17_2 < (t551.length : Int)) = false := decide_eq_false c50
              clear c50
              have H' := Aside0.mk H
              clear H
              obtain ⟨Ao61, co61, eo61⟩ := Kd.R_slice HO_8.out
              subst eo61
              go_wp2
              go_loopg [18] k2 (fun kq v18 w' => ∃ (x13_3 : List Int) (x18_3 : Int), v18 = .int .i64 x18_3 ∧ Aside0 (jalousielaw11_PatchParts.l2 kq t544 t555 x12_2 x13_3 x18_3 = some r) ∧ Aside0 (kq ≤ k2) ∧ Aside0 (Kd.R k66 66 w' w.heap.size (fun _ => True) (.slice Ao19 t544.length co19) t544) ∧ Aside0 (Kd.R (Kd.int .i64) 3 w' w.heap.size (fun k_ => some k_ ≠ (v561 : Value).ownBlock ∧ some k_ ≠ (v564 : Value).ownBlock) v557 t555) ∧ Aside0 (Kd.R (Kd.int .i64) 3 w' w.heap.size (fun k_ => some k_ ≠ (v557 : Value).ownBlock ∧ some k_ ≠ (v564 : Value).ownBlock) v561 x12_2) ∧ Aside0 (Kd.R (Kd.int .i64) 3 w' w.heap.size (fun k_ => some k_ ≠ (v557 : Value).ownBlock ∧ some k_ ≠ (v561 : Value).ownBlock) v564 x13_3) ∧ Aside0 (Below w.heap.size w w'))
              case atStart => exact ⟨(x13_1), (0), (by first | rfl | (simp; done) | (simp [*]; done)), H', ⟨Nat.le_refl _⟩, ⟨by (with_reducible repeat first|apply zr1|apply zr2|apply zr3); exact HO_5.out⟩, ⟨by (with_reducible repeat first|apply zr1|apply zr2|apply zr3); exact Kd.R_mono HO_10.out (fun _ hk => ⟨hk.2.1, hk.2.2⟩)⟩, ⟨by (with_reducible repeat first|apply zr1|apply zr2|apply zr3); exact Kd.R_mono HO_12.out (fun _ hk => ⟨hk.2.1, hk.2.2⟩)⟩, ⟨by (with_reducible repeat first|apply zr1|apply zr2|apply zr3); exact Kd.R_mono HO_13.out (fun _ hk => ⟨hk.2.1, hk.2.2⟩)⟩, ⟨by repeat (first | (with_reducible first | exact HB.out | apply below_alloc | apply pw_below_drewN | apply below_drew1) | exact HB.out)⟩⟩
              case round =>
               clear H'
               try clear c1
               try clear q1
               try clear c2
               try clear p2
               try clear c3
               try clear p3
               try clear q3
               try clear hx3
               try clear hf3
               try clear c4
               try clear c4b0
               try clear c4b1
               try clear c5
               try clear c5b0
               try clear c5b1
               try clear p5
               try clear q5
               try clear hx5
               try clear hf5
               try clear p6
               try clear c9
               try clear c9b0
               try clear c9b1
               try clear c10
               try clear c10b0
               try clear c10b1
               try clear c11
               try clear c11b0
               try clear c11b1
               try clear c12
               try clear c12b0
               try clear c12b1
               try clear c13
               try clear c13b0
               try clear c13b1
               try clear q14
               try clear c25
               try clear c25b0
               try clear c26
               try clear c26b0
               try clear c27
               try clear c27b0
               try clear c28
               try clear c28b0
               try clear c29
               try clear c29b0
               try clear c30
               try clear c30b0
               try clear c31
               try clear c31b0
               try clear c32
               try clear c32b0
               try clear c33
               try clear c33b0
               try clear c34
               try clear c34b0
               try clear c35
               try clear c35b0
               try clear c36
               try clear c36b0
               try clear p37
               try clear q37
               try clear hx37
               try clear hf37
               try clear c38
               try clear c38b0
               try clear p39
               try clear q39
               try clear hx39
               try clear hf39
               try clear c50
               try clear c50b0
               try clear c51
               try clear c51b0
               try clear c52
               try clear c52b0
               try clear c53
               try clear c53b0
               try clear c54
               try clear c54b0
               try clear c55
               try clear c55b0
               try clear p56
               try clear q56
               try clear hx56
               try clear hf56
               try clear p57
               try clear q57
               try clear hx57
               try clear hx37_0
               try clear hx39_0
               try clear hx566_0
               try clear hx566_1
               try clear hx567_0
               try clear hx567_1
               try clear hx568_0
               try clear hx568_1
               try clear hx569_0
               try clear hx569_1
               try clear hx56_0
               try clear hx570_0
               try clear hx572_0
               try clear hx574_0
               try clear hx575_0
               try clear hx576_0
               try clear hx577_0
               try clear p2
               try clear p3
               try clear p37
               try clear p39
               try clear p5
               try clear p56
               try clear p566
               try clear p567
               try clear p568
               try clear p569
               try clear p570
               try clear p572
               try clear p574
               try clear p575
               try clear p576
               try clear p577
               try clear p6
               try clear q1
               try clear q14
               try clear q3
               try clear q37
               try clear q39
               try clear q5
               try clear q56
               try clear q566
               try clear q567
               try clear q568
               try clear q569
               try clear q570
               try clear q572
               try clear q574
               try clear q575
               try clear q576
               try clear q577
               obtain ⟨x13_3, x18_3, rfl, HA, HK3, HO_5, HO_10, HO_12, HO_13, HB⟩ := hrel
               cases gk with
               | zero => exact absurd HA.out (by simp [jalousielaw11_PatchParts.l2])
               | succ k3 =>
                have H := HA.out
                clear HA
                simp only [jalousielaw11_PatchParts.l2] at H
                by_cases c62 : x18_3 < (t555.length : Int)
                ·rw [if_pos c62] at H
                 have c62b0 : decide (x18_3 < (t555.length : Int)) = true := decide_eq_true c62
                 clear c62
                 by_cases c63 : 0 ≤ x18_3
                 ·rw [if_pos c63] at H
                  have c63b0 : decide (0 ≤ x18_3) = true := decide_eq_true c63
                  clear c63
                  by_cases c64 : (rd t555 x18_3) < 0
                  ·rw [if_pos c64] at H
                   have c64b0 : decide ((rd t555 x18_3) < 0) = true := decide_eq_true c64
                   clear c64
                   exact absurd (Option.some.inj (H.trans (congrArg some HRT.out))) (by decide)
                  ·rw [if_neg c64] at H
                   have c64b0 : decide ((rd t555 x18_3) < 0) = false := decide_eq_false c64
                   clear c64
                   by_cases c65 : (rd t555 x18_3) ≥ (t544.length : Int)
                   ·rw [if_pos c65] at H
                    have c65b0 : decide ((t544.length : Int) ≤ (rd t555 x18_3)) = true := decide_eq_true c65
                    clear c65
                    exact absurd (Option.some.inj (H.trans (congrArg some HRT.out))) (by decide)
                   ·rw [if_neg c65] at H
                    have c65b0 : decide ((t544.length : Int) ≤ (rd t555 x18_3)) = false := decide_eq_false c65
                    clear c65
                    by_cases c66 : 0 ≤ (rd t555 x18_3)
                    ·rw [if_pos c66] at H
                     have c66b0 : decide (0 ≤ (rd t555 x18_3)) = true := decide_eq_true c66
                     clear c66
                     by_cases c67 : (rd t555 x18_3) < (x13_3.length : Int)
                     ·rw [if_pos c67] at H
                      have c67b0 : decide ((rd t555 x18_3) < (x13_3.length : Int)) = true := decide_eq_true c67
                      clear c67
                      obtain ⟨y583, hy583⟩ : ∃ y_ : List Int, y_ = (x13_3.set ((rd t555 x18_3) : Int).toNat (wrap64 ((rd x13_3 (rd t555 x18_3)) + 1))) := ⟨_, rfl⟩
                      replace H : (jalousielaw11_PatchParts.l2 k3 t544 t555 x12_2 y583 (wrap64 (x18_3 + 1))) = some r := by first | (rw [hy583]; with_reducible exact H) | (have H2_ := (Option.bind_some _ _).symm.trans H; rw [hy583]; with_reducible exact H2_) | (have H2_ := (Option.bind_some _ _).symm.trans H; with_reducible exact H2_) | with_reducible exact H | (rw [hy583]; exact H) | exact H
                      have Ny583 := Aside0.mk hy583
                      clear hy583
                      have H' := Aside0.mk H
                      clear H
                      obtain ⟨Ao69, co69, eo69⟩ := Kd.R_slice HO_10.out
                      subst eo69
                      have p579 : 0 ≤ (x18_3 : Int) := of_decide_eq_true (by first | (with_reducible assumption) | assumption)
                      have q579 : x18_3 < (t555.length : Int) := of_decide_eq_true (by first | (with_reducible assumption) | assumption)
                      obtain ⟨ad579, e579, hx579_0⟩ := Kd.at_int (Kd.R_reads' HO_10.out).2.2 x18_3 p579 q579
                      cases e579
                      replace p579 := eq_true p579
                      replace q579 := eq_true q579
                      have p580 : 0 ≤ (x18_3 : Int) := of_decide_eq_true (by first | (with_reducible assumption) | assumption)
                      have q580 : x18_3 < (t555.length : Int) := of_decide_eq_true (by first | (with_reducible assumption) | assumption)
                      obtain ⟨ad580, e580, hx580_0⟩ := Kd.at_int (Kd.R_reads' HO_10.out).2.2 x18_3 p580 q580
                      obtain rfl : ad579 = ad580 := (by injection e580)
                      replace p580 := eq_true p580
                      replace q580 := eq_true q580
                      have p581 : 0 ≤ (x18_3 : Int) := of_decide_eq_true (by first | (with_reducible assumption) | assumption)
                      have q581 : x18_3 < (t555.length : Int) := of_decide_eq_true (by first | (with_reducible assumption) | assumption)
                      obtain ⟨ad581, e581, hx581_0⟩ := Kd.at_int (Kd.R_reads' HO_10.out).2.2 x18_3 p581 q581
                      obtain rfl : ad579 = ad581 := (by injection e581)
                      replace p581 := eq_true p581
                      replace q581 := eq_true q581
                      obtain ⟨Ao70, co70, eo70⟩ := Kd.R_slice HO_13.out
                      subst eo70
                      have p582 : 0 ≤ ((rd t555 x18_3) : Int) := of_decide_eq_true (by first | (with_reducible assumption) | assumption)
                      have q582 : (rd t555 x18_3) < (x13_3.length : Int) := of_decide_eq_true (by first | (with_reducible assumption) | assumption)
                      obtain ⟨ad582, e582, hx582_0⟩ := Kd.at_int (Kd.R_reads' HO_13.out).2.2 (rd t555 x18_3) p582 q582
                      cases e582
                      replace p582 := eq_true p582
                      replace q582 := eq_true q582
                      have p68 : 0 ≤ ((rd t555 x18_3) : Int) := of_decide_eq_true (by first | (with_reducible assumption) | assumption)
                      have q68 : ((rd t555 x18_3) : Int) < ((x13_3.length : Int) : Int) := of_decide_eq_true (by first | (with_reducible assumption) | assumption)
                      obtain ⟨go68, co68, eo68, gb68, gl68, cl68, HG68⟩ := Kd.R_form HO_13.out (by omega)
                      (first | cases eo68 | (injection eo68 with ea_ en_ ec_; (first | subst ea_ | (injection ea_ with ea_; subst ea_)); subst ec_; clear en_))
                      have GB68 := Aside0.mk gb68
                      have GG68 := Aside0.mk HG68
                      clear gb68 gl68 HG68
                      (first | simp only [add_plain] at hx582_0 | skip)
                      obtain ⟨hx68_0, hf68_0⟩ := Kd.R_celln 0 HO_13.out ((rd t555 x18_3) : Int) p68 q68
                      replace p68 := eq_true p68
                      replace q68 := eq_true q68
                      have HP71 := Kd.R_putg HO_13.out ((rd t555 x18_3) : Int) (wrap64 ((rd x13_3 (rd t555 x18_3)) + 1))
                      go_wp2_with (first | ((with_reducible refine gate_store (t := 3) (p := 182) rfl ?_); refine store_event (t := 3) (p := 182) (v := ?vo_w72) (w1 := (wr.setCell ⟨go68, ((rd t555 x18_3) : Int).toNat, none⟩ (.int .i64 (wrap64 ((rd x13_3 (rd t555 x18_3)) + 1))))) ?hg ?ho ?hn ?hr ?_; (case ho => rfl); (case hg => rfl); (case hn => rfl); (case hr => first | (go_simp; done) | (go_simp; rfl)); intro w72 hw; have hg : wr.grownBy w72 (some go68) := (by rw [hw]; exact HP71.2); have hp_ : Kd.R (Kd.int .i64) 3 w72 w.heap.size (fun k_ => some k_ ≠ (.slice (some ad579) t555.length co69 : Value).ownBlock ∧ some k_ ≠ (v561 : Value).ownBlock) (.slice (some ⟨go68, 0, none⟩) x13_3.length co70) y583 := (by rw [hw, Ny583.out]; exact HP71.1); clear HP71; have n0_ := Aside0.mk (Kd.R_over' (v := (.slice (some ⟨go68, 0, none⟩) x13_3.length co70)) (by (with_reducible repeat first|apply zr1|apply zr2|apply zr3); exact HO_5.out) (Kd.R_typed HO_13.out) (by decide) hg); have n1_ := Aside0.mk (Kd.R_after (v := (.slice (some ⟨go68, 0, none⟩) x13_3.length co70)) (v1 := (.slice (some ⟨go68, 0, none⟩) x13_3.length co70)) (ok := (fun k_ => some k_ ≠ (v561 : Value).ownBlock)) (by (with_reducible repeat first|apply zr1|apply zr2|apply zr3); exact HO_10.out) hg (.inl rfl)); have n2_ := Aside0.mk (Kd.R_after (v := (.slice (some ⟨go68, 0, none⟩) x13_3.length co70)) (v1 := (.slice (some ⟨go68, 0, none⟩) x13_3.length co70)) (ok := (fun k_ => some k_ ≠ (.slice (some ad579) t555.length co69 : Value).ownBlock)) (by (with_reducible repeat first|apply zr1|apply zr2|apply zr3); exact HO_12.out) hg (.inl rfl)); have n3_ := Aside0.mk (hp_); have n4_ := Aside0.mk ((by rw [hw]; exact below_set (HB.out) GB68.out : Below w.heap.size w w72)); clear HO_5; clear HO_10; clear HO_12; clear HO_13; clear HB; have HO_5 := n0_; have HO_10 := n1_; have HO_12 := n2_; have HO_13 := n3_; have HB := n4_; clear n0_ n1_ n2_ n3_ n4_; clear hg hw hp_))
                      go_roundg k3
                      case measure => have := HK1.out; have := HK2.out; have := HK3.out; omega
                      case rel => exact ⟨(y583), (wrap64 (x18_3 + 1)), (by first | rfl | (simp; done) | (simp [*]; done)), H', ⟨by have := HK1.out; have := HK2.out; have := HK3.out; omega⟩, ⟨by (with_reducible repeat first|apply zr1|apply zr2|apply zr3); exact HO_5.out⟩, ⟨by (with_reducible repeat first|apply zr1|apply zr2|apply zr3); exact HO_10.out⟩, ⟨by (with_reducible repeat first|apply zr1|apply zr2|apply zr3); exact HO_12.out⟩, ⟨by (with_reducible repeat first|apply zr1|apply zr2|apply zr3); exact HO_13.out⟩, ⟨by repeat (first | (with_reducible first | exact HB.out | apply below_alloc | apply pw_below_drewN | apply below_drew1) | exact HB.out)⟩⟩
                     ·rw [if_neg c67] at H
                      exact absurd H (by simp)
                    ·rw [if_neg c66] at H
                     exact absurd H (by simp)
                 ·rw [if_neg c63] at H
                  exact absurd H (by simp)
                ·rw [if_neg c62] at H
                 have c62b0 : decide (x18_3 < (t555.length : Int)) = false := decide_eq_false c62
                 clear c62
                 have H' := Aside0.mk H
                 clear H
                 obtain ⟨Ao73, co73, eo73⟩ := Kd.R_slice HO_10.out
                 subst eo73
                 go_wp2
                 go_loopg [19] k3 (fun kq v19 w' => ∃ (x19_4 : Int), v19 = .int .i64 x19_4 ∧ Aside0 (jalousielaw11_PatchParts.l3 kq x12_2 x13_3 x19_4 = some r) ∧ Aside0 (kq ≤ k3) ∧ Aside0 (Kd.R (Kd.int .i64) 3 w' w.heap.size (fun k_ => some k_ ≠ (v564 : Value).ownBlock) v561 x12_2) ∧ Aside0 (Kd.R (Kd.int .i64) 3 w' w.heap.size (fun k_ => some k_ ≠ (v561 : Value).ownBlock) v564 x13_3) ∧ Aside0 (Below w.heap.size w w'))
                 case atStart => exact ⟨(0), (by first | rfl | (simp; done) | (simp [*]; done)), H', ⟨Nat.le_refl _⟩, ⟨by (with_reducible repeat first|apply zr1|apply zr2|apply zr3); exact Kd.R_mono HO_12.out (fun _ hk => hk.2)⟩, ⟨by (with_reducible repeat first|apply zr1|apply zr2|apply zr3); exact Kd.R_mono HO_13.out (fun _ hk => hk.2)⟩, ⟨by repeat (first | (with_reducible first | exact HB.out | apply below_alloc | apply pw_below_drewN | apply below_drew1) | exact HB.out)⟩⟩
                 case round =>
                  clear H'
                  try clear c1
                  try clear q1
                  try clear c2
                  try clear p2
                  try clear c3
                  try clear p3
                  try clear q3
                  try clear hx3
                  try clear hf3
                  try clear c4
                  try clear c4b0
                  try clear c4b1
                  try clear c5
                  try clear c5b0
                  try clear c5b1
                  try clear p5
                  try clear q5
                  try clear hx5
                  try clear hf5
                  try clear c6
                  try clear p6
                  try clear q6
                  try clear hx6
                  try clear hf6
                  try clear c9
                  try clear c9b0
                  try clear c9b1
                  try clear c10
                  try clear c10b0
                  try clear c10b1
                  try clear c11
                  try clear c11b0
                  try clear c11b1
                  try clear c12
                  try clear c12b0
                  try clear c12b1
                  try clear c13
                  try clear c13b0
                  try clear c13b1
                  try clear q14
                  try clear c25
                  try clear c25b0
                  try clear c26
                  try clear c26b0
                  try clear c27
                  try clear c27b0
                  try clear c28
                  try clear c28b0
                  try clear c29
                  try clear c29b0
                  try clear c30
                  try clear c30b0
                  try clear c31
                  try clear c31b0
                  try clear c32
                  try clear c32b0
                  try clear c33
                  try clear c33b0
                  try clear c34
                  try clear c34b0
                  try clear c35
                  try clear c35b0
                  try clear c36
                  try clear c36b0
                  try clear p37
                  try clear q37
                  try clear hx37
                  try clear hf37
                  try clear c38
                  try clear c38b0
                  try clear p39
                  try clear q39
                  try clear hx39
                  try clear hf39
                  try clear c50
                  try clear c50b0
                  try clear c51
                  try clear c51b0
                  try clear c52
                  try clear c52b0
                  try clear c53
                  try clear c53b0
                  try clear c54
                  try clear c54b0
                  try clear c55
                  try clear c55b0
                  try clear p56
                  try clear q56
                  try clear hx56
                  try clear hf56
                  try clear p57
                  try clear q57
                  try clear hx57
                  try clear p58
                  try clear q58
                  try clear hx58
                  try clear c62
                  try clear c62b0
                  try clear c63
                  try clear c63b0
                  try clear c64
                  try clear c64b0
                  try clear p64
                  try clear c65
                  try clear c65b0
                  try clear c66
                  try clear c66b0
                  try clear c67
                  try clear c67b0
                  try clear p68
                  try clear q68
                  try clear hx68
                  try clear hf68
                  try clear hx37_0
                  try clear hx39_0
                  try clear hx566_0
                  try clear hx566_1
                  try clear hx567_0
                  try clear hx567_1
                  try clear hx568_0
                  try clear hx568_1
                  try clear hx569_0
                  try clear hx569_1
                  try clear hx56_0
                  try clear hx570_0
                  try clear hx572_0
                  try clear hx574_0
                  try clear hx575_0
                  try clear hx576_0
                  try clear hx577_0
                  try clear hx579_0
                  try clear hx580_0
                  try clear hx581_0
                  try clear hx582_0
                  try clear hx68_0
                  try clear p2
                  try clear p3
                  try clear p37
                  try clear p39
                  try clear p5
                  try clear p56
                  try clear p566
                  try clear p567
                  try clear p568
                  try clear p569
                  try clear p57
                  try clear p570
                  try clear p572
                  try clear p574
                  try clear p575
                  try clear p576
                  try clear p577
                  try clear p579
                  try clear p580
                  try clear p581
                  try clear p582
                  try clear p6
                  try clear p68
                  try clear q1
                  try clear q14
                  try clear q3
                  try clear q37
                  try clear q39
                  try clear q5
                  try clear q56
                  try clear q566
                  try clear q567
                  try clear q568
                  try clear q569
                  try clear q57
                  try clear q570
                  try clear q572
                  try clear q574
                  try clear q575
                  try clear q576
                  try clear q577
                  try clear q579
                  try clear q580
                  try clear q581
                  try clear q582
                  try clear q68
                  obtain ⟨x19_4, rfl, HA, HK4, HO_12, HO_13, HB⟩ := hrel
                  cases gk with
                  | zero => exact absurd HA.out (by simp [jalousielaw11_PatchParts.l3])
                  | succ k4 =>
                   have H := HA.out
                   clear HA
                   simp only [jalousielaw11_PatchParts.l3] at H
                   by_cases c74 : x19_4 < (x12_2.length : Int)
                   ·rw [if_pos c74] at H
                    have c74b0 : decide (x19_4 < (x12_2.length : Int)) = true := decide_eq_true c74
                    clear c74
                    by_cases c75 : 0 ≤ x19_4
                    ·rw [if_pos c75] at H
                     have c75b0 : decide (0 ≤ x19_4) = true := decide_eq_true c75
                     clear c75
                     by_cases c76 : (rd x12_2 x19_4) = 1
                     ·rw [if_pos c76] at H
                      have c76b0 : ((rd x12_2 x19_4) == 1) = true := beq_iff_eq.mpr c76
                      have c76b1 : ((rd x12_2 x19_4) != 1) = false := bne_eq_false_iff_eq.mpr c76
                      clear c76
                      have H' := Aside0.mk H
                      clear H
                      obtain ⟨Ao77, co77, eo77⟩ := Kd.R_slice HO_12.out
                      subst eo77
                      have p584 : 0 ≤ (x19_4 : Int) := of_decide_eq_true (by first | (with_reducible assumption) | assumption)
                      have q584 : x19_4 < (x12_2.length : Int) := of_decide_eq_true (by first | (with_reducible assumption) | assumption)
                      obtain ⟨ad584, e584, hx584_0⟩ := Kd.at_int (Kd.R_reads' HO_12.out).2.2 x19_4 p584 q584
                      cases e584
                      replace p584 := eq_true p584
                      replace q584 := eq_true q584
                      go_wp2
                      go_roundg k4
                      case measure => have := HK1.out; have := HK2.out; have := HK3.out; have := HK4.out; omega
                      case rel => exact ⟨(wrap64 (x19_4 + 1)), (by first | rfl | (simp; done) | (simp [*]; done)), H', ⟨by have := HK1.out; have := HK2.out; have := HK3.out; have := HK4.out; omega⟩, ⟨by (with_reducible repeat first|apply zr1|apply zr2|apply zr3); exact HO_12.out⟩, ⟨by (with_reducible repeat first|apply zr1|apply zr2|apply zr3); exact HO_13.out⟩, ⟨by repeat (first | (with_reducible first | exact HB.out | apply below_alloc | apply pw_below_drewN | apply below_drew1) | exact HB.out)⟩⟩
                     ·rw [if_neg c76] at H
                      have c76b0 : ((rd x12_2 x19_4) == 1) = false := beq_eq_false_iff_ne.mpr c76
                      have c76b1 : ((rd x12_2 x19_4) != 1) = true := bne_iff_ne.mpr c76
                      exact absurd (Option.some.inj (H.trans (congrArg some HRT.out))) (by decide)
                    ·rw [if_neg c75] at H
                     exact absurd H (by simp)
                   ·rw [if_neg c74] at H
                    have c74b0 : decide (x19_4 < (x12_2.length : Int)) = false := decide_eq_false c74
                    clear c74
                    have H' := Aside0.mk H
                    clear H
                    obtain ⟨Ao78, co78, eo78⟩ := Kd.R_slice HO_12.out
                    subst eo78
                    go_wp2
                    go_loopg [20] k4 (fun kq v20 w' => ∃ (x20_5 : Int), v20 = .int .i64 x20_5 ∧ Aside0 (jalousielaw11_PatchParts.l4 kq x13_3 x20_5 = some r) ∧ Aside0 (kq ≤ k4) ∧ Aside0 (Kd.R (Kd.int .i64) 3 w' w.heap.size (fun _ => True) v564 x13_3) ∧ Aside0 (Below w.heap.size w w'))
                    case atStart => exact ⟨(0), (by first | rfl | (simp; done) | (simp [*]; done)), H', ⟨Nat.le_refl _⟩, ⟨by (with_reducible repeat first|apply zr1|apply zr2|apply zr3); exact Kd.R_mono HO_13.out (fun _ hk => trivial)⟩, ⟨by repeat (first | (with_reducible first | exact HB.out | apply below_alloc | apply pw_below_drewN | apply below_drew1) | exact HB.out)⟩⟩
                    case round =>
                     clear H'
                     try clear c1
                     try clear q1
                     try clear c2
                     try clear p2
                     try clear c3
                     try clear p3
                     try clear q3
                     try clear hx3
                     try clear hf3
                     try clear c4
                     try clear c4b0
                     try clear c4b1
                     try clear c5
                     try clear c5b0
                     try clear c5b1
                     try clear p5
                     try clear q5
                     try clear hx5
                     try clear hf5
                     try clear c6
                     try clear p6
                     try clear q6
                     try clear hx6
                     try clear hf6
                     try clear c7
                     try clear c9
                     try clear c9b0
                     try clear c9b1
                     try clear c10
                     try clear c10b0
                     try clear c10b1
                     try clear c11
                     try clear c11b0
                     try clear c11b1
                     try clear c12
                     try clear c12b0
                     try clear c12b1
                     try clear c13
                     try clear c13b0
                     try clear c13b1
                     try clear q14
                     try clear c25
                     try clear c25b0
                     try clear c26
                     try clear c26b0
                     try clear c27
                     try clear c27b0
                     try clear c28
                     try clear c28b0
                     try clear c29
                     try clear c29b0
                     try clear c30
                     try clear c30b0
                     try clear c31
                     try clear c31b0
                     try clear c32
                     try clear c32b0
                     try clear c33
                     try clear c33b0
                     try clear c34
                     try clear c34b0
                     try clear c35
                     try clear c35b0
                     try clear c36
                     try clear c36b0
                     try clear p37
                     try clear q37
                     try clear hx37
                     try clear hf37
                     try clear c38
                     try clear c38b0
                     try clear p39
                     try clear q39
                     try clear hx39
                     try clear hf39
                     try clear c50
                     try clear c50b0
                     try clear c51
                     try clear c51b0
                     try clear c52
                     try clear c52b0
                     try clear c53
                     try clear c53b0
                     try clear c54
                     try clear c54b0
                     try clear c55
                     try clear c55b0
                     try clear p56
                     try clear q56
                     try clear hx56
                     try clear hf56
                     try clear p57
                     try clear q57
                     try clear hx57
                     try clear p58
                     try clear q58
                     try clear hx58
                     try clear c62
                     try clear c62b0
                     try clear c63
                     try clear c63b0
                     try clear c64
                     try clear c64b0
                     try clear p64
                     try clear c65
                     try clear c65b0
                     try clear c66
                     try clear c66b0
                     try clear c67
                     try clear c67b0
                     try clear p68
                     try clear q68
                     try clear hx68
                     try clear hf68
                     try clear c74
                     try clear c74b0
                     try clear c75
                     try clear c75b0
                     try clear c76
                     try clear c76b0
                     try clear c76b1
                     try clear hx37_0
                     try clear hx39_0
                     try clear hx566_0
                     try clear hx566_1
                     try clear hx567_0
                     try clear hx567_1
                     try clear hx568_0
                     try clear hx568_1
                     try clear hx569_0
                     try clear hx569_1
                     try clear hx56_0
                     try clear hx570_0
                     try clear hx572_0
                     try clear hx574_0
                     try clear hx575_0
                     try clear hx576_0
                     try clear hx577_0
                     try clear hx579_0
                     try clear hx580_0
                     try clear hx581_0
                     try clear hx582_0
                     try clear hx584_0
                     try clear hx68_0
                     try clear p2
                     try clear p3
                     try clear p37
                     try clear p39
                     try clear p5
                     try clear p56
                     try clear p566
                     try clear p567
                     try clear p568
                     try clear p569
                     try clear p57
                     try clear p570
                     try clear p572
                     try clear p574
                     try clear p575
                     try clear p576
                     try clear p577
                     try clear p579
                     try clear p58
                     try clear p580
                     try clear p581
                     try clear p582
                     try clear p584
                     try clear p6
                     try clear p64
                     try clear p68
                     try clear q1
                     try clear q14
                     try clear q3
                     try clear q37
                     try clear q39
                     try clear q5
                     try clear q56
                     try clear q566
                     try clear q567
                     try clear q568
                     try clear q569
                     try clear q57
                     try clear q570
                     try clear q572
                     try clear q574
                     try clear q575
                     try clear q576
                     try clear q577
                     try clear q579
                     try clear q58
                     try clear q580
                     try clear q581
                     try clear q582
                     try clear q584
                     try clear q6
                     try clear q68
                     obtain ⟨x20_5, rfl, HA, HK5, HO_13, HB⟩ := hrel
                     cases gk with
                     | zero => exact absurd HA.out (by simp [jalousielaw11_PatchParts.l4])
                     | succ k5 =>
                      have H := HA.out
                      clear HA
                      simp only [jalousielaw11_PatchParts.l4] at H
                      by_cases c79 : x20_5 < (x13_3.length : Int)
                      ·rw [if_pos c79] at H
                       have c79b0 : decide (x20_5 < (x13_3.length : Int)) = true := decide_eq_true c79
                       clear c79
                       by_cases c80 : 0 ≤ x20_5
                       ·rw [if_pos c80] at H
                        have c80b0 : decide (0 ≤ x20_5) = true := decide_eq_true c80
                        clear c80
                        by_cases c81 : (rd x13_3 x20_5) = 1
                        ·rw [if_pos c81] at H
                         have c81b0 : ((rd x13_3 x20_5) == 1) = true := beq_iff_eq.mpr c81
                         have c81b1 : ((rd x13_3 x20_5) != 1) = false := bne_eq_false_iff_eq.mpr c81
                         clear c81
                         have H' := Aside0.mk H
                         clear H
                         obtain ⟨Ao82, co82, eo82⟩ := Kd.R_slice HO_13.out
                         subst eo82
                         have p585 : 0 ≤ (x20_5 : Int) := of_decide_eq_true (by first | (with_reducible assumption) | assumption)
                         have q585 : x20_5 < (x13_3.length : Int) := of_decide_eq_true (by first | (with_reducible assumption) | assumption)
                         obtain ⟨ad585, e585, hx585_0⟩ := Kd.at_int (Kd.R_reads' HO_13.out).2.2 x20_5 p585 q585
                         cases e585
                         replace p585 := eq_true p585
                         replace q585 := eq_true q585
                         go_wp2
                         go_roundg k5
                         case measure => have := HK1.out; have := HK2.out; have := HK3.out; have := HK4.out; have := HK5.out; omega
                         case rel => exact ⟨(wrap64 (x20_5 + 1)), (by first | rfl | (simp; done) | (simp [*]; done)), H', ⟨by have := HK1.out; have := HK2.out; have := HK3.out; have := HK4.out; have := HK5.out; omega⟩, ⟨by (with_reducible repeat first|apply zr1|apply zr2|apply zr3); exact HO_13.out⟩, ⟨by repeat (first | (with_reducible first | exact HB.out | apply below_alloc | apply pw_below_drewN | apply below_drew1) | exact HB.out)⟩⟩
                        ·rw [if_neg c81] at H
                         have c81b0 : ((rd x13_3 x20_5) == 1) = false := beq_eq_false_iff_ne.mpr c81
                         have c81b1 : ((rd x13_3 x20_5) != 1) = true := bne_iff_ne.mpr c81
                         exact absurd (Option.some.inj (H.trans (congrArg some HRT.out))) (by decide)
                       ·rw [if_neg c80] at H
                        exact absurd H (by simp)
                      ·rw [if_neg c79] at H
                       have c79b0 : decide (x20_5 < (x13_3.length : Int)) = false := decide_eq_false c79
                       clear c79
                       replace H := Option.bind_eq_some_iff.mp H
                       obtain ⟨t586, A830, H⟩ := H
                       replace H : (some t586) = some r := H
                       have A83 := Aside0.mk A830
                       clear A830
                       obtain rfl := Option.some.inj H
                       obtain ⟨Ao84, co84, eo84⟩ := Kd.R_slice HO_13.out
                       subst eo84
                       go_wp2_with (first | ((with_reducible refine gate_callee (f := 32) rfl ?_); refine goesL_ (some 205) rfl rfl Try.func32 (by kernel_rfl) rfl #[] rfl (by (try simp only [List.map_toArray, List.map_cons, List.map_nil]); first | done | rfl | (simp only [List.length_drop, List.length_take]; rfl)) ?_; (with_reducible refine (jalousielaw11_live.calls k5  t586 _ A83.out).mono ?_); rintro e w85 ⟨rfl, hb⟩; refine ⟨_, rfl, ?_⟩; have n0_ := Aside0.mk (Kd.R_below (by (with_reducible repeat first|apply zr1|apply zr2|apply zr3); exact HO_13.out) hb); have n1_ := Aside0.mk (below_step (by repeat (first | (with_reducible first | exact HB.out | apply below_alloc | apply pw_below_drewN | apply below_drew1) | exact HB.out)) hb); clear HO_13; clear HB; have HO_13 := n0_; have HB := n1_; clear n0_ n1_; (try clear hb); (try clear hb2); (try clear hk); (try clear hi)))
                       go_ret
                       exact ⟨by first | rfl | (simp [errW_none, errW_some] <;> rfl) | (simp only [← hji3]; first | rfl | (simp [errW_none, errW_some] <;> rfl)) | (simp [*, errW_none, errW_some] <;> rfl), by repeat (first | (with_reducible first | exact HB.out | apply below_alloc | apply pw_below_drewN | apply below_drew1) | exact HB.out)⟩
       ·rw [if_neg c13] at H
        exact absurd H (by simp)
      ·rw [if_neg c12] at H
       exact absurd H (by simp)
     ·rw [if_neg c11] at H
      exact absurd H (by simp)
    ·rw [if_neg c10] at H
     exact absurd H (by simp)
   ·rw [if_neg c9] at H
    have c9b0 : (t546 == 0) = false := beq_eq_false_iff_ne.mpr c9
    have c9b1 : (t546 != 0) = true := bne_iff_ne.mpr c9
    replace H := Option.bind_eq_some_iff.mp H
    obtain ⟨t559, A860, H⟩ := H
    replace H : (if t559 = true then (some ((wrap64 ((wrap64 ((wrap64 ((t544.length : Int) + (t545.length : Int))) + (t551.length : Int))) + (t555.length : Int))) == 0)) else (some false)) = some r := H
    have A86 := Aside0.mk A860
    clear A860
    by_cases c87 : t559 = true
    ·subst c87
     have H1 : (some ((wrap64 ((wrap64 ((wrap64 ((t544.length : Int) + (t545.length : Int))) + (t551.length : Int))) + (t555.length : Int))) == 0)) = some r := by rw [if_pos rfl] at H; exact H
     clear H
     have H := H1
     clear H1
     obtain rfl := Option.some.inj H
     have q88 : ((ji3) : Int) ≤ ((l0.length : Int) : Int) := of_decide_eq_true (by first | (with_reducible assumption) | assumption)
     obtain ⟨i088, hi088, _, hsz88, _⟩ := info_parts info44
     have hroom88 : l0.length ≤ c0 := HC0.out
     have hC88 : Kd.C k44 _ A0 l0.length l0 := HR0.out
     have hcut88 := cut_to (P := Try.prog) 25 44 .i64 Try.underlying25 hi088 A0 l0.length c0 (ji3) (of_decide_eq_true (by first | (with_reducible assumption) | assumption)) q88 hroom88
     have hr88 := Kd.C_take (m := ((ji3) : Int).toNat) hC88 (by omega)
     have hy88 : y540.length = ((ji3) : Int).toNat := (by rw [Ny540.out, List.length_take]; omega)
     rw [← Ny540.out] at hr88
     rw [← hy88] at hcut88
     have HR543 := Aside0.mk hr88
     have HC543 := Aside0.mk (show y540.length ≤ c0 from by omega)
     clear hr88 hC88 hroom88 hi088 hsz88
     have KY88 := Aside0.mk hy88
     clear hy88
     replace q88 := eq_true q88
     go_enter Try.func9, Try.ntmps9
     go_wp2_with (first | ((with_reducible refine gate_callee (f := 28) rfl ?_); refine goesL_ (some 29) rfl rfl Try.func28 (by kernel_rfl) rfl #[.slice A0 y540.length c0, .slice A1 l1.length c1] rfl (by (try simp only [List.map_toArray, List.map_cons, List.map_nil]); first | done | rfl | (simp only [List.length_drop, List.length_take]; rfl)) ?_; (with_reducible refine (patch_Apply.calls k _ _ y540 _ _ l1 t544 t545 t546 _ ?side1 ?side2 ?side3 ?side4 A6.out).mono ?_); (case side1 => repeat (first | exact HR543.out | (with_reducible refine Kd.C_alloc ?_ _) | (with_reducible refine Kd.C_drewN ?_ _) | (with_reducible refine Kd.C_drew ?_))); (case side2 => exact HC543.out); (case side3 => repeat (first | exact HR1.out | (with_reducible refine Kd.C_alloc ?_ _) | (with_reducible refine Kd.C_drewN ?_ _) | (with_reducible refine Kd.C_drew ?_))); (case side4 => exact HC1.out); rintro e w89 ⟨v547, v549, rfl, ho0, ho1, hb⟩; refine ⟨_, rfl, ?_⟩; have n0_ := Aside0.mk (Kd.R_lower ho0 (below_size (by repeat (first | (with_reducible first | exact HB.out | apply below_alloc | apply pw_below_drewN | apply below_drew1) | exact HB.out)))); have n1_ := Aside0.mk (Kd.R_lower ho1 (below_size (by repeat (first | (with_reducible first | exact HB.out | apply below_alloc | apply pw_below_drewN | apply below_drew1) | exact HB.out)))); have n2_ := Aside0.mk (below_step (by repeat (first | (with_reducible first | exact HB.out | apply below_alloc | apply pw_below_drewN | apply below_drew1) | exact HB.out)) hb); clear HB; have HO548 := n0_; have HO550 := n1_; have HB := n2_; clear n0_ n1_ n2_; (try clear hb); (try clear hb2); (try clear hk); (try clear hi); (try clear ho0); (try clear ho1)) | ((with_reducible refine gate_callee (f := 29) rfl ?_); refine goesL_ (some 36) rfl rfl Try.func29 (by kernel_rfl) rfl #[.slice A0 y540.length c0, .slice A1 l1.length c1] rfl (by (try simp only [List.map_toArray, List.map_cons, List.map_nil]); first | done | rfl | (simp only [List.length_drop, List.length_take]; rfl)) ?_; (with_reducible refine (patch_Gone.calls k _ _ y540 _ _ l1 t551 t552 _ ?side1 ?side2 ?side3 ?side4 A7.out).mono ?_); (case side1 => repeat (first | exact (Kd.C_below HR543.out HB.out) | (with_reducible refine Kd.C_alloc ?_ _) | (with_reducible refine Kd.C_drewN ?_ _) | (with_reducible refine Kd.C_drew ?_))); (case side2 => exact HC543.out); (case side3 => repeat (first | exact (Kd.C_below HR1.out HB.out) | (with_reducible refine Kd.C_alloc ?_ _) | (with_reducible refine Kd.C_drewN ?_ _) | (with_reducible refine Kd.C_drew ?_))); (case side4 => exact HC1.out); rintro e w90 ⟨v553, rfl, ho0, hb⟩; refine ⟨_, rfl, ?_⟩; have n0_ := Aside0.mk (Kd.R_below (by (with_reducible repeat first|apply zr1|apply zr2|apply zr3); exact HO548.out) hb); have n1_ := Aside0.mk (Kd.R_below (by (with_reducible repeat first|apply zr1|apply zr2|apply zr3); exact HO550.out) hb); have n2_ := Aside0.mk (Kd.R_lower ho0 (below_size (by repeat (first | (with_reducible first | exact HB.out | apply below_alloc | apply pw_below_drewN | apply below_drew1) | exact HB.out)))); have n3_ := Aside0.mk (below_step (by repeat (first | (with_reducible first | exact HB.out | apply below_alloc | apply pw_below_drewN | apply below_drew1) | exact HB.out)) hb); clear HO548; clear HO550; clear HB; have HO548 := n0_; have HO550 := n1_; have HO554 := n2_; have HB := n3_; clear n0_ n1_ n2_ n3_; (try clear hb); (try clear hb2); (try clear hk); (try clear hi); (try clear ho0)) | ((with_reducible refine gate_callee (f := 30) rfl ?_); refine goesL_ (some 42) rfl rfl Try.func30 (by kernel_rfl) rfl #[.slice A0 y540.length c0, .slice A1 l1.length c1] rfl (by (try simp only [List.map_toArray, List.map_cons, List.map_nil]); first | done | rfl | (simp only [List.length_drop, List.length_take]; rfl)) ?_; (with_reducible refine (patch_Made.calls k _ _ y540 _ _ l1 t555 t556 _ ?side1 ?side2 ?side3 ?side4 A8.out).mono ?_); (case side1 => repeat (first | exact (Kd.C_below HR543.out HB.out) | (with_reducible refine Kd.C_alloc ?_ _) | (with_reducible refine Kd.C_drewN ?_ _) | (with_reducible refine Kd.C_drew ?_))); (case side2 => exact HC543.out); (case side3 => repeat (first | exact (Kd.C_below HR1.out HB.out) | (with_reducible refine Kd.C_alloc ?_ _) | (with_reducible refine Kd.C_drewN ?_ _) | (with_reducible refine Kd.C_drew ?_))); (case side4 => exact HC1.out); rintro e w91 ⟨v557, rfl, ho0, hb⟩; refine ⟨_, rfl, ?_⟩; have n0_ := Aside0.mk (Kd.R_below (by (with_reducible repeat first|apply zr1|apply zr2|apply zr3); exact HO548.out) hb); have n1_ := Aside0.mk (Kd.R_below (by (with_reducible repeat first|apply zr1|apply zr2|apply zr3); exact HO550.out) hb); have n2_ := Aside0.mk (Kd.R_elder' (by (with_reducible repeat first|apply zr1|apply zr2|apply zr3); exact HO554.out) (Kd.R_base ho0) hb); have n3_ := Aside0.mk (Kd.R_lower (Kd.R_new' ho0 (Kd.R_lt (by (with_reducible repeat first|apply zr1|apply zr2|apply zr3); exact HO554.out))) (below_size (by repeat (first | (with_reducible first | exact HB.out | apply below_alloc | apply pw_below_drewN | apply below_drew1) | exact HB.out)))); have n4_ := Aside0.mk (below_step (by repeat (first | (with_reducible first | exact HB.out | apply below_alloc | apply pw_below_drewN | apply below_drew1) | exact HB.out)) hb); clear HO548; clear HO550; clear HO554; clear HB; have HO548 := n0_; have HO550 := n1_; have HO554 := n2_; have HO558 := n3_; have HB := n4_; clear n0_ n1_ n2_ n3_ n4_; (try clear hb); (try clear hb2); (try clear hk); (try clear hi); (try clear ho0)) | ((with_reducible refine gate_callee (f := 32) rfl ?_); refine goesL_ (some 47) rfl rfl Try.func32 (by kernel_rfl) rfl #[] rfl (by (try simp only [List.map_toArray, List.map_cons, List.map_nil]); first | done | rfl | (simp only [List.length_drop, List.length_take]; rfl)) ?_; (with_reducible refine (jalousielaw11_live.calls k  true _ A86.out).mono ?_); rintro e w92 ⟨rfl, hb⟩; refine ⟨_, rfl, ?_⟩; have n0_ := Aside0.mk (Kd.R_below (by (with_reducible repeat first|apply zr1|apply zr2|apply zr3); exact HO548.out) hb); have n1_ := Aside0.mk (Kd.R_below (by (with_reducible repeat first|apply zr1|apply zr2|apply zr3); exact HO550.out) hb); have n2_ := Aside0.mk (Kd.R_below (by (with_reducible repeat first|apply zr1|apply zr2|apply zr3); exact HO554.out) hb); have n3_ := Aside0.mk (Kd.R_below (by (with_reducible repeat first|apply zr1|apply zr2|apply zr3); exact HO558.out) hb); have n4_ := Aside0.mk (below_step (by repeat (first | (with_reducible first | exact HB.out | apply below_alloc | apply pw_below_drewN | apply below_drew1) | exact HB.out)) hb); clear HO548; clear HO550; clear HO554; clear HO558; clear HB; have HO548 := n0_; have HO550 := n1_; have HO554 := n2_; have HO558 := n3_; have HB := n4_; clear n0_ n1_ n2_ n3_ n4_; (try clear hb); (try clear hb2); (try clear hk); (try clear hi); obtain ⟨Ao93, co93, eo93⟩ := Kd.R_slice HO548.out; subst eo93; obtain ⟨Ao94, co94, eo94⟩ := Kd.R_slice HO550.out; subst eo94; obtain ⟨Ao95, co95, eo95⟩ := Kd.R_slice HO554.out; subst eo95; obtain ⟨Ao96, co96, eo96⟩ := Kd.R_slice HO558.out; subst eo96))
     go_ret
     exact ⟨by first | rfl | (simp [errW_none, errW_some] <;> rfl) | (simp only [← hji3]; first | rfl | (simp [errW_none, errW_some] <;> rfl)) | (simp [*, errW_none, errW_some] <;> rfl), by repeat (first | (with_reducible first | exact HB.out | apply below_alloc | apply pw_below_drewN | apply below_drew1) | exact HB.out)⟩
    ·replace c87 := Bool.eq_false_iff.mpr c87
     subst c87
     have H1 : (some false) = some r := by rw [if_neg (show ¬ (false = true) by decide)] at H; exact H
     clear H
     have H := H1
     clear H1
     exact absurd (Option.some.inj (H.trans (congrArg some HRT.out))) (by decide)
  ·rw [if_neg c5] at H
   exact absurd H (by simp)
 ·rw [if_neg c4] at H
  exact absurd H (by simp)

end Go.Proofs.Ytfnbodjmmkjlcaa.H
end
section
namespace Go.Proofs.Ytfnbodjmmkjlcaa.H
open Go.RowKit Go.Proofs.YtfnbodjmmkjlcaaW.PrintWords Go.Proofs.YtfnbodjmmkjlcaaW.PrintLast Go.Proofs.YtfnbodjmmkjlcaaW.PrintMore
set_option linter.unusedVariables false
/-- THE PURE STATEMENT of PatchParts. -/
def jalousielaw11_PatchParts.Pure : Prop := ∀ (l0 : (List S44)) (l1 : (List S66)), (∀ y_ ∈ l0, ok44 y_) → (∀ y_ ∈ l1, ok66 y_) → (l0.length * 56 ≤ 140737488351232 ∧ ∀ y_ ∈ l0, sz44 y_) → (l1.length * 24 ≤ 140737488351232 ∧ ∀ y_ ∈ l1, sz66 y_) → ∃ k, jalousielaw11_PatchParts.f k l0 l1 = some true
end Go.Proofs.Ytfnbodjmmkjlcaa.H
end
section
namespace Go.Proofs.Ytfnbodjmmkjlcaa
open Go.RowKit Go.Proofs.YtfnbodjmmkjlcaaW.PrintWords Go.Proofs.YtfnbodjmmkjlcaaW.PrintMore
theorem ev_succ {α : Type} {g : Nat → Option α} {r : α} (h : Ev (fun k => g (k + 1)) r) : Ev g r := Ev.step (fun _ => rfl) h
theorem ev_pos {α : Type} {c : Prop} [Decidable c] {f g : Nat → Option α} {r : α} (h : c) (k : Ev f r) : Ev (fun n => if c then f n else g n) r := by
  obtain ⟨K, k⟩ := k
  exact ⟨K, fun n hn => (if_pos h).trans (k n hn)⟩
theorem ev_neg {α : Type} {c : Prop} [Decidable c] {f g : Nat → Option α} {r : α} (h : ¬ c) (k : Ev g r) : Ev (fun n => if c then f n else g n) r := by
  obtain ⟨K, k⟩ := k
  exact ⟨K, fun n hn => (if_neg h).trans (k n hn)⟩
theorem ev_some {α : Type} {a r : α} (h : a = r) : Ev (fun _ => some a) r := ⟨0, fun _ _ => congrArg some h⟩
theorem ev_bind {α β : Type} {x : Option α} {f : Nat → α → Option β} {a : α} {r : β} (h : x = some a) (k : Ev (fun n => f n a) r) : Ev (fun n => x.bind (f n)) r := by
  subst h
  exact k
theorem ev_cast {α : Type} {g : Nat → Option α} {r q : α} (h : Ev g r) (e : r = q) : Ev g q := e ▸ h
theorem w64s (i : Nat) (h : i < 9223372036854775807) : wrap64 ((i : Int) + 1) = ((i + 1 : Nat) : Int) := by
  unfold wrap64
  omega
theorem w64i (x : Int) (h0 : -9223372036854775808 ≤ x) (h1 : x ≤ 9223372036854775807) : wrap64 x = x := by
  unfold wrap64
  omega
theorem getD_lt {α : Type} {l : List α} {i : Nat} (h : i < l.length) (d : α) : l.getD i d = l[i] := by
  rw [List.getD_eq_getElem?_getD, List.getElem?_eq_getElem h]
  rfl
theorem getD_some {α : Type} {l : List α} {i : Nat} {x : α} (h : l[i]? = some x) (d : α) : l.getD i d = x := by
  rw [List.getD_eq_getElem?_getD, h]
  rfl
theorem rdn (l : List Int) (i : Nat) : rd l (i : Int) = l.getD i 0 := by simp [rd]
theorem drop_cons {α : Type} (l : List α) (i : Nat) (h : i < l.length) (d : α) : l.drop i = l.getD i d :: l.drop (i + 1) := by
  rw [List.drop_eq_getElem_cons h, getD_lt h]
theorem ba_toList (s : ByteArray) : s.toList = s.data.toList := by
  obtain ⟨⟨l⟩⟩ := s
  exact ByteArray.toList_mk l
theorem ba_inj {a b : ByteArray} (h : a.toList = b.toList) : a = b := by
  rw [ba_toList, ba_toList] at h
  obtain ⟨⟨l⟩⟩ := a
  obtain ⟨⟨m⟩⟩ := b
  simp only at h
  subst h
  rfl
theorem ba_beq (a b : ByteArray) : (a.toList == b.toList) = decide (a = b) := by
  by_cases h : a = b
  · subst h
    simp
  · rw [decide_eq_false h]
    simp only [beq_eq_false_iff_ne, ne_eq]
    exact fun e => h (ba_inj e)
end Go.Proofs.Ytfnbodjmmkjlcaa
end
section
namespace Go.Proofs.Ytfnbodjmmkjlcaa.H
open Go.RowKit Go.Proofs.YtfnbodjmmkjlcaaW.PrintWords Go.Proofs.YtfnbodjmmkjlcaaW.PrintLast Go.Proofs.YtfnbodjmmkjlcaaW.PrintMore
attribute [local go_sem] max2_int min2_int max_two min_two max_three min_three max_four min_four   -- for this text's walks alone
set_option linter.unusedVariables false
set_option linter.unusedSimpArgs false

attribute [local go_sem high] eqA66
def jalousieref01_Same.l0 : Nat → List (S66) → List (S66) → Int → Option (Bool)
  | 0, _, _, _ => none
  | k + 1, x0, x1, x5 => if x5 < (x0.length : Int) then (if 0 ≤ x5 then (if x5 < (x1.length : Int) then (if (!((((rd_T66 x0 x5).f0).toList) == (((rd_T66 x1 x5).f0).toList)) || (!(((rd_T66 x0 x5).f1) == ((rd_T66 x1 x5).f1)))) = true then (some false) else (jalousieref01_Same.l0 k x0 x1 (wrap64 (x5 + 1)))) else (none)) else (none)) else (some true)
def jalousieref01_Same.f (k : Nat) (l0 : List (S66)) (l1 : List (S66)) : Option (Bool) := if (l0.length : Int) = (l1.length : Int) then (jalousieref01_Same.l0 k l0 l1 0) else (some false)
end Go.Proofs.Ytfnbodjmmkjlcaa.H
end
section
namespace Go.Proofs.Ytfnbodjmmkjlcaa.H
open Go.RowKit Go.Proofs.YtfnbodjmmkjlcaaW.PrintWords Go.Proofs.YtfnbodjmmkjlcaaW.PrintLast Go.Proofs.YtfnbodjmmkjlcaaW.PrintMore
attribute [local go_sem] max2_int min2_int max_two min_two max_three min_three max_four min_four   -- for this text's walks alone
set_option linter.unusedVariables false
set_option linter.unusedSimpArgs false

def jalousieref08_lay.p (s : List S47) (d : Int) (l : List S66) : List S47 := if l.length = 0 then s else s ++ [⟨d, l⟩]
end Go.Proofs.Ytfnbodjmmkjlcaa.H
end
section
namespace Go.Proofs.Ytfnbodjmmkjlcaa.H
open Go.RowKit Go.Proofs.YtfnbodjmmkjlcaaW.PrintWords Go.Proofs.YtfnbodjmmkjlcaaW.PrintLast Go.Proofs.YtfnbodjmmkjlcaaW.PrintMore
attribute [local go_sem] max2_int min2_int max_two min_two max_three min_three max_four min_four   -- for this text's walks alone
set_option linter.unusedVariables false
set_option linter.unusedSimpArgs false

structure jalousieref08_Normal.Q where
  out : List S47
  keep : List S66
  gone : List S66
  made : List S66
def jalousieref08_Normal.fin (q : jalousieref08_Normal.Q) : List S47 := jalousieref08_lay.p (jalousieref08_lay.p (jalousieref08_lay.p q.out 1 q.keep) 2 q.gone) 3 q.made
def jalousieref08_Normal.pre (q : jalousieref08_Normal.Q) (x : S47) : jalousieref08_Normal.Q :=
  if x.f0 = 1 ∧ 0 < x.f1.length ∧ 0 < q.gone.length + q.made.length then ⟨jalousieref08_Normal.fin q, [], [], []⟩ else q
def jalousieref08_Normal.add (q : jalousieref08_Normal.Q) (x : S47) : jalousieref08_Normal.Q :=
  if x.f0 = 1 then ⟨q.out, q.keep ++ x.f1, q.gone, q.made⟩ else if x.f0 = 2 then ⟨q.out, q.keep, q.gone ++ x.f1, q.made⟩ else if x.f0 = 3 then ⟨q.out, q.keep, q.gone, q.made ++ x.f1⟩ else q
section
variable {B : Nat} {W W1 : World} {vo vk vg vm v1 : Value} {q : jalousieref08_Normal.Q} {ys : List S66} {out : List S47}
end
end Go.Proofs.Ytfnbodjmmkjlcaa.H
end
section
namespace Go.Proofs.Ytfnbodjmmkjlcaa.H
open Go.RowKit Go.Proofs.YtfnbodjmmkjlcaaW.PrintWords Go.Proofs.YtfnbodjmmkjlcaaW.PrintLast Go.Proofs.YtfnbodjmmkjlcaaW.PrintMore
attribute [local go_sem] max2_int min2_int max_two min_two max_three min_three max_four min_four   -- for this text's walks alone
set_option linter.unusedVariables false
set_option linter.unusedSimpArgs false

def jalousieref05_Ints.l0 : Nat → List Int → List Int → Int → Option (Bool)
  | 0, _, _, _ => none
  | k + 1, x0, x1, x5 => if x5 < (x0.length : Int) then (if 0 ≤ x5 then (if x5 < (x1.length : Int) then (if (rd x0 x5) = (rd x1 x5) then (jalousieref05_Ints.l0 k x0 x1 (wrap64 (x5 + 1))) else (some false)) else (none)) else (none)) else (some true)
end Go.Proofs.Ytfnbodjmmkjlcaa.H
end
