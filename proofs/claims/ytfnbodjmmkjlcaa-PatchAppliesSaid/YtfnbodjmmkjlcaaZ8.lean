/-
  What the claim needs of the words, of the walks and of the plain proofs, in one row (8).
-/
import Derived.RangeFuncNested
import Derived.RangeFuncBound
import Derived.RangeFuncCalls
import Derived.RangeFuncLeaves
import Derived.RangeFuncBox
import Derived.RangeFuncMany
import Derived.OwnWalkIn
import Derived.Deep.RegionHeld3
import Derived.WalkLawsBesides
import Derived.WalkSpells
import Derived.Shelf.Abstract
import Derived.TacticsInMore
import Derived.LoopNIn
import Derived.LoopIn
import Derived.Lib.IndexAny
import Derived.Test.YtfnbodjmmkjlcaaZ0
import Derived.Test.YtfnbodjmmkjlcaaZ1
import Derived.Test.YtfnbodjmmkjlcaaZ2
import Derived.Test.YtfnbodjmmkjlcaaZ3
import Derived.Test.YtfnbodjmmkjlcaaZ4
import Derived.Test.YtfnbodjmmkjlcaaZ5
import Derived.Test.YtfnbodjmmkjlcaaZ6
import Derived.Test.YtfnbodjmmkjlcaaZ7
section
namespace Go.Proofs.Ytfnbodjmmkjlcaa.H
open Go.RowKit Go.Proofs.YtfnbodjmmkjlcaaW.PrintWords Go.Proofs.YtfnbodjmmkjlcaaW.PrintLast Go.Proofs.YtfnbodjmmkjlcaaW.PrintMore
attribute [local go_sem] max2_int min2_int max_two min_two max_three min_three max_four min_four   -- for this text's walks alone
set_option linter.unusedVariables false
set_option linter.unusedSimpArgs false

def jalousielaw11_PatchApplies.f (k : Nat) (l0 : List (S44)) (l1 : List (S66)) : Option (Bool) := if 0 ≤ (mn (l0.length : Int) 20) then (if (mn (l0.length : Int) 20) ≤ (l0.length : Int) then ((some (l0.take ((mn (l0.length : Int) 20) : Int).toNat : List (S44))).bind fun y502 => ((patch_Apply.f k y502 l1).bind fun bt506 => ((patch_Gone.f k y502 l1).bind fun bt513 => ((patch_Made.f k y502 l1).bind fun bt517 => ((jalousieref11_Apply.f k y502 l1).bind fun bt521 => ((jalousielaw11_live.f k).bind fun t535 => (if t535 = true then ((jalousieref01_Same.f k bt506.1 bt521.1).bind fun t536 => (if t536 = true then ((jalousieref06_Same.f k bt506.2.1 bt521.2.1).bind fun t537 => (if t537 = true then ((jalousieref05_Ints.f k bt513.1 bt521.2.2.1).bind fun t538 => (if t538 = true then ((jalousieref05_Ints.f k bt517.1 bt521.2.2.2.1).bind fun t539 => (if t539 = true then (if bt506.2.2 = bt521.2.2.2.2 then (if bt513.2 = bt521.2.2.2.2 then (some (bt517.2 == bt521.2.2.2.2)) else (some false)) else (some false)) else (some false))) else (some false))) else (some false))) else (some false))) else (some false)))))))) else (none)) else (none)
set_option maxHeartbeats 8000000 in
set_option maxRecDepth 100000 in
theorem jalousielaw11_PatchApplies.calls (k : Nat) (A0 : Option Addr) (c0 : Nat) (l0 : List (S44)) (A1 : Option Addr) (c1 : Nat) (l1 : List (S66)) (r : Bool) (w : World) (hr0 : Kd.C k44 w A0 l0.length l0) (hc0 : l0.length ≤ c0) (hr1 : Kd.C k66 w A1 l1.length l1) (hc1 : l1.length ≤ c1) (h : jalousielaw11_PatchApplies.f k l0 l1 = some r) (HRT : Aside0 (r = true) := by first | exact ⟨rfl⟩ | assumption) :
  Calls Try.prog 8 #[.slice A0 l0.length c0, .slice A1 l1.length c1] w fun e w' => e = .returned (.bool r) ∧ Below w.heap.size w w' := by
 have hu57 := Try.underlying57
 have HR0 := Aside0.mk hr0
 have HC0 := Aside0.mk hc0
 clear hr0 hc0
 have HR1 := Aside0.mk hr1
 have HC1 := Aside0.mk hc1
 clear hr1 hc1
 have HB := Aside0.mk (Below.refl w.heap.size w)
 have H : (if 0 ≤ (mn (l0.length : Int) 20) then (if (mn (l0.length : Int) 20) ≤ (l0.length : Int) then ((some (l0.take ((mn (l0.length : Int) 20) : Int).toNat : List (S44))).bind fun y502 => ((patch_Apply.f k y502 l1).bind fun bt506 => ((patch_Gone.f k y502 l1).bind fun bt513 => ((patch_Made.f k y502 l1).bind fun bt517 => ((jalousieref11_Apply.f k y502 l1).bind fun bt521 => ((jalousielaw11_live.f k).bind fun t535 => (if t535 = true then ((jalousieref01_Same.f k bt506.1 bt521.1).bind fun t536 => (if t536 = true then ((jalousieref06_Same.f k bt506.2.1 bt521.2.1).bind fun t537 => (if t537 = true then ((jalousieref05_Ints.f k bt513.1 bt521.2.2.1).bind fun t538 => (if t538 = true then ((jalousieref05_Ints.f k bt517.1 bt521.2.2.2.1).bind fun t539 => (if t539 = true then (if bt506.2.2 = bt521.2.2.2.2 then (if bt513.2 = bt521.2.2.2.2 then (some (bt517.2 == bt521.2.2.2.2)) else (some false)) else (some false)) else (some false))) else (some false))) else (some false))) else (some false))) else (some false)))))))) else (none)) else (none)) = some r := h
 clear h
 obtain ⟨ji3, hji3⟩ : ∃ j_ : Int, (mn (l0.length : Int) 20) = j_ := ⟨_, rfl⟩
 replace H : (if 0 ≤ (ji3) then (if (ji3) ≤ (l0.length : Int) then ((some (l0.take ((ji3) : Int).toNat : List (S44))).bind fun y502 => ((patch_Apply.f k y502 l1).bind fun bt506 => ((patch_Gone.f k y502 l1).bind fun bt513 => ((patch_Made.f k y502 l1).bind fun bt517 => ((jalousieref11_Apply.f k y502 l1).bind fun bt521 => ((jalousielaw11_live.f k).bind fun t535 => (if t535 = true then ((jalousieref01_Same.f k bt506.1 bt521.1).bind fun t536 => (if t536 = true then ((jalousieref06_Same.f k bt506.2.1 bt521.2.1).bind fun t537 => (if t537 = true then ((jalousieref05_Ints.f k bt513.1 bt521.2.2.1).bind fun t538 => (if t538 = true then ((jalousieref05_Ints.f k bt517.1 bt521.2.2.2.1).bind fun t539 => (if t539 = true then (if bt506.2.2 = bt521.2.2.2.2 then (if bt513.2 = bt521.2.2.2.2 then (some (bt517.2 == bt521.2.2.2.2)) else (some false)) else (some false)) else (some false))) else (some false))) else (some false))) else (some false))) else (some false)))))))) else (none)) else (none)) = some r := by first | (rw [hji3] at H; exact H) | (simp only [hji3] at H ⊢; exact H)
 (try (have hji3h : ji3 ≤ 20 := by (rw [← hji3]; unfold mn; (repeat' split) <;> omega)))
 (try (have hji3g : ji3 ≤ 64 := by omega))
 (try (have hji3l : 0 ≤ ji3 := by (rw [← hji3]; unfold mn; (repeat' split) <;> omega)))
 (try (have hji3m : 0 ≤ ji3 := by omega))
 have hji3_ : (if 20 < (l0.length : Int) then 20 else (l0.length : Int)) = ji3 := hji3
 by_cases c4 : 0 ≤ (ji3)
 ·rw [if_pos c4] at H
  have c4b0 := eq_true c4
  have c4b1 : decide (0 ≤ (ji3)) = true := decide_eq_true c4
  clear c4
  by_cases c5 : (ji3) ≤ (l0.length : Int)
  ·rw [if_pos c5] at H
   have c5b0 := eq_true c5
   have c5b1 : decide ((ji3) ≤ (l0.length : Int)) = true := decide_eq_true c5
   clear c5
   obtain ⟨y502, hy502⟩ : ∃ y_ : List (S44), y_ = (l0.take ((ji3) : Int).toNat) := ⟨_, rfl⟩
   replace H : ((patch_Apply.f k y502 l1).bind fun bt506 => ((patch_Gone.f k y502 l1).bind fun bt513 => ((patch_Made.f k y502 l1).bind fun bt517 => ((jalousieref11_Apply.f k y502 l1).bind fun bt521 => ((jalousielaw11_live.f k).bind fun t535 => (if t535 = true then ((jalousieref01_Same.f k bt506.1 bt521.1).bind fun t536 => (if t536 = true then ((jalousieref06_Same.f k bt506.2.1 bt521.2.1).bind fun t537 => (if t537 = true then ((jalousieref05_Ints.f k bt513.1 bt521.2.2.1).bind fun t538 => (if t538 = true then ((jalousieref05_Ints.f k bt517.1 bt521.2.2.2.1).bind fun t539 => (if t539 = true then (if bt506.2.2 = bt521.2.2.2.2 then (if bt513.2 = bt521.2.2.2.2 then (some (bt517.2 == bt521.2.2.2.2)) else (some false)) else (some false)) else (some false))) else (some false))) else (some false))) else (some false))) else (some false))))))) = some r := by first | (rw [hy502]; with_reducible exact H) | (have H2_ := (Option.bind_some _ _).symm.trans H; rw [hy502]; with_reducible exact H2_) | (have H2_ := (Option.bind_some _ _).symm.trans H; with_reducible exact H2_) | with_reducible exact H | (rw [hy502]; exact H) | exact H
   have Ny502 := Aside0.mk hy502
   clear hy502
   replace H := Option.bind_eq_some_iff.mp H
   obtain ⟨⟨t506, t507, t508⟩, A60, H⟩ := H
   replace H : ((patch_Gone.f k y502 l1).bind fun bt513 => ((patch_Made.f k y502 l1).bind fun bt517 => ((jalousieref11_Apply.f k y502 l1).bind fun bt521 => ((jalousielaw11_live.f k).bind fun t535 => (if t535 = true then ((jalousieref01_Same.f k t506 bt521.1).bind fun t536 => (if t536 = true then ((jalousieref06_Same.f k t507 bt521.2.1).bind fun t537 => (if t537 = true then ((jalousieref05_Ints.f k bt513.1 bt521.2.2.1).bind fun t538 => (if t538 = true then ((jalousieref05_Ints.f k bt517.1 bt521.2.2.2.1).bind fun t539 => (if t539 = true then (if t508 = bt521.2.2.2.2 then (if bt513.2 = bt521.2.2.2.2 then (some (bt517.2 == bt521.2.2.2.2)) else (some false)) else (some false)) else (some false))) else (some false))) else (some false))) else (some false))) else (some false)))))) = some r := H
   have A6 := Aside0.mk A60
   clear A60
   replace H := Option.bind_eq_some_iff.mp H
   obtain ⟨⟨t513, t514⟩, A70, H⟩ := H
   replace H : ((patch_Made.f k y502 l1).bind fun bt517 => ((jalousieref11_Apply.f k y502 l1).bind fun bt521 => ((jalousielaw11_live.f k).bind fun t535 => (if t535 = true then ((jalousieref01_Same.f k t506 bt521.1).bind fun t536 => (if t536 = true then ((jalousieref06_Same.f k t507 bt521.2.1).bind fun t537 => (if t537 = true then ((jalousieref05_Ints.f k t513 bt521.2.2.1).bind fun t538 => (if t538 = true then ((jalousieref05_Ints.f k bt517.1 bt521.2.2.2.1).bind fun t539 => (if t539 = true then (if t508 = bt521.2.2.2.2 then (if t514 = bt521.2.2.2.2 then (some (bt517.2 == bt521.2.2.2.2)) else (some false)) else (some false)) else (some false))) else (some false))) else (some false))) else (some false))) else (some false))))) = some r := H
   have A7 := Aside0.mk A70
   clear A70
   replace H := Option.bind_eq_some_iff.mp H
   obtain ⟨⟨t517, t518⟩, A80, H⟩ := H
   replace H : ((jalousieref11_Apply.f k y502 l1).bind fun bt521 => ((jalousielaw11_live.f k).bind fun t535 => (if t535 = true then ((jalousieref01_Same.f k t506 bt521.1).bind fun t536 => (if t536 = true then ((jalousieref06_Same.f k t507 bt521.2.1).bind fun t537 => (if t537 = true then ((jalousieref05_Ints.f k t513 bt521.2.2.1).bind fun t538 => (if t538 = true then ((jalousieref05_Ints.f k t517 bt521.2.2.2.1).bind fun t539 => (if t539 = true then (if t508 = bt521.2.2.2.2 then (if t514 = bt521.2.2.2.2 then (some (t518 == bt521.2.2.2.2)) else (some false)) else (some false)) else (some false))) else (some false))) else (some false))) else (some false))) else (some false)))) = some r := H
   have A8 := Aside0.mk A80
   clear A80
   replace H := Option.bind_eq_some_iff.mp H
   obtain ⟨⟨t521, t524, t527, t530, t533⟩, A90, H⟩ := H
   replace H : ((jalousielaw11_live.f k).bind fun t535 => (if t535 = true then ((jalousieref01_Same.f k t506 t521).bind fun t536 => (if t536 = true then ((jalousieref06_Same.f k t507 t524).bind fun t537 => (if t537 = true then ((jalousieref05_Ints.f k t513 t527).bind fun t538 => (if t538 = true then ((jalousieref05_Ints.f k t517 t530).bind fun t539 => (if t539 = true then (if t508 = t533 then (if t514 = t533 then (some (t518 == t533)) else (some false)) else (some false)) else (some false))) else (some false))) else (some false))) else (some false))) else (some false))) = some r := H
   have A9 := Aside0.mk A90
   clear A90
   replace H := Option.bind_eq_some_iff.mp H
   obtain ⟨t535, A100, H⟩ := H
   replace H : (if t535 = true then ((jalousieref01_Same.f k t506 t521).bind fun t536 => (if t536 = true then ((jalousieref06_Same.f k t507 t524).bind fun t537 => (if t537 = true then ((jalousieref05_Ints.f k t513 t527).bind fun t538 => (if t538 = true then ((jalousieref05_Ints.f k t517 t530).bind fun t539 => (if t539 = true then (if t508 = t533 then (if t514 = t533 then (some (t518 == t533)) else (some false)) else (some false)) else (some false))) else (some false))) else (some false))) else (some false))) else (some false)) = some r := H
   have A10 := Aside0.mk A100
   clear A100
   by_cases c11 : t535 = true
   ·subst c11
    have H1 : ((jalousieref01_Same.f k t506 t521).bind fun t536 => (if t536 = true then ((jalousieref06_Same.f k t507 t524).bind fun t537 => (if t537 = true then ((jalousieref05_Ints.f k t513 t527).bind fun t538 => (if t538 = true then ((jalousieref05_Ints.f k t517 t530).bind fun t539 => (if t539 = true then (if t508 = t533 then (if t514 = t533 then (some (t518 == t533)) else (some false)) else (some false)) else (some false))) else (some false))) else (some false))) else (some false))) = some r := by rw [if_pos rfl] at H; exact H
    clear H
    have H := H1
    clear H1
    replace H := Option.bind_eq_some_iff.mp H
    obtain ⟨t536, A120, H⟩ := H
    replace H : (if t536 = true then ((jalousieref06_Same.f k t507 t524).bind fun t537 => (if t537 = true then ((jalousieref05_Ints.f k t513 t527).bind fun t538 => (if t538 = true then ((jalousieref05_Ints.f k t517 t530).bind fun t539 => (if t539 = true then (if t508 = t533 then (if t514 = t533 then (some (t518 == t533)) else (some false)) else (some false)) else (some false))) else (some false))) else (some false))) else (some false)) = some r := H
    have A12 := Aside0.mk A120
    clear A120
    by_cases c13 : t536 = true
    ·subst c13
     have H1 : ((jalousieref06_Same.f k t507 t524).bind fun t537 => (if t537 = true then ((jalousieref05_Ints.f k t513 t527).bind fun t538 => (if t538 = true then ((jalousieref05_Ints.f k t517 t530).bind fun t539 => (if t539 = true then (if t508 = t533 then (if t514 = t533 then (some (t518 == t533)) else (some false)) else (some false)) else (some false))) else (some false))) else (some false))) = some r := by rw [if_pos rfl] at H; exact H
     clear H
     have H := H1
     clear H1
     replace H := Option.bind_eq_some_iff.mp H
     obtain ⟨t537, A140, H⟩ := H
     replace H : (if t537 = true then ((jalousieref05_Ints.f k t513 t527).bind fun t538 => (if t538 = true then ((jalousieref05_Ints.f k t517 t530).bind fun t539 => (if t539 = true then (if t508 = t533 then (if t514 = t533 then (some (t518 == t533)) else (some false)) else (some false)) else (some false))) else (some false))) else (some false)) = some r := H
     have A14 := Aside0.mk A140
     clear A140
     by_cases c15 : t537 = true
     ·subst c15
      have H1 : ((jalousieref05_Ints.f k t513 t527).bind fun t538 => (if t538 = true then ((jalousieref05_Ints.f k t517 t530).bind fun t539 => (if t539 = true then (if t508 = t533 then (if t514 = t533 then (some (t518 == t533)) else (some false)) else (some false)) else (some false))) else (some false))) = some r := by rw [if_pos rfl] at H; exact H
      clear H
      have H := H1
      clear H1
      replace H := Option.bind_eq_some_iff.mp H
      obtain ⟨t538, A160, H⟩ := H
      replace H : (if t538 = true then ((jalousieref05_Ints.f k t517 t530).bind fun t539 => (if t539 = true then (if t508 = t533 then (if t514 = t533 then (some (t518 == t533)) else (some false)) else (some false)) else (some false))) else (some false)) = some r := H
      have A16 := Aside0.mk A160
      clear A160
      by_cases c17 : t538 = true
      ·subst c17
       have H1 : ((jalousieref05_Ints.f k t517 t530).bind fun t539 => (if t539 = true then (if t508 = t533 then (if t514 = t533 then (some (t518 == t533)) else (some false)) else (some false)) else (some false))) = some r := by rw [if_pos rfl] at H; exact H
       clear H
       have H := H1
       clear H1
       replace H := Option.bind_eq_some_iff.mp H
       obtain ⟨t539, A180, H⟩ := H
       replace H : (if t539 = true then (if t508 = t533 then (if t514 = t533 then (some (t518 == t533)) else (some false)) else (some false)) else (some false)) = some r := H
       have A18 := Aside0.mk A180
       clear A180
       by_cases c19 : t539 = true
       ·subst c19
        have H1 : (if t508 = t533 then (if t514 = t533 then (some (t518 == t533)) else (some false)) else (some false)) = some r := by rw [if_pos rfl] at H; exact H
        clear H
        have H := H1
        clear H1
        by_cases c20 : t508 = t533
        ·rw [if_pos c20] at H
         have c20b0 : (t508 == t533) = true := beq_iff_eq.mpr c20
         have c20b1 : (t508 != t533) = false := bne_eq_false_iff_eq.mpr c20
         clear c20
         by_cases c21 : t514 = t533
         ·rw [if_pos c21] at H
          have c21b0 : (t514 == t533) = true := beq_iff_eq.mpr c21
          have c21b1 : (t514 != t533) = false := bne_eq_false_iff_eq.mpr c21
          clear c21
          obtain rfl := Option.some.inj H
          have q22 : ((ji3) : Int) ≤ ((l0.length : Int) : Int) := of_decide_eq_true (by first | (with_reducible assumption) | assumption)
          obtain ⟨i022, hi022, _, hsz22, _⟩ := info_parts info44
          have hroom22 : l0.length ≤ c0 := HC0.out
          have hC22 : Kd.C k44 _ A0 l0.length l0 := HR0.out
          have hcut22 := cut_to (P := Try.prog) 25 44 .i64 Try.underlying25 hi022 A0 l0.length c0 (ji3) (of_decide_eq_true (by first | (with_reducible assumption) | assumption)) q22 hroom22
          have hr22 := Kd.C_take (m := ((ji3) : Int).toNat) hC22 (by omega)
          have hy22 : y502.length = ((ji3) : Int).toNat := (by rw [Ny502.out, List.length_take]; omega)
          rw [← Ny502.out] at hr22
          rw [← hy22] at hcut22
          have HR505 := Aside0.mk hr22
          have HC505 := Aside0.mk (show y502.length ≤ c0 from by omega)
          clear hr22 hC22 hroom22 hi022 hsz22
          have KY22 := Aside0.mk hy22
          clear hy22
          replace q22 := eq_true q22
          go_enter Try.func8, Try.ntmps8
          go_wp2_with (first | ((with_reducible refine gate_callee (f := 28) rfl ?_); refine goesL_ (some 22) rfl rfl Try.func28 (by kernel_rfl) rfl #[.slice A0 y502.length c0, .slice A1 l1.length c1] rfl (by (try simp only [List.map_toArray, List.map_cons, List.map_nil]); first | done | rfl | (simp only [List.length_drop, List.length_take]; rfl)) ?_; (with_reducible refine (patch_Apply.calls k _ _ y502 _ _ l1 t506 t507 t508 _ ?side1 ?side2 ?side3 ?side4 A6.out).mono ?_); (case side1 => repeat (first | exact HR505.out | (with_reducible refine Kd.C_alloc ?_ _) | (with_reducible refine Kd.C_drewN ?_ _) | (with_reducible refine Kd.C_drew ?_))); (case side2 => exact HC505.out); (case side3 => repeat (first | exact HR1.out | (with_reducible refine Kd.C_alloc ?_ _) | (with_reducible refine Kd.C_drewN ?_ _) | (with_reducible refine Kd.C_drew ?_))); (case side4 => exact HC1.out); rintro e w23 ⟨v509, v511, rfl, ho0, ho1, hb⟩; refine ⟨_, rfl, ?_⟩; have n0_ := Aside0.mk (Kd.R_lower ho0 (below_size (by repeat (first | (with_reducible first | exact HB.out | apply below_alloc | apply pw_below_drewN | apply below_drew1) | exact HB.out)))); have n1_ := Aside0.mk (Kd.R_lower ho1 (below_size (by repeat (first | (with_reducible first | exact HB.out | apply below_alloc | apply pw_below_drewN | apply below_drew1) | exact HB.out)))); have n2_ := Aside0.mk (below_step (by repeat (first | (with_reducible first | exact HB.out | apply below_alloc | apply pw_below_drewN | apply below_drew1) | exact HB.out)) hb); clear HB; have HO510 := n0_; have HO512 := n1_; have HB := n2_; clear n0_ n1_ n2_; (try clear hb); (try clear hb2); (try clear hk); (try clear hi); (try clear ho0); (try clear ho1)) | ((with_reducible refine gate_callee (f := 29) rfl ?_); refine goesL_ (some 29) rfl rfl Try.func29 (by kernel_rfl) rfl #[.slice A0 y502.length c0, .slice A1 l1.length c1] rfl (by (try simp only [List.map_toArray, List.map_cons, List.map_nil]); first | done | rfl | (simp only [List.length_drop, List.length_take]; rfl)) ?_; (with_reducible refine (patch_Gone.calls k _ _ y502 _ _ l1 t513 t514 _ ?side1 ?side2 ?side3 ?side4 A7.out).mono ?_); (case side1 => repeat (first | exact (Kd.C_below HR505.out HB.out) | (with_reducible refine Kd.C_alloc ?_ _) | (with_reducible refine Kd.C_drewN ?_ _) | (with_reducible refine Kd.C_drew ?_))); (case side2 => exact HC505.out); (case side3 => repeat (first | exact (Kd.C_below HR1.out HB.out) | (with_reducible refine Kd.C_alloc ?_ _) | (with_reducible refine Kd.C_drewN ?_ _) | (with_reducible refine Kd.C_drew ?_))); (case side4 => exact HC1.out); rintro e w24 ⟨v515, rfl, ho0, hb⟩; refine ⟨_, rfl, ?_⟩; have n0_ := Aside0.mk (Kd.R_below (by (with_reducible repeat first|apply zr1|apply zr2|apply zr3); exact HO510.out) hb); have n1_ := Aside0.mk (Kd.R_below (by (with_reducible repeat first|apply zr1|apply zr2|apply zr3); exact HO512.out) hb); have n2_ := Aside0.mk (Kd.R_lower ho0 (below_size (by repeat (first | (with_reducible first | exact HB.out | apply below_alloc | apply pw_below_drewN | apply below_drew1) | exact HB.out)))); have n3_ := Aside0.mk (below_step (by repeat (first | (with_reducible first | exact HB.out | apply below_alloc | apply pw_below_drewN | apply below_drew1) | exact HB.out)) hb); clear HO510; clear HO512; clear HB; have HO510 := n0_; have HO512 := n1_; have HO516 := n2_; have HB := n3_; clear n0_ n1_ n2_ n3_; (try clear hb); (try clear hb2); (try clear hk); (try clear hi); (try clear ho0)) | ((with_reducible refine gate_callee (f := 30) rfl ?_); refine goesL_ (some 35) rfl rfl Try.func30 (by kernel_rfl) rfl #[.slice A0 y502.length c0, .slice A1 l1.length c1] rfl (by (try simp only [List.map_toArray, List.map_cons, List.map_nil]); first | done | rfl | (simp only [List.length_drop, List.length_take]; rfl)) ?_; (with_reducible refine (patch_Made.calls k _ _ y502 _ _ l1 t517 t518 _ ?side1 ?side2 ?side3 ?side4 A8.out).mono ?_); (case side1 => repeat (first | exact (Kd.C_below HR505.out HB.out) | (with_reducible refine Kd.C_alloc ?_ _) | (with_reducible refine Kd.C_drewN ?_ _) | (with_reducible refine Kd.C_drew ?_))); (case side2 => exact HC505.out); (case side3 => repeat (first | exact (Kd.C_below HR1.out HB.out) | (with_reducible refine Kd.C_alloc ?_ _) | (with_reducible refine Kd.C_drewN ?_ _) | (with_reducible refine Kd.C_drew ?_))); (case side4 => exact HC1.out); rintro e w25 ⟨v519, rfl, ho0, hb⟩; refine ⟨_, rfl, ?_⟩; have n0_ := Aside0.mk (Kd.R_below (by (with_reducible repeat first|apply zr1|apply zr2|apply zr3); exact HO510.out) hb); have n1_ := Aside0.mk (Kd.R_below (by (with_reducible repeat first|apply zr1|apply zr2|apply zr3); exact HO512.out) hb); have n2_ := Aside0.mk (Kd.R_elder' (by (with_reducible repeat first|apply zr1|apply zr2|apply zr3); exact HO516.out) (Kd.R_base ho0) hb); have n3_ := Aside0.mk (Kd.R_lower (Kd.R_new' ho0 (Kd.R_lt (by (with_reducible repeat first|apply zr1|apply zr2|apply zr3); exact HO516.out))) (below_size (by repeat (first | (with_reducible first | exact HB.out | apply below_alloc | apply pw_below_drewN | apply below_drew1) | exact HB.out)))); have n4_ := Aside0.mk (below_step (by repeat (first | (with_reducible first | exact HB.out | apply below_alloc | apply pw_below_drewN | apply below_drew1) | exact HB.out)) hb); clear HO510; clear HO512; clear HO516; clear HB; have HO510 := n0_; have HO512 := n1_; have HO516 := n2_; have HO520 := n3_; have HB := n4_; clear n0_ n1_ n2_ n3_ n4_; (try clear hb); (try clear hb2); (try clear hk); (try clear hi); (try clear ho0)) | ((with_reducible refine gate_callee (f := 31) rfl ?_); refine goesL_ (some 41) rfl rfl Try.func31 (by kernel_rfl) rfl #[.slice A0 y502.length c0, .slice A1 l1.length c1] rfl (by (try simp only [List.map_toArray, List.map_cons, List.map_nil]); first | done | rfl | (simp only [List.length_drop, List.length_take]; rfl)) ?_; (with_reducible refine (jalousieref11_Apply.calls k _ _ y502 _ _ l1 t521 t524 t527 t530 t533 _ ?side1 ?side2 ?side3 ?side4 A9.out).mono ?_); (case side1 => repeat (first | exact (Kd.C_below HR505.out HB.out) | (with_reducible refine Kd.C_alloc ?_ _) | (with_reducible refine Kd.C_drewN ?_ _) | (with_reducible refine Kd.C_drew ?_))); (case side2 => exact HC505.out); (case side3 => repeat (first | exact (Kd.C_below HR1.out HB.out) | (with_reducible refine Kd.C_alloc ?_ _) | (with_reducible refine Kd.C_drewN ?_ _) | (with_reducible refine Kd.C_drew ?_))); (case side4 => exact HC1.out); rintro e w26 ⟨v522, v525, v528, v531, rfl, ho0, ho1, ho2, ho3, hb⟩; refine ⟨_, rfl, ?_⟩; have n0_ := Aside0.mk (Kd.R_elder' (by (with_reducible repeat first|apply zr1|apply zr2|apply zr3); exact HO510.out) (Kd.R_base ho0) hb); have n1_ := Aside0.mk (Kd.R_elder' (by (with_reducible repeat first|apply zr1|apply zr2|apply zr3); exact HO512.out) (Kd.R_base ho1) hb); have n2_ := Aside0.mk (Kd.R_mono (Kd.R_told (Kd.R_told (Kd.R_old (by (with_reducible repeat first|apply zr1|apply zr2|apply zr3); exact HO516.out) hb) (Kd.R_base ho2)) (Kd.R_base ho3)) (fun _ h_ => h_.1)); have n3_ := Aside0.mk (Kd.R_mono (Kd.R_told (Kd.R_told (Kd.R_old (by (with_reducible repeat first|apply zr1|apply zr2|apply zr3); exact HO520.out) hb) (Kd.R_base ho2)) (Kd.R_base ho3)) (fun _ h_ => h_.1)); have n4_ := Aside0.mk (Kd.R_lower (Kd.R_new' ho0 (Kd.R_lt (by (with_reducible repeat first|apply zr1|apply zr2|apply zr3); exact HO510.out))) (below_size (by repeat (first | (with_reducible first | exact HB.out | apply below_alloc | apply pw_below_drewN | apply below_drew1) | exact HB.out)))); have n5_ := Aside0.mk (Kd.R_lower (Kd.R_new' ho1 (Kd.R_lt (by (with_reducible repeat first|apply zr1|apply zr2|apply zr3); exact HO512.out))) (below_size (by repeat (first | (with_reducible first | exact HB.out | apply below_alloc | apply pw_below_drewN | apply below_drew1) | exact HB.out)))); have n6_ := Aside0.mk (Kd.R_lower (Kd.R_new' (Kd.R_new' ho2 (Kd.R_lt (by (with_reducible repeat first|apply zr1|apply zr2|apply zr3); exact HO516.out))) (Kd.R_lt (by (with_reducible repeat first|apply zr1|apply zr2|apply zr3); exact HO520.out))) (below_size (by repeat (first | (with_reducible first | exact HB.out | apply below_alloc | apply pw_below_drewN | apply below_drew1) | exact HB.out)))); have n7_ := Aside0.mk (Kd.R_lower (Kd.R_new' (Kd.R_new' ho3 (Kd.R_lt (by (with_reducible repeat first|apply zr1|apply zr2|apply zr3); exact HO516.out))) (Kd.R_lt (by (with_reducible repeat first|apply zr1|apply zr2|apply zr3); exact HO520.out))) (below_size (by repeat (first | (with_reducible first | exact HB.out | apply below_alloc | apply pw_below_drewN | apply below_drew1) | exact HB.out)))); have n8_ := Aside0.mk (below_step (by repeat (first | (with_reducible first | exact HB.out | apply below_alloc | apply pw_below_drewN | apply below_drew1) | exact HB.out)) hb); clear HO510; clear HO512; clear HO516; clear HO520; clear HB; have HO510 := n0_; have HO512 := n1_; have HO516 := n2_; have HO520 := n3_; have HO523 := n4_; have HO526 := n5_; have HO529 := n6_; have HO532 := n7_; have HB := n8_; clear n0_ n1_ n2_ n3_ n4_ n5_ n6_ n7_ n8_; (try clear hb); (try clear hb2); (try clear hk); (try clear hi); (try clear ho0); (try clear ho1); (try clear ho2); (try clear ho3)) | ((with_reducible refine gate_dst (N := 12) rfl ?_); refine box_event ?hg (N := 12) ?hd (cs := #[.slice none 0 0, .slice none 0 0, .slice none 0 0, .slice none 0 0]) (t := 57) ?hr ?_; (case hd => rfl); (case hg => rfl); (case hr => first | (go_simp; done) | (go_simp; rfl)); intro gb534 hg w27 hbox hb; have n0_ := Aside0.mk (Kd.R_below (by (with_reducible repeat first|apply zr1|apply zr2|apply zr3); exact HO510.out) hb); have n1_ := Aside0.mk (Kd.R_below (by (with_reducible repeat first|apply zr1|apply zr2|apply zr3); exact HO512.out) hb); have n2_ := Aside0.mk (Kd.R_below (by (with_reducible repeat first|apply zr1|apply zr2|apply zr3); exact HO516.out) hb); have n3_ := Aside0.mk (Kd.R_below (by (with_reducible repeat first|apply zr1|apply zr2|apply zr3); exact HO520.out) hb); have n4_ := Aside0.mk (Kd.R_below (by (with_reducible repeat first|apply zr1|apply zr2|apply zr3); exact HO523.out) hb); have n5_ := Aside0.mk (Kd.R_below (by (with_reducible repeat first|apply zr1|apply zr2|apply zr3); exact HO526.out) hb); have n6_ := Aside0.mk (Kd.R_below (by (with_reducible repeat first|apply zr1|apply zr2|apply zr3); exact HO529.out) hb); have n7_ := Aside0.mk (Kd.R_below (by (with_reducible repeat first|apply zr1|apply zr2|apply zr3); exact HO532.out) hb); have n8_ := Aside0.mk (below_step (by repeat (first | (with_reducible first | exact HB.out | apply below_alloc | apply pw_below_drewN | apply below_drew1) | exact HB.out)) hb); have n9_ := Aside0.mk (hbox); have n10_ := Aside0.mk ((by rw [hg]; exact (below_size (by repeat (first | (with_reducible first | exact HB.out | apply below_alloc | apply pw_below_drewN | apply below_drew1) | exact HB.out))) : w.heap.size ≤ gb534)); have n11_ := Aside0.mk ((by rw [hg]; exact (below_size (by repeat (first | (with_reducible first | exact HB.out | apply below_alloc | apply pw_below_drewN | apply below_drew1) | exact HB.out))) : w.heap.size ≤ gb534)); clear HO510; clear HO512; clear HO516; clear HO520; clear HO523; clear HO526; clear HO529; clear HO532; clear HB; have HO510 := n0_; have HO512 := n1_; have HO516 := n2_; have HO520 := n3_; have HO523 := n4_; have HO526 := n5_; have HO529 := n6_; have HO532 := n7_; have HB := n8_; have BK534 := n9_; have GW534 := n10_; have GE534 := n11_; clear n0_ n1_ n2_ n3_ n4_ n5_ n6_ n7_ n8_ n9_ n10_ n11_; clear hb hbox hg; obtain ⟨Ao28, co28, eo28⟩ := Kd.R_slice HO523.out; subst eo28; have hcz29_0 : w27.cell? ⟨gb534, 0, none⟩ = some (.slice none 0 0) := (blk_cell BK534.out 0).trans rfl; have hcz29_1 : w27.cell? ⟨gb534, 1, none⟩ = some (.slice none 0 0) := (blk_cell BK534.out 1).trans rfl; have hcz29_2 : w27.cell? ⟨gb534, 2, none⟩ = some (.slice none 0 0) := (blk_cell BK534.out 2).trans rfl; have hcz29_3 : w27.cell? ⟨gb534, 3, none⟩ = some (.slice none 0 0) := (blk_cell BK534.out 3).trans rfl; have hfz29_0 := blk_frozen BK534.out 0; have hfz29_1 := blk_frozen BK534.out 1; have hfz29_2 := blk_frozen BK534.out 2; have hfz29_3 := blk_frozen BK534.out 3; obtain ⟨Ao30, co30, eo30⟩ := Kd.R_slice HO526.out; subst eo30; obtain ⟨Ao31, co31, eo31⟩ := Kd.R_slice HO529.out; subst eo31; obtain ⟨Ao32, co32, eo32⟩ := Kd.R_slice HO532.out; subst eo32) | ((with_reducible refine gate_callee (f := 32) rfl ?_); refine goesL_ (some 44) rfl rfl Try.func32 (by kernel_rfl) rfl #[] rfl (by (try simp only [List.map_toArray, List.map_cons, List.map_nil]); first | done | rfl | (simp only [List.length_drop, List.length_take]; rfl)) ?_; (with_reducible refine (jalousielaw11_live.calls k  true _ A10.out).mono ?_); rintro e w33 ⟨rfl, hb⟩; refine ⟨_, rfl, ?_⟩; have n0_ := Aside0.mk (Kd.R_below (by (with_reducible repeat first|apply zr1|apply zr2|apply zr3); exact (Kd.R_mono (Kd.R_far (p := ⟨gb534, 3, none⟩) (Kd.R_far (p := ⟨gb534, 2, none⟩) (Kd.R_far (p := ⟨gb534, 1, none⟩) (Kd.R_far (p := ⟨gb534, 0, none⟩) (Kd.R_types HO510.out BK534.out (by decide)) (fun _ hk => hk.2) (.slice Ao28 t521.length co28)) (fun _ hk => hk.2) (.slice Ao30 t524.length co30)) (fun _ hk => hk.2) (.slice Ao31 t527.length co31)) (fun _ hk => hk.2) (.slice Ao32 t530.length co32)) (fun _ h_ => h_.1))) hb); have n1_ := Aside0.mk (Kd.R_below (by (with_reducible repeat first|apply zr1|apply zr2|apply zr3); exact (Kd.R_mono (Kd.R_far (p := ⟨gb534, 3, none⟩) (Kd.R_far (p := ⟨gb534, 2, none⟩) (Kd.R_far (p := ⟨gb534, 1, none⟩) (Kd.R_far (p := ⟨gb534, 0, none⟩) (Kd.R_types HO512.out BK534.out (by decide)) (fun _ hk => hk.2) (.slice Ao28 t521.length co28)) (fun _ hk => hk.2) (.slice Ao30 t524.length co30)) (fun _ hk => hk.2) (.slice Ao31 t527.length co31)) (fun _ hk => hk.2) (.slice Ao32 t530.length co32)) (fun _ h_ => h_.1))) hb); have n2_ := Aside0.mk (Kd.R_below (by (with_reducible repeat first|apply zr1|apply zr2|apply zr3); exact (Kd.R_mono (Kd.R_far (p := ⟨gb534, 3, none⟩) (Kd.R_far (p := ⟨gb534, 2, none⟩) (Kd.R_far (p := ⟨gb534, 1, none⟩) (Kd.R_far (p := ⟨gb534, 0, none⟩) (Kd.R_types HO516.out BK534.out (by decide)) (fun _ hk => hk.2) (.slice Ao28 t521.length co28)) (fun _ hk => hk.2) (.slice Ao30 t524.length co30)) (fun _ hk => hk.2) (.slice Ao31 t527.length co31)) (fun _ hk => hk.2) (.slice Ao32 t530.length co32)) (fun _ h_ => h_.1))) hb); have n3_ := Aside0.mk (Kd.R_below (by (with_reducible repeat first|apply zr1|apply zr2|apply zr3); exact (Kd.R_mono (Kd.R_far (p := ⟨gb534, 3, none⟩) (Kd.R_far (p := ⟨gb534, 2, none⟩) (Kd.R_far (p := ⟨gb534, 1, none⟩) (Kd.R_far (p := ⟨gb534, 0, none⟩) (Kd.R_types HO520.out BK534.out (by decide)) (fun _ hk => hk.2) (.slice Ao28 t521.length co28)) (fun _ hk => hk.2) (.slice Ao30 t524.length co30)) (fun _ hk => hk.2) (.slice Ao31 t527.length co31)) (fun _ hk => hk.2) (.slice Ao32 t530.length co32)) (fun _ h_ => h_.1))) hb); have n4_ := Aside0.mk (Kd.R_below (by (with_reducible repeat first|apply zr1|apply zr2|apply zr3); exact (Kd.R_mono (Kd.R_far (p := ⟨gb534, 3, none⟩) (Kd.R_far (p := ⟨gb534, 2, none⟩) (Kd.R_far (p := ⟨gb534, 1, none⟩) (Kd.R_far (p := ⟨gb534, 0, none⟩) (Kd.R_types HO523.out BK534.out (by decide)) (fun _ hk => hk.2) (.slice Ao28 t521.length co28)) (fun _ hk => hk.2) (.slice Ao30 t524.length co30)) (fun _ hk => hk.2) (.slice Ao31 t527.length co31)) (fun _ hk => hk.2) (.slice Ao32 t530.length co32)) (fun _ h_ => h_.1))) hb); have n5_ := Aside0.mk (Kd.R_below (by (with_reducible repeat first|apply zr1|apply zr2|apply zr3); exact (Kd.R_mono (Kd.R_far (p := ⟨gb534, 3, none⟩) (Kd.R_far (p := ⟨gb534, 2, none⟩) (Kd.R_far (p := ⟨gb534, 1, none⟩) (Kd.R_far (p := ⟨gb534, 0, none⟩) (Kd.R_types HO526.out BK534.out (by decide)) (fun _ hk => hk.2) (.slice Ao28 t521.length co28)) (fun _ hk => hk.2) (.slice Ao30 t524.length co30)) (fun _ hk => hk.2) (.slice Ao31 t527.length co31)) (fun _ hk => hk.2) (.slice Ao32 t530.length co32)) (fun _ h_ => h_.1))) hb); have n6_ := Aside0.mk (Kd.R_below (by (with_reducible repeat first|apply zr1|apply zr2|apply zr3); exact (Kd.R_mono (Kd.R_far (p := ⟨gb534, 3, none⟩) (Kd.R_far (p := ⟨gb534, 2, none⟩) (Kd.R_far (p := ⟨gb534, 1, none⟩) (Kd.R_far (p := ⟨gb534, 0, none⟩) (Kd.R_types HO529.out BK534.out (by decide)) (fun _ hk => hk.2) (.slice Ao28 t521.length co28)) (fun _ hk => hk.2) (.slice Ao30 t524.length co30)) (fun _ hk => hk.2) (.slice Ao31 t527.length co31)) (fun _ hk => hk.2) (.slice Ao32 t530.length co32)) (fun _ h_ => h_.1))) hb); have n7_ := Aside0.mk (Kd.R_below (by (with_reducible repeat first|apply zr1|apply zr2|apply zr3); exact (Kd.R_mono (Kd.R_far (p := ⟨gb534, 3, none⟩) (Kd.R_far (p := ⟨gb534, 2, none⟩) (Kd.R_far (p := ⟨gb534, 1, none⟩) (Kd.R_far (p := ⟨gb534, 0, none⟩) (Kd.R_types HO532.out BK534.out (by decide)) (fun _ hk => hk.2) (.slice Ao28 t521.length co28)) (fun _ hk => hk.2) (.slice Ao30 t524.length co30)) (fun _ hk => hk.2) (.slice Ao31 t527.length co31)) (fun _ hk => hk.2) (.slice Ao32 t530.length co32)) (fun _ h_ => h_.1))) hb); have n8_ := Aside0.mk (blk_below (g := gb534) (o := .cells #[.slice Ao28 t521.length co28, .slice Ao30 t524.length co30, .slice Ao31 t527.length co31, .slice Ao32 t530.length co32] 57 (0, 0)) (by (with_reducible repeat first|refine zb1 ?_ _|refine zb2 ?_|refine zb3 ?_ _); refine blk_put (cs := #[.slice Ao28 t521.length co28, .slice Ao30 t524.length co30, .slice Ao31 t527.length co31, .slice none 0 0]) ?_ 3 _ rfl; (with_reducible repeat first|refine zb1 ?_ _|refine zb2 ?_|refine zb3 ?_ _); refine blk_put (cs := #[.slice Ao28 t521.length co28, .slice Ao30 t524.length co30, .slice none 0 0, .slice none 0 0]) ?_ 2 _ rfl; (with_reducible repeat first|refine zb1 ?_ _|refine zb2 ?_|refine zb3 ?_ _); refine blk_put (cs := #[.slice Ao28 t521.length co28, .slice none 0 0, .slice none 0 0, .slice none 0 0]) ?_ 1 _ rfl; (with_reducible repeat first|refine zb1 ?_ _|refine zb2 ?_|refine zb3 ?_ _); refine blk_put (cs := #[.slice none 0 0, .slice none 0 0, .slice none 0 0, .slice none 0 0]) ?_ 0 _ rfl; (with_reducible repeat first|refine zb1 ?_ _|refine zb2 ?_|refine zb3 ?_ _); exact BK534.out) hb); have n9_ := Aside0.mk (below_step (by repeat (first | (with_reducible first | exact HB.out | apply below_alloc | apply pw_below_drewN | apply below_drew1 | refine below_set ?_ GE534.out) | exact HB.out)) hb); clear HO510; clear HO512; clear HO516; clear HO520; clear HO523; clear HO526; clear HO529; clear HO532; clear BK534; clear HB; have HO510 := n0_; have HO512 := n1_; have HO516 := n2_; have HO520 := n3_; have HO523 := n4_; have HO526 := n5_; have HO529 := n6_; have HO532 := n7_; have BK534 := n8_; have HB := n9_; clear n0_ n1_ n2_ n3_ n4_ n5_ n6_ n7_ n8_ n9_; (try clear hb); (try clear hb2); (try clear hk); (try clear hi); have hcz34_0 : w33.cell? ⟨gb534, 0, none⟩ = some (.slice Ao28 t521.length co28) := (blk_cell BK534.out 0).trans rfl; have hcz34_1 : w33.cell? ⟨gb534, 1, none⟩ = some (.slice Ao30 t524.length co30) := (blk_cell BK534.out 1).trans rfl; have hcz34_2 : w33.cell? ⟨gb534, 2, none⟩ = some (.slice Ao31 t527.length co31) := (blk_cell BK534.out 2).trans rfl; have hcz34_3 : w33.cell? ⟨gb534, 3, none⟩ = some (.slice Ao32 t530.length co32) := (blk_cell BK534.out 3).trans rfl; have hfz34_0 := blk_frozen BK534.out 0; have hfz34_1 := blk_frozen BK534.out 1; have hfz34_2 := blk_frozen BK534.out 2; have hfz34_3 := blk_frozen BK534.out 3; obtain ⟨Ao35, co35, eo35⟩ := Kd.R_slice HO510.out; subst eo35) | (go_at_call 33; (with_reducible refine (jalousieref01_Same.calls k _ _ t506 _ _ t521 true _ ?side1 ?side2 ?side3 ?side4 A12.out).mono ?_); (case side1 => repeat (first | exact (Kd.R_reads' HO510.out).2.2 | (with_reducible refine Kd.C_alloc ?_ _) | (with_reducible refine Kd.C_drewN ?_ _) | (with_reducible refine Kd.C_drew ?_))); (case side2 => exact (Kd.R_reads' HO510.out).2.1); (case side3 => repeat (first | exact (Kd.R_reads' HO523.out).2.2 | (with_reducible refine Kd.C_alloc ?_ _) | (with_reducible refine Kd.C_drewN ?_ _) | (with_reducible refine Kd.C_drew ?_))); (case side4 => exact (Kd.R_reads' HO523.out).2.1); rintro e w' ⟨rfl, ⟨nd, rfl⟩⟩; obtain ⟨Ao36, co36, eo36⟩ := Kd.R_slice HO512.out; subst eo36) | (go_at_call 34; (with_reducible refine (jalousieref06_Same.calls k _ _ t507 _ _ t524 true _ ?side1 ?side2 ?side3 ?side4 A14.out).mono ?_); (case side1 => repeat (first | exact (Kd.R_reads' HO512.out).2.2 | (with_reducible refine Kd.C_alloc ?_ _) | (with_reducible refine Kd.C_drewN ?_ _) | (with_reducible refine Kd.C_drew ?_))); (case side2 => exact (Kd.R_reads' HO512.out).2.1); (case side3 => repeat (first | exact (Kd.R_reads' HO526.out).2.2 | (with_reducible refine Kd.C_alloc ?_ _) | (with_reducible refine Kd.C_drewN ?_ _) | (with_reducible refine Kd.C_drew ?_))); (case side4 => exact (Kd.R_reads' HO526.out).2.1); rintro e w' ⟨rfl, ⟨nd, rfl⟩⟩; obtain ⟨Ao37, co37, eo37⟩ := Kd.R_slice HO516.out; subst eo37) | (go_at_call 35; (with_reducible refine (jalousieref05_Ints.calls k _ _ t513 _ _ t527 true _ ?side1 ?side2 ?side3 ?side4 A16.out).mono ?_); (case side1 => repeat (first | exact (Kd.R_reads' HO516.out).2.2 | (with_reducible refine Kd.C_alloc ?_ _) | (with_reducible refine Kd.C_drewN ?_ _) | (with_reducible refine Kd.C_drew ?_))); (case side2 => exact (Kd.R_reads' HO516.out).2.1); (case side3 => repeat (first | exact (Kd.R_reads' HO529.out).2.2 | (with_reducible refine Kd.C_alloc ?_ _) | (with_reducible refine Kd.C_drewN ?_ _) | (with_reducible refine Kd.C_drew ?_))); (case side4 => exact (Kd.R_reads' HO529.out).2.1); rintro e w' ⟨rfl, ⟨nd, rfl⟩⟩; obtain ⟨Ao38, co38, eo38⟩ := Kd.R_slice HO520.out; subst eo38) | (go_at_call 35; (with_reducible refine (jalousieref05_Ints.calls k _ _ t517 _ _ t530 true _ ?side1 ?side2 ?side3 ?side4 A18.out).mono ?_); (case side1 => repeat (first | exact (Kd.R_reads' HO520.out).2.2 | (with_reducible refine Kd.C_alloc ?_ _) | (with_reducible refine Kd.C_drewN ?_ _) | (with_reducible refine Kd.C_drew ?_))); (case side2 => exact (Kd.R_reads' HO520.out).2.1); (case side3 => repeat (first | exact (Kd.R_reads' HO532.out).2.2 | (with_reducible refine Kd.C_alloc ?_ _) | (with_reducible refine Kd.C_drewN ?_ _) | (with_reducible refine Kd.C_drew ?_))); (case side4 => exact (Kd.R_reads' HO532.out).2.1); rintro e w' ⟨rfl, ⟨nd, rfl⟩⟩))
          go_ret
          exact ⟨by first | rfl | (simp [errW_none, errW_some] <;> rfl) | (simp only [← hji3]; first | rfl | (simp [errW_none, errW_some] <;> rfl)) | (simp [*, errW_none, errW_some] <;> rfl), by repeat (first | (with_reducible first | exact HB.out | apply below_alloc | apply pw_below_drewN | apply below_drew1 | refine below_set ?_ GE534.out) | exact HB.out)⟩
         ·rw [if_neg c21] at H
          have c21b0 : (t514 == t533) = false := beq_eq_false_iff_ne.mpr c21
          have c21b1 : (t514 != t533) = true := bne_iff_ne.mpr c21
          exact absurd (Option.some.inj (H.trans (congrArg some HRT.out))) (by decide)
        ·rw [if_neg c20] at H
         have c20b0 : (t508 == t533) = false := beq_eq_false_iff_ne.mpr c20
         have c20b1 : (t508 != t533) = true := bne_iff_ne.mpr c20
         exact absurd (Option.some.inj (H.trans (congrArg some HRT.out))) (by decide)
       ·replace c19 := Bool.eq_false_iff.mpr c19
        subst c19
        have H1 : (some false) = some r := by rw [if_neg (show ¬ (false = true) by decide)] at H; exact H
        clear H
        have H := H1
        clear H1
        exact absurd (Option.some.inj (H.trans (congrArg some HRT.out))) (by decide)
      ·replace c17 := Bool.eq_false_iff.mpr c17
       subst c17
       have H1 : (some false) = some r := by rw [if_neg (show ¬ (false = true) by decide)] at H; exact H
       clear H
       have H := H1
       clear H1
       exact absurd (Option.some.inj (H.trans (congrArg some HRT.out))) (by decide)
     ·replace c15 := Bool.eq_false_iff.mpr c15
      subst c15
      have H1 : (some false) = some r := by rw [if_neg (show ¬ (false = true) by decide)] at H; exact H
      clear H
      have H := H1
      clear H1
      exact absurd (Option.some.inj (H.trans (congrArg some HRT.out))) (by decide)
    ·replace c13 := Bool.eq_false_iff.mpr c13
     subst c13
     have H1 : (some false) = some r := by rw [if_neg (show ¬ (false = true) by decide)] at H; exact H
     clear H
     have H := H1
     clear H1
     exact absurd (Option.some.inj (H.trans (congrArg some HRT.out))) (by decide)
   ·replace c11 := Bool.eq_false_iff.mpr c11
    subst c11
    have H1 : (some false) = some r := by rw [if_neg (show ¬ (false = true) by decide)] at H; exact H
    clear H
    have H := H1
    clear H1
    exact absurd (Option.some.inj (H.trans (congrArg some HRT.out))) (by decide)
  ·rw [if_neg c5] at H
   exact absurd H (by simp)
 ·rw [if_neg c4] at H
  exact absurd H (by simp)

end Go.Proofs.Ytfnbodjmmkjlcaa.H
end
section
namespace Go.Proofs.Ytfnbodjmmkjlcaa.H
open Go.RowKit Go.Proofs.YtfnbodjmmkjlcaaW.PrintWords Go.Proofs.YtfnbodjmmkjlcaaW.PrintLast Go.Proofs.YtfnbodjmmkjlcaaW.PrintMore
set_option linter.unusedVariables false
/-- THE PURE STATEMENT of PatchApplies. -/
def jalousielaw11_PatchApplies.Pure : Prop := ∀ (l0 : (List S44)) (l1 : (List S66)), (∀ y_ ∈ l0, ok44 y_) → (∀ y_ ∈ l1, ok66 y_) → (l0.length * 56 ≤ 140737488351232 ∧ ∀ y_ ∈ l0, sz44 y_) → (l1.length * 24 ≤ 140737488351232 ∧ ∀ y_ ∈ l1, sz66 y_) → ∃ k, jalousielaw11_PatchApplies.f k l0 l1 = some true
end Go.Proofs.Ytfnbodjmmkjlcaa.H
end
section
namespace Go.Proofs.Ytfnbodjmmkjlcaa
open Go.RowKit Go.Proofs.YtfnbodjmmkjlcaaW.PrintWords Go.Proofs.YtfnbodjmmkjlcaaW.PrintMore
theorem ev_succ {α : Type} {g : Nat → Option α} {r : α} (h : Ev (fun k => g (k + 1)) r) : Ev g r := Ev.step (fun _ => rfl) h
theorem ev_pos {α : Type} {c : Prop} [Decidable c] {f g : Nat → Option α} {r : α} (h : c) (k : Ev f r) : Ev (fun n => if c then f n else g n) r := by
  obtain ⟨K, k⟩ := k
  exact ⟨K, fun n hn => (if_pos h).trans (k n hn)⟩
theorem ev_neg {α : Type} {c : Prop} [Decidable c] {f g : Nat → Option α} {r : α} (h : ¬ c) (k : Ev g r) : Ev (fun n => if c then f n else g n) r := by
  obtain ⟨K, k⟩ := k
  exact ⟨K, fun n hn => (if_neg h).trans (k n hn)⟩
theorem ev_some {α : Type} {a r : α} (h : a = r) : Ev (fun _ => some a) r := ⟨0, fun _ _ => congrArg some h⟩
theorem ev_bind {α β : Type} {x : Option α} {f : Nat → α → Option β} {a : α} {r : β} (h : x = some a) (k : Ev (fun n => f n a) r) : Ev (fun n => x.bind (f n)) r := by
  subst h
  exact k
theorem ev_cast {α : Type} {g : Nat → Option α} {r q : α} (h : Ev g r) (e : r = q) : Ev g q := e ▸ h
theorem w64s (i : Nat) (h : i < 9223372036854775807) : wrap64 ((i : Int) + 1) = ((i + 1 : Nat) : Int) := by
  unfold wrap64
  omega
theorem w64i (x : Int) (h0 : -9223372036854775808 ≤ x) (h1 : x ≤ 9223372036854775807) : wrap64 x = x := by
  unfold wrap64
  omega
theorem getD_lt {α : Type} {l : List α} {i : Nat} (h : i < l.length) (d : α) : l.getD i d = l[i] := by
  rw [List.getD_eq_getElem?_getD, List.getElem?_eq_getElem h]
  rfl
theorem getD_some {α : Type} {l : List α} {i : Nat} {x : α} (h : l[i]? = some x) (d : α) : l.getD i d = x := by
  rw [List.getD_eq_getElem?_getD, h]
  rfl
theorem drop_cons {α : Type} (l : List α) (i : Nat) (h : i < l.length) (d : α) : l.drop i = l.getD i d :: l.drop (i + 1) := by
  rw [List.drop_eq_getElem_cons h, getD_lt h]
theorem take_snoc {α : Type} (l : List α) (i : Nat) (h : i < l.length) (d : α) : l.take (i + 1) = l.take i ++ [l.getD i d] := by
  rw [List.take_succ_eq_append_getElem h, getD_lt h]
theorem ba_toList (s : ByteArray) : s.toList = s.data.toList := by
  obtain ⟨⟨l⟩⟩ := s
  exact ByteArray.toList_mk l
theorem ba_inj {a b : ByteArray} (h : a.toList = b.toList) : a = b := by
  rw [ba_toList, ba_toList] at h
  obtain ⟨⟨l⟩⟩ := a
  obtain ⟨⟨m⟩⟩ := b
  simp only at h
  subst h
  rfl
theorem ba_beq (a b : ByteArray) : (a.toList == b.toList) = decide (a = b) := by
  by_cases h : a = b
  · subst h
    simp
  · rw [decide_eq_false h]
    simp only [beq_eq_false_iff_ne, ne_eq]
    exact fun e => h (ba_inj e)
end Go.Proofs.Ytfnbodjmmkjlcaa
end
section
namespace Go.Proofs.Ytfnbodjmmkjlcaa.H
open Go.RowKit Go.Proofs.YtfnbodjmmkjlcaaW.PrintWords Go.Proofs.YtfnbodjmmkjlcaaW.PrintLast Go.Proofs.YtfnbodjmmkjlcaaW.PrintMore
set_option linter.unusedVariables false
set_option linter.unusedSimpArgs false
theorem rdE (l : List S47) (i : Nat) : rd_T47 l (i : Int) = l.getD i z47 := by simp [rd_T47]
theorem rdH (l : List S44) (i : Nat) : rd_T44 l (i : Int) = l.getD i z44 := by simp [rd_T44]
theorem rdL (l : List S66) (i : Nat) : rd_T66 l (i : Int) = l.getD i z66 := by simp [rd_T66]
theorem getD_mem {α : Type} {l : List α} {i : Nat} (h : i < l.length) (d : α) : l.getD i d ∈ l := by
  rw [getD_lt h]
  exact List.getElem_mem h
/-- How many lines. -/
def nl (s : List S47) : Nat := (s.map (fun e => e.f1.length)).sum
theorem nl_cons (x : S47) (s : List S47) : nl (x :: s) = x.f1.length + nl s := by simp [nl]
theorem nl_nil : nl [] = 0 := rfl
theorem nl_append (s t : List S47) : nl (s ++ t) = nl s + nl t := by simp [nl]
theorem nl_lines (s : List S47) : script_normal.lines s = nl s := rfl
/-- Each stays, goes, or is put in. -/
def allok (s : List S47) : Bool := s.all fun x => decide (1 ≤ x.f0 ∧ x.f0 ≤ 3)
theorem allok_cons (x : S47) (s : List S47) : allok (x :: s) = (decide (1 ≤ x.f0 ∧ x.f0 ≤ 3) && allok s) := by simp [allok]
/-- Sizes that a machine holds. -/
def Fit (s : List S47) : Prop := s.length ≤ 4398046511104 ∧ ∀ x ∈ s, x.f1.length ≤ 5864062014805
/-- What is wrong with a script. -/
def chk (s : List S47) : Int := if 800 < s.length then 4 else if 800 < nl s then 4 else if allok s = true then 0 else 3
theorem chk_zero {s : List S47} : chk s = 0 ↔ s.length ≤ 800 ∧ nl s ≤ 800 ∧ allok s = true := by
  unfold chk
  by_cases h1 : 800 < s.length
  · rw [if_pos h1]
    constructor
    · intro h
      cases h
    · omega
  · rw [if_neg h1]
    by_cases h2 : 800 < nl s
    · rw [if_pos h2]
      constructor
      · intro h
        cases h
      · omega
    · rw [if_neg h2]
      by_cases h3 : allok s = true
      · rw [if_pos h3]
        simp [h3]
        omega
      · rw [if_neg h3]
        simp [h3]
theorem chk_l0 (s : List S47) (hf : Fit s) : ∀ (d i n : Nat) (e : Int), i + d = s.length → n ≤ 800 → Ev (fun k => script_Check.l0 k (n : Int) e s (s.length : Int) (i : Int)) (if 800 < n + nl (s.drop i) then 4 else if allok (s.drop i) = true then e else 3)
  | 0, i, n, e, h, hn => by
    refine ev_succ ?_
    simp only [script_Check.l0]
    have := hf.1
    (repeat (first | refine ev_pos (by omega) ?_ | refine ev_neg (by omega) ?_))
    rw [List.drop_of_length_le (by omega)]
    exact ev_some (by rw [if_neg (by rw [nl_nil]; omega)]; rfl)
  | d + 1, i, n, e, h, hn => by
    have h1 := hf.1
    have hx := hf.2 _ (getD_mem (l := s) (i := i) (by omega) z47)
    rw [drop_cons s i (by omega) z47]
    refine ev_succ ?_
    simp only [script_Check.l0, rdE]
    rw [w64s i (by omega)]
    generalize s.getD i z47 = x at hx
    have hm : mn (wrap64 ((n : Int) + (x.f1.length : Int))) 801 = ((min (n + x.f1.length) 801 : Nat) : Int) := by
      unfold mn wrap64
      split <;> omega
    rw [hm, nl_cons, allok_cons]
    refine ev_pos (by omega) ?_
    refine ev_pos (by omega) ?_
    refine ev_pos (by omega) ?_
    by_cases hc : 800 < n + x.f1.length
    · refine ev_pos (by omega) ?_
      exact ev_some (by rw [if_pos (by omega)])
    · refine ev_neg (by omega) ?_
      rw [Nat.min_eq_left (by omega)]
      by_cases h3 : x.f0 < 1
      · refine ev_pos h3 ?_
        refine ev_cast (chk_l0 s hf d (i + 1) (n + x.f1.length) 3 (by omega) (by omega)) ?_
        rw [decide_eq_false (by omega), Bool.false_and, Nat.add_assoc]
        split
        · rfl
        · simp
      · refine ev_neg h3 ?_
        by_cases h4 : x.f0 > 3
        · refine ev_pos h4 ?_
          refine ev_cast (chk_l0 s hf d (i + 1) (n + x.f1.length) 3 (by omega) (by omega)) ?_
          rw [decide_eq_false (by omega), Bool.false_and, Nat.add_assoc]
          split
          · rfl
          · simp
        · refine ev_neg h4 ?_
          refine ev_cast (chk_l0 s hf d (i + 1) (n + x.f1.length) e (by omega) (by omega)) ?_
          rw [decide_eq_true (by omega), Bool.true_and, Nat.add_assoc]
theorem chk_ev (s : List S47) (hf : Fit s) : Ev (fun k => script_Check.f k s) (chk s) := by
  unfold script_Check.f chk
  by_cases h : 800 < s.length
  · refine ev_pos (by omega) ?_
    exact ev_some (by rw [if_pos h])
  · refine ev_neg (by omega) ?_
    refine ev_cast (chk_l0 s hf s.length 0 0 0 (by omega) (by omega)) ?_
    rw [if_neg h, List.drop_zero, Nat.zero_add]
theorem rchk_l1 (s : List S47) (hf : Fit s) : ∀ (d i : Nat), i + d = s.length → Ev (fun k => jalousieref08_Check.l1 k s (i : Int)) (if allok (s.drop i) = true then 0 else 3)
  | 0, i, h => by
    refine ev_succ ?_
    simp only [jalousieref08_Check.l1]
    have := hf.1
    (repeat (first | refine ev_pos (by omega) ?_ | refine ev_neg (by omega) ?_))
    rw [List.drop_of_length_le (by omega)]
    exact ev_some (by rfl)
  | d + 1, i, h => by
    have h1 := hf.1
    rw [drop_cons s i (by omega) z47]
    refine ev_succ ?_
    simp only [jalousieref08_Check.l1, rdE]
    rw [w64s i (by omega), allok_cons]
    generalize s.getD i z47 = x
    refine ev_pos (by omega) ?_
    refine ev_pos (by omega) ?_
    have ih := rchk_l1 s hf d (i + 1) (by omega)
    by_cases a1 : x.f0 = 1
    · refine ev_pos a1 (ev_cast ih ?_)
      rw [decide_eq_true (by omega), Bool.true_and]
    · refine ev_neg a1 ?_
      by_cases a2 : x.f0 = 2
      · refine ev_pos a2 (ev_cast ih ?_)
        rw [decide_eq_true (by omega), Bool.true_and]
      · refine ev_neg a2 ?_
        by_cases a3 : x.f0 = 3
        · refine ev_pos a3 (ev_cast ih ?_)
          rw [decide_eq_true (by omega), Bool.true_and]
        · refine ev_neg a3 (ev_some ?_)
          rw [decide_eq_false (by omega), Bool.false_and]
          rfl
theorem rchk_l0 (s : List S47) (hf : Fit s) : ∀ (d i n : Nat), i + d = s.length → n ≤ 800 → Ev (fun k => jalousieref08_Check.l0 k s (n : Int) (i : Int)) (if 800 < n + nl (s.drop i) then 4 else if allok s = true then 0 else 3)
  | 0, i, n, h, hn => by
    refine ev_succ ?_
    simp only [jalousieref08_Check.l0]
    have := hf.1
    (repeat (first | refine ev_pos (by omega) ?_ | refine ev_neg (by omega) ?_))
    rw [List.drop_of_length_le (by omega)]
    refine ev_cast (rchk_l1 s hf s.length 0 (by omega)) ?_
    rw [List.drop_zero, if_neg (show ¬ 800 < n + nl [] by rw [nl_nil]; omega)]
  | d + 1, i, n, h, hn => by
    have h1 := hf.1
    have hx := hf.2 _ (getD_mem (l := s) (i := i) (by omega) z47)
    rw [drop_cons s i (by omega) z47]
    refine ev_succ ?_
    simp only [jalousieref08_Check.l0, rdE]
    rw [w64s i (by omega)]
    generalize s.getD i z47 = x at hx
    rw [w64i (800 - (n : Int)) (by omega) (by omega), w64i ((n : Int) + (x.f1.length : Int)) (by omega) (by omega), nl_cons]
    refine ev_pos (by omega) ?_
    refine ev_pos (by omega) ?_
    by_cases hc : 800 < n + x.f1.length
    · refine ev_pos (by omega) ?_
      exact ev_some (by rw [if_pos (by omega)])
    · refine ev_neg (by omega) ?_
      refine ev_cast (rchk_l0 s hf d (i + 1) (n + x.f1.length) (by omega) (by omega)) ?_
      rw [Nat.add_assoc]
theorem rchk_ev (s : List S47) (hf : Fit s) : Ev (fun k => jalousieref08_Check.f k s) (chk s) := by
  unfold jalousieref08_Check.f chk
  by_cases h : 800 < s.length
  · refine ev_pos (by omega) ?_
    exact ev_some (by rw [if_pos h])
  · refine ev_neg (by omega) ?_
    refine ev_cast (rchk_l0 s hf s.length 0 0 (by omega) (by omega)) ?_
    rw [if_neg h, List.drop_zero, Nat.zero_add]
/-- A script's lines but those of one kind. -/
def side (s : List S47) (but : Int) : List S66 := s.flatMap fun x => if x.f0 = but then [] else x.f1
theorem side_cons (x : S47) (s : List S47) (b : Int) : side (x :: s) b = (if x.f0 = b then [] else x.f1) ++ side s b := by simp [side]
theorem side_append (s t : List S47) (b : Int) : side (s ++ t) b = side s b ++ side t b := by simp [side]
theorem side_len (s : List S47) (b : Int) : (side s b).length ≤ nl s := by
  induction s with
  | nil => simp [side, nl]
  | cons x t ih =>
    rw [side_cons, nl_cons, List.length_append]
    split
    · simp
      omega
    · omega
theorem sides_l0 (s : List S47) (hok : allok s = true) (hn : nl s ≤ 800) (hl : s.length ≤ 800) : ∀ (d i : Nat) (a b : List S66), i + d = s.length → a.length + nl (s.drop i) ≤ 800 → b.length + nl (s.drop i) ≤ 800 → Ev (fun k => script_sides.l0 k a b s (s.length : Int) (i : Int)) (a ++ side (s.drop i) 3, b ++ side (s.drop i) 2)
  | 0, i, a, b, h, ha, hb => by
    refine ev_succ ?_
    simp only [script_sides.l0]
    (repeat (first | refine ev_pos (by omega) ?_ | refine ev_neg (by omega) ?_))
    rw [List.drop_of_length_le (by omega)]
    exact ev_some (by simp [side])
  | d + 1, i, a, b, h, ha, hb => by
    have hx : 1 ≤ (s.getD i z47).f0 ∧ (s.getD i z47).f0 ≤ 3 := by
      have := List.all_eq_true.1 hok _ (getD_mem (l := s) (i := i) (by omega) z47)
      simpa using this
    rw [drop_cons s i (by omega) z47] at ha hb ⊢
    rw [nl_cons] at ha hb
    refine ev_succ ?_
    simp only [script_sides.l0, rdE]
    rw [w64s i (by omega)]
    generalize s.getD i z47 = x at hx ha hb
    rw [side_cons, side_cons]
    refine ev_pos (by omega) ?_
    refine ev_pos (by omega) ?_
    refine ev_pos (by omega) ?_
    by_cases a1 : x.f0 = 1
    · refine ev_pos a1 ?_
      (repeat (first | refine ev_pos (by omega) ?_ | refine ev_neg (by omega) ?_))
      refine ev_cast (sides_l0 s hok hn hl d (i + 1) _ _ (by omega) (by rw [List.length_append]; omega) (by rw [List.length_append]; omega)) ?_
      rw [if_neg (by omega), if_neg (by omega), List.append_assoc, List.append_assoc]
    · refine ev_neg a1 ?_
      by_cases a2 : x.f0 = 2
      · refine ev_pos a2 ?_
        (repeat (first | refine ev_pos (by omega) ?_ | refine ev_neg (by omega) ?_))
        refine ev_cast (sides_l0 s hok hn hl d (i + 1) _ _ (by omega) (by rw [List.length_append]; omega) (by omega)) ?_
        rw [if_neg (by omega), if_pos a2, List.append_assoc, List.nil_append]
      · refine ev_neg a2 ?_
        (repeat (first | refine ev_pos (by omega) ?_ | refine ev_neg (by omega) ?_))
        refine ev_cast (sides_l0 s hok hn hl d (i + 1) _ _ (by omega) (by omega) (by rw [List.length_append]; omega)) ?_
        rw [if_pos (by omega), if_neg a2, List.append_assoc, List.nil_append]
/-- Both sides, and what is wrong. -/
def sds (s : List S47) : List S66 × List S66 × Int := if chk s = 0 then (side s 3, side s 2, 0) else ([], [], chk s)
theorem sides_ev (s : List S47) (hf : Fit s) : Ev (fun k => script_Sides.f k s) (sds s) := by
  unfold script_Sides.f sds
  refine Ev.bind (chk_ev s hf) ?_
  by_cases h : chk s = 0
  · refine ev_pos h ?_
    rw [if_pos h]
    obtain ⟨h1, h2, h3⟩ := chk_zero.1 h
    refine Ev.bind (a := (side s 3, side s 2)) ?_ (ev_some rfl)
    unfold script_sides.f
    refine ev_cast (sides_l0 s h3 h2 h1 s.length 0 [] [] (by omega) (by simpa using h2) (by simpa using h2)) ?_
    simp
  · refine ev_neg h ?_
    rw [if_neg h]
    exact ev_some rfl
theorem rside_l0 (s : List S47) (but : Int) (hn : nl s ≤ 800) (hl : s.length ≤ 800) : ∀ (d i : Nat) (a : List S66), i + d = s.length → a.length + nl (s.drop i) ≤ 800 → Ev (fun k => jalousieref08_side.l0 k s but a (i : Int)) (a ++ side (s.drop i) but)
  | 0, i, a, h, ha => by
    refine ev_succ ?_
    simp only [jalousieref08_side.l0]
    (repeat (first | refine ev_pos (by omega) ?_ | refine ev_neg (by omega) ?_))
    rw [List.drop_of_length_le (by omega)]
    exact ev_some (by simp [side])
  | d + 1, i, a, h, ha => by
    rw [drop_cons s i (by omega) z47] at ha ⊢
    rw [nl_cons] at ha
    refine ev_succ ?_
    simp only [jalousieref08_side.l0, rdE]
    rw [w64s i (by omega)]
    generalize s.getD i z47 = x at ha
    rw [side_cons]
    refine ev_pos (by omega) ?_
    refine ev_pos (by omega) ?_
    by_cases a1 : x.f0 = but
    · refine ev_pos a1 ?_
      refine ev_cast (rside_l0 s but hn hl d (i + 1) _ (by omega) (by omega)) ?_
      rw [if_pos a1, List.nil_append]
    · refine ev_neg a1 ?_
      (repeat (first | refine ev_pos (by omega) ?_ | refine ev_neg (by omega) ?_))
      refine ev_cast (rside_l0 s but hn hl d (i + 1) _ (by omega) (by rw [List.length_append]; omega)) ?_
      rw [if_neg a1, List.append_assoc]
theorem rside_ev (s : List S47) (but : Int) (hn : nl s ≤ 800) (hl : s.length ≤ 800) : Ev (fun k => jalousieref08_side.f k s but) (side s but) := by
  unfold jalousieref08_side.f
  exact ev_cast (rside_l0 s but hn hl s.length 0 [] (by omega) (by simpa using hn)) (by simp)
theorem rsides_ev (s : List S47) (hf : Fit s) : Ev (fun k => jalousieref08_Sides.f k s) (sds s) := by
  unfold jalousieref08_Sides.f sds
  refine Ev.bind (rchk_ev s hf) ?_
  by_cases h : chk s = 0
  · refine ev_pos h ?_
    rw [if_pos h]
    obtain ⟨h1, h2, h3⟩ := chk_zero.1 h
    exact Ev.bind (rside_ev s 3 h2 h1) (Ev.bind (rside_ev s 2 h2 h1) (ev_some rfl))
  · refine ev_neg h ?_
    rw [if_neg h]
    exact ev_some rfl
def chg (s : List S47) : Nat := (s.map fun x => if x.f0 = 2 ∨ x.f0 = 3 then x.f1.length else 0).sum
theorem chg_cons (x : S47) (s : List S47) : chg (x :: s) = (if x.f0 = 2 ∨ x.f0 = 3 then x.f1.length else 0) + chg s := by simp [chg]
theorem chg_l0 (s : List S47) (hn : nl s ≤ 1000000000000000000) (hl : s.length ≤ 1000000000000000000) : ∀ (d i n : Nat), i + d = s.length → n + nl (s.drop i) ≤ 1000000000000000000 → Ev (fun k => script_Changed.l0 k (n : Int) s (s.length : Int) (i : Int)) ((n + chg (s.drop i) : Nat) : Int)
  | 0, i, n, h, ha => by
    refine ev_succ ?_
    simp only [script_Changed.l0]
    (repeat (first | refine ev_pos (by omega) ?_ | refine ev_neg (by omega) ?_))
    rw [List.drop_of_length_le (by omega)]
    exact ev_some (by simp [chg])
  | d + 1, i, n, h, ha => by
    rw [drop_cons s i (by omega) z47] at ha ⊢
    rw [nl_cons] at ha
    refine ev_succ ?_
    simp only [script_Changed.l0, rdE]
    rw [w64s i (by omega)]
    generalize s.getD i z47 = x at ha
    rw [chg_cons]
    refine ev_pos (by omega) ?_
    refine ev_pos (by omega) ?_
    refine ev_pos (by omega) ?_
    have hw : wrap64 ((n : Int) + (x.f1.length : Int)) = ((n + x.f1.length : Nat) : Int) := by
      unfold wrap64
      omega
    by_cases a1 : x.f0 = 2
    · refine ev_pos a1 ?_
      rw [hw]
      refine ev_cast (chg_l0 s hn hl d (i + 1) _ (by omega) (by omega)) ?_
      rw [if_pos (Or.inl a1), Nat.add_assoc]
    · refine ev_neg a1 ?_
      by_cases a2 : x.f0 = 3
      · refine ev_pos a2 ?_
        rw [hw]
        refine ev_cast (chg_l0 s hn hl d (i + 1) _ (by omega) (by omega)) ?_
        rw [if_pos (Or.inr a2), Nat.add_assoc]
      · refine ev_neg a2 ?_
        refine ev_cast (chg_l0 s hn hl d (i + 1) _ (by omega) (by omega)) ?_
        rw [if_neg (by omega), Nat.zero_add]
theorem chg_ev (s : List S47) (hn : nl s ≤ 1000000000000000000) (hl : s.length ≤ 1000000000000000000) : Ev (fun k => script_Changed.f k s) (chg s : Int) := by
  unfold script_Changed.f
  refine ev_cast (chg_l0 s hn hl s.length 0 0 (by omega) (by simpa using hn)) ?_
  simp
theorem rchg_l0 (s : List S47) (hn : nl s ≤ 1000000000000000000) (hl : s.length ≤ 1000000000000000000) : ∀ (d i n : Nat), i + d = s.length → n + nl (s.drop i) ≤ 1000000000000000000 → Ev (fun k => jalousieref08_Changed.l0 k s (n : Int) (i : Int)) ((n + chg (s.drop i) : Nat) : Int)
  | 0, i, n, h, ha => by
    refine ev_succ ?_
    simp only [jalousieref08_Changed.l0]
    (repeat (first | refine ev_pos (by omega) ?_ | refine ev_neg (by omega) ?_))
    rw [List.drop_of_length_le (by omega)]
    exact ev_some (by simp [chg])
  | d + 1, i, n, h, ha => by
    rw [drop_cons s i (by omega) z47] at ha ⊢
    rw [nl_cons] at ha
    refine ev_succ ?_
    simp only [jalousieref08_Changed.l0, rdE]
    rw [w64s i (by omega)]
    generalize s.getD i z47 = x at ha
    rw [chg_cons]
    refine ev_pos (by omega) ?_
    refine ev_pos (by omega) ?_
    have hw : wrap64 ((n : Int) + (x.f1.length : Int)) = ((n + x.f1.length : Nat) : Int) := by
      unfold wrap64
      omega
    by_cases a1 : x.f0 = 2
    · refine ev_pos a1 ?_
      rw [hw]
      refine ev_cast (rchg_l0 s hn hl d (i + 1) _ (by omega) (by omega)) ?_
      rw [if_pos (Or.inl a1), Nat.add_assoc]
    · refine ev_neg a1 ?_
      by_cases a2 : x.f0 = 3
      · refine ev_pos a2 ?_
        rw [hw]
        refine ev_cast (rchg_l0 s hn hl d (i + 1) _ (by omega) (by omega)) ?_
        rw [if_pos (Or.inr a2), Nat.add_assoc]
      · refine ev_neg a2 ?_
        refine ev_cast (rchg_l0 s hn hl d (i + 1) _ (by omega) (by omega)) ?_
        rw [if_neg (by omega), Nat.zero_add]
theorem rchg_ev (s : List S47) (hn : nl s ≤ 1000000000000000000) (hl : s.length ≤ 1000000000000000000) : Ev (fun k => jalousieref08_Changed.f k s) (chg s : Int) := by
  unfold jalousieref08_Changed.f
  refine ev_cast (rchg_l0 s hn hl s.length 0 0 (by omega) (by simpa using hn)) ?_
  simp
end Go.Proofs.Ytfnbodjmmkjlcaa.H
end
section
namespace Go.Proofs.Ytfnbodjmmkjlcaa.H
open Go.RowKit Go.Proofs.YtfnbodjmmkjlcaaW.PrintWords Go.Proofs.YtfnbodjmmkjlcaaW.PrintLast Go.Proofs.YtfnbodjmmkjlcaaW.PrintMore
set_option linter.unusedVariables false
set_option linter.unusedSimpArgs false
instance decL : DecidableEq S66 := fun a b => decidable_of_iff (a.f0 = b.f0 ∧ a.f1 = b.f1) ⟨fun h => by cases a; cases b; simp at h; simp [h], fun h => h ▸ ⟨rfl, rfl⟩⟩
instance decE : DecidableEq S47 := fun a b => decidable_of_iff (a.f0 = b.f0 ∧ a.f1 = b.f1) ⟨fun h => by cases a; cases b; simp at h; simp [h], fun h => h ▸ ⟨rfl, rfl⟩⟩
theorem line_ne (a b : S66) : (!((a.f0.toList) == (b.f0.toList)) || (!((a.f1) == (b.f1)))) = !decide (a = b) := by
  rw [ba_beq]
  by_cases h : a = b
  · subst h
    simp
  · rw [decide_eq_false h]
    by_cases h0 : a.f0 = b.f0
    · have h1 : a.f1 ≠ b.f1 := fun h1 => h (by cases a; cases b; simp at h0 h1; simp [h0, h1])
      simp [h0, h1]
    · simp [h0]
theorem decide_cons {α : Type} [DecidableEq α] (a b : α) (s t : List α) : decide (a :: s = b :: t) = (decide (a = b) && decide (s = t)) := by
  by_cases h : a = b
  · subst h
    by_cases h2 : s = t
    · simp [h2]
    · simp [h2]
  · simp [h]
theorem lsame_l0 (s t : List S66) (hl : s.length = t.length) (hs : s.length ≤ 9000000000000000000) : ∀ (d i : Nat), i + d = s.length → Ev (fun k => jalousieref01_Same.l0 k s t (i : Int)) (decide (s.drop i = t.drop i))
  | 0, i, h => by
    refine ev_succ ?_
    simp only [jalousieref01_Same.l0]
    (repeat (first | refine ev_pos (by omega) ?_ | refine ev_neg (by omega) ?_))
    rw [List.drop_of_length_le (by omega), List.drop_of_length_le (by omega)]
    exact ev_some (by simp)
  | d + 1, i, h => by
    refine ev_succ ?_
    simp only [jalousieref01_Same.l0, rdL]
    rw [w64s i (by omega), drop_cons s i (by omega) z66, drop_cons t i (by omega) z66, decide_cons, line_ne]
    refine ev_pos (by omega) ?_
    refine ev_pos (by omega) ?_
    refine ev_pos (by omega) ?_
    by_cases e : s.getD i z66 = t.getD i z66
    · refine ev_neg (by rw [decide_eq_true e]; simp) ?_
      refine ev_cast (lsame_l0 s t hl hs d (i + 1) (by omega)) ?_
      rw [decide_eq_true e, Bool.true_and]
    · refine ev_pos (by rw [decide_eq_false e]; simp) ?_
      exact ev_some (by rw [decide_eq_false e, Bool.false_and])
theorem lsame_ev (s t : List S66) (hs : s.length ≤ 9000000000000000000) : Ev (fun k => jalousieref01_Same.f k s t) (decide (s = t)) := by
  unfold jalousieref01_Same.f
  by_cases h : s.length = t.length
  · refine ev_pos (by omega) ?_
    exact ev_cast (lsame_l0 s t h hs s.length 0 (by omega)) (by simp)
  · refine ev_neg (by omega) ?_
    exact ev_some (by rw [decide_eq_false (fun e => h (by rw [e]))])
theorem leq_l0 (s t : List S66) (hl : s.length = t.length) (hs : s.length ≤ 9000000000000000000) : ∀ (d i : Nat), i + d = s.length → Ev (fun k => api_Line_56.l0 k s t (s.length : Int) (i : Int)) (decide (s.drop i = t.drop i))
  | 0, i, h => by
    refine ev_succ ?_
    simp only [api_Line_56.l0]
    (repeat (first | refine ev_pos (by omega) ?_ | refine ev_neg (by omega) ?_))
    rw [List.drop_of_length_le (by omega), List.drop_of_length_le (by omega)]
    exact ev_some (by simp)
  | d + 1, i, h => by
    refine ev_succ ?_
    simp only [api_Line_56.l0, rdL]
    rw [w64s i (by omega), drop_cons s i (by omega) z66, drop_cons t i (by omega) z66, decide_cons, line_ne]
    refine ev_pos (by omega) ?_
    refine ev_pos (by omega) ?_
    refine ev_pos (by omega) ?_
    refine ev_pos (by omega) ?_
    by_cases e : s.getD i z66 = t.getD i z66
    · refine ev_neg (by rw [decide_eq_true e]; simp) ?_
      refine ev_cast (leq_l0 s t hl hs d (i + 1) (by omega)) ?_
      rw [decide_eq_true e, Bool.true_and]
    · refine ev_pos (by rw [decide_eq_false e]; simp) ?_
      exact ev_some (by rw [decide_eq_false e, Bool.false_and])
theorem leq_ev (s t : List S66) (hs : s.length ≤ 9000000000000000000) : Ev (fun k => api_Line_56.f k s t) (decide (s = t)) := by
  unfold api_Line_56.f
  by_cases h : s.length = t.length
  · refine ev_pos (by omega) ?_
    exact ev_cast (leq_l0 s t h hs s.length 0 (by omega)) (by simp)
  · refine ev_neg (by omega) ?_
    exact ev_some (by rw [decide_eq_false (fun e => h (by rw [e]))])
theorem edit_eq (a b : S47) : decide (a = b) = (decide (a.f0 = b.f0) && decide (a.f1 = b.f1)) := by
  by_cases h0 : a.f0 = b.f0
  · by_cases h1 : a.f1 = b.f1
    · have e : a = b := by cases a; cases b; simp at h0 h1; simp [h0, h1]
      simp [e]
    · have e : a ≠ b := fun e => h1 (by rw [e])
      simp [e, h1]
  · have e : a ≠ b := fun e => h0 (by rw [e])
    simp [e, h0]
theorem esame_l0 (s t : List S47) (hl : s.length = t.length) (hs : Fit s) : ∀ (d i : Nat), i + d = s.length → Ev (fun k => jalousieref08_Same.l0 k s t (i : Int)) (decide (s.drop i = t.drop i))
  | 0, i, h => by
    refine ev_succ ?_
    simp only [jalousieref08_Same.l0]
    (repeat (first | refine ev_pos (by omega) ?_ | refine ev_neg (by omega) ?_))
    rw [List.drop_of_length_le (by omega), List.drop_of_length_le (by omega)]
    exact ev_some (by simp)
  | d + 1, i, h => by
    have h1 := hs.1
    have hx := hs.2 _ (getD_mem (l := s) (i := i) (by omega) z47)
    refine ev_succ ?_
    simp only [jalousieref08_Same.l0, rdE]
    rw [w64s i (by omega), drop_cons s i (by omega) z47, drop_cons t i (by omega) z47, decide_cons, edit_eq]
    refine ev_pos (by omega) ?_
    refine ev_pos (by omega) ?_
    refine ev_pos (by omega) ?_
    by_cases e : (s.getD i z47).f0 = (t.getD i z47).f0
    · refine ev_pos e ?_
      refine Ev.bind (lsame_ev _ _ (by omega)) ?_
      by_cases e1 : (s.getD i z47).f1 = (t.getD i z47).f1
      · refine ev_pos (decide_eq_true e1) ?_
        refine ev_cast (esame_l0 s t hl hs d (i + 1) (by omega)) ?_
        rw [decide_eq_true e, decide_eq_true e1, Bool.true_and, Bool.true_and]
      · refine ev_neg (by rw [decide_eq_false e1]; simp) ?_
        exact ev_some (by rw [decide_eq_false e1, Bool.and_false, Bool.false_and])
    · refine ev_neg e ?_
      exact ev_some (by rw [decide_eq_false e, Bool.false_and, Bool.false_and])
theorem esame_ev (s t : List S47) (hs : Fit s) : Ev (fun k => jalousieref08_Same.f k s t) (decide (s = t)) := by
  unfold jalousieref08_Same.f
  by_cases h : s.length = t.length
  · refine ev_pos (by omega) ?_
    exact ev_cast (esame_l0 s t h hs s.length 0 (by omega)) (by simp)
  · refine ev_neg (by omega) ?_
    exact ev_some (by rw [decide_eq_false (fun e => h (by rw [e]))])
theorem fit_cons {x : S47} {s : List S47} (h : Fit (x :: s)) : Fit s := ⟨Nat.le_trans (Nat.le_succ _) h.1, fun y hy => h.2 y (List.mem_cons_of_mem _ hy)⟩
theorem eeq_all : ∀ (s t : List S47), Fit s → s.length = t.length → Ev (fun k => hunk_same.all k s t) (decide (s = t))
  | [], [], _, _ => ev_some rfl
  | [], _ :: _, _, h => by simp at h
  | _ :: _, [], _, h => by simp at h
  | x :: s, y :: t, hs, h => by
    have hx := hs.2 x (by simp)
    rw [decide_cons, edit_eq]
    simp only [hunk_same.all]
    refine Ev.bind (a := decide (x.f0 = y.f0) && decide (x.f1 = y.f1)) ?_ ?_
    · unfold hunk_same.one
      by_cases e : x.f0 = y.f0
      · refine ev_pos e (ev_cast (leq_ev _ _ (by omega)) ?_)
        rw [decide_eq_true e, Bool.true_and]
      · refine ev_neg e (ev_some ?_)
        rw [decide_eq_false e, Bool.false_and]
    · by_cases e : (decide (x.f0 = y.f0) && decide (x.f1 = y.f1)) = true
      · refine ev_pos e (ev_cast (eeq_all s t (fit_cons hs) (by simpa using h)) ?_)
        rw [e, Bool.true_and]
      · refine ev_neg e (ev_some ?_)
        rw [Bool.not_eq_true] at e
        rw [e, Bool.false_and]
theorem eeq_ev (s t : List S47) (hs : Fit s) : Ev (fun k => hunk_same.f k s t) (decide (s = t)) := by
  unfold hunk_same.f
  by_cases h : s.length = t.length
  · exact ev_pos h (eeq_all s t hs h)
  · refine ev_neg h (ev_some ?_)
    rw [decide_eq_false (fun e => h (by rw [e]))]
def FitH (s : List S44) : Prop := s.length ≤ 4398046511104 ∧ ∀ x ∈ s, Fit x.f4
/-- The lines of an edit, each one's own. -/
def one (x : S47) : List S47 := x.f1.map fun l => ⟨x.f0, [l]⟩
def single (s : List S47) : List S47 := s.flatMap one
theorem single_cons (x : S47) (s : List S47) : single (x :: s) = one x ++ single s := by simp [single]
theorem single_len (s : List S47) : (single s).length = nl s := by
  induction s with
  | nil => rfl
  | cons x t ih =>
    rw [single_cons, nl_cons, List.length_append, ih]
    simp [one]
theorem line_eta (x : S66) : (⟨x.f0, x.f1⟩ : S66) = x := rfl
theorem single_l (s : List S47) (hn : nl s ≤ 1000000000000) (hs : s.length ≤ 4398046511104) : ∀ (d i : Nat) (a : List S47), i + d = s.length → a.length + nl (s.drop i) ≤ 1000000000000 → Ev (fun k => jalousieref09_Single.l0 k s a (i : Int)) (a ++ single (s.drop i))
  | 0, i, a, h, ha => by
    refine ev_succ ?_
    simp only [jalousieref09_Single.l0]
    (repeat (first | refine ev_pos (by omega) ?_ | refine ev_neg (by omega) ?_))
    rw [List.drop_of_length_le (by omega)]
    exact ev_some (by simp [single])
  | d + 1, i, a, h, ha => by
    rw [drop_cons s i (by omega) z47] at ha ⊢
    rw [nl_cons] at ha
    refine ev_succ ?_
    simp only [jalousieref09_Single.l0]
    refine ev_pos (by omega) ?_
    have inner : ∀ (e j : Nat) (b : List S47), j + e = (s.getD i z47).f1.length → b.length + e + nl (s.drop (i + 1)) ≤ 1000000000000 → Ev (fun k => jalousieref09_Single.l1 k s b (i : Int) (j : Int)) (b ++ (((s.getD i z47).f1.drop j).map fun l => (⟨(s.getD i z47).f0, [l]⟩ : S47)) ++ single (s.drop (i + 1))) := by
      intro e
      induction e with
      | zero =>
        intro j b hj hb
        refine ev_succ ?_
        simp only [jalousieref09_Single.l1, rdE]
        (repeat (first | refine ev_pos (by omega) ?_ | refine ev_neg (by omega) ?_))
        rw [w64s i (by omega), List.drop_of_length_le (l := (s.getD i z47).f1) (by omega)]
        refine ev_cast (single_l s hn hs d (i + 1) b (by omega) (by omega)) (by simp)
      | succ e ih =>
        intro j b hj hb
        refine ev_succ ?_
        simp only [jalousieref09_Single.l1, rdE, rdL]
        (repeat (first | refine ev_pos (by omega) ?_ | refine ev_neg (by omega) ?_))
        rw [w64s j (by omega), drop_cons (s.getD i z47).f1 j (by omega) z66]
        refine ev_cast (ih (j + 1) _ (by omega) (by rw [List.length_append]; simp; omega)) (by simp)
    refine ev_cast (inner (s.getD i z47).f1.length 0 a (by omega) (by omega)) ?_
    rw [List.drop_zero, single_cons, List.append_assoc]
    rfl
theorem single_ev (s : List S47) (hn : nl s ≤ 1000000000000) (hs : s.length ≤ 4398046511104) : Ev (fun k => jalousieref09_Single.f k s) (single s) := by
  unfold jalousieref09_Single.f
  exact ev_cast (single_l s hn hs s.length 0 [] (by omega) (by simpa using hn)) (by simp)
end Go.Proofs.Ytfnbodjmmkjlcaa.H
end
section
namespace Go.Proofs.Ytfnbodjmmkjlcaa.H
open Go.RowKit Go.Proofs.YtfnbodjmmkjlcaaW.PrintWords Go.Proofs.YtfnbodjmmkjlcaaW.PrintLast Go.Proofs.YtfnbodjmmkjlcaaW.PrintMore
set_option linter.unusedVariables false
set_option linter.unusedSimpArgs false
theorem last_rd (t : List S47) (y : S47) : rd_T47 (t ++ [y]) (((t ++ [y]).length : Int) - 1) = y := by
  have e : (((t ++ [y]).length : Int) - 1) = (t.length : Int) := by simp
  rw [e, rdE, List.getD_eq_getElem?_getD]
  simp
theorem add_nil (s : List S47) (d : Int) : script_normal.add s d [] = s := by simp [script_normal.add]
theorem add_empty (d : Int) (l : List S66) (hl : l ≠ []) : script_normal.add [] d l = [⟨d, l⟩] := by
  unfold script_normal.add
  rw [if_neg (by simpa using hl), if_neg (by simp), List.nil_append]
theorem add_ne (t : List S47) (y : S47) (d : Int) (l : List S66) (hl : l ≠ []) (h : y.f0 ≠ d) : script_normal.add (t ++ [y]) d l = t ++ [y] ++ [⟨d, l⟩] := by
  unfold script_normal.add
  rw [if_neg (by simpa using hl), last_rd, if_neg (by simp [h])]
theorem add_eq (t : List S47) (y : S47) (d : Int) (l : List S66) (hl : l ≠ []) (h : y.f0 = d) : script_normal.add (t ++ [y]) d l = t ++ [⟨d, y.f1 ++ l⟩] := by
  unfold script_normal.add
  rw [if_neg (by simpa using hl), last_rd, if_pos ⟨by simp, h⟩]
  have e : (t ++ [y]).length - 1 = t.length := by simp
  rw [e, List.set_append_right _ _ (Nat.le_refl _), Nat.sub_self]
  rfl
theorem snoc_cases {α : Type} (s : List α) : s = [] ∨ ∃ t y, s = t ++ [y] := by
  rcases List.eq_nil_or_concat s with h | ⟨t, y, h⟩
  · exact .inl h
  · exact .inr ⟨t, y, by simpa using h⟩
theorem add_add (s : List S47) (d : Int) (a b : List S66) : script_normal.add (script_normal.add s d a) d b = script_normal.add s d (a ++ b) := by
  by_cases ha : a = []
  · subst ha
    rw [add_nil, List.nil_append]
  by_cases hb : b = []
  · subst hb
    rw [add_nil, List.append_nil]
  have hab : a ++ b ≠ [] := by simp [ha]
  rcases snoc_cases s with rfl | ⟨t, y, rfl⟩
  · rw [add_empty d a ha, add_empty d _ hab]
    exact add_eq [] ⟨d, a⟩ d b hb rfl
  · by_cases h : y.f0 = d
    · rw [add_eq t y d a ha h, add_eq t _ d b hb rfl, add_eq t y d _ hab h, List.append_assoc]
    · rw [add_ne t y d a ha h, add_ne t y d _ hab h, add_eq (t ++ [y]) ⟨d, a⟩ d b hb rfl]
theorem side_add (s : List S47) (d : Int) (l : List S66) (b : Int) : side (script_normal.add s d l) b = side s b ++ (if d = b then [] else l) := by
  by_cases hl : l = []
  · subst hl
    rw [add_nil]
    simp
  rcases snoc_cases s with rfl | ⟨t, y, rfl⟩
  · rw [add_empty d l hl]
    simp [side]
  · by_cases h : y.f0 = d
    · rw [add_eq t y d l hl h, side_append, side_append, side_cons, side_cons]
      by_cases hb : d = b
      · simp [side, hb, h]
      · simp [side, hb, h]
    · rw [add_ne t y d l hl h, side_append _ [_], side_cons]
      simp [side]
theorem nl_add (s : List S47) (d : Int) (l : List S66) : nl (script_normal.add s d l) = nl s + l.length := by
  by_cases hl : l = []
  · subst hl
    rw [add_nil]
    simp
  rcases snoc_cases s with rfl | ⟨t, y, rfl⟩
  · rw [add_empty d l hl]
    simp [nl]
  · by_cases h : y.f0 = d
    · rw [add_eq t y d l hl h, nl_append, nl_append, nl_cons, nl_cons]
      simp [nl]
      omega
    · rw [add_ne t y d l hl h, nl_append _ [_], nl_cons]
      simp [nl]
def adj (a b : Int) : Prop := (a = 1 ∧ (b = 2 ∨ b = 3)) ∨ (a = 2 ∧ (b = 1 ∨ b = 3)) ∨ (a = 3 ∧ b = 1)
def good (x : S47) : Prop := (x.f0 = 1 ∨ x.f0 = 2 ∨ x.f0 = 3) ∧ x.f1 ≠ []
def Nf : List S47 → Prop
  | [] => True
  | x :: t => good x ∧ (∀ y ∈ t.head?, adj x.f0 y.f0) ∧ Nf t
theorem nf_append (s t : List S47) : Nf (s ++ t) ↔ Nf s ∧ Nf t ∧ ∀ x ∈ s.getLast?, ∀ y ∈ t.head?, adj x.f0 y.f0 := by
  induction s with
  | nil => simp [Nf]
  | cons a s ih =>
    rw [List.cons_append, Nf, ih, Nf]
    cases s with
    | nil =>
      simp [Nf]
      intro _
      exact and_comm
    | cons b s =>
      rw [List.getLast?_cons_cons]
      simp only [List.cons_append, List.head?_cons]
      constructor
      · rintro ⟨h1, h2, h3, h4, h5⟩
        exact ⟨⟨h1, h2, h3⟩, h4, h5⟩
      · rintro ⟨⟨h1, h2, h3⟩, h4, h5⟩
        exact ⟨h1, h2, h3, h4, h5⟩
theorem nf_snoc (t : List S47) (y : S47) : Nf (t ++ [y]) ↔ Nf t ∧ good y ∧ ∀ x ∈ t.getLast?, adj x.f0 y.f0 := by
  rw [nf_append]
  simp [Nf]
/-- The kind of the last edit is none or one of which b may come behind. -/
theorem nf_add (s : List S47) (d : Int) (l : List S66) (hd : d = 1 ∨ d = 2 ∨ d = 3) (hs : Nf s) (ha : ∀ x ∈ s.getLast?, x.f0 = d ∨ adj x.f0 d) : Nf (script_normal.add s d l) := by
  by_cases hl : l = []
  · subst hl
    rw [add_nil]
    exact hs
  rcases snoc_cases s with rfl | ⟨t, y, rfl⟩
  · rw [add_empty d l hl]
    simp [Nf, good, hl, hd]
  · have hy := ha y (by simp)
    by_cases h : y.f0 = d
    · rw [add_eq t y d l hl h]
      rw [nf_snoc] at hs ⊢
      exact ⟨hs.1, ⟨hd, by simp [hl]⟩, fun x hx => by have := hs.2.2 x hx; rw [h] at this; exact this⟩
    · rw [add_ne t y d l hl h, nf_snoc]
      exact ⟨hs, ⟨hd, hl⟩, fun x hx => by
        simp at hx
        subst hx
        exact hy.resolve_left h⟩
theorem last_add (s : List S47) (d : Int) (l : List S66) : ∀ x ∈ (script_normal.add s d l).getLast?, (l ≠ [] ∧ x.f0 = d) ∨ (l = [] ∧ x ∈ s.getLast?) := by
  intro x hx
  by_cases hl : l = []
  · subst hl
    rw [add_nil] at hx
    exact .inr ⟨rfl, hx⟩
  refine .inl ⟨hl, ?_⟩
  rcases snoc_cases s with rfl | ⟨t, y, rfl⟩
  · rw [add_empty d l hl] at hx
    simp at hx
    rw [← hx]
  · by_cases h : y.f0 = d
    · rw [add_eq t y d l hl h] at hx
      simp at hx
      rw [← hx]
    · rw [add_ne t y d l hl h] at hx
      simp at hx
      rw [← hx]
theorem take_in {s : List S47} {w : List S66} {x : S47} (h : x.f0 = 3) : script_normal.take (s, w) x = (s, w ++ x.f1) := by
  unfold script_normal.take
  rw [if_pos h]
theorem take_out {s : List S47} {w : List S66} {x : S47} (h : x.f0 = 2) : script_normal.take (s, w) x = (script_normal.add s 2 x.f1, w) := by
  unfold script_normal.take
  rw [if_neg (by omega), if_neg (by omega), h]
theorem take_keep {s : List S47} {w : List S66} {x : S47} (h : x.f0 = 1) (hx : x.f1 ≠ []) : script_normal.take (s, w) x = (script_normal.add (script_normal.add s 3 w) 1 x.f1, []) := by
  unfold script_normal.take
  rw [if_neg (by omega), if_pos ⟨h, List.length_pos_iff.2 hx⟩, h]
theorem take_none {s : List S47} {w : List S66} {x : S47} (hx : x.f1 = []) : script_normal.take (s, w) x = (s, w) := by
  unfold script_normal.take
  split
  · rw [hx, List.append_nil]
  · rw [if_neg (by simp [hx]), hx, add_nil]
theorem fold_nf (l : List S47) (hl : allok l = true) : ∀ (s : List S47) (w : List S66), Nf s → (∀ x ∈ s.getLast?, x.f0 ≠ 3) → Nf (l.foldl script_normal.take (s, w)).1 ∧ ∀ x ∈ (l.foldl script_normal.take (s, w)).1.getLast?, x.f0 ≠ 3 := by
  induction l with
  | nil => exact fun s w h1 h2 => ⟨h1, h2⟩
  | cons x t ih =>
    intro s w h1 h2
    rw [allok_cons, Bool.and_eq_true] at hl
    have hx := of_decide_eq_true hl.1
    have h12 : ∀ y ∈ s.getLast?, y.f0 = 1 ∨ y.f0 = 2 := by
      intro y hy
      have h3 := h2 y hy
      have hg : good y := by
        rcases snoc_cases s with rfl | ⟨u, v, rfl⟩
        · simp at hy
        · simp at hy
          subst hy
          exact ((nf_snoc u v).1 h1).2.1
      rcases hg.1 with h | h | h
      · exact .inl h
      · exact .inr h
      · exact absurd h h3
    rw [List.foldl_cons]
    by_cases hx0 : x.f1 = []
    · rw [take_none hx0]
      exact ih hl.2 s w h1 h2
    by_cases a3 : x.f0 = 3
    · rw [take_in a3]
      exact ih hl.2 s _ h1 h2
    by_cases a2 : x.f0 = 2
    · rw [take_out a2]
      refine ih hl.2 _ w (nf_add s 2 _ (by omega) h1 fun y hy => ?_) fun y hy => ?_
      · rcases h12 y hy with h | h
        · exact .inr (.inl ⟨h, by omega⟩)
        · exact .inl h
      · rcases last_add _ _ _ y hy with h | h
        · omega
        · exact absurd h.1 hx0
    · have a1 : x.f0 = 1 := by omega
      rw [take_keep a1 hx0]
      have hf : Nf (script_normal.add s 3 w) := nf_add s 3 w (by omega) h1 fun y hy => .inr (by
        rcases h12 y hy with h | h
        · exact .inl ⟨h, by omega⟩
        · exact .inr (.inl ⟨h, by omega⟩))
      refine ih hl.2 _ [] (nf_add _ 1 _ (by omega) hf fun y hy => ?_) fun y hy => ?_
      · rcases last_add _ _ _ y hy with h | h
        · exact .inr (.inr (.inr ⟨h.2, rfl⟩))
        · rcases h12 y h.2 with h | h
          · exact .inl h
          · exact .inr (.inr (.inl ⟨h, by omega⟩))
      · rcases last_add _ _ _ y hy with h | h
        · omega
        · exact absurd h.1 hx0
theorem p_nf (l : List S47) (hl : allok l = true) : Nf (script_normal.p l) := by
  unfold script_normal.p script_normal.all
  obtain ⟨h1, h2⟩ := fold_nf l hl [] [] trivial (by simp)
  refine nf_add _ 3 _ (by omega) h1 fun y hy => .inr ?_
  have h3 := h2 y hy
  have hg : good y := by
    generalize (l.foldl script_normal.take ([], [])).1 = s at hy h1
    rcases snoc_cases s with rfl | ⟨u, v, rfl⟩
    · simp at hy
    · simp at hy
      subst hy
      exact ((nf_snoc u v).1 h1).2.1
  rcases hg.1 with h | h | h
  · exact .inl ⟨h, by omega⟩
  · exact .inr (.inl ⟨h, by omega⟩)
  · exact absurd h h3
theorem nf_allok : ∀ (n : List S47), Nf n → allok n = true
  | [], _ => rfl
  | x :: t, h => by
    rw [allok_cons, nf_allok t h.2.2, decide_eq_true (by have := h.1.1; omega)]
    rfl
theorem fold_sides (l : List S47) : ∀ (s : List S47) (w : List S66), side (l.foldl script_normal.take (s, w)).1 3 = side s 3 ++ side l 3 ∧ side (l.foldl script_normal.take (s, w)).1 2 ++ (l.foldl script_normal.take (s, w)).2 = side s 2 ++ w ++ side l 2 ∨ allok l = false := by
  induction l with
  | nil => intro s w; simp [side]
  | cons x t ih =>
    intro s w
    by_cases hx : 1 ≤ x.f0 ∧ x.f0 ≤ 3
    · rw [List.foldl_cons, side_cons, side_cons, allok_cons, decide_eq_true hx, Bool.true_and]
      by_cases hx0 : x.f1 = []
      · rw [take_none hx0, hx0]
        rcases ih s w with h | h
        · left
          rw [h.1, h.2]
          simp
        · exact .inr h
      by_cases a3 : x.f0 = 3
      · rw [take_in a3]
        rcases ih s (w ++ x.f1) with h | h
        · left
          rw [h.1, h.2, a3]
          simp
        · exact .inr h
      by_cases a2 : x.f0 = 2
      · rw [take_out a2]
        rcases ih (script_normal.add s 2 x.f1) w with h | h
        · left
          rw [h.1, h.2, a2, side_add, side_add]
          simp
        · exact .inr h
      · have a1 : x.f0 = 1 := by omega
        rw [take_keep a1 hx0]
        rcases ih (script_normal.add (script_normal.add s 3 w) 1 x.f1) [] with h | h
        · left
          rw [h.1, h.2, a1, side_add, side_add, side_add, side_add]
          simp
        · exact .inr h
    · right
      rw [allok_cons, decide_eq_false hx, Bool.false_and]
theorem p_side3 (l : List S47) (hl : allok l = true) : side (script_normal.p l) 3 = side l 3 := by
  unfold script_normal.p script_normal.all
  rcases fold_sides l [] [] with h | h
  · rw [side_add, h.1]
    simp [side]
  · rw [hl] at h
    cases h
theorem p_side2 (l : List S47) (hl : allok l = true) : side (script_normal.p l) 2 = side l 2 := by
  unfold script_normal.p script_normal.all
  rcases fold_sides l [] [] with h | h
  · rw [side_add, if_neg (by omega), h.2]
    simp [side]
  · rw [hl] at h
    cases h
theorem fold_nl (l : List S47) : ∀ (s : List S47) (w : List S66), nl (l.foldl script_normal.take (s, w)).1 + (l.foldl script_normal.take (s, w)).2.length = nl s + w.length + nl l := by
  induction l with
  | nil => intro s w; simp [nl]
  | cons x t ih =>
    intro s w
    rw [List.foldl_cons, nl_cons]
    by_cases hx0 : x.f1 = []
    · rw [take_none hx0, hx0, ih]
      simp
    by_cases a3 : x.f0 = 3
    · rw [take_in a3, ih]
      simp
      omega
    by_cases a1 : x.f0 = 1
    · rw [take_keep a1 hx0, ih, nl_add, nl_add]
      simp
      omega
    · have e : script_normal.take (s, w) x = (script_normal.add s x.f0 x.f1, w) := by
        unfold script_normal.take
        rw [if_neg a3, if_neg (by simp [a1])]
      rw [e, ih, nl_add]
      omega
theorem p_nl (l : List S47) : nl (script_normal.p l) = nl l := by
  unfold script_normal.p script_normal.all
  have := fold_nl l [] []
  rw [nl_add, this]
  simp [nl]
theorem nf_len : ∀ (n : List S47), Nf n → n.length ≤ nl n
  | [], _ => Nat.le_refl _
  | x :: t, h => by
    have := nf_len t h.2.2
    have := List.length_pos_iff.2 h.1.2
    rw [nl_cons, List.length_cons]
    omega
theorem lay_add (s : List S47) (d : Int) (l : List S66) (h : ∀ x ∈ s.getLast?, x.f0 ≠ d) : script_normal.add s d l = jalousieref08_lay.p s d l := by
  unfold jalousieref08_lay.p
  by_cases hl : l = []
  · subst hl
    rw [add_nil]
    rfl
  rw [if_neg (by simpa using hl)]
  rcases snoc_cases s with rfl | ⟨t, y, rfl⟩
  · rw [add_empty d l hl]
    rfl
  · rw [add_ne t y d l hl (h y (by simp))]
theorem lay_nil (s : List S47) (d : Int) : jalousieref08_lay.p s d [] = s := rfl
theorem lay_last (s : List S47) (d : Int) (l : List S66) : ∀ x ∈ (jalousieref08_lay.p s d l).getLast?, (l ≠ [] ∧ x.f0 = d) ∨ (l = [] ∧ x ∈ s.getLast?) := by
  intro x hx
  unfold jalousieref08_lay.p at hx
  by_cases hl : l = []
  · subst hl
    exact .inr ⟨rfl, hx⟩
  · rw [if_neg (by simpa using hl)] at hx
    simp at hx
    exact .inl ⟨hl, by rw [← hx]⟩
theorem lay_more (s : List S47) (d : Int) (l m : List S66) (hl : l ≠ []) : script_normal.add (jalousieref08_lay.p s d l) d m = jalousieref08_lay.p s d (l ++ m) := by
  unfold jalousieref08_lay.p
  by_cases hm : m = []
  · subst hm
    rw [add_nil, List.append_nil]
  rw [if_neg (by simpa using hl), if_neg (by simp [hl])]
  exact add_eq s ⟨d, l⟩ d m hm rfl
/-- What the document's state says of the program's. -/
structure Rel (q : jalousieref08_Normal.Q) (s : List S47) (w : List S66) : Prop where
  hs : s = jalousieref08_lay.p (jalousieref08_lay.p q.out 1 q.keep) 2 q.gone
  hw : w = q.made
  hk : q.out ≠ [] → q.keep ≠ []
  ho : ∀ x ∈ q.out.getLast?, x.f0 = 2 ∨ x.f0 = 3
theorem rel_last {q : jalousieref08_Normal.Q} {s : List S47} {w : List S66} (h : Rel q s w) : ∀ x ∈ s.getLast?, (q.gone ≠ [] ∧ x.f0 = 2) ∨ (q.gone = [] ∧ q.keep ≠ [] ∧ x.f0 = 1) := by
  intro x hx
  rw [h.hs] at hx
  rcases lay_last _ _ _ x hx with h1 | ⟨h1, h2⟩
  · exact .inl h1
  · rcases lay_last _ _ _ x h2 with h3 | ⟨h3, h4⟩
    · exact .inr ⟨h1, h3⟩
    · have : q.out ≠ [] := by
        intro e
        rw [e] at h4
        simp at h4
      exact absurd h3 (h.hk this)
theorem rel_fin {q : jalousieref08_Normal.Q} {s : List S47} {w : List S66} (h : Rel q s w) : script_normal.add s 3 w = jalousieref08_Normal.fin q := by
  unfold jalousieref08_Normal.fin
  rw [lay_add s 3 w (fun x hx => by rcases rel_last h x hx with h1 | h1 <;> omega), h.hs, h.hw]
theorem rel_step {q : jalousieref08_Normal.Q} {s : List S47} {w : List S66} (x : S47) (hx : 1 ≤ x.f0 ∧ x.f0 ≤ 3) (h : Rel q s w) : Rel (jalousieref08_Normal.add (jalousieref08_Normal.pre q x) x) (script_normal.take (s, w) x).1 (script_normal.take (s, w) x).2 := by
  by_cases hx0 : x.f1 = []
  · rw [take_none hx0]
    unfold jalousieref08_Normal.pre
    rw [if_neg (by simp [hx0])]
    unfold jalousieref08_Normal.add
    rw [hx0]
    simp only [List.append_nil]
    repeat' split
    all_goals exact ⟨h.hs, h.hw, h.hk, h.ho⟩
  by_cases a3 : x.f0 = 3
  · rw [take_in a3]
    unfold jalousieref08_Normal.pre
    rw [if_neg (by omega)]
    unfold jalousieref08_Normal.add
    rw [if_neg (by omega), if_neg (by omega), if_pos a3]
    exact ⟨h.hs, by rw [h.hw], h.hk, h.ho⟩
  by_cases a2 : x.f0 = 2
  · rw [take_out a2]
    unfold jalousieref08_Normal.pre
    rw [if_neg (by omega)]
    unfold jalousieref08_Normal.add
    rw [if_neg (by omega), if_pos a2]
    refine ⟨?_, h.hw, h.hk, h.ho⟩
    show script_normal.add s 2 x.f1 = _
    by_cases hg : q.gone = []
    · rw [lay_add s 2 _ (fun y hy => by rcases rel_last h y hy with h1 | h1; exact absurd hg h1.1; omega), h.hs, hg]
      rfl
    · rw [h.hs, lay_more _ _ _ _ hg]
  · have a1 : x.f0 = 1 := by omega
    rw [take_keep a1 hx0]
    unfold jalousieref08_Normal.pre
    by_cases hgm : 0 < q.gone.length + q.made.length
    · rw [if_pos ⟨a1, List.length_pos_iff.2 hx0, hgm⟩]
      unfold jalousieref08_Normal.add
      rw [if_pos a1]
      have hlast : ∀ y ∈ (jalousieref08_Normal.fin q).getLast?, y.f0 = 2 ∨ y.f0 = 3 := by
        intro y hy
        unfold jalousieref08_Normal.fin at hy
        rcases lay_last _ _ _ y hy with h1 | ⟨h1, h2⟩
        · exact .inr h1.2
        · rcases lay_last _ _ _ y h2 with h3 | ⟨h3, h4⟩
          · exact .inl h3.2
          · rw [h1, h3] at hgm
            simp at hgm
      refine ⟨?_, rfl, fun _ => by simpa using hx0, hlast⟩
      show script_normal.add (script_normal.add s 3 w) 1 x.f1 = _
      rw [rel_fin h, lay_add _ 1 _ (fun y hy => by rcases hlast y hy with h1 | h1 <;> omega)]
      rfl
    · rw [if_neg (by omega)]
      unfold jalousieref08_Normal.add
      rw [if_pos a1]
      have hg : q.gone = [] := List.eq_nil_of_length_eq_zero (by omega)
      have hm : q.made = [] := List.eq_nil_of_length_eq_zero (by omega)
      refine ⟨?_, hm.symm, fun _ => by simp [hx0], h.ho⟩
      show script_normal.add (script_normal.add s 3 w) 1 x.f1 = _
      rw [h.hw, hm, add_nil, h.hs, hg, lay_nil, lay_nil]
      show script_normal.add (jalousieref08_lay.p q.out 1 q.keep) 1 x.f1 = jalousieref08_lay.p q.out 1 (q.keep ++ x.f1)
      by_cases hk : q.keep = []
      · have ho : q.out = [] := Classical.byContradiction fun e => h.hk e hk
        rw [hk, ho, lay_nil, List.nil_append, lay_add [] 1 _ (by simp)]
      · exact lay_more _ _ _ _ hk
theorem rel_fold (l : List S47) (hl : allok l = true) : ∀ (q : jalousieref08_Normal.Q) (s : List S47) (w : List S66), Rel q s w → Rel (l.foldl (fun q x => jalousieref08_Normal.add (jalousieref08_Normal.pre q x) x) q) (l.foldl script_normal.take (s, w)).1 (l.foldl script_normal.take (s, w)).2 := by
  induction l with
  | nil => exact fun _ _ _ h => h
  | cons x t ih =>
    intro q s w h
    rw [allok_cons, Bool.and_eq_true] at hl
    rw [List.foldl_cons, List.foldl_cons]
    exact ih hl.2 _ _ _ (rel_step x (of_decide_eq_true hl.1) h)
/-- THE PROGRAM'S NORMAL FORM IS THE DOCUMENT'S. -/
theorem fin_p (l : List S47) (hl : allok l = true) : jalousieref08_Normal.fin (jalousieref08_Normal.all l) = script_normal.p l := by
  unfold script_normal.p script_normal.all jalousieref08_Normal.all
  exact (rel_fin (rel_fold l hl ⟨[], [], [], []⟩ [] [] ⟨rfl, rfl, fun h => absurd rfl h, by simp⟩)).symm
/-- The normal form, and what is wrong. -/
def nrm (s : List S47) : List S47 × Int := if chk s = 0 then (script_normal.p s, 0) else ([], chk s)
theorem nrm_ev (s : List S47) (hf : Fit s) : Ev (fun k => script_Normal.f k s) (nrm s) := by
  unfold script_Normal.f nrm
  refine Ev.bind (chk_ev s hf) ?_
  by_cases h : chk s = 0
  · refine ev_pos h ?_
    rw [if_pos h]
    obtain ⟨h1, h2, h3⟩ := chk_zero.1 h
    exact ev_bind (a := script_normal.p s) (by unfold script_normal.f; rw [if_pos ⟨by omega, by rw [nl_lines]; omega⟩]) (ev_some rfl)
  · refine ev_neg h ?_
    rw [if_neg h]
    exact ev_some rfl
theorem rnrm_ev (s : List S47) (hf : Fit s) : Ev (fun k => jalousieref08_Normal.f k s) (nrm s) := by
  unfold jalousieref08_Normal.f nrm
  refine Ev.bind (rchk_ev s hf) ?_
  by_cases h : chk s = 0
  · refine ev_pos h ?_
    rw [if_pos h]
    obtain ⟨h1, h2, h3⟩ := chk_zero.1 h
    refine ev_pos ⟨by omega, ?_⟩ (ev_some ?_)
    · have : (s.map (fun e => e.f1.length)).sum = nl s := rfl
      omega
    · rw [fin_p s h3]
  · refine ev_neg h ?_
    rw [if_neg h]
    exact ev_some rfl
end Go.Proofs.Ytfnbodjmmkjlcaa.H
end
section
namespace Go.Proofs.Ytfnbodjmmkjlcaa.H
open Go.RowKit Go.Proofs.YtfnbodjmmkjlcaaW.PrintWords Go.Proofs.YtfnbodjmmkjlcaaW.PrintLast Go.Proofs.YtfnbodjmmkjlcaaW.PrintMore
set_option linter.unusedVariables false
set_option linter.unusedSimpArgs false
/-- Is a hunk right, but for where it stands? -/
def rightB (h : S44) : Bool := decide (chk h.f4 = 0) && decide (script_normal.p h.f4 = h.f4) && decide (0 < chg h.f4) && decide (((side h.f4 3).length : Int) = h.f1) && decide (((side h.f4 2).length : Int) = h.f3) && decide (h.f1 ≤ 400) && decide (h.f3 ≤ 400)
theorem right_iff (h : S44) : rightB h = true ↔ chk h.f4 = 0 ∧ script_normal.p h.f4 = h.f4 ∧ 0 < chg h.f4 ∧ ((side h.f4 3).length : Int) = h.f1 ∧ ((side h.f4 2).length : Int) = h.f3 ∧ h.f1 ≤ 400 ∧ h.f3 ≤ 400 := by
  unfold rightB
  simp only [Bool.and_eq_true, decide_eq_true_eq, and_assoc]
/-- Where it stands, behind what came ahead. -/
def posB (a b : Int) (h : S44) : Bool := decide (0 ≤ h.f0 ∧ h.f0 ≤ 400) && decide (0 ≤ h.f2 ∧ h.f2 ≤ 400) && decide (a ≤ h.f0) && decide (h.f0 - a = h.f2 - b)
theorem pos_iff (a b : Int) (h : S44) : posB a b h = true ↔ (0 ≤ h.f0 ∧ h.f0 ≤ 400) ∧ (0 ≤ h.f2 ∧ h.f2 ≤ 400) ∧ a ≤ h.f0 ∧ h.f0 - a = h.f2 - b := by
  unfold posB
  simp only [Bool.and_eq_true, decide_eq_true_eq, and_assoc]
theorem far_pos (a b : Int) (h : S44) : hunk_Check.far a b h.f0 h.f2 = !posB a b h := rfl
def chkA : List S44 → Int → Int → Int
  | [], _, _ => 0
  | h :: t, a, b => if (rightB h && posB a b h) = true then chkA t (h.f0 + h.f1) (h.f2 + h.f3) else 3
def anyLim (l : List S44) : Bool := l.any fun h => decide (chk h.f4 = 4)
/-- What is wrong with hunks. -/
def chkH (l : List S44) : Int := if 400 < l.length then 4 else if anyLim l = true then 4 else chkA l 0 0
theorem within_ev (n : Int) : hunk_within.f n = some (decide (0 ≤ n ∧ n ≤ 400)) := hunk_Check.within_eq n
theorem right_ev (h : S44) (hf : Fit h.f4) : Ev (fun k => hunk_right.f k h.f0 h.f1 h.f2 h.f3 h.f4) (rightB h) := by
  unfold hunk_right.f
  refine Ev.bind (nrm_ev _ hf) (Ev.bind (sides_ev _ hf) ?_)
  unfold nrm sds
  by_cases hc : chk h.f4 = 0
  · rw [if_pos hc, if_pos hc]
    obtain ⟨h1, h2, h3⟩ := chk_zero.1 hc
    have hn : nl (script_normal.p h.f4) = nl h.f4 := p_nl _
    have hlen := nf_len _ (p_nf h.f4 h3)
    have hfp : Fit (script_normal.p h.f4) := ⟨by omega, fun x hx => by
      have hx2 : x.f1.length ≤ nl (script_normal.p h.f4) := by
        generalize script_normal.p h.f4 = s at hx
        induction s with
        | nil => cases hx
        | cons y t ih =>
          rw [nl_cons]
          rcases List.mem_cons.1 hx with rfl | hx
          · omega
          · have := ih hx
            omega
      omega⟩
    refine ev_pos rfl (Ev.bind (eeq_ev _ _ hfp) ?_)
    by_cases e1 : script_normal.p h.f4 = h.f4
    · refine ev_pos (decide_eq_true e1) (Ev.bind (chg_ev (script_normal.p h.f4) (by omega) (by omega)) ?_)
      rw [e1]
      by_cases e2 : 0 < chg h.f4
      · refine ev_pos (by omega) ?_
        by_cases e3 : ((side h.f4 3).length : Int) = h.f1
        · refine ev_pos e3 ?_
          by_cases e4 : ((side h.f4 2).length : Int) = h.f3
          · refine ev_pos e4 (ev_bind (within_ev _) ?_)
            by_cases e5 : h.f1 ≤ 400
            · refine ev_pos (decide_eq_true ⟨by omega, e5⟩) (ev_bind (within_ev _) (ev_some ?_))
              unfold rightB
              rw [decide_eq_true hc, decide_eq_true e1, decide_eq_true e2, decide_eq_true e3, decide_eq_true e4, decide_eq_true e5]
              by_cases e6 : h.f3 ≤ 400
              · rw [decide_eq_true e6, decide_eq_true ⟨by omega, e6⟩]
                rfl
              · rw [decide_eq_false e6, decide_eq_false (by omega)]
                rfl
            · refine ev_neg (by simp; omega) (ev_some ?_)
              unfold rightB
              rw [decide_eq_false e5]
              simp
          · refine ev_neg e4 (ev_some ?_)
            unfold rightB
            rw [decide_eq_false e4]
            simp
        · refine ev_neg e3 (ev_some ?_)
          unfold rightB
          rw [decide_eq_false e3]
          simp
      · refine ev_neg (by omega) (ev_some ?_)
        unfold rightB
        rw [decide_eq_false e2]
        simp
    · refine ev_neg (by rw [decide_eq_false e1]; simp) (ev_some ?_)
      unfold rightB
      rw [decide_eq_false e1]
      simp
  · rw [if_neg hc, if_neg hc]
    refine ev_neg hc (ev_some ?_)
    unfold rightB
    rw [decide_eq_false hc]
    simp
theorem fitH_cons {h : S44} {t : List S44} (hf : FitH (h :: t)) : FitH t := ⟨Nat.le_trans (Nat.le_succ _) hf.1, fun x hx => hf.2 x (List.mem_cons_of_mem _ hx)⟩
theorem has_ev : ∀ (l : List S44), FitH l → Ev (fun k => hunk_Check.has k l) (anyLim l)
  | [], _ => ev_some rfl
  | h :: t, hf => by
    simp only [hunk_Check.has]
    refine Ev.bind (chk_ev _ (hf.2 h (by simp))) ?_
    by_cases e : chk h.f4 = 4
    · refine ev_pos e (ev_some ?_)
      simp [anyLim, e]
    · refine ev_neg e (ev_cast (has_ev t (fitH_cons hf)) ?_)
      simp [anyLim, e]
theorem all_ev : ∀ (l : List S44) (a b : Int), FitH l → 0 ≤ a → a ≤ 800 → 0 ≤ b → b ≤ 800 → Ev (fun k => hunk_Check.all k l a b) (chkA l a b)
  | [], _, _, _, _, _, _, _ => ev_some rfl
  | h :: t, a, b, hf, h1, h2, h3, h4 => by
    simp only [hunk_Check.all, chkA]
    refine ev_pos ⟨h1, h2, h3, h4⟩ (Ev.bind (right_ev h (hf.2 h (by simp))) ?_)
    by_cases e : rightB h = true
    · refine ev_neg (by rw [e]; simp) ?_
      rw [far_pos]
      by_cases e2 : posB a b h = true
      · obtain ⟨_, _, _, h5, h6, h7, h8⟩ := (right_iff h).1 e
        obtain ⟨h9, h10, _⟩ := (pos_iff a b h).1 e2
        refine ev_neg (by rw [e2]; simp) (ev_pos (by omega) ?_)
        refine ev_cast (all_ev t _ _ (fitH_cons hf) (by omega) (by omega) (by omega) (by omega)) ?_
        rw [if_pos (by rw [e, e2]; rfl)]
      · refine ev_pos (by simp [e2]) (ev_some ?_)
        rw [if_neg (by simp [e2])]
    · refine ev_pos (by simpa using e) (ev_some ?_)
      rw [if_neg (by simp [e])]
theorem hcheck_ev (l : List S44) (hf : FitH l) : Ev (fun k => hunk_Check.f k l) (chkH l) := by
  unfold hunk_Check.f chkH
  by_cases h : 400 < l.length
  · exact ev_pos h (ev_some (by rw [if_pos h]))
  · refine ev_neg h (Ev.bind (has_ev l hf) ?_)
    rw [if_neg h]
    by_cases e : anyLim l = true
    · exact ev_pos e (ev_some (by rw [if_pos e]))
    · refine ev_neg e ?_
      rw [if_neg e]
      exact all_ev l 0 0 hf (by omega) (by omega) (by omega) (by omega)
theorem rc_l0 (l : List S44) (hf : FitH l) (r : Int) (hr : anyLim l = false → Ev (fun k => jalousieref09_Check.l1 k l 0) r) : ∀ (d i : Nat), i + d = l.length → anyLim (l.take i) = false → Ev (fun k => jalousieref09_Check.l0 k l (i : Int)) (if anyLim l = true then 4 else r)
  | 0, i, h, hp => by
    refine ev_succ ?_
    simp only [jalousieref09_Check.l0]
    have := hf.1
    rw [List.take_of_length_le (by omega)] at hp
    (repeat (first | refine ev_pos (by omega) ?_ | refine ev_neg (by omega) ?_))
    rw [if_neg (by rw [hp]; simp)]
    exact hr hp
  | d + 1, i, h, hp => by
    have h1 := hf.1
    refine ev_succ ?_
    simp only [jalousieref09_Check.l0, rdH]
    (repeat (first | refine ev_pos (by omega) ?_ | refine ev_neg (by omega) ?_))
    have hm := getD_mem (l := l) (i := i) (by omega) z44
    refine Ev.bind (rchk_ev _ (hf.2 _ hm)) ?_
    by_cases e : chk (l.getD i z44).f4 = 4
    · refine ev_pos e (ev_some ?_)
      rw [if_pos]
      unfold anyLim
      rw [List.any_eq_true]
      exact ⟨_, hm, decide_eq_true e⟩
    · refine ev_neg e ?_
      rw [w64s i (by omega)]
      refine rc_l0 l hf r hr d (i + 1) (by omega) ?_
      rw [take_snoc l i (by omega) z44]
      unfold anyLim at hp ⊢
      rw [List.any_append, hp]
      simp only [List.any_cons, List.any_nil, decide_eq_false e, Bool.or_false]
def endO (l : List S44) (i : Nat) : Int := if i = 0 then 0 else (l.getD (i - 1) z44).f0 + (l.getD (i - 1) z44).f1
def endN (l : List S44) (i : Nat) : Int := if i = 0 then 0 else (l.getD (i - 1) z44).f2 + (l.getD (i - 1) z44).f3
theorem rc_j3 (l : List S44) (i : Nat) (hi : i < l.length) (hl : l.length ≤ 4398046511104) (hp : 0 ≤ endO l i ∧ endO l i ≤ 800 ∧ 0 ≤ endN l i ∧ endN l i ≤ 800) (h : S44) (bad : Bool) (hb : bad = false → (0 ≤ h.f0 ∧ h.f0 ≤ 400) ∧ (0 ≤ h.f2 ∧ h.f2 ≤ 400)) (r : Int)
    (hr : bad = false → endO l i ≤ h.f0 → h.f0 - endO l i = h.f2 - endN l i → Ev (fun k => jalousieref09_Check.l1 k l ((i + 1 : Nat) : Int)) r) :
    Ev (fun k => jalousieref09_Check.j3 k l (i : Int) bad h.f0 h.f1 h.f2 h.f3 h.f4) (if bad = true then 3 else if endO l i ≤ h.f0 ∧ h.f0 - endO l i = h.f2 - endN l i then r else 3) := by
  refine ev_succ ?_
  simp only [jalousieref09_Check.j3]
  by_cases e : bad = true
  · refine ev_pos e (ev_some ?_)
    rw [if_pos e]
  · refine ev_neg e ?_
    rw [if_neg e]
    have hb' := hb (by simpa using e)
    have hr' := hr (by simpa using e)
    rw [w64s i (by omega)]
    by_cases h0 : i = 0
    · subst h0
      unfold endO endN at hp hr' ⊢
      rw [if_pos rfl] at hp hr' ⊢
      simp only [if_true] at hr' ⊢
      refine ev_neg (by simp) ?_
      rw [w64i (h.f0 - 0) (by omega) (by omega), w64i (h.f2 - 0) (by omega) (by omega)]
      refine ev_neg (by omega) ?_
      by_cases e2 : h.f0 - 0 = h.f2 - 0
      · refine ev_pos e2 ?_
        rw [if_pos ⟨by omega, by omega⟩]
        exact hr' (by omega) (by omega)
      · refine ev_neg e2 (ev_some ?_)
        rw [if_neg (by omega)]
    · have hw : wrap64 ((i : Int) - 1) = ((i - 1 : Nat) : Int) := by
        unfold wrap64
        omega
      have eO : endO l i = (l.getD (i - 1) z44).f0 + (l.getD (i - 1) z44).f1 := by unfold endO; rw [if_neg h0]
      have eN : endN l i = (l.getD (i - 1) z44).f2 + (l.getD (i - 1) z44).f3 := by unfold endN; rw [if_neg h0]
      rw [hw]
      simp only [rdH]
      rw [← eO, ← eN]
      rw [w64i (endO l i) (by omega) (by omega), w64i (endN l i) (by omega) (by omega), w64i (h.f0 - endO l i) (by omega) (by omega), w64i (h.f2 - endN l i) (by omega) (by omega)]
      refine ev_pos (by omega) (ev_pos (by omega) (ev_pos (by omega) ?_))
      by_cases e1 : h.f0 < endO l i
      · refine ev_pos e1 (ev_some ?_)
        rw [if_neg (by omega)]
      · refine ev_neg e1 ?_
        by_cases e2 : h.f0 - endO l i = h.f2 - endN l i
        · refine ev_pos e2 ?_
          rw [if_pos ⟨by omega, e2⟩]
          exact hr' (by omega) e2
        · refine ev_neg e2 (ev_some ?_)
          rw [if_neg (by omega)]
theorem j3_true (l : List S44) (i : Int) (a b c d : Int) (s : List S47) : Ev (fun k => jalousieref09_Check.j3 k l i true a b c d s) 3 := by
  refine ev_succ ?_
  simp only [jalousieref09_Check.j3]
  exact ev_pos trivial (ev_some rfl)
theorem j2_true (l : List S44) (i : Int) (a b c d : Int) (n s : List S47) : Ev (fun k => jalousieref09_Check.j2 k l i n true a b c d s) 3 := by
  refine ev_succ ?_
  simp only [jalousieref09_Check.j2]
  exact ev_pos trivial (ev_some rfl)
/-- All that is asked of a hunk. -/
def okH (a b : Int) (h : S44) : Prop := (chk h.f4 = 0 ∧ script_normal.p h.f4 = h.f4 ∧ 0 < chg h.f4 ∧ ((side h.f4 3).length : Int) = h.f1 ∧ ((side h.f4 2).length : Int) = h.f3 ∧ h.f1 ≤ 400 ∧ h.f3 ≤ 400) ∧ (0 ≤ h.f0 ∧ h.f0 ≤ 400) ∧ (0 ≤ h.f2 ∧ h.f2 ≤ 400) ∧ a ≤ h.f0 ∧ h.f0 - a = h.f2 - b
theorem okH_iff (a b : Int) (h : S44) : (rightB h && posB a b h) = true ↔ okH a b h := by
  rw [Bool.and_eq_true, right_iff, pos_iff]
  rfl
theorem chkA_bad {a b : Int} {h : S44} {t : List S44} (hn : ¬ okH a b h) : (3 : Int) = chkA (h :: t) a b := by
  rw [chkA, if_neg]
  rw [okH_iff]
  exact hn
theorem chkA_ok {a b : Int} {h : S44} {t : List S44} (hn : okH a b h) : chkA t (h.f0 + h.f1) (h.f2 + h.f3) = chkA (h :: t) a b := by
  rw [chkA, if_pos ((okH_iff a b h).2 hn)]
theorem rc_l1 (l : List S44) (hf : FitH l) : ∀ (d i : Nat), i + d = l.length → (0 ≤ endO l i ∧ endO l i ≤ 800 ∧ 0 ≤ endN l i ∧ endN l i ≤ 800) → Ev (fun k => jalousieref09_Check.l1 k l (i : Int)) (chkA (l.drop i) (endO l i) (endN l i))
  | 0, i, h, hp => by
    refine ev_succ ?_
    simp only [jalousieref09_Check.l1]
    have := hf.1
    (repeat (first | refine ev_pos (by omega) ?_ | refine ev_neg (by omega) ?_))
    rw [List.drop_of_length_le (by omega)]
    exact ev_some rfl
  | d + 1, i, h, hp => by
    have h1 := hf.1
    have hm := hf.2 _ (getD_mem (l := l) (i := i) (by omega) z44)
    rw [drop_cons l i (by omega) z44]
    have eO : endO l (i + 1) = (l.getD i z44).f0 + (l.getD i z44).f1 := by unfold endO; rw [if_neg (by omega)]; rfl
    have eN : endN l (i + 1) = (l.getD i z44).f2 + (l.getD i z44).f3 := by unfold endN; rw [if_neg (by omega)]; rfl
    have ih := rc_l1 l hf d (i + 1) (by omega)
    rw [eO, eN] at ih
    refine ev_succ ?_
    simp only [jalousieref09_Check.l1, rdH]
    (repeat (first | refine ev_pos (by omega) ?_ | refine ev_neg (by omega) ?_))
    generalize l.getD i z44 = x at hm ih ⊢
    have hi : i < l.length := by omega
    refine Ev.bind (rnrm_ev _ hm) ?_
    unfold nrm
    by_cases hc : chk x.f4 = 0
    · rw [if_pos hc]
      obtain ⟨c1, c2, c3⟩ := chk_zero.1 hc
      have hn : nl (script_normal.p x.f4) = nl x.f4 := p_nl _
      have hlen := nf_len _ (p_nf x.f4 c3)
      have hfp : Fit (script_normal.p x.f4) := ⟨by omega, fun y hy => by
        have hy2 : y.f1.length ≤ nl (script_normal.p x.f4) := by
          generalize script_normal.p x.f4 = s at hy
          induction s with
          | nil => cases hy
          | cons z t ihz =>
            rw [nl_cons]
            rcases List.mem_cons.1 hy with rfl | hy
            · omega
            · have := ihz hy
              omega
        omega⟩
      refine ev_pos rfl (Ev.bind (esame_ev (script_normal.p x.f4) _ hfp) ?_)
      by_cases e1 : script_normal.p x.f4 = x.f4
      · refine ev_pos (decide_eq_true e1) (Ev.bind (rchg_ev (script_normal.p x.f4) (by omega) (by omega)) ?_)
        rw [e1]
        by_cases e2 : 0 < chg x.f4
        · rw [show (((chg x.f4 : Nat) : Int) == 0) = false by rw [beq_eq_false_iff_ne]; omega]
          refine ev_succ ?_
          simp only [jalousieref09_Check.j2]
          refine ev_neg (by simp) (Ev.bind (rsides_ev _ hm) ?_)
          unfold sds
          rw [if_pos hc]
          by_cases e3 : x.f1 = ((side x.f4 3).length : Int)
          · refine ev_pos e3 ?_
            by_cases e4 : x.f3 = ((side x.f4 2).length : Int)
            · refine ev_pos e4 ?_
              by_cases e5 : x.f1 > 400
              · exact ev_pos e5 (ev_cast (j3_true _ _ _ _ _ _ _) (chkA_bad (fun ho => by have := ho.1.2.2.2.2.2.1; omega)))
              · refine ev_neg e5 ?_
                by_cases e6 : x.f3 > 400
                · exact ev_pos e6 (ev_cast (j3_true _ _ _ _ _ _ _) (chkA_bad (fun ho => by have := ho.1.2.2.2.2.2.2; omega)))
                · refine ev_neg e6 ?_
                  by_cases e7 : x.f0 < 0
                  · exact ev_pos e7 (ev_cast (j3_true _ _ _ _ _ _ _) (chkA_bad (fun ho => by have := ho.2.1.1; omega)))
                  · refine ev_neg e7 ?_
                    by_cases e8 : x.f0 > 400
                    · exact ev_pos e8 (ev_cast (j3_true _ _ _ _ _ _ _) (chkA_bad (fun ho => by have := ho.2.1.2; omega)))
                    · refine ev_neg e8 ?_
                      by_cases e9 : x.f2 < 0
                      · exact ev_pos e9 (ev_cast (j3_true _ _ _ _ _ _ _) (chkA_bad (fun ho => by have := ho.2.2.1.1; omega)))
                      · refine ev_neg e9 ?_
                        by_cases e10 : x.f2 > 400
                        · rw [decide_eq_true e10]
                          exact ev_cast (j3_true _ _ _ _ _ _ _) (chkA_bad (fun ho => by have := ho.2.2.1.2; omega))
                        · rw [decide_eq_false e10]
                          refine ev_cast (rc_j3 l i hi h1 hp x false (fun _ => ⟨⟨by omega, by omega⟩, by omega, by omega⟩) _ (fun _ _ _ => ih ⟨by omega, by omega, by omega, by omega⟩)) ?_
                          rw [if_neg (by simp)]
                          by_cases e11 : endO l i ≤ x.f0 ∧ x.f0 - endO l i = x.f2 - endN l i
                          · rw [if_pos e11]
                            exact chkA_ok ⟨⟨hc, e1, e2, e3.symm, e4.symm, by omega, by omega⟩, ⟨by omega, by omega⟩, ⟨by omega, by omega⟩, e11⟩
                          · rw [if_neg e11]
                            exact chkA_bad (fun ho => e11 ho.2.2.2)
            · exact ev_neg e4 (ev_cast (j3_true _ _ _ _ _ _ _) (chkA_bad (fun ho => e4 ho.1.2.2.2.2.1.symm)))
          · exact ev_neg e3 (ev_cast (j3_true _ _ _ _ _ _ _) (chkA_bad (fun ho => e3 ho.1.2.2.2.1.symm)))
        · rw [show (((chg x.f4 : Nat) : Int) == 0) = true by rw [beq_iff_eq]; omega]
          exact ev_cast (j2_true _ _ _ _ _ _ _ _) (chkA_bad (fun ho => e2 ho.1.2.2.1))
      · refine ev_neg (by rw [decide_eq_false e1]; simp) ?_
        exact ev_cast (j2_true _ _ _ _ _ _ _ _) (chkA_bad (fun ho => e1 ho.1.2.1))
    · rw [if_neg hc]
      refine ev_neg hc ?_
      exact ev_cast (j2_true _ _ _ _ _ _ _ _) (chkA_bad (fun ho => hc ho.1.1))
theorem rcheck_ev (l : List S44) (hf : FitH l) : Ev (fun k => jalousieref09_Check.f k l) (chkH l) := by
  unfold jalousieref09_Check.f chkH
  by_cases h : 400 < l.length
  · exact ev_pos (by omega) (ev_some (by rw [if_pos h]))
  · refine ev_neg (by omega) ?_
    rw [if_neg h]
    have h1 := rc_l1 l hf l.length 0 (by omega) ⟨by simp [endO], by simp [endO], by simp [endN], by simp [endN]⟩
    rw [List.drop_zero, show endO l 0 = 0 from rfl, show endN l 0 = 0 from rfl] at h1
    exact rc_l0 l hf _ (fun _ => h1) l.length 0 (by omega) (by simp [anyLim])
end Go.Proofs.Ytfnbodjmmkjlcaa.H
end
section
namespace Go.Proofs.Ytfnbodjmmkjlcaa.H
open Go.RowKit Go.Proofs.YtfnbodjmmkjlcaaW.PrintWords Go.Proofs.YtfnbodjmmkjlcaaW.PrintLast Go.Proofs.YtfnbodjmmkjlcaaW.PrintMore
set_option linter.unusedVariables false
set_option linter.unusedSimpArgs false
/-- The edits of a whole text, before they are a normal form; none: the hunks do not fit. -/
def whl (A : List S66) : List S44 → Nat → List S47 → Option (List S47)
  | [], x, out => some (out ++ [⟨1, A.drop x⟩])
  | h :: t, x, out => if h.f0 + h.f1 ≤ (A.length : Int) ∧ side h.f4 3 = (A.take (h.f0 + h.f1).toNat).drop h.f0.toNat then whl A t (h.f0 + h.f1).toNat (out ++ [⟨1, (A.take h.f0.toNat).drop x⟩] ++ h.f4) else none
def whlR (o : Option (List S47)) : List S47 × Int := match o with
  | none => ([], 8)
  | some e => nrm e
/-- What Whole tells. -/
def whole (l : List S44) (A : List S66) : List S47 × Int := if chkH l = 0 then (if 400 < A.length then ([], 4) else whlR (whl A l 0 [])) else ([], chkH l)
theorem chk_elem (s : List S47) (h : nl s ≤ 800) : ∀ x ∈ s, x.f1.length ≤ 800 := by
  induction s with
  | nil => intro x hx; cases hx
  | cons y t ih =>
    intro x hx
    rw [nl_cons] at h
    rcases List.mem_cons.1 hx with rfl | hx
    · omega
    · exact ih (by omega) x hx
theorem whole_l (A : List S66) (l : List S44) (hA : A.length ≤ 400) (hf : FitH l) (hl : l.length ≤ 400) : ∀ (d i : Nat) (a b : Int) (out : List S47), i + d = l.length → chkA (l.drop i) a b = 0 → 0 ≤ a → a ≤ A.length → out.length + 802 * d ≤ 400000 → (∀ x ∈ out, x.f1.length ≤ 800) →
    Ev (fun k => hunk_Whole.l0 k A out a l (l.length : Int) (i : Int)) (whlR (whl A (l.drop i) a.toNat out))
  | 0, i, a, b, out, h, hc, ha, hb, ho, hx => by
    refine ev_succ ?_
    simp only [hunk_Whole.l0]
    (repeat (first | refine ev_pos (by omega) ?_ | refine ev_neg (by omega) ?_))
    rw [List.drop_of_length_le (l := l) (i := i) (by omega)]
    simp only [whl, whlR]
    refine ev_cast (Ev.bind (nrm_ev _ ⟨by simp; omega, ?_⟩) (ev_some rfl)) rfl
    intro x hxm
    rcases List.mem_append.1 hxm with hxm | hxm
    · have := hx x hxm
      omega
    · simp at hxm
      subst hxm
      simp
      omega
  | d + 1, i, a, b, out, h, hc, ha, hb, ho, hx => by
    have hm := hf.2 _ (getD_mem (l := l) (i := i) (by omega) z44)
    rw [drop_cons l i (by omega) z44] at hc ⊢
    refine ev_succ ?_
    simp only [hunk_Whole.l0, rdH, whl]
    (repeat (first | refine ev_pos (by omega) ?_ | refine ev_neg (by omega) ?_))
    generalize l.getD i z44 = x at hm hc ⊢
    have hok : okH a b x := by
      rw [← okH_iff]
      refine Classical.byContradiction fun e => ?_
      rw [chkA, if_neg e] at hc
      cases hc
    rw [← chkA_ok hok] at hc
    obtain ⟨⟨o1, o2, o3, o4, o5, o6, o7⟩, ⟨o8, o9⟩, ⟨o10, o11⟩, o12, o13⟩ := hok
    obtain ⟨c1, c2, c3⟩ := chk_zero.1 o1
    refine Ev.bind (sides_ev _ hm) ?_
    unfold sds
    rw [if_pos o1]
    simp only
    rw [w64i (x.f0 + x.f1) (by omega) (by omega)]
    by_cases e1 : x.f0 + x.f1 > (A.length : Int)
    · refine ev_pos e1 (ev_some ?_)
      rw [if_neg (by omega)]
      rfl
    · refine ev_neg e1 ?_
      refine ev_pos o8 (ev_pos (by omega) (ev_pos (by omega) ?_))
      refine Ev.bind (leq_ev _ _ (by omega)) ?_
      by_cases e2 : side x.f4 3 = (A.take (x.f0 + x.f1).toNat).drop x.f0.toNat
      · refine ev_pos (decide_eq_true e2) ?_
        rw [if_pos ⟨by omega, e2⟩]
        refine ev_pos ha (ev_pos o12 (ev_pos (by omega) (ev_pos (by omega) ?_)))
        simp only [Option.bind_some]
        refine ev_pos (by simp; omega) ?_
        rw [w64s i (by omega)]
        refine ev_cast (whole_l A l hA hf hl d (i + 1) (x.f0 + x.f1) (x.f2 + x.f3) _ (by omega) hc (by omega) (by omega) (by simp; omega) ?_) rfl
        intro y hy
        rcases List.mem_append.1 hy with hy | hy
        · rcases List.mem_append.1 hy with hy | hy
          · exact hx y hy
          · simp at hy
            subst hy
            simp
            omega
        · exact chk_elem _ c2 y hy
      · refine ev_neg (by rw [decide_eq_false e2]; simp) (ev_some ?_)
        rw [if_neg (fun h => e2 h.2)]
        rfl
theorem whole_ev (l : List S44) (A : List S66) (hf : FitH l) : Ev (fun k => hunk_Whole.f k l A) (whole l A) := by
  unfold hunk_Whole.f whole
  refine Ev.bind (hcheck_ev l hf) ?_
  by_cases hc : chkH l = 0
  · refine ev_pos hc ?_
    rw [if_pos hc]
    by_cases hA : 400 < A.length
    · refine ev_pos (by omega) (ev_some ?_)
      rw [if_pos hA]
    · refine ev_neg (by omega) ?_
      rw [if_neg hA]
      unfold chkH at hc
      by_cases h1 : 400 < l.length
      · rw [if_pos h1] at hc
        cases hc
      rw [if_neg h1] at hc
      by_cases h2 : anyLim l = true
      · rw [if_pos h2] at hc
        cases hc
      rw [if_neg h2] at hc
      have := whole_l A l (by omega) hf (by omega) l.length 0 0 0 [] (by omega) (by rw [List.drop_zero]; exact hc) (by omega) (by omega) (by simp; omega) (by simp)
      rw [List.drop_zero] at this
      exact this
  · refine ev_neg hc (ev_some ?_)
    rw [if_neg hc]
end Go.Proofs.Ytfnbodjmmkjlcaa.H
end
section
namespace Go.Proofs.Ytfnbodjmmkjlcaa.H
open Go.RowKit Go.Proofs.YtfnbodjmmkjlcaaW.PrintWords Go.Proofs.YtfnbodjmmkjlcaaW.PrintLast Go.Proofs.YtfnbodjmmkjlcaaW.PrintMore
set_option linter.unusedVariables false
set_option linter.unusedSimpArgs false
theorem rwhole_l (A : List S66) (l : List S44) (hA : A.length ≤ 400) (hf : FitH l) (hl : l.length ≤ 400) : ∀ (d i : Nat) (a b : Int) (out : List S47), i + d = l.length → chkA (l.drop i) a b = 0 → 0 ≤ a → a ≤ A.length → out.length + 802 * d ≤ 400000 → (∀ x ∈ out, x.f1.length ≤ 800) →
    Ev (fun k => jalousieref09_Whole.l0 k l A out a (i : Int)) (whlR (whl A (l.drop i) a.toNat out))
  | 0, i, a, b, out, h, hc, ha, hb, ho, hx => by
    refine ev_succ ?_
    simp only [jalousieref09_Whole.l0]
    (repeat (first | refine ev_pos (by omega) ?_ | refine ev_neg (by omega) ?_))
    rw [List.drop_of_length_le (l := l) (i := i) (by omega)]
    simp only [whl, whlR]
    refine ev_cast (Ev.bind (rnrm_ev _ ⟨by simp; omega, ?_⟩) (ev_some rfl)) rfl
    intro x hxm
    rcases List.mem_append.1 hxm with hxm | hxm
    · have := hx x hxm
      omega
    · simp at hxm
      subst hxm
      simp
      omega
  | d + 1, i, a, b, out, h, hc, ha, hb, ho, hx => by
    have hm := hf.2 _ (getD_mem (l := l) (i := i) (by omega) z44)
    rw [drop_cons l i (by omega) z44] at hc ⊢
    refine ev_succ ?_
    simp only [jalousieref09_Whole.l0, rdH, whl]
    (repeat (first | refine ev_pos (by omega) ?_ | refine ev_neg (by omega) ?_))
    generalize l.getD i z44 = x at hm hc ⊢
    have hok : okH a b x := by
      rw [← okH_iff]
      refine Classical.byContradiction fun e => ?_
      rw [chkA, if_neg e] at hc
      cases hc
    rw [← chkA_ok hok] at hc
    obtain ⟨⟨o1, o2, o3, o4, o5, o6, o7⟩, ⟨o8, o9⟩, ⟨o10, o11⟩, o12, o13⟩ := hok
    obtain ⟨c1, c2, c3⟩ := chk_zero.1 o1
    refine Ev.bind (rsides_ev _ hm) ?_
    unfold sds
    rw [if_pos o1]
    simp only
    rw [o4, w64i (x.f0 + x.f1) (by omega) (by omega)]
    by_cases e1 : x.f0 + x.f1 > (A.length : Int)
    · refine ev_pos e1 (ev_some ?_)
      rw [if_neg (by omega)]
      rfl
    · refine ev_neg e1 ?_
      refine ev_pos o8 (ev_pos (by omega) (ev_pos (by omega) ?_))
      refine Ev.bind (lsame_ev _ _ (by omega)) ?_
      by_cases e2 : side x.f4 3 = (A.take (x.f0 + x.f1).toNat).drop x.f0.toNat
      · refine ev_pos (decide_eq_true e2) ?_
        rw [if_pos ⟨by omega, e2⟩]
        refine ev_pos ha (ev_pos o12 (ev_pos (by omega) (ev_pos (by omega) ?_)))
        simp only [Option.bind_some]
        refine ev_pos (by simp; omega) ?_
        rw [w64s i (by omega)]
        refine ev_cast (rwhole_l A l hA hf hl d (i + 1) (x.f0 + x.f1) (x.f2 + x.f3) _ (by omega) hc (by omega) (by omega) (by simp; omega) ?_) rfl
        intro y hy
        rcases List.mem_append.1 hy with hy | hy
        · rcases List.mem_append.1 hy with hy | hy
          · exact hx y hy
          · simp at hy
            subst hy
            simp
            omega
        · exact chk_elem _ c2 y hy
      · refine ev_neg (by rw [decide_eq_false e2]; simp) (ev_some ?_)
        rw [if_neg (fun h => e2 h.2)]
        rfl
theorem rwhole_ev (l : List S44) (A : List S66) (hf : FitH l) : Ev (fun k => jalousieref09_Whole.f k l A) (whole l A) := by
  unfold jalousieref09_Whole.f whole
  refine Ev.bind (rcheck_ev l hf) ?_
  by_cases hc : chkH l = 0
  · refine ev_pos hc ?_
    rw [if_pos hc]
    by_cases hA : 400 < A.length
    · refine ev_pos (by omega) (ev_some ?_)
      rw [if_pos hA]
    · refine ev_neg (by omega) ?_
      rw [if_neg hA]
      unfold chkH at hc
      by_cases h1 : 400 < l.length
      · rw [if_pos h1] at hc
        cases hc
      rw [if_neg h1] at hc
      by_cases h2 : anyLim l = true
      · rw [if_pos h2] at hc
        cases hc
      rw [if_neg h2] at hc
      have := rwhole_l A l (by omega) hf (by omega) l.length 0 0 0 [] (by omega) (by rw [List.drop_zero]; exact hc) (by omega) (by omega) (by simp; omega) (by simp)
      rw [List.drop_zero] at this
      exact this
  · refine ev_neg hc (ev_some ?_)
    rw [if_neg hc]
end Go.Proofs.Ytfnbodjmmkjlcaa.H
end
section
namespace Go.Proofs.Ytfnbodjmmkjlcaa.H
open Go.RowKit Go.Proofs.YtfnbodjmmkjlcaaW.PrintWords Go.Proofs.YtfnbodjmmkjlcaaW.PrintLast Go.Proofs.YtfnbodjmmkjlcaaW.PrintMore
set_option linter.unusedVariables false
set_option linter.unusedSimpArgs false
theorem good_len : ∀ (s : List S47), (∀ x ∈ s, good x) → s.length ≤ nl s
  | [], _ => Nat.le_refl _
  | x :: t, h => by
    have := good_len t fun y hy => h y (List.mem_cons_of_mem _ hy)
    have := List.length_pos_iff.2 (h x (by simp)).2
    rw [nl_cons, List.length_cons]
    omega
theorem good_fit (s : List S47) (h : nl s ≤ 1000000) (hg : ∀ x ∈ s, good x) : Fit s := by
  have hl := good_len s hg
  refine ⟨by omega, fun x hx => ?_⟩
  have : x.f1.length ≤ nl s := by
    clear h hg hl
    induction s with
    | nil => cases hx
    | cons y t ih =>
      rw [nl_cons]
      rcases List.mem_cons.1 hx with rfl | hx
      · omega
      · have := ih hx
        omega
  omega
theorem nf_good : ∀ (n : List S47), Nf n → ∀ x ∈ n, good x
  | [], _, x, hx => by cases hx
  | y :: t, h, x, hx => by
    rcases List.mem_cons.1 hx with rfl | hx
    · exact h.1
    · exact nf_good t h.2.2 x hx
end Go.Proofs.Ytfnbodjmmkjlcaa.H
end
section
namespace Go.Proofs.Ytfnbodjmmkjlcaa.H
open Go.RowKit Go.Proofs.YtfnbodjmmkjlcaaW.PrintWords Go.Proofs.YtfnbodjmmkjlcaaW.PrintLast Go.Proofs.YtfnbodjmmkjlcaaW.PrintMore
set_option linter.unusedVariables false
set_option linter.unusedSimpArgs false
theorem fit_of (s : List S47) (h : s.length * 32 ≤ 140737488351232 ∧ ∀ y_ ∈ s, sz47 y_) : Fit s := by
  refine ⟨by omega, fun x hx => ?_⟩
  have := (h.2 x hx).2.1
  omega
end Go.Proofs.Ytfnbodjmmkjlcaa.H
end
section
namespace Go.Proofs.Ytfnbodjmmkjlcaa.H
open Go.RowKit Go.Proofs.YtfnbodjmmkjlcaaW.PrintWords Go.Proofs.YtfnbodjmmkjlcaaW.PrintLast Go.Proofs.YtfnbodjmmkjlcaaW.PrintMore
set_option linter.unusedVariables false
set_option linter.unusedSimpArgs false
/-- May a text's lines be so? No line break in a line; only the last one bare, and that not empty. -/
def rgt : List S66 → Bool
  | [] => true
  | x :: t => !(x.f0.data.toList.contains 10) && (!x.f1 || (t.isEmpty && !(x.f0.data.toList.isEmpty))) && rgt t
theorem right_l0 (s : List S66) (hs : s.length ≤ 9000000000000000000) : ∀ (d i : Nat), i + d = s.length → Ev (fun k => text_Right.l0 k s s (s.length : Int) (i : Int)) (rgt (s.drop i))
  | 0, i, h => by
    refine ev_succ ?_
    simp only [text_Right.l0]
    (repeat (first | refine ev_pos (by omega) ?_ | refine ev_neg (by omega) ?_))
    rw [List.drop_of_length_le (by omega)]
    exact ev_some rfl
  | d + 1, i, h => by
    have ih := right_l0 s hs d (i + 1) (by omega)
    rw [drop_cons s i (by omega) z66]
    have hemp : ((s.drop (i + 1)).isEmpty = true) ↔ d = 0 := by
      rw [List.isEmpty_iff, List.drop_eq_nil_iff]
      omega
    refine ev_succ ?_
    simp only [text_Right.l0, rdL, rgt, strings_IndexByte.f, Option.bind_some]
    rw [w64s i (by omega), w64i ((s.length : Int) - 1) (by omega) (by omega)]
    generalize s.getD i z66 = x
    refine ev_pos (by omega) (ev_pos (by omega) (ev_pos (by omega) ?_))
    have hc := Lib.contains_iff_indexByte x.f0.data.toList 10
    have h10 : Int.toNat 10 = 10 := rfl
    rw [h10, show (10 : Nat).toUInt8 = 10 from rfl]
    by_cases h1 : Lib.indexByte x.f0.data.toList 10 ≥ 0
    · refine ev_pos h1 (ev_some ?_)
      rw [hc, decide_eq_true h1]
      rfl
    · refine ev_neg h1 ?_
      rw [hc, decide_eq_false h1]
      by_cases h2 : x.f1 = true
      · refine ev_pos h2 ?_
        by_cases h3 : d = 0
        · refine ev_neg (by omega) ?_
          rw [hemp.2 h3, h2]
          by_cases h4 : x.f0.toList = []
          · refine ev_pos h4 (ev_some ?_)
            rw [ba_toList] at h4
            rw [h4]
            rfl
          · refine ev_neg h4 (ev_cast ih ?_)
            rw [ba_toList] at h4
            cases hq : x.f0.data.toList with
            | nil => exact absurd hq h4
            | cons _ _ => simp
        · refine ev_pos (by omega) (ev_some ?_)
          rw [h2, show (s.drop (i + 1)).isEmpty = false from by rw [Bool.eq_false_iff]; exact fun h => h3 (hemp.1 h)]
          rfl
      · refine ev_neg h2 (ev_cast ih ?_)
        rw [Bool.eq_false_iff.2 h2]
        simp
theorem tright_ev (s : List S66) (hs : s.length ≤ 9000000000000000000) : Ev (fun k => text_Right.f k s) (rgt s) := by
  unfold text_Right.f
  exact ev_cast (right_l0 s hs s.length 0 (by omega)) (by simp)
theorem bt_ten (s : ByteArray) (j : Nat) (h : j < s.size) : bt s (j : Int) = 10 ↔ s.data.toList.getD j 0 = 10 := by
  have hl : j < s.data.toList.length := h
  rw [← bt_at s (j : Int) (by simpa using h), getD_lt hl]
  constructor
  · intro e
    have : (s[j]'h).toNat = 10 := by
      have e2 : (((s[j]'h).toNat : Nat) : Int) = 10 := by simpa using e
      omega
    exact UInt8.toNat_inj.1 this
  · intro e
    have : (s[j]'h) = 10 := e
    simp [this]
theorem rright_l1 (s : List S66) (hs : s.length ≤ 9000000000000000000) (i : Nat) (hi : i < s.length) (x : S66) (hx : s.getD i z66 = x) (hz : x.f0.size ≤ 9000000000000000000) (r : Bool) (hr : Ev (fun k => jalousieref01_Right.l0 k s ((i + 1 : Nat) : Int)) r) : ∀ (d j : Nat), j + d = x.f0.size →
    Ev (fun k => jalousieref01_Right.l1 k s (i : Int) (j : Int)) (!((x.f0.data.toList.drop j).contains 10) && (!x.f1 || (decide (i + 1 = s.length) && !(x.f0.data.toList.isEmpty))) && r)
  | 0, j, h => by
    refine ev_succ ?_
    simp only [jalousieref01_Right.l1, rdL]
    rw [hx, w64s i (by omega)]
    (repeat (first | refine ev_pos (by omega) ?_ | refine ev_neg (by omega) ?_))
    rw [List.drop_of_length_le (show x.f0.data.toList.length ≤ j from by show x.f0.size ≤ j; omega)]
    by_cases h2 : x.f1 = true
    · refine ev_pos h2 ?_
      rw [h2]
      by_cases h3 : i + 1 = s.length
      · refine ev_neg (by omega) ?_
        rw [decide_eq_true h3]
        by_cases h4 : x.f0.size = 0
        · refine ev_pos (by omega) (ev_some ?_)
          have : x.f0.data.toList = [] := List.length_eq_zero_iff.1 h4
          rw [this]
          rfl
        · refine ev_neg (by omega) (ev_cast hr ?_)
          cases hq : x.f0.data.toList with
          | nil => exact absurd (show x.f0.size = 0 from by show x.f0.data.toList.length = 0; rw [hq]; rfl) h4
          | cons _ _ => simp
      · refine ev_pos (by omega) (ev_some ?_)
        rw [decide_eq_false h3]
        simp
    · refine ev_neg h2 (ev_cast hr ?_)
      rw [Bool.eq_false_iff.2 h2]
      simp
  | d + 1, j, h => by
    have hj : j < x.f0.data.toList.length := by
      show j < x.f0.size
      omega
    refine ev_succ ?_
    simp only [jalousieref01_Right.l1, rdL]
    rw [hx, w64s j (by omega)]
    refine ev_pos (by omega) (ev_pos (by omega) (ev_pos (by omega) (ev_pos (by omega) ?_)))
    rw [drop_cons _ j hj 0, List.contains_cons]
    by_cases h1 : bt x.f0 (j : Int) = 10
    · refine ev_pos h1 (ev_some ?_)
      rw [(bt_ten _ _ (by omega)).1 h1]
      simp
    · refine ev_neg h1 (ev_cast (rright_l1 s hs i hi x hx hz r hr d (j + 1) (by omega)) ?_)
      have : ((10 : UInt8) == x.f0.data.toList.getD j 0) = false := by
        rw [beq_eq_false_iff_ne]
        exact fun e => h1 ((bt_ten _ _ (by omega)).2 e.symm)
      rw [this, Bool.false_or]
theorem rright_l0 (s : List S66) (hs : s.length ≤ 9000000000000000000) (hz : ∀ x ∈ s, x.f0.size ≤ 9000000000000000000) : ∀ (d i : Nat), i + d = s.length → Ev (fun k => jalousieref01_Right.l0 k s (i : Int)) (rgt (s.drop i))
  | 0, i, h => by
    refine ev_succ ?_
    simp only [jalousieref01_Right.l0]
    (repeat (first | refine ev_pos (by omega) ?_ | refine ev_neg (by omega) ?_))
    rw [List.drop_of_length_le (by omega)]
    exact ev_some rfl
  | d + 1, i, h => by
    have ih := rright_l0 s hs hz d (i + 1) (by omega)
    refine ev_succ ?_
    simp only [jalousieref01_Right.l0]
    (repeat (first | refine ev_pos (by omega) ?_ | refine ev_neg (by omega) ?_))
    refine ev_cast (rright_l1 s hs i (by omega) _ rfl (hz _ (getD_mem (by omega) _)) _ ih _ 0 (Nat.zero_add _)) ?_
    rw [drop_cons s i (by omega) z66, rgt, List.drop_zero]
    have : (s.drop (i + 1)).isEmpty = decide (i + 1 = s.length) := by
      rw [Bool.eq_iff_iff, List.isEmpty_iff, List.drop_eq_nil_iff, decide_eq_true_iff]
      omega
    rw [this]
theorem rright_ev (s : List S66) (hs : s.length ≤ 9000000000000000000) (hz : ∀ x ∈ s, x.f0.size ≤ 9000000000000000000) : Ev (fun k => jalousieref01_Right.f k s) (rgt s) := by
  unfold jalousieref01_Right.f
  exact ev_cast (rright_l0 s hs hz s.length 0 (by omega)) (by simp)
/-- What Apply of a script tells. -/
def apl (s : List S47) (A : List S66) : List S66 × Int := if chk s = 0 then (if side s 3 = A then (side s 2, 0) else ([], 8)) else ([], chk s)
theorem apply_ev (s : List S47) (A : List S66) (hf : Fit s) : Ev (fun k => script_Apply.f k s A) (apl s A) := by
  unfold script_Apply.f apl
  refine Ev.bind (sides_ev s hf) ?_
  unfold sds
  by_cases h : chk s = 0
  · rw [if_pos h, if_pos h]
    have hl := (chk_zero.1 h).2.1
    have h3 := side_len s 3
    refine ev_pos rfl (Ev.bind (leq_ev _ _ (by show (side s 3).length ≤ _; omega)) ?_)
    by_cases e : side s 3 = A
    · rw [if_pos e]
      exact ev_pos (decide_eq_true e) (ev_some rfl)
    · rw [if_neg e]
      exact ev_neg (by rw [decide_eq_false e]; simp) (ev_some rfl)
  · rw [if_neg h, if_neg h]
    exact ev_neg h (ev_some rfl)
theorem whl_side (A : List S66) : ∀ (l : List S44) (a b : Int) (out e : List S47), chkA l a b = 0 → 0 ≤ a → a ≤ A.length → side out 3 = A.take a.toNat → whl A l a.toNat out = some e → side e 3 = A
  | [], a, b, out, e, _, h0, h1, hs, h => by
    simp only [whl, Option.some.injEq] at h
    subst h
    rw [side_append, hs, side_cons]
    simp [side]
  | x :: t, a, b, out, e, hc, h0, h1, hs, h => by
    have hok : okH a b x := by
      rw [← okH_iff]
      refine Classical.byContradiction fun e => ?_
      rw [chkA, if_neg e] at hc
      cases hc
    rw [← chkA_ok hok] at hc
    obtain ⟨⟨o1, o2, o3, o4, o5, o6, o7⟩, ⟨o8, o9⟩, ⟨o10, o11⟩, o12, o13⟩ := hok
    rw [whl] at h
    by_cases hq : x.f0 + x.f1 ≤ (A.length : Int) ∧ side x.f4 3 = (A.take (x.f0 + x.f1).toNat).drop x.f0.toNat
    · rw [if_pos hq] at h
      refine whl_side A t (x.f0 + x.f1) (x.f2 + x.f3) _ e hc (by omega) hq.1 ?_ h
      rw [side_append, side_append, hs, hq.2, side_cons]
      have hm : side ([] : List S47) 3 = [] := rfl
      rw [hm, List.append_nil, if_neg (show ¬ (1 : Int) = 3 by decide)]
      have e1 : A.take a.toNat ++ (A.take x.f0.toNat).drop a.toNat = A.take x.f0.toNat := by
        have := List.take_append_drop a.toNat (A.take x.f0.toNat)
        rwa [List.take_take, Nat.min_eq_left (by omega)] at this
      rw [e1]
      have := List.take_append_drop x.f0.toNat (A.take (x.f0 + x.f1).toNat)
      rwa [List.take_take, Nat.min_eq_left (by omega)] at this
    · rw [if_neg hq] at h
      cases h
theorem chkH_zero {l : List S44} (h : chkH l = 0) : l.length ≤ 400 ∧ anyLim l = false ∧ chkA l 0 0 = 0 := by
  unfold chkH at h
  by_cases h1 : 400 < l.length
  · rw [if_pos h1] at h
    cases h
  rw [if_neg h1] at h
  by_cases h2 : anyLim l = true
  · rw [if_pos h2] at h
    cases h
  rw [if_neg h2] at h
  exact ⟨by omega, Bool.eq_false_iff.2 h2, h⟩
theorem nf_chk (n : List S47) (h : Nf n) (hl : nl n ≤ 800) : chk n = 0 := chk_zero.2 ⟨Nat.le_trans (nf_len n h) hl, hl, nf_allok n h⟩
theorem whole_ok {l : List S44} {A : List S66} (h : (whole l A).2 = 0) : chk (whole l A).1 = 0 ∧ side (whole l A).1 3 = A ∧ Nf (whole l A).1 := by
  unfold whole at h ⊢
  by_cases h1 : chkH l = 0
  · rw [if_pos h1] at h ⊢
    by_cases h2 : 400 < A.length
    · rw [if_pos h2] at h
      cases h
    rw [if_neg h2] at h ⊢
    unfold whlR at h ⊢
    cases hw : whl A l 0 [] with
    | none =>
      rw [hw] at h
      cases h
    | some e =>
      rw [hw] at h
      simp only [nrm] at h ⊢
      have hs := whl_side A l 0 0 [] e (chkH_zero h1).2.2 (by omega) (by omega) (by simp [side]) hw
      by_cases hc : chk e = 0
      · rw [if_pos hc]
        obtain ⟨c1, c2, c3⟩ := chk_zero.1 hc
        refine ⟨nf_chk _ (p_nf e c3) (by rw [p_nl]; exact c2), ?_, p_nf e c3⟩
        rw [p_side3 e c3]
        exact hs
      · rw [if_neg hc] at h
        exact absurd h hc
  · rw [if_neg h1] at h
    exact absurd h h1
theorem whole_fit (l : List S44) (A : List S66) : Fit (whole l A).1 := by
  by_cases h : (whole l A).2 = 0
  · obtain ⟨h1, h2, h3⟩ := whole_ok h
    exact good_fit _ (by have := (chk_zero.1 h1).2.1; omega) (nf_good _ h3)
  · have e : (whole l A).1 = [] := by
      unfold whole at h ⊢
      by_cases h1 : chkH l = 0
      · rw [if_pos h1] at h ⊢
        by_cases h2 : 400 < A.length
        · rw [if_pos h2]
        · rw [if_neg h2] at h ⊢
          unfold whlR at h ⊢
          cases hw : whl A l 0 [] with
          | none => rfl
          | some e =>
            rw [hw] at h
            simp only [nrm] at h ⊢
            by_cases hc : chk e = 0
            · rw [if_pos hc] at h
              exact absurd rfl h
            · rw [if_neg hc]
      · rw [if_neg h1]
    rw [e]
    exact ⟨by simp, fun x hx => by cases hx⟩
/-- The script of a whole text, its new side, and what is wrong. -/
def wh (l : List S44) (A : List S66) : List S47 × List S66 × Int := if (whole l A).2 = 0 then (if 400 < (side (whole l A).1 2).length then ([], [], 4) else if rgt (side (whole l A).1 2) = true then ((whole l A).1, side (whole l A).1 2, 0) else ([], [], 3)) else ([], [], (whole l A).2)
theorem wh_ev (l : List S44) (A : List S66) (hf : FitH l) : Ev (fun k => patch_whole.f k l A) (wh l A) := by
  unfold patch_whole.f wh
  refine Ev.bind (whole_ev l A hf) ?_
  by_cases h : (whole l A).2 = 0
  · obtain ⟨h1, h2, h3⟩ := whole_ok h
    rw [if_pos h]
    refine ev_pos h (Ev.bind (apply_ev _ A (whole_fit l A)) ?_)
    unfold apl
    rw [if_pos h1, if_pos h2]
    refine ev_pos rfl ?_
    by_cases h4 : 400 < (side (whole l A).1 2).length
    · rw [if_pos h4]
      exact ev_pos (by simp only; omega) (ev_some rfl)
    · rw [if_neg h4]
      refine ev_neg (by simp only; omega) (Ev.bind (tright_ev _ (by show (side (whole l A).1 2).length ≤ _; omega)) ?_)
      by_cases h5 : rgt (side (whole l A).1 2) = true
      · exact ev_pos h5 (ev_some (by rw [if_pos h5]))
      · exact ev_neg h5 (ev_some (by rw [if_neg h5]))
  · rw [if_neg h]
    exact ev_neg h (ev_some rfl)
theorem wh_ok {l : List S44} {A : List S66} (h : (wh l A).2.2 = 0) : chk (wh l A).1 = 0 ∧ side (wh l A).1 3 = A ∧ side (wh l A).1 2 = (wh l A).2.1 ∧ (wh l A).2.1.length ≤ 400 := by
  unfold wh at h ⊢
  by_cases h1 : (whole l A).2 = 0
  · rw [if_pos h1] at h ⊢
    by_cases h2 : 400 < (side (whole l A).1 2).length
    · rw [if_pos h2] at h
      cases h
    rw [if_neg h2] at h ⊢
    by_cases h3 : rgt (side (whole l A).1 2) = true
    · rw [if_pos h3] at h ⊢
      obtain ⟨w1, w2, w3⟩ := whole_ok h1
      exact ⟨w1, w2, rfl, by simp only; omega⟩
    · rw [if_neg h3] at h
      cases h
  · rw [if_neg h1] at h
    exact absurd h h1
theorem wh_bad {l : List S44} {A : List S66} (h : (wh l A).2.2 ≠ 0) : (wh l A).1 = [] ∧ (wh l A).2.1 = [] := by
  unfold wh at h ⊢
  by_cases h1 : (whole l A).2 = 0
  · rw [if_pos h1] at h ⊢
    by_cases h2 : 400 < (side (whole l A).1 2).length
    · rw [if_pos h2]
      exact ⟨rfl, rfl⟩
    rw [if_neg h2] at h ⊢
    by_cases h3 : rgt (side (whole l A).1 2) = true
    · rw [if_pos h3] at h
      exact absurd rfl h
    · rw [if_neg h3]
      exact ⟨rfl, rfl⟩
  · rw [if_neg h1]
    exact ⟨rfl, rfl⟩
/-- A script's kinds, line by line. -/
def dos (s : List S47) : List Int := s.flatMap fun x => List.replicate x.f1.length x.f0
theorem dos_cons (x : S47) (s : List S47) : dos (x :: s) = List.replicate x.f1.length x.f0 ++ dos s := by simp [dos]
theorem dos_len (s : List S47) : (dos s).length = nl s := by
  induction s with
  | nil => rfl
  | cons x t ih => rw [dos_cons, nl_cons, List.length_append, ih, List.length_replicate]
theorem dos_single (s : List S47) : (single s).map (·.f0) = dos s := by
  induction s with
  | nil => rfl
  | cons x t ih =>
    rw [single_cons, List.map_append, ih, dos_cons]
    congr 1
    unfold one
    rw [List.map_map, show ((fun e : S47 => e.f0) ∘ fun y => (⟨x.f0, [y]⟩ : S47)) = fun _ => x.f0 from rfl, List.map_const']
def pA : List Int → Nat → Nat → List S64
  | [], _, _ => []
  | d :: t, i, j => (if d = 1 then [(⟨(i : Int), (j : Int)⟩ : S64)] else []) ++ pA t (if d = 3 then i else i + 1) (if d = 2 then j else j + 1)
def pG : List Int → Nat → Nat → List Int
  | [], _, _ => []
  | d :: t, i, j => (if d = 2 then [(i : Int)] else []) ++ pG t (if d = 3 then i else i + 1) (if d = 2 then j else j + 1)
def pM : List Int → Nat → Nat → List Int
  | [], _, _ => []
  | d :: t, i, j => (if d = 3 then [(j : Int)] else []) ++ pM t (if d = 3 then i else i + 1) (if d = 2 then j else j + 1)
theorem pA_len : ∀ (u : List Int) (i j : Nat), (pA u i j).length ≤ u.length
  | [], _, _ => Nat.le_refl _
  | d :: t, i, j => by
    have := pA_len t (if d = 3 then i else i + 1) (if d = 2 then j else j + 1)
    rw [pA, List.length_append, List.length_cons]
    generalize pA t _ _ = q at this
    split <;> simp <;> omega
theorem pG_len : ∀ (u : List Int) (i j : Nat), (pG u i j).length ≤ u.length
  | [], _, _ => Nat.le_refl _
  | d :: t, i, j => by
    have := pG_len t (if d = 3 then i else i + 1) (if d = 2 then j else j + 1)
    rw [pG, List.length_append, List.length_cons]
    generalize pG t _ _ = q at this
    split <;> simp <;> omega
theorem pM_len : ∀ (u : List Int) (i j : Nat), (pM u i j).length ≤ u.length
  | [], _, _ => Nat.le_refl _
  | d :: t, i, j => by
    have := pM_len t (if d = 3 then i else i + 1) (if d = 2 then j else j + 1)
    rw [pM, List.length_append, List.length_cons]
    generalize pM t _ _ = q at this
    split <;> simp <;> omega
def stp {σ : Type} (step : σ → Int → Nat → Nat → σ) (q : σ × Nat × Nat) (d : Int) : σ × Nat × Nat := (step q.1 d q.2.1 q.2.2, if d = 3 then q.2.1 else q.2.1 + 1, if d = 2 then q.2.2 else q.2.2 + 1)
theorem one_fold {σ : Type} (step : σ → Int → Nat → Nat → σ) (d : Int) : ∀ (m : Nat) (q : σ × Nat × Nat), patch_walk.one step d m q = (List.replicate m d).foldl (stp step) q
  | 0, q => rfl
  | m + 1, q => by
    rw [patch_walk.one, one_fold step d m, List.replicate_succ, List.foldl_cons]
    rfl
theorem all_fold {σ : Type} (step : σ → Int → Nat → Nat → σ) : ∀ (s : List S47) (q : σ × Nat × Nat), patch_walk.all step s q = (dos s).foldl (stp step) q
  | [], q => rfl
  | x :: t, q => by rw [patch_walk.all, all_fold step t, dos_cons, List.foldl_append, one_fold]
theorem foldA : ∀ (u : List Int) (xs : List S64) (i j : Nat), (u.foldl (stp patch_Apply.step) (xs, i, j)).1 = xs ++ pA u i j
  | [], xs, i, j => by simp [pA]
  | d :: t, xs, i, j => by
    rw [List.foldl_cons, stp, foldA t, pA]
    simp only [patch_Apply.step]
    split <;> simp
theorem foldG : ∀ (u : List Int) (xs : List Int) (i j : Nat), (u.foldl (stp patch_Gone.step) (xs, i, j)).1 = xs ++ pG u i j
  | [], xs, i, j => by simp [pG]
  | d :: t, xs, i, j => by
    rw [List.foldl_cons, stp, foldG t, pG]
    simp only [patch_Gone.step]
    split <;> simp
theorem foldM : ∀ (u : List Int) (xs : List Int) (i j : Nat), (u.foldl (stp patch_Made.step) (xs, i, j)).1 = xs ++ pM u i j
  | [], xs, i, j => by simp [pM]
  | d :: t, xs, i, j => by
    rw [List.foldl_cons, stp, foldM t, pM]
    simp only [patch_Made.step]
    split <;> simp
theorem wh_sizes (l : List S44) (A : List S66) : nl (wh l A).1 ≤ 800 ∧ (wh l A).1.length ≤ 800 := by
  by_cases h : (wh l A).2.2 = 0
  · obtain ⟨h1, h2, h3⟩ := chk_zero.1 (wh_ok h).1
    exact ⟨h2, h1⟩
  · rw [(wh_bad h).1]
    simp [nl]
/-- What Apply tells. -/
theorem papply_ev (l : List S44) (A : List S66) (hf : FitH l) : Ev (fun k => patch_Apply.f k l A) ((wh l A).2.1, pA (dos (wh l A).1) 0 0, (wh l A).2.2) := by
  unfold patch_Apply.f
  refine Ev.bind (wh_ev l A hf) ?_
  obtain ⟨h1, h2⟩ := wh_sizes l A
  refine ev_pos ⟨by show nl _ ≤ _; omega, by omega⟩ (ev_some ?_)
  rw [all_fold, foldA, List.nil_append]
theorem pgone_ev (l : List S44) (A : List S66) (hf : FitH l) : Ev (fun k => patch_Gone.f k l A) (pG (dos (wh l A).1) 0 0, (wh l A).2.2) := by
  unfold patch_Gone.f
  refine Ev.bind (wh_ev l A hf) ?_
  obtain ⟨h1, h2⟩ := wh_sizes l A
  refine ev_pos ⟨by show nl _ ≤ _; omega, by omega⟩ (ev_some ?_)
  rw [all_fold, foldG, List.nil_append]
theorem pmade_ev (l : List S44) (A : List S66) (hf : FitH l) : Ev (fun k => patch_Made.f k l A) (pM (dos (wh l A).1) 0 0, (wh l A).2.2) := by
  unfold patch_Made.f
  refine Ev.bind (wh_ev l A hf) ?_
  obtain ⟨h1, h2⟩ := wh_sizes l A
  refine ev_pos ⟨by show nl _ ≤ _; omega, by omega⟩ (ev_some ?_)
  rw [all_fold, foldM, List.nil_append]
end Go.Proofs.Ytfnbodjmmkjlcaa.H
end
section
namespace Go.Proofs.Ytfnbodjmmkjlcaa.H
open Go.RowKit Go.Proofs.YtfnbodjmmkjlcaaW.PrintWords Go.Proofs.YtfnbodjmmkjlcaaW.PrintLast Go.Proofs.YtfnbodjmmkjlcaaW.PrintMore
set_option linter.unusedVariables false
set_option linter.unusedSimpArgs false
theorem live11_ev : Ev (fun k => jalousielaw11_live.f k) true := by
  refine Ev.of (fun k => jalousielaw11_live.mono k) (k := 40) ?_
  decide +kernel
theorem ints_l0 (s : List Int) (hs : s.length ≤ 9000000000000000000) : ∀ (d i : Nat), i + d = s.length → Ev (fun k => jalousieref05_Ints.l0 k s s (i : Int)) true
  | 0, i, h => by
    refine ev_succ ?_
    simp only [jalousieref05_Ints.l0]
    (repeat (first | refine ev_pos (by omega) ?_ | refine ev_neg (by omega) ?_))
    exact ev_some rfl
  | d + 1, i, h => by
    refine ev_succ ?_
    simp only [jalousieref05_Ints.l0]
    rw [w64s i (by omega)]
    refine ev_pos (by omega) (ev_pos (by omega) (ev_pos (by omega) (ev_pos trivial ?_)))
    exact ints_l0 s hs d (i + 1) (by omega)
theorem ints_ev (s : List Int) (hs : s.length ≤ 9000000000000000000) : Ev (fun k => jalousieref05_Ints.f k s s) true := by
  unfold jalousieref05_Ints.f
  exact ev_pos rfl (ints_l0 s hs s.length 0 (by omega))
theorem psame_l0 (s : List S64) (hs : s.length ≤ 9000000000000000000) : ∀ (d i : Nat), i + d = s.length → Ev (fun k => jalousieref06_Same.l0 k s s (i : Int)) true
  | 0, i, h => by
    refine ev_succ ?_
    simp only [jalousieref06_Same.l0]
    (repeat (first | refine ev_pos (by omega) ?_ | refine ev_neg (by omega) ?_))
    exact ev_some rfl
  | d + 1, i, h => by
    refine ev_succ ?_
    simp only [jalousieref06_Same.l0]
    rw [w64s i (by omega)]
    refine ev_pos (by omega) (ev_pos (by omega) (ev_pos (by omega) (ev_neg (by simp) ?_)))
    exact psame_l0 s hs d (i + 1) (by omega)
theorem psame_ev (s : List S64) (hs : s.length ≤ 9000000000000000000) : Ev (fun k => jalousieref06_Same.f k s s) true := by
  unfold jalousieref06_Same.f
  exact ev_pos rfl (psame_l0 s hs s.length 0 (by omega))
theorem side_single (s : List S47) (b : Int) : side (single s) b = side s b := by
  induction s with
  | nil => rfl
  | cons x t ih =>
    rw [single_cons, side_append, ih, side_cons]
    congr 1
    unfold one
    generalize x.f1 = ys
    induction ys with
    | nil =>
      split <;> rfl
    | cons y t ih2 =>
      rw [List.map_cons, side_cons, ih2]
      by_cases h : x.f0 = b
      · simp [h]
      · simp [h]
/-- How Apply ends. -/
def fin11 (b : List S66) (p : List S64) (g m : List Int) : List S66 × List S64 × List Int × List Int × Int := if 400 < b.length then ([], [], [], [], 4) else if rgt b = true then (b, p, g, m, 0) else ([], [], [], [], 3)
theorem rap_l0 (X : List S47) (hX : ∀ x ∈ X, x.f1.length = 1 ∧ 1 ≤ x.f0 ∧ x.f0 ≤ 3) (hl : X.length ≤ 800) : ∀ (d n i : Nat) (B : List S66) (P : List S64) (G M : List Int), n + d = X.length → i ≤ n → B.length ≤ n → P.length ≤ n → G.length ≤ n → M.length ≤ n → (∀ y ∈ B ++ side (X.drop n) 2, y.f0.size ≤ 9000000000000000000) →
    Ev (fun k => jalousieref11_Apply.l0 k X (i : Int) (n : Int) B P G M) (fin11 (B ++ side (X.drop n) 2) (P ++ pA ((X.drop n).map (·.f0)) i B.length) (G ++ pG ((X.drop n).map (·.f0)) i B.length) (M ++ pM ((X.drop n).map (·.f0)) i B.length))
  | 0, n, i, B, P, G, M, h, hi, hB, hP, hG, hM, hz => by
    refine ev_succ ?_
    simp only [jalousieref11_Apply.l0]
    rw [List.drop_of_length_le (by omega)] at hz ⊢
    have e : side ([] : List S47) 2 = [] := rfl
    rw [e, List.append_nil] at hz ⊢
    simp only [List.map_nil, pA, pG, pM, List.append_nil]
    refine ev_neg (by omega) ?_
    unfold fin11
    by_cases h1 : 400 < B.length
    · rw [if_pos h1]
      exact ev_pos (by omega) (ev_some rfl)
    · rw [if_neg h1]
      refine ev_neg (by omega) (Ev.bind (rright_ev B (by omega) hz) ?_)
      by_cases h2 : rgt B = true
      · exact ev_pos h2 (ev_some (by rw [if_pos h2]))
      · exact ev_neg h2 (ev_some (by rw [if_neg h2]))
  | d + 1, n, i, B, P, G, M, h, hi, hB, hP, hG, hM, hz => by
    have hx := hX _ (getD_mem (l := X) (i := n) (by omega) z47)
    rw [drop_cons X n (by omega) z47] at hz ⊢
    refine ev_succ ?_
    simp only [jalousieref11_Apply.l0, rdE]
    rw [w64s i (by omega), w64s n (by omega)]
    generalize X.getD n z47 = x at hx hz
    obtain ⟨hx1, hx2⟩ := hx
    obtain ⟨y, hy⟩ := List.length_eq_one_iff.1 hx1
    rw [side_cons, hy] at hz ⊢
    have hrd : rd_T66 [y] 0 = y := rfl
    rw [hrd, line_eta, List.map_cons, pA, pG, pM]
    refine ev_pos (by omega) (ev_pos (by omega) ?_)
    by_cases d1 : x.f0 = 1
    · rw [if_neg (show ¬ x.f0 = 2 by omega)] at hz
      refine ev_pos d1 (ev_pos (by omega) (ev_pos (by simp) (ev_pos (by omega) ?_)))
      have hz' : ∀ z ∈ (B ++ [y]) ++ side (X.drop (n + 1)) 2, z.f0.size ≤ 9000000000000000000 := by
        rw [List.append_assoc]
        exact hz
      refine ev_cast (rap_l0 X hX hl d (n + 1) (i + 1) (B ++ [y]) (P ++ [⟨(i : Int), (B.length : Int)⟩]) G M (by omega) (by omega) (by simp; omega) (by simp; omega) (by omega) (by omega) hz') ?_
      rw [d1]
      simp
    · by_cases d2 : x.f0 = 2
      · rw [if_pos d2, List.nil_append] at hz
        refine ev_neg d1 (ev_pos d2 (ev_pos (by omega) ?_))
        refine ev_cast (rap_l0 X hX hl d (n + 1) (i + 1) B P (G ++ [(i : Int)]) M (by omega) (by omega) (by omega) (by omega) (by simp; omega) (by omega) hz) ?_
        rw [d2]
        simp
      · have d3 : x.f0 = 3 := by omega
        rw [if_neg d2] at hz
        refine ev_neg d1 (ev_neg d2 (ev_pos d3 (ev_pos (by omega) (ev_pos (by simp) (ev_pos (by omega) ?_)))))
        have hz' : ∀ z ∈ (B ++ [y]) ++ side (X.drop (n + 1)) 2, z.f0.size ≤ 9000000000000000000 := by
          rw [List.append_assoc]
          exact hz
        refine ev_cast (rap_l0 X hX hl d (n + 1) i (B ++ [y]) P G (M ++ [(B.length : Int)]) (by omega) (by omega) (by simp; omega) (by omega) (by omega) (by simp; omega) hz') ?_
        rw [d3]
        simp
/-- Each line's text is one that a machine holds. -/
def SzL (A : List S66) : Prop := ∀ y ∈ A, y.f0.size ≤ 9000000000000000000
theorem szl_side (s : List S47) (b : Int) (h : ∀ x ∈ s, SzL x.f1) : SzL (side s b) := by
  intro y hy
  induction s with
  | nil => cases hy
  | cons x t ih =>
    rw [side_cons] at hy
    rcases List.mem_append.1 hy with hy | hy
    · refine h x (List.mem_cons_self ..) y ?_
      split at hy
      · cases hy
      · exact hy
    · exact ih (fun z hz => h z (List.mem_cons_of_mem _ hz)) hy
theorem whl_szl (A : List S66) (hA : SzL A) : ∀ (l : List S44) (a : Nat) (out e : List S47), (∀ h ∈ l, ∀ x ∈ h.f4, SzL x.f1) → (∀ x ∈ out, SzL x.f1) → whl A l a out = some e → ∀ x ∈ e, SzL x.f1
  | [], a, out, e, hl, ho, h => by
    simp only [whl, Option.some.injEq] at h
    subst h
    intro x hx
    rcases List.mem_append.1 hx with hx | hx
    · exact ho x hx
    · rw [List.mem_singleton] at hx
      subst hx
      exact fun y hy => hA y (List.mem_of_mem_drop hy)
  | g :: t, a, out, e, hl, ho, h => by
    rw [whl] at h
    split at h
    · refine whl_szl A hA t _ _ e (fun z hz => hl z (List.mem_cons_of_mem _ hz)) ?_ h
      intro x hx
      rcases List.mem_append.1 hx with hx | hx
      · rcases List.mem_append.1 hx with hx | hx
        · exact ho x hx
        · rw [List.mem_singleton] at hx
          subst hx
          exact fun y hy => hA y (List.mem_of_mem_take (List.mem_of_mem_drop hy))
      · exact hl g (List.mem_cons_self ..) x hx
    · cases h
theorem whole_szl (l : List S44) (A : List S66) (hA : SzL A) (hl : ∀ h ∈ l, ∀ x ∈ h.f4, SzL x.f1) : SzL (side (whole l A).1 2) := by
  unfold whole
  split
  · split
    · intro y hy
      cases hy
    · unfold whlR
      cases hw : whl A l 0 [] with
      | none =>
        intro y hy
        cases hy
      | some e =>
        simp only [nrm]
        by_cases hc : chk e = 0
        · rw [if_pos hc]
          rw [p_side2 e (chk_zero.1 hc).2.2]
          exact szl_side e 2 (whl_szl A hA l 0 [] e hl (fun x hx => by cases hx) hw)
        · rw [if_neg hc]
          intro y hy
          cases hy
  · intro y hy
    cases hy
theorem rapply_ev (l : List S44) (A : List S66) (hf : FitH l) (hA : SzL A) (hl : ∀ h ∈ l, ∀ x ∈ h.f4, SzL x.f1) : Ev (fun k => jalousieref11_Apply.f k l A) ((wh l A).2.1, pA (dos (wh l A).1) 0 0, pG (dos (wh l A).1) 0 0, pM (dos (wh l A).1) 0 0, (wh l A).2.2) := by
  unfold jalousieref11_Apply.f
  refine Ev.bind (rwhole_ev l A hf) ?_
  by_cases h : (whole l A).2 = 0
  · obtain ⟨h1, h2, h3⟩ := whole_ok h
    obtain ⟨c1, c2, c3⟩ := chk_zero.1 h1
    refine ev_pos h (Ev.bind (single_ev _ (by omega) (by omega)) ?_)
    have hX : ∀ x ∈ single (whole l A).1, x.f1.length = 1 ∧ 1 ≤ x.f0 ∧ x.f0 ≤ 3 := by
      intro x hx
      unfold single at hx
      obtain ⟨z, hz, hx⟩ := List.mem_flatMap.1 hx
      unfold one at hx
      obtain ⟨y, hy, rfl⟩ := List.mem_map.1 hx
      have := List.all_eq_true.1 c3 z hz
      rw [decide_eq_true_iff] at this
      exact ⟨rfl, this⟩
    have := rap_l0 (single (whole l A).1) hX (by rw [single_len]; omega) (single (whole l A).1).length 0 0 [] [] [] [] (by omega) (by omega) (by simp) (by simp) (by simp) (by simp) (by
      rw [List.drop_zero, side_single, List.nil_append]
      exact whole_szl l A hA hl)
    rw [List.drop_zero, side_single, dos_single] at this
    refine ev_cast this ?_
    unfold fin11 wh
    simp only [List.nil_append, List.length_nil]
    rw [if_pos h]
    by_cases h4 : 400 < (side (whole l A).1 2).length
    · rw [if_pos h4, if_pos h4]
      rfl
    · rw [if_neg h4, if_neg h4]
      by_cases h5 : rgt (side (whole l A).1 2) = true
      · rw [if_pos h5, if_pos h5]
      · rw [if_neg h5, if_neg h5]
        rfl
  · refine ev_neg h (ev_some ?_)
    have hq : (wh l A) = ([], [], (whole l A).2) := by
      unfold wh
      rw [if_neg h]
    rw [hq]
    rfl
theorem min_ev (n c : Nat) : mn (n : Int) (c : Int) = ((min n c : Nat) : Int) := by
  unfold mn
  split <;> omega
theorem szl_of (A : List S66) (h : ∀ y_ ∈ A, sz66 y_) : SzL A := fun y hy => by
  have := (h y hy).1
  omega
theorem fith_of (l : List S44) (h : l.length * 56 ≤ 140737488351232 ∧ ∀ y_ ∈ l, sz44 y_) (n : Nat) : FitH (l.take n) ∧ ∀ h ∈ l.take n, ∀ x ∈ h.f4, SzL x.f1 := by
  refine ⟨⟨by rw [List.length_take]; omega, fun g hg => ?_⟩, fun g hg x hx => ?_⟩
  · have := (h.2 g (List.mem_of_mem_take hg)).2.2.2.2
    exact fit_of _ this
  · have := (h.2 g (List.mem_of_mem_take hg)).2.2.2.2.2 x hx
    exact szl_of _ this.2.2
end Go.Proofs.Ytfnbodjmmkjlcaa.H
end
section
namespace Go.Proofs.Ytfnbodjmmkjlcaa.Pure
open Go.RowKit Go.Proofs.Ytfnbodjmmkjlcaa Go.Proofs.Ytfnbodjmmkjlcaa.H Go.Proofs.YtfnbodjmmkjlcaaW.PrintWords Go.Proofs.YtfnbodjmmkjlcaaW.PrintLast Go.Proofs.YtfnbodjmmkjlcaaW.PrintMore
theorem PatchApplies : jalousielaw11_PatchApplies.Pure := by
  intro l0 A _ _ hs hA
  refine Ev.rounds ?_
  unfold jalousielaw11_PatchApplies.f
  obtain ⟨hf, hz⟩ := fith_of l0 hs (min l0.length 20)
  have hm : mn (l0.length : Int) 20 = ((min l0.length 20 : Nat) : Int) := min_ev _ 20
  rw [hm]
  refine ev_pos (by omega) (ev_pos (by omega) ?_)
  simp only [Option.bind_some, Int.toNat_natCast]
  generalize l0.take (min l0.length 20) = l at hf hz
  obtain ⟨s1, s2⟩ := wh_sizes l A
  have hd := dos_len (wh l A).1
  have e1 := pA_len (dos (wh l A).1) 0 0
  have e2 := pG_len (dos (wh l A).1) 0 0
  have e3 := pM_len (dos (wh l A).1) 0 0
  have hb : (wh l A).2.1.length ≤ 400 := by
    by_cases h : (wh l A).2.2 = 0
    · exact (wh_ok h).2.2.2
    · rw [(wh_bad h).2]
      simp
  refine Ev.bind (papply_ev l A hf) (Ev.bind (pgone_ev l A hf) (Ev.bind (pmade_ev l A hf) (Ev.bind (rapply_ev l A hf (szl_of A hA.2) hz) ?_)))
  refine Ev.bind live11_ev (ev_pos rfl ?_)
  refine Ev.bind (lsame_ev _ _ (by show (wh l A).2.1.length ≤ _; omega)) (ev_pos (decide_eq_true rfl) ?_)
  refine Ev.bind (psame_ev _ (by show (pA _ _ _).length ≤ _; omega)) (ev_pos rfl ?_)
  refine Ev.bind (ints_ev _ (by show (pG _ _ _).length ≤ _; omega)) (ev_pos rfl ?_)
  refine Ev.bind (ints_ev _ (by show (pM _ _ _).length ≤ _; omega)) (ev_pos rfl ?_)
  exact ev_pos rfl (ev_pos rfl (ev_some (by simp)))
end Go.Proofs.Ytfnbodjmmkjlcaa.Pure
end
