/-
  What the claim needs of the words, of the walks and of the plain proofs, in one row (5).
-/
import Derived.Deep.RegionHeld3
import Derived.WalkLawsBesides
import Derived.WalkSpells
import Derived.RangeFuncNested
import Derived.RangeFuncBound
import Derived.RangeFuncCalls
import Derived.RangeFuncLeaves
import Derived.RangeFuncBox
import Derived.RangeFuncMany
import Derived.Shelf.Abstract
import Derived.OwnWalkIn
import Derived.TacticsInMore
import Derived.LoopNIn
import Derived.LoopIn
import Derived.Test.YtfnbodjmmkjlcaaZ0
import Derived.Test.YtfnbodjmmkjlcaaZ1
import Derived.Test.YtfnbodjmmkjlcaaZ2
import Derived.Test.YtfnbodjmmkjlcaaZ3
import Derived.Test.YtfnbodjmmkjlcaaZ4
section
namespace Go.Proofs.Ytfnbodjmmkjlcaa.H
open Go.RowKit Go.Proofs.YtfnbodjmmkjlcaaW.PrintWords Go.Proofs.YtfnbodjmmkjlcaaW.PrintLast Go.Proofs.YtfnbodjmmkjlcaaW.PrintMore
attribute [local go_sem] max2_int min2_int max_two min_two max_three min_three max_four min_four   -- for this text's walks alone
set_option linter.unusedVariables false
set_option linter.unusedSimpArgs false

mutual
def jalousieref08_Check.l0 : Nat → List (S47) → Int → Int → Option (Int)
 | 0, _, _, _ => none
 | k + 1, x0, x3, x4 => if x4 < (x0.length : Int) then (if 0 ≤ x4 then (if (((rd_T47 x0 x4).f1).length : Int) > (wrap64 (800 - x3)) then (some 4) else (jalousieref08_Check.l0 k x0 (wrap64 (x3 + (((rd_T47 x0 x4).f1).length : Int))) (wrap64 (x4 + 1)))) else (none)) else (jalousieref08_Check.l1 k x0 0)
def jalousieref08_Check.l1 : Nat → List (S47) → Int → Option (Int)
 | 0, _, _ => none
 | k + 1, x0, x5 => if x5 < (x0.length : Int) then (if 0 ≤ x5 then (if ((rd_T47 x0 x5).f0) = 1 then (jalousieref08_Check.l1 k x0 (wrap64 (x5 + 1))) else (if ((rd_T47 x0 x5).f0) = 2 then (jalousieref08_Check.l1 k x0 (wrap64 (x5 + 1))) else (if ((rd_T47 x0 x5).f0) = 3 then (jalousieref08_Check.l1 k x0 (wrap64 (x5 + 1))) else (some 3)))) else (none)) else (some 0)
end
def jalousieref08_Check.f (k : Nat) (l0 : List (S47)) : Option (Int) := if (l0.length : Int) > 800 then (some 4) else (jalousieref08_Check.l0 k l0 0 0)
set_option maxHeartbeats 8000000 in
set_option maxRecDepth 100000 in
theorem jalousieref08_Check.calls (k : Nat) (A0 : Option Addr) (c0 : Nat) (l0 : List (S47)) (r : Int) (w : World) (hr0 : Kd.C k47 w A0 l0.length l0) (hc0 : l0.length ≤ c0) (h : jalousieref08_Check.f k l0 = some r) :
  Calls Try.prog 26 #[.slice A0 l0.length c0] w fun e w' => e = .returned (.int .i64 r) ∧ Drawn0 w w' := by
 have HR0 := Aside0.mk hr0
 have HC0 := Aside0.mk hc0
 clear hr0 hc0
 have H : (if (l0.length : Int) > 800 then (some 4) else (jalousieref08_Check.l0 k l0 0 0)) = some r := h
 clear h
 by_cases c2 : (l0.length : Int) > 800
 ·rw [if_pos c2] at H
  have c2b0 : decide (800 < (l0.length : Int)) = true := decide_eq_true c2
  have c2b1 : decide (800 < l0.length) = true := decide_eq_true (by omega)
  clear c2
  obtain rfl := Option.some.inj H
  go_enter Try.func26, Try.ntmps26
  go_wp2
  go_ret
  exact ⟨by first | rfl | (simp; done) | (simp [*]; done), by repeat (first | exact Drawn0.refl _ | apply Drawn0.step)⟩
 ·rw [if_neg c2] at H
  have c2b0 : decide (800 < (l0.length : Int)) = false := decide_eq_false c2
  have c2b1 : decide (800 < l0.length) = false := decide_eq_false (by omega)
  clear c2
  have H' := Aside0.mk H
  clear H
  go_enter Try.func26, Try.ntmps26
  go_wp2
  go_loopg [3, 4] k (fun kq v3 v4 w' => ∃ (x3_1 : Int) (x4_1 : Int), v3 = .int .i64 x3_1 ∧ v4 = .int .i64 x4_1 ∧ Aside0 (jalousieref08_Check.l0 kq l0 x3_1 x4_1 = some r) ∧ Aside0 (kq ≤ k) ∧ Drawn0 w w')
  case atStart => exact ⟨(0), (0), (by first | rfl | (simp; done) | (simp [*]; done)), (by first | rfl | (simp; done) | (simp [*]; done)), H', ⟨Nat.le_refl _⟩, by repeat (first | exact Drawn0.refl _ | apply Drawn0.step)⟩
  case round =>
   clear H'
   try clear c2
   try clear c2b0
   try clear c2b1
   try clear p2
   obtain ⟨x3_1, x4_1, rfl, rfl, HA, HK1, ⟨m1, rfl⟩⟩ := hrel
   cases gk with
   | zero => exact absurd HA.out (by simp [jalousieref08_Check.l0])
   | succ k1 =>
    have H := HA.out
    clear HA
    simp only [jalousieref08_Check.l0] at H
    by_cases c3 : x4_1 < (l0.length : Int)
    ·rw [if_pos c3] at H
     have c3b0 : decide (x4_1 < (l0.length : Int)) = true := decide_eq_true c3
     clear c3
     by_cases c4 : 0 ≤ x4_1
     ·rw [if_pos c4] at H
      have c4b0 : decide (0 ≤ x4_1) = true := decide_eq_true c4
      clear c4
      by_cases c5 : (((rd_T47 l0 x4_1).f1).length : Int) > (wrap64 (800 - x3_1))
      ·rw [if_pos c5] at H
       have c5b0 : decide ((wrap64 (800 - x3_1)) < (((rd_T47 l0 x4_1).f1).length : Int)) = true := decide_eq_true c5
       clear c5
       obtain rfl := Option.some.inj H
       have p229 : 0 ≤ (x4_1 : Int) := of_decide_eq_true (by first | (with_reducible assumption) | assumption)
       have q229 : x4_1 < (l0.length : Int) := of_decide_eq_true (by first | (with_reducible assumption) | assumption)
       obtain ⟨ad229, A229_1, c229_1, e229, hx229_0, hx229_1, hl229_1, hi229_1⟩ := at_T47 HR0.out x4_1 p229 q229
       cases e229
       have HR229_1 := Aside0.mk hi229_1
       have HC229_1 := Aside0.mk hl229_1
       clear hi229_1 hl229_1
       replace p229 := eq_true p229
       replace q229 := eq_true q229
       go_wp2
       go_ret
       exact ⟨by first | rfl | (simp; done) | (simp [*]; done), by repeat (first | exact Drawn0.refl _ | apply Drawn0.step)⟩
      ·rw [if_neg c5] at H
       have c5b0 : decide ((wrap64 (800 - x3_1)) < (((rd_T47 l0 x4_1).f1).length : Int)) = false := decide_eq_false c5
       clear c5
       have H' := Aside0.mk H
       clear H
       have p229 : 0 ≤ (x4_1 : Int) := of_decide_eq_true (by first | (with_reducible assumption) | assumption)
       have q229 : x4_1 < (l0.length : Int) := of_decide_eq_true (by first | (with_reducible assumption) | assumption)
       obtain ⟨ad229, A229_1, c229_1, e229, hx229_0, hx229_1, hl229_1, hi229_1⟩ := at_T47 HR0.out x4_1 p229 q229
       cases e229
       have HR229_1 := Aside0.mk hi229_1
       have HC229_1 := Aside0.mk hl229_1
       clear hi229_1 hl229_1
       replace p229 := eq_true p229
       replace q229 := eq_true q229
       have p230 : 0 ≤ (x4_1 : Int) := of_decide_eq_true (by first | (with_reducible assumption) | assumption)
       have q230 : x4_1 < (l0.length : Int) := of_decide_eq_true (by first | (with_reducible assumption) | assumption)
       obtain ⟨ad230, A230_1, c230_1, e230, hx230_0, hx230_1, hl230_1, hi230_1⟩ := at_T47 HR0.out x4_1 p230 q230
       obtain rfl : ad229 = ad230 := (by injection e230)
       have HR230_1 := Aside0.mk hi230_1
       have HC230_1 := Aside0.mk hl230_1
       clear hi230_1 hl230_1
       replace p230 := eq_true p230
       replace q230 := eq_true q230
       have ea_ := Option.some.inj (hx229_1.symm.trans hx230_1)
       injection ea_ with ea_ en_ ec_
       subst ea_
       subst ec_
       clear en_
       go_wp2
       go_roundg k1
       case measure => have := HK1.out; omega
       case rel => exact ⟨(wrap64 (x3_1 + (((rd_T47 l0 x4_1).f1).length : Int))), (wrap64 (x4_1 + 1)), (by first | rfl | (simp; done) | (simp [*]; done)), (by first | rfl | (simp; done) | (simp [*]; done)), H', ⟨by have := HK1.out; omega⟩, by repeat (first | exact Drawn0.refl _ | apply Drawn0.step)⟩
     ·rw [if_neg c4] at H
      exact absurd H (by simp)
    ·rw [if_neg c3] at H
     have c3b0 : decide (x4_1 < (l0.length : Int)) = false := decide_eq_false c3
     clear c3
     have H' := Aside0.mk H
     clear H
     go_wp2
     go_loopg [5] k1 (fun kq v5 w' => ∃ (x5_2 : Int), v5 = .int .i64 x5_2 ∧ Aside0 (jalousieref08_Check.l1 kq l0 x5_2 = some r) ∧ Aside0 (kq ≤ k1) ∧ Drawn0 w w')
     case atStart => exact ⟨(0), (by first | rfl | (simp; done) | (simp [*]; done)), H', ⟨Nat.le_refl _⟩, by repeat (first | exact Drawn0.refl _ | apply Drawn0.step)⟩
     case round =>
      clear H'
      try clear c2
      try clear c2b0
      try clear c2b1
      try clear p2
      try clear q2
      try clear hx2
      try clear c3
      try clear c3b0
      try clear c4
      try clear c4b0
      try clear c5
      try clear c5b0
      try clear hx229_0
      try clear hx229_1
      try clear hx230_0
      try clear hx230_1
      try clear p2
      try clear p229
      try clear p230
      try clear q229
      try clear q230
      obtain ⟨x5_2, rfl, HA, HK2, ⟨m2, rfl⟩⟩ := hrel
      cases gk with
      | zero => exact absurd HA.out (by simp [jalousieref08_Check.l1])
      | succ k2 =>
       have H := HA.out
       clear HA
       simp only [jalousieref08_Check.l1] at H
       by_cases c6 : x5_2 < (l0.length : Int)
       ·rw [if_pos c6] at H
        have c6b0 : decide (x5_2 < (l0.length : Int)) = true := decide_eq_true c6
        clear c6
        by_cases c7 : 0 ≤ x5_2
        ·rw [if_pos c7] at H
         have c7b0 : decide (0 ≤ x5_2) = true := decide_eq_true c7
         clear c7
         by_cases c8 : ((rd_T47 l0 x5_2).f0) = 1
         ·rw [if_pos c8] at H
          have c8b0 : (((rd_T47 l0 x5_2).f0) == 1) = true := beq_iff_eq.mpr c8
          have c8b1 : (((rd_T47 l0 x5_2).f0) != 1) = false := bne_eq_false_iff_eq.mpr c8
          clear c8
          have H' := Aside0.mk H
          clear H
          have p231 : 0 ≤ (x5_2 : Int) := of_decide_eq_true (by first | (with_reducible assumption) | assumption)
          have q231 : x5_2 < (l0.length : Int) := of_decide_eq_true (by first | (with_reducible assumption) | assumption)
          obtain ⟨ad231, A231_1, c231_1, e231, hx231_0, hx231_1, hl231_1, hi231_1⟩ := at_T47 HR0.out x5_2 p231 q231
          cases e231
          have HR231_1 := Aside0.mk hi231_1
          have HC231_1 := Aside0.mk hl231_1
          clear hi231_1 hl231_1
          replace p231 := eq_true p231
          replace q231 := eq_true q231
          go_wp2
          go_roundg k2
          case measure => have := HK1.out; have := HK2.out; omega
          case rel => exact ⟨(wrap64 (x5_2 + 1)), (by first | rfl | (simp; done) | (simp [*]; done)), H', ⟨by have := HK1.out; have := HK2.out; omega⟩, by repeat (first | exact Drawn0.refl _ | apply Drawn0.step)⟩
         ·rw [if_neg c8] at H
          have c8b0 : (((rd_T47 l0 x5_2).f0) == 1) = false := beq_eq_false_iff_ne.mpr c8
          have c8b1 : (((rd_T47 l0 x5_2).f0) != 1) = true := bne_iff_ne.mpr c8
          by_cases c9 : ((rd_T47 l0 x5_2).f0) = 2
          ·rw [if_pos c9] at H
           have c9b0 : (((rd_T47 l0 x5_2).f0) == 2) = true := beq_iff_eq.mpr c9
           have c9b1 : (((rd_T47 l0 x5_2).f0) != 2) = false := bne_eq_false_iff_eq.mpr c9
           clear c9
           have H' := Aside0.mk H
           clear H
           have p231 : 0 ≤ (x5_2 : Int) := of_decide_eq_true (by first | (with_reducible assumption) | assumption)
           have q231 : x5_2 < (l0.length : Int) := of_decide_eq_true (by first | (with_reducible assumption) | assumption)
           obtain ⟨ad231, A231_1, c231_1, e231, hx231_0, hx231_1, hl231_1, hi231_1⟩ := at_T47 HR0.out x5_2 p231 q231
           cases e231
           have HR231_1 := Aside0.mk hi231_1
           have HC231_1 := Aside0.mk hl231_1
           clear hi231_1 hl231_1
           replace p231 := eq_true p231
           replace q231 := eq_true q231
           have p232 : 0 ≤ (x5_2 : Int) := of_decide_eq_true (by first | (with_reducible assumption) | assumption)
           have q232 : x5_2 < (l0.length : Int) := of_decide_eq_true (by first | (with_reducible assumption) | assumption)
           obtain ⟨ad232, A232_1, c232_1, e232, hx232_0, hx232_1, hl232_1, hi232_1⟩ := at_T47 HR0.out x5_2 p232 q232
           obtain rfl : ad231 = ad232 := (by injection e232)
           have HR232_1 := Aside0.mk hi232_1
           have HC232_1 := Aside0.mk hl232_1
           clear hi232_1 hl232_1
           replace p232 := eq_true p232
           replace q232 := eq_true q232
           have ea_ := Option.some.inj (hx231_1.symm.trans hx232_1)
           injection ea_ with ea_ en_ ec_
           subst ea_
           subst ec_
           clear en_
           go_wp2
           go_roundg k2
           case measure => have := HK1.out; have := HK2.out; omega
           case rel => exact ⟨(wrap64 (x5_2 + 1)), (by first | rfl | (simp; done) | (simp [*]; done)), H', ⟨by have := HK1.out; have := HK2.out; omega⟩, by repeat (first | exact Drawn0.refl _ | apply Drawn0.step)⟩
          ·rw [if_neg c9] at H
           have c9b0 : (((rd_T47 l0 x5_2).f0) == 2) = false := beq_eq_false_iff_ne.mpr c9
           have c9b1 : (((rd_T47 l0 x5_2).f0) != 2) = true := bne_iff_ne.mpr c9
           by_cases c10 : ((rd_T47 l0 x5_2).f0) = 3
           ·rw [if_pos c10] at H
            have c10b0 : (((rd_T47 l0 x5_2).f0) == 3) = true := beq_iff_eq.mpr c10
            have c10b1 : (((rd_T47 l0 x5_2).f0) != 3) = false := bne_eq_false_iff_eq.mpr c10
            clear c10
            have H' := Aside0.mk H
            clear H
            have p231 : 0 ≤ (x5_2 : Int) := of_decide_eq_true (by first | (with_reducible assumption) | assumption)
            have q231 : x5_2 < (l0.length : Int) := of_decide_eq_true (by first | (with_reducible assumption) | assumption)
            obtain ⟨ad231, A231_1, c231_1, e231, hx231_0, hx231_1, hl231_1, hi231_1⟩ := at_T47 HR0.out x5_2 p231 q231
            cases e231
            have HR231_1 := Aside0.mk hi231_1
            have HC231_1 := Aside0.mk hl231_1
            clear hi231_1 hl231_1
            replace p231 := eq_true p231
            replace q231 := eq_true q231
            have p232 : 0 ≤ (x5_2 : Int) := of_decide_eq_true (by first | (with_reducible assumption) | assumption)
            have q232 : x5_2 < (l0.length : Int) := of_decide_eq_true (by first | (with_reducible assumption) | assumption)
            obtain ⟨ad232, A232_1, c232_1, e232, hx232_0, hx232_1, hl232_1, hi232_1⟩ := at_T47 HR0.out x5_2 p232 q232
            obtain rfl : ad231 = ad232 := (by injection e232)
            have HR232_1 := Aside0.mk hi232_1
            have HC232_1 := Aside0.mk hl232_1
            clear hi232_1 hl232_1
            replace p232 := eq_true p232
            replace q232 := eq_true q232
            have ea_ := Option.some.inj (hx231_1.symm.trans hx232_1)
            injection ea_ with ea_ en_ ec_
            subst ea_
            subst ec_
            clear en_
            have p233 : 0 ≤ (x5_2 : Int) := of_decide_eq_true (by first | (with_reducible assumption) | assumption)
            have q233 : x5_2 < (l0.length : Int) := of_decide_eq_true (by first | (with_reducible assumption) | assumption)
            obtain ⟨ad233, A233_1, c233_1, e233, hx233_0, hx233_1, hl233_1, hi233_1⟩ := at_T47 HR0.out x5_2 p233 q233
            obtain rfl : ad231 = ad233 := (by injection e233)
            have HR233_1 := Aside0.mk hi233_1
            have HC233_1 := Aside0.mk hl233_1
            clear hi233_1 hl233_1
            replace p233 := eq_true p233
            replace q233 := eq_true q233
            have ea_ := Option.some.inj (hx231_1.symm.trans hx233_1)
            injection ea_ with ea_ en_ ec_
            subst ea_
            subst ec_
            clear en_
            go_wp2
            go_roundg k2
            case measure => have := HK1.out; have := HK2.out; omega
            case rel => exact ⟨(wrap64 (x5_2 + 1)), (by first | rfl | (simp; done) | (simp [*]; done)), H', ⟨by have := HK1.out; have := HK2.out; omega⟩, by repeat (first | exact Drawn0.refl _ | apply Drawn0.step)⟩
           ·rw [if_neg c10] at H
            have c10b0 : (((rd_T47 l0 x5_2).f0) == 3) = false := beq_eq_false_iff_ne.mpr c10
            have c10b1 : (((rd_T47 l0 x5_2).f0) != 3) = true := bne_iff_ne.mpr c10
            obtain rfl := Option.some.inj H
            have p231 : 0 ≤ (x5_2 : Int) := of_decide_eq_true (by first | (with_reducible assumption) | assumption)
            have q231 : x5_2 < (l0.length : Int) := of_decide_eq_true (by first | (with_reducible assumption) | assumption)
            obtain ⟨ad231, A231_1, c231_1, e231, hx231_0, hx231_1, hl231_1, hi231_1⟩ := at_T47 HR0.out x5_2 p231 q231
            cases e231
            have HR231_1 := Aside0.mk hi231_1
            have HC231_1 := Aside0.mk hl231_1
            clear hi231_1 hl231_1
            replace p231 := eq_true p231
            replace q231 := eq_true q231
            have p232 : 0 ≤ (x5_2 : Int) := of_decide_eq_true (by first | (with_reducible assumption) | assumption)
            have q232 : x5_2 < (l0.length : Int) := of_decide_eq_true (by first | (with_reducible assumption) | assumption)
            obtain ⟨ad232, A232_1, c232_1, e232, hx232_0, hx232_1, hl232_1, hi232_1⟩ := at_T47 HR0.out x5_2 p232 q232
            obtain rfl : ad231 = ad232 := (by injection e232)
            have HR232_1 := Aside0.mk hi232_1
            have HC232_1 := Aside0.mk hl232_1
            clear hi232_1 hl232_1
            replace p232 := eq_true p232
            replace q232 := eq_true q232
            have ea_ := Option.some.inj (hx231_1.symm.trans hx232_1)
            injection ea_ with ea_ en_ ec_
            subst ea_
            subst ec_
            clear en_
            have p233 : 0 ≤ (x5_2 : Int) := of_decide_eq_true (by first | (with_reducible assumption) | assumption)
            have q233 : x5_2 < (l0.length : Int) := of_decide_eq_true (by first | (with_reducible assumption) | assumption)
            obtain ⟨ad233, A233_1, c233_1, e233, hx233_0, hx233_1, hl233_1, hi233_1⟩ := at_T47 HR0.out x5_2 p233 q233
            obtain rfl : ad231 = ad233 := (by injection e233)
            have HR233_1 := Aside0.mk hi233_1
            have HC233_1 := Aside0.mk hl233_1
            clear hi233_1 hl233_1
            replace p233 := eq_true p233
            replace q233 := eq_true q233
            have ea_ := Option.some.inj (hx231_1.symm.trans hx233_1)
            injection ea_ with ea_ en_ ec_
            subst ea_
            subst ec_
            clear en_
            go_wp2
            go_ret
            exact ⟨by first | rfl | (simp; done) | (simp [*]; done), by repeat (first | exact Drawn0.refl _ | apply Drawn0.step)⟩
        ·rw [if_neg c7] at H
         exact absurd H (by simp)
       ·rw [if_neg c6] at H
        have c6b0 : decide (x5_2 < (l0.length : Int)) = false := decide_eq_false c6
        clear c6
        obtain rfl := Option.some.inj H
        go_wp2
        go_ret
        exact ⟨by first | rfl | (simp; done) | (simp [*]; done), by repeat (first | exact Drawn0.refl _ | apply Drawn0.step)⟩

end Go.Proofs.Ytfnbodjmmkjlcaa.H
end
section
namespace Go.Proofs.Ytfnbodjmmkjlcaa.H
open Go.RowKit Go.Proofs.YtfnbodjmmkjlcaaW.PrintWords Go.Proofs.YtfnbodjmmkjlcaaW.PrintLast Go.Proofs.YtfnbodjmmkjlcaaW.PrintMore
attribute [local go_sem] max2_int min2_int max_two min_two max_three min_three max_four min_four   -- for this text's walks alone
set_option linter.unusedVariables false
set_option linter.unusedSimpArgs false

def jalousieref08_lay.p (s : List S47) (d : Int) (l : List S66) : List S47 := if l.length = 0 then s else s ++ [⟨d, l⟩]
set_option maxHeartbeats 4000000 in
set_option maxRecDepth 100000 in
theorem jalousieref08_lay.owned (B : Nat) (ok : Nat → Prop) (s : List S47) (d : Int) (l : List S66) (vs : Value) (A : Option Addr) (c : Nat) (w : World) (hs : Kd.S k47 47 w B ok vs s) (hfr : ∀ k, w.heap.size ≤ k → ok k)
  (hl : Kd.C k66 w A l.length l) (hc : l.length ≤ c) (h1 : s.length ≤ 1000000000) (h2 : l.length ≤ 1000000000) (hB : B ≤ w.heap.size) :
  Calls Try.prog 53 #[vs, .int .i64 d, .slice A l.length c] w fun e w' => ∃ v1 : Value, e = .returned v1 ∧ Kd.S k47 47 w' B ok v1 (jalousieref08_lay.p s d l) ∧ w.grownBy w' vs.ownBlock ∧ (v1.ownBlock = vs.ownBlock ∨ ∃ b, v1.ownBlock = some b ∧ w.heap.size ≤ b) ∧ Below B w w' := by
 obtain ⟨A1, c1, rfl⟩ := Kd.R_slice (Kd.S_R hs)
 have HS := Aside0.mk hs
 have HL := Aside0.mk hl
 have HC := Aside0.mk hc
 by_cases hl0 : l.length = 0
 ·have hl0' : (((l.length : Nat) : Int) == 0) = true := beq_iff_eq.mpr (by omega)
  have hr : jalousieref08_lay.p s d l = s := if_pos hl0
  rw [hr]
  clear hr hs hl hc
  go_enter Try.func53, Try.ntmps53
  go_wp2
  go_ret
  exact ⟨_, rfl, HS.out, grown_of_below (Below.refl _ _) _, .inl rfl, Below.refl _ _⟩
 ·have hl0' : (((l.length : Nat) : Int) == 0) = false := beq_eq_false_iff_ne.mpr (by omega)
  have hr : jalousieref08_lay.p s d l = s ++ [⟨d, l⟩] := if_neg hl0
  rw [hr]
  clear hr hs hl hc hl0
  go_enter Try.func53, Try.ntmps53
  go_wp2_with (first | ((with_reducible refine gate_dst (N := 13) rfl ?_); refine Kd.R_lit k66 w.heap.size 66 ?hg (N := 13) ?hd (xs := []) (inner := []) (ok := fun _ => True) (okp := fun _ => True) ?hr ?hp (fun _ hk => hk) trivial (Below.refl w.heap.size w) (Nat.le_refl _) (by simp) ?_; (case hd => rfl); (case hg => rfl); (case hr => first | (go_simp; done) | (go_simp; rfl)); (case hp => exact Reps.none _ _); intro v1 w1 ho hb hg_ hnew_; have HO := Aside0.mk ho; have HB1 := Aside0.mk hb; clear ho hb hg_ hnew_) | ((with_reducible refine gate_builtin (b := .append) (xs := #[.tmp 13, .tmp 14]) rfl ?_); at_builtin; refine Kd.R_append_rows k66 (w0 := w) w.heap.size rfl (.tmp 13) (.tmp 14) 37 66 (.agg #[(.string ⟨#[]⟩), (.bool false)]) 24 rfl Try.underlying37 info66 rfl (by decide) (by omega) v1 [] l _ _ _ (fun _ => True) (fun _ => False) rfl rfl HO.out (Kd.C_below HL.out HB1.out) (fun _ _ h => h) (fun _ h => h.elim) (fun _ _ => trivial) HB1.out HB1.out.size ?aL ?_; (case aL => simp only [List.length_nil]; omega); intro v2 w2 ho hb hg hat; obtain ⟨A2, c2, rfl⟩ := Kd.R_slice ho; have HO2 := Aside0.mk ho; have HB2 := Aside0.mk hb; clear ho hb hg hat) | ((with_reducible refine gate_builtin (b := .append) (xs := #[.tmp 11, .tmp 17]) rfl ?_); at_builtin; refine Kd.S_append k47 (w0 := w) B rfl (.tmp 11) (.tmp 17) 22 47 (.agg #[(.int .i64 0), (.slice none 0 0)]) 32 rfl Try.underlying22 info47 rfl (by decide) (by omega) (.slice A1 s.length c1) s (⟨d, l⟩ : S47) [.int .i64 d, .slice A2 l.length c2] ok (fun k => w.heap.size ≤ k ∧ k < w2.heap.size) rfl rfl ?aP ?aK ?aF ?aO ?aB ?aS ?aL ?_; (case aP => exact k47_mkM _ _ _ (⟨d, l⟩ : S47) (Kd.R_lower (Kd.R_mono (Kd.R_bound HO2.out) (fun k hk => ⟨hk.2.1, hk.2.2.1⟩)) hB)); (case aK => exact fun k hk => ⟨hfr k hk.1, fun e => by have := Kd.S_lt HS.out k e.symm; omega⟩); (case aF => exact fun k hk => hfr k (Nat.le_trans HB2.out.size hk)); (case aO => exact Kd.S_mono (Kd.S_below (Kd.S_bound HS.out) HB2.out) (fun k hk => ⟨hk.1, fun h => by have := hk.2.2.1; omega⟩)); (case aB => exact HB2.out.mono hB); (case aS => exact Nat.le_trans hB HB2.out.size); (case aL => omega); intro v4 w4 ho hb hg hat))
  go_ret
  refine ⟨_, rfl, ho, ?_, ?_, hb⟩
  ·exact World.grownBy.trans (grown_of_below HB2.out _) hg
  ·rcases hat with h | ⟨b, h, h'⟩
   ·exact .inl h
   ·exact .inr ⟨b, h, Nat.le_trans HB2.out.size h'⟩


end Go.Proofs.Ytfnbodjmmkjlcaa.H
end
section
namespace Go.Proofs.Ytfnbodjmmkjlcaa.H
open Go.RowKit Go.Proofs.YtfnbodjmmkjlcaaW.PrintWords Go.Proofs.YtfnbodjmmkjlcaaW.PrintLast Go.Proofs.YtfnbodjmmkjlcaaW.PrintMore
attribute [local go_sem] max2_int min2_int max_two min_two max_three min_three max_four min_four   -- for this text's walks alone
set_option linter.unusedVariables false
set_option linter.unusedSimpArgs false

structure jalousieref08_Normal.Q where
 out : List S47
 keep : List S66
 gone : List S66
 made : List S66
def jalousieref08_Normal.fin (q : jalousieref08_Normal.Q) : List S47 := jalousieref08_lay.p (jalousieref08_lay.p (jalousieref08_lay.p q.out 1 q.keep) 2 q.gone) 3 q.made
def jalousieref08_Normal.pre (q : jalousieref08_Normal.Q) (x : S47) : jalousieref08_Normal.Q :=
 if x.f0 = 1 ∧ 0 < x.f1.length ∧ 0 < q.gone.length + q.made.length then ⟨jalousieref08_Normal.fin q, [], [], []⟩ else q
def jalousieref08_Normal.add (q : jalousieref08_Normal.Q) (x : S47) : jalousieref08_Normal.Q :=
 if x.f0 = 1 then ⟨q.out, q.keep ++ x.f1, q.gone, q.made⟩ else if x.f0 = 2 then ⟨q.out, q.keep, q.gone ++ x.f1, q.made⟩ else if x.f0 = 3 then ⟨q.out, q.keep, q.gone, q.made ++ x.f1⟩ else q
def jalousieref08_Normal.all (l : List S47) : jalousieref08_Normal.Q := l.foldl (fun q x => jalousieref08_Normal.add (jalousieref08_Normal.pre q x) x) ⟨[], [], [], []⟩
def jalousieref08_Normal.f (k : Nat) (l0 : List S47) : Option (List S47 × Int) :=
 (jalousieref08_Check.f k l0).bind fun e => if e = 0 then (if l0.length ≤ 1000000 ∧ (l0.map (fun e => e.f1.length)).sum ≤ 1000000 then some (jalousieref08_Normal.fin (jalousieref08_Normal.all l0), 0) else none) else some ([], e)
theorem jalousieref08_Normal.fin_len (q : jalousieref08_Normal.Q) : (jalousieref08_Normal.fin q).length ≤ q.out.length + 3 := by
 unfold jalousieref08_Normal.fin jalousieref08_lay.p
 repeat' split
 all_goals simp <;> omega
theorem jalousieref08_Normal.all_len (l : List S47) : ∀ n : Nat, (jalousieref08_Normal.all (l.take n)).out.length ≤ 3 * n ∧ (jalousieref08_Normal.all (l.take n)).keep.length + (jalousieref08_Normal.all (l.take n)).gone.length + (jalousieref08_Normal.all (l.take n)).made.length ≤ ((l.take n).map (fun e => e.f1.length)).sum
 | 0 => by simp [jalousieref08_Normal.all]
 | n + 1 => by
  have ih := jalousieref08_Normal.all_len l n
  rcases Nat.lt_or_ge n l.length with h | h
  ·rw [List.take_succ_eq_append_getElem h]
   have e : jalousieref08_Normal.all (l.take n ++ [l[n]]) = jalousieref08_Normal.add (jalousieref08_Normal.pre (jalousieref08_Normal.all (l.take n)) l[n]) l[n] := by
    rw [jalousieref08_Normal.all, List.foldl_append]
    rfl
   rw [e, List.map_append, List.sum_append]
   generalize jalousieref08_Normal.all (l.take n) = q at ih ⊢
   generalize l[n] = x
   have hf := jalousieref08_Normal.fin_len q
   have hp : (jalousieref08_Normal.pre q x).out.length ≤ 3 * n + 3 ∧ (jalousieref08_Normal.pre q x).keep.length + (jalousieref08_Normal.pre q x).gone.length + (jalousieref08_Normal.pre q x).made.length ≤ ((l.take n).map (fun e => e.f1.length)).sum := by
    unfold jalousieref08_Normal.pre
    split
    ·exact ⟨by simp only; omega, by simp⟩
    ·exact ⟨by omega, ih.2⟩
   generalize jalousieref08_Normal.pre q x = p at hp ⊢
   unfold jalousieref08_Normal.add
   simp only [List.map_cons, List.map_nil, List.sum_cons, List.sum_nil]
   repeat' split
   all_goals first | (simp only [List.length_append]; omega) | omega
  ·rw [List.take_of_length_le (by omega)]
   rw [List.take_of_length_le h] at ih
   omega
def jalousieref08_Normal.N4 (B : Nat) (W : World) (vo vk vg vm : Value) (q : jalousieref08_Normal.Q) : Prop :=
 Kd.S k47 47 W B (fun k => (some k ≠ vk.ownBlock ∧ some k ≠ vg.ownBlock) ∧ some k ≠ vm.ownBlock) vo q.out ∧ Kd.R k66 66 W B (fun k => some k ≠ vg.ownBlock ∧ some k ≠ vm.ownBlock) vk q.keep ∧
 Kd.R k66 66 W B (fun k => some k ≠ vk.ownBlock ∧ some k ≠ vm.ownBlock) vg q.gone ∧ Kd.R k66 66 W B (fun k => some k ≠ vk.ownBlock ∧ some k ≠ vg.ownBlock) vm q.made
section
variable {B : Nat} {W W1 : World} {vo vk vg vm v1 : Value} {q : jalousieref08_Normal.Q} {ys : List S66} {out : List S47}
theorem jalousieref08_Normal.N4.putk (h : jalousieref08_Normal.N4 B W vo vk vg vm q) (hr : Kd.R k66 66 W1 B (fun k => some k ≠ vg.ownBlock ∧ some k ≠ vm.ownBlock) v1 ys) (hg : W.grownBy W1 vk.ownBlock) (hat : v1.ownBlock = vk.ownBlock ∨ ∃ b, v1.ownBlock = some b ∧ W.heap.size ≤ b) :
  jalousieref08_Normal.N4 B W1 vo v1 vg vm ⟨q.out, ys, q.gone, q.made⟩ :=
 ⟨Kd.S_mono (Kd.S_after (ok := fun k => some k ≠ vg.ownBlock ∧ some k ≠ vm.ownBlock) (Kd.S_mono h.1 (fun _ hk => ⟨⟨hk.1.2, hk.2⟩, hk.1.1⟩)) hg hat) (fun _ hk => ⟨⟨hk.2, hk.1.1⟩, hk.1.2⟩), hr,
  Kd.R_mono (Kd.R_after (ok := fun k => some k ≠ vm.ownBlock) (Kd.R_mono h.2.2.1 (fun _ hk => ⟨hk.2, hk.1⟩)) hg hat) (fun _ hk => ⟨hk.2, hk.1⟩),
  Kd.R_mono (Kd.R_after (ok := fun k => some k ≠ vg.ownBlock) (Kd.R_mono h.2.2.2 (fun _ hk => ⟨hk.2, hk.1⟩)) hg hat) (fun _ hk => ⟨hk.2, hk.1⟩)⟩
theorem jalousieref08_Normal.N4.putg (h : jalousieref08_Normal.N4 B W vo vk vg vm q) (hr : Kd.R k66 66 W1 B (fun k => some k ≠ vk.ownBlock ∧ some k ≠ vm.ownBlock) v1 ys) (hg : W.grownBy W1 vg.ownBlock) (hat : v1.ownBlock = vg.ownBlock ∨ ∃ b, v1.ownBlock = some b ∧ W.heap.size ≤ b) :
  jalousieref08_Normal.N4 B W1 vo vk v1 vm ⟨q.out, q.keep, ys, q.made⟩ :=
 ⟨Kd.S_mono (Kd.S_after (ok := fun k => some k ≠ vk.ownBlock ∧ some k ≠ vm.ownBlock) (Kd.S_mono h.1 (fun _ hk => ⟨⟨hk.1.1, hk.2⟩, hk.1.2⟩)) hg hat) (fun _ hk => ⟨⟨hk.1.1, hk.2⟩, hk.1.2⟩),
  Kd.R_mono (Kd.R_after (ok := fun k => some k ≠ vm.ownBlock) (Kd.R_mono h.2.1 (fun _ hk => ⟨hk.2, hk.1⟩)) hg hat) (fun _ hk => ⟨hk.2, hk.1⟩), hr,
  Kd.R_mono (Kd.R_after (ok := fun k => some k ≠ vk.ownBlock) (Kd.R_mono h.2.2.2 (fun _ hk => ⟨hk.1, hk.2⟩)) hg hat) (fun _ hk => ⟨hk.1, hk.2⟩)⟩
theorem jalousieref08_Normal.N4.putm (h : jalousieref08_Normal.N4 B W vo vk vg vm q) (hr : Kd.R k66 66 W1 B (fun k => some k ≠ vk.ownBlock ∧ some k ≠ vg.ownBlock) v1 ys) (hg : W.grownBy W1 vm.ownBlock) (hat : v1.ownBlock = vm.ownBlock ∨ ∃ b, v1.ownBlock = some b ∧ W.heap.size ≤ b) :
  jalousieref08_Normal.N4 B W1 vo vk vg v1 ⟨q.out, q.keep, q.gone, ys⟩ :=
 ⟨Kd.S_after (ok := fun k => some k ≠ vk.ownBlock ∧ some k ≠ vg.ownBlock) h.1 hg hat,
  Kd.R_after (ok := fun k => some k ≠ vg.ownBlock) h.2.1 hg hat, Kd.R_after (ok := fun k => some k ≠ vk.ownBlock) h.2.2.1 hg hat, hr⟩
theorem jalousieref08_Normal.N4.puto (h : jalousieref08_Normal.N4 B W vo vk vg vm q) (hr : Kd.S k47 47 W1 B (fun k => (some k ≠ vk.ownBlock ∧ some k ≠ vg.ownBlock) ∧ some k ≠ vm.ownBlock) v1 out) (hg : W.grownBy W1 vo.ownBlock) :
  jalousieref08_Normal.N4 B W1 v1 vk vg vm ⟨out, q.keep, q.gone, q.made⟩ :=
 ⟨hr, Kd.R_over' h.2.1 (Kd.S_typed h.1) (by decide) hg, Kd.R_over' h.2.2.1 (Kd.S_typed h.1) (by decide) hg, Kd.R_over' h.2.2.2 (Kd.S_typed h.1) (by decide) hg⟩
theorem jalousieref08_Normal.N4.fresh (h : jalousieref08_Normal.N4 B W vo vk vg vm q) : ∀ k, W.heap.size ≤ k → (some k ≠ vk.ownBlock ∧ some k ≠ vg.ownBlock) ∧ some k ≠ vm.ownBlock := fun k hk =>
 ⟨⟨fun e => by have := Kd.R_lt h.2.1 k e.symm; omega, fun e => by have := Kd.R_lt h.2.2.1 k e.symm; omega⟩, fun e => by have := Kd.R_lt h.2.2.2 k e.symm; omega⟩
theorem jalousieref08_Normal.N4.clear (h : jalousieref08_Normal.N4 B W vo vk vg vm q) : jalousieref08_Normal.N4 B W vo (.slice none 0 0) (.slice none 0 0) (.slice none 0 0) ⟨q.out, [], [], []⟩ :=
 ⟨Kd.S_mono h.1 (fun _ _ => by simp [Value.ownBlock]), Kd.R_nil _ _ _ _ _, Kd.R_nil _ _ _ _ _, Kd.R_nil _ _ _ _ _⟩
end
theorem jalousieref08_Normal.empty {α : Type} (d : Kd α) (W : World) (B g e : Nat) (ok : Nat → Prop) (h : W.heap[g]? = some (.cells #[] e (0, 0))) (hB : B ≤ g) (hok : ok g) (hs : 0 < d.sz) : d.R e W B ok (.slice (some ⟨g, 0, none⟩) 0 0) [] := by
 refine ⟨fun k hk => ?_, [], ⟨by simp, .inr ⟨g, 0, #[], rfl, hB, h, Nat.le_refl _, by omega, by simp, by simp⟩⟩, Reps.none _ _⟩
 have : g = k := by simpa [Value.ownBlock] using hk
 exact this ▸ hok
theorem jalousieref08_Normal.lay_len (s : List S47) (d : Int) (l : List S66) : (jalousieref08_lay.p s d l).length ≤ s.length + 1 := by
 unfold jalousieref08_lay.p
 split <;> simp
theorem jalousieref08_Normal.four (w1 : World) (a b c d : Obj) : ((((w1.alloc a).alloc b).alloc c).alloc d).heap[w1.heap.size]? = some a ∧ ((((w1.alloc a).alloc b).alloc c).alloc d).heap[w1.heap.size + 1]? = some b ∧ ((((w1.alloc a).alloc b).alloc c).alloc d).heap[w1.heap.size + 1 + 1]? = some c ∧ ((((w1.alloc a).alloc b).alloc c).alloc d).heap[w1.heap.size + 1 + 1 + 1]? = some d := by
 have h0 := World.alloc_heap_new w1 a
 have h1 := World.alloc_heap_new (w1.alloc a) b
 have h2 := World.alloc_heap_new ((w1.alloc a).alloc b) c
 have h3 := World.alloc_heap_new (((w1.alloc a).alloc b).alloc c) d
 simp only [World.size_alloc] at h1 h2 h3
 exact ⟨blk_alloc (blk_alloc (blk_alloc h0 _) _) _, blk_alloc (blk_alloc h1 _) _, blk_alloc h2 _, h3⟩
set_option maxHeartbeats 4000000 in
set_option maxRecDepth 100000 in
theorem jalousieref08_Normal.calls (k : Nat) (A0 : Option Addr) (c0 : Nat) (l0 : List S47) (r1 : List S47) (r2 : Int) (w : World) (hr0 : Kd.C k47 w A0 l0.length l0) (hc0 : l0.length ≤ c0) (h : jalousieref08_Normal.f k l0 = some (r1, r2)) :
  Calls Try.prog 23 #[.slice A0 l0.length c0] w fun e w' => ∃ v0_ : Value, e = .returned (.tuple #[v0_, .int .i64 r2]) ∧ Kd.S k47 47 w' w.heap.size (fun _ => True) v0_ r1 ∧ Below w.heap.size w w' := by
 unfold jalousieref08_Normal.f at h
 obtain ⟨e0, hE, h⟩ := Option.bind_eq_some_iff.1 h
 have HE := Aside0.mk (jalousieref08_Check.calls k A0 c0 l0 e0 w hr0 hc0 hE)
 have HC0 := Aside0.mk hr0
 have Hc0 := Aside0.mk hc0
 clear hE hr0 hc0
 by_cases he0 : e0 = 0
 ·subst he0
  rw [if_pos rfl] at h
  split at h
  case isFalse => cases h
  rename_i hsz
  obtain ⟨hs1, hs2⟩ := hsz
  have hr := Option.some.inj h
  simp only [Prod.mk.injEq] at hr
  obtain ⟨hr1, rfl⟩ := hr
  have HR1 := Aside0.mk hr1
  clear h hr1
  go_enter Try.func23, Try.ntmps23
  go_wp2_with (go_at_call 26; refine HE.out.mono ?_; rintro e w1 ⟨rfl, hD⟩; have HB := Aside0.mk hD.below; clear hD)
  go_loopw [5, 6, 7, 8, 9] (fun vo vk vg vm vi wr => ∃ n : Nat, n ≤ l0.length ∧ vi = .int .i64 (n : Int) ∧ jalousieref08_Normal.N4 w.heap.size wr vo vk vg vm (jalousieref08_Normal.all (l0.take n)) ∧ Below w.heap.size w wr)
   (fun _ _ _ _ vi _ => l0.length - (intOf vi).toNat)
  case atStart =>
   have hs := HB.out.size
   obtain ⟨q0, q1, q2, q3⟩ := jalousieref08_Normal.four w1 (.cells #[] 47) (.cells #[] 66) (.cells #[] 66) (.cells #[] 66)
   refine ⟨0, Nat.zero_le _, rfl, ⟨⟨fun _ => 0, jalousieref08_Normal.empty _ _ _ _ _ _ q0 hs ?_ (by decide)⟩, jalousieref08_Normal.empty _ _ _ _ _ _ q1 (by omega) ?_ (by decide), jalousieref08_Normal.empty _ _ _ _ _ _ q2 (by omega) ?_ (by decide), jalousieref08_Normal.empty _ _ _ _ _ _ q3 (by omega) ?_ (by decide)⟩, ?_⟩
   case refine_5 => exact (((HB.out.alloc hs _).alloc (by rw [World.size_alloc]; omega) _).alloc (by simp only [World.size_alloc]; omega) _).alloc (by simp only [World.size_alloc]; omega) _
   all_goals simp only [Value.ownBlock, ne_eq, Option.some.injEq]; omega
  case round =>
   obtain ⟨n, hn, rfl, hN, hBr⟩ := hrel
   by_cases hlt : n < l0.length
   ·have hx : rd_T47 l0 (n : Int) = l0[n] := by
     simp [rd_T47, hlt]
    have hlt' : decide ((n : Int) < (l0.length : Int)) = true := decide_eq_true (by omega)
    have hlt2 : ((n : Int) < (l0.length : Int)) = True := eq_true (by omega)
    have hlen := jalousieref08_Normal.all_len l0 n
    have hlen2 := jalousieref08_Normal.all_len l0 (n + 1)
    have hsum : ((l0.take n).map (fun e => e.f1.length)).sum + (rd_T47 l0 (n : Int)).f1.length ≤ 1000000 := by
     have e1 := congrArg (fun l => (l.map (fun e : S47 => e.f1.length)).sum) (List.take_append_drop n l0)
     simp only [List.map_append, List.sum_append] at e1
     rw [List.drop_eq_getElem_cons hlt, List.map_cons, List.sum_cons, ← hx] at e1
     omega
    have hall : jalousieref08_Normal.all (l0.take (n + 1)) = jalousieref08_Normal.add (jalousieref08_Normal.pre (jalousieref08_Normal.all (l0.take n)) (rd_T47 l0 (n : Int))) (rd_T47 l0 (n : Int)) := by
     rw [List.take_succ_eq_append_getElem hlt, jalousieref08_Normal.all, List.foldl_append, hx]
     rfl
    obtain ⟨ad, A1, c1, e, hx0, hx1, hl5, hC1⟩ := at_T47 HC0.out (n : Int) (by omega) (by omega)
    cases e
    simp only [Int.toNat_natCast] at hx0 hx1
    have HX0w := Aside0.mk hx0
    have HX1w := Aside0.mk hx1
    replace hx0 := (hBr.cell (World.block_lt_of_cell? w _ hx0)).trans hx0
    replace hx1 := (hBr.cell (World.block_lt_of_cell? w _ hx1)).trans hx1
    have hsl : l0.length ≤ 9223372036854775807 := HC0.out.2.1
    have HWn : Aside0 (wrap64 ((n : Int) + 1) = ((n + 1 : Nat) : Int)) := ⟨by unfold wrap64; omega⟩
    have HC1 := Aside0.mk hC1
    generalize hqq : jalousieref08_Normal.all (l0.take n) = q at hN hlen hall
    obtain ⟨out, keep, gone, made⟩ := q
    obtain ⟨Ak, ck, rfl⟩ := Kd.R_slice hN.2.1
    obtain ⟨Ag, cg, rfl⟩ := Kd.R_slice hN.2.2.1
    obtain ⟨Am, cm, rfl⟩ := Kd.R_slice hN.2.2.2
    obtain ⟨Ao, co, rfl⟩ := Kd.R_slice (Kd.S_R hN.1)
    simp only at hlen
    have Hall := Aside0.mk hall
    have HN := Aside0.mk hN
    have HB := Aside0.mk hBr
    have Hqq := Aside0.mk hqq
    clear hx hall hN hBr hC1 hl5 hqq
    have hg64 : wrap64 ((gone.length : Int) + (made.length : Int)) = ((gone.length + made.length : Nat) : Int) := by unfold wrap64; omega
    have Hg64 := Aside0.mk hg64
    clear hg64
    by_cases h1 : (rd_T47 l0 (n : Int)).f0 = 1
    ·have h1' : ((rd_T47 l0 (n : Int)).f0 == 1) = true := beq_iff_eq.mpr h1
     by_cases hl : 0 < (rd_T47 l0 (n : Int)).f1.length
     ·have hl' : decide (0 < (rd_T47 l0 (n : Int)).f1.length) = true := decide_eq_true hl
      by_cases hgm : 0 < gone.length + made.length
      ·have hgm' : decide (0 < gone.length + made.length) = true := decide_eq_true hgm
       have hgm2 : (0 < (gone.length : Int) + (made.length : Int)) = True := eq_true (by omega)
       have HA : Aside0 (jalousieref08_Normal.all (l0.take (n + 1)) = ⟨jalousieref08_Normal.fin ⟨out, keep, gone, made⟩, [] ++ (rd_T47 l0 (n : Int)).f1, [], []⟩) := ⟨by
        rw [Hall.out]
        unfold jalousieref08_Normal.pre
        rw [if_pos ⟨h1, hl, hgm⟩]
        unfold jalousieref08_Normal.add
        rw [if_pos h1]⟩
       clear h1 hl hgm
       go_wp2_with (first | (go_at_call 53; have hcl := jalousieref08_lay.owned w.heap.size _ out 1 keep (.slice Ao out.length co) _ _ wr HN.out.1 HN.out.fresh (Kd.R_reads' HN.out.2.1).2.2 (Kd.R_reads' HN.out.2.1).2.1 (by omega) (by omega) HB.out.size; with_reducible refine hcl.mono ?_; clear hcl; rintro e wa ⟨va, rfl, hsa, hga, _, hba⟩; obtain ⟨Aa, ca, rfl⟩ := Kd.R_slice (Kd.S_R hsa); have HNa := Aside0.mk (HN.out.puto hsa hga); have HBa := Aside0.mk (HB.out.trans (hba)); clear hsa hga hba) | (go_at_call 53; have hcl := jalousieref08_lay.owned w.heap.size _ (jalousieref08_lay.p out 1 keep) 2 gone (.slice Aa (jalousieref08_lay.p out 1 keep).length ca) _ _ wa HNa.out.1 HNa.out.fresh (Kd.R_reads' HNa.out.2.2.1).2.2 (Kd.R_reads' HNa.out.2.2.1).2.1 (by have := jalousieref08_Normal.lay_len out 1 keep; have := jalousieref08_Normal.lay_len (jalousieref08_lay.p out 1 keep) 2 gone; omega) (by omega) HBa.out.size; with_reducible refine hcl.mono ?_; clear hcl; rintro e wb ⟨vb, rfl, hsb, hgb, _, hbb⟩; obtain ⟨Ab, cb, rfl⟩ := Kd.R_slice (Kd.S_R hsb); have HNb := Aside0.mk (HNa.out.puto hsb hgb); have HBb := Aside0.mk (HBa.out.trans (hbb)); clear hsb hgb hbb) | (go_at_call 53; have hcl := jalousieref08_lay.owned w.heap.size _ (jalousieref08_lay.p (jalousieref08_lay.p out 1 keep) 2 gone) 3 made (.slice Ab (jalousieref08_lay.p (jalousieref08_lay.p out 1 keep) 2 gone).length cb) _ _ wb HNb.out.1 HNb.out.fresh (Kd.R_reads' HNb.out.2.2.2).2.2 (Kd.R_reads' HNb.out.2.2.2).2.1 (by have := jalousieref08_Normal.lay_len out 1 keep; have := jalousieref08_Normal.lay_len (jalousieref08_lay.p out 1 keep) 2 gone; omega) (by omega) HBb.out.size; with_reducible refine hcl.mono ?_; clear hcl; rintro e wd ⟨vd, rfl, hsd, hgd, _, hbd⟩; obtain ⟨Ad, cd, rfl⟩ := Kd.R_slice (Kd.S_R hsd); have HNd := Aside0.mk (HNb.out.puto hsd hgd); have HBd := Aside0.mk (HBb.out.trans (hbd)); clear hsd hgd hbd; have hx0d := (HBd.out.cell (World.block_lt_of_cell? w _ HX0w.out)).trans HX0w.out) | ((with_reducible refine gate_dst (N := 67) rfl ?_); refine Kd.event_run (w1 := wd) (v := .slice A1 (rd_T47 l0 (n : Int)).f1.length c1) ?hg ?hr ?_; (case hg => rfl); (case hr => have hx1d := (HBd.out.cell (World.block_lt_of_cell? w _ HX1w.out)).trans HX1w.out; first | (go_simp; done) | (go_simp; rfl)); obtain ⟨u6, hu6⟩ : ∃ u : Value, u = .slice none 0 0 := ⟨_, rfl⟩; rw [← hu6]; have U6 := Aside0.mk hu6; have HNe : Aside0 (jalousieref08_Normal.N4 w.heap.size wd (.slice Ad (jalousieref08_Normal.fin ⟨out, keep, gone, made⟩).length cd) u6 u6 u6 ⟨jalousieref08_Normal.fin ⟨out, keep, gone, made⟩, [], [], []⟩) := ⟨by rw [U6.out]; exact HNd.out.clear⟩; clear HNd hu6) | ((with_reducible refine gate_builtin (b := .append) (xs := #[.tmp 62, .tmp 67]) rfl ?_); at_builtin; refine Kd.R_append_rows k66 (w0 := w) w.heap.size rfl (.tmp 62) (.tmp 67) 37 66 (.agg #[(.string ⟨#[]⟩), (.bool false)]) 24 rfl Try.underlying37 info66 rfl (by decide) (by omega) u6 [] (rd_T47 l0 (n : Int)).f1 _ _ _ _ (fun _ => False) rfl rfl HNe.out.2.1 (Kd.C_below HC1.out HBd.out) (fun _ _ h => h) (fun _ h => h.elim) (fun k hk => ⟨(HNe.out.fresh k hk).1.2, (HNe.out.fresh k hk).2⟩) HBd.out HBd.out.size ?aL ?_; (case aL => (try simp only [List.length_nil]); omega); intro v9 w9 ho9 hb9 hg9 hat9; have HN9 := Aside0.mk (HNe.out.putk ho9 hg9 hat9); have HB9 := Aside0.mk hb9; clear ho9 hb9 hg9 hat9))
       go_roundw
       case rel => exact ⟨_, _, _, _, _, ⟨n + 1, by omega, by first | rfl | exact congrArg _ HWn.out, by rw [HA.out]; exact HN9.out, HB9.out⟩, U6.out, rfl, rfl, rfl, rfl, rfl⟩
       case measure =>
        try rw [HWn.out]
        simp only [intOf, Int.toNat_natCast]
        omega
      ·have hgm' : decide (0 < gone.length + made.length) = false := decide_eq_false hgm
       have hgm2 : (0 < (gone.length : Int) + (made.length : Int)) = False := eq_false (by omega)
       have HA : Aside0 (jalousieref08_Normal.all (l0.take (n + 1)) = ⟨out, keep ++ (rd_T47 l0 (n : Int)).f1, gone, made⟩) := ⟨by
        rw [Hall.out]
        unfold jalousieref08_Normal.pre
        rw [if_neg (fun h => hgm h.2.2)]
        unfold jalousieref08_Normal.add
        rw [if_pos h1]⟩
       clear h1 hl hgm
       go_wp2_with ((with_reducible refine gate_builtin (b := .append) (xs := #[.tmp 62, .tmp 67]) rfl ?_); at_builtin; refine Kd.R_append_rows k66 (w0 := w) w.heap.size rfl (.tmp 62) (.tmp 67) 37 66 (.agg #[(.string ⟨#[]⟩), (.bool false)]) 24 rfl Try.underlying37 info66 rfl (by decide) (by omega) (.slice Ak keep.length ck) keep (rd_T47 l0 (n : Int)).f1 _ _ _ _ (fun _ => False) rfl rfl HN.out.2.1 (Kd.C_below HC1.out HB.out) (fun _ _ h => h) (fun _ h => h.elim) (fun k hk => ⟨(HN.out.fresh k hk).1.2, (HN.out.fresh k hk).2⟩) HB.out HB.out.size ?aL ?_; (case aL => (try simp only [List.length_nil]); omega); intro v9 w9 ho9 hb9 hg9 hat9; have HN9 := Aside0.mk (HN.out.putk ho9 hg9 hat9); have HB9 := Aside0.mk hb9; clear ho9 hb9 hg9 hat9)
       go_roundw
       case rel => exact ⟨n + 1, by omega, by first | rfl | exact congrArg _ HWn.out, by rw [HA.out]; exact HN9.out, HB9.out⟩
       case measure =>
        try rw [HWn.out]
        simp only [intOf, Int.toNat_natCast]
        omega
     ·have hl' : decide (0 < (rd_T47 l0 (n : Int)).f1.length) = false := decide_eq_false hl
      have HA : Aside0 (jalousieref08_Normal.all (l0.take (n + 1)) = ⟨out, keep ++ (rd_T47 l0 (n : Int)).f1, gone, made⟩) := ⟨by
       rw [Hall.out]
       unfold jalousieref08_Normal.pre
       rw [if_neg (fun h => hl h.2.1)]
       unfold jalousieref08_Normal.add
       rw [if_pos h1]⟩
      clear h1 hl
      go_wp2_with ((with_reducible refine gate_builtin (b := .append) (xs := #[.tmp 62, .tmp 67]) rfl ?_); at_builtin; refine Kd.R_append_rows k66 (w0 := w) w.heap.size rfl (.tmp 62) (.tmp 67) 37 66 (.agg #[(.string ⟨#[]⟩), (.bool false)]) 24 rfl Try.underlying37 info66 rfl (by decide) (by omega) (.slice Ak keep.length ck) keep (rd_T47 l0 (n : Int)).f1 _ _ _ _ (fun _ => False) rfl rfl HN.out.2.1 (Kd.C_below HC1.out HB.out) (fun _ _ h => h) (fun _ h => h.elim) (fun k hk => ⟨(HN.out.fresh k hk).1.2, (HN.out.fresh k hk).2⟩) HB.out HB.out.size ?aL ?_; (case aL => (try simp only [List.length_nil]); omega); intro v9 w9 ho9 hb9 hg9 hat9; have HN9 := Aside0.mk (HN.out.putk ho9 hg9 hat9); have HB9 := Aside0.mk hb9; clear ho9 hb9 hg9 hat9)
      go_roundw
      case rel => exact ⟨n + 1, by omega, by first | rfl | exact congrArg _ HWn.out, by rw [HA.out]; exact HN9.out, HB9.out⟩
      case measure =>
       try rw [HWn.out]
       simp only [intOf, Int.toNat_natCast]
       omega
    ·have h1' : ((rd_T47 l0 (n : Int)).f0 == 1) = false := beq_eq_false_iff_ne.mpr h1
     by_cases h2 : (rd_T47 l0 (n : Int)).f0 = 2
     ·have h2' : ((rd_T47 l0 (n : Int)).f0 == 2) = true := beq_iff_eq.mpr h2
      have HA : Aside0 (jalousieref08_Normal.all (l0.take (n + 1)) = ⟨out, keep, gone ++ (rd_T47 l0 (n : Int)).f1, made⟩) := ⟨by
      rw [Hall.out]
      unfold jalousieref08_Normal.pre
      rw [if_neg (fun h => h1 h.1)]
      unfold jalousieref08_Normal.add
      rw [if_neg h1, if_pos h2]⟩
      clear h1 h2
      go_wp2_with ((with_reducible refine gate_builtin (b := .append) (xs := #[.tmp 71, .tmp 76]) rfl ?_); at_builtin; refine Kd.R_append_rows k66 (w0 := w) w.heap.size rfl (.tmp 71) (.tmp 76) 37 66 (.agg #[(.string ⟨#[]⟩), (.bool false)]) 24 rfl Try.underlying37 info66 rfl (by decide) (by omega) (.slice Ag gone.length cg) gone (rd_T47 l0 (n : Int)).f1 _ _ _ _ (fun _ => False) rfl rfl HN.out.2.2.1 (Kd.C_below HC1.out HB.out) (fun _ _ h => h) (fun _ h => h.elim) (fun k hk => ⟨(HN.out.fresh k hk).1.1, (HN.out.fresh k hk).2⟩) HB.out HB.out.size ?aL ?_; (case aL => (try simp only [List.length_nil]); omega); intro v9 w9 ho9 hb9 hg9 hat9; have HN9 := Aside0.mk (HN.out.putg ho9 hg9 hat9); have HB9 := Aside0.mk hb9; clear ho9 hb9 hg9 hat9)
      go_roundw
      case rel => exact ⟨n + 1, by omega, by first | rfl | exact congrArg _ HWn.out, by rw [HA.out]; exact HN9.out, HB9.out⟩
      case measure =>
       try rw [HWn.out]
       simp only [intOf, Int.toNat_natCast]
       omega
     ·have h2' : ((rd_T47 l0 (n : Int)).f0 == 2) = false := beq_eq_false_iff_ne.mpr h2
      by_cases h3 : (rd_T47 l0 (n : Int)).f0 = 3
      ·have h3' : ((rd_T47 l0 (n : Int)).f0 == 3) = true := beq_iff_eq.mpr h3
       have HA : Aside0 (jalousieref08_Normal.all (l0.take (n + 1)) = ⟨out, keep, gone, made ++ (rd_T47 l0 (n : Int)).f1⟩) := ⟨by
       rw [Hall.out]
       unfold jalousieref08_Normal.pre
       rw [if_neg (fun h => h1 h.1)]
       unfold jalousieref08_Normal.add
       rw [if_neg h1, if_neg h2, if_pos h3]⟩
       clear h1 h2 h3
       go_wp2_with ((with_reducible refine gate_builtin (b := .append) (xs := #[.tmp 80, .tmp 85]) rfl ?_); at_builtin; refine Kd.R_append_rows k66 (w0 := w) w.heap.size rfl (.tmp 80) (.tmp 85) 37 66 (.agg #[(.string ⟨#[]⟩), (.bool false)]) 24 rfl Try.underlying37 info66 rfl (by decide) (by omega) (.slice Am made.length cm) made (rd_T47 l0 (n : Int)).f1 _ _ _ _ (fun _ => False) rfl rfl HN.out.2.2.2 (Kd.C_below HC1.out HB.out) (fun _ _ h => h) (fun _ h => h.elim) (fun k hk => (HN.out.fresh k hk).1) HB.out HB.out.size ?aL ?_; (case aL => (try simp only [List.length_nil]); omega); intro v9 w9 ho9 hb9 hg9 hat9; have HN9 := Aside0.mk (HN.out.putm ho9 hg9 hat9); have HB9 := Aside0.mk hb9; clear ho9 hb9 hg9 hat9)
       go_roundw
       case rel => exact ⟨n + 1, by omega, by first | rfl | exact congrArg _ HWn.out, by rw [HA.out]; exact HN9.out, HB9.out⟩
       case measure =>
        try rw [HWn.out]
        simp only [intOf, Int.toNat_natCast]
        omega
      ·have h3' : ((rd_T47 l0 (n : Int)).f0 == 3) = false := beq_eq_false_iff_ne.mpr h3
       have HA : Aside0 (jalousieref08_Normal.all (l0.take (n + 1)) = ⟨out, keep, gone, made⟩) := ⟨by
       rw [Hall.out]
       unfold jalousieref08_Normal.pre
       rw [if_neg (fun h => h1 h.1)]
       unfold jalousieref08_Normal.add
       rw [if_neg h1, if_neg h2, if_neg h3]⟩
       clear h1 h2 h3
       go_wp2
       go_roundw
       case rel => exact ⟨n + 1, by omega, by first | rfl | exact congrArg _ HWn.out, by rw [HA.out]; exact HN.out, HB.out⟩
       case measure =>
        try rw [HWn.out]
        simp only [intOf, Int.toNat_natCast]
        omega
   ·obtain rfl : n = l0.length := by omega
    have hlt' : decide ((l0.length : Int) < (l0.length : Int)) = false := decide_eq_false (by omega)
    have hlen := jalousieref08_Normal.all_len l0 l0.length
    rw [List.take_length] at hN hlen
    unfold jalousieref08_Normal.all at hlen
    generalize hqq : jalousieref08_Normal.all l0 = q at hN
    have hqq' := hqq
    unfold jalousieref08_Normal.all at hqq'
    rw [hqq'] at hlen
    obtain ⟨out, keep, gone, made⟩ := q
    obtain ⟨Ak, ck, rfl⟩ := Kd.R_slice hN.2.1
    obtain ⟨Ag, cg, rfl⟩ := Kd.R_slice hN.2.2.1
    obtain ⟨Am, cm, rfl⟩ := Kd.R_slice hN.2.2.2
    obtain ⟨Ao, co, rfl⟩ := Kd.R_slice (Kd.S_R hN.1)
    simp only at hlen
    have HN := Aside0.mk hN
    have HB := Aside0.mk hBr
    have Hqq := Aside0.mk hqq
    clear hN hBr hqq hqq' hlt hn
    go_wp2_with (first | (go_at_call 53; have hcl := jalousieref08_lay.owned w.heap.size _ out 1 keep (.slice Ao out.length co) _ _ wr HN.out.1 HN.out.fresh (Kd.R_reads' HN.out.2.1).2.2 (Kd.R_reads' HN.out.2.1).2.1 (by omega) (by omega) HB.out.size; with_reducible refine hcl.mono ?_; clear hcl; rintro e wa ⟨va, rfl, hsa, hga, _, hba⟩; obtain ⟨Aa, ca, rfl⟩ := Kd.R_slice (Kd.S_R hsa); have HNa := Aside0.mk (HN.out.puto hsa hga); have HBa := Aside0.mk (HB.out.trans (hba)); clear hsa hga hba) | (go_at_call 53; have hcl := jalousieref08_lay.owned w.heap.size _ (jalousieref08_lay.p out 1 keep) 2 gone (.slice Aa (jalousieref08_lay.p out 1 keep).length ca) _ _ wa HNa.out.1 HNa.out.fresh (Kd.R_reads' HNa.out.2.2.1).2.2 (Kd.R_reads' HNa.out.2.2.1).2.1 (by have := jalousieref08_Normal.lay_len out 1 keep; have := jalousieref08_Normal.lay_len (jalousieref08_lay.p out 1 keep) 2 gone; omega) (by omega) HBa.out.size; with_reducible refine hcl.mono ?_; clear hcl; rintro e wb ⟨vb, rfl, hsb, hgb, _, hbb⟩; obtain ⟨Ab, cb, rfl⟩ := Kd.R_slice (Kd.S_R hsb); have HNb := Aside0.mk (HNa.out.puto hsb hgb); have HBb := Aside0.mk (HBa.out.trans (hbb)); clear hsb hgb hbb) | (go_at_call 53; have hcl := jalousieref08_lay.owned w.heap.size _ (jalousieref08_lay.p (jalousieref08_lay.p out 1 keep) 2 gone) 3 made (.slice Ab (jalousieref08_lay.p (jalousieref08_lay.p out 1 keep) 2 gone).length cb) _ _ wb HNb.out.1 HNb.out.fresh (Kd.R_reads' HNb.out.2.2.2).2.2 (Kd.R_reads' HNb.out.2.2.2).2.1 (by have := jalousieref08_Normal.lay_len out 1 keep; have := jalousieref08_Normal.lay_len (jalousieref08_lay.p out 1 keep) 2 gone; omega) (by omega) HBb.out.size; with_reducible refine hcl.mono ?_; clear hcl; rintro e wd ⟨vd, rfl, hsd, hgd, _, hbd⟩; obtain ⟨Ad, cd, rfl⟩ := Kd.R_slice (Kd.S_R hsd); have HNd := Aside0.mk (HNb.out.puto hsd hgd); have HBd := Aside0.mk (HBb.out.trans (hbd)); clear hsd hgd hbd))
    go_ret2
    have e2 : r1 = jalousieref08_Normal.fin ⟨out, keep, gone, made⟩ := by rw [← HR1.out, Hqq.out]
    rw [e2]
    exact ⟨_, rfl, Kd.S_mono HNd.out.1 (fun _ _ => trivial), HBd.out⟩
 ·rw [if_neg he0] at h
  have hr := Option.some.inj h
  simp only [Prod.mk.injEq] at hr
  obtain ⟨rfl, rfl⟩ := hr
  have hne : (e0 != 0) = true := bne_iff_ne.mpr he0
  clear h he0
  go_enter Try.func23, Try.ntmps23
  go_wp2_with (go_at_call 26; refine HE.out.mono ?_; rintro e w1 ⟨rfl, hD⟩)
  go_ret2
  exact ⟨_, rfl, Kd.S_nil _ _ _ _ _, hD.below⟩


end Go.Proofs.Ytfnbodjmmkjlcaa.H
end
section
namespace Go.Proofs.Ytfnbodjmmkjlcaa.H
open Go.RowKit Go.Proofs.YtfnbodjmmkjlcaaW.PrintWords Go.Proofs.YtfnbodjmmkjlcaaW.PrintLast Go.Proofs.YtfnbodjmmkjlcaaW.PrintMore
attribute [local go_sem] max2_int min2_int max_two min_two max_three min_three max_four min_four   -- for this text's walks alone
set_option linter.unusedVariables false
set_option linter.unusedSimpArgs false

attribute [local go_sem high] eqA66
def jalousieref01_Same.l0 : Nat → List (S66) → List (S66) → Int → Option (Bool)
 | 0, _, _, _ => none
 | k + 1, x0, x1, x5 => if x5 < (x0.length : Int) then (if 0 ≤ x5 then (if x5 < (x1.length : Int) then (if (!((((rd_T66 x0 x5).f0).toList) == (((rd_T66 x1 x5).f0).toList)) || (!(((rd_T66 x0 x5).f1) == ((rd_T66 x1 x5).f1)))) = true then (some false) else (jalousieref01_Same.l0 k x0 x1 (wrap64 (x5 + 1)))) else (none)) else (none)) else (some true)
def jalousieref01_Same.f (k : Nat) (l0 : List (S66)) (l1 : List (S66)) : Option (Bool) := if (l0.length : Int) = (l1.length : Int) then (jalousieref01_Same.l0 k l0 l1 0) else (some false)
set_option maxHeartbeats 8000000 in
set_option maxRecDepth 100000 in
theorem jalousieref01_Same.calls (k : Nat) (A0 : Option Addr) (c0 : Nat) (l0 : List (S66)) (A1 : Option Addr) (c1 : Nat) (l1 : List (S66)) (r : Bool) (w : World) (hr0 : Kd.C k66 w A0 l0.length l0) (hc0 : l0.length ≤ c0) (hr1 : Kd.C k66 w A1 l1.length l1) (hc1 : l1.length ≤ c1) (h : jalousieref01_Same.f k l0 l1 = some r) :
  Calls Try.prog 33 #[.slice A0 l0.length c0, .slice A1 l1.length c1] w fun e w' => e = .returned (.bool r) ∧ Drawn0 w w' := by
 have hu66 := Try.underlying66
 have HR0 := Aside0.mk hr0
 have HC0 := Aside0.mk hc0
 clear hr0 hc0
 have HR1 := Aside0.mk hr1
 have HC1 := Aside0.mk hc1
 clear hr1 hc1
 have H : (if (l0.length : Int) = (l1.length : Int) then (jalousieref01_Same.l0 k l0 l1 0) else (some false)) = some r := h
 clear h
 by_cases c3 : (l0.length : Int) = (l1.length : Int)
 ·rw [if_pos c3] at H
  have c3b0 : ((l0.length : Int) == (l1.length : Int)) = true := beq_iff_eq.mpr c3
  have c3b1 : ((l0.length : Int) != (l1.length : Int)) = false := bne_eq_false_iff_eq.mpr c3
  have c3b2 : (l0.length == l1.length) = true := by first | simpa using c3 | (simp at c3 ⊢; omega)
  clear c3
  have H' := Aside0.mk H
  clear H
  go_enter Try.func33, Try.ntmps33
  go_wp2
  repeat (go_quiet (fail); try go_wp2)
  go_loopg [5] k (fun kq v5 w' => ∃ (x5_1 : Int), v5 = .int .i64 x5_1 ∧ Aside0 (jalousieref01_Same.l0 kq l0 l1 x5_1 = some r) ∧ Aside0 (kq ≤ k) ∧ Drawn0 w w')
  case atStart => exact ⟨(0), (by first | rfl | (simp; done) | (simp [*]; done)), H', ⟨Nat.le_refl _⟩, by repeat (first | exact Drawn0.refl _ | apply Drawn0.step)⟩
  case round =>
   clear H'
   try clear c1
   try clear p2
   try clear c3
   try clear c3b0
   try clear c3b1
   try clear c3b2
   obtain ⟨x5_1, rfl, HA, HK1, ⟨m1, rfl⟩⟩ := hrel
   cases gk with
   | zero => exact absurd HA.out (by simp [jalousieref01_Same.l0])
   | succ k1 =>
    have H := HA.out
    clear HA
    simp only [jalousieref01_Same.l0] at H
    by_cases c4 : x5_1 < (l0.length : Int)
    ·rw [if_pos c4] at H
     have c4b0 : decide (x5_1 < (l0.length : Int)) = true := decide_eq_true c4
     clear c4
     by_cases c5 : 0 ≤ x5_1
     ·rw [if_pos c5] at H
      have c5b0 : decide (0 ≤ x5_1) = true := decide_eq_true c5
      clear c5
      by_cases c6 : x5_1 < (l1.length : Int)
      ·rw [if_pos c6] at H
       have c6b0 : decide (x5_1 < (l1.length : Int)) = true := decide_eq_true c6
       clear c6
       by_cases c7 : (!((((rd_T66 l0 x5_1).f0).toList) == (((rd_T66 l1 x5_1).f0).toList)) || (!(((rd_T66 l0 x5_1).f1) == ((rd_T66 l1 x5_1).f1)))) = true
       ·rw [if_pos c7] at H
        have c7b0 : (!((((rd_T66 l0 x5_1).f0).toList) == (((rd_T66 l1 x5_1).f0).toList)) || (!(((rd_T66 l0 x5_1).f1) == ((rd_T66 l1 x5_1).f1)))) = true := c7
        clear c7
        obtain rfl := Option.some.inj H
        have p248 : 0 ≤ (x5_1 : Int) := of_decide_eq_true (by first | (with_reducible assumption) | assumption)
        have q248 : x5_1 < (l0.length : Int) := of_decide_eq_true (by first | (with_reducible assumption) | assumption)
        obtain ⟨ad248, e248, hx248_0, hx248_1⟩ := at_T66 HR0.out x5_1 p248 q248
        cases e248
        replace p248 := eq_true p248
        replace q248 := eq_true q248
        have p249 : 0 ≤ (x5_1 : Int) := of_decide_eq_true (by first | (with_reducible assumption) | assumption)
        have q249 : x5_1 < (l1.length : Int) := of_decide_eq_true (by first | (with_reducible assumption) | assumption)
        obtain ⟨ad249, e249, hx249_0, hx249_1⟩ := at_T66 HR1.out x5_1 p249 q249
        cases e249
        replace p249 := eq_true p249
        replace q249 := eq_true q249
        go_wp2
        repeat (go_quiet (fail); try go_wp2)
        go_ret
        exact ⟨by first | rfl | (simp; done) | (simp [*]; done), by repeat (first | exact Drawn0.refl _ | apply Drawn0.step)⟩
       ·rw [if_neg c7] at H
        have c7b0 : (!((((rd_T66 l0 x5_1).f0).toList) == (((rd_T66 l1 x5_1).f0).toList)) || (!(((rd_T66 l0 x5_1).f1) == ((rd_T66 l1 x5_1).f1)))) = false := by simpa using c7
        clear c7
        have H' := Aside0.mk H
        clear H
        have p248 : 0 ≤ (x5_1 : Int) := of_decide_eq_true (by first | (with_reducible assumption) | assumption)
        have q248 : x5_1 < (l0.length : Int) := of_decide_eq_true (by first | (with_reducible assumption) | assumption)
        obtain ⟨ad248, e248, hx248_0, hx248_1⟩ := at_T66 HR0.out x5_1 p248 q248
        cases e248
        replace p248 := eq_true p248
        replace q248 := eq_true q248
        have p249 : 0 ≤ (x5_1 : Int) := of_decide_eq_true (by first | (with_reducible assumption) | assumption)
        have q249 : x5_1 < (l1.length : Int) := of_decide_eq_true (by first | (with_reducible assumption) | assumption)
        obtain ⟨ad249, e249, hx249_0, hx249_1⟩ := at_T66 HR1.out x5_1 p249 q249
        cases e249
        replace p249 := eq_true p249
        replace q249 := eq_true q249
        go_wp2
        repeat (go_quiet (fail); try go_wp2)
        go_roundg k1
        case measure => have := HK1.out; omega
        case rel => exact ⟨(wrap64 (x5_1 + 1)), (by first | rfl | (simp; done) | (simp [*]; done)), H', ⟨by have := HK1.out; omega⟩, by repeat (first | exact Drawn0.refl _ | apply Drawn0.step)⟩
      ·rw [if_neg c6] at H
       exact absurd H (by simp)
     ·rw [if_neg c5] at H
      exact absurd H (by simp)
    ·rw [if_neg c4] at H
     have c4b0 : decide (x5_1 < (l0.length : Int)) = false := decide_eq_false c4
     clear c4
     obtain rfl := Option.some.inj H
     go_wp2
     repeat (go_quiet (fail); try go_wp2)
     go_ret
     exact ⟨by first | rfl | (simp; done) | (simp [*]; done), by repeat (first | exact Drawn0.refl _ | apply Drawn0.step)⟩
 ·rw [if_neg c3] at H
  have c3b0 : ((l0.length : Int) == (l1.length : Int)) = false := beq_eq_false_iff_ne.mpr c3
  have c3b1 : ((l0.length : Int) != (l1.length : Int)) = true := bne_iff_ne.mpr c3
  have c3b2 : (l0.length == l1.length) = false := by first | simpa using c3 | (simp at c3 ⊢; omega)
  obtain rfl := Option.some.inj H
  go_enter Try.func33, Try.ntmps33
  go_wp2
  repeat (go_quiet (fail); try go_wp2)
  go_ret
  exact ⟨by first | rfl | (simp; done) | (simp [*]; done), by repeat (first | exact Drawn0.refl _ | apply Drawn0.step)⟩

end Go.Proofs.Ytfnbodjmmkjlcaa.H
end
section
namespace Go.Proofs.Ytfnbodjmmkjlcaa.H
open Go.RowKit Go.Proofs.YtfnbodjmmkjlcaaW.PrintWords Go.Proofs.YtfnbodjmmkjlcaaW.PrintLast Go.Proofs.YtfnbodjmmkjlcaaW.PrintMore
attribute [local go_sem] max2_int min2_int max_two min_two max_three min_three max_four min_four   -- for this text's walks alone
set_option linter.unusedVariables false
set_option linter.unusedSimpArgs false

def jalousieref08_Same.l0 : Nat → List (S47) → List (S47) → Int → Option (Bool)
 | 0, _, _, _ => none
 | k + 1, x0, x1, x5 => if x5 < (x0.length : Int) then (if 0 ≤ x5 then (if x5 < (x1.length : Int) then (if ((rd_T47 x0 x5).f0) = ((rd_T47 x1 x5).f0) then ((jalousieref01_Same.f k ((rd_T47 x0 x5).f1) ((rd_T47 x1 x5).f1)).bind fun t254 => (if t254 = true then (jalousieref08_Same.l0 k x0 x1 (wrap64 (x5 + 1))) else (some false))) else (some false)) else (none)) else (none)) else (some true)
def jalousieref08_Same.f (k : Nat) (l0 : List (S47)) (l1 : List (S47)) : Option (Bool) := if (l0.length : Int) = (l1.length : Int) then (jalousieref08_Same.l0 k l0 l1 0) else (some false)
set_option maxHeartbeats 8000000 in
set_option maxRecDepth 100000 in
theorem jalousieref08_Same.calls (k : Nat) (A0 : Option Addr) (c0 : Nat) (l0 : List (S47)) (A1 : Option Addr) (c1 : Nat) (l1 : List (S47)) (r : Bool) (w : World) (hr0 : Kd.C k47 w A0 l0.length l0) (hc0 : l0.length ≤ c0) (hr1 : Kd.C k47 w A1 l1.length l1) (hc1 : l1.length ≤ c1) (h : jalousieref08_Same.f k l0 l1 = some r) :
  Calls Try.prog 20 #[.slice A0 l0.length c0, .slice A1 l1.length c1] w fun e w' => e = .returned (.bool r) ∧ Drawn0 w w' := by
 have HR0 := Aside0.mk hr0
 have HC0 := Aside0.mk hc0
 clear hr0 hc0
 have HR1 := Aside0.mk hr1
 have HC1 := Aside0.mk hc1
 clear hr1 hc1
 have H : (if (l0.length : Int) = (l1.length : Int) then (jalousieref08_Same.l0 k l0 l1 0) else (some false)) = some r := h
 clear h
 by_cases c3 : (l0.length : Int) = (l1.length : Int)
 ·rw [if_pos c3] at H
  have c3b0 : ((l0.length : Int) == (l1.length : Int)) = true := beq_iff_eq.mpr c3
  have c3b1 : ((l0.length : Int) != (l1.length : Int)) = false := bne_eq_false_iff_eq.mpr c3
  have c3b2 : (l0.length == l1.length) = true := by first | simpa using c3 | (simp at c3 ⊢; omega)
  clear c3
  have H' := Aside0.mk H
  clear H
  go_enter Try.func20, Try.ntmps20
  go_wp2
  repeat (go_quiet (fail); try go_wp2)
  go_loopg [5] k (fun kq v5 w' => ∃ (x5_1 : Int), v5 = .int .i64 x5_1 ∧ Aside0 (jalousieref08_Same.l0 kq l0 l1 x5_1 = some r) ∧ Aside0 (kq ≤ k) ∧ Drawn0 w w')
  case atStart => exact ⟨(0), (by first | rfl | (simp; done) | (simp [*]; done)), H', ⟨Nat.le_refl _⟩, by repeat (first | exact Drawn0.refl _ | apply Drawn0.step)⟩
  case round =>
   clear H'
   try clear c1
   try clear c2
   try clear p2
   try clear c3
   try clear c3b0
   try clear c3b1
   try clear c3b2
   obtain ⟨x5_1, rfl, HA, HK1, ⟨m1, rfl⟩⟩ := hrel
   cases gk with
   | zero => exact absurd HA.out (by simp [jalousieref08_Same.l0])
   | succ k1 =>
    have H := HA.out
    clear HA
    simp only [jalousieref08_Same.l0] at H
    by_cases c4 : x5_1 < (l0.length : Int)
    ·rw [if_pos c4] at H
     have c4b0 : decide (x5_1 < (l0.length : Int)) = true := decide_eq_true c4
     clear c4
     by_cases c5 : 0 ≤ x5_1
     ·rw [if_pos c5] at H
      have c5b0 : decide (0 ≤ x5_1) = true := decide_eq_true c5
      clear c5
      by_cases c6 : x5_1 < (l1.length : Int)
      ·rw [if_pos c6] at H
       have c6b0 : decide (x5_1 < (l1.length : Int)) = true := decide_eq_true c6
       clear c6
       by_cases c7 : ((rd_T47 l0 x5_1).f0) = ((rd_T47 l1 x5_1).f0)
       ·rw [if_pos c7] at H
        have c7b0 : (((rd_T47 l0 x5_1).f0) == ((rd_T47 l1 x5_1).f0)) = true := beq_iff_eq.mpr c7
        have c7b1 : (((rd_T47 l0 x5_1).f0) != ((rd_T47 l1 x5_1).f0)) = false := bne_eq_false_iff_eq.mpr c7
        clear c7
        replace H := Option.bind_eq_some_iff.mp H
        obtain ⟨t254, A80, H⟩ := H
        replace H : (if t254 = true then (jalousieref08_Same.l0 k1 l0 l1 (wrap64 (x5_1 + 1))) else (some false)) = some r := H
        have A8 := Aside0.mk A80
        clear A80
        by_cases c9 : t254 = true
        ·subst c9
         have H1 : (jalousieref08_Same.l0 k1 l0 l1 (wrap64 (x5_1 + 1))) = some r := by rw [if_pos rfl] at H; exact H
         clear H
         have H := H1
         clear H1
         have H' := Aside0.mk H
         clear H
         have p250 : 0 ≤ (x5_1 : Int) := of_decide_eq_true (by first | (with_reducible assumption) | assumption)
         have q250 : x5_1 < (l0.length : Int) := of_decide_eq_true (by first | (with_reducible assumption) | assumption)
         obtain ⟨ad250, A250_1, c250_1, e250, hx250_0, hx250_1, hl250_1, hi250_1⟩ := at_T47 HR0.out x5_1 p250 q250
         cases e250
         have HR250_1 := Aside0.mk hi250_1
         have HC250_1 := Aside0.mk hl250_1
         clear hi250_1 hl250_1
         replace p250 := eq_true p250
         replace q250 := eq_true q250
         have p251 : 0 ≤ (x5_1 : Int) := of_decide_eq_true (by first | (with_reducible assumption) | assumption)
         have q251 : x5_1 < (l1.length : Int) := of_decide_eq_true (by first | (with_reducible assumption) | assumption)
         obtain ⟨ad251, A251_1, c251_1, e251, hx251_0, hx251_1, hl251_1, hi251_1⟩ := at_T47 HR1.out x5_1 p251 q251
         cases e251
         have HR251_1 := Aside0.mk hi251_1
         have HC251_1 := Aside0.mk hl251_1
         clear hi251_1 hl251_1
         replace p251 := eq_true p251
         replace q251 := eq_true q251
         have p252 : 0 ≤ (x5_1 : Int) := of_decide_eq_true (by first | (with_reducible assumption) | assumption)
         have q252 : x5_1 < (l0.length : Int) := of_decide_eq_true (by first | (with_reducible assumption) | assumption)
         obtain ⟨ad252, A252_1, c252_1, e252, hx252_0, hx252_1, hl252_1, hi252_1⟩ := at_T47 HR0.out x5_1 p252 q252
         obtain rfl : ad250 = ad252 := (by injection e252)
         have HR252_1 := Aside0.mk hi252_1
         have HC252_1 := Aside0.mk hl252_1
         clear hi252_1 hl252_1
         replace p252 := eq_true p252
         replace q252 := eq_true q252
         have ea_ := Option.some.inj (hx250_1.symm.trans hx252_1)
         injection ea_ with ea_ en_ ec_
         subst ea_
         subst ec_
         clear en_
         have p253 : 0 ≤ (x5_1 : Int) := of_decide_eq_true (by first | (with_reducible assumption) | assumption)
         have q253 : x5_1 < (l1.length : Int) := of_decide_eq_true (by first | (with_reducible assumption) | assumption)
         obtain ⟨ad253, A253_1, c253_1, e253, hx253_0, hx253_1, hl253_1, hi253_1⟩ := at_T47 HR1.out x5_1 p253 q253
         obtain rfl : ad251 = ad253 := (by injection e253)
         have HR253_1 := Aside0.mk hi253_1
         have HC253_1 := Aside0.mk hl253_1
         clear hi253_1 hl253_1
         replace p253 := eq_true p253
         replace q253 := eq_true q253
         have ea_ := Option.some.inj (hx251_1.symm.trans hx253_1)
         injection ea_ with ea_ en_ ec_
         subst ea_
         subst ec_
         clear en_
         go_wp2_with (first | (go_at_call 33; (with_reducible refine (jalousieref01_Same.calls k1 _ _ ((rd_T47 l0 x5_1).f1) _ _ ((rd_T47 l1 x5_1).f1) true _ ?side1 ?side2 ?side3 ?side4 A8.out).mono ?_); (case side1 => repeat (first | exact HR252_1.out | (with_reducible refine Kd.C_alloc ?_ _) | (with_reducible refine Kd.C_drewN ?_ _) | (with_reducible refine Kd.C_drew ?_))); (case side2 => exact HC252_1.out); (case side3 => repeat (first | exact HR253_1.out | (with_reducible refine Kd.C_alloc ?_ _) | (with_reducible refine Kd.C_drewN ?_ _) | (with_reducible refine Kd.C_drew ?_))); (case side4 => exact HC253_1.out); rintro e w' ⟨rfl, ⟨nd, rfl⟩⟩; (try first | exact ⟨rfl, _, World.drewN_drewN _ _ _⟩ | exact ⟨rfl, _, Eq.trans (World.drewN_drewN _ _ _) (congrArg (World.drewN _) (Nat.add_assoc _ _ _))⟩)))
         repeat (go_quiet (first | (go_at_call 33; (with_reducible refine (jalousieref01_Same.calls k1 _ _ ((rd_T47 l0 x5_1).f1) _ _ ((rd_T47 l1 x5_1).f1) true _ ?side1 ?side2 ?side3 ?side4 A8.out).mono ?_); (case side1 => repeat (first | exact HR252_1.out | (with_reducible refine Kd.C_alloc ?_ _) | (with_reducible refine Kd.C_drewN ?_ _) | (with_reducible refine Kd.C_drew ?_))); (case side2 => exact HC252_1.out); (case side3 => repeat (first | exact HR253_1.out | (with_reducible refine Kd.C_alloc ?_ _) | (with_reducible refine Kd.C_drewN ?_ _) | (with_reducible refine Kd.C_drew ?_))); (case side4 => exact HC253_1.out); rintro e w' ⟨rfl, ⟨nd, rfl⟩⟩; (try first | exact ⟨rfl, _, World.drewN_drewN _ _ _⟩ | exact ⟨rfl, _, Eq.trans (World.drewN_drewN _ _ _) (congrArg (World.drewN _) (Nat.add_assoc _ _ _))⟩))); try go_wp2_with (first | (go_at_call 33; (with_reducible refine (jalousieref01_Same.calls k1 _ _ ((rd_T47 l0 x5_1).f1) _ _ ((rd_T47 l1 x5_1).f1) true _ ?side1 ?side2 ?side3 ?side4 A8.out).mono ?_); (case side1 => repeat (first | exact HR252_1.out | (with_reducible refine Kd.C_alloc ?_ _) | (with_reducible refine Kd.C_drewN ?_ _) | (with_reducible refine Kd.C_drew ?_))); (case side2 => exact HC252_1.out); (case side3 => repeat (first | exact HR253_1.out | (with_reducible refine Kd.C_alloc ?_ _) | (with_reducible refine Kd.C_drewN ?_ _) | (with_reducible refine Kd.C_drew ?_))); (case side4 => exact HC253_1.out); rintro e w' ⟨rfl, ⟨nd, rfl⟩⟩; (try first | exact ⟨rfl, _, World.drewN_drewN _ _ _⟩ | exact ⟨rfl, _, Eq.trans (World.drewN_drewN _ _ _) (congrArg (World.drewN _) (Nat.add_assoc _ _ _))⟩))))
         go_roundg k1
         case measure => have := HK1.out; omega
         case rel => exact ⟨(wrap64 (x5_1 + 1)), (by first | rfl | (simp; done) | (simp [*]; done)), H', ⟨by have := HK1.out; omega⟩, by repeat (first | exact Drawn0.refl _ | apply Drawn0.step)⟩
        ·replace c9 := Bool.eq_false_iff.mpr c9
         subst c9
         have H1 : (some false) = some r := by rw [if_neg (show ¬ (false = true) by decide)] at H; exact H
         clear H
         have H := H1
         clear H1
         obtain rfl := Option.some.inj H
         have p250 : 0 ≤ (x5_1 : Int) := of_decide_eq_true (by first | (with_reducible assumption) | assumption)
         have q250 : x5_1 < (l0.length : Int) := of_decide_eq_true (by first | (with_reducible assumption) | assumption)
         obtain ⟨ad250, A250_1, c250_1, e250, hx250_0, hx250_1, hl250_1, hi250_1⟩ := at_T47 HR0.out x5_1 p250 q250
         cases e250
         have HR250_1 := Aside0.mk hi250_1
         have HC250_1 := Aside0.mk hl250_1
         clear hi250_1 hl250_1
         replace p250 := eq_true p250
         replace q250 := eq_true q250
         have p251 : 0 ≤ (x5_1 : Int) := of_decide_eq_true (by first | (with_reducible assumption) | assumption)
         have q251 : x5_1 < (l1.length : Int) := of_decide_eq_true (by first | (with_reducible assumption) | assumption)
         obtain ⟨ad251, A251_1, c251_1, e251, hx251_0, hx251_1, hl251_1, hi251_1⟩ := at_T47 HR1.out x5_1 p251 q251
         cases e251
         have HR251_1 := Aside0.mk hi251_1
         have HC251_1 := Aside0.mk hl251_1
         clear hi251_1 hl251_1
         replace p251 := eq_true p251
         replace q251 := eq_true q251
         have p252 : 0 ≤ (x5_1 : Int) := of_decide_eq_true (by first | (with_reducible assumption) | assumption)
         have q252 : x5_1 < (l0.length : Int) := of_decide_eq_true (by first | (with_reducible assumption) | assumption)
         obtain ⟨ad252, A252_1, c252_1, e252, hx252_0, hx252_1, hl252_1, hi252_1⟩ := at_T47 HR0.out x5_1 p252 q252
         obtain rfl : ad250 = ad252 := (by injection e252)
         have HR252_1 := Aside0.mk hi252_1
         have HC252_1 := Aside0.mk hl252_1
         clear hi252_1 hl252_1
         replace p252 := eq_true p252
         replace q252 := eq_true q252
         have ea_ := Option.some.inj (hx250_1.symm.trans hx252_1)
         injection ea_ with ea_ en_ ec_
         subst ea_
         subst ec_
         clear en_
         have p253 : 0 ≤ (x5_1 : Int) := of_decide_eq_true (by first | (with_reducible assumption) | assumption)
         have q253 : x5_1 < (l1.length : Int) := of_decide_eq_true (by first | (with_reducible assumption) | assumption)
         obtain ⟨ad253, A253_1, c253_1, e253, hx253_0, hx253_1, hl253_1, hi253_1⟩ := at_T47 HR1.out x5_1 p253 q253
         obtain rfl : ad251 = ad253 := (by injection e253)
         have HR253_1 := Aside0.mk hi253_1
         have HC253_1 := Aside0.mk hl253_1
         clear hi253_1 hl253_1
         replace p253 := eq_true p253
         replace q253 := eq_true q253
         have ea_ := Option.some.inj (hx251_1.symm.trans hx253_1)
         injection ea_ with ea_ en_ ec_
         subst ea_
         subst ec_
         clear en_
         go_wp2_with (first | (go_at_call 33; (with_reducible refine (jalousieref01_Same.calls k1 _ _ ((rd_T47 l0 x5_1).f1) _ _ ((rd_T47 l1 x5_1).f1) false _ ?side1 ?side2 ?side3 ?side4 A8.out).mono ?_); (case side1 => repeat (first | exact HR252_1.out | (with_reducible refine Kd.C_alloc ?_ _) | (with_reducible refine Kd.C_drewN ?_ _) | (with_reducible refine Kd.C_drew ?_))); (case side2 => exact HC252_1.out); (case side3 => repeat (first | exact HR253_1.out | (with_reducible refine Kd.C_alloc ?_ _) | (with_reducible refine Kd.C_drewN ?_ _) | (with_reducible refine Kd.C_drew ?_))); (case side4 => exact HC253_1.out); rintro e w' ⟨rfl, ⟨nd, rfl⟩⟩; (try first | exact ⟨rfl, _, World.drewN_drewN _ _ _⟩ | exact ⟨rfl, _, Eq.trans (World.drewN_drewN _ _ _) (congrArg (World.drewN _) (Nat.add_assoc _ _ _))⟩)))
         repeat (go_quiet (first | (go_at_call 33; (with_reducible refine (jalousieref01_Same.calls k1 _ _ ((rd_T47 l0 x5_1).f1) _ _ ((rd_T47 l1 x5_1).f1) false _ ?side1 ?side2 ?side3 ?side4 A8.out).mono ?_); (case side1 => repeat (first | exact HR252_1.out | (with_reducible refine Kd.C_alloc ?_ _) | (with_reducible refine Kd.C_drewN ?_ _) | (with_reducible refine Kd.C_drew ?_))); (case side2 => exact HC252_1.out); (case side3 => repeat (first | exact HR253_1.out | (with_reducible refine Kd.C_alloc ?_ _) | (with_reducible refine Kd.C_drewN ?_ _) | (with_reducible refine Kd.C_drew ?_))); (case side4 => exact HC253_1.out); rintro e w' ⟨rfl, ⟨nd, rfl⟩⟩; (try first | exact ⟨rfl, _, World.drewN_drewN _ _ _⟩ | exact ⟨rfl, _, Eq.trans (World.drewN_drewN _ _ _) (congrArg (World.drewN _) (Nat.add_assoc _ _ _))⟩))); try go_wp2_with (first | (go_at_call 33; (with_reducible refine (jalousieref01_Same.calls k1 _ _ ((rd_T47 l0 x5_1).f1) _ _ ((rd_T47 l1 x5_1).f1) false _ ?side1 ?side2 ?side3 ?side4 A8.out).mono ?_); (case side1 => repeat (first | exact HR252_1.out | (with_reducible refine Kd.C_alloc ?_ _) | (with_reducible refine Kd.C_drewN ?_ _) | (with_reducible refine Kd.C_drew ?_))); (case side2 => exact HC252_1.out); (case side3 => repeat (first | exact HR253_1.out | (with_reducible refine Kd.C_alloc ?_ _) | (with_reducible refine Kd.C_drewN ?_ _) | (with_reducible refine Kd.C_drew ?_))); (case side4 => exact HC253_1.out); rintro e w' ⟨rfl, ⟨nd, rfl⟩⟩; (try first | exact ⟨rfl, _, World.drewN_drewN _ _ _⟩ | exact ⟨rfl, _, Eq.trans (World.drewN_drewN _ _ _) (congrArg (World.drewN _) (Nat.add_assoc _ _ _))⟩))))
         go_ret
         exact ⟨by first | rfl | (simp; done) | (simp [*]; done), by repeat (first | exact Drawn0.refl _ | apply Drawn0.step)⟩
       ·rw [if_neg c7] at H
        have c7b0 : (((rd_T47 l0 x5_1).f0) == ((rd_T47 l1 x5_1).f0)) = false := beq_eq_false_iff_ne.mpr c7
        have c7b1 : (((rd_T47 l0 x5_1).f0) != ((rd_T47 l1 x5_1).f0)) = true := bne_iff_ne.mpr c7
        obtain rfl := Option.some.inj H
        have p250 : 0 ≤ (x5_1 : Int) := of_decide_eq_true (by first | (with_reducible assumption) | assumption)
        have q250 : x5_1 < (l0.length : Int) := of_decide_eq_true (by first | (with_reducible assumption) | assumption)
        obtain ⟨ad250, A250_1, c250_1, e250, hx250_0, hx250_1, hl250_1, hi250_1⟩ := at_T47 HR0.out x5_1 p250 q250
        cases e250
        have HR250_1 := Aside0.mk hi250_1
        have HC250_1 := Aside0.mk hl250_1
        clear hi250_1 hl250_1
        replace p250 := eq_true p250
        replace q250 := eq_true q250
        have p251 : 0 ≤ (x5_1 : Int) := of_decide_eq_true (by first | (with_reducible assumption) | assumption)
        have q251 : x5_1 < (l1.length : Int) := of_decide_eq_true (by first | (with_reducible assumption) | assumption)
        obtain ⟨ad251, A251_1, c251_1, e251, hx251_0, hx251_1, hl251_1, hi251_1⟩ := at_T47 HR1.out x5_1 p251 q251
        cases e251
        have HR251_1 := Aside0.mk hi251_1
        have HC251_1 := Aside0.mk hl251_1
        clear hi251_1 hl251_1
        replace p251 := eq_true p251
        replace q251 := eq_true q251
        go_wp2
        repeat (go_quiet (fail); try go_wp2)
        go_ret
        exact ⟨by first | rfl | (simp; done) | (simp [*]; done), by repeat (first | exact Drawn0.refl _ | apply Drawn0.step)⟩
      ·rw [if_neg c6] at H
       exact absurd H (by simp)
     ·rw [if_neg c5] at H
      exact absurd H (by simp)
    ·rw [if_neg c4] at H
     have c4b0 : decide (x5_1 < (l0.length : Int)) = false := decide_eq_false c4
     clear c4
     obtain rfl := Option.some.inj H
     go_wp2
     repeat (go_quiet (fail); try go_wp2)
     go_ret
     exact ⟨by first | rfl | (simp; done) | (simp [*]; done), by repeat (first | exact Drawn0.refl _ | apply Drawn0.step)⟩
 ·rw [if_neg c3] at H
  have c3b0 : ((l0.length : Int) == (l1.length : Int)) = false := beq_eq_false_iff_ne.mpr c3
  have c3b1 : ((l0.length : Int) != (l1.length : Int)) = true := bne_iff_ne.mpr c3
  have c3b2 : (l0.length == l1.length) = false := by first | simpa using c3 | (simp at c3 ⊢; omega)
  obtain rfl := Option.some.inj H
  go_enter Try.func20, Try.ntmps20
  go_wp2
  repeat (go_quiet (fail); try go_wp2)
  go_ret
  exact ⟨by first | rfl | (simp; done) | (simp [*]; done), by repeat (first | exact Drawn0.refl _ | apply Drawn0.step)⟩

end Go.Proofs.Ytfnbodjmmkjlcaa.H
end
section
namespace Go.Proofs.Ytfnbodjmmkjlcaa.H
open Go.RowKit Go.Proofs.YtfnbodjmmkjlcaaW.PrintWords Go.Proofs.YtfnbodjmmkjlcaaW.PrintLast Go.Proofs.YtfnbodjmmkjlcaaW.PrintMore
attribute [local go_sem] max2_int min2_int max_two min_two max_three min_three max_four min_four   -- for this text's walks alone
set_option linter.unusedVariables false
set_option linter.unusedSimpArgs false

def jalousieref08_side.l0 : Nat → List (S47) → Int → List (S66) → Int → Option ((List (S66)))
 | 0, _, _, _, _ => none
 | k + 1, x0, x1, x5, x6 => if x6 < (x0.length : Int) then (if 0 ≤ x6 then (if ((rd_T47 x0 x6).f0) = x1 then (jalousieref08_side.l0 k x0 x1 x5 (wrap64 (x6 + 1))) else (if x5.length + ((rd_T47 x0 x6).f1).length < 5864062014805 then (jalousieref08_side.l0 k x0 x1 (x5 ++ ((rd_T47 x0 x6).f1)) (wrap64 (x6 + 1))) else (none))) else (none)) else (some x5)
def jalousieref08_side.f (k : Nat) (l0 : List (S47)) (a1 : Int) : Option ((List (S66))) := jalousieref08_side.l0 k l0 a1 (([] : List (S66))) 0
set_option maxHeartbeats 8000000 in
set_option maxRecDepth 100000 in
theorem jalousieref08_side.calls (k : Nat) (A0 : Option Addr) (c0 : Nat) (l0 : List (S47)) (a1 : Int) (r : List (S66)) (w : World) (hr0 : Kd.C k47 w A0 l0.length l0) (hc0 : l0.length ≤ c0) (h : jalousieref08_side.f k l0 a1 = some r) :
  Calls Try.prog 54 #[.slice A0 l0.length c0, .int .i64 a1] w fun e w' => ∃ v0_ : Value, e = .returned (v0_) ∧ Kd.R k66 66 w' w.heap.size (fun _ => True) v0_ r ∧ Below w.heap.size w w' := by
 have HR0 := Aside0.mk hr0
 have HC0 := Aside0.mk hc0
 clear hr0 hc0
 have HB := Aside0.mk (Below.refl w.heap.size w)
 have H : (jalousieref08_side.l0 k l0 a1 (([] : List (S66))) 0) = some r := h
 clear h
 obtain ⟨y267, hy267⟩ : ∃ y_ : List (S66), y_ = (([] : List (S66))) := ⟨_, rfl⟩
 replace H : (jalousieref08_side.l0 k l0 a1 y267 0) = some r := by first | (rw [hy267]; with_reducible exact H) | (have H2_ := (Option.bind_some _ _).symm.trans H; rw [hy267]; with_reducible exact H2_) | (have H2_ := (Option.bind_some _ _).symm.trans H; with_reducible exact H2_) | with_reducible exact H | (rw [hy267]; exact H) | exact H
 have Ny267 := Aside0.mk hy267
 clear hy267
 have H' := Aside0.mk H
 clear H
 go_enter Try.func54, Try.ntmps54
 go_wp2_with (first | ((with_reducible refine gate_dst (N := 7) rfl ?_); refine Kd.R_lit k66 _ 66 ?hg (N := 7) ?hd (xs := ([] : List (S66))) (inner := []) (ok := fun _ => True) (okp := fun _ => True) ?hr ?hp (fun _ hk => hk) trivial (Below.refl _ _) (Nat.le_refl _) (by simp) ?_; (case hd => rfl); (case hg => rfl); (case hr => first | (go_simp; done) | (go_simp; rfl)); (case hp => exact (Reps.none _ _)); intro v268 w3 ho4 hb hg_ hnew_; clear hg_ hnew_; (first | rw [← Ny267.out] at ho4 | (simp only [Int.reduceToNat] at ho4; rw [← Ny267.out] at ho4)); have n0_ := Aside0.mk (Kd.R_lower ho4 (below_size (by repeat (first | (with_reducible first | exact HB.out | apply below_alloc | apply pw_below_drewN | apply below_drew1) | exact HB.out)))); have n1_ := Aside0.mk (below_step (by repeat (first | (with_reducible first | exact HB.out | apply below_alloc | apply pw_below_drewN | apply below_drew1) | exact HB.out)) hb); clear HB; have HO269 := n0_; have HB := n1_; clear n0_ n1_; clear hb ho4))
 go_loopg [5, 6] k (fun kq v5 v6 w' => ∃ (x5_1 : List (S66)) (x6_1 : Int), v6 = .int .i64 x6_1 ∧ Aside0 (jalousieref08_side.l0 kq l0 a1 x5_1 x6_1 = some r) ∧ Aside0 (kq ≤ k) ∧ Aside0 (Kd.R k66 66 w' w.heap.size (fun _ => True) v5 x5_1) ∧ Aside0 (Below w.heap.size w w'))
 case atStart => exact ⟨(y267), (0), (by first | rfl | (simp; done) | (simp [*]; done)), H', ⟨Nat.le_refl _⟩, ⟨by (with_reducible repeat first|apply zr1|apply zr2|apply zr3); exact HO269.out⟩, ⟨by repeat (first | (with_reducible first | exact HB.out | apply below_alloc | apply pw_below_drewN | apply below_drew1) | exact HB.out)⟩⟩
 case round =>
  clear H'
  try clear p2
  obtain ⟨x5_1, x6_1, rfl, HA, HK1, HO_5, HB⟩ := hrel
  cases gk with
  | zero => exact absurd HA.out (by simp [jalousieref08_side.l0])
  | succ k1 =>
   have H := HA.out
   clear HA
   simp only [jalousieref08_side.l0] at H
   by_cases c5 : x6_1 < (l0.length : Int)
   ·rw [if_pos c5] at H
    have c5b0 : decide (x6_1 < (l0.length : Int)) = true := decide_eq_true c5
    clear c5
    by_cases c6 : 0 ≤ x6_1
    ·rw [if_pos c6] at H
     have c6b0 : decide (0 ≤ x6_1) = true := decide_eq_true c6
     clear c6
     by_cases c7 : ((rd_T47 l0 x6_1).f0) = a1
     ·rw [if_pos c7] at H
      have c7b0 : (((rd_T47 l0 x6_1).f0) == a1) = true := beq_iff_eq.mpr c7
      have c7b1 : (((rd_T47 l0 x6_1).f0) != a1) = false := bne_eq_false_iff_eq.mpr c7
      clear c7
      have H' := Aside0.mk H
      clear H
      have p270 : 0 ≤ (x6_1 : Int) := of_decide_eq_true (by first | (with_reducible assumption) | assumption)
      have q270 : x6_1 < (l0.length : Int) := of_decide_eq_true (by first | (with_reducible assumption) | assumption)
      obtain ⟨ad270, A270_1, c270_1, e270, hx270_0, hx270_1, hl270_1, hi270_1⟩ := at_T47 HR0.out x6_1 p270 q270
      cases e270
      replace hx270_0 := (HB.out.cell (World.block_lt_of_cell? w _ hx270_0)).trans hx270_0
      replace hx270_1 := (HB.out.cell (World.block_lt_of_cell? w _ hx270_1)).trans hx270_1
      have HR270_1 := Aside0.mk hi270_1
      have HC270_1 := Aside0.mk hl270_1
      clear hi270_1 hl270_1
      replace p270 := eq_true p270
      replace q270 := eq_true q270
      go_wp2
      go_roundg k1
      case measure => have := HK1.out; omega
      case rel => exact ⟨(x5_1), (wrap64 (x6_1 + 1)), (by first | rfl | (simp; done) | (simp [*]; done)), H', ⟨by have := HK1.out; omega⟩, ⟨by (with_reducible repeat first|apply zr1|apply zr2|apply zr3); exact HO_5.out⟩, ⟨by repeat (first | (with_reducible first | exact HB.out | apply below_alloc | apply pw_below_drewN | apply below_drew1) | exact HB.out)⟩⟩
     ·rw [if_neg c7] at H
      have c7b0 : (((rd_T47 l0 x6_1).f0) == a1) = false := beq_eq_false_iff_ne.mpr c7
      have c7b1 : (((rd_T47 l0 x6_1).f0) != a1) = true := bne_iff_ne.mpr c7
      by_cases c8 : x5_1.length + ((rd_T47 l0 x6_1).f1).length < 5864062014805
      ·rw [if_pos c8] at H
       have LMc8 := Aside0.mk c8
       clear c8
       obtain ⟨y272, hy272⟩ : ∃ y_ : List (S66), y_ = (x5_1 ++ ((rd_T47 l0 x6_1).f1)) := ⟨_, rfl⟩
       replace H : (jalousieref08_side.l0 k1 l0 a1 y272 (wrap64 (x6_1 + 1))) = some r := by first | (rw [hy272]; with_reducible exact H) | (have H2_ := (Option.bind_some _ _).symm.trans H; rw [hy272]; with_reducible exact H2_) | (have H2_ := (Option.bind_some _ _).symm.trans H; with_reducible exact H2_) | with_reducible exact H | (rw [hy272]; exact H) | exact H
       have Ny272 := Aside0.mk hy272
       clear hy272
       have H' := Aside0.mk H
       clear H
       have p270 : 0 ≤ (x6_1 : Int) := of_decide_eq_true (by first | (with_reducible assumption) | assumption)
       have q270 : x6_1 < (l0.length : Int) := of_decide_eq_true (by first | (with_reducible assumption) | assumption)
       obtain ⟨ad270, A270_1, c270_1, e270, hx270_0, hx270_1, hl270_1, hi270_1⟩ := at_T47 HR0.out x6_1 p270 q270
       cases e270
       replace hx270_0 := (HB.out.cell (World.block_lt_of_cell? w _ hx270_0)).trans hx270_0
       replace hx270_1 := (HB.out.cell (World.block_lt_of_cell? w _ hx270_1)).trans hx270_1
       have HR270_1 := Aside0.mk hi270_1
       have HC270_1 := Aside0.mk hl270_1
       clear hi270_1 hl270_1
       replace p270 := eq_true p270
       replace q270 := eq_true q270
       have p271 : 0 ≤ (x6_1 : Int) := of_decide_eq_true (by first | (with_reducible assumption) | assumption)
       have q271 : x6_1 < (l0.length : Int) := of_decide_eq_true (by first | (with_reducible assumption) | assumption)
       obtain ⟨ad271, A271_1, c271_1, e271, hx271_0, hx271_1, hl271_1, hi271_1⟩ := at_T47 HR0.out x6_1 p271 q271
       obtain rfl : ad270 = ad271 := (by injection e271)
       replace hx271_0 := (HB.out.cell (World.block_lt_of_cell? w _ hx271_0)).trans hx271_0
       replace hx271_1 := (HB.out.cell (World.block_lt_of_cell? w _ hx271_1)).trans hx271_1
       have HR271_1 := Aside0.mk hi271_1
       have HC271_1 := Aside0.mk hl271_1
       clear hi271_1 hl271_1
       replace p271 := eq_true p271
       replace q271 := eq_true q271
       have ea_ := Option.some.inj (hx270_1.symm.trans hx271_1)
       injection ea_ with ea_ en_ ec_
       subst ea_
       subst ec_
       clear en_
       go_wp2_with (first | ((with_reducible refine gate_builtin (b := .append) (xs := #[.tmp 21, .tmp 26]) rfl ?_); at_builtin; refine Kd.R_append_rows k66 (w0 := w) w.heap.size rfl (.tmp 21) (.tmp 26) 37 66 (.agg #[(.string ⟨#[]⟩), (.bool false)]) 24 rfl Try.underlying37 info66 rfl (by decide) (by omega) u5 x5_1 ((rd_T47 l0 x6_1).f1) _ _ _ (fun _ => True) (fun _ => False) rfl rfl ?aO ?aR (fun _ _ h => h) (fun _ h => h.elim) ?aF ?aB ?aS ?aL ?_; (case aR => repeat (first | exact (Kd.C_below HR271_1.out HB.out) | (with_reducible refine Kd.C_alloc ?_ _) | (with_reducible refine Kd.C_drewN ?_ _) | (with_reducible refine Kd.C_drew ?_))); (case aB => exact (by repeat (first | (with_reducible first | exact HB.out | apply below_alloc | apply pw_below_drewN | apply below_drew1) | exact HB.out))); (case aF => exact (fun _ _ => trivial)); (case aO => exact (by (with_reducible repeat first|apply zr1|apply zr2|apply zr3); exact HO_5.out)); (case aS => exact (below_size (by repeat (first | (with_reducible first | exact HB.out | apply below_alloc | apply pw_below_drewN | apply below_drew1) | exact HB.out)))); (case aL => have := LMc8.out; omega); intro v273 w9 ho hb hg hat; rw [← Ny272.out] at ho; have n0_ := Aside0.mk (hb); have n1_ := Aside0.mk (ho); clear HB; clear HO_5; have HB := n0_; have HO274 := n1_; clear n0_ n1_; clear ho hb hg hat))
       go_roundg k1
       case measure => have := HK1.out; omega
       case rel => exact ⟨(y272), (wrap64 (x6_1 + 1)), (by first | rfl | (simp; done) | (simp [*]; done)), H', ⟨by have := HK1.out; omega⟩, ⟨by (with_reducible repeat first|apply zr1|apply zr2|apply zr3); exact HO274.out⟩, ⟨by repeat (first | (with_reducible first | exact HB.out | apply below_alloc | apply pw_below_drewN | apply below_drew1) | exact HB.out)⟩⟩
      ·rw [if_neg c8] at H
       exact absurd H (by simp)
    ·rw [if_neg c6] at H
     exact absurd H (by simp)
   ·rw [if_neg c5] at H
    have c5b0 : decide (x6_1 < (l0.length : Int)) = false := decide_eq_false c5
    clear c5
    obtain rfl := Option.some.inj H
    go_wp2
    go_ret
    exact ⟨_, by first | rfl | (simp [errW_none, errW_some] <;> rfl) | (simp [*, errW_none, errW_some] <;> rfl), by (with_reducible repeat first|apply zr1|apply zr2|apply zr3); exact HO_5.out, by repeat (first | (with_reducible first | exact HB.out | apply below_alloc | apply pw_below_drewN | apply below_drew1) | exact HB.out)⟩

end Go.Proofs.Ytfnbodjmmkjlcaa.H
end
section
namespace Go.Proofs.Ytfnbodjmmkjlcaa.H
open Go.RowKit Go.Proofs.YtfnbodjmmkjlcaaW.PrintWords Go.Proofs.YtfnbodjmmkjlcaaW.PrintLast Go.Proofs.YtfnbodjmmkjlcaaW.PrintMore
attribute [local go_sem] max2_int min2_int max_two min_two max_three min_three max_four min_four   -- for this text's walks alone
set_option linter.unusedVariables false
set_option linter.unusedSimpArgs false

def jalousieref08_Sides.f (k : Nat) (l0 : List (S47)) : Option ((List (S66)) × (List (S66)) × Int) := (jalousieref08_Check.f k l0).bind fun t275 => (if t275 = 0 then ((jalousieref08_side.f k l0 3).bind fun t276 => ((jalousieref08_side.f k l0 2).bind fun t279 => (some (t276, t279, 0)))) else (some (([] : List (S66)), ([] : List (S66)), t275)))
set_option maxHeartbeats 8000000 in
set_option maxRecDepth 100000 in
theorem jalousieref08_Sides.calls (k : Nat) (A0 : Option Addr) (c0 : Nat) (l0 : List (S47)) (r1 : List (S66)) (r2 : List (S66)) (r3 : Int) (w : World) (hr0 : Kd.C k47 w A0 l0.length l0) (hc0 : l0.length ≤ c0) (h : jalousieref08_Sides.f k l0 = some (r1, r2, r3)) :
  Calls Try.prog 24 #[.slice A0 l0.length c0] w fun e w' => ∃ v0_ v1_ : Value, e = .returned (.tuple #[v0_, v1_, .int .i64 r3]) ∧ Kd.R k66 66 w' w.heap.size (fun k_ => some k_ ≠ (v1_ : Value).ownBlock) v0_ r1 ∧ Kd.R k66 66 w' w.heap.size (fun k_ => some k_ ≠ (v0_ : Value).ownBlock) v1_ r2 ∧ Below w.heap.size w w' := by
 have HR0 := Aside0.mk hr0
 have HC0 := Aside0.mk hc0
 clear hr0 hc0
 have HB := Aside0.mk (Below.refl w.heap.size w)
 have H : ((jalousieref08_Check.f k l0).bind fun t275 => (if t275 = 0 then ((jalousieref08_side.f k l0 3).bind fun t276 => ((jalousieref08_side.f k l0 2).bind fun t279 => (some (t276, t279, 0)))) else (some (([] : List (S66)), ([] : List (S66)), t275)))) = some (r1, r2, r3) := h
 clear h
 replace H := Option.bind_eq_some_iff.mp H
 obtain ⟨t275, A20, H⟩ := H
 replace H : (if t275 = 0 then ((jalousieref08_side.f k l0 3).bind fun t276 => ((jalousieref08_side.f k l0 2).bind fun t279 => (some (t276, t279, 0)))) else (some (([] : List (S66)), ([] : List (S66)), t275))) = some (r1, r2, r3) := H
 have A2 := Aside0.mk A20
 clear A20
 by_cases c3 : t275 = 0
 ·rw [if_pos c3] at H
  have c3b0 : (t275 == 0) = true := beq_iff_eq.mpr c3
  have c3b1 : (t275 != 0) = false := bne_eq_false_iff_eq.mpr c3
  clear c3
  replace H := Option.bind_eq_some_iff.mp H
  obtain ⟨t276, A40, H⟩ := H
  replace H : ((jalousieref08_side.f k l0 2).bind fun t279 => (some (t276, t279, 0))) = some (r1, r2, r3) := H
  have A4 := Aside0.mk A40
  clear A40
  replace H := Option.bind_eq_some_iff.mp H
  obtain ⟨t279, A50, H⟩ := H
  replace H : (some (t276, t279, 0)) = some (r1, r2, r3) := H
  have A5 := Aside0.mk A50
  clear A50
  simp only [Option.some.injEq, Prod.mk.injEq] at H
  obtain ⟨rfl, rfl, rfl⟩ := H
  go_enter Try.func24, Try.ntmps24
  go_wp2_with (first | ((with_reducible refine gate_callee (f := 26) rfl ?_); refine goesL_ (some 7) rfl rfl Try.func26 (by kernel_rfl) rfl #[.slice A0 l0.length c0] rfl (by (try simp only [List.map_toArray, List.map_cons, List.map_nil]); first | done | rfl | (simp only [List.length_drop, List.length_take]; rfl)) ?_; (with_reducible refine (jalousieref08_Check.calls k _ _ l0 t275 _ ?side1 ?side2 A2.out).mono ?_); (case side1 => repeat (first | exact HR0.out | (with_reducible refine Kd.C_alloc ?_ _) | (with_reducible refine Kd.C_drewN ?_ _) | (with_reducible refine Kd.C_drew ?_))); (case side2 => exact HC0.out); rintro e w' ⟨rfl, ⟨nd, rfl⟩⟩; refine ⟨_, rfl, ?_⟩) | ((with_reducible refine gate_callee (f := 54) rfl ?_); refine goesL_ (some 12) rfl rfl Try.func54 (by kernel_rfl) rfl #[.slice A0 l0.length c0, .int .i64 3] rfl (by (try simp only [List.map_toArray, List.map_cons, List.map_nil]); first | done | rfl | (simp only [List.length_drop, List.length_take]; rfl)) ?_; (with_reducible refine (jalousieref08_side.calls k _ _ l0 3 t276 _ ?side1 ?side2 A4.out).mono ?_); (case side1 => repeat (first | exact HR0.out | (with_reducible refine Kd.C_alloc ?_ _) | (with_reducible refine Kd.C_drewN ?_ _) | (with_reducible refine Kd.C_drew ?_))); (case side2 => exact HC0.out); rintro e w6 ⟨v277, rfl, ho0, hb⟩; refine ⟨_, rfl, ?_⟩; have n0_ := Aside0.mk (Kd.R_lower ho0 (below_size (by repeat (first | (with_reducible first | exact HB.out | apply below_alloc | apply pw_below_drewN | apply below_drew1) | exact HB.out)))); have n1_ := Aside0.mk (below_step (by repeat (first | (with_reducible first | exact HB.out | apply below_alloc | apply pw_below_drewN | apply below_drew1) | exact HB.out)) hb); clear HB; have HO278 := n0_; have HB := n1_; clear n0_ n1_; (try clear hb); (try clear hb2); (try clear hk); (try clear hi); (try clear ho0)) | ((with_reducible refine gate_callee (f := 54) rfl ?_); refine goesL_ (some 14) rfl rfl Try.func54 (by kernel_rfl) rfl #[.slice A0 l0.length c0, .int .i64 2] rfl (by (try simp only [List.map_toArray, List.map_cons, List.map_nil]); first | done | rfl | (simp only [List.length_drop, List.length_take]; rfl)) ?_; (with_reducible refine (jalousieref08_side.calls k _ _ l0 2 t279 _ ?side1 ?side2 A5.out).mono ?_); (case side1 => repeat (first | exact (Kd.C_below HR0.out HB.out) | (with_reducible refine Kd.C_alloc ?_ _) | (with_reducible refine Kd.C_drewN ?_ _) | (with_reducible refine Kd.C_drew ?_))); (case side2 => exact HC0.out); rintro e w7 ⟨v280, rfl, ho0, hb⟩; refine ⟨_, rfl, ?_⟩; have n0_ := Aside0.mk (Kd.R_elder' (by (with_reducible repeat first|apply zr1|apply zr2|apply zr3); exact HO278.out) (Kd.R_base ho0) hb); have n1_ := Aside0.mk (Kd.R_lower (Kd.R_new' ho0 (Kd.R_lt (by (with_reducible repeat first|apply zr1|apply zr2|apply zr3); exact HO278.out))) (below_size (by repeat (first | (with_reducible first | exact HB.out | apply below_alloc | apply pw_below_drewN | apply below_drew1) | exact HB.out)))); have n2_ := Aside0.mk (below_step (by repeat (first | (with_reducible first | exact HB.out | apply below_alloc | apply pw_below_drewN | apply below_drew1) | exact HB.out)) hb); clear HO278; clear HB; have HO278 := n0_; have HO281 := n1_; have HB := n2_; clear n0_ n1_ n2_; (try clear hb); (try clear hb2); (try clear hk); (try clear hi); (try clear ho0)))
  go_ret3
  exact ⟨_, _, by first | rfl | (simp [errW_none, errW_some] <;> rfl) | (simp [*, errW_none, errW_some] <;> rfl), by (with_reducible repeat first|apply zr1|apply zr2|apply zr3); exact Kd.R_mono HO278.out (fun _ hk => hk.2), by (with_reducible repeat first|apply zr1|apply zr2|apply zr3); exact Kd.R_mono HO281.out (fun _ hk => hk.2), by repeat (first | (with_reducible first | exact HB.out | apply below_alloc | apply pw_below_drewN | apply below_drew1) | exact HB.out)⟩
 ·rw [if_neg c3] at H
  have c3b0 : (t275 == 0) = false := beq_eq_false_iff_ne.mpr c3
  have c3b1 : (t275 != 0) = true := bne_iff_ne.mpr c3
  simp only [Option.some.injEq, Prod.mk.injEq] at H
  obtain ⟨rfl, rfl, rfl⟩ := H
  go_enter Try.func24, Try.ntmps24
  go_wp2_with (first | ((with_reducible refine gate_callee (f := 26) rfl ?_); refine goesL_ (some 7) rfl rfl Try.func26 (by kernel_rfl) rfl #[.slice A0 l0.length c0] rfl (by (try simp only [List.map_toArray, List.map_cons, List.map_nil]); first | done | rfl | (simp only [List.length_drop, List.length_take]; rfl)) ?_; (with_reducible refine (jalousieref08_Check.calls k _ _ l0 t275 _ ?side1 ?side2 A2.out).mono ?_); (case side1 => repeat (first | exact HR0.out | (with_reducible refine Kd.C_alloc ?_ _) | (with_reducible refine Kd.C_drewN ?_ _) | (with_reducible refine Kd.C_drew ?_))); (case side2 => exact HC0.out); rintro e w' ⟨rfl, ⟨nd, rfl⟩⟩; refine ⟨_, rfl, ?_⟩))
  go_ret3
  exact ⟨_, _, by first | rfl | (simp [errW_none, errW_some] <;> rfl) | (simp [*, errW_none, errW_some] <;> rfl), by first | exact Kd.R_nil _ _ _ _ _ | exact Kd.N_nil _ _ _ _ _ | exact Kd.V_nil _ _ _ _ _ | exact Kd.Q_nil _ _ _ _ _ | exact Kd.S_nil _ _ _ _ _, by first | exact Kd.R_nil _ _ _ _ _ | exact Kd.N_nil _ _ _ _ _ | exact Kd.V_nil _ _ _ _ _ | exact Kd.Q_nil _ _ _ _ _ | exact Kd.S_nil _ _ _ _ _, by repeat (first | (with_reducible first | exact HB.out | apply below_alloc | apply pw_below_drewN | apply below_drew1) | exact HB.out)⟩

end Go.Proofs.Ytfnbodjmmkjlcaa.H
end
section
namespace Go.Proofs.Ytfnbodjmmkjlcaa.H
open Go.RowKit Go.Proofs.YtfnbodjmmkjlcaaW.PrintWords Go.Proofs.YtfnbodjmmkjlcaaW.PrintLast Go.Proofs.YtfnbodjmmkjlcaaW.PrintMore
attribute [local go_sem] max2_int min2_int max_two min_two max_three min_three max_four min_four   -- for this text's walks alone
set_option linter.unusedVariables false
set_option linter.unusedSimpArgs false

def jalousielaw09_HunkBack.f (k : Nat) (l0 : List (S47)) (a1 : Int) : Option (Bool) := (jalousielaw09_few.f k l0).bind fun t328 => (if t328 = true then ((hunk_Build.f k l0 (Int.tmod (wrap64 (a1)) 21)).bind fun bt330 => ((jalousieref08_Normal.f k l0).bind fun bt334 => (if bt330.2 = bt334.2 then (if bt330.2 = 0 then ((jalousieref08_Sides.f k l0).bind fun bt339 => ((hunk_Whole.f k bt330.1 bt339.1).bind fun bt346 => ((jalousielaw09_live.f k).bind fun t350 => (if t350 = true then ((hunk_Check.f k bt330.1).bind fun t351 => (if t351 = 0 then (if bt346.2 = 0 then ((jalousieref08_Same.f k bt346.1 bt334.1).bind fun t352 => (some t352)) else (some false)) else (some false))) else (some false))))) else ((jalousielaw09_live.f k).bind fun t338 => (some t338))) else (some false)))) else ((jalousielaw09_live.f k).bind fun t329 => (some t329)))
set_option maxHeartbeats 8000000 in
set_option maxRecDepth 100000 in
theorem jalousielaw09_HunkBack.calls (k : Nat) (A0 : Option Addr) (c0 : Nat) (l0 : List (S47)) (a1 : Int) (r : Bool) (w : World) (hr0 : Kd.C k47 w A0 l0.length l0) (hc0 : l0.length ≤ c0) (h : jalousielaw09_HunkBack.f k l0 a1 = some r) (HRT : Aside0 (r = true) := by first | exact ⟨rfl⟩ | assumption) :
  Calls Try.prog 5 #[.slice A0 l0.length c0, .int .u8 a1] w fun e w' => e = .returned (.bool r) ∧ Below w.heap.size w w' := by
 have HR0 := Aside0.mk hr0
 have HC0 := Aside0.mk hc0
 clear hr0 hc0
 have HB := Aside0.mk (Below.refl w.heap.size w)
 have H : ((jalousielaw09_few.f k l0).bind fun t328 => (if t328 = true then ((hunk_Build.f k l0 (Int.tmod (wrap64 (a1)) 21)).bind fun bt330 => ((jalousieref08_Normal.f k l0).bind fun bt334 => (if bt330.2 = bt334.2 then (if bt330.2 = 0 then ((jalousieref08_Sides.f k l0).bind fun bt339 => ((hunk_Whole.f k bt330.1 bt339.1).bind fun bt346 => ((jalousielaw09_live.f k).bind fun t350 => (if t350 = true then ((hunk_Check.f k bt330.1).bind fun t351 => (if t351 = 0 then (if bt346.2 = 0 then ((jalousieref08_Same.f k bt346.1 bt334.1).bind fun t352 => (some t352)) else (some false)) else (some false))) else (some false))))) else ((jalousielaw09_live.f k).bind fun t338 => (some t338))) else (some false)))) else ((jalousielaw09_live.f k).bind fun t329 => (some t329)))) = some r := h
 clear h
 replace H := Option.bind_eq_some_iff.mp H
 obtain ⟨t328, A30, H⟩ := H
 replace H : (if t328 = true then ((hunk_Build.f k l0 (Int.tmod (wrap64 (a1)) 21)).bind fun bt330 => ((jalousieref08_Normal.f k l0).bind fun bt334 => (if bt330.2 = bt334.2 then (if bt330.2 = 0 then ((jalousieref08_Sides.f k l0).bind fun bt339 => ((hunk_Whole.f k bt330.1 bt339.1).bind fun bt346 => ((jalousielaw09_live.f k).bind fun t350 => (if t350 = true then ((hunk_Check.f k bt330.1).bind fun t351 => (if t351 = 0 then (if bt346.2 = 0 then ((jalousieref08_Same.f k bt346.1 bt334.1).bind fun t352 => (some t352)) else (some false)) else (some false))) else (some false))))) else ((jalousielaw09_live.f k).bind fun t338 => (some t338))) else (some false)))) else ((jalousielaw09_live.f k).bind fun t329 => (some t329))) = some r := H
 have A3 := Aside0.mk A30
 clear A30
 by_cases c4 : t328 = true
 ·subst c4
  have H1 : ((hunk_Build.f k l0 (Int.tmod (wrap64 (a1)) 21)).bind fun bt330 => ((jalousieref08_Normal.f k l0).bind fun bt334 => (if bt330.2 = bt334.2 then (if bt330.2 = 0 then ((jalousieref08_Sides.f k l0).bind fun bt339 => ((hunk_Whole.f k bt330.1 bt339.1).bind fun bt346 => ((jalousielaw09_live.f k).bind fun t350 => (if t350 = true then ((hunk_Check.f k bt330.1).bind fun t351 => (if t351 = 0 then (if bt346.2 = 0 then ((jalousieref08_Same.f k bt346.1 bt334.1).bind fun t352 => (some t352)) else (some false)) else (some false))) else (some false))))) else ((jalousielaw09_live.f k).bind fun t338 => (some t338))) else (some false)))) = some r := by rw [if_pos rfl] at H; exact H
  clear H
  have H := H1
  clear H1
  replace H := Option.bind_eq_some_iff.mp H
  obtain ⟨⟨t330, t331⟩, A50, H⟩ := H
  replace H : ((jalousieref08_Normal.f k l0).bind fun bt334 => (if t331 = bt334.2 then (if t331 = 0 then ((jalousieref08_Sides.f k l0).bind fun bt339 => ((hunk_Whole.f k t330 bt339.1).bind fun bt346 => ((jalousielaw09_live.f k).bind fun t350 => (if t350 = true then ((hunk_Check.f k t330).bind fun t351 => (if t351 = 0 then (if bt346.2 = 0 then ((jalousieref08_Same.f k bt346.1 bt334.1).bind fun t352 => (some t352)) else (some false)) else (some false))) else (some false))))) else ((jalousielaw09_live.f k).bind fun t338 => (some t338))) else (some false))) = some r := H
  have A5 := Aside0.mk A50
  clear A50
  replace H := Option.bind_eq_some_iff.mp H
  obtain ⟨⟨t334, t335⟩, A60, H⟩ := H
  replace H : (if t331 = t335 then (if t331 = 0 then ((jalousieref08_Sides.f k l0).bind fun bt339 => ((hunk_Whole.f k t330 bt339.1).bind fun bt346 => ((jalousielaw09_live.f k).bind fun t350 => (if t350 = true then ((hunk_Check.f k t330).bind fun t351 => (if t351 = 0 then (if bt346.2 = 0 then ((jalousieref08_Same.f k bt346.1 t334).bind fun t352 => (some t352)) else (some false)) else (some false))) else (some false))))) else ((jalousielaw09_live.f k).bind fun t338 => (some t338))) else (some false)) = some r := H
  have A6 := Aside0.mk A60
  clear A60
  by_cases c7 : t331 = t335
  ·rw [if_pos c7] at H
   have c7b0 : (t331 == t335) = true := beq_iff_eq.mpr c7
   have c7b1 : (t331 != t335) = false := bne_eq_false_iff_eq.mpr c7
   clear c7
   by_cases c8 : t331 = 0
   ·rw [if_pos c8] at H
    have c8b0 : (t331 == 0) = true := beq_iff_eq.mpr c8
    have c8b1 : (t331 != 0) = false := bne_eq_false_iff_eq.mpr c8
    clear c8
    replace H := Option.bind_eq_some_iff.mp H
    obtain ⟨⟨t339, t340, t341⟩, A90, H⟩ := H
    replace H : ((hunk_Whole.f k t330 t339).bind fun bt346 => ((jalousielaw09_live.f k).bind fun t350 => (if t350 = true then ((hunk_Check.f k t330).bind fun t351 => (if t351 = 0 then (if bt346.2 = 0 then ((jalousieref08_Same.f k bt346.1 t334).bind fun t352 => (some t352)) else (some false)) else (some false))) else (some false)))) = some r := H
    have A9 := Aside0.mk A90
    clear A90
    replace H := Option.bind_eq_some_iff.mp H
    obtain ⟨⟨t346, t349⟩, A100, H⟩ := H
    replace H : ((jalousielaw09_live.f k).bind fun t350 => (if t350 = true then ((hunk_Check.f k t330).bind fun t351 => (if t351 = 0 then (if t349 = 0 then ((jalousieref08_Same.f k t346 t334).bind fun t352 => (some t352)) else (some false)) else (some false))) else (some false))) = some r := H
    have A10 := Aside0.mk A100
    clear A100
    replace H := Option.bind_eq_some_iff.mp H
    obtain ⟨t350, A110, H⟩ := H
    replace H : (if t350 = true then ((hunk_Check.f k t330).bind fun t351 => (if t351 = 0 then (if t349 = 0 then ((jalousieref08_Same.f k t346 t334).bind fun t352 => (some t352)) else (some false)) else (some false))) else (some false)) = some r := H
    have A11 := Aside0.mk A110
    clear A110
    by_cases c12 : t350 = true
    ·subst c12
     have H1 : ((hunk_Check.f k t330).bind fun t351 => (if t351 = 0 then (if t349 = 0 then ((jalousieref08_Same.f k t346 t334).bind fun t352 => (some t352)) else (some false)) else (some false))) = some r := by rw [if_pos rfl] at H; exact H
     clear H
     have H := H1
     clear H1
     replace H := Option.bind_eq_some_iff.mp H
     obtain ⟨t351, A130, H⟩ := H
     replace H : (if t351 = 0 then (if t349 = 0 then ((jalousieref08_Same.f k t346 t334).bind fun t352 => (some t352)) else (some false)) else (some false)) = some r := H
     have A13 := Aside0.mk A130
     clear A130
     by_cases c14 : t351 = 0
     ·rw [if_pos c14] at H
      have c14b0 : (t351 == 0) = true := beq_iff_eq.mpr c14
      have c14b1 : (t351 != 0) = false := bne_eq_false_iff_eq.mpr c14
      clear c14
      by_cases c15 : t349 = 0
      ·rw [if_pos c15] at H
       have c15b0 : (t349 == 0) = true := beq_iff_eq.mpr c15
       have c15b1 : (t349 != 0) = false := bne_eq_false_iff_eq.mpr c15
       clear c15
       replace H := Option.bind_eq_some_iff.mp H
       obtain ⟨t352, A160, H⟩ := H
       replace H : (some t352) = some r := H
       have A16 := Aside0.mk A160
       clear A160
       obtain rfl := Option.some.inj H
       go_enter Try.func5, Try.ntmps5
       go_wp2_with (first | ((with_reducible refine gate_callee (f := 13) rfl ?_); refine goesL_ (some 15) rfl rfl Try.func13 (by kernel_rfl) rfl #[.slice A0 l0.length c0] rfl (by (try simp only [List.map_toArray, List.map_cons, List.map_nil]); first | done | rfl | (simp only [List.length_drop, List.length_take]; rfl)) ?_; (with_reducible refine (jalousielaw09_few.calls k _ _ l0 true _ ?side1 ?side2 A3.out).mono ?_); (case side1 => repeat (first | exact HR0.out | (with_reducible refine Kd.C_alloc ?_ _) | (with_reducible refine Kd.C_drewN ?_ _) | (with_reducible refine Kd.C_drew ?_))); (case side2 => exact HC0.out); rintro e w17 ⟨rfl, hb⟩; refine ⟨_, rfl, ?_⟩; have n0_ := Aside0.mk (below_step (by repeat (first | (with_reducible first | exact HB.out | apply below_alloc | apply pw_below_drewN | apply below_drew1) | exact HB.out)) hb); clear HB; have HB := n0_; clear n0_; (try clear hb); (try clear hb2); (try clear hk); (try clear hi)) | ((with_reducible refine gate_callee (f := 15) rfl ?_); refine goesL_ (some 23) rfl rfl Try.func15 (by kernel_rfl) rfl #[.slice A0 l0.length c0, .int .i64 (Int.tmod (wrap64 (a1)) 21)] rfl (by (try simp only [List.map_toArray, List.map_cons, List.map_nil]); first | done | rfl | (simp only [List.length_drop, List.length_take]; rfl)) ?_; (with_reducible refine (hunk_Build.calls k _ _ l0 (Int.tmod (wrap64 (a1)) 21) t330 t331 _ ?side1 ?side2 A5.out).mono ?_); (case side1 => repeat (first | exact (Kd.C_below HR0.out HB.out) | (with_reducible refine Kd.C_alloc ?_ _) | (with_reducible refine Kd.C_drewN ?_ _) | (with_reducible refine Kd.C_drew ?_))); (case side2 => exact HC0.out); rintro e w18 ⟨v332, rfl, ho0, hb⟩; refine ⟨_, rfl, ?_⟩; have n0_ := Aside0.mk (Kd.N_lower (Kd.N_mono (ok' := fun k_ => True) (Kd.R_N (Kd.R_bound ho0)) (fun k_ hk_ => trivial)) (below_size (by repeat (first | (with_reducible first | exact HB.out | apply below_alloc | apply pw_below_drewN | apply below_drew1) | exact HB.out)))); have n1_ := Aside0.mk (below_step (by repeat (first | (with_reducible first | exact HB.out | apply below_alloc | apply pw_below_drewN | apply below_drew1) | exact HB.out)) hb); clear HB; have HO333 := n0_; have HB := n1_; clear n0_ n1_; (try clear hb); (try clear hb2); (try clear hk); (try clear hi); (try clear ho0)) | ((with_reducible refine gate_callee (f := 23) rfl ?_); refine goesL_ (some 28) rfl rfl Try.func23 (by kernel_rfl) rfl #[.slice A0 l0.length c0] rfl (by (try simp only [List.map_toArray, List.map_cons, List.map_nil]); first | done | rfl | (simp only [List.length_drop, List.length_take]; rfl)) ?_; (with_reducible refine (jalousieref08_Normal.calls k _ _ l0 t334 t335 _ ?side1 ?side2 A6.out).mono ?_); (case side1 => repeat (first | exact (Kd.C_below HR0.out HB.out) | (with_reducible refine Kd.C_alloc ?_ _) | (with_reducible refine Kd.C_drewN ?_ _) | (with_reducible refine Kd.C_drew ?_))); (case side2 => exact HC0.out); rintro e w19 ⟨v336, rfl, ho0, hb⟩; refine ⟨_, rfl, ?_⟩; have n0_ := Aside0.mk (Kd.N_elder' (by (with_reducible repeat (first | apply Kd.N_alloc | apply Kd.N_drewN | apply Kd.N_drew)); exact HO333.out) (by first | exact Kd.S_base ho0 | exact Kd.R_base ho0 | exact Kd.N_base ho0) hb); have n1_ := Aside0.mk (Kd.N_lower (Kd.N_mono (ok' := fun k_ => some k_ ≠ (v332 : Value).ownBlock) (Kd.S_N (Kd.S_bound ho0)) (fun k_ hk_ => (Kd.fresh' (Kd.N_lt (by (with_reducible repeat (first | apply Kd.N_alloc | apply Kd.N_drewN | apply Kd.N_drew)); exact HO333.out)) k_ hk_.2.1))) (below_size (by repeat (first | (with_reducible first | exact HB.out | apply below_alloc | apply pw_below_drewN | apply below_drew1) | exact HB.out)))); have n2_ := Aside0.mk (below_step (by repeat (first | (with_reducible first | exact HB.out | apply below_alloc | apply pw_below_drewN | apply below_drew1) | exact HB.out)) hb); clear HO333; clear HB; have HO333 := n0_; have HO337 := n1_; have HB := n2_; clear n0_ n1_ n2_; (try clear hb); (try clear hb2); (try clear hk); (try clear hi); (try clear ho0)) | ((with_reducible refine gate_callee (f := 24) rfl ?_); refine goesL_ (some 39) rfl rfl Try.func24 (by kernel_rfl) rfl #[.slice A0 l0.length c0] rfl (by (try simp only [List.map_toArray, List.map_cons, List.map_nil]); first | done | rfl | (simp only [List.length_drop, List.length_take]; rfl)) ?_; (with_reducible refine (jalousieref08_Sides.calls k _ _ l0 t339 t340 t341 _ ?side1 ?side2 A9.out).mono ?_); (case side1 => repeat (first | exact (Kd.C_below HR0.out HB.out) | (with_reducible refine Kd.C_alloc ?_ _) | (with_reducible refine Kd.C_drewN ?_ _) | (with_reducible refine Kd.C_drew ?_))); (case side2 => exact HC0.out); rintro e w20 ⟨v342, v344, rfl, ho0, ho1, hb⟩; refine ⟨_, rfl, ?_⟩; have n0_ := Aside0.mk (Kd.N_mono (Kd.N_told (Kd.N_told (Kd.N_old (by (with_reducible repeat (first | apply Kd.N_alloc | apply Kd.N_drewN | apply Kd.N_drew)); exact HO333.out) hb) (Kd.R_base ho0)) (Kd.R_base ho1)) (fun _ h_ => h_.1)); have n1_ := Aside0.mk (Kd.N_mono (Kd.N_told (Kd.N_told (Kd.N_old (by (with_reducible repeat (first | apply Kd.N_alloc | apply Kd.N_drewN | apply Kd.N_drew)); exact HO337.out) hb) (Kd.R_base ho0)) (Kd.R_base ho1)) (fun _ h_ => h_.1)); have n2_ := Aside0.mk (Kd.R_lower ho0 (below_size (by repeat (first | (with_reducible first | exact HB.out | apply below_alloc | apply pw_below_drewN | apply below_drew1) | exact HB.out)))); have n3_ := Aside0.mk (Kd.R_lower ho1 (below_size (by repeat (first | (with_reducible first | exact HB.out | apply below_alloc | apply pw_below_drewN | apply below_drew1) | exact HB.out)))); have n4_ := Aside0.mk (below_step (by repeat (first | (with_reducible first | exact HB.out | apply below_alloc | apply pw_below_drewN | apply below_drew1) | exact HB.out)) hb); clear HO333; clear HO337; clear HB; have HO333 := n0_; have HO337 := n1_; have HO343 := n2_; have HO345 := n3_; have HB := n4_; clear n0_ n1_ n2_ n3_ n4_; (try clear hb); (try clear hb2); (try clear hk); (try clear hi); (try clear ho0); (try clear ho1); obtain ⟨Ao21, co21, eo21⟩ := Kd.N_slice HO333.out; subst eo21; obtain ⟨Ao22, co22, eo22⟩ := Kd.R_slice HO343.out; subst eo22) | ((with_reducible refine gate_callee (f := 25) rfl ?_); refine goesL_ (some 46) rfl rfl Try.func25 (by kernel_rfl) rfl #[.slice Ao21 t330.length co21, .slice Ao22 t339.length co22] rfl (by (try simp only [List.map_toArray, List.map_cons, List.map_nil]); first | done | rfl | (simp only [List.length_drop, List.length_take]; rfl)) ?_; (with_reducible refine (hunk_Whole.calls k (fun k_ => (((True ∧ some k_ ≠ (v336 : Value).ownBlock) ∧ some k_ ≠ (.slice Ao22 t339.length co22 : Value).ownBlock) ∧ some k_ ≠ (v344 : Value).ownBlock)) _ _ t330 (fun k_ => some k_ = (.slice Ao22 t339.length co22 : Value).ownBlock) _ _ t339 t346 t349 _ ?side1 ?side2 A10.out).mono ?_); (case side1 => exact Kd.N_V (HO333.out)); (case side2 => exact Kd.R_V (Kd.R_tight rfl (Kd.R_apart' (Kd.R_apart' (HO343.out) (Kd.N_typed HO333.out) (by decide)) (Kd.N_typed HO337.out) (by decide)))); rintro e w23 ⟨v347, rfl, ho0, hb⟩; refine ⟨_, rfl, ?_⟩; have n0_ := Aside0.mk (Kd.N_elder' (by (with_reducible repeat (first | apply Kd.N_alloc | apply Kd.N_drewN | apply Kd.N_drew)); exact HO333.out) (by first | exact Kd.S_base ho0 | exact Kd.R_base ho0 | exact Kd.N_base ho0) hb); have n1_ := Aside0.mk (Kd.N_elder' (by (with_reducible repeat (first | apply Kd.N_alloc | apply Kd.N_drewN | apply Kd.N_drew)); exact HO337.out) (by first | exact Kd.S_base ho0 | exact Kd.R_base ho0 | exact Kd.N_base ho0) hb); have n2_ := Aside0.mk (Kd.R_below (by (with_reducible repeat first|apply zr1|apply zr2|apply zr3); exact HO343.out) hb); have n3_ := Aside0.mk (Kd.R_below (by (with_reducible repeat first|apply zr1|apply zr2|apply zr3); exact HO345.out) hb); have n4_ := Aside0.mk (Kd.N_lower (Kd.N_mono (ok' := fun k_ => some k_ ≠ (v336 : Value).ownBlock ∧ some k_ ≠ (v344 : Value).ownBlock) ho0 (fun k_ hk_ => ⟨Or.elim hk_ (fun hs_ => Or.elim hs_ (fun hs_ => hs_.1.1.2) (fun hs_ => ((Kd.R_apart' (Kd.R_apart' (HO343.out) (Kd.N_typed HO333.out) (by decide)) (Kd.N_typed HO337.out) (by decide)).1 k_ hs_.symm).2)) (fun hn_ => (Kd.fresh' (Kd.N_lt (by (with_reducible repeat (first | apply Kd.N_alloc | apply Kd.N_drewN | apply Kd.N_drew)); exact HO337.out)) k_ hn_)), Or.elim hk_ (fun hs_ => Or.elim hs_ (fun hs_ => hs_.2) (fun hs_ => ((Kd.R_apart' (Kd.R_apart' (HO343.out) (Kd.N_typed HO333.out) (by decide)) (Kd.N_typed HO337.out) (by decide)).1 k_ hs_.symm).1.1)) (fun hn_ => (Kd.fresh' (Kd.R_lt (by (with_reducible repeat first|apply zr1|apply zr2|apply zr3); exact HO345.out)) k_ hn_))⟩)) (below_size (by repeat (first | (with_reducible first | exact HB.out | apply below_alloc | apply pw_below_drewN | apply below_drew1) | exact HB.out)))); have n5_ := Aside0.mk (below_step (by repeat (first | (with_reducible first | exact HB.out | apply below_alloc | apply pw_below_drewN | apply below_drew1) | exact HB.out)) hb); clear HO333; clear HO337; clear HO343; clear HO345; clear HB; have HO333 := n0_; have HO337 := n1_; have HO343 := n2_; have HO345 := n3_; have HO348 := n4_; have HB := n5_; clear n0_ n1_ n2_ n3_ n4_ n5_; (try clear hb); (try clear hb2); (try clear hk); (try clear hi); (try clear ho0)) | ((with_reducible refine gate_callee (f := 14) rfl ?_); refine goesL_ (some 49) rfl rfl Try.func14 (by kernel_rfl) rfl #[] rfl (by (try simp only [List.map_toArray, List.map_cons, List.map_nil]); first | done | rfl | (simp only [List.length_drop, List.length_take]; rfl)) ?_; (with_reducible refine (jalousielaw09_live.calls k  true _ A11.out).mono ?_); rintro e w24 ⟨rfl, hb⟩; refine ⟨_, rfl, ?_⟩; have n0_ := Aside0.mk (Kd.N_below (by (with_reducible repeat (first | apply Kd.N_alloc | apply Kd.N_drewN | apply Kd.N_drew)); exact HO333.out) hb); have n1_ := Aside0.mk (Kd.N_below (by (with_reducible repeat (first | apply Kd.N_alloc | apply Kd.N_drewN | apply Kd.N_drew)); exact HO337.out) hb); have n2_ := Aside0.mk (Kd.R_below (by (with_reducible repeat first|apply zr1|apply zr2|apply zr3); exact HO343.out) hb); have n3_ := Aside0.mk (Kd.R_below (by (with_reducible repeat first|apply zr1|apply zr2|apply zr3); exact HO345.out) hb); have n4_ := Aside0.mk (Kd.N_below (by (with_reducible repeat (first | apply Kd.N_alloc | apply Kd.N_drewN | apply Kd.N_drew)); exact HO348.out) hb); have n5_ := Aside0.mk (below_step (by repeat (first | (with_reducible first | exact HB.out | apply below_alloc | apply pw_below_drewN | apply below_drew1) | exact HB.out)) hb); clear HO333; clear HO337; clear HO343; clear HO345; clear HO348; clear HB; have HO333 := n0_; have HO337 := n1_; have HO343 := n2_; have HO345 := n3_; have HO348 := n4_; have HB := n5_; clear n0_ n1_ n2_ n3_ n4_ n5_; (try clear hb); (try clear hb2); (try clear hk); (try clear hi)) | (go_at_call 18; (with_reducible refine (hunk_Check.calls k _ _ t330 t351 _ ?side1 ?side2 A13.out).mono ?_); (case side1 => repeat (first | exact (Kd.N_reads' HO333.out).2.2 | (with_reducible refine Kd.C_alloc ?_ _) | (with_reducible refine Kd.C_drewN ?_ _) | (with_reducible refine Kd.C_drew ?_))); (case side2 => exact (Kd.N_reads' HO333.out).2.1); rintro e w25 ⟨rfl, hb⟩; have n0_ := Aside0.mk (Kd.N_below (by (with_reducible repeat (first | apply Kd.N_alloc | apply Kd.N_drewN | apply Kd.N_drew)); exact HO333.out) hb); have n1_ := Aside0.mk (Kd.N_below (by (with_reducible repeat (first | apply Kd.N_alloc | apply Kd.N_drewN | apply Kd.N_drew)); exact HO337.out) hb); have n2_ := Aside0.mk (Kd.R_below (by (with_reducible repeat first|apply zr1|apply zr2|apply zr3); exact HO343.out) hb); have n3_ := Aside0.mk (Kd.R_below (by (with_reducible repeat first|apply zr1|apply zr2|apply zr3); exact HO345.out) hb); have n4_ := Aside0.mk (Kd.N_below (by (with_reducible repeat (first | apply Kd.N_alloc | apply Kd.N_drewN | apply Kd.N_drew)); exact HO348.out) hb); have n5_ := Aside0.mk (below_step (by repeat (first | (with_reducible first | exact HB.out | apply below_alloc | apply pw_below_drewN | apply below_drew1) | exact HB.out)) hb); clear HO333; clear HO337; clear HO343; clear HO345; clear HO348; clear HB; have HO333 := n0_; have HO337 := n1_; have HO343 := n2_; have HO345 := n3_; have HO348 := n4_; have HB := n5_; clear n0_ n1_ n2_ n3_ n4_ n5_; (try clear hb); (try clear hb2); (try clear hk); (try clear hi); obtain ⟨Ao26, co26, eo26⟩ := Kd.N_slice HO348.out; subst eo26; obtain ⟨Ao27, co27, eo27⟩ := Kd.N_slice HO337.out; subst eo27) | (go_at_call 20; (with_reducible refine (jalousieref08_Same.calls k _ _ t346 _ _ t334 t352 _ ?side1 ?side2 ?side3 ?side4 A16.out).mono ?_); (case side1 => repeat (first | exact (Kd.N_reads' HO348.out).2.2 | (with_reducible refine Kd.C_alloc ?_ _) | (with_reducible refine Kd.C_drewN ?_ _) | (with_reducible refine Kd.C_drew ?_))); (case side2 => exact (Kd.N_reads' HO348.out).2.1); (case side3 => repeat (first | exact (Kd.N_reads' HO337.out).2.2 | (with_reducible refine Kd.C_alloc ?_ _) | (with_reducible refine Kd.C_drewN ?_ _) | (with_reducible refine Kd.C_drew ?_))); (case side4 => exact (Kd.N_reads' HO337.out).2.1); rintro e w' ⟨rfl, ⟨nd, rfl⟩⟩))
       go_ret
       exact ⟨by first | rfl | (simp [errW_none, errW_some] <;> rfl) | (simp [*, errW_none, errW_some] <;> rfl), by repeat (first | (with_reducible first | exact HB.out | apply below_alloc | apply pw_below_drewN | apply below_drew1) | exact HB.out)⟩
      ·rw [if_neg c15] at H
       have c15b0 : (t349 == 0) = false := beq_eq_false_iff_ne.mpr c15
       have c15b1 : (t349 != 0) = true := bne_iff_ne.mpr c15
       exact absurd (Option.some.inj (H.trans (congrArg some HRT.out))) (by decide)
     ·rw [if_neg c14] at H
      have c14b0 : (t351 == 0) = false := beq_eq_false_iff_ne.mpr c14
      have c14b1 : (t351 != 0) = true := bne_iff_ne.mpr c14
      exact absurd (Option.some.inj (H.trans (congrArg some HRT.out))) (by decide)
    ·replace c12 := Bool.eq_false_iff.mpr c12
     subst c12
     have H1 : (some false) = some r := by rw [if_neg (show ¬ (false = true) by decide)] at H; exact H
     clear H
     have H := H1
     clear H1
     exact absurd (Option.some.inj (H.trans (congrArg some HRT.out))) (by decide)
   ·rw [if_neg c8] at H
    have c8b0 : (t331 == 0) = false := beq_eq_false_iff_ne.mpr c8
    have c8b1 : (t331 != 0) = true := bne_iff_ne.mpr c8
    replace H := Option.bind_eq_some_iff.mp H
    obtain ⟨t338, A280, H⟩ := H
    replace H : (some t338) = some r := H
    have A28 := Aside0.mk A280
    clear A280
    obtain rfl := Option.some.inj H
    go_enter Try.func5, Try.ntmps5
    go_wp2_with (first | ((with_reducible refine gate_callee (f := 13) rfl ?_); refine goesL_ (some 15) rfl rfl Try.func13 (by kernel_rfl) rfl #[.slice A0 l0.length c0] rfl (by (try simp only [List.map_toArray, List.map_cons, List.map_nil]); first | done | rfl | (simp only [List.length_drop, List.length_take]; rfl)) ?_; (with_reducible refine (jalousielaw09_few.calls k _ _ l0 true _ ?side1 ?side2 A3.out).mono ?_); (case side1 => repeat (first | exact HR0.out | (with_reducible refine Kd.C_alloc ?_ _) | (with_reducible refine Kd.C_drewN ?_ _) | (with_reducible refine Kd.C_drew ?_))); (case side2 => exact HC0.out); rintro e w29 ⟨rfl, hb⟩; refine ⟨_, rfl, ?_⟩; have n0_ := Aside0.mk (below_step (by repeat (first | (with_reducible first | exact HB.out | apply below_alloc | apply pw_below_drewN | apply below_drew1) | exact HB.out)) hb); clear HB; have HB := n0_; clear n0_; (try clear hb); (try clear hb2); (try clear hk); (try clear hi)) | ((with_reducible refine gate_callee (f := 15) rfl ?_); refine goesL_ (some 23) rfl rfl Try.func15 (by kernel_rfl) rfl #[.slice A0 l0.length c0, .int .i64 (Int.tmod (wrap64 (a1)) 21)] rfl (by (try simp only [List.map_toArray, List.map_cons, List.map_nil]); first | done | rfl | (simp only [List.length_drop, List.length_take]; rfl)) ?_; (with_reducible refine (hunk_Build.calls k _ _ l0 (Int.tmod (wrap64 (a1)) 21) t330 t331 _ ?side1 ?side2 A5.out).mono ?_); (case side1 => repeat (first | exact (Kd.C_below HR0.out HB.out) | (with_reducible refine Kd.C_alloc ?_ _) | (with_reducible refine Kd.C_drewN ?_ _) | (with_reducible refine Kd.C_drew ?_))); (case side2 => exact HC0.out); rintro e w30 ⟨v332, rfl, ho0, hb⟩; refine ⟨_, rfl, ?_⟩; have n0_ := Aside0.mk (Kd.N_lower (Kd.N_mono (ok' := fun k_ => True) (Kd.R_N (Kd.R_bound ho0)) (fun k_ hk_ => trivial)) (below_size (by repeat (first | (with_reducible first | exact HB.out | apply below_alloc | apply pw_below_drewN | apply below_drew1) | exact HB.out)))); have n1_ := Aside0.mk (below_step (by repeat (first | (with_reducible first | exact HB.out | apply below_alloc | apply pw_below_drewN | apply below_drew1) | exact HB.out)) hb); clear HB; have HO333 := n0_; have HB := n1_; clear n0_ n1_; (try clear hb); (try clear hb2); (try clear hk); (try clear hi); (try clear ho0)) | ((with_reducible refine gate_callee (f := 23) rfl ?_); refine goesL_ (some 28) rfl rfl Try.func23 (by kernel_rfl) rfl #[.slice A0 l0.length c0] rfl (by (try simp only [List.map_toArray, List.map_cons, List.map_nil]); first | done | rfl | (simp only [List.length_drop, List.length_take]; rfl)) ?_; (with_reducible refine (jalousieref08_Normal.calls k _ _ l0 t334 t335 _ ?side1 ?side2 A6.out).mono ?_); (case side1 => repeat (first | exact (Kd.C_below HR0.out HB.out) | (with_reducible refine Kd.C_alloc ?_ _) | (with_reducible refine Kd.C_drewN ?_ _) | (with_reducible refine Kd.C_drew ?_))); (case side2 => exact HC0.out); rintro e w31 ⟨v336, rfl, ho0, hb⟩; refine ⟨_, rfl, ?_⟩; have n0_ := Aside0.mk (Kd.N_elder' (by (with_reducible repeat (first | apply Kd.N_alloc | apply Kd.N_drewN | apply Kd.N_drew)); exact HO333.out) (by first | exact Kd.S_base ho0 | exact Kd.R_base ho0 | exact Kd.N_base ho0) hb); have n1_ := Aside0.mk (Kd.N_lower (Kd.N_mono (ok' := fun k_ => some k_ ≠ (v332 : Value).ownBlock) (Kd.S_N (Kd.S_bound ho0)) (fun k_ hk_ => (Kd.fresh' (Kd.N_lt (by (with_reducible repeat (first | apply Kd.N_alloc | apply Kd.N_drewN | apply Kd.N_drew)); exact HO333.out)) k_ hk_.2.1))) (below_size (by repeat (first | (with_reducible first | exact HB.out | apply below_alloc | apply pw_below_drewN | apply below_drew1) | exact HB.out)))); have n2_ := Aside0.mk (below_step (by repeat (first | (with_reducible first | exact HB.out | apply below_alloc | apply pw_below_drewN | apply below_drew1) | exact HB.out)) hb); clear HO333; clear HB; have HO333 := n0_; have HO337 := n1_; have HB := n2_; clear n0_ n1_ n2_; (try clear hb); (try clear hb2); (try clear hk); (try clear hi); (try clear ho0)) | ((with_reducible refine gate_callee (f := 14) rfl ?_); refine goesL_ (some 36) rfl rfl Try.func14 (by kernel_rfl) rfl #[] rfl (by (try simp only [List.map_toArray, List.map_cons, List.map_nil]); first | done | rfl | (simp only [List.length_drop, List.length_take]; rfl)) ?_; (with_reducible refine (jalousielaw09_live.calls k  t338 _ A28.out).mono ?_); rintro e w32 ⟨rfl, hb⟩; refine ⟨_, rfl, ?_⟩; have n0_ := Aside0.mk (Kd.N_below (by (with_reducible repeat (first | apply Kd.N_alloc | apply Kd.N_drewN | apply Kd.N_drew)); exact HO333.out) hb); have n1_ := Aside0.mk (Kd.N_below (by (with_reducible repeat (first | apply Kd.N_alloc | apply Kd.N_drewN | apply Kd.N_drew)); exact HO337.out) hb); have n2_ := Aside0.mk (below_step (by repeat (first | (with_reducible first | exact HB.out | apply below_alloc | apply pw_below_drewN | apply below_drew1) | exact HB.out)) hb); clear HO333; clear HO337; clear HB; have HO333 := n0_; have HO337 := n1_; have HB := n2_; clear n0_ n1_ n2_; (try clear hb); (try clear hb2); (try clear hk); (try clear hi)))
    go_ret
    exact ⟨by first | rfl | (simp [errW_none, errW_some] <;> rfl) | (simp [*, errW_none, errW_some] <;> rfl), by repeat (first | (with_reducible first | exact HB.out | apply below_alloc | apply pw_below_drewN | apply below_drew1) | exact HB.out)⟩
  ·rw [if_neg c7] at H
   have c7b0 : (t331 == t335) = false := beq_eq_false_iff_ne.mpr c7
   have c7b1 : (t331 != t335) = true := bne_iff_ne.mpr c7
   exact absurd (Option.some.inj (H.trans (congrArg some HRT.out))) (by decide)
 ·replace c4 := Bool.eq_false_iff.mpr c4
  subst c4
  have H1 : ((jalousielaw09_live.f k).bind fun t329 => (some t329)) = some r := by rw [if_neg (show ¬ (false = true) by decide)] at H; exact H
  clear H
  have H := H1
  clear H1
  replace H := Option.bind_eq_some_iff.mp H
  obtain ⟨t329, A330, H⟩ := H
  replace H : (some t329) = some r := H
  have A33 := Aside0.mk A330
  clear A330
  obtain rfl := Option.some.inj H
  go_enter Try.func5, Try.ntmps5
  go_wp2_with (first | ((with_reducible refine gate_callee (f := 13) rfl ?_); refine goesL_ (some 15) rfl rfl Try.func13 (by kernel_rfl) rfl #[.slice A0 l0.length c0] rfl (by (try simp only [List.map_toArray, List.map_cons, List.map_nil]); first | done | rfl | (simp only [List.length_drop, List.length_take]; rfl)) ?_; (with_reducible refine (jalousielaw09_few.calls k _ _ l0 false _ ?side1 ?side2 A3.out).mono ?_); (case side1 => repeat (first | exact HR0.out | (with_reducible refine Kd.C_alloc ?_ _) | (with_reducible refine Kd.C_drewN ?_ _) | (with_reducible refine Kd.C_drew ?_))); (case side2 => exact HC0.out); rintro e w34 ⟨rfl, hb⟩; refine ⟨_, rfl, ?_⟩; have n0_ := Aside0.mk (below_step (by repeat (first | (with_reducible first | exact HB.out | apply below_alloc | apply pw_below_drewN | apply below_drew1) | exact HB.out)) hb); clear HB; have HB := n0_; clear n0_; (try clear hb); (try clear hb2); (try clear hk); (try clear hi)) | ((with_reducible refine gate_callee (f := 14) rfl ?_); refine goesL_ (some 17) rfl rfl Try.func14 (by kernel_rfl) rfl #[] rfl (by (try simp only [List.map_toArray, List.map_cons, List.map_nil]); first | done | rfl | (simp only [List.length_drop, List.length_take]; rfl)) ?_; (with_reducible refine (jalousielaw09_live.calls k  t329 _ A33.out).mono ?_); rintro e w35 ⟨rfl, hb⟩; refine ⟨_, rfl, ?_⟩; have n0_ := Aside0.mk (below_step (by repeat (first | (with_reducible first | exact HB.out | apply below_alloc | apply pw_below_drewN | apply below_drew1) | exact HB.out)) hb); clear HB; have HB := n0_; clear n0_; (try clear hb); (try clear hb2); (try clear hk); (try clear hi)))
  go_ret
  exact ⟨by first | rfl | (simp [errW_none, errW_some] <;> rfl) | (simp [*, errW_none, errW_some] <;> rfl), by repeat (first | (with_reducible first | exact HB.out | apply below_alloc | apply pw_below_drewN | apply below_drew1) | exact HB.out)⟩

end Go.Proofs.Ytfnbodjmmkjlcaa.H
end
section
namespace Go.Proofs.Ytfnbodjmmkjlcaa.H
open Go.RowKit Go.Proofs.YtfnbodjmmkjlcaaW.PrintWords Go.Proofs.YtfnbodjmmkjlcaaW.PrintLast Go.Proofs.YtfnbodjmmkjlcaaW.PrintMore
set_option linter.unusedVariables false
/-- THE PURE STATEMENT of HunkBack. -/
def jalousielaw09_HunkBack.Pure : Prop := ∀ (l0 : (List S47)) (a1 : Int), (∀ y_ ∈ l0, ok47 y_) → ((Lit.int .u8 a1).wf = true) → (l0.length * 32 ≤ 140737488351232 ∧ ∀ y_ ∈ l0, sz47 y_) → (True) → ∃ k, jalousielaw09_HunkBack.f k l0 a1 = some true
end Go.Proofs.Ytfnbodjmmkjlcaa.H
end
section
namespace Go.Proofs.Ytfnbodjmmkjlcaa
open Go.RowKit Go.Proofs.YtfnbodjmmkjlcaaW.PrintWords Go.Proofs.YtfnbodjmmkjlcaaW.PrintMore
theorem ev_succ {α : Type} {g : Nat → Option α} {r : α} (h : Ev (fun k => g (k + 1)) r) : Ev g r := Ev.step (fun _ => rfl) h
theorem ev_pos {α : Type} {c : Prop} [Decidable c] {f g : Nat → Option α} {r : α} (h : c) (k : Ev f r) : Ev (fun n => if c then f n else g n) r := by
  obtain ⟨K, k⟩ := k
  exact ⟨K, fun n hn => (if_pos h).trans (k n hn)⟩
theorem ev_neg {α : Type} {c : Prop} [Decidable c] {f g : Nat → Option α} {r : α} (h : ¬ c) (k : Ev g r) : Ev (fun n => if c then f n else g n) r := by
  obtain ⟨K, k⟩ := k
  exact ⟨K, fun n hn => (if_neg h).trans (k n hn)⟩
theorem ev_some {α : Type} {a r : α} (h : a = r) : Ev (fun _ => some a) r := ⟨0, fun _ _ => congrArg some h⟩
theorem ev_bind {α β : Type} {x : Option α} {f : Nat → α → Option β} {a : α} {r : β} (h : x = some a) (k : Ev (fun n => f n a) r) : Ev (fun n => x.bind (f n)) r := by
  subst h
  exact k
theorem ev_cast {α : Type} {g : Nat → Option α} {r q : α} (h : Ev g r) (e : r = q) : Ev g q := e ▸ h
theorem ev_as {α : Type} {g f : Nat → Option α} {r : α} (h : Ev g r) (e : g = f) : Ev f r := e ▸ h
theorem w64s (i : Nat) (h : i < 9223372036854775807) : wrap64 ((i : Int) + 1) = ((i + 1 : Nat) : Int) := by
  unfold wrap64
  omega
theorem w64i (x : Int) (h0 : -9223372036854775808 ≤ x) (h1 : x ≤ 9223372036854775807) : wrap64 x = x := by
  unfold wrap64
  omega
theorem getD_lt {α : Type} {l : List α} {i : Nat} (h : i < l.length) (d : α) : l.getD i d = l[i] := by
  rw [List.getD_eq_getElem?_getD, List.getElem?_eq_getElem h]
  rfl
theorem getD_some {α : Type} {l : List α} {i : Nat} {x : α} (h : l[i]? = some x) (d : α) : l.getD i d = x := by
  rw [List.getD_eq_getElem?_getD, h]
  rfl
theorem drop_cons {α : Type} (l : List α) (i : Nat) (h : i < l.length) (d : α) : l.drop i = l.getD i d :: l.drop (i + 1) := by
  rw [List.drop_eq_getElem_cons h, getD_lt h]
theorem ba_toList (s : ByteArray) : s.toList = s.data.toList := by
  obtain ⟨⟨l⟩⟩ := s
  exact ByteArray.toList_mk l
theorem ba_inj {a b : ByteArray} (h : a.toList = b.toList) : a = b := by
  rw [ba_toList, ba_toList] at h
  obtain ⟨⟨l⟩⟩ := a
  obtain ⟨⟨m⟩⟩ := b
  simp only at h
  subst h
  rfl
theorem ba_beq (a b : ByteArray) : (a.toList == b.toList) = decide (a = b) := by
  by_cases h : a = b
  · subst h
    simp
  · rw [decide_eq_false h]
    simp only [beq_eq_false_iff_ne, ne_eq]
    exact fun e => h (ba_inj e)
end Go.Proofs.Ytfnbodjmmkjlcaa
end
section
namespace Go.Proofs.Ytfnbodjmmkjlcaa.H
open Go.RowKit Go.Proofs.YtfnbodjmmkjlcaaW.PrintWords Go.Proofs.YtfnbodjmmkjlcaaW.PrintLast Go.Proofs.YtfnbodjmmkjlcaaW.PrintMore
attribute [local go_sem] max2_int min2_int max_two min_two max_three min_three max_four min_four   -- for this text's walks alone
set_option linter.unusedVariables false
set_option linter.unusedSimpArgs false

def jalousieref08_Changed.l0 : Nat → List (S47) → Int → Int → Option (Int)
  | 0, _, _, _ => none
  | k + 1, x0, x3, x4 => if x4 < (x0.length : Int) then (if 0 ≤ x4 then (if ((rd_T47 x0 x4).f0) = 2 then (jalousieref08_Changed.l0 k x0 (wrap64 (x3 + (((rd_T47 x0 x4).f1).length : Int))) (wrap64 (x4 + 1))) else (if ((rd_T47 x0 x4).f0) = 3 then (jalousieref08_Changed.l0 k x0 (wrap64 (x3 + (((rd_T47 x0 x4).f1).length : Int))) (wrap64 (x4 + 1))) else (jalousieref08_Changed.l0 k x0 x3 (wrap64 (x4 + 1))))) else (none)) else (some x3)
def jalousieref08_Changed.f (k : Nat) (l0 : List (S47)) : Option (Int) := jalousieref08_Changed.l0 k l0 0 0
end Go.Proofs.Ytfnbodjmmkjlcaa.H
end
