/-
  What the claim needs of the words, of the walks and of the plain proofs, in one row (6).
-/
import Derived.Test.YtfnbodjmmkjlcaaZ0
import Derived.Test.YtfnbodjmmkjlcaaZ1
import Derived.Test.YtfnbodjmmkjlcaaZ5
section
namespace Go.Proofs.Ytfnbodjmmkjlcaa.H
open Go.RowKit Go.Proofs.YtfnbodjmmkjlcaaW.PrintWords Go.Proofs.YtfnbodjmmkjlcaaW.PrintLast Go.Proofs.YtfnbodjmmkjlcaaW.PrintMore
attribute [local go_sem] max2_int min2_int max_two min_two max_three min_three max_four min_four   -- for this text's walks alone
set_option linter.unusedVariables false
set_option linter.unusedSimpArgs false

def jalousieref08_Changed.l0 : Nat → List (S47) → Int → Int → Option (Int)
 | 0, _, _, _ => none
 | k + 1, x0, x3, x4 => if x4 < (x0.length : Int) then (if 0 ≤ x4 then (if ((rd_T47 x0 x4).f0) = 2 then (jalousieref08_Changed.l0 k x0 (wrap64 (x3 + (((rd_T47 x0 x4).f1).length : Int))) (wrap64 (x4 + 1))) else (if ((rd_T47 x0 x4).f0) = 3 then (jalousieref08_Changed.l0 k x0 (wrap64 (x3 + (((rd_T47 x0 x4).f1).length : Int))) (wrap64 (x4 + 1))) else (jalousieref08_Changed.l0 k x0 x3 (wrap64 (x4 + 1))))) else (none)) else (some x3)
def jalousieref08_Changed.f (k : Nat) (l0 : List (S47)) : Option (Int) := jalousieref08_Changed.l0 k l0 0 0
set_option maxHeartbeats 8000000 in
set_option maxRecDepth 100000 in
theorem jalousieref08_Changed.calls (k : Nat) (A0 : Option Addr) (c0 : Nat) (l0 : List (S47)) (r : Int) (w : World) (hr0 : Kd.C k47 w A0 l0.length l0) (hc0 : l0.length ≤ c0) (h : jalousieref08_Changed.f k l0 = some r) :
  Calls Try.prog 27 #[.slice A0 l0.length c0] w fun e w' => e = .returned (.int .i64 r) ∧ Drawn0 w w' := by
 have HR0 := Aside0.mk hr0
 have HC0 := Aside0.mk hc0
 clear hr0 hc0
 have H : (jalousieref08_Changed.l0 k l0 0 0) = some r := h
 clear h
 have H' := Aside0.mk H
 clear H
 go_enter Try.func27, Try.ntmps27
 go_wp2
 go_loopg [3, 4] k (fun kq v3 v4 w' => ∃ (x3_1 : Int) (x4_1 : Int), v3 = .int .i64 x3_1 ∧ v4 = .int .i64 x4_1 ∧ Aside0 (jalousieref08_Changed.l0 kq l0 x3_1 x4_1 = some r) ∧ Aside0 (kq ≤ k) ∧ Drawn0 w w')
 case atStart => exact ⟨(0), (0), (by first | rfl | (simp; done) | (simp [*]; done)), (by first | rfl | (simp; done) | (simp [*]; done)), H', ⟨Nat.le_refl _⟩, by repeat (first | exact Drawn0.refl _ | apply Drawn0.step)⟩
 case round =>
  clear H'
  obtain ⟨x3_1, x4_1, rfl, rfl, HA, HK1, ⟨m1, rfl⟩⟩ := hrel
  cases gk with
  | zero => exact absurd HA.out (by simp [jalousieref08_Changed.l0])
  | succ k1 =>
   have H := HA.out
   clear HA
   simp only [jalousieref08_Changed.l0] at H
   by_cases c2 : x4_1 < (l0.length : Int)
   ·rw [if_pos c2] at H
    have c2b0 : decide (x4_1 < (l0.length : Int)) = true := decide_eq_true c2
    clear c2
    by_cases c3 : 0 ≤ x4_1
    ·rw [if_pos c3] at H
     have c3b0 : decide (0 ≤ x4_1) = true := decide_eq_true c3
     clear c3
     by_cases c4 : ((rd_T47 l0 x4_1).f0) = 2
     ·rw [if_pos c4] at H
      have c4b0 : (((rd_T47 l0 x4_1).f0) == 2) = true := beq_iff_eq.mpr c4
      have c4b1 : (((rd_T47 l0 x4_1).f0) != 2) = false := bne_eq_false_iff_eq.mpr c4
      clear c4
      have H' := Aside0.mk H
      clear H
      have p282 : 0 ≤ (x4_1 : Int) := of_decide_eq_true (by first | (with_reducible assumption) | assumption)
      have q282 : x4_1 < (l0.length : Int) := of_decide_eq_true (by first | (with_reducible assumption) | assumption)
      obtain ⟨ad282, A282_1, c282_1, e282, hx282_0, hx282_1, hl282_1, hi282_1⟩ := at_T47 HR0.out x4_1 p282 q282
      cases e282
      have HR282_1 := Aside0.mk hi282_1
      have HC282_1 := Aside0.mk hl282_1
      clear hi282_1 hl282_1
      replace p282 := eq_true p282
      replace q282 := eq_true q282
      have p283 : 0 ≤ (x4_1 : Int) := of_decide_eq_true (by first | (with_reducible assumption) | assumption)
      have q283 : x4_1 < (l0.length : Int) := of_decide_eq_true (by first | (with_reducible assumption) | assumption)
      obtain ⟨ad283, A283_1, c283_1, e283, hx283_0, hx283_1, hl283_1, hi283_1⟩ := at_T47 HR0.out x4_1 p283 q283
      obtain rfl : ad282 = ad283 := (by injection e283)
      have HR283_1 := Aside0.mk hi283_1
      have HC283_1 := Aside0.mk hl283_1
      clear hi283_1 hl283_1
      replace p283 := eq_true p283
      replace q283 := eq_true q283
      have ea_ := Option.some.inj (hx282_1.symm.trans hx283_1)
      injection ea_ with ea_ en_ ec_
      subst ea_
      subst ec_
      clear en_
      go_wp2
      go_roundg k1
      case measure => have := HK1.out; omega
      case rel => exact ⟨(wrap64 (x3_1 + (((rd_T47 l0 x4_1).f1).length : Int))), (wrap64 (x4_1 + 1)), (by first | rfl | (simp; done) | (simp [*]; done)), (by first | rfl | (simp; done) | (simp [*]; done)), H', ⟨by have := HK1.out; omega⟩, by repeat (first | exact Drawn0.refl _ | apply Drawn0.step)⟩
     ·rw [if_neg c4] at H
      have c4b0 : (((rd_T47 l0 x4_1).f0) == 2) = false := beq_eq_false_iff_ne.mpr c4
      have c4b1 : (((rd_T47 l0 x4_1).f0) != 2) = true := bne_iff_ne.mpr c4
      by_cases c5 : ((rd_T47 l0 x4_1).f0) = 3
      ·rw [if_pos c5] at H
       have c5b0 : (((rd_T47 l0 x4_1).f0) == 3) = true := beq_iff_eq.mpr c5
       have c5b1 : (((rd_T47 l0 x4_1).f0) != 3) = false := bne_eq_false_iff_eq.mpr c5
       clear c5
       have H' := Aside0.mk H
       clear H
       have p282 : 0 ≤ (x4_1 : Int) := of_decide_eq_true (by first | (with_reducible assumption) | assumption)
       have q282 : x4_1 < (l0.length : Int) := of_decide_eq_true (by first | (with_reducible assumption) | assumption)
       obtain ⟨ad282, A282_1, c282_1, e282, hx282_0, hx282_1, hl282_1, hi282_1⟩ := at_T47 HR0.out x4_1 p282 q282
       cases e282
       have HR282_1 := Aside0.mk hi282_1
       have HC282_1 := Aside0.mk hl282_1
       clear hi282_1 hl282_1
       replace p282 := eq_true p282
       replace q282 := eq_true q282
       have p284 : 0 ≤ (x4_1 : Int) := of_decide_eq_true (by first | (with_reducible assumption) | assumption)
       have q284 : x4_1 < (l0.length : Int) := of_decide_eq_true (by first | (with_reducible assumption) | assumption)
       obtain ⟨ad284, A284_1, c284_1, e284, hx284_0, hx284_1, hl284_1, hi284_1⟩ := at_T47 HR0.out x4_1 p284 q284
       obtain rfl : ad282 = ad284 := (by injection e284)
       have HR284_1 := Aside0.mk hi284_1
       have HC284_1 := Aside0.mk hl284_1
       clear hi284_1 hl284_1
       replace p284 := eq_true p284
       replace q284 := eq_true q284
       have ea_ := Option.some.inj (hx282_1.symm.trans hx284_1)
       injection ea_ with ea_ en_ ec_
       subst ea_
       subst ec_
       clear en_
       have p285 : 0 ≤ (x4_1 : Int) := of_decide_eq_true (by first | (with_reducible assumption) | assumption)
       have q285 : x4_1 < (l0.length : Int) := of_decide_eq_true (by first | (with_reducible assumption) | assumption)
       obtain ⟨ad285, A285_1, c285_1, e285, hx285_0, hx285_1, hl285_1, hi285_1⟩ := at_T47 HR0.out x4_1 p285 q285
       obtain rfl : ad282 = ad285 := (by injection e285)
       have HR285_1 := Aside0.mk hi285_1
       have HC285_1 := Aside0.mk hl285_1
       clear hi285_1 hl285_1
       replace p285 := eq_true p285
       replace q285 := eq_true q285
       have ea_ := Option.some.inj (hx282_1.symm.trans hx285_1)
       injection ea_ with ea_ en_ ec_
       subst ea_
       subst ec_
       clear en_
       go_wp2
       go_roundg k1
       case measure => have := HK1.out; omega
       case rel => exact ⟨(wrap64 (x3_1 + (((rd_T47 l0 x4_1).f1).length : Int))), (wrap64 (x4_1 + 1)), (by first | rfl | (simp; done) | (simp [*]; done)), (by first | rfl | (simp; done) | (simp [*]; done)), H', ⟨by have := HK1.out; omega⟩, by repeat (first | exact Drawn0.refl _ | apply Drawn0.step)⟩
      ·rw [if_neg c5] at H
       have c5b0 : (((rd_T47 l0 x4_1).f0) == 3) = false := beq_eq_false_iff_ne.mpr c5
       have c5b1 : (((rd_T47 l0 x4_1).f0) != 3) = true := bne_iff_ne.mpr c5
       have H' := Aside0.mk H
       clear H
       have p282 : 0 ≤ (x4_1 : Int) := of_decide_eq_true (by first | (with_reducible assumption) | assumption)
       have q282 : x4_1 < (l0.length : Int) := of_decide_eq_true (by first | (with_reducible assumption) | assumption)
       obtain ⟨ad282, A282_1, c282_1, e282, hx282_0, hx282_1, hl282_1, hi282_1⟩ := at_T47 HR0.out x4_1 p282 q282
       cases e282
       have HR282_1 := Aside0.mk hi282_1
       have HC282_1 := Aside0.mk hl282_1
       clear hi282_1 hl282_1
       replace p282 := eq_true p282
       replace q282 := eq_true q282
       have p284 : 0 ≤ (x4_1 : Int) := of_decide_eq_true (by first | (with_reducible assumption) | assumption)
       have q284 : x4_1 < (l0.length : Int) := of_decide_eq_true (by first | (with_reducible assumption) | assumption)
       obtain ⟨ad284, A284_1, c284_1, e284, hx284_0, hx284_1, hl284_1, hi284_1⟩ := at_T47 HR0.out x4_1 p284 q284
       obtain rfl : ad282 = ad284 := (by injection e284)
       have HR284_1 := Aside0.mk hi284_1
       have HC284_1 := Aside0.mk hl284_1
       clear hi284_1 hl284_1
       replace p284 := eq_true p284
       replace q284 := eq_true q284
       have ea_ := Option.some.inj (hx282_1.symm.trans hx284_1)
       injection ea_ with ea_ en_ ec_
       subst ea_
       subst ec_
       clear en_
       go_wp2
       go_roundg k1
       case measure => have := HK1.out; omega
       case rel => exact ⟨(x3_1), (wrap64 (x4_1 + 1)), (by first | rfl | (simp; done) | (simp [*]; done)), (by first | rfl | (simp; done) | (simp [*]; done)), H', ⟨by have := HK1.out; omega⟩, by repeat (first | exact Drawn0.refl _ | apply Drawn0.step)⟩
    ·rw [if_neg c3] at H
     exact absurd H (by simp)
   ·rw [if_neg c2] at H
    have c2b0 : decide (x4_1 < (l0.length : Int)) = false := decide_eq_false c2
    clear c2
    obtain rfl := Option.some.inj H
    go_wp2
    go_ret
    exact ⟨by first | rfl | (simp; done) | (simp [*]; done), by repeat (first | exact Drawn0.refl _ | apply Drawn0.step)⟩

end Go.Proofs.Ytfnbodjmmkjlcaa.H
end
section
namespace Go.Proofs.Ytfnbodjmmkjlcaa.H
open Go.RowKit Go.Proofs.YtfnbodjmmkjlcaaW.PrintWords Go.Proofs.YtfnbodjmmkjlcaaW.PrintLast Go.Proofs.YtfnbodjmmkjlcaaW.PrintMore
attribute [local go_sem] max2_int min2_int max_two min_two max_three min_three max_four min_four   -- for this text's walks alone
set_option linter.unusedVariables false
set_option linter.unusedSimpArgs false

mutual
def jalousieref09_Check.l0 : Nat → List (S44) → Int → Option (Int)
 | 0, _, _ => none
 | k + 1, x0, x3 => if x3 < (x0.length : Int) then (if 0 ≤ x3 then ((jalousieref08_Check.f k ((rd_T44 x0 x3).f4)).bind fun t287 => (if t287 = 4 then (some 4) else (jalousieref09_Check.l0 k x0 (wrap64 (x3 + 1))))) else (none)) else (jalousieref09_Check.l1 k x0 0)
def jalousieref09_Check.l1 : Nat → List (S44) → Int → Option (Int)
 | 0, _, _ => none
 | k + 1, x0, x4 => if x4 < (x0.length : Int) then (if 0 ≤ x4 then ((jalousieref08_Normal.f k ((rd_T44 x0 x4).f4)).bind fun bt290 => (if bt290.2 = 0 then ((jalousieref08_Same.f k bt290.1 ((rd_T44 x0 x4).f4)).bind fun t294 => (if t294 = true then ((jalousieref08_Changed.f k bt290.1).bind fun t295 => (jalousieref09_Check.j2 k x0 x4 bt290.1 (t295 == 0) ((rd_T44 x0 x4).f0) ((rd_T44 x0 x4).f1) ((rd_T44 x0 x4).f2) ((rd_T44 x0 x4).f3) ((rd_T44 x0 x4).f4))) else (jalousieref09_Check.j2 k x0 x4 bt290.1 true ((rd_T44 x0 x4).f0) ((rd_T44 x0 x4).f1) ((rd_T44 x0 x4).f2) ((rd_T44 x0 x4).f3) ((rd_T44 x0 x4).f4)))) else (jalousieref09_Check.j2 k x0 x4 bt290.1 true ((rd_T44 x0 x4).f0) ((rd_T44 x0 x4).f1) ((rd_T44 x0 x4).f2) ((rd_T44 x0 x4).f3) ((rd_T44 x0 x4).f4)))) else (none)) else (some 0)
def jalousieref09_Check.j2 : Nat → List (S44) → Int → List (S47) → Bool → Int → Int → Int → Int → List (S47) → Option (Int)
 | 0, _, _, _, _, _, _, _, _, _ => none
 | k + 1, x0, x4, x6, x58, x290000, x290001, x290002, x290003, x290004 => if x58 = true then (some 3) else ((jalousieref08_Sides.f k x6).bind fun bt296 => (if x290001 = (bt296.1.length : Int) then (if x290003 = (bt296.2.1.length : Int) then (if x290001 > 400 then (jalousieref09_Check.j3 k x0 x4 true x290000 x290001 x290002 x290003 x290004) else (if x290003 > 400 then (jalousieref09_Check.j3 k x0 x4 true x290000 x290001 x290002 x290003 x290004) else (if x290000 < 0 then (jalousieref09_Check.j3 k x0 x4 true x290000 x290001 x290002 x290003 x290004) else (if x290000 > 400 then (jalousieref09_Check.j3 k x0 x4 true x290000 x290001 x290002 x290003 x290004) else (if x290002 < 0 then (jalousieref09_Check.j3 k x0 x4 true x290000 x290001 x290002 x290003 x290004) else (jalousieref09_Check.j3 k x0 x4 (decide (x290002 > 400)) x290000 x290001 x290002 x290003 x290004)))))) else (jalousieref09_Check.j3 k x0 x4 true x290000 x290001 x290002 x290003 x290004)) else (jalousieref09_Check.j3 k x0 x4 true x290000 x290001 x290002 x290003 x290004)))
def jalousieref09_Check.j3 : Nat → List (S44) → Int → Bool → Int → Int → Int → Int → List (S47) → Option (Int)
 | 0, _, _, _, _, _, _, _, _ => none
 | k + 1, x0, x4, x106, x290000, x290001, x290002, x290003, x290004 => if x106 = true then (some 3) else (if x4 > 0 then (if 0 ≤ (wrap64 (x4 - 1)) then (if (wrap64 (x4 - 1)) < (x0.length : Int) then (if x290000 < (wrap64 (((rd_T44 x0 (wrap64 (x4 - 1))).f0) + ((rd_T44 x0 (wrap64 (x4 - 1))).f1))) then (some 3) else (if (wrap64 (x290000 - (wrap64 (((rd_T44 x0 (wrap64 (x4 - 1))).f0) + ((rd_T44 x0 (wrap64 (x4 - 1))).f1))))) = (wrap64 (x290002 - (wrap64 (((rd_T44 x0 (wrap64 (x4 - 1))).f2) + ((rd_T44 x0 (wrap64 (x4 - 1))).f3))))) then (jalousieref09_Check.l1 k x0 (wrap64 (x4 + 1))) else (some 3))) else (none)) else (none)) else (if x290000 < 0 then (some 3) else (if (wrap64 (x290000 - 0)) = (wrap64 (x290002 - 0)) then (jalousieref09_Check.l1 k x0 (wrap64 (x4 + 1))) else (some 3))))
end
def jalousieref09_Check.f (k : Nat) (l0 : List (S44)) : Option (Int) := if (l0.length : Int) > 400 then (some 4) else (jalousieref09_Check.l0 k l0 0)
set_option maxHeartbeats 8000000 in
set_option maxRecDepth 100000 in
theorem jalousieref09_Check.calls (k : Nat) (A0 : Option Addr) (c0 : Nat) (l0 : List (S44)) (r : Int) (w : World) (hr0 : Kd.C k44 w A0 l0.length l0) (hc0 : l0.length ≤ c0) (h : jalousieref09_Check.f k l0 = some r) :
  Calls Try.prog 19 #[.slice A0 l0.length c0] w fun e w' => e = .returned (.int .i64 r) ∧ Below w.heap.size w w' := by
 have hu44 := Try.underlying44
 have HR0 := Aside0.mk hr0
 have HC0 := Aside0.mk hc0
 clear hr0 hc0
 have HB := Aside0.mk (Below.refl w.heap.size w)
 have H : (if (l0.length : Int) > 400 then (some 4) else (jalousieref09_Check.l0 k l0 0)) = some r := h
 clear h
 by_cases c2 : (l0.length : Int) > 400
 ·rw [if_pos c2] at H
  have c2b0 : decide (400 < (l0.length : Int)) = true := decide_eq_true c2
  have c2b1 : decide (400 < l0.length) = true := decide_eq_true (by omega)
  clear c2
  obtain rfl := Option.some.inj H
  go_enter Try.func19, Try.ntmps19
  go_wp2
  repeat (go_quiet (fail); try go_wp2)
  go_ret
  exact ⟨by first | rfl | (simp [errW_none, errW_some] <;> rfl) | (simp [*, errW_none, errW_some] <;> rfl), by repeat (first | (with_reducible first | exact HB.out | apply below_alloc | apply pw_below_drewN | apply below_drew1) | exact HB.out)⟩
 ·rw [if_neg c2] at H
  have c2b0 : decide (400 < (l0.length : Int)) = false := decide_eq_false c2
  have c2b1 : decide (400 < l0.length) = false := decide_eq_false (by omega)
  clear c2
  have H' := Aside0.mk H
  clear H
  go_enter Try.func19, Try.ntmps19
  go_wp2
  repeat (go_quiet (fail); try go_wp2)
  go_loopg [3] k (fun kq v3 w' => ∃ (x3_1 : Int), v3 = .int .i64 x3_1 ∧ Aside0 (jalousieref09_Check.l0 kq l0 x3_1 = some r) ∧ Aside0 (kq ≤ k) ∧ Aside0 (Below w.heap.size w w'))
  case atStart => exact ⟨(0), (by first | rfl | (simp; done) | (simp [*]; done)), H', ⟨Nat.le_refl _⟩, ⟨by repeat (first | (with_reducible first | exact HB.out | apply below_alloc | apply pw_below_drewN | apply below_drew1) | exact HB.out)⟩⟩
  case round =>
   clear H'
   try clear c1
   try clear c2
   try clear c2b0
   try clear c2b1
   try clear p2
   obtain ⟨x3_1, rfl, HA, HK1, HB⟩ := hrel
   cases gk with
   | zero => exact absurd HA.out (by simp [jalousieref09_Check.l0])
   | succ k1 =>
    have H := HA.out
    clear HA
    simp only [jalousieref09_Check.l0] at H
    by_cases c3 : x3_1 < (l0.length : Int)
    ·rw [if_pos c3] at H
     have c3b0 : decide (x3_1 < (l0.length : Int)) = true := decide_eq_true c3
     clear c3
     by_cases c4 : 0 ≤ x3_1
     ·rw [if_pos c4] at H
      have c4b0 : decide (0 ≤ x3_1) = true := decide_eq_true c4
      clear c4
      replace H := Option.bind_eq_some_iff.mp H
      obtain ⟨t287, A50, H⟩ := H
      replace H : (if t287 = 4 then (some 4) else (jalousieref09_Check.l0 k1 l0 (wrap64 (x3_1 + 1)))) = some r := H
      have A5 := Aside0.mk A50
      clear A50
      by_cases c6 : t287 = 4
      ·rw [if_pos c6] at H
       have c6b0 : (t287 == 4) = true := beq_iff_eq.mpr c6
       have c6b1 : (t287 != 4) = false := bne_eq_false_iff_eq.mpr c6
       clear c6
       obtain rfl := Option.some.inj H
       have p286 : 0 ≤ (x3_1 : Int) := of_decide_eq_true (by first | (with_reducible assumption) | assumption)
       have q286 : x3_1 < (l0.length : Int) := of_decide_eq_true (by first | (with_reducible assumption) | assumption)
       obtain ⟨ad286, A286_4, c286_4, e286, hx286_0, hx286_1, hx286_2, hx286_3, hx286_4, hl286_4, hi286_4⟩ := at_T44 HR0.out x3_1 p286 q286
       cases e286
       replace hx286_0 := (HB.out.cell (World.block_lt_of_cell? w _ hx286_0)).trans hx286_0
       replace hx286_1 := (HB.out.cell (World.block_lt_of_cell? w _ hx286_1)).trans hx286_1
       replace hx286_2 := (HB.out.cell (World.block_lt_of_cell? w _ hx286_2)).trans hx286_2
       replace hx286_3 := (HB.out.cell (World.block_lt_of_cell? w _ hx286_3)).trans hx286_3
       replace hx286_4 := (HB.out.cell (World.block_lt_of_cell? w _ hx286_4)).trans hx286_4
       have HR286_4 := Aside0.mk hi286_4
       have HC286_4 := Aside0.mk hl286_4
       clear hi286_4 hl286_4
       replace p286 := eq_true p286
       replace q286 := eq_true q286
       go_wp2_with (first | (go_at_call 26; (with_reducible refine (jalousieref08_Check.calls k1 _ _ ((rd_T44 l0 x3_1).f4) t287 _ ?side1 ?side2 A5.out).mono ?_); (case side1 => repeat (first | exact (Kd.C_below HR286_4.out HB.out) | (with_reducible refine Kd.C_alloc ?_ _) | (with_reducible refine Kd.C_drewN ?_ _) | (with_reducible refine Kd.C_drew ?_))); (case side2 => exact HC286_4.out); rintro e w' ⟨rfl, ⟨nd, rfl⟩⟩; (try first | exact ⟨rfl, _, World.drewN_drewN _ _ _⟩ | exact ⟨rfl, _, Eq.trans (World.drewN_drewN _ _ _) (congrArg (World.drewN _) (Nat.add_assoc _ _ _))⟩)))
       repeat (go_quiet (first | (go_at_call 26; (with_reducible refine (jalousieref08_Check.calls k1 _ _ ((rd_T44 l0 x3_1).f4) t287 _ ?side1 ?side2 A5.out).mono ?_); (case side1 => repeat (first | exact (Kd.C_below HR286_4.out HB.out) | (with_reducible refine Kd.C_alloc ?_ _) | (with_reducible refine Kd.C_drewN ?_ _) | (with_reducible refine Kd.C_drew ?_))); (case side2 => exact HC286_4.out); rintro e w' ⟨rfl, ⟨nd, rfl⟩⟩; (try first | exact ⟨rfl, _, World.drewN_drewN _ _ _⟩ | exact ⟨rfl, _, Eq.trans (World.drewN_drewN _ _ _) (congrArg (World.drewN _) (Nat.add_assoc _ _ _))⟩))); try go_wp2_with (first | (go_at_call 26; (with_reducible refine (jalousieref08_Check.calls k1 _ _ ((rd_T44 l0 x3_1).f4) t287 _ ?side1 ?side2 A5.out).mono ?_); (case side1 => repeat (first | exact (Kd.C_below HR286_4.out HB.out) | (with_reducible refine Kd.C_alloc ?_ _) | (with_reducible refine Kd.C_drewN ?_ _) | (with_reducible refine Kd.C_drew ?_))); (case side2 => exact HC286_4.out); rintro e w' ⟨rfl, ⟨nd, rfl⟩⟩; (try first | exact ⟨rfl, _, World.drewN_drewN _ _ _⟩ | exact ⟨rfl, _, Eq.trans (World.drewN_drewN _ _ _) (congrArg (World.drewN _) (Nat.add_assoc _ _ _))⟩))))
       go_ret
       exact ⟨by first | rfl | (simp [errW_none, errW_some] <;> rfl) | (simp [*, errW_none, errW_some] <;> rfl), by repeat (first | (with_reducible first | exact HB.out | apply below_alloc | apply pw_below_drewN | apply below_drew1) | exact HB.out)⟩
      ·rw [if_neg c6] at H
       have c6b0 : (t287 == 4) = false := beq_eq_false_iff_ne.mpr c6
       have c6b1 : (t287 != 4) = true := bne_iff_ne.mpr c6
       have H' := Aside0.mk H
       clear H
       have p286 : 0 ≤ (x3_1 : Int) := of_decide_eq_true (by first | (with_reducible assumption) | assumption)
       have q286 : x3_1 < (l0.length : Int) := of_decide_eq_true (by first | (with_reducible assumption) | assumption)
       obtain ⟨ad286, A286_4, c286_4, e286, hx286_0, hx286_1, hx286_2, hx286_3, hx286_4, hl286_4, hi286_4⟩ := at_T44 HR0.out x3_1 p286 q286
       cases e286
       replace hx286_0 := (HB.out.cell (World.block_lt_of_cell? w _ hx286_0)).trans hx286_0
       replace hx286_1 := (HB.out.cell (World.block_lt_of_cell? w _ hx286_1)).trans hx286_1
       replace hx286_2 := (HB.out.cell (World.block_lt_of_cell? w _ hx286_2)).trans hx286_2
       replace hx286_3 := (HB.out.cell (World.block_lt_of_cell? w _ hx286_3)).trans hx286_3
       replace hx286_4 := (HB.out.cell (World.block_lt_of_cell? w _ hx286_4)).trans hx286_4
       have HR286_4 := Aside0.mk hi286_4
       have HC286_4 := Aside0.mk hl286_4
       clear hi286_4 hl286_4
       replace p286 := eq_true p286
       replace q286 := eq_true q286
       go_wp2_with (first | (go_at_call 26; (with_reducible refine (jalousieref08_Check.calls k1 _ _ ((rd_T44 l0 x3_1).f4) t287 _ ?side1 ?side2 A5.out).mono ?_); (case side1 => repeat (first | exact (Kd.C_below HR286_4.out HB.out) | (with_reducible refine Kd.C_alloc ?_ _) | (with_reducible refine Kd.C_drewN ?_ _) | (with_reducible refine Kd.C_drew ?_))); (case side2 => exact HC286_4.out); rintro e w' ⟨rfl, ⟨nd, rfl⟩⟩; (try first | exact ⟨rfl, _, World.drewN_drewN _ _ _⟩ | exact ⟨rfl, _, Eq.trans (World.drewN_drewN _ _ _) (congrArg (World.drewN _) (Nat.add_assoc _ _ _))⟩)))
       repeat (go_quiet (first | (go_at_call 26; (with_reducible refine (jalousieref08_Check.calls k1 _ _ ((rd_T44 l0 x3_1).f4) t287 _ ?side1 ?side2 A5.out).mono ?_); (case side1 => repeat (first | exact (Kd.C_below HR286_4.out HB.out) | (with_reducible refine Kd.C_alloc ?_ _) | (with_reducible refine Kd.C_drewN ?_ _) | (with_reducible refine Kd.C_drew ?_))); (case side2 => exact HC286_4.out); rintro e w' ⟨rfl, ⟨nd, rfl⟩⟩; (try first | exact ⟨rfl, _, World.drewN_drewN _ _ _⟩ | exact ⟨rfl, _, Eq.trans (World.drewN_drewN _ _ _) (congrArg (World.drewN _) (Nat.add_assoc _ _ _))⟩))); try go_wp2_with (first | (go_at_call 26; (with_reducible refine (jalousieref08_Check.calls k1 _ _ ((rd_T44 l0 x3_1).f4) t287 _ ?side1 ?side2 A5.out).mono ?_); (case side1 => repeat (first | exact (Kd.C_below HR286_4.out HB.out) | (with_reducible refine Kd.C_alloc ?_ _) | (with_reducible refine Kd.C_drewN ?_ _) | (with_reducible refine Kd.C_drew ?_))); (case side2 => exact HC286_4.out); rintro e w' ⟨rfl, ⟨nd, rfl⟩⟩; (try first | exact ⟨rfl, _, World.drewN_drewN _ _ _⟩ | exact ⟨rfl, _, Eq.trans (World.drewN_drewN _ _ _) (congrArg (World.drewN _) (Nat.add_assoc _ _ _))⟩))))
       go_roundg k1
       case measure => have := HK1.out; omega
       case rel => exact ⟨(wrap64 (x3_1 + 1)), (by first | rfl | (simp; done) | (simp [*]; done)), H', ⟨by have := HK1.out; omega⟩, ⟨by repeat (first | (with_reducible first | exact HB.out | apply below_alloc | apply pw_below_drewN | apply below_drew1) | exact HB.out)⟩⟩
     ·rw [if_neg c4] at H
      exact absurd H (by simp)
    ·rw [if_neg c3] at H
     have c3b0 : decide (x3_1 < (l0.length : Int)) = false := decide_eq_false c3
     clear c3
     have H' := Aside0.mk H
     clear H
     go_wp2
     repeat (go_quiet (fail); try go_wp2)
     go_loopg [4] k1 (fun kq v4 w' => ∃ (x4_2 : Int), v4 = .int .i64 x4_2 ∧ Aside0 (jalousieref09_Check.l1 kq l0 x4_2 = some r) ∧ Aside0 (kq ≤ k1) ∧ Aside0 (Below w.heap.size w w'))
     case atStart => exact ⟨(0), (by first | rfl | (simp; done) | (simp [*]; done)), H', ⟨Nat.le_refl _⟩, ⟨by repeat (first | (with_reducible first | exact HB.out | apply below_alloc | apply pw_below_drewN | apply below_drew1) | exact HB.out)⟩⟩
     case round =>
      clear H'
      try clear c1
      try clear c2
      try clear c2b0
      try clear c2b1
      try clear p2
      try clear q2
      try clear hx2
      try clear c3
      try clear c3b0
      try clear c4
      try clear c4b0
      try clear c6
      try clear c6b0
      try clear c6b1
      try clear p6
      try clear hx286_0
      try clear hx286_1
      try clear hx286_2
      try clear hx286_3
      try clear hx286_4
      try clear p2
      try clear p286
      try clear q286
      obtain ⟨x4_2, rfl, HA, HK2, HB⟩ := hrel
      cases gk with
      | zero => exact absurd HA.out (by simp [jalousieref09_Check.l1])
      | succ k2 =>
       have H := HA.out
       clear HA
       simp only [jalousieref09_Check.l1] at H
       by_cases c7 : x4_2 < (l0.length : Int)
       ·rw [if_pos c7] at H
        have c7b0 : decide (x4_2 < (l0.length : Int)) = true := decide_eq_true c7
        clear c7
        by_cases c8 : 0 ≤ x4_2
        ·rw [if_pos c8] at H
         have c8b0 : decide (0 ≤ x4_2) = true := decide_eq_true c8
         clear c8
         replace H := Option.bind_eq_some_iff.mp H
         obtain ⟨⟨t290, t291⟩, A90, H⟩ := H
         replace H : (if t291 = 0 then ((jalousieref08_Same.f k2 t290 ((rd_T44 l0 x4_2).f4)).bind fun t294 => (if t294 = true then ((jalousieref08_Changed.f k2 t290).bind fun t295 => (jalousieref09_Check.j2 k2 l0 x4_2 t290 (t295 == 0) ((rd_T44 l0 x4_2).f0) ((rd_T44 l0 x4_2).f1) ((rd_T44 l0 x4_2).f2) ((rd_T44 l0 x4_2).f3) ((rd_T44 l0 x4_2).f4))) else (jalousieref09_Check.j2 k2 l0 x4_2 t290 true ((rd_T44 l0 x4_2).f0) ((rd_T44 l0 x4_2).f1) ((rd_T44 l0 x4_2).f2) ((rd_T44 l0 x4_2).f3) ((rd_T44 l0 x4_2).f4)))) else (jalousieref09_Check.j2 k2 l0 x4_2 t290 true ((rd_T44 l0 x4_2).f0) ((rd_T44 l0 x4_2).f1) ((rd_T44 l0 x4_2).f2) ((rd_T44 l0 x4_2).f3) ((rd_T44 l0 x4_2).f4))) = some r := H
         have A9 := Aside0.mk A90
         clear A90
         have HC10 := Aside0.mk H
         clear H
         have p288 : 0 ≤ (x4_2 : Int) := of_decide_eq_true (by first | (with_reducible assumption) | assumption)
         have q288 : x4_2 < (l0.length : Int) := of_decide_eq_true (by first | (with_reducible assumption) | assumption)
         obtain ⟨ad288, A288_4, c288_4, e288, hx288_0, hx288_1, hx288_2, hx288_3, hx288_4, hl288_4, hi288_4⟩ := at_T44 HR0.out x4_2 p288 q288
         cases e288
         replace hx288_0 := (HB.out.cell (World.block_lt_of_cell? w _ hx288_0)).trans hx288_0
         replace hx288_1 := (HB.out.cell (World.block_lt_of_cell? w _ hx288_1)).trans hx288_1
         replace hx288_2 := (HB.out.cell (World.block_lt_of_cell? w _ hx288_2)).trans hx288_2
         replace hx288_3 := (HB.out.cell (World.block_lt_of_cell? w _ hx288_3)).trans hx288_3
         replace hx288_4 := (HB.out.cell (World.block_lt_of_cell? w _ hx288_4)).trans hx288_4
         have HR288_4 := Aside0.mk hi288_4
         have HC288_4 := Aside0.mk hl288_4
         clear hi288_4 hl288_4
         replace p288 := eq_true p288
         replace q288 := eq_true q288
         go_upto_region 13 with (first | ((with_reducible refine gate_dst (N := 5) rfl ?_); (try (refine gate_guard (by rfl) ?_; dsimp only)); refine box_event ?hg (N := 5) ?hd (cs := #[.int .i64 0, .int .i64 0, .int .i64 0, .int .i64 0, .slice none 0 0]) (t := 44) ?hr ?_; (case hd => rfl); (case hg => rfl); (case hr => first | (go_simp; done) | (go_simp; rfl)); intro gb289 hg w11 hbox hb; have n0_ := Aside0.mk (below_step (by repeat (first | (with_reducible first | exact HB.out | apply below_alloc | apply pw_below_drewN | apply below_drew1) | exact HB.out)) hb); have n1_ := Aside0.mk (hbox); have n2_ := Aside0.mk ((by rw [hg]; exact (below_size (by repeat (first | (with_reducible first | exact HB.out | apply below_alloc | apply pw_below_drewN | apply below_drew1) | exact HB.out))) : w.heap.size ≤ gb289)); have n3_ := Aside0.mk ((by rw [hg]; exact (below_size (by repeat (first | (with_reducible first | exact HB.out | apply below_alloc | apply pw_below_drewN | apply below_drew1) | exact HB.out))) : w.heap.size ≤ gb289)); clear HB; have HB := n0_; have BK289 := n1_; have GW289 := n2_; have GE289 := n3_; clear n0_ n1_ n2_ n3_; clear hb hbox hg; have hcz12_0 : w11.cell? ⟨gb289, 0, none⟩ = some (.int .i64 0) := (blk_cell BK289.out 0).trans rfl; have hcz12_1 : w11.cell? ⟨gb289, 1, none⟩ = some (.int .i64 0) := (blk_cell BK289.out 1).trans rfl; have hcz12_2 : w11.cell? ⟨gb289, 2, none⟩ = some (.int .i64 0) := (blk_cell BK289.out 2).trans rfl; have hcz12_3 : w11.cell? ⟨gb289, 3, none⟩ = some (.int .i64 0) := (blk_cell BK289.out 3).trans rfl; have hcz12_4 : w11.cell? ⟨gb289, 4, none⟩ = some (.slice none 0 0) := (blk_cell BK289.out 4).trans rfl; have hfz12_0 := blk_frozen BK289.out 0; have hfz12_1 := blk_frozen BK289.out 1; have hfz12_2 := blk_frozen BK289.out 2; have hfz12_3 := blk_frozen BK289.out 3; have hfz12_4 := blk_frozen BK289.out 4) | (go_at_call 23; (with_reducible refine (jalousieref08_Normal.calls k2 _ _ ((rd_T44 l0 x4_2).f4) t290 t291 _ ?side1 ?side2 A9.out).mono ?_); (case side1 => exact Kd.C_below HR288_4.out (by repeat (first | (with_reducible first | exact HB.out | apply below_alloc | apply pw_below_drewN | apply below_drew1 | refine below_set ?_ GE289.out) | exact HB.out))); (case side2 => exact HC288_4.out); rintro e w13 ⟨v292, rfl, ho0, hb⟩; have n0_ := Aside0.mk (Kd.S_lower ho0 (below_size (by repeat (first | (with_reducible first | exact HB.out | apply below_alloc | apply pw_below_drewN | apply below_drew1 | refine below_set ?_ GE289.out) | exact HB.out)))); have n1_ := Aside0.mk (blk_below (g := gb289) (o := .cells #[.int .i64 ((rd_T44 l0 x4_2).f0), .int .i64 ((rd_T44 l0 x4_2).f1), .int .i64 ((rd_T44 l0 x4_2).f2), .int .i64 ((rd_T44 l0 x4_2).f3), .slice A288_4 ((rd_T44 l0 x4_2).f4).length c288_4] 44 (0, 0)) (by (with_reducible repeat first|refine zb1 ?_ _|refine zb2 ?_|refine zb3 ?_ _); refine blk_put (cs := #[.int .i64 ((rd_T44 l0 x4_2).f0), .int .i64 ((rd_T44 l0 x4_2).f1), .int .i64 ((rd_T44 l0 x4_2).f2), .int .i64 ((rd_T44 l0 x4_2).f3), .slice none 0 0]) ?_ 4 _ rfl; (with_reducible repeat first|refine zb1 ?_ _|refine zb2 ?_|refine zb3 ?_ _); refine blk_put (cs := #[.int .i64 ((rd_T44 l0 x4_2).f0), .int .i64 ((rd_T44 l0 x4_2).f1), .int .i64 ((rd_T44 l0 x4_2).f2), .int .i64 0, .slice none 0 0]) ?_ 3 _ rfl; (with_reducible repeat first|refine zb1 ?_ _|refine zb2 ?_|refine zb3 ?_ _); refine blk_put (cs := #[.int .i64 ((rd_T44 l0 x4_2).f0), .int .i64 ((rd_T44 l0 x4_2).f1), .int .i64 0, .int .i64 0, .slice none 0 0]) ?_ 2 _ rfl; (with_reducible repeat first|refine zb1 ?_ _|refine zb2 ?_|refine zb3 ?_ _); refine blk_put (cs := #[.int .i64 ((rd_T44 l0 x4_2).f0), .int .i64 0, .int .i64 0, .int .i64 0, .slice none 0 0]) ?_ 1 _ rfl; (with_reducible repeat first|refine zb1 ?_ _|refine zb2 ?_|refine zb3 ?_ _); refine blk_put (cs := #[.int .i64 0, .int .i64 0, .int .i64 0, .int .i64 0, .slice none 0 0]) ?_ 0 _ rfl; (with_reducible repeat first|refine zb1 ?_ _|refine zb2 ?_|refine zb3 ?_ _); exact BK289.out) hb); have n2_ := Aside0.mk (below_step (by repeat (first | (with_reducible first | exact HB.out | apply below_alloc | apply pw_below_drewN | apply below_drew1 | refine below_set ?_ GE289.out) | exact HB.out)) hb); clear BK289; clear HB; have HO293 := n0_; have BK289 := n1_; have HB := n2_; clear n0_ n1_ n2_; (try clear hb); (try clear hb2); (try clear hk); (try clear hi); (try clear ho0)))
         repeat (go_quiet (first | ((with_reducible refine gate_dst (N := 5) rfl ?_); (try (refine gate_guard (by rfl) ?_; dsimp only)); refine box_event ?hg (N := 5) ?hd (cs := #[.int .i64 0, .int .i64 0, .int .i64 0, .int .i64 0, .slice none 0 0]) (t := 44) ?hr ?_; (case hd => rfl); (case hg => rfl); (case hr => first | (go_simp; done) | (go_simp; rfl)); intro gb289 hg w11 hbox hb; have n0_ := Aside0.mk (below_step (by repeat (first | (with_reducible first | exact HB.out | apply below_alloc | apply pw_below_drewN | apply below_drew1) | exact HB.out)) hb); have n1_ := Aside0.mk (hbox); have n2_ := Aside0.mk ((by rw [hg]; exact (below_size (by repeat (first | (with_reducible first | exact HB.out | apply below_alloc | apply pw_below_drewN | apply below_drew1) | exact HB.out))) : w.heap.size ≤ gb289)); have n3_ := Aside0.mk ((by rw [hg]; exact (below_size (by repeat (first | (with_reducible first | exact HB.out | apply below_alloc | apply pw_below_drewN | apply below_drew1) | exact HB.out))) : w.heap.size ≤ gb289)); clear HB; have HB := n0_; have BK289 := n1_; have GW289 := n2_; have GE289 := n3_; clear n0_ n1_ n2_ n3_; clear hb hbox hg; have hcz12_0 : w11.cell? ⟨gb289, 0, none⟩ = some (.int .i64 0) := (blk_cell BK289.out 0).trans rfl; have hcz12_1 : w11.cell? ⟨gb289, 1, none⟩ = some (.int .i64 0) := (blk_cell BK289.out 1).trans rfl; have hcz12_2 : w11.cell? ⟨gb289, 2, none⟩ = some (.int .i64 0) := (blk_cell BK289.out 2).trans rfl; have hcz12_3 : w11.cell? ⟨gb289, 3, none⟩ = some (.int .i64 0) := (blk_cell BK289.out 3).trans rfl; have hcz12_4 : w11.cell? ⟨gb289, 4, none⟩ = some (.slice none 0 0) := (blk_cell BK289.out 4).trans rfl; have hfz12_0 := blk_frozen BK289.out 0; have hfz12_1 := blk_frozen BK289.out 1; have hfz12_2 := blk_frozen BK289.out 2; have hfz12_3 := blk_frozen BK289.out 3; have hfz12_4 := blk_frozen BK289.out 4) | (go_at_call 23; (with_reducible refine (jalousieref08_Normal.calls k2 _ _ ((rd_T44 l0 x4_2).f4) t290 t291 _ ?side1 ?side2 A9.out).mono ?_); (case side1 => exact Kd.C_below HR288_4.out (by repeat (first | (with_reducible first | exact HB.out | apply below_alloc | apply pw_below_drewN | apply below_drew1 | refine below_set ?_ GE289.out) | exact HB.out))); (case side2 => exact HC288_4.out); rintro e w13 ⟨v292, rfl, ho0, hb⟩; have n0_ := Aside0.mk (Kd.S_lower ho0 (below_size (by repeat (first | (with_reducible first | exact HB.out | apply below_alloc | apply pw_below_drewN | apply below_drew1 | refine below_set ?_ GE289.out) | exact HB.out)))); have n1_ := Aside0.mk (blk_below (g := gb289) (o := .cells #[.int .i64 ((rd_T44 l0 x4_2).f0), .int .i64 ((rd_T44 l0 x4_2).f1), .int .i64 ((rd_T44 l0 x4_2).f2), .int .i64 ((rd_T44 l0 x4_2).f3), .slice A288_4 ((rd_T44 l0 x4_2).f4).length c288_4] 44 (0, 0)) (by (with_reducible repeat first|refine zb1 ?_ _|refine zb2 ?_|refine zb3 ?_ _); refine blk_put (cs := #[.int .i64 ((rd_T44 l0 x4_2).f0), .int .i64 ((rd_T44 l0 x4_2).f1), .int .i64 ((rd_T44 l0 x4_2).f2), .int .i64 ((rd_T44 l0 x4_2).f3), .slice none 0 0]) ?_ 4 _ rfl; (with_reducible repeat first|refine zb1 ?_ _|refine zb2 ?_|refine zb3 ?_ _); refine blk_put (cs := #[.int .i64 ((rd_T44 l0 x4_2).f0), .int .i64 ((rd_T44 l0 x4_2).f1), .int .i64 ((rd_T44 l0 x4_2).f2), .int .i64 0, .slice none 0 0]) ?_ 3 _ rfl; (with_reducible repeat first|refine zb1 ?_ _|refine zb2 ?_|refine zb3 ?_ _); refine blk_put (cs := #[.int .i64 ((rd_T44 l0 x4_2).f0), .int .i64 ((rd_T44 l0 x4_2).f1), .int .i64 0, .int .i64 0, .slice none 0 0]) ?_ 2 _ rfl; (with_reducible repeat first|refine zb1 ?_ _|refine zb2 ?_|refine zb3 ?_ _); refine blk_put (cs := #[.int .i64 ((rd_T44 l0 x4_2).f0), .int .i64 0, .int .i64 0, .int .i64 0, .slice none 0 0]) ?_ 1 _ rfl; (with_reducible repeat first|refine zb1 ?_ _|refine zb2 ?_|refine zb3 ?_ _); refine blk_put (cs := #[.int .i64 0, .int .i64 0, .int .i64 0, .int .i64 0, .slice none 0 0]) ?_ 0 _ rfl; (with_reducible repeat first|refine zb1 ?_ _|refine zb2 ?_|refine zb3 ?_ _); exact BK289.out) hb); have n2_ := Aside0.mk (below_step (by repeat (first | (with_reducible first | exact HB.out | apply below_alloc | apply pw_below_drewN | apply below_drew1 | refine below_set ?_ GE289.out) | exact HB.out)) hb); clear BK289; clear HB; have HO293 := n0_; have BK289 := n1_; have HB := n2_; clear n0_ n1_ n2_; (try clear hb); (try clear hb2); (try clear hk); (try clear hi); (try clear ho0))); go_upto_region 13 with (first | ((with_reducible refine gate_dst (N := 5) rfl ?_); (try (refine gate_guard (by rfl) ?_; dsimp only)); refine box_event ?hg (N := 5) ?hd (cs := #[.int .i64 0, .int .i64 0, .int .i64 0, .int .i64 0, .slice none 0 0]) (t := 44) ?hr ?_; (case hd => rfl); (case hg => rfl); (case hr => first | (go_simp; done) | (go_simp; rfl)); intro gb289 hg w11 hbox hb; have n0_ := Aside0.mk (below_step (by repeat (first | (with_reducible first | exact HB.out | apply below_alloc | apply pw_below_drewN | apply below_drew1) | exact HB.out)) hb); have n1_ := Aside0.mk (hbox); have n2_ := Aside0.mk ((by rw [hg]; exact (below_size (by repeat (first | (with_reducible first | exact HB.out | apply below_alloc | apply pw_below_drewN | apply below_drew1) | exact HB.out))) : w.heap.size ≤ gb289)); have n3_ := Aside0.mk ((by rw [hg]; exact (below_size (by repeat (first | (with_reducible first | exact HB.out | apply below_alloc | apply pw_below_drewN | apply below_drew1) | exact HB.out))) : w.heap.size ≤ gb289)); clear HB; have HB := n0_; have BK289 := n1_; have GW289 := n2_; have GE289 := n3_; clear n0_ n1_ n2_ n3_; clear hb hbox hg; have hcz12_0 : w11.cell? ⟨gb289, 0, none⟩ = some (.int .i64 0) := (blk_cell BK289.out 0).trans rfl; have hcz12_1 : w11.cell? ⟨gb289, 1, none⟩ = some (.int .i64 0) := (blk_cell BK289.out 1).trans rfl; have hcz12_2 : w11.cell? ⟨gb289, 2, none⟩ = some (.int .i64 0) := (blk_cell BK289.out 2).trans rfl; have hcz12_3 : w11.cell? ⟨gb289, 3, none⟩ = some (.int .i64 0) := (blk_cell BK289.out 3).trans rfl; have hcz12_4 : w11.cell? ⟨gb289, 4, none⟩ = some (.slice none 0 0) := (blk_cell BK289.out 4).trans rfl; have hfz12_0 := blk_frozen BK289.out 0; have hfz12_1 := blk_frozen BK289.out 1; have hfz12_2 := blk_frozen BK289.out 2; have hfz12_3 := blk_frozen BK289.out 3; have hfz12_4 := blk_frozen BK289.out 4) | (go_at_call 23; (with_reducible refine (jalousieref08_Normal.calls k2 _ _ ((rd_T44 l0 x4_2).f4) t290 t291 _ ?side1 ?side2 A9.out).mono ?_); (case side1 => exact Kd.C_below HR288_4.out (by repeat (first | (with_reducible first | exact HB.out | apply below_alloc | apply pw_below_drewN | apply below_drew1 | refine below_set ?_ GE289.out) | exact HB.out))); (case side2 => exact HC288_4.out); rintro e w13 ⟨v292, rfl, ho0, hb⟩; have n0_ := Aside0.mk (Kd.S_lower ho0 (below_size (by repeat (first | (with_reducible first | exact HB.out | apply below_alloc | apply pw_below_drewN | apply below_drew1 | refine below_set ?_ GE289.out) | exact HB.out)))); have n1_ := Aside0.mk (blk_below (g := gb289) (o := .cells #[.int .i64 ((rd_T44 l0 x4_2).f0), .int .i64 ((rd_T44 l0 x4_2).f1), .int .i64 ((rd_T44 l0 x4_2).f2), .int .i64 ((rd_T44 l0 x4_2).f3), .slice A288_4 ((rd_T44 l0 x4_2).f4).length c288_4] 44 (0, 0)) (by (with_reducible repeat first|refine zb1 ?_ _|refine zb2 ?_|refine zb3 ?_ _); refine blk_put (cs := #[.int .i64 ((rd_T44 l0 x4_2).f0), .int .i64 ((rd_T44 l0 x4_2).f1), .int .i64 ((rd_T44 l0 x4_2).f2), .int .i64 ((rd_T44 l0 x4_2).f3), .slice none 0 0]) ?_ 4 _ rfl; (with_reducible repeat first|refine zb1 ?_ _|refine zb2 ?_|refine zb3 ?_ _); refine blk_put (cs := #[.int .i64 ((rd_T44 l0 x4_2).f0), .int .i64 ((rd_T44 l0 x4_2).f1), .int .i64 ((rd_T44 l0 x4_2).f2), .int .i64 0, .slice none 0 0]) ?_ 3 _ rfl; (with_reducible repeat first|refine zb1 ?_ _|refine zb2 ?_|refine zb3 ?_ _); refine blk_put (cs := #[.int .i64 ((rd_T44 l0 x4_2).f0), .int .i64 ((rd_T44 l0 x4_2).f1), .int .i64 0, .int .i64 0, .slice none 0 0]) ?_ 2 _ rfl; (with_reducible repeat first|refine zb1 ?_ _|refine zb2 ?_|refine zb3 ?_ _); refine blk_put (cs := #[.int .i64 ((rd_T44 l0 x4_2).f0), .int .i64 0, .int .i64 0, .int .i64 0, .slice none 0 0]) ?_ 1 _ rfl; (with_reducible repeat first|refine zb1 ?_ _|refine zb2 ?_|refine zb3 ?_ _); refine blk_put (cs := #[.int .i64 0, .int .i64 0, .int .i64 0, .int .i64 0, .slice none 0 0]) ?_ 0 _ rfl; (with_reducible repeat first|refine zb1 ?_ _|refine zb2 ?_|refine zb3 ?_ _); exact BK289.out) hb); have n2_ := Aside0.mk (below_step (by repeat (first | (with_reducible first | exact HB.out | apply below_alloc | apply pw_below_drewN | apply below_drew1 | refine below_set ?_ GE289.out) | exact HB.out)) hb); clear BK289; clear HB; have HO293 := n0_; have BK289 := n1_; have HB := n2_; clear n0_ n1_ n2_; (try clear hb); (try clear hb2); (try clear hk); (try clear hi); (try clear ho0))))
         (try simp only [Act.put, List.setIfInBounds_toArray, List.set_cons_zero, List.set_cons_succ])
         go_cut [58] (fun v58 wc => ∃ (kq : Nat) (x58_9 : Bool), v58 = .bool x58_9 ∧ Aside0 (jalousieref09_Check.j2 kq l0 x4_2 t290 x58_9 ((rd_T44 l0 x4_2).f0) ((rd_T44 l0 x4_2).f1) ((rd_T44 l0 x4_2).f2) ((rd_T44 l0 x4_2).f3) ((rd_T44 l0 x4_2).f4) = some r) ∧ Aside0 (kq ≤ k2) ∧ Aside0 (Kd.S k47 47 wc w.heap.size (fun _ => True) v292 t290) ∧ Aside0 (wc.heap[gb289]? = some (.cells #[.int .i64 ((rd_T44 l0 x4_2).f0), .int .i64 ((rd_T44 l0 x4_2).f1), .int .i64 ((rd_T44 l0 x4_2).f2), .int .i64 ((rd_T44 l0 x4_2).f3), (.slice A288_4 ((rd_T44 l0 x4_2).f4).length c288_4)] 44 (0, 0))) ∧ Aside0 (Below w.heap.size w wc))
         case first =>
          have H := HC10.out
          clear HC10
          by_cases c14 : t291 = 0
          ·rw [if_pos c14] at H
           have c14b0 : (t291 == 0) = true := beq_iff_eq.mpr c14
           have c14b1 : (t291 != 0) = false := bne_eq_false_iff_eq.mpr c14
           clear c14
           (first | rw [c14b0] | (simp only [i64_w, i32_w]; rw [c14b0]) | skip)
           replace H := Option.bind_eq_some_iff.mp H
           obtain ⟨t294, A150, H⟩ := H
           replace H : (if t294 = true then ((jalousieref08_Changed.f k2 t290).bind fun t295 => (jalousieref09_Check.j2 k2 l0 x4_2 t290 (t295 == 0) ((rd_T44 l0 x4_2).f0) ((rd_T44 l0 x4_2).f1) ((rd_T44 l0 x4_2).f2) ((rd_T44 l0 x4_2).f3) ((rd_T44 l0 x4_2).f4))) else (jalousieref09_Check.j2 k2 l0 x4_2 t290 true ((rd_T44 l0 x4_2).f0) ((rd_T44 l0 x4_2).f1) ((rd_T44 l0 x4_2).f2) ((rd_T44 l0 x4_2).f3) ((rd_T44 l0 x4_2).f4))) = some r := H
           have A15 := Aside0.mk A150
           clear A150
           by_cases c16 : t294 = true
           ·subst c16
            have H1 : ((jalousieref08_Changed.f k2 t290).bind fun t295 => (jalousieref09_Check.j2 k2 l0 x4_2 t290 (t295 == 0) ((rd_T44 l0 x4_2).f0) ((rd_T44 l0 x4_2).f1) ((rd_T44 l0 x4_2).f2) ((rd_T44 l0 x4_2).f3) ((rd_T44 l0 x4_2).f4))) = some r := by rw [if_pos rfl] at H; exact H
            clear H
            have H := H1
            clear H1
            replace H := Option.bind_eq_some_iff.mp H
            obtain ⟨t295, A170, H⟩ := H
            replace H : (jalousieref09_Check.j2 k2 l0 x4_2 t290 (t295 == 0) ((rd_T44 l0 x4_2).f0) ((rd_T44 l0 x4_2).f1) ((rd_T44 l0 x4_2).f2) ((rd_T44 l0 x4_2).f3) ((rd_T44 l0 x4_2).f4)) = some r := H
            have A17 := Aside0.mk A170
            clear A170
            have H' := Aside0.mk H
            clear H
            have hcz18_0 : w13.cell? ⟨gb289, 0, none⟩ = some (.int .i64 ((rd_T44 l0 x4_2).f0)) := (blk_cell BK289.out 0).trans rfl
            have hcz18_1 : w13.cell? ⟨gb289, 1, none⟩ = some (.int .i64 ((rd_T44 l0 x4_2).f1)) := (blk_cell BK289.out 1).trans rfl
            have hcz18_2 : w13.cell? ⟨gb289, 2, none⟩ = some (.int .i64 ((rd_T44 l0 x4_2).f2)) := (blk_cell BK289.out 2).trans rfl
            have hcz18_3 : w13.cell? ⟨gb289, 3, none⟩ = some (.int .i64 ((rd_T44 l0 x4_2).f3)) := (blk_cell BK289.out 3).trans rfl
            have hcz18_4 : w13.cell? ⟨gb289, 4, none⟩ = some (.slice A288_4 ((rd_T44 l0 x4_2).f4).length c288_4) := (blk_cell BK289.out 4).trans rfl
            have hfz18_0 := blk_frozen BK289.out 0
            have hfz18_1 := blk_frozen BK289.out 1
            have hfz18_2 := blk_frozen BK289.out 2
            have hfz18_3 := blk_frozen BK289.out 3
            have hfz18_4 := blk_frozen BK289.out 4
            obtain ⟨Ao19, co19, eo19⟩ := Kd.S_slice HO293.out
            subst eo19
            go_wp2_with (first | (go_at_call 20; (with_reducible refine (jalousieref08_Same.calls k2 _ _ t290 _ _ ((rd_T44 l0 x4_2).f4) true _ ?side1 ?side2 ?side3 ?side4 A15.out).mono ?_); (case side1 => repeat (first | exact (Kd.S_reads' HO293.out).2.2 | (with_reducible refine Kd.C_alloc ?_ _) | (with_reducible refine Kd.C_drewN ?_ _) | (with_reducible refine Kd.C_drew ?_))); (case side2 => exact (Kd.S_reads' HO293.out).2.1); (case side3 => repeat (first | exact (Kd.C_below HR288_4.out HB.out) | (with_reducible refine Kd.C_alloc ?_ _) | (with_reducible refine Kd.C_drewN ?_ _) | (with_reducible refine Kd.C_drew ?_))); (case side4 => exact HC288_4.out); rintro e w' ⟨rfl, ⟨nd, rfl⟩⟩; (try first | exact ⟨rfl, _, World.drewN_drewN _ _ _⟩ | exact ⟨rfl, _, Eq.trans (World.drewN_drewN _ _ _) (congrArg (World.drewN _) (Nat.add_assoc _ _ _))⟩)) | (go_at_call 27; (with_reducible refine (jalousieref08_Changed.calls k2 _ _ t290 t295 _ ?side1 ?side2 A17.out).mono ?_); (case side1 => repeat (first | exact (Kd.S_reads' HO293.out).2.2 | (with_reducible refine Kd.C_alloc ?_ _) | (with_reducible refine Kd.C_drewN ?_ _) | (with_reducible refine Kd.C_drew ?_))); (case side2 => exact (Kd.S_reads' HO293.out).2.1); rintro e w' ⟨rfl, ⟨nd, rfl⟩⟩; (try first | exact ⟨rfl, _, World.drewN_drewN _ _ _⟩ | exact ⟨rfl, _, Eq.trans (World.drewN_drewN _ _ _) (congrArg (World.drewN _) (Nat.add_assoc _ _ _))⟩)))
            repeat (go_quiet (first | (go_at_call 20; (with_reducible refine (jalousieref08_Same.calls k2 _ _ t290 _ _ ((rd_T44 l0 x4_2).f4) true _ ?side1 ?side2 ?side3 ?side4 A15.out).mono ?_); (case side1 => repeat (first | exact (Kd.S_reads' HO293.out).2.2 | (with_reducible refine Kd.C_alloc ?_ _) | (with_reducible refine Kd.C_drewN ?_ _) | (with_reducible refine Kd.C_drew ?_))); (case side2 => exact (Kd.S_reads' HO293.out).2.1); (case side3 => repeat (first | exact (Kd.C_below HR288_4.out HB.out) | (with_reducible refine Kd.C_alloc ?_ _) | (with_reducible refine Kd.C_drewN ?_ _) | (with_reducible refine Kd.C_drew ?_))); (case side4 => exact HC288_4.out); rintro e w' ⟨rfl, ⟨nd, rfl⟩⟩; (try first | exact ⟨rfl, _, World.drewN_drewN _ _ _⟩ | exact ⟨rfl, _, Eq.trans (World.drewN_drewN _ _ _) (congrArg (World.drewN _) (Nat.add_assoc _ _ _))⟩)) | (go_at_call 27; (with_reducible refine (jalousieref08_Changed.calls k2 _ _ t290 t295 _ ?side1 ?side2 A17.out).mono ?_); (case side1 => repeat (first | exact (Kd.S_reads' HO293.out).2.2 | (with_reducible refine Kd.C_alloc ?_ _) | (with_reducible refine Kd.C_drewN ?_ _) | (with_reducible refine Kd.C_drew ?_))); (case side2 => exact (Kd.S_reads' HO293.out).2.1); rintro e w' ⟨rfl, ⟨nd, rfl⟩⟩; (try first | exact ⟨rfl, _, World.drewN_drewN _ _ _⟩ | exact ⟨rfl, _, Eq.trans (World.drewN_drewN _ _ _) (congrArg (World.drewN _) (Nat.add_assoc _ _ _))⟩))); try go_wp2_with (first | (go_at_call 20; (with_reducible refine (jalousieref08_Same.calls k2 _ _ t290 _ _ ((rd_T44 l0 x4_2).f4) true _ ?side1 ?side2 ?side3 ?side4 A15.out).mono ?_); (case side1 => repeat (first | exact (Kd.S_reads' HO293.out).2.2 | (with_reducible refine Kd.C_alloc ?_ _) | (with_reducible refine Kd.C_drewN ?_ _) | (with_reducible refine Kd.C_drew ?_))); (case side2 => exact (Kd.S_reads' HO293.out).2.1); (case side3 => repeat (first | exact (Kd.C_below HR288_4.out HB.out) | (with_reducible refine Kd.C_alloc ?_ _) | (with_reducible refine Kd.C_drewN ?_ _) | (with_reducible refine Kd.C_drew ?_))); (case side4 => exact HC288_4.out); rintro e w' ⟨rfl, ⟨nd, rfl⟩⟩; (try first | exact ⟨rfl, _, World.drewN_drewN _ _ _⟩ | exact ⟨rfl, _, Eq.trans (World.drewN_drewN _ _ _) (congrArg (World.drewN _) (Nat.add_assoc _ _ _))⟩)) | (go_at_call 27; (with_reducible refine (jalousieref08_Changed.calls k2 _ _ t290 t295 _ ?side1 ?side2 A17.out).mono ?_); (case side1 => repeat (first | exact (Kd.S_reads' HO293.out).2.2 | (with_reducible refine Kd.C_alloc ?_ _) | (with_reducible refine Kd.C_drewN ?_ _) | (with_reducible refine Kd.C_drew ?_))); (case side2 => exact (Kd.S_reads' HO293.out).2.1); rintro e w' ⟨rfl, ⟨nd, rfl⟩⟩; (try first | exact ⟨rfl, _, World.drewN_drewN _ _ _⟩ | exact ⟨rfl, _, Eq.trans (World.drewN_drewN _ _ _) (congrArg (World.drewN _) (Nat.add_assoc _ _ _))⟩))))
            go_meet
            case rel => exact ⟨_, ((t295 == 0)), (by first | rfl | (simp; done) | (simp [*]; done)), H', ⟨by have := HK1.out; have := HK2.out; first | omega | exact Nat.le_refl _⟩, ⟨by (with_reducible repeat (first | apply Kd.S_alloc | apply Kd.S_drewN | apply Kd.S_drew)); exact HO293.out⟩, ⟨by (with_reducible repeat first|refine zb1 ?_ _|refine zb2 ?_|refine zb3 ?_ _); exact BK289.out⟩, ⟨by repeat (first | (with_reducible first | exact HB.out | apply below_alloc | apply pw_below_drewN | apply below_drew1 | refine below_set ?_ GE289.out) | exact HB.out)⟩⟩
           ·replace c16 := Bool.eq_false_iff.mpr c16
            subst c16
            have H1 : (jalousieref09_Check.j2 k2 l0 x4_2 t290 true ((rd_T44 l0 x4_2).f0) ((rd_T44 l0 x4_2).f1) ((rd_T44 l0 x4_2).f2) ((rd_T44 l0 x4_2).f3) ((rd_T44 l0 x4_2).f4)) = some r := by rw [if_neg (show ¬ (false = true) by decide)] at H; exact H
            clear H
            have H := H1
            clear H1
            have H' := Aside0.mk H
            clear H
            have hcz20_0 : w13.cell? ⟨gb289, 0, none⟩ = some (.int .i64 ((rd_T44 l0 x4_2).f0)) := (blk_cell BK289.out 0).trans rfl
            have hcz20_1 : w13.cell? ⟨gb289, 1, none⟩ = some (.int .i64 ((rd_T44 l0 x4_2).f1)) := (blk_cell BK289.out 1).trans rfl
            have hcz20_2 : w13.cell? ⟨gb289, 2, none⟩ = some (.int .i64 ((rd_T44 l0 x4_2).f2)) := (blk_cell BK289.out 2).trans rfl
            have hcz20_3 : w13.cell? ⟨gb289, 3, none⟩ = some (.int .i64 ((rd_T44 l0 x4_2).f3)) := (blk_cell BK289.out 3).trans rfl
            have hcz20_4 : w13.cell? ⟨gb289, 4, none⟩ = some (.slice A288_4 ((rd_T44 l0 x4_2).f4).length c288_4) := (blk_cell BK289.out 4).trans rfl
            have hfz20_0 := blk_frozen BK289.out 0
            have hfz20_1 := blk_frozen BK289.out 1
            have hfz20_2 := blk_frozen BK289.out 2
            have hfz20_3 := blk_frozen BK289.out 3
            have hfz20_4 := blk_frozen BK289.out 4
            obtain ⟨Ao21, co21, eo21⟩ := Kd.S_slice HO293.out
            subst eo21
            go_wp2_with (first | (go_at_call 20; (with_reducible refine (jalousieref08_Same.calls k2 _ _ t290 _ _ ((rd_T44 l0 x4_2).f4) false _ ?side1 ?side2 ?side3 ?side4 A15.out).mono ?_); (case side1 => repeat (first | exact (Kd.S_reads' HO293.out).2.2 | (with_reducible refine Kd.C_alloc ?_ _) | (with_reducible refine Kd.C_drewN ?_ _) | (with_reducible refine Kd.C_drew ?_))); (case side2 => exact (Kd.S_reads' HO293.out).2.1); (case side3 => repeat (first | exact (Kd.C_below HR288_4.out HB.out) | (with_reducible refine Kd.C_alloc ?_ _) | (with_reducible refine Kd.C_drewN ?_ _) | (with_reducible refine Kd.C_drew ?_))); (case side4 => exact HC288_4.out); rintro e w' ⟨rfl, ⟨nd, rfl⟩⟩; (try first | exact ⟨rfl, _, World.drewN_drewN _ _ _⟩ | exact ⟨rfl, _, Eq.trans (World.drewN_drewN _ _ _) (congrArg (World.drewN _) (Nat.add_assoc _ _ _))⟩)))
            repeat (go_quiet (first | (go_at_call 20; (with_reducible refine (jalousieref08_Same.calls k2 _ _ t290 _ _ ((rd_T44 l0 x4_2).f4) false _ ?side1 ?side2 ?side3 ?side4 A15.out).mono ?_); (case side1 => repeat (first | exact (Kd.S_reads' HO293.out).2.2 | (with_reducible refine Kd.C_alloc ?_ _) | (with_reducible refine Kd.C_drewN ?_ _) | (with_reducible refine Kd.C_drew ?_))); (case side2 => exact (Kd.S_reads' HO293.out).2.1); (case side3 => repeat (first | exact (Kd.C_below HR288_4.out HB.out) | (with_reducible refine Kd.C_alloc ?_ _) | (with_reducible refine Kd.C_drewN ?_ _) | (with_reducible refine Kd.C_drew ?_))); (case side4 => exact HC288_4.out); rintro e w' ⟨rfl, ⟨nd, rfl⟩⟩; (try first | exact ⟨rfl, _, World.drewN_drewN _ _ _⟩ | exact ⟨rfl, _, Eq.trans (World.drewN_drewN _ _ _) (congrArg (World.drewN _) (Nat.add_assoc _ _ _))⟩))); try go_wp2_with (first | (go_at_call 20; (with_reducible refine (jalousieref08_Same.calls k2 _ _ t290 _ _ ((rd_T44 l0 x4_2).f4) false _ ?side1 ?side2 ?side3 ?side4 A15.out).mono ?_); (case side1 => repeat (first | exact (Kd.S_reads' HO293.out).2.2 | (with_reducible refine Kd.C_alloc ?_ _) | (with_reducible refine Kd.C_drewN ?_ _) | (with_reducible refine Kd.C_drew ?_))); (case side2 => exact (Kd.S_reads' HO293.out).2.1); (case side3 => repeat (first | exact (Kd.C_below HR288_4.out HB.out) | (with_reducible refine Kd.C_alloc ?_ _) | (with_reducible refine Kd.C_drewN ?_ _) | (with_reducible refine Kd.C_drew ?_))); (case side4 => exact HC288_4.out); rintro e w' ⟨rfl, ⟨nd, rfl⟩⟩; (try first | exact ⟨rfl, _, World.drewN_drewN _ _ _⟩ | exact ⟨rfl, _, Eq.trans (World.drewN_drewN _ _ _) (congrArg (World.drewN _) (Nat.add_assoc _ _ _))⟩))))
            go_meet
            case rel => exact ⟨_, (true), (by first | rfl | (simp; done) | (simp [*]; done)), H', ⟨by have := HK1.out; have := HK2.out; first | omega | exact Nat.le_refl _⟩, ⟨by (with_reducible repeat (first | apply Kd.S_alloc | apply Kd.S_drewN | apply Kd.S_drew)); exact HO293.out⟩, ⟨by (with_reducible repeat first|refine zb1 ?_ _|refine zb2 ?_|refine zb3 ?_ _); exact BK289.out⟩, ⟨by repeat (first | (with_reducible first | exact HB.out | apply below_alloc | apply pw_below_drewN | apply below_drew1 | refine below_set ?_ GE289.out) | exact HB.out)⟩⟩
          ·rw [if_neg c14] at H
           have c14b0 : (t291 == 0) = false := beq_eq_false_iff_ne.mpr c14
           have c14b1 : (t291 != 0) = true := bne_iff_ne.mpr c14
           (first | rw [c14b0] | (simp only [i64_w, i32_w]; rw [c14b0]) | skip)
           have H' := Aside0.mk H
           clear H
           go_wp2
           repeat (go_quiet (fail); try go_wp2)
           go_meet
           case rel => exact ⟨_, (true), (by first | rfl | (simp; done) | (simp [*]; done)), H', ⟨by have := HK1.out; have := HK2.out; first | omega | exact Nat.le_refl _⟩, ⟨by (with_reducible repeat (first | apply Kd.S_alloc | apply Kd.S_drewN | apply Kd.S_drew)); exact HO293.out⟩, ⟨by (with_reducible repeat first|refine zb1 ?_ _|refine zb2 ?_|refine zb3 ?_ _); exact BK289.out⟩, ⟨by repeat (first | (with_reducible first | exact HB.out | apply below_alloc | apply pw_below_drewN | apply below_drew1 | refine below_set ?_ GE289.out) | exact HB.out)⟩⟩
         case rest =>
          clear HC10
          try clear c1
          try clear c2
          try clear c2b0
          try clear c2b1
          try clear p2
          try clear q2
          try clear hx2
          try clear c3
          try clear c3b0
          try clear c4
          try clear c4b0
          try clear c6
          try clear c6b0
          try clear c6b1
          try clear p6
          try clear c7
          try clear c7b0
          try clear c8
          try clear c8b0
          try clear c14
          try clear c14b0
          try clear c14b1
          try clear c16
          try clear c19
          try clear hcz12_0
          try clear hcz12_1
          try clear hcz12_2
          try clear hcz12_3
          try clear hcz12_4
          try clear hcz18_0
          try clear hcz18_1
          try clear hcz18_2
          try clear hcz18_3
          try clear hcz18_4
          try clear hcz20_0
          try clear hcz20_1
          try clear hcz20_2
          try clear hcz20_3
          try clear hcz20_4
          try clear hfz12_0
          try clear hfz12_1
          try clear hfz12_2
          try clear hfz12_3
          try clear hfz12_4
          try clear hfz18_0
          try clear hfz18_1
          try clear hfz18_2
          try clear hfz18_3
          try clear hfz18_4
          try clear hfz20_0
          try clear hfz20_1
          try clear hfz20_2
          try clear hfz20_3
          try clear hfz20_4
          try clear hx286_0
          try clear hx286_1
          try clear hx286_2
          try clear hx286_3
          try clear hx286_4
          try clear hx288_0
          try clear hx288_1
          try clear hx288_2
          try clear hx288_3
          try clear hx288_4
          try clear p2
          try clear p286
          try clear p288
          try clear p6
          try clear q2
          try clear q286
          try clear q288
          obtain ⟨kq, x58_9, rfl, HA, HJ9, HO_6, BK289, HB⟩ := hcut
          cases kq with
          | zero => exact absurd HA.out (by simp [jalousieref09_Check.j2])
          | succ kj9 =>
           have H := HA.out
           clear HA
           simp only [jalousieref09_Check.j2] at H
           by_cases c22 : x58_9 = true
           ·subst c22
            have H1 : (some 3) = some r := by rw [if_pos rfl] at H; exact H
            clear H
            have H := H1
            clear H1
            obtain rfl := Option.some.inj H
            go_wp2
            repeat (go_quiet (fail); try go_wp2)
            go_ret
            exact ⟨by first | rfl | (simp [errW_none, errW_some] <;> rfl) | (simp [*, errW_none, errW_some] <;> rfl), by repeat (first | (with_reducible first | exact HB.out | apply below_alloc | apply pw_below_drewN | apply below_drew1 | refine below_set ?_ GE289.out) | exact HB.out)⟩
           ·replace c22 := Bool.eq_false_iff.mpr c22
            subst c22
            have H1 : ((jalousieref08_Sides.f kj9 t290).bind fun bt296 => (if ((rd_T44 l0 x4_2).f1) = (bt296.1.length : Int) then (if ((rd_T44 l0 x4_2).f3) = (bt296.2.1.length : Int) then (if ((rd_T44 l0 x4_2).f1) > 400 then (jalousieref09_Check.j3 kj9 l0 x4_2 true ((rd_T44 l0 x4_2).f0) ((rd_T44 l0 x4_2).f1) ((rd_T44 l0 x4_2).f2) ((rd_T44 l0 x4_2).f3) ((rd_T44 l0 x4_2).f4)) else (if ((rd_T44 l0 x4_2).f3) > 400 then (jalousieref09_Check.j3 kj9 l0 x4_2 true ((rd_T44 l0 x4_2).f0) ((rd_T44 l0 x4_2).f1) ((rd_T44 l0 x4_2).f2) ((rd_T44 l0 x4_2).f3) ((rd_T44 l0 x4_2).f4)) else (if ((rd_T44 l0 x4_2).f0) < 0 then (jalousieref09_Check.j3 kj9 l0 x4_2 true ((rd_T44 l0 x4_2).f0) ((rd_T44 l0 x4_2).f1) ((rd_T44 l0 x4_2).f2) ((rd_T44 l0 x4_2).f3) ((rd_T44 l0 x4_2).f4)) else (if ((rd_T44 l0 x4_2).f0) > 400 then (jalousieref09_Check.j3 kj9 l0 x4_2 true ((rd_T44 l0 x4_2).f0) ((rd_T44 l0 x4_2).f1) ((rd_T44 l0 x4_2).f2) ((rd_T44 l0 x4_2).f3) ((rd_T44 l0 x4_2).f4)) else (if ((rd_T44 l0 x4_2).f2) < 0 then (jalousieref09_Check.j3 kj9 l0 x4_2 true ((rd_T44 l0 x4_2).f0) ((rd_T44 l0 x4_2).f1) ((rd_T44 l0 x4_2).f2) ((rd_T44 l0 x4_2).f3) ((rd_T44 l0 x4_2).f4)) else (jalousieref09_Check.j3 kj9 l0 x4_2 (decide (((rd_T44 l0 x4_2).f2) > 400)) ((rd_T44 l0 x4_2).f0) ((rd_T44 l0 x4_2).f1) ((rd_T44 l0 x4_2).f2) ((rd_T44 l0 x4_2).f3) ((rd_T44 l0 x4_2).f4))))))) else (jalousieref09_Check.j3 kj9 l0 x4_2 true ((rd_T44 l0 x4_2).f0) ((rd_T44 l0 x4_2).f1) ((rd_T44 l0 x4_2).f2) ((rd_T44 l0 x4_2).f3) ((rd_T44 l0 x4_2).f4))) else (jalousieref09_Check.j3 kj9 l0 x4_2 true ((rd_T44 l0 x4_2).f0) ((rd_T44 l0 x4_2).f1) ((rd_T44 l0 x4_2).f2) ((rd_T44 l0 x4_2).f3) ((rd_T44 l0 x4_2).f4)))) = some r := by rw [if_neg (show ¬ (false = true) by decide)] at H; exact H
            clear H
            have H := H1
            clear H1
            replace H := Option.bind_eq_some_iff.mp H
            obtain ⟨⟨t296, t297, t298⟩, A230, H⟩ := H
            replace H : (if ((rd_T44 l0 x4_2).f1) = (t296.length : Int) then (if ((rd_T44 l0 x4_2).f3) = (t297.length : Int) then (if ((rd_T44 l0 x4_2).f1) > 400 then (jalousieref09_Check.j3 kj9 l0 x4_2 true ((rd_T44 l0 x4_2).f0) ((rd_T44 l0 x4_2).f1) ((rd_T44 l0 x4_2).f2) ((rd_T44 l0 x4_2).f3) ((rd_T44 l0 x4_2).f4)) else (if ((rd_T44 l0 x4_2).f3) > 400 then (jalousieref09_Check.j3 kj9 l0 x4_2 true ((rd_T44 l0 x4_2).f0) ((rd_T44 l0 x4_2).f1) ((rd_T44 l0 x4_2).f2) ((rd_T44 l0 x4_2).f3) ((rd_T44 l0 x4_2).f4)) else (if ((rd_T44 l0 x4_2).f0) < 0 then (jalousieref09_Check.j3 kj9 l0 x4_2 true ((rd_T44 l0 x4_2).f0) ((rd_T44 l0 x4_2).f1) ((rd_T44 l0 x4_2).f2) ((rd_T44 l0 x4_2).f3) ((rd_T44 l0 x4_2).f4)) else (if ((rd_T44 l0 x4_2).f0) > 400 then (jalousieref09_Check.j3 kj9 l0 x4_2 true ((rd_T44 l0 x4_2).f0) ((rd_T44 l0 x4_2).f1) ((rd_T44 l0 x4_2).f2) ((rd_T44 l0 x4_2).f3) ((rd_T44 l0 x4_2).f4)) else (if ((rd_T44 l0 x4_2).f2) < 0 then (jalousieref09_Check.j3 kj9 l0 x4_2 true ((rd_T44 l0 x4_2).f0) ((rd_T44 l0 x4_2).f1) ((rd_T44 l0 x4_2).f2) ((rd_T44 l0 x4_2).f3) ((rd_T44 l0 x4_2).f4)) else (jalousieref09_Check.j3 kj9 l0 x4_2 (decide (((rd_T44 l0 x4_2).f2) > 400)) ((rd_T44 l0 x4_2).f0) ((rd_T44 l0 x4_2).f1) ((rd_T44 l0 x4_2).f2) ((rd_T44 l0 x4_2).f3) ((rd_T44 l0 x4_2).f4))))))) else (jalousieref09_Check.j3 kj9 l0 x4_2 true ((rd_T44 l0 x4_2).f0) ((rd_T44 l0 x4_2).f1) ((rd_T44 l0 x4_2).f2) ((rd_T44 l0 x4_2).f3) ((rd_T44 l0 x4_2).f4))) else (jalousieref09_Check.j3 kj9 l0 x4_2 true ((rd_T44 l0 x4_2).f0) ((rd_T44 l0 x4_2).f1) ((rd_T44 l0 x4_2).f2) ((rd_T44 l0 x4_2).f3) ((rd_T44 l0 x4_2).f4))) = some r := H
            have A23 := Aside0.mk A230
            clear A230
            have HC24 := Aside0.mk H
            clear H
            obtain ⟨Ao25, co25, eo25⟩ := Kd.S_slice HO_6.out
            subst eo25
            go_upto_region 16 with (first | (go_at_call 24; (with_reducible refine (jalousieref08_Sides.calls kj9 _ _ t290 t296 t297 t298 _ ?side1 ?side2 A23.out).mono ?_); (case side1 => repeat (first | exact (Kd.S_reads' HO_6.out).2.2 | (with_reducible refine Kd.C_alloc ?_ _) | (with_reducible refine Kd.C_drewN ?_ _) | (with_reducible refine Kd.C_drew ?_))); (case side2 => exact (Kd.S_reads' HO_6.out).2.1); rintro e w26 ⟨v299, v301, rfl, ho0, ho1, hb⟩; have n0_ := Aside0.mk (Kd.S_mono (Kd.S_told (Kd.S_told (Kd.S_old (by (with_reducible repeat (first | apply Kd.S_alloc | apply Kd.S_drewN | apply Kd.S_drew)); exact HO_6.out) hb) (Kd.R_base ho0)) (Kd.R_base ho1)) (fun _ h_ => h_.1)); have n1_ := Aside0.mk (Kd.R_lower ho0 (below_size (by repeat (first | (with_reducible first | exact HB.out | apply below_alloc | apply pw_below_drewN | apply below_drew1 | refine below_set ?_ GE289.out) | exact HB.out)))); have n2_ := Aside0.mk (Kd.R_lower ho1 (below_size (by repeat (first | (with_reducible first | exact HB.out | apply below_alloc | apply pw_below_drewN | apply below_drew1 | refine below_set ?_ GE289.out) | exact HB.out)))); have n3_ := Aside0.mk (blk_below (g := gb289) (o := .cells #[.int .i64 ((rd_T44 l0 x4_2).f0), .int .i64 ((rd_T44 l0 x4_2).f1), .int .i64 ((rd_T44 l0 x4_2).f2), .int .i64 ((rd_T44 l0 x4_2).f3), .slice A288_4 ((rd_T44 l0 x4_2).f4).length c288_4] 44 (0, 0)) (by (with_reducible repeat first|refine zb1 ?_ _|refine zb2 ?_|refine zb3 ?_ _); exact BK289.out) hb); have n4_ := Aside0.mk (below_step (by repeat (first | (with_reducible first | exact HB.out | apply below_alloc | apply pw_below_drewN | apply below_drew1 | refine below_set ?_ GE289.out) | exact HB.out)) hb); clear HO_6; clear BK289; clear HB; have HO_6 := n0_; have HO300 := n1_; have HO302 := n2_; have BK289 := n3_; have HB := n4_; clear n0_ n1_ n2_ n3_ n4_; (try clear hb); (try clear hb2); (try clear hk); (try clear hi); (try clear ho0); (try clear ho1)))
            repeat (go_quiet (first | (go_at_call 24; (with_reducible refine (jalousieref08_Sides.calls kj9 _ _ t290 t296 t297 t298 _ ?side1 ?side2 A23.out).mono ?_); (case side1 => repeat (first | exact (Kd.S_reads' HO_6.out).2.2 | (with_reducible refine Kd.C_alloc ?_ _) | (with_reducible refine Kd.C_drewN ?_ _) | (with_reducible refine Kd.C_drew ?_))); (case side2 => exact (Kd.S_reads' HO_6.out).2.1); rintro e w26 ⟨v299, v301, rfl, ho0, ho1, hb⟩; have n0_ := Aside0.mk (Kd.S_mono (Kd.S_told (Kd.S_told (Kd.S_old (by (with_reducible repeat (first | apply Kd.S_alloc | apply Kd.S_drewN | apply Kd.S_drew)); exact HO_6.out) hb) (Kd.R_base ho0)) (Kd.R_base ho1)) (fun _ h_ => h_.1)); have n1_ := Aside0.mk (Kd.R_lower ho0 (below_size (by repeat (first | (with_reducible first | exact HB.out | apply below_alloc | apply pw_below_drewN | apply below_drew1 | refine below_set ?_ GE289.out) | exact HB.out)))); have n2_ := Aside0.mk (Kd.R_lower ho1 (below_size (by repeat (first | (with_reducible first | exact HB.out | apply below_alloc | apply pw_below_drewN | apply below_drew1 | refine below_set ?_ GE289.out) | exact HB.out)))); have n3_ := Aside0.mk (blk_below (g := gb289) (o := .cells #[.int .i64 ((rd_T44 l0 x4_2).f0), .int .i64 ((rd_T44 l0 x4_2).f1), .int .i64 ((rd_T44 l0 x4_2).f2), .int .i64 ((rd_T44 l0 x4_2).f3), .slice A288_4 ((rd_T44 l0 x4_2).f4).length c288_4] 44 (0, 0)) (by (with_reducible repeat first|refine zb1 ?_ _|refine zb2 ?_|refine zb3 ?_ _); exact BK289.out) hb); have n4_ := Aside0.mk (below_step (by repeat (first | (with_reducible first | exact HB.out | apply below_alloc | apply pw_below_drewN | apply below_drew1 | refine below_set ?_ GE289.out) | exact HB.out)) hb); clear HO_6; clear BK289; clear HB; have HO_6 := n0_; have HO300 := n1_; have HO302 := n2_; have BK289 := n3_; have HB := n4_; clear n0_ n1_ n2_ n3_ n4_; (try clear hb); (try clear hb2); (try clear hk); (try clear hi); (try clear ho0); (try clear ho1))); go_upto_region 16 with (first | (go_at_call 24; (with_reducible refine (jalousieref08_Sides.calls kj9 _ _ t290 t296 t297 t298 _ ?side1 ?side2 A23.out).mono ?_); (case side1 => repeat (first | exact (Kd.S_reads' HO_6.out).2.2 | (with_reducible refine Kd.C_alloc ?_ _) | (with_reducible refine Kd.C_drewN ?_ _) | (with_reducible refine Kd.C_drew ?_))); (case side2 => exact (Kd.S_reads' HO_6.out).2.1); rintro e w26 ⟨v299, v301, rfl, ho0, ho1, hb⟩; have n0_ := Aside0.mk (Kd.S_mono (Kd.S_told (Kd.S_told (Kd.S_old (by (with_reducible repeat (first | apply Kd.S_alloc | apply Kd.S_drewN | apply Kd.S_drew)); exact HO_6.out) hb) (Kd.R_base ho0)) (Kd.R_base ho1)) (fun _ h_ => h_.1)); have n1_ := Aside0.mk (Kd.R_lower ho0 (below_size (by repeat (first | (with_reducible first | exact HB.out | apply below_alloc | apply pw_below_drewN | apply below_drew1 | refine below_set ?_ GE289.out) | exact HB.out)))); have n2_ := Aside0.mk (Kd.R_lower ho1 (below_size (by repeat (first | (with_reducible first | exact HB.out | apply below_alloc | apply pw_below_drewN | apply below_drew1 | refine below_set ?_ GE289.out) | exact HB.out)))); have n3_ := Aside0.mk (blk_below (g := gb289) (o := .cells #[.int .i64 ((rd_T44 l0 x4_2).f0), .int .i64 ((rd_T44 l0 x4_2).f1), .int .i64 ((rd_T44 l0 x4_2).f2), .int .i64 ((rd_T44 l0 x4_2).f3), .slice A288_4 ((rd_T44 l0 x4_2).f4).length c288_4] 44 (0, 0)) (by (with_reducible repeat first|refine zb1 ?_ _|refine zb2 ?_|refine zb3 ?_ _); exact BK289.out) hb); have n4_ := Aside0.mk (below_step (by repeat (first | (with_reducible first | exact HB.out | apply below_alloc | apply pw_below_drewN | apply below_drew1 | refine below_set ?_ GE289.out) | exact HB.out)) hb); clear HO_6; clear BK289; clear HB; have HO_6 := n0_; have HO300 := n1_; have HO302 := n2_; have BK289 := n3_; have HB := n4_; clear n0_ n1_ n2_ n3_ n4_; (try clear hb); (try clear hb2); (try clear hk); (try clear hi); (try clear ho0); (try clear ho1))))
            (try simp only [Act.put, List.setIfInBounds_toArray, List.set_cons_zero, List.set_cons_succ])
            go_cut [106] (fun v106 wc => ∃ (kq : Nat) (x106_23 : Bool), v106 = .bool x106_23 ∧ Aside0 (jalousieref09_Check.j3 kq l0 x4_2 x106_23 ((rd_T44 l0 x4_2).f0) ((rd_T44 l0 x4_2).f1) ((rd_T44 l0 x4_2).f2) ((rd_T44 l0 x4_2).f3) ((rd_T44 l0 x4_2).f4) = some r) ∧ Aside0 (kq ≤ kj9) ∧ Aside0 (wc.heap[gb289]? = some (.cells #[.int .i64 ((rd_T44 l0 x4_2).f0), .int .i64 ((rd_T44 l0 x4_2).f1), .int .i64 ((rd_T44 l0 x4_2).f2), .int .i64 ((rd_T44 l0 x4_2).f3), (.slice A288_4 ((rd_T44 l0 x4_2).f4).length c288_4)] 44 (0, 0))) ∧ Aside0 (Below w.heap.size w wc))
            case first =>
             have H := HC24.out
             clear HC24
             by_cases c27 : ((rd_T44 l0 x4_2).f1) = (t296.length : Int)
             ·rw [if_pos c27] at H
              have c27b0 : (((rd_T44 l0 x4_2).f1) == (t296.length : Int)) = true := beq_iff_eq.mpr c27
              have c27b1 : (((rd_T44 l0 x4_2).f1) != (t296.length : Int)) = false := bne_eq_false_iff_eq.mpr c27
              clear c27
              (first | rw [c27b0] | (simp only [i64_w, i32_w]; rw [c27b0]) | skip)
              by_cases c28 : ((rd_T44 l0 x4_2).f3) = (t297.length : Int)
              ·rw [if_pos c28] at H
               have c28b0 : (((rd_T44 l0 x4_2).f3) == (t297.length : Int)) = true := beq_iff_eq.mpr c28
               have c28b1 : (((rd_T44 l0 x4_2).f3) != (t297.length : Int)) = false := bne_eq_false_iff_eq.mpr c28
               clear c28
               by_cases c29 : ((rd_T44 l0 x4_2).f1) > 400
               ·rw [if_pos c29] at H
                have c29b0 : decide (400 < ((rd_T44 l0 x4_2).f1)) = true := decide_eq_true c29
                clear c29
                have H' := Aside0.mk H
                clear H
                have hcz30_0 : w26.cell? ⟨gb289, 0, none⟩ = some (.int .i64 ((rd_T44 l0 x4_2).f0)) := (blk_cell BK289.out 0).trans rfl
                have hcz30_1 : w26.cell? ⟨gb289, 1, none⟩ = some (.int .i64 ((rd_T44 l0 x4_2).f1)) := (blk_cell BK289.out 1).trans rfl
                have hcz30_2 : w26.cell? ⟨gb289, 2, none⟩ = some (.int .i64 ((rd_T44 l0 x4_2).f2)) := (blk_cell BK289.out 2).trans rfl
                have hcz30_3 : w26.cell? ⟨gb289, 3, none⟩ = some (.int .i64 ((rd_T44 l0 x4_2).f3)) := (blk_cell BK289.out 3).trans rfl
                have hcz30_4 : w26.cell? ⟨gb289, 4, none⟩ = some (.slice A288_4 ((rd_T44 l0 x4_2).f4).length c288_4) := (blk_cell BK289.out 4).trans rfl
                have hfz30_0 := blk_frozen BK289.out 0
                have hfz30_1 := blk_frozen BK289.out 1
                have hfz30_2 := blk_frozen BK289.out 2
                have hfz30_3 := blk_frozen BK289.out 3
                have hfz30_4 := blk_frozen BK289.out 4
                obtain ⟨Ao31, co31, eo31⟩ := Kd.R_slice HO300.out
                subst eo31
                obtain ⟨Ao32, co32, eo32⟩ := Kd.R_slice HO302.out
                subst eo32
                go_wp2
                repeat (go_quiet (fail); try go_wp2)
                go_meet
                case rel => exact ⟨_, (true), (by first | rfl | (simp; done) | (simp [*]; done)), H', ⟨by have := HK1.out; have := HK2.out; have := HJ9.out; first | omega | exact Nat.le_refl _⟩, ⟨by (with_reducible repeat first|refine zb1 ?_ _|refine zb2 ?_|refine zb3 ?_ _); exact BK289.out⟩, ⟨by repeat (first | (with_reducible first | exact HB.out | apply below_alloc | apply pw_below_drewN | apply below_drew1 | refine below_set ?_ GE289.out) | exact HB.out)⟩⟩
               ·rw [if_neg c29] at H
                have c29b0 : decide (400 < ((rd_T44 l0 x4_2).f1)) = false := decide_eq_false c29
                clear c29
                by_cases c33 : ((rd_T44 l0 x4_2).f3) > 400
                ·rw [if_pos c33] at H
                 have c33b0 : decide (400 < ((rd_T44 l0 x4_2).f3)) = true := decide_eq_true c33
                 clear c33
                 have H' := Aside0.mk H
                 clear H
                 have hcz34_0 : w26.cell? ⟨gb289, 0, none⟩ = some (.int .i64 ((rd_T44 l0 x4_2).f0)) := (blk_cell BK289.out 0).trans rfl
                 have hcz34_1 : w26.cell? ⟨gb289, 1, none⟩ = some (.int .i64 ((rd_T44 l0 x4_2).f1)) := (blk_cell BK289.out 1).trans rfl
                 have hcz34_2 : w26.cell? ⟨gb289, 2, none⟩ = some (.int .i64 ((rd_T44 l0 x4_2).f2)) := (blk_cell BK289.out 2).trans rfl
                 have hcz34_3 : w26.cell? ⟨gb289, 3, none⟩ = some (.int .i64 ((rd_T44 l0 x4_2).f3)) := (blk_cell BK289.out 3).trans rfl
                 have hcz34_4 : w26.cell? ⟨gb289, 4, none⟩ = some (.slice A288_4 ((rd_T44 l0 x4_2).f4).length c288_4) := (blk_cell BK289.out 4).trans rfl
                 have hfz34_0 := blk_frozen BK289.out 0
                 have hfz34_1 := blk_frozen BK289.out 1
                 have hfz34_2 := blk_frozen BK289.out 2
                 have hfz34_3 := blk_frozen BK289.out 3
                 have hfz34_4 := blk_frozen BK289.out 4
                 obtain ⟨Ao35, co35, eo35⟩ := Kd.R_slice HO300.out
                 subst eo35
                 obtain ⟨Ao36, co36, eo36⟩ := Kd.R_slice HO302.out
                 subst eo36
                 go_wp2
                 repeat (go_quiet (fail); try go_wp2)
                 go_meet
                 case rel => exact ⟨_, (true), (by first | rfl | (simp; done) | (simp [*]; done)), H', ⟨by have := HK1.out; have := HK2.out; have := HJ9.out; first | omega | exact Nat.le_refl _⟩, ⟨by (with_reducible repeat first|refine zb1 ?_ _|refine zb2 ?_|refine zb3 ?_ _); exact BK289.out⟩, ⟨by repeat (first | (with_reducible first | exact HB.out | apply below_alloc | apply pw_below_drewN | apply below_drew1 | refine below_set ?_ GE289.out) | exact HB.out)⟩⟩
                ·rw [if_neg c33] at H
                 have c33b0 : decide (400 < ((rd_T44 l0 x4_2).f3)) = false := decide_eq_false c33
                 clear c33
                 by_cases c37 : ((rd_T44 l0 x4_2).f0) < 0
                 ·rw [if_pos c37] at H
                  have c37b0 : decide (((rd_T44 l0 x4_2).f0) < 0) = true := decide_eq_true c37
                  clear c37
                  have H' := Aside0.mk H
                  clear H
                  have hcz38_0 : w26.cell? ⟨gb289, 0, none⟩ = some (.int .i64 ((rd_T44 l0 x4_2).f0)) := (blk_cell BK289.out 0).trans rfl
                  have hcz38_1 : w26.cell? ⟨gb289, 1, none⟩ = some (.int .i64 ((rd_T44 l0 x4_2).f1)) := (blk_cell BK289.out 1).trans rfl
                  have hcz38_2 : w26.cell? ⟨gb289, 2, none⟩ = some (.int .i64 ((rd_T44 l0 x4_2).f2)) := (blk_cell BK289.out 2).trans rfl
                  have hcz38_3 : w26.cell? ⟨gb289, 3, none⟩ = some (.int .i64 ((rd_T44 l0 x4_2).f3)) := (blk_cell BK289.out 3).trans rfl
                  have hcz38_4 : w26.cell? ⟨gb289, 4, none⟩ = some (.slice A288_4 ((rd_T44 l0 x4_2).f4).length c288_4) := (blk_cell BK289.out 4).trans rfl
                  have hfz38_0 := blk_frozen BK289.out 0
                  have hfz38_1 := blk_frozen BK289.out 1
                  have hfz38_2 := blk_frozen BK289.out 2
                  have hfz38_3 := blk_frozen BK289.out 3
                  have hfz38_4 := blk_frozen BK289.out 4
                  obtain ⟨Ao39, co39, eo39⟩ := Kd.R_slice HO300.out
                  subst eo39
                  obtain ⟨Ao40, co40, eo40⟩ := Kd.R_slice HO302.out
                  subst eo40
                  go_wp2
                  repeat (go_quiet (fail); try go_wp2)
                  go_meet
                  case rel => exact ⟨_, (true), (by first | rfl | (simp; done) | (simp [*]; done)), H', ⟨by have := HK1.out; have := HK2.out; have := HJ9.out; first | omega | exact Nat.le_refl _⟩, ⟨by (with_reducible repeat first|refine zb1 ?_ _|refine zb2 ?_|refine zb3 ?_ _); exact BK289.out⟩, ⟨by repeat (first | (with_reducible first | exact HB.out | apply below_alloc | apply pw_below_drewN | apply below_drew1 | refine below_set ?_ GE289.out) | exact HB.out)⟩⟩
                 ·rw [if_neg c37] at H
                  have c37b0 : decide (((rd_T44 l0 x4_2).f0) < 0) = false := decide_eq_false c37
                  clear c37
                  by_cases c41 : ((rd_T44 l0 x4_2).f0) > 400
                  ·rw [if_pos c41] at H
                   have c41b0 : decide (400 < ((rd_T44 l0 x4_2).f0)) = true := decide_eq_true c41
                   clear c41
                   have H' := Aside0.mk H
                   clear H
                   have hcz42_0 : w26.cell? ⟨gb289, 0, none⟩ = some (.int .i64 ((rd_T44 l0 x4_2).f0)) := (blk_cell BK289.out 0).trans rfl
                   have hcz42_1 : w26.cell? ⟨gb289, 1, none⟩ = some (.int .i64 ((rd_T44 l0 x4_2).f1)) := (blk_cell BK289.out 1).trans rfl
                   have hcz42_2 : w26.cell? ⟨gb289, 2, none⟩ = some (.int .i64 ((rd_T44 l0 x4_2).f2)) := (blk_cell BK289.out 2).trans rfl
                   have hcz42_3 : w26.cell? ⟨gb289, 3, none⟩ = some (.int .i64 ((rd_T44 l0 x4_2).f3)) := (blk_cell BK289.out 3).trans rfl
                   have hcz42_4 : w26.cell? ⟨gb289, 4, none⟩ = some (.slice A288_4 ((rd_T44 l0 x4_2).f4).length c288_4) := (blk_cell BK289.out 4).trans rfl
                   have hfz42_0 := blk_frozen BK289.out 0
                   have hfz42_1 := blk_frozen BK289.out 1
                   have hfz42_2 := blk_frozen BK289.out 2
                   have hfz42_3 := blk_frozen BK289.out 3
                   have hfz42_4 := blk_frozen BK289.out 4
                   obtain ⟨Ao43, co43, eo43⟩ := Kd.R_slice HO300.out
                   subst eo43
                   obtain ⟨Ao44, co44, eo44⟩ := Kd.R_slice HO302.out
                   subst eo44
                   go_wp2
                   repeat (go_quiet (fail); try go_wp2)
                   go_meet
                   case rel => exact ⟨_, (true), (by first | rfl | (simp; done) | (simp [*]; done)), H', ⟨by have := HK1.out; have := HK2.out; have := HJ9.out; first | omega | exact Nat.le_refl _⟩, ⟨by (with_reducible repeat first|refine zb1 ?_ _|refine zb2 ?_|refine zb3 ?_ _); exact BK289.out⟩, ⟨by repeat (first | (with_reducible first | exact HB.out | apply below_alloc | apply pw_below_drewN | apply below_drew1 | refine below_set ?_ GE289.out) | exact HB.out)⟩⟩
                  ·rw [if_neg c41] at H
                   have c41b0 : decide (400 < ((rd_T44 l0 x4_2).f0)) = false := decide_eq_false c41
                   clear c41
                   by_cases c45 : ((rd_T44 l0 x4_2).f2) < 0
                   ·rw [if_pos c45] at H
                    have c45b0 : decide (((rd_T44 l0 x4_2).f2) < 0) = true := decide_eq_true c45
                    clear c45
                    have H' := Aside0.mk H
                    clear H
                    have hcz46_0 : w26.cell? ⟨gb289, 0, none⟩ = some (.int .i64 ((rd_T44 l0 x4_2).f0)) := (blk_cell BK289.out 0).trans rfl
                    have hcz46_1 : w26.cell? ⟨gb289, 1, none⟩ = some (.int .i64 ((rd_T44 l0 x4_2).f1)) := (blk_cell BK289.out 1).trans rfl
                    have hcz46_2 : w26.cell? ⟨gb289, 2, none⟩ = some (.int .i64 ((rd_T44 l0 x4_2).f2)) := (blk_cell BK289.out 2).trans rfl
                    have hcz46_3 : w26.cell? ⟨gb289, 3, none⟩ = some (.int .i64 ((rd_T44 l0 x4_2).f3)) := (blk_cell BK289.out 3).trans rfl
                    have hcz46_4 : w26.cell? ⟨gb289, 4, none⟩ = some (.slice A288_4 ((rd_T44 l0 x4_2).f4).length c288_4) := (blk_cell BK289.out 4).trans rfl
                    have hfz46_0 := blk_frozen BK289.out 0
                    have hfz46_1 := blk_frozen BK289.out 1
                    have hfz46_2 := blk_frozen BK289.out 2
                    have hfz46_3 := blk_frozen BK289.out 3
                    have hfz46_4 := blk_frozen BK289.out 4
                    obtain ⟨Ao47, co47, eo47⟩ := Kd.R_slice HO300.out
                    subst eo47
                    obtain ⟨Ao48, co48, eo48⟩ := Kd.R_slice HO302.out
                    subst eo48
                    go_wp2
                    repeat (go_quiet (fail); try go_wp2)
                    go_meet
                    case rel => exact ⟨_, (true), (by first | rfl | (simp; done) | (simp [*]; done)), H', ⟨by have := HK1.out; have := HK2.out; have := HJ9.out; first | omega | exact Nat.le_refl _⟩, ⟨by (with_reducible repeat first|refine zb1 ?_ _|refine zb2 ?_|refine zb3 ?_ _); exact BK289.out⟩, ⟨by repeat (first | (with_reducible first | exact HB.out | apply below_alloc | apply pw_below_drewN | apply below_drew1 | refine below_set ?_ GE289.out) | exact HB.out)⟩⟩
                   ·rw [if_neg c45] at H
                    have c45b0 : decide (((rd_T44 l0 x4_2).f2) < 0) = false := decide_eq_false c45
                    clear c45
                    have H' := Aside0.mk H
                    clear H
                    have hcz49_0 : w26.cell? ⟨gb289, 0, none⟩ = some (.int .i64 ((rd_T44 l0 x4_2).f0)) := (blk_cell BK289.out 0).trans rfl
                    have hcz49_1 : w26.cell? ⟨gb289, 1, none⟩ = some (.int .i64 ((rd_T44 l0 x4_2).f1)) := (blk_cell BK289.out 1).trans rfl
                    have hcz49_2 : w26.cell? ⟨gb289, 2, none⟩ = some (.int .i64 ((rd_T44 l0 x4_2).f2)) := (blk_cell BK289.out 2).trans rfl
                    have hcz49_3 : w26.cell? ⟨gb289, 3, none⟩ = some (.int .i64 ((rd_T44 l0 x4_2).f3)) := (blk_cell BK289.out 3).trans rfl
                    have hcz49_4 : w26.cell? ⟨gb289, 4, none⟩ = some (.slice A288_4 ((rd_T44 l0 x4_2).f4).length c288_4) := (blk_cell BK289.out 4).trans rfl
                    have hfz49_0 := blk_frozen BK289.out 0
                    have hfz49_1 := blk_frozen BK289.out 1
                    have hfz49_2 := blk_frozen BK289.out 2
                    have hfz49_3 := blk_frozen BK289.out 3
                    have hfz49_4 := blk_frozen BK289.out 4
                    obtain ⟨Ao50, co50, eo50⟩ := Kd.R_slice HO300.out
                    subst eo50
                    obtain ⟨Ao51, co51, eo51⟩ := Kd.R_slice HO302.out
                    subst eo51
                    go_wp2
                    repeat (go_quiet (fail); try go_wp2)
                    go_meet
                    case rel => exact ⟨_, (decide (((rd_T44 l0 x4_2).f2) > 400)), (by first | rfl | (simp; done) | (simp [*]; done)), H', ⟨by have := HK1.out; have := HK2.out; have := HJ9.out; first | omega | exact Nat.le_refl _⟩, ⟨by (with_reducible repeat first|refine zb1 ?_ _|refine zb2 ?_|refine zb3 ?_ _); exact BK289.out⟩, ⟨by repeat (first | (with_reducible first | exact HB.out | apply below_alloc | apply pw_below_drewN | apply below_drew1 | refine below_set ?_ GE289.out) | exact HB.out)⟩⟩
              ·rw [if_neg c28] at H
               have c28b0 : (((rd_T44 l0 x4_2).f3) == (t297.length : Int)) = false := beq_eq_false_iff_ne.mpr c28
               have c28b1 : (((rd_T44 l0 x4_2).f3) != (t297.length : Int)) = true := bne_iff_ne.mpr c28
               have H' := Aside0.mk H
               clear H
               have hcz52_0 : w26.cell? ⟨gb289, 0, none⟩ = some (.int .i64 ((rd_T44 l0 x4_2).f0)) := (blk_cell BK289.out 0).trans rfl
               have hcz52_1 : w26.cell? ⟨gb289, 1, none⟩ = some (.int .i64 ((rd_T44 l0 x4_2).f1)) := (blk_cell BK289.out 1).trans rfl
               have hcz52_2 : w26.cell? ⟨gb289, 2, none⟩ = some (.int .i64 ((rd_T44 l0 x4_2).f2)) := (blk_cell BK289.out 2).trans rfl
               have hcz52_3 : w26.cell? ⟨gb289, 3, none⟩ = some (.int .i64 ((rd_T44 l0 x4_2).f3)) := (blk_cell BK289.out 3).trans rfl
               have hcz52_4 : w26.cell? ⟨gb289, 4, none⟩ = some (.slice A288_4 ((rd_T44 l0 x4_2).f4).length c288_4) := (blk_cell BK289.out 4).trans rfl
               have hfz52_0 := blk_frozen BK289.out 0
               have hfz52_1 := blk_frozen BK289.out 1
               have hfz52_2 := blk_frozen BK289.out 2
               have hfz52_3 := blk_frozen BK289.out 3
               have hfz52_4 := blk_frozen BK289.out 4
               obtain ⟨Ao53, co53, eo53⟩ := Kd.R_slice HO300.out
               subst eo53
               obtain ⟨Ao54, co54, eo54⟩ := Kd.R_slice HO302.out
               subst eo54
               go_wp2
               repeat (go_quiet (fail); try go_wp2)
               go_meet
               case rel => exact ⟨_, (true), (by first | rfl | (simp; done) | (simp [*]; done)), H', ⟨by have := HK1.out; have := HK2.out; have := HJ9.out; first | omega | exact Nat.le_refl _⟩, ⟨by (with_reducible repeat first|refine zb1 ?_ _|refine zb2 ?_|refine zb3 ?_ _); exact BK289.out⟩, ⟨by repeat (first | (with_reducible first | exact HB.out | apply below_alloc | apply pw_below_drewN | apply below_drew1 | refine below_set ?_ GE289.out) | exact HB.out)⟩⟩
             ·rw [if_neg c27] at H
              have c27b0 : (((rd_T44 l0 x4_2).f1) == (t296.length : Int)) = false := beq_eq_false_iff_ne.mpr c27
              have c27b1 : (((rd_T44 l0 x4_2).f1) != (t296.length : Int)) = true := bne_iff_ne.mpr c27
              (first | rw [c27b0] | (simp only [i64_w, i32_w]; rw [c27b0]) | skip)
              have H' := Aside0.mk H
              clear H
              have hcz55_0 : w26.cell? ⟨gb289, 0, none⟩ = some (.int .i64 ((rd_T44 l0 x4_2).f0)) := (blk_cell BK289.out 0).trans rfl
              have hcz55_1 : w26.cell? ⟨gb289, 1, none⟩ = some (.int .i64 ((rd_T44 l0 x4_2).f1)) := (blk_cell BK289.out 1).trans rfl
              have hcz55_2 : w26.cell? ⟨gb289, 2, none⟩ = some (.int .i64 ((rd_T44 l0 x4_2).f2)) := (blk_cell BK289.out 2).trans rfl
              have hcz55_3 : w26.cell? ⟨gb289, 3, none⟩ = some (.int .i64 ((rd_T44 l0 x4_2).f3)) := (blk_cell BK289.out 3).trans rfl
              have hcz55_4 : w26.cell? ⟨gb289, 4, none⟩ = some (.slice A288_4 ((rd_T44 l0 x4_2).f4).length c288_4) := (blk_cell BK289.out 4).trans rfl
              have hfz55_0 := blk_frozen BK289.out 0
              have hfz55_1 := blk_frozen BK289.out 1
              have hfz55_2 := blk_frozen BK289.out 2
              have hfz55_3 := blk_frozen BK289.out 3
              have hfz55_4 := blk_frozen BK289.out 4
              obtain ⟨Ao56, co56, eo56⟩ := Kd.R_slice HO300.out
              subst eo56
              go_wp2
              repeat (go_quiet (fail); try go_wp2)
              go_meet
              case rel => exact ⟨_, (true), (by first | rfl | (simp; done) | (simp [*]; done)), H', ⟨by have := HK1.out; have := HK2.out; have := HJ9.out; first | omega | exact Nat.le_refl _⟩, ⟨by (with_reducible repeat first|refine zb1 ?_ _|refine zb2 ?_|refine zb3 ?_ _); exact BK289.out⟩, ⟨by repeat (first | (with_reducible first | exact HB.out | apply below_alloc | apply pw_below_drewN | apply below_drew1 | refine below_set ?_ GE289.out) | exact HB.out)⟩⟩
            case rest =>
             clear HC24
             try clear c1
             try clear c2
             try clear c2b0
             try clear c2b1
             try clear p2
             try clear q2
             try clear hx2
             try clear c3
             try clear c3b0
             try clear c4
             try clear c4b0
             try clear c6
             try clear c6b0
             try clear c6b1
             try clear p6
             try clear c7
             try clear c7b0
             try clear c8
             try clear c8b0
             try clear c14
             try clear c14b0
             try clear c14b1
             try clear c16
             try clear c19
             try clear c22
             try clear c27
             try clear c27b0
             try clear c27b1
             try clear c28
             try clear c28b0
             try clear c28b1
             try clear p28
             try clear q28
             try clear hx28
             try clear c29
             try clear c29b0
             try clear c33
             try clear c33b0
             try clear c37
             try clear c37b0
             try clear c41
             try clear c41b0
             try clear c45
             try clear c45b0
             try clear hcz12_0
             try clear hcz12_1
             try clear hcz12_2
             try clear hcz12_3
             try clear hcz12_4
             try clear hcz18_0
             try clear hcz18_1
             try clear hcz18_2
             try clear hcz18_3
             try clear hcz18_4
             try clear hcz20_0
             try clear hcz20_1
             try clear hcz20_2
             try clear hcz20_3
             try clear hcz20_4
             try clear hcz30_0
             try clear hcz30_1
             try clear hcz30_2
             try clear hcz30_3
             try clear hcz30_4
             try clear hcz34_0
             try clear hcz34_1
             try clear hcz34_2
             try clear hcz34_3
             try clear hcz34_4
             try clear hcz38_0
             try clear hcz38_1
             try clear hcz38_2
             try clear hcz38_3
             try clear hcz38_4
             try clear hcz42_0
             try clear hcz42_1
             try clear hcz42_2
             try clear hcz42_3
             try clear hcz42_4
             try clear hcz46_0
             try clear hcz46_1
             try clear hcz46_2
             try clear hcz46_3
             try clear hcz46_4
             try clear hcz49_0
             try clear hcz49_1
             try clear hcz49_2
             try clear hcz49_3
             try clear hcz49_4
             try clear hcz52_0
             try clear hcz52_1
             try clear hcz52_2
             try clear hcz52_3
             try clear hcz52_4
             try clear hcz55_0
             try clear hcz55_1
             try clear hcz55_2
             try clear hcz55_3
             try clear hcz55_4
             try clear hfz12_0
             try clear hfz12_1
             try clear hfz12_2
             try clear hfz12_3
             try clear hfz12_4
             try clear hfz18_0
             try clear hfz18_1
             try clear hfz18_2
             try clear hfz18_3
             try clear hfz18_4
             try clear hfz20_0
             try clear hfz20_1
             try clear hfz20_2
             try clear hfz20_3
             try clear hfz20_4
             try clear hfz30_0
             try clear hfz30_1
             try clear hfz30_2
             try clear hfz30_3
             try clear hfz30_4
             try clear hfz34_0
             try clear hfz34_1
             try clear hfz34_2
             try clear hfz34_3
             try clear hfz34_4
             try clear hfz38_0
             try clear hfz38_1
             try clear hfz38_2
             try clear hfz38_3
             try clear hfz38_4
             try clear hfz42_0
             try clear hfz42_1
             try clear hfz42_2
             try clear hfz42_3
             try clear hfz42_4
             try clear hfz46_0
             try clear hfz46_1
             try clear hfz46_2
             try clear hfz46_3
             try clear hfz46_4
             try clear hfz49_0
             try clear hfz49_1
             try clear hfz49_2
             try clear hfz49_3
             try clear hfz49_4
             try clear hfz52_0
             try clear hfz52_1
             try clear hfz52_2
             try clear hfz52_3
             try clear hfz52_4
             try clear hfz55_0
             try clear hfz55_1
             try clear hfz55_2
             try clear hfz55_3
             try clear hfz55_4
             try clear hx286_0
             try clear hx286_1
             try clear hx286_2
             try clear hx286_3
             try clear hx286_4
             try clear hx288_0
             try clear hx288_1
             try clear hx288_2
             try clear hx288_3
             try clear hx288_4
             try clear p2
             try clear p286
             try clear p288
             try clear p6
             try clear q2
             try clear q286
             try clear q288
             obtain ⟨kq, x106_23, rfl, HA, HJ23, BK289, HB⟩ := hcut
             cases kq with
             | zero => exact absurd HA.out (by simp [jalousieref09_Check.j3])
             | succ kj23 =>
              have H := HA.out
              clear HA
              simp only [jalousieref09_Check.j3] at H
              by_cases c57 : x106_23 = true
              ·subst c57
               have H1 : (some 3) = some r := by rw [if_pos rfl] at H; exact H
               clear H
               have H := H1
               clear H1
               obtain rfl := Option.some.inj H
               go_wp2
               repeat (go_quiet (fail); try go_wp2)
               go_ret
               exact ⟨by first | rfl | (simp [errW_none, errW_some] <;> rfl) | (simp [*, errW_none, errW_some] <;> rfl), by repeat (first | (with_reducible first | exact HB.out | apply below_alloc | apply pw_below_drewN | apply below_drew1 | refine below_set ?_ GE289.out) | exact HB.out)⟩
              ·replace c57 := Bool.eq_false_iff.mpr c57
               subst c57
               have H1 : (if x4_2 > 0 then (if 0 ≤ (wrap64 (x4_2 - 1)) then (if (wrap64 (x4_2 - 1)) < (l0.length : Int) then (if ((rd_T44 l0 x4_2).f0) < (wrap64 (((rd_T44 l0 (wrap64 (x4_2 - 1))).f0) + ((rd_T44 l0 (wrap64 (x4_2 - 1))).f1))) then (some 3) else (if (wrap64 (((rd_T44 l0 x4_2).f0) - (wrap64 (((rd_T44 l0 (wrap64 (x4_2 - 1))).f0) + ((rd_T44 l0 (wrap64 (x4_2 - 1))).f1))))) = (wrap64 (((rd_T44 l0 x4_2).f2) - (wrap64 (((rd_T44 l0 (wrap64 (x4_2 - 1))).f2) + ((rd_T44 l0 (wrap64 (x4_2 - 1))).f3))))) then (jalousieref09_Check.l1 kj23 l0 (wrap64 (x4_2 + 1))) else (some 3))) else (none)) else (none)) else (if ((rd_T44 l0 x4_2).f0) < 0 then (some 3) else (if (wrap64 (((rd_T44 l0 x4_2).f0) - 0)) = (wrap64 (((rd_T44 l0 x4_2).f2) - 0)) then (jalousieref09_Check.l1 kj23 l0 (wrap64 (x4_2 + 1))) else (some 3)))) = some r := by rw [if_neg (show ¬ (false = true) by decide)] at H; exact H
               clear H
               have H := H1
               clear H1
               by_cases c58 : x4_2 > 0
               ·rw [if_pos c58] at H
                have c58b0 : decide (0 < x4_2) = true := decide_eq_true c58
                clear c58
                obtain ⟨ji59, hji59⟩ : ∃ j_ : Int, (wrap64 (x4_2 - 1)) = j_ := ⟨_, rfl⟩
                replace H : (if 0 ≤ (ji59) then (if (ji59) < (l0.length : Int) then (if ((rd_T44 l0 x4_2).f0) < (wrap64 (((rd_T44 l0 (ji59)).f0) + ((rd_T44 l0 (ji59)).f1))) then (some 3) else (if (wrap64 (((rd_T44 l0 x4_2).f0) - (wrap64 (((rd_T44 l0 (ji59)).f0) + ((rd_T44 l0 (ji59)).f1))))) = (wrap64 (((rd_T44 l0 x4_2).f2) - (wrap64 (((rd_T44 l0 (ji59)).f2) + ((rd_T44 l0 (ji59)).f3))))) then (jalousieref09_Check.l1 kj23 l0 (wrap64 (x4_2 + 1))) else (some 3))) else (none)) else (none)) = some r := by first | (rw [hji59] at H; exact H) | (simp only [hji59] at H ⊢; exact H)
                have hji59w : (IntKind.i64.wrap (x4_2 - 1)) = ji59 := (i64_w _).trans hji59
                by_cases c60 : 0 ≤ (ji59)
                ·rw [if_pos c60] at H
                 have c60b0 : decide (0 ≤ (ji59)) = true := decide_eq_true c60
                 clear c60
                 by_cases c61 : (ji59) < (l0.length : Int)
                 ·rw [if_pos c61] at H
                  have c61b0 : decide ((ji59) < (l0.length : Int)) = true := decide_eq_true c61
                  clear c61
                  by_cases c62 : ((rd_T44 l0 x4_2).f0) < (wrap64 (((rd_T44 l0 (ji59)).f0) + ((rd_T44 l0 (ji59)).f1)))
                  ·rw [if_pos c62] at H
                   have c62b0 : decide (((rd_T44 l0 x4_2).f0) < (wrap64 (((rd_T44 l0 (ji59)).f0) + ((rd_T44 l0 (ji59)).f1)))) = true := decide_eq_true c62
                   clear c62
                   obtain rfl := Option.some.inj H
                   have p303 : 0 ≤ ((ji59) : Int) := of_decide_eq_true (by first | (with_reducible assumption) | assumption)
                   have q303 : (ji59) < (l0.length : Int) := of_decide_eq_true (by first | (with_reducible assumption) | assumption)
                   obtain ⟨ad303, A303_4, c303_4, e303, hx303_0, hx303_1, hx303_2, hx303_3, hx303_4, hl303_4, hi303_4⟩ := at_T44 HR0.out (ji59) p303 q303
                   obtain rfl : ad288 = ad303 := (by injection e303)
                   replace hx303_0 := (HB.out.cell (World.block_lt_of_cell? w _ hx303_0)).trans hx303_0
                   replace hx303_1 := (HB.out.cell (World.block_lt_of_cell? w _ hx303_1)).trans hx303_1
                   replace hx303_2 := (HB.out.cell (World.block_lt_of_cell? w _ hx303_2)).trans hx303_2
                   replace hx303_3 := (HB.out.cell (World.block_lt_of_cell? w _ hx303_3)).trans hx303_3
                   replace hx303_4 := (HB.out.cell (World.block_lt_of_cell? w _ hx303_4)).trans hx303_4
                   have HR303_4 := Aside0.mk hi303_4
                   have HC303_4 := Aside0.mk hl303_4
                   clear hi303_4 hl303_4
                   replace p303 := eq_true p303
                   replace q303 := eq_true q303
                   have p304 : 0 ≤ ((ji59) : Int) := of_decide_eq_true (by first | (with_reducible assumption) | assumption)
                   have q304 : (ji59) < (l0.length : Int) := of_decide_eq_true (by first | (with_reducible assumption) | assumption)
                   obtain ⟨ad304, A304_4, c304_4, e304, hx304_0, hx304_1, hx304_2, hx304_3, hx304_4, hl304_4, hi304_4⟩ := at_T44 HR0.out (ji59) p304 q304
                   obtain rfl : ad288 = ad304 := (by injection e304)
                   replace hx304_0 := (HB.out.cell (World.block_lt_of_cell? w _ hx304_0)).trans hx304_0
                   replace hx304_1 := (HB.out.cell (World.block_lt_of_cell? w _ hx304_1)).trans hx304_1
                   replace hx304_2 := (HB.out.cell (World.block_lt_of_cell? w _ hx304_2)).trans hx304_2
                   replace hx304_3 := (HB.out.cell (World.block_lt_of_cell? w _ hx304_3)).trans hx304_3
                   replace hx304_4 := (HB.out.cell (World.block_lt_of_cell? w _ hx304_4)).trans hx304_4
                   have HR304_4 := Aside0.mk hi304_4
                   have HC304_4 := Aside0.mk hl304_4
                   clear hi304_4 hl304_4
                   replace p304 := eq_true p304
                   replace q304 := eq_true q304
                   have ea_ := Option.some.inj (hx303_4.symm.trans hx304_4)
                   injection ea_ with ea_ en_ ec_
                   subst ea_
                   subst ec_
                   clear en_
                   have p305 : 0 ≤ ((ji59) : Int) := of_decide_eq_true (by first | (with_reducible assumption) | assumption)
                   have q305 : (ji59) < (l0.length : Int) := of_decide_eq_true (by first | (with_reducible assumption) | assumption)
                   obtain ⟨ad305, A305_4, c305_4, e305, hx305_0, hx305_1, hx305_2, hx305_3, hx305_4, hl305_4, hi305_4⟩ := at_T44 HR0.out (ji59) p305 q305
                   obtain rfl : ad288 = ad305 := (by injection e305)
                   replace hx305_0 := (HB.out.cell (World.block_lt_of_cell? w _ hx305_0)).trans hx305_0
                   replace hx305_1 := (HB.out.cell (World.block_lt_of_cell? w _ hx305_1)).trans hx305_1
                   replace hx305_2 := (HB.out.cell (World.block_lt_of_cell? w _ hx305_2)).trans hx305_2
                   replace hx305_3 := (HB.out.cell (World.block_lt_of_cell? w _ hx305_3)).trans hx305_3
                   replace hx305_4 := (HB.out.cell (World.block_lt_of_cell? w _ hx305_4)).trans hx305_4
                   have HR305_4 := Aside0.mk hi305_4
                   have HC305_4 := Aside0.mk hl305_4
                   clear hi305_4 hl305_4
                   replace p305 := eq_true p305
                   replace q305 := eq_true q305
                   have ea_ := Option.some.inj (hx303_4.symm.trans hx305_4)
                   injection ea_ with ea_ en_ ec_
                   subst ea_
                   subst ec_
                   clear en_
                   have p306 : 0 ≤ ((ji59) : Int) := of_decide_eq_true (by first | (with_reducible assumption) | assumption)
                   have q306 : (ji59) < (l0.length : Int) := of_decide_eq_true (by first | (with_reducible assumption) | assumption)
                   obtain ⟨ad306, A306_4, c306_4, e306, hx306_0, hx306_1, hx306_2, hx306_3, hx306_4, hl306_4, hi306_4⟩ := at_T44 HR0.out (ji59) p306 q306
                   obtain rfl : ad288 = ad306 := (by injection e306)
                   replace hx306_0 := (HB.out.cell (World.block_lt_of_cell? w _ hx306_0)).trans hx306_0
                   replace hx306_1 := (HB.out.cell (World.block_lt_of_cell? w _ hx306_1)).trans hx306_1
                   replace hx306_2 := (HB.out.cell (World.block_lt_of_cell? w _ hx306_2)).trans hx306_2
                   replace hx306_3 := (HB.out.cell (World.block_lt_of_cell? w _ hx306_3)).trans hx306_3
                   replace hx306_4 := (HB.out.cell (World.block_lt_of_cell? w _ hx306_4)).trans hx306_4
                   have HR306_4 := Aside0.mk hi306_4
                   have HC306_4 := Aside0.mk hl306_4
                   clear hi306_4 hl306_4
                   replace p306 := eq_true p306
                   replace q306 := eq_true q306
                   have ea_ := Option.some.inj (hx303_4.symm.trans hx306_4)
                   injection ea_ with ea_ en_ ec_
                   subst ea_
                   subst ec_
                   clear en_
                   have hcz63_0 : wc.cell? ⟨gb289, 0, none⟩ = some (.int .i64 ((rd_T44 l0 x4_2).f0)) := (blk_cell BK289.out 0).trans rfl
                   have hcz63_1 : wc.cell? ⟨gb289, 1, none⟩ = some (.int .i64 ((rd_T44 l0 x4_2).f1)) := (blk_cell BK289.out 1).trans rfl
                   have hcz63_2 : wc.cell? ⟨gb289, 2, none⟩ = some (.int .i64 ((rd_T44 l0 x4_2).f2)) := (blk_cell BK289.out 2).trans rfl
                   have hcz63_3 : wc.cell? ⟨gb289, 3, none⟩ = some (.int .i64 ((rd_T44 l0 x4_2).f3)) := (blk_cell BK289.out 3).trans rfl
                   have hcz63_4 : wc.cell? ⟨gb289, 4, none⟩ = some (.slice A288_4 ((rd_T44 l0 x4_2).f4).length c288_4) := (blk_cell BK289.out 4).trans rfl
                   have hfz63_0 := blk_frozen BK289.out 0
                   have hfz63_1 := blk_frozen BK289.out 1
                   have hfz63_2 := blk_frozen BK289.out 2
                   have hfz63_3 := blk_frozen BK289.out 3
                   have hfz63_4 := blk_frozen BK289.out 4
                   go_wp2
                   repeat (go_quiet (fail); try go_wp2)
                   go_ret
                   exact ⟨by first | rfl | (simp [errW_none, errW_some] <;> rfl) | (simp only [← hji59]; first | rfl | (simp [errW_none, errW_some] <;> rfl)) | (simp [*, errW_none, errW_some] <;> rfl), by repeat (first | (with_reducible first | exact HB.out | apply below_alloc | apply pw_below_drewN | apply below_drew1 | refine below_set ?_ GE289.out) | exact HB.out)⟩
                  ·rw [if_neg c62] at H
                   have c62b0 : decide (((rd_T44 l0 x4_2).f0) < (wrap64 (((rd_T44 l0 (ji59)).f0) + ((rd_T44 l0 (ji59)).f1)))) = false := decide_eq_false c62
                   clear c62
                   by_cases c64 : (wrap64 (((rd_T44 l0 x4_2).f0) - (wrap64 (((rd_T44 l0 (ji59)).f0) + ((rd_T44 l0 (ji59)).f1))))) = (wrap64 (((rd_T44 l0 x4_2).f2) - (wrap64 (((rd_T44 l0 (ji59)).f2) + ((rd_T44 l0 (ji59)).f3)))))
                   ·rw [if_pos c64] at H
                    have c64b0 : ((wrap64 (((rd_T44 l0 x4_2).f0) - (wrap64 (((rd_T44 l0 (ji59)).f0) + ((rd_T44 l0 (ji59)).f1))))) == (wrap64 (((rd_T44 l0 x4_2).f2) - (wrap64 (((rd_T44 l0 (ji59)).f2) + ((rd_T44 l0 (ji59)).f3)))))) = true := beq_iff_eq.mpr c64
                    have c64b1 : ((wrap64 (((rd_T44 l0 x4_2).f0) - (wrap64 (((rd_T44 l0 (ji59)).f0) + ((rd_T44 l0 (ji59)).f1))))) != (wrap64 (((rd_T44 l0 x4_2).f2) - (wrap64 (((rd_T44 l0 (ji59)).f2) + ((rd_T44 l0 (ji59)).f3)))))) = false := bne_eq_false_iff_eq.mpr c64
                    clear c64
                    have H' := Aside0.mk H
                    clear H
                    have p303 : 0 ≤ ((ji59) : Int) := of_decide_eq_true (by first | (with_reducible assumption) | assumption)
                    have q303 : (ji59) < (l0.length : Int) := of_decide_eq_true (by first | (with_reducible assumption) | assumption)
                    obtain ⟨ad303, A303_4, c303_4, e303, hx303_0, hx303_1, hx303_2, hx303_3, hx303_4, hl303_4, hi303_4⟩ := at_T44 HR0.out (ji59) p303 q303
                    obtain rfl : ad288 = ad303 := (by injection e303)
                    replace hx303_0 := (HB.out.cell (World.block_lt_of_cell? w _ hx303_0)).trans hx303_0
                    replace hx303_1 := (HB.out.cell (World.block_lt_of_cell? w _ hx303_1)).trans hx303_1
                    replace hx303_2 := (HB.out.cell (World.block_lt_of_cell? w _ hx303_2)).trans hx303_2
                    replace hx303_3 := (HB.out.cell (World.block_lt_of_cell? w _ hx303_3)).trans hx303_3
                    replace hx303_4 := (HB.out.cell (World.block_lt_of_cell? w _ hx303_4)).trans hx303_4
                    have HR303_4 := Aside0.mk hi303_4
                    have HC303_4 := Aside0.mk hl303_4
                    clear hi303_4 hl303_4
                    replace p303 := eq_true p303
                    replace q303 := eq_true q303
                    have p304 : 0 ≤ ((ji59) : Int) := of_decide_eq_true (by first | (with_reducible assumption) | assumption)
                    have q304 : (ji59) < (l0.length : Int) := of_decide_eq_true (by first | (with_reducible assumption) | assumption)
                    obtain ⟨ad304, A304_4, c304_4, e304, hx304_0, hx304_1, hx304_2, hx304_3, hx304_4, hl304_4, hi304_4⟩ := at_T44 HR0.out (ji59) p304 q304
                    obtain rfl : ad288 = ad304 := (by injection e304)
                    replace hx304_0 := (HB.out.cell (World.block_lt_of_cell? w _ hx304_0)).trans hx304_0
                    replace hx304_1 := (HB.out.cell (World.block_lt_of_cell? w _ hx304_1)).trans hx304_1
                    replace hx304_2 := (HB.out.cell (World.block_lt_of_cell? w _ hx304_2)).trans hx304_2
                    replace hx304_3 := (HB.out.cell (World.block_lt_of_cell? w _ hx304_3)).trans hx304_3
                    replace hx304_4 := (HB.out.cell (World.block_lt_of_cell? w _ hx304_4)).trans hx304_4
                    have HR304_4 := Aside0.mk hi304_4
                    have HC304_4 := Aside0.mk hl304_4
                    clear hi304_4 hl304_4
                    replace p304 := eq_true p304
                    replace q304 := eq_true q304
                    have ea_ := Option.some.inj (hx303_4.symm.trans hx304_4)
                    injection ea_ with ea_ en_ ec_
                    subst ea_
                    subst ec_
                    clear en_
                    have p305 : 0 ≤ ((ji59) : Int) := of_decide_eq_true (by first | (with_reducible assumption) | assumption)
                    have q305 : (ji59) < (l0.length : Int) := of_decide_eq_true (by first | (with_reducible assumption) | assumption)
                    obtain ⟨ad305, A305_4, c305_4, e305, hx305_0, hx305_1, hx305_2, hx305_3, hx305_4, hl305_4, hi305_4⟩ := at_T44 HR0.out (ji59) p305 q305
                    obtain rfl : ad288 = ad305 := (by injection e305)
                    replace hx305_0 := (HB.out.cell (World.block_lt_of_cell? w _ hx305_0)).trans hx305_0
                    replace hx305_1 := (HB.out.cell (World.block_lt_of_cell? w _ hx305_1)).trans hx305_1
                    replace hx305_2 := (HB.out.cell (World.block_lt_of_cell? w _ hx305_2)).trans hx305_2
                    replace hx305_3 := (HB.out.cell (World.block_lt_of_cell? w _ hx305_3)).trans hx305_3
                    replace hx305_4 := (HB.out.cell (World.block_lt_of_cell? w _ hx305_4)).trans hx305_4
                    have HR305_4 := Aside0.mk hi305_4
                    have HC305_4 := Aside0.mk hl305_4
                    clear hi305_4 hl305_4
                    replace p305 := eq_true p305
                    replace q305 := eq_true q305
                    have ea_ := Option.some.inj (hx303_4.symm.trans hx305_4)
                    injection ea_ with ea_ en_ ec_
                    subst ea_
                    subst ec_
                    clear en_
                    have p306 : 0 ≤ ((ji59) : Int) := of_decide_eq_true (by first | (with_reducible assumption) | assumption)
                    have q306 : (ji59) < (l0.length : Int) := of_decide_eq_true (by first | (with_reducible assumption) | assumption)
                    obtain ⟨ad306, A306_4, c306_4, e306, hx306_0, hx306_1, hx306_2, hx306_3, hx306_4, hl306_4, hi306_4⟩ := at_T44 HR0.out (ji59) p306 q306
                    obtain rfl : ad288 = ad306 := (by injection e306)
                    replace hx306_0 := (HB.out.cell (World.block_lt_of_cell? w _ hx306_0)).trans hx306_0
                    replace hx306_1 := (HB.out.cell (World.block_lt_of_cell? w _ hx306_1)).trans hx306_1
                    replace hx306_2 := (HB.out.cell (World.block_lt_of_cell? w _ hx306_2)).trans hx306_2
                    replace hx306_3 := (HB.out.cell (World.block_lt_of_cell? w _ hx306_3)).trans hx306_3
                    replace hx306_4 := (HB.out.cell (World.block_lt_of_cell? w _ hx306_4)).trans hx306_4
                    have HR306_4 := Aside0.mk hi306_4
                    have HC306_4 := Aside0.mk hl306_4
                    clear hi306_4 hl306_4
                    replace p306 := eq_true p306
                    replace q306 := eq_true q306
                    have ea_ := Option.some.inj (hx303_4.symm.trans hx306_4)
                    injection ea_ with ea_ en_ ec_
                    subst ea_
                    subst ec_
                    clear en_
                    have hcz65_0 : wc.cell? ⟨gb289, 0, none⟩ = some (.int .i64 ((rd_T44 l0 x4_2).f0)) := (blk_cell BK289.out 0).trans rfl
                    have hcz65_1 : wc.cell? ⟨gb289, 1, none⟩ = some (.int .i64 ((rd_T44 l0 x4_2).f1)) := (blk_cell BK289.out 1).trans rfl
                    have hcz65_2 : wc.cell? ⟨gb289, 2, none⟩ = some (.int .i64 ((rd_T44 l0 x4_2).f2)) := (blk_cell BK289.out 2).trans rfl
                    have hcz65_3 : wc.cell? ⟨gb289, 3, none⟩ = some (.int .i64 ((rd_T44 l0 x4_2).f3)) := (blk_cell BK289.out 3).trans rfl
                    have hcz65_4 : wc.cell? ⟨gb289, 4, none⟩ = some (.slice A288_4 ((rd_T44 l0 x4_2).f4).length c288_4) := (blk_cell BK289.out 4).trans rfl
                    have hfz65_0 := blk_frozen BK289.out 0
                    have hfz65_1 := blk_frozen BK289.out 1
                    have hfz65_2 := blk_frozen BK289.out 2
                    have hfz65_3 := blk_frozen BK289.out 3
                    have hfz65_4 := blk_frozen BK289.out 4
                    go_wp2
                    repeat (go_quiet (fail); try go_wp2)
                    go_roundg kj23
                    case measure => have := HK1.out; have := HK2.out; have := HJ9.out; have := HJ23.out; omega
                    case rel => exact ⟨(wrap64 (x4_2 + 1)), (by first | rfl | (simp; done) | (simp [*]; done)), H', ⟨by have := HK1.out; have := HK2.out; have := HJ9.out; have := HJ23.out; omega⟩, ⟨by repeat (first | (with_reducible first | exact HB.out | apply below_alloc | apply pw_below_drewN | apply below_drew1 | refine below_set ?_ GE289.out) | exact HB.out)⟩⟩
                   ·rw [if_neg c64] at H
                    have c64b0 : ((wrap64 (((rd_T44 l0 x4_2).f0) - (wrap64 (((rd_T44 l0 (ji59)).f0) + ((rd_T44 l0 (ji59)).f1))))) == (wrap64 (((rd_T44 l0 x4_2).f2) - (wrap64 (((rd_T44 l0 (ji59)).f2) + ((rd_T44 l0 (ji59)).f3)))))) = false := beq_eq_false_iff_ne.mpr c64
                    have c64b1 : ((wrap64 (((rd_T44 l0 x4_2).f0) - (wrap64 (((rd_T44 l0 (ji59)).f0) + ((rd_T44 l0 (ji59)).f1))))) != (wrap64 (((rd_T44 l0 x4_2).f2) - (wrap64 (((rd_T44 l0 (ji59)).f2) + ((rd_T44 l0 (ji59)).f3)))))) = true := bne_iff_ne.mpr c64
                    obtain rfl := Option.some.inj H
                    have p303 : 0 ≤ ((ji59) : Int) := of_decide_eq_true (by first | (with_reducible assumption) | assumption)
                    have q303 : (ji59) < (l0.length : Int) := of_decide_eq_true (by first | (with_reducible assumption) | assumption)
                    obtain ⟨ad303, A303_4, c303_4, e303, hx303_0, hx303_1, hx303_2, hx303_3, hx303_4, hl303_4, hi303_4⟩ := at_T44 HR0.out (ji59) p303 q303
                    obtain rfl : ad288 = ad303 := (by injection e303)
                    replace hx303_0 := (HB.out.cell (World.block_lt_of_cell? w _ hx303_0)).trans hx303_0
                    replace hx303_1 := (HB.out.cell (World.block_lt_of_cell? w _ hx303_1)).trans hx303_1
                    replace hx303_2 := (HB.out.cell (World.block_lt_of_cell? w _ hx303_2)).trans hx303_2
                    replace hx303_3 := (HB.out.cell (World.block_lt_of_cell? w _ hx303_3)).trans hx303_3
                    replace hx303_4 := (HB.out.cell (World.block_lt_of_cell? w _ hx303_4)).trans hx303_4
                    have HR303_4 := Aside0.mk hi303_4
                    have HC303_4 := Aside0.mk hl303_4
                    clear hi303_4 hl303_4
                    replace p303 := eq_true p303
                    replace q303 := eq_true q303
                    have p304 : 0 ≤ ((ji59) : Int) := of_decide_eq_true (by first | (with_reducible assumption) | assumption)
                    have q304 : (ji59) < (l0.length : Int) := of_decide_eq_true (by first | (with_reducible assumption) | assumption)
                    obtain ⟨ad304, A304_4, c304_4, e304, hx304_0, hx304_1, hx304_2, hx304_3, hx304_4, hl304_4, hi304_4⟩ := at_T44 HR0.out (ji59) p304 q304
                    obtain rfl : ad288 = ad304 := (by injection e304)
                    replace hx304_0 := (HB.out.cell (World.block_lt_of_cell? w _ hx304_0)).trans hx304_0
                    replace hx304_1 := (HB.out.cell (World.block_lt_of_cell? w _ hx304_1)).trans hx304_1
                    replace hx304_2 := (HB.out.cell (World.block_lt_of_cell? w _ hx304_2)).trans hx304_2
                    replace hx304_3 := (HB.out.cell (World.block_lt_of_cell? w _ hx304_3)).trans hx304_3
                    replace hx304_4 := (HB.out.cell (World.block_lt_of_cell? w _ hx304_4)).trans hx304_4
                    have HR304_4 := Aside0.mk hi304_4
                    have HC304_4 := Aside0.mk hl304_4
                    clear hi304_4 hl304_4
                    replace p304 := eq_true p304
                    replace q304 := eq_true q304
                    have ea_ := Option.some.inj (hx303_4.symm.trans hx304_4)
                    injection ea_ with ea_ en_ ec_
                    subst ea_
                    subst ec_
                    clear en_
                    have p305 : 0 ≤ ((ji59) : Int) := of_decide_eq_true (by first | (with_reducible assumption) | assumption)
                    have q305 : (ji59) < (l0.length : Int) := of_decide_eq_true (by first | (with_reducible assumption) | assumption)
                    obtain ⟨ad305, A305_4, c305_4, e305, hx305_0, hx305_1, hx305_2, hx305_3, hx305_4, hl305_4, hi305_4⟩ := at_T44 HR0.out (ji59) p305 q305
                    obtain rfl : ad288 = ad305 := (by injection e305)
                    replace hx305_0 := (HB.out.cell (World.block_lt_of_cell? w _ hx305_0)).trans hx305_0
                    replace hx305_1 := (HB.out.cell (World.block_lt_of_cell? w _ hx305_1)).trans hx305_1
                    replace hx305_2 := (HB.out.cell (World.block_lt_of_cell? w _ hx305_2)).trans hx305_2
                    replace hx305_3 := (HB.out.cell (World.block_lt_of_cell? w _ hx305_3)).trans hx305_3
                    replace hx305_4 := (HB.out.cell (World.block_lt_of_cell? w _ hx305_4)).trans hx305_4
                    have HR305_4 := Aside0.mk hi305_4
                    have HC305_4 := Aside0.mk hl305_4
                    clear hi305_4 hl305_4
                    replace p305 := eq_true p305
                    replace q305 := eq_true q305
                    have ea_ := Option.some.inj (hx303_4.symm.trans hx305_4)
                    injection ea_ with ea_ en_ ec_
                    subst ea_
                    subst ec_
                    clear en_
                    have p306 : 0 ≤ ((ji59) : Int) := of_decide_eq_true (by first | (with_reducible assumption) | assumption)
                    have q306 : (ji59) < (l0.length : Int) := of_decide_eq_true (by first | (with_reducible assumption) | assumption)
                    obtain ⟨ad306, A306_4, c306_4, e306, hx306_0, hx306_1, hx306_2, hx306_3, hx306_4, hl306_4, hi306_4⟩ := at_T44 HR0.out (ji59) p306 q306
                    obtain rfl : ad288 = ad306 := (by injection e306)
                    replace hx306_0 := (HB.out.cell (World.block_lt_of_cell? w _ hx306_0)).trans hx306_0
                    replace hx306_1 := (HB.out.cell (World.block_lt_of_cell? w _ hx306_1)).trans hx306_1
                    replace hx306_2 := (HB.out.cell (World.block_lt_of_cell? w _ hx306_2)).trans hx306_2
                    replace hx306_3 := (HB.out.cell (World.block_lt_of_cell? w _ hx306_3)).trans hx306_3
                    replace hx306_4 := (HB.out.cell (World.block_lt_of_cell? w _ hx306_4)).trans hx306_4
                    have HR306_4 := Aside0.mk hi306_4
                    have HC306_4 := Aside0.mk hl306_4
                    clear hi306_4 hl306_4
                    replace p306 := eq_true p306
                    replace q306 := eq_true q306
                    have ea_ := Option.some.inj (hx303_4.symm.trans hx306_4)
                    injection ea_ with ea_ en_ ec_
                    subst ea_
                    subst ec_
                    clear en_
                    have hcz66_0 : wc.cell? ⟨gb289, 0, none⟩ = some (.int .i64 ((rd_T44 l0 x4_2).f0)) := (blk_cell BK289.out 0).trans rfl
                    have hcz66_1 : wc.cell? ⟨gb289, 1, none⟩ = some (.int .i64 ((rd_T44 l0 x4_2).f1)) := (blk_cell BK289.out 1).trans rfl
                    have hcz66_2 : wc.cell? ⟨gb289, 2, none⟩ = some (.int .i64 ((rd_T44 l0 x4_2).f2)) := (blk_cell BK289.out 2).trans rfl
                    have hcz66_3 : wc.cell? ⟨gb289, 3, none⟩ = some (.int .i64 ((rd_T44 l0 x4_2).f3)) := (blk_cell BK289.out 3).trans rfl
                    have hcz66_4 : wc.cell? ⟨gb289, 4, none⟩ = some (.slice A288_4 ((rd_T44 l0 x4_2).f4).length c288_4) := (blk_cell BK289.out 4).trans rfl
                    have hfz66_0 := blk_frozen BK289.out 0
                    have hfz66_1 := blk_frozen BK289.out 1
                    have hfz66_2 := blk_frozen BK289.out 2
                    have hfz66_3 := blk_frozen BK289.out 3
                    have hfz66_4 := blk_frozen BK289.out 4
                    go_wp2
                    repeat (go_quiet (fail); try go_wp2)
                    go_ret
                    exact ⟨by first | rfl | (simp [errW_none, errW_some] <;> rfl) | (simp only [← hji59]; first | rfl | (simp [errW_none, errW_some] <;> rfl)) | (simp [*, errW_none, errW_some] <;> rfl), by repeat (first | (with_reducible first | exact HB.out | apply below_alloc | apply pw_below_drewN | apply below_drew1 | refine below_set ?_ GE289.out) | exact HB.out)⟩
                 ·rw [if_neg c61] at H
                  exact absurd H (by simp)
                ·rw [if_neg c60] at H
                 exact absurd H (by simp)
               ·rw [if_neg c58] at H
                have c58b0 : decide (0 < x4_2) = false := decide_eq_false c58
                clear c58
                by_cases c67 : ((rd_T44 l0 x4_2).f0) < 0
                ·rw [if_pos c67] at H
                 have c67b0 : decide (((rd_T44 l0 x4_2).f0) < 0) = true := decide_eq_true c67
                 clear c67
                 obtain rfl := Option.some.inj H
                 have hcz68_0 : wc.cell? ⟨gb289, 0, none⟩ = some (.int .i64 ((rd_T44 l0 x4_2).f0)) := (blk_cell BK289.out 0).trans rfl
                 have hcz68_1 : wc.cell? ⟨gb289, 1, none⟩ = some (.int .i64 ((rd_T44 l0 x4_2).f1)) := (blk_cell BK289.out 1).trans rfl
                 have hcz68_2 : wc.cell? ⟨gb289, 2, none⟩ = some (.int .i64 ((rd_T44 l0 x4_2).f2)) := (blk_cell BK289.out 2).trans rfl
                 have hcz68_3 : wc.cell? ⟨gb289, 3, none⟩ = some (.int .i64 ((rd_T44 l0 x4_2).f3)) := (blk_cell BK289.out 3).trans rfl
                 have hcz68_4 : wc.cell? ⟨gb289, 4, none⟩ = some (.slice A288_4 ((rd_T44 l0 x4_2).f4).length c288_4) := (blk_cell BK289.out 4).trans rfl
                 have hfz68_0 := blk_frozen BK289.out 0
                 have hfz68_1 := blk_frozen BK289.out 1
                 have hfz68_2 := blk_frozen BK289.out 2
                 have hfz68_3 := blk_frozen BK289.out 3
                 have hfz68_4 := blk_frozen BK289.out 4
                 go_wp2
                 repeat (go_quiet (fail); try go_wp2)
                 go_ret
                 exact ⟨by first | rfl | (simp [errW_none, errW_some] <;> rfl) | (simp [*, errW_none, errW_some] <;> rfl), by repeat (first | (with_reducible first | exact HB.out | apply below_alloc | apply pw_below_drewN | apply below_drew1 | refine below_set ?_ GE289.out) | exact HB.out)⟩
                ·rw [if_neg c67] at H
                 have c67b0 : decide (((rd_T44 l0 x4_2).f0) < 0) = false := decide_eq_false c67
                 clear c67
                 by_cases c69 : (wrap64 (((rd_T44 l0 x4_2).f0) - 0)) = (wrap64 (((rd_T44 l0 x4_2).f2) - 0))
                 ·rw [if_pos c69] at H
                  have c69b0 : ((wrap64 (((rd_T44 l0 x4_2).f0) - 0)) == (wrap64 (((rd_T44 l0 x4_2).f2) - 0))) = true := beq_iff_eq.mpr c69
                  try simp only [Int.sub_zero] at c69b0
                  have c69b1 : ((wrap64 (((rd_T44 l0 x4_2).f0) - 0)) != (wrap64 (((rd_T44 l0 x4_2).f2) - 0))) = false := bne_eq_false_iff_eq.mpr c69
                  try simp only [Int.sub_zero] at c69b1
                  clear c69
                  have H' := Aside0.mk H
                  clear H
                  have hcz70_0 : wc.cell? ⟨gb289, 0, none⟩ = some (.int .i64 ((rd_T44 l0 x4_2).f0)) := (blk_cell BK289.out 0).trans rfl
                  have hcz70_1 : wc.cell? ⟨gb289, 1, none⟩ = some (.int .i64 ((rd_T44 l0 x4_2).f1)) := (blk_cell BK289.out 1).trans rfl
                  have hcz70_2 : wc.cell? ⟨gb289, 2, none⟩ = some (.int .i64 ((rd_T44 l0 x4_2).f2)) := (blk_cell BK289.out 2).trans rfl
                  have hcz70_3 : wc.cell? ⟨gb289, 3, none⟩ = some (.int .i64 ((rd_T44 l0 x4_2).f3)) := (blk_cell BK289.out 3).trans rfl
                  have hcz70_4 : wc.cell? ⟨gb289, 4, none⟩ = some (.slice A288_4 ((rd_T44 l0 x4_2).f4).length c288_4) := (blk_cell BK289.out 4).trans rfl
                  have hfz70_0 := blk_frozen BK289.out 0
                  have hfz70_1 := blk_frozen BK289.out 1
                  have hfz70_2 := blk_frozen BK289.out 2
                  have hfz70_3 := blk_frozen BK289.out 3
                  have hfz70_4 := blk_frozen BK289.out 4
                  go_wp2
                  repeat (go_quiet (fail); try go_wp2)
                  go_roundg kj23
                  case measure => have := HK1.out; have := HK2.out; have := HJ9.out; have := HJ23.out; omega
                  case rel => exact ⟨(wrap64 (x4_2 + 1)), (by first | rfl | (simp; done) | (simp [*]; done)), H', ⟨by have := HK1.out; have := HK2.out; have := HJ9.out; have := HJ23.out; omega⟩, ⟨by repeat (first | (with_reducible first | exact HB.out | apply below_alloc | apply pw_below_drewN | apply below_drew1 | refine below_set ?_ GE289.out) | exact HB.out)⟩⟩
                 ·rw [if_neg c69] at H
                  have c69b0 : ((wrap64 (((rd_T44 l0 x4_2).f0) - 0)) == (wrap64 (((rd_T44 l0 x4_2).f2) - 0))) = false := beq_eq_false_iff_ne.mpr c69
                  try simp only [Int.sub_zero] at c69b0
                  have c69b1 : ((wrap64 (((rd_T44 l0 x4_2).f0) - 0)) != (wrap64 (((rd_T44 l0 x4_2).f2) - 0))) = true := bne_iff_ne.mpr c69
                  try simp only [Int.sub_zero] at c69b1
                  obtain rfl := Option.some.inj H
                  have hcz71_0 : wc.cell? ⟨gb289, 0, none⟩ = some (.int .i64 ((rd_T44 l0 x4_2).f0)) := (blk_cell BK289.out 0).trans rfl
                  have hcz71_1 : wc.cell? ⟨gb289, 1, none⟩ = some (.int .i64 ((rd_T44 l0 x4_2).f1)) := (blk_cell BK289.out 1).trans rfl
                  have hcz71_2 : wc.cell? ⟨gb289, 2, none⟩ = some (.int .i64 ((rd_T44 l0 x4_2).f2)) := (blk_cell BK289.out 2).trans rfl
                  have hcz71_3 : wc.cell? ⟨gb289, 3, none⟩ = some (.int .i64 ((rd_T44 l0 x4_2).f3)) := (blk_cell BK289.out 3).trans rfl
                  have hcz71_4 : wc.cell? ⟨gb289, 4, none⟩ = some (.slice A288_4 ((rd_T44 l0 x4_2).f4).length c288_4) := (blk_cell BK289.out 4).trans rfl
                  have hfz71_0 := blk_frozen BK289.out 0
                  have hfz71_1 := blk_frozen BK289.out 1
                  have hfz71_2 := blk_frozen BK289.out 2
                  have hfz71_3 := blk_frozen BK289.out 3
                  have hfz71_4 := blk_frozen BK289.out 4
                  go_wp2
                  repeat (go_quiet (fail); try go_wp2)
                  go_ret
                  exact ⟨by first | rfl | (simp [errW_none, errW_some] <;> rfl) | (simp [*, errW_none, errW_some] <;> rfl), by repeat (first | (with_reducible first | exact HB.out | apply below_alloc | apply pw_below_drewN | apply below_drew1 | refine below_set ?_ GE289.out) | exact HB.out)⟩
        ·rw [if_neg c8] at H
         exact absurd H (by simp)
       ·rw [if_neg c7] at H
        have c7b0 : decide (x4_2 < (l0.length : Int)) = false := decide_eq_false c7
        clear c7
        obtain rfl := Option.some.inj H
        go_wp2
        repeat (go_quiet (fail); try go_wp2)
        go_ret
        exact ⟨by first | rfl | (simp [errW_none, errW_some] <;> rfl) | (simp [*, errW_none, errW_some] <;> rfl), by repeat (first | (with_reducible first | exact HB.out | apply below_alloc | apply pw_below_drewN | apply below_drew1) | exact HB.out)⟩

end Go.Proofs.Ytfnbodjmmkjlcaa.H
end
