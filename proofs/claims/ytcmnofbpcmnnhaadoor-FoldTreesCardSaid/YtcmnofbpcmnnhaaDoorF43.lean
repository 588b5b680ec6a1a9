-- PRINTED by print.py (a twelfth state) out of the translation. Not trusted: Lean checks it.
import Derived.Test.YtcmnofbpcmnnhaaDoorF0
import Derived.Test.YtcmnofbpcmnnhaaDoorF14
import Derived.Test.YtcmnofbpcmnnhaaDoorF15
import Derived.Test.YtcmnofbpcmnnhaaDoorF16
import Derived.Test.YtcmnofbpcmnnhaaDoorF27
import Derived.Test.YtcmnofbpcmnnhaaDoorF32
import Derived.Test.YtcmnofbpcmnnhaaDoorF33
import Derived.Test.YtcmnofbpcmnnhaaDoorF34
import Derived.Test.YtcmnofbpcmnnhaaDoorF40
import Derived.Test.YtcmnofbpcmnnhaaDoorF41
import Derived.Test.YtcmnofbpcmnnhaaDoorF42
namespace Go.Proofs.YtcmnofbpcmnnhaaDoor.F
open Go.RowKit Go.Proofs.YtcmnofbpcmnnhaaDoorW.PrintWords Go.Proofs.YtcmnofbpcmnnhaaDoorW.PrintLast Go.Proofs.YtcmnofbpcmnnhaaDoorW.PrintMore
attribute [local go_sem] max2_int min2_int max_two min_two max_three min_three max_four min_four   -- for this text's walks alone
set_option linter.unusedVariables false
set_option linter.unusedSimpArgs false

/-! ### jalousielaw41_FoldTrees: function 6 -/
def jalousielaw41_FoldTrees.f (k : Nat) (l0 : List Int) (a1 : Int) : Option (Bool) := if 0 ≤ (mn (l0.length : Int) 60) then (if (mn (l0.length : Int) 60) ≤ (l0.length : Int) then ((fold_Path.f k (l0.take ((mn (l0.length : Int) 60) : Int).toNat) a1).bind fun bt370 => ((jalousieref41_Path.f k (l0.take ((mn (l0.length : Int) 60) : Int).toNat) a1).bind fun bt374 => ((jalousielaw41_live.f k).bind fun t378 => (if t378 = true then ((jalousieref05_Ints.f k bt370.1 bt374.1).bind fun t379 => (if t379 = true then (if bt370.2 = bt374.2 then ((fold_Check.f k (l0.take ((mn (l0.length : Int) 60) : Int).toNat)).bind fun t380 => ((jalousieref41_Check.f k (l0.take ((mn (l0.length : Int) 60) : Int).toNat)).bind fun t381 => (if t380 = t381 then ((fold_Kids.f k (l0.take ((mn (l0.length : Int) 60) : Int).toNat) a1).bind fun t382 => ((jalousieref41_Kids.f k (l0.take ((mn (l0.length : Int) 60) : Int).toNat) a1).bind fun t385 => ((jalousieref05_Ints.f k t382 t385).bind fun t388 => (if t388 = true then ((fold_Levels.f k (l0.take ((mn (l0.length : Int) 60) : Int).toNat)).bind fun t389 => ((jalousieref41_Levels.f k (l0.take ((mn (l0.length : Int) 60) : Int).toNat)).bind fun t392 => ((jalousieref05_Ints.f k t389 t392).bind fun t395 => (some t395)))) else (some false))))) else (some false)))) else (some false)) else (some false))) else (some false))))) else (none)) else (none)
theorem jalousielaw41_FoldTrees.mono : ∀ a0 a1 k, LeO (jalousielaw41_FoldTrees.f k a0 a1) (jalousielaw41_FoldTrees.f (k + 1) a0 a1) := by
  intro a0 a1 k
  unfold jalousielaw41_FoldTrees.f
  repeat' first
      | (with_reducible exact fold_Check.mono _ _)
      | (with_reducible exact fold_Kids.mono _ _ _)
      | (with_reducible exact fold_Levels.mono _ _)
      | (with_reducible exact fold_Path.mono _ _ _)
      | (with_reducible exact jalousielaw41_live.mono _)
      | (with_reducible exact jalousieref05_Ints.mono _ _ _)
      | (with_reducible exact jalousieref41_Check.mono _ _)
      | (with_reducible exact jalousieref41_Kids.mono _ _ _)
      | (with_reducible exact jalousieref41_Levels.mono _ _)
      | (with_reducible exact jalousieref41_Path.mono _ _ _)
      | (with_reducible exact LeO.refl _)
      | (with_reducible exact LeO.none _)
      | (with_reducible refine LeO.ite ?_ ?_)
      | (with_reducible refine LeO.bind ?_ (fun _ => ?_))
      | exact fold_Check.mono _ _
      | exact fold_Kids.mono _ _ _
      | exact fold_Levels.mono _ _
      | exact fold_Path.mono _ _ _
      | exact jalousielaw41_live.mono _
      | exact jalousieref05_Ints.mono _ _ _
      | exact jalousieref41_Check.mono _ _
      | exact jalousieref41_Kids.mono _ _ _
      | exact jalousieref41_Levels.mono _ _
      | exact jalousieref41_Path.mono _ _ _
      | exact LeO.none _
      | refine LeO.ite ?_ ?_
      | refine LeO.bind ?_ (fun _ => ?_)
set_option maxHeartbeats 8000000 in
set_option maxRecDepth 100000 in
theorem jalousielaw41_FoldTrees.calls (k : Nat) (A0 : Option Addr) (c0 : Nat) (l0 : List Int) (a1 : Int) (r : Bool) (w : World) (hr0 : Kd.C (Kd.int .i64) w A0 l0.length l0) (hc0 : l0.length ≤ c0) (h : jalousielaw41_FoldTrees.f k l0 a1 = some r) (HRT : Aside0 (r = true) := by first | exact ⟨rfl⟩ | assumption) :
    Calls Tryd.prog 6 #[.slice A0 l0.length c0, .int .i64 a1] w fun e w' => e = .returned (.bool r) ∧ Below w.heap.size w w' := by
  have HR0 := Aside0.mk hr0
  have HC0 := Aside0.mk hc0
  clear hr0 hc0
  have HB := Aside0.mk (Below.refl w.heap.size w)
  have H : (if 0 ≤ (mn (l0.length : Int) 60) then (if (mn (l0.length : Int) 60) ≤ (l0.length : Int) then ((fold_Path.f k (l0.take ((mn (l0.length : Int) 60) : Int).toNat) a1).bind fun bt370 => ((jalousieref41_Path.f k (l0.take ((mn (l0.length : Int) 60) : Int).toNat) a1).bind fun bt374 => ((jalousielaw41_live.f k).bind fun t378 => (if t378 = true then ((jalousieref05_Ints.f k bt370.1 bt374.1).bind fun t379 => (if t379 = true then (if bt370.2 = bt374.2 then ((fold_Check.f k (l0.take ((mn (l0.length : Int) 60) : Int).toNat)).bind fun t380 => ((jalousieref41_Check.f k (l0.take ((mn (l0.length : Int) 60) : Int).toNat)).bind fun t381 => (if t380 = t381 then ((fold_Kids.f k (l0.take ((mn (l0.length : Int) 60) : Int).toNat) a1).bind fun t382 => ((jalousieref41_Kids.f k (l0.take ((mn (l0.length : Int) 60) : Int).toNat) a1).bind fun t385 => ((jalousieref05_Ints.f k t382 t385).bind fun t388 => (if t388 = true then ((fold_Levels.f k (l0.take ((mn (l0.length : Int) 60) : Int).toNat)).bind fun t389 => ((jalousieref41_Levels.f k (l0.take ((mn (l0.length : Int) 60) : Int).toNat)).bind fun t392 => ((jalousieref05_Ints.f k t389 t392).bind fun t395 => (some t395)))) else (some false))))) else (some false)))) else (some false)) else (some false))) else (some false))))) else (none)) else (none)) = some r := h
  clear h
  obtain ⟨ji3, hji3⟩ : ∃ j_ : Int, (mn (l0.length : Int) 60) = j_ := ⟨_, rfl⟩
  replace H : (if 0 ≤ (ji3) then (if (ji3) ≤ (l0.length : Int) then ((fold_Path.f k (l0.take ((ji3) : Int).toNat) a1).bind fun bt370 => ((jalousieref41_Path.f k (l0.take ((ji3) : Int).toNat) a1).bind fun bt374 => ((jalousielaw41_live.f k).bind fun t378 => (if t378 = true then ((jalousieref05_Ints.f k bt370.1 bt374.1).bind fun t379 => (if t379 = true then (if bt370.2 = bt374.2 then ((fold_Check.f k (l0.take ((ji3) : Int).toNat)).bind fun t380 => ((jalousieref41_Check.f k (l0.take ((ji3) : Int).toNat)).bind fun t381 => (if t380 = t381 then ((fold_Kids.f k (l0.take ((ji3) : Int).toNat) a1).bind fun t382 => ((jalousieref41_Kids.f k (l0.take ((ji3) : Int).toNat) a1).bind fun t385 => ((jalousieref05_Ints.f k t382 t385).bind fun t388 => (if t388 = true then ((fold_Levels.f k (l0.take ((ji3) : Int).toNat)).bind fun t389 => ((jalousieref41_Levels.f k (l0.take ((ji3) : Int).toNat)).bind fun t392 => ((jalousieref05_Ints.f k t389 t392).bind fun t395 => (some t395)))) else (some false))))) else (some false)))) else (some false)) else (some false))) else (some false))))) else (none)) else (none)) = some r := by first | (rw [hji3] at H; exact H) | (simp only [hji3] at H ⊢; exact H)
  (try (have hji3h : ji3 ≤ 60 := by (rw [← hji3]; unfold mn; (repeat' split) <;> omega)))
  (try (have hji3g : ji3 ≤ 64 := by omega))
  (try (have hji3l : 0 ≤ ji3 := by (rw [← hji3]; unfold mn; (repeat' split) <;> omega)))
  (try (have hji3m : 0 ≤ ji3 := by omega))
  have hji3_ : (if 60 < (l0.length : Int) then 60 else (l0.length : Int)) = ji3 := hji3
  by_cases c4 : 0 ≤ (ji3)
  · rw [if_pos c4] at H
    have c4b0 := eq_true c4
    have c4b1 : decide (0 ≤ (ji3)) = true := decide_eq_true c4
    clear c4
    by_cases c5 : (ji3) ≤ (l0.length : Int)
    · rw [if_pos c5] at H
      have c5b0 := eq_true c5
      have c5b1 : decide ((ji3) ≤ (l0.length : Int)) = true := decide_eq_true c5
      clear c5
      replace H := Option.bind_eq_some_iff.mp H
      obtain ⟨⟨t370, t371⟩, A60, H⟩ := H
      replace H : ((jalousieref41_Path.f k (l0.take ((ji3) : Int).toNat) a1).bind fun bt374 => ((jalousielaw41_live.f k).bind fun t378 => (if t378 = true then ((jalousieref05_Ints.f k t370 bt374.1).bind fun t379 => (if t379 = true then (if t371 = bt374.2 then ((fold_Check.f k (l0.take ((ji3) : Int).toNat)).bind fun t380 => ((jalousieref41_Check.f k (l0.take ((ji3) : Int).toNat)).bind fun t381 => (if t380 = t381 then ((fold_Kids.f k (l0.take ((ji3) : Int).toNat) a1).bind fun t382 => ((jalousieref41_Kids.f k (l0.take ((ji3) : Int).toNat) a1).bind fun t385 => ((jalousieref05_Ints.f k t382 t385).bind fun t388 => (if t388 = true then ((fold_Levels.f k (l0.take ((ji3) : Int).toNat)).bind fun t389 => ((jalousieref41_Levels.f k (l0.take ((ji3) : Int).toNat)).bind fun t392 => ((jalousieref05_Ints.f k t389 t392).bind fun t395 => (some t395)))) else (some false))))) else (some false)))) else (some false)) else (some false))) else (some false)))) = some r := H
      have A6 := Aside0.mk A60
      clear A60
      replace H := Option.bind_eq_some_iff.mp H
      obtain ⟨⟨t374, t375⟩, A70, H⟩ := H
      replace H : ((jalousielaw41_live.f k).bind fun t378 => (if t378 = true then ((jalousieref05_Ints.f k t370 t374).bind fun t379 => (if t379 = true then (if t371 = t375 then ((fold_Check.f k (l0.take ((ji3) : Int).toNat)).bind fun t380 => ((jalousieref41_Check.f k (l0.take ((ji3) : Int).toNat)).bind fun t381 => (if t380 = t381 then ((fold_Kids.f k (l0.take ((ji3) : Int).toNat) a1).bind fun t382 => ((jalousieref41_Kids.f k (l0.take ((ji3) : Int).toNat) a1).bind fun t385 => ((jalousieref05_Ints.f k t382 t385).bind fun t388 => (if t388 = true then ((fold_Levels.f k (l0.take ((ji3) : Int).toNat)).bind fun t389 => ((jalousieref41_Levels.f k (l0.take ((ji3) : Int).toNat)).bind fun t392 => ((jalousieref05_Ints.f k t389 t392).bind fun t395 => (some t395)))) else (some false))))) else (some false)))) else (some false)) else (some false))) else (some false))) = some r := H
      have A7 := Aside0.mk A70
      clear A70
      replace H := Option.bind_eq_some_iff.mp H
      obtain ⟨t378, A80, H⟩ := H
      replace H : (if t378 = true then ((jalousieref05_Ints.f k t370 t374).bind fun t379 => (if t379 = true then (if t371 = t375 then ((fold_Check.f k (l0.take ((ji3) : Int).toNat)).bind fun t380 => ((jalousieref41_Check.f k (l0.take ((ji3) : Int).toNat)).bind fun t381 => (if t380 = t381 then ((fold_Kids.f k (l0.take ((ji3) : Int).toNat) a1).bind fun t382 => ((jalousieref41_Kids.f k (l0.take ((ji3) : Int).toNat) a1).bind fun t385 => ((jalousieref05_Ints.f k t382 t385).bind fun t388 => (if t388 = true then ((fold_Levels.f k (l0.take ((ji3) : Int).toNat)).bind fun t389 => ((jalousieref41_Levels.f k (l0.take ((ji3) : Int).toNat)).bind fun t392 => ((jalousieref05_Ints.f k t389 t392).bind fun t395 => (some t395)))) else (some false))))) else (some false)))) else (some false)) else (some false))) else (some false)) = some r := H
      have A8 := Aside0.mk A80
      clear A80
      by_cases c9 : t378 = true
      · subst c9
        have H1 : ((jalousieref05_Ints.f k t370 t374).bind fun t379 => (if t379 = true then (if t371 = t375 then ((fold_Check.f k (l0.take ((ji3) : Int).toNat)).bind fun t380 => ((jalousieref41_Check.f k (l0.take ((ji3) : Int).toNat)).bind fun t381 => (if t380 = t381 then ((fold_Kids.f k (l0.take ((ji3) : Int).toNat) a1).bind fun t382 => ((jalousieref41_Kids.f k (l0.take ((ji3) : Int).toNat) a1).bind fun t385 => ((jalousieref05_Ints.f k t382 t385).bind fun t388 => (if t388 = true then ((fold_Levels.f k (l0.take ((ji3) : Int).toNat)).bind fun t389 => ((jalousieref41_Levels.f k (l0.take ((ji3) : Int).toNat)).bind fun t392 => ((jalousieref05_Ints.f k t389 t392).bind fun t395 => (some t395)))) else (some false))))) else (some false)))) else (some false)) else (some false))) = some r := by rw [if_pos rfl] at H; exact H
        clear H
        have H := H1
        clear H1
        replace H := Option.bind_eq_some_iff.mp H
        obtain ⟨t379, A100, H⟩ := H
        replace H : (if t379 = true then (if t371 = t375 then ((fold_Check.f k (l0.take ((ji3) : Int).toNat)).bind fun t380 => ((jalousieref41_Check.f k (l0.take ((ji3) : Int).toNat)).bind fun t381 => (if t380 = t381 then ((fold_Kids.f k (l0.take ((ji3) : Int).toNat) a1).bind fun t382 => ((jalousieref41_Kids.f k (l0.take ((ji3) : Int).toNat) a1).bind fun t385 => ((jalousieref05_Ints.f k t382 t385).bind fun t388 => (if t388 = true then ((fold_Levels.f k (l0.take ((ji3) : Int).toNat)).bind fun t389 => ((jalousieref41_Levels.f k (l0.take ((ji3) : Int).toNat)).bind fun t392 => ((jalousieref05_Ints.f k t389 t392).bind fun t395 => (some t395)))) else (some false))))) else (some false)))) else (some false)) else (some false)) = some r := H
        have A10 := Aside0.mk A100
        clear A100
        by_cases c11 : t379 = true
        · subst c11
          have H1 : (if t371 = t375 then ((fold_Check.f k (l0.take ((ji3) : Int).toNat)).bind fun t380 => ((jalousieref41_Check.f k (l0.take ((ji3) : Int).toNat)).bind fun t381 => (if t380 = t381 then ((fold_Kids.f k (l0.take ((ji3) : Int).toNat) a1).bind fun t382 => ((jalousieref41_Kids.f k (l0.take ((ji3) : Int).toNat) a1).bind fun t385 => ((jalousieref05_Ints.f k t382 t385).bind fun t388 => (if t388 = true then ((fold_Levels.f k (l0.take ((ji3) : Int).toNat)).bind fun t389 => ((jalousieref41_Levels.f k (l0.take ((ji3) : Int).toNat)).bind fun t392 => ((jalousieref05_Ints.f k t389 t392).bind fun t395 => (some t395)))) else (some false))))) else (some false)))) else (some false)) = some r := by rw [if_pos rfl] at H; exact H
          clear H
          have H := H1
          clear H1
          by_cases c12 : t371 = t375
          · rw [if_pos c12] at H
            have c12b0 : (t371 == t375) = true := beq_iff_eq.mpr c12
            have c12b1 : (t371 != t375) = false := bne_eq_false_iff_eq.mpr c12
            clear c12
            replace H := Option.bind_eq_some_iff.mp H
            obtain ⟨t380, A130, H⟩ := H
            replace H : ((jalousieref41_Check.f k (l0.take ((ji3) : Int).toNat)).bind fun t381 => (if t380 = t381 then ((fold_Kids.f k (l0.take ((ji3) : Int).toNat) a1).bind fun t382 => ((jalousieref41_Kids.f k (l0.take ((ji3) : Int).toNat) a1).bind fun t385 => ((jalousieref05_Ints.f k t382 t385).bind fun t388 => (if t388 = true then ((fold_Levels.f k (l0.take ((ji3) : Int).toNat)).bind fun t389 => ((jalousieref41_Levels.f k (l0.take ((ji3) : Int).toNat)).bind fun t392 => ((jalousieref05_Ints.f k t389 t392).bind fun t395 => (some t395)))) else (some false))))) else (some false))) = some r := H
            have A13 := Aside0.mk A130
            clear A130
            replace H := Option.bind_eq_some_iff.mp H
            obtain ⟨t381, A140, H⟩ := H
            replace H : (if t380 = t381 then ((fold_Kids.f k (l0.take ((ji3) : Int).toNat) a1).bind fun t382 => ((jalousieref41_Kids.f k (l0.take ((ji3) : Int).toNat) a1).bind fun t385 => ((jalousieref05_Ints.f k t382 t385).bind fun t388 => (if t388 = true then ((fold_Levels.f k (l0.take ((ji3) : Int).toNat)).bind fun t389 => ((jalousieref41_Levels.f k (l0.take ((ji3) : Int).toNat)).bind fun t392 => ((jalousieref05_Ints.f k t389 t392).bind fun t395 => (some t395)))) else (some false))))) else (some false)) = some r := H
            have A14 := Aside0.mk A140
            clear A140
            by_cases c15 : t380 = t381
            · rw [if_pos c15] at H
              have c15b0 : (t380 == t381) = true := beq_iff_eq.mpr c15
              have c15b1 : (t380 != t381) = false := bne_eq_false_iff_eq.mpr c15
              clear c15
              replace H := Option.bind_eq_some_iff.mp H
              obtain ⟨t382, A160, H⟩ := H
              replace H : ((jalousieref41_Kids.f k (l0.take ((ji3) : Int).toNat) a1).bind fun t385 => ((jalousieref05_Ints.f k t382 t385).bind fun t388 => (if t388 = true then ((fold_Levels.f k (l0.take ((ji3) : Int).toNat)).bind fun t389 => ((jalousieref41_Levels.f k (l0.take ((ji3) : Int).toNat)).bind fun t392 => ((jalousieref05_Ints.f k t389 t392).bind fun t395 => (some t395)))) else (some false)))) = some r := H
              have A16 := Aside0.mk A160
              clear A160
              replace H := Option.bind_eq_some_iff.mp H
              obtain ⟨t385, A170, H⟩ := H
              replace H : ((jalousieref05_Ints.f k t382 t385).bind fun t388 => (if t388 = true then ((fold_Levels.f k (l0.take ((ji3) : Int).toNat)).bind fun t389 => ((jalousieref41_Levels.f k (l0.take ((ji3) : Int).toNat)).bind fun t392 => ((jalousieref05_Ints.f k t389 t392).bind fun t395 => (some t395)))) else (some false))) = some r := H
              have A17 := Aside0.mk A170
              clear A170
              replace H := Option.bind_eq_some_iff.mp H
              obtain ⟨t388, A180, H⟩ := H
              replace H : (if t388 = true then ((fold_Levels.f k (l0.take ((ji3) : Int).toNat)).bind fun t389 => ((jalousieref41_Levels.f k (l0.take ((ji3) : Int).toNat)).bind fun t392 => ((jalousieref05_Ints.f k t389 t392).bind fun t395 => (some t395)))) else (some false)) = some r := H
              have A18 := Aside0.mk A180
              clear A180
              by_cases c19 : t388 = true
              · subst c19
                have H1 : ((fold_Levels.f k (l0.take ((ji3) : Int).toNat)).bind fun t389 => ((jalousieref41_Levels.f k (l0.take ((ji3) : Int).toNat)).bind fun t392 => ((jalousieref05_Ints.f k t389 t392).bind fun t395 => (some t395)))) = some r := by rw [if_pos rfl] at H; exact H
                clear H
                have H := H1
                clear H1
                replace H := Option.bind_eq_some_iff.mp H
                obtain ⟨t389, A200, H⟩ := H
                replace H : ((jalousieref41_Levels.f k (l0.take ((ji3) : Int).toNat)).bind fun t392 => ((jalousieref05_Ints.f k t389 t392).bind fun t395 => (some t395))) = some r := H
                have A20 := Aside0.mk A200
                clear A200
                replace H := Option.bind_eq_some_iff.mp H
                obtain ⟨t392, A210, H⟩ := H
                replace H : ((jalousieref05_Ints.f k t389 t392).bind fun t395 => (some t395)) = some r := H
                have A21 := Aside0.mk A210
                clear A210
                replace H := Option.bind_eq_some_iff.mp H
                obtain ⟨t395, A220, H⟩ := H
                replace H : (some t395) = some r := H
                have A22 := Aside0.mk A220
                clear A220
                obtain rfl := Option.some.inj H
                obtain ⟨i023, hi023, _, hsz23, _⟩ := info_parts info3
                obtain ⟨hcut23, hA23, hC23⟩ := print_take_of (P := Tryd.prog) (Value.int .i64) 0 27 3 .i64 Tryd.underlying27 hi023 hsz23 A0 c0 l0 (ji3) (of_decide_eq_true (by first | (with_reducible assumption) | assumption)) (of_decide_eq_true (by first | (with_reducible assumption) | assumption)) HC0.out
                have HR369 := Aside0.mk (Kd.C_of_reads (h1 := fun _ => rfl) (hA23 _ (Kd.reads_of_C HR0.out)))
                have HC369 := Aside0.mk hC23
                clear hA23 hC23 hi023 hsz23
                go_enter Tryd.func6, Tryd.ntmps6
                go_wp2_with (first | ((with_reducible refine gate_callee (f := 26) rfl ?_); refine goesL_ (some 17) rfl rfl Tryd.func26 (by kernel_rfl) rfl #[.slice A0 (l0.take ((ji3) : Int).toNat).length c0, .int .i64 a1] rfl (by (try simp only [List.map_toArray, List.map_cons, List.map_nil]); first | done | (rw [show (l0.take ((ji3) : Int).toNat).length = (ji3).toNat from (by rw [List.length_take]; have h_ : ((ji3) : Int) ≤ (l0.length : Int) := of_decide_eq_true (by first | (with_reducible assumption) | assumption); omega)] <;> rfl) | (simp only [hji3]; rfl) | rfl | (simp only [List.length_drop, List.length_take]; rfl)) ?_; (with_reducible refine (fold_Path.calls k _ _ (l0.take ((ji3) : Int).toNat) a1 t370 t371 _ ?side1 ?side2 A6.out).mono ?_); (case side1 => repeat (first | exact HR369.out | (with_reducible refine Kd.C_alloc ?_ _) | (with_reducible refine Kd.C_drewN ?_ _) | (with_reducible refine Kd.C_drew ?_))); (case side2 => exact HC369.out); rintro e w24 ⟨v372, rfl, ho0, hb⟩; refine ⟨_, rfl, ?_⟩; have n0_ := Aside0.mk (Kd.R_lower ho0 (below_size (by repeat (first | (with_reducible first | exact HB.out | apply below_alloc | apply pw_below_drewN | apply below_drew1) | exact HB.out)))); have n1_ := Aside0.mk (below_step (by repeat (first | (with_reducible first | exact HB.out | apply below_alloc | apply pw_below_drewN | apply below_drew1) | exact HB.out)) hb); clear HB; have HO373 := n0_; have HB := n1_; clear n0_ n1_; (try clear hb); (try clear hb2); (try clear hk); (try clear hi); (try clear ho0)) | ((with_reducible refine gate_callee (f := 27) rfl ?_); refine goesL_ (some 23) rfl rfl Tryd.func27 (by kernel_rfl) rfl #[.slice A0 (l0.take ((ji3) : Int).toNat).length c0, .int .i64 a1] rfl (by (try simp only [List.map_toArray, List.map_cons, List.map_nil]); first | done | (rw [show (l0.take ((ji3) : Int).toNat).length = (ji3).toNat from (by rw [List.length_take]; have h_ : ((ji3) : Int) ≤ (l0.length : Int) := of_decide_eq_true (by first | (with_reducible assumption) | assumption); omega)] <;> rfl) | (simp only [hji3]; rfl) | rfl | (simp only [List.length_drop, List.length_take]; rfl)) ?_; (with_reducible refine (jalousieref41_Path.calls k _ _ (l0.take ((ji3) : Int).toNat) a1 t374 t375 _ ?side1 ?side2 A7.out).mono ?_); (case side1 => repeat (first | exact (Kd.C_below HR369.out HB.out) | (with_reducible refine Kd.C_alloc ?_ _) | (with_reducible refine Kd.C_drewN ?_ _) | (with_reducible refine Kd.C_drew ?_))); (case side2 => exact HC369.out); rintro e w25 ⟨v376, rfl, ho0, hb⟩; refine ⟨_, rfl, ?_⟩; have n0_ := Aside0.mk (Kd.R_elder' (by (with_reducible repeat (first | apply Kd.R_alloc | apply Kd.R_drewN | apply Kd.R_drew)); exact HO373.out) (Kd.R_base ho0) hb); have n1_ := Aside0.mk (Kd.R_lower (Kd.R_new' ho0 (Kd.R_lt (by (with_reducible repeat (first | apply Kd.R_alloc | apply Kd.R_drewN | apply Kd.R_drew)); exact HO373.out))) (below_size (by repeat (first | (with_reducible first | exact HB.out | apply below_alloc | apply pw_below_drewN | apply below_drew1) | exact HB.out)))); have n2_ := Aside0.mk (below_step (by repeat (first | (with_reducible first | exact HB.out | apply below_alloc | apply pw_below_drewN | apply below_drew1) | exact HB.out)) hb); clear HO373; clear HB; have HO373 := n0_; have HO377 := n1_; have HB := n2_; clear n0_ n1_ n2_; (try clear hb); (try clear hb2); (try clear hk); (try clear hi); (try clear ho0)) | ((with_reducible refine gate_callee (f := 16) rfl ?_); refine goesL_ (some 26) rfl rfl Tryd.func16 (by kernel_rfl) rfl #[] rfl (by (try simp only [List.map_toArray, List.map_cons, List.map_nil]); first | done | rfl | (simp only [List.length_drop, List.length_take]; rfl)) ?_; (with_reducible refine (jalousielaw41_live.calls k  true _ A8.out).mono ?_); rintro e w26 ⟨rfl, hb⟩; refine ⟨_, rfl, ?_⟩; have n0_ := Aside0.mk (Kd.R_below (by (with_reducible repeat (first | apply Kd.R_alloc | apply Kd.R_drewN | apply Kd.R_drew)); exact HO373.out) hb); have n1_ := Aside0.mk (Kd.R_below (by (with_reducible repeat (first | apply Kd.R_alloc | apply Kd.R_drewN | apply Kd.R_drew)); exact HO377.out) hb); have n2_ := Aside0.mk (below_step (by repeat (first | (with_reducible first | exact HB.out | apply below_alloc | apply pw_below_drewN | apply below_drew1) | exact HB.out)) hb); clear HO373; clear HO377; clear HB; have HO373 := n0_; have HO377 := n1_; have HB := n2_; clear n0_ n1_ n2_; (try clear hb); (try clear hb2); (try clear hk); (try clear hi); obtain ⟨Ao27, co27, eo27⟩ := Kd.R_slice HO373.out; subst eo27; obtain ⟨Ao28, co28, eo28⟩ := Kd.R_slice HO377.out; subst eo28) | (go_at_call 17; (with_reducible refine (jalousieref05_Ints.calls k _ _ t370 _ _ t374 true _ ?side1 ?side2 ?side3 ?side4 A10.out).mono ?_); (case side1 => repeat (first | exact (Kd.R_reads' HO373.out).2.2 | (with_reducible refine Kd.C_alloc ?_ _) | (with_reducible refine Kd.C_drewN ?_ _) | (with_reducible refine Kd.C_drew ?_))); (case side2 => exact (Kd.R_reads' HO373.out).2.1); (case side3 => repeat (first | exact (Kd.R_reads' HO377.out).2.2 | (with_reducible refine Kd.C_alloc ?_ _) | (with_reducible refine Kd.C_drewN ?_ _) | (with_reducible refine Kd.C_drew ?_))); (case side4 => exact (Kd.R_reads' HO377.out).2.1); rintro e w' ⟨rfl, ⟨nd, rfl⟩⟩) | (go_at_call 19; refine calls_of_args (args' := #[.slice A0 (l0.take ((ji3) : Int).toNat).length c0]) (by rw [show (l0.take ((ji3) : Int).toNat).length = (ji3).toNat from (by rw [List.length_take]; have h_ : ((ji3) : Int) ≤ (l0.length : Int) := of_decide_eq_true (by first | (with_reducible assumption) | assumption); omega)]) ?_; (with_reducible refine (fold_Check.calls k _ _ (l0.take ((ji3) : Int).toNat) t380 _ ?side1 ?side2 A13.out).mono ?_); (case side1 => repeat (first | exact (Kd.C_below HR369.out (by repeat (first | (with_reducible first | exact HB.out | apply below_alloc | apply pw_below_drewN | apply below_drew1) | exact HB.out))) | (with_reducible refine Kd.C_alloc ?_ _) | (with_reducible refine Kd.C_drewN ?_ _) | (with_reducible refine Kd.C_drew ?_))); (case side2 => exact HC369.out); rintro e w' ⟨rfl, ⟨nd, rfl⟩⟩) | (go_at_call 28; refine calls_of_args (args' := #[.slice A0 (l0.take ((ji3) : Int).toNat).length c0]) (by rw [show (l0.take ((ji3) : Int).toNat).length = (ji3).toNat from (by rw [List.length_take]; have h_ : ((ji3) : Int) ≤ (l0.length : Int) := of_decide_eq_true (by first | (with_reducible assumption) | assumption); omega)]) ?_; (with_reducible refine (jalousieref41_Check.calls k _ _ (l0.take ((ji3) : Int).toNat) t381 _ ?side1 ?side2 A14.out).mono ?_); (case side1 => repeat (first | exact (Kd.C_below HR369.out (by repeat (first | (with_reducible first | exact HB.out | apply below_alloc | apply pw_below_drewN | apply below_drew1) | exact HB.out))) | (with_reducible refine Kd.C_alloc ?_ _) | (with_reducible refine Kd.C_drewN ?_ _) | (with_reducible refine Kd.C_drew ?_))); (case side2 => exact HC369.out); rintro e w' ⟨rfl, ⟨nd, rfl⟩⟩) | (go_at_call 29; refine calls_of_args (args' := #[.slice A0 (l0.take ((ji3) : Int).toNat).length c0, .int .i64 a1]) (by rw [show (l0.take ((ji3) : Int).toNat).length = (ji3).toNat from (by rw [List.length_take]; have h_ : ((ji3) : Int) ≤ (l0.length : Int) := of_decide_eq_true (by first | (with_reducible assumption) | assumption); omega)]) ?_; (with_reducible refine (fold_Kids.calls k _ _ (l0.take ((ji3) : Int).toNat) a1 t382 _ ?side1 ?side2 A16.out).mono ?_); (case side1 => repeat (first | exact (Kd.C_below HR369.out (by repeat (first | (with_reducible first | exact HB.out | apply below_alloc | apply pw_below_drewN | apply below_drew1) | exact HB.out))) | (with_reducible refine Kd.C_alloc ?_ _) | (with_reducible refine Kd.C_drewN ?_ _) | (with_reducible refine Kd.C_drew ?_))); (case side2 => exact HC369.out); rintro e w29 ⟨v383, rfl, ho0, hb⟩; have n0_ := Aside0.mk (Kd.R_elder' (by (with_reducible repeat (first | apply Kd.R_alloc | apply Kd.R_drewN | apply Kd.R_drew)); exact HO373.out) (Kd.R_base ho0) hb); have n1_ := Aside0.mk (Kd.R_elder' (by (with_reducible repeat (first | apply Kd.R_alloc | apply Kd.R_drewN | apply Kd.R_drew)); exact HO377.out) (Kd.R_base ho0) hb); have n2_ := Aside0.mk (Kd.R_lower (Kd.R_new' (Kd.R_new' ho0 (Kd.R_lt (by (with_reducible repeat (first | apply Kd.R_alloc | apply Kd.R_drewN | apply Kd.R_drew)); exact HO373.out))) (Kd.R_lt (by (with_reducible repeat (first | apply Kd.R_alloc | apply Kd.R_drewN | apply Kd.R_drew)); exact HO377.out))) (below_size (by repeat (first | (with_reducible first | exact HB.out | apply below_alloc | apply pw_below_drewN | apply below_drew1) | exact HB.out)))); have n3_ := Aside0.mk (below_step (by repeat (first | (with_reducible first | exact HB.out | apply below_alloc | apply pw_below_drewN | apply below_drew1) | exact HB.out)) hb); clear HO373; clear HO377; clear HB; have HO373 := n0_; have HO377 := n1_; have HO384 := n2_; have HB := n3_; clear n0_ n1_ n2_ n3_; (try clear hb); (try clear hb2); (try clear hk); (try clear hi); (try clear ho0)) | (go_at_call 30; refine calls_of_args (args' := #[.slice A0 (l0.take ((ji3) : Int).toNat).length c0, .int .i64 a1]) (by rw [show (l0.take ((ji3) : Int).toNat).length = (ji3).toNat from (by rw [List.length_take]; have h_ : ((ji3) : Int) ≤ (l0.length : Int) := of_decide_eq_true (by first | (with_reducible assumption) | assumption); omega)]) ?_; (with_reducible refine (jalousieref41_Kids.calls k _ _ (l0.take ((ji3) : Int).toNat) a1 t385 _ ?side1 ?side2 A17.out).mono ?_); (case side1 => repeat (first | exact (Kd.C_below HR369.out HB.out) | (with_reducible refine Kd.C_alloc ?_ _) | (with_reducible refine Kd.C_drewN ?_ _) | (with_reducible refine Kd.C_drew ?_))); (case side2 => exact HC369.out); rintro e w30 ⟨v386, rfl, ho0, hb⟩; have n0_ := Aside0.mk (Kd.R_elder' (by (with_reducible repeat (first | apply Kd.R_alloc | apply Kd.R_drewN | apply Kd.R_drew)); exact HO373.out) (Kd.R_base ho0) hb); have n1_ := Aside0.mk (Kd.R_elder' (by (with_reducible repeat (first | apply Kd.R_alloc | apply Kd.R_drewN | apply Kd.R_drew)); exact HO377.out) (Kd.R_base ho0) hb); have n2_ := Aside0.mk (Kd.R_elder' (by (with_reducible repeat (first | apply Kd.R_alloc | apply Kd.R_drewN | apply Kd.R_drew)); exact HO384.out) (Kd.R_base ho0) hb); have n3_ := Aside0.mk (Kd.R_lower (Kd.R_new' (Kd.R_new' (Kd.R_new' ho0 (Kd.R_lt (by (with_reducible repeat (first | apply Kd.R_alloc | apply Kd.R_drewN | apply Kd.R_drew)); exact HO373.out))) (Kd.R_lt (by (with_reducible repeat (first | apply Kd.R_alloc | apply Kd.R_drewN | apply Kd.R_drew)); exact HO377.out))) (Kd.R_lt (by (with_reducible repeat (first | apply Kd.R_alloc | apply Kd.R_drewN | apply Kd.R_drew)); exact HO384.out))) (below_size (by repeat (first | (with_reducible first | exact HB.out | apply below_alloc | apply pw_below_drewN | apply below_drew1) | exact HB.out)))); have n4_ := Aside0.mk (below_step (by repeat (first | (with_reducible first | exact HB.out | apply below_alloc | apply pw_below_drewN | apply below_drew1) | exact HB.out)) hb); clear HO373; clear HO377; clear HO384; clear HB; have HO373 := n0_; have HO377 := n1_; have HO384 := n2_; have HO387 := n3_; have HB := n4_; clear n0_ n1_ n2_ n3_ n4_; (try clear hb); (try clear hb2); (try clear hk); (try clear hi); (try clear ho0); obtain ⟨Ao31, co31, eo31⟩ := Kd.R_slice HO384.out; subst eo31; obtain ⟨Ao32, co32, eo32⟩ := Kd.R_slice HO387.out; subst eo32) | (go_at_call 17; (with_reducible refine (jalousieref05_Ints.calls k _ _ t382 _ _ t385 true _ ?side1 ?side2 ?side3 ?side4 A18.out).mono ?_); (case side1 => repeat (first | exact (Kd.R_reads' HO384.out).2.2 | (with_reducible refine Kd.C_alloc ?_ _) | (with_reducible refine Kd.C_drewN ?_ _) | (with_reducible refine Kd.C_drew ?_))); (case side2 => exact (Kd.R_reads' HO384.out).2.1); (case side3 => repeat (first | exact (Kd.R_reads' HO387.out).2.2 | (with_reducible refine Kd.C_alloc ?_ _) | (with_reducible refine Kd.C_drewN ?_ _) | (with_reducible refine Kd.C_drew ?_))); (case side4 => exact (Kd.R_reads' HO387.out).2.1); rintro e w' ⟨rfl, ⟨nd, rfl⟩⟩) | (go_at_call 31; refine calls_of_args (args' := #[.slice A0 (l0.take ((ji3) : Int).toNat).length c0]) (by rw [show (l0.take ((ji3) : Int).toNat).length = (ji3).toNat from (by rw [List.length_take]; have h_ : ((ji3) : Int) ≤ (l0.length : Int) := of_decide_eq_true (by first | (with_reducible assumption) | assumption); omega)]) ?_; (with_reducible refine (fold_Levels.calls k _ _ (l0.take ((ji3) : Int).toNat) t389 _ ?side1 ?side2 A20.out).mono ?_); (case side1 => repeat (first | exact (Kd.C_below HR369.out (by repeat (first | (with_reducible first | exact HB.out | apply below_alloc | apply pw_below_drewN | apply below_drew1) | exact HB.out))) | (with_reducible refine Kd.C_alloc ?_ _) | (with_reducible refine Kd.C_drewN ?_ _) | (with_reducible refine Kd.C_drew ?_))); (case side2 => exact HC369.out); rintro e w33 ⟨v390, rfl, ho0, hb⟩; have n0_ := Aside0.mk (Kd.R_elder' (by (with_reducible repeat (first | apply Kd.R_alloc | apply Kd.R_drewN | apply Kd.R_drew)); exact HO373.out) (Kd.R_base ho0) hb); have n1_ := Aside0.mk (Kd.R_elder' (by (with_reducible repeat (first | apply Kd.R_alloc | apply Kd.R_drewN | apply Kd.R_drew)); exact HO377.out) (Kd.R_base ho0) hb); have n2_ := Aside0.mk (Kd.R_elder' (by (with_reducible repeat (first | apply Kd.R_alloc | apply Kd.R_drewN | apply Kd.R_drew)); exact HO384.out) (Kd.R_base ho0) hb); have n3_ := Aside0.mk (Kd.R_elder' (by (with_reducible repeat (first | apply Kd.R_alloc | apply Kd.R_drewN | apply Kd.R_drew)); exact HO387.out) (Kd.R_base ho0) hb); have n4_ := Aside0.mk (Kd.R_lower (Kd.R_new' (Kd.R_new' (Kd.R_new' (Kd.R_new' ho0 (Kd.R_lt (by (with_reducible repeat (first | apply Kd.R_alloc | apply Kd.R_drewN | apply Kd.R_drew)); exact HO373.out))) (Kd.R_lt (by (with_reducible repeat (first | apply Kd.R_alloc | apply Kd.R_drewN | apply Kd.R_drew)); exact HO377.out))) (Kd.R_lt (by (with_reducible repeat (first | apply Kd.R_alloc | apply Kd.R_drewN | apply Kd.R_drew)); exact HO384.out))) (Kd.R_lt (by (with_reducible repeat (first | apply Kd.R_alloc | apply Kd.R_drewN | apply Kd.R_drew)); exact HO387.out))) (below_size (by repeat (first | (with_reducible first | exact HB.out | apply below_alloc | apply pw_below_drewN | apply below_drew1) | exact HB.out)))); have n5_ := Aside0.mk (below_step (by repeat (first | (with_reducible first | exact HB.out | apply below_alloc | apply pw_below_drewN | apply below_drew1) | exact HB.out)) hb); clear HO373; clear HO377; clear HO384; clear HO387; clear HB; have HO373 := n0_; have HO377 := n1_; have HO384 := n2_; have HO387 := n3_; have HO391 := n4_; have HB := n5_; clear n0_ n1_ n2_ n3_ n4_ n5_; (try clear hb); (try clear hb2); (try clear hk); (try clear hi); (try clear ho0)) | (go_at_call 32; refine calls_of_args (args' := #[.slice A0 (l0.take ((ji3) : Int).toNat).length c0]) (by rw [show (l0.take ((ji3) : Int).toNat).length = (ji3).toNat from (by rw [List.length_take]; have h_ : ((ji3) : Int) ≤ (l0.length : Int) := of_decide_eq_true (by first | (with_reducible assumption) | assumption); omega)]) ?_; (with_reducible refine (jalousieref41_Levels.calls k _ _ (l0.take ((ji3) : Int).toNat) t392 _ ?side1 ?side2 A21.out).mono ?_); (case side1 => repeat (first | exact (Kd.C_below HR369.out HB.out) | (with_reducible refine Kd.C_alloc ?_ _) | (with_reducible refine Kd.C_drewN ?_ _) | (with_reducible refine Kd.C_drew ?_))); (case side2 => exact HC369.out); rintro e w34 ⟨v393, rfl, ho0, hb⟩; have n0_ := Aside0.mk (Kd.R_elder' (by (with_reducible repeat (first | apply Kd.R_alloc | apply Kd.R_drewN | apply Kd.R_drew)); exact HO373.out) (Kd.R_base ho0) hb); have n1_ := Aside0.mk (Kd.R_elder' (by (with_reducible repeat (first | apply Kd.R_alloc | apply Kd.R_drewN | apply Kd.R_drew)); exact HO377.out) (Kd.R_base ho0) hb); have n2_ := Aside0.mk (Kd.R_elder' (by (with_reducible repeat (first | apply Kd.R_alloc | apply Kd.R_drewN | apply Kd.R_drew)); exact HO384.out) (Kd.R_base ho0) hb); have n3_ := Aside0.mk (Kd.R_elder' (by (with_reducible repeat (first | apply Kd.R_alloc | apply Kd.R_drewN | apply Kd.R_drew)); exact HO387.out) (Kd.R_base ho0) hb); have n4_ := Aside0.mk (Kd.R_elder' (by (with_reducible repeat (first | apply Kd.R_alloc | apply Kd.R_drewN | apply Kd.R_drew)); exact HO391.out) (Kd.R_base ho0) hb); have n5_ := Aside0.mk (Kd.R_lower (Kd.R_new' (Kd.R_new' (Kd.R_new' (Kd.R_new' (Kd.R_new' ho0 (Kd.R_lt (by (with_reducible repeat (first | apply Kd.R_alloc | apply Kd.R_drewN | apply Kd.R_drew)); exact HO373.out))) (Kd.R_lt (by (with_reducible repeat (first | apply Kd.R_alloc | apply Kd.R_drewN | apply Kd.R_drew)); exact HO377.out))) (Kd.R_lt (by (with_reducible repeat (first | apply Kd.R_alloc | apply Kd.R_drewN | apply Kd.R_drew)); exact HO384.out))) (Kd.R_lt (by (with_reducible repeat (first | apply Kd.R_alloc | apply Kd.R_drewN | apply Kd.R_drew)); exact HO387.out))) (Kd.R_lt (by (with_reducible repeat (first | apply Kd.R_alloc | apply Kd.R_drewN | apply Kd.R_drew)); exact HO391.out))) (below_size (by repeat (first | (with_reducible first | exact HB.out | apply below_alloc | apply pw_below_drewN | apply below_drew1) | exact HB.out)))); have n6_ := Aside0.mk (below_step (by repeat (first | (with_reducible first | exact HB.out | apply below_alloc | apply pw_below_drewN | apply below_drew1) | exact HB.out)) hb); clear HO373; clear HO377; clear HO384; clear HO387; clear HO391; clear HB; have HO373 := n0_; have HO377 := n1_; have HO384 := n2_; have HO387 := n3_; have HO391 := n4_; have HO394 := n5_; have HB := n6_; clear n0_ n1_ n2_ n3_ n4_ n5_ n6_; (try clear hb); (try clear hb2); (try clear hk); (try clear hi); (try clear ho0); obtain ⟨Ao35, co35, eo35⟩ := Kd.R_slice HO391.out; subst eo35; obtain ⟨Ao36, co36, eo36⟩ := Kd.R_slice HO394.out; subst eo36) | (go_at_call 17; (with_reducible refine (jalousieref05_Ints.calls k _ _ t389 _ _ t392 t395 _ ?side1 ?side2 ?side3 ?side4 A22.out).mono ?_); (case side1 => repeat (first | exact (Kd.R_reads' HO391.out).2.2 | (with_reducible refine Kd.C_alloc ?_ _) | (with_reducible refine Kd.C_drewN ?_ _) | (with_reducible refine Kd.C_drew ?_))); (case side2 => exact (Kd.R_reads' HO391.out).2.1); (case side3 => repeat (first | exact (Kd.R_reads' HO394.out).2.2 | (with_reducible refine Kd.C_alloc ?_ _) | (with_reducible refine Kd.C_drewN ?_ _) | (with_reducible refine Kd.C_drew ?_))); (case side4 => exact (Kd.R_reads' HO394.out).2.1); rintro e w' ⟨rfl, ⟨nd, rfl⟩⟩))
                go_ret
                exact ⟨by first | rfl | (simp [errW_none, errW_some] <;> rfl) | (simp only [← hji3]; first | rfl | (simp [errW_none, errW_some] <;> rfl)) | (simp [*, errW_none, errW_some] <;> rfl), by repeat (first | (with_reducible first | exact HB.out | apply below_alloc | apply pw_below_drewN | apply below_drew1) | exact HB.out)⟩
              · replace c19 := Bool.eq_false_iff.mpr c19
                subst c19
                have H1 : (some false) = some r := by rw [if_neg (show ¬ (false = true) by decide)] at H; exact H
                clear H
                have H := H1
                clear H1
                exact absurd (Option.some.inj (H.trans (congrArg some HRT.out))) (by decide)
            · rw [if_neg c15] at H
              have c15b0 : (t380 == t381) = false := beq_eq_false_iff_ne.mpr c15
              have c15b1 : (t380 != t381) = true := bne_iff_ne.mpr c15
              exact absurd (Option.some.inj (H.trans (congrArg some HRT.out))) (by decide)
          · rw [if_neg c12] at H
            have c12b0 : (t371 == t375) = false := beq_eq_false_iff_ne.mpr c12
            have c12b1 : (t371 != t375) = true := bne_iff_ne.mpr c12
            exact absurd (Option.some.inj (H.trans (congrArg some HRT.out))) (by decide)
        · replace c11 := Bool.eq_false_iff.mpr c11
          subst c11
          have H1 : (some false) = some r := by rw [if_neg (show ¬ (false = true) by decide)] at H; exact H
          clear H
          have H := H1
          clear H1
          exact absurd (Option.some.inj (H.trans (congrArg some HRT.out))) (by decide)
      · replace c9 := Bool.eq_false_iff.mpr c9
        subst c9
        have H1 : (some false) = some r := by rw [if_neg (show ¬ (false = true) by decide)] at H; exact H
        clear H
        have H := H1
        clear H1
        exact absurd (Option.some.inj (H.trans (congrArg some HRT.out))) (by decide)
    · rw [if_neg c5] at H
      exact absurd H (by simp)
  · rw [if_neg c4] at H
    exact absurd H (by simp)

end Go.Proofs.YtcmnofbpcmnnhaaDoor.F
