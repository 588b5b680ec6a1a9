-- PRINTED by print.py (a twelfth state) out of the translation. Not trusted: Lean checks it.
import Derived.Test.YtcmnofbpcmnnhaaDoorF0
import Derived.Test.YtcmnofbpcmnnhaaDoorF3
import Derived.Test.YtcmnofbpcmnnhaaDoorF13
import Derived.Test.YtcmnofbpcmnnhaaDoorF14
import Derived.Test.YtcmnofbpcmnnhaaDoorF17
import Derived.Test.YtcmnofbpcmnnhaaDoorF26
namespace Go.Proofs.YtcmnofbpcmnnhaaDoor.F
open Go.RowKit Go.Proofs.YtcmnofbpcmnnhaaDoorW.PrintWords Go.Proofs.YtcmnofbpcmnnhaaDoorW.PrintLast Go.Proofs.YtcmnofbpcmnnhaaDoorW.PrintMore
attribute [local go_sem] max2_int min2_int max_two min_two max_three min_three max_four min_four   -- for this text's walks alone
set_option linter.unusedVariables false
set_option linter.unusedSimpArgs false

/-! ### jalousielaw41_live: function 16 -/
def jalousielaw41_live.f (k : Nat)  : Option (Bool) := (some (([(⟨(⟨#[97]⟩ : ByteArray), false⟩ : S26), (⟨(⟨#[32, 32, 98]⟩ : ByteArray), false⟩ : S26), (⟨(⟨#[32, 32, 99]⟩ : ByteArray), false⟩ : S26), (⟨(⟨#[100]⟩ : ByteArray), false⟩ : S26)] : List (S26)) : List (S26))).bind fun y183 => ((fold_Hide.f k y183 1).bind fun bt186 => ((fold_Print.f k y183 bt186.1).bind fun bt190 => ((fold_Parents.f k y183).bind fun t194 => ((jalousieref05_Ints.f k t194 (([(-1), 0, 0, (-1)] : List Int))).bind fun t200 => (if t200 = true then (if bt186.2 = 0 then (if (bt186.1.length : Int) = 2 then (if 0 < (bt186.1.length : Int) then (if ((rd_T44 bt186.1 0).f1) = 2 then (if bt190.2 = 0 then (if (strOfNums bt190.1).toList = ([97, 10, 46, 46, 46, 32, 50, 10, 100, 10] : List UInt8) then ((fold_Inset.f k (⟨#[32, 9, 120]⟩ : ByteArray)).bind fun t202 => (some (t202 == 8))) else (some false)) else (some false)) else (some false)) else (none)) else (some false)) else (some false)) else (some false))))))
theorem jalousielaw41_live.mono : ∀ k, LeO (jalousielaw41_live.f k ) (jalousielaw41_live.f (k + 1) ) := by
  intro  k
  unfold jalousielaw41_live.f
  repeat' first
      | (with_reducible exact fold_Hide.mono _ _ _)
      | (with_reducible exact fold_Inset.mono _ _)
      | (with_reducible exact fold_Parents.mono _ _)
      | (with_reducible exact fold_Print.mono _ _ _)
      | (with_reducible exact jalousieref05_Ints.mono _ _ _)
      | (with_reducible exact LeO.refl _)
      | (with_reducible exact LeO.none _)
      | (with_reducible refine LeO.ite ?_ ?_)
      | (with_reducible refine LeO.bind ?_ (fun _ => ?_))
      | exact fold_Hide.mono _ _ _
      | exact fold_Inset.mono _ _
      | exact fold_Parents.mono _ _
      | exact fold_Print.mono _ _ _
      | exact jalousieref05_Ints.mono _ _ _
      | exact LeO.none _
      | refine LeO.ite ?_ ?_
      | refine LeO.bind ?_ (fun _ => ?_)
set_option maxHeartbeats 8000000 in
set_option maxRecDepth 100000 in
theorem jalousielaw41_live.calls (k : Nat)  (r : Bool) (w : World) (h : jalousielaw41_live.f k  = some r) (HRT : Aside0 (r = true) := by first | exact ⟨rfl⟩ | assumption) :
    Calls Tryd.prog 16 #[] w fun e w' => e = .returned (.bool r) ∧ Below w.heap.size w w' := by
  have hu26 := Tryd.underlying26
  have HB := Aside0.mk (Below.refl w.heap.size w)
  have H : ((some (([(⟨(⟨#[97]⟩ : ByteArray), false⟩ : S26), (⟨(⟨#[32, 32, 98]⟩ : ByteArray), false⟩ : S26), (⟨(⟨#[32, 32, 99]⟩ : ByteArray), false⟩ : S26), (⟨(⟨#[100]⟩ : ByteArray), false⟩ : S26)] : List (S26)) : List (S26))).bind fun y183 => ((fold_Hide.f k y183 1).bind fun bt186 => ((fold_Print.f k y183 bt186.1).bind fun bt190 => ((fold_Parents.f k y183).bind fun t194 => ((jalousieref05_Ints.f k t194 (([(-1), 0, 0, (-1)] : List Int))).bind fun t200 => (if t200 = true then (if bt186.2 = 0 then (if (bt186.1.length : Int) = 2 then (if 0 < (bt186.1.length : Int) then (if ((rd_T44 bt186.1 0).f1) = 2 then (if bt190.2 = 0 then (if (strOfNums bt190.1).toList = ([97, 10, 46, 46, 46, 32, 50, 10, 100, 10] : List UInt8) then ((fold_Inset.f k (⟨#[32, 9, 120]⟩ : ByteArray)).bind fun t202 => (some (t202 == 8))) else (some false)) else (some false)) else (some false)) else (none)) else (some false)) else (some false)) else (some false))))))) = some r := h
  clear h
  obtain ⟨y183, hy183⟩ : ∃ y_ : List (S26), y_ = (([(⟨(⟨#[97]⟩ : ByteArray), false⟩ : S26), (⟨(⟨#[32, 32, 98]⟩ : ByteArray), false⟩ : S26), (⟨(⟨#[32, 32, 99]⟩ : ByteArray), false⟩ : S26), (⟨(⟨#[100]⟩ : ByteArray), false⟩ : S26)] : List (S26))) := ⟨_, rfl⟩
  replace H : ((fold_Hide.f k y183 1).bind fun bt186 => ((fold_Print.f k y183 bt186.1).bind fun bt190 => ((fold_Parents.f k y183).bind fun t194 => ((jalousieref05_Ints.f k t194 (([(-1), 0, 0, (-1)] : List Int))).bind fun t200 => (if t200 = true then (if bt186.2 = 0 then (if (bt186.1.length : Int) = 2 then (if 0 < (bt186.1.length : Int) then (if ((rd_T44 bt186.1 0).f1) = 2 then (if bt190.2 = 0 then (if (strOfNums bt190.1).toList = ([97, 10, 46, 46, 46, 32, 50, 10, 100, 10] : List UInt8) then ((fold_Inset.f k (⟨#[32, 9, 120]⟩ : ByteArray)).bind fun t202 => (some (t202 == 8))) else (some false)) else (some false)) else (some false)) else (none)) else (some false)) else (some false)) else (some false)))))) = some r := by first | (rw [hy183]; with_reducible exact H) | (have H2_ := (Option.bind_some _ _).symm.trans H; rw [hy183]; with_reducible exact H2_) | (have H2_ := (Option.bind_some _ _).symm.trans H; with_reducible exact H2_) | with_reducible exact H | (rw [hy183]; exact H) | exact H
  have Ny183 := Aside0.mk hy183
  clear hy183
  replace H := Option.bind_eq_some_iff.mp H
  obtain ⟨⟨t186, t187⟩, A10, H⟩ := H
  replace H : ((fold_Print.f k y183 t186).bind fun bt190 => ((fold_Parents.f k y183).bind fun t194 => ((jalousieref05_Ints.f k t194 (([(-1), 0, 0, (-1)] : List Int))).bind fun t200 => (if t200 = true then (if t187 = 0 then (if (t186.length : Int) = 2 then (if 0 < (t186.length : Int) then (if ((rd_T44 t186 0).f1) = 2 then (if bt190.2 = 0 then (if (strOfNums bt190.1).toList = ([97, 10, 46, 46, 46, 32, 50, 10, 100, 10] : List UInt8) then ((fold_Inset.f k (⟨#[32, 9, 120]⟩ : ByteArray)).bind fun t202 => (some (t202 == 8))) else (some false)) else (some false)) else (some false)) else (none)) else (some false)) else (some false)) else (some false))))) = some r := H
  have A1 := Aside0.mk A10
  clear A10
  replace H := Option.bind_eq_some_iff.mp H
  obtain ⟨⟨t190, t191⟩, A20, H⟩ := H
  replace H : ((fold_Parents.f k y183).bind fun t194 => ((jalousieref05_Ints.f k t194 (([(-1), 0, 0, (-1)] : List Int))).bind fun t200 => (if t200 = true then (if t187 = 0 then (if (t186.length : Int) = 2 then (if 0 < (t186.length : Int) then (if ((rd_T44 t186 0).f1) = 2 then (if t191 = 0 then (if (strOfNums t190).toList = ([97, 10, 46, 46, 46, 32, 50, 10, 100, 10] : List UInt8) then ((fold_Inset.f k (⟨#[32, 9, 120]⟩ : ByteArray)).bind fun t202 => (some (t202 == 8))) else (some false)) else (some false)) else (some false)) else (none)) else (some false)) else (some false)) else (some false)))) = some r := H
  have A2 := Aside0.mk A20
  clear A20
  replace H := Option.bind_eq_some_iff.mp H
  obtain ⟨t194, A30, H⟩ := H
  replace H : ((jalousieref05_Ints.f k t194 (([(-1), 0, 0, (-1)] : List Int))).bind fun t200 => (if t200 = true then (if t187 = 0 then (if (t186.length : Int) = 2 then (if 0 < (t186.length : Int) then (if ((rd_T44 t186 0).f1) = 2 then (if t191 = 0 then (if (strOfNums t190).toList = ([97, 10, 46, 46, 46, 32, 50, 10, 100, 10] : List UInt8) then ((fold_Inset.f k (⟨#[32, 9, 120]⟩ : ByteArray)).bind fun t202 => (some (t202 == 8))) else (some false)) else (some false)) else (some false)) else (none)) else (some false)) else (some false)) else (some false))) = some r := H
  have A3 := Aside0.mk A30
  clear A30
  obtain ⟨y197, hy197⟩ : ∃ y_ : List Int, y_ = (([(-1), 0, 0, (-1)] : List Int)) := ⟨_, rfl⟩
  replace H : ((jalousieref05_Ints.f k t194 y197).bind fun t200 => (if t200 = true then (if t187 = 0 then (if (t186.length : Int) = 2 then (if 0 < (t186.length : Int) then (if ((rd_T44 t186 0).f1) = 2 then (if t191 = 0 then (if (strOfNums t190).toList = ([97, 10, 46, 46, 46, 32, 50, 10, 100, 10] : List UInt8) then ((fold_Inset.f k (⟨#[32, 9, 120]⟩ : ByteArray)).bind fun t202 => (some (t202 == 8))) else (some false)) else (some false)) else (some false)) else (none)) else (some false)) else (some false)) else (some false))) = some r := by first | (rw [hy197]; with_reducible exact H) | (have H2_ := (Option.bind_some _ _).symm.trans H; rw [hy197]; with_reducible exact H2_) | (have H2_ := (Option.bind_some _ _).symm.trans H; with_reducible exact H2_) | with_reducible exact H | (rw [hy197]; exact H) | exact H
  have Ny197 := Aside0.mk hy197
  clear hy197
  replace H := Option.bind_eq_some_iff.mp H
  obtain ⟨t200, A40, H⟩ := H
  replace H : (if t200 = true then (if t187 = 0 then (if (t186.length : Int) = 2 then (if 0 < (t186.length : Int) then (if ((rd_T44 t186 0).f1) = 2 then (if t191 = 0 then (if (strOfNums t190).toList = ([97, 10, 46, 46, 46, 32, 50, 10, 100, 10] : List UInt8) then ((fold_Inset.f k (⟨#[32, 9, 120]⟩ : ByteArray)).bind fun t202 => (some (t202 == 8))) else (some false)) else (some false)) else (some false)) else (none)) else (some false)) else (some false)) else (some false)) = some r := H
  have A4 := Aside0.mk A40
  clear A40
  by_cases c5 : t200 = true
  · subst c5
    have H1 : (if t187 = 0 then (if (t186.length : Int) = 2 then (if 0 < (t186.length : Int) then (if ((rd_T44 t186 0).f1) = 2 then (if t191 = 0 then (if (strOfNums t190).toList = ([97, 10, 46, 46, 46, 32, 50, 10, 100, 10] : List UInt8) then ((fold_Inset.f k (⟨#[32, 9, 120]⟩ : ByteArray)).bind fun t202 => (some (t202 == 8))) else (some false)) else (some false)) else (some false)) else (none)) else (some false)) else (some false)) = some r := by rw [if_pos rfl] at H; exact H
    clear H
    have H := H1
    clear H1
    by_cases c6 : t187 = 0
    · rw [if_pos c6] at H
      have c6b0 : (t187 == 0) = true := beq_iff_eq.mpr c6
      have c6b1 : (t187 != 0) = false := bne_eq_false_iff_eq.mpr c6
      clear c6
      by_cases c7 : (t186.length : Int) = 2
      · rw [if_pos c7] at H
        have c7b0 : ((t186.length : Int) == 2) = true := beq_iff_eq.mpr c7
        have c7b1 : ((t186.length : Int) != 2) = false := bne_eq_false_iff_eq.mpr c7
        clear c7
        by_cases c8 : 0 < (t186.length : Int)
        · rw [if_pos c8] at H
          have c8b0 : decide (0 < (t186.length : Int)) = true := decide_eq_true c8
          have c8b1 : decide (0 < t186.length) = true := decide_eq_true (by omega)
          clear c8
          by_cases c9 : ((rd_T44 t186 0).f1) = 2
          · rw [if_pos c9] at H
            have c9b0 : (((rd_T44 t186 0).f1) == 2) = true := beq_iff_eq.mpr c9
            have c9b1 : (((rd_T44 t186 0).f1) != 2) = false := bne_eq_false_iff_eq.mpr c9
            clear c9
            by_cases c10 : t191 = 0
            · rw [if_pos c10] at H
              have c10b0 : (t191 == 0) = true := beq_iff_eq.mpr c10
              have c10b1 : (t191 != 0) = false := bne_eq_false_iff_eq.mpr c10
              clear c10
              by_cases c11 : (strOfNums t190).toList = ([97, 10, 46, 46, 46, 32, 50, 10, 100, 10] : List UInt8)
              · rw [if_pos c11] at H
                have c11b0 : ((strOfNums t190).toList == ([97, 10, 46, 46, 46, 32, 50, 10, 100, 10] : List UInt8)) = true := beq_iff_eq.mpr c11
                have c11b1 : ((strOfNums t190).toList != ([97, 10, 46, 46, 46, 32, 50, 10, 100, 10] : List UInt8)) = false := bne_eq_false_iff_eq.mpr c11
                clear c11
                replace H := Option.bind_eq_some_iff.mp H
                obtain ⟨t202, A120, H⟩ := H
                replace H : (some (t202 == 8)) = some r := H
                have A12 := Aside0.mk A120
                clear A120
                obtain rfl := Option.some.inj H
                go_enter Tryd.func16, Tryd.ntmps16
                go_wp2_with (first | ((with_reducible refine gate_dst (N := 10) rfl ?_); (try (refine gate_guard (by rfl) ?_; dsimp only)); refine Kd.R_lit k26 _ 26 ?hg (N := 10) ?hd (xs := ([(⟨(⟨#[97]⟩ : ByteArray), false⟩ : S26), (⟨(⟨#[32, 32, 98]⟩ : ByteArray), false⟩ : S26), (⟨(⟨#[32, 32, 99]⟩ : ByteArray), false⟩ : S26), (⟨(⟨#[100]⟩ : ByteArray), false⟩ : S26)] : List (S26))) (inner := [.string (⟨#[97]⟩ : ByteArray), .bool false, .string (⟨#[32, 32, 98]⟩ : ByteArray), .bool false, .string (⟨#[32, 32, 99]⟩ : ByteArray), .bool false, .string (⟨#[100]⟩ : ByteArray), .bool false]) (ok := fun _ => True) (okp := fun _ => True) ?hr ?hp (fun _ hk => hk) trivial (Below.refl _ _) (Nat.le_refl _) (by simp) ?_; (case hd => rfl); (case hg => rfl); (case hr => first | (go_simp; done) | (go_simp; rfl)); (case hp => exact (Reps.c2 (show Kd.M k26 _ _ _ (⟨(⟨#[97]⟩ : ByteArray), false⟩ : S26) [.string (⟨#[97]⟩ : ByteArray), .bool false] from (k26_mkM _ _ _ (⟨(⟨#[97]⟩ : ByteArray), false⟩ : S26) )) (Reps.c2 (show Kd.M k26 _ _ _ (⟨(⟨#[32, 32, 98]⟩ : ByteArray), false⟩ : S26) [.string (⟨#[32, 32, 98]⟩ : ByteArray), .bool false] from (k26_mkM _ _ _ (⟨(⟨#[32, 32, 98]⟩ : ByteArray), false⟩ : S26) )) (Reps.c2 (show Kd.M k26 _ _ _ (⟨(⟨#[32, 32, 99]⟩ : ByteArray), false⟩ : S26) [.string (⟨#[32, 32, 99]⟩ : ByteArray), .bool false] from (k26_mkM _ _ _ (⟨(⟨#[32, 32, 99]⟩ : ByteArray), false⟩ : S26) )) (Reps.c2 (show Kd.M k26 _ _ _ (⟨(⟨#[100]⟩ : ByteArray), false⟩ : S26) [.string (⟨#[100]⟩ : ByteArray), .bool false] from (k26_mkM _ _ _ (⟨(⟨#[100]⟩ : ByteArray), false⟩ : S26) )) (Reps.none _ _)))))); intro v184 w13 ho14 hb hg_ hnew_; clear hg_ hnew_; (first | rw [← Ny183.out] at ho14 | (simp only [Int.reduceToNat] at ho14; rw [← Ny183.out] at ho14)); have n0_ := Aside0.mk (Kd.R_lower ho14 (below_size (by repeat (first | (with_reducible first | exact HB.out | apply below_alloc | apply pw_below_drewN | apply below_drew1) | exact HB.out)))); have n1_ := Aside0.mk (below_step (by repeat (first | (with_reducible first | exact HB.out | apply below_alloc | apply pw_below_drewN | apply below_drew1) | exact HB.out)) hb); clear HB; have HO185 := n0_; have HB := n1_; clear n0_ n1_; clear hb ho14; obtain ⟨Ao15, co15, eo15⟩ := Kd.R_slice HO185.out; subst eo15) | ((with_reducible refine gate_callee (f := 20) rfl ?_); refine goesL_ (some 13) rfl rfl Tryd.func20 (by kernel_rfl) rfl #[.slice Ao15 y183.length co15, .int .i64 1] rfl (by (try simp only [List.map_toArray, List.map_cons, List.map_nil]); first | done | rfl | (simp only [List.length_drop, List.length_take]; rfl)) ?_; (with_reducible refine (fold_Hide.calls k _ _ y183 1 t186 t187 _ ?side1 ?side2 A1.out).mono ?_); (case side1 => repeat (first | exact (Kd.R_reads' HO185.out).2.2 | (with_reducible refine Kd.C_alloc ?_ _) | (with_reducible refine Kd.C_drewN ?_ _) | (with_reducible refine Kd.C_drew ?_))); (case side2 => exact (Kd.R_reads' HO185.out).2.1); rintro e w16 ⟨v188, rfl, ho0, hb⟩; refine ⟨_, rfl, ?_⟩; have n0_ := Aside0.mk (Kd.R_below (by (with_reducible repeat (first | apply Kd.R_alloc | apply Kd.R_drewN | apply Kd.R_drew)); exact HO185.out) hb); have n1_ := Aside0.mk (Kd.R_lower ho0 (below_size (by repeat (first | (with_reducible first | exact HB.out | apply below_alloc | apply pw_below_drewN | apply below_drew1) | exact HB.out)))); have n2_ := Aside0.mk (below_step (by repeat (first | (with_reducible first | exact HB.out | apply below_alloc | apply pw_below_drewN | apply below_drew1) | exact HB.out)) hb); clear HO185; clear HB; have HO185 := n0_; have HO189 := n1_; have HB := n2_; clear n0_ n1_ n2_; (try clear hb); (try clear hb2); (try clear hk); (try clear hi); (try clear ho0); obtain ⟨Ao17, co17, eo17⟩ := Kd.R_slice HO189.out; subst eo17) | ((with_reducible refine gate_callee (f := 22) rfl ?_); refine goesL_ (some 19) rfl rfl Tryd.func22 (by kernel_rfl) rfl #[.slice Ao15 y183.length co15, .slice Ao17 t186.length co17] rfl (by (try simp only [List.map_toArray, List.map_cons, List.map_nil]); first | done | rfl | (simp only [List.length_drop, List.length_take]; rfl)) ?_; (with_reducible refine (fold_Print.calls k _ _ y183 _ _ t186 t190 t191 _ ?side1 ?side2 ?side3 ?side4 A2.out).mono ?_); (case side1 => repeat (first | exact (Kd.R_reads' HO185.out).2.2 | (with_reducible refine Kd.C_alloc ?_ _) | (with_reducible refine Kd.C_drewN ?_ _) | (with_reducible refine Kd.C_drew ?_))); (case side2 => exact (Kd.R_reads' HO185.out).2.1); (case side3 => repeat (first | exact (Kd.R_reads' HO189.out).2.2 | (with_reducible refine Kd.C_alloc ?_ _) | (with_reducible refine Kd.C_drewN ?_ _) | (with_reducible refine Kd.C_drew ?_))); (case side4 => exact (Kd.R_reads' HO189.out).2.1); rintro e w18 ⟨v192, rfl, ho0, hb⟩; refine ⟨_, rfl, ?_⟩; have n0_ := Aside0.mk (Kd.R_below (by (with_reducible repeat (first | apply Kd.R_alloc | apply Kd.R_drewN | apply Kd.R_drew)); exact HO185.out) hb); have n1_ := Aside0.mk (Kd.R_below (by (with_reducible repeat (first | apply Kd.R_alloc | apply Kd.R_drewN | apply Kd.R_drew)); exact HO189.out) hb); have n2_ := Aside0.mk (Kd.R_lower ho0 (below_size (by repeat (first | (with_reducible first | exact HB.out | apply below_alloc | apply pw_below_drewN | apply below_drew1) | exact HB.out)))); have n3_ := Aside0.mk (below_step (by repeat (first | (with_reducible first | exact HB.out | apply below_alloc | apply pw_below_drewN | apply below_drew1) | exact HB.out)) hb); clear HO185; clear HO189; clear HB; have HO185 := n0_; have HO189 := n1_; have HO193 := n2_; have HB := n3_; clear n0_ n1_ n2_ n3_; (try clear hb); (try clear hb2); (try clear hk); (try clear hi); (try clear ho0)) | ((with_reducible refine gate_callee (f := 15) rfl ?_); refine goesL_ (some 23) rfl rfl Tryd.func15 (by kernel_rfl) rfl #[.slice Ao15 y183.length co15] rfl (by (try simp only [List.map_toArray, List.map_cons, List.map_nil]); first | done | rfl | (simp only [List.length_drop, List.length_take]; rfl)) ?_; (with_reducible refine (fold_Parents.calls k _ _ y183 t194 _ ?side1 ?side2 A3.out).mono ?_); (case side1 => repeat (first | exact (Kd.R_reads' HO185.out).2.2 | (with_reducible refine Kd.C_alloc ?_ _) | (with_reducible refine Kd.C_drewN ?_ _) | (with_reducible refine Kd.C_drew ?_))); (case side2 => exact (Kd.R_reads' HO185.out).2.1); rintro e w19 ⟨v195, rfl, ho0, hb⟩; refine ⟨_, rfl, ?_⟩; have n0_ := Aside0.mk (Kd.R_below (by (with_reducible repeat (first | apply Kd.R_alloc | apply Kd.R_drewN | apply Kd.R_drew)); exact HO185.out) hb); have n1_ := Aside0.mk (Kd.R_below (by (with_reducible repeat (first | apply Kd.R_alloc | apply Kd.R_drewN | apply Kd.R_drew)); exact HO189.out) hb); have n2_ := Aside0.mk (Kd.R_below (by (with_reducible repeat (first | apply Kd.R_alloc | apply Kd.R_drewN | apply Kd.R_drew)); exact HO193.out) hb); have n3_ := Aside0.mk (Kd.R_lower ho0 (below_size (by repeat (first | (with_reducible first | exact HB.out | apply below_alloc | apply pw_below_drewN | apply below_drew1) | exact HB.out)))); have n4_ := Aside0.mk (below_step (by repeat (first | (with_reducible first | exact HB.out | apply below_alloc | apply pw_below_drewN | apply below_drew1) | exact HB.out)) hb); clear HO185; clear HO189; clear HO193; clear HB; have HO185 := n0_; have HO189 := n1_; have HO193 := n2_; have HO196 := n3_; have HB := n4_; clear n0_ n1_ n2_ n3_ n4_; (try clear hb); (try clear hb2); (try clear hk); (try clear hi); (try clear ho0)) | ((with_reducible refine gate_dst (N := 24) rfl ?_); (try (refine gate_guard (by rfl) ?_; dsimp only)); refine Kd.R_lit (Kd.int .i64) _ 3 ?hg (N := 24) ?hd (xs := ([(-1), 0, 0, (-1)] : List Int)) (inner := [.int .i64 (-1), .int .i64 0, .int .i64 0, .int .i64 (-1)]) (ok := fun _ => True) (okp := fun _ => True) ?hr ?hp (fun _ hk => hk) trivial (Below.refl _ _) (Nat.le_refl _) (by simp) ?_; (case hd => rfl); (case hg => rfl); (case hr => first | (go_simp; done) | (go_simp; rfl)); (case hp => exact (Reps.one (show Kd.M (Kd.int .i64) _ _ _ (-1) [.int .i64 (-1)] from rfl) (Reps.one (show Kd.M (Kd.int .i64) _ _ _ 0 [.int .i64 0] from rfl) (Reps.one (show Kd.M (Kd.int .i64) _ _ _ 0 [.int .i64 0] from rfl) (Reps.one (show Kd.M (Kd.int .i64) _ _ _ (-1) [.int .i64 (-1)] from rfl) (Reps.none _ _)))))); intro v198 w20 ho21 hb hg_ hnew_; clear hg_ hnew_; (first | rw [← Ny197.out] at ho21 | (simp only [Int.reduceToNat] at ho21; rw [← Ny197.out] at ho21)); have n0_ := Aside0.mk (Kd.R_below (by (with_reducible repeat (first | apply Kd.R_alloc | apply Kd.R_drewN | apply Kd.R_drew)); exact HO185.out) hb); have n1_ := Aside0.mk (Kd.R_below (by (with_reducible repeat (first | apply Kd.R_alloc | apply Kd.R_drewN | apply Kd.R_drew)); exact HO189.out) hb); have n2_ := Aside0.mk (Kd.R_below (by (with_reducible repeat (first | apply Kd.R_alloc | apply Kd.R_drewN | apply Kd.R_drew)); exact HO193.out) hb); have n3_ := Aside0.mk (Kd.R_elder' (by (with_reducible repeat (first | apply Kd.R_alloc | apply Kd.R_drewN | apply Kd.R_drew)); exact HO196.out) (Kd.R_base ho21) hb); have n4_ := Aside0.mk (Kd.R_lower (Kd.R_new' ho21 (Kd.R_lt (by (with_reducible repeat (first | apply Kd.R_alloc | apply Kd.R_drewN | apply Kd.R_drew)); exact HO196.out))) (below_size (by repeat (first | (with_reducible first | exact HB.out | apply below_alloc | apply pw_below_drewN | apply below_drew1) | exact HB.out)))); have n5_ := Aside0.mk (below_step (by repeat (first | (with_reducible first | exact HB.out | apply below_alloc | apply pw_below_drewN | apply below_drew1) | exact HB.out)) hb); clear HO185; clear HO189; clear HO193; clear HO196; clear HB; have HO185 := n0_; have HO189 := n1_; have HO193 := n2_; have HO196 := n3_; have HO199 := n4_; have HB := n5_; clear n0_ n1_ n2_ n3_ n4_ n5_; clear hb ho21; obtain ⟨Ao22, co22, eo22⟩ := Kd.R_slice HO196.out; subst eo22; obtain ⟨Ao23, co23, eo23⟩ := Kd.R_slice HO199.out; subst eo23) | ((with_reducible refine gate_callee (f := 17) rfl ?_); refine goesL_ (some 25) rfl rfl Tryd.func17 (by kernel_rfl) rfl #[.slice Ao22 t194.length co22, .slice Ao23 y197.length co23] rfl (by (try simp only [List.map_toArray, List.map_cons, List.map_nil]); first | done | rfl | (simp only [List.length_drop, List.length_take]; rfl)) ?_; (with_reducible refine (jalousieref05_Ints.calls k _ _ t194 _ _ y197 true _ ?side1 ?side2 ?side3 ?side4 A4.out).mono ?_); (case side1 => repeat (first | exact (Kd.R_reads' HO196.out).2.2 | (with_reducible refine Kd.C_alloc ?_ _) | (with_reducible refine Kd.C_drewN ?_ _) | (with_reducible refine Kd.C_drew ?_))); (case side2 => exact (Kd.R_reads' HO196.out).2.1); (case side3 => repeat (first | exact (Kd.R_reads' HO199.out).2.2 | (with_reducible refine Kd.C_alloc ?_ _) | (with_reducible refine Kd.C_drewN ?_ _) | (with_reducible refine Kd.C_drew ?_))); (case side4 => exact (Kd.R_reads' HO199.out).2.1); rintro e w' ⟨rfl, ⟨nd, rfl⟩⟩; refine ⟨_, rfl, ?_⟩; have p201 : 0 ≤ (0 : Int) := (by omega); have q201 : 0 < (t186.length : Int) := of_decide_eq_true (by first | (with_reducible assumption) | assumption); obtain ⟨ad201, e201, hx201_0, hx201_1⟩ := at_T44 (Kd.R_reads' HO189.out).2.2 0 p201 q201; cases e201; have qi201 : (0 < t186.length) = True := eq_true (by omega); (try rw [show ((0 : Int)).toNat = 0 from rfl] at hx201_0); (try rw [show 0 * 2 = 0 from rfl] at hx201_0); (try rw [Addr.add_zero'] at hx201_0); (try rw [show ((0 : Int)).toNat = 0 from rfl] at hx201_1); (try rw [show 0 * 2 = 0 from rfl] at hx201_1); (try rw [Addr.add_zero'] at hx201_1); replace p201 := eq_true p201; replace q201 := eq_true q201; have hcv24 := own_string (P := Tryd.prog) Tryd.underlying37 Tryd.underlying5 Tryd.underlying9 (Kd.own_of_R (Kd.R_drewN HO193.out nd))) | (go_at_call 13; (with_reducible refine (fold_Inset.calls k (⟨#[32, 9, 120]⟩ : ByteArray) t202 _ A12.out).mono ?_); rintro e w' ⟨rfl, ⟨nd, rfl⟩⟩))
                go_ret
                exact ⟨by first | rfl | (simp [errW_none, errW_some] <;> rfl) | (simp [*, errW_none, errW_some] <;> rfl), by repeat (first | (with_reducible first | exact HB.out | apply below_alloc | apply pw_below_drewN | apply below_drew1) | exact HB.out)⟩
              · rw [if_neg c11] at H
                have c11b0 : ((strOfNums t190).toList == ([97, 10, 46, 46, 46, 32, 50, 10, 100, 10] : List UInt8)) = false := beq_eq_false_iff_ne.mpr c11
                have c11b1 : ((strOfNums t190).toList != ([97, 10, 46, 46, 46, 32, 50, 10, 100, 10] : List UInt8)) = true := bne_iff_ne.mpr c11
                exact absurd (Option.some.inj (H.trans (congrArg some HRT.out))) (by decide)
            · rw [if_neg c10] at H
              have c10b0 : (t191 == 0) = false := beq_eq_false_iff_ne.mpr c10
              have c10b1 : (t191 != 0) = true := bne_iff_ne.mpr c10
              exact absurd (Option.some.inj (H.trans (congrArg some HRT.out))) (by decide)
          · rw [if_neg c9] at H
            have c9b0 : (((rd_T44 t186 0).f1) == 2) = false := beq_eq_false_iff_ne.mpr c9
            have c9b1 : (((rd_T44 t186 0).f1) != 2) = true := bne_iff_ne.mpr c9
            exact absurd (Option.some.inj (H.trans (congrArg some HRT.out))) (by decide)
        · rw [if_neg c8] at H
          exact absurd H (by simp)
      · rw [if_neg c7] at H
        have c7b0 : ((t186.length : Int) == 2) = false := beq_eq_false_iff_ne.mpr c7
        have c7b1 : ((t186.length : Int) != 2) = true := bne_iff_ne.mpr c7
        exact absurd (Option.some.inj (H.trans (congrArg some HRT.out))) (by decide)
    · rw [if_neg c6] at H
      have c6b0 : (t187 == 0) = false := beq_eq_false_iff_ne.mpr c6
      have c6b1 : (t187 != 0) = true := bne_iff_ne.mpr c6
      exact absurd (Option.some.inj (H.trans (congrArg some HRT.out))) (by decide)
  · replace c5 := Bool.eq_false_iff.mpr c5
    subst c5
    have H1 : (some false) = some r := by rw [if_neg (show ¬ (false = true) by decide)] at H; exact H
    clear H
    have H := H1
    clear H1
    exact absurd (Option.some.inj (H.trans (congrArg some HRT.out))) (by decide)

end Go.Proofs.YtcmnofbpcmnnhaaDoor.F
