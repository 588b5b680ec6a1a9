-- PRINTED by print.py (a twelfth state) out of the translation. Not trusted: Lean checks it.
import Derived.Test.YtcmnofbpcmnnhaaDoorF0
import Derived.Test.YtcmnofbpcmnnhaaDoorF2
import Derived.Test.YtcmnofbpcmnnhaaDoorF13
import Derived.Test.YtcmnofbpcmnnhaaDoorF17
import Derived.Test.YtcmnofbpcmnnhaaDoorF27
import Derived.Test.YtcmnofbpcmnnhaaDoorF29
namespace Go.Proofs.YtcmnofbpcmnnhaaDoor.F
open Go.RowKit Go.Proofs.YtcmnofbpcmnnhaaDoorW.PrintWords Go.Proofs.YtcmnofbpcmnnhaaDoorW.PrintLast Go.Proofs.YtcmnofbpcmnnhaaDoorW.PrintMore
attribute [local go_sem] max2_int min2_int max_two min_two max_three min_three max_four min_four   -- for this text's walks alone
set_option linter.unusedVariables false
set_option linter.unusedSimpArgs false

/-! ### jalousielaw41_FoldAll: function 5 -/
mutual
def jalousielaw41_FoldAll.j0 : Nat → List (S26) → Int → Int → Option (Bool)
  | 0, _, _, _ => none
  | k + 1, x0, x7, x8 => (fold_Hide.f k x0 x7).bind fun bt314 => ((fold_Hide.f k x0 x8).bind fun bt318 => (if bt314.2 = 0 then (if bt318.2 = 0 then (jalousielaw41_FoldAll.j1 k x0 bt314.1 (decide ((bt314.1.length : Int) > (bt318.1.length : Int)))) else (jalousielaw41_FoldAll.j1 k x0 bt314.1 true)) else (jalousielaw41_FoldAll.j1 k x0 bt314.1 true)))
def jalousielaw41_FoldAll.j1 : Nat → List (S26) → List (S44) → Bool → Option (Bool)
  | 0, _, _, _ => none
  | k + 1, x0, x9, x67 => if x67 = true then (some false) else ((fold_Parents.f k x0).bind fun t322 => (if 0 ≤ (x0.length : Int) then (if ((x0.length : Int) : Int).toNat ≤ 281474976710656 then (jalousielaw41_FoldAll.l0 k x0 x9 t322 (List.replicate ((x0.length : Int) : Int).toNat false) 0 0) else (none)) else (none)))
def jalousielaw41_FoldAll.l0 : Nat → List (S26) → List (S44) → List Int → List Bool → Int → Int → Option (Bool)
  | 0, _, _, _, _, _, _ => none
  | k + 1, x0, x9, x13, x14, x15, x16 => if x16 < (x9.length : Int) then (if 0 ≤ x16 then (if ((rd_T44 x9 x16).f0) = x15 then (if ((rd_T44 x9 x16).f1) < 0 then (some false) else (if ((rd_T44 x9 x16).f1) > (wrap64 ((wrap64 ((x0.length : Int) - x15)) - 1)) then (some false) else (if 0 ≤ x15 then (if x15 < (x14.length : Int) then (jalousielaw41_FoldAll.l0 k x0 x9 x13 (x14.set (x15 : Int).toNat true) (wrap64 ((wrap64 (x15 + 1)) + ((rd_T44 x9 x16).f1))) (wrap64 (x16 + 1))) else (none)) else (none)))) else (some false)) else (none)) else (if x15 = (x0.length : Int) then (jalousielaw41_FoldAll.j3 k x0 x13 x14 ((x13.length : Int) != (x0.length : Int))) else (jalousielaw41_FoldAll.j3 k x0 x13 x14 true))
def jalousielaw41_FoldAll.j3 : Nat → List (S26) → List Int → List Bool → Bool → Option (Bool)
  | 0, _, _, _, _ => none
  | k + 1, x0, x13, x14, x128 => if x128 = true then (some false) else (jalousielaw41_FoldAll.l1 k x0 x13 x14 0)
def jalousielaw41_FoldAll.l1 : Nat → List (S26) → List Int → List Bool → Int → Option (Bool)
  | 0, _, _, _, _ => none
  | k + 1, x0, x13, x14, x17 => if x17 < (x0.length : Int) then (if 0 ≤ x17 then (if x17 < (x13.length : Int) then (if (rd x13 x17) ≥ x17 then (some false) else (if (rd x13 x17) ≥ 0 then ((jalousieref41_Of.f k x0 (rd x13 x17)).bind fun t337 => ((jalousieref41_Of.f k x0 x17).bind fun t338 => (if t337 ≥ t338 then (some false) else (if x17 < (x14.length : Int) then (if rdOf false x14 x17 = true then (if 0 ≤ (rd x13 x17) then (if (rd x13 x17) < (x14.length : Int) then (if (rdOf false x14 (rd x13 x17) = true) then (jalousielaw41_FoldAll.l1 k x0 x13 x14 (wrap64 (x17 + 1))) else (some false)) else (none)) else (none)) else (jalousielaw41_FoldAll.l1 k x0 x13 x14 (wrap64 (x17 + 1)))) else (none))))) else (if x17 < (x14.length : Int) then (if rdOf false x14 x17 = true then (jalousielaw41_FoldAll.l1 k x0 x13 x14 (wrap64 (x17 + 1))) else (jalousielaw41_FoldAll.l1 k x0 x13 x14 (wrap64 (x17 + 1)))) else (none)))) else (none)) else (none)) else ((jalousielaw41_live.f k).bind fun t333 => (some t333))
end
def jalousielaw41_FoldAll.f (k : Nat) (l0 : List (S26)) (a1 : Int) (a2 : Int) : Option (Bool) := (jalousielaw41_few.f k l0).bind fun t311 => (if a1 = a2 then (jalousielaw41_FoldAll.j0 k t311 (wrap64 (1 + (Int.tmod (wrap64 (mn a1 a2)) 16))) (wrap64 (1 + (Int.tmod (wrap64 (mn a1 a2)) 16)))) else (jalousielaw41_FoldAll.j0 k t311 (wrap64 (1 + (Int.tmod (wrap64 (mn a1 a2)) 16))) (mn 16 (wrap64 ((wrap64 (1 + (Int.tmod (wrap64 (mn a1 a2)) 16))) + (Int.tmod (wrap64 (mx a1 a2)) 16))))))
theorem jalousielaw41_FoldAll.mono_l : ∀ k, (∀ y0 y1 y2, LeO (jalousielaw41_FoldAll.j0 k y0 y1 y2) (jalousielaw41_FoldAll.j0 (k + 1) y0 y1 y2)) ∧ (∀ y0 y1 y2, LeO (jalousielaw41_FoldAll.j1 k y0 y1 y2) (jalousielaw41_FoldAll.j1 (k + 1) y0 y1 y2)) ∧ (∀ y0 y1 y2 y3 y4 y5, LeO (jalousielaw41_FoldAll.l0 k y0 y1 y2 y3 y4 y5) (jalousielaw41_FoldAll.l0 (k + 1) y0 y1 y2 y3 y4 y5)) ∧ (∀ y0 y1 y2 y3, LeO (jalousielaw41_FoldAll.j3 k y0 y1 y2 y3) (jalousielaw41_FoldAll.j3 (k + 1) y0 y1 y2 y3)) ∧ (∀ y0 y1 y2 y3, LeO (jalousielaw41_FoldAll.l1 k y0 y1 y2 y3) (jalousielaw41_FoldAll.l1 (k + 1) y0 y1 y2 y3))
  | 0 => ⟨fun _ _ _ r h => by simp [jalousielaw41_FoldAll.j0] at h, fun _ _ _ r h => by simp [jalousielaw41_FoldAll.j1] at h, fun _ _ _ _ _ _ r h => by simp [jalousielaw41_FoldAll.l0] at h, fun _ _ _ _ r h => by simp [jalousielaw41_FoldAll.j3] at h, fun _ _ _ _ r h => by simp [jalousielaw41_FoldAll.l1] at h⟩
  | k + 1 => by
    obtain ⟨ih0, ih1, ih2, ih3, ih4⟩ := jalousielaw41_FoldAll.mono_l k
    refine ⟨?_, ?_, ?_, ?_, ?_⟩
    · intro y0 y1 y2
      unfold jalousielaw41_FoldAll.j0
      repeat' first
      | (with_reducible exact ih0 _ _ _)
      | (with_reducible exact ih1 _ _ _)
      | (with_reducible exact ih2 _ _ _ _ _ _)
      | (with_reducible exact ih3 _ _ _ _)
      | (with_reducible exact ih4 _ _ _ _)
      | (with_reducible exact fold_Hide.mono _ _ _)
      | (with_reducible exact fold_Parents.mono _ _)
      | (with_reducible exact jalousielaw41_few.mono _ _)
      | (with_reducible exact jalousielaw41_live.mono _)
      | (with_reducible exact jalousieref41_Of.mono _ _ _)
      | (with_reducible exact LeO.refl _)
      | (with_reducible exact LeO.none _)
      | (with_reducible refine LeO.ite ?_ ?_)
      | (with_reducible refine LeO.bind ?_ (fun _ => ?_))
      | exact ih0 _ _ _
      | exact ih1 _ _ _
      | exact ih2 _ _ _ _ _ _
      | exact ih3 _ _ _ _
      | exact ih4 _ _ _ _
      | exact fold_Hide.mono _ _ _
      | exact fold_Parents.mono _ _
      | exact jalousielaw41_few.mono _ _
      | exact jalousielaw41_live.mono _
      | exact jalousieref41_Of.mono _ _ _
      | exact LeO.none _
      | refine LeO.ite ?_ ?_
      | refine LeO.bind ?_ (fun _ => ?_)
    · intro y0 y1 y2
      unfold jalousielaw41_FoldAll.j1
      repeat' first
      | (with_reducible exact ih0 _ _ _)
      | (with_reducible exact ih1 _ _ _)
      | (with_reducible exact ih2 _ _ _ _ _ _)
      | (with_reducible exact ih3 _ _ _ _)
      | (with_reducible exact ih4 _ _ _ _)
      | (with_reducible exact fold_Hide.mono _ _ _)
      | (with_reducible exact fold_Parents.mono _ _)
      | (with_reducible exact jalousielaw41_few.mono _ _)
      | (with_reducible exact jalousielaw41_live.mono _)
      | (with_reducible exact jalousieref41_Of.mono _ _ _)
      | (with_reducible exact LeO.refl _)
      | (with_reducible exact LeO.none _)
      | (with_reducible refine LeO.ite ?_ ?_)
      | (with_reducible refine LeO.bind ?_ (fun _ => ?_))
      | exact ih0 _ _ _
      | exact ih1 _ _ _
      | exact ih2 _ _ _ _ _ _
      | exact ih3 _ _ _ _
      | exact ih4 _ _ _ _
      | exact fold_Hide.mono _ _ _
      | exact fold_Parents.mono _ _
      | exact jalousielaw41_few.mono _ _
      | exact jalousielaw41_live.mono _
      | exact jalousieref41_Of.mono _ _ _
      | exact LeO.none _
      | refine LeO.ite ?_ ?_
      | refine LeO.bind ?_ (fun _ => ?_)
    · intro y0 y1 y2 y3 y4 y5
      unfold jalousielaw41_FoldAll.l0
      repeat' first
      | (with_reducible exact ih0 _ _ _)
      | (with_reducible exact ih1 _ _ _)
      | (with_reducible exact ih2 _ _ _ _ _ _)
      | (with_reducible exact ih3 _ _ _ _)
      | (with_reducible exact ih4 _ _ _ _)
      | (with_reducible exact fold_Hide.mono _ _ _)
      | (with_reducible exact fold_Parents.mono _ _)
      | (with_reducible exact jalousielaw41_few.mono _ _)
      | (with_reducible exact jalousielaw41_live.mono _)
      | (with_reducible exact jalousieref41_Of.mono _ _ _)
      | (with_reducible exact LeO.refl _)
      | (with_reducible exact LeO.none _)
      | (with_reducible refine LeO.ite ?_ ?_)
      | (with_reducible refine LeO.bind ?_ (fun _ => ?_))
      | exact ih0 _ _ _
      | exact ih1 _ _ _
      | exact ih2 _ _ _ _ _ _
      | exact ih3 _ _ _ _
      | exact ih4 _ _ _ _
      | exact fold_Hide.mono _ _ _
      | exact fold_Parents.mono _ _
      | exact jalousielaw41_few.mono _ _
      | exact jalousielaw41_live.mono _
      | exact jalousieref41_Of.mono _ _ _
      | exact LeO.none _
      | refine LeO.ite ?_ ?_
      | refine LeO.bind ?_ (fun _ => ?_)
    · intro y0 y1 y2 y3
      unfold jalousielaw41_FoldAll.j3
      repeat' first
      | (with_reducible exact ih0 _ _ _)
      | (with_reducible exact ih1 _ _ _)
      | (with_reducible exact ih2 _ _ _ _ _ _)
      | (with_reducible exact ih3 _ _ _ _)
      | (with_reducible exact ih4 _ _ _ _)
      | (with_reducible exact fold_Hide.mono _ _ _)
      | (with_reducible exact fold_Parents.mono _ _)
      | (with_reducible exact jalousielaw41_few.mono _ _)
      | (with_reducible exact jalousielaw41_live.mono _)
      | (with_reducible exact jalousieref41_Of.mono _ _ _)
      | (with_reducible exact LeO.refl _)
      | (with_reducible exact LeO.none _)
      | (with_reducible refine LeO.ite ?_ ?_)
      | (with_reducible refine LeO.bind ?_ (fun _ => ?_))
      | exact ih0 _ _ _
      | exact ih1 _ _ _
      | exact ih2 _ _ _ _ _ _
      | exact ih3 _ _ _ _
      | exact ih4 _ _ _ _
      | exact fold_Hide.mono _ _ _
      | exact fold_Parents.mono _ _
      | exact jalousielaw41_few.mono _ _
      | exact jalousielaw41_live.mono _
      | exact jalousieref41_Of.mono _ _ _
      | exact LeO.none _
      | refine LeO.ite ?_ ?_
      | refine LeO.bind ?_ (fun _ => ?_)
    · intro y0 y1 y2 y3
      unfold jalousielaw41_FoldAll.l1
      repeat' first
      | (with_reducible exact ih0 _ _ _)
      | (with_reducible exact ih1 _ _ _)
      | (with_reducible exact ih2 _ _ _ _ _ _)
      | (with_reducible exact ih3 _ _ _ _)
      | (with_reducible exact ih4 _ _ _ _)
      | (with_reducible exact fold_Hide.mono _ _ _)
      | (with_reducible exact fold_Parents.mono _ _)
      | (with_reducible exact jalousielaw41_few.mono _ _)
      | (with_reducible exact jalousielaw41_live.mono _)
      | (with_reducible exact jalousieref41_Of.mono _ _ _)
      | (with_reducible exact LeO.refl _)
      | (with_reducible exact LeO.none _)
      | (with_reducible refine LeO.ite ?_ ?_)
      | (with_reducible refine LeO.bind ?_ (fun _ => ?_))
      | exact ih0 _ _ _
      | exact ih1 _ _ _
      | exact ih2 _ _ _ _ _ _
      | exact ih3 _ _ _ _
      | exact ih4 _ _ _ _
      | exact fold_Hide.mono _ _ _
      | exact fold_Parents.mono _ _
      | exact jalousielaw41_few.mono _ _
      | exact jalousielaw41_live.mono _
      | exact jalousieref41_Of.mono _ _ _
      | exact LeO.none _
      | refine LeO.ite ?_ ?_
      | refine LeO.bind ?_ (fun _ => ?_)
theorem jalousielaw41_FoldAll.mono : ∀ a0 a1 a2 k, LeO (jalousielaw41_FoldAll.f k a0 a1 a2) (jalousielaw41_FoldAll.f (k + 1) a0 a1 a2) := by
  intro a0 a1 a2 k
  obtain ⟨ih0, ih1, ih2, ih3, ih4⟩ := jalousielaw41_FoldAll.mono_l k
  unfold jalousielaw41_FoldAll.f
  repeat' first
      | (with_reducible exact ih0 _ _ _)
      | (with_reducible exact ih1 _ _ _)
      | (with_reducible exact ih2 _ _ _ _ _ _)
      | (with_reducible exact ih3 _ _ _ _)
      | (with_reducible exact ih4 _ _ _ _)
      | (with_reducible exact fold_Hide.mono _ _ _)
      | (with_reducible exact fold_Parents.mono _ _)
      | (with_reducible exact jalousielaw41_few.mono _ _)
      | (with_reducible exact jalousielaw41_live.mono _)
      | (with_reducible exact jalousieref41_Of.mono _ _ _)
      | (with_reducible exact LeO.refl _)
      | (with_reducible exact LeO.none _)
      | (with_reducible refine LeO.ite ?_ ?_)
      | (with_reducible refine LeO.bind ?_ (fun _ => ?_))
      | exact ih0 _ _ _
      | exact ih1 _ _ _
      | exact ih2 _ _ _ _ _ _
      | exact ih3 _ _ _ _
      | exact ih4 _ _ _ _
      | exact fold_Hide.mono _ _ _
      | exact fold_Parents.mono _ _
      | exact jalousielaw41_few.mono _ _
      | exact jalousielaw41_live.mono _
      | exact jalousieref41_Of.mono _ _ _
      | exact LeO.none _
      | refine LeO.ite ?_ ?_
      | refine LeO.bind ?_ (fun _ => ?_)
set_option maxHeartbeats 8000000 in
set_option maxRecDepth 100000 in
theorem jalousielaw41_FoldAll.calls (k : Nat) (A0 : Option Addr) (c0 : Nat) (l0 : List (S26)) (a1 : Int) (a2 : Int) (r : Bool) (w : World) (hr0 : Kd.C k26 w A0 l0.length l0) (hc0 : l0.length ≤ c0) (h : jalousielaw41_FoldAll.f k l0 a1 a2 = some r) (HRT : Aside0 (r = true) := by first | exact ⟨rfl⟩ | assumption) :
    Calls Tryd.prog 5 #[.slice A0 l0.length c0, .int .u8 a1, .int .u8 a2] w fun e w' => e = .returned (.bool r) ∧ Below w.heap.size w w' := by
  have HR0 := Aside0.mk hr0
  have HC0 := Aside0.mk hc0
  clear hr0 hc0
  have HB := Aside0.mk (Below.refl w.heap.size w)
  have H : ((jalousielaw41_few.f k l0).bind fun t311 => (if a1 = a2 then (jalousielaw41_FoldAll.j0 k t311 (wrap64 (1 + (Int.tmod (wrap64 (mn a1 a2)) 16))) (wrap64 (1 + (Int.tmod (wrap64 (mn a1 a2)) 16)))) else (jalousielaw41_FoldAll.j0 k t311 (wrap64 (1 + (Int.tmod (wrap64 (mn a1 a2)) 16))) (mn 16 (wrap64 ((wrap64 (1 + (Int.tmod (wrap64 (mn a1 a2)) 16))) + (Int.tmod (wrap64 (mx a1 a2)) 16))))))) = some r := h
  clear h
  replace H := Option.bind_eq_some_iff.mp H
  obtain ⟨t311, A40, H⟩ := H
  replace H : (if a1 = a2 then (jalousielaw41_FoldAll.j0 k t311 (wrap64 (1 + (Int.tmod (wrap64 (mn a1 a2)) 16))) (wrap64 (1 + (Int.tmod (wrap64 (mn a1 a2)) 16)))) else (jalousielaw41_FoldAll.j0 k t311 (wrap64 (1 + (Int.tmod (wrap64 (mn a1 a2)) 16))) (mn 16 (wrap64 ((wrap64 (1 + (Int.tmod (wrap64 (mn a1 a2)) 16))) + (Int.tmod (wrap64 (mx a1 a2)) 16)))))) = some r := H
  have A4 := Aside0.mk A40
  clear A40
  obtain ⟨ji5, hji5⟩ : ∃ j_ : Int, (mn a1 a2) = j_ := ⟨_, rfl⟩
  replace H : (if a1 = a2 then (jalousielaw41_FoldAll.j0 k t311 (wrap64 (1 + (Int.tmod (wrap64 (ji5)) 16))) (wrap64 (1 + (Int.tmod (wrap64 (ji5)) 16)))) else (jalousielaw41_FoldAll.j0 k t311 (wrap64 (1 + (Int.tmod (wrap64 (ji5)) 16))) (mn 16 (wrap64 ((wrap64 (1 + (Int.tmod (wrap64 (ji5)) 16))) + (Int.tmod (wrap64 (mx a1 a2)) 16)))))) = some r := by first | (rw [hji5] at H; exact H) | (simp only [hji5] at H ⊢; exact H)
  (try rw [hji5] at A4)
  have hji5_ : (if a2 < a1 then a2 else a1) = ji5 := hji5
  have HC7 := Aside0.mk H
  clear H
  go_enter Tryd.func5, Tryd.ntmps5
  go_upto_if 34 with (first | ((with_reducible refine gate_callee (f := 12) rfl ?_); refine goesL_ (some 19) rfl rfl Tryd.func12 (by kernel_rfl) rfl #[.slice A0 l0.length c0] rfl (by (try simp only [List.map_toArray, List.map_cons, List.map_nil]); first | done | rfl | (simp only [List.length_drop, List.length_take]; rfl)) ?_; (with_reducible refine (jalousielaw41_few.calls k _ _ l0 t311 _ ?side1 ?side2 A4.out).mono ?_); (case side1 => repeat (first | exact HR0.out | (with_reducible refine Kd.C_alloc ?_ _) | (with_reducible refine Kd.C_drewN ?_ _) | (with_reducible refine Kd.C_drew ?_))); (case side2 => exact HC0.out); rintro e w8 ⟨v312, rfl, ho0, hb⟩; refine ⟨_, rfl, ?_⟩; have n0_ := Aside0.mk (Kd.R_lower ho0 (below_size (by repeat (first | (with_reducible first | exact HB.out | apply below_alloc | apply pw_below_drewN | apply below_drew1) | exact HB.out)))); have n1_ := Aside0.mk (below_step (by repeat (first | (with_reducible first | exact HB.out | apply below_alloc | apply pw_below_drewN | apply below_drew1) | exact HB.out)) hb); clear HB; have HO313 := n0_; have HB := n1_; clear n0_ n1_; (try clear hb); (try clear hb2); (try clear hk); (try clear hi); (try clear ho0)))
  (try simp only [Act.put, List.setIfInBounds_toArray, List.set_cons_zero, List.set_cons_succ])
  go_cut [8] (fun v8 wc => ∃ (kq : Nat) (x8_6 : Int), v8 = .int .i64 x8_6 ∧ Aside0 (jalousielaw41_FoldAll.j0 kq t311 (wrap64 (1 + (Int.tmod (wrap64 (ji5)) 16))) x8_6 = some r) ∧ Aside0 (kq ≤ k) ∧ Aside0 (Kd.R k26 26 wc w.heap.size (fun _ => True) v312 t311) ∧ Aside0 (Below w.heap.size w wc))
  case first =>
    have H := HC7.out
    clear HC7
    by_cases c9 : a1 = a2
    · rw [if_pos c9] at H
      have c9b0 : (a1 == a2) = true := beq_iff_eq.mpr c9
      have c9b1 : (a1 != a2) = false := bne_eq_false_iff_eq.mpr c9
      clear c9
      (first | rw [c9b0] | (simp only [i64_w, i32_w]; rw [c9b0]) | skip)
      have H' := Aside0.mk H
      clear H
      go_wp2
      go_meet
      case rel => exact ⟨_, (wrap64 (1 + (Int.tmod (wrap64 (ji5)) 16))), (by first | rfl | (simp; done) | (simp only [← hji5] <;> (first | rfl | simp)) | (simp [*]; done)), H', ⟨by first | omega | exact Nat.le_refl _⟩, ⟨by (with_reducible repeat (first | apply Kd.R_alloc | apply Kd.R_drewN | apply Kd.R_drew)); exact HO313.out⟩, ⟨by repeat (first | (with_reducible first | exact HB.out | apply below_alloc | apply pw_below_drewN | apply below_drew1) | exact HB.out)⟩⟩
    · rw [if_neg c9] at H
      have c9b0 : (a1 == a2) = false := beq_eq_false_iff_ne.mpr c9
      have c9b1 : (a1 != a2) = true := bne_iff_ne.mpr c9
      (first | rw [c9b0] | (simp only [i64_w, i32_w]; rw [c9b0]) | skip)
      obtain ⟨ji10, hji10⟩ : ∃ j_ : Int, (mx a1 a2) = j_ := ⟨_, rfl⟩
      replace H : (jalousielaw41_FoldAll.j0 k t311 (wrap64 (1 + (Int.tmod (wrap64 (ji5)) 16))) (mn 16 (wrap64 ((wrap64 (1 + (Int.tmod (wrap64 (ji5)) 16))) + (Int.tmod (wrap64 (ji10)) 16))))) = some r := by first | (rw [hji10] at H; exact H) | (simp only [hji10] at H ⊢; exact H)
      have hji10_ : (if a1 < a2 then a2 else a1) = ji10 := hji10
      obtain ⟨ji11, hji11⟩ : ∃ j_ : Int, (mn 16 (wrap64 ((wrap64 (1 + (Int.tmod (wrap64 (ji5)) 16))) + (Int.tmod (wrap64 (ji10)) 16)))) = j_ := ⟨_, rfl⟩
      replace H : (jalousielaw41_FoldAll.j0 k t311 (wrap64 (1 + (Int.tmod (wrap64 (ji5)) 16))) ji11) = some r := by first | (rw [hji11] at H; exact H) | (simp only [hji11] at H ⊢; exact H)
      have hji11_ : (if (wrap64 ((wrap64 (1 + (Int.tmod (wrap64 (ji5)) 16))) + (Int.tmod (wrap64 (ji10)) 16))) < 16 then (wrap64 ((wrap64 (1 + (Int.tmod (wrap64 (ji5)) 16))) + (Int.tmod (wrap64 (ji10)) 16))) else 16) = ji11 := hji11
      have H' := Aside0.mk H
      clear H
      go_wp2
      go_meet
      case rel => exact ⟨_, (ji11), (by first | rfl | (simp; done) | (simp only [← hji11] <;> (first | rfl | simp)) | (simp [*]; done)), H', ⟨by first | omega | exact Nat.le_refl _⟩, ⟨by (with_reducible repeat (first | apply Kd.R_alloc | apply Kd.R_drewN | apply Kd.R_drew)); exact HO313.out⟩, ⟨by repeat (first | (with_reducible first | exact HB.out | apply below_alloc | apply pw_below_drewN | apply below_drew1) | exact HB.out)⟩⟩
  case rest =>
    clear HC7
    try clear c1
    try clear p2
    try clear c5
    try clear c6
    try clear c6b0
    try clear p6
    try clear c9
    try clear c9b0
    try clear c9b1
    obtain ⟨kq, x8_6, rfl, HA, HJ6, HO_0, HB⟩ := hcut
    cases kq with
    | zero => exact absurd HA.out (by simp [jalousielaw41_FoldAll.j0])
    | succ kj6 =>
      have H := HA.out
      clear HA
      simp only [jalousielaw41_FoldAll.j0] at H
      replace H := Option.bind_eq_some_iff.mp H
      obtain ⟨⟨t314, t315⟩, A120, H⟩ := H
      replace H : ((fold_Hide.f kj6 t311 x8_6).bind fun bt318 => (if t315 = 0 then (if bt318.2 = 0 then (jalousielaw41_FoldAll.j1 kj6 t311 t314 (decide ((t314.length : Int) > (bt318.1.length : Int)))) else (jalousielaw41_FoldAll.j1 kj6 t311 t314 true)) else (jalousielaw41_FoldAll.j1 kj6 t311 t314 true))) = some r := H
      have A12 := Aside0.mk A120
      clear A120
      replace H := Option.bind_eq_some_iff.mp H
      obtain ⟨⟨t318, t319⟩, A130, H⟩ := H
      replace H : (if t315 = 0 then (if t319 = 0 then (jalousielaw41_FoldAll.j1 kj6 t311 t314 (decide ((t314.length : Int) > (t318.length : Int)))) else (jalousielaw41_FoldAll.j1 kj6 t311 t314 true)) else (jalousielaw41_FoldAll.j1 kj6 t311 t314 true)) = some r := H
      have A13 := Aside0.mk A130
      clear A130
      have HC14 := Aside0.mk H
      clear H
      obtain ⟨Ao15, co15, eo15⟩ := Kd.R_slice HO_0.out
      subst eo15
      go_upto_region 7 with (first | ((with_reducible refine gate_callee (f := 20) rfl ?_); refine goesL_ (some 46) rfl rfl Tryd.func20 (by kernel_rfl) rfl #[.slice Ao15 t311.length co15, .int .i64 (wrap64 (1 + (Int.tmod (wrap64 (ji5)) 16)))] rfl (by (try simp only [List.map_toArray, List.map_cons, List.map_nil]); first | done | (simp only [hji5]; rfl) | rfl | (simp only [List.length_drop, List.length_take]; rfl)) ?_; (with_reducible refine (fold_Hide.calls kj6 _ _ t311 (wrap64 (1 + (Int.tmod (wrap64 (ji5)) 16))) t314 t315 _ ?side1 ?side2 A12.out).mono ?_); (case side1 => repeat (first | exact (Kd.R_reads' HO_0.out).2.2 | (with_reducible refine Kd.C_alloc ?_ _) | (with_reducible refine Kd.C_drewN ?_ _) | (with_reducible refine Kd.C_drew ?_))); (case side2 => exact (Kd.R_reads' HO_0.out).2.1); rintro e w16 ⟨v316, rfl, ho0, hb⟩; refine ⟨_, rfl, ?_⟩; have n0_ := Aside0.mk (Kd.R_below (by (with_reducible repeat (first | apply Kd.R_alloc | apply Kd.R_drewN | apply Kd.R_drew)); exact HO_0.out) hb); have n1_ := Aside0.mk (Kd.R_lower ho0 (below_size (by repeat (first | (with_reducible first | exact HB.out | apply below_alloc | apply pw_below_drewN | apply below_drew1) | exact HB.out)))); have n2_ := Aside0.mk (below_step (by repeat (first | (with_reducible first | exact HB.out | apply below_alloc | apply pw_below_drewN | apply below_drew1) | exact HB.out)) hb); clear HO_0; clear HB; have HO_0 := n0_; have HO317 := n1_; have HB := n2_; clear n0_ n1_ n2_; (try clear hb); (try clear hb2); (try clear hk); (try clear hi); (try clear ho0)) | ((with_reducible refine gate_callee (f := 20) rfl ?_); refine goesL_ (some 52) rfl rfl Tryd.func20 (by kernel_rfl) rfl #[.slice Ao15 t311.length co15, .int .i64 x8_6] rfl (by (try simp only [List.map_toArray, List.map_cons, List.map_nil]); first | done | rfl | (simp only [List.length_drop, List.length_take]; rfl)) ?_; (with_reducible refine (fold_Hide.calls kj6 _ _ t311 x8_6 t318 t319 _ ?side1 ?side2 A13.out).mono ?_); (case side1 => repeat (first | exact (Kd.R_reads' HO_0.out).2.2 | (with_reducible refine Kd.C_alloc ?_ _) | (with_reducible refine Kd.C_drewN ?_ _) | (with_reducible refine Kd.C_drew ?_))); (case side2 => exact (Kd.R_reads' HO_0.out).2.1); rintro e w17 ⟨v320, rfl, ho0, hb⟩; refine ⟨_, rfl, ?_⟩; have n0_ := Aside0.mk (Kd.R_below (by (with_reducible repeat (first | apply Kd.R_alloc | apply Kd.R_drewN | apply Kd.R_drew)); exact HO_0.out) hb); have n1_ := Aside0.mk (Kd.R_elder' (by (with_reducible repeat (first | apply Kd.R_alloc | apply Kd.R_drewN | apply Kd.R_drew)); exact HO317.out) (Kd.R_base ho0) hb); have n2_ := Aside0.mk (Kd.R_lower (Kd.R_new' ho0 (Kd.R_lt (by (with_reducible repeat (first | apply Kd.R_alloc | apply Kd.R_drewN | apply Kd.R_drew)); exact HO317.out))) (below_size (by repeat (first | (with_reducible first | exact HB.out | apply below_alloc | apply pw_below_drewN | apply below_drew1) | exact HB.out)))); have n3_ := Aside0.mk (below_step (by repeat (first | (with_reducible first | exact HB.out | apply below_alloc | apply pw_below_drewN | apply below_drew1) | exact HB.out)) hb); clear HO_0; clear HO317; clear HB; have HO_0 := n0_; have HO317 := n1_; have HO321 := n2_; have HB := n3_; clear n0_ n1_ n2_ n3_; (try clear hb); (try clear hb2); (try clear hk); (try clear hi); (try clear ho0)))
      (try simp only [Act.put, List.setIfInBounds_toArray, List.set_cons_zero, List.set_cons_succ])
      go_cut [67] (fun v67 wc => ∃ (kq : Nat) (x67_13 : Bool), v67 = .bool x67_13 ∧ Aside0 (jalousielaw41_FoldAll.j1 kq t311 t314 x67_13 = some r) ∧ Aside0 (kq ≤ kj6) ∧ Aside0 (Kd.R k26 26 wc w.heap.size (fun _ => True) (.slice Ao15 t311.length co15) t311) ∧ Aside0 (Kd.R k44 44 wc w.heap.size (fun _ => True) v316 t314) ∧ Aside0 (Below w.heap.size w wc))
      case first =>
        have H := HC14.out
        clear HC14
        by_cases c18 : t315 = 0
        · rw [if_pos c18] at H
          have c18b0 : (t315 == 0) = true := beq_iff_eq.mpr c18
          have c18b1 : (t315 != 0) = false := bne_eq_false_iff_eq.mpr c18
          clear c18
          (first | rw [c18b0] | (simp only [i64_w, i32_w]; rw [c18b0]) | skip)
          by_cases c19 : t319 = 0
          · rw [if_pos c19] at H
            have c19b0 : (t319 == 0) = true := beq_iff_eq.mpr c19
            have c19b1 : (t319 != 0) = false := bne_eq_false_iff_eq.mpr c19
            clear c19
            have H' := Aside0.mk H
            clear H
            obtain ⟨Ao20, co20, eo20⟩ := Kd.R_slice HO317.out
            subst eo20
            obtain ⟨Ao21, co21, eo21⟩ := Kd.R_slice HO321.out
            subst eo21
            go_wp2
            go_meet
            case rel => exact ⟨_, (decide ((t314.length : Int) > (t318.length : Int))), (by first | rfl | (simp; done) | (simp [*]; done)), H', ⟨by have := HJ6.out; first | omega | exact Nat.le_refl _⟩, ⟨by (with_reducible repeat (first | apply Kd.R_alloc | apply Kd.R_drewN | apply Kd.R_drew)); exact HO_0.out⟩, ⟨by (with_reducible repeat (first | apply Kd.R_alloc | apply Kd.R_drewN | apply Kd.R_drew)); exact Kd.R_mono HO317.out (fun _ hk => trivial)⟩, ⟨by repeat (first | (with_reducible first | exact HB.out | apply below_alloc | apply pw_below_drewN | apply below_drew1) | exact HB.out)⟩⟩
          · rw [if_neg c19] at H
            have c19b0 : (t319 == 0) = false := beq_eq_false_iff_ne.mpr c19
            have c19b1 : (t319 != 0) = true := bne_iff_ne.mpr c19
            have H' := Aside0.mk H
            clear H
            go_wp2
            go_meet
            case rel => exact ⟨_, (true), (by first | rfl | (simp; done) | (simp [*]; done)), H', ⟨by have := HJ6.out; first | omega | exact Nat.le_refl _⟩, ⟨by (with_reducible repeat (first | apply Kd.R_alloc | apply Kd.R_drewN | apply Kd.R_drew)); exact HO_0.out⟩, ⟨by (with_reducible repeat (first | apply Kd.R_alloc | apply Kd.R_drewN | apply Kd.R_drew)); exact Kd.R_mono HO317.out (fun _ hk => trivial)⟩, ⟨by repeat (first | (with_reducible first | exact HB.out | apply below_alloc | apply pw_below_drewN | apply below_drew1) | exact HB.out)⟩⟩
        · rw [if_neg c18] at H
          have c18b0 : (t315 == 0) = false := beq_eq_false_iff_ne.mpr c18
          have c18b1 : (t315 != 0) = true := bne_iff_ne.mpr c18
          (first | rw [c18b0] | (simp only [i64_w, i32_w]; rw [c18b0]) | skip)
          have H' := Aside0.mk H
          clear H
          go_wp2
          go_meet
          case rel => exact ⟨_, (true), (by first | rfl | (simp; done) | (simp [*]; done)), H', ⟨by have := HJ6.out; first | omega | exact Nat.le_refl _⟩, ⟨by (with_reducible repeat (first | apply Kd.R_alloc | apply Kd.R_drewN | apply Kd.R_drew)); exact HO_0.out⟩, ⟨by (with_reducible repeat (first | apply Kd.R_alloc | apply Kd.R_drewN | apply Kd.R_drew)); exact Kd.R_mono HO317.out (fun _ hk => trivial)⟩, ⟨by repeat (first | (with_reducible first | exact HB.out | apply below_alloc | apply pw_below_drewN | apply below_drew1) | exact HB.out)⟩⟩
      case rest =>
        clear HC14
        try clear c1
        try clear c2
        try clear p2
        try clear c5
        try clear c6
        try clear c6b0
        try clear p6
        try clear c9
        try clear c9b0
        try clear c9b1
        try clear c12
        try clear c18
        try clear c18b0
        try clear c18b1
        try clear c19
        try clear c19b0
        try clear c19b1
        try clear c20
        try clear p2
        try clear p6
        obtain ⟨kq, x67_13, rfl, HA, HJ13, HO_0, HO_9, HB⟩ := hcut
        cases kq with
        | zero => exact absurd HA.out (by simp [jalousielaw41_FoldAll.j1])
        | succ kj13 =>
          have H := HA.out
          clear HA
          simp only [jalousielaw41_FoldAll.j1] at H
          by_cases c22 : x67_13 = true
          · subst c22
            have H1 : (some false) = some r := by rw [if_pos rfl] at H; exact H
            clear H
            have H := H1
            clear H1
            exact absurd (Option.some.inj (H.trans (congrArg some HRT.out))) (by decide)
          · replace c22 := Bool.eq_false_iff.mpr c22
            subst c22
            have H1 : ((fold_Parents.f kj13 t311).bind fun t322 => (if 0 ≤ (t311.length : Int) then (if ((t311.length : Int) : Int).toNat ≤ 281474976710656 then (jalousielaw41_FoldAll.l0 kj13 t311 t314 t322 (List.replicate ((t311.length : Int) : Int).toNat false) 0 0) else (none)) else (none))) = some r := by rw [if_neg (show ¬ (false = true) by decide)] at H; exact H
            clear H
            have H := H1
            clear H1
            replace H := Option.bind_eq_some_iff.mp H
            obtain ⟨t322, A230, H⟩ := H
            replace H : (if 0 ≤ (t311.length : Int) then (if ((t311.length : Int) : Int).toNat ≤ 281474976710656 then (jalousielaw41_FoldAll.l0 kj13 t311 t314 t322 (List.replicate ((t311.length : Int) : Int).toNat false) 0 0) else (none)) else (none)) = some r := H
            have A23 := Aside0.mk A230
            clear A230
            by_cases c24 : 0 ≤ (t311.length : Int)
            · rw [if_pos c24] at H
              have c24b0 := eq_true c24
              have c24b1 : decide (0 ≤ (t311.length : Int)) = true := decide_eq_true c24
              clear c24
              by_cases c25 : ((t311.length : Int) : Int).toNat ≤ 281474976710656
              · rw [if_pos c25] at H
                have c25b0 := eq_true c25
                have c25b1 : decide (((t311.length : Int) : Int).toNat ≤ 281474976710656) = true := decide_eq_true c25
                clear c25
                obtain ⟨y325, hy325⟩ : ∃ y_ : List Bool, y_ = (List.replicate ((t311.length : Int) : Int).toNat false) := ⟨_, rfl⟩
                replace H : (jalousielaw41_FoldAll.l0 kj13 t311 t314 t322 y325 0 0) = some r := by first | (rw [hy325]; with_reducible exact H) | (have H2_ := (Option.bind_some _ _).symm.trans H; rw [hy325]; with_reducible exact H2_) | (have H2_ := (Option.bind_some _ _).symm.trans H; with_reducible exact H2_) | with_reducible exact H | (rw [hy325]; exact H) | exact H
                have Ny325 := Aside0.mk hy325
                clear hy325
                have H' := Aside0.mk H
                clear H
                go_wp2_with (first | ((with_reducible refine gate_callee (f := 15) rfl ?_); refine goesL_ (some 69) rfl rfl Tryd.func15 (by kernel_rfl) rfl #[.slice Ao15 t311.length co15] rfl (by (try simp only [List.map_toArray, List.map_cons, List.map_nil]); first | done | rfl | (simp only [List.length_drop, List.length_take]; rfl)) ?_; (with_reducible refine (fold_Parents.calls kj13 _ _ t311 t322 _ ?side1 ?side2 A23.out).mono ?_); (case side1 => repeat (first | exact (Kd.R_reads' HO_0.out).2.2 | (with_reducible refine Kd.C_alloc ?_ _) | (with_reducible refine Kd.C_drewN ?_ _) | (with_reducible refine Kd.C_drew ?_))); (case side2 => exact (Kd.R_reads' HO_0.out).2.1); rintro e w26 ⟨v323, rfl, ho0, hb⟩; refine ⟨_, rfl, ?_⟩; have n0_ := Aside0.mk (Kd.R_below (by (with_reducible repeat (first | apply Kd.R_alloc | apply Kd.R_drewN | apply Kd.R_drew)); exact HO_0.out) hb); have n1_ := Aside0.mk (Kd.R_below (by (with_reducible repeat (first | apply Kd.R_alloc | apply Kd.R_drewN | apply Kd.R_drew)); exact HO_9.out) hb); have n2_ := Aside0.mk (Kd.R_lower ho0 (below_size (by repeat (first | (with_reducible first | exact HB.out | apply below_alloc | apply pw_below_drewN | apply below_drew1) | exact HB.out)))); have n3_ := Aside0.mk (below_step (by repeat (first | (with_reducible first | exact HB.out | apply below_alloc | apply pw_below_drewN | apply below_drew1) | exact HB.out)) hb); clear HO_0; clear HO_9; clear HB; have HO_0 := n0_; have HO_9 := n1_; have HO324 := n2_; have HB := n3_; clear n0_ n1_ n2_ n3_; (try clear hb); (try clear hb2); (try clear hk); (try clear hi); (try clear ho0)) | ((with_reducible refine gate_dst (N := 72) rfl ?_); (try (refine gate_guard (by rfl) ?_; dsimp only)); refine Kd.R_make Kd.bool _ 4 rfl (N := 72) rfl 42 _ _ rfl (t311.length : Int) rfl rfl Tryd.underlying42 (.bool false) 1 info4 rfl (by decide) (by omega) false (ok := fun _ => True) (okp := fun _ => True) rfl (fun _ hk => hk) trivial (of_decide_eq_true (by first | (with_reducible assumption) | assumption)) (Nat.le_trans (Nat.mul_le_mul_right _ (of_decide_eq_true (by first | (with_reducible assumption) | assumption) : (t311.length : Int).toNat ≤ 281474976710656)) (by omega)) (Below.refl _ _) (Nat.le_refl _) ?_; intro v326 w27 ho28 hb hg_ hnew_; clear hg_ hnew_; (first | rw [← Ny325.out] at ho28 | (simp only [Int.reduceToNat] at ho28; rw [← Ny325.out] at ho28)); have n0_ := Aside0.mk (Kd.R_below (by (with_reducible repeat (first | apply Kd.R_alloc | apply Kd.R_drewN | apply Kd.R_drew)); exact HO_0.out) hb); have n1_ := Aside0.mk (Kd.R_below (by (with_reducible repeat (first | apply Kd.R_alloc | apply Kd.R_drewN | apply Kd.R_drew)); exact HO_9.out) hb); have n2_ := Aside0.mk (Kd.R_below (by (with_reducible repeat (first | apply Kd.R_alloc | apply Kd.R_drewN | apply Kd.R_drew)); exact HO324.out) hb); have n3_ := Aside0.mk (Kd.R_lower ho28 (below_size (by repeat (first | (with_reducible first | exact HB.out | apply below_alloc | apply pw_below_drewN | apply below_drew1) | exact HB.out)))); have n4_ := Aside0.mk (below_step (by repeat (first | (with_reducible first | exact HB.out | apply below_alloc | apply pw_below_drewN | apply below_drew1) | exact HB.out)) hb); clear HO_0; clear HO_9; clear HO324; clear HB; have HO_0 := n0_; have HO_9 := n1_; have HO324 := n2_; have HO327 := n3_; have HB := n4_; clear n0_ n1_ n2_ n3_ n4_; clear hb ho28))
                go_loopg [15, 16] kj13 (fun kq v15 v16 w' => ∃ (x14_3 : List Bool) (x15_3 : Int) (x16_3 : Int), v15 = .int .i64 x15_3 ∧ v16 = .int .i64 x16_3 ∧ Aside0 (jalousielaw41_FoldAll.l0 kq t311 t314 t322 x14_3 x15_3 x16_3 = some r) ∧ Aside0 (kq ≤ kj13) ∧ Aside0 (Kd.R k26 26 w' w.heap.size (fun _ => True) (.slice Ao15 t311.length co15) t311) ∧ Aside0 (Kd.R k44 44 w' w.heap.size (fun _ => True) v316 t314) ∧ Aside0 (Kd.R (Kd.int .i64) 3 w' w.heap.size (fun _ => True) v323 t322) ∧ Aside0 (Kd.R Kd.bool 4 w' w.heap.size (fun _ => True) v326 x14_3) ∧ Aside0 (Below w.heap.size w w'))
                case atStart => exact ⟨(y325), (0), (0), (by first | rfl | (simp; done) | (simp [*]; done)), (by first | rfl | (simp; done) | (simp [*]; done)), H', ⟨Nat.le_refl _⟩, ⟨by (with_reducible repeat (first | apply Kd.R_alloc | apply Kd.R_drewN | apply Kd.R_drew)); exact HO_0.out⟩, ⟨by (with_reducible repeat (first | apply Kd.R_alloc | apply Kd.R_drewN | apply Kd.R_drew)); exact HO_9.out⟩, ⟨by (with_reducible repeat (first | apply Kd.R_alloc | apply Kd.R_drewN | apply Kd.R_drew)); exact HO324.out⟩, ⟨by (with_reducible repeat (first | apply Kd.R_alloc | apply Kd.R_drewN | apply Kd.R_drew)); exact HO327.out⟩, ⟨by repeat (first | (with_reducible first | exact HB.out | apply below_alloc | apply pw_below_drewN | apply below_drew1) | exact HB.out)⟩⟩
                case round =>
                  clear H'
                  try clear c1
                  try clear c2
                  try clear p2
                  try clear c5
                  try clear c6
                  try clear c6b0
                  try clear p6
                  try clear c9
                  try clear c9b0
                  try clear c9b1
                  try clear c12
                  try clear c15
                  try clear c18
                  try clear c18b0
                  try clear c18b1
                  try clear c19
                  try clear c19b0
                  try clear c19b1
                  try clear c20
                  try clear c22
                  try clear c24
                  try clear c24b0
                  try clear c24b1
                  try clear c25
                  try clear c25b0
                  try clear c25b1
                  try clear p2
                  try clear p6
                  obtain ⟨x14_3, x15_3, x16_3, rfl, rfl, HA, HK3, HO_0, HO_9, HO_13, HO_14, HB⟩ := hrel
                  cases gk with
                  | zero => exact absurd HA.out (by simp [jalousielaw41_FoldAll.l0])
                  | succ k3 =>
                    have H := HA.out
                    clear HA
                    simp only [jalousielaw41_FoldAll.l0] at H
                    by_cases c29 : x16_3 < (t314.length : Int)
                    · rw [if_pos c29] at H
                      have c29b0 : decide (x16_3 < (t314.length : Int)) = true := decide_eq_true c29
                      clear c29
                      by_cases c30 : 0 ≤ x16_3
                      · rw [if_pos c30] at H
                        have c30b0 : decide (0 ≤ x16_3) = true := decide_eq_true c30
                        clear c30
                        by_cases c31 : ((rd_T44 t314 x16_3).f0) = x15_3
                        · rw [if_pos c31] at H
                          have c31b0 : (((rd_T44 t314 x16_3).f0) == x15_3) = true := beq_iff_eq.mpr c31
                          have c31b1 : (((rd_T44 t314 x16_3).f0) != x15_3) = false := bne_eq_false_iff_eq.mpr c31
                          clear c31
                          by_cases c32 : ((rd_T44 t314 x16_3).f1) < 0
                          · rw [if_pos c32] at H
                            have c32b0 : decide (((rd_T44 t314 x16_3).f1) < 0) = true := decide_eq_true c32
                            clear c32
                            exact absurd (Option.some.inj (H.trans (congrArg some HRT.out))) (by decide)
                          · rw [if_neg c32] at H
                            have c32b0 : decide (((rd_T44 t314 x16_3).f1) < 0) = false := decide_eq_false c32
                            clear c32
                            by_cases c33 : ((rd_T44 t314 x16_3).f1) > (wrap64 ((wrap64 ((t311.length : Int) - x15_3)) - 1))
                            · rw [if_pos c33] at H
                              have c33b0 : decide ((wrap64 ((wrap64 ((t311.length : Int) - x15_3)) - 1)) < ((rd_T44 t314 x16_3).f1)) = true := decide_eq_true c33
                              clear c33
                              exact absurd (Option.some.inj (H.trans (congrArg some HRT.out))) (by decide)
                            · rw [if_neg c33] at H
                              have c33b0 : decide ((wrap64 ((wrap64 ((t311.length : Int) - x15_3)) - 1)) < ((rd_T44 t314 x16_3).f1)) = false := decide_eq_false c33
                              clear c33
                              by_cases c34 : 0 ≤ x15_3
                              · rw [if_pos c34] at H
                                have c34b0 : decide (0 ≤ x15_3) = true := decide_eq_true c34
                                clear c34
                                by_cases c35 : x15_3 < (x14_3.length : Int)
                                · rw [if_pos c35] at H
                                  have c35b0 : decide (x15_3 < (x14_3.length : Int)) = true := decide_eq_true c35
                                  clear c35
                                  obtain ⟨y331, hy331⟩ : ∃ y_ : List Bool, y_ = (x14_3.set (x15_3 : Int).toNat true) := ⟨_, rfl⟩
                                  replace H : (jalousielaw41_FoldAll.l0 k3 t311 t314 t322 y331 (wrap64 ((wrap64 (x15_3 + 1)) + ((rd_T44 t314 x16_3).f1))) (wrap64 (x16_3 + 1))) = some r := by first | (rw [hy331]; with_reducible exact H) | (have H2_ := (Option.bind_some _ _).symm.trans H; rw [hy331]; with_reducible exact H2_) | (have H2_ := (Option.bind_some _ _).symm.trans H; with_reducible exact H2_) | with_reducible exact H | (rw [hy331]; exact H) | exact H
                                  have Ny331 := Aside0.mk hy331
                                  clear hy331
                                  have H' := Aside0.mk H
                                  clear H
                                  obtain ⟨Ao37, co37, eo37⟩ := Kd.R_slice HO_9.out
                                  subst eo37
                                  have p328 : 0 ≤ (x16_3 : Int) := of_decide_eq_true (by first | (with_reducible assumption) | assumption)
                                  have q328 : x16_3 < (t314.length : Int) := of_decide_eq_true (by first | (with_reducible assumption) | assumption)
                                  obtain ⟨ad328, e328, hx328_0, hx328_1⟩ := at_T44 (Kd.R_reads' HO_9.out).2.2 x16_3 p328 q328
                                  cases e328
                                  replace p328 := eq_true p328
                                  replace q328 := eq_true q328
                                  have p329 : 0 ≤ (x16_3 : Int) := of_decide_eq_true (by first | (with_reducible assumption) | assumption)
                                  have q329 : x16_3 < (t314.length : Int) := of_decide_eq_true (by first | (with_reducible assumption) | assumption)
                                  obtain ⟨ad329, e329, hx329_0, hx329_1⟩ := at_T44 (Kd.R_reads' HO_9.out).2.2 x16_3 p329 q329
                                  obtain rfl : ad328 = ad329 := (by injection e329)
                                  replace p329 := eq_true p329
                                  replace q329 := eq_true q329
                                  have p330 : 0 ≤ (x16_3 : Int) := of_decide_eq_true (by first | (with_reducible assumption) | assumption)
                                  have q330 : x16_3 < (t314.length : Int) := of_decide_eq_true (by first | (with_reducible assumption) | assumption)
                                  obtain ⟨ad330, e330, hx330_0, hx330_1⟩ := at_T44 (Kd.R_reads' HO_9.out).2.2 x16_3 p330 q330
                                  obtain rfl : ad328 = ad330 := (by injection e330)
                                  replace p330 := eq_true p330
                                  replace q330 := eq_true q330
                                  have p36 : 0 ≤ (x15_3 : Int) := of_decide_eq_true (by first | (with_reducible assumption) | assumption)
                                  have q36 : (x15_3 : Int) < ((x14_3.length : Int) : Int) := of_decide_eq_true (by first | (with_reducible assumption) | assumption)
                                  obtain ⟨go36, co36, eo36, gb36, gl36, cl36, HG36⟩ := Kd.R_form HO_14.out (by omega)
                                  (first | cases eo36 | (injection eo36 with ea_ en_ ec_; (first | subst ea_ | (injection ea_ with ea_; subst ea_)); subst ec_; clear en_))
                                  have GB36 := Aside0.mk gb36
                                  have GG36 := Aside0.mk HG36
                                  clear gb36 gl36 HG36
                                  obtain ⟨hx36_0, hf36_0⟩ := Kd.R_celln false HO_14.out (x15_3 : Int) p36 q36
                                  replace p36 := eq_true p36
                                  replace q36 := eq_true q36
                                  have HP38 := Kd.R_putg HO_14.out (x15_3 : Int) true
                                  go_wp2_with (first | ((with_reducible refine gate_store (t := 4) (p := 109) rfl ?_); refine store_event (t := 4) (p := 109) (v := ?vo_w39) (w1 := (wr.setCell ⟨go36, (x15_3 : Int).toNat, none⟩ (.bool true))) ?hg ?ho ?hn ?hr ?_; (case ho => rfl); (case hg => rfl); (case hn => rfl); (case hr => first | (go_simp; done) | (go_simp; rfl)); intro w39 hw; have hg : wr.grownBy w39 (some go36) := (by rw [hw]; exact HP38.2); have hp_ : Kd.R Kd.bool 4 w39 w.heap.size (fun _ => True) (.slice (some ⟨go36, 0, none⟩) x14_3.length co36) y331 := (by rw [hw, Ny331.out]; exact HP38.1); clear HP38; have n0_ := Aside0.mk (Kd.R_over' (v := (.slice (some ⟨go36, 0, none⟩) x14_3.length co36)) (by (with_reducible repeat (first | apply Kd.R_alloc | apply Kd.R_drewN | apply Kd.R_drew)); exact HO_0.out) (Kd.R_typed HO_14.out) (by decide) hg); have n1_ := Aside0.mk (Kd.R_over' (v := (.slice (some ⟨go36, 0, none⟩) x14_3.length co36)) (by (with_reducible repeat (first | apply Kd.R_alloc | apply Kd.R_drewN | apply Kd.R_drew)); exact HO_9.out) (Kd.R_typed HO_14.out) (by decide) hg); have n2_ := Aside0.mk (Kd.R_over' (v := (.slice (some ⟨go36, 0, none⟩) x14_3.length co36)) (by (with_reducible repeat (first | apply Kd.R_alloc | apply Kd.R_drewN | apply Kd.R_drew)); exact HO_13.out) (Kd.R_typed HO_14.out) (by decide) hg); have n3_ := Aside0.mk (hp_); have n4_ := Aside0.mk ((by rw [hw]; exact below_set (HB.out) GB36.out : Below w.heap.size w w39)); clear HO_0; clear HO_9; clear HO_13; clear HO_14; clear HB; have HO_0 := n0_; have HO_9 := n1_; have HO_13 := n2_; have HO_14 := n3_; have HB := n4_; clear n0_ n1_ n2_ n3_ n4_; clear hg hw hp_; have p332 : 0 ≤ (x16_3 : Int) := of_decide_eq_true (by first | (with_reducible assumption) | assumption); have q332 : x16_3 < (t314.length : Int) := of_decide_eq_true (by first | (with_reducible assumption) | assumption); obtain ⟨ad332, e332, hx332_0, hx332_1⟩ := at_T44 (Kd.R_reads' HO_9.out).2.2 x16_3 p332 q332; obtain rfl : ad328 = ad332 := (by injection e332); replace p332 := eq_true p332; replace q332 := eq_true q332))
                                  go_roundg k3
                                  case measure => have := HJ6.out; have := HJ13.out; have := HK3.out; omega
                                  case rel => exact ⟨(y331), (wrap64 ((wrap64 (x15_3 + 1)) + ((rd_T44 t314 x16_3).f1))), (wrap64 (x16_3 + 1)), (by first | rfl | (simp; done) | (simp [*]; done)), (by first | rfl | (simp; done) | (simp [*]; done)), H', ⟨by have := HJ6.out; have := HJ13.out; have := HK3.out; omega⟩, ⟨by (with_reducible repeat (first | apply Kd.R_alloc | apply Kd.R_drewN | apply Kd.R_drew)); exact HO_0.out⟩, ⟨by (with_reducible repeat (first | apply Kd.R_alloc | apply Kd.R_drewN | apply Kd.R_drew)); exact HO_9.out⟩, ⟨by (with_reducible repeat (first | apply Kd.R_alloc | apply Kd.R_drewN | apply Kd.R_drew)); exact HO_13.out⟩, ⟨by (with_reducible repeat (first | apply Kd.R_alloc | apply Kd.R_drewN | apply Kd.R_drew)); exact HO_14.out⟩, ⟨by repeat (first | (with_reducible first | exact HB.out | apply below_alloc | apply pw_below_drewN | apply below_drew1) | exact HB.out)⟩⟩
                                · rw [if_neg c35] at H
                                  exact absurd H (by simp)
                              · rw [if_neg c34] at H
                                exact absurd H (by simp)
                        · rw [if_neg c31] at H
                          have c31b0 : (((rd_T44 t314 x16_3).f0) == x15_3) = false := beq_eq_false_iff_ne.mpr c31
                          have c31b1 : (((rd_T44 t314 x16_3).f0) != x15_3) = true := bne_iff_ne.mpr c31
                          exact absurd (Option.some.inj (H.trans (congrArg some HRT.out))) (by decide)
                      · rw [if_neg c30] at H
                        exact absurd H (by simp)
                    · rw [if_neg c29] at H
                      have c29b0 : decide (x16_3 < (t314.length : Int)) = false := decide_eq_false c29
                      clear c29
                      have HC40 := Aside0.mk H
                      clear H
                      obtain ⟨Ao41, co41, eo41⟩ := Kd.R_slice HO_9.out
                      subst eo41
                      go_upto_region 19 with (fail)
                      go_cut [128] (fun v128 wc => ∃ (kq : Nat) (x128_39 : Bool), v128 = .bool x128_39 ∧ Aside0 (jalousielaw41_FoldAll.j3 kq t311 t322 x14_3 x128_39 = some r) ∧ Aside0 (kq ≤ k3) ∧ Aside0 (Kd.R k26 26 wc w.heap.size (fun _ => True) (.slice Ao15 t311.length co15) t311) ∧ Aside0 (Kd.R (Kd.int .i64) 3 wc w.heap.size (fun _ => True) v323 t322) ∧ Aside0 (Kd.R Kd.bool 4 wc w.heap.size (fun _ => True) v326 x14_3) ∧ Aside0 (Below w.heap.size w wc))
                      case first =>
                        have H := HC40.out
                        clear HC40
                        by_cases c42 : x15_3 = (t311.length : Int)
                        · rw [if_pos c42] at H
                          have c42b0 : (x15_3 == (t311.length : Int)) = true := beq_iff_eq.mpr c42
                          have c42b1 : (x15_3 != (t311.length : Int)) = false := bne_eq_false_iff_eq.mpr c42
                          clear c42
                          (first | rw [c42b0] | (simp only [i64_w, i32_w]; rw [c42b0]) | skip)
                          have H' := Aside0.mk H
                          clear H
                          obtain ⟨Ao43, co43, eo43⟩ := Kd.R_slice HO_13.out
                          subst eo43
                          go_wp2
                          go_meet
                          case rel => exact ⟨_, (((t322.length : Int) != (t311.length : Int))), (by first | rfl | (simp; done) | (simp [*]; done)), H', ⟨by have := HJ6.out; have := HJ13.out; have := HK3.out; first | omega | exact Nat.le_refl _⟩, ⟨by (with_reducible repeat (first | apply Kd.R_alloc | apply Kd.R_drewN | apply Kd.R_drew)); exact HO_0.out⟩, ⟨by (with_reducible repeat (first | apply Kd.R_alloc | apply Kd.R_drewN | apply Kd.R_drew)); exact HO_13.out⟩, ⟨by (with_reducible repeat (first | apply Kd.R_alloc | apply Kd.R_drewN | apply Kd.R_drew)); exact HO_14.out⟩, ⟨by repeat (first | (with_reducible first | exact HB.out | apply below_alloc | apply pw_below_drewN | apply below_drew1) | exact HB.out)⟩⟩
                        · rw [if_neg c42] at H
                          have c42b0 : (x15_3 == (t311.length : Int)) = false := beq_eq_false_iff_ne.mpr c42
                          have c42b1 : (x15_3 != (t311.length : Int)) = true := bne_iff_ne.mpr c42
                          (first | rw [c42b0] | (simp only [i64_w, i32_w]; rw [c42b0]) | skip)
                          have H' := Aside0.mk H
                          clear H
                          go_wp2
                          go_meet
                          case rel => exact ⟨_, (true), (by first | rfl | (simp; done) | (simp [*]; done)), H', ⟨by have := HJ6.out; have := HJ13.out; have := HK3.out; first | omega | exact Nat.le_refl _⟩, ⟨by (with_reducible repeat (first | apply Kd.R_alloc | apply Kd.R_drewN | apply Kd.R_drew)); exact HO_0.out⟩, ⟨by (with_reducible repeat (first | apply Kd.R_alloc | apply Kd.R_drewN | apply Kd.R_drew)); exact HO_13.out⟩, ⟨by (with_reducible repeat (first | apply Kd.R_alloc | apply Kd.R_drewN | apply Kd.R_drew)); exact HO_14.out⟩, ⟨by repeat (first | (with_reducible first | exact HB.out | apply below_alloc | apply pw_below_drewN | apply below_drew1) | exact HB.out)⟩⟩
                      case rest =>
                        clear HC40
                        try clear c1
                        try clear c2
                        try clear p2
                        try clear c3
                        try clear p3
                        try clear q3
                        try clear hx3
                        try clear hf3
                        try clear c4
                        try clear c5
                        try clear c6
                        try clear c6b0
                        try clear p6
                        try clear c9
                        try clear c9b0
                        try clear c9b1
                        try clear c12
                        try clear c15
                        try clear c18
                        try clear c18b0
                        try clear c18b1
                        try clear c19
                        try clear c19b0
                        try clear c19b1
                        try clear c20
                        try clear c22
                        try clear c24
                        try clear c24b0
                        try clear c24b1
                        try clear c25
                        try clear c25b0
                        try clear c25b1
                        try clear c29
                        try clear c29b0
                        try clear c30
                        try clear c30b0
                        try clear c31
                        try clear c31b0
                        try clear c31b1
                        try clear c32
                        try clear c32b0
                        try clear p32
                        try clear q32
                        try clear hx32
                        try clear c33
                        try clear c33b0
                        try clear p33
                        try clear q33
                        try clear hx33
                        try clear c34
                        try clear c34b0
                        try clear c35
                        try clear c35b0
                        try clear p36
                        try clear q36
                        try clear hx36
                        try clear hf36
                        try clear c42
                        try clear c42b0
                        try clear c42b1
                        try clear hx328_0
                        try clear hx328_1
                        try clear hx329_0
                        try clear hx329_1
                        try clear hx330_0
                        try clear hx330_1
                        try clear hx332_0
                        try clear hx332_1
                        try clear hx36_0
                        try clear p2
                        try clear p328
                        try clear p329
                        try clear p330
                        try clear p332
                        try clear p36
                        try clear p6
                        try clear q328
                        try clear q329
                        try clear q330
                        try clear q332
                        try clear q36
                        obtain ⟨kq, x128_39, rfl, HA, HJ39, HO_0, HO_13, HO_14, HB⟩ := hcut
                        cases kq with
                        | zero => exact absurd HA.out (by simp [jalousielaw41_FoldAll.j3])
                        | succ kj39 =>
                          have H := HA.out
                          clear HA
                          simp only [jalousielaw41_FoldAll.j3] at H
                          by_cases c44 : x128_39 = true
                          · subst c44
                            have H1 : (some false) = some r := by rw [if_pos rfl] at H; exact H
                            clear H
                            have H := H1
                            clear H1
                            exact absurd (Option.some.inj (H.trans (congrArg some HRT.out))) (by decide)
                          · replace c44 := Bool.eq_false_iff.mpr c44
                            subst c44
                            have H1 : (jalousielaw41_FoldAll.l1 kj39 t311 t322 x14_3 0) = some r := by rw [if_neg (show ¬ (false = true) by decide)] at H; exact H
                            clear H
                            have H := H1
                            clear H1
                            have H' := Aside0.mk H
                            clear H
                            go_wp2
                            go_loopg [17] kj39 (fun kq v17 w' => ∃ (x17_5 : Int), v17 = .int .i64 x17_5 ∧ Aside0 (jalousielaw41_FoldAll.l1 kq t311 t322 x14_3 x17_5 = some r) ∧ Aside0 (kq ≤ kj39) ∧ Aside0 (Kd.R k26 26 w' w.heap.size (fun _ => True) (.slice Ao15 t311.length co15) t311) ∧ Aside0 (Kd.R (Kd.int .i64) 3 w' w.heap.size (fun _ => True) v323 t322) ∧ Aside0 (Kd.R Kd.bool 4 w' w.heap.size (fun _ => True) v326 x14_3) ∧ Aside0 (Below w.heap.size w w'))
                            case atStart => exact ⟨(0), (by first | rfl | (simp; done) | (simp [*]; done)), H', ⟨Nat.le_refl _⟩, ⟨by (with_reducible repeat (first | apply Kd.R_alloc | apply Kd.R_drewN | apply Kd.R_drew)); exact HO_0.out⟩, ⟨by (with_reducible repeat (first | apply Kd.R_alloc | apply Kd.R_drewN | apply Kd.R_drew)); exact HO_13.out⟩, ⟨by (with_reducible repeat (first | apply Kd.R_alloc | apply Kd.R_drewN | apply Kd.R_drew)); exact HO_14.out⟩, ⟨by repeat (first | (with_reducible first | exact HB.out | apply below_alloc | apply pw_below_drewN | apply below_drew1) | exact HB.out)⟩⟩
                            case round =>
                              clear H'
                              try clear c1
                              try clear c2
                              try clear p2
                              try clear c3
                              try clear p3
                              try clear q3
                              try clear hx3
                              try clear hf3
                              try clear c4
                              try clear c5
                              try clear c6
                              try clear c6b0
                              try clear p6
                              try clear c9
                              try clear c9b0
                              try clear c9b1
                              try clear c12
                              try clear c15
                              try clear c18
                              try clear c18b0
                              try clear c18b1
                              try clear c19
                              try clear c19b0
                              try clear c19b1
                              try clear c20
                              try clear c22
                              try clear c24
                              try clear c24b0
                              try clear c24b1
                              try clear c25
                              try clear c25b0
                              try clear c25b1
                              try clear c29
                              try clear c29b0
                              try clear c30
                              try clear c30b0
                              try clear c31
                              try clear c31b0
                              try clear c31b1
                              try clear c32
                              try clear c32b0
                              try clear p32
                              try clear q32
                              try clear hx32
                              try clear c33
                              try clear c33b0
                              try clear p33
                              try clear q33
                              try clear hx33
                              try clear c34
                              try clear c34b0
                              try clear c35
                              try clear c35b0
                              try clear p36
                              try clear q36
                              try clear hx36
                              try clear hf36
                              try clear c42
                              try clear c42b0
                              try clear c42b1
                              try clear c44
                              try clear hx328_0
                              try clear hx328_1
                              try clear hx329_0
                              try clear hx329_1
                              try clear hx330_0
                              try clear hx330_1
                              try clear hx332_0
                              try clear hx332_1
                              try clear hx36_0
                              try clear p2
                              try clear p3
                              try clear p32
                              try clear p328
                              try clear p329
                              try clear p33
                              try clear p330
                              try clear p332
                              try clear p36
                              try clear p6
                              try clear q3
                              try clear q32
                              try clear q328
                              try clear q329
                              try clear q33
                              try clear q330
                              try clear q332
                              try clear q36
                              obtain ⟨x17_5, rfl, HA, HK5, HO_0, HO_13, HO_14, HB⟩ := hrel
                              cases gk with
                              | zero => exact absurd HA.out (by simp [jalousielaw41_FoldAll.l1])
                              | succ k5 =>
                                have H := HA.out
                                clear HA
                                simp only [jalousielaw41_FoldAll.l1] at H
                                by_cases c45 : x17_5 < (t311.length : Int)
                                · rw [if_pos c45] at H
                                  have c45b0 : decide (x17_5 < (t311.length : Int)) = true := decide_eq_true c45
                                  clear c45
                                  by_cases c46 : 0 ≤ x17_5
                                  · rw [if_pos c46] at H
                                    have c46b0 : decide (0 ≤ x17_5) = true := decide_eq_true c46
                                    clear c46
                                    by_cases c47 : x17_5 < (t322.length : Int)
                                    · rw [if_pos c47] at H
                                      have c47b0 : decide (x17_5 < (t322.length : Int)) = true := decide_eq_true c47
                                      clear c47
                                      by_cases c48 : (rd t322 x17_5) ≥ x17_5
                                      · rw [if_pos c48] at H
                                        have c48b0 : decide (x17_5 ≤ (rd t322 x17_5)) = true := decide_eq_true c48
                                        clear c48
                                        exact absurd (Option.some.inj (H.trans (congrArg some HRT.out))) (by decide)
                                      · rw [if_neg c48] at H
                                        have c48b0 : decide (x17_5 ≤ (rd t322 x17_5)) = false := decide_eq_false c48
                                        clear c48
                                        by_cases c49 : (rd t322 x17_5) ≥ 0
                                        · rw [if_pos c49] at H
                                          have c49b0 : decide (0 ≤ (rd t322 x17_5)) = true := decide_eq_true c49
                                          clear c49
                                          replace H := Option.bind_eq_some_iff.mp H
                                          obtain ⟨t337, A500, H⟩ := H
                                          replace H : ((jalousieref41_Of.f k5 t311 x17_5).bind fun t338 => (if t337 ≥ t338 then (some false) else (if x17_5 < (x14_3.length : Int) then (if rdOf false x14_3 x17_5 = true then (if 0 ≤ (rd t322 x17_5) then (if (rd t322 x17_5) < (x14_3.length : Int) then (if (rdOf false x14_3 (rd t322 x17_5) = true) then (jalousielaw41_FoldAll.l1 k5 t311 t322 x14_3 (wrap64 (x17_5 + 1))) else (some false)) else (none)) else (none)) else (jalousielaw41_FoldAll.l1 k5 t311 t322 x14_3 (wrap64 (x17_5 + 1)))) else (none)))) = some r := H
                                          have A50 := Aside0.mk A500
                                          clear A500
                                          replace H := Option.bind_eq_some_iff.mp H
                                          obtain ⟨t338, A510, H⟩ := H
                                          replace H : (if t337 ≥ t338 then (some false) else (if x17_5 < (x14_3.length : Int) then (if rdOf false x14_3 x17_5 = true then (if 0 ≤ (rd t322 x17_5) then (if (rd t322 x17_5) < (x14_3.length : Int) then (if (rdOf false x14_3 (rd t322 x17_5) = true) then (jalousielaw41_FoldAll.l1 k5 t311 t322 x14_3 (wrap64 (x17_5 + 1))) else (some false)) else (none)) else (none)) else (jalousielaw41_FoldAll.l1 k5 t311 t322 x14_3 (wrap64 (x17_5 + 1)))) else (none))) = some r := H
                                          have A51 := Aside0.mk A510
                                          clear A510
                                          by_cases c52 : t337 ≥ t338
                                          · rw [if_pos c52] at H
                                            have c52b0 : decide (t338 ≤ t337) = true := decide_eq_true c52
                                            clear c52
                                            exact absurd (Option.some.inj (H.trans (congrArg some HRT.out))) (by decide)
                                          · rw [if_neg c52] at H
                                            have c52b0 : decide (t338 ≤ t337) = false := decide_eq_false c52
                                            clear c52
                                            by_cases c53 : x17_5 < (x14_3.length : Int)
                                            · rw [if_pos c53] at H
                                              have c53b0 : decide (x17_5 < (x14_3.length : Int)) = true := decide_eq_true c53
                                              clear c53
                                              obtain ⟨bq54, hbq54⟩ : ∃ b_ : Bool, b_ = (rdOf false x14_3 x17_5) := ⟨_, rfl⟩
                                              replace H : (if bq54 = true then (if 0 ≤ (rd t322 x17_5) then (if (rd t322 x17_5) < (x14_3.length : Int) then (if (rdOf false x14_3 (rd t322 x17_5) = true) then (jalousielaw41_FoldAll.l1 k5 t311 t322 x14_3 (wrap64 (x17_5 + 1))) else (some false)) else (none)) else (none)) else (jalousielaw41_FoldAll.l1 k5 t311 t322 x14_3 (wrap64 (x17_5 + 1)))) = some r := by rw [← hbq54] at H; exact H
                                              have Nbq54 := Aside0.mk hbq54
                                              clear hbq54
                                              by_cases c55 : bq54 = true
                                              · subst c55
                                                have H1 : (if 0 ≤ (rd t322 x17_5) then (if (rd t322 x17_5) < (x14_3.length : Int) then (if (rdOf false x14_3 (rd t322 x17_5) = true) then (jalousielaw41_FoldAll.l1 k5 t311 t322 x14_3 (wrap64 (x17_5 + 1))) else (some false)) else (none)) else (none)) = some r := by rw [if_pos rfl] at H; exact H
                                                clear H
                                                have H := H1
                                                clear H1
                                                by_cases c56 : 0 ≤ (rd t322 x17_5)
                                                · rw [if_pos c56] at H
                                                  have c56b0 : decide (0 ≤ (rd t322 x17_5)) = true := decide_eq_true c56
                                                  clear c56
                                                  by_cases c57 : (rd t322 x17_5) < (x14_3.length : Int)
                                                  · rw [if_pos c57] at H
                                                    have c57b0 : decide ((rd t322 x17_5) < (x14_3.length : Int)) = true := decide_eq_true c57
                                                    clear c57
                                                    obtain ⟨bq58, hbq58⟩ : ∃ b_ : Bool, b_ = (rdOf false x14_3 (rd t322 x17_5)) := ⟨_, rfl⟩
                                                    replace H : (if (bq58 = true) then (jalousielaw41_FoldAll.l1 k5 t311 t322 x14_3 (wrap64 (x17_5 + 1))) else (some false)) = some r := by rw [← hbq58] at H; exact H
                                                    have Nbq58 := Aside0.mk hbq58
                                                    clear hbq58
                                                    by_cases c59 : (bq58 = true)
                                                    · subst c59
                                                      have H1 : (jalousielaw41_FoldAll.l1 k5 t311 t322 x14_3 (wrap64 (x17_5 + 1))) = some r := by rw [if_pos rfl] at H; exact H
                                                      clear H
                                                      have H := H1
                                                      clear H1
                                                      have H' := Aside0.mk H
                                                      clear H
                                                      obtain ⟨Ao60, co60, eo60⟩ := Kd.R_slice HO_13.out
                                                      subst eo60
                                                      have p334 : 0 ≤ (x17_5 : Int) := of_decide_eq_true (by first | (with_reducible assumption) | assumption)
                                                      have q334 : x17_5 < (t322.length : Int) := of_decide_eq_true (by first | (with_reducible assumption) | assumption)
                                                      obtain ⟨ad334, e334, hx334_0⟩ := Kd.at_int (Kd.R_reads' HO_13.out).2.2 x17_5 p334 q334
                                                      cases e334
                                                      replace p334 := eq_true p334
                                                      replace q334 := eq_true q334
                                                      have p335 : 0 ≤ (x17_5 : Int) := of_decide_eq_true (by first | (with_reducible assumption) | assumption)
                                                      have q335 : x17_5 < (t322.length : Int) := of_decide_eq_true (by first | (with_reducible assumption) | assumption)
                                                      obtain ⟨ad335, e335, hx335_0⟩ := Kd.at_int (Kd.R_reads' HO_13.out).2.2 x17_5 p335 q335
                                                      obtain rfl : ad334 = ad335 := (by injection e335)
                                                      replace p335 := eq_true p335
                                                      replace q335 := eq_true q335
                                                      have p336 : 0 ≤ (x17_5 : Int) := of_decide_eq_true (by first | (with_reducible assumption) | assumption)
                                                      have q336 : x17_5 < (t322.length : Int) := of_decide_eq_true (by first | (with_reducible assumption) | assumption)
                                                      obtain ⟨ad336, e336, hx336_0⟩ := Kd.at_int (Kd.R_reads' HO_13.out).2.2 x17_5 p336 q336
                                                      obtain rfl : ad334 = ad336 := (by injection e336)
                                                      replace p336 := eq_true p336
                                                      replace q336 := eq_true q336
                                                      go_wp2_with (first | (go_at_call 25; (with_reducible refine (jalousieref41_Of.calls k5 _ _ t311 (rd t322 x17_5) t337 _ ?side1 ?side2 A50.out).mono ?_); (case side1 => repeat (first | exact (Kd.R_reads' HO_0.out).2.2 | (with_reducible refine Kd.C_alloc ?_ _) | (with_reducible refine Kd.C_drewN ?_ _) | (with_reducible refine Kd.C_drew ?_))); (case side2 => exact (Kd.R_reads' HO_0.out).2.1); rintro e w' ⟨rfl, ⟨nd, rfl⟩⟩) | (go_at_call 25; (with_reducible refine (jalousieref41_Of.calls k5 _ _ t311 x17_5 t338 _ ?side1 ?side2 A51.out).mono ?_); (case side1 => repeat (first | exact (Kd.R_reads' HO_0.out).2.2 | (with_reducible refine Kd.C_alloc ?_ _) | (with_reducible refine Kd.C_drewN ?_ _) | (with_reducible refine Kd.C_drew ?_))); (case side2 => exact (Kd.R_reads' HO_0.out).2.1); rintro e w' ⟨rfl, ⟨nd, rfl⟩⟩; obtain ⟨Ao61, co61, eo61⟩ := Kd.R_slice HO_14.out; subst eo61; have p339 : 0 ≤ (x17_5 : Int) := of_decide_eq_true (by first | (with_reducible assumption) | assumption); have q339 : x17_5 < (x14_3.length : Int) := of_decide_eq_true (by first | (with_reducible assumption) | assumption); obtain ⟨ad339, e339, hx339_0⟩ := Kd.at_bool (Kd.R_reads' HO_14.out).2.2 x17_5 p339 q339; (try rw [← Nbq54.out] at hx339_0); (try rw [← Nbq54.out] at hw339_0); (try rw [← Nbq58.out] at hx339_0); (try rw [← Nbq58.out] at hw339_0); cases e339; replace p339 := eq_true p339; replace q339 := eq_true q339; have p340 : 0 ≤ (x17_5 : Int) := of_decide_eq_true (by first | (with_reducible assumption) | assumption); have q340 : x17_5 < (t322.length : Int) := of_decide_eq_true (by first | (with_reducible assumption) | assumption); obtain ⟨ad340, e340, hx340_0⟩ := Kd.at_int (Kd.R_reads' HO_13.out).2.2 x17_5 p340 q340; obtain rfl : ad334 = ad340 := (by injection e340); replace p340 := eq_true p340; replace q340 := eq_true q340; have p341 : 0 ≤ (x17_5 : Int) := of_decide_eq_true (by first | (with_reducible assumption) | assumption); have q341 : x17_5 < (t322.length : Int) := of_decide_eq_true (by first | (with_reducible assumption) | assumption); obtain ⟨ad341, e341, hx341_0⟩ := Kd.at_int (Kd.R_reads' HO_13.out).2.2 x17_5 p341 q341; obtain rfl : ad334 = ad341 := (by injection e341); replace p341 := eq_true p341; replace q341 := eq_true q341; have p342 : 0 ≤ ((rd t322 x17_5) : Int) := of_decide_eq_true (by first | (with_reducible assumption) | assumption); have q342 : (rd t322 x17_5) < (x14_3.length : Int) := of_decide_eq_true (by first | (with_reducible assumption) | assumption); obtain ⟨ad342, e342, hx342_0⟩ := Kd.at_bool (Kd.R_reads' HO_14.out).2.2 (rd t322 x17_5) p342 q342; (try rw [← Nbq54.out] at hx342_0); (try rw [← Nbq54.out] at hw342_0); (try rw [← Nbq58.out] at hx342_0); (try rw [← Nbq58.out] at hw342_0); obtain rfl : ad339 = ad342 := (by injection e342); replace p342 := eq_true p342; replace q342 := eq_true q342))
                                                      go_roundg k5
                                                      case measure => have := HJ6.out; have := HJ13.out; have := HK3.out; have := HJ39.out; have := HK5.out; omega
                                                      case rel => exact ⟨(wrap64 (x17_5 + 1)), (by first | rfl | (simp; done) | (simp [*]; done)), H', ⟨by have := HJ6.out; have := HJ13.out; have := HK3.out; have := HJ39.out; have := HK5.out; omega⟩, ⟨by (with_reducible repeat (first | apply Kd.R_alloc | apply Kd.R_drewN | apply Kd.R_drew)); exact HO_0.out⟩, ⟨by (with_reducible repeat (first | apply Kd.R_alloc | apply Kd.R_drewN | apply Kd.R_drew)); exact HO_13.out⟩, ⟨by (with_reducible repeat (first | apply Kd.R_alloc | apply Kd.R_drewN | apply Kd.R_drew)); exact HO_14.out⟩, ⟨by repeat (first | (with_reducible first | exact HB.out | apply below_alloc | apply pw_below_drewN | apply below_drew1) | exact HB.out)⟩⟩
                                                    · replace c59 := Bool.eq_false_iff.mpr c59
                                                      subst c59
                                                      have H1 : (some false) = some r := by rw [if_neg (show ¬ (false = true) by decide)] at H; exact H
                                                      clear H
                                                      have H := H1
                                                      clear H1
                                                      exact absurd (Option.some.inj (H.trans (congrArg some HRT.out))) (by decide)
                                                  · rw [if_neg c57] at H
                                                    exact absurd H (by simp)
                                                · rw [if_neg c56] at H
                                                  exact absurd H (by simp)
                                              · replace c55 := Bool.eq_false_iff.mpr c55
                                                subst c55
                                                have H1 : (jalousielaw41_FoldAll.l1 k5 t311 t322 x14_3 (wrap64 (x17_5 + 1))) = some r := by rw [if_neg (show ¬ (false = true) by decide)] at H; exact H
                                                clear H
                                                have H := H1
                                                clear H1
                                                have H' := Aside0.mk H
                                                clear H
                                                obtain ⟨Ao62, co62, eo62⟩ := Kd.R_slice HO_13.out
                                                subst eo62
                                                have p334 : 0 ≤ (x17_5 : Int) := of_decide_eq_true (by first | (with_reducible assumption) | assumption)
                                                have q334 : x17_5 < (t322.length : Int) := of_decide_eq_true (by first | (with_reducible assumption) | assumption)
                                                obtain ⟨ad334, e334, hx334_0⟩ := Kd.at_int (Kd.R_reads' HO_13.out).2.2 x17_5 p334 q334
                                                cases e334
                                                replace p334 := eq_true p334
                                                replace q334 := eq_true q334
                                                have p335 : 0 ≤ (x17_5 : Int) := of_decide_eq_true (by first | (with_reducible assumption) | assumption)
                                                have q335 : x17_5 < (t322.length : Int) := of_decide_eq_true (by first | (with_reducible assumption) | assumption)
                                                obtain ⟨ad335, e335, hx335_0⟩ := Kd.at_int (Kd.R_reads' HO_13.out).2.2 x17_5 p335 q335
                                                obtain rfl : ad334 = ad335 := (by injection e335)
                                                replace p335 := eq_true p335
                                                replace q335 := eq_true q335
                                                have p336 : 0 ≤ (x17_5 : Int) := of_decide_eq_true (by first | (with_reducible assumption) | assumption)
                                                have q336 : x17_5 < (t322.length : Int) := of_decide_eq_true (by first | (with_reducible assumption) | assumption)
                                                obtain ⟨ad336, e336, hx336_0⟩ := Kd.at_int (Kd.R_reads' HO_13.out).2.2 x17_5 p336 q336
                                                obtain rfl : ad334 = ad336 := (by injection e336)
                                                replace p336 := eq_true p336
                                                replace q336 := eq_true q336
                                                go_wp2_with (first | (go_at_call 25; (with_reducible refine (jalousieref41_Of.calls k5 _ _ t311 (rd t322 x17_5) t337 _ ?side1 ?side2 A50.out).mono ?_); (case side1 => repeat (first | exact (Kd.R_reads' HO_0.out).2.2 | (with_reducible refine Kd.C_alloc ?_ _) | (with_reducible refine Kd.C_drewN ?_ _) | (with_reducible refine Kd.C_drew ?_))); (case side2 => exact (Kd.R_reads' HO_0.out).2.1); rintro e w' ⟨rfl, ⟨nd, rfl⟩⟩) | (go_at_call 25; (with_reducible refine (jalousieref41_Of.calls k5 _ _ t311 x17_5 t338 _ ?side1 ?side2 A51.out).mono ?_); (case side1 => repeat (first | exact (Kd.R_reads' HO_0.out).2.2 | (with_reducible refine Kd.C_alloc ?_ _) | (with_reducible refine Kd.C_drewN ?_ _) | (with_reducible refine Kd.C_drew ?_))); (case side2 => exact (Kd.R_reads' HO_0.out).2.1); rintro e w' ⟨rfl, ⟨nd, rfl⟩⟩; obtain ⟨Ao63, co63, eo63⟩ := Kd.R_slice HO_14.out; subst eo63; have p339 : 0 ≤ (x17_5 : Int) := of_decide_eq_true (by first | (with_reducible assumption) | assumption); have q339 : x17_5 < (x14_3.length : Int) := of_decide_eq_true (by first | (with_reducible assumption) | assumption); obtain ⟨ad339, e339, hx339_0⟩ := Kd.at_bool (Kd.R_reads' HO_14.out).2.2 x17_5 p339 q339; (try rw [← Nbq54.out] at hx339_0); (try rw [← Nbq54.out] at hw339_0); cases e339; replace p339 := eq_true p339; replace q339 := eq_true q339))
                                                go_roundg k5
                                                case measure => have := HJ6.out; have := HJ13.out; have := HK3.out; have := HJ39.out; have := HK5.out; omega
                                                case rel => exact ⟨(wrap64 (x17_5 + 1)), (by first | rfl | (simp; done) | (simp [*]; done)), H', ⟨by have := HJ6.out; have := HJ13.out; have := HK3.out; have := HJ39.out; have := HK5.out; omega⟩, ⟨by (with_reducible repeat (first | apply Kd.R_alloc | apply Kd.R_drewN | apply Kd.R_drew)); exact HO_0.out⟩, ⟨by (with_reducible repeat (first | apply Kd.R_alloc | apply Kd.R_drewN | apply Kd.R_drew)); exact HO_13.out⟩, ⟨by (with_reducible repeat (first | apply Kd.R_alloc | apply Kd.R_drewN | apply Kd.R_drew)); exact HO_14.out⟩, ⟨by repeat (first | (with_reducible first | exact HB.out | apply below_alloc | apply pw_below_drewN | apply below_drew1) | exact HB.out)⟩⟩
                                            · rw [if_neg c53] at H
                                              exact absurd H (by simp)
                                        · rw [if_neg c49] at H
                                          have c49b0 : decide (0 ≤ (rd t322 x17_5)) = false := decide_eq_false c49
                                          clear c49
                                          by_cases c64 : x17_5 < (x14_3.length : Int)
                                          · rw [if_pos c64] at H
                                            have c64b0 : decide (x17_5 < (x14_3.length : Int)) = true := decide_eq_true c64
                                            clear c64
                                            obtain ⟨bq65, hbq65⟩ : ∃ b_ : Bool, b_ = (rdOf false x14_3 x17_5) := ⟨_, rfl⟩
                                            replace H : (if bq65 = true then (jalousielaw41_FoldAll.l1 k5 t311 t322 x14_3 (wrap64 (x17_5 + 1))) else (jalousielaw41_FoldAll.l1 k5 t311 t322 x14_3 (wrap64 (x17_5 + 1)))) = some r := by rw [← hbq65] at H; exact H
                                            have Nbq65 := Aside0.mk hbq65
                                            clear hbq65
                                            by_cases c66 : bq65 = true
                                            · subst c66
                                              have H1 : (jalousielaw41_FoldAll.l1 k5 t311 t322 x14_3 (wrap64 (x17_5 + 1))) = some r := by rw [if_pos rfl] at H; exact H
                                              clear H
                                              have H := H1
                                              clear H1
                                              have H' := Aside0.mk H
                                              clear H
                                              obtain ⟨Ao67, co67, eo67⟩ := Kd.R_slice HO_13.out
                                              subst eo67
                                              have p334 : 0 ≤ (x17_5 : Int) := of_decide_eq_true (by first | (with_reducible assumption) | assumption)
                                              have q334 : x17_5 < (t322.length : Int) := of_decide_eq_true (by first | (with_reducible assumption) | assumption)
                                              obtain ⟨ad334, e334, hx334_0⟩ := Kd.at_int (Kd.R_reads' HO_13.out).2.2 x17_5 p334 q334
                                              cases e334
                                              replace p334 := eq_true p334
                                              replace q334 := eq_true q334
                                              have p335 : 0 ≤ (x17_5 : Int) := of_decide_eq_true (by first | (with_reducible assumption) | assumption)
                                              have q335 : x17_5 < (t322.length : Int) := of_decide_eq_true (by first | (with_reducible assumption) | assumption)
                                              obtain ⟨ad335, e335, hx335_0⟩ := Kd.at_int (Kd.R_reads' HO_13.out).2.2 x17_5 p335 q335
                                              obtain rfl : ad334 = ad335 := (by injection e335)
                                              replace p335 := eq_true p335
                                              replace q335 := eq_true q335
                                              obtain ⟨Ao68, co68, eo68⟩ := Kd.R_slice HO_14.out
                                              subst eo68
                                              have p343 : 0 ≤ (x17_5 : Int) := of_decide_eq_true (by first | (with_reducible assumption) | assumption)
                                              have q343 : x17_5 < (x14_3.length : Int) := of_decide_eq_true (by first | (with_reducible assumption) | assumption)
                                              obtain ⟨ad343, e343, hx343_0⟩ := Kd.at_bool (Kd.R_reads' HO_14.out).2.2 x17_5 p343 q343
                                              (try rw [← Nbq65.out] at hx343_0); (try rw [← Nbq65.out] at hw343_0)
                                              cases e343
                                              replace p343 := eq_true p343
                                              replace q343 := eq_true q343
                                              have p344 : 0 ≤ (x17_5 : Int) := of_decide_eq_true (by first | (with_reducible assumption) | assumption)
                                              have q344 : x17_5 < (t322.length : Int) := of_decide_eq_true (by first | (with_reducible assumption) | assumption)
                                              obtain ⟨ad344, e344, hx344_0⟩ := Kd.at_int (Kd.R_reads' HO_13.out).2.2 x17_5 p344 q344
                                              obtain rfl : ad334 = ad344 := (by injection e344)
                                              replace p344 := eq_true p344
                                              replace q344 := eq_true q344
                                              go_wp2
                                              go_roundg k5
                                              case measure => have := HJ6.out; have := HJ13.out; have := HK3.out; have := HJ39.out; have := HK5.out; omega
                                              case rel => exact ⟨(wrap64 (x17_5 + 1)), (by first | rfl | (simp; done) | (simp [*]; done)), H', ⟨by have := HJ6.out; have := HJ13.out; have := HK3.out; have := HJ39.out; have := HK5.out; omega⟩, ⟨by (with_reducible repeat (first | apply Kd.R_alloc | apply Kd.R_drewN | apply Kd.R_drew)); exact HO_0.out⟩, ⟨by (with_reducible repeat (first | apply Kd.R_alloc | apply Kd.R_drewN | apply Kd.R_drew)); exact HO_13.out⟩, ⟨by (with_reducible repeat (first | apply Kd.R_alloc | apply Kd.R_drewN | apply Kd.R_drew)); exact HO_14.out⟩, ⟨by repeat (first | (with_reducible first | exact HB.out | apply below_alloc | apply pw_below_drewN | apply below_drew1) | exact HB.out)⟩⟩
                                            · replace c66 := Bool.eq_false_iff.mpr c66
                                              subst c66
                                              have H1 : (jalousielaw41_FoldAll.l1 k5 t311 t322 x14_3 (wrap64 (x17_5 + 1))) = some r := by rw [if_neg (show ¬ (false = true) by decide)] at H; exact H
                                              clear H
                                              have H := H1
                                              clear H1
                                              have H' := Aside0.mk H
                                              clear H
                                              obtain ⟨Ao69, co69, eo69⟩ := Kd.R_slice HO_13.out
                                              subst eo69
                                              have p334 : 0 ≤ (x17_5 : Int) := of_decide_eq_true (by first | (with_reducible assumption) | assumption)
                                              have q334 : x17_5 < (t322.length : Int) := of_decide_eq_true (by first | (with_reducible assumption) | assumption)
                                              obtain ⟨ad334, e334, hx334_0⟩ := Kd.at_int (Kd.R_reads' HO_13.out).2.2 x17_5 p334 q334
                                              cases e334
                                              replace p334 := eq_true p334
                                              replace q334 := eq_true q334
                                              have p335 : 0 ≤ (x17_5 : Int) := of_decide_eq_true (by first | (with_reducible assumption) | assumption)
                                              have q335 : x17_5 < (t322.length : Int) := of_decide_eq_true (by first | (with_reducible assumption) | assumption)
                                              obtain ⟨ad335, e335, hx335_0⟩ := Kd.at_int (Kd.R_reads' HO_13.out).2.2 x17_5 p335 q335
                                              obtain rfl : ad334 = ad335 := (by injection e335)
                                              replace p335 := eq_true p335
                                              replace q335 := eq_true q335
                                              obtain ⟨Ao70, co70, eo70⟩ := Kd.R_slice HO_14.out
                                              subst eo70
                                              have p343 : 0 ≤ (x17_5 : Int) := of_decide_eq_true (by first | (with_reducible assumption) | assumption)
                                              have q343 : x17_5 < (x14_3.length : Int) := of_decide_eq_true (by first | (with_reducible assumption) | assumption)
                                              obtain ⟨ad343, e343, hx343_0⟩ := Kd.at_bool (Kd.R_reads' HO_14.out).2.2 x17_5 p343 q343
                                              (try rw [← Nbq65.out] at hx343_0); (try rw [← Nbq65.out] at hw343_0)
                                              cases e343
                                              replace p343 := eq_true p343
                                              replace q343 := eq_true q343
                                              go_wp2
                                              go_roundg k5
                                              case measure => have := HJ6.out; have := HJ13.out; have := HK3.out; have := HJ39.out; have := HK5.out; omega
                                              case rel => exact ⟨(wrap64 (x17_5 + 1)), (by first | rfl | (simp; done) | (simp [*]; done)), H', ⟨by have := HJ6.out; have := HJ13.out; have := HK3.out; have := HJ39.out; have := HK5.out; omega⟩, ⟨by (with_reducible repeat (first | apply Kd.R_alloc | apply Kd.R_drewN | apply Kd.R_drew)); exact HO_0.out⟩, ⟨by (with_reducible repeat (first | apply Kd.R_alloc | apply Kd.R_drewN | apply Kd.R_drew)); exact HO_13.out⟩, ⟨by (with_reducible repeat (first | apply Kd.R_alloc | apply Kd.R_drewN | apply Kd.R_drew)); exact HO_14.out⟩, ⟨by repeat (first | (with_reducible first | exact HB.out | apply below_alloc | apply pw_below_drewN | apply below_drew1) | exact HB.out)⟩⟩
                                          · rw [if_neg c64] at H
                                            exact absurd H (by simp)
                                    · rw [if_neg c47] at H
                                      exact absurd H (by simp)
                                  · rw [if_neg c46] at H
                                    exact absurd H (by simp)
                                · rw [if_neg c45] at H
                                  have c45b0 : decide (x17_5 < (t311.length : Int)) = false := decide_eq_false c45
                                  clear c45
                                  replace H := Option.bind_eq_some_iff.mp H
                                  obtain ⟨t333, A710, H⟩ := H
                                  replace H : (some t333) = some r := H
                                  have A71 := Aside0.mk A710
                                  clear A710
                                  obtain rfl := Option.some.inj H
                                  go_wp2_with (first | ((with_reducible refine gate_callee (f := 16) rfl ?_); refine goesL_ (some 183) rfl rfl Tryd.func16 (by kernel_rfl) rfl #[] rfl (by (try simp only [List.map_toArray, List.map_cons, List.map_nil]); first | done | rfl | (simp only [List.length_drop, List.length_take]; rfl)) ?_; (with_reducible refine (jalousielaw41_live.calls k5  t333 _ A71.out).mono ?_); rintro e w72 ⟨rfl, hb⟩; refine ⟨_, rfl, ?_⟩; have n0_ := Aside0.mk (Kd.R_below (by (with_reducible repeat (first | apply Kd.R_alloc | apply Kd.R_drewN | apply Kd.R_drew)); exact HO_0.out) hb); have n1_ := Aside0.mk (Kd.R_below (by (with_reducible repeat (first | apply Kd.R_alloc | apply Kd.R_drewN | apply Kd.R_drew)); exact HO_13.out) hb); have n2_ := Aside0.mk (Kd.R_below (by (with_reducible repeat (first | apply Kd.R_alloc | apply Kd.R_drewN | apply Kd.R_drew)); exact HO_14.out) hb); have n3_ := Aside0.mk (below_step (by repeat (first | (with_reducible first | exact HB.out | apply below_alloc | apply pw_below_drewN | apply below_drew1) | exact HB.out)) hb); clear HO_0; clear HO_13; clear HO_14; clear HB; have HO_0 := n0_; have HO_13 := n1_; have HO_14 := n2_; have HB := n3_; clear n0_ n1_ n2_ n3_; (try clear hb); (try clear hb2); (try clear hk); (try clear hi)))
                                  go_ret
                                  exact ⟨by first | rfl | (simp [errW_none, errW_some] <;> rfl) | (simp only [← hji5]; first | rfl | (simp [errW_none, errW_some] <;> rfl)) | (simp [*, errW_none, errW_some] <;> rfl), by repeat (first | (with_reducible first | exact HB.out | apply below_alloc | apply pw_below_drewN | apply below_drew1) | exact HB.out)⟩
              · rw [if_neg c25] at H
                exact absurd H (by simp)
            · rw [if_neg c24] at H
              exact absurd H (by simp)

end Go.Proofs.YtcmnofbpcmnnhaaDoor.F
