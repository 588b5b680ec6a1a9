-- PRINTED by print.py (a twelfth state) out of the translation. Not trusted: Lean checks it.
import Derived.Test.YtdbdfnkhbcgklaaV0
import Derived.Test.YtdbdfnkhbcgklaaV6
import Derived.Test.YtdbdfnkhbcgklaaV16
import Derived.Test.YtdbdfnkhbcgklaaV17
import Derived.Test.YtdbdfnkhbcgklaaV28
namespace Go.Proofs.Ytdbdfnkhbcgklaa.V
open Go.RowKit Go.Proofs.YtdbdfnkhbcgklaaW.PrintWords Go.Proofs.YtdbdfnkhbcgklaaW.PrintLast Go.Proofs.YtdbdfnkhbcgklaaW.PrintMore
attribute [local go_sem] max2_int min2_int max_two min_two max_three min_three max_four min_four   -- for this text's walks alone
set_option linter.unusedVariables false
set_option linter.unusedSimpArgs false

/-! ### jalousielaw05_ViewPuts: function 11 -/
mutual
def jalousielaw05_ViewPuts.j0 : Nat → List (S63) → ByteArray → Int → Int → Bool → Int → Int → Int → Int → List (S60) → List Int → Option (Bool)
  | 0, _, _, _, _, _, _, _, _, _, _, _ => none
  | k + 1, x0, x3, x12, x13, x47, x380000, x380001, x381000, x381001, x388000, x388001 => if x47 = true then (some false) else ((some (([] : List (S63)) : List (S63))).bind fun y390 => (if 0 ≤ x13 then (if x13 ≤ (x0.length : Int) then ((some (x0.take (x13 : Int).toNat : List (S63))).bind fun y393 => (if y390.length + y393.length < 2513169434916 then ((some (y390 ++ y393 : List (S63))).bind fun y397 => (if y397.length < 2513169434916 then ((some (y397 ++ [(⟨0, (⟨x380000, x380001⟩ : S25), false, (⟨x3, false⟩ : S60)⟩ : S63)] : List (S63))).bind fun y400 => ((some (x0.drop (x13 : Int).toNat : List (S63))).bind fun y403 => (if y400.length + y403.length < 2513169434916 then ((some (y400 ++ y403 : List (S63))).bind fun y407 => ((view_Of.f y407 x380000 x380001 (⟨#[46, 46, 46]⟩ : ByteArray)).bind fun bt410 => (if (bt410.1.length : Int) = (wrap64 ((x388000.length : Int) + 1)) then (if 0 ≤ x12 then (if x12 < (bt410.1.length : Int) then (jalousielaw05_ViewPuts.j1 k x0 x12 y407 (((rd_T60 bt410.1 x12).f0).toList != x3.toList) x380000 x380001 x381000 x381001 x388000 x388001 bt410.1 bt410.2) else (none)) else (none)) else (jalousielaw05_ViewPuts.j1 k x0 x12 y407 true x380000 x380001 x381000 x381001 x388000 x388001 bt410.1 bt410.2)))) else (none)))) else (none))) else (none))) else (none)) else (none)))
def jalousielaw05_ViewPuts.j1 : Nat → List (S63) → Int → List (S63) → Bool → Int → Int → Int → Int → List (S60) → List Int → List (S60) → List Int → Option (Bool)
  | 0, _, _, _, _, _, _, _, _, _, _, _, _ => none
  | k + 1, x0, x12, x15, x85, x380000, x380001, x381000, x381001, x388000, x388001, x417000, x417001 => if x85 = true then (some false) else (jalousielaw05_ViewPuts.l0 k x0 x12 x15 0 x380000 x380001 x381000 x381001 x388000 x388001 x417000 x417001)
def jalousielaw05_ViewPuts.l0 : Nat → List (S63) → Int → List (S63) → Int → Int → Int → Int → Int → List (S60) → List Int → List (S60) → List Int → Option (Bool)
  | 0, _, _, _, _, _, _, _, _, _, _, _, _ => none
  | k + 1, x0, x12, x15, x17, x380000, x380001, x381000, x381001, x388000, x388001, x417000, x417001 => if x17 < (x388000.length : Int) then (if 0 ≤ x17 then (if x17 < (x417000.length : Int) then (if x17 ≥ x12 then (if 0 ≤ (wrap64 (x17 + 1)) then (if (wrap64 (x17 + 1)) < (x417000.length : Int) then (if ((rd_T60 x417000 (wrap64 (x17 + 1))).f0).toList = ((rd_T60 x388000 x17).f0).toList then (jalousielaw05_ViewPuts.l0 k x0 x12 x15 (wrap64 (x17 + 1)) x380000 x380001 x381000 x381001 x388000 x388001 x417000 x417001) else (some false)) else (none)) else (none)) else (if ((rd_T60 x417000 x17).f0).toList = ((rd_T60 x388000 x17).f0).toList then (jalousielaw05_ViewPuts.l0 k x0 x12 x15 (wrap64 (x17 + 1)) x380000 x380001 x381000 x381001 x388000 x388001 x417000 x417001) else (some false))) else (none)) else (none)) else ((jalousieref02_Join.f k x380000 x380001 x381000 x381001).bind fun bt423 => ((jalousielaw05_live.f k).bind fun t426 => (if t426 = true then ((view_Of.f x15 bt423.1 bt423.2 (⟨#[46, 46, 46]⟩ : ByteArray)).bind fun bt427 => ((view_Of.f x0 bt423.1 bt423.2 (⟨#[46, 46, 46]⟩ : ByteArray)).bind fun bt433 => (some ((bt427.1.length : Int) == (wrap64 ((bt433.1.length : Int) + 1)))))) else (some false))))
end
def jalousielaw05_ViewPuts.f (k : Nat) (l0 : List (S63)) (a1_0 : Int) (a1_1 : Int) (a2 : Int) (a3 : ByteArray) (a4_0 : Int) (a4_1 : Int) : Option (Bool) := (view_Of.f l0 a1_0 a1_1 (⟨#[46, 46, 46]⟩ : ByteArray)).bind fun bt381 => (if (wrap64 ((bt381.2.length : Int) + 1)) = 0 then (none) else ((view_After.f k bt381.1 bt381.2 (Int.tmod (wrap64 (a2)) (wrap64 ((bt381.2.length : Int) + 1)))).bind fun bt388 => (if bt388.2 = 0 then (if bt388.1 < 0 then (jalousielaw05_ViewPuts.j0 k l0 a3 (Int.tmod (wrap64 (a2)) (wrap64 ((bt381.2.length : Int) + 1))) bt388.1 true a1_0 a1_1 a4_0 a4_1 bt381.1 bt381.2) else (jalousielaw05_ViewPuts.j0 k l0 a3 (Int.tmod (wrap64 (a2)) (wrap64 ((bt381.2.length : Int) + 1))) bt388.1 (decide (bt388.1 > (l0.length : Int))) a1_0 a1_1 a4_0 a4_1 bt381.1 bt381.2)) else (jalousielaw05_ViewPuts.j0 k l0 a3 (Int.tmod (wrap64 (a2)) (wrap64 ((bt381.2.length : Int) + 1))) bt388.1 true a1_0 a1_1 a4_0 a4_1 bt381.1 bt381.2))))
theorem jalousielaw05_ViewPuts.mono_l : ∀ k, (∀ y0 y1 y2 y3 y4 y5 y6 y7 y8 y9 y10, LeO (jalousielaw05_ViewPuts.j0 k y0 y1 y2 y3 y4 y5 y6 y7 y8 y9 y10) (jalousielaw05_ViewPuts.j0 (k + 1) y0 y1 y2 y3 y4 y5 y6 y7 y8 y9 y10)) ∧ (∀ y0 y1 y2 y3 y4 y5 y6 y7 y8 y9 y10 y11, LeO (jalousielaw05_ViewPuts.j1 k y0 y1 y2 y3 y4 y5 y6 y7 y8 y9 y10 y11) (jalousielaw05_ViewPuts.j1 (k + 1) y0 y1 y2 y3 y4 y5 y6 y7 y8 y9 y10 y11)) ∧ (∀ y0 y1 y2 y3 y4 y5 y6 y7 y8 y9 y10 y11, LeO (jalousielaw05_ViewPuts.l0 k y0 y1 y2 y3 y4 y5 y6 y7 y8 y9 y10 y11) (jalousielaw05_ViewPuts.l0 (k + 1) y0 y1 y2 y3 y4 y5 y6 y7 y8 y9 y10 y11))
  | 0 => ⟨fun _ _ _ _ _ _ _ _ _ _ _ r h => by simp [jalousielaw05_ViewPuts.j0] at h, fun _ _ _ _ _ _ _ _ _ _ _ _ r h => by simp [jalousielaw05_ViewPuts.j1] at h, fun _ _ _ _ _ _ _ _ _ _ _ _ r h => by simp [jalousielaw05_ViewPuts.l0] at h⟩
  | k + 1 => by
    obtain ⟨ih0, ih1, ih2⟩ := jalousielaw05_ViewPuts.mono_l k
    refine ⟨?_, ?_, ?_⟩
    · intro y0 y1 y2 y3 y4 y5 y6 y7 y8 y9 y10
      unfold jalousielaw05_ViewPuts.j0
      repeat' first
      | (with_reducible exact ih0 _ _ _ _ _ _ _ _ _ _ _)
      | (with_reducible exact ih1 _ _ _ _ _ _ _ _ _ _ _ _)
      | (with_reducible exact ih2 _ _ _ _ _ _ _ _ _ _ _ _)
      | (with_reducible exact jalousielaw05_live.mono _)
      | (with_reducible exact jalousieref02_Join.mono _ _ _ _ _)
      | (with_reducible exact view_After.mono _ _ _ _)
      | (with_reducible exact LeO.refl _)
      | (with_reducible exact LeO.none _)
      | (with_reducible refine LeO.ite ?_ ?_)
      | (with_reducible refine LeO.bind ?_ (fun _ => ?_))
      | exact ih0 _ _ _ _ _ _ _ _ _ _ _
      | exact ih1 _ _ _ _ _ _ _ _ _ _ _ _
      | exact ih2 _ _ _ _ _ _ _ _ _ _ _ _
      | exact jalousielaw05_live.mono _
      | exact jalousieref02_Join.mono _ _ _ _ _
      | exact view_After.mono _ _ _ _
      | exact LeO.none _
      | refine LeO.ite ?_ ?_
      | refine LeO.bind ?_ (fun _ => ?_)
    · intro y0 y1 y2 y3 y4 y5 y6 y7 y8 y9 y10 y11
      unfold jalousielaw05_ViewPuts.j1
      repeat' first
      | (with_reducible exact ih0 _ _ _ _ _ _ _ _ _ _ _)
      | (with_reducible exact ih1 _ _ _ _ _ _ _ _ _ _ _ _)
      | (with_reducible exact ih2 _ _ _ _ _ _ _ _ _ _ _ _)
      | (with_reducible exact jalousielaw05_live.mono _)
      | (with_reducible exact jalousieref02_Join.mono _ _ _ _ _)
      | (with_reducible exact view_After.mono _ _ _ _)
      | (with_reducible exact LeO.refl _)
      | (with_reducible exact LeO.none _)
      | (with_reducible refine LeO.ite ?_ ?_)
      | (with_reducible refine LeO.bind ?_ (fun _ => ?_))
      | exact ih0 _ _ _ _ _ _ _ _ _ _ _
      | exact ih1 _ _ _ _ _ _ _ _ _ _ _ _
      | exact ih2 _ _ _ _ _ _ _ _ _ _ _ _
      | exact jalousielaw05_live.mono _
      | exact jalousieref02_Join.mono _ _ _ _ _
      | exact view_After.mono _ _ _ _
      | exact LeO.none _
      | refine LeO.ite ?_ ?_
      | refine LeO.bind ?_ (fun _ => ?_)
    · intro y0 y1 y2 y3 y4 y5 y6 y7 y8 y9 y10 y11
      unfold jalousielaw05_ViewPuts.l0
      repeat' first
      | (with_reducible exact ih0 _ _ _ _ _ _ _ _ _ _ _)
      | (with_reducible exact ih1 _ _ _ _ _ _ _ _ _ _ _ _)
      | (with_reducible exact ih2 _ _ _ _ _ _ _ _ _ _ _ _)
      | (with_reducible exact jalousielaw05_live.mono _)
      | (with_reducible exact jalousieref02_Join.mono _ _ _ _ _)
      | (with_reducible exact view_After.mono _ _ _ _)
      | (with_reducible exact LeO.refl _)
      | (with_reducible exact LeO.none _)
      | (with_reducible refine LeO.ite ?_ ?_)
      | (with_reducible refine LeO.bind ?_ (fun _ => ?_))
      | exact ih0 _ _ _ _ _ _ _ _ _ _ _
      | exact ih1 _ _ _ _ _ _ _ _ _ _ _ _
      | exact ih2 _ _ _ _ _ _ _ _ _ _ _ _
      | exact jalousielaw05_live.mono _
      | exact jalousieref02_Join.mono _ _ _ _ _
      | exact view_After.mono _ _ _ _
      | exact LeO.none _
      | refine LeO.ite ?_ ?_
      | refine LeO.bind ?_ (fun _ => ?_)
theorem jalousielaw05_ViewPuts.mono : ∀ a0 a1 a2 a3 a4 a5 a6 k, LeO (jalousielaw05_ViewPuts.f k a0 a1 a2 a3 a4 a5 a6) (jalousielaw05_ViewPuts.f (k + 1) a0 a1 a2 a3 a4 a5 a6) := by
  intro a0 a1 a2 a3 a4 a5 a6 k
  obtain ⟨ih0, ih1, ih2⟩ := jalousielaw05_ViewPuts.mono_l k
  unfold jalousielaw05_ViewPuts.f
  repeat' first
      | (with_reducible exact ih0 _ _ _ _ _ _ _ _ _ _ _)
      | (with_reducible exact ih1 _ _ _ _ _ _ _ _ _ _ _ _)
      | (with_reducible exact ih2 _ _ _ _ _ _ _ _ _ _ _ _)
      | (with_reducible exact jalousielaw05_live.mono _)
      | (with_reducible exact jalousieref02_Join.mono _ _ _ _ _)
      | (with_reducible exact view_After.mono _ _ _ _)
      | (with_reducible exact LeO.refl _)
      | (with_reducible exact LeO.none _)
      | (with_reducible refine LeO.ite ?_ ?_)
      | (with_reducible refine LeO.bind ?_ (fun _ => ?_))
      | exact ih0 _ _ _ _ _ _ _ _ _ _ _
      | exact ih1 _ _ _ _ _ _ _ _ _ _ _ _
      | exact ih2 _ _ _ _ _ _ _ _ _ _ _ _
      | exact jalousielaw05_live.mono _
      | exact jalousieref02_Join.mono _ _ _ _ _
      | exact view_After.mono _ _ _ _
      | exact LeO.none _
      | refine LeO.ite ?_ ?_
      | refine LeO.bind ?_ (fun _ => ?_)
def jalousielaw05_ViewPuts.T18 : Bool × List (List Nat × List Nat) := (true, [([], []), ([0], [0]), ([], []), ([2], [2]), ([], []), ([3, 4], [3, 4]), ([5], [5]), ([6], [6]), ([1, 7], [1, 7])])
def jalousielaw05_ViewPuts.B18 : List Nat := [0, 1, 0, 4, 0, 28, 60, 124, 255]
theorem jalousielaw05_ViewPuts.tab18 : rtab .any (opsOf Try.f11 18) = jalousielaw05_ViewPuts.T18 := by kernel_rfl
theorem jalousielaw05_ViewPuts.bits18 : waitsOk jalousielaw05_ViewPuts.T18.2 jalousielaw05_ViewPuts.B18 = true := by kernel_rfl
def jalousielaw05_ViewPuts.T21 : Bool × List (List Nat × List Nat) := (true, [([], []), ([0, 0], [0]), ([1], [1]), ([1], [1]), ([2, 3, 1, 1], [1, 2, 3]), ([4, 1], [1, 4]), ([5, 1], [1, 5]), ([1], [1]), ([1], [1]), ([7, 8, 4, 1], [1, 7, 8]), ([9, 1], [1, 9]), ([10, 1], [1, 10]), ([11, 1], [1, 11]), ([6, 12, 1], [1, 6, 12]), ([1, 13], [1, 13]), ([14, 9, 0, 1, 2, 3, 4, 5, 6, 7, 8, 9, 10, 11, 12, 13, 14], [14])])
def jalousielaw05_ViewPuts.B21 : List Nat := [0, 1, 3, 3, 15, 31, 63, 3, 3, 415, 927, 1951, 3999, 8191, 16383, 32767]
theorem jalousielaw05_ViewPuts.tab21 : rtab .any (opsOf Try.f11 21) = jalousielaw05_ViewPuts.T21 := by kernel_rfl
theorem jalousielaw05_ViewPuts.bits21 : waitsOk jalousielaw05_ViewPuts.T21.2 jalousielaw05_ViewPuts.B21 = true := by kernel_rfl
set_option maxHeartbeats 8000000 in
set_option maxRecDepth 100000 in
theorem jalousielaw05_ViewPuts.calls (k : Nat) (A0 : Option Addr) (c0 : Nat) (l0 : List (S63)) (a1_0 : Int) (a1_1 : Int) (a2 : Int) (a3 : ByteArray) (a4_0 : Int) (a4_1 : Int) (r : Bool) (w : World) (hr0 : Kd.C k63 w A0 l0.length l0) (hc0 : l0.length ≤ c0) (h : jalousielaw05_ViewPuts.f k l0 a1_0 a1_1 a2 a3 a4_0 a4_1 = some r) (HRT : Aside0 (r = true) := by first | exact ⟨rfl⟩ | assumption) :
    Calls Try.prog 11 #[.slice A0 l0.length c0, .agg #[.int .i64 a1_0, .int .u64 a1_1], .int .u8 a2, .string a3, .agg #[.int .i64 a4_0, .int .u64 a4_1]] w fun e w' => e = .returned (.bool r) ∧ Below w.heap.size w w' := by
  have hu25 := Try.underlying25
  have hu42 := Try.underlying42
  have hu60 := Try.underlying60
  have hu63 := Try.underlying63
  have HR0 := Aside0.mk hr0
  have HC0 := Aside0.mk hc0
  clear hr0 hc0
  have HB := Aside0.mk (Below.refl w.heap.size w)
  have H : ((view_Of.f l0 a1_0 a1_1 (⟨#[46, 46, 46]⟩ : ByteArray)).bind fun bt381 => (if (wrap64 ((bt381.2.length : Int) + 1)) = 0 then (none) else ((view_After.f k bt381.1 bt381.2 (Int.tmod (wrap64 (a2)) (wrap64 ((bt381.2.length : Int) + 1)))).bind fun bt388 => (if bt388.2 = 0 then (if bt388.1 < 0 then (jalousielaw05_ViewPuts.j0 k l0 a3 (Int.tmod (wrap64 (a2)) (wrap64 ((bt381.2.length : Int) + 1))) bt388.1 true a1_0 a1_1 a4_0 a4_1 bt381.1 bt381.2) else (jalousielaw05_ViewPuts.j0 k l0 a3 (Int.tmod (wrap64 (a2)) (wrap64 ((bt381.2.length : Int) + 1))) bt388.1 (decide (bt388.1 > (l0.length : Int))) a1_0 a1_1 a4_0 a4_1 bt381.1 bt381.2)) else (jalousielaw05_ViewPuts.j0 k l0 a3 (Int.tmod (wrap64 (a2)) (wrap64 ((bt381.2.length : Int) + 1))) bt388.1 true a1_0 a1_1 a4_0 a4_1 bt381.1 bt381.2))))) = some r := h
  clear h
  replace H := Option.bind_eq_some_iff.mp H
  obtain ⟨⟨t381, t384⟩, A60, H⟩ := H
  replace H : (if (wrap64 ((t384.length : Int) + 1)) = 0 then (none) else ((view_After.f k t381 t384 (Int.tmod (wrap64 (a2)) (wrap64 ((t384.length : Int) + 1)))).bind fun bt388 => (if bt388.2 = 0 then (if bt388.1 < 0 then (jalousielaw05_ViewPuts.j0 k l0 a3 (Int.tmod (wrap64 (a2)) (wrap64 ((t384.length : Int) + 1))) bt388.1 true a1_0 a1_1 a4_0 a4_1 t381 t384) else (jalousielaw05_ViewPuts.j0 k l0 a3 (Int.tmod (wrap64 (a2)) (wrap64 ((t384.length : Int) + 1))) bt388.1 (decide (bt388.1 > (l0.length : Int))) a1_0 a1_1 a4_0 a4_1 t381 t384)) else (jalousielaw05_ViewPuts.j0 k l0 a3 (Int.tmod (wrap64 (a2)) (wrap64 ((t384.length : Int) + 1))) bt388.1 true a1_0 a1_1 a4_0 a4_1 t381 t384)))) = some r := H
  have A6 := Aside0.mk A60
  clear A60
  by_cases c7 : (wrap64 ((t384.length : Int) + 1)) = 0
  · rw [if_pos c7] at H
    exact absurd H (by simp)
  · rw [if_neg c7] at H
    have c7b0 : ((wrap64 ((t384.length : Int) + 1)) == 0) = false := beq_eq_false_iff_ne.mpr c7
    have c7b1 : ((wrap64 ((t384.length : Int) + 1)) != 0) = true := bne_iff_ne.mpr c7
    replace H := Option.bind_eq_some_iff.mp H
    obtain ⟨⟨t388, t389⟩, A80, H⟩ := H
    replace H : (if t389 = 0 then (if t388 < 0 then (jalousielaw05_ViewPuts.j0 k l0 a3 (Int.tmod (wrap64 (a2)) (wrap64 ((t384.length : Int) + 1))) t388 true a1_0 a1_1 a4_0 a4_1 t381 t384) else (jalousielaw05_ViewPuts.j0 k l0 a3 (Int.tmod (wrap64 (a2)) (wrap64 ((t384.length : Int) + 1))) t388 (decide (t388 > (l0.length : Int))) a1_0 a1_1 a4_0 a4_1 t381 t384)) else (jalousielaw05_ViewPuts.j0 k l0 a3 (Int.tmod (wrap64 (a2)) (wrap64 ((t384.length : Int) + 1))) t388 true a1_0 a1_1 a4_0 a4_1 t381 t384)) = some r := H
    have A8 := Aside0.mk A80
    clear A80
    have HC9 := Aside0.mk H
    clear H
    go_enter Try.func11, Try.ntmps11
    go_upto_region 4 with (first | ((with_reducible refine gate_dst (N := 6) rfl ?_); (try (refine gate_guard (by rfl) ?_; dsimp only)); refine box_event ?hg (N := 6) ?hd (cs := #[.int .i64 a1_0, .int .u64 a1_1]) (t := 25) ?hr ?_; (case hd => rfl); (case hg => rfl); (case hr => first | (go_simp; done) | (go_simp; rfl)); intro gb379 hg w10 hbox hb; have n0_ := Aside0.mk (below_step (by repeat (first | (with_reducible first | exact HB.out | apply below_alloc | apply pw_below_drewN | apply below_drew1) | exact HB.out)) hb); have n1_ := Aside0.mk (hbox); have n2_ := Aside0.mk ((by rw [hg]; exact (below_size (by repeat (first | (with_reducible first | exact HB.out | apply below_alloc | apply pw_below_drewN | apply below_drew1) | exact HB.out))) : w.heap.size ≤ gb379)); have n3_ := Aside0.mk ((by rw [hg]; exact (below_size (by repeat (first | (with_reducible first | exact HB.out | apply below_alloc | apply pw_below_drewN | apply below_drew1) | exact HB.out))) : w.heap.size ≤ gb379)); clear HB; have HB := n0_; have BK379 := n1_; have GW379 := n2_; have GE379 := n3_; clear n0_ n1_ n2_ n3_; clear hb hbox hg) | ((with_reducible refine gate_dst (N := 9) rfl ?_); (try (refine gate_guard (by rfl) ?_; dsimp only)); refine box_event ?hg (N := 9) ?hd (cs := #[.int .i64 a4_0, .int .u64 a4_1]) (t := 25) ?hr ?_; (case hd => rfl); (case hg => rfl); (case hr => first | (go_simp; done) | (go_simp; rfl)); intro gb380 hg w11 hbox hb; have n0_ := Aside0.mk (blk_below (g := gb379) (o := .cells #[.int .i64 a1_0, .int .u64 a1_1] 25 (0, 0)) (by (with_reducible repeat (first | refine blk_drewN ?_ _ | refine blk_drew ?_ | refine blk_alloc ?_ _)); exact BK379.out) hb); have n1_ := Aside0.mk (below_step (by repeat (first | (with_reducible first | exact HB.out | apply below_alloc | apply pw_below_drewN | apply below_drew1 | refine below_set ?_ GE379.out) | exact HB.out)) hb); have n2_ := Aside0.mk (hbox); have n3_ := Aside0.mk ((by rw [hg]; exact (below_size (by repeat (first | (with_reducible first | exact HB.out | apply below_alloc | apply pw_below_drewN | apply below_drew1 | refine below_set ?_ GE379.out) | exact HB.out))) : w.heap.size ≤ gb380)); have n4_ := Aside0.mk ((by rw [hg]; exact (below_size (by repeat (first | (with_reducible first | exact HB.out | apply below_alloc | apply pw_below_drewN | apply below_drew1 | refine below_set ?_ GE379.out) | exact HB.out))) : w.heap.size ≤ gb380)); have n5_ := Aside0.mk ((by rw [hg]; exact Nat.ne_of_lt (blk_lt (g := gb379) (o := .cells #[.int .i64 a1_0, .int .u64 a1_1] 25 (0, 0)) (by (with_reducible repeat (first | refine blk_drewN ?_ _ | refine blk_drew ?_ | refine blk_alloc ?_ _)); exact BK379.out)) : gb379 ≠ gb380)); have n6_ := Aside0.mk ((by rw [hg]; exact Nat.ne_of_gt (blk_lt (g := gb379) (o := .cells #[.int .i64 a1_0, .int .u64 a1_1] 25 (0, 0)) (by (with_reducible repeat (first | refine blk_drewN ?_ _ | refine blk_drew ?_ | refine blk_alloc ?_ _)); exact BK379.out)) : gb380 ≠ gb379)); clear BK379; clear HB; have BK379 := n0_; have HB := n1_; have BK380 := n2_; have GW380 := n3_; have GE380 := n4_; have NB379_380 := n5_; have NB380_379 := n6_; clear n0_ n1_ n2_ n3_ n4_ n5_ n6_; clear hb hbox hg; have hnb12 := NB379_380.out; have hnc12 := NB380_379.out; have hcz13_0 : w11.cell? ⟨gb379, 0, none⟩ = some (.int .i64 a1_0) := (blk_cell BK379.out 0).trans rfl; have hcz13_1 : w11.cell? ⟨gb379, 1, none⟩ = some (.int .u64 a1_1) := (blk_cell BK379.out 1).trans rfl; have hfz13_0 := blk_frozen BK379.out 0; have hfz13_1 := blk_frozen BK379.out 1) | ((with_reducible refine gate_callee (f := 26) rfl ?_); refine goesL_ (some 22) rfl rfl Try.func26 (by kernel_rfl) rfl #[.slice A0 l0.length c0, .agg #[.int .i64 a1_0, .int .u64 a1_1], .string (⟨#[46, 46, 46]⟩ : ByteArray)] rfl (by (try simp only [List.map_toArray, List.map_cons, List.map_nil]); first | done | rfl | (simp only [List.length_drop, List.length_take]; rfl)) ?_; (with_reducible refine (view_Of.calls _ _ l0 a1_0 a1_1 (⟨#[46, 46, 46]⟩ : ByteArray) t381 t384 _ ?side1 ?side2 A6.out).mono ?_); (case side1 => repeat (first | exact (Kd.C_below HR0.out HB.out) | (with_reducible refine Kd.C_alloc ?_ _) | (with_reducible refine Kd.C_drewN ?_ _) | (with_reducible refine Kd.C_drew ?_))); (case side2 => exact HC0.out); rintro e w14 ⟨v382, v385, rfl, ho0, ho1, hb⟩; refine ⟨_, rfl, ?_⟩; have n0_ := Aside0.mk (Kd.R_lower ho0 (below_size (by repeat (first | (with_reducible first | exact HB.out | apply below_alloc | apply pw_below_drewN | apply below_drew1 | refine below_set ?_ GE379.out | refine below_set ?_ GE380.out) | exact HB.out)))); have n1_ := Aside0.mk (Kd.R_lower ho1 (below_size (by repeat (first | (with_reducible first | exact HB.out | apply below_alloc | apply pw_below_drewN | apply below_drew1 | refine below_set ?_ GE379.out | refine below_set ?_ GE380.out) | exact HB.out)))); have n2_ := Aside0.mk (blk_below (g := gb379) (o := .cells #[.int .i64 a1_0, .int .u64 a1_1] 25 (0, 0)) (by (with_reducible repeat (first | refine blk_drewN ?_ _ | refine blk_drew ?_ | refine blk_alloc ?_ _)); exact BK379.out) hb); have n3_ := Aside0.mk (blk_below (g := gb380) (o := .cells #[.int .i64 a4_0, .int .u64 a4_1] 25 (0, 0)) (by (with_reducible repeat (first | refine blk_drewN ?_ _ | refine blk_drew ?_ | refine blk_alloc ?_ _)); exact BK380.out) hb); have n4_ := Aside0.mk (below_step (by repeat (first | (with_reducible first | exact HB.out | apply below_alloc | apply pw_below_drewN | apply below_drew1 | refine below_set ?_ GE379.out | refine below_set ?_ GE380.out) | exact HB.out)) hb); clear BK379; clear BK380; clear HB; have HO383 := n0_; have HO386 := n1_; have BK379 := n2_; have BK380 := n3_; have HB := n4_; clear n0_ n1_ n2_ n3_ n4_; (try clear hb); (try clear hb2); (try clear hk); (try clear hi); (try clear ho0); (try clear ho1)) | ((with_reducible refine gate_dst (N := 11) rfl ?_); (try (refine gate_guard (by rfl) ?_; dsimp only)); refine box_event ?hg (N := 11) ?hd (cs := #[.slice none 0 0, .slice none 0 0]) (t := 42) ?hr ?_; (case hd => rfl); (case hg => rfl); (case hr => first | (go_simp; done) | (go_simp; rfl)); intro gb387 hg w15 hbox hb; have n0_ := Aside0.mk (Kd.R_below (by (with_reducible repeat (first | apply Kd.R_alloc | apply Kd.R_drewN | apply Kd.R_drew)); exact HO383.out) hb); have n1_ := Aside0.mk (Kd.R_below (by (with_reducible repeat (first | apply Kd.R_alloc | apply Kd.R_drewN | apply Kd.R_drew)); exact HO386.out) hb); have n2_ := Aside0.mk (blk_below (g := gb379) (o := .cells #[.int .i64 a1_0, .int .u64 a1_1] 25 (0, 0)) (by (with_reducible repeat (first | refine blk_drewN ?_ _ | refine blk_drew ?_ | refine blk_alloc ?_ _)); exact BK379.out) hb); have n3_ := Aside0.mk (blk_below (g := gb380) (o := .cells #[.int .i64 a4_0, .int .u64 a4_1] 25 (0, 0)) (by (with_reducible repeat (first | refine blk_drewN ?_ _ | refine blk_drew ?_ | refine blk_alloc ?_ _)); exact BK380.out) hb); have n4_ := Aside0.mk (below_step (by repeat (first | (with_reducible first | exact HB.out | apply below_alloc | apply pw_below_drewN | apply below_drew1 | refine below_set ?_ GE379.out | refine below_set ?_ GE380.out) | exact HB.out)) hb); have n5_ := Aside0.mk (hbox); have n6_ := Aside0.mk ((by rw [hg]; exact (below_size (by repeat (first | (with_reducible first | exact HB.out | apply below_alloc | apply pw_below_drewN | apply below_drew1 | refine below_set ?_ GE379.out | refine below_set ?_ GE380.out) | exact HB.out))) : w.heap.size ≤ gb387)); have n7_ := Aside0.mk ((by rw [hg]; exact (below_size (by repeat (first | (with_reducible first | exact HB.out | apply below_alloc | apply pw_below_drewN | apply below_drew1 | refine below_set ?_ GE379.out | refine below_set ?_ GE380.out) | exact HB.out))) : w.heap.size ≤ gb387)); have n8_ := Aside0.mk ((by rw [hg]; exact Nat.ne_of_lt (blk_lt (g := gb379) (o := .cells #[.int .i64 a1_0, .int .u64 a1_1] 25 (0, 0)) (by (with_reducible repeat (first | refine blk_drewN ?_ _ | refine blk_drew ?_ | refine blk_alloc ?_ _)); exact BK379.out)) : gb379 ≠ gb387)); have n9_ := Aside0.mk ((by rw [hg]; exact Nat.ne_of_gt (blk_lt (g := gb379) (o := .cells #[.int .i64 a1_0, .int .u64 a1_1] 25 (0, 0)) (by (with_reducible repeat (first | refine blk_drewN ?_ _ | refine blk_drew ?_ | refine blk_alloc ?_ _)); exact BK379.out)) : gb387 ≠ gb379)); have n10_ := Aside0.mk ((by rw [hg]; exact Nat.ne_of_lt (blk_lt (g := gb380) (o := .cells #[.int .i64 a4_0, .int .u64 a4_1] 25 (0, 0)) (by (with_reducible repeat (first | refine blk_drewN ?_ _ | refine blk_drew ?_ | refine blk_alloc ?_ _)); exact BK380.out)) : gb380 ≠ gb387)); have n11_ := Aside0.mk ((by rw [hg]; exact Nat.ne_of_gt (blk_lt (g := gb380) (o := .cells #[.int .i64 a4_0, .int .u64 a4_1] 25 (0, 0)) (by (with_reducible repeat (first | refine blk_drewN ?_ _ | refine blk_drew ?_ | refine blk_alloc ?_ _)); exact BK380.out)) : gb387 ≠ gb380)); clear HO383; clear HO386; clear BK379; clear BK380; clear HB; have HO383 := n0_; have HO386 := n1_; have BK379 := n2_; have BK380 := n3_; have HB := n4_; have BK387 := n5_; have GW387 := n6_; have GE387 := n7_; have NB379_387 := n8_; have NB387_379 := n9_; have NB380_387 := n10_; have NB387_380 := n11_; clear n0_ n1_ n2_ n3_ n4_ n5_ n6_ n7_ n8_ n9_ n10_ n11_; clear hb hbox hg; obtain ⟨Ao16, co16, eo16⟩ := Kd.R_slice HO383.out; subst eo16; have hnb17 := NB387_379.out; have hnc17 := NB379_387.out; have hnb18 := NB387_380.out; have hnc18 := NB380_387.out; have hcz19_0 : w15.cell? ⟨gb387, 0, none⟩ = some (.slice none 0 0) := (blk_cell BK387.out 0).trans rfl; have hcz19_1 : w15.cell? ⟨gb387, 1, none⟩ = some (.slice none 0 0) := (blk_cell BK387.out 1).trans rfl; have hfz19_0 := blk_frozen BK387.out 0; have hfz19_1 := blk_frozen BK387.out 1; obtain ⟨Ao20, co20, eo20⟩ := Kd.R_slice HO386.out; subst eo20) | ((with_reducible refine gate_callee (f := 38) rfl ?_); refine goesL_ (some 33) rfl rfl Try.func38 (by kernel_rfl) rfl #[.agg #[.slice Ao16 t381.length co16, .slice Ao20 t384.length co20], .int .i64 (Int.tmod (wrap64 (a2)) (wrap64 ((t384.length : Int) + 1)))] rfl (by (try simp only [List.map_toArray, List.map_cons, List.map_nil]); first | done | rfl | (simp only [List.length_drop, List.length_take]; rfl)) ?_; (with_reducible refine (view_After.calls k _ _ t381 _ _ t384 (Int.tmod (wrap64 (a2)) (wrap64 ((t384.length : Int) + 1))) t388 t389 _ ?side1 ?side2 ?side3 ?side4 A8.out).mono ?_); (case side1 => refine (Kd.R_reads' (e := 60) (base := w.heap.size) (ok := fun k_ => True) (n := t381.length) (c := co16) ?_).2.2; exact (by (with_reducible repeat (first | apply Kd.R_alloc | apply Kd.R_drewN | apply Kd.R_drew)); exact (Kd.R_mono (Kd.R_far (p := ⟨gb387, 1, none⟩) (Kd.R_far (p := ⟨gb387, 0, none⟩) (Kd.R_types HO383.out BK387.out (by decide)) (fun _ hk => hk.2) (.slice Ao16 t381.length co16)) (fun _ hk => hk.2) (.slice Ao20 t384.length co20)) (fun _ h_ => h_.1)))); (case side2 => exact (Kd.R_reads' HO383.out).2.1); (case side3 => refine (Kd.R_reads' (e := 3) (base := w.heap.size) (ok := fun k_ => True) (n := t384.length) (c := co20) ?_).2.2; exact (by (with_reducible repeat (first | apply Kd.R_alloc | apply Kd.R_drewN | apply Kd.R_drew)); exact (Kd.R_mono (Kd.R_far (p := ⟨gb387, 1, none⟩) (Kd.R_far (p := ⟨gb387, 0, none⟩) (Kd.R_types HO386.out BK387.out (by decide)) (fun _ hk => hk.2) (.slice Ao16 t381.length co16)) (fun _ hk => hk.2) (.slice Ao20 t384.length co20)) (fun _ h_ => h_.1)))); (case side4 => exact (Kd.R_reads' HO386.out).2.1); rintro e w21 ⟨rfl, hb⟩; refine ⟨_, rfl, ?_⟩; have n0_ := Aside0.mk (Kd.R_below (by (with_reducible repeat (first | apply Kd.R_alloc | apply Kd.R_drewN | apply Kd.R_drew)); exact (Kd.R_mono (Kd.R_far (p := ⟨gb387, 1, none⟩) (Kd.R_far (p := ⟨gb387, 0, none⟩) (Kd.R_types HO383.out BK387.out (by decide)) (fun _ hk => hk.2) (.slice Ao16 t381.length co16)) (fun _ hk => hk.2) (.slice Ao20 t384.length co20)) (fun _ h_ => h_.1))) hb); have n1_ := Aside0.mk (Kd.R_below (by (with_reducible repeat (first | apply Kd.R_alloc | apply Kd.R_drewN | apply Kd.R_drew)); exact (Kd.R_mono (Kd.R_far (p := ⟨gb387, 1, none⟩) (Kd.R_far (p := ⟨gb387, 0, none⟩) (Kd.R_types HO386.out BK387.out (by decide)) (fun _ hk => hk.2) (.slice Ao16 t381.length co16)) (fun _ hk => hk.2) (.slice Ao20 t384.length co20)) (fun _ h_ => h_.1))) hb); have n2_ := Aside0.mk (blk_below (g := gb379) (o := .cells #[.int .i64 a1_0, .int .u64 a1_1] 25 (0, 0)) (by (with_reducible repeat (first | refine blk_drewN ?_ _ | refine blk_drew ?_ | refine blk_alloc ?_ _)); refine blk_far ?_ NB379_387.out _; (with_reducible repeat (first | refine blk_drewN ?_ _ | refine blk_drew ?_ | refine blk_alloc ?_ _)); refine blk_far ?_ NB379_387.out _; (with_reducible repeat (first | refine blk_drewN ?_ _ | refine blk_drew ?_ | refine blk_alloc ?_ _)); exact BK379.out) hb); have n3_ := Aside0.mk (blk_below (g := gb380) (o := .cells #[.int .i64 a4_0, .int .u64 a4_1] 25 (0, 0)) (by (with_reducible repeat (first | refine blk_drewN ?_ _ | refine blk_drew ?_ | refine blk_alloc ?_ _)); refine blk_far ?_ NB380_387.out _; (with_reducible repeat (first | refine blk_drewN ?_ _ | refine blk_drew ?_ | refine blk_alloc ?_ _)); refine blk_far ?_ NB380_387.out _; (with_reducible repeat (first | refine blk_drewN ?_ _ | refine blk_drew ?_ | refine blk_alloc ?_ _)); exact BK380.out) hb); have n4_ := Aside0.mk (blk_below (g := gb387) (o := .cells #[.slice Ao16 t381.length co16, .slice Ao20 t384.length co20] 42 (0, 0)) (by (with_reducible repeat (first | refine blk_drewN ?_ _ | refine blk_drew ?_ | refine blk_alloc ?_ _)); refine blk_put (cs := #[.slice Ao16 t381.length co16, .slice none 0 0]) ?_ 1 _ rfl; (with_reducible repeat (first | refine blk_drewN ?_ _ | refine blk_drew ?_ | refine blk_alloc ?_ _)); refine blk_put (cs := #[.slice none 0 0, .slice none 0 0]) ?_ 0 _ rfl; (with_reducible repeat (first | refine blk_drewN ?_ _ | refine blk_drew ?_ | refine blk_alloc ?_ _)); exact BK387.out) hb); have n5_ := Aside0.mk (below_step (by repeat (first | (with_reducible first | exact HB.out | apply below_alloc | apply pw_below_drewN | apply below_drew1 | refine below_set ?_ GE379.out | refine below_set ?_ GE380.out | refine below_set ?_ GE387.out) | exact HB.out)) hb); clear HO383; clear HO386; clear BK379; clear BK380; clear BK387; clear HB; have HO383 := n0_; have HO386 := n1_; have BK379 := n2_; have BK380 := n3_; have BK387 := n4_; have HB := n5_; clear n0_ n1_ n2_ n3_ n4_ n5_; (try clear hb); (try clear hb2); (try clear hk); (try clear hi)))
    (try simp only [Act.put, List.setIfInBounds_toArray, List.set_cons_zero, List.set_cons_succ])
    go_cut [47] (fun v47 wc => ∃ (kq : Nat) (x47_8 : Bool), v47 = .bool x47_8 ∧ Aside0 (jalousielaw05_ViewPuts.j0 kq l0 a3 (Int.tmod (wrap64 (a2)) (wrap64 ((t384.length : Int) + 1))) t388 x47_8 a1_0 a1_1 a4_0 a4_1 t381 t384 = some r) ∧ Aside0 (kq ≤ k) ∧ Aside0 (Kd.R k60 60 wc w.heap.size (fun _ => True) (.slice Ao16 t381.length co16) t381) ∧ Aside0 (Kd.R (Kd.int .i64) 3 wc w.heap.size (fun _ => True) (.slice Ao20 t384.length co20) t384) ∧ Aside0 (wc.heap[gb379]? = some (.cells #[.int .i64 a1_0, .int .u64 a1_1] 25 (0, 0))) ∧ Aside0 (wc.heap[gb380]? = some (.cells #[.int .i64 a4_0, .int .u64 a4_1] 25 (0, 0))) ∧ Aside0 (wc.heap[gb387]? = some (.cells #[(.slice Ao16 t381.length co16), (.slice Ao20 t384.length co20)] 42 (0, 0))) ∧ Aside0 (Below w.heap.size w wc))
    case first =>
      have H := HC9.out
      clear HC9
      by_cases c22 : t389 = 0
      · rw [if_pos c22] at H
        have c22b0 : (t389 == 0) = true := beq_iff_eq.mpr c22
        have c22b1 : (t389 != 0) = false := bne_eq_false_iff_eq.mpr c22
        clear c22
        (first | rw [c22b0] | (simp only [i64_w, i32_w]; rw [c22b0]) | skip)
        by_cases c23 : t388 < 0
        · rw [if_pos c23] at H
          have c23b0 : decide (t388 < 0) = true := decide_eq_true c23
          clear c23
          have H' := Aside0.mk H
          clear H
          go_wp2
          go_meet
          case rel => exact ⟨_, (true), (by first | rfl | (simp; done) | (simp [*]; done)), H', ⟨by first | omega | exact Nat.le_refl _⟩, ⟨by (with_reducible repeat (first | apply Kd.R_alloc | apply Kd.R_drewN | apply Kd.R_drew)); exact HO383.out⟩, ⟨by (with_reducible repeat (first | apply Kd.R_alloc | apply Kd.R_drewN | apply Kd.R_drew)); exact HO386.out⟩, ⟨by (with_reducible repeat (first | refine blk_drewN ?_ _ | refine blk_drew ?_ | refine blk_alloc ?_ _)); exact BK379.out⟩, ⟨by (with_reducible repeat (first | refine blk_drewN ?_ _ | refine blk_drew ?_ | refine blk_alloc ?_ _)); exact BK380.out⟩, ⟨by (with_reducible repeat (first | refine blk_drewN ?_ _ | refine blk_drew ?_ | refine blk_alloc ?_ _)); exact BK387.out⟩, ⟨by repeat (first | (with_reducible first | exact HB.out | apply below_alloc | apply pw_below_drewN | apply below_drew1 | refine below_set ?_ GE379.out | refine below_set ?_ GE380.out | refine below_set ?_ GE387.out) | exact HB.out)⟩⟩
        · rw [if_neg c23] at H
          have c23b0 : decide (t388 < 0) = false := decide_eq_false c23
          clear c23
          have H' := Aside0.mk H
          clear H
          go_wp2
          go_meet
          case rel => exact ⟨_, (decide (t388 > (l0.length : Int))), (by first | rfl | (simp; done) | (simp [*]; done)), H', ⟨by first | omega | exact Nat.le_refl _⟩, ⟨by (with_reducible repeat (first | apply Kd.R_alloc | apply Kd.R_drewN | apply Kd.R_drew)); exact HO383.out⟩, ⟨by (with_reducible repeat (first | apply Kd.R_alloc | apply Kd.R_drewN | apply Kd.R_drew)); exact HO386.out⟩, ⟨by (with_reducible repeat (first | refine blk_drewN ?_ _ | refine blk_drew ?_ | refine blk_alloc ?_ _)); exact BK379.out⟩, ⟨by (with_reducible repeat (first | refine blk_drewN ?_ _ | refine blk_drew ?_ | refine blk_alloc ?_ _)); exact BK380.out⟩, ⟨by (with_reducible repeat (first | refine blk_drewN ?_ _ | refine blk_drew ?_ | refine blk_alloc ?_ _)); exact BK387.out⟩, ⟨by repeat (first | (with_reducible first | exact HB.out | apply below_alloc | apply pw_below_drewN | apply below_drew1 | refine below_set ?_ GE379.out | refine below_set ?_ GE380.out | refine below_set ?_ GE387.out) | exact HB.out)⟩⟩
      · rw [if_neg c22] at H
        have c22b0 : (t389 == 0) = false := beq_eq_false_iff_ne.mpr c22
        have c22b1 : (t389 != 0) = true := bne_iff_ne.mpr c22
        (first | rw [c22b0] | (simp only [i64_w, i32_w]; rw [c22b0]) | skip)
        have H' := Aside0.mk H
        clear H
        go_wp2
        go_meet
        case rel => exact ⟨_, (true), (by first | rfl | (simp; done) | (simp [*]; done)), H', ⟨by first | omega | exact Nat.le_refl _⟩, ⟨by (with_reducible repeat (first | apply Kd.R_alloc | apply Kd.R_drewN | apply Kd.R_drew)); exact HO383.out⟩, ⟨by (with_reducible repeat (first | apply Kd.R_alloc | apply Kd.R_drewN | apply Kd.R_drew)); exact HO386.out⟩, ⟨by (with_reducible repeat (first | refine blk_drewN ?_ _ | refine blk_drew ?_ | refine blk_alloc ?_ _)); exact BK379.out⟩, ⟨by (with_reducible repeat (first | refine blk_drewN ?_ _ | refine blk_drew ?_ | refine blk_alloc ?_ _)); exact BK380.out⟩, ⟨by (with_reducible repeat (first | refine blk_drewN ?_ _ | refine blk_drew ?_ | refine blk_alloc ?_ _)); exact BK387.out⟩, ⟨by repeat (first | (with_reducible first | exact HB.out | apply below_alloc | apply pw_below_drewN | apply below_drew1 | refine below_set ?_ GE379.out | refine below_set ?_ GE380.out | refine below_set ?_ GE387.out) | exact HB.out)⟩⟩
    case rest =>
      clear HC9
      try clear c1
      try clear c2
      try clear p2
      try clear c3
      try clear p6
      try clear c7
      try clear c7b0
      try clear c7b1
      try clear c11
      try clear c12
      try clear c17
      try clear c18
      try clear c22
      try clear c22b0
      try clear c22b1
      try clear c23
      try clear c23b0
      try clear hcz13_0
      try clear hcz13_1
      try clear hcz19_0
      try clear hcz19_1
      try clear hfz13_0
      try clear hfz13_1
      try clear hfz19_0
      try clear hfz19_1
      obtain ⟨kq, x47_8, rfl, HA, HJ8, HO_388000, HO_388001, BK379, BK380, BK387, HB⟩ := hcut
      cases kq with
      | zero => exact absurd HA.out (by simp [jalousielaw05_ViewPuts.j0])
      | succ kj8 =>
        have H := HA.out
        clear HA
        simp only [jalousielaw05_ViewPuts.j0] at H
        by_cases c24 : x47_8 = true
        · subst c24
          have H1 : (some false) = some r := by rw [if_pos rfl] at H; exact H
          clear H
          have H := H1
          clear H1
          exact absurd (Option.some.inj (H.trans (congrArg some HRT.out))) (by decide)
        · replace c24 := Bool.eq_false_iff.mpr c24
          subst c24
          have H1 : ((some (([] : List (S63)) : List (S63))).bind fun y390 => (if 0 ≤ t388 then (if t388 ≤ (l0.length : Int) then ((some (l0.take (t388 : Int).toNat : List (S63))).bind fun y393 => (if y390.length + y393.length < 2513169434916 then ((some (y390 ++ y393 : List (S63))).bind fun y397 => (if y397.length < 2513169434916 then ((some (y397 ++ [(⟨0, (⟨a1_0, a1_1⟩ : S25), false, (⟨a3, false⟩ : S60)⟩ : S63)] : List (S63))).bind fun y400 => ((some (l0.drop (t388 : Int).toNat : List (S63))).bind fun y403 => (if y400.length + y403.length < 2513169434916 then ((some (y400 ++ y403 : List (S63))).bind fun y407 => ((view_Of.f y407 a1_0 a1_1 (⟨#[46, 46, 46]⟩ : ByteArray)).bind fun bt410 => (if (bt410.1.length : Int) = (wrap64 ((t381.length : Int) + 1)) then (if 0 ≤ (Int.tmod (wrap64 (a2)) (wrap64 ((t384.length : Int) + 1))) then (if (Int.tmod (wrap64 (a2)) (wrap64 ((t384.length : Int) + 1))) < (bt410.1.length : Int) then (jalousielaw05_ViewPuts.j1 kj8 l0 (Int.tmod (wrap64 (a2)) (wrap64 ((t384.length : Int) + 1))) y407 (((rd_T60 bt410.1 (Int.tmod (wrap64 (a2)) (wrap64 ((t384.length : Int) + 1)))).f0).toList != a3.toList) a1_0 a1_1 a4_0 a4_1 t381 t384 bt410.1 bt410.2) else (none)) else (none)) else (jalousielaw05_ViewPuts.j1 kj8 l0 (Int.tmod (wrap64 (a2)) (wrap64 ((t384.length : Int) + 1))) y407 true a1_0 a1_1 a4_0 a4_1 t381 t384 bt410.1 bt410.2)))) else (none)))) else (none))) else (none))) else (none)) else (none))) = some r := by rw [if_neg (show ¬ (false = true) by decide)] at H; exact H
          clear H
          have H := H1
          clear H1
          obtain ⟨y390, hy390⟩ : ∃ y_ : List (S63), y_ = (([] : List (S63))) := ⟨_, rfl⟩
          replace H : (if 0 ≤ t388 then (if t388 ≤ (l0.length : Int) then ((some (l0.take (t388 : Int).toNat : List (S63))).bind fun y393 => (if y390.length + y393.length < 2513169434916 then ((some (y390 ++ y393 : List (S63))).bind fun y397 => (if y397.length < 2513169434916 then ((some (y397 ++ [(⟨0, (⟨a1_0, a1_1⟩ : S25), false, (⟨a3, false⟩ : S60)⟩ : S63)] : List (S63))).bind fun y400 => ((some (l0.drop (t388 : Int).toNat : List (S63))).bind fun y403 => (if y400.length + y403.length < 2513169434916 then ((some (y400 ++ y403 : List (S63))).bind fun y407 => ((view_Of.f y407 a1_0 a1_1 (⟨#[46, 46, 46]⟩ : ByteArray)).bind fun bt410 => (if (bt410.1.length : Int) = (wrap64 ((t381.length : Int) + 1)) then (if 0 ≤ (Int.tmod (wrap64 (a2)) (wrap64 ((t384.length : Int) + 1))) then (if (Int.tmod (wrap64 (a2)) (wrap64 ((t384.length : Int) + 1))) < (bt410.1.length : Int) then (jalousielaw05_ViewPuts.j1 kj8 l0 (Int.tmod (wrap64 (a2)) (wrap64 ((t384.length : Int) + 1))) y407 (((rd_T60 bt410.1 (Int.tmod (wrap64 (a2)) (wrap64 ((t384.length : Int) + 1)))).f0).toList != a3.toList) a1_0 a1_1 a4_0 a4_1 t381 t384 bt410.1 bt410.2) else (none)) else (none)) else (jalousielaw05_ViewPuts.j1 kj8 l0 (Int.tmod (wrap64 (a2)) (wrap64 ((t384.length : Int) + 1))) y407 true a1_0 a1_1 a4_0 a4_1 t381 t384 bt410.1 bt410.2)))) else (none)))) else (none))) else (none))) else (none)) else (none)) = some r := by first | (rw [hy390]; with_reducible exact H) | (have H2_ := (Option.bind_some _ _).symm.trans H; rw [hy390]; with_reducible exact H2_) | (have H2_ := (Option.bind_some _ _).symm.trans H; with_reducible exact H2_) | with_reducible exact H | (rw [hy390]; exact H) | exact H
          have Ny390 := Aside0.mk hy390
          clear hy390
          by_cases c25 : 0 ≤ t388
          · rw [if_pos c25] at H
            have c25b0 := eq_true c25
            have c25b1 : decide (0 ≤ t388) = true := decide_eq_true c25
            clear c25
            by_cases c26 : t388 ≤ (l0.length : Int)
            · rw [if_pos c26] at H
              have c26b0 := eq_true c26
              have c26b1 : decide (t388 ≤ (l0.length : Int)) = true := decide_eq_true c26
              clear c26
              obtain ⟨y393, hy393⟩ : ∃ y_ : List (S63), y_ = (l0.take (t388 : Int).toNat) := ⟨_, rfl⟩
              replace H : (if y390.length + y393.length < 2513169434916 then ((some (y390 ++ y393 : List (S63))).bind fun y397 => (if y397.length < 2513169434916 then ((some (y397 ++ [(⟨0, (⟨a1_0, a1_1⟩ : S25), false, (⟨a3, false⟩ : S60)⟩ : S63)] : List (S63))).bind fun y400 => ((some (l0.drop (t388 : Int).toNat : List (S63))).bind fun y403 => (if y400.length + y403.length < 2513169434916 then ((some (y400 ++ y403 : List (S63))).bind fun y407 => ((view_Of.f y407 a1_0 a1_1 (⟨#[46, 46, 46]⟩ : ByteArray)).bind fun bt410 => (if (bt410.1.length : Int) = (wrap64 ((t381.length : Int) + 1)) then (if 0 ≤ (Int.tmod (wrap64 (a2)) (wrap64 ((t384.length : Int) + 1))) then (if (Int.tmod (wrap64 (a2)) (wrap64 ((t384.length : Int) + 1))) < (bt410.1.length : Int) then (jalousielaw05_ViewPuts.j1 kj8 l0 (Int.tmod (wrap64 (a2)) (wrap64 ((t384.length : Int) + 1))) y407 (((rd_T60 bt410.1 (Int.tmod (wrap64 (a2)) (wrap64 ((t384.length : Int) + 1)))).f0).toList != a3.toList) a1_0 a1_1 a4_0 a4_1 t381 t384 bt410.1 bt410.2) else (none)) else (none)) else (jalousielaw05_ViewPuts.j1 kj8 l0 (Int.tmod (wrap64 (a2)) (wrap64 ((t384.length : Int) + 1))) y407 true a1_0 a1_1 a4_0 a4_1 t381 t384 bt410.1 bt410.2)))) else (none)))) else (none))) else (none)) = some r := by first | (rw [hy393]; with_reducible exact H) | (have H2_ := (Option.bind_some _ _).symm.trans H; rw [hy393]; with_reducible exact H2_) | (have H2_ := (Option.bind_some _ _).symm.trans H; with_reducible exact H2_) | with_reducible exact H | (rw [hy393]; exact H) | exact H
              have Ny393 := Aside0.mk hy393
              clear hy393
              by_cases c27 : y390.length + y393.length < 2513169434916
              · rw [if_pos c27] at H
                have LMc27 := Aside0.mk c27
                clear c27
                obtain ⟨y397, hy397⟩ : ∃ y_ : List (S63), y_ = (y390 ++ y393) := ⟨_, rfl⟩
                replace H : (if y397.length < 2513169434916 then ((some (y397 ++ [(⟨0, (⟨a1_0, a1_1⟩ : S25), false, (⟨a3, false⟩ : S60)⟩ : S63)] : List (S63))).bind fun y400 => ((some (l0.drop (t388 : Int).toNat : List (S63))).bind fun y403 => (if y400.length + y403.length < 2513169434916 then ((some (y400 ++ y403 : List (S63))).bind fun y407 => ((view_Of.f y407 a1_0 a1_1 (⟨#[46, 46, 46]⟩ : ByteArray)).bind fun bt410 => (if (bt410.1.length : Int) = (wrap64 ((t381.length : Int) + 1)) then (if 0 ≤ (Int.tmod (wrap64 (a2)) (wrap64 ((t384.length : Int) + 1))) then (if (Int.tmod (wrap64 (a2)) (wrap64 ((t384.length : Int) + 1))) < (bt410.1.length : Int) then (jalousielaw05_ViewPuts.j1 kj8 l0 (Int.tmod (wrap64 (a2)) (wrap64 ((t384.length : Int) + 1))) y407 (((rd_T60 bt410.1 (Int.tmod (wrap64 (a2)) (wrap64 ((t384.length : Int) + 1)))).f0).toList != a3.toList) a1_0 a1_1 a4_0 a4_1 t381 t384 bt410.1 bt410.2) else (none)) else (none)) else (jalousielaw05_ViewPuts.j1 kj8 l0 (Int.tmod (wrap64 (a2)) (wrap64 ((t384.length : Int) + 1))) y407 true a1_0 a1_1 a4_0 a4_1 t381 t384 bt410.1 bt410.2)))) else (none)))) else (none)) = some r := by first | (rw [hy397]; with_reducible exact H) | (have H2_ := (Option.bind_some _ _).symm.trans H; rw [hy397]; with_reducible exact H2_) | (have H2_ := (Option.bind_some _ _).symm.trans H; with_reducible exact H2_) | with_reducible exact H | (rw [hy397]; exact H) | exact H
                have Ny397 := Aside0.mk hy397
                clear hy397
                by_cases c28 : y397.length < 2513169434916
                · rw [if_pos c28] at H
                  have LMc28 := Aside0.mk c28
                  clear c28
                  obtain ⟨y400, hy400⟩ : ∃ y_ : List (S63), y_ = (y397 ++ [(⟨0, (⟨a1_0, a1_1⟩ : S25), false, (⟨a3, false⟩ : S60)⟩ : S63)]) := ⟨_, rfl⟩
                  replace H : ((some (l0.drop (t388 : Int).toNat : List (S63))).bind fun y403 => (if y400.length + y403.length < 2513169434916 then ((some (y400 ++ y403 : List (S63))).bind fun y407 => ((view_Of.f y407 a1_0 a1_1 (⟨#[46, 46, 46]⟩ : ByteArray)).bind fun bt410 => (if (bt410.1.length : Int) = (wrap64 ((t381.length : Int) + 1)) then (if 0 ≤ (Int.tmod (wrap64 (a2)) (wrap64 ((t384.length : Int) + 1))) then (if (Int.tmod (wrap64 (a2)) (wrap64 ((t384.length : Int) + 1))) < (bt410.1.length : Int) then (jalousielaw05_ViewPuts.j1 kj8 l0 (Int.tmod (wrap64 (a2)) (wrap64 ((t384.length : Int) + 1))) y407 (((rd_T60 bt410.1 (Int.tmod (wrap64 (a2)) (wrap64 ((t384.length : Int) + 1)))).f0).toList != a3.toList) a1_0 a1_1 a4_0 a4_1 t381 t384 bt410.1 bt410.2) else (none)) else (none)) else (jalousielaw05_ViewPuts.j1 kj8 l0 (Int.tmod (wrap64 (a2)) (wrap64 ((t384.length : Int) + 1))) y407 true a1_0 a1_1 a4_0 a4_1 t381 t384 bt410.1 bt410.2)))) else (none))) = some r := by first | (rw [hy400]; with_reducible exact H) | (have H2_ := (Option.bind_some _ _).symm.trans H; rw [hy400]; with_reducible exact H2_) | (have H2_ := (Option.bind_some _ _).symm.trans H; with_reducible exact H2_) | with_reducible exact H | (rw [hy400]; exact H) | exact H
                  have Ny400 := Aside0.mk hy400
                  clear hy400
                  have c29b0 := eq_true (of_decide_eq_true (by first | (with_reducible assumption) | assumption) : 0 ≤ t388)
                  have c30b0 := eq_true (of_decide_eq_true (by first | (with_reducible assumption) | assumption) : t388 ≤ (l0.length : Int))
                  obtain ⟨y403, hy403⟩ : ∃ y_ : List (S63), y_ = (l0.drop (t388 : Int).toNat) := ⟨_, rfl⟩
                  replace H : (if y400.length + y403.length < 2513169434916 then ((some (y400 ++ y403 : List (S63))).bind fun y407 => ((view_Of.f y407 a1_0 a1_1 (⟨#[46, 46, 46]⟩ : ByteArray)).bind fun bt410 => (if (bt410.1.length : Int) = (wrap64 ((t381.length : Int) + 1)) then (if 0 ≤ (Int.tmod (wrap64 (a2)) (wrap64 ((t384.length : Int) + 1))) then (if (Int.tmod (wrap64 (a2)) (wrap64 ((t384.length : Int) + 1))) < (bt410.1.length : Int) then (jalousielaw05_ViewPuts.j1 kj8 l0 (Int.tmod (wrap64 (a2)) (wrap64 ((t384.length : Int) + 1))) y407 (((rd_T60 bt410.1 (Int.tmod (wrap64 (a2)) (wrap64 ((t384.length : Int) + 1)))).f0).toList != a3.toList) a1_0 a1_1 a4_0 a4_1 t381 t384 bt410.1 bt410.2) else (none)) else (none)) else (jalousielaw05_ViewPuts.j1 kj8 l0 (Int.tmod (wrap64 (a2)) (wrap64 ((t384.length : Int) + 1))) y407 true a1_0 a1_1 a4_0 a4_1 t381 t384 bt410.1 bt410.2)))) else (none)) = some r := by first | (rw [hy403]; with_reducible exact H) | (have H2_ := (Option.bind_some _ _).symm.trans H; rw [hy403]; with_reducible exact H2_) | (have H2_ := (Option.bind_some _ _).symm.trans H; with_reducible exact H2_) | with_reducible exact H | (rw [hy403]; exact H) | exact H
                  have Ny403 := Aside0.mk hy403
                  clear hy403
                  by_cases c31 : y400.length + y403.length < 2513169434916
                  · rw [if_pos c31] at H
                    have LMc31 := Aside0.mk c31
                    clear c31
                    obtain ⟨y407, hy407⟩ : ∃ y_ : List (S63), y_ = (y400 ++ y403) := ⟨_, rfl⟩
                    replace H : ((view_Of.f y407 a1_0 a1_1 (⟨#[46, 46, 46]⟩ : ByteArray)).bind fun bt410 => (if (bt410.1.length : Int) = (wrap64 ((t381.length : Int) + 1)) then (if 0 ≤ (Int.tmod (wrap64 (a2)) (wrap64 ((t384.length : Int) + 1))) then (if (Int.tmod (wrap64 (a2)) (wrap64 ((t384.length : Int) + 1))) < (bt410.1.length : Int) then (jalousielaw05_ViewPuts.j1 kj8 l0 (Int.tmod (wrap64 (a2)) (wrap64 ((t384.length : Int) + 1))) y407 (((rd_T60 bt410.1 (Int.tmod (wrap64 (a2)) (wrap64 ((t384.length : Int) + 1)))).f0).toList != a3.toList) a1_0 a1_1 a4_0 a4_1 t381 t384 bt410.1 bt410.2) else (none)) else (none)) else (jalousielaw05_ViewPuts.j1 kj8 l0 (Int.tmod (wrap64 (a2)) (wrap64 ((t384.length : Int) + 1))) y407 true a1_0 a1_1 a4_0 a4_1 t381 t384 bt410.1 bt410.2))) = some r := by first | (rw [hy407]; with_reducible exact H) | (have H2_ := (Option.bind_some _ _).symm.trans H; rw [hy407]; with_reducible exact H2_) | (have H2_ := (Option.bind_some _ _).symm.trans H; with_reducible exact H2_) | with_reducible exact H | (rw [hy407]; exact H) | exact H
                    have Ny407 := Aside0.mk hy407
                    clear hy407
                    replace H := Option.bind_eq_some_iff.mp H
                    obtain ⟨⟨t410, t413⟩, A320, H⟩ := H
                    replace H : (if (t410.length : Int) = (wrap64 ((t381.length : Int) + 1)) then (if 0 ≤ (Int.tmod (wrap64 (a2)) (wrap64 ((t384.length : Int) + 1))) then (if (Int.tmod (wrap64 (a2)) (wrap64 ((t384.length : Int) + 1))) < (t410.length : Int) then (jalousielaw05_ViewPuts.j1 kj8 l0 (Int.tmod (wrap64 (a2)) (wrap64 ((t384.length : Int) + 1))) y407 (((rd_T60 t410 (Int.tmod (wrap64 (a2)) (wrap64 ((t384.length : Int) + 1)))).f0).toList != a3.toList) a1_0 a1_1 a4_0 a4_1 t381 t384 t410 t413) else (none)) else (none)) else (jalousielaw05_ViewPuts.j1 kj8 l0 (Int.tmod (wrap64 (a2)) (wrap64 ((t384.length : Int) + 1))) y407 true a1_0 a1_1 a4_0 a4_1 t381 t384 t410 t413)) = some r := H
                    have A32 := Aside0.mk A320
                    clear A320
                    have HC33 := Aside0.mk H
                    clear H
                    go_upto_region 10 with (first | ((with_reducible refine gate_dst (N := 48) rfl ?_); (try (refine gate_guard (by rfl) ?_; dsimp only)); refine Kd.R_lit k63 _ 63 ?hg (N := 48) ?hd (xs := ([] : List (S63))) (inner := []) (ok := fun _ => True) (okp := fun _ => True) ?hr ?hp (fun _ hk => hk) trivial (Below.refl _ _) (Nat.le_refl _) (by simp) ?_; (case hd => rfl); (case hg => rfl); (case hr => first | (go_simp; done) | (go_simp; rfl)); (case hp => exact (Reps.none _ _)); intro v391 w34 ho35 hb hg_ hnew_; clear hg_ hnew_; (first | rw [← Ny390.out] at ho35 | (simp only [Int.reduceToNat] at ho35; rw [← Ny390.out] at ho35)); have n0_ := Aside0.mk (Kd.R_below (by (with_reducible repeat (first | apply Kd.R_alloc | apply Kd.R_drewN | apply Kd.R_drew)); exact HO_388000.out) hb); have n1_ := Aside0.mk (Kd.R_below (by (with_reducible repeat (first | apply Kd.R_alloc | apply Kd.R_drewN | apply Kd.R_drew)); exact HO_388001.out) hb); have n2_ := Aside0.mk (Kd.R_lower ho35 (below_size (by repeat (first | (with_reducible first | exact HB.out | apply below_alloc | apply pw_below_drewN | apply below_drew1 | refine below_set ?_ GE379.out | refine below_set ?_ GE380.out | refine below_set ?_ GE387.out) | exact HB.out)))); have n3_ := Aside0.mk (blk_below (g := gb379) (o := .cells #[.int .i64 a1_0, .int .u64 a1_1] 25 (0, 0)) (by (with_reducible repeat (first | refine blk_drewN ?_ _ | refine blk_drew ?_ | refine blk_alloc ?_ _)); exact BK379.out) hb); have n4_ := Aside0.mk (blk_below (g := gb380) (o := .cells #[.int .i64 a4_0, .int .u64 a4_1] 25 (0, 0)) (by (with_reducible repeat (first | refine blk_drewN ?_ _ | refine blk_drew ?_ | refine blk_alloc ?_ _)); exact BK380.out) hb); have n5_ := Aside0.mk (blk_below (g := gb387) (o := .cells #[.slice Ao16 t381.length co16, .slice Ao20 t384.length co20] 42 (0, 0)) (by (with_reducible repeat (first | refine blk_drewN ?_ _ | refine blk_drew ?_ | refine blk_alloc ?_ _)); exact BK387.out) hb); have n6_ := Aside0.mk (below_step (by repeat (first | (with_reducible first | exact HB.out | apply below_alloc | apply pw_below_drewN | apply below_drew1 | refine below_set ?_ GE379.out | refine below_set ?_ GE380.out | refine below_set ?_ GE387.out) | exact HB.out)) hb); clear HO_388000; clear HO_388001; clear BK379; clear BK380; clear BK387; clear HB; have HO_388000 := n0_; have HO_388001 := n1_; have HO392 := n2_; have BK379 := n3_; have BK380 := n4_; have BK387 := n5_; have HB := n6_; clear n0_ n1_ n2_ n3_ n4_ n5_ n6_; clear hb ho35; have q36 : (t388 : Int) ≤ ((l0.length : Int) : Int) := of_decide_eq_true (by first | (with_reducible assumption) | assumption); obtain ⟨i036, hi036, _, hsz36, _⟩ := info_parts info63; have hroom36 : l0.length ≤ c0 := HC0.out; have hC36 : Kd.C k63 _ A0 l0.length l0 := HR0.out; have hcut36 := cut_to (P := Try.prog) 39 63 .i64 Try.underlying39 hi036 A0 l0.length c0 t388 (of_decide_eq_true (by first | (with_reducible assumption) | assumption)) q36 hroom36; have hr36 := Kd.C_take (m := (t388 : Int).toNat) hC36 (by omega); have hy36 : y393.length = (t388 : Int).toNat := (by rw [Ny393.out, List.length_take]; omega); rw [← Ny393.out] at hr36; rw [← hy36] at hcut36; have HR396 := Aside0.mk hr36; have HC396 := Aside0.mk (show y393.length ≤ c0 from by omega); clear hr36 hC36 hroom36 hi036 hsz36; have KY36 := Aside0.mk hy36; clear hy36; replace q36 := eq_true q36) | ((with_reducible refine gate_builtin (b := .append) (xs := #[.tmp 48, .tmp 51]) rfl ?_); (try (refine gate_guard (by rfl) ?_; dsimp only)); at_builtin; refine Kd.R_append_rows k63 (w0 := w) w.heap.size rfl (.tmp 48) (.tmp 51) 39 63 (.agg #[(.int .i64 0), (.int .i64 0), (.int .u64 0), (.bool false), (.string ⟨#[]⟩), (.bool false)]) 56 rfl Try.underlying39 info63 rfl (by decide) (by omega) v391 y390 y393 _ _ _ (fun _ => True) (fun _ => False) rfl rfl ?aO ?aR (fun _ _ h => h) (fun _ h => h.elim) ?aF ?aB ?aS ?aL ?_; (case aR => repeat (first | exact (Kd.C_below HR396.out HB.out) | (with_reducible refine Kd.C_alloc ?_ _) | (with_reducible refine Kd.C_drewN ?_ _) | (with_reducible refine Kd.C_drew ?_))); (case aB => exact (by repeat (first | (with_reducible first | exact HB.out | apply below_alloc | apply pw_below_drewN | apply below_drew1 | refine below_set ?_ GE379.out | refine below_set ?_ GE380.out | refine below_set ?_ GE387.out) | exact HB.out))); (case aF => exact (fun _ _ => trivial)); (case aO => exact (by (with_reducible repeat (first | apply Kd.R_alloc | apply Kd.R_drewN | apply Kd.R_drew)); exact HO392.out)); (case aS => exact (below_size (by repeat (first | (with_reducible first | exact HB.out | apply below_alloc | apply pw_below_drewN | apply below_drew1 | refine below_set ?_ GE379.out | refine below_set ?_ GE380.out | refine below_set ?_ GE387.out) | exact HB.out)))); (case aL => have := LMc27.out; omega); intro v398 w37 ho hb hg hat; rw [← Ny397.out] at ho; have n0_ := Aside0.mk (Kd.R_over' (by (with_reducible repeat (first | apply Kd.R_alloc | apply Kd.R_drewN | apply Kd.R_drew)); exact HO_388000.out) (Kd.R_typed (by (with_reducible repeat (first | apply Kd.R_alloc | apply Kd.R_drewN | apply Kd.R_drew)); exact HO392.out)) (by decide) hg); have n1_ := Aside0.mk (Kd.R_over' (by (with_reducible repeat (first | apply Kd.R_alloc | apply Kd.R_drewN | apply Kd.R_drew)); exact HO_388001.out) (Kd.R_typed (by (with_reducible repeat (first | apply Kd.R_alloc | apply Kd.R_drewN | apply Kd.R_drew)); exact HO392.out)) (by decide) hg); have n2_ := Aside0.mk (blk_grown (g := gb379) (o := .cells #[.int .i64 a1_0, .int .u64 a1_1] 25 (0, 0)) (by (with_reducible repeat (first | refine blk_drewN ?_ _ | refine blk_drew ?_ | refine blk_alloc ?_ _)); exact BK379.out) hg (Kd.R_ne HO392.out BK379.out (by decide))); have n3_ := Aside0.mk (blk_grown (g := gb380) (o := .cells #[.int .i64 a4_0, .int .u64 a4_1] 25 (0, 0)) (by (with_reducible repeat (first | refine blk_drewN ?_ _ | refine blk_drew ?_ | refine blk_alloc ?_ _)); exact BK380.out) hg (Kd.R_ne HO392.out BK380.out (by decide))); have n4_ := Aside0.mk (blk_grown (g := gb387) (o := .cells #[.slice Ao16 t381.length co16, .slice Ao20 t384.length co20] 42 (0, 0)) (by (with_reducible repeat (first | refine blk_drewN ?_ _ | refine blk_drew ?_ | refine blk_alloc ?_ _)); exact BK387.out) hg (Kd.R_ne HO392.out BK387.out (by decide))); have n5_ := Aside0.mk (hb); have n6_ := Aside0.mk (ho); clear HO_388000; clear HO_388001; clear BK379; clear BK380; clear BK387; clear HB; clear HO392; have HO_388000 := n0_; have HO_388001 := n1_; have BK379 := n2_; have BK380 := n3_; have BK387 := n4_; have HB := n5_; have HO399 := n6_; clear n0_ n1_ n2_ n3_ n4_ n5_ n6_; clear ho hb hg hat; have hnb38 := NB379_380.out; have hnc38 := NB380_379.out; have hnb39 := NB379_387.out; have hnc39 := NB387_379.out; have hcz40_0 : w37.cell? ⟨gb379, 0, none⟩ = some (.int .i64 a1_0) := (blk_cell BK379.out 0).trans rfl; have hcz40_1 : w37.cell? ⟨gb379, 1, none⟩ = some (.int .u64 a1_1) := (blk_cell BK379.out 1).trans rfl; have hfz40_0 := blk_frozen BK379.out 0; have hfz40_1 := blk_frozen BK379.out 1) | ((with_reducible refine gate_builtin (b := .append) (xs := #[.tmp 53, .tmp 58]) rfl ?_); (try (refine gate_guard (by rfl) ?_; dsimp only)); at_builtin; refine Kd.R_append k63 (w0 := w) w.heap.size rfl (.tmp 53) (.tmp 58) 39 63 (.agg #[(.int .i64 0), (.int .i64 0), (.int .u64 0), (.bool false), (.string ⟨#[]⟩), (.bool false)]) 56 rfl Try.underlying39 info63 rfl (by decide) (by omega) v398 y397 (⟨0, (⟨a1_0, a1_1⟩ : S25), false, (⟨a3, false⟩ : S60)⟩ : S63) [.int .i64 0, .int .i64 a1_0, .int .u64 a1_1, .bool false, .string a3, .bool false] (fun _ => True) (fun _ => False) rfl rfl ?aP (fun _ hk => hk.elim) ?aF ?aO ?aB ?aS ?aL ?_; (case aP => exact k63_mkM _ _ _ (⟨0, (⟨a1_0, a1_1⟩ : S25), false, (⟨a3, false⟩ : S60)⟩ : S63)); (case aB => exact (by repeat (first | (with_reducible first | exact HB.out | apply below_alloc | apply pw_below_drewN | apply below_drew1 | refine below_set ?_ GE379.out | refine below_set ?_ GE380.out | refine below_set ?_ GE387.out) | exact HB.out))); (case aF => exact (fun _ _ => trivial)); (case aO => exact (by (with_reducible repeat (first | apply Kd.R_alloc | apply Kd.R_drewN | apply Kd.R_drew)); exact HO399.out)); (case aS => exact (below_size (by repeat (first | (with_reducible first | exact HB.out | apply below_alloc | apply pw_below_drewN | apply below_drew1 | refine below_set ?_ GE379.out | refine below_set ?_ GE380.out | refine below_set ?_ GE387.out) | exact HB.out)))); (case aL => have := LMc28.out; omega); intro v401 w41 ho hb hg hat; rw [← Ny400.out] at ho; have n0_ := Aside0.mk (Kd.R_over' (by (with_reducible repeat (first | apply Kd.R_alloc | apply Kd.R_drewN | apply Kd.R_drew)); exact HO_388000.out) (Kd.R_typed (by (with_reducible repeat (first | apply Kd.R_alloc | apply Kd.R_drewN | apply Kd.R_drew)); exact HO399.out)) (by decide) hg); have n1_ := Aside0.mk (Kd.R_over' (by (with_reducible repeat (first | apply Kd.R_alloc | apply Kd.R_drewN | apply Kd.R_drew)); exact HO_388001.out) (Kd.R_typed (by (with_reducible repeat (first | apply Kd.R_alloc | apply Kd.R_drewN | apply Kd.R_drew)); exact HO399.out)) (by decide) hg); have n2_ := Aside0.mk (blk_grown (g := gb379) (o := .cells #[.int .i64 a1_0, .int .u64 a1_1] 25 (0, 0)) (by (with_reducible repeat (first | refine blk_drewN ?_ _ | refine blk_drew ?_ | refine blk_alloc ?_ _)); exact BK379.out) hg (Kd.R_ne HO399.out BK379.out (by decide))); have n3_ := Aside0.mk (blk_grown (g := gb380) (o := .cells #[.int .i64 a4_0, .int .u64 a4_1] 25 (0, 0)) (by (with_reducible repeat (first | refine blk_drewN ?_ _ | refine blk_drew ?_ | refine blk_alloc ?_ _)); exact BK380.out) hg (Kd.R_ne HO399.out BK380.out (by decide))); have n4_ := Aside0.mk (blk_grown (g := gb387) (o := .cells #[.slice Ao16 t381.length co16, .slice Ao20 t384.length co20] 42 (0, 0)) (by (with_reducible repeat (first | refine blk_drewN ?_ _ | refine blk_drew ?_ | refine blk_alloc ?_ _)); exact BK387.out) hg (Kd.R_ne HO399.out BK387.out (by decide))); have n5_ := Aside0.mk (hb); have n6_ := Aside0.mk (ho); clear HO_388000; clear HO_388001; clear BK379; clear BK380; clear BK387; clear HB; clear HO399; have HO_388000 := n0_; have HO_388001 := n1_; have BK379 := n2_; have BK380 := n3_; have BK387 := n4_; have HB := n5_; have HO402 := n6_; clear n0_ n1_ n2_ n3_ n4_ n5_ n6_; clear ho hb hg hat; have q42 : (t388 : Int) ≤ ((l0.length : Int) : Int) := of_decide_eq_true (by first | (with_reducible assumption) | assumption); obtain ⟨i042, hi042, _, hsz42, _⟩ := info_parts info63; have hroom42 : l0.length ≤ c0 := HC0.out; have hC42 : Kd.C k63 _ A0 l0.length l0 := HR0.out; have q042 : (0 : Int) ≤ (t388 : Int) := of_decide_eq_true (by first | (with_reducible assumption) | assumption); have hcut42 := cut_from (P := Try.prog) 39 63 .i64 Try.underlying39 hi042 6 hsz42 A0 l0.length c0 t388 q042 q42; have hr42 := Kd.C_drop (m := (t388 : Int).toNat) (c := c0) hC42 (by omega) hroom42; obtain ⟨A42, hA42⟩ : ∃ A1, A1 = (if c0 = (t388 : Int).toNat then A0 else (A0 : Option Addr).map (·.add ((t388 : Int).toNat * 6))) := ⟨_, rfl⟩; obtain ⟨c42, hc42⟩ : ∃ c1, c1 = c0 - (t388 : Int).toNat := ⟨_, rfl⟩; have hy42 : y403.length = l0.length - (t388 : Int).toNat := (by rw [Ny403.out, List.length_drop] <;> omega); rw [show (l0).drop (t388 : Int).toNat = y403 from Ny403.out.symm] at hr42; replace hr42 : Kd.C k63 _ A42 y403.length y403 := (by rw [hA42]; exact hr42); rw [← hy42, ← hA42, ← hc42] at hcut42; have HR406 := Aside0.mk hr42; have HC406 := Aside0.mk (show y403.length ≤ c42 from by rw [hy42, hc42]; exact Nat.sub_le_sub_right hroom42 _); clear hr42 hC42 hroom42 hi042 hsz42 hc42; have KY42 := Aside0.mk hy42; have KA42 := Aside0.mk hA42; clear hy42 hA42; replace q42 := eq_true q42) | ((with_reducible refine gate_builtin (b := .append) (xs := #[.tmp 60, .tmp 63]) rfl ?_); (try (refine gate_guard (by rfl) ?_; dsimp only)); at_builtin; refine Kd.R_append_rows k63 (w0 := w) w.heap.size rfl (.tmp 60) (.tmp 63) 39 63 (.agg #[(.int .i64 0), (.int .i64 0), (.int .u64 0), (.bool false), (.string ⟨#[]⟩), (.bool false)]) 56 rfl Try.underlying39 info63 rfl (by decide) (by omega) v401 y400 y403 _ _ _ (fun _ => True) (fun _ => False) rfl rfl ?aO ?aR (fun _ _ h => h) (fun _ h => h.elim) ?aF ?aB ?aS ?aL ?_; (case aR => repeat (first | exact (Kd.C_below HR406.out HB.out) | (with_reducible refine Kd.C_alloc ?_ _) | (with_reducible refine Kd.C_drewN ?_ _) | (with_reducible refine Kd.C_drew ?_))); (case aB => exact (by repeat (first | (with_reducible first | exact HB.out | apply below_alloc | apply pw_below_drewN | apply below_drew1 | refine below_set ?_ GE379.out | refine below_set ?_ GE380.out | refine below_set ?_ GE387.out) | exact HB.out))); (case aF => exact (fun _ _ => trivial)); (case aO => exact (by (with_reducible repeat (first | apply Kd.R_alloc | apply Kd.R_drewN | apply Kd.R_drew)); exact HO402.out)); (case aS => exact (below_size (by repeat (first | (with_reducible first | exact HB.out | apply below_alloc | apply pw_below_drewN | apply below_drew1 | refine below_set ?_ GE379.out | refine below_set ?_ GE380.out | refine below_set ?_ GE387.out) | exact HB.out)))); (case aL => have := LMc31.out; omega); intro v408 w43 ho hb hg hat; rw [← Ny407.out] at ho; have n0_ := Aside0.mk (Kd.R_over' (by (with_reducible repeat (first | apply Kd.R_alloc | apply Kd.R_drewN | apply Kd.R_drew)); exact HO_388000.out) (Kd.R_typed (by (with_reducible repeat (first | apply Kd.R_alloc | apply Kd.R_drewN | apply Kd.R_drew)); exact HO402.out)) (by decide) hg); have n1_ := Aside0.mk (Kd.R_over' (by (with_reducible repeat (first | apply Kd.R_alloc | apply Kd.R_drewN | apply Kd.R_drew)); exact HO_388001.out) (Kd.R_typed (by (with_reducible repeat (first | apply Kd.R_alloc | apply Kd.R_drewN | apply Kd.R_drew)); exact HO402.out)) (by decide) hg); have n2_ := Aside0.mk (blk_grown (g := gb379) (o := .cells #[.int .i64 a1_0, .int .u64 a1_1] 25 (0, 0)) (by (with_reducible repeat (first | refine blk_drewN ?_ _ | refine blk_drew ?_ | refine blk_alloc ?_ _)); exact BK379.out) hg (Kd.R_ne HO402.out BK379.out (by decide))); have n3_ := Aside0.mk (blk_grown (g := gb380) (o := .cells #[.int .i64 a4_0, .int .u64 a4_1] 25 (0, 0)) (by (with_reducible repeat (first | refine blk_drewN ?_ _ | refine blk_drew ?_ | refine blk_alloc ?_ _)); exact BK380.out) hg (Kd.R_ne HO402.out BK380.out (by decide))); have n4_ := Aside0.mk (blk_grown (g := gb387) (o := .cells #[.slice Ao16 t381.length co16, .slice Ao20 t384.length co20] 42 (0, 0)) (by (with_reducible repeat (first | refine blk_drewN ?_ _ | refine blk_drew ?_ | refine blk_alloc ?_ _)); exact BK387.out) hg (Kd.R_ne HO402.out BK387.out (by decide))); have n5_ := Aside0.mk (hb); have n6_ := Aside0.mk (ho); clear HO_388000; clear HO_388001; clear BK379; clear BK380; clear BK387; clear HB; clear HO402; have HO_388000 := n0_; have HO_388001 := n1_; have BK379 := n2_; have BK380 := n3_; have BK387 := n4_; have HB := n5_; have HO409 := n6_; clear n0_ n1_ n2_ n3_ n4_ n5_ n6_; clear ho hb hg hat; have hcz44_0 : w43.cell? ⟨gb379, 0, none⟩ = some (.int .i64 a1_0) := (blk_cell BK379.out 0).trans rfl; have hcz44_1 : w43.cell? ⟨gb379, 1, none⟩ = some (.int .u64 a1_1) := (blk_cell BK379.out 1).trans rfl; have hfz44_0 := blk_frozen BK379.out 0; have hfz44_1 := blk_frozen BK379.out 1; obtain ⟨Ao45, co45, eo45⟩ := Kd.R_slice HO409.out; subst eo45) | ((with_reducible refine gate_callee (f := 26) rfl ?_); refine goesL_ (some 67) rfl rfl Try.func26 (by kernel_rfl) rfl #[.slice Ao45 y407.length co45, .agg #[.int .i64 a1_0, .int .u64 a1_1], .string (⟨#[46, 46, 46]⟩ : ByteArray)] rfl (by (try simp only [List.map_toArray, List.map_cons, List.map_nil]); first | done | rfl | (simp only [List.length_drop, List.length_take]; rfl)) ?_; (with_reducible refine (view_Of.calls _ _ y407 a1_0 a1_1 (⟨#[46, 46, 46]⟩ : ByteArray) t410 t413 _ ?side1 ?side2 A32.out).mono ?_); (case side1 => repeat (first | exact (Kd.R_reads' HO409.out).2.2 | (with_reducible refine Kd.C_alloc ?_ _) | (with_reducible refine Kd.C_drewN ?_ _) | (with_reducible refine Kd.C_drew ?_))); (case side2 => exact (Kd.R_reads' HO409.out).2.1); rintro e w46 ⟨v411, v414, rfl, ho0, ho1, hb⟩; refine ⟨_, rfl, ?_⟩; have n0_ := Aside0.mk (Kd.R_elder' (by (with_reducible repeat (first | apply Kd.R_alloc | apply Kd.R_drewN | apply Kd.R_drew)); exact HO_388000.out) (Kd.R_base ho0) hb); have n1_ := Aside0.mk (Kd.R_elder' (by (with_reducible repeat (first | apply Kd.R_alloc | apply Kd.R_drewN | apply Kd.R_drew)); exact HO_388001.out) (Kd.R_base ho1) hb); have n2_ := Aside0.mk (Kd.R_below (by (with_reducible repeat (first | apply Kd.R_alloc | apply Kd.R_drewN | apply Kd.R_drew)); exact HO409.out) hb); have n3_ := Aside0.mk (Kd.R_lower (Kd.R_new' ho0 (Kd.R_lt (by (with_reducible repeat (first | apply Kd.R_alloc | apply Kd.R_drewN | apply Kd.R_drew)); exact HO_388000.out))) (below_size (by repeat (first | (with_reducible first | exact HB.out | apply below_alloc | apply pw_below_drewN | apply below_drew1 | refine below_set ?_ GE379.out | refine below_set ?_ GE380.out | refine below_set ?_ GE387.out) | exact HB.out)))); have n4_ := Aside0.mk (Kd.R_lower (Kd.R_new' ho1 (Kd.R_lt (by (with_reducible repeat (first | apply Kd.R_alloc | apply Kd.R_drewN | apply Kd.R_drew)); exact HO_388001.out))) (below_size (by repeat (first | (with_reducible first | exact HB.out | apply below_alloc | apply pw_below_drewN | apply below_drew1 | refine below_set ?_ GE379.out | refine below_set ?_ GE380.out | refine below_set ?_ GE387.out) | exact HB.out)))); have n5_ := Aside0.mk (blk_below (g := gb379) (o := .cells #[.int .i64 a1_0, .int .u64 a1_1] 25 (0, 0)) (by (with_reducible repeat (first | refine blk_drewN ?_ _ | refine blk_drew ?_ | refine blk_alloc ?_ _)); exact BK379.out) hb); have n6_ := Aside0.mk (blk_below (g := gb380) (o := .cells #[.int .i64 a4_0, .int .u64 a4_1] 25 (0, 0)) (by (with_reducible repeat (first | refine blk_drewN ?_ _ | refine blk_drew ?_ | refine blk_alloc ?_ _)); exact BK380.out) hb); have n7_ := Aside0.mk (blk_below (g := gb387) (o := .cells #[.slice Ao16 t381.length co16, .slice Ao20 t384.length co20] 42 (0, 0)) (by (with_reducible repeat (first | refine blk_drewN ?_ _ | refine blk_drew ?_ | refine blk_alloc ?_ _)); exact BK387.out) hb); have n8_ := Aside0.mk (below_step (by repeat (first | (with_reducible first | exact HB.out | apply below_alloc | apply pw_below_drewN | apply below_drew1 | refine below_set ?_ GE379.out | refine below_set ?_ GE380.out | refine below_set ?_ GE387.out) | exact HB.out)) hb); clear HO_388000; clear HO_388001; clear HO409; clear BK379; clear BK380; clear BK387; clear HB; have HO_388000 := n0_; have HO_388001 := n1_; have HO409 := n2_; have HO412 := n3_; have HO415 := n4_; have BK379 := n5_; have BK380 := n6_; have BK387 := n7_; have HB := n8_; clear n0_ n1_ n2_ n3_ n4_ n5_ n6_ n7_ n8_; (try clear hb); (try clear hb2); (try clear hk); (try clear hi); (try clear ho0); (try clear ho1)) | ((with_reducible refine gate_dst (N := 16) rfl ?_); (try (refine gate_guard (by rfl) ?_; dsimp only)); refine box_event ?hg (N := 16) ?hd (cs := #[.slice none 0 0, .slice none 0 0]) (t := 42) ?hr ?_; (case hd => rfl); (case hg => rfl); (case hr => first | (go_simp; done) | (go_simp; rfl)); intro gb416 hg w47 hbox hb; have n0_ := Aside0.mk (Kd.R_below (by (with_reducible repeat (first | apply Kd.R_alloc | apply Kd.R_drewN | apply Kd.R_drew)); exact HO_388000.out) hb); have n1_ := Aside0.mk (Kd.R_below (by (with_reducible repeat (first | apply Kd.R_alloc | apply Kd.R_drewN | apply Kd.R_drew)); exact HO_388001.out) hb); have n2_ := Aside0.mk (Kd.R_below (by (with_reducible repeat (first | apply Kd.R_alloc | apply Kd.R_drewN | apply Kd.R_drew)); exact HO409.out) hb); have n3_ := Aside0.mk (Kd.R_below (by (with_reducible repeat (first | apply Kd.R_alloc | apply Kd.R_drewN | apply Kd.R_drew)); exact HO412.out) hb); have n4_ := Aside0.mk (Kd.R_below (by (with_reducible repeat (first | apply Kd.R_alloc | apply Kd.R_drewN | apply Kd.R_drew)); exact HO415.out) hb); have n5_ := Aside0.mk (blk_below (g := gb379) (o := .cells #[.int .i64 a1_0, .int .u64 a1_1] 25 (0, 0)) (by (with_reducible repeat (first | refine blk_drewN ?_ _ | refine blk_drew ?_ | refine blk_alloc ?_ _)); exact BK379.out) hb); have n6_ := Aside0.mk (blk_below (g := gb380) (o := .cells #[.int .i64 a4_0, .int .u64 a4_1] 25 (0, 0)) (by (with_reducible repeat (first | refine blk_drewN ?_ _ | refine blk_drew ?_ | refine blk_alloc ?_ _)); exact BK380.out) hb); have n7_ := Aside0.mk (blk_below (g := gb387) (o := .cells #[.slice Ao16 t381.length co16, .slice Ao20 t384.length co20] 42 (0, 0)) (by (with_reducible repeat (first | refine blk_drewN ?_ _ | refine blk_drew ?_ | refine blk_alloc ?_ _)); exact BK387.out) hb); have n8_ := Aside0.mk (below_step (by repeat (first | (with_reducible first | exact HB.out | apply below_alloc | apply pw_below_drewN | apply below_drew1 | refine below_set ?_ GE379.out | refine below_set ?_ GE380.out | refine below_set ?_ GE387.out) | exact HB.out)) hb); have n9_ := Aside0.mk (hbox); have n10_ := Aside0.mk ((by rw [hg]; exact (below_size (by repeat (first | (with_reducible first | exact HB.out | apply below_alloc | apply pw_below_drewN | apply below_drew1 | refine below_set ?_ GE379.out | refine below_set ?_ GE380.out | refine below_set ?_ GE387.out) | exact HB.out))) : w.heap.size ≤ gb416)); have n11_ := Aside0.mk ((by rw [hg]; exact (below_size (by repeat (first | (with_reducible first | exact HB.out | apply below_alloc | apply pw_below_drewN | apply below_drew1 | refine below_set ?_ GE379.out | refine below_set ?_ GE380.out | refine below_set ?_ GE387.out) | exact HB.out))) : w.heap.size ≤ gb416)); have n12_ := Aside0.mk ((by rw [hg]; exact Nat.ne_of_lt (blk_lt (g := gb379) (o := .cells #[.int .i64 a1_0, .int .u64 a1_1] 25 (0, 0)) (by (with_reducible repeat (first | refine blk_drewN ?_ _ | refine blk_drew ?_ | refine blk_alloc ?_ _)); exact BK379.out)) : gb379 ≠ gb416)); have n13_ := Aside0.mk ((by rw [hg]; exact Nat.ne_of_gt (blk_lt (g := gb379) (o := .cells #[.int .i64 a1_0, .int .u64 a1_1] 25 (0, 0)) (by (with_reducible repeat (first | refine blk_drewN ?_ _ | refine blk_drew ?_ | refine blk_alloc ?_ _)); exact BK379.out)) : gb416 ≠ gb379)); have n14_ := Aside0.mk ((by rw [hg]; exact Nat.ne_of_lt (blk_lt (g := gb380) (o := .cells #[.int .i64 a4_0, .int .u64 a4_1] 25 (0, 0)) (by (with_reducible repeat (first | refine blk_drewN ?_ _ | refine blk_drew ?_ | refine blk_alloc ?_ _)); exact BK380.out)) : gb380 ≠ gb416)); have n15_ := Aside0.mk ((by rw [hg]; exact Nat.ne_of_gt (blk_lt (g := gb380) (o := .cells #[.int .i64 a4_0, .int .u64 a4_1] 25 (0, 0)) (by (with_reducible repeat (first | refine blk_drewN ?_ _ | refine blk_drew ?_ | refine blk_alloc ?_ _)); exact BK380.out)) : gb416 ≠ gb380)); have n16_ := Aside0.mk ((by rw [hg]; exact Nat.ne_of_lt (blk_lt (g := gb387) (o := .cells #[.slice Ao16 t381.length co16, .slice Ao20 t384.length co20] 42 (0, 0)) (by (with_reducible repeat (first | refine blk_drewN ?_ _ | refine blk_drew ?_ | refine blk_alloc ?_ _)); exact BK387.out)) : gb387 ≠ gb416)); have n17_ := Aside0.mk ((by rw [hg]; exact Nat.ne_of_gt (blk_lt (g := gb387) (o := .cells #[.slice Ao16 t381.length co16, .slice Ao20 t384.length co20] 42 (0, 0)) (by (with_reducible repeat (first | refine blk_drewN ?_ _ | refine blk_drew ?_ | refine blk_alloc ?_ _)); exact BK387.out)) : gb416 ≠ gb387)); clear HO_388000; clear HO_388001; clear HO409; clear HO412; clear HO415; clear BK379; clear BK380; clear BK387; clear HB; have HO_388000 := n0_; have HO_388001 := n1_; have HO409 := n2_; have HO412 := n3_; have HO415 := n4_; have BK379 := n5_; have BK380 := n6_; have BK387 := n7_; have HB := n8_; have BK416 := n9_; have GW416 := n10_; have GE416 := n11_; have NB379_416 := n12_; have NB416_379 := n13_; have NB380_416 := n14_; have NB416_380 := n15_; have NB387_416 := n16_; have NB416_387 := n17_; clear n0_ n1_ n2_ n3_ n4_ n5_ n6_ n7_ n8_ n9_ n10_ n11_ n12_ n13_ n14_ n15_ n16_ n17_; clear hb hbox hg; obtain ⟨Ao48, co48, eo48⟩ := Kd.R_slice HO412.out; subst eo48; have hnb49 := NB416_379.out; have hnc49 := NB379_416.out; have hnb50 := NB416_380.out; have hnc50 := NB380_416.out; have hnb51 := NB416_387.out; have hnc51 := NB387_416.out; have hcz52_0 : w47.cell? ⟨gb416, 0, none⟩ = some (.slice none 0 0) := (blk_cell BK416.out 0).trans rfl; have hcz52_1 : w47.cell? ⟨gb416, 1, none⟩ = some (.slice none 0 0) := (blk_cell BK416.out 1).trans rfl; have hfz52_0 := blk_frozen BK416.out 0; have hfz52_1 := blk_frozen BK416.out 1; obtain ⟨Ao53, co53, eo53⟩ := Kd.R_slice HO415.out; subst eo53))
                    (try simp only [Act.put, List.setIfInBounds_toArray, List.set_cons_zero, List.set_cons_succ])
                    go_cut [85] (fun v85 wc => ∃ (kq : Nat) (x85_32 : Bool), v85 = .bool x85_32 ∧ Aside0 (jalousielaw05_ViewPuts.j1 kq l0 (Int.tmod (wrap64 (a2)) (wrap64 ((t384.length : Int) + 1))) y407 x85_32 a1_0 a1_1 a4_0 a4_1 t381 t384 t410 t413 = some r) ∧ Aside0 (kq ≤ kj8) ∧ Aside0 (Kd.R k63 63 wc w.heap.size (fun _ => True) (.slice Ao45 y407.length co45) y407) ∧ Aside0 (Kd.R k60 60 wc w.heap.size (fun k_ => some k_ ≠ ((.slice Ao48 t410.length co48) : Value).ownBlock) (.slice Ao16 t381.length co16) t381) ∧ Aside0 (Kd.R (Kd.int .i64) 3 wc w.heap.size (fun k_ => some k_ ≠ ((.slice Ao53 t413.length co53) : Value).ownBlock) (.slice Ao20 t384.length co20) t384) ∧ Aside0 (Kd.R k60 60 wc w.heap.size (fun k_ => some k_ ≠ ((.slice Ao16 t381.length co16) : Value).ownBlock) (.slice Ao48 t410.length co48) t410) ∧ Aside0 (Kd.R (Kd.int .i64) 3 wc w.heap.size (fun k_ => some k_ ≠ ((.slice Ao20 t384.length co20) : Value).ownBlock) (.slice Ao53 t413.length co53) t413) ∧ Aside0 (wc.heap[gb379]? = some (.cells #[.int .i64 a1_0, .int .u64 a1_1] 25 (0, 0))) ∧ Aside0 (wc.heap[gb380]? = some (.cells #[.int .i64 a4_0, .int .u64 a4_1] 25 (0, 0))) ∧ Aside0 (wc.heap[gb387]? = some (.cells #[(.slice Ao16 t381.length co16), (.slice Ao20 t384.length co20)] 42 (0, 0))) ∧ Aside0 (wc.heap[gb416]? = some (.cells #[(.slice Ao48 t410.length co48), (.slice Ao53 t413.length co53)] 42 (0, 0))) ∧ Aside0 (Below w.heap.size w wc))
                    case first =>
                      have H := HC33.out
                      clear HC33
                      by_cases c54 : (t410.length : Int) = (wrap64 ((t381.length : Int) + 1))
                      · rw [if_pos c54] at H
                        have c54b0 : ((t410.length : Int) == (wrap64 ((t381.length : Int) + 1))) = true := beq_iff_eq.mpr c54
                        have c54b1 : ((t410.length : Int) != (wrap64 ((t381.length : Int) + 1))) = false := bne_eq_false_iff_eq.mpr c54
                        clear c54
                        (first | rw [c54b0] | (simp only [i64_w, i32_w]; rw [c54b0]) | skip)
                        obtain ⟨ji55, hji55⟩ : ∃ j_ : Int, (Int.tmod (wrap64 (a2)) (wrap64 ((t384.length : Int) + 1))) = j_ := ⟨_, rfl⟩
                        replace H : (if 0 ≤ (ji55) then (if (ji55) < (t410.length : Int) then (jalousielaw05_ViewPuts.j1 kj8 l0 (ji55) y407 (((rd_T60 t410 (ji55)).f0).toList != a3.toList) a1_0 a1_1 a4_0 a4_1 t381 t384 t410 t413) else (none)) else (none)) = some r := by first | (rw [hji55] at H; exact H) | (simp only [hji55] at H ⊢; exact H)
                        by_cases c56 : 0 ≤ (ji55)
                        · rw [if_pos c56] at H
                          have c56b0 : decide (0 ≤ (ji55)) = true := decide_eq_true c56
                          clear c56
                          by_cases c57 : (ji55) < (t410.length : Int)
                          · rw [if_pos c57] at H
                            have c57b0 : decide ((ji55) < (t410.length : Int)) = true := decide_eq_true c57
                            clear c57
                            have H' := Aside0.mk H
                            clear H
                            have hnb58 := NB416_379.out
                            have hnc58 := NB379_416.out
                            have hnb59 := NB416_380.out
                            have hnc59 := NB380_416.out
                            have hnb60 := NB416_387.out
                            have hnc60 := NB387_416.out
                            have hcz61_0 : w47.cell? ⟨gb416, 0, none⟩ = some (.slice none 0 0) := (blk_cell BK416.out 0).trans rfl
                            have hcz61_1 : w47.cell? ⟨gb416, 1, none⟩ = some (.slice none 0 0) := (blk_cell BK416.out 1).trans rfl
                            have hfz61_0 := blk_frozen BK416.out 0
                            have hfz61_1 := blk_frozen BK416.out 1
                            have hnb62 := NB387_379.out
                            have hnc62 := NB379_387.out
                            have hnb63 := NB387_380.out
                            have hnc63 := NB380_387.out
                            have hcz64_0 : w47.cell? ⟨gb387, 0, none⟩ = some (.slice Ao16 t381.length co16) := (blk_cell BK387.out 0).trans rfl
                            have hcz64_1 : w47.cell? ⟨gb387, 1, none⟩ = some (.slice Ao20 t384.length co20) := (blk_cell BK387.out 1).trans rfl
                            have hfz64_0 := blk_frozen BK387.out 0
                            have hfz64_1 := blk_frozen BK387.out 1
                            have p417 : 0 ≤ ((ji55) : Int) := of_decide_eq_true (by first | (with_reducible assumption) | assumption)
                            have q417 : (ji55) < (t410.length : Int) := of_decide_eq_true (by first | (with_reducible assumption) | assumption)
                            obtain ⟨ad417, e417, hx417_0, hx417_1⟩ := at_T60 (Kd.R_reads' HO412.out).2.2 (ji55) p417 q417
                            cases e417
                            have hn417_0 : ad417.block ≠ gb416 := Kd.own_blk (Kd.R_ne HO412.out BK416.out (by decide))
                            have hn417_1 : ad417.block ≠ gb416 := Kd.own_blk (Kd.R_ne HO412.out BK416.out (by decide))
                            replace hx417_0 := (cell_far (p := ⟨gb416, 0, none⟩) (by first | (rw [add_block]; exact hn417_0) | (show (Addr.add _ _).block ≠ _; rw [add_block]; exact hn417_0) | exact hn417_0) (.slice (some ad417) t410.length co48)).trans hx417_0
                            replace hx417_1 := (cell_far (p := ⟨gb416, 0, none⟩) (by first | (rw [add_block]; exact hn417_0) | (show (Addr.add _ _).block ≠ _; rw [add_block]; exact hn417_0) | exact hn417_0) (.slice (some ad417) t410.length co48)).trans hx417_1
                            replace hx417_0 := (cell_far (p := ⟨gb416, 1, none⟩) (by first | (rw [add_block]; exact hn417_1) | (show (Addr.add _ _).block ≠ _; rw [add_block]; exact hn417_1) | exact hn417_1) (.slice Ao53 t413.length co53)).trans hx417_0
                            replace hx417_1 := (cell_far (p := ⟨gb416, 1, none⟩) (by first | (rw [add_block]; exact hn417_1) | (show (Addr.add _ _).block ≠ _; rw [add_block]; exact hn417_1) | exact hn417_1) (.slice Ao53 t413.length co53)).trans hx417_1
                            clear hn417_0
                            clear hn417_1
                            replace p417 := eq_true p417
                            replace q417 := eq_true q417
                            go_wp2
                            go_meet
                            case rel => exact ⟨_, ((((rd_T60 t410 (ji55)).f0).toList != a3.toList)), (by first | rfl | (simp; done) | (simp only [← hji55] <;> (first | rfl | simp)) | (simp [*]; done)), (by first | exact H' | (rw [hji55]; exact H')), ⟨by have := HJ8.out; first | omega | exact Nat.le_refl _⟩, ⟨by (with_reducible repeat (first | apply Kd.R_alloc | apply Kd.R_drewN | apply Kd.R_drew)); exact Kd.R_mono (Kd.R_far (p := ⟨gb416, 1, none⟩) (Kd.R_far (p := ⟨gb416, 0, none⟩) (Kd.R_types HO409.out BK416.out (by decide)) (fun _ hk => hk.2) (.slice (some ad417) t410.length co48)) (fun _ hk => hk.2) (.slice Ao53 t413.length co53)) (fun _ hk => trivial)⟩, ⟨by (with_reducible repeat (first | apply Kd.R_alloc | apply Kd.R_drewN | apply Kd.R_drew)); exact Kd.R_mono (Kd.R_far (p := ⟨gb416, 1, none⟩) (Kd.R_far (p := ⟨gb416, 0, none⟩) (Kd.R_types HO_388000.out BK416.out (by decide)) (fun _ hk => hk.2) (.slice (some ad417) t410.length co48)) (fun _ hk => hk.2) (.slice Ao53 t413.length co53)) (fun _ hk => hk.1.2)⟩, ⟨by (with_reducible repeat (first | apply Kd.R_alloc | apply Kd.R_drewN | apply Kd.R_drew)); exact Kd.R_mono (Kd.R_far (p := ⟨gb416, 1, none⟩) (Kd.R_far (p := ⟨gb416, 0, none⟩) (Kd.R_types HO_388001.out BK416.out (by decide)) (fun _ hk => hk.2) (.slice (some ad417) t410.length co48)) (fun _ hk => hk.2) (.slice Ao53 t413.length co53)) (fun _ hk => hk.1.2)⟩, ⟨by (with_reducible repeat (first | apply Kd.R_alloc | apply Kd.R_drewN | apply Kd.R_drew)); exact Kd.R_mono (Kd.R_far (p := ⟨gb416, 1, none⟩) (Kd.R_far (p := ⟨gb416, 0, none⟩) (Kd.R_types HO412.out BK416.out (by decide)) (fun _ hk => hk.2) (.slice (some ad417) t410.length co48)) (fun _ hk => hk.2) (.slice Ao53 t413.length co53)) (fun _ hk => hk.1.2)⟩, ⟨by (with_reducible repeat (first | apply Kd.R_alloc | apply Kd.R_drewN | apply Kd.R_drew)); exact Kd.R_mono (Kd.R_far (p := ⟨gb416, 1, none⟩) (Kd.R_far (p := ⟨gb416, 0, none⟩) (Kd.R_types HO415.out BK416.out (by decide)) (fun _ hk => hk.2) (.slice (some ad417) t410.length co48)) (fun _ hk => hk.2) (.slice Ao53 t413.length co53)) (fun _ hk => hk.1.2)⟩, ⟨by (with_reducible repeat (first | refine blk_drewN ?_ _ | refine blk_drew ?_ | refine blk_alloc ?_ _)); refine blk_far ?_ NB379_416.out _; (with_reducible repeat (first | refine blk_drewN ?_ _ | refine blk_drew ?_ | refine blk_alloc ?_ _)); refine blk_far ?_ NB379_416.out _; (with_reducible repeat (first | refine blk_drewN ?_ _ | refine blk_drew ?_ | refine blk_alloc ?_ _)); exact BK379.out⟩, ⟨by (with_reducible repeat (first | refine blk_drewN ?_ _ | refine blk_drew ?_ | refine blk_alloc ?_ _)); refine blk_far ?_ NB380_416.out _; (with_reducible repeat (first | refine blk_drewN ?_ _ | refine blk_drew ?_ | refine blk_alloc ?_ _)); refine blk_far ?_ NB380_416.out _; (with_reducible repeat (first | refine blk_drewN ?_ _ | refine blk_drew ?_ | refine blk_alloc ?_ _)); exact BK380.out⟩, ⟨by (with_reducible repeat (first | refine blk_drewN ?_ _ | refine blk_drew ?_ | refine blk_alloc ?_ _)); refine blk_far ?_ NB387_416.out _; (with_reducible repeat (first | refine blk_drewN ?_ _ | refine blk_drew ?_ | refine blk_alloc ?_ _)); refine blk_far ?_ NB387_416.out _; (with_reducible repeat (first | refine blk_drewN ?_ _ | refine blk_drew ?_ | refine blk_alloc ?_ _)); exact BK387.out⟩, ⟨by (with_reducible repeat (first | refine blk_drewN ?_ _ | refine blk_drew ?_ | refine blk_alloc ?_ _)); refine blk_put (cs := #[.slice (some ad417) t410.length co48, .slice none 0 0]) ?_ 1 _ rfl; (with_reducible repeat (first | refine blk_drewN ?_ _ | refine blk_drew ?_ | refine blk_alloc ?_ _)); refine blk_put (cs := #[.slice none 0 0, .slice none 0 0]) ?_ 0 _ rfl; (with_reducible repeat (first | refine blk_drewN ?_ _ | refine blk_drew ?_ | refine blk_alloc ?_ _)); exact BK416.out⟩, ⟨by repeat (first | (with_reducible first | exact HB.out | apply below_alloc | apply pw_below_drewN | apply below_drew1 | refine below_set ?_ GE379.out | refine below_set ?_ GE380.out | refine below_set ?_ GE387.out | refine below_set ?_ GE416.out) | exact HB.out)⟩⟩
                          · rw [if_neg c57] at H
                            exact absurd H (by simp)
                        · rw [if_neg c56] at H
                          exact absurd H (by simp)
                      · rw [if_neg c54] at H
                        have c54b0 : ((t410.length : Int) == (wrap64 ((t381.length : Int) + 1))) = false := beq_eq_false_iff_ne.mpr c54
                        have c54b1 : ((t410.length : Int) != (wrap64 ((t381.length : Int) + 1))) = true := bne_iff_ne.mpr c54
                        (first | rw [c54b0] | (simp only [i64_w, i32_w]; rw [c54b0]) | skip)
                        have H' := Aside0.mk H
                        clear H
                        have hnb65 := NB416_379.out
                        have hnc65 := NB379_416.out
                        have hnb66 := NB416_380.out
                        have hnc66 := NB380_416.out
                        have hnb67 := NB416_387.out
                        have hnc67 := NB387_416.out
                        have hcz68_0 : w47.cell? ⟨gb416, 0, none⟩ = some (.slice none 0 0) := (blk_cell BK416.out 0).trans rfl
                        have hcz68_1 : w47.cell? ⟨gb416, 1, none⟩ = some (.slice none 0 0) := (blk_cell BK416.out 1).trans rfl
                        have hfz68_0 := blk_frozen BK416.out 0
                        have hfz68_1 := blk_frozen BK416.out 1
                        have hnb69 := NB387_379.out
                        have hnc69 := NB379_387.out
                        have hnb70 := NB387_380.out
                        have hnc70 := NB380_387.out
                        have hcz71_0 : w47.cell? ⟨gb387, 0, none⟩ = some (.slice Ao16 t381.length co16) := (blk_cell BK387.out 0).trans rfl
                        have hcz71_1 : w47.cell? ⟨gb387, 1, none⟩ = some (.slice Ao20 t384.length co20) := (blk_cell BK387.out 1).trans rfl
                        have hfz71_0 := blk_frozen BK387.out 0
                        have hfz71_1 := blk_frozen BK387.out 1
                        go_wp2
                        go_meet
                        case rel => exact ⟨_, (true), (by first | rfl | (simp; done) | (simp [*]; done)), H', ⟨by have := HJ8.out; first | omega | exact Nat.le_refl _⟩, ⟨by (with_reducible repeat (first | apply Kd.R_alloc | apply Kd.R_drewN | apply Kd.R_drew)); exact Kd.R_mono (Kd.R_far (p := ⟨gb416, 1, none⟩) (Kd.R_far (p := ⟨gb416, 0, none⟩) (Kd.R_types HO409.out BK416.out (by decide)) (fun _ hk => hk.2) (.slice Ao48 t410.length co48)) (fun _ hk => hk.2) (.slice Ao53 t413.length co53)) (fun _ hk => trivial)⟩, ⟨by (with_reducible repeat (first | apply Kd.R_alloc | apply Kd.R_drewN | apply Kd.R_drew)); exact Kd.R_mono (Kd.R_far (p := ⟨gb416, 1, none⟩) (Kd.R_far (p := ⟨gb416, 0, none⟩) (Kd.R_types HO_388000.out BK416.out (by decide)) (fun _ hk => hk.2) (.slice Ao48 t410.length co48)) (fun _ hk => hk.2) (.slice Ao53 t413.length co53)) (fun _ hk => hk.1.2)⟩, ⟨by (with_reducible repeat (first | apply Kd.R_alloc | apply Kd.R_drewN | apply Kd.R_drew)); exact Kd.R_mono (Kd.R_far (p := ⟨gb416, 1, none⟩) (Kd.R_far (p := ⟨gb416, 0, none⟩) (Kd.R_types HO_388001.out BK416.out (by decide)) (fun _ hk => hk.2) (.slice Ao48 t410.length co48)) (fun _ hk => hk.2) (.slice Ao53 t413.length co53)) (fun _ hk => hk.1.2)⟩, ⟨by (with_reducible repeat (first | apply Kd.R_alloc | apply Kd.R_drewN | apply Kd.R_drew)); exact Kd.R_mono (Kd.R_far (p := ⟨gb416, 1, none⟩) (Kd.R_far (p := ⟨gb416, 0, none⟩) (Kd.R_types HO412.out BK416.out (by decide)) (fun _ hk => hk.2) (.slice Ao48 t410.length co48)) (fun _ hk => hk.2) (.slice Ao53 t413.length co53)) (fun _ hk => hk.1.2)⟩, ⟨by (with_reducible repeat (first | apply Kd.R_alloc | apply Kd.R_drewN | apply Kd.R_drew)); exact Kd.R_mono (Kd.R_far (p := ⟨gb416, 1, none⟩) (Kd.R_far (p := ⟨gb416, 0, none⟩) (Kd.R_types HO415.out BK416.out (by decide)) (fun _ hk => hk.2) (.slice Ao48 t410.length co48)) (fun _ hk => hk.2) (.slice Ao53 t413.length co53)) (fun _ hk => hk.1.2)⟩, ⟨by (with_reducible repeat (first | refine blk_drewN ?_ _ | refine blk_drew ?_ | refine blk_alloc ?_ _)); refine blk_far ?_ NB379_416.out _; (with_reducible repeat (first | refine blk_drewN ?_ _ | refine blk_drew ?_ | refine blk_alloc ?_ _)); refine blk_far ?_ NB379_416.out _; (with_reducible repeat (first | refine blk_drewN ?_ _ | refine blk_drew ?_ | refine blk_alloc ?_ _)); exact BK379.out⟩, ⟨by (with_reducible repeat (first | refine blk_drewN ?_ _ | refine blk_drew ?_ | refine blk_alloc ?_ _)); refine blk_far ?_ NB380_416.out _; (with_reducible repeat (first | refine blk_drewN ?_ _ | refine blk_drew ?_ | refine blk_alloc ?_ _)); refine blk_far ?_ NB380_416.out _; (with_reducible repeat (first | refine blk_drewN ?_ _ | refine blk_drew ?_ | refine blk_alloc ?_ _)); exact BK380.out⟩, ⟨by (with_reducible repeat (first | refine blk_drewN ?_ _ | refine blk_drew ?_ | refine blk_alloc ?_ _)); refine blk_far ?_ NB387_416.out _; (with_reducible repeat (first | refine blk_drewN ?_ _ | refine blk_drew ?_ | refine blk_alloc ?_ _)); refine blk_far ?_ NB387_416.out _; (with_reducible repeat (first | refine blk_drewN ?_ _ | refine blk_drew ?_ | refine blk_alloc ?_ _)); exact BK387.out⟩, ⟨by (with_reducible repeat (first | refine blk_drewN ?_ _ | refine blk_drew ?_ | refine blk_alloc ?_ _)); refine blk_put (cs := #[.slice Ao48 t410.length co48, .slice none 0 0]) ?_ 1 _ rfl; (with_reducible repeat (first | refine blk_drewN ?_ _ | refine blk_drew ?_ | refine blk_alloc ?_ _)); refine blk_put (cs := #[.slice none 0 0, .slice none 0 0]) ?_ 0 _ rfl; (with_reducible repeat (first | refine blk_drewN ?_ _ | refine blk_drew ?_ | refine blk_alloc ?_ _)); exact BK416.out⟩, ⟨by repeat (first | (with_reducible first | exact HB.out | apply below_alloc | apply pw_below_drewN | apply below_drew1 | refine below_set ?_ GE379.out | refine below_set ?_ GE380.out | refine below_set ?_ GE387.out | refine below_set ?_ GE416.out) | exact HB.out)⟩⟩
                    case rest =>
                      clear HC33
                      try clear c1
                      try clear c2
                      try clear p2
                      try clear c3
                      try clear q3
                      try clear c4
                      try clear p4
                      try clear q4
                      try clear hx4
                      try clear c5
                      try clear c6
                      try clear p6
                      try clear c7
                      try clear c7b0
                      try clear c7b1
                      try clear c11
                      try clear c12
                      try clear c17
                      try clear c18
                      try clear c22
                      try clear c22b0
                      try clear c22b1
                      try clear c23
                      try clear c23b0
                      try clear c24
                      try clear c25
                      try clear c25b0
                      try clear c25b1
                      try clear c26
                      try clear c26b0
                      try clear c26b1
                      try clear c27
                      try clear c28
                      try clear c29
                      try clear c29b0
                      try clear c30
                      try clear c30b0
                      try clear c31
                      try clear q36
                      try clear c38
                      try clear c39
                      try clear p41
                      try clear q41
                      try clear hx41
                      try clear c42
                      try clear q42
                      try clear c49
                      try clear c50
                      try clear c51
                      try clear c54
                      try clear c54b0
                      try clear c54b1
                      try clear c56
                      try clear c56b0
                      try clear c57
                      try clear c57b0
                      try clear c58
                      try clear c59
                      try clear c60
                      try clear c62
                      try clear c63
                      try clear p64
                      try clear c65
                      try clear c66
                      try clear c67
                      try clear c69
                      try clear c70
                      try clear hcz13_0
                      try clear hcz13_1
                      try clear hcz19_0
                      try clear hcz19_1
                      try clear hcz40_0
                      try clear hcz40_1
                      try clear hcz44_0
                      try clear hcz44_1
                      try clear hcz52_0
                      try clear hcz52_1
                      try clear hcz61_0
                      try clear hcz61_1
                      try clear hcz64_0
                      try clear hcz64_1
                      try clear hcz68_0
                      try clear hcz68_1
                      try clear hcz71_0
                      try clear hcz71_1
                      try clear hfz13_0
                      try clear hfz13_1
                      try clear hfz19_0
                      try clear hfz19_1
                      try clear hfz40_0
                      try clear hfz40_1
                      try clear hfz44_0
                      try clear hfz44_1
                      try clear hfz52_0
                      try clear hfz52_1
                      try clear hfz61_0
                      try clear hfz61_1
                      try clear hfz64_0
                      try clear hfz64_1
                      try clear hfz68_0
                      try clear hfz68_1
                      try clear hfz71_0
                      try clear hfz71_1
                      try clear hx417_0
                      try clear hx417_1
                      try clear p2
                      try clear p417
                      try clear p6
                      try clear q042
                      try clear q36
                      try clear q417
                      try clear q42
                      obtain ⟨kq, x85_32, rfl, HA, HJ32, HO_15, HO_388000, HO_388001, HO_417000, HO_417001, BK379, BK380, BK387, BK416, HB⟩ := hcut
                      cases kq with
                      | zero => exact absurd HA.out (by simp [jalousielaw05_ViewPuts.j1])
                      | succ kj32 =>
                        have H := HA.out
                        clear HA
                        simp only [jalousielaw05_ViewPuts.j1] at H
                        by_cases c72 : x85_32 = true
                        · subst c72
                          have H1 : (some false) = some r := by rw [if_pos rfl] at H; exact H
                          clear H
                          have H := H1
                          clear H1
                          exact absurd (Option.some.inj (H.trans (congrArg some HRT.out))) (by decide)
                        · replace c72 := Bool.eq_false_iff.mpr c72
                          subst c72
                          have H1 : (jalousielaw05_ViewPuts.l0 kj32 l0 (Int.tmod (wrap64 (a2)) (wrap64 ((t384.length : Int) + 1))) y407 0 a1_0 a1_1 a4_0 a4_1 t381 t384 t410 t413) = some r := by rw [if_neg (show ¬ (false = true) by decide)] at H; exact H
                          clear H
                          have H := H1
                          clear H1
                          have H' := Aside0.mk H
                          clear H
                          go_wp2
                          go_loopg [17] kj32 (fun kq v17 w' => ∃ (x17_3 : Int), v17 = .int .i64 x17_3 ∧ Aside0 (jalousielaw05_ViewPuts.l0 kq l0 (Int.tmod (wrap64 (a2)) (wrap64 ((t384.length : Int) + 1))) y407 x17_3 a1_0 a1_1 a4_0 a4_1 t381 t384 t410 t413 = some r) ∧ Aside0 (kq ≤ kj32) ∧ Aside0 (Kd.R k63 63 w' w.heap.size (fun _ => True) (.slice Ao45 y407.length co45) y407) ∧ Aside0 (Kd.R k60 60 w' w.heap.size (fun k_ => some k_ ≠ ((.slice Ao48 t410.length co48) : Value).ownBlock) (.slice Ao16 t381.length co16) t381) ∧ Aside0 (Kd.R (Kd.int .i64) 3 w' w.heap.size (fun k_ => some k_ ≠ ((.slice Ao53 t413.length co53) : Value).ownBlock) (.slice Ao20 t384.length co20) t384) ∧ Aside0 (Kd.R k60 60 w' w.heap.size (fun k_ => some k_ ≠ ((.slice Ao16 t381.length co16) : Value).ownBlock) (.slice Ao48 t410.length co48) t410) ∧ Aside0 (Kd.R (Kd.int .i64) 3 w' w.heap.size (fun k_ => some k_ ≠ ((.slice Ao20 t384.length co20) : Value).ownBlock) (.slice Ao53 t413.length co53) t413) ∧ Aside0 (w'.heap[gb379]? = some (.cells #[.int .i64 a1_0, .int .u64 a1_1] 25 (0, 0))) ∧ Aside0 (w'.heap[gb380]? = some (.cells #[.int .i64 a4_0, .int .u64 a4_1] 25 (0, 0))) ∧ Aside0 (w'.heap[gb387]? = some (.cells #[(.slice Ao16 t381.length co16), (.slice Ao20 t384.length co20)] 42 (0, 0))) ∧ Aside0 (w'.heap[gb416]? = some (.cells #[(.slice Ao48 t410.length co48), (.slice Ao53 t413.length co53)] 42 (0, 0))) ∧ Aside0 (Below w.heap.size w w'))
                          case atStart => exact ⟨(0), (by first | rfl | (simp; done) | (simp [*]; done)), H', ⟨Nat.le_refl _⟩, ⟨by (with_reducible repeat (first | apply Kd.R_alloc | apply Kd.R_drewN | apply Kd.R_drew)); exact HO_15.out⟩, ⟨by (with_reducible repeat (first | apply Kd.R_alloc | apply Kd.R_drewN | apply Kd.R_drew)); exact HO_388000.out⟩, ⟨by (with_reducible repeat (first | apply Kd.R_alloc | apply Kd.R_drewN | apply Kd.R_drew)); exact HO_388001.out⟩, ⟨by (with_reducible repeat (first | apply Kd.R_alloc | apply Kd.R_drewN | apply Kd.R_drew)); exact HO_417000.out⟩, ⟨by (with_reducible repeat (first | apply Kd.R_alloc | apply Kd.R_drewN | apply Kd.R_drew)); exact HO_417001.out⟩, ⟨by (with_reducible repeat (first | refine blk_drewN ?_ _ | refine blk_drew ?_ | refine blk_alloc ?_ _)); exact BK379.out⟩, ⟨by (with_reducible repeat (first | refine blk_drewN ?_ _ | refine blk_drew ?_ | refine blk_alloc ?_ _)); exact BK380.out⟩, ⟨by (with_reducible repeat (first | refine blk_drewN ?_ _ | refine blk_drew ?_ | refine blk_alloc ?_ _)); exact BK387.out⟩, ⟨by (with_reducible repeat (first | refine blk_drewN ?_ _ | refine blk_drew ?_ | refine blk_alloc ?_ _)); exact BK416.out⟩, ⟨by repeat (first | (with_reducible first | exact HB.out | apply below_alloc | apply pw_below_drewN | apply below_drew1 | refine below_set ?_ GE379.out | refine below_set ?_ GE380.out | refine below_set ?_ GE387.out | refine below_set ?_ GE416.out) | exact HB.out)⟩⟩
                          case round =>
                            clear H'
                            try clear c1
                            try clear c2
                            try clear p2
                            try clear c3
                            try clear q3
                            try clear c4
                            try clear p4
                            try clear q4
                            try clear hx4
                            try clear c5
                            try clear c6
                            try clear p6
                            try clear c7
                            try clear c7b0
                            try clear c7b1
                            try clear c11
                            try clear c12
                            try clear c17
                            try clear c18
                            try clear c22
                            try clear c22b0
                            try clear c22b1
                            try clear c23
                            try clear c23b0
                            try clear c24
                            try clear c25
                            try clear c25b0
                            try clear c25b1
                            try clear c26
                            try clear c26b0
                            try clear c26b1
                            try clear c27
                            try clear c28
                            try clear c29
                            try clear c29b0
                            try clear c30
                            try clear c30b0
                            try clear c31
                            try clear q36
                            try clear c38
                            try clear c39
                            try clear p41
                            try clear q41
                            try clear hx41
                            try clear c42
                            try clear q42
                            try clear c49
                            try clear c50
                            try clear c51
                            try clear c54
                            try clear c54b0
                            try clear c54b1
                            try clear c56
                            try clear c56b0
                            try clear c57
                            try clear c57b0
                            try clear c58
                            try clear c59
                            try clear c60
                            try clear c62
                            try clear c63
                            try clear p64
                            try clear c65
                            try clear c66
                            try clear c67
                            try clear c69
                            try clear c70
                            try clear c72
                            try clear hcz13_0
                            try clear hcz13_1
                            try clear hcz19_0
                            try clear hcz19_1
                            try clear hcz40_0
                            try clear hcz40_1
                            try clear hcz44_0
                            try clear hcz44_1
                            try clear hcz52_0
                            try clear hcz52_1
                            try clear hcz61_0
                            try clear hcz61_1
                            try clear hcz64_0
                            try clear hcz64_1
                            try clear hcz68_0
                            try clear hcz68_1
                            try clear hcz71_0
                            try clear hcz71_1
                            try clear hfz13_0
                            try clear hfz13_1
                            try clear hfz19_0
                            try clear hfz19_1
                            try clear hfz40_0
                            try clear hfz40_1
                            try clear hfz44_0
                            try clear hfz44_1
                            try clear hfz52_0
                            try clear hfz52_1
                            try clear hfz61_0
                            try clear hfz61_1
                            try clear hfz64_0
                            try clear hfz64_1
                            try clear hfz68_0
                            try clear hfz68_1
                            try clear hfz71_0
                            try clear hfz71_1
                            try clear hx417_0
                            try clear hx417_1
                            try clear p2
                            try clear p4
                            try clear p41
                            try clear p417
                            try clear p6
                            try clear p64
                            try clear q042
                            try clear q3
                            try clear q36
                            try clear q4
                            try clear q41
                            try clear q417
                            try clear q42
                            obtain ⟨x17_3, rfl, HA, HK3, HO_15, HO_388000, HO_388001, HO_417000, HO_417001, BK379, BK380, BK387, BK416, HB⟩ := hrel
                            cases gk with
                            | zero => exact absurd HA.out (by simp [jalousielaw05_ViewPuts.l0])
                            | succ k3 =>
                              have H := HA.out
                              clear HA
                              simp only [jalousielaw05_ViewPuts.l0] at H
                              by_cases c73 : x17_3 < (t381.length : Int)
                              · rw [if_pos c73] at H
                                have c73b0 : decide (x17_3 < (t381.length : Int)) = true := decide_eq_true c73
                                clear c73
                                by_cases c74 : 0 ≤ x17_3
                                · rw [if_pos c74] at H
                                  have c74b0 : decide (0 ≤ x17_3) = true := decide_eq_true c74
                                  clear c74
                                  by_cases c75 : x17_3 < (t410.length : Int)
                                  · rw [if_pos c75] at H
                                    have c75b0 : decide (x17_3 < (t410.length : Int)) = true := decide_eq_true c75
                                    clear c75
                                    by_cases c76 : x17_3 ≥ (Int.tmod (wrap64 (a2)) (wrap64 ((t384.length : Int) + 1)))
                                    · rw [if_pos c76] at H
                                      have c76b0 : decide ((Int.tmod (wrap64 (a2)) (wrap64 ((t384.length : Int) + 1))) ≤ x17_3) = true := decide_eq_true c76
                                      clear c76
                                      obtain ⟨ji77, hji77⟩ : ∃ j_ : Int, (wrap64 (x17_3 + 1)) = j_ := ⟨_, rfl⟩
                                      replace H : (if 0 ≤ (ji77) then (if (ji77) < (t410.length : Int) then (if ((rd_T60 t410 (ji77)).f0).toList = ((rd_T60 t381 x17_3).f0).toList then (jalousielaw05_ViewPuts.l0 k3 l0 (Int.tmod (wrap64 (a2)) (wrap64 ((t384.length : Int) + 1))) y407 ji77 a1_0 a1_1 a4_0 a4_1 t381 t384 t410 t413) else (some false)) else (none)) else (none)) = some r := by first | (rw [hji77] at H; exact H) | (simp only [hji77] at H ⊢; exact H)
                                      have hji77w : (IntKind.i64.wrap (x17_3 + 1)) = ji77 := (i64_w _).trans hji77
                                      by_cases c78 : 0 ≤ (ji77)
                                      · rw [if_pos c78] at H
                                        have c78b0 : decide (0 ≤ (ji77)) = true := decide_eq_true c78
                                        clear c78
                                        by_cases c79 : (ji77) < (t410.length : Int)
                                        · rw [if_pos c79] at H
                                          have c79b0 : decide ((ji77) < (t410.length : Int)) = true := decide_eq_true c79
                                          clear c79
                                          by_cases c80 : ((rd_T60 t410 (ji77)).f0).toList = ((rd_T60 t381 x17_3).f0).toList
                                          · rw [if_pos c80] at H
                                            have c80b0 : (((rd_T60 t410 (ji77)).f0).toList == ((rd_T60 t381 x17_3).f0).toList) = true := beq_iff_eq.mpr c80
                                            have c80b1 : (((rd_T60 t410 (ji77)).f0).toList != ((rd_T60 t381 x17_3).f0).toList) = false := bne_eq_false_iff_eq.mpr c80
                                            clear c80
                                            have H' := Aside0.mk H
                                            clear H
                                            have hnb81 := NB387_379.out
                                            have hnc81 := NB379_387.out
                                            have hnb82 := NB387_380.out
                                            have hnc82 := NB380_387.out
                                            have hnb83 := NB387_416.out
                                            have hnc83 := NB416_387.out
                                            have hcz84_0 : wr.cell? ⟨gb387, 0, none⟩ = some (.slice Ao16 t381.length co16) := (blk_cell BK387.out 0).trans rfl
                                            have hcz84_1 : wr.cell? ⟨gb387, 1, none⟩ = some (.slice Ao20 t384.length co20) := (blk_cell BK387.out 1).trans rfl
                                            have hfz84_0 := blk_frozen BK387.out 0
                                            have hfz84_1 := blk_frozen BK387.out 1
                                            have hnb85 := NB416_379.out
                                            have hnc85 := NB379_416.out
                                            have hnb86 := NB416_380.out
                                            have hnc86 := NB380_416.out
                                            have hcz87_0 : wr.cell? ⟨gb416, 0, none⟩ = some (.slice Ao48 t410.length co48) := (blk_cell BK416.out 0).trans rfl
                                            have hcz87_1 : wr.cell? ⟨gb416, 1, none⟩ = some (.slice Ao53 t413.length co53) := (blk_cell BK416.out 1).trans rfl
                                            have hfz87_0 := blk_frozen BK416.out 0
                                            have hfz87_1 := blk_frozen BK416.out 1
                                            have p418 : 0 ≤ (x17_3 : Int) := of_decide_eq_true (by first | (with_reducible assumption) | assumption)
                                            have q418 : x17_3 < (t410.length : Int) := of_decide_eq_true (by first | (with_reducible assumption) | assumption)
                                            obtain ⟨ad418, e418, hx418_0, hx418_1⟩ := at_T60 (Kd.R_reads' HO_417000.out).2.2 x17_3 p418 q418
                                            cases e418
                                            replace p418 := eq_true p418
                                            replace q418 := eq_true q418
                                            try go_wp2_with (first | ((with_reducible refine gate_dst (N := 18) rfl ?_); (try (refine gate_guard (by rfl) ?_; dsimp only)); refine box_event ?hg (N := 18) ?hd (cs := #[.string (⟨#[]⟩ : ByteArray), .bool false]) (t := 60) ?hr ?_; (case hd => rfl); (case hg => rfl); (case hr => first | (go_simp; done) | (go_simp; rfl)); intro gb419 hg w88 hbox hb; have n0_ := Aside0.mk (Kd.R_below (by (with_reducible repeat (first | apply Kd.R_alloc | apply Kd.R_drewN | apply Kd.R_drew)); exact HO_15.out) hb); have n1_ := Aside0.mk (Kd.R_below (Kd.R_elderB (by (with_reducible repeat (first | apply Kd.R_alloc | apply Kd.R_drewN | apply Kd.R_drew)); exact HO_388000.out) gb419 (Nat.le_of_eq hg.symm)) hb); have n2_ := Aside0.mk (Kd.R_below (by (with_reducible repeat (first | apply Kd.R_alloc | apply Kd.R_drewN | apply Kd.R_drew)); exact HO_388001.out) hb); have n3_ := Aside0.mk (Kd.R_below (Kd.R_elderB (by (with_reducible repeat (first | apply Kd.R_alloc | apply Kd.R_drewN | apply Kd.R_drew)); exact HO_417000.out) gb419 (Nat.le_of_eq hg.symm)) hb); have n4_ := Aside0.mk (Kd.R_below (by (with_reducible repeat (first | apply Kd.R_alloc | apply Kd.R_drewN | apply Kd.R_drew)); exact HO_417001.out) hb); have n5_ := Aside0.mk (blk_below (g := gb379) (o := .cells #[.int .i64 a1_0, .int .u64 a1_1] 25 (0, 0)) (by (with_reducible repeat (first | refine blk_drewN ?_ _ | refine blk_drew ?_ | refine blk_alloc ?_ _)); exact BK379.out) hb); have n6_ := Aside0.mk (blk_below (g := gb380) (o := .cells #[.int .i64 a4_0, .int .u64 a4_1] 25 (0, 0)) (by (with_reducible repeat (first | refine blk_drewN ?_ _ | refine blk_drew ?_ | refine blk_alloc ?_ _)); exact BK380.out) hb); have n7_ := Aside0.mk (blk_below (g := gb387) (o := .cells #[.slice Ao16 t381.length co16, .slice Ao20 t384.length co20] 42 (0, 0)) (by (with_reducible repeat (first | refine blk_drewN ?_ _ | refine blk_drew ?_ | refine blk_alloc ?_ _)); exact BK387.out) hb); have n8_ := Aside0.mk (blk_below (g := gb416) (o := .cells #[.slice (some ad418) t410.length co48, .slice Ao53 t413.length co53] 42 (0, 0)) (by (with_reducible repeat (first | refine blk_drewN ?_ _ | refine blk_drew ?_ | refine blk_alloc ?_ _)); exact BK416.out) hb); have n9_ := Aside0.mk (below_step (by repeat (first | (with_reducible first | exact HB.out | apply below_alloc | apply pw_below_drewN | apply below_drew1 | refine below_set ?_ GE379.out | refine below_set ?_ GE380.out | refine below_set ?_ GE387.out | refine below_set ?_ GE416.out) | exact HB.out)) hb); have n10_ := Aside0.mk (hbox); have n11_ := Aside0.mk ((by rw [hg]; exact (below_size (by repeat (first | (with_reducible first | exact HB.out | apply below_alloc | apply pw_below_drewN | apply below_drew1 | refine below_set ?_ GE379.out | refine below_set ?_ GE380.out | refine below_set ?_ GE387.out | refine below_set ?_ GE416.out) | exact HB.out))) : w.heap.size ≤ gb419)); have n12_ := Aside0.mk ((by rw [hg]; exact (below_size (by repeat (first | (with_reducible first | exact HB.out | apply below_alloc | apply pw_below_drewN | apply below_drew1 | refine below_set ?_ GE379.out | refine below_set ?_ GE380.out | refine below_set ?_ GE387.out | refine below_set ?_ GE416.out) | exact HB.out))) : w.heap.size ≤ gb419)); have n13_ := Aside0.mk ((by rw [hg]; exact Nat.ne_of_lt (blk_lt (g := gb379) (o := .cells #[.int .i64 a1_0, .int .u64 a1_1] 25 (0, 0)) (by (with_reducible repeat (first | refine blk_drewN ?_ _ | refine blk_drew ?_ | refine blk_alloc ?_ _)); exact BK379.out)) : gb379 ≠ gb419)); have n14_ := Aside0.mk ((by rw [hg]; exact Nat.ne_of_gt (blk_lt (g := gb379) (o := .cells #[.int .i64 a1_0, .int .u64 a1_1] 25 (0, 0)) (by (with_reducible repeat (first | refine blk_drewN ?_ _ | refine blk_drew ?_ | refine blk_alloc ?_ _)); exact BK379.out)) : gb419 ≠ gb379)); have n15_ := Aside0.mk ((by rw [hg]; exact Nat.ne_of_lt (blk_lt (g := gb380) (o := .cells #[.int .i64 a4_0, .int .u64 a4_1] 25 (0, 0)) (by (with_reducible repeat (first | refine blk_drewN ?_ _ | refine blk_drew ?_ | refine blk_alloc ?_ _)); exact BK380.out)) : gb380 ≠ gb419)); have n16_ := Aside0.mk ((by rw [hg]; exact Nat.ne_of_gt (blk_lt (g := gb380) (o := .cells #[.int .i64 a4_0, .int .u64 a4_1] 25 (0, 0)) (by (with_reducible repeat (first | refine blk_drewN ?_ _ | refine blk_drew ?_ | refine blk_alloc ?_ _)); exact BK380.out)) : gb419 ≠ gb380)); have n17_ := Aside0.mk ((by rw [hg]; exact Nat.ne_of_lt (blk_lt (g := gb387) (o := .cells #[.slice Ao16 t381.length co16, .slice Ao20 t384.length co20] 42 (0, 0)) (by (with_reducible repeat (first | refine blk_drewN ?_ _ | refine blk_drew ?_ | refine blk_alloc ?_ _)); exact BK387.out)) : gb387 ≠ gb419)); have n18_ := Aside0.mk ((by rw [hg]; exact Nat.ne_of_gt (blk_lt (g := gb387) (o := .cells #[.slice Ao16 t381.length co16, .slice Ao20 t384.length co20] 42 (0, 0)) (by (with_reducible repeat (first | refine blk_drewN ?_ _ | refine blk_drew ?_ | refine blk_alloc ?_ _)); exact BK387.out)) : gb419 ≠ gb387)); have n19_ := Aside0.mk ((by rw [hg]; exact Nat.ne_of_lt (blk_lt (g := gb416) (o := .cells #[.slice (some ad418) t410.length co48, .slice Ao53 t413.length co53] 42 (0, 0)) (by (with_reducible repeat (first | refine blk_drewN ?_ _ | refine blk_drew ?_ | refine blk_alloc ?_ _)); exact BK416.out)) : gb416 ≠ gb419)); have n20_ := Aside0.mk ((by rw [hg]; exact Nat.ne_of_gt (blk_lt (g := gb416) (o := .cells #[.slice (some ad418) t410.length co48, .slice Ao53 t413.length co53] 42 (0, 0)) (by (with_reducible repeat (first | refine blk_drewN ?_ _ | refine blk_drew ?_ | refine blk_alloc ?_ _)); exact BK416.out)) : gb419 ≠ gb416)); clear HO_15; clear HO_388000; clear HO_388001; clear HO_417000; clear HO_417001; clear BK379; clear BK380; clear BK387; clear BK416; clear HB; have HO_15 := n0_; have HO_388000 := n1_; have HO_388001 := n2_; have HO_417000 := n3_; have HO_417001 := n4_; have BK379 := n5_; have BK380 := n6_; have BK387 := n7_; have BK416 := n8_; have HB := n9_; have BK419 := n10_; have GW419 := n11_; have GE419 := n12_; have NB379_419 := n13_; have NB419_379 := n14_; have NB380_419 := n15_; have NB419_380 := n16_; have NB387_419 := n17_; have NB419_387 := n18_; have NB416_419 := n19_; have NB419_416 := n20_; clear n0_ n1_ n2_ n3_ n4_ n5_ n6_ n7_ n8_ n9_ n10_ n11_ n12_ n13_ n14_ n15_ n16_ n17_ n18_ n19_ n20_; clear hb hbox hg; have hnb89 := NB419_379.out; have hnc89 := NB379_419.out; have hnb90 := NB419_380.out; have hnc90 := NB380_419.out; have hnb91 := NB419_387.out; have hnc91 := NB387_419.out; have hnb92 := NB419_416.out; have hnc92 := NB416_419.out; have hcz93_0 : w88.cell? ⟨gb419, 0, none⟩ = some (.string (⟨#[]⟩ : ByteArray)) := (blk_cell BK419.out 0).trans rfl; have hcz93_1 : w88.cell? ⟨gb419, 1, none⟩ = some (.bool false) := (blk_cell BK419.out 1).trans rfl; have hfz93_0 := blk_frozen BK419.out 0; have hfz93_1 := blk_frozen BK419.out 1; have hcz94_0 : w88.cell? ⟨gb416, 0, none⟩ = some (.slice (some ad418) t410.length co48) := (blk_cell BK416.out 0).trans rfl; have hcz94_1 : w88.cell? ⟨gb416, 1, none⟩ = some (.slice Ao53 t413.length co53) := (blk_cell BK416.out 1).trans rfl; have hfz94_0 := blk_frozen BK416.out 0; have hfz94_1 := blk_frozen BK416.out 1; have p420 : 0 ≤ ((ji77) : Int) := of_decide_eq_true (by first | (with_reducible assumption) | assumption); have q420 : (ji77) < (t410.length : Int) := of_decide_eq_true (by first | (with_reducible assumption) | assumption); obtain ⟨ad420, e420, hx420_0, hx420_1⟩ := at_T60 (Kd.R_reads' HO_417000.out).2.2 (ji77) p420 q420; have e_ : ad420 = ad418 := (by injection e420 with e_; exact e_.symm); rw [e_] at hx420_0 hx420_1; clear e_ e420; have hn420_0 : ad418.block ≠ gb419 := Kd.own_blk (by first | exact Kd.R_ne HO_417000.out BK419.out (by decide) | exact fun he => (HO_417000.out.1 _ he.symm).2 rfl); have hn420_1 : ad418.block ≠ gb419 := Kd.own_blk (by first | exact Kd.R_ne HO_417000.out BK419.out (by decide) | exact fun he => (HO_417000.out.1 _ he.symm).2 rfl); replace hx420_0 := (cell_far (p := ⟨gb419, 0, none⟩) (by first | (rw [add_block]; exact hn420_0) | (show (Addr.add _ _).block ≠ _; rw [add_block]; exact hn420_0) | exact hn420_0) (.string ((rd_T60 t410 x17_3).f0))).trans hx420_0; replace hx420_1 := (cell_far (p := ⟨gb419, 0, none⟩) (by first | (rw [add_block]; exact hn420_0) | (show (Addr.add _ _).block ≠ _; rw [add_block]; exact hn420_0) | exact hn420_0) (.string ((rd_T60 t410 x17_3).f0))).trans hx420_1; replace hx420_0 := (cell_far (p := ⟨gb419, 1, none⟩) (by first | (rw [add_block]; exact hn420_1) | (show (Addr.add _ _).block ≠ _; rw [add_block]; exact hn420_1) | exact hn420_1) (.bool ((rd_T60 t410 x17_3).f1))).trans hx420_0; replace hx420_1 := (cell_far (p := ⟨gb419, 1, none⟩) (by first | (rw [add_block]; exact hn420_1) | (show (Addr.add _ _).block ≠ _; rw [add_block]; exact hn420_1) | exact hn420_1) (.bool ((rd_T60 t410 x17_3).f1))).trans hx420_1; clear hn420_0; clear hn420_1; replace p420 := eq_true p420; replace q420 := eq_true q420))
                                            have n0_ : Aside0 (Kd.R k63 63 ((((w88.setCell ⟨gb419, 0, none⟩ (.string ((rd_T60 t410 x17_3).f0))).setCell ⟨gb419, 1, none⟩ (.bool ((rd_T60 t410 x17_3).f1))).setCell ⟨gb419, 0, none⟩ (.string ((rd_T60 t410 (ji77)).f0))).setCell ⟨gb419, 1, none⟩ (.bool ((rd_T60 t410 (ji77)).f1))) w.heap.size (fun _ => True) (.slice Ao45 y407.length co45) y407) := ⟨by (with_reducible repeat (first | apply Kd.R_alloc | apply Kd.R_drewN | apply Kd.R_drew)); exact Kd.R_mono (Kd.R_far (p := ⟨gb419, 1, none⟩) (Kd.R_far (p := ⟨gb419, 0, none⟩) (Kd.R_far (p := ⟨gb419, 1, none⟩) (Kd.R_far (p := ⟨gb419, 0, none⟩) (Kd.R_types HO_15.out BK419.out (by decide)) (fun _ hk => hk.2) (.string ((rd_T60 t410 x17_3).f0))) (fun _ hk => hk.2) (.bool ((rd_T60 t410 x17_3).f1))) (fun _ hk => hk.2) (.string ((rd_T60 t410 (ji77)).f0))) (fun _ hk => hk.2) (.bool ((rd_T60 t410 (ji77)).f1))) (fun _ hk => trivial)⟩
                                            have n1_ : Aside0 (Kd.R k60 60 ((((w88.setCell ⟨gb419, 0, none⟩ (.string ((rd_T60 t410 x17_3).f0))).setCell ⟨gb419, 1, none⟩ (.bool ((rd_T60 t410 x17_3).f1))).setCell ⟨gb419, 0, none⟩ (.string ((rd_T60 t410 (ji77)).f0))).setCell ⟨gb419, 1, none⟩ (.bool ((rd_T60 t410 (ji77)).f1))) w.heap.size (fun k_ => some k_ ≠ (.slice (some ad418) t410.length co48 : Value).ownBlock ∧ k_ ≠ gb419) (.slice Ao16 t381.length co16) t381) := ⟨by (with_reducible repeat (first | apply Kd.R_alloc | apply Kd.R_drewN | apply Kd.R_drew)); exact Kd.R_mono (Kd.R_far (p := ⟨gb419, 1, none⟩) (Kd.R_far (p := ⟨gb419, 0, none⟩) (Kd.R_far (p := ⟨gb419, 1, none⟩) (Kd.R_far (p := ⟨gb419, 0, none⟩) (Kd.R_mono HO_388000.out (fun k_ hk => (⟨hk, hk.2⟩ : _ ∧ k_ ≠ gb419))) (fun _ hk => hk.2) (.string ((rd_T60 t410 x17_3).f0))) (fun _ hk => hk.2) (.bool ((rd_T60 t410 x17_3).f1))) (fun _ hk => hk.2) (.string ((rd_T60 t410 (ji77)).f0))) (fun _ hk => hk.2) (.bool ((rd_T60 t410 (ji77)).f1))) (fun _ hk => ⟨hk.1.1, hk.1.2⟩)⟩
                                            have n2_ : Aside0 (Kd.R (Kd.int .i64) 3 ((((w88.setCell ⟨gb419, 0, none⟩ (.string ((rd_T60 t410 x17_3).f0))).setCell ⟨gb419, 1, none⟩ (.bool ((rd_T60 t410 x17_3).f1))).setCell ⟨gb419, 0, none⟩ (.string ((rd_T60 t410 (ji77)).f0))).setCell ⟨gb419, 1, none⟩ (.bool ((rd_T60 t410 (ji77)).f1))) w.heap.size (fun k_ => some k_ ≠ (.slice Ao53 t413.length co53 : Value).ownBlock) (.slice Ao20 t384.length co20) t384) := ⟨by (with_reducible repeat (first | apply Kd.R_alloc | apply Kd.R_drewN | apply Kd.R_drew)); exact Kd.R_mono (Kd.R_far (p := ⟨gb419, 1, none⟩) (Kd.R_far (p := ⟨gb419, 0, none⟩) (Kd.R_far (p := ⟨gb419, 1, none⟩) (Kd.R_far (p := ⟨gb419, 0, none⟩) (Kd.R_types HO_388001.out BK419.out (by decide)) (fun _ hk => hk.2) (.string ((rd_T60 t410 x17_3).f0))) (fun _ hk => hk.2) (.bool ((rd_T60 t410 x17_3).f1))) (fun _ hk => hk.2) (.string ((rd_T60 t410 (ji77)).f0))) (fun _ hk => hk.2) (.bool ((rd_T60 t410 (ji77)).f1))) (fun _ hk => hk.1)⟩
                                            have n3_ : Aside0 (Kd.R k60 60 ((((w88.setCell ⟨gb419, 0, none⟩ (.string ((rd_T60 t410 x17_3).f0))).setCell ⟨gb419, 1, none⟩ (.bool ((rd_T60 t410 x17_3).f1))).setCell ⟨gb419, 0, none⟩ (.string ((rd_T60 t410 (ji77)).f0))).setCell ⟨gb419, 1, none⟩ (.bool ((rd_T60 t410 (ji77)).f1))) w.heap.size (fun k_ => some k_ ≠ (.slice Ao16 t381.length co16 : Value).ownBlock ∧ k_ ≠ gb419) (.slice (some ad418) t410.length co48) t410) := ⟨by (with_reducible repeat (first | apply Kd.R_alloc | apply Kd.R_drewN | apply Kd.R_drew)); exact Kd.R_mono (Kd.R_far (p := ⟨gb419, 1, none⟩) (Kd.R_far (p := ⟨gb419, 0, none⟩) (Kd.R_far (p := ⟨gb419, 1, none⟩) (Kd.R_far (p := ⟨gb419, 0, none⟩) (Kd.R_mono HO_417000.out (fun k_ hk => (⟨hk, hk.2⟩ : _ ∧ k_ ≠ gb419))) (fun _ hk => hk.2) (.string ((rd_T60 t410 x17_3).f0))) (fun _ hk => hk.2) (.bool ((rd_T60 t410 x17_3).f1))) (fun _ hk => hk.2) (.string ((rd_T60 t410 (ji77)).f0))) (fun _ hk => hk.2) (.bool ((rd_T60 t410 (ji77)).f1))) (fun _ hk => ⟨hk.1.1, hk.1.2⟩)⟩
                                            have n4_ : Aside0 (Kd.R (Kd.int .i64) 3 ((((w88.setCell ⟨gb419, 0, none⟩ (.string ((rd_T60 t410 x17_3).f0))).setCell ⟨gb419, 1, none⟩ (.bool ((rd_T60 t410 x17_3).f1))).setCell ⟨gb419, 0, none⟩ (.string ((rd_T60 t410 (ji77)).f0))).setCell ⟨gb419, 1, none⟩ (.bool ((rd_T60 t410 (ji77)).f1))) w.heap.size (fun k_ => some k_ ≠ (.slice Ao20 t384.length co20 : Value).ownBlock) (.slice Ao53 t413.length co53) t413) := ⟨by (with_reducible repeat (first | apply Kd.R_alloc | apply Kd.R_drewN | apply Kd.R_drew)); exact Kd.R_mono (Kd.R_far (p := ⟨gb419, 1, none⟩) (Kd.R_far (p := ⟨gb419, 0, none⟩) (Kd.R_far (p := ⟨gb419, 1, none⟩) (Kd.R_far (p := ⟨gb419, 0, none⟩) (Kd.R_types HO_417001.out BK419.out (by decide)) (fun _ hk => hk.2) (.string ((rd_T60 t410 x17_3).f0))) (fun _ hk => hk.2) (.bool ((rd_T60 t410 x17_3).f1))) (fun _ hk => hk.2) (.string ((rd_T60 t410 (ji77)).f0))) (fun _ hk => hk.2) (.bool ((rd_T60 t410 (ji77)).f1))) (fun _ hk => hk.1)⟩
                                            have n5_ : Aside0 (((((w88.setCell ⟨gb419, 0, none⟩ (.string ((rd_T60 t410 x17_3).f0))).setCell ⟨gb419, 1, none⟩ (.bool ((rd_T60 t410 x17_3).f1))).setCell ⟨gb419, 0, none⟩ (.string ((rd_T60 t410 (ji77)).f0))).setCell ⟨gb419, 1, none⟩ (.bool ((rd_T60 t410 (ji77)).f1))).heap[gb379]? = some (.cells #[.int .i64 a1_0, .int .u64 a1_1] 25 (0, 0))) := ⟨by (with_reducible repeat (first | refine blk_drewN ?_ _ | refine blk_drew ?_ | refine blk_alloc ?_ _)); refine blk_far ?_ NB379_419.out _; (with_reducible repeat (first | refine blk_drewN ?_ _ | refine blk_drew ?_ | refine blk_alloc ?_ _)); refine blk_far ?_ NB379_419.out _; (with_reducible repeat (first | refine blk_drewN ?_ _ | refine blk_drew ?_ | refine blk_alloc ?_ _)); refine blk_far ?_ NB379_419.out _; (with_reducible repeat (first | refine blk_drewN ?_ _ | refine blk_drew ?_ | refine blk_alloc ?_ _)); refine blk_far ?_ NB379_419.out _; (with_reducible repeat (first | refine blk_drewN ?_ _ | refine blk_drew ?_ | refine blk_alloc ?_ _)); exact BK379.out⟩
                                            have n6_ : Aside0 (((((w88.setCell ⟨gb419, 0, none⟩ (.string ((rd_T60 t410 x17_3).f0))).setCell ⟨gb419, 1, none⟩ (.bool ((rd_T60 t410 x17_3).f1))).setCell ⟨gb419, 0, none⟩ (.string ((rd_T60 t410 (ji77)).f0))).setCell ⟨gb419, 1, none⟩ (.bool ((rd_T60 t410 (ji77)).f1))).heap[gb380]? = some (.cells #[.int .i64 a4_0, .int .u64 a4_1] 25 (0, 0))) := ⟨by (with_reducible repeat (first | refine blk_drewN ?_ _ | refine blk_drew ?_ | refine blk_alloc ?_ _)); refine blk_far ?_ NB380_419.out _; (with_reducible repeat (first | refine blk_drewN ?_ _ | refine blk_drew ?_ | refine blk_alloc ?_ _)); refine blk_far ?_ NB380_419.out _; (with_reducible repeat (first | refine blk_drewN ?_ _ | refine blk_drew ?_ | refine blk_alloc ?_ _)); refine blk_far ?_ NB380_419.out _; (with_reducible repeat (first | refine blk_drewN ?_ _ | refine blk_drew ?_ | refine blk_alloc ?_ _)); refine blk_far ?_ NB380_419.out _; (with_reducible repeat (first | refine blk_drewN ?_ _ | refine blk_drew ?_ | refine blk_alloc ?_ _)); exact BK380.out⟩
                                            have n7_ : Aside0 (((((w88.setCell ⟨gb419, 0, none⟩ (.string ((rd_T60 t410 x17_3).f0))).setCell ⟨gb419, 1, none⟩ (.bool ((rd_T60 t410 x17_3).f1))).setCell ⟨gb419, 0, none⟩ (.string ((rd_T60 t410 (ji77)).f0))).setCell ⟨gb419, 1, none⟩ (.bool ((rd_T60 t410 (ji77)).f1))).heap[gb387]? = some (.cells #[.slice Ao16 t381.length co16, .slice Ao20 t384.length co20] 42 (0, 0))) := ⟨by (with_reducible repeat (first | refine blk_drewN ?_ _ | refine blk_drew ?_ | refine blk_alloc ?_ _)); refine blk_far ?_ NB387_419.out _; (with_reducible repeat (first | refine blk_drewN ?_ _ | refine blk_drew ?_ | refine blk_alloc ?_ _)); refine blk_far ?_ NB387_419.out _; (with_reducible repeat (first | refine blk_drewN ?_ _ | refine blk_drew ?_ | refine blk_alloc ?_ _)); refine blk_far ?_ NB387_419.out _; (with_reducible repeat (first | refine blk_drewN ?_ _ | refine blk_drew ?_ | refine blk_alloc ?_ _)); refine blk_far ?_ NB387_419.out _; (with_reducible repeat (first | refine blk_drewN ?_ _ | refine blk_drew ?_ | refine blk_alloc ?_ _)); exact BK387.out⟩
                                            have n8_ : Aside0 (((((w88.setCell ⟨gb419, 0, none⟩ (.string ((rd_T60 t410 x17_3).f0))).setCell ⟨gb419, 1, none⟩ (.bool ((rd_T60 t410 x17_3).f1))).setCell ⟨gb419, 0, none⟩ (.string ((rd_T60 t410 (ji77)).f0))).setCell ⟨gb419, 1, none⟩ (.bool ((rd_T60 t410 (ji77)).f1))).heap[gb416]? = some (.cells #[.slice (some ad418) t410.length co48, .slice Ao53 t413.length co53] 42 (0, 0))) := ⟨by (with_reducible repeat (first | refine blk_drewN ?_ _ | refine blk_drew ?_ | refine blk_alloc ?_ _)); refine blk_far ?_ NB416_419.out _; (with_reducible repeat (first | refine blk_drewN ?_ _ | refine blk_drew ?_ | refine blk_alloc ?_ _)); refine blk_far ?_ NB416_419.out _; (with_reducible repeat (first | refine blk_drewN ?_ _ | refine blk_drew ?_ | refine blk_alloc ?_ _)); refine blk_far ?_ NB416_419.out _; (with_reducible repeat (first | refine blk_drewN ?_ _ | refine blk_drew ?_ | refine blk_alloc ?_ _)); refine blk_far ?_ NB416_419.out _; (with_reducible repeat (first | refine blk_drewN ?_ _ | refine blk_drew ?_ | refine blk_alloc ?_ _)); exact BK416.out⟩
                                            have n9_ : Aside0 (((((w88.setCell ⟨gb419, 0, none⟩ (.string ((rd_T60 t410 x17_3).f0))).setCell ⟨gb419, 1, none⟩ (.bool ((rd_T60 t410 x17_3).f1))).setCell ⟨gb419, 0, none⟩ (.string ((rd_T60 t410 (ji77)).f0))).setCell ⟨gb419, 1, none⟩ (.bool ((rd_T60 t410 (ji77)).f1))).heap[gb419]? = some (.cells #[.string ((rd_T60 t410 (ji77)).f0), .bool ((rd_T60 t410 (ji77)).f1)] 60 (0, 0))) := ⟨by (with_reducible repeat (first | refine blk_drewN ?_ _ | refine blk_drew ?_ | refine blk_alloc ?_ _)); refine blk_put (cs := #[.string ((rd_T60 t410 (ji77)).f0), .bool ((rd_T60 t410 x17_3).f1)]) ?_ 1 _ rfl; (with_reducible repeat (first | refine blk_drewN ?_ _ | refine blk_drew ?_ | refine blk_alloc ?_ _)); refine blk_put (cs := #[.string ((rd_T60 t410 x17_3).f0), .bool ((rd_T60 t410 x17_3).f1)]) ?_ 0 _ rfl; (with_reducible repeat (first | refine blk_drewN ?_ _ | refine blk_drew ?_ | refine blk_alloc ?_ _)); refine blk_put (cs := #[.string ((rd_T60 t410 x17_3).f0), .bool false]) ?_ 1 _ rfl; (with_reducible repeat (first | refine blk_drewN ?_ _ | refine blk_drew ?_ | refine blk_alloc ?_ _)); refine blk_put (cs := #[.string (⟨#[]⟩ : ByteArray), .bool false]) ?_ 0 _ rfl; (with_reducible repeat (first | refine blk_drewN ?_ _ | refine blk_drew ?_ | refine blk_alloc ?_ _)); exact BK419.out⟩
                                            have n10_ : Aside0 (Below w.heap.size w ((((w88.setCell ⟨gb419, 0, none⟩ (.string ((rd_T60 t410 x17_3).f0))).setCell ⟨gb419, 1, none⟩ (.bool ((rd_T60 t410 x17_3).f1))).setCell ⟨gb419, 0, none⟩ (.string ((rd_T60 t410 (ji77)).f0))).setCell ⟨gb419, 1, none⟩ (.bool ((rd_T60 t410 (ji77)).f1)))) := ⟨by repeat (first | (with_reducible first | exact HB.out | apply below_alloc | apply pw_below_drewN | apply below_drew1 | refine below_set ?_ GE379.out | refine below_set ?_ GE380.out | refine below_set ?_ GE387.out | refine below_set ?_ GE416.out | refine below_set ?_ GE419.out) | exact HB.out)⟩
                                            (try clear HO_15)
                                            (try clear HO_388000)
                                            (try clear HO_388001)
                                            (try clear HO_417000)
                                            (try clear HO_417001)
                                            (try clear BK379)
                                            (try clear BK380)
                                            (try clear BK387)
                                            (try clear BK416)
                                            (try clear BK419)
                                            (try clear HB)
                                            generalize ((((w88.setCell ⟨gb419, 0, none⟩ (.string ((rd_T60 t410 x17_3).f0))).setCell ⟨gb419, 1, none⟩ (.bool ((rd_T60 t410 x17_3).f1))).setCell ⟨gb419, 0, none⟩ (.string ((rd_T60 t410 (ji77)).f0))).setCell ⟨gb419, 1, none⟩ (.bool ((rd_T60 t410 (ji77)).f1))) = w95 at n0_ n1_ n2_ n3_ n4_ n5_ n6_ n7_ n8_ n9_ n10_ ⊢
                                            have HO_15 := n0_
                                            have HO_388000 := n1_
                                            have HO_388001 := n2_
                                            have HO_417000 := n3_
                                            have HO_417001 := n4_
                                            have BK379 := n5_
                                            have BK380 := n6_
                                            have BK387 := n7_
                                            have BK416 := n8_
                                            have BK419 := n9_
                                            have HB := n10_
                                            clear n0_ n1_ n2_ n3_ n4_ n5_ n6_ n7_ n8_ n9_ n10_
                                            have n0_ := Aside0.mk (Kd.R_drew HO_15.out)
                                            have n1_ := Aside0.mk (Kd.R_drew HO_388000.out)
                                            have n2_ := Aside0.mk (Kd.R_drew HO_388001.out)
                                            have n3_ := Aside0.mk (Kd.R_drew HO_417000.out)
                                            have n4_ := Aside0.mk (Kd.R_drew HO_417001.out)
                                            have n5_ := Aside0.mk (blk_drew BK379.out)
                                            have n6_ := Aside0.mk (blk_drew BK380.out)
                                            have n7_ := Aside0.mk (blk_drew BK387.out)
                                            have n8_ := Aside0.mk (blk_drew BK416.out)
                                            have n9_ := Aside0.mk (blk_drew BK419.out)
                                            have n10_ := Aside0.mk (below_drew1 HB.out)
                                            clear HO_15
                                            clear HO_388000
                                            clear HO_388001
                                            clear HO_417000
                                            clear HO_417001
                                            clear BK379
                                            clear BK380
                                            clear BK387
                                            clear BK416
                                            clear BK419
                                            clear HB
                                            have HO_15 := n0_
                                            have HO_388000 := n1_
                                            have HO_388001 := n2_
                                            have HO_417000 := n3_
                                            have HO_417001 := n4_
                                            have BK379 := n5_
                                            have BK380 := n6_
                                            have BK387 := n7_
                                            have BK416 := n8_
                                            have BK419 := n9_
                                            have HB := n10_
                                            clear n0_ n1_ n2_ n3_ n4_ n5_ n6_ n7_ n8_ n9_ n10_
                                            have p421 : 0 ≤ (x17_3 : Int) := of_decide_eq_true (by first | (with_reducible assumption) | assumption)
                                            have q421 : x17_3 < (t381.length : Int) := of_decide_eq_true (by first | (with_reducible assumption) | assumption)
                                            obtain ⟨ad421, e421, hx421_0, hx421_1⟩ := at_T60 (Kd.R_reads' HO_388000.out).2.2 x17_3 p421 q421
                                            cases e421
                                            replace p421 := eq_true p421
                                            replace q421 := eq_true q421
                                            refine start_ (n := 9) (S := fun w' => w'.cell? ⟨gb419, 0, none⟩ = some (.string ((rd_T60 t410 (ji77)).f0)) ∧ w'.cell? ⟨gb419, 1, none⟩ = some (.bool ((rd_T60 t410 (ji77)).f1)) ∧ w'.cell? ⟨gb387, 0, none⟩ = some (.slice (some ad421) t381.length co16) ∧ w'.cell? ⟨gb387, 1, none⟩ = some (.slice Ao20 t384.length co20) ∧ w'.cell? (ad421.add ((x17_3).toNat * 2)) = some (.string ((rd_T60 t381 x17_3).f0)) ∧ w'.cell? ⟨(ad421.add ((x17_3).toNat * 2)).block, (ad421.add ((x17_3).toNat * 2)).off + 1, none⟩ = some (.bool ((rd_T60 t381 x17_3).f1))) (ds := []) #[false, false, false, false, false, false, false, false, false] (by kernel_rfl) rfl rfl ⟨(blk_cell BK419.out 0).trans rfl, (blk_cell BK419.out 1).trans rfl, (blk_cell BK387.out 0).trans rfl, (blk_cell BK387.out 1).trans rfl, hx421_0, hx421_1⟩ (fun hHeld => ?_); refine with_tabW jalousielaw05_ViewPuts.tab18 jalousielaw05_ViewPuts.bits18 (fun HT_ HW_ => ?_)
                                            generalize w95.drew = w96 at HO_15 HO_388000 HO_388001 HO_417000 HO_417001 BK379 BK380 BK387 BK416 BK419 HB hx421_0 hx421_1 hHeld ⊢
                                            refine pure_ (i := 0) (N := some 107) (v := ?_) (a' := ?_) #[true, false, false, false, false, false, false, false, false] rfl rfl (any_of HT_.out (by kernel_rfl)) (fun _ _ _ h => h) (Or.inl ⟨by rfl, ?_⟩) ?_ ?_
                                            rotate_left
                                            · intro w'
                                              go_simp
                                              with_reducible rfl
                                            rotate_left
                                            · simp only [Act.put, List.setIfInBounds_toArray, List.set_cons_zero, List.set_cons_succ, i64_w, i32_w]
                                              rfl
                                            refine pure_ (i := 2) (N := some 109) (v := ?_) (a' := ?_) #[true, false, true, false, false, false, false, false, false] rfl rfl (any_of HT_.out (by kernel_rfl)) (fun _ _ _ h => h) (Or.inl ⟨by rfl, ?_⟩) ?_ ?_
                                            rotate_left
                                            · intro w'
                                              go_simp
                                              with_reducible rfl
                                            rotate_left
                                            · simp only [Act.put, List.setIfInBounds_toArray, List.set_cons_zero, List.set_cons_succ, i64_w, i32_w]
                                              rfl
                                            refine pure_ (i := 4) (N := some 111) (v := ?_) (a' := ?_) #[true, false, true, false, true, false, false, false, false] rfl rfl (any_of HT_.out (by kernel_rfl)) (fun _ _ _ h => h) (Or.inl ⟨by rfl, ?_⟩) ?_ ?_
                                            rotate_left
                                            · intro w'
                                              go_simp
                                              with_reducible rfl
                                            rotate_left
                                            · simp only [Act.put, List.setIfInBounds_toArray, List.set_cons_zero, List.set_cons_succ, i64_w, i32_w]
                                              rfl
                                            refine take_ (i := 1) (N := some 108) (v := ?_) (a' := ?_) #[true, true, true, false, true, false, false, false, false] rfl rfl (take_ofW HT_.out HW_.out (by kernel_rfl)) (fun _ _ _ h => h) (Or.inl ⟨by rfl, ?_⟩) hHeld ?_ ?_
                                            rotate_left
                                            · rintro w' ⟨s0, s1, s2, s3, s4, s5⟩
                                              go_simp
                                              with_reducible rfl
                                            rotate_left
                                            · simp only [Act.put, List.setIfInBounds_toArray, List.set_cons_zero, List.set_cons_succ, i64_w, i32_w]
                                              rfl
                                            refine take_ (i := 3) (N := some 110) (v := ?_) (a' := ?_) #[true, true, true, true, true, false, false, false, false] rfl rfl (take_ofW HT_.out HW_.out (by kernel_rfl)) (fun _ _ _ h => h) (Or.inl ⟨by rfl, ?_⟩) hHeld ?_ ?_
                                            rotate_left
                                            · rintro w' ⟨s0, s1, s2, s3, s4, s5⟩
                                              go_simp
                                              with_reducible rfl
                                            rotate_left
                                            · simp only [Act.put, List.setIfInBounds_toArray, List.set_cons_zero, List.set_cons_succ, i64_w, i32_w]
                                              rfl
                                            refine pure_ (i := 5) (N := some 112) (v := ?_) (a' := ?_) #[true, true, true, true, true, true, false, false, false] rfl rfl (any_of HT_.out (by kernel_rfl)) (fun _ _ _ h => h) (Or.inl ⟨by rfl, ?_⟩) ?_ ?_
                                            rotate_left
                                            · intro w'
                                              go_simp
                                              with_reducible rfl
                                            rotate_left
                                            · simp only [Act.put, List.setIfInBounds_toArray, List.set_cons_zero, List.set_cons_succ, i64_w, i32_w]
                                              rfl
                                            refine pure_ (i := 6) (N := some 113) (v := ?_) (a' := ?_) #[true, true, true, true, true, true, true, false, false] rfl rfl (any_of HT_.out (by kernel_rfl)) (fun _ _ _ h => h) (Or.inl ⟨by rfl, ?_⟩) ?_ ?_
                                            rotate_left
                                            · intro w'
                                              go_simp
                                              with_reducible rfl
                                            rotate_left
                                            · simp only [Act.put, List.setIfInBounds_toArray, List.set_cons_zero, List.set_cons_succ, i64_w, i32_w]
                                              rfl
                                            refine take_ (i := 7) (N := some 114) (v := ?_) (a' := ?_) #[true, true, true, true, true, true, true, true, false] rfl rfl (take_ofW HT_.out HW_.out (by kernel_rfl)) (fun _ _ _ h => h) (Or.inl ⟨by rfl, ?_⟩) hHeld ?_ ?_
                                            rotate_left
                                            · rintro w' ⟨s0, s1, s2, s3, s4, s5⟩
                                              go_simp
                                              with_reducible rfl
                                            rotate_left
                                            · simp only [Act.put, List.setIfInBounds_toArray, List.set_cons_zero, List.set_cons_succ, i64_w, i32_w]
                                              rfl
                                            refine pure_ (i := 8) (N := some 115) (v := ?_) (a' := ?_) #[true, true, true, true, true, true, true, true, true] rfl rfl (any_of HT_.out (by kernel_rfl)) (fun _ _ _ h => h) (Or.inl ⟨by rfl, ?_⟩) ?_ ?_
                                            rotate_left
                                            · intro w'
                                              go_simp
                                              with_reducible rfl
                                            rotate_left
                                            · simp only [Act.put, List.setIfInBounds_toArray, List.set_cons_zero, List.set_cons_succ, i64_w, i32_w]
                                              rfl
                                            refine done_ (done_of HT_.out (by kernel_rfl)) ?_
                                            try go_wp2
                                            go_roundg k3
                                            case measure => have := HJ8.out; have := HJ32.out; have := HK3.out; omega
                                            case rel => exact ⟨(ji77), (by first | rfl | (simp; done) | (simp only [← hji77] <;> (first | rfl | simp)) | (simp [*]; done)), (by first | exact H' | (rw [hji77]; exact H')), ⟨by have := HJ8.out; have := HJ32.out; have := HK3.out; omega⟩, ⟨by (with_reducible repeat (first | apply Kd.R_alloc | apply Kd.R_drewN | apply Kd.R_drew)); exact HO_15.out⟩, ⟨by (with_reducible repeat (first | apply Kd.R_alloc | apply Kd.R_drewN | apply Kd.R_drew)); exact Kd.R_mono HO_388000.out (fun _ hk => hk.1)⟩, ⟨by (with_reducible repeat (first | apply Kd.R_alloc | apply Kd.R_drewN | apply Kd.R_drew)); exact HO_388001.out⟩, ⟨by (with_reducible repeat (first | apply Kd.R_alloc | apply Kd.R_drewN | apply Kd.R_drew)); exact Kd.R_mono HO_417000.out (fun _ hk => hk.1)⟩, ⟨by (with_reducible repeat (first | apply Kd.R_alloc | apply Kd.R_drewN | apply Kd.R_drew)); exact HO_417001.out⟩, ⟨by (with_reducible repeat (first | refine blk_drewN ?_ _ | refine blk_drew ?_ | refine blk_alloc ?_ _)); exact BK379.out⟩, ⟨by (with_reducible repeat (first | refine blk_drewN ?_ _ | refine blk_drew ?_ | refine blk_alloc ?_ _)); exact BK380.out⟩, ⟨by (with_reducible repeat (first | refine blk_drewN ?_ _ | refine blk_drew ?_ | refine blk_alloc ?_ _)); exact BK387.out⟩, ⟨by (with_reducible repeat (first | refine blk_drewN ?_ _ | refine blk_drew ?_ | refine blk_alloc ?_ _)); exact BK416.out⟩, ⟨by repeat (first | (with_reducible first | exact HB.out | apply below_alloc | apply pw_below_drewN | apply below_drew1 | refine below_set ?_ GE379.out | refine below_set ?_ GE380.out | refine below_set ?_ GE387.out | refine below_set ?_ GE416.out | refine below_set ?_ GE419.out) | exact HB.out)⟩⟩
                                          · rw [if_neg c80] at H
                                            have c80b0 : (((rd_T60 t410 (ji77)).f0).toList == ((rd_T60 t381 x17_3).f0).toList) = false := beq_eq_false_iff_ne.mpr c80
                                            have c80b1 : (((rd_T60 t410 (ji77)).f0).toList != ((rd_T60 t381 x17_3).f0).toList) = true := bne_iff_ne.mpr c80
                                            exact absurd (Option.some.inj (H.trans (congrArg some HRT.out))) (by decide)
                                        · rw [if_neg c79] at H
                                          exact absurd H (by simp)
                                      · rw [if_neg c78] at H
                                        exact absurd H (by simp)
                                    · rw [if_neg c76] at H
                                      have c76b0 : decide ((Int.tmod (wrap64 (a2)) (wrap64 ((t384.length : Int) + 1))) ≤ x17_3) = false := decide_eq_false c76
                                      clear c76
                                      by_cases c97 : ((rd_T60 t410 x17_3).f0).toList = ((rd_T60 t381 x17_3).f0).toList
                                      · rw [if_pos c97] at H
                                        have c97b0 : (((rd_T60 t410 x17_3).f0).toList == ((rd_T60 t381 x17_3).f0).toList) = true := beq_iff_eq.mpr c97
                                        have c97b1 : (((rd_T60 t410 x17_3).f0).toList != ((rd_T60 t381 x17_3).f0).toList) = false := bne_eq_false_iff_eq.mpr c97
                                        clear c97
                                        have H' := Aside0.mk H
                                        clear H
                                        have hnb98 := NB387_379.out
                                        have hnc98 := NB379_387.out
                                        have hnb99 := NB387_380.out
                                        have hnc99 := NB380_387.out
                                        have hnb100 := NB387_416.out
                                        have hnc100 := NB416_387.out
                                        have hcz101_0 : wr.cell? ⟨gb387, 0, none⟩ = some (.slice Ao16 t381.length co16) := (blk_cell BK387.out 0).trans rfl
                                        have hcz101_1 : wr.cell? ⟨gb387, 1, none⟩ = some (.slice Ao20 t384.length co20) := (blk_cell BK387.out 1).trans rfl
                                        have hfz101_0 := blk_frozen BK387.out 0
                                        have hfz101_1 := blk_frozen BK387.out 1
                                        have hnb102 := NB416_379.out
                                        have hnc102 := NB379_416.out
                                        have hnb103 := NB416_380.out
                                        have hnc103 := NB380_416.out
                                        have hcz104_0 : wr.cell? ⟨gb416, 0, none⟩ = some (.slice Ao48 t410.length co48) := (blk_cell BK416.out 0).trans rfl
                                        have hcz104_1 : wr.cell? ⟨gb416, 1, none⟩ = some (.slice Ao53 t413.length co53) := (blk_cell BK416.out 1).trans rfl
                                        have hfz104_0 := blk_frozen BK416.out 0
                                        have hfz104_1 := blk_frozen BK416.out 1
                                        have p418 : 0 ≤ (x17_3 : Int) := of_decide_eq_true (by first | (with_reducible assumption) | assumption)
                                        have q418 : x17_3 < (t410.length : Int) := of_decide_eq_true (by first | (with_reducible assumption) | assumption)
                                        obtain ⟨ad418, e418, hx418_0, hx418_1⟩ := at_T60 (Kd.R_reads' HO_417000.out).2.2 x17_3 p418 q418
                                        cases e418
                                        replace p418 := eq_true p418
                                        replace q418 := eq_true q418
                                        try go_wp2_with (first | ((with_reducible refine gate_dst (N := 18) rfl ?_); (try (refine gate_guard (by rfl) ?_; dsimp only)); refine box_event ?hg (N := 18) ?hd (cs := #[.string (⟨#[]⟩ : ByteArray), .bool false]) (t := 60) ?hr ?_; (case hd => rfl); (case hg => rfl); (case hr => first | (go_simp; done) | (go_simp; rfl)); intro gb419 hg w105 hbox hb; have n0_ := Aside0.mk (Kd.R_below (by (with_reducible repeat (first | apply Kd.R_alloc | apply Kd.R_drewN | apply Kd.R_drew)); exact HO_15.out) hb); have n1_ := Aside0.mk (Kd.R_below (Kd.R_elderB (by (with_reducible repeat (first | apply Kd.R_alloc | apply Kd.R_drewN | apply Kd.R_drew)); exact HO_388000.out) gb419 (Nat.le_of_eq hg.symm)) hb); have n2_ := Aside0.mk (Kd.R_below (by (with_reducible repeat (first | apply Kd.R_alloc | apply Kd.R_drewN | apply Kd.R_drew)); exact HO_388001.out) hb); have n3_ := Aside0.mk (Kd.R_below (Kd.R_elderB (by (with_reducible repeat (first | apply Kd.R_alloc | apply Kd.R_drewN | apply Kd.R_drew)); exact HO_417000.out) gb419 (Nat.le_of_eq hg.symm)) hb); have n4_ := Aside0.mk (Kd.R_below (by (with_reducible repeat (first | apply Kd.R_alloc | apply Kd.R_drewN | apply Kd.R_drew)); exact HO_417001.out) hb); have n5_ := Aside0.mk (blk_below (g := gb379) (o := .cells #[.int .i64 a1_0, .int .u64 a1_1] 25 (0, 0)) (by (with_reducible repeat (first | refine blk_drewN ?_ _ | refine blk_drew ?_ | refine blk_alloc ?_ _)); exact BK379.out) hb); have n6_ := Aside0.mk (blk_below (g := gb380) (o := .cells #[.int .i64 a4_0, .int .u64 a4_1] 25 (0, 0)) (by (with_reducible repeat (first | refine blk_drewN ?_ _ | refine blk_drew ?_ | refine blk_alloc ?_ _)); exact BK380.out) hb); have n7_ := Aside0.mk (blk_below (g := gb387) (o := .cells #[.slice Ao16 t381.length co16, .slice Ao20 t384.length co20] 42 (0, 0)) (by (with_reducible repeat (first | refine blk_drewN ?_ _ | refine blk_drew ?_ | refine blk_alloc ?_ _)); exact BK387.out) hb); have n8_ := Aside0.mk (blk_below (g := gb416) (o := .cells #[.slice (some ad418) t410.length co48, .slice Ao53 t413.length co53] 42 (0, 0)) (by (with_reducible repeat (first | refine blk_drewN ?_ _ | refine blk_drew ?_ | refine blk_alloc ?_ _)); exact BK416.out) hb); have n9_ := Aside0.mk (below_step (by repeat (first | (with_reducible first | exact HB.out | apply below_alloc | apply pw_below_drewN | apply below_drew1 | refine below_set ?_ GE379.out | refine below_set ?_ GE380.out | refine below_set ?_ GE387.out | refine below_set ?_ GE416.out) | exact HB.out)) hb); have n10_ := Aside0.mk (hbox); have n11_ := Aside0.mk ((by rw [hg]; exact (below_size (by repeat (first | (with_reducible first | exact HB.out | apply below_alloc | apply pw_below_drewN | apply below_drew1 | refine below_set ?_ GE379.out | refine below_set ?_ GE380.out | refine below_set ?_ GE387.out | refine below_set ?_ GE416.out) | exact HB.out))) : w.heap.size ≤ gb419)); have n12_ := Aside0.mk ((by rw [hg]; exact (below_size (by repeat (first | (with_reducible first | exact HB.out | apply below_alloc | apply pw_below_drewN | apply below_drew1 | refine below_set ?_ GE379.out | refine below_set ?_ GE380.out | refine below_set ?_ GE387.out | refine below_set ?_ GE416.out) | exact HB.out))) : w.heap.size ≤ gb419)); have n13_ := Aside0.mk ((by rw [hg]; exact Nat.ne_of_lt (blk_lt (g := gb379) (o := .cells #[.int .i64 a1_0, .int .u64 a1_1] 25 (0, 0)) (by (with_reducible repeat (first | refine blk_drewN ?_ _ | refine blk_drew ?_ | refine blk_alloc ?_ _)); exact BK379.out)) : gb379 ≠ gb419)); have n14_ := Aside0.mk ((by rw [hg]; exact Nat.ne_of_gt (blk_lt (g := gb379) (o := .cells #[.int .i64 a1_0, .int .u64 a1_1] 25 (0, 0)) (by (with_reducible repeat (first | refine blk_drewN ?_ _ | refine blk_drew ?_ | refine blk_alloc ?_ _)); exact BK379.out)) : gb419 ≠ gb379)); have n15_ := Aside0.mk ((by rw [hg]; exact Nat.ne_of_lt (blk_lt (g := gb380) (o := .cells #[.int .i64 a4_0, .int .u64 a4_1] 25 (0, 0)) (by (with_reducible repeat (first | refine blk_drewN ?_ _ | refine blk_drew ?_ | refine blk_alloc ?_ _)); exact BK380.out)) : gb380 ≠ gb419)); have n16_ := Aside0.mk ((by rw [hg]; exact Nat.ne_of_gt (blk_lt (g := gb380) (o := .cells #[.int .i64 a4_0, .int .u64 a4_1] 25 (0, 0)) (by (with_reducible repeat (first | refine blk_drewN ?_ _ | refine blk_drew ?_ | refine blk_alloc ?_ _)); exact BK380.out)) : gb419 ≠ gb380)); have n17_ := Aside0.mk ((by rw [hg]; exact Nat.ne_of_lt (blk_lt (g := gb387) (o := .cells #[.slice Ao16 t381.length co16, .slice Ao20 t384.length co20] 42 (0, 0)) (by (with_reducible repeat (first | refine blk_drewN ?_ _ | refine blk_drew ?_ | refine blk_alloc ?_ _)); exact BK387.out)) : gb387 ≠ gb419)); have n18_ := Aside0.mk ((by rw [hg]; exact Nat.ne_of_gt (blk_lt (g := gb387) (o := .cells #[.slice Ao16 t381.length co16, .slice Ao20 t384.length co20] 42 (0, 0)) (by (with_reducible repeat (first | refine blk_drewN ?_ _ | refine blk_drew ?_ | refine blk_alloc ?_ _)); exact BK387.out)) : gb419 ≠ gb387)); have n19_ := Aside0.mk ((by rw [hg]; exact Nat.ne_of_lt (blk_lt (g := gb416) (o := .cells #[.slice (some ad418) t410.length co48, .slice Ao53 t413.length co53] 42 (0, 0)) (by (with_reducible repeat (first | refine blk_drewN ?_ _ | refine blk_drew ?_ | refine blk_alloc ?_ _)); exact BK416.out)) : gb416 ≠ gb419)); have n20_ := Aside0.mk ((by rw [hg]; exact Nat.ne_of_gt (blk_lt (g := gb416) (o := .cells #[.slice (some ad418) t410.length co48, .slice Ao53 t413.length co53] 42 (0, 0)) (by (with_reducible repeat (first | refine blk_drewN ?_ _ | refine blk_drew ?_ | refine blk_alloc ?_ _)); exact BK416.out)) : gb419 ≠ gb416)); clear HO_15; clear HO_388000; clear HO_388001; clear HO_417000; clear HO_417001; clear BK379; clear BK380; clear BK387; clear BK416; clear HB; have HO_15 := n0_; have HO_388000 := n1_; have HO_388001 := n2_; have HO_417000 := n3_; have HO_417001 := n4_; have BK379 := n5_; have BK380 := n6_; have BK387 := n7_; have BK416 := n8_; have HB := n9_; have BK419 := n10_; have GW419 := n11_; have GE419 := n12_; have NB379_419 := n13_; have NB419_379 := n14_; have NB380_419 := n15_; have NB419_380 := n16_; have NB387_419 := n17_; have NB419_387 := n18_; have NB416_419 := n19_; have NB419_416 := n20_; clear n0_ n1_ n2_ n3_ n4_ n5_ n6_ n7_ n8_ n9_ n10_ n11_ n12_ n13_ n14_ n15_ n16_ n17_ n18_ n19_ n20_; clear hb hbox hg; have hnb106 := NB419_379.out; have hnc106 := NB379_419.out; have hnb107 := NB419_380.out; have hnc107 := NB380_419.out; have hnb108 := NB419_387.out; have hnc108 := NB387_419.out; have hnb109 := NB419_416.out; have hnc109 := NB416_419.out; have hcz110_0 : w105.cell? ⟨gb419, 0, none⟩ = some (.string (⟨#[]⟩ : ByteArray)) := (blk_cell BK419.out 0).trans rfl; have hcz110_1 : w105.cell? ⟨gb419, 1, none⟩ = some (.bool false) := (blk_cell BK419.out 1).trans rfl; have hfz110_0 := blk_frozen BK419.out 0; have hfz110_1 := blk_frozen BK419.out 1))
                                        have n0_ : Aside0 (Kd.R k63 63 ((w105.setCell ⟨gb419, 0, none⟩ (.string ((rd_T60 t410 x17_3).f0))).setCell ⟨gb419, 1, none⟩ (.bool ((rd_T60 t410 x17_3).f1))) w.heap.size (fun _ => True) (.slice Ao45 y407.length co45) y407) := ⟨by (with_reducible repeat (first | apply Kd.R_alloc | apply Kd.R_drewN | apply Kd.R_drew)); exact Kd.R_mono (Kd.R_far (p := ⟨gb419, 1, none⟩) (Kd.R_far (p := ⟨gb419, 0, none⟩) (Kd.R_types HO_15.out BK419.out (by decide)) (fun _ hk => hk.2) (.string ((rd_T60 t410 x17_3).f0))) (fun _ hk => hk.2) (.bool ((rd_T60 t410 x17_3).f1))) (fun _ hk => trivial)⟩
                                        have n1_ : Aside0 (Kd.R k60 60 ((w105.setCell ⟨gb419, 0, none⟩ (.string ((rd_T60 t410 x17_3).f0))).setCell ⟨gb419, 1, none⟩ (.bool ((rd_T60 t410 x17_3).f1))) w.heap.size (fun k_ => some k_ ≠ (.slice (some ad418) t410.length co48 : Value).ownBlock ∧ k_ ≠ gb419) (.slice Ao16 t381.length co16) t381) := ⟨by (with_reducible repeat (first | apply Kd.R_alloc | apply Kd.R_drewN | apply Kd.R_drew)); exact Kd.R_mono (Kd.R_far (p := ⟨gb419, 1, none⟩) (Kd.R_far (p := ⟨gb419, 0, none⟩) (Kd.R_mono HO_388000.out (fun k_ hk => (⟨hk, hk.2⟩ : _ ∧ k_ ≠ gb419))) (fun _ hk => hk.2) (.string ((rd_T60 t410 x17_3).f0))) (fun _ hk => hk.2) (.bool ((rd_T60 t410 x17_3).f1))) (fun _ hk => ⟨hk.1.1, hk.1.2⟩)⟩
                                        have n2_ : Aside0 (Kd.R (Kd.int .i64) 3 ((w105.setCell ⟨gb419, 0, none⟩ (.string ((rd_T60 t410 x17_3).f0))).setCell ⟨gb419, 1, none⟩ (.bool ((rd_T60 t410 x17_3).f1))) w.heap.size (fun k_ => some k_ ≠ (.slice Ao53 t413.length co53 : Value).ownBlock) (.slice Ao20 t384.length co20) t384) := ⟨by (with_reducible repeat (first | apply Kd.R_alloc | apply Kd.R_drewN | apply Kd.R_drew)); exact Kd.R_mono (Kd.R_far (p := ⟨gb419, 1, none⟩) (Kd.R_far (p := ⟨gb419, 0, none⟩) (Kd.R_types HO_388001.out BK419.out (by decide)) (fun _ hk => hk.2) (.string ((rd_T60 t410 x17_3).f0))) (fun _ hk => hk.2) (.bool ((rd_T60 t410 x17_3).f1))) (fun _ hk => hk.1)⟩
                                        have n3_ : Aside0 (Kd.R k60 60 ((w105.setCell ⟨gb419, 0, none⟩ (.string ((rd_T60 t410 x17_3).f0))).setCell ⟨gb419, 1, none⟩ (.bool ((rd_T60 t410 x17_3).f1))) w.heap.size (fun k_ => some k_ ≠ (.slice Ao16 t381.length co16 : Value).ownBlock ∧ k_ ≠ gb419) (.slice (some ad418) t410.length co48) t410) := ⟨by (with_reducible repeat (first | apply Kd.R_alloc | apply Kd.R_drewN | apply Kd.R_drew)); exact Kd.R_mono (Kd.R_far (p := ⟨gb419, 1, none⟩) (Kd.R_far (p := ⟨gb419, 0, none⟩) (Kd.R_mono HO_417000.out (fun k_ hk => (⟨hk, hk.2⟩ : _ ∧ k_ ≠ gb419))) (fun _ hk => hk.2) (.string ((rd_T60 t410 x17_3).f0))) (fun _ hk => hk.2) (.bool ((rd_T60 t410 x17_3).f1))) (fun _ hk => ⟨hk.1.1, hk.1.2⟩)⟩
                                        have n4_ : Aside0 (Kd.R (Kd.int .i64) 3 ((w105.setCell ⟨gb419, 0, none⟩ (.string ((rd_T60 t410 x17_3).f0))).setCell ⟨gb419, 1, none⟩ (.bool ((rd_T60 t410 x17_3).f1))) w.heap.size (fun k_ => some k_ ≠ (.slice Ao20 t384.length co20 : Value).ownBlock) (.slice Ao53 t413.length co53) t413) := ⟨by (with_reducible repeat (first | apply Kd.R_alloc | apply Kd.R_drewN | apply Kd.R_drew)); exact Kd.R_mono (Kd.R_far (p := ⟨gb419, 1, none⟩) (Kd.R_far (p := ⟨gb419, 0, none⟩) (Kd.R_types HO_417001.out BK419.out (by decide)) (fun _ hk => hk.2) (.string ((rd_T60 t410 x17_3).f0))) (fun _ hk => hk.2) (.bool ((rd_T60 t410 x17_3).f1))) (fun _ hk => hk.1)⟩
                                        have n5_ : Aside0 (((w105.setCell ⟨gb419, 0, none⟩ (.string ((rd_T60 t410 x17_3).f0))).setCell ⟨gb419, 1, none⟩ (.bool ((rd_T60 t410 x17_3).f1))).heap[gb379]? = some (.cells #[.int .i64 a1_0, .int .u64 a1_1] 25 (0, 0))) := ⟨by (with_reducible repeat (first | refine blk_drewN ?_ _ | refine blk_drew ?_ | refine blk_alloc ?_ _)); refine blk_far ?_ NB379_419.out _; (with_reducible repeat (first | refine blk_drewN ?_ _ | refine blk_drew ?_ | refine blk_alloc ?_ _)); refine blk_far ?_ NB379_419.out _; (with_reducible repeat (first | refine blk_drewN ?_ _ | refine blk_drew ?_ | refine blk_alloc ?_ _)); exact BK379.out⟩
                                        have n6_ : Aside0 (((w105.setCell ⟨gb419, 0, none⟩ (.string ((rd_T60 t410 x17_3).f0))).setCell ⟨gb419, 1, none⟩ (.bool ((rd_T60 t410 x17_3).f1))).heap[gb380]? = some (.cells #[.int .i64 a4_0, .int .u64 a4_1] 25 (0, 0))) := ⟨by (with_reducible repeat (first | refine blk_drewN ?_ _ | refine blk_drew ?_ | refine blk_alloc ?_ _)); refine blk_far ?_ NB380_419.out _; (with_reducible repeat (first | refine blk_drewN ?_ _ | refine blk_drew ?_ | refine blk_alloc ?_ _)); refine blk_far ?_ NB380_419.out _; (with_reducible repeat (first | refine blk_drewN ?_ _ | refine blk_drew ?_ | refine blk_alloc ?_ _)); exact BK380.out⟩
                                        have n7_ : Aside0 (((w105.setCell ⟨gb419, 0, none⟩ (.string ((rd_T60 t410 x17_3).f0))).setCell ⟨gb419, 1, none⟩ (.bool ((rd_T60 t410 x17_3).f1))).heap[gb387]? = some (.cells #[.slice Ao16 t381.length co16, .slice Ao20 t384.length co20] 42 (0, 0))) := ⟨by (with_reducible repeat (first | refine blk_drewN ?_ _ | refine blk_drew ?_ | refine blk_alloc ?_ _)); refine blk_far ?_ NB387_419.out _; (with_reducible repeat (first | refine blk_drewN ?_ _ | refine blk_drew ?_ | refine blk_alloc ?_ _)); refine blk_far ?_ NB387_419.out _; (with_reducible repeat (first | refine blk_drewN ?_ _ | refine blk_drew ?_ | refine blk_alloc ?_ _)); exact BK387.out⟩
                                        have n8_ : Aside0 (((w105.setCell ⟨gb419, 0, none⟩ (.string ((rd_T60 t410 x17_3).f0))).setCell ⟨gb419, 1, none⟩ (.bool ((rd_T60 t410 x17_3).f1))).heap[gb416]? = some (.cells #[.slice (some ad418) t410.length co48, .slice Ao53 t413.length co53] 42 (0, 0))) := ⟨by (with_reducible repeat (first | refine blk_drewN ?_ _ | refine blk_drew ?_ | refine blk_alloc ?_ _)); refine blk_far ?_ NB416_419.out _; (with_reducible repeat (first | refine blk_drewN ?_ _ | refine blk_drew ?_ | refine blk_alloc ?_ _)); refine blk_far ?_ NB416_419.out _; (with_reducible repeat (first | refine blk_drewN ?_ _ | refine blk_drew ?_ | refine blk_alloc ?_ _)); exact BK416.out⟩
                                        have n9_ : Aside0 (((w105.setCell ⟨gb419, 0, none⟩ (.string ((rd_T60 t410 x17_3).f0))).setCell ⟨gb419, 1, none⟩ (.bool ((rd_T60 t410 x17_3).f1))).heap[gb419]? = some (.cells #[.string ((rd_T60 t410 x17_3).f0), .bool ((rd_T60 t410 x17_3).f1)] 60 (0, 0))) := ⟨by (with_reducible repeat (first | refine blk_drewN ?_ _ | refine blk_drew ?_ | refine blk_alloc ?_ _)); refine blk_put (cs := #[.string ((rd_T60 t410 x17_3).f0), .bool false]) ?_ 1 _ rfl; (with_reducible repeat (first | refine blk_drewN ?_ _ | refine blk_drew ?_ | refine blk_alloc ?_ _)); refine blk_put (cs := #[.string (⟨#[]⟩ : ByteArray), .bool false]) ?_ 0 _ rfl; (with_reducible repeat (first | refine blk_drewN ?_ _ | refine blk_drew ?_ | refine blk_alloc ?_ _)); exact BK419.out⟩
                                        have n10_ : Aside0 (Below w.heap.size w ((w105.setCell ⟨gb419, 0, none⟩ (.string ((rd_T60 t410 x17_3).f0))).setCell ⟨gb419, 1, none⟩ (.bool ((rd_T60 t410 x17_3).f1)))) := ⟨by repeat (first | (with_reducible first | exact HB.out | apply below_alloc | apply pw_below_drewN | apply below_drew1 | refine below_set ?_ GE379.out | refine below_set ?_ GE380.out | refine below_set ?_ GE387.out | refine below_set ?_ GE416.out | refine below_set ?_ GE419.out) | exact HB.out)⟩
                                        (try clear HO_15)
                                        (try clear HO_388000)
                                        (try clear HO_388001)
                                        (try clear HO_417000)
                                        (try clear HO_417001)
                                        (try clear BK379)
                                        (try clear BK380)
                                        (try clear BK387)
                                        (try clear BK416)
                                        (try clear BK419)
                                        (try clear HB)
                                        generalize ((w105.setCell ⟨gb419, 0, none⟩ (.string ((rd_T60 t410 x17_3).f0))).setCell ⟨gb419, 1, none⟩ (.bool ((rd_T60 t410 x17_3).f1))) = w111 at n0_ n1_ n2_ n3_ n4_ n5_ n6_ n7_ n8_ n9_ n10_ ⊢
                                        have HO_15 := n0_
                                        have HO_388000 := n1_
                                        have HO_388001 := n2_
                                        have HO_417000 := n3_
                                        have HO_417001 := n4_
                                        have BK379 := n5_
                                        have BK380 := n6_
                                        have BK387 := n7_
                                        have BK416 := n8_
                                        have BK419 := n9_
                                        have HB := n10_
                                        clear n0_ n1_ n2_ n3_ n4_ n5_ n6_ n7_ n8_ n9_ n10_
                                        have n0_ := Aside0.mk (Kd.R_drew HO_15.out)
                                        have n1_ := Aside0.mk (Kd.R_drew HO_388000.out)
                                        have n2_ := Aside0.mk (Kd.R_drew HO_388001.out)
                                        have n3_ := Aside0.mk (Kd.R_drew HO_417000.out)
                                        have n4_ := Aside0.mk (Kd.R_drew HO_417001.out)
                                        have n5_ := Aside0.mk (blk_drew BK379.out)
                                        have n6_ := Aside0.mk (blk_drew BK380.out)
                                        have n7_ := Aside0.mk (blk_drew BK387.out)
                                        have n8_ := Aside0.mk (blk_drew BK416.out)
                                        have n9_ := Aside0.mk (blk_drew BK419.out)
                                        have n10_ := Aside0.mk (below_drew1 HB.out)
                                        clear HO_15
                                        clear HO_388000
                                        clear HO_388001
                                        clear HO_417000
                                        clear HO_417001
                                        clear BK379
                                        clear BK380
                                        clear BK387
                                        clear BK416
                                        clear BK419
                                        clear HB
                                        have HO_15 := n0_
                                        have HO_388000 := n1_
                                        have HO_388001 := n2_
                                        have HO_417000 := n3_
                                        have HO_417001 := n4_
                                        have BK379 := n5_
                                        have BK380 := n6_
                                        have BK387 := n7_
                                        have BK416 := n8_
                                        have BK419 := n9_
                                        have HB := n10_
                                        clear n0_ n1_ n2_ n3_ n4_ n5_ n6_ n7_ n8_ n9_ n10_
                                        have p422 : 0 ≤ (x17_3 : Int) := of_decide_eq_true (by first | (with_reducible assumption) | assumption)
                                        have q422 : x17_3 < (t381.length : Int) := of_decide_eq_true (by first | (with_reducible assumption) | assumption)
                                        obtain ⟨ad422, e422, hx422_0, hx422_1⟩ := at_T60 (Kd.R_reads' HO_388000.out).2.2 x17_3 p422 q422
                                        cases e422
                                        replace p422 := eq_true p422
                                        replace q422 := eq_true q422
                                        refine start_ (n := 9) (S := fun w' => w'.cell? ⟨gb419, 0, none⟩ = some (.string ((rd_T60 t410 x17_3).f0)) ∧ w'.cell? ⟨gb419, 1, none⟩ = some (.bool ((rd_T60 t410 x17_3).f1)) ∧ w'.cell? ⟨gb387, 0, none⟩ = some (.slice (some ad422) t381.length co16) ∧ w'.cell? ⟨gb387, 1, none⟩ = some (.slice Ao20 t384.length co20) ∧ w'.cell? (ad422.add ((x17_3).toNat * 2)) = some (.string ((rd_T60 t381 x17_3).f0)) ∧ w'.cell? ⟨(ad422.add ((x17_3).toNat * 2)).block, (ad422.add ((x17_3).toNat * 2)).off + 1, none⟩ = some (.bool ((rd_T60 t381 x17_3).f1))) (ds := []) #[false, false, false, false, false, false, false, false, false] (by kernel_rfl) rfl rfl ⟨(blk_cell BK419.out 0).trans rfl, (blk_cell BK419.out 1).trans rfl, (blk_cell BK387.out 0).trans rfl, (blk_cell BK387.out 1).trans rfl, hx422_0, hx422_1⟩ (fun hHeld => ?_); refine with_tabW jalousielaw05_ViewPuts.tab18 jalousielaw05_ViewPuts.bits18 (fun HT_ HW_ => ?_)
                                        generalize w111.drew = w112 at HO_15 HO_388000 HO_388001 HO_417000 HO_417001 BK379 BK380 BK387 BK416 BK419 HB hx422_0 hx422_1 hHeld ⊢
                                        refine pure_ (i := 0) (N := some 107) (v := ?_) (a' := ?_) #[true, false, false, false, false, false, false, false, false] rfl rfl (any_of HT_.out (by kernel_rfl)) (fun _ _ _ h => h) (Or.inl ⟨by rfl, ?_⟩) ?_ ?_
                                        rotate_left
                                        · intro w'
                                          go_simp
                                          with_reducible rfl
                                        rotate_left
                                        · simp only [Act.put, List.setIfInBounds_toArray, List.set_cons_zero, List.set_cons_succ, i64_w, i32_w]
                                          rfl
                                        refine pure_ (i := 2) (N := some 109) (v := ?_) (a' := ?_) #[true, false, true, false, false, false, false, false, false] rfl rfl (any_of HT_.out (by kernel_rfl)) (fun _ _ _ h => h) (Or.inl ⟨by rfl, ?_⟩) ?_ ?_
                                        rotate_left
                                        · intro w'
                                          go_simp
                                          with_reducible rfl
                                        rotate_left
                                        · simp only [Act.put, List.setIfInBounds_toArray, List.set_cons_zero, List.set_cons_succ, i64_w, i32_w]
                                          rfl
                                        refine pure_ (i := 4) (N := some 111) (v := ?_) (a' := ?_) #[true, false, true, false, true, false, false, false, false] rfl rfl (any_of HT_.out (by kernel_rfl)) (fun _ _ _ h => h) (Or.inl ⟨by rfl, ?_⟩) ?_ ?_
                                        rotate_left
                                        · intro w'
                                          go_simp
                                          with_reducible rfl
                                        rotate_left
                                        · simp only [Act.put, List.setIfInBounds_toArray, List.set_cons_zero, List.set_cons_succ, i64_w, i32_w]
                                          rfl
                                        refine take_ (i := 1) (N := some 108) (v := ?_) (a' := ?_) #[true, true, true, false, true, false, false, false, false] rfl rfl (take_ofW HT_.out HW_.out (by kernel_rfl)) (fun _ _ _ h => h) (Or.inl ⟨by rfl, ?_⟩) hHeld ?_ ?_
                                        rotate_left
                                        · rintro w' ⟨s0, s1, s2, s3, s4, s5⟩
                                          go_simp
                                          with_reducible rfl
                                        rotate_left
                                        · simp only [Act.put, List.setIfInBounds_toArray, List.set_cons_zero, List.set_cons_succ, i64_w, i32_w]
                                          rfl
                                        refine take_ (i := 3) (N := some 110) (v := ?_) (a' := ?_) #[true, true, true, true, true, false, false, false, false] rfl rfl (take_ofW HT_.out HW_.out (by kernel_rfl)) (fun _ _ _ h => h) (Or.inl ⟨by rfl, ?_⟩) hHeld ?_ ?_
                                        rotate_left
                                        · rintro w' ⟨s0, s1, s2, s3, s4, s5⟩
                                          go_simp
                                          with_reducible rfl
                                        rotate_left
                                        · simp only [Act.put, List.setIfInBounds_toArray, List.set_cons_zero, List.set_cons_succ, i64_w, i32_w]
                                          rfl
                                        refine pure_ (i := 5) (N := some 112) (v := ?_) (a' := ?_) #[true, true, true, true, true, true, false, false, false] rfl rfl (any_of HT_.out (by kernel_rfl)) (fun _ _ _ h => h) (Or.inl ⟨by rfl, ?_⟩) ?_ ?_
                                        rotate_left
                                        · intro w'
                                          go_simp
                                          with_reducible rfl
                                        rotate_left
                                        · simp only [Act.put, List.setIfInBounds_toArray, List.set_cons_zero, List.set_cons_succ, i64_w, i32_w]
                                          rfl
                                        refine pure_ (i := 6) (N := some 113) (v := ?_) (a' := ?_) #[true, true, true, true, true, true, true, false, false] rfl rfl (any_of HT_.out (by kernel_rfl)) (fun _ _ _ h => h) (Or.inl ⟨by rfl, ?_⟩) ?_ ?_
                                        rotate_left
                                        · intro w'
                                          go_simp
                                          with_reducible rfl
                                        rotate_left
                                        · simp only [Act.put, List.setIfInBounds_toArray, List.set_cons_zero, List.set_cons_succ, i64_w, i32_w]
                                          rfl
                                        refine take_ (i := 7) (N := some 114) (v := ?_) (a' := ?_) #[true, true, true, true, true, true, true, true, false] rfl rfl (take_ofW HT_.out HW_.out (by kernel_rfl)) (fun _ _ _ h => h) (Or.inl ⟨by rfl, ?_⟩) hHeld ?_ ?_
                                        rotate_left
                                        · rintro w' ⟨s0, s1, s2, s3, s4, s5⟩
                                          go_simp
                                          with_reducible rfl
                                        rotate_left
                                        · simp only [Act.put, List.setIfInBounds_toArray, List.set_cons_zero, List.set_cons_succ, i64_w, i32_w]
                                          rfl
                                        refine pure_ (i := 8) (N := some 115) (v := ?_) (a' := ?_) #[true, true, true, true, true, true, true, true, true] rfl rfl (any_of HT_.out (by kernel_rfl)) (fun _ _ _ h => h) (Or.inl ⟨by rfl, ?_⟩) ?_ ?_
                                        rotate_left
                                        · intro w'
                                          go_simp
                                          with_reducible rfl
                                        rotate_left
                                        · simp only [Act.put, List.setIfInBounds_toArray, List.set_cons_zero, List.set_cons_succ, i64_w, i32_w]
                                          rfl
                                        refine done_ (done_of HT_.out (by kernel_rfl)) ?_
                                        try go_wp2
                                        go_roundg k3
                                        case measure => have := HJ8.out; have := HJ32.out; have := HK3.out; omega
                                        case rel => exact ⟨(wrap64 (x17_3 + 1)), (by first | rfl | (simp; done) | (simp [*]; done)), H', ⟨by have := HJ8.out; have := HJ32.out; have := HK3.out; omega⟩, ⟨by (with_reducible repeat (first | apply Kd.R_alloc | apply Kd.R_drewN | apply Kd.R_drew)); exact HO_15.out⟩, ⟨by (with_reducible repeat (first | apply Kd.R_alloc | apply Kd.R_drewN | apply Kd.R_drew)); exact Kd.R_mono HO_388000.out (fun _ hk => hk.1)⟩, ⟨by (with_reducible repeat (first | apply Kd.R_alloc | apply Kd.R_drewN | apply Kd.R_drew)); exact HO_388001.out⟩, ⟨by (with_reducible repeat (first | apply Kd.R_alloc | apply Kd.R_drewN | apply Kd.R_drew)); exact Kd.R_mono HO_417000.out (fun _ hk => hk.1)⟩, ⟨by (with_reducible repeat (first | apply Kd.R_alloc | apply Kd.R_drewN | apply Kd.R_drew)); exact HO_417001.out⟩, ⟨by (with_reducible repeat (first | refine blk_drewN ?_ _ | refine blk_drew ?_ | refine blk_alloc ?_ _)); exact BK379.out⟩, ⟨by (with_reducible repeat (first | refine blk_drewN ?_ _ | refine blk_drew ?_ | refine blk_alloc ?_ _)); exact BK380.out⟩, ⟨by (with_reducible repeat (first | refine blk_drewN ?_ _ | refine blk_drew ?_ | refine blk_alloc ?_ _)); exact BK387.out⟩, ⟨by (with_reducible repeat (first | refine blk_drewN ?_ _ | refine blk_drew ?_ | refine blk_alloc ?_ _)); exact BK416.out⟩, ⟨by repeat (first | (with_reducible first | exact HB.out | apply below_alloc | apply pw_below_drewN | apply below_drew1 | refine below_set ?_ GE379.out | refine below_set ?_ GE380.out | refine below_set ?_ GE387.out | refine below_set ?_ GE416.out | refine below_set ?_ GE419.out) | exact HB.out)⟩⟩
                                      · rw [if_neg c97] at H
                                        have c97b0 : (((rd_T60 t410 x17_3).f0).toList == ((rd_T60 t381 x17_3).f0).toList) = false := beq_eq_false_iff_ne.mpr c97
                                        have c97b1 : (((rd_T60 t410 x17_3).f0).toList != ((rd_T60 t381 x17_3).f0).toList) = true := bne_iff_ne.mpr c97
                                        exact absurd (Option.some.inj (H.trans (congrArg some HRT.out))) (by decide)
                                  · rw [if_neg c75] at H
                                    exact absurd H (by simp)
                                · rw [if_neg c74] at H
                                  exact absurd H (by simp)
                              · rw [if_neg c73] at H
                                have c73b0 : decide (x17_3 < (t381.length : Int)) = false := decide_eq_false c73
                                clear c73
                                replace H := Option.bind_eq_some_iff.mp H
                                obtain ⟨⟨t423, t424⟩, A1130, H⟩ := H
                                replace H : ((jalousielaw05_live.f k3).bind fun t426 => (if t426 = true then ((view_Of.f y407 t423 t424 (⟨#[46, 46, 46]⟩ : ByteArray)).bind fun bt427 => ((view_Of.f l0 t423 t424 (⟨#[46, 46, 46]⟩ : ByteArray)).bind fun bt433 => (some ((bt427.1.length : Int) == (wrap64 ((bt433.1.length : Int) + 1)))))) else (some false))) = some r := H
                                have A113 := Aside0.mk A1130
                                clear A1130
                                replace H := Option.bind_eq_some_iff.mp H
                                obtain ⟨t426, A1140, H⟩ := H
                                replace H : (if t426 = true then ((view_Of.f y407 t423 t424 (⟨#[46, 46, 46]⟩ : ByteArray)).bind fun bt427 => ((view_Of.f l0 t423 t424 (⟨#[46, 46, 46]⟩ : ByteArray)).bind fun bt433 => (some ((bt427.1.length : Int) == (wrap64 ((bt433.1.length : Int) + 1)))))) else (some false)) = some r := H
                                have A114 := Aside0.mk A1140
                                clear A1140
                                by_cases c115 : t426 = true
                                · subst c115
                                  have H1 : ((view_Of.f y407 t423 t424 (⟨#[46, 46, 46]⟩ : ByteArray)).bind fun bt427 => ((view_Of.f l0 t423 t424 (⟨#[46, 46, 46]⟩ : ByteArray)).bind fun bt433 => (some ((bt427.1.length : Int) == (wrap64 ((bt433.1.length : Int) + 1)))))) = some r := by rw [if_pos rfl] at H; exact H
                                  clear H
                                  have H := H1
                                  clear H1
                                  replace H := Option.bind_eq_some_iff.mp H
                                  obtain ⟨⟨t427, t430⟩, A1160, H⟩ := H
                                  replace H : ((view_Of.f l0 t423 t424 (⟨#[46, 46, 46]⟩ : ByteArray)).bind fun bt433 => (some ((t427.length : Int) == (wrap64 ((bt433.1.length : Int) + 1))))) = some r := H
                                  have A116 := Aside0.mk A1160
                                  clear A1160
                                  replace H := Option.bind_eq_some_iff.mp H
                                  obtain ⟨⟨t433, t436⟩, A1170, H⟩ := H
                                  replace H : (some ((t427.length : Int) == (wrap64 ((t433.length : Int) + 1)))) = some r := H
                                  have A117 := Aside0.mk A1170
                                  clear A1170
                                  obtain rfl := Option.some.inj H
                                  have hnb118 := NB387_379.out
                                  have hnc118 := NB379_387.out
                                  have hnb119 := NB387_380.out
                                  have hnc119 := NB380_387.out
                                  have hnb120 := NB387_416.out
                                  have hnc120 := NB416_387.out
                                  have hcz121_0 : wr.cell? ⟨gb387, 0, none⟩ = some (.slice Ao16 t381.length co16) := (blk_cell BK387.out 0).trans rfl
                                  have hcz121_1 : wr.cell? ⟨gb387, 1, none⟩ = some (.slice Ao20 t384.length co20) := (blk_cell BK387.out 1).trans rfl
                                  have hfz121_0 := blk_frozen BK387.out 0
                                  have hfz121_1 := blk_frozen BK387.out 1
                                  have hnb122 := NB379_380.out
                                  have hnc122 := NB380_379.out
                                  have hnb123 := NB379_416.out
                                  have hnc123 := NB416_379.out
                                  have hcz124_0 : wr.cell? ⟨gb379, 0, none⟩ = some (.int .i64 a1_0) := (blk_cell BK379.out 0).trans rfl
                                  have hcz124_1 : wr.cell? ⟨gb379, 1, none⟩ = some (.int .u64 a1_1) := (blk_cell BK379.out 1).trans rfl
                                  have hfz124_0 := blk_frozen BK379.out 0
                                  have hfz124_1 := blk_frozen BK379.out 1
                                  have hnb125 := NB380_416.out
                                  have hnc125 := NB416_380.out
                                  have hcz126_0 : wr.cell? ⟨gb380, 0, none⟩ = some (.int .i64 a4_0) := (blk_cell BK380.out 0).trans rfl
                                  have hcz126_1 : wr.cell? ⟨gb380, 1, none⟩ = some (.int .u64 a4_1) := (blk_cell BK380.out 1).trans rfl
                                  have hfz126_0 := blk_frozen BK380.out 0
                                  have hfz126_1 := blk_frozen BK380.out 1
                                  try go_wp2_with (first | ((with_reducible refine gate_callee (f := 25) rfl ?_); refine goesL_ (some 118) rfl rfl Try.func25 (by kernel_rfl) rfl #[.agg #[.int .i64 a1_0, .int .u64 a1_1], .agg #[.int .i64 a4_0, .int .u64 a4_1]] rfl (by (try simp only [List.map_toArray, List.map_cons, List.map_nil]); first | done | rfl | (simp only [List.length_drop, List.length_take]; rfl)) ?_; (with_reducible refine (jalousieref02_Join.calls k3 a1_0 a1_1 a4_0 a4_1 t423 t424 _ A113.out).mono ?_); rintro e w127 ⟨rfl, hb⟩; refine ⟨_, rfl, ?_⟩; have n0_ := Aside0.mk (Kd.R_below (by (with_reducible repeat (first | apply Kd.R_alloc | apply Kd.R_drewN | apply Kd.R_drew)); exact HO_15.out) hb); have n1_ := Aside0.mk (Kd.R_below (by (with_reducible repeat (first | apply Kd.R_alloc | apply Kd.R_drewN | apply Kd.R_drew)); exact HO_388000.out) hb); have n2_ := Aside0.mk (Kd.R_below (by (with_reducible repeat (first | apply Kd.R_alloc | apply Kd.R_drewN | apply Kd.R_drew)); exact HO_388001.out) hb); have n3_ := Aside0.mk (Kd.R_below (by (with_reducible repeat (first | apply Kd.R_alloc | apply Kd.R_drewN | apply Kd.R_drew)); exact HO_417000.out) hb); have n4_ := Aside0.mk (Kd.R_below (by (with_reducible repeat (first | apply Kd.R_alloc | apply Kd.R_drewN | apply Kd.R_drew)); exact HO_417001.out) hb); have n5_ := Aside0.mk (blk_below (g := gb379) (o := .cells #[.int .i64 a1_0, .int .u64 a1_1] 25 (0, 0)) (by (with_reducible repeat (first | refine blk_drewN ?_ _ | refine blk_drew ?_ | refine blk_alloc ?_ _)); exact BK379.out) hb); have n6_ := Aside0.mk (blk_below (g := gb380) (o := .cells #[.int .i64 a4_0, .int .u64 a4_1] 25 (0, 0)) (by (with_reducible repeat (first | refine blk_drewN ?_ _ | refine blk_drew ?_ | refine blk_alloc ?_ _)); exact BK380.out) hb); have n7_ := Aside0.mk (blk_below (g := gb387) (o := .cells #[.slice Ao16 t381.length co16, .slice Ao20 t384.length co20] 42 (0, 0)) (by (with_reducible repeat (first | refine blk_drewN ?_ _ | refine blk_drew ?_ | refine blk_alloc ?_ _)); exact BK387.out) hb); have n8_ := Aside0.mk (blk_below (g := gb416) (o := .cells #[.slice Ao48 t410.length co48, .slice Ao53 t413.length co53] 42 (0, 0)) (by (with_reducible repeat (first | refine blk_drewN ?_ _ | refine blk_drew ?_ | refine blk_alloc ?_ _)); exact BK416.out) hb); have n9_ := Aside0.mk (below_step (by repeat (first | (with_reducible first | exact HB.out | apply below_alloc | apply pw_below_drewN | apply below_drew1 | refine below_set ?_ GE379.out | refine below_set ?_ GE380.out | refine below_set ?_ GE387.out | refine below_set ?_ GE416.out) | exact HB.out)) hb); clear HO_15; clear HO_388000; clear HO_388001; clear HO_417000; clear HO_417001; clear BK379; clear BK380; clear BK387; clear BK416; clear HB; have HO_15 := n0_; have HO_388000 := n1_; have HO_388001 := n2_; have HO_417000 := n3_; have HO_417001 := n4_; have BK379 := n5_; have BK380 := n6_; have BK387 := n7_; have BK416 := n8_; have HB := n9_; clear n0_ n1_ n2_ n3_ n4_ n5_ n6_ n7_ n8_ n9_; (try clear hb); (try clear hb2); (try clear hk); (try clear hi)) | ((with_reducible refine gate_dst (N := 19) rfl ?_); (try (refine gate_guard (by rfl) ?_; dsimp only)); refine box_event ?hg (N := 19) ?hd (cs := #[.int .i64 0, .int .u64 0]) (t := 25) ?hr ?_; (case hd => rfl); (case hg => rfl); (case hr => first | (go_simp; done) | (go_simp; rfl)); intro gb425 hg w128 hbox hb; have n0_ := Aside0.mk (Kd.R_below (by (with_reducible repeat (first | apply Kd.R_alloc | apply Kd.R_drewN | apply Kd.R_drew)); exact HO_15.out) hb); have n1_ := Aside0.mk (Kd.R_below (by (with_reducible repeat (first | apply Kd.R_alloc | apply Kd.R_drewN | apply Kd.R_drew)); exact HO_388000.out) hb); have n2_ := Aside0.mk (Kd.R_below (by (with_reducible repeat (first | apply Kd.R_alloc | apply Kd.R_drewN | apply Kd.R_drew)); exact HO_388001.out) hb); have n3_ := Aside0.mk (Kd.R_below (by (with_reducible repeat (first | apply Kd.R_alloc | apply Kd.R_drewN | apply Kd.R_drew)); exact HO_417000.out) hb); have n4_ := Aside0.mk (Kd.R_below (by (with_reducible repeat (first | apply Kd.R_alloc | apply Kd.R_drewN | apply Kd.R_drew)); exact HO_417001.out) hb); have n5_ := Aside0.mk (blk_below (g := gb379) (o := .cells #[.int .i64 a1_0, .int .u64 a1_1] 25 (0, 0)) (by (with_reducible repeat (first | refine blk_drewN ?_ _ | refine blk_drew ?_ | refine blk_alloc ?_ _)); exact BK379.out) hb); have n6_ := Aside0.mk (blk_below (g := gb380) (o := .cells #[.int .i64 a4_0, .int .u64 a4_1] 25 (0, 0)) (by (with_reducible repeat (first | refine blk_drewN ?_ _ | refine blk_drew ?_ | refine blk_alloc ?_ _)); exact BK380.out) hb); have n7_ := Aside0.mk (blk_below (g := gb387) (o := .cells #[.slice Ao16 t381.length co16, .slice Ao20 t384.length co20] 42 (0, 0)) (by (with_reducible repeat (first | refine blk_drewN ?_ _ | refine blk_drew ?_ | refine blk_alloc ?_ _)); exact BK387.out) hb); have n8_ := Aside0.mk (blk_below (g := gb416) (o := .cells #[.slice Ao48 t410.length co48, .slice Ao53 t413.length co53] 42 (0, 0)) (by (with_reducible repeat (first | refine blk_drewN ?_ _ | refine blk_drew ?_ | refine blk_alloc ?_ _)); exact BK416.out) hb); have n9_ := Aside0.mk (below_step (by repeat (first | (with_reducible first | exact HB.out | apply below_alloc | apply pw_below_drewN | apply below_drew1 | refine below_set ?_ GE379.out | refine below_set ?_ GE380.out | refine below_set ?_ GE387.out | refine below_set ?_ GE416.out) | exact HB.out)) hb); have n10_ := Aside0.mk (hbox); have n11_ := Aside0.mk ((by rw [hg]; exact (below_size (by repeat (first | (with_reducible first | exact HB.out | apply below_alloc | apply pw_below_drewN | apply below_drew1 | refine below_set ?_ GE379.out | refine below_set ?_ GE380.out | refine below_set ?_ GE387.out | refine below_set ?_ GE416.out) | exact HB.out))) : w.heap.size ≤ gb425)); have n12_ := Aside0.mk ((by rw [hg]; exact (below_size (by repeat (first | (with_reducible first | exact HB.out | apply below_alloc | apply pw_below_drewN | apply below_drew1 | refine below_set ?_ GE379.out | refine below_set ?_ GE380.out | refine below_set ?_ GE387.out | refine below_set ?_ GE416.out) | exact HB.out))) : w.heap.size ≤ gb425)); have n13_ := Aside0.mk ((by rw [hg]; exact Nat.ne_of_lt (blk_lt (g := gb379) (o := .cells #[.int .i64 a1_0, .int .u64 a1_1] 25 (0, 0)) (by (with_reducible repeat (first | refine blk_drewN ?_ _ | refine blk_drew ?_ | refine blk_alloc ?_ _)); exact BK379.out)) : gb379 ≠ gb425)); have n14_ := Aside0.mk ((by rw [hg]; exact Nat.ne_of_gt (blk_lt (g := gb379) (o := .cells #[.int .i64 a1_0, .int .u64 a1_1] 25 (0, 0)) (by (with_reducible repeat (first | refine blk_drewN ?_ _ | refine blk_drew ?_ | refine blk_alloc ?_ _)); exact BK379.out)) : gb425 ≠ gb379)); have n15_ := Aside0.mk ((by rw [hg]; exact Nat.ne_of_lt (blk_lt (g := gb380) (o := .cells #[.int .i64 a4_0, .int .u64 a4_1] 25 (0, 0)) (by (with_reducible repeat (first | refine blk_drewN ?_ _ | refine blk_drew ?_ | refine blk_alloc ?_ _)); exact BK380.out)) : gb380 ≠ gb425)); have n16_ := Aside0.mk ((by rw [hg]; exact Nat.ne_of_gt (blk_lt (g := gb380) (o := .cells #[.int .i64 a4_0, .int .u64 a4_1] 25 (0, 0)) (by (with_reducible repeat (first | refine blk_drewN ?_ _ | refine blk_drew ?_ | refine blk_alloc ?_ _)); exact BK380.out)) : gb425 ≠ gb380)); have n17_ := Aside0.mk ((by rw [hg]; exact Nat.ne_of_lt (blk_lt (g := gb387) (o := .cells #[.slice Ao16 t381.length co16, .slice Ao20 t384.length co20] 42 (0, 0)) (by (with_reducible repeat (first | refine blk_drewN ?_ _ | refine blk_drew ?_ | refine blk_alloc ?_ _)); exact BK387.out)) : gb387 ≠ gb425)); have n18_ := Aside0.mk ((by rw [hg]; exact Nat.ne_of_gt (blk_lt (g := gb387) (o := .cells #[.slice Ao16 t381.length co16, .slice Ao20 t384.length co20] 42 (0, 0)) (by (with_reducible repeat (first | refine blk_drewN ?_ _ | refine blk_drew ?_ | refine blk_alloc ?_ _)); exact BK387.out)) : gb425 ≠ gb387)); have n19_ := Aside0.mk ((by rw [hg]; exact Nat.ne_of_lt (blk_lt (g := gb416) (o := .cells #[.slice Ao48 t410.length co48, .slice Ao53 t413.length co53] 42 (0, 0)) (by (with_reducible repeat (first | refine blk_drewN ?_ _ | refine blk_drew ?_ | refine blk_alloc ?_ _)); exact BK416.out)) : gb416 ≠ gb425)); have n20_ := Aside0.mk ((by rw [hg]; exact Nat.ne_of_gt (blk_lt (g := gb416) (o := .cells #[.slice Ao48 t410.length co48, .slice Ao53 t413.length co53] 42 (0, 0)) (by (with_reducible repeat (first | refine blk_drewN ?_ _ | refine blk_drew ?_ | refine blk_alloc ?_ _)); exact BK416.out)) : gb425 ≠ gb416)); clear HO_15; clear HO_388000; clear HO_388001; clear HO_417000; clear HO_417001; clear BK379; clear BK380; clear BK387; clear BK416; clear HB; have HO_15 := n0_; have HO_388000 := n1_; have HO_388001 := n2_; have HO_417000 := n3_; have HO_417001 := n4_; have BK379 := n5_; have BK380 := n6_; have BK387 := n7_; have BK416 := n8_; have HB := n9_; have BK425 := n10_; have GW425 := n11_; have GE425 := n12_; have NB379_425 := n13_; have NB425_379 := n14_; have NB380_425 := n15_; have NB425_380 := n16_; have NB387_425 := n17_; have NB425_387 := n18_; have NB416_425 := n19_; have NB425_416 := n20_; clear n0_ n1_ n2_ n3_ n4_ n5_ n6_ n7_ n8_ n9_ n10_ n11_ n12_ n13_ n14_ n15_ n16_ n17_ n18_ n19_ n20_; clear hb hbox hg; have hnb129 := NB425_379.out; have hnc129 := NB379_425.out; have hnb130 := NB425_380.out; have hnc130 := NB380_425.out; have hnb131 := NB425_387.out; have hnc131 := NB387_425.out; have hnb132 := NB425_416.out; have hnc132 := NB416_425.out; have hcz133_0 : w128.cell? ⟨gb425, 0, none⟩ = some (.int .i64 0) := (blk_cell BK425.out 0).trans rfl; have hcz133_1 : w128.cell? ⟨gb425, 1, none⟩ = some (.int .u64 0) := (blk_cell BK425.out 1).trans rfl; have hfz133_0 := blk_frozen BK425.out 0; have hfz133_1 := blk_frozen BK425.out 1))
                                  have n0_ : Aside0 (Kd.R k63 63 ((w128.setCell ⟨gb425, 0, none⟩ (.int .i64 t423)).setCell ⟨gb425, 1, none⟩ (.int .u64 t424)) w.heap.size (fun _ => True) (.slice Ao45 y407.length co45) y407) := ⟨by (with_reducible repeat (first | apply Kd.R_alloc | apply Kd.R_drewN | apply Kd.R_drew)); exact Kd.R_mono (Kd.R_far (p := ⟨gb425, 1, none⟩) (Kd.R_far (p := ⟨gb425, 0, none⟩) (Kd.R_types HO_15.out BK425.out (by decide)) (fun _ hk => hk.2) (.int .i64 t423)) (fun _ hk => hk.2) (.int .u64 t424)) (fun _ hk => trivial)⟩
                                  have n1_ : Aside0 (Kd.R k60 60 ((w128.setCell ⟨gb425, 0, none⟩ (.int .i64 t423)).setCell ⟨gb425, 1, none⟩ (.int .u64 t424)) w.heap.size (fun k_ => some k_ ≠ (.slice Ao48 t410.length co48 : Value).ownBlock) (.slice Ao16 t381.length co16) t381) := ⟨by (with_reducible repeat (first | apply Kd.R_alloc | apply Kd.R_drewN | apply Kd.R_drew)); exact Kd.R_mono (Kd.R_far (p := ⟨gb425, 1, none⟩) (Kd.R_far (p := ⟨gb425, 0, none⟩) (Kd.R_types HO_388000.out BK425.out (by decide)) (fun _ hk => hk.2) (.int .i64 t423)) (fun _ hk => hk.2) (.int .u64 t424)) (fun _ hk => hk.1)⟩
                                  have n2_ : Aside0 (Kd.R (Kd.int .i64) 3 ((w128.setCell ⟨gb425, 0, none⟩ (.int .i64 t423)).setCell ⟨gb425, 1, none⟩ (.int .u64 t424)) w.heap.size (fun k_ => some k_ ≠ (.slice Ao53 t413.length co53 : Value).ownBlock) (.slice Ao20 t384.length co20) t384) := ⟨by (with_reducible repeat (first | apply Kd.R_alloc | apply Kd.R_drewN | apply Kd.R_drew)); exact Kd.R_mono (Kd.R_far (p := ⟨gb425, 1, none⟩) (Kd.R_far (p := ⟨gb425, 0, none⟩) (Kd.R_types HO_388001.out BK425.out (by decide)) (fun _ hk => hk.2) (.int .i64 t423)) (fun _ hk => hk.2) (.int .u64 t424)) (fun _ hk => hk.1)⟩
                                  have n3_ : Aside0 (Kd.R k60 60 ((w128.setCell ⟨gb425, 0, none⟩ (.int .i64 t423)).setCell ⟨gb425, 1, none⟩ (.int .u64 t424)) w.heap.size (fun k_ => some k_ ≠ (.slice Ao16 t381.length co16 : Value).ownBlock) (.slice Ao48 t410.length co48) t410) := ⟨by (with_reducible repeat (first | apply Kd.R_alloc | apply Kd.R_drewN | apply Kd.R_drew)); exact Kd.R_mono (Kd.R_far (p := ⟨gb425, 1, none⟩) (Kd.R_far (p := ⟨gb425, 0, none⟩) (Kd.R_types HO_417000.out BK425.out (by decide)) (fun _ hk => hk.2) (.int .i64 t423)) (fun _ hk => hk.2) (.int .u64 t424)) (fun _ hk => hk.1)⟩
                                  have n4_ : Aside0 (Kd.R (Kd.int .i64) 3 ((w128.setCell ⟨gb425, 0, none⟩ (.int .i64 t423)).setCell ⟨gb425, 1, none⟩ (.int .u64 t424)) w.heap.size (fun k_ => some k_ ≠ (.slice Ao20 t384.length co20 : Value).ownBlock) (.slice Ao53 t413.length co53) t413) := ⟨by (with_reducible repeat (first | apply Kd.R_alloc | apply Kd.R_drewN | apply Kd.R_drew)); exact Kd.R_mono (Kd.R_far (p := ⟨gb425, 1, none⟩) (Kd.R_far (p := ⟨gb425, 0, none⟩) (Kd.R_types HO_417001.out BK425.out (by decide)) (fun _ hk => hk.2) (.int .i64 t423)) (fun _ hk => hk.2) (.int .u64 t424)) (fun _ hk => hk.1)⟩
                                  have n5_ : Aside0 (((w128.setCell ⟨gb425, 0, none⟩ (.int .i64 t423)).setCell ⟨gb425, 1, none⟩ (.int .u64 t424)).heap[gb379]? = some (.cells #[.int .i64 a1_0, .int .u64 a1_1] 25 (0, 0))) := ⟨by (with_reducible repeat (first | refine blk_drewN ?_ _ | refine blk_drew ?_ | refine blk_alloc ?_ _)); refine blk_far ?_ NB379_425.out _; (with_reducible repeat (first | refine blk_drewN ?_ _ | refine blk_drew ?_ | refine blk_alloc ?_ _)); refine blk_far ?_ NB379_425.out _; (with_reducible repeat (first | refine blk_drewN ?_ _ | refine blk_drew ?_ | refine blk_alloc ?_ _)); exact BK379.out⟩
                                  have n6_ : Aside0 (((w128.setCell ⟨gb425, 0, none⟩ (.int .i64 t423)).setCell ⟨gb425, 1, none⟩ (.int .u64 t424)).heap[gb380]? = some (.cells #[.int .i64 a4_0, .int .u64 a4_1] 25 (0, 0))) := ⟨by (with_reducible repeat (first | refine blk_drewN ?_ _ | refine blk_drew ?_ | refine blk_alloc ?_ _)); refine blk_far ?_ NB380_425.out _; (with_reducible repeat (first | refine blk_drewN ?_ _ | refine blk_drew ?_ | refine blk_alloc ?_ _)); refine blk_far ?_ NB380_425.out _; (with_reducible repeat (first | refine blk_drewN ?_ _ | refine blk_drew ?_ | refine blk_alloc ?_ _)); exact BK380.out⟩
                                  have n7_ : Aside0 (((w128.setCell ⟨gb425, 0, none⟩ (.int .i64 t423)).setCell ⟨gb425, 1, none⟩ (.int .u64 t424)).heap[gb387]? = some (.cells #[.slice Ao16 t381.length co16, .slice Ao20 t384.length co20] 42 (0, 0))) := ⟨by (with_reducible repeat (first | refine blk_drewN ?_ _ | refine blk_drew ?_ | refine blk_alloc ?_ _)); refine blk_far ?_ NB387_425.out _; (with_reducible repeat (first | refine blk_drewN ?_ _ | refine blk_drew ?_ | refine blk_alloc ?_ _)); refine blk_far ?_ NB387_425.out _; (with_reducible repeat (first | refine blk_drewN ?_ _ | refine blk_drew ?_ | refine blk_alloc ?_ _)); exact BK387.out⟩
                                  have n8_ : Aside0 (((w128.setCell ⟨gb425, 0, none⟩ (.int .i64 t423)).setCell ⟨gb425, 1, none⟩ (.int .u64 t424)).heap[gb416]? = some (.cells #[.slice Ao48 t410.length co48, .slice Ao53 t413.length co53] 42 (0, 0))) := ⟨by (with_reducible repeat (first | refine blk_drewN ?_ _ | refine blk_drew ?_ | refine blk_alloc ?_ _)); refine blk_far ?_ NB416_425.out _; (with_reducible repeat (first | refine blk_drewN ?_ _ | refine blk_drew ?_ | refine blk_alloc ?_ _)); refine blk_far ?_ NB416_425.out _; (with_reducible repeat (first | refine blk_drewN ?_ _ | refine blk_drew ?_ | refine blk_alloc ?_ _)); exact BK416.out⟩
                                  have n9_ : Aside0 (((w128.setCell ⟨gb425, 0, none⟩ (.int .i64 t423)).setCell ⟨gb425, 1, none⟩ (.int .u64 t424)).heap[gb425]? = some (.cells #[.int .i64 t423, .int .u64 t424] 25 (0, 0))) := ⟨by (with_reducible repeat (first | refine blk_drewN ?_ _ | refine blk_drew ?_ | refine blk_alloc ?_ _)); refine blk_put (cs := #[.int .i64 t423, .int .u64 0]) ?_ 1 _ rfl; (with_reducible repeat (first | refine blk_drewN ?_ _ | refine blk_drew ?_ | refine blk_alloc ?_ _)); refine blk_put (cs := #[.int .i64 0, .int .u64 0]) ?_ 0 _ rfl; (with_reducible repeat (first | refine blk_drewN ?_ _ | refine blk_drew ?_ | refine blk_alloc ?_ _)); exact BK425.out⟩
                                  have n10_ : Aside0 (Below w.heap.size w ((w128.setCell ⟨gb425, 0, none⟩ (.int .i64 t423)).setCell ⟨gb425, 1, none⟩ (.int .u64 t424))) := ⟨by repeat (first | (with_reducible first | exact HB.out | apply below_alloc | apply pw_below_drewN | apply below_drew1 | refine below_set ?_ GE379.out | refine below_set ?_ GE380.out | refine below_set ?_ GE387.out | refine below_set ?_ GE416.out | refine below_set ?_ GE425.out) | exact HB.out)⟩
                                  (try clear HO_15)
                                  (try clear HO_388000)
                                  (try clear HO_388001)
                                  (try clear HO_417000)
                                  (try clear HO_417001)
                                  (try clear BK379)
                                  (try clear BK380)
                                  (try clear BK387)
                                  (try clear BK416)
                                  (try clear BK425)
                                  (try clear HB)
                                  generalize ((w128.setCell ⟨gb425, 0, none⟩ (.int .i64 t423)).setCell ⟨gb425, 1, none⟩ (.int .u64 t424)) = w134 at n0_ n1_ n2_ n3_ n4_ n5_ n6_ n7_ n8_ n9_ n10_ ⊢
                                  have HO_15 := n0_
                                  have HO_388000 := n1_
                                  have HO_388001 := n2_
                                  have HO_417000 := n3_
                                  have HO_417001 := n4_
                                  have BK379 := n5_
                                  have BK380 := n6_
                                  have BK387 := n7_
                                  have BK416 := n8_
                                  have BK425 := n9_
                                  have HB := n10_
                                  clear n0_ n1_ n2_ n3_ n4_ n5_ n6_ n7_ n8_ n9_ n10_
                                  have n0_ := Aside0.mk (Kd.R_drew HO_15.out)
                                  have n1_ := Aside0.mk (Kd.R_drew HO_388000.out)
                                  have n2_ := Aside0.mk (Kd.R_drew HO_388001.out)
                                  have n3_ := Aside0.mk (Kd.R_drew HO_417000.out)
                                  have n4_ := Aside0.mk (Kd.R_drew HO_417001.out)
                                  have n5_ := Aside0.mk (blk_drew BK379.out)
                                  have n6_ := Aside0.mk (blk_drew BK380.out)
                                  have n7_ := Aside0.mk (blk_drew BK387.out)
                                  have n8_ := Aside0.mk (blk_drew BK416.out)
                                  have n9_ := Aside0.mk (blk_drew BK425.out)
                                  have n10_ := Aside0.mk (below_drew1 HB.out)
                                  clear HO_15
                                  clear HO_388000
                                  clear HO_388001
                                  clear HO_417000
                                  clear HO_417001
                                  clear BK379
                                  clear BK380
                                  clear BK387
                                  clear BK416
                                  clear BK425
                                  clear HB
                                  have HO_15 := n0_
                                  have HO_388000 := n1_
                                  have HO_388001 := n2_
                                  have HO_417000 := n3_
                                  have HO_417001 := n4_
                                  have BK379 := n5_
                                  have BK380 := n6_
                                  have BK387 := n7_
                                  have BK416 := n8_
                                  have BK425 := n9_
                                  have HB := n10_
                                  clear n0_ n1_ n2_ n3_ n4_ n5_ n6_ n7_ n8_ n9_ n10_
                                  refine start_ (n := 16) (S := fun w' => w'.cell? ⟨gb425, 0, none⟩ = some (.int .i64 t423) ∧ w'.cell? ⟨gb425, 1, none⟩ = some (.int .u64 t424)) (ds := []) #[false, false, false, false, false, false, false, false, false, false, false, false, false, false, false, false] (by kernel_rfl) rfl rfl ⟨(blk_cell BK425.out 0).trans rfl, (blk_cell BK425.out 1).trans rfl⟩ (fun hHeld => ?_); refine with_tabW jalousielaw05_ViewPuts.tab21 jalousielaw05_ViewPuts.bits21 (fun HT_ HW_ => ?_)
                                  generalize w134.drew = w135 at HO_15 HO_388000 HO_388001 HO_417000 HO_417001 BK379 BK380 BK387 BK416 BK425 HB hHeld ⊢
                                  refine one_ (i := 0) (N := some 119) #[true, false, false, false, false, false, false, false, false, false, false, false, false, false, false, false] rfl rfl (one_of HT_.out (by kernel_rfl)) (by decide) (fun K hK => ?_)
                                  refine goes_ Try.func28 (by kernel_rfl) rfl #[] (by rfl) rfl rfl (by (try simp only [List.map_toArray, List.map_cons, List.map_nil]); first | done | rfl | (simp only [List.length_drop, List.length_take]; rfl)) ?_
                                  with_reducible refine (jalousielaw05_live.calls k3  true _ A114.out).mono ?_
                                  rintro e w136 ⟨rfl, hb⟩
                                  refine ⟨_, rfl, ?_⟩
                                  have n0_ := Aside0.mk (Kd.R_below (by (with_reducible repeat (first | apply Kd.R_alloc | apply Kd.R_drewN | apply Kd.R_drew)); exact HO_15.out) hb)
                                  have n1_ := Aside0.mk (Kd.R_below (by (with_reducible repeat (first | apply Kd.R_alloc | apply Kd.R_drewN | apply Kd.R_drew)); exact HO_388000.out) hb)
                                  have n2_ := Aside0.mk (Kd.R_below (by (with_reducible repeat (first | apply Kd.R_alloc | apply Kd.R_drewN | apply Kd.R_drew)); exact HO_388001.out) hb)
                                  have n3_ := Aside0.mk (Kd.R_below (by (with_reducible repeat (first | apply Kd.R_alloc | apply Kd.R_drewN | apply Kd.R_drew)); exact HO_417000.out) hb)
                                  have n4_ := Aside0.mk (Kd.R_below (by (with_reducible repeat (first | apply Kd.R_alloc | apply Kd.R_drewN | apply Kd.R_drew)); exact HO_417001.out) hb)
                                  have n5_ := Aside0.mk (blk_below (g := gb379) (o := .cells #[.int .i64 a1_0, .int .u64 a1_1] 25 (0, 0)) (by (with_reducible repeat (first | refine blk_drewN ?_ _ | refine blk_drew ?_ | refine blk_alloc ?_ _)); exact BK379.out) hb)
                                  have n6_ := Aside0.mk (blk_below (g := gb380) (o := .cells #[.int .i64 a4_0, .int .u64 a4_1] 25 (0, 0)) (by (with_reducible repeat (first | refine blk_drewN ?_ _ | refine blk_drew ?_ | refine blk_alloc ?_ _)); exact BK380.out) hb)
                                  have n7_ := Aside0.mk (blk_below (g := gb387) (o := .cells #[.slice Ao16 t381.length co16, .slice Ao20 t384.length co20] 42 (0, 0)) (by (with_reducible repeat (first | refine blk_drewN ?_ _ | refine blk_drew ?_ | refine blk_alloc ?_ _)); exact BK387.out) hb)
                                  have n8_ := Aside0.mk (blk_below (g := gb416) (o := .cells #[.slice Ao48 t410.length co48, .slice Ao53 t413.length co53] 42 (0, 0)) (by (with_reducible repeat (first | refine blk_drewN ?_ _ | refine blk_drew ?_ | refine blk_alloc ?_ _)); exact BK416.out) hb)
                                  have n9_ := Aside0.mk (blk_below (g := gb425) (o := .cells #[.int .i64 t423, .int .u64 t424] 25 (0, 0)) (by (with_reducible repeat (first | refine blk_drewN ?_ _ | refine blk_drew ?_ | refine blk_alloc ?_ _)); exact BK425.out) hb)
                                  have n10_ := Aside0.mk (below_step (by repeat (first | (with_reducible first | exact HB.out | apply below_alloc | apply pw_below_drewN | apply below_drew1 | refine below_set ?_ GE379.out | refine below_set ?_ GE380.out | refine below_set ?_ GE387.out | refine below_set ?_ GE416.out | refine below_set ?_ GE425.out) | exact HB.out)) hb)
                                  clear HO_15
                                  clear HO_388000
                                  clear HO_388001
                                  clear HO_417000
                                  clear HO_417001
                                  clear BK379
                                  clear BK380
                                  clear BK387
                                  clear BK416
                                  clear BK425
                                  clear HB
                                  have HO_15 := n0_
                                  have HO_388000 := n1_
                                  have HO_388001 := n2_
                                  have HO_417000 := n3_
                                  have HO_417001 := n4_
                                  have BK379 := n5_
                                  have BK380 := n6_
                                  have BK387 := n7_
                                  have BK416 := n8_
                                  have BK425 := n9_
                                  have HB := n10_
                                  clear n0_ n1_ n2_ n3_ n4_ n5_ n6_ n7_ n8_ n9_ n10_
                                  (try clear hb)
                                  (try clear hb2)
                                  (try clear hk)
                                  (try clear hi)
                                  refine hK.out _ _ ⟨(blk_cell BK425.out 0).trans rfl, (blk_cell BK425.out 1).trans rfl⟩ (fun hHeld => ?_)
                                  clear hK K
                                  refine norm_ (a' := ?_) ?_ ?_
                                  rotate_left
                                  · show Act.put _ (some 119) _ = _
                                    simp only [Act.put, List.setIfInBounds_toArray, List.set_cons_zero, List.set_cons_succ, i64_w, i32_w]
                                    rfl
                                  refine pure_ (i := 1) (N := some 120) (v := ?_) (a' := ?_) #[true, true, false, false, false, false, false, false, false, false, false, false, false, false, false, false] rfl rfl (any_of HT_.out (by kernel_rfl)) (fun _ _ _ h => h) (Or.inl ⟨by rfl, ?_⟩) ?_ ?_
                                  rotate_left
                                  · intro w'
                                    go_simp
                                    with_reducible rfl
                                  rotate_left
                                  · simp only [Act.put, List.setIfInBounds_toArray, List.set_cons_zero, List.set_cons_succ, i64_w, i32_w]
                                    rfl
                                  refine pure_ (i := 2) (N := some 121) (v := ?_) (a' := ?_) #[true, true, true, false, false, false, false, false, false, false, false, false, false, false, false, false] rfl rfl (any_of HT_.out (by kernel_rfl)) (fun _ _ _ h => h) (Or.inl ⟨by rfl, ?_⟩) ?_ ?_
                                  rotate_left
                                  · intro w'
                                    go_simp
                                    with_reducible rfl
                                  rotate_left
                                  · simp only [Act.put, List.setIfInBounds_toArray, List.set_cons_zero, List.set_cons_succ, i64_w, i32_w]
                                    rfl
                                  refine pure_ (i := 7) (N := some 126) (v := ?_) (a' := ?_) #[true, true, true, false, false, false, false, true, false, false, false, false, false, false, false, false] rfl rfl (any_of HT_.out (by kernel_rfl)) (fun _ _ _ h => h) (Or.inl ⟨by rfl, ?_⟩) ?_ ?_
                                  rotate_left
                                  · intro w'
                                    go_simp
                                    with_reducible rfl
                                  rotate_left
                                  · simp only [Act.put, List.setIfInBounds_toArray, List.set_cons_zero, List.set_cons_succ, i64_w, i32_w]
                                    rfl
                                  refine take_ (i := 3) (N := some 122) (v := ?_) (a' := ?_) #[true, true, true, true, false, false, false, true, false, false, false, false, false, false, false, false] rfl rfl (take_ofW HT_.out HW_.out (by kernel_rfl)) (fun _ _ _ h => h) (Or.inl ⟨by rfl, ?_⟩) hHeld ?_ ?_
                                  rotate_left
                                  · rintro w' ⟨s0, s1⟩
                                    go_simp
                                    with_reducible rfl
                                  rotate_left
                                  · simp only [Act.put, List.setIfInBounds_toArray, List.set_cons_zero, List.set_cons_succ, i64_w, i32_w]
                                    rfl
                                  refine take_ (i := 8) (N := some 127) (v := ?_) (a' := ?_) #[true, true, true, true, false, false, false, true, true, false, false, false, false, false, false, false] rfl rfl (take_ofW HT_.out HW_.out (by kernel_rfl)) (fun _ _ _ h => h) (Or.inl ⟨by rfl, ?_⟩) hHeld ?_ ?_
                                  rotate_left
                                  · rintro w' ⟨s0, s1⟩
                                    go_simp
                                    with_reducible rfl
                                  rotate_left
                                  · simp only [Act.put, List.setIfInBounds_toArray, List.set_cons_zero, List.set_cons_succ, i64_w, i32_w]
                                    rfl
                                  refine one_ (i := 4) (N := some 123) #[true, true, true, true, true, false, false, true, true, false, false, false, false, false, false, false] rfl rfl (one_of HT_.out (by kernel_rfl)) (by decide) (fun K hK => ?_)
                                  refine goes_ Try.func26 (by kernel_rfl) rfl #[.slice Ao45 y407.length co45, .agg #[.int .i64 t423, .int .u64 t424], .string (⟨#[46, 46, 46]⟩ : ByteArray)] (by rfl) rfl rfl (by (try simp only [List.map_toArray, List.map_cons, List.map_nil]); first | done | rfl | (simp only [List.length_drop, List.length_take]; rfl)) ?_
                                  with_reducible refine (view_Of.calls _ _ y407 t423 t424 (⟨#[46, 46, 46]⟩ : ByteArray) t427 t430 _ ?side1 ?side2 A116.out).mono ?_
                                  (case side1 => repeat (first | exact (Kd.R_reads' HO_15.out).2.2 | (with_reducible refine Kd.C_alloc ?_ _) | (with_reducible refine Kd.C_drewN ?_ _) | (with_reducible refine Kd.C_drew ?_)))
                                  (case side2 => exact (Kd.R_reads' HO_15.out).2.1)
                                  rintro e w137 ⟨v428, v431, rfl, ho0, ho1, hb⟩
                                  refine ⟨_, rfl, ?_⟩
                                  have n0_ := Aside0.mk (Kd.R_below (by (with_reducible repeat (first | apply Kd.R_alloc | apply Kd.R_drewN | apply Kd.R_drew)); exact HO_15.out) hb)
                                  have n1_ := Aside0.mk (Kd.R_elder' (by (with_reducible repeat (first | apply Kd.R_alloc | apply Kd.R_drewN | apply Kd.R_drew)); exact HO_388000.out) (Kd.R_base ho0) hb)
                                  have n2_ := Aside0.mk (Kd.R_elder' (by (with_reducible repeat (first | apply Kd.R_alloc | apply Kd.R_drewN | apply Kd.R_drew)); exact HO_388001.out) (Kd.R_base ho1) hb)
                                  have n3_ := Aside0.mk (Kd.R_elder' (by (with_reducible repeat (first | apply Kd.R_alloc | apply Kd.R_drewN | apply Kd.R_drew)); exact HO_417000.out) (Kd.R_base ho0) hb)
                                  have n4_ := Aside0.mk (Kd.R_elder' (by (with_reducible repeat (first | apply Kd.R_alloc | apply Kd.R_drewN | apply Kd.R_drew)); exact HO_417001.out) (Kd.R_base ho1) hb)
                                  have n5_ := Aside0.mk (Kd.R_lower (Kd.R_new' (Kd.R_new' ho0 (Kd.R_lt (by (with_reducible repeat (first | apply Kd.R_alloc | apply Kd.R_drewN | apply Kd.R_drew)); exact HO_388000.out))) (Kd.R_lt (by (with_reducible repeat (first | apply Kd.R_alloc | apply Kd.R_drewN | apply Kd.R_drew)); exact HO_417000.out))) (below_size (by repeat (first | (with_reducible first | exact HB.out | apply below_alloc | apply pw_below_drewN | apply below_drew1 | refine below_set ?_ GE379.out | refine below_set ?_ GE380.out | refine below_set ?_ GE387.out | refine below_set ?_ GE416.out | refine below_set ?_ GE425.out) | exact HB.out))))
                                  have n6_ := Aside0.mk (Kd.R_lower (Kd.R_new' (Kd.R_new' ho1 (Kd.R_lt (by (with_reducible repeat (first | apply Kd.R_alloc | apply Kd.R_drewN | apply Kd.R_drew)); exact HO_388001.out))) (Kd.R_lt (by (with_reducible repeat (first | apply Kd.R_alloc | apply Kd.R_drewN | apply Kd.R_drew)); exact HO_417001.out))) (below_size (by repeat (first | (with_reducible first | exact HB.out | apply below_alloc | apply pw_below_drewN | apply below_drew1 | refine below_set ?_ GE379.out | refine below_set ?_ GE380.out | refine below_set ?_ GE387.out | refine below_set ?_ GE416.out | refine below_set ?_ GE425.out) | exact HB.out))))
                                  have n7_ := Aside0.mk (blk_below (g := gb379) (o := .cells #[.int .i64 a1_0, .int .u64 a1_1] 25 (0, 0)) (by (with_reducible repeat (first | refine blk_drewN ?_ _ | refine blk_drew ?_ | refine blk_alloc ?_ _)); exact BK379.out) hb)
                                  have n8_ := Aside0.mk (blk_below (g := gb380) (o := .cells #[.int .i64 a4_0, .int .u64 a4_1] 25 (0, 0)) (by (with_reducible repeat (first | refine blk_drewN ?_ _ | refine blk_drew ?_ | refine blk_alloc ?_ _)); exact BK380.out) hb)
                                  have n9_ := Aside0.mk (blk_below (g := gb387) (o := .cells #[.slice Ao16 t381.length co16, .slice Ao20 t384.length co20] 42 (0, 0)) (by (with_reducible repeat (first | refine blk_drewN ?_ _ | refine blk_drew ?_ | refine blk_alloc ?_ _)); exact BK387.out) hb)
                                  have n10_ := Aside0.mk (blk_below (g := gb416) (o := .cells #[.slice Ao48 t410.length co48, .slice Ao53 t413.length co53] 42 (0, 0)) (by (with_reducible repeat (first | refine blk_drewN ?_ _ | refine blk_drew ?_ | refine blk_alloc ?_ _)); exact BK416.out) hb)
                                  have n11_ := Aside0.mk (blk_below (g := gb425) (o := .cells #[.int .i64 t423, .int .u64 t424] 25 (0, 0)) (by (with_reducible repeat (first | refine blk_drewN ?_ _ | refine blk_drew ?_ | refine blk_alloc ?_ _)); exact BK425.out) hb)
                                  have n12_ := Aside0.mk (below_step (by repeat (first | (with_reducible first | exact HB.out | apply below_alloc | apply pw_below_drewN | apply below_drew1 | refine below_set ?_ GE379.out | refine below_set ?_ GE380.out | refine below_set ?_ GE387.out | refine below_set ?_ GE416.out | refine below_set ?_ GE425.out) | exact HB.out)) hb)
                                  clear HO_15
                                  clear HO_388000
                                  clear HO_388001
                                  clear HO_417000
                                  clear HO_417001
                                  clear BK379
                                  clear BK380
                                  clear BK387
                                  clear BK416
                                  clear BK425
                                  clear HB
                                  have HO_15 := n0_
                                  have HO_388000 := n1_
                                  have HO_388001 := n2_
                                  have HO_417000 := n3_
                                  have HO_417001 := n4_
                                  have HO429 := n5_
                                  have HO432 := n6_
                                  have BK379 := n7_
                                  have BK380 := n8_
                                  have BK387 := n9_
                                  have BK416 := n10_
                                  have BK425 := n11_
                                  have HB := n12_
                                  clear n0_ n1_ n2_ n3_ n4_ n5_ n6_ n7_ n8_ n9_ n10_ n11_ n12_
                                  (try clear hb)
                                  (try clear hb2)
                                  (try clear hk)
                                  (try clear hi)
                                  (try clear ho0)
                                  (try clear ho1)
                                  obtain ⟨Ao138, co138, eo138⟩ := Kd.R_slice HO429.out
                                  (first | subst eo138 | (injection eo138 with f1_ f2_ f3_; have f4_ := f1_.symm; have f5_ := f3_.symm; clear f1_ f2_ f3_; subst f4_; subst f5_))
                                  obtain ⟨Aq138, cq138, eo138⟩ := Kd.R_slice HO432.out
                                  (first | subst eo138 | (injection eo138 with f1_ f2_ f3_; have f4_ := f1_.symm; have f5_ := f3_.symm; clear f1_ f2_ f3_; subst f4_; subst f5_))
                                  have hfd138 : ∀ w : World, (Instr.field 42 (.agg #[.slice Ao138 t427.length co138, .slice Aq138 t430.length cq138]) 0).run Try.prog w = .ok (.slice Ao138 t427.length co138) w := fun _ => by kernel_rfl
                                  refine hK.out _ _ ⟨(blk_cell BK425.out 0).trans rfl, (blk_cell BK425.out 1).trans rfl⟩ (fun hHeld => ?_)
                                  clear hK K
                                  refine norm_ (a' := ?_) ?_ ?_
                                  rotate_left
                                  · show Act.put _ (some 123) _ = _
                                    simp only [Act.put, List.setIfInBounds_toArray, List.set_cons_zero, List.set_cons_succ, i64_w, i32_w]
                                    rfl
                                  refine pure_ (i := 5) (N := some 124) (v := ?_) (a' := ?_) #[true, true, true, true, true, true, false, true, true, false, false, false, false, false, false, false] rfl rfl (any_of HT_.out (by kernel_rfl)) (fun _ _ _ h => h) (Or.inl ⟨by rfl, ?_⟩) ?_ ?_
                                  rotate_left
                                  · intro w'
                                    go_simp
                                    with_reducible rfl
                                  rotate_left
                                  · simp only [Act.put, List.setIfInBounds_toArray, List.set_cons_zero, List.set_cons_succ, i64_w, i32_w]
                                    rfl
                                  refine pure_ (i := 6) (N := some 125) (v := ?_) (a' := ?_) #[true, true, true, true, true, true, true, true, true, false, false, false, false, false, false, false] rfl rfl (any_of HT_.out (by kernel_rfl)) (fun _ _ _ h => h) (Or.inl ⟨by rfl, ?_⟩) ?_ ?_
                                  rotate_left
                                  · intro w'
                                    go_simp
                                    with_reducible rfl
                                  rotate_left
                                  · simp only [Act.put, List.setIfInBounds_toArray, List.set_cons_zero, List.set_cons_succ, i64_w, i32_w]
                                    rfl
                                  refine one_ (i := 9) (N := some 128) #[true, true, true, true, true, true, true, true, true, true, false, false, false, false, false, false] rfl rfl (one_of HT_.out (by kernel_rfl)) (by decide) (fun K hK => ?_)
                                  refine goes_ Try.func26 (by kernel_rfl) rfl #[.slice A0 l0.length c0, .agg #[.int .i64 t423, .int .u64 t424], .string (⟨#[46, 46, 46]⟩ : ByteArray)] (by rfl) rfl rfl (by (try simp only [List.map_toArray, List.map_cons, List.map_nil]); first | done | rfl | (simp only [List.length_drop, List.length_take]; rfl)) ?_
                                  with_reducible refine (view_Of.calls _ _ l0 t423 t424 (⟨#[46, 46, 46]⟩ : ByteArray) t433 t436 _ ?side1 ?side2 A117.out).mono ?_
                                  (case side1 => repeat (first | exact (Kd.C_below HR0.out HB.out) | (with_reducible refine Kd.C_alloc ?_ _) | (with_reducible refine Kd.C_drewN ?_ _) | (with_reducible refine Kd.C_drew ?_)))
                                  (case side2 => exact HC0.out)
                                  rintro e w139 ⟨v434, v437, rfl, ho0, ho1, hb⟩
                                  refine ⟨_, rfl, ?_⟩
                                  have n0_ := Aside0.mk (Kd.R_below (by (with_reducible repeat (first | apply Kd.R_alloc | apply Kd.R_drewN | apply Kd.R_drew)); exact HO_15.out) hb)
                                  have n1_ := Aside0.mk (Kd.R_elder' (by (with_reducible repeat (first | apply Kd.R_alloc | apply Kd.R_drewN | apply Kd.R_drew)); exact HO_388000.out) (Kd.R_base ho0) hb)
                                  have n2_ := Aside0.mk (Kd.R_elder' (by (with_reducible repeat (first | apply Kd.R_alloc | apply Kd.R_drewN | apply Kd.R_drew)); exact HO_388001.out) (Kd.R_base ho1) hb)
                                  have n3_ := Aside0.mk (Kd.R_elder' (by (with_reducible repeat (first | apply Kd.R_alloc | apply Kd.R_drewN | apply Kd.R_drew)); exact HO_417000.out) (Kd.R_base ho0) hb)
                                  have n4_ := Aside0.mk (Kd.R_elder' (by (with_reducible repeat (first | apply Kd.R_alloc | apply Kd.R_drewN | apply Kd.R_drew)); exact HO_417001.out) (Kd.R_base ho1) hb)
                                  have n5_ := Aside0.mk (Kd.R_elder' (by (with_reducible repeat (first | apply Kd.R_alloc | apply Kd.R_drewN | apply Kd.R_drew)); exact HO429.out) (Kd.R_base ho0) hb)
                                  have n6_ := Aside0.mk (Kd.R_elder' (by (with_reducible repeat (first | apply Kd.R_alloc | apply Kd.R_drewN | apply Kd.R_drew)); exact HO432.out) (Kd.R_base ho1) hb)
                                  have n7_ := Aside0.mk (Kd.R_lower (Kd.R_new' (Kd.R_new' (Kd.R_new' ho0 (Kd.R_lt (by (with_reducible repeat (first | apply Kd.R_alloc | apply Kd.R_drewN | apply Kd.R_drew)); exact HO_388000.out))) (Kd.R_lt (by (with_reducible repeat (first | apply Kd.R_alloc | apply Kd.R_drewN | apply Kd.R_drew)); exact HO_417000.out))) (Kd.R_lt (by (with_reducible repeat (first | apply Kd.R_alloc | apply Kd.R_drewN | apply Kd.R_drew)); exact HO429.out))) (below_size (by repeat (first | (with_reducible first | exact HB.out | apply below_alloc | apply pw_below_drewN | apply below_drew1 | refine below_set ?_ GE379.out | refine below_set ?_ GE380.out | refine below_set ?_ GE387.out | refine below_set ?_ GE416.out | refine below_set ?_ GE425.out) | exact HB.out))))
                                  have n8_ := Aside0.mk (Kd.R_lower (Kd.R_new' (Kd.R_new' (Kd.R_new' ho1 (Kd.R_lt (by (with_reducible repeat (first | apply Kd.R_alloc | apply Kd.R_drewN | apply Kd.R_drew)); exact HO_388001.out))) (Kd.R_lt (by (with_reducible repeat (first | apply Kd.R_alloc | apply Kd.R_drewN | apply Kd.R_drew)); exact HO_417001.out))) (Kd.R_lt (by (with_reducible repeat (first | apply Kd.R_alloc | apply Kd.R_drewN | apply Kd.R_drew)); exact HO432.out))) (below_size (by repeat (first | (with_reducible first | exact HB.out | apply below_alloc | apply pw_below_drewN | apply below_drew1 | refine below_set ?_ GE379.out | refine below_set ?_ GE380.out | refine below_set ?_ GE387.out | refine below_set ?_ GE416.out | refine below_set ?_ GE425.out) | exact HB.out))))
                                  have n9_ := Aside0.mk (blk_below (g := gb379) (o := .cells #[.int .i64 a1_0, .int .u64 a1_1] 25 (0, 0)) (by (with_reducible repeat (first | refine blk_drewN ?_ _ | refine blk_drew ?_ | refine blk_alloc ?_ _)); exact BK379.out) hb)
                                  have n10_ := Aside0.mk (blk_below (g := gb380) (o := .cells #[.int .i64 a4_0, .int .u64 a4_1] 25 (0, 0)) (by (with_reducible repeat (first | refine blk_drewN ?_ _ | refine blk_drew ?_ | refine blk_alloc ?_ _)); exact BK380.out) hb)
                                  have n11_ := Aside0.mk (blk_below (g := gb387) (o := .cells #[.slice Ao16 t381.length co16, .slice Ao20 t384.length co20] 42 (0, 0)) (by (with_reducible repeat (first | refine blk_drewN ?_ _ | refine blk_drew ?_ | refine blk_alloc ?_ _)); exact BK387.out) hb)
                                  have n12_ := Aside0.mk (blk_below (g := gb416) (o := .cells #[.slice Ao48 t410.length co48, .slice Ao53 t413.length co53] 42 (0, 0)) (by (with_reducible repeat (first | refine blk_drewN ?_ _ | refine blk_drew ?_ | refine blk_alloc ?_ _)); exact BK416.out) hb)
                                  have n13_ := Aside0.mk (blk_below (g := gb425) (o := .cells #[.int .i64 t423, .int .u64 t424] 25 (0, 0)) (by (with_reducible repeat (first | refine blk_drewN ?_ _ | refine blk_drew ?_ | refine blk_alloc ?_ _)); exact BK425.out) hb)
                                  have n14_ := Aside0.mk (below_step (by repeat (first | (with_reducible first | exact HB.out | apply below_alloc | apply pw_below_drewN | apply below_drew1 | refine below_set ?_ GE379.out | refine below_set ?_ GE380.out | refine below_set ?_ GE387.out | refine below_set ?_ GE416.out | refine below_set ?_ GE425.out) | exact HB.out)) hb)
                                  clear HO_15
                                  clear HO_388000
                                  clear HO_388001
                                  clear HO_417000
                                  clear HO_417001
                                  clear HO429
                                  clear HO432
                                  clear BK379
                                  clear BK380
                                  clear BK387
                                  clear BK416
                                  clear BK425
                                  clear HB
                                  have HO_15 := n0_
                                  have HO_388000 := n1_
                                  have HO_388001 := n2_
                                  have HO_417000 := n3_
                                  have HO_417001 := n4_
                                  have HO429 := n5_
                                  have HO432 := n6_
                                  have HO435 := n7_
                                  have HO438 := n8_
                                  have BK379 := n9_
                                  have BK380 := n10_
                                  have BK387 := n11_
                                  have BK416 := n12_
                                  have BK425 := n13_
                                  have HB := n14_
                                  clear n0_ n1_ n2_ n3_ n4_ n5_ n6_ n7_ n8_ n9_ n10_ n11_ n12_ n13_ n14_
                                  (try clear hb)
                                  (try clear hb2)
                                  (try clear hk)
                                  (try clear hi)
                                  (try clear ho0)
                                  (try clear ho1)
                                  obtain ⟨Ao140, co140, eo140⟩ := Kd.R_slice HO435.out
                                  (first | subst eo140 | (injection eo140 with f1_ f2_ f3_; have f4_ := f1_.symm; have f5_ := f3_.symm; clear f1_ f2_ f3_; subst f4_; subst f5_))
                                  obtain ⟨Aq140, cq140, eo140⟩ := Kd.R_slice HO438.out
                                  (first | subst eo140 | (injection eo140 with f1_ f2_ f3_; have f4_ := f1_.symm; have f5_ := f3_.symm; clear f1_ f2_ f3_; subst f4_; subst f5_))
                                  have hfd140 : ∀ w : World, (Instr.field 42 (.agg #[.slice Ao140 t433.length co140, .slice Aq140 t436.length cq140]) 0).run Try.prog w = .ok (.slice Ao140 t433.length co140) w := fun _ => by kernel_rfl
                                  refine hK.out _ _ ⟨(blk_cell BK425.out 0).trans rfl, (blk_cell BK425.out 1).trans rfl⟩ (fun hHeld => ?_)
                                  clear hK K
                                  refine norm_ (a' := ?_) ?_ ?_
                                  rotate_left
                                  · show Act.put _ (some 128) _ = _
                                    simp only [Act.put, List.setIfInBounds_toArray, List.set_cons_zero, List.set_cons_succ, i64_w, i32_w]
                                    rfl
                                  refine pure_ (i := 10) (N := some 129) (v := ?_) (a' := ?_) #[true, true, true, true, true, true, true, true, true, true, true, false, false, false, false, false] rfl rfl (any_of HT_.out (by kernel_rfl)) (fun _ _ _ h => h) (Or.inl ⟨by rfl, ?_⟩) ?_ ?_
                                  rotate_left
                                  · intro w'
                                    go_simp
                                    with_reducible rfl
                                  rotate_left
                                  · simp only [Act.put, List.setIfInBounds_toArray, List.set_cons_zero, List.set_cons_succ, i64_w, i32_w]
                                    rfl
                                  refine pure_ (i := 11) (N := some 130) (v := ?_) (a' := ?_) #[true, true, true, true, true, true, true, true, true, true, true, true, false, false, false, false] rfl rfl (any_of HT_.out (by kernel_rfl)) (fun _ _ _ h => h) (Or.inl ⟨by rfl, ?_⟩) ?_ ?_
                                  rotate_left
                                  · intro w'
                                    go_simp
                                    with_reducible rfl
                                  rotate_left
                                  · simp only [Act.put, List.setIfInBounds_toArray, List.set_cons_zero, List.set_cons_succ, i64_w, i32_w]
                                    rfl
                                  refine pure_ (i := 12) (N := some 131) (v := ?_) (a' := ?_) #[true, true, true, true, true, true, true, true, true, true, true, true, true, false, false, false] rfl rfl (any_of HT_.out (by kernel_rfl)) (fun _ _ _ h => h) (Or.inl ⟨by rfl, ?_⟩) ?_ ?_
                                  rotate_left
                                  · intro w'
                                    go_simp
                                    with_reducible rfl
                                  rotate_left
                                  · simp only [Act.put, List.setIfInBounds_toArray, List.set_cons_zero, List.set_cons_succ, i64_w, i32_w]
                                    rfl
                                  refine pure_ (i := 13) (N := some 132) (v := ?_) (a' := ?_) #[true, true, true, true, true, true, true, true, true, true, true, true, true, true, false, false] rfl rfl (any_of HT_.out (by kernel_rfl)) (fun _ _ _ h => h) (Or.inl ⟨by rfl, ?_⟩) ?_ ?_
                                  rotate_left
                                  · intro w'
                                    go_simp
                                    with_reducible rfl
                                  rotate_left
                                  · simp only [Act.put, List.setIfInBounds_toArray, List.set_cons_zero, List.set_cons_succ, i64_w, i32_w]
                                    rfl
                                  refine pure_ (i := 14) (N := some 133) (v := ?_) (a' := ?_) #[true, true, true, true, true, true, true, true, true, true, true, true, true, true, true, false] rfl rfl (any_of HT_.out (by kernel_rfl)) (fun _ _ _ h => h) (Or.inl ⟨by rfl, ?_⟩) ?_ ?_
                                  rotate_left
                                  · intro w'
                                    go_simp
                                    with_reducible rfl
                                  rotate_left
                                  · simp only [Act.put, List.setIfInBounds_toArray, List.set_cons_zero, List.set_cons_succ, i64_w, i32_w]
                                    rfl
                                  refine pure_ (i := 15) (N := some 10) (v := ?_) (a' := ?_) #[true, true, true, true, true, true, true, true, true, true, true, true, true, true, true, true] rfl rfl (any_of HT_.out (by kernel_rfl)) (fun _ _ _ h => h) (Or.inl ⟨by rfl, ?_⟩) ?_ ?_
                                  rotate_left
                                  · intro w'
                                    go_simp
                                    with_reducible rfl
                                  rotate_left
                                  · simp only [Act.put, List.setIfInBounds_toArray, List.set_cons_zero, List.set_cons_succ, i64_w, i32_w]
                                    rfl
                                  refine done_ (done_of HT_.out (by kernel_rfl)) ?_
                                  try go_wp2
                                  go_ret
                                  exact ⟨by first | rfl | (simp [errW_none, errW_some] <;> rfl) | (simp [*, errW_none, errW_some] <;> rfl), by repeat (first | (with_reducible first | exact HB.out | apply below_alloc | apply pw_below_drewN | apply below_drew1 | refine below_set ?_ GE379.out | refine below_set ?_ GE380.out | refine below_set ?_ GE387.out | refine below_set ?_ GE416.out | refine below_set ?_ GE425.out) | exact HB.out)⟩
                                · replace c115 := Bool.eq_false_iff.mpr c115
                                  subst c115
                                  have H1 : (some false) = some r := by rw [if_neg (show ¬ (false = true) by decide)] at H; exact H
                                  clear H
                                  have H := H1
                                  clear H1
                                  exact absurd (Option.some.inj (H.trans (congrArg some HRT.out))) (by decide)
                  · rw [if_neg c31] at H
                    exact absurd H (by simp)
                · rw [if_neg c28] at H
                  exact absurd H (by simp)
              · rw [if_neg c27] at H
                exact absurd H (by simp)
            · rw [if_neg c26] at H
              exact absurd H (by simp)
          · rw [if_neg c25] at H
            exact absurd H (by simp)

end Go.Proofs.Ytdbdfnkhbcgklaa.V
