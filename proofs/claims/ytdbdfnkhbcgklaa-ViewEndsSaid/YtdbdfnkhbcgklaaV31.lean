-- PRINTED by print.py (a twelfth state) out of the translation. Not trusted: Lean checks it.
import Derived.Test.YtdbdfnkhbcgklaaSq
import Derived.Test.YtdbdfnkhbcgklaaV0
import Derived.Test.YtdbdfnkhbcgklaaV6
import Derived.Test.YtdbdfnkhbcgklaaV8
import Derived.Test.YtdbdfnkhbcgklaaV12
import Derived.Test.YtdbdfnkhbcgklaaV17
namespace Go.Proofs.Ytdbdfnkhbcgklaa.V
open Go.RowKit Go.Proofs.YtdbdfnkhbcgklaaW.PrintWords Go.Proofs.YtdbdfnkhbcgklaaW.PrintLast Go.Proofs.YtdbdfnkhbcgklaaW.PrintMore
attribute [local go_sem] max2_int min2_int max_two min_two max_three min_three max_four min_four   -- for this text's walks alone
set_option linter.unusedVariables false
set_option linter.unusedSimpArgs false

/-! ### jalousielaw05_ViewEnds: function 12 -/
mutual
def jalousielaw05_ViewEnds.j0 : Nat → List (S63) → List Int → Bool → Int → Int → List (S60) → List Int → Option (Bool)
 | 0, _, _, _, _, _, _, _ => none
 | k + 1, x0, x8, x32, x440000, x440001, x447000, x447001 => if x32 = true then (some false) else (jalousielaw05_ViewEnds.l0 k x0 x8 0 x440000 x440001 x447000 x447001)
def jalousielaw05_ViewEnds.l0 : Nat → List (S63) → List Int → Int → Int → Int → List (S60) → List Int → Option (Bool)
 | 0, _, _, _, _, _, _, _ => none
 | k + 1, x0, x8, x9, x440000, x440001, x447000, x447001 => if x9 < (x447001.length : Int) then (if 0 ≤ x9 then (if (rd x447001 x9) < 0 then (jalousielaw05_ViewEnds.j2 k x0 x8 x9 (rd x447001 x9) true x440000 x440001 x447000 x447001) else (if (rd x447001 x9) ≥ (x0.length : Int) then (jalousielaw05_ViewEnds.j2 k x0 x8 x9 (rd x447001 x9) true x440000 x440001 x447000 x447001) else (if x9 > 0 then (if 0 ≤ (wrap64 (x9 - 1)) then (if (wrap64 (x9 - 1)) < (x447001.length : Int) then (if (rd x447001 x9) ≤ (rd x447001 (wrap64 (x9 - 1))) then (jalousielaw05_ViewEnds.j2 k x0 x8 x9 (rd x447001 x9) true x440000 x440001 x447000 x447001) else (if x9 < (x8.length : Int) then (if 0 ≤ (rd x447001 x9) then (if (rd x447001 x9) < (x0.length : Int) then (if (rd x8 x9) = ((rd_T63 x0 (rd x447001 x9)).f0) then ((jalousieref02_Below.f k ((rd_T63 x0 (rd x447001 x9)).f1.f0) ((rd_T63 x0 (rd x447001 x9)).f1.f1) x440000 x440001).bind fun t456 => (jalousielaw05_ViewEnds.j2 k x0 x8 x9 (rd x447001 x9) (!t456) x440000 x440001 x447000 x447001)) else (jalousielaw05_ViewEnds.j2 k x0 x8 x9 (rd x447001 x9) true x440000 x440001 x447000 x447001)) else (none)) else (none)) else (none))) else (none)) else (none)) else (if x9 < (x8.length : Int) then (if 0 ≤ (rd x447001 x9) then (if (rd x447001 x9) < (x0.length : Int) then (if (rd x8 x9) = ((rd_T63 x0 (rd x447001 x9)).f0) then ((jalousieref02_Below.f k ((rd_T63 x0 (rd x447001 x9)).f1.f0) ((rd_T63 x0 (rd x447001 x9)).f1.f1) x440000 x440001).bind fun t460 => (jalousielaw05_ViewEnds.j2 k x0 x8 x9 (rd x447001 x9) (!t460) x440000 x440001 x447000 x447001)) else (jalousielaw05_ViewEnds.j2 k x0 x8 x9 (rd x447001 x9) true x440000 x440001 x447000 x447001)) else (none)) else (none)) else (none))))) else (none)) else ((jalousielaw05_live.f k).bind fun t450 => (some t450))
def jalousielaw05_ViewEnds.j2 : Nat → List (S63) → List Int → Int → Int → Bool → Int → Int → List (S60) → List Int → Option (Bool)
 | 0, _, _, _, _, _, _, _, _, _ => none
 | k + 1, x0, x8, x9, x10, x88, x440000, x440001, x447000, x447001 => if x88 = true then (some false) else (if 0 ≤ x9 then (if x9 < (x447000.length : Int) then (if x9 = (wrap64 ((x447001.length : Int) - 1)) then (if 0 ≤ x10 then (if x10 < (x0.length : Int) then (if (((rd_T60 x447000 x9).f1) != ((rd_T63 x0 x10).f3.f1)) = true then (some false) else (jalousielaw05_ViewEnds.l0 k x0 x8 (wrap64 (x9 + 1)) x440000 x440001 x447000 x447001)) else (none)) else (none)) else (if (((rd_T60 x447000 x9).f1) != false) = true then (some false) else (jalousielaw05_ViewEnds.l0 k x0 x8 (wrap64 (x9 + 1)) x440000 x440001 x447000 x447001))) else (none)) else (none))
end
def jalousielaw05_ViewEnds.f (k : Nat) (l0 : List (S63)) (a1_0 : Int) (a1_1 : Int) (a2 : ByteArray) : Option (Bool) := (view_Of.f l0 a1_0 a1_1 a2).bind fun bt440 => ((view_IDs.f k l0 bt440.1 bt440.2).bind fun t447 => (if (bt440.2.length : Int) = (bt440.1.length : Int) then (jalousielaw05_ViewEnds.j0 k l0 t447 ((t447.length : Int) != (bt440.2.length : Int)) a1_0 a1_1 bt440.1 bt440.2) else (jalousielaw05_ViewEnds.j0 k l0 t447 true a1_0 a1_1 bt440.1 bt440.2)))
theorem jalousielaw05_ViewEnds.mono_l : ∀ k, (∀ y0 y1 y2 y3 y4 y5 y6, LeO (jalousielaw05_ViewEnds.j0 k y0 y1 y2 y3 y4 y5 y6) (jalousielaw05_ViewEnds.j0 (k + 1) y0 y1 y2 y3 y4 y5 y6)) ∧ (∀ y0 y1 y2 y3 y4 y5 y6, LeO (jalousielaw05_ViewEnds.l0 k y0 y1 y2 y3 y4 y5 y6) (jalousielaw05_ViewEnds.l0 (k + 1) y0 y1 y2 y3 y4 y5 y6)) ∧ (∀ y0 y1 y2 y3 y4 y5 y6 y7 y8, LeO (jalousielaw05_ViewEnds.j2 k y0 y1 y2 y3 y4 y5 y6 y7 y8) (jalousielaw05_ViewEnds.j2 (k + 1) y0 y1 y2 y3 y4 y5 y6 y7 y8))
 | 0 => ⟨fun _ _ _ _ _ _ _ r h => by simp [jalousielaw05_ViewEnds.j0] at h, fun _ _ _ _ _ _ _ r h => by simp [jalousielaw05_ViewEnds.l0] at h, fun _ _ _ _ _ _ _ _ _ r h => by simp [jalousielaw05_ViewEnds.j2] at h⟩
 | k + 1 => by
  obtain ⟨ih0, ih1, ih2⟩ := jalousielaw05_ViewEnds.mono_l k
  refine ⟨?_, ?_, ?_⟩
  ·intro y0 y1 y2 y3 y4 y5 y6
   unfold jalousielaw05_ViewEnds.j0
   repeat' first
   | (with_reducible exact ih0 _ _ _ _ _ _ _)
   | (with_reducible exact ih1 _ _ _ _ _ _ _)
   | (with_reducible exact ih2 _ _ _ _ _ _ _ _ _)
   | (with_reducible exact jalousielaw05_live.mono _)
   | (with_reducible exact jalousieref02_Below.mono _ _ _ _ _)
   | (with_reducible exact view_IDs.mono _ _ _ _)
   | (with_reducible exact LeO.refl _)
   | (with_reducible exact LeO.none _)
   | (with_reducible refine LeO.ite ?_ ?_)
   | (with_reducible refine LeO.bind ?_ (fun _ => ?_))
   | exact ih0 _ _ _ _ _ _ _
   | exact ih1 _ _ _ _ _ _ _
   | exact ih2 _ _ _ _ _ _ _ _ _
   | exact jalousielaw05_live.mono _
   | exact jalousieref02_Below.mono _ _ _ _ _
   | exact view_IDs.mono _ _ _ _
   | exact LeO.none _
   | refine LeO.ite ?_ ?_
   | refine LeO.bind ?_ (fun _ => ?_)
  ·intro y0 y1 y2 y3 y4 y5 y6
   unfold jalousielaw05_ViewEnds.l0
   repeat' first
   | (with_reducible exact ih0 _ _ _ _ _ _ _)
   | (with_reducible exact ih1 _ _ _ _ _ _ _)
   | (with_reducible exact ih2 _ _ _ _ _ _ _ _ _)
   | (with_reducible exact jalousielaw05_live.mono _)
   | (with_reducible exact jalousieref02_Below.mono _ _ _ _ _)
   | (with_reducible exact view_IDs.mono _ _ _ _)
   | (with_reducible exact LeO.refl _)
   | (with_reducible exact LeO.none _)
   | (with_reducible refine LeO.ite ?_ ?_)
   | (with_reducible refine LeO.bind ?_ (fun _ => ?_))
   | exact ih0 _ _ _ _ _ _ _
   | exact ih1 _ _ _ _ _ _ _
   | exact ih2 _ _ _ _ _ _ _ _ _
   | exact jalousielaw05_live.mono _
   | exact jalousieref02_Below.mono _ _ _ _ _
   | exact view_IDs.mono _ _ _ _
   | exact LeO.none _
   | refine LeO.ite ?_ ?_
   | refine LeO.bind ?_ (fun _ => ?_)
  ·intro y0 y1 y2 y3 y4 y5 y6 y7 y8
   unfold jalousielaw05_ViewEnds.j2
   repeat' first
   | (with_reducible exact ih0 _ _ _ _ _ _ _)
   | (with_reducible exact ih1 _ _ _ _ _ _ _)
   | (with_reducible exact ih2 _ _ _ _ _ _ _ _ _)
   | (with_reducible exact jalousielaw05_live.mono _)
   | (with_reducible exact jalousieref02_Below.mono _ _ _ _ _)
   | (with_reducible exact view_IDs.mono _ _ _ _)
   | (with_reducible exact LeO.refl _)
   | (with_reducible exact LeO.none _)
   | (with_reducible refine LeO.ite ?_ ?_)
   | (with_reducible refine LeO.bind ?_ (fun _ => ?_))
   | exact ih0 _ _ _ _ _ _ _
   | exact ih1 _ _ _ _ _ _ _
   | exact ih2 _ _ _ _ _ _ _ _ _
   | exact jalousielaw05_live.mono _
   | exact jalousieref02_Below.mono _ _ _ _ _
   | exact view_IDs.mono _ _ _ _
   | exact LeO.none _
   | refine LeO.ite ?_ ?_
   | refine LeO.bind ?_ (fun _ => ?_)
theorem jalousielaw05_ViewEnds.mono : ∀ a0 a1 a2 a3 k, LeO (jalousielaw05_ViewEnds.f k a0 a1 a2 a3) (jalousielaw05_ViewEnds.f (k + 1) a0 a1 a2 a3) := by
 intro a0 a1 a2 a3 k
 obtain ⟨ih0, ih1, ih2⟩ := jalousielaw05_ViewEnds.mono_l k
 unfold jalousielaw05_ViewEnds.f
 repeat' first
   | (with_reducible exact ih0 _ _ _ _ _ _ _)
   | (with_reducible exact ih1 _ _ _ _ _ _ _)
   | (with_reducible exact ih2 _ _ _ _ _ _ _ _ _)
   | (with_reducible exact jalousielaw05_live.mono _)
   | (with_reducible exact jalousieref02_Below.mono _ _ _ _ _)
   | (with_reducible exact view_IDs.mono _ _ _ _)
   | (with_reducible exact LeO.refl _)
   | (with_reducible exact LeO.none _)
   | (with_reducible refine LeO.ite ?_ ?_)
   | (with_reducible refine LeO.bind ?_ (fun _ => ?_))
   | exact ih0 _ _ _ _ _ _ _
   | exact ih1 _ _ _ _ _ _ _
   | exact ih2 _ _ _ _ _ _ _ _ _
   | exact jalousielaw05_live.mono _
   | exact jalousieref02_Below.mono _ _ _ _ _
   | exact view_IDs.mono _ _ _ _
   | exact LeO.none _
   | refine LeO.ite ?_ ?_
   | refine LeO.bind ?_ (fun _ => ?_)
def jalousielaw05_ViewEnds.T9 : Bool × List (List Nat × List Nat) := (true, [([], []), ([0], [0]), ([1], [1]), ([2], [2]), ([2], [2]), ([4, 2], [2, 4]), ([3, 5, 2], [2, 3, 5]), ([2, 6], [2, 6]), ([7, 2], [7]), ([8], [8]), ([9, 8], [8, 9]), ([10, 8, 8], [8, 10]), ([11], [11]), ([11], [11]), ([13, 11], [11, 13]), ([11], [11]), ([15, 11], [11, 15]), ([14, 16, 11], [11, 14, 16]), ([17, 11], [11, 17]), ([12, 18, 11], [11, 12, 18]), ([11, 19, 8], [8, 11, 19]), ([8, 20], [8, 20]), ([21, 11], [21]), ([22], [22]), ([22], [22]), ([23, 24, 22], [22, 23, 24]), ([25, 22], [22, 25]), ([22], [22]), ([22], [22]), ([27, 28, 22], [22, 27, 28]), ([29, 22], [22, 29]), ([30, 22], [22, 30]), ([26, 31, 22], [22, 26, 31]), ([22, 32], [22, 32]), ([33, 22], [33]), ([34], [34]), ([34], [34]), ([35, 36, 34], [34, 35, 36]), ([37, 34], [34, 37]), ([38, 34], [34, 38]), ([34], [34]), ([39, 40, 34, 34], [34, 39, 40]), ([41, 34], [34, 41]), ([34, 42], [34, 42])])
def jalousielaw05_ViewEnds.B9 : List Nat := [0, 1, 3, 7, 7, 23, 63, 127, 255, 511, 1023, 2047, 4095, 4095, 12287, 4095, 36863, 126975, 258047, 524287, 1048575, 2097151, 4194303, 8388607, 8388607, 33554431, 67108863, 8388607, 8388607, 411041791, 947912703, 2021654527, 4294967295, 8589934591, 17179869183, 34359738367, 34359738367, 137438953471, 274877906943, 549755813887, 34359738367, 2199023255551, 4398046511103, 8796093022207]
theorem jalousielaw05_ViewEnds.tab9 : rtab .any (opsOf Try.f12 9) = jalousielaw05_ViewEnds.T9 := by kernel_rfl
theorem jalousielaw05_ViewEnds.bits9 : waitsOk jalousielaw05_ViewEnds.T9.2 jalousielaw05_ViewEnds.B9 = true := by kernel_rfl
def jalousielaw05_ViewEnds.T11 : Bool × List (List Nat × List Nat) := (true, [([], []), ([0], [0]), ([], []), ([1, 2], [1, 2]), ([3], [3]), ([4], [4]), ([], []), ([], []), ([7], [7]), ([8], [8]), ([9], [9]), ([6, 10], [6, 10]), ([11], [11]), ([12], [12]), ([12], [12]), ([13, 14, 12], [12, 13, 14]), ([15, 12], [12, 15]), ([16, 12], [12, 16]), ([17, 12], [12, 17]), ([12, 18], [12, 18]), ([5, 19], [5, 19])])
def jalousielaw05_ViewEnds.B11 : List Nat := [0, 1, 0, 7, 15, 31, 0, 0, 128, 384, 896, 1984, 4032, 8128, 8128, 32704, 65472, 131008, 262080, 524224, 1048575]
theorem jalousielaw05_ViewEnds.tab11 : rtab .any (opsOf Try.f12 11) = jalousielaw05_ViewEnds.T11 := by kernel_rfl
theorem jalousielaw05_ViewEnds.bits11 : waitsOk jalousielaw05_ViewEnds.T11.2 jalousielaw05_ViewEnds.B11 = true := by kernel_rfl
set_option maxHeartbeats 8000000 in
set_option maxRecDepth 100000 in
theorem jalousielaw05_ViewEnds.calls (k : Nat) (A0 : Option Addr) (c0 : Nat) (l0 : List (S63)) (a1_0 : Int) (a1_1 : Int) (a2 : ByteArray) (r : Bool) (w : World) (hr0 : Kd.C k63 w A0 l0.length l0) (hc0 : l0.length ≤ c0) (h : jalousielaw05_ViewEnds.f k l0 a1_0 a1_1 a2 = some r) (HRT : Aside0 (r = true) := by first | exact ⟨rfl⟩ | assumption) :
  Calls Try.prog 12 #[.slice A0 l0.length c0, .agg #[.int .i64 a1_0, .int .u64 a1_1], .string a2] w fun e w' => e = .returned (.bool r) ∧ Below w.heap.size w w' := by
 have hu25 := Try.underlying25
 have hu42 := Try.underlying42
 have HR0 := Aside0.mk hr0
 have HC0 := Aside0.mk hc0
 clear hr0 hc0
 have HB := Aside0.mk (Below.refl w.heap.size w)
 have H : ((view_Of.f l0 a1_0 a1_1 a2).bind fun bt440 => ((view_IDs.f k l0 bt440.1 bt440.2).bind fun t447 => (if (bt440.2.length : Int) = (bt440.1.length : Int) then (jalousielaw05_ViewEnds.j0 k l0 t447 ((t447.length : Int) != (bt440.2.length : Int)) a1_0 a1_1 bt440.1 bt440.2) else (jalousielaw05_ViewEnds.j0 k l0 t447 true a1_0 a1_1 bt440.1 bt440.2)))) = some r := h
 clear h
 replace H := Option.bind_eq_some_iff.mp H
 obtain ⟨⟨t440, t443⟩, A40, H⟩ := H
 replace H : ((view_IDs.f k l0 t440 t443).bind fun t447 => (if (t443.length : Int) = (t440.length : Int) then (jalousielaw05_ViewEnds.j0 k l0 t447 ((t447.length : Int) != (t443.length : Int)) a1_0 a1_1 t440 t443) else (jalousielaw05_ViewEnds.j0 k l0 t447 true a1_0 a1_1 t440 t443))) = some r := H
 have A4 := Aside0.mk A40
 clear A40
 replace H := Option.bind_eq_some_iff.mp H
 obtain ⟨t447, A50, H⟩ := H
 replace H : (if (t443.length : Int) = (t440.length : Int) then (jalousielaw05_ViewEnds.j0 k l0 t447 ((t447.length : Int) != (t443.length : Int)) a1_0 a1_1 t440 t443) else (jalousielaw05_ViewEnds.j0 k l0 t447 true a1_0 a1_1 t440 t443)) = some r := H
 have A5 := Aside0.mk A50
 clear A50
 have HC6 := Aside0.mk H
 clear H
 go_enter Try.func12, Try.ntmps12
 go_upto_region 3 with (first | ((with_reducible refine gate_dst (N := 4) rfl ?_); (try (refine gate_guard (by rfl) ?_; dsimp only)); refine box_event ?hg (N := 4) ?hd (cs := #[.int .i64 a1_0, .int .u64 a1_1]) (t := 25) ?hr ?_; (case hd => rfl); (case hg => rfl); (case hr => first | (go_simp; done) | (go_simp; rfl)); intro gb439 hg w7 hbox hb; have n0_ := Aside0.mk (below_step (by repeat (first | (with_reducible first | exact HB.out | apply below_alloc | apply pw_below_drewN | apply below_drew1) | exact HB.out)) hb); have n1_ := Aside0.mk (hbox); have n2_ := Aside0.mk ((by rw [hg]; exact (below_size (by repeat (first | (with_reducible first | exact HB.out | apply below_alloc | apply pw_below_drewN | apply below_drew1) | exact HB.out))) : w.heap.size ≤ gb439)); have n3_ := Aside0.mk ((by rw [hg]; exact (below_size (by repeat (first | (with_reducible first | exact HB.out | apply below_alloc | apply pw_below_drewN | apply below_drew1) | exact HB.out))) : w.heap.size ≤ gb439)); clear HB; have HB := n0_; have BK439 := n1_; have GW439 := n2_; have GE439 := n3_; clear n0_ n1_ n2_ n3_; clear hb hbox hg; have hcz8_0 : w7.cell? ⟨gb439, 0, none⟩ = some (.int .i64 a1_0) := (blk_cell BK439.out 0).trans rfl; have hcz8_1 : w7.cell? ⟨gb439, 1, none⟩ = some (.int .u64 a1_1) := (blk_cell BK439.out 1).trans rfl; have hfz8_0 := blk_frozen BK439.out 0; have hfz8_1 := blk_frozen BK439.out 1) | ((with_reducible refine gate_callee (f := 26) rfl ?_); refine goesL_ (some 14) rfl rfl Try.func26 (by kernel_rfl) rfl #[.slice A0 l0.length c0, .agg #[.int .i64 a1_0, .int .u64 a1_1], .string a2] rfl (by (try simp only [List.map_toArray, List.map_cons, List.map_nil]); first | done | rfl | (simp only [List.length_drop, List.length_take]; rfl)) ?_; (with_reducible refine (view_Of.calls _ _ l0 a1_0 a1_1 a2 t440 t443 _ ?side1 ?side2 A4.out).mono ?_); (case side1 => repeat (first | exact (Kd.C_below HR0.out HB.out) | (with_reducible refine Kd.C_alloc ?_ _) | (with_reducible refine Kd.C_drewN ?_ _) | (with_reducible refine Kd.C_drew ?_))); (case side2 => exact HC0.out); rintro e w9 ⟨v441, v444, rfl, ho0, ho1, hb⟩; refine ⟨_, rfl, ?_⟩; have n0_ := Aside0.mk (Kd.R_lower ho0 (below_size (by repeat (first | (with_reducible first | exact HB.out | apply below_alloc | apply pw_below_drewN | apply below_drew1 | refine below_set ?_ GE439.out) | exact HB.out)))); have n1_ := Aside0.mk (Kd.R_lower ho1 (below_size (by repeat (first | (with_reducible first | exact HB.out | apply below_alloc | apply pw_below_drewN | apply below_drew1 | refine below_set ?_ GE439.out) | exact HB.out)))); have n2_ := Aside0.mk (blk_below (g := gb439) (o := .cells #[.int .i64 a1_0, .int .u64 a1_1] 25 (0, 0)) (by (with_reducible repeat first|refine zb1 ?_ _|refine zb2 ?_|refine zb3 ?_ _); exact BK439.out) hb); have n3_ := Aside0.mk (below_step (by repeat (first | (with_reducible first | exact HB.out | apply below_alloc | apply pw_below_drewN | apply below_drew1 | refine below_set ?_ GE439.out) | exact HB.out)) hb); clear BK439; clear HB; have HO442 := n0_; have HO445 := n1_; have BK439 := n2_; have HB := n3_; clear n0_ n1_ n2_ n3_; (try clear hb); (try clear hb2); (try clear hk); (try clear hi); (try clear ho0); (try clear ho1)) | ((with_reducible refine gate_dst (N := 7) rfl ?_); (try (refine gate_guard (by rfl) ?_; dsimp only)); refine box_event ?hg (N := 7) ?hd (cs := #[.slice none 0 0, .slice none 0 0]) (t := 42) ?hr ?_; (case hd => rfl); (case hg => rfl); (case hr => first | (go_simp; done) | (go_simp; rfl)); intro gb446 hg w10 hbox hb; have n0_ := Aside0.mk (Kd.R_below (by (with_reducible repeat first|apply zr1|apply zr2|apply zr3); exact HO442.out) hb); have n1_ := Aside0.mk (Kd.R_below (by (with_reducible repeat first|apply zr1|apply zr2|apply zr3); exact HO445.out) hb); have n2_ := Aside0.mk (blk_below (g := gb439) (o := .cells #[.int .i64 a1_0, .int .u64 a1_1] 25 (0, 0)) (by (with_reducible repeat first|refine zb1 ?_ _|refine zb2 ?_|refine zb3 ?_ _); exact BK439.out) hb); have n3_ := Aside0.mk (below_step (by repeat (first | (with_reducible first | exact HB.out | apply below_alloc | apply pw_below_drewN | apply below_drew1 | refine below_set ?_ GE439.out) | exact HB.out)) hb); have n4_ := Aside0.mk (hbox); have n5_ := Aside0.mk ((by rw [hg]; exact (below_size (by repeat (first | (with_reducible first | exact HB.out | apply below_alloc | apply pw_below_drewN | apply below_drew1 | refine below_set ?_ GE439.out) | exact HB.out))) : w.heap.size ≤ gb446)); have n6_ := Aside0.mk ((by rw [hg]; exact (below_size (by repeat (first | (with_reducible first | exact HB.out | apply below_alloc | apply pw_below_drewN | apply below_drew1 | refine below_set ?_ GE439.out) | exact HB.out))) : w.heap.size ≤ gb446)); have n7_ := Aside0.mk ((by rw [hg]; exact Nat.ne_of_lt (blk_lt (g := gb439) (o := .cells #[.int .i64 a1_0, .int .u64 a1_1] 25 (0, 0)) (by (with_reducible repeat first|refine zb1 ?_ _|refine zb2 ?_|refine zb3 ?_ _); exact BK439.out)) : gb439 ≠ gb446)); have n8_ := Aside0.mk ((by rw [hg]; exact Nat.ne_of_gt (blk_lt (g := gb439) (o := .cells #[.int .i64 a1_0, .int .u64 a1_1] 25 (0, 0)) (by (with_reducible repeat first|refine zb1 ?_ _|refine zb2 ?_|refine zb3 ?_ _); exact BK439.out)) : gb446 ≠ gb439)); clear HO442; clear HO445; clear BK439; clear HB; have HO442 := n0_; have HO445 := n1_; have BK439 := n2_; have HB := n3_; have BK446 := n4_; have GW446 := n5_; have GE446 := n6_; have NB439_446 := n7_; have NB446_439 := n8_; clear n0_ n1_ n2_ n3_ n4_ n5_ n6_ n7_ n8_; clear hb hbox hg; obtain ⟨Ao11, co11, eo11⟩ := Kd.R_slice HO442.out; subst eo11; have hnb12 := NB446_439.out; have hnc12 := NB439_446.out; have hcz13_0 : w10.cell? ⟨gb446, 0, none⟩ = some (.slice none 0 0) := (blk_cell BK446.out 0).trans rfl; have hcz13_1 : w10.cell? ⟨gb446, 1, none⟩ = some (.slice none 0 0) := (blk_cell BK446.out 1).trans rfl; have hfz13_0 := blk_frozen BK446.out 0; have hfz13_1 := blk_frozen BK446.out 1; obtain ⟨Ao14, co14, eo14⟩ := Kd.R_slice HO445.out; subst eo14) | ((with_reducible refine gate_callee (f := 32) rfl ?_); refine goesL_ (some 17) rfl rfl Try.func32 (by kernel_rfl) rfl #[.slice A0 l0.length c0, .agg #[.slice Ao11 t440.length co11, .slice Ao14 t443.length co14]] rfl (by (try simp only [List.map_toArray, List.map_cons, List.map_nil]); first | done | rfl | (simp only [List.length_drop, List.length_take]; rfl)) ?_; (with_reducible refine (view_IDs.calls k _ _ l0 _ _ t440 _ _ t443 t447 _ ?side1 ?side2 ?side3 ?side4 ?side5 ?side6 A5.out).mono ?_); (case side1 => exact Kd.C_below HR0.out (by repeat (first | (with_reducible first | exact HB.out | apply below_alloc | apply pw_below_drewN | apply below_drew1 | refine below_set ?_ GE439.out | refine below_set ?_ GE446.out) | exact HB.out))); (case side2 => exact HC0.out); (case side3 => refine (Kd.R_reads' (e := 60) (base := w.heap.size) (ok := fun k_ => True) (n := t440.length) (c := co11) ?_).2.2; exact (by (with_reducible repeat first|apply zr1|apply zr2|apply zr3); exact (Kd.R_mono (Kd.R_far (p := ⟨gb446, 1, none⟩) (Kd.R_far (p := ⟨gb446, 0, none⟩) (Kd.R_types HO442.out BK446.out (by decide)) (fun _ hk => hk.2) (.slice Ao11 t440.length co11)) (fun _ hk => hk.2) (.slice Ao14 t443.length co14)) (fun _ h_ => h_.1)))); (case side4 => exact (Kd.R_reads' HO442.out).2.1); (case side5 => refine (Kd.R_reads' (e := 3) (base := w.heap.size) (ok := fun k_ => True) (n := t443.length) (c := co14) ?_).2.2; exact (by (with_reducible repeat first|apply zr1|apply zr2|apply zr3); exact (Kd.R_mono (Kd.R_far (p := ⟨gb446, 1, none⟩) (Kd.R_far (p := ⟨gb446, 0, none⟩) (Kd.R_types HO445.out BK446.out (by decide)) (fun _ hk => hk.2) (.slice Ao11 t440.length co11)) (fun _ hk => hk.2) (.slice Ao14 t443.length co14)) (fun _ h_ => h_.1)))); (case side6 => exact (Kd.R_reads' HO445.out).2.1); rintro e w15 ⟨v448, rfl, ho0, hb⟩; refine ⟨_, rfl, ?_⟩; have n0_ := Aside0.mk (Kd.R_below (by (with_reducible repeat first|apply zr1|apply zr2|apply zr3); exact (Kd.R_mono (Kd.R_far (p := ⟨gb446, 1, none⟩) (Kd.R_far (p := ⟨gb446, 0, none⟩) (Kd.R_types HO442.out BK446.out (by decide)) (fun _ hk => hk.2) (.slice Ao11 t440.length co11)) (fun _ hk => hk.2) (.slice Ao14 t443.length co14)) (fun _ h_ => h_.1))) hb); have n1_ := Aside0.mk (Kd.R_elder' (by (with_reducible repeat first|apply zr1|apply zr2|apply zr3); exact (Kd.R_mono (Kd.R_far (p := ⟨gb446, 1, none⟩) (Kd.R_far (p := ⟨gb446, 0, none⟩) (Kd.R_types HO445.out BK446.out (by decide)) (fun _ hk => hk.2) (.slice Ao11 t440.length co11)) (fun _ hk => hk.2) (.slice Ao14 t443.length co14)) (fun _ h_ => h_.1))) (Kd.R_base ho0) hb); have n2_ := Aside0.mk (Kd.R_lower (Kd.R_new' ho0 (Kd.R_lt (by (with_reducible repeat first|apply zr1|apply zr2|apply zr3); exact (Kd.R_mono (Kd.R_far (p := ⟨gb446, 1, none⟩) (Kd.R_far (p := ⟨gb446, 0, none⟩) (Kd.R_types HO445.out BK446.out (by decide)) (fun _ hk => hk.2) (.slice Ao11 t440.length co11)) (fun _ hk => hk.2) (.slice Ao14 t443.length co14)) (fun _ h_ => h_.1))))) (below_size (by repeat (first | (with_reducible first | exact HB.out | apply below_alloc | apply pw_below_drewN | apply below_drew1 | refine below_set ?_ GE439.out | refine below_set ?_ GE446.out) | exact HB.out)))); have n3_ := Aside0.mk (blk_below (g := gb439) (o := .cells #[.int .i64 a1_0, .int .u64 a1_1] 25 (0, 0)) (by (with_reducible repeat first|refine zb1 ?_ _|refine zb2 ?_|refine zb3 ?_ _); refine blk_far ?_ NB439_446.out _; (with_reducible repeat first|refine zb1 ?_ _|refine zb2 ?_|refine zb3 ?_ _); refine blk_far ?_ NB439_446.out _; (with_reducible repeat first|refine zb1 ?_ _|refine zb2 ?_|refine zb3 ?_ _); exact BK439.out) hb); have n4_ := Aside0.mk (blk_below (g := gb446) (o := .cells #[.slice Ao11 t440.length co11, .slice Ao14 t443.length co14] 42 (0, 0)) (by (with_reducible repeat first|refine zb1 ?_ _|refine zb2 ?_|refine zb3 ?_ _); refine blk_put (cs := #[.slice Ao11 t440.length co11, .slice none 0 0]) ?_ 1 _ rfl; (with_reducible repeat first|refine zb1 ?_ _|refine zb2 ?_|refine zb3 ?_ _); refine blk_put (cs := #[.slice none 0 0, .slice none 0 0]) ?_ 0 _ rfl; (with_reducible repeat first|refine zb1 ?_ _|refine zb2 ?_|refine zb3 ?_ _); exact BK446.out) hb); have n5_ := Aside0.mk (below_step (by repeat (first | (with_reducible first | exact HB.out | apply below_alloc | apply pw_below_drewN | apply below_drew1 | refine below_set ?_ GE439.out | refine below_set ?_ GE446.out) | exact HB.out)) hb); clear HO442; clear HO445; clear BK439; clear BK446; clear HB; have HO442 := n0_; have HO445 := n1_; have HO449 := n2_; have BK439 := n3_; have BK446 := n4_; have HB := n5_; clear n0_ n1_ n2_ n3_ n4_ n5_; (try clear hb); (try clear hb2); (try clear hk); (try clear hi); (try clear ho0)))
 (try simp only [Act.put, List.setIfInBounds_toArray, List.set_cons_zero, List.set_cons_succ])
 go_cut [32] (fun v32 wc => ∃ (kq : Nat) (x32_5 : Bool), v32 = .bool x32_5 ∧ Aside0 (jalousielaw05_ViewEnds.j0 kq l0 t447 x32_5 a1_0 a1_1 t440 t443 = some r) ∧ Aside0 (kq ≤ k) ∧ Aside0 (Kd.R (Kd.int .i64) 3 wc w.heap.size (fun k_ => some k_ ≠ ((.slice Ao14 t443.length co14) : Value).ownBlock) v448 t447) ∧ Aside0 (Kd.R k60 60 wc w.heap.size (fun _ => True) (.slice Ao11 t440.length co11) t440) ∧ Aside0 (Kd.R (Kd.int .i64) 3 wc w.heap.size (fun k_ => some k_ ≠ (v448 : Value).ownBlock) (.slice Ao14 t443.length co14) t443) ∧ Aside0 (wc.heap[gb439]? = some (.cells #[.int .i64 a1_0, .int .u64 a1_1] 25 (0, 0))) ∧ Aside0 (wc.heap[gb446]? = some (.cells #[(.slice Ao11 t440.length co11), (.slice Ao14 t443.length co14)] 42 (0, 0))) ∧ Aside0 (Below w.heap.size w wc))
 case first =>
  have H := HC6.out
  clear HC6
  by_cases c16 : (t443.length : Int) = (t440.length : Int)
  ·rw [if_pos c16] at H
   have c16b0 : ((t443.length : Int) == (t440.length : Int)) = true := beq_iff_eq.mpr c16
   have c16b1 : ((t443.length : Int) != (t440.length : Int)) = false := bne_eq_false_iff_eq.mpr c16
   have c16b2 : (t443.length == t440.length) = true := by first | simpa using c16 | (simp at c16 ⊢; omega)
   clear c16
   (first | rw [c16b0] | (simp only [i64_w, i32_w]; rw [c16b0]) | skip)
   have H' := Aside0.mk H
   clear H
   have hnb17 := NB446_439.out
   have hnc17 := NB439_446.out
   have hcz18_0 : w15.cell? ⟨gb446, 0, none⟩ = some (.slice Ao11 t440.length co11) := (blk_cell BK446.out 0).trans rfl
   have hcz18_1 : w15.cell? ⟨gb446, 1, none⟩ = some (.slice Ao14 t443.length co14) := (blk_cell BK446.out 1).trans rfl
   have hfz18_0 := blk_frozen BK446.out 0
   have hfz18_1 := blk_frozen BK446.out 1
   obtain ⟨Ao19, co19, eo19⟩ := Kd.R_slice HO449.out
   subst eo19
   go_wp2
   go_meet
   case rel => exact ⟨_, (((t447.length : Int) != (t443.length : Int))), (by first | rfl | (simp; done) | (simp [*]; done)), H', ⟨by first | omega | exact Nat.le_refl _⟩, ⟨by (with_reducible repeat first|apply zr1|apply zr2|apply zr3); exact Kd.R_mono HO449.out (fun _ hk => hk.2)⟩, ⟨by (with_reducible repeat first|apply zr1|apply zr2|apply zr3); exact HO442.out⟩, ⟨by (with_reducible repeat first|apply zr1|apply zr2|apply zr3); exact Kd.R_mono HO445.out (fun _ hk => hk.2)⟩, ⟨by (with_reducible repeat first|refine zb1 ?_ _|refine zb2 ?_|refine zb3 ?_ _); exact BK439.out⟩, ⟨by (with_reducible repeat first|refine zb1 ?_ _|refine zb2 ?_|refine zb3 ?_ _); exact BK446.out⟩, ⟨by repeat (first | (with_reducible first | exact HB.out | apply below_alloc | apply pw_below_drewN | apply below_drew1 | refine below_set ?_ GE439.out | refine below_set ?_ GE446.out) | exact HB.out)⟩⟩
  ·rw [if_neg c16] at H
   have c16b0 : ((t443.length : Int) == (t440.length : Int)) = false := beq_eq_false_iff_ne.mpr c16
   have c16b1 : ((t443.length : Int) != (t440.length : Int)) = true := bne_iff_ne.mpr c16
   have c16b2 : (t443.length == t440.length) = false := by first | simpa using c16 | (simp at c16 ⊢; omega)
   (first | rw [c16b0] | (simp only [i64_w, i32_w]; rw [c16b0]) | skip)
   have H' := Aside0.mk H
   clear H
   have hnb20 := NB446_439.out
   have hnc20 := NB439_446.out
   have hcz21_0 : w15.cell? ⟨gb446, 0, none⟩ = some (.slice Ao11 t440.length co11) := (blk_cell BK446.out 0).trans rfl
   have hcz21_1 : w15.cell? ⟨gb446, 1, none⟩ = some (.slice Ao14 t443.length co14) := (blk_cell BK446.out 1).trans rfl
   have hfz21_0 := blk_frozen BK446.out 0
   have hfz21_1 := blk_frozen BK446.out 1
   go_wp2
   go_meet
   case rel => exact ⟨_, (true), (by first | rfl | (simp; done) | (simp [*]; done)), H', ⟨by first | omega | exact Nat.le_refl _⟩, ⟨by (with_reducible repeat first|apply zr1|apply zr2|apply zr3); exact Kd.R_mono HO449.out (fun _ hk => hk.2)⟩, ⟨by (with_reducible repeat first|apply zr1|apply zr2|apply zr3); exact HO442.out⟩, ⟨by (with_reducible repeat first|apply zr1|apply zr2|apply zr3); exact Kd.R_mono HO445.out (fun _ hk => hk.2)⟩, ⟨by (with_reducible repeat first|refine zb1 ?_ _|refine zb2 ?_|refine zb3 ?_ _); exact BK439.out⟩, ⟨by (with_reducible repeat first|refine zb1 ?_ _|refine zb2 ?_|refine zb3 ?_ _); exact BK446.out⟩, ⟨by repeat (first | (with_reducible first | exact HB.out | apply below_alloc | apply pw_below_drewN | apply below_drew1 | refine below_set ?_ GE439.out | refine below_set ?_ GE446.out) | exact HB.out)⟩⟩
 case rest =>
  clear HC6
  try clear c1
  try clear c2
  try clear p2
  try clear c3
  try clear c12
  try clear c16
  try clear c16b0
  try clear c16b1
  try clear c16b2
  try clear c17
  try clear c20
  try clear hcz13_0
  try clear hcz13_1
  try clear hcz18_0
  try clear hcz18_1
  try clear hcz21_0
  try clear hcz21_1
  try clear hcz8_0
  try clear hcz8_1
  try clear hfz13_0
  try clear hfz13_1
  try clear hfz18_0
  try clear hfz18_1
  try clear hfz21_0
  try clear hfz21_1
  try clear hfz8_0
  try clear hfz8_1
  obtain ⟨kq, x32_5, rfl, HA, HJ5, HO_8, HO_447000, HO_447001, BK439, BK446, HB⟩ := hcut
  cases kq with
  | zero => exact absurd HA.out (by simp [jalousielaw05_ViewEnds.j0])
  | succ kj5 =>
   have H := HA.out
   clear HA
   simp only [jalousielaw05_ViewEnds.j0] at H
   by_cases c22 : x32_5 = true
   ·subst c22
    have H1 : (some false) = some r := by rw [if_pos rfl] at H; exact H
    clear H
    have H := H1
    clear H1
    exact absurd (Option.some.inj (H.trans (congrArg some HRT.out))) (by decide)
   ·replace c22 := Bool.eq_false_iff.mpr c22
    subst c22
    have H1 : (jalousielaw05_ViewEnds.l0 kj5 l0 t447 0 a1_0 a1_1 t440 t443) = some r := by rw [if_neg (show ¬ (false = true) by decide)] at H; exact H
    clear H
    have H := H1
    clear H1
    have H' := Aside0.mk H
    clear H
    go_wp2
    go_loopg [9] kj5 (fun kq v9 w' => ∃ (x9_2 : Int), v9 = .int .i64 x9_2 ∧ Aside0 (jalousielaw05_ViewEnds.l0 kq l0 t447 x9_2 a1_0 a1_1 t440 t443 = some r) ∧ Aside0 (kq ≤ kj5) ∧ Aside0 (Kd.R (Kd.int .i64) 3 w' w.heap.size (fun k_ => some k_ ≠ ((.slice Ao14 t443.length co14) : Value).ownBlock) v448 t447) ∧ Aside0 (Kd.R k60 60 w' w.heap.size (fun _ => True) (.slice Ao11 t440.length co11) t440) ∧ Aside0 (Kd.R (Kd.int .i64) 3 w' w.heap.size (fun k_ => some k_ ≠ (v448 : Value).ownBlock) (.slice Ao14 t443.length co14) t443) ∧ Aside0 (w'.heap[gb439]? = some (.cells #[.int .i64 a1_0, .int .u64 a1_1] 25 (0, 0))) ∧ Aside0 (w'.heap[gb446]? = some (.cells #[(.slice Ao11 t440.length co11), (.slice Ao14 t443.length co14)] 42 (0, 0))) ∧ Aside0 (Below w.heap.size w w'))
    case atStart => exact ⟨(0), (by first | rfl | (simp; done) | (simp [*]; done)), H', ⟨Nat.le_refl _⟩, ⟨by (with_reducible repeat first|apply zr1|apply zr2|apply zr3); exact HO_8.out⟩, ⟨by (with_reducible repeat first|apply zr1|apply zr2|apply zr3); exact HO_447000.out⟩, ⟨by (with_reducible repeat first|apply zr1|apply zr2|apply zr3); exact HO_447001.out⟩, ⟨by (with_reducible repeat first|refine zb1 ?_ _|refine zb2 ?_|refine zb3 ?_ _); exact BK439.out⟩, ⟨by (with_reducible repeat first|refine zb1 ?_ _|refine zb2 ?_|refine zb3 ?_ _); exact BK446.out⟩, ⟨by repeat (first | (with_reducible first | exact HB.out | apply below_alloc | apply pw_below_drewN | apply below_drew1 | refine below_set ?_ GE439.out | refine below_set ?_ GE446.out) | exact HB.out)⟩⟩
    case round =>
     clear H'
     try clear c1
     try clear c2
     try clear p2
     try clear c3
     try clear c12
     try clear c16
     try clear c16b0
     try clear c16b1
     try clear c16b2
     try clear c17
     try clear c20
     try clear c22
     try clear hcz13_0
     try clear hcz13_1
     try clear hcz18_0
     try clear hcz18_1
     try clear hcz21_0
     try clear hcz21_1
     try clear hcz8_0
     try clear hcz8_1
     try clear hfz13_0
     try clear hfz13_1
     try clear hfz18_0
     try clear hfz18_1
     try clear hfz21_0
     try clear hfz21_1
     try clear hfz8_0
     try clear hfz8_1
     try clear p2
     obtain ⟨x9_2, rfl, HA, HK2, HO_8, HO_447000, HO_447001, BK439, BK446, HB⟩ := hrel
     cases gk with
     | zero => exact absurd HA.out (by simp [jalousielaw05_ViewEnds.l0])
     | succ k2 =>
      have H := HA.out
      clear HA
      simp only [jalousielaw05_ViewEnds.l0] at H
      by_cases c23 : x9_2 < (t443.length : Int)
      ·rw [if_pos c23] at H
       have c23b0 : decide (x9_2 < (t443.length : Int)) = true := decide_eq_true c23
       clear c23
       by_cases c24 : 0 ≤ x9_2
       ·rw [if_pos c24] at H
        have c24b0 : decide (0 ≤ x9_2) = true := decide_eq_true c24
        clear c24
        have HC25 := Aside0.mk H
        clear H
        have hnb26 := NB446_439.out
        have hnc26 := NB439_446.out
        have hcz27_0 : wr.cell? ⟨gb446, 0, none⟩ = some (.slice Ao11 t440.length co11) := (blk_cell BK446.out 0).trans rfl
        have hcz27_1 : wr.cell? ⟨gb446, 1, none⟩ = some (.slice Ao14 t443.length co14) := (blk_cell BK446.out 1).trans rfl
        have hfz27_0 := blk_frozen BK446.out 0
        have hfz27_1 := blk_frozen BK446.out 1
        have p451 : 0 ≤ (x9_2 : Int) := of_decide_eq_true (by first | (with_reducible assumption) | assumption)
        have q451 : x9_2 < (t443.length : Int) := of_decide_eq_true (by first | (with_reducible assumption) | assumption)
        obtain ⟨ad451, e451, hx451_0⟩ := Kd.at_int (Kd.R_reads' HO_447001.out).2.2 x9_2 p451 q451
        cases e451
        replace p451 := eq_true p451
        replace q451 := eq_true q451
        go_upto_region 9 with (fail)
        go_cut [88] (fun v88 wc => ∃ (kq : Nat) (x88_24 : Bool), v88 = .bool x88_24 ∧ Aside0 (jalousielaw05_ViewEnds.j2 kq l0 t447 x9_2 (rd t443 x9_2) x88_24 a1_0 a1_1 t440 t443 = some r) ∧ Aside0 (kq ≤ k2) ∧ Aside0 (Kd.R (Kd.int .i64) 3 wc w.heap.size (fun k_ => some k_ ≠ ((.slice (some ad451) t443.length co14) : Value).ownBlock) v448 t447) ∧ Aside0 (Kd.R k60 60 wc w.heap.size (fun _ => True) (.slice Ao11 t440.length co11) t440) ∧ Aside0 (Kd.R (Kd.int .i64) 3 wc w.heap.size (fun k_ => some k_ ≠ (v448 : Value).ownBlock) (.slice (some ad451) t443.length co14) t443) ∧ Aside0 (wc.heap[gb439]? = some (.cells #[.int .i64 a1_0, .int .u64 a1_1] 25 (0, 0))) ∧ Aside0 (wc.heap[gb446]? = some (.cells #[(.slice Ao11 t440.length co11), (.slice (some ad451) t443.length co14)] 42 (0, 0))) ∧ Aside0 (Below w.heap.size w wc))
        case first =>
         have H := HC25.out
         clear HC25
         by_cases c28 : (rd t443 x9_2) < 0
         ·rw [if_pos c28] at H
          have c28b0 : decide ((rd t443 x9_2) < 0) = true := decide_eq_true c28
          clear c28
          (first | rw [c28b0] | (simp only [i64_w, i32_w]; rw [c28b0]) | skip)
          have H' := Aside0.mk H
          clear H
          try go_wp2
          have n0_ := Aside0.mk (Kd.R_drew HO_8.out)
          have n1_ := Aside0.mk (Kd.R_drew HO_447000.out)
          have n2_ := Aside0.mk (Kd.R_drew HO_447001.out)
          have n3_ := Aside0.mk (blk_drew BK439.out)
          have n4_ := Aside0.mk (blk_drew BK446.out)
          have n5_ := Aside0.mk (below_drew1 HB.out)
          clear HO_8
          clear HO_447000
          clear HO_447001
          clear BK439
          clear BK446
          clear HB
          have HO_8 := n0_
          have HO_447000 := n1_
          have HO_447001 := n2_
          have BK439 := n3_
          have BK446 := n4_
          have HB := n5_
          clear n0_ n1_ n2_ n3_ n4_ n5_
          refine start_ (n := 44) (S := fun w' => True) (ds := []) (Sq.bl 44 0) (by kernel_rfl) rfl rfl trivial (fun hHeld => ?_); refine with_tabW jalousielaw05_ViewEnds.tab9 jalousielaw05_ViewEnds.bits9 (fun HT_ HW_ => ?_)
          generalize wr.drew = w29 at HO_8 HO_447000 HO_447001 BK439 BK446 HB hHeld ⊢
          refine Sq.pu (v := ?_) (a' := ?_) 0 45 (Sq.bl 44 1) (any_of HT_.out (by kernel_rfl)) rfl rfl (fun _ _ _ h => h) (by rfl) ?_ ?_ ?_; rotate_left; (· intro w'; go_simp; with_reducible rfl); rotate_left; (· simp only [Act.put,zp1,zp2,zp3,zp4,zp5]; rfl)
          refine Sq.pu (v := ?_) (a' := ?_) 1 46 (Sq.bl 44 3) (any_of HT_.out (by kernel_rfl)) rfl rfl (fun _ _ _ h => h) (by rfl) ?_ ?_ ?_; rotate_left; (· intro w'; go_simp; with_reducible rfl); rotate_left; (· simp only [Act.put,zp1,zp2,zp3,zp4,zp5]; rfl)
          refine Sq.pu (v := ?_) (a' := ?_) 2 47 (Sq.bl 44 7) (any_of HT_.out (by kernel_rfl)) rfl rfl (fun _ _ _ h => h) (by rfl) ?_ ?_ ?_; rotate_left; (· intro w'; go_simp; with_reducible rfl); rotate_left; (· simp only [Act.put,zp1,zp2,zp3,zp4,zp5]; rfl)
          refine pure_ (i := 3) (N := some 48) (v := undef) (a' := ?_) (Sq.bl 44 15) rfl rfl (any_of HT_.out (by kernel_rfl)) (fun _ _ _ h => h) (Or.inr ⟨by rfl, rfl⟩) ?_ ?_
          rotate_left
          ·simp only [Act.put,zp1,zp2,zp3,zp4,zp5]
           rfl
          refine pure_ (i := 4) (N := some 49) (v := undef) (a' := ?_) (Sq.bl 44 31) rfl rfl (any_of HT_.out (by kernel_rfl)) (fun _ _ _ h => h) (Or.inr ⟨by rfl, rfl⟩) ?_ ?_
          rotate_left
          ·simp only [Act.put,zp1,zp2,zp3,zp4,zp5]
           rfl
          refine pure_ (i := 5) (N := some 50) (v := undef) (a' := ?_) (Sq.bl 44 63) rfl rfl (any_of HT_.out (by kernel_rfl)) (fun _ _ _ h => h) (Or.inr ⟨by rfl, rfl⟩) ?_ ?_
          rotate_left
          ·simp only [Act.put,zp1,zp2,zp3,zp4,zp5]
           rfl
          refine pure_ (i := 6) (N := some 51) (v := undef) (a' := ?_) (Sq.bl 44 127) rfl rfl (any_of HT_.out (by kernel_rfl)) (fun _ _ _ h => h) (Or.inr ⟨by rfl, rfl⟩) ?_ ?_
          rotate_left
          ·simp only [Act.put,zp1,zp2,zp3,zp4,zp5]
           rfl
          refine Sq.pu (v := ?_) (a' := ?_) 7 52 (Sq.bl 44 255) (any_of HT_.out (by kernel_rfl)) rfl rfl (fun _ _ _ h => h) (by rfl) ?_ ?_ ?_; rotate_left; (· intro w'; go_simp; with_reducible rfl); rotate_left; (· simp only [Act.put,zp1,zp2,zp3,zp4,zp5]; rfl)
          refine Sq.pu (v := ?_) (a' := ?_) 8 53 (Sq.bl 44 511) (any_of HT_.out (by kernel_rfl)) rfl rfl (fun _ _ _ h => h) (by rfl) ?_ ?_ ?_; rotate_left; (· intro w'; go_simp; with_reducible rfl); rotate_left; (· simp only [Act.put,zp1,zp2,zp3,zp4,zp5]; rfl)
          refine pure_ (i := 9) (N := some 54) (v := undef) (a' := ?_) (Sq.bl 44 1023) rfl rfl (any_of HT_.out (by kernel_rfl)) (fun _ _ _ h => h) (Or.inr ⟨by rfl, rfl⟩) ?_ ?_
          rotate_left
          ·simp only [Act.put,zp1,zp2,zp3,zp4,zp5]
           rfl
          refine pure_ (i := 10) (N := some 55) (v := undef) (a' := ?_) (Sq.bl 44 2047) rfl rfl (any_of HT_.out (by kernel_rfl)) (fun _ _ _ h => h) (Or.inr ⟨by rfl, rfl⟩) ?_ ?_
          rotate_left
          ·simp only [Act.put,zp1,zp2,zp3,zp4,zp5]
           rfl
          refine pure_ (i := 11) (N := some 56) (v := undef) (a' := ?_) (Sq.bl 44 4095) rfl rfl (any_of HT_.out (by kernel_rfl)) (fun _ _ _ h => h) (Or.inr ⟨by rfl, rfl⟩) ?_ ?_
          rotate_left
          ·simp only [Act.put,zp1,zp2,zp3,zp4,zp5]
           rfl
          refine pure_ (i := 12) (N := some 57) (v := undef) (a' := ?_) (Sq.bl 44 8191) rfl rfl (any_of HT_.out (by kernel_rfl)) (fun _ _ _ h => h) (Or.inr ⟨by rfl, rfl⟩) ?_ ?_
          rotate_left
          ·simp only [Act.put,zp1,zp2,zp3,zp4,zp5]
           rfl
          refine pure_ (i := 13) (N := some 58) (v := undef) (a' := ?_) (Sq.bl 44 16383) rfl rfl (any_of HT_.out (by kernel_rfl)) (fun _ _ _ h => h) (Or.inr ⟨by rfl, rfl⟩) ?_ ?_
          rotate_left
          ·simp only [Act.put,zp1,zp2,zp3,zp4,zp5]
           rfl
          refine pure_ (i := 14) (N := some 59) (v := undef) (a' := ?_) (Sq.bl 44 32767) rfl rfl (any_of HT_.out (by kernel_rfl)) (fun _ _ _ h => h) (Or.inr ⟨by rfl, rfl⟩) ?_ ?_
          rotate_left
          ·simp only [Act.put,zp1,zp2,zp3,zp4,zp5]
           rfl
          refine pure_ (i := 15) (N := some 60) (v := undef) (a' := ?_) (Sq.bl 44 65535) rfl rfl (any_of HT_.out (by kernel_rfl)) (fun _ _ _ h => h) (Or.inr ⟨by rfl, rfl⟩) ?_ ?_
          rotate_left
          ·simp only [Act.put,zp1,zp2,zp3,zp4,zp5]
           rfl
          refine pure_ (i := 16) (N := some 61) (v := undef) (a' := ?_) (Sq.bl 44 131071) rfl rfl (any_of HT_.out (by kernel_rfl)) (fun _ _ _ h => h) (Or.inr ⟨by rfl, rfl⟩) ?_ ?_
          rotate_left
          ·simp only [Act.put,zp1,zp2,zp3,zp4,zp5]
           rfl
          refine pure_ (i := 17) (N := some 62) (v := undef) (a' := ?_) (Sq.bl 44 262143) rfl rfl (any_of HT_.out (by kernel_rfl)) (fun _ _ _ h => h) (Or.inr ⟨by rfl, rfl⟩) ?_ ?_
          rotate_left
          ·simp only [Act.put,zp1,zp2,zp3,zp4,zp5]
           rfl
          refine pure_ (i := 18) (N := some 63) (v := undef) (a' := ?_) (Sq.bl 44 524287) rfl rfl (any_of HT_.out (by kernel_rfl)) (fun _ _ _ h => h) (Or.inr ⟨by rfl, rfl⟩) ?_ ?_
          rotate_left
          ·simp only [Act.put,zp1,zp2,zp3,zp4,zp5]
           rfl
          refine pure_ (i := 19) (N := some 64) (v := undef) (a' := ?_) (Sq.bl 44 1048575) rfl rfl (any_of HT_.out (by kernel_rfl)) (fun _ _ _ h => h) (Or.inr ⟨by rfl, rfl⟩) ?_ ?_
          rotate_left
          ·simp only [Act.put,zp1,zp2,zp3,zp4,zp5]
           rfl
          refine pure_ (i := 20) (N := some 65) (v := undef) (a' := ?_) (Sq.bl 44 2097151) rfl rfl (any_of HT_.out (by kernel_rfl)) (fun _ _ _ h => h) (Or.inr ⟨by rfl, rfl⟩) ?_ ?_
          rotate_left
          ·simp only [Act.put,zp1,zp2,zp3,zp4,zp5]
           rfl
          refine Sq.pu (v := ?_) (a' := ?_) 21 66 (Sq.bl 44 4194303) (any_of HT_.out (by kernel_rfl)) rfl rfl (fun _ _ _ h => h) (by rfl) ?_ ?_ ?_; rotate_left; (· intro w'; go_simp; with_reducible rfl); rotate_left; (· simp only [Act.put,zp1,zp2,zp3,zp4,zp5]; rfl)
          refine Sq.pu (v := ?_) (a' := ?_) 22 67 (Sq.bl 44 8388607) (any_of HT_.out (by kernel_rfl)) rfl rfl (fun _ _ _ h => h) (by rfl) ?_ ?_ ?_; rotate_left; (· intro w'; go_simp; with_reducible rfl); rotate_left; (· simp only [Act.put,zp1,zp2,zp3,zp4,zp5]; rfl)
          refine pure_ (i := 23) (N := some 68) (v := undef) (a' := ?_) (Sq.bl 44 16777215) rfl rfl (any_of HT_.out (by kernel_rfl)) (fun _ _ _ h => h) (Or.inr ⟨by rfl, rfl⟩) ?_ ?_
          rotate_left
          ·simp only [Act.put,zp1,zp2,zp3,zp4,zp5]
           rfl
          refine pure_ (i := 24) (N := some 69) (v := undef) (a' := ?_) (Sq.bl 44 33554431) rfl rfl (any_of HT_.out (by kernel_rfl)) (fun _ _ _ h => h) (Or.inr ⟨by rfl, rfl⟩) ?_ ?_
          rotate_left
          ·simp only [Act.put,zp1,zp2,zp3,zp4,zp5]
           rfl
          refine pure_ (i := 25) (N := some 70) (v := undef) (a' := ?_) (Sq.bl 44 67108863) rfl rfl (any_of HT_.out (by kernel_rfl)) (fun _ _ _ h => h) (Or.inr ⟨by rfl, rfl⟩) ?_ ?_
          rotate_left
          ·simp only [Act.put,zp1,zp2,zp3,zp4,zp5]
           rfl
          refine pure_ (i := 26) (N := some 71) (v := undef) (a' := ?_) (Sq.bl 44 134217727) rfl rfl (any_of HT_.out (by kernel_rfl)) (fun _ _ _ h => h) (Or.inr ⟨by rfl, rfl⟩) ?_ ?_
          rotate_left
          ·simp only [Act.put,zp1,zp2,zp3,zp4,zp5]
           rfl
          refine pure_ (i := 27) (N := some 72) (v := undef) (a' := ?_) (Sq.bl 44 268435455) rfl rfl (any_of HT_.out (by kernel_rfl)) (fun _ _ _ h => h) (Or.inr ⟨by rfl, rfl⟩) ?_ ?_
          rotate_left
          ·simp only [Act.put,zp1,zp2,zp3,zp4,zp5]
           rfl
          refine pure_ (i := 28) (N := some 73) (v := undef) (a' := ?_) (Sq.bl 44 536870911) rfl rfl (any_of HT_.out (by kernel_rfl)) (fun _ _ _ h => h) (Or.inr ⟨by rfl, rfl⟩) ?_ ?_
          rotate_left
          ·simp only [Act.put,zp1,zp2,zp3,zp4,zp5]
           rfl
          refine pure_ (i := 29) (N := some 74) (v := undef) (a' := ?_) (Sq.bl 44 1073741823) rfl rfl (any_of HT_.out (by kernel_rfl)) (fun _ _ _ h => h) (Or.inr ⟨by rfl, rfl⟩) ?_ ?_
          rotate_left
          ·simp only [Act.put,zp1,zp2,zp3,zp4,zp5]
           rfl
          refine pure_ (i := 30) (N := some 75) (v := undef) (a' := ?_) (Sq.bl 44 2147483647) rfl rfl (any_of HT_.out (by kernel_rfl)) (fun _ _ _ h => h) (Or.inr ⟨by rfl, rfl⟩) ?_ ?_
          rotate_left
          ·simp only [Act.put,zp1,zp2,zp3,zp4,zp5]
           rfl
          refine pure_ (i := 31) (N := some 76) (v := undef) (a' := ?_) (Sq.bl 44 4294967295) rfl rfl (any_of HT_.out (by kernel_rfl)) (fun _ _ _ h => h) (Or.inr ⟨by rfl, rfl⟩) ?_ ?_
          rotate_left
          ·simp only [Act.put,zp1,zp2,zp3,zp4,zp5]
           rfl
          refine pure_ (i := 32) (N := some 77) (v := undef) (a' := ?_) (Sq.bl 44 8589934591) rfl rfl (any_of HT_.out (by kernel_rfl)) (fun _ _ _ h => h) (Or.inr ⟨by rfl, rfl⟩) ?_ ?_
          rotate_left
          ·simp only [Act.put,zp1,zp2,zp3,zp4,zp5]
           rfl
          refine Sq.pu (v := ?_) (a' := ?_) 33 78 (Sq.bl 44 17179869183) (any_of HT_.out (by kernel_rfl)) rfl rfl (fun _ _ _ h => h) (by rfl) ?_ ?_ ?_; rotate_left; (· intro w'; go_simp; with_reducible rfl); rotate_left; (· simp only [Act.put,zp1,zp2,zp3,zp4,zp5]; rfl)
          refine Sq.pu (v := ?_) (a' := ?_) 34 79 (Sq.bl 44 34359738367) (any_of HT_.out (by kernel_rfl)) rfl rfl (fun _ _ _ h => h) (by rfl) ?_ ?_ ?_; rotate_left; (· intro w'; go_simp; with_reducible rfl); rotate_left; (· simp only [Act.put,zp1,zp2,zp3,zp4,zp5]; rfl)
          refine pure_ (i := 35) (N := some 80) (v := undef) (a' := ?_) (Sq.bl 44 68719476735) rfl rfl (any_of HT_.out (by kernel_rfl)) (fun _ _ _ h => h) (Or.inr ⟨by rfl, rfl⟩) ?_ ?_
          rotate_left
          ·simp only [Act.put,zp1,zp2,zp3,zp4,zp5]
           rfl
          refine pure_ (i := 36) (N := some 81) (v := undef) (a' := ?_) (Sq.bl 44 137438953471) rfl rfl (any_of HT_.out (by kernel_rfl)) (fun _ _ _ h => h) (Or.inr ⟨by rfl, rfl⟩) ?_ ?_
          rotate_left
          ·simp only [Act.put,zp1,zp2,zp3,zp4,zp5]
           rfl
          refine pure_ (i := 37) (N := some 82) (v := undef) (a' := ?_) (Sq.bl 44 274877906943) rfl rfl (any_of HT_.out (by kernel_rfl)) (fun _ _ _ h => h) (Or.inr ⟨by rfl, rfl⟩) ?_ ?_
          rotate_left
          ·simp only [Act.put,zp1,zp2,zp3,zp4,zp5]
           rfl
          refine pure_ (i := 38) (N := some 83) (v := undef) (a' := ?_) (Sq.bl 44 549755813887) rfl rfl (any_of HT_.out (by kernel_rfl)) (fun _ _ _ h => h) (Or.inr ⟨by rfl, rfl⟩) ?_ ?_
          rotate_left
          ·simp only [Act.put,zp1,zp2,zp3,zp4,zp5]
           rfl
          refine pure_ (i := 39) (N := some 84) (v := undef) (a' := ?_) (Sq.bl 44 1099511627775) rfl rfl (any_of HT_.out (by kernel_rfl)) (fun _ _ _ h => h) (Or.inr ⟨by rfl, rfl⟩) ?_ ?_
          rotate_left
          ·simp only [Act.put,zp1,zp2,zp3,zp4,zp5]
           rfl
          refine pure_ (i := 40) (N := some 85) (v := undef) (a' := ?_) (Sq.bl 44 2199023255551) rfl rfl (any_of HT_.out (by kernel_rfl)) (fun _ _ _ h => h) (Or.inr ⟨by rfl, rfl⟩) ?_ ?_
          rotate_left
          ·simp only [Act.put,zp1,zp2,zp3,zp4,zp5]
           rfl
          refine pure_ (i := 41) (N := some 86) (v := undef) (a' := ?_) (Sq.bl 44 4398046511103) rfl rfl (any_of HT_.out (by kernel_rfl)) (fun _ _ _ h => h) (Or.inr ⟨by rfl, rfl⟩) ?_ ?_
          rotate_left
          ·simp only [Act.put,zp1,zp2,zp3,zp4,zp5]
           rfl
          refine pure_ (i := 42) (N := some 87) (v := undef) (a' := ?_) (Sq.bl 44 8796093022207) rfl rfl (any_of HT_.out (by kernel_rfl)) (fun _ _ _ h => h) (Or.inr ⟨by rfl, rfl⟩) ?_ ?_
          rotate_left
          ·simp only [Act.put,zp1,zp2,zp3,zp4,zp5]
           rfl
          refine Sq.pu (v := ?_) (a' := ?_) 43 88 (Sq.bl 44 17592186044415) (any_of HT_.out (by kernel_rfl)) rfl rfl (fun _ _ _ h => h) (by rfl) ?_ ?_ ?_; rotate_left; (· intro w'; go_simp; with_reducible rfl); rotate_left; (· simp only [Act.put,zp1,zp2,zp3,zp4,zp5]; rfl)
          refine done_ (done_of HT_.out (by kernel_rfl)) ?_
          try go_wp2
          go_meet
          case rel => exact ⟨_, (true), (by first | rfl | (simp; done) | (simp [*]; done)), H', ⟨by have := HJ5.out; have := HK2.out; first | omega | exact Nat.le_refl _⟩, ⟨by (with_reducible repeat first|apply zr1|apply zr2|apply zr3); exact HO_8.out⟩, ⟨by (with_reducible repeat first|apply zr1|apply zr2|apply zr3); exact HO_447000.out⟩, ⟨by (with_reducible repeat first|apply zr1|apply zr2|apply zr3); exact HO_447001.out⟩, ⟨by (with_reducible repeat first|refine zb1 ?_ _|refine zb2 ?_|refine zb3 ?_ _); exact BK439.out⟩, ⟨by (with_reducible repeat first|refine zb1 ?_ _|refine zb2 ?_|refine zb3 ?_ _); exact BK446.out⟩, ⟨by repeat (first | (with_reducible first | exact HB.out | apply below_alloc | apply pw_below_drewN | apply below_drew1 | refine below_set ?_ GE439.out | refine below_set ?_ GE446.out) | exact HB.out)⟩⟩
         ·rw [if_neg c28] at H
          have c28b0 : decide ((rd t443 x9_2) < 0) = false := decide_eq_false c28
          clear c28
          (first | rw [c28b0] | (simp only [i64_w, i32_w]; rw [c28b0]) | skip)
          by_cases c30 : (rd t443 x9_2) ≥ (l0.length : Int)
          ·rw [if_pos c30] at H
           have c30b0 : decide ((l0.length : Int) ≤ (rd t443 x9_2)) = true := decide_eq_true c30
           clear c30
           have H' := Aside0.mk H
           clear H
           try go_wp2
           have n0_ := Aside0.mk (Kd.R_drew HO_8.out)
           have n1_ := Aside0.mk (Kd.R_drew HO_447000.out)
           have n2_ := Aside0.mk (Kd.R_drew HO_447001.out)
           have n3_ := Aside0.mk (blk_drew BK439.out)
           have n4_ := Aside0.mk (blk_drew BK446.out)
           have n5_ := Aside0.mk (below_drew1 HB.out)
           clear HO_8
           clear HO_447000
           clear HO_447001
           clear BK439
           clear BK446
           clear HB
           have HO_8 := n0_
           have HO_447000 := n1_
           have HO_447001 := n2_
           have BK439 := n3_
           have BK446 := n4_
           have HB := n5_
           clear n0_ n1_ n2_ n3_ n4_ n5_
           refine start_ (n := 44) (S := fun w' => True) (ds := []) (Sq.bl 44 0) (by kernel_rfl) rfl rfl trivial (fun hHeld => ?_); refine with_tabW jalousielaw05_ViewEnds.tab9 jalousielaw05_ViewEnds.bits9 (fun HT_ HW_ => ?_)
           generalize wr.drew = w31 at HO_8 HO_447000 HO_447001 BK439 BK446 HB hHeld ⊢
           refine Sq.pu (v := ?_) (a' := ?_) 0 45 (Sq.bl 44 1) (any_of HT_.out (by kernel_rfl)) rfl rfl (fun _ _ _ h => h) (by rfl) ?_ ?_ ?_; rotate_left; (· intro w'; go_simp; with_reducible rfl); rotate_left; (· simp only [Act.put,zp1,zp2,zp3,zp4,zp5]; rfl)
           refine Sq.pu (v := ?_) (a' := ?_) 1 46 (Sq.bl 44 3) (any_of HT_.out (by kernel_rfl)) rfl rfl (fun _ _ _ h => h) (by rfl) ?_ ?_ ?_; rotate_left; (· intro w'; go_simp; with_reducible rfl); rotate_left; (· simp only [Act.put,zp1,zp2,zp3,zp4,zp5]; rfl)
           refine Sq.pu (v := ?_) (a' := ?_) 2 47 (Sq.bl 44 7) (any_of HT_.out (by kernel_rfl)) rfl rfl (fun _ _ _ h => h) (by rfl) ?_ ?_ ?_; rotate_left; (· intro w'; go_simp; with_reducible rfl); rotate_left; (· simp only [Act.put,zp1,zp2,zp3,zp4,zp5]; rfl)
           refine Sq.pu (v := ?_) (a' := ?_) 3 48 (Sq.bl 44 15) (any_of HT_.out (by kernel_rfl)) rfl rfl (fun _ _ _ h => h) (by rfl) ?_ ?_ ?_; rotate_left; (· intro w'; go_simp; with_reducible rfl); rotate_left; (· simp only [Act.put,zp1,zp2,zp3,zp4,zp5]; rfl)
           refine Sq.pu (v := ?_) (a' := ?_) 4 49 (Sq.bl 44 31) (any_of HT_.out (by kernel_rfl)) rfl rfl (fun _ _ _ h => h) (by rfl) ?_ ?_ ?_; rotate_left; (· intro w'; go_simp; with_reducible rfl); rotate_left; (· simp only [Act.put,zp1,zp2,zp3,zp4,zp5]; rfl)
           refine Sq.pu (v := ?_) (a' := ?_) 5 50 (Sq.bl 44 63) (any_of HT_.out (by kernel_rfl)) rfl rfl (fun _ _ _ h => h) (by rfl) ?_ ?_ ?_; rotate_left; (· intro w'; go_simp; with_reducible rfl); rotate_left; (· simp only [Act.put,zp1,zp2,zp3,zp4,zp5]; rfl)
           refine Sq.pu (v := ?_) (a' := ?_) 6 51 (Sq.bl 44 127) (any_of HT_.out (by kernel_rfl)) rfl rfl (fun _ _ _ h => h) (by rfl) ?_ ?_ ?_; rotate_left; (· intro w'; go_simp; with_reducible rfl); rotate_left; (· simp only [Act.put,zp1,zp2,zp3,zp4,zp5]; rfl)
           refine Sq.pu (v := ?_) (a' := ?_) 7 52 (Sq.bl 44 255) (any_of HT_.out (by kernel_rfl)) rfl rfl (fun _ _ _ h => h) (by rfl) ?_ ?_ ?_; rotate_left; (· intro w'; go_simp; with_reducible rfl); rotate_left; (· simp only [Act.put,zp1,zp2,zp3,zp4,zp5]; rfl)
           refine Sq.pu (v := ?_) (a' := ?_) 8 53 (Sq.bl 44 511) (any_of HT_.out (by kernel_rfl)) rfl rfl (fun _ _ _ h => h) (by rfl) ?_ ?_ ?_; rotate_left; (· intro w'; go_simp; with_reducible rfl); rotate_left; (· simp only [Act.put,zp1,zp2,zp3,zp4,zp5]; rfl)
           refine pure_ (i := 9) (N := some 54) (v := undef) (a' := ?_) (Sq.bl 44 1023) rfl rfl (any_of HT_.out (by kernel_rfl)) (fun _ _ _ h => h) (Or.inr ⟨by rfl, rfl⟩) ?_ ?_
           rotate_left
           ·simp only [Act.put,zp1,zp2,zp3,zp4,zp5]
            rfl
           refine pure_ (i := 10) (N := some 55) (v := undef) (a' := ?_) (Sq.bl 44 2047) rfl rfl (any_of HT_.out (by kernel_rfl)) (fun _ _ _ h => h) (Or.inr ⟨by rfl, rfl⟩) ?_ ?_
           rotate_left
           ·simp only [Act.put,zp1,zp2,zp3,zp4,zp5]
            rfl
           refine pure_ (i := 11) (N := some 56) (v := undef) (a' := ?_) (Sq.bl 44 4095) rfl rfl (any_of HT_.out (by kernel_rfl)) (fun _ _ _ h => h) (Or.inr ⟨by rfl, rfl⟩) ?_ ?_
           rotate_left
           ·simp only [Act.put,zp1,zp2,zp3,zp4,zp5]
            rfl
           refine pure_ (i := 12) (N := some 57) (v := undef) (a' := ?_) (Sq.bl 44 8191) rfl rfl (any_of HT_.out (by kernel_rfl)) (fun _ _ _ h => h) (Or.inr ⟨by rfl, rfl⟩) ?_ ?_
           rotate_left
           ·simp only [Act.put,zp1,zp2,zp3,zp4,zp5]
            rfl
           refine pure_ (i := 13) (N := some 58) (v := undef) (a' := ?_) (Sq.bl 44 16383) rfl rfl (any_of HT_.out (by kernel_rfl)) (fun _ _ _ h => h) (Or.inr ⟨by rfl, rfl⟩) ?_ ?_
           rotate_left
           ·simp only [Act.put,zp1,zp2,zp3,zp4,zp5]
            rfl
           refine pure_ (i := 14) (N := some 59) (v := undef) (a' := ?_) (Sq.bl 44 32767) rfl rfl (any_of HT_.out (by kernel_rfl)) (fun _ _ _ h => h) (Or.inr ⟨by rfl, rfl⟩) ?_ ?_
           rotate_left
           ·simp only [Act.put,zp1,zp2,zp3,zp4,zp5]
            rfl
           refine pure_ (i := 15) (N := some 60) (v := undef) (a' := ?_) (Sq.bl 44 65535) rfl rfl (any_of HT_.out (by kernel_rfl)) (fun _ _ _ h => h) (Or.inr ⟨by rfl, rfl⟩) ?_ ?_
           rotate_left
           ·simp only [Act.put,zp1,zp2,zp3,zp4,zp5]
            rfl
           refine pure_ (i := 16) (N := some 61) (v := undef) (a' := ?_) (Sq.bl 44 131071) rfl rfl (any_of HT_.out (by kernel_rfl)) (fun _ _ _ h => h) (Or.inr ⟨by rfl, rfl⟩) ?_ ?_
           rotate_left
           ·simp only [Act.put,zp1,zp2,zp3,zp4,zp5]
            rfl
           refine pure_ (i := 17) (N := some 62) (v := undef) (a' := ?_) (Sq.bl 44 262143) rfl rfl (any_of HT_.out (by kernel_rfl)) (fun _ _ _ h => h) (Or.inr ⟨by rfl, rfl⟩) ?_ ?_
           rotate_left
           ·simp only [Act.put,zp1,zp2,zp3,zp4,zp5]
            rfl
           refine pure_ (i := 18) (N := some 63) (v := undef) (a' := ?_) (Sq.bl 44 524287) rfl rfl (any_of HT_.out (by kernel_rfl)) (fun _ _ _ h => h) (Or.inr ⟨by rfl, rfl⟩) ?_ ?_
           rotate_left
           ·simp only [Act.put,zp1,zp2,zp3,zp4,zp5]
            rfl
           refine pure_ (i := 19) (N := some 64) (v := undef) (a' := ?_) (Sq.bl 44 1048575) rfl rfl (any_of HT_.out (by kernel_rfl)) (fun _ _ _ h => h) (Or.inr ⟨by rfl, rfl⟩) ?_ ?_
           rotate_left
           ·simp only [Act.put,zp1,zp2,zp3,zp4,zp5]
            rfl
           refine pure_ (i := 20) (N := some 65) (v := undef) (a' := ?_) (Sq.bl 44 2097151) rfl rfl (any_of HT_.out (by kernel_rfl)) (fun _ _ _ h => h) (Or.inr ⟨by rfl, rfl⟩) ?_ ?_
           rotate_left
           ·simp only [Act.put,zp1,zp2,zp3,zp4,zp5]
            rfl
           refine Sq.pu (v := ?_) (a' := ?_) 21 66 (Sq.bl 44 4194303) (any_of HT_.out (by kernel_rfl)) rfl rfl (fun _ _ _ h => h) (by rfl) ?_ ?_ ?_; rotate_left; (· intro w'; go_simp; with_reducible rfl); rotate_left; (· simp only [Act.put,zp1,zp2,zp3,zp4,zp5]; rfl)
           refine Sq.pu (v := ?_) (a' := ?_) 22 67 (Sq.bl 44 8388607) (any_of HT_.out (by kernel_rfl)) rfl rfl (fun _ _ _ h => h) (by rfl) ?_ ?_ ?_; rotate_left; (· intro w'; go_simp; with_reducible rfl); rotate_left; (· simp only [Act.put,zp1,zp2,zp3,zp4,zp5]; rfl)
           refine pure_ (i := 23) (N := some 68) (v := undef) (a' := ?_) (Sq.bl 44 16777215) rfl rfl (any_of HT_.out (by kernel_rfl)) (fun _ _ _ h => h) (Or.inr ⟨by rfl, rfl⟩) ?_ ?_
           rotate_left
           ·simp only [Act.put,zp1,zp2,zp3,zp4,zp5]
            rfl
           refine pure_ (i := 24) (N := some 69) (v := undef) (a' := ?_) (Sq.bl 44 33554431) rfl rfl (any_of HT_.out (by kernel_rfl)) (fun _ _ _ h => h) (Or.inr ⟨by rfl, rfl⟩) ?_ ?_
           rotate_left
           ·simp only [Act.put,zp1,zp2,zp3,zp4,zp5]
            rfl
           refine pure_ (i := 25) (N := some 70) (v := undef) (a' := ?_) (Sq.bl 44 67108863) rfl rfl (any_of HT_.out (by kernel_rfl)) (fun _ _ _ h => h) (Or.inr ⟨by rfl, rfl⟩) ?_ ?_
           rotate_left
           ·simp only [Act.put,zp1,zp2,zp3,zp4,zp5]
            rfl
           refine pure_ (i := 26) (N := some 71) (v := undef) (a' := ?_) (Sq.bl 44 134217727) rfl rfl (any_of HT_.out (by kernel_rfl)) (fun _ _ _ h => h) (Or.inr ⟨by rfl, rfl⟩) ?_ ?_
           rotate_left
           ·simp only [Act.put,zp1,zp2,zp3,zp4,zp5]
            rfl
           refine pure_ (i := 27) (N := some 72) (v := undef) (a' := ?_) (Sq.bl 44 268435455) rfl rfl (any_of HT_.out (by kernel_rfl)) (fun _ _ _ h => h) (Or.inr ⟨by rfl, rfl⟩) ?_ ?_
           rotate_left
           ·simp only [Act.put,zp1,zp2,zp3,zp4,zp5]
            rfl
           refine pure_ (i := 28) (N := some 73) (v := undef) (a' := ?_) (Sq.bl 44 536870911) rfl rfl (any_of HT_.out (by kernel_rfl)) (fun _ _ _ h => h) (Or.inr ⟨by rfl, rfl⟩) ?_ ?_
           rotate_left
           ·simp only [Act.put,zp1,zp2,zp3,zp4,zp5]
            rfl
           refine pure_ (i := 29) (N := some 74) (v := undef) (a' := ?_) (Sq.bl 44 1073741823) rfl rfl (any_of HT_.out (by kernel_rfl)) (fun _ _ _ h => h) (Or.inr ⟨by rfl, rfl⟩) ?_ ?_
           rotate_left
           ·simp only [Act.put,zp1,zp2,zp3,zp4,zp5]
            rfl
           refine pure_ (i := 30) (N := some 75) (v := undef) (a' := ?_) (Sq.bl 44 2147483647) rfl rfl (any_of HT_.out (by kernel_rfl)) (fun _ _ _ h => h) (Or.inr ⟨by rfl, rfl⟩) ?_ ?_
           rotate_left
           ·simp only [Act.put,zp1,zp2,zp3,zp4,zp5]
            rfl
           refine pure_ (i := 31) (N := some 76) (v := undef) (a' := ?_) (Sq.bl 44 4294967295) rfl rfl (any_of HT_.out (by kernel_rfl)) (fun _ _ _ h => h) (Or.inr ⟨by rfl, rfl⟩) ?_ ?_
           rotate_left
           ·simp only [Act.put,zp1,zp2,zp3,zp4,zp5]
            rfl
           refine pure_ (i := 32) (N := some 77) (v := undef) (a' := ?_) (Sq.bl 44 8589934591) rfl rfl (any_of HT_.out (by kernel_rfl)) (fun _ _ _ h => h) (Or.inr ⟨by rfl, rfl⟩) ?_ ?_
           rotate_left
           ·simp only [Act.put,zp1,zp2,zp3,zp4,zp5]
            rfl
           refine Sq.pu (v := ?_) (a' := ?_) 33 78 (Sq.bl 44 17179869183) (any_of HT_.out (by kernel_rfl)) rfl rfl (fun _ _ _ h => h) (by rfl) ?_ ?_ ?_; rotate_left; (· intro w'; go_simp; with_reducible rfl); rotate_left; (· simp only [Act.put,zp1,zp2,zp3,zp4,zp5]; rfl)
           refine Sq.pu (v := ?_) (a' := ?_) 34 79 (Sq.bl 44 34359738367) (any_of HT_.out (by kernel_rfl)) rfl rfl (fun _ _ _ h => h) (by rfl) ?_ ?_ ?_; rotate_left; (· intro w'; go_simp; with_reducible rfl); rotate_left; (· simp only [Act.put,zp1,zp2,zp3,zp4,zp5]; rfl)
           refine pure_ (i := 35) (N := some 80) (v := undef) (a' := ?_) (Sq.bl 44 68719476735) rfl rfl (any_of HT_.out (by kernel_rfl)) (fun _ _ _ h => h) (Or.inr ⟨by rfl, rfl⟩) ?_ ?_
           rotate_left
           ·simp only [Act.put,zp1,zp2,zp3,zp4,zp5]
            rfl
           refine pure_ (i := 36) (N := some 81) (v := undef) (a' := ?_) (Sq.bl 44 137438953471) rfl rfl (any_of HT_.out (by kernel_rfl)) (fun _ _ _ h => h) (Or.inr ⟨by rfl, rfl⟩) ?_ ?_
           rotate_left
           ·simp only [Act.put,zp1,zp2,zp3,zp4,zp5]
            rfl
           refine pure_ (i := 37) (N := some 82) (v := undef) (a' := ?_) (Sq.bl 44 274877906943) rfl rfl (any_of HT_.out (by kernel_rfl)) (fun _ _ _ h => h) (Or.inr ⟨by rfl, rfl⟩) ?_ ?_
           rotate_left
           ·simp only [Act.put,zp1,zp2,zp3,zp4,zp5]
            rfl
           refine pure_ (i := 38) (N := some 83) (v := undef) (a' := ?_) (Sq.bl 44 549755813887) rfl rfl (any_of HT_.out (by kernel_rfl)) (fun _ _ _ h => h) (Or.inr ⟨by rfl, rfl⟩) ?_ ?_
           rotate_left
           ·simp only [Act.put,zp1,zp2,zp3,zp4,zp5]
            rfl
           refine pure_ (i := 39) (N := some 84) (v := undef) (a' := ?_) (Sq.bl 44 1099511627775) rfl rfl (any_of HT_.out (by kernel_rfl)) (fun _ _ _ h => h) (Or.inr ⟨by rfl, rfl⟩) ?_ ?_
           rotate_left
           ·simp only [Act.put,zp1,zp2,zp3,zp4,zp5]
            rfl
           refine pure_ (i := 40) (N := some 85) (v := undef) (a' := ?_) (Sq.bl 44 2199023255551) rfl rfl (any_of HT_.out (by kernel_rfl)) (fun _ _ _ h => h) (Or.inr ⟨by rfl, rfl⟩) ?_ ?_
           rotate_left
           ·simp only [Act.put,zp1,zp2,zp3,zp4,zp5]
            rfl
           refine pure_ (i := 41) (N := some 86) (v := undef) (a' := ?_) (Sq.bl 44 4398046511103) rfl rfl (any_of HT_.out (by kernel_rfl)) (fun _ _ _ h => h) (Or.inr ⟨by rfl, rfl⟩) ?_ ?_
           rotate_left
           ·simp only [Act.put,zp1,zp2,zp3,zp4,zp5]
            rfl
           refine pure_ (i := 42) (N := some 87) (v := undef) (a' := ?_) (Sq.bl 44 8796093022207) rfl rfl (any_of HT_.out (by kernel_rfl)) (fun _ _ _ h => h) (Or.inr ⟨by rfl, rfl⟩) ?_ ?_
           rotate_left
           ·simp only [Act.put,zp1,zp2,zp3,zp4,zp5]
            rfl
           refine Sq.pu (v := ?_) (a' := ?_) 43 88 (Sq.bl 44 17592186044415) (any_of HT_.out (by kernel_rfl)) rfl rfl (fun _ _ _ h => h) (by rfl) ?_ ?_ ?_; rotate_left; (· intro w'; go_simp; with_reducible rfl); rotate_left; (· simp only [Act.put,zp1,zp2,zp3,zp4,zp5]; rfl)
           refine done_ (done_of HT_.out (by kernel_rfl)) ?_
           try go_wp2
           go_meet
           case rel => exact ⟨_, (true), (by first | rfl | (simp; done) | (simp [*]; done)), H', ⟨by have := HJ5.out; have := HK2.out; first | omega | exact Nat.le_refl _⟩, ⟨by (with_reducible repeat first|apply zr1|apply zr2|apply zr3); exact HO_8.out⟩, ⟨by (with_reducible repeat first|apply zr1|apply zr2|apply zr3); exact HO_447000.out⟩, ⟨by (with_reducible repeat first|apply zr1|apply zr2|apply zr3); exact HO_447001.out⟩, ⟨by (with_reducible repeat first|refine zb1 ?_ _|refine zb2 ?_|refine zb3 ?_ _); exact BK439.out⟩, ⟨by (with_reducible repeat first|refine zb1 ?_ _|refine zb2 ?_|refine zb3 ?_ _); exact BK446.out⟩, ⟨by repeat (first | (with_reducible first | exact HB.out | apply below_alloc | apply pw_below_drewN | apply below_drew1 | refine below_set ?_ GE439.out | refine below_set ?_ GE446.out) | exact HB.out)⟩⟩
          ·rw [if_neg c30] at H
           have c30b0 : decide ((l0.length : Int) ≤ (rd t443 x9_2)) = false := decide_eq_false c30
           clear c30
           by_cases c32 : x9_2 > 0
           ·rw [if_pos c32] at H
            have c32b0 : decide (0 < x9_2) = true := decide_eq_true c32
            clear c32
            obtain ⟨ji33, hji33⟩ : ∃ j_ : Int, (wrap64 (x9_2 - 1)) = j_ := ⟨_, rfl⟩
            replace H : (if 0 ≤ (ji33) then (if (ji33) < (t443.length : Int) then (if (rd t443 x9_2) ≤ (rd t443 (ji33)) then (jalousielaw05_ViewEnds.j2 k2 l0 t447 x9_2 (rd t443 x9_2) true a1_0 a1_1 t440 t443) else (if x9_2 < (t447.length : Int) then (if 0 ≤ (rd t443 x9_2) then (if (rd t443 x9_2) < (l0.length : Int) then (if (rd t447 x9_2) = ((rd_T63 l0 (rd t443 x9_2)).f0) then ((jalousieref02_Below.f k2 ((rd_T63 l0 (rd t443 x9_2)).f1.f0) ((rd_T63 l0 (rd t443 x9_2)).f1.f1) a1_0 a1_1).bind fun t456 => (jalousielaw05_ViewEnds.j2 k2 l0 t447 x9_2 (rd t443 x9_2) (!t456) a1_0 a1_1 t440 t443)) else (jalousielaw05_ViewEnds.j2 k2 l0 t447 x9_2 (rd t443 x9_2) true a1_0 a1_1 t440 t443)) else (none)) else (none)) else (none))) else (none)) else (none)) = some r := by first | (rw [hji33] at H; exact H) | (simp only [hji33] at H ⊢; exact H)
            have hji33w : (IntKind.i64.wrap (x9_2 - 1)) = ji33 := (i64_w _).trans hji33
            by_cases c34 : 0 ≤ (ji33)
            ·rw [if_pos c34] at H
             have c34b0 : decide (0 ≤ (ji33)) = true := decide_eq_true c34
             clear c34
             by_cases c35 : (ji33) < (t443.length : Int)
             ·rw [if_pos c35] at H
              have c35b0 : decide ((ji33) < (t443.length : Int)) = true := decide_eq_true c35
              clear c35
              by_cases c36 : (rd t443 x9_2) ≤ (rd t443 (ji33))
              ·rw [if_pos c36] at H
               have c36b0 : decide ((rd t443 x9_2) ≤ (rd t443 (ji33))) = true := decide_eq_true c36
               clear c36
               have H' := Aside0.mk H
               clear H
               try go_wp2
               have n0_ := Aside0.mk (Kd.R_drew HO_8.out)
               have n1_ := Aside0.mk (Kd.R_drew HO_447000.out)
               have n2_ := Aside0.mk (Kd.R_drew HO_447001.out)
               have n3_ := Aside0.mk (blk_drew BK439.out)
               have n4_ := Aside0.mk (blk_drew BK446.out)
               have n5_ := Aside0.mk (below_drew1 HB.out)
               clear HO_8
               clear HO_447000
               clear HO_447001
               clear BK439
               clear BK446
               clear HB
               have HO_8 := n0_
               have HO_447000 := n1_
               have HO_447001 := n2_
               have BK439 := n3_
               have BK446 := n4_
               have HB := n5_
               clear n0_ n1_ n2_ n3_ n4_ n5_
               have p452 : 0 ≤ ((ji33) : Int) := of_decide_eq_true (by first | (with_reducible assumption) | assumption)
               have q452 : (ji33) < (t443.length : Int) := of_decide_eq_true (by first | (with_reducible assumption) | assumption)
               obtain ⟨ad452, e452, hx452_0⟩ := Kd.at_int (Kd.R_reads' HO_447001.out).2.2 (ji33) p452 q452
               obtain rfl : ad451 = ad452 := (by injection e452)
               replace p452 := eq_true p452
               replace q452 := eq_true q452
               refine start_ (n := 44) (S := fun w' => w'.cell? ⟨gb446, 0, none⟩ = some (.slice Ao11 t440.length co11) ∧ w'.cell? ⟨gb446, 1, none⟩ = some (.slice (some ad451) t443.length co14) ∧ w'.cell? (ad451.add ((ji33)).toNat) = some (.int .i64 (rd t443 (ji33)))) (ds := []) (Sq.bl 44 0) (by kernel_rfl) rfl rfl ⟨(blk_cell BK446.out 0).trans rfl, (blk_cell BK446.out 1).trans rfl, hx452_0⟩ (fun hHeld => ?_); refine with_tabW jalousielaw05_ViewEnds.tab9 jalousielaw05_ViewEnds.bits9 (fun HT_ HW_ => ?_)
               generalize wr.drew = w37 at HO_8 HO_447000 HO_447001 BK439 BK446 HB hx452_0 hHeld ⊢
               refine Sq.pu (v := ?_) (a' := ?_) 0 45 (Sq.bl 44 1) (any_of HT_.out (by kernel_rfl)) rfl rfl (fun _ _ _ h => h) (by rfl) ?_ ?_ ?_; rotate_left; (· intro w'; go_simp; with_reducible rfl); rotate_left; (· simp only [Act.put,zp1,zp2,zp3,zp4,zp5]; rfl)
               refine Sq.pu (v := ?_) (a' := ?_) 1 46 (Sq.bl 44 3) (any_of HT_.out (by kernel_rfl)) rfl rfl (fun _ _ _ h => h) (by rfl) ?_ ?_ ?_; rotate_left; (· intro w'; go_simp; with_reducible rfl); rotate_left; (· simp only [Act.put,zp1,zp2,zp3,zp4,zp5]; rfl)
               refine Sq.pu (v := ?_) (a' := ?_) 2 47 (Sq.bl 44 7) (any_of HT_.out (by kernel_rfl)) rfl rfl (fun _ _ _ h => h) (by rfl) ?_ ?_ ?_; rotate_left; (· intro w'; go_simp; with_reducible rfl); rotate_left; (· simp only [Act.put,zp1,zp2,zp3,zp4,zp5]; rfl)
               refine Sq.pu (v := ?_) (a' := ?_) 3 48 (Sq.bl 44 15) (any_of HT_.out (by kernel_rfl)) rfl rfl (fun _ _ _ h => h) (by rfl) ?_ ?_ ?_; rotate_left; (· intro w'; go_simp; with_reducible rfl); rotate_left; (· simp only [Act.put,zp1,zp2,zp3,zp4,zp5]; rfl)
               refine Sq.pu (v := ?_) (a' := ?_) 4 49 (Sq.bl 44 31) (any_of HT_.out (by kernel_rfl)) rfl rfl (fun _ _ _ h => h) (by rfl) ?_ ?_ ?_; rotate_left; (· intro w'; go_simp; with_reducible rfl); rotate_left; (· simp only [Act.put,zp1,zp2,zp3,zp4,zp5]; rfl)
               refine Sq.pu (v := ?_) (a' := ?_) 5 50 (Sq.bl 44 63) (any_of HT_.out (by kernel_rfl)) rfl rfl (fun _ _ _ h => h) (by rfl) ?_ ?_ ?_; rotate_left; (· intro w'; go_simp; with_reducible rfl); rotate_left; (· simp only [Act.put,zp1,zp2,zp3,zp4,zp5]; rfl)
               refine Sq.pu (v := ?_) (a' := ?_) 6 51 (Sq.bl 44 127) (any_of HT_.out (by kernel_rfl)) rfl rfl (fun _ _ _ h => h) (by rfl) ?_ ?_ ?_; rotate_left; (· intro w'; go_simp; with_reducible rfl); rotate_left; (· simp only [Act.put,zp1,zp2,zp3,zp4,zp5]; rfl)
               refine Sq.pu (v := ?_) (a' := ?_) 7 52 (Sq.bl 44 255) (any_of HT_.out (by kernel_rfl)) rfl rfl (fun _ _ _ h => h) (by rfl) ?_ ?_ ?_; rotate_left; (· intro w'; go_simp; with_reducible rfl); rotate_left; (· simp only [Act.put,zp1,zp2,zp3,zp4,zp5]; rfl)
               refine Sq.pu (v := ?_) (a' := ?_) 8 53 (Sq.bl 44 511) (any_of HT_.out (by kernel_rfl)) rfl rfl (fun _ _ _ h => h) (by rfl) ?_ ?_ ?_; rotate_left; (· intro w'; go_simp; with_reducible rfl); rotate_left; (· simp only [Act.put,zp1,zp2,zp3,zp4,zp5]; rfl)
               refine Sq.pu (v := ?_) (a' := ?_) 9 54 (Sq.bl 44 1023) (any_of HT_.out (by kernel_rfl)) rfl rfl (fun _ _ _ h => h) (by rfl) ?_ ?_ ?_; rotate_left; (· intro w'; go_simp; with_reducible rfl); rotate_left; (· simp only [Act.put,zp1,zp2,zp3,zp4,zp5]; rfl)
               refine Sq.pu (v := ?_) (a' := ?_) 10 55 (Sq.bl 44 2047) (any_of HT_.out (by kernel_rfl)) rfl rfl (fun _ _ _ h => h) (by rfl) ?_ ?_ ?_; rotate_left; (· intro w'; go_simp; with_reducible rfl); rotate_left; (· simp only [Act.put,zp1,zp2,zp3,zp4,zp5]; rfl)
               refine Sq.pu (v := ?_) (a' := ?_) 11 56 (Sq.bl 44 4095) (any_of HT_.out (by kernel_rfl)) rfl rfl (fun _ _ _ h => h) (by rfl) ?_ ?_ ?_; rotate_left; (· intro w'; go_simp; with_reducible rfl); rotate_left; (· simp only [Act.put,zp1,zp2,zp3,zp4,zp5]; rfl)
               refine Sq.pu (v := ?_) (a' := ?_) 12 57 (Sq.bl 44 8191) (any_of HT_.out (by kernel_rfl)) rfl rfl (fun _ _ _ h => h) (by rfl) ?_ ?_ ?_; rotate_left; (· intro w'; go_simp; with_reducible rfl); rotate_left; (· simp only [Act.put,zp1,zp2,zp3,zp4,zp5]; rfl)
               refine Sq.pu (v := ?_) (a' := ?_) 13 58 (Sq.bl 44 16383) (any_of HT_.out (by kernel_rfl)) rfl rfl (fun _ _ _ h => h) (by rfl) ?_ ?_ ?_; rotate_left; (· intro w'; go_simp; with_reducible rfl); rotate_left; (· simp only [Act.put,zp1,zp2,zp3,zp4,zp5]; rfl)
               refine Sq.pu (v := ?_) (a' := ?_) 15 60 (Sq.bl 44 49151) (any_of HT_.out (by kernel_rfl)) rfl rfl (fun _ _ _ h => h) (by rfl) ?_ ?_ ?_; rotate_left; (· intro w'; go_simp; with_reducible rfl); rotate_left; (· simp only [Act.put,zp1,zp2,zp3,zp4,zp5]; rfl)
               refine Sq.pu (v := ?_) (a' := ?_) 16 61 (Sq.bl 44 114687) (any_of HT_.out (by kernel_rfl)) rfl rfl (fun _ _ _ h => h) (by rfl) ?_ ?_ ?_; rotate_left; (· intro w'; go_simp; with_reducible rfl); rotate_left; (· simp only [Act.put,zp1,zp2,zp3,zp4,zp5]; rfl)
               refine take_ (i := 14) (N := some 59) (v := ?_) (a' := ?_) (Sq.bl 44 131071) rfl rfl (take_ofW HT_.out HW_.out (by kernel_rfl)) (fun _ _ _ h => h) (Or.inl ⟨by rfl, ?_⟩) hHeld ?_ ?_
               rotate_left
               ·rintro w' ⟨s0, s1, s2⟩
                go_simp
                with_reducible rfl
               rotate_left
               ·simp only [Act.put,zp1,zp2,zp3,zp4,zp5]
                rfl
               refine Sq.pu (v := ?_) (a' := ?_) 17 62 (Sq.bl 44 262143) (any_of HT_.out (by kernel_rfl)) rfl rfl (fun _ _ _ h => h) (by rfl) ?_ ?_ ?_; rotate_left; (· intro w'; go_simp; with_reducible rfl); rotate_left; (· simp only [Act.put,zp1,zp2,zp3,zp4,zp5]; rfl)
               refine take_ (i := 18) (N := some 63) (v := ?_) (a' := ?_) (Sq.bl 44 524287) rfl rfl (take_ofW HT_.out HW_.out (by kernel_rfl)) (fun _ _ _ h => h) (Or.inl ⟨by rfl, ?_⟩) hHeld ?_ ?_
               rotate_left
               ·rintro w' ⟨s0, s1, s2⟩
                go_simp
                with_reducible rfl
               rotate_left
               ·simp only [Act.put,zp1,zp2,zp3,zp4,zp5]
                rfl
               refine Sq.pu (v := ?_) (a' := ?_) 19 64 (Sq.bl 44 1048575) (any_of HT_.out (by kernel_rfl)) rfl rfl (fun _ _ _ h => h) (by rfl) ?_ ?_ ?_; rotate_left; (· intro w'; go_simp; with_reducible rfl); rotate_left; (· simp only [Act.put,zp1,zp2,zp3,zp4,zp5]; rfl)
               refine Sq.pu (v := ?_) (a' := ?_) 20 65 (Sq.bl 44 2097151) (any_of HT_.out (by kernel_rfl)) rfl rfl (fun _ _ _ h => h) (by rfl) ?_ ?_ ?_; rotate_left; (· intro w'; go_simp; with_reducible rfl); rotate_left; (· simp only [Act.put,zp1,zp2,zp3,zp4,zp5]; rfl)
               refine Sq.pu (v := ?_) (a' := ?_) 21 66 (Sq.bl 44 4194303) (any_of HT_.out (by kernel_rfl)) rfl rfl (fun _ _ _ h => h) (by rfl) ?_ ?_ ?_; rotate_left; (· intro w'; go_simp; with_reducible rfl); rotate_left; (· simp only [Act.put,zp1,zp2,zp3,zp4,zp5]; rfl)
               refine Sq.pu (v := ?_) (a' := ?_) 22 67 (Sq.bl 44 8388607) (any_of HT_.out (by kernel_rfl)) rfl rfl (fun _ _ _ h => h) (by rfl) ?_ ?_ ?_; rotate_left; (· intro w'; go_simp; with_reducible rfl); rotate_left; (· simp only [Act.put,zp1,zp2,zp3,zp4,zp5]; rfl)
               refine pure_ (i := 23) (N := some 68) (v := undef) (a' := ?_) (Sq.bl 44 16777215) rfl rfl (any_of HT_.out (by kernel_rfl)) (fun _ _ _ h => h) (Or.inr ⟨by rfl, rfl⟩) ?_ ?_
               rotate_left
               ·simp only [Act.put,zp1,zp2,zp3,zp4,zp5]
                rfl
               refine pure_ (i := 24) (N := some 69) (v := undef) (a' := ?_) (Sq.bl 44 33554431) rfl rfl (any_of HT_.out (by kernel_rfl)) (fun _ _ _ h => h) (Or.inr ⟨by rfl, rfl⟩) ?_ ?_
               rotate_left
               ·simp only [Act.put,zp1,zp2,zp3,zp4,zp5]
                rfl
               refine pure_ (i := 25) (N := some 70) (v := undef) (a' := ?_) (Sq.bl 44 67108863) rfl rfl (any_of HT_.out (by kernel_rfl)) (fun _ _ _ h => h) (Or.inr ⟨by rfl, rfl⟩) ?_ ?_
               rotate_left
               ·simp only [Act.put,zp1,zp2,zp3,zp4,zp5]
                rfl
               refine pure_ (i := 26) (N := some 71) (v := undef) (a' := ?_) (Sq.bl 44 134217727) rfl rfl (any_of HT_.out (by kernel_rfl)) (fun _ _ _ h => h) (Or.inr ⟨by rfl, rfl⟩) ?_ ?_
               rotate_left
               ·simp only [Act.put,zp1,zp2,zp3,zp4,zp5]
                rfl
               refine pure_ (i := 27) (N := some 72) (v := undef) (a' := ?_) (Sq.bl 44 268435455) rfl rfl (any_of HT_.out (by kernel_rfl)) (fun _ _ _ h => h) (Or.inr ⟨by rfl, rfl⟩) ?_ ?_
               rotate_left
               ·simp only [Act.put,zp1,zp2,zp3,zp4,zp5]
                rfl
               refine pure_ (i := 28) (N := some 73) (v := undef) (a' := ?_) (Sq.bl 44 536870911) rfl rfl (any_of HT_.out (by kernel_rfl)) (fun _ _ _ h => h) (Or.inr ⟨by rfl, rfl⟩) ?_ ?_
               rotate_left
               ·simp only [Act.put,zp1,zp2,zp3,zp4,zp5]
                rfl
               refine pure_ (i := 29) (N := some 74) (v := undef) (a' := ?_) (Sq.bl 44 1073741823) rfl rfl (any_of HT_.out (by kernel_rfl)) (fun _ _ _ h => h) (Or.inr ⟨by rfl, rfl⟩) ?_ ?_
               rotate_left
               ·simp only [Act.put,zp1,zp2,zp3,zp4,zp5]
                rfl
               refine pure_ (i := 30) (N := some 75) (v := undef) (a' := ?_) (Sq.bl 44 2147483647) rfl rfl (any_of HT_.out (by kernel_rfl)) (fun _ _ _ h => h) (Or.inr ⟨by rfl, rfl⟩) ?_ ?_
               rotate_left
               ·simp only [Act.put,zp1,zp2,zp3,zp4,zp5]
                rfl
               refine pure_ (i := 31) (N := some 76) (v := undef) (a' := ?_) (Sq.bl 44 4294967295) rfl rfl (any_of HT_.out (by kernel_rfl)) (fun _ _ _ h => h) (Or.inr ⟨by rfl, rfl⟩) ?_ ?_
               rotate_left
               ·simp only [Act.put,zp1,zp2,zp3,zp4,zp5]
                rfl
               refine pure_ (i := 32) (N := some 77) (v := undef) (a' := ?_) (Sq.bl 44 8589934591) rfl rfl (any_of HT_.out (by kernel_rfl)) (fun _ _ _ h => h) (Or.inr ⟨by rfl, rfl⟩) ?_ ?_
               rotate_left
               ·simp only [Act.put,zp1,zp2,zp3,zp4,zp5]
                rfl
               refine Sq.pu (v := ?_) (a' := ?_) 33 78 (Sq.bl 44 17179869183) (any_of HT_.out (by kernel_rfl)) rfl rfl (fun _ _ _ h => h) (by rfl) ?_ ?_ ?_; rotate_left; (· intro w'; go_simp; with_reducible rfl); rotate_left; (· simp only [Act.put,zp1,zp2,zp3,zp4,zp5]; rfl)
               refine Sq.pu (v := ?_) (a' := ?_) 34 79 (Sq.bl 44 34359738367) (any_of HT_.out (by kernel_rfl)) rfl rfl (fun _ _ _ h => h) (by rfl) ?_ ?_ ?_; rotate_left; (· intro w'; go_simp; with_reducible rfl); rotate_left; (· simp only [Act.put,zp1,zp2,zp3,zp4,zp5]; rfl)
               refine pure_ (i := 35) (N := some 80) (v := undef) (a' := ?_) (Sq.bl 44 68719476735) rfl rfl (any_of HT_.out (by kernel_rfl)) (fun _ _ _ h => h) (Or.inr ⟨by rfl, rfl⟩) ?_ ?_
               rotate_left
               ·simp only [Act.put,zp1,zp2,zp3,zp4,zp5]
                rfl
               refine pure_ (i := 36) (N := some 81) (v := undef) (a' := ?_) (Sq.bl 44 137438953471) rfl rfl (any_of HT_.out (by kernel_rfl)) (fun _ _ _ h => h) (Or.inr ⟨by rfl, rfl⟩) ?_ ?_
               rotate_left
               ·simp only [Act.put,zp1,zp2,zp3,zp4,zp5]
                rfl
               refine pure_ (i := 37) (N := some 82) (v := undef) (a' := ?_) (Sq.bl 44 274877906943) rfl rfl (any_of HT_.out (by kernel_rfl)) (fun _ _ _ h => h) (Or.inr ⟨by rfl, rfl⟩) ?_ ?_
               rotate_left
               ·simp only [Act.put,zp1,zp2,zp3,zp4,zp5]
                rfl
               refine pure_ (i := 38) (N := some 83) (v := undef) (a' := ?_) (Sq.bl 44 549755813887) rfl rfl (any_of HT_.out (by kernel_rfl)) (fun _ _ _ h => h) (Or.inr ⟨by rfl, rfl⟩) ?_ ?_
               rotate_left
               ·simp only [Act.put,zp1,zp2,zp3,zp4,zp5]
                rfl
               refine pure_ (i := 39) (N := some 84) (v := undef) (a' := ?_) (Sq.bl 44 1099511627775) rfl rfl (any_of HT_.out (by kernel_rfl)) (fun _ _ _ h => h) (Or.inr ⟨by rfl, rfl⟩) ?_ ?_
               rotate_left
               ·simp only [Act.put,zp1,zp2,zp3,zp4,zp5]
                rfl
               refine pure_ (i := 40) (N := some 85) (v := undef) (a' := ?_) (Sq.bl 44 2199023255551) rfl rfl (any_of HT_.out (by kernel_rfl)) (fun _ _ _ h => h) (Or.inr ⟨by rfl, rfl⟩) ?_ ?_
               rotate_left
               ·simp only [Act.put,zp1,zp2,zp3,zp4,zp5]
                rfl
               refine pure_ (i := 41) (N := some 86) (v := undef) (a' := ?_) (Sq.bl 44 4398046511103) rfl rfl (any_of HT_.out (by kernel_rfl)) (fun _ _ _ h => h) (Or.inr ⟨by rfl, rfl⟩) ?_ ?_
               rotate_left
               ·simp only [Act.put,zp1,zp2,zp3,zp4,zp5]
                rfl
               refine pure_ (i := 42) (N := some 87) (v := undef) (a' := ?_) (Sq.bl 44 8796093022207) rfl rfl (any_of HT_.out (by kernel_rfl)) (fun _ _ _ h => h) (Or.inr ⟨by rfl, rfl⟩) ?_ ?_
               rotate_left
               ·simp only [Act.put,zp1,zp2,zp3,zp4,zp5]
                rfl
               refine Sq.pu (v := ?_) (a' := ?_) 43 88 (Sq.bl 44 17592186044415) (any_of HT_.out (by kernel_rfl)) rfl rfl (fun _ _ _ h => h) (by rfl) ?_ ?_ ?_; rotate_left; (· intro w'; go_simp; with_reducible rfl); rotate_left; (· simp only [Act.put,zp1,zp2,zp3,zp4,zp5]; rfl)
               refine done_ (done_of HT_.out (by kernel_rfl)) ?_
               try go_wp2
               go_meet
               case rel => exact ⟨_, (true), (by first | rfl | (simp; done) | (simp [*]; done)), H', ⟨by have := HJ5.out; have := HK2.out; first | omega | exact Nat.le_refl _⟩, ⟨by (with_reducible repeat first|apply zr1|apply zr2|apply zr3); exact HO_8.out⟩, ⟨by (with_reducible repeat first|apply zr1|apply zr2|apply zr3); exact HO_447000.out⟩, ⟨by (with_reducible repeat first|apply zr1|apply zr2|apply zr3); exact HO_447001.out⟩, ⟨by (with_reducible repeat first|refine zb1 ?_ _|refine zb2 ?_|refine zb3 ?_ _); exact BK439.out⟩, ⟨by (with_reducible repeat first|refine zb1 ?_ _|refine zb2 ?_|refine zb3 ?_ _); exact BK446.out⟩, ⟨by repeat (first | (with_reducible first | exact HB.out | apply below_alloc | apply pw_below_drewN | apply below_drew1 | refine below_set ?_ GE439.out | refine below_set ?_ GE446.out) | exact HB.out)⟩⟩
              ·rw [if_neg c36] at H
               have c36b0 : decide ((rd t443 x9_2) ≤ (rd t443 (ji33))) = false := decide_eq_false c36
               clear c36
               by_cases c38 : x9_2 < (t447.length : Int)
               ·rw [if_pos c38] at H
                have c38b0 : decide (x9_2 < (t447.length : Int)) = true := decide_eq_true c38
                clear c38
                by_cases c39 : 0 ≤ (rd t443 x9_2)
                ·rw [if_pos c39] at H
                 have c39b0 : decide (0 ≤ (rd t443 x9_2)) = true := decide_eq_true c39
                 clear c39
                 by_cases c40 : (rd t443 x9_2) < (l0.length : Int)
                 ·rw [if_pos c40] at H
                  have c40b0 : decide ((rd t443 x9_2) < (l0.length : Int)) = true := decide_eq_true c40
                  clear c40
                  by_cases c41 : (rd t447 x9_2) = ((rd_T63 l0 (rd t443 x9_2)).f0)
                  ·rw [if_pos c41] at H
                   have c41b0 : ((rd t447 x9_2) == ((rd_T63 l0 (rd t443 x9_2)).f0)) = true := beq_iff_eq.mpr c41
                   have c41b1 : ((rd t447 x9_2) != ((rd_T63 l0 (rd t443 x9_2)).f0)) = false := bne_eq_false_iff_eq.mpr c41
                   clear c41
                   replace H := Option.bind_eq_some_iff.mp H
                   obtain ⟨t456, A420, H⟩ := H
                   replace H : (jalousielaw05_ViewEnds.j2 k2 l0 t447 x9_2 (rd t443 x9_2) (!t456) a1_0 a1_1 t440 t443) = some r := H
                   have A42 := Aside0.mk A420
                   clear A420
                   have H' := Aside0.mk H
                   clear H
                   try go_wp2
                   have n0_ := Aside0.mk (Kd.R_drew HO_8.out)
                   have n1_ := Aside0.mk (Kd.R_drew HO_447000.out)
                   have n2_ := Aside0.mk (Kd.R_drew HO_447001.out)
                   have n3_ := Aside0.mk (blk_drew BK439.out)
                   have n4_ := Aside0.mk (blk_drew BK446.out)
                   have n5_ := Aside0.mk (below_drew1 HB.out)
                   clear HO_8
                   clear HO_447000
                   clear HO_447001
                   clear BK439
                   clear BK446
                   clear HB
                   have HO_8 := n0_
                   have HO_447000 := n1_
                   have HO_447001 := n2_
                   have BK439 := n3_
                   have BK446 := n4_
                   have HB := n5_
                   clear n0_ n1_ n2_ n3_ n4_ n5_
                   have p452 : 0 ≤ ((ji33) : Int) := of_decide_eq_true (by first | (with_reducible assumption) | assumption)
                   have q452 : (ji33) < (t443.length : Int) := of_decide_eq_true (by first | (with_reducible assumption) | assumption)
                   obtain ⟨ad452, e452, hx452_0⟩ := Kd.at_int (Kd.R_reads' HO_447001.out).2.2 (ji33) p452 q452
                   obtain rfl : ad451 = ad452 := (by injection e452)
                   replace p452 := eq_true p452
                   replace q452 := eq_true q452
                   obtain ⟨Ao44, co44, eo44⟩ := Kd.R_slice HO_8.out
                   (first | subst eo44 | (injection eo44 with f1_ f2_ f3_; have f4_ := f1_.symm; have f5_ := f3_.symm; clear f1_ f2_ f3_; subst f4_; subst f5_))
                   have p453 : 0 ≤ (x9_2 : Int) := of_decide_eq_true (by first | (with_reducible assumption) | assumption)
                   have q453 : x9_2 < (t447.length : Int) := of_decide_eq_true (by first | (with_reducible assumption) | assumption)
                   obtain ⟨ad453, e453, hx453_0⟩ := Kd.at_int (Kd.R_reads' HO_8.out).2.2 x9_2 p453 q453
                   cases e453
                   replace p453 := eq_true p453
                   replace q453 := eq_true q453
                   have p454 : 0 ≤ ((rd t443 x9_2) : Int) := of_decide_eq_true (by first | (with_reducible assumption) | assumption)
                   have q454 : (rd t443 x9_2) < (l0.length : Int) := of_decide_eq_true (by first | (with_reducible assumption) | assumption)
                   obtain ⟨ad454, e454, hx454_0, hx454_1, hx454_2, hx454_3, hx454_4, hx454_5⟩ := at_T63 HR0.out (rd t443 x9_2) p454 q454
                   have hw454_5 := hx454_5
                   have hw454_4 := hx454_4
                   have hw454_3 := hx454_3
                   have hw454_2 := hx454_2
                   have hw454_1 := hx454_1
                   have hw454_0 := hx454_0
                   cases e454
                   replace hx454_0 := (HB.out.cell (World.block_lt_of_cell? w _ hx454_0)).trans hx454_0
                   replace hx454_1 := (HB.out.cell (World.block_lt_of_cell? w _ hx454_1)).trans hx454_1
                   replace hx454_2 := (HB.out.cell (World.block_lt_of_cell? w _ hx454_2)).trans hx454_2
                   replace hx454_3 := (HB.out.cell (World.block_lt_of_cell? w _ hx454_3)).trans hx454_3
                   replace hx454_4 := (HB.out.cell (World.block_lt_of_cell? w _ hx454_4)).trans hx454_4
                   replace hx454_5 := (HB.out.cell (World.block_lt_of_cell? w _ hx454_5)).trans hx454_5
                   replace p454 := eq_true p454
                   replace q454 := eq_true q454
                   have p455 : 0 ≤ ((rd t443 x9_2) : Int) := of_decide_eq_true (by first | (with_reducible assumption) | assumption)
                   have q455 : (rd t443 x9_2) < (l0.length : Int) := of_decide_eq_true (by first | (with_reducible assumption) | assumption)
                   obtain ⟨ad455, e455, hx455_0, hx455_1, hx455_2, hx455_3, hx455_4, hx455_5⟩ := at_T63 HR0.out (rd t443 x9_2) p455 q455
                   have hw455_5 := hx455_5
                   have hw455_4 := hx455_4
                   have hw455_3 := hx455_3
                   have hw455_2 := hx455_2
                   have hw455_1 := hx455_1
                   have hw455_0 := hx455_0
                   obtain rfl : ad454 = ad455 := (by injection e455)
                   replace hx455_0 := (HB.out.cell (World.block_lt_of_cell? w _ hx455_0)).trans hx455_0
                   replace hx455_1 := (HB.out.cell (World.block_lt_of_cell? w _ hx455_1)).trans hx455_1
                   replace hx455_2 := (HB.out.cell (World.block_lt_of_cell? w _ hx455_2)).trans hx455_2
                   replace hx455_3 := (HB.out.cell (World.block_lt_of_cell? w _ hx455_3)).trans hx455_3
                   replace hx455_4 := (HB.out.cell (World.block_lt_of_cell? w _ hx455_4)).trans hx455_4
                   replace hx455_5 := (HB.out.cell (World.block_lt_of_cell? w _ hx455_5)).trans hx455_5
                   replace p455 := eq_true p455
                   replace q455 := eq_true q455
                   refine start_ (n := 44) (S := fun w' => w'.cell? ⟨gb446, 0, none⟩ = some (.slice Ao11 t440.length co11) ∧ w'.cell? ⟨gb446, 1, none⟩ = some (.slice (some ad451) t443.length co14) ∧ w'.cell? ⟨gb439, 0, none⟩ = some (.int .i64 a1_0) ∧ w'.cell? ⟨gb439, 1, none⟩ = some (.int .u64 a1_1) ∧ w'.cell? (ad451.add ((ji33)).toNat) = some (.int .i64 (rd t443 (ji33))) ∧ w'.cell? (ad453.add (x9_2).toNat) = some (.int .i64 (rd t447 x9_2)) ∧ w'.cell? (ad454.add (((rd t443 x9_2)).toNat * 6)) = some (.int .i64 ((rd_T63 l0 (rd t443 x9_2)).f0)) ∧ w'.cell? ⟨(ad454.add (((rd t443 x9_2)).toNat * 6)).block, (ad454.add (((rd t443 x9_2)).toNat * 6)).off + 1, none⟩ = some (.int .i64 ((rd_T63 l0 (rd t443 x9_2)).f1.f0)) ∧ w'.cell? ⟨(ad454.add (((rd t443 x9_2)).toNat * 6)).block, (ad454.add (((rd t443 x9_2)).toNat * 6)).off + 2, none⟩ = some (.int .u64 ((rd_T63 l0 (rd t443 x9_2)).f1.f1)) ∧ w'.cell? ⟨(ad454.add (((rd t443 x9_2)).toNat * 6)).block, (ad454.add (((rd t443 x9_2)).toNat * 6)).off + 3, none⟩ = some (.bool ((rd_T63 l0 (rd t443 x9_2)).f2)) ∧ w'.cell? ⟨(ad454.add (((rd t443 x9_2)).toNat * 6)).block, (ad454.add (((rd t443 x9_2)).toNat * 6)).off + 4, none⟩ = some (.string ((rd_T63 l0 (rd t443 x9_2)).f3.f0)) ∧ w'.cell? ⟨(ad454.add (((rd t443 x9_2)).toNat * 6)).block, (ad454.add (((rd t443 x9_2)).toNat * 6)).off + 5, none⟩ = some (.bool ((rd_T63 l0 (rd t443 x9_2)).f3.f1)) ∧ w'.cell? (ad454.add (((rd t443 x9_2)).toNat * 6)) = some (.int .i64 ((rd_T63 l0 (rd t443 x9_2)).f0)) ∧ w'.cell? ⟨(ad454.add (((rd t443 x9_2)).toNat * 6)).block, (ad454.add (((rd t443 x9_2)).toNat * 6)).off + 1, none⟩ = some (.int .i64 ((rd_T63 l0 (rd t443 x9_2)).f1.f0)) ∧ w'.cell? ⟨(ad454.add (((rd t443 x9_2)).toNat * 6)).block, (ad454.add (((rd t443 x9_2)).toNat * 6)).off + 2, none⟩ = some (.int .u64 ((rd_T63 l0 (rd t443 x9_2)).f1.f1)) ∧ w'.cell? ⟨(ad454.add (((rd t443 x9_2)).toNat * 6)).block, (ad454.add (((rd t443 x9_2)).toNat * 6)).off + 3, none⟩ = some (.bool ((rd_T63 l0 (rd t443 x9_2)).f2)) ∧ w'.cell? ⟨(ad454.add (((rd t443 x9_2)).toNat * 6)).block, (ad454.add (((rd t443 x9_2)).toNat * 6)).off + 4, none⟩ = some (.string ((rd_T63 l0 (rd t443 x9_2)).f3.f0)) ∧ w'.cell? ⟨(ad454.add (((rd t443 x9_2)).toNat * 6)).block, (ad454.add (((rd t443 x9_2)).toNat * 6)).off + 5, none⟩ = some (.bool ((rd_T63 l0 (rd t443 x9_2)).f3.f1))) (ds := []) (Sq.bl 44 0) (by kernel_rfl) rfl rfl ⟨(blk_cell BK446.out 0).trans rfl, (blk_cell BK446.out 1).trans rfl, (blk_cell BK439.out 0).trans rfl, (blk_cell BK439.out 1).trans rfl, hx452_0, hx453_0, ((HB.out.cell (World.block_lt_of_cell? w _ hw454_0)).trans hw454_0), ((HB.out.cell (World.block_lt_of_cell? w _ hw454_1)).trans hw454_1), ((HB.out.cell (World.block_lt_of_cell? w _ hw454_2)).trans hw454_2), ((HB.out.cell (World.block_lt_of_cell? w _ hw454_3)).trans hw454_3), ((HB.out.cell (World.block_lt_of_cell? w _ hw454_4)).trans hw454_4), ((HB.out.cell (World.block_lt_of_cell? w _ hw454_5)).trans hw454_5), ((HB.out.cell (World.block_lt_of_cell? w _ hw455_0)).trans hw455_0), ((HB.out.cell (World.block_lt_of_cell? w _ hw455_1)).trans hw455_1), ((HB.out.cell (World.block_lt_of_cell? w _ hw455_2)).trans hw455_2), ((HB.out.cell (World.block_lt_of_cell? w _ hw455_3)).trans hw455_3), ((HB.out.cell (World.block_lt_of_cell? w _ hw455_4)).trans hw455_4), ((HB.out.cell (World.block_lt_of_cell? w _ hw455_5)).trans hw455_5)⟩ (fun hHeld => ?_); refine with_tabW jalousielaw05_ViewEnds.tab9 jalousielaw05_ViewEnds.bits9 (fun HT_ HW_ => ?_)
                   generalize wr.drew = w43 at HO_8 HO_447000 HO_447001 BK439 BK446 HB hx452_0 hx453_0 hx454_0 hx454_1 hx454_2 hx454_3 hx454_4 hx454_5 hx455_0 hx455_1 hx455_2 hx455_3 hx455_4 hx455_5 hHeld ⊢
                   refine Sq.pu (v := ?_) (a' := ?_) 0 45 (Sq.bl 44 1) (any_of HT_.out (by kernel_rfl)) rfl rfl (fun _ _ _ h => h) (by rfl) ?_ ?_ ?_; rotate_left; (· intro w'; go_simp; with_reducible rfl); rotate_left; (· simp only [Act.put,zp1,zp2,zp3,zp4,zp5]; rfl)
                   refine Sq.pu (v := ?_) (a' := ?_) 1 46 (Sq.bl 44 3) (any_of HT_.out (by kernel_rfl)) rfl rfl (fun _ _ _ h => h) (by rfl) ?_ ?_ ?_; rotate_left; (· intro w'; go_simp; with_reducible rfl); rotate_left; (· simp only [Act.put,zp1,zp2,zp3,zp4,zp5]; rfl)
                   refine Sq.pu (v := ?_) (a' := ?_) 2 47 (Sq.bl 44 7) (any_of HT_.out (by kernel_rfl)) rfl rfl (fun _ _ _ h => h) (by rfl) ?_ ?_ ?_; rotate_left; (· intro w'; go_simp; with_reducible rfl); rotate_left; (· simp only [Act.put,zp1,zp2,zp3,zp4,zp5]; rfl)
                   refine Sq.pu (v := ?_) (a' := ?_) 3 48 (Sq.bl 44 15) (any_of HT_.out (by kernel_rfl)) rfl rfl (fun _ _ _ h => h) (by rfl) ?_ ?_ ?_; rotate_left; (· intro w'; go_simp; with_reducible rfl); rotate_left; (· simp only [Act.put,zp1,zp2,zp3,zp4,zp5]; rfl)
                   refine Sq.pu (v := ?_) (a' := ?_) 4 49 (Sq.bl 44 31) (any_of HT_.out (by kernel_rfl)) rfl rfl (fun _ _ _ h => h) (by rfl) ?_ ?_ ?_; rotate_left; (· intro w'; go_simp; with_reducible rfl); rotate_left; (· simp only [Act.put,zp1,zp2,zp3,zp4,zp5]; rfl)
                   refine Sq.pu (v := ?_) (a' := ?_) 5 50 (Sq.bl 44 63) (any_of HT_.out (by kernel_rfl)) rfl rfl (fun _ _ _ h => h) (by rfl) ?_ ?_ ?_; rotate_left; (· intro w'; go_simp; with_reducible rfl); rotate_left; (· simp only [Act.put,zp1,zp2,zp3,zp4,zp5]; rfl)
                   refine Sq.pu (v := ?_) (a' := ?_) 6 51 (Sq.bl 44 127) (any_of HT_.out (by kernel_rfl)) rfl rfl (fun _ _ _ h => h) (by rfl) ?_ ?_ ?_; rotate_left; (· intro w'; go_simp; with_reducible rfl); rotate_left; (· simp only [Act.put,zp1,zp2,zp3,zp4,zp5]; rfl)
                   refine Sq.pu (v := ?_) (a' := ?_) 7 52 (Sq.bl 44 255) (any_of HT_.out (by kernel_rfl)) rfl rfl (fun _ _ _ h => h) (by rfl) ?_ ?_ ?_; rotate_left; (· intro w'; go_simp; with_reducible rfl); rotate_left; (· simp only [Act.put,zp1,zp2,zp3,zp4,zp5]; rfl)
                   refine Sq.pu (v := ?_) (a' := ?_) 8 53 (Sq.bl 44 511) (any_of HT_.out (by kernel_rfl)) rfl rfl (fun _ _ _ h => h) (by rfl) ?_ ?_ ?_; rotate_left; (· intro w'; go_simp; with_reducible rfl); rotate_left; (· simp only [Act.put,zp1,zp2,zp3,zp4,zp5]; rfl)
                   refine Sq.pu (v := ?_) (a' := ?_) 9 54 (Sq.bl 44 1023) (any_of HT_.out (by kernel_rfl)) rfl rfl (fun _ _ _ h => h) (by rfl) ?_ ?_ ?_; rotate_left; (· intro w'; go_simp; with_reducible rfl); rotate_left; (· simp only [Act.put,zp1,zp2,zp3,zp4,zp5]; rfl)
                   refine Sq.pu (v := ?_) (a' := ?_) 10 55 (Sq.bl 44 2047) (any_of HT_.out (by kernel_rfl)) rfl rfl (fun _ _ _ h => h) (by rfl) ?_ ?_ ?_; rotate_left; (· intro w'; go_simp; with_reducible rfl); rotate_left; (· simp only [Act.put,zp1,zp2,zp3,zp4,zp5]; rfl)
                   refine Sq.pu (v := ?_) (a' := ?_) 11 56 (Sq.bl 44 4095) (any_of HT_.out (by kernel_rfl)) rfl rfl (fun _ _ _ h => h) (by rfl) ?_ ?_ ?_; rotate_left; (· intro w'; go_simp; with_reducible rfl); rotate_left; (· simp only [Act.put,zp1,zp2,zp3,zp4,zp5]; rfl)
                   refine Sq.pu (v := ?_) (a' := ?_) 12 57 (Sq.bl 44 8191) (any_of HT_.out (by kernel_rfl)) rfl rfl (fun _ _ _ h => h) (by rfl) ?_ ?_ ?_; rotate_left; (· intro w'; go_simp; with_reducible rfl); rotate_left; (· simp only [Act.put,zp1,zp2,zp3,zp4,zp5]; rfl)
                   refine Sq.pu (v := ?_) (a' := ?_) 13 58 (Sq.bl 44 16383) (any_of HT_.out (by kernel_rfl)) rfl rfl (fun _ _ _ h => h) (by rfl) ?_ ?_ ?_; rotate_left; (· intro w'; go_simp; with_reducible rfl); rotate_left; (· simp only [Act.put,zp1,zp2,zp3,zp4,zp5]; rfl)
                   refine Sq.pu (v := ?_) (a' := ?_) 15 60 (Sq.bl 44 49151) (any_of HT_.out (by kernel_rfl)) rfl rfl (fun _ _ _ h => h) (by rfl) ?_ ?_ ?_; rotate_left; (· intro w'; go_simp; with_reducible rfl); rotate_left; (· simp only [Act.put,zp1,zp2,zp3,zp4,zp5]; rfl)
                   refine Sq.pu (v := ?_) (a' := ?_) 16 61 (Sq.bl 44 114687) (any_of HT_.out (by kernel_rfl)) rfl rfl (fun _ _ _ h => h) (by rfl) ?_ ?_ ?_; rotate_left; (· intro w'; go_simp; with_reducible rfl); rotate_left; (· simp only [Act.put,zp1,zp2,zp3,zp4,zp5]; rfl)
                   refine take_ (i := 14) (N := some 59) (v := ?_) (a' := ?_) (Sq.bl 44 131071) rfl rfl (take_ofW HT_.out HW_.out (by kernel_rfl)) (fun _ _ _ h => h) (Or.inl ⟨by rfl, ?_⟩) hHeld ?_ ?_
                   rotate_left
                   ·rintro w' ⟨s0, s1, s2, s3, s4, s5, s6, s7, s8, s9, s10, s11, s12, s13, s14, s15, s16, s17⟩
                    go_simp
                    with_reducible rfl
                   rotate_left
                   ·simp only [Act.put,zp1,zp2,zp3,zp4,zp5]
                    rfl
                   refine Sq.pu (v := ?_) (a' := ?_) 17 62 (Sq.bl 44 262143) (any_of HT_.out (by kernel_rfl)) rfl rfl (fun _ _ _ h => h) (by rfl) ?_ ?_ ?_; rotate_left; (· intro w'; go_simp; with_reducible rfl); rotate_left; (· simp only [Act.put,zp1,zp2,zp3,zp4,zp5]; rfl)
                   refine take_ (i := 18) (N := some 63) (v := ?_) (a' := ?_) (Sq.bl 44 524287) rfl rfl (take_ofW HT_.out HW_.out (by kernel_rfl)) (fun _ _ _ h => h) (Or.inl ⟨by rfl, ?_⟩) hHeld ?_ ?_
                   rotate_left
                   ·rintro w' ⟨s0, s1, s2, s3, s4, s5, s6, s7, s8, s9, s10, s11, s12, s13, s14, s15, s16, s17⟩
                    go_simp
                    with_reducible rfl
                   rotate_left
                   ·simp only [Act.put,zp1,zp2,zp3,zp4,zp5]
                    rfl
                   refine Sq.pu (v := ?_) (a' := ?_) 19 64 (Sq.bl 44 1048575) (any_of HT_.out (by kernel_rfl)) rfl rfl (fun _ _ _ h => h) (by rfl) ?_ ?_ ?_; rotate_left; (· intro w'; go_simp; with_reducible rfl); rotate_left; (· simp only [Act.put,zp1,zp2,zp3,zp4,zp5]; rfl)
                   refine Sq.pu (v := ?_) (a' := ?_) 20 65 (Sq.bl 44 2097151) (any_of HT_.out (by kernel_rfl)) rfl rfl (fun _ _ _ h => h) (by rfl) ?_ ?_ ?_; rotate_left; (· intro w'; go_simp; with_reducible rfl); rotate_left; (· simp only [Act.put,zp1,zp2,zp3,zp4,zp5]; rfl)
                   refine Sq.pu (v := ?_) (a' := ?_) 21 66 (Sq.bl 44 4194303) (any_of HT_.out (by kernel_rfl)) rfl rfl (fun _ _ _ h => h) (by rfl) ?_ ?_ ?_; rotate_left; (· intro w'; go_simp; with_reducible rfl); rotate_left; (· simp only [Act.put,zp1,zp2,zp3,zp4,zp5]; rfl)
                   refine Sq.pu (v := ?_) (a' := ?_) 22 67 (Sq.bl 44 8388607) (any_of HT_.out (by kernel_rfl)) rfl rfl (fun _ _ _ h => h) (by rfl) ?_ ?_ ?_; rotate_left; (· intro w'; go_simp; with_reducible rfl); rotate_left; (· simp only [Act.put,zp1,zp2,zp3,zp4,zp5]; rfl)
                   refine Sq.pu (v := ?_) (a' := ?_) 23 68 (Sq.bl 44 16777215) (any_of HT_.out (by kernel_rfl)) rfl rfl (fun _ _ _ h => h) (by rfl) ?_ ?_ ?_; rotate_left; (· intro w'; go_simp; with_reducible rfl); rotate_left; (· simp only [Act.put,zp1,zp2,zp3,zp4,zp5]; rfl)
                   refine Sq.pu (v := ?_) (a' := ?_) 24 69 (Sq.bl 44 33554431) (any_of HT_.out (by kernel_rfl)) rfl rfl (fun _ _ _ h => h) (by rfl) ?_ ?_ ?_; rotate_left; (· intro w'; go_simp; with_reducible rfl); rotate_left; (· simp only [Act.put,zp1,zp2,zp3,zp4,zp5]; rfl)
                   refine Sq.pu (v := ?_) (a' := ?_) 25 70 (Sq.bl 44 67108863) (any_of HT_.out (by kernel_rfl)) rfl rfl (fun _ _ _ h => h) (by rfl) ?_ ?_ ?_; rotate_left; (· intro w'; go_simp; with_reducible rfl); rotate_left; (· simp only [Act.put,zp1,zp2,zp3,zp4,zp5]; rfl)
                   refine Sq.pu (v := ?_) (a' := ?_) 27 72 (Sq.bl 44 201326591) (any_of HT_.out (by kernel_rfl)) rfl rfl (fun _ _ _ h => h) (by rfl) ?_ ?_ ?_; rotate_left; (· intro w'; go_simp; with_reducible rfl); rotate_left; (· simp only [Act.put,zp1,zp2,zp3,zp4,zp5]; rfl)
                   refine Sq.pu (v := ?_) (a' := ?_) 28 73 (Sq.bl 44 469762047) (any_of HT_.out (by kernel_rfl)) rfl rfl (fun _ _ _ h => h) (by rfl) ?_ ?_ ?_; rotate_left; (· intro w'; go_simp; with_reducible rfl); rotate_left; (· simp only [Act.put,zp1,zp2,zp3,zp4,zp5]; rfl)
                   refine Sq.pu (v := ?_) (a' := ?_) 29 74 (Sq.bl 44 1006632959) (any_of HT_.out (by kernel_rfl)) rfl rfl (fun _ _ _ h => h) (by rfl) ?_ ?_ ?_; rotate_left; (· intro w'; go_simp; with_reducible rfl); rotate_left; (· simp only [Act.put,zp1,zp2,zp3,zp4,zp5]; rfl)
                   refine Sq.pu (v := ?_) (a' := ?_) 30 75 (Sq.bl 44 2080374783) (any_of HT_.out (by kernel_rfl)) rfl rfl (fun _ _ _ h => h) (by rfl) ?_ ?_ ?_; rotate_left; (· intro w'; go_simp; with_reducible rfl); rotate_left; (· simp only [Act.put,zp1,zp2,zp3,zp4,zp5]; rfl)
                   refine take_ (i := 26) (N := some 71) (v := ?_) (a' := ?_) (Sq.bl 44 2147483647) rfl rfl (take_ofW HT_.out HW_.out (by kernel_rfl)) (fun _ _ _ h => h) (Or.inl ⟨by rfl, ?_⟩) hHeld ?_ ?_
                   rotate_left
                   ·rintro w' ⟨s0, s1, s2, s3, s4, s5, s6, s7, s8, s9, s10, s11, s12, s13, s14, s15, s16, s17⟩
                    go_simp
                    with_reducible rfl
                   rotate_left
                   ·simp only [Act.put,zp1,zp2,zp3,zp4,zp5]
                    rfl
                   refine take_ (i := 31) (N := some 76) (v := ?_) (a' := ?_) (Sq.bl 44 4294967295) rfl rfl (take_ofW HT_.out HW_.out (by kernel_rfl)) (fun _ _ _ h => h) (Or.inl ⟨by rfl, ?_⟩) hHeld ?_ ?_
                   rotate_left
                   ·rintro w' ⟨s0, s1, s2, s3, s4, s5, s6, s7, s8, s9, s10, s11, s12, s13, s14, s15, s16, s17⟩
                    go_simp
                    with_reducible rfl
                   rotate_left
                   ·simp only [Act.put,zp1,zp2,zp3,zp4,zp5]
                    rfl
                   refine Sq.pu (v := ?_) (a' := ?_) 32 77 (Sq.bl 44 8589934591) (any_of HT_.out (by kernel_rfl)) rfl rfl (fun _ _ _ h => h) (by rfl) ?_ ?_ ?_; rotate_left; (· intro w'; go_simp; with_reducible rfl); rotate_left; (· simp only [Act.put,zp1,zp2,zp3,zp4,zp5]; rfl)
                   refine Sq.pu (v := ?_) (a' := ?_) 33 78 (Sq.bl 44 17179869183) (any_of HT_.out (by kernel_rfl)) rfl rfl (fun _ _ _ h => h) (by rfl) ?_ ?_ ?_; rotate_left; (· intro w'; go_simp; with_reducible rfl); rotate_left; (· simp only [Act.put,zp1,zp2,zp3,zp4,zp5]; rfl)
                   refine Sq.pu (v := ?_) (a' := ?_) 34 79 (Sq.bl 44 34359738367) (any_of HT_.out (by kernel_rfl)) rfl rfl (fun _ _ _ h => h) (by rfl) ?_ ?_ ?_; rotate_left; (· intro w'; go_simp; with_reducible rfl); rotate_left; (· simp only [Act.put,zp1,zp2,zp3,zp4,zp5]; rfl)
                   refine Sq.pu (v := ?_) (a' := ?_) 35 80 (Sq.bl 44 68719476735) (any_of HT_.out (by kernel_rfl)) rfl rfl (fun _ _ _ h => h) (by rfl) ?_ ?_ ?_; rotate_left; (· intro w'; go_simp; with_reducible rfl); rotate_left; (· simp only [Act.put,zp1,zp2,zp3,zp4,zp5]; rfl)
                   refine Sq.pu (v := ?_) (a' := ?_) 36 81 (Sq.bl 44 137438953471) (any_of HT_.out (by kernel_rfl)) rfl rfl (fun _ _ _ h => h) (by rfl) ?_ ?_ ?_; rotate_left; (· intro w'; go_simp; with_reducible rfl); rotate_left; (· simp only [Act.put,zp1,zp2,zp3,zp4,zp5]; rfl)
                   refine Sq.pu (v := ?_) (a' := ?_) 37 82 (Sq.bl 44 274877906943) (any_of HT_.out (by kernel_rfl)) rfl rfl (fun _ _ _ h => h) (by rfl) ?_ ?_ ?_; rotate_left; (· intro w'; go_simp; with_reducible rfl); rotate_left; (· simp only [Act.put,zp1,zp2,zp3,zp4,zp5]; rfl)
                   refine Sq.pu (v := ?_) (a' := ?_) 38 83 (Sq.bl 44 549755813887) (any_of HT_.out (by kernel_rfl)) rfl rfl (fun _ _ _ h => h) (by rfl) ?_ ?_ ?_; rotate_left; (· intro w'; go_simp; with_reducible rfl); rotate_left; (· simp only [Act.put,zp1,zp2,zp3,zp4,zp5]; rfl)
                   refine take_ (i := 39) (N := some 84) (v := ?_) (a' := ?_) (Sq.bl 44 1099511627775) rfl rfl (take_ofW HT_.out HW_.out (by kernel_rfl)) (fun _ _ _ h => h) (Or.inl ⟨by rfl, ?_⟩) hHeld ?_ ?_
                   rotate_left
                   ·rintro w' ⟨s0, s1, s2, s3, s4, s5, s6, s7, s8, s9, s10, s11, s12, s13, s14, s15, s16, s17⟩
                    go_simp
                    with_reducible rfl
                   rotate_left
                   ·simp only [Act.put,zp1,zp2,zp3,zp4,zp5]
                    rfl
                   refine take_ (i := 40) (N := some 85) (v := ?_) (a' := ?_) (Sq.bl 44 2199023255551) rfl rfl (take_ofW HT_.out HW_.out (by kernel_rfl)) (fun _ _ _ h => h) (Or.inl ⟨by rfl, ?_⟩) hHeld ?_ ?_
                   rotate_left
                   ·rintro w' ⟨s0, s1, s2, s3, s4, s5, s6, s7, s8, s9, s10, s11, s12, s13, s14, s15, s16, s17⟩
                    go_simp
                    with_reducible rfl
                   rotate_left
                   ·simp only [Act.put,zp1,zp2,zp3,zp4,zp5]
                    rfl
                   refine one_ (i := 41) (N := some 86) (Sq.bl 44 4398046511103) rfl rfl (one_of HT_.out (by kernel_rfl)) (by decide) (fun K hK => ?_)
                   refine goes_ Try.func13 (by kernel_rfl) rfl #[.agg #[.int .i64 ((rd_T63 l0 (rd t443 x9_2)).f1.f0), .int .u64 ((rd_T63 l0 (rd t443 x9_2)).f1.f1)], .agg #[.int .i64 a1_0, .int .u64 a1_1]] (by rfl) rfl rfl (by (try simp only [List.map_toArray, List.map_cons, List.map_nil]); first | done | rfl | (simp only [List.length_drop, List.length_take]; rfl)) ?_
                   with_reducible refine (jalousieref02_Below.calls k2 ((rd_T63 l0 (rd t443 x9_2)).f1.f0) ((rd_T63 l0 (rd t443 x9_2)).f1.f1) a1_0 a1_1 t456 _ A42.out).mono ?_
                   rintro e w45 ⟨rfl, hb⟩
                   have HS4_ := (hb.cell (World.block_lt_of_cell? _ _ (hHeld.2.2.2.2.1))).trans (hHeld.2.2.2.2.1)
                   have HS5_ := (hb.cell (World.block_lt_of_cell? _ _ (hHeld.2.2.2.2.2.1))).trans (hHeld.2.2.2.2.2.1)
                   refine ⟨_, rfl, ?_⟩
                   have n0_ := Aside0.mk (Kd.R_below (by (with_reducible repeat first|apply zr1|apply zr2|apply zr3); exact HO_8.out) hb)
                   have n1_ := Aside0.mk (Kd.R_below (by (with_reducible repeat first|apply zr1|apply zr2|apply zr3); exact HO_447000.out) hb)
                   have n2_ := Aside0.mk (Kd.R_below (by (with_reducible repeat first|apply zr1|apply zr2|apply zr3); exact HO_447001.out) hb)
                   have n3_ := Aside0.mk (blk_below (g := gb439) (o := .cells #[.int .i64 a1_0, .int .u64 a1_1] 25 (0, 0)) (by (with_reducible repeat first|refine zb1 ?_ _|refine zb2 ?_|refine zb3 ?_ _); exact BK439.out) hb)
                   have n4_ := Aside0.mk (blk_below (g := gb446) (o := .cells #[.slice Ao11 t440.length co11, .slice (some ad451) t443.length co14] 42 (0, 0)) (by (with_reducible repeat first|refine zb1 ?_ _|refine zb2 ?_|refine zb3 ?_ _); exact BK446.out) hb)
                   have n5_ := Aside0.mk (below_step (by repeat (first | (with_reducible first | exact HB.out | apply below_alloc | apply pw_below_drewN | apply below_drew1 | refine below_set ?_ GE439.out | refine below_set ?_ GE446.out) | exact HB.out)) hb)
                   clear HO_8
                   clear HO_447000
                   clear HO_447001
                   clear BK439
                   clear BK446
                   clear HB
                   have HO_8 := n0_
                   have HO_447000 := n1_
                   have HO_447001 := n2_
                   have BK439 := n3_
                   have BK446 := n4_
                   have HB := n5_
                   clear n0_ n1_ n2_ n3_ n4_ n5_
                   (try clear hb)
                   (try clear hb2)
                   (try clear hk)
                   (try clear hi)
                   refine hK.out _ _ ⟨(blk_cell BK446.out 0).trans rfl, (blk_cell BK446.out 1).trans rfl, (blk_cell BK439.out 0).trans rfl, (blk_cell BK439.out 1).trans rfl, HS4_, HS5_, ((HB.out.cell (World.block_lt_of_cell? w _ hw454_0)).trans hw454_0), ((HB.out.cell (World.block_lt_of_cell? w _ hw454_1)).trans hw454_1), ((HB.out.cell (World.block_lt_of_cell? w _ hw454_2)).trans hw454_2), ((HB.out.cell (World.block_lt_of_cell? w _ hw454_3)).trans hw454_3), ((HB.out.cell (World.block_lt_of_cell? w _ hw454_4)).trans hw454_4), ((HB.out.cell (World.block_lt_of_cell? w _ hw454_5)).trans hw454_5), ((HB.out.cell (World.block_lt_of_cell? w _ hw455_0)).trans hw455_0), ((HB.out.cell (World.block_lt_of_cell? w _ hw455_1)).trans hw455_1), ((HB.out.cell (World.block_lt_of_cell? w _ hw455_2)).trans hw455_2), ((HB.out.cell (World.block_lt_of_cell? w _ hw455_3)).trans hw455_3), ((HB.out.cell (World.block_lt_of_cell? w _ hw455_4)).trans hw455_4), ((HB.out.cell (World.block_lt_of_cell? w _ hw455_5)).trans hw455_5)⟩ (fun hHeld => ?_)
                   clear hK K
                   refine norm_ (a' := ?_) ?_ ?_
                   rotate_left
                   ·show Act.put _ (some 86) _ = _
                    simp only [Act.put,zp1,zp2,zp3,zp4,zp5]
                    rfl
                   refine Sq.pu (v := ?_) (a' := ?_) 42 87 (Sq.bl 44 8796093022207) (any_of HT_.out (by kernel_rfl)) rfl rfl (fun _ _ _ h => h) (by rfl) ?_ ?_ ?_; rotate_left; (· intro w'; go_simp; with_reducible rfl); rotate_left; (· simp only [Act.put,zp1,zp2,zp3,zp4,zp5]; rfl)
                   refine Sq.pu (v := ?_) (a' := ?_) 43 88 (Sq.bl 44 17592186044415) (any_of HT_.out (by kernel_rfl)) rfl rfl (fun _ _ _ h => h) (by rfl) ?_ ?_ ?_; rotate_left; (· intro w'; go_simp; with_reducible rfl); rotate_left; (· simp only [Act.put,zp1,zp2,zp3,zp4,zp5]; rfl)
                   refine done_ (done_of HT_.out (by kernel_rfl)) ?_
                   try go_wp2
                   go_meet
                   case rel => exact ⟨_, (!t456), (by first | rfl | (simp; done) | (simp [*]; done)), H', ⟨by have := HJ5.out; have := HK2.out; first | omega | exact Nat.le_refl _⟩, ⟨by (with_reducible repeat first|apply zr1|apply zr2|apply zr3); exact HO_8.out⟩, ⟨by (with_reducible repeat first|apply zr1|apply zr2|apply zr3); exact HO_447000.out⟩, ⟨by (with_reducible repeat first|apply zr1|apply zr2|apply zr3); exact HO_447001.out⟩, ⟨by (with_reducible repeat first|refine zb1 ?_ _|refine zb2 ?_|refine zb3 ?_ _); exact BK439.out⟩, ⟨by (with_reducible repeat first|refine zb1 ?_ _|refine zb2 ?_|refine zb3 ?_ _); exact BK446.out⟩, ⟨by repeat (first | (with_reducible first | exact HB.out | apply below_alloc | apply pw_below_drewN | apply below_drew1 | refine below_set ?_ GE439.out | refine below_set ?_ GE446.out) | exact HB.out)⟩⟩
                  ·rw [if_neg c41] at H
                   have c41b0 : ((rd t447 x9_2) == ((rd_T63 l0 (rd t443 x9_2)).f0)) = false := beq_eq_false_iff_ne.mpr c41
                   have c41b1 : ((rd t447 x9_2) != ((rd_T63 l0 (rd t443 x9_2)).f0)) = true := bne_iff_ne.mpr c41
                   have H' := Aside0.mk H
                   clear H
                   try go_wp2
                   have n0_ := Aside0.mk (Kd.R_drew HO_8.out)
                   have n1_ := Aside0.mk (Kd.R_drew HO_447000.out)
                   have n2_ := Aside0.mk (Kd.R_drew HO_447001.out)
                   have n3_ := Aside0.mk (blk_drew BK439.out)
                   have n4_ := Aside0.mk (blk_drew BK446.out)
                   have n5_ := Aside0.mk (below_drew1 HB.out)
                   clear HO_8
                   clear HO_447000
                   clear HO_447001
                   clear BK439
                   clear BK446
                   clear HB
                   have HO_8 := n0_
                   have HO_447000 := n1_
                   have HO_447001 := n2_
                   have BK439 := n3_
                   have BK446 := n4_
                   have HB := n5_
                   clear n0_ n1_ n2_ n3_ n4_ n5_
                   have p452 : 0 ≤ ((ji33) : Int) := of_decide_eq_true (by first | (with_reducible assumption) | assumption)
                   have q452 : (ji33) < (t443.length : Int) := of_decide_eq_true (by first | (with_reducible assumption) | assumption)
                   obtain ⟨ad452, e452, hx452_0⟩ := Kd.at_int (Kd.R_reads' HO_447001.out).2.2 (ji33) p452 q452
                   obtain rfl : ad451 = ad452 := (by injection e452)
                   replace p452 := eq_true p452
                   replace q452 := eq_true q452
                   obtain ⟨Ao47, co47, eo47⟩ := Kd.R_slice HO_8.out
                   (first | subst eo47 | (injection eo47 with f1_ f2_ f3_; have f4_ := f1_.symm; have f5_ := f3_.symm; clear f1_ f2_ f3_; subst f4_; subst f5_))
                   have p453 : 0 ≤ (x9_2 : Int) := of_decide_eq_true (by first | (with_reducible assumption) | assumption)
                   have q453 : x9_2 < (t447.length : Int) := of_decide_eq_true (by first | (with_reducible assumption) | assumption)
                   obtain ⟨ad453, e453, hx453_0⟩ := Kd.at_int (Kd.R_reads' HO_8.out).2.2 x9_2 p453 q453
                   cases e453
                   replace p453 := eq_true p453
                   replace q453 := eq_true q453
                   have p454 : 0 ≤ ((rd t443 x9_2) : Int) := of_decide_eq_true (by first | (with_reducible assumption) | assumption)
                   have q454 : (rd t443 x9_2) < (l0.length : Int) := of_decide_eq_true (by first | (with_reducible assumption) | assumption)
                   obtain ⟨ad454, e454, hx454_0, hx454_1, hx454_2, hx454_3, hx454_4, hx454_5⟩ := at_T63 HR0.out (rd t443 x9_2) p454 q454
                   have hw454_5 := hx454_5
                   have hw454_4 := hx454_4
                   have hw454_3 := hx454_3
                   have hw454_2 := hx454_2
                   have hw454_1 := hx454_1
                   have hw454_0 := hx454_0
                   cases e454
                   replace hx454_0 := (HB.out.cell (World.block_lt_of_cell? w _ hx454_0)).trans hx454_0
                   replace hx454_1 := (HB.out.cell (World.block_lt_of_cell? w _ hx454_1)).trans hx454_1
                   replace hx454_2 := (HB.out.cell (World.block_lt_of_cell? w _ hx454_2)).trans hx454_2
                   replace hx454_3 := (HB.out.cell (World.block_lt_of_cell? w _ hx454_3)).trans hx454_3
                   replace hx454_4 := (HB.out.cell (World.block_lt_of_cell? w _ hx454_4)).trans hx454_4
                   replace hx454_5 := (HB.out.cell (World.block_lt_of_cell? w _ hx454_5)).trans hx454_5
                   replace p454 := eq_true p454
                   replace q454 := eq_true q454
                   refine start_ (n := 44) (S := fun w' => w'.cell? ⟨gb446, 0, none⟩ = some (.slice Ao11 t440.length co11) ∧ w'.cell? ⟨gb446, 1, none⟩ = some (.slice (some ad451) t443.length co14) ∧ w'.cell? (ad451.add ((ji33)).toNat) = some (.int .i64 (rd t443 (ji33))) ∧ w'.cell? (ad453.add (x9_2).toNat) = some (.int .i64 (rd t447 x9_2)) ∧ w'.cell? (ad454.add (((rd t443 x9_2)).toNat * 6)) = some (.int .i64 ((rd_T63 l0 (rd t443 x9_2)).f0)) ∧ w'.cell? ⟨(ad454.add (((rd t443 x9_2)).toNat * 6)).block, (ad454.add (((rd t443 x9_2)).toNat * 6)).off + 1, none⟩ = some (.int .i64 ((rd_T63 l0 (rd t443 x9_2)).f1.f0)) ∧ w'.cell? ⟨(ad454.add (((rd t443 x9_2)).toNat * 6)).block, (ad454.add (((rd t443 x9_2)).toNat * 6)).off + 2, none⟩ = some (.int .u64 ((rd_T63 l0 (rd t443 x9_2)).f1.f1)) ∧ w'.cell? ⟨(ad454.add (((rd t443 x9_2)).toNat * 6)).block, (ad454.add (((rd t443 x9_2)).toNat * 6)).off + 3, none⟩ = some (.bool ((rd_T63 l0 (rd t443 x9_2)).f2)) ∧ w'.cell? ⟨(ad454.add (((rd t443 x9_2)).toNat * 6)).block, (ad454.add (((rd t443 x9_2)).toNat * 6)).off + 4, none⟩ = some (.string ((rd_T63 l0 (rd t443 x9_2)).f3.f0)) ∧ w'.cell? ⟨(ad454.add (((rd t443 x9_2)).toNat * 6)).block, (ad454.add (((rd t443 x9_2)).toNat * 6)).off + 5, none⟩ = some (.bool ((rd_T63 l0 (rd t443 x9_2)).f3.f1))) (ds := []) (Sq.bl 44 0) (by kernel_rfl) rfl rfl ⟨(blk_cell BK446.out 0).trans rfl, (blk_cell BK446.out 1).trans rfl, hx452_0, hx453_0, ((HB.out.cell (World.block_lt_of_cell? w _ hw454_0)).trans hw454_0), ((HB.out.cell (World.block_lt_of_cell? w _ hw454_1)).trans hw454_1), ((HB.out.cell (World.block_lt_of_cell? w _ hw454_2)).trans hw454_2), ((HB.out.cell (World.block_lt_of_cell? w _ hw454_3)).trans hw454_3), ((HB.out.cell (World.block_lt_of_cell? w _ hw454_4)).trans hw454_4), ((HB.out.cell (World.block_lt_of_cell? w _ hw454_5)).trans hw454_5)⟩ (fun hHeld => ?_); refine with_tabW jalousielaw05_ViewEnds.tab9 jalousielaw05_ViewEnds.bits9 (fun HT_ HW_ => ?_)
                   generalize wr.drew = w46 at HO_8 HO_447000 HO_447001 BK439 BK446 HB hx452_0 hx453_0 hx454_0 hx454_1 hx454_2 hx454_3 hx454_4 hx454_5 hHeld ⊢
                   refine Sq.pu (v := ?_) (a' := ?_) 0 45 (Sq.bl 44 1) (any_of HT_.out (by kernel_rfl)) rfl rfl (fun _ _ _ h => h) (by rfl) ?_ ?_ ?_; rotate_left; (· intro w'; go_simp; with_reducible rfl); rotate_left; (· simp only [Act.put,zp1,zp2,zp3,zp4,zp5]; rfl)
                   refine Sq.pu (v := ?_) (a' := ?_) 1 46 (Sq.bl 44 3) (any_of HT_.out (by kernel_rfl)) rfl rfl (fun _ _ _ h => h) (by rfl) ?_ ?_ ?_; rotate_left; (· intro w'; go_simp; with_reducible rfl); rotate_left; (· simp only [Act.put,zp1,zp2,zp3,zp4,zp5]; rfl)
                   refine Sq.pu (v := ?_) (a' := ?_) 2 47 (Sq.bl 44 7) (any_of HT_.out (by kernel_rfl)) rfl rfl (fun _ _ _ h => h) (by rfl) ?_ ?_ ?_; rotate_left; (· intro w'; go_simp; with_reducible rfl); rotate_left; (· simp only [Act.put,zp1,zp2,zp3,zp4,zp5]; rfl)
                   refine Sq.pu (v := ?_) (a' := ?_) 3 48 (Sq.bl 44 15) (any_of HT_.out (by kernel_rfl)) rfl rfl (fun _ _ _ h => h) (by rfl) ?_ ?_ ?_; rotate_left; (· intro w'; go_simp; with_reducible rfl); rotate_left; (· simp only [Act.put,zp1,zp2,zp3,zp4,zp5]; rfl)
                   refine Sq.pu (v := ?_) (a' := ?_) 4 49 (Sq.bl 44 31) (any_of HT_.out (by kernel_rfl)) rfl rfl (fun _ _ _ h => h) (by rfl) ?_ ?_ ?_; rotate_left; (· intro w'; go_simp; with_reducible rfl); rotate_left; (· simp only [Act.put,zp1,zp2,zp3,zp4,zp5]; rfl)
                   refine Sq.pu (v := ?_) (a' := ?_) 5 50 (Sq.bl 44 63) (any_of HT_.out (by kernel_rfl)) rfl rfl (fun _ _ _ h => h) (by rfl) ?_ ?_ ?_; rotate_left; (· intro w'; go_simp; with_reducible rfl); rotate_left; (· simp only [Act.put,zp1,zp2,zp3,zp4,zp5]; rfl)
                   refine Sq.pu (v := ?_) (a' := ?_) 6 51 (Sq.bl 44 127) (any_of HT_.out (by kernel_rfl)) rfl rfl (fun _ _ _ h => h) (by rfl) ?_ ?_ ?_; rotate_left; (· intro w'; go_simp; with_reducible rfl); rotate_left; (· simp only [Act.put,zp1,zp2,zp3,zp4,zp5]; rfl)
                   refine Sq.pu (v := ?_) (a' := ?_) 7 52 (Sq.bl 44 255) (any_of HT_.out (by kernel_rfl)) rfl rfl (fun _ _ _ h => h) (by rfl) ?_ ?_ ?_; rotate_left; (· intro w'; go_simp; with_reducible rfl); rotate_left; (· simp only [Act.put,zp1,zp2,zp3,zp4,zp5]; rfl)
                   refine Sq.pu (v := ?_) (a' := ?_) 8 53 (Sq.bl 44 511) (any_of HT_.out (by kernel_rfl)) rfl rfl (fun _ _ _ h => h) (by rfl) ?_ ?_ ?_; rotate_left; (· intro w'; go_simp; with_reducible rfl); rotate_left; (· simp only [Act.put,zp1,zp2,zp3,zp4,zp5]; rfl)
                   refine Sq.pu (v := ?_) (a' := ?_) 9 54 (Sq.bl 44 1023) (any_of HT_.out (by kernel_rfl)) rfl rfl (fun _ _ _ h => h) (by rfl) ?_ ?_ ?_; rotate_left; (· intro w'; go_simp; with_reducible rfl); rotate_left; (· simp only [Act.put,zp1,zp2,zp3,zp4,zp5]; rfl)
                   refine Sq.pu (v := ?_) (a' := ?_) 10 55 (Sq.bl 44 2047) (any_of HT_.out (by kernel_rfl)) rfl rfl (fun _ _ _ h => h) (by rfl) ?_ ?_ ?_; rotate_left; (· intro w'; go_simp; with_reducible rfl); rotate_left; (· simp only [Act.put,zp1,zp2,zp3,zp4,zp5]; rfl)
                   refine Sq.pu (v := ?_) (a' := ?_) 11 56 (Sq.bl 44 4095) (any_of HT_.out (by kernel_rfl)) rfl rfl (fun _ _ _ h => h) (by rfl) ?_ ?_ ?_; rotate_left; (· intro w'; go_simp; with_reducible rfl); rotate_left; (· simp only [Act.put,zp1,zp2,zp3,zp4,zp5]; rfl)
                   refine Sq.pu (v := ?_) (a' := ?_) 12 57 (Sq.bl 44 8191) (any_of HT_.out (by kernel_rfl)) rfl rfl (fun _ _ _ h => h) (by rfl) ?_ ?_ ?_; rotate_left; (· intro w'; go_simp; with_reducible rfl); rotate_left; (· simp only [Act.put,zp1,zp2,zp3,zp4,zp5]; rfl)
                   refine Sq.pu (v := ?_) (a' := ?_) 13 58 (Sq.bl 44 16383) (any_of HT_.out (by kernel_rfl)) rfl rfl (fun _ _ _ h => h) (by rfl) ?_ ?_ ?_; rotate_left; (· intro w'; go_simp; with_reducible rfl); rotate_left; (· simp only [Act.put,zp1,zp2,zp3,zp4,zp5]; rfl)
                   refine Sq.pu (v := ?_) (a' := ?_) 15 60 (Sq.bl 44 49151) (any_of HT_.out (by kernel_rfl)) rfl rfl (fun _ _ _ h => h) (by rfl) ?_ ?_ ?_; rotate_left; (· intro w'; go_simp; with_reducible rfl); rotate_left; (· simp only [Act.put,zp1,zp2,zp3,zp4,zp5]; rfl)
                   refine Sq.pu (v := ?_) (a' := ?_) 16 61 (Sq.bl 44 114687) (any_of HT_.out (by kernel_rfl)) rfl rfl (fun _ _ _ h => h) (by rfl) ?_ ?_ ?_; rotate_left; (· intro w'; go_simp; with_reducible rfl); rotate_left; (· simp only [Act.put,zp1,zp2,zp3,zp4,zp5]; rfl)
                   refine take_ (i := 14) (N := some 59) (v := ?_) (a' := ?_) (Sq.bl 44 131071) rfl rfl (take_ofW HT_.out HW_.out (by kernel_rfl)) (fun _ _ _ h => h) (Or.inl ⟨by rfl, ?_⟩) hHeld ?_ ?_
                   rotate_left
                   ·rintro w' ⟨s0, s1, s2, s3, s4, s5, s6, s7, s8, s9⟩
                    go_simp
                    with_reducible rfl
                   rotate_left
                   ·simp only [Act.put,zp1,zp2,zp3,zp4,zp5]
                    rfl
                   refine Sq.pu (v := ?_) (a' := ?_) 17 62 (Sq.bl 44 262143) (any_of HT_.out (by kernel_rfl)) rfl rfl (fun _ _ _ h => h) (by rfl) ?_ ?_ ?_; rotate_left; (· intro w'; go_simp; with_reducible rfl); rotate_left; (· simp only [Act.put,zp1,zp2,zp3,zp4,zp5]; rfl)
                   refine take_ (i := 18) (N := some 63) (v := ?_) (a' := ?_) (Sq.bl 44 524287) rfl rfl (take_ofW HT_.out HW_.out (by kernel_rfl)) (fun _ _ _ h => h) (Or.inl ⟨by rfl, ?_⟩) hHeld ?_ ?_
                   rotate_left
                   ·rintro w' ⟨s0, s1, s2, s3, s4, s5, s6, s7, s8, s9⟩
                    go_simp
                    with_reducible rfl
                   rotate_left
                   ·simp only [Act.put,zp1,zp2,zp3,zp4,zp5]
                    rfl
                   refine Sq.pu (v := ?_) (a' := ?_) 19 64 (Sq.bl 44 1048575) (any_of HT_.out (by kernel_rfl)) rfl rfl (fun _ _ _ h => h) (by rfl) ?_ ?_ ?_; rotate_left; (· intro w'; go_simp; with_reducible rfl); rotate_left; (· simp only [Act.put,zp1,zp2,zp3,zp4,zp5]; rfl)
                   refine Sq.pu (v := ?_) (a' := ?_) 20 65 (Sq.bl 44 2097151) (any_of HT_.out (by kernel_rfl)) rfl rfl (fun _ _ _ h => h) (by rfl) ?_ ?_ ?_; rotate_left; (· intro w'; go_simp; with_reducible rfl); rotate_left; (· simp only [Act.put,zp1,zp2,zp3,zp4,zp5]; rfl)
                   refine Sq.pu (v := ?_) (a' := ?_) 21 66 (Sq.bl 44 4194303) (any_of HT_.out (by kernel_rfl)) rfl rfl (fun _ _ _ h => h) (by rfl) ?_ ?_ ?_; rotate_left; (· intro w'; go_simp; with_reducible rfl); rotate_left; (· simp only [Act.put,zp1,zp2,zp3,zp4,zp5]; rfl)
                   refine Sq.pu (v := ?_) (a' := ?_) 22 67 (Sq.bl 44 8388607) (any_of HT_.out (by kernel_rfl)) rfl rfl (fun _ _ _ h => h) (by rfl) ?_ ?_ ?_; rotate_left; (· intro w'; go_simp; with_reducible rfl); rotate_left; (· simp only [Act.put,zp1,zp2,zp3,zp4,zp5]; rfl)
                   refine Sq.pu (v := ?_) (a' := ?_) 23 68 (Sq.bl 44 16777215) (any_of HT_.out (by kernel_rfl)) rfl rfl (fun _ _ _ h => h) (by rfl) ?_ ?_ ?_; rotate_left; (· intro w'; go_simp; with_reducible rfl); rotate_left; (· simp only [Act.put,zp1,zp2,zp3,zp4,zp5]; rfl)
                   refine Sq.pu (v := ?_) (a' := ?_) 24 69 (Sq.bl 44 33554431) (any_of HT_.out (by kernel_rfl)) rfl rfl (fun _ _ _ h => h) (by rfl) ?_ ?_ ?_; rotate_left; (· intro w'; go_simp; with_reducible rfl); rotate_left; (· simp only [Act.put,zp1,zp2,zp3,zp4,zp5]; rfl)
                   refine Sq.pu (v := ?_) (a' := ?_) 25 70 (Sq.bl 44 67108863) (any_of HT_.out (by kernel_rfl)) rfl rfl (fun _ _ _ h => h) (by rfl) ?_ ?_ ?_; rotate_left; (· intro w'; go_simp; with_reducible rfl); rotate_left; (· simp only [Act.put,zp1,zp2,zp3,zp4,zp5]; rfl)
                   refine Sq.pu (v := ?_) (a' := ?_) 27 72 (Sq.bl 44 201326591) (any_of HT_.out (by kernel_rfl)) rfl rfl (fun _ _ _ h => h) (by rfl) ?_ ?_ ?_; rotate_left; (· intro w'; go_simp; with_reducible rfl); rotate_left; (· simp only [Act.put,zp1,zp2,zp3,zp4,zp5]; rfl)
                   refine Sq.pu (v := ?_) (a' := ?_) 28 73 (Sq.bl 44 469762047) (any_of HT_.out (by kernel_rfl)) rfl rfl (fun _ _ _ h => h) (by rfl) ?_ ?_ ?_; rotate_left; (· intro w'; go_simp; with_reducible rfl); rotate_left; (· simp only [Act.put,zp1,zp2,zp3,zp4,zp5]; rfl)
                   refine Sq.pu (v := ?_) (a' := ?_) 29 74 (Sq.bl 44 1006632959) (any_of HT_.out (by kernel_rfl)) rfl rfl (fun _ _ _ h => h) (by rfl) ?_ ?_ ?_; rotate_left; (· intro w'; go_simp; with_reducible rfl); rotate_left; (· simp only [Act.put,zp1,zp2,zp3,zp4,zp5]; rfl)
                   refine Sq.pu (v := ?_) (a' := ?_) 30 75 (Sq.bl 44 2080374783) (any_of HT_.out (by kernel_rfl)) rfl rfl (fun _ _ _ h => h) (by rfl) ?_ ?_ ?_; rotate_left; (· intro w'; go_simp; with_reducible rfl); rotate_left; (· simp only [Act.put,zp1,zp2,zp3,zp4,zp5]; rfl)
                   refine take_ (i := 26) (N := some 71) (v := ?_) (a' := ?_) (Sq.bl 44 2147483647) rfl rfl (take_ofW HT_.out HW_.out (by kernel_rfl)) (fun _ _ _ h => h) (Or.inl ⟨by rfl, ?_⟩) hHeld ?_ ?_
                   rotate_left
                   ·rintro w' ⟨s0, s1, s2, s3, s4, s5, s6, s7, s8, s9⟩
                    go_simp
                    with_reducible rfl
                   rotate_left
                   ·simp only [Act.put,zp1,zp2,zp3,zp4,zp5]
                    rfl
                   refine take_ (i := 31) (N := some 76) (v := ?_) (a' := ?_) (Sq.bl 44 4294967295) rfl rfl (take_ofW HT_.out HW_.out (by kernel_rfl)) (fun _ _ _ h => h) (Or.inl ⟨by rfl, ?_⟩) hHeld ?_ ?_
                   rotate_left
                   ·rintro w' ⟨s0, s1, s2, s3, s4, s5, s6, s7, s8, s9⟩
                    go_simp
                    with_reducible rfl
                   rotate_left
                   ·simp only [Act.put,zp1,zp2,zp3,zp4,zp5]
                    rfl
                   refine Sq.pu (v := ?_) (a' := ?_) 32 77 (Sq.bl 44 8589934591) (any_of HT_.out (by kernel_rfl)) rfl rfl (fun _ _ _ h => h) (by rfl) ?_ ?_ ?_; rotate_left; (· intro w'; go_simp; with_reducible rfl); rotate_left; (· simp only [Act.put,zp1,zp2,zp3,zp4,zp5]; rfl)
                   refine Sq.pu (v := ?_) (a' := ?_) 33 78 (Sq.bl 44 17179869183) (any_of HT_.out (by kernel_rfl)) rfl rfl (fun _ _ _ h => h) (by rfl) ?_ ?_ ?_; rotate_left; (· intro w'; go_simp; with_reducible rfl); rotate_left; (· simp only [Act.put,zp1,zp2,zp3,zp4,zp5]; rfl)
                   refine Sq.pu (v := ?_) (a' := ?_) 34 79 (Sq.bl 44 34359738367) (any_of HT_.out (by kernel_rfl)) rfl rfl (fun _ _ _ h => h) (by rfl) ?_ ?_ ?_; rotate_left; (· intro w'; go_simp; with_reducible rfl); rotate_left; (· simp only [Act.put,zp1,zp2,zp3,zp4,zp5]; rfl)
                   refine pure_ (i := 35) (N := some 80) (v := undef) (a' := ?_) (Sq.bl 44 68719476735) rfl rfl (any_of HT_.out (by kernel_rfl)) (fun _ _ _ h => h) (Or.inr ⟨by rfl, rfl⟩) ?_ ?_
                   rotate_left
                   ·simp only [Act.put,zp1,zp2,zp3,zp4,zp5]
                    rfl
                   refine pure_ (i := 36) (N := some 81) (v := undef) (a' := ?_) (Sq.bl 44 137438953471) rfl rfl (any_of HT_.out (by kernel_rfl)) (fun _ _ _ h => h) (Or.inr ⟨by rfl, rfl⟩) ?_ ?_
                   rotate_left
                   ·simp only [Act.put,zp1,zp2,zp3,zp4,zp5]
                    rfl
                   refine pure_ (i := 37) (N := some 82) (v := undef) (a' := ?_) (Sq.bl 44 274877906943) rfl rfl (any_of HT_.out (by kernel_rfl)) (fun _ _ _ h => h) (Or.inr ⟨by rfl, rfl⟩) ?_ ?_
                   rotate_left
                   ·simp only [Act.put,zp1,zp2,zp3,zp4,zp5]
                    rfl
                   refine pure_ (i := 38) (N := some 83) (v := undef) (a' := ?_) (Sq.bl 44 549755813887) rfl rfl (any_of HT_.out (by kernel_rfl)) (fun _ _ _ h => h) (Or.inr ⟨by rfl, rfl⟩) ?_ ?_
                   rotate_left
                   ·simp only [Act.put,zp1,zp2,zp3,zp4,zp5]
                    rfl
                   refine pure_ (i := 39) (N := some 84) (v := undef) (a' := ?_) (Sq.bl 44 1099511627775) rfl rfl (any_of HT_.out (by kernel_rfl)) (fun _ _ _ h => h) (Or.inr ⟨by rfl, rfl⟩) ?_ ?_
                   rotate_left
                   ·simp only [Act.put,zp1,zp2,zp3,zp4,zp5]
                    rfl
                   refine pure_ (i := 40) (N := some 85) (v := undef) (a' := ?_) (Sq.bl 44 2199023255551) rfl rfl (any_of HT_.out (by kernel_rfl)) (fun _ _ _ h => h) (Or.inr ⟨by rfl, rfl⟩) ?_ ?_
                   rotate_left
                   ·simp only [Act.put,zp1,zp2,zp3,zp4,zp5]
                    rfl
                   refine pure_ (i := 41) (N := some 86) (v := undef) (a' := ?_) (Sq.bl 44 4398046511103) rfl rfl (any_of HT_.out (by kernel_rfl)) (fun _ _ _ h => h) (Or.inr ⟨by rfl, rfl⟩) ?_ ?_
                   rotate_left
                   ·simp only [Act.put,zp1,zp2,zp3,zp4,zp5]
                    rfl
                   refine pure_ (i := 42) (N := some 87) (v := undef) (a' := ?_) (Sq.bl 44 8796093022207) rfl rfl (any_of HT_.out (by kernel_rfl)) (fun _ _ _ h => h) (Or.inr ⟨by rfl, rfl⟩) ?_ ?_
                   rotate_left
                   ·simp only [Act.put,zp1,zp2,zp3,zp4,zp5]
                    rfl
                   refine Sq.pu (v := ?_) (a' := ?_) 43 88 (Sq.bl 44 17592186044415) (any_of HT_.out (by kernel_rfl)) rfl rfl (fun _ _ _ h => h) (by rfl) ?_ ?_ ?_; rotate_left; (· intro w'; go_simp; with_reducible rfl); rotate_left; (· simp only [Act.put,zp1,zp2,zp3,zp4,zp5]; rfl)
                   refine done_ (done_of HT_.out (by kernel_rfl)) ?_
                   try go_wp2
                   go_meet
                   case rel => exact ⟨_, (true), (by first | rfl | (simp; done) | (simp [*]; done)), H', ⟨by have := HJ5.out; have := HK2.out; first | omega | exact Nat.le_refl _⟩, ⟨by (with_reducible repeat first|apply zr1|apply zr2|apply zr3); exact HO_8.out⟩, ⟨by (with_reducible repeat first|apply zr1|apply zr2|apply zr3); exact HO_447000.out⟩, ⟨by (with_reducible repeat first|apply zr1|apply zr2|apply zr3); exact HO_447001.out⟩, ⟨by (with_reducible repeat first|refine zb1 ?_ _|refine zb2 ?_|refine zb3 ?_ _); exact BK439.out⟩, ⟨by (with_reducible repeat first|refine zb1 ?_ _|refine zb2 ?_|refine zb3 ?_ _); exact BK446.out⟩, ⟨by repeat (first | (with_reducible first | exact HB.out | apply below_alloc | apply pw_below_drewN | apply below_drew1 | refine below_set ?_ GE439.out | refine below_set ?_ GE446.out) | exact HB.out)⟩⟩
                 ·rw [if_neg c40] at H
                  exact absurd H (by simp)
                ·rw [if_neg c39] at H
                 exact absurd H (by simp)
               ·rw [if_neg c38] at H
                exact absurd H (by simp)
             ·rw [if_neg c35] at H
              exact absurd H (by simp)
            ·rw [if_neg c34] at H
             exact absurd H (by simp)
           ·rw [if_neg c32] at H
            have c32b0 : decide (0 < x9_2) = false := decide_eq_false c32
            clear c32
            by_cases c48 : x9_2 < (t447.length : Int)
            ·rw [if_pos c48] at H
             have c48b0 : decide (x9_2 < (t447.length : Int)) = true := decide_eq_true c48
             clear c48
             by_cases c49 : 0 ≤ (rd t443 x9_2)
             ·rw [if_pos c49] at H
              have c49b0 : decide (0 ≤ (rd t443 x9_2)) = true := decide_eq_true c49
              clear c49
              by_cases c50 : (rd t443 x9_2) < (l0.length : Int)
              ·rw [if_pos c50] at H
               have c50b0 : decide ((rd t443 x9_2) < (l0.length : Int)) = true := decide_eq_true c50
               clear c50
               by_cases c51 : (rd t447 x9_2) = ((rd_T63 l0 (rd t443 x9_2)).f0)
               ·rw [if_pos c51] at H
                have c51b0 : ((rd t447 x9_2) == ((rd_T63 l0 (rd t443 x9_2)).f0)) = true := beq_iff_eq.mpr c51
                have c51b1 : ((rd t447 x9_2) != ((rd_T63 l0 (rd t443 x9_2)).f0)) = false := bne_eq_false_iff_eq.mpr c51
                clear c51
                replace H := Option.bind_eq_some_iff.mp H
                obtain ⟨t460, A520, H⟩ := H
                replace H : (jalousielaw05_ViewEnds.j2 k2 l0 t447 x9_2 (rd t443 x9_2) (!t460) a1_0 a1_1 t440 t443) = some r := H
                have A52 := Aside0.mk A520
                clear A520
                have H' := Aside0.mk H
                clear H
                try go_wp2
                have n0_ := Aside0.mk (Kd.R_drew HO_8.out)
                have n1_ := Aside0.mk (Kd.R_drew HO_447000.out)
                have n2_ := Aside0.mk (Kd.R_drew HO_447001.out)
                have n3_ := Aside0.mk (blk_drew BK439.out)
                have n4_ := Aside0.mk (blk_drew BK446.out)
                have n5_ := Aside0.mk (below_drew1 HB.out)
                clear HO_8
                clear HO_447000
                clear HO_447001
                clear BK439
                clear BK446
                clear HB
                have HO_8 := n0_
                have HO_447000 := n1_
                have HO_447001 := n2_
                have BK439 := n3_
                have BK446 := n4_
                have HB := n5_
                clear n0_ n1_ n2_ n3_ n4_ n5_
                obtain ⟨Ao54, co54, eo54⟩ := Kd.R_slice HO_8.out
                (first | subst eo54 | (injection eo54 with f1_ f2_ f3_; have f4_ := f1_.symm; have f5_ := f3_.symm; clear f1_ f2_ f3_; subst f4_; subst f5_))
                have p457 : 0 ≤ (x9_2 : Int) := of_decide_eq_true (by first | (with_reducible assumption) | assumption)
                have q457 : x9_2 < (t447.length : Int) := of_decide_eq_true (by first | (with_reducible assumption) | assumption)
                obtain ⟨ad457, e457, hx457_0⟩ := Kd.at_int (Kd.R_reads' HO_8.out).2.2 x9_2 p457 q457
                cases e457
                replace p457 := eq_true p457
                replace q457 := eq_true q457
                have p458 : 0 ≤ ((rd t443 x9_2) : Int) := of_decide_eq_true (by first | (with_reducible assumption) | assumption)
                have q458 : (rd t443 x9_2) < (l0.length : Int) := of_decide_eq_true (by first | (with_reducible assumption) | assumption)
                obtain ⟨ad458, e458, hx458_0, hx458_1, hx458_2, hx458_3, hx458_4, hx458_5⟩ := at_T63 HR0.out (rd t443 x9_2) p458 q458
                have hw458_5 := hx458_5
                have hw458_4 := hx458_4
                have hw458_3 := hx458_3
                have hw458_2 := hx458_2
                have hw458_1 := hx458_1
                have hw458_0 := hx458_0
                cases e458
                replace hx458_0 := (HB.out.cell (World.block_lt_of_cell? w _ hx458_0)).trans hx458_0
                replace hx458_1 := (HB.out.cell (World.block_lt_of_cell? w _ hx458_1)).trans hx458_1
                replace hx458_2 := (HB.out.cell (World.block_lt_of_cell? w _ hx458_2)).trans hx458_2
                replace hx458_3 := (HB.out.cell (World.block_lt_of_cell? w _ hx458_3)).trans hx458_3
                replace hx458_4 := (HB.out.cell (World.block_lt_of_cell? w _ hx458_4)).trans hx458_4
                replace hx458_5 := (HB.out.cell (World.block_lt_of_cell? w _ hx458_5)).trans hx458_5
                replace p458 := eq_true p458
                replace q458 := eq_true q458
                have p459 : 0 ≤ ((rd t443 x9_2) : Int) := of_decide_eq_true (by first | (with_reducible assumption) | assumption)
                have q459 : (rd t443 x9_2) < (l0.length : Int) := of_decide_eq_true (by first | (with_reducible assumption) | assumption)
                obtain ⟨ad459, e459, hx459_0, hx459_1, hx459_2, hx459_3, hx459_4, hx459_5⟩ := at_T63 HR0.out (rd t443 x9_2) p459 q459
                have hw459_5 := hx459_5
                have hw459_4 := hx459_4
                have hw459_3 := hx459_3
                have hw459_2 := hx459_2
                have hw459_1 := hx459_1
                have hw459_0 := hx459_0
                obtain rfl : ad458 = ad459 := (by injection e459)
                replace hx459_0 := (HB.out.cell (World.block_lt_of_cell? w _ hx459_0)).trans hx459_0
                replace hx459_1 := (HB.out.cell (World.block_lt_of_cell? w _ hx459_1)).trans hx459_1
                replace hx459_2 := (HB.out.cell (World.block_lt_of_cell? w _ hx459_2)).trans hx459_2
                replace hx459_3 := (HB.out.cell (World.block_lt_of_cell? w _ hx459_3)).trans hx459_3
                replace hx459_4 := (HB.out.cell (World.block_lt_of_cell? w _ hx459_4)).trans hx459_4
                replace hx459_5 := (HB.out.cell (World.block_lt_of_cell? w _ hx459_5)).trans hx459_5
                replace p459 := eq_true p459
                replace q459 := eq_true q459
                refine start_ (n := 44) (S := fun w' => w'.cell? ⟨gb439, 0, none⟩ = some (.int .i64 a1_0) ∧ w'.cell? ⟨gb439, 1, none⟩ = some (.int .u64 a1_1) ∧ w'.cell? (ad457.add (x9_2).toNat) = some (.int .i64 (rd t447 x9_2)) ∧ w'.cell? (ad458.add (((rd t443 x9_2)).toNat * 6)) = some (.int .i64 ((rd_T63 l0 (rd t443 x9_2)).f0)) ∧ w'.cell? ⟨(ad458.add (((rd t443 x9_2)).toNat * 6)).block, (ad458.add (((rd t443 x9_2)).toNat * 6)).off + 1, none⟩ = some (.int .i64 ((rd_T63 l0 (rd t443 x9_2)).f1.f0)) ∧ w'.cell? ⟨(ad458.add (((rd t443 x9_2)).toNat * 6)).block, (ad458.add (((rd t443 x9_2)).toNat * 6)).off + 2, none⟩ = some (.int .u64 ((rd_T63 l0 (rd t443 x9_2)).f1.f1)) ∧ w'.cell? ⟨(ad458.add (((rd t443 x9_2)).toNat * 6)).block, (ad458.add (((rd t443 x9_2)).toNat * 6)).off + 3, none⟩ = some (.bool ((rd_T63 l0 (rd t443 x9_2)).f2)) ∧ w'.cell? ⟨(ad458.add (((rd t443 x9_2)).toNat * 6)).block, (ad458.add (((rd t443 x9_2)).toNat * 6)).off + 4, none⟩ = some (.string ((rd_T63 l0 (rd t443 x9_2)).f3.f0)) ∧ w'.cell? ⟨(ad458.add (((rd t443 x9_2)).toNat * 6)).block, (ad458.add (((rd t443 x9_2)).toNat * 6)).off + 5, none⟩ = some (.bool ((rd_T63 l0 (rd t443 x9_2)).f3.f1)) ∧ w'.cell? (ad458.add (((rd t443 x9_2)).toNat * 6)) = some (.int .i64 ((rd_T63 l0 (rd t443 x9_2)).f0)) ∧ w'.cell? ⟨(ad458.add (((rd t443 x9_2)).toNat * 6)).block, (ad458.add (((rd t443 x9_2)).toNat * 6)).off + 1, none⟩ = some (.int .i64 ((rd_T63 l0 (rd t443 x9_2)).f1.f0)) ∧ w'.cell? ⟨(ad458.add (((rd t443 x9_2)).toNat * 6)).block, (ad458.add (((rd t443 x9_2)).toNat * 6)).off + 2, none⟩ = some (.int .u64 ((rd_T63 l0 (rd t443 x9_2)).f1.f1)) ∧ w'.cell? ⟨(ad458.add (((rd t443 x9_2)).toNat * 6)).block, (ad458.add (((rd t443 x9_2)).toNat * 6)).off + 3, none⟩ = some (.bool ((rd_T63 l0 (rd t443 x9_2)).f2)) ∧ w'.cell? ⟨(ad458.add (((rd t443 x9_2)).toNat * 6)).block, (ad458.add (((rd t443 x9_2)).toNat * 6)).off + 4, none⟩ = some (.string ((rd_T63 l0 (rd t443 x9_2)).f3.f0)) ∧ w'.cell? ⟨(ad458.add (((rd t443 x9_2)).toNat * 6)).block, (ad458.add (((rd t443 x9_2)).toNat * 6)).off + 5, none⟩ = some (.bool ((rd_T63 l0 (rd t443 x9_2)).f3.f1))) (ds := []) (Sq.bl 44 0) (by kernel_rfl) rfl rfl ⟨(blk_cell BK439.out 0).trans rfl, (blk_cell BK439.out 1).trans rfl, hx457_0, ((HB.out.cell (World.block_lt_of_cell? w _ hw458_0)).trans hw458_0), ((HB.out.cell (World.block_lt_of_cell? w _ hw458_1)).trans hw458_1), ((HB.out.cell (World.block_lt_of_cell? w _ hw458_2)).trans hw458_2), ((HB.out.cell (World.block_lt_of_cell? w _ hw458_3)).trans hw458_3), ((HB.out.cell (World.block_lt_of_cell? w _ hw458_4)).trans hw458_4), ((HB.out.cell (World.block_lt_of_cell? w _ hw458_5)).trans hw458_5), ((HB.out.cell (World.block_lt_of_cell? w _ hw459_0)).trans hw459_0), ((HB.out.cell (World.block_lt_of_cell? w _ hw459_1)).trans hw459_1), ((HB.out.cell (World.block_lt_of_cell? w _ hw459_2)).trans hw459_2), ((HB.out.cell (World.block_lt_of_cell? w _ hw459_3)).trans hw459_3), ((HB.out.cell (World.block_lt_of_cell? w _ hw459_4)).trans hw459_4), ((HB.out.cell (World.block_lt_of_cell? w _ hw459_5)).trans hw459_5)⟩ (fun hHeld => ?_); refine with_tabW jalousielaw05_ViewEnds.tab9 jalousielaw05_ViewEnds.bits9 (fun HT_ HW_ => ?_)
                generalize wr.drew = w53 at HO_8 HO_447000 HO_447001 BK439 BK446 HB hx457_0 hx458_0 hx458_1 hx458_2 hx458_3 hx458_4 hx458_5 hx459_0 hx459_1 hx459_2 hx459_3 hx459_4 hx459_5 hHeld ⊢
                refine Sq.pu (v := ?_) (a' := ?_) 0 45 (Sq.bl 44 1) (any_of HT_.out (by kernel_rfl)) rfl rfl (fun _ _ _ h => h) (by rfl) ?_ ?_ ?_; rotate_left; (· intro w'; go_simp; with_reducible rfl); rotate_left; (· simp only [Act.put,zp1,zp2,zp3,zp4,zp5]; rfl)
                refine Sq.pu (v := ?_) (a' := ?_) 1 46 (Sq.bl 44 3) (any_of HT_.out (by kernel_rfl)) rfl rfl (fun _ _ _ h => h) (by rfl) ?_ ?_ ?_; rotate_left; (· intro w'; go_simp; with_reducible rfl); rotate_left; (· simp only [Act.put,zp1,zp2,zp3,zp4,zp5]; rfl)
                refine Sq.pu (v := ?_) (a' := ?_) 2 47 (Sq.bl 44 7) (any_of HT_.out (by kernel_rfl)) rfl rfl (fun _ _ _ h => h) (by rfl) ?_ ?_ ?_; rotate_left; (· intro w'; go_simp; with_reducible rfl); rotate_left; (· simp only [Act.put,zp1,zp2,zp3,zp4,zp5]; rfl)
                refine Sq.pu (v := ?_) (a' := ?_) 3 48 (Sq.bl 44 15) (any_of HT_.out (by kernel_rfl)) rfl rfl (fun _ _ _ h => h) (by rfl) ?_ ?_ ?_; rotate_left; (· intro w'; go_simp; with_reducible rfl); rotate_left; (· simp only [Act.put,zp1,zp2,zp3,zp4,zp5]; rfl)
                refine Sq.pu (v := ?_) (a' := ?_) 4 49 (Sq.bl 44 31) (any_of HT_.out (by kernel_rfl)) rfl rfl (fun _ _ _ h => h) (by rfl) ?_ ?_ ?_; rotate_left; (· intro w'; go_simp; with_reducible rfl); rotate_left; (· simp only [Act.put,zp1,zp2,zp3,zp4,zp5]; rfl)
                refine Sq.pu (v := ?_) (a' := ?_) 5 50 (Sq.bl 44 63) (any_of HT_.out (by kernel_rfl)) rfl rfl (fun _ _ _ h => h) (by rfl) ?_ ?_ ?_; rotate_left; (· intro w'; go_simp; with_reducible rfl); rotate_left; (· simp only [Act.put,zp1,zp2,zp3,zp4,zp5]; rfl)
                refine Sq.pu (v := ?_) (a' := ?_) 6 51 (Sq.bl 44 127) (any_of HT_.out (by kernel_rfl)) rfl rfl (fun _ _ _ h => h) (by rfl) ?_ ?_ ?_; rotate_left; (· intro w'; go_simp; with_reducible rfl); rotate_left; (· simp only [Act.put,zp1,zp2,zp3,zp4,zp5]; rfl)
                refine Sq.pu (v := ?_) (a' := ?_) 7 52 (Sq.bl 44 255) (any_of HT_.out (by kernel_rfl)) rfl rfl (fun _ _ _ h => h) (by rfl) ?_ ?_ ?_; rotate_left; (· intro w'; go_simp; with_reducible rfl); rotate_left; (· simp only [Act.put,zp1,zp2,zp3,zp4,zp5]; rfl)
                refine Sq.pu (v := ?_) (a' := ?_) 8 53 (Sq.bl 44 511) (any_of HT_.out (by kernel_rfl)) rfl rfl (fun _ _ _ h => h) (by rfl) ?_ ?_ ?_; rotate_left; (· intro w'; go_simp; with_reducible rfl); rotate_left; (· simp only [Act.put,zp1,zp2,zp3,zp4,zp5]; rfl)
                refine Sq.pu (v := ?_) (a' := ?_) 9 54 (Sq.bl 44 1023) (any_of HT_.out (by kernel_rfl)) rfl rfl (fun _ _ _ h => h) (by rfl) ?_ ?_ ?_; rotate_left; (· intro w'; go_simp; with_reducible rfl); rotate_left; (· simp only [Act.put,zp1,zp2,zp3,zp4,zp5]; rfl)
                refine Sq.pu (v := ?_) (a' := ?_) 10 55 (Sq.bl 44 2047) (any_of HT_.out (by kernel_rfl)) rfl rfl (fun _ _ _ h => h) (by rfl) ?_ ?_ ?_; rotate_left; (· intro w'; go_simp; with_reducible rfl); rotate_left; (· simp only [Act.put,zp1,zp2,zp3,zp4,zp5]; rfl)
                refine Sq.pu (v := ?_) (a' := ?_) 11 56 (Sq.bl 44 4095) (any_of HT_.out (by kernel_rfl)) rfl rfl (fun _ _ _ h => h) (by rfl) ?_ ?_ ?_; rotate_left; (· intro w'; go_simp; with_reducible rfl); rotate_left; (· simp only [Act.put,zp1,zp2,zp3,zp4,zp5]; rfl)
                refine pure_ (i := 12) (N := some 57) (v := undef) (a' := ?_) (Sq.bl 44 8191) rfl rfl (any_of HT_.out (by kernel_rfl)) (fun _ _ _ h => h) (Or.inr ⟨by rfl, rfl⟩) ?_ ?_
                rotate_left
                ·simp only [Act.put,zp1,zp2,zp3,zp4,zp5]
                 rfl
                refine pure_ (i := 13) (N := some 58) (v := undef) (a' := ?_) (Sq.bl 44 16383) rfl rfl (any_of HT_.out (by kernel_rfl)) (fun _ _ _ h => h) (Or.inr ⟨by rfl, rfl⟩) ?_ ?_
                rotate_left
                ·simp only [Act.put,zp1,zp2,zp3,zp4,zp5]
                 rfl
                refine pure_ (i := 14) (N := some 59) (v := undef) (a' := ?_) (Sq.bl 44 32767) rfl rfl (any_of HT_.out (by kernel_rfl)) (fun _ _ _ h => h) (Or.inr ⟨by rfl, rfl⟩) ?_ ?_
                rotate_left
                ·simp only [Act.put,zp1,zp2,zp3,zp4,zp5]
                 rfl
                refine pure_ (i := 15) (N := some 60) (v := undef) (a' := ?_) (Sq.bl 44 65535) rfl rfl (any_of HT_.out (by kernel_rfl)) (fun _ _ _ h => h) (Or.inr ⟨by rfl, rfl⟩) ?_ ?_
                rotate_left
                ·simp only [Act.put,zp1,zp2,zp3,zp4,zp5]
                 rfl
                refine pure_ (i := 16) (N := some 61) (v := undef) (a' := ?_) (Sq.bl 44 131071) rfl rfl (any_of HT_.out (by kernel_rfl)) (fun _ _ _ h => h) (Or.inr ⟨by rfl, rfl⟩) ?_ ?_
                rotate_left
                ·simp only [Act.put,zp1,zp2,zp3,zp4,zp5]
                 rfl
                refine pure_ (i := 17) (N := some 62) (v := undef) (a' := ?_) (Sq.bl 44 262143) rfl rfl (any_of HT_.out (by kernel_rfl)) (fun _ _ _ h => h) (Or.inr ⟨by rfl, rfl⟩) ?_ ?_
                rotate_left
                ·simp only [Act.put,zp1,zp2,zp3,zp4,zp5]
                 rfl
                refine pure_ (i := 18) (N := some 63) (v := undef) (a' := ?_) (Sq.bl 44 524287) rfl rfl (any_of HT_.out (by kernel_rfl)) (fun _ _ _ h => h) (Or.inr ⟨by rfl, rfl⟩) ?_ ?_
                rotate_left
                ·simp only [Act.put,zp1,zp2,zp3,zp4,zp5]
                 rfl
                refine pure_ (i := 19) (N := some 64) (v := undef) (a' := ?_) (Sq.bl 44 1048575) rfl rfl (any_of HT_.out (by kernel_rfl)) (fun _ _ _ h => h) (Or.inr ⟨by rfl, rfl⟩) ?_ ?_
                rotate_left
                ·simp only [Act.put,zp1,zp2,zp3,zp4,zp5]
                 rfl
                refine Sq.pu (v := ?_) (a' := ?_) 20 65 (Sq.bl 44 2097151) (any_of HT_.out (by kernel_rfl)) rfl rfl (fun _ _ _ h => h) (by rfl) ?_ ?_ ?_; rotate_left; (· intro w'; go_simp; with_reducible rfl); rotate_left; (· simp only [Act.put,zp1,zp2,zp3,zp4,zp5]; rfl)
                refine Sq.pu (v := ?_) (a' := ?_) 21 66 (Sq.bl 44 4194303) (any_of HT_.out (by kernel_rfl)) rfl rfl (fun _ _ _ h => h) (by rfl) ?_ ?_ ?_; rotate_left; (· intro w'; go_simp; with_reducible rfl); rotate_left; (· simp only [Act.put,zp1,zp2,zp3,zp4,zp5]; rfl)
                refine Sq.pu (v := ?_) (a' := ?_) 22 67 (Sq.bl 44 8388607) (any_of HT_.out (by kernel_rfl)) rfl rfl (fun _ _ _ h => h) (by rfl) ?_ ?_ ?_; rotate_left; (· intro w'; go_simp; with_reducible rfl); rotate_left; (· simp only [Act.put,zp1,zp2,zp3,zp4,zp5]; rfl)
                refine Sq.pu (v := ?_) (a' := ?_) 23 68 (Sq.bl 44 16777215) (any_of HT_.out (by kernel_rfl)) rfl rfl (fun _ _ _ h => h) (by rfl) ?_ ?_ ?_; rotate_left; (· intro w'; go_simp; with_reducible rfl); rotate_left; (· simp only [Act.put,zp1,zp2,zp3,zp4,zp5]; rfl)
                refine Sq.pu (v := ?_) (a' := ?_) 24 69 (Sq.bl 44 33554431) (any_of HT_.out (by kernel_rfl)) rfl rfl (fun _ _ _ h => h) (by rfl) ?_ ?_ ?_; rotate_left; (· intro w'; go_simp; with_reducible rfl); rotate_left; (· simp only [Act.put,zp1,zp2,zp3,zp4,zp5]; rfl)
                refine Sq.pu (v := ?_) (a' := ?_) 25 70 (Sq.bl 44 67108863) (any_of HT_.out (by kernel_rfl)) rfl rfl (fun _ _ _ h => h) (by rfl) ?_ ?_ ?_; rotate_left; (· intro w'; go_simp; with_reducible rfl); rotate_left; (· simp only [Act.put,zp1,zp2,zp3,zp4,zp5]; rfl)
                refine Sq.pu (v := ?_) (a' := ?_) 27 72 (Sq.bl 44 201326591) (any_of HT_.out (by kernel_rfl)) rfl rfl (fun _ _ _ h => h) (by rfl) ?_ ?_ ?_; rotate_left; (· intro w'; go_simp; with_reducible rfl); rotate_left; (· simp only [Act.put,zp1,zp2,zp3,zp4,zp5]; rfl)
                refine Sq.pu (v := ?_) (a' := ?_) 28 73 (Sq.bl 44 469762047) (any_of HT_.out (by kernel_rfl)) rfl rfl (fun _ _ _ h => h) (by rfl) ?_ ?_ ?_; rotate_left; (· intro w'; go_simp; with_reducible rfl); rotate_left; (· simp only [Act.put,zp1,zp2,zp3,zp4,zp5]; rfl)
                refine Sq.pu (v := ?_) (a' := ?_) 29 74 (Sq.bl 44 1006632959) (any_of HT_.out (by kernel_rfl)) rfl rfl (fun _ _ _ h => h) (by rfl) ?_ ?_ ?_; rotate_left; (· intro w'; go_simp; with_reducible rfl); rotate_left; (· simp only [Act.put,zp1,zp2,zp3,zp4,zp5]; rfl)
                refine Sq.pu (v := ?_) (a' := ?_) 30 75 (Sq.bl 44 2080374783) (any_of HT_.out (by kernel_rfl)) rfl rfl (fun _ _ _ h => h) (by rfl) ?_ ?_ ?_; rotate_left; (· intro w'; go_simp; with_reducible rfl); rotate_left; (· simp only [Act.put,zp1,zp2,zp3,zp4,zp5]; rfl)
                refine take_ (i := 26) (N := some 71) (v := ?_) (a' := ?_) (Sq.bl 44 2147483647) rfl rfl (take_ofW HT_.out HW_.out (by kernel_rfl)) (fun _ _ _ h => h) (Or.inl ⟨by rfl, ?_⟩) hHeld ?_ ?_
                rotate_left
                ·rintro w' ⟨s0, s1, s2, s3, s4, s5, s6, s7, s8, s9, s10, s11, s12, s13, s14⟩
                 go_simp
                 with_reducible rfl
                rotate_left
                ·simp only [Act.put,zp1,zp2,zp3,zp4,zp5]
                 rfl
                refine take_ (i := 31) (N := some 76) (v := ?_) (a' := ?_) (Sq.bl 44 4294967295) rfl rfl (take_ofW HT_.out HW_.out (by kernel_rfl)) (fun _ _ _ h => h) (Or.inl ⟨by rfl, ?_⟩) hHeld ?_ ?_
                rotate_left
                ·rintro w' ⟨s0, s1, s2, s3, s4, s5, s6, s7, s8, s9, s10, s11, s12, s13, s14⟩
                 go_simp
                 with_reducible rfl
                rotate_left
                ·simp only [Act.put,zp1,zp2,zp3,zp4,zp5]
                 rfl
                refine Sq.pu (v := ?_) (a' := ?_) 32 77 (Sq.bl 44 8589934591) (any_of HT_.out (by kernel_rfl)) rfl rfl (fun _ _ _ h => h) (by rfl) ?_ ?_ ?_; rotate_left; (· intro w'; go_simp; with_reducible rfl); rotate_left; (· simp only [Act.put,zp1,zp2,zp3,zp4,zp5]; rfl)
                refine Sq.pu (v := ?_) (a' := ?_) 33 78 (Sq.bl 44 17179869183) (any_of HT_.out (by kernel_rfl)) rfl rfl (fun _ _ _ h => h) (by rfl) ?_ ?_ ?_; rotate_left; (· intro w'; go_simp; with_reducible rfl); rotate_left; (· simp only [Act.put,zp1,zp2,zp3,zp4,zp5]; rfl)
                refine Sq.pu (v := ?_) (a' := ?_) 34 79 (Sq.bl 44 34359738367) (any_of HT_.out (by kernel_rfl)) rfl rfl (fun _ _ _ h => h) (by rfl) ?_ ?_ ?_; rotate_left; (· intro w'; go_simp; with_reducible rfl); rotate_left; (· simp only [Act.put,zp1,zp2,zp3,zp4,zp5]; rfl)
                refine Sq.pu (v := ?_) (a' := ?_) 35 80 (Sq.bl 44 68719476735) (any_of HT_.out (by kernel_rfl)) rfl rfl (fun _ _ _ h => h) (by rfl) ?_ ?_ ?_; rotate_left; (· intro w'; go_simp; with_reducible rfl); rotate_left; (· simp only [Act.put,zp1,zp2,zp3,zp4,zp5]; rfl)
                refine Sq.pu (v := ?_) (a' := ?_) 36 81 (Sq.bl 44 137438953471) (any_of HT_.out (by kernel_rfl)) rfl rfl (fun _ _ _ h => h) (by rfl) ?_ ?_ ?_; rotate_left; (· intro w'; go_simp; with_reducible rfl); rotate_left; (· simp only [Act.put,zp1,zp2,zp3,zp4,zp5]; rfl)
                refine Sq.pu (v := ?_) (a' := ?_) 37 82 (Sq.bl 44 274877906943) (any_of HT_.out (by kernel_rfl)) rfl rfl (fun _ _ _ h => h) (by rfl) ?_ ?_ ?_; rotate_left; (· intro w'; go_simp; with_reducible rfl); rotate_left; (· simp only [Act.put,zp1,zp2,zp3,zp4,zp5]; rfl)
                refine Sq.pu (v := ?_) (a' := ?_) 38 83 (Sq.bl 44 549755813887) (any_of HT_.out (by kernel_rfl)) rfl rfl (fun _ _ _ h => h) (by rfl) ?_ ?_ ?_; rotate_left; (· intro w'; go_simp; with_reducible rfl); rotate_left; (· simp only [Act.put,zp1,zp2,zp3,zp4,zp5]; rfl)
                refine take_ (i := 39) (N := some 84) (v := ?_) (a' := ?_) (Sq.bl 44 1099511627775) rfl rfl (take_ofW HT_.out HW_.out (by kernel_rfl)) (fun _ _ _ h => h) (Or.inl ⟨by rfl, ?_⟩) hHeld ?_ ?_
                rotate_left
                ·rintro w' ⟨s0, s1, s2, s3, s4, s5, s6, s7, s8, s9, s10, s11, s12, s13, s14⟩
                 go_simp
                 with_reducible rfl
                rotate_left
                ·simp only [Act.put,zp1,zp2,zp3,zp4,zp5]
                 rfl
                refine take_ (i := 40) (N := some 85) (v := ?_) (a' := ?_) (Sq.bl 44 2199023255551) rfl rfl (take_ofW HT_.out HW_.out (by kernel_rfl)) (fun _ _ _ h => h) (Or.inl ⟨by rfl, ?_⟩) hHeld ?_ ?_
                rotate_left
                ·rintro w' ⟨s0, s1, s2, s3, s4, s5, s6, s7, s8, s9, s10, s11, s12, s13, s14⟩
                 go_simp
                 with_reducible rfl
                rotate_left
                ·simp only [Act.put,zp1,zp2,zp3,zp4,zp5]
                 rfl
                refine one_ (i := 41) (N := some 86) (Sq.bl 44 4398046511103) rfl rfl (one_of HT_.out (by kernel_rfl)) (by decide) (fun K hK => ?_)
                refine goes_ Try.func13 (by kernel_rfl) rfl #[.agg #[.int .i64 ((rd_T63 l0 (rd t443 x9_2)).f1.f0), .int .u64 ((rd_T63 l0 (rd t443 x9_2)).f1.f1)], .agg #[.int .i64 a1_0, .int .u64 a1_1]] (by rfl) rfl rfl (by (try simp only [List.map_toArray, List.map_cons, List.map_nil]); first | done | rfl | (simp only [List.length_drop, List.length_take]; rfl)) ?_
                with_reducible refine (jalousieref02_Below.calls k2 ((rd_T63 l0 (rd t443 x9_2)).f1.f0) ((rd_T63 l0 (rd t443 x9_2)).f1.f1) a1_0 a1_1 t460 _ A52.out).mono ?_
                rintro e w55 ⟨rfl, hb⟩
                have HS2_ := (hb.cell (World.block_lt_of_cell? _ _ (hHeld.2.2.1))).trans (hHeld.2.2.1)
                refine ⟨_, rfl, ?_⟩
                have n0_ := Aside0.mk (Kd.R_below (by (with_reducible repeat first|apply zr1|apply zr2|apply zr3); exact HO_8.out) hb)
                have n1_ := Aside0.mk (Kd.R_below (by (with_reducible repeat first|apply zr1|apply zr2|apply zr3); exact HO_447000.out) hb)
                have n2_ := Aside0.mk (Kd.R_below (by (with_reducible repeat first|apply zr1|apply zr2|apply zr3); exact HO_447001.out) hb)
                have n3_ := Aside0.mk (blk_below (g := gb439) (o := .cells #[.int .i64 a1_0, .int .u64 a1_1] 25 (0, 0)) (by (with_reducible repeat first|refine zb1 ?_ _|refine zb2 ?_|refine zb3 ?_ _); exact BK439.out) hb)
                have n4_ := Aside0.mk (blk_below (g := gb446) (o := .cells #[.slice Ao11 t440.length co11, .slice (some ad451) t443.length co14] 42 (0, 0)) (by (with_reducible repeat first|refine zb1 ?_ _|refine zb2 ?_|refine zb3 ?_ _); exact BK446.out) hb)
                have n5_ := Aside0.mk (below_step (by repeat (first | (with_reducible first | exact HB.out | apply below_alloc | apply pw_below_drewN | apply below_drew1 | refine below_set ?_ GE439.out | refine below_set ?_ GE446.out) | exact HB.out)) hb)
                clear HO_8
                clear HO_447000
                clear HO_447001
                clear BK439
                clear BK446
                clear HB
                have HO_8 := n0_
                have HO_447000 := n1_
                have HO_447001 := n2_
                have BK439 := n3_
                have BK446 := n4_
                have HB := n5_
                clear n0_ n1_ n2_ n3_ n4_ n5_
                (try clear hb)
                (try clear hb2)
                (try clear hk)
                (try clear hi)
                refine hK.out _ _ ⟨(blk_cell BK439.out 0).trans rfl, (blk_cell BK439.out 1).trans rfl, HS2_, ((HB.out.cell (World.block_lt_of_cell? w _ hw458_0)).trans hw458_0), ((HB.out.cell (World.block_lt_of_cell? w _ hw458_1)).trans hw458_1), ((HB.out.cell (World.block_lt_of_cell? w _ hw458_2)).trans hw458_2), ((HB.out.cell (World.block_lt_of_cell? w _ hw458_3)).trans hw458_3), ((HB.out.cell (World.block_lt_of_cell? w _ hw458_4)).trans hw458_4), ((HB.out.cell (World.block_lt_of_cell? w _ hw458_5)).trans hw458_5), ((HB.out.cell (World.block_lt_of_cell? w _ hw459_0)).trans hw459_0), ((HB.out.cell (World.block_lt_of_cell? w _ hw459_1)).trans hw459_1), ((HB.out.cell (World.block_lt_of_cell? w _ hw459_2)).trans hw459_2), ((HB.out.cell (World.block_lt_of_cell? w _ hw459_3)).trans hw459_3), ((HB.out.cell (World.block_lt_of_cell? w _ hw459_4)).trans hw459_4), ((HB.out.cell (World.block_lt_of_cell? w _ hw459_5)).trans hw459_5)⟩ (fun hHeld => ?_)
                clear hK K
                refine norm_ (a' := ?_) ?_ ?_
                rotate_left
                ·show Act.put _ (some 86) _ = _
                 simp only [Act.put,zp1,zp2,zp3,zp4,zp5]
                 rfl
                refine Sq.pu (v := ?_) (a' := ?_) 42 87 (Sq.bl 44 8796093022207) (any_of HT_.out (by kernel_rfl)) rfl rfl (fun _ _ _ h => h) (by rfl) ?_ ?_ ?_; rotate_left; (· intro w'; go_simp; with_reducible rfl); rotate_left; (· simp only [Act.put,zp1,zp2,zp3,zp4,zp5]; rfl)
                refine Sq.pu (v := ?_) (a' := ?_) 43 88 (Sq.bl 44 17592186044415) (any_of HT_.out (by kernel_rfl)) rfl rfl (fun _ _ _ h => h) (by rfl) ?_ ?_ ?_; rotate_left; (· intro w'; go_simp; with_reducible rfl); rotate_left; (· simp only [Act.put,zp1,zp2,zp3,zp4,zp5]; rfl)
                refine done_ (done_of HT_.out (by kernel_rfl)) ?_
                try go_wp2
                go_meet
                case rel => exact ⟨_, (!t460), (by first | rfl | (simp; done) | (simp [*]; done)), H', ⟨by have := HJ5.out; have := HK2.out; first | omega | exact Nat.le_refl _⟩, ⟨by (with_reducible repeat first|apply zr1|apply zr2|apply zr3); exact HO_8.out⟩, ⟨by (with_reducible repeat first|apply zr1|apply zr2|apply zr3); exact HO_447000.out⟩, ⟨by (with_reducible repeat first|apply zr1|apply zr2|apply zr3); exact HO_447001.out⟩, ⟨by (with_reducible repeat first|refine zb1 ?_ _|refine zb2 ?_|refine zb3 ?_ _); exact BK439.out⟩, ⟨by (with_reducible repeat first|refine zb1 ?_ _|refine zb2 ?_|refine zb3 ?_ _); exact BK446.out⟩, ⟨by repeat (first | (with_reducible first | exact HB.out | apply below_alloc | apply pw_below_drewN | apply below_drew1 | refine below_set ?_ GE439.out | refine below_set ?_ GE446.out) | exact HB.out)⟩⟩
               ·rw [if_neg c51] at H
                have c51b0 : ((rd t447 x9_2) == ((rd_T63 l0 (rd t443 x9_2)).f0)) = false := beq_eq_false_iff_ne.mpr c51
                have c51b1 : ((rd t447 x9_2) != ((rd_T63 l0 (rd t443 x9_2)).f0)) = true := bne_iff_ne.mpr c51
                have H' := Aside0.mk H
                clear H
                try go_wp2
                have n0_ := Aside0.mk (Kd.R_drew HO_8.out)
                have n1_ := Aside0.mk (Kd.R_drew HO_447000.out)
                have n2_ := Aside0.mk (Kd.R_drew HO_447001.out)
                have n3_ := Aside0.mk (blk_drew BK439.out)
                have n4_ := Aside0.mk (blk_drew BK446.out)
                have n5_ := Aside0.mk (below_drew1 HB.out)
                clear HO_8
                clear HO_447000
                clear HO_447001
                clear BK439
                clear BK446
                clear HB
                have HO_8 := n0_
                have HO_447000 := n1_
                have HO_447001 := n2_
                have BK439 := n3_
                have BK446 := n4_
                have HB := n5_
                clear n0_ n1_ n2_ n3_ n4_ n5_
                obtain ⟨Ao57, co57, eo57⟩ := Kd.R_slice HO_8.out
                (first | subst eo57 | (injection eo57 with f1_ f2_ f3_; have f4_ := f1_.symm; have f5_ := f3_.symm; clear f1_ f2_ f3_; subst f4_; subst f5_))
                have p457 : 0 ≤ (x9_2 : Int) := of_decide_eq_true (by first | (with_reducible assumption) | assumption)
                have q457 : x9_2 < (t447.length : Int) := of_decide_eq_true (by first | (with_reducible assumption) | assumption)
                obtain ⟨ad457, e457, hx457_0⟩ := Kd.at_int (Kd.R_reads' HO_8.out).2.2 x9_2 p457 q457
                cases e457
                replace p457 := eq_true p457
                replace q457 := eq_true q457
                have p458 : 0 ≤ ((rd t443 x9_2) : Int) := of_decide_eq_true (by first | (with_reducible assumption) | assumption)
                have q458 : (rd t443 x9_2) < (l0.length : Int) := of_decide_eq_true (by first | (with_reducible assumption) | assumption)
                obtain ⟨ad458, e458, hx458_0, hx458_1, hx458_2, hx458_3, hx458_4, hx458_5⟩ := at_T63 HR0.out (rd t443 x9_2) p458 q458
                have hw458_5 := hx458_5
                have hw458_4 := hx458_4
                have hw458_3 := hx458_3
                have hw458_2 := hx458_2
                have hw458_1 := hx458_1
                have hw458_0 := hx458_0
                cases e458
                replace hx458_0 := (HB.out.cell (World.block_lt_of_cell? w _ hx458_0)).trans hx458_0
                replace hx458_1 := (HB.out.cell (World.block_lt_of_cell? w _ hx458_1)).trans hx458_1
                replace hx458_2 := (HB.out.cell (World.block_lt_of_cell? w _ hx458_2)).trans hx458_2
                replace hx458_3 := (HB.out.cell (World.block_lt_of_cell? w _ hx458_3)).trans hx458_3
                replace hx458_4 := (HB.out.cell (World.block_lt_of_cell? w _ hx458_4)).trans hx458_4
                replace hx458_5 := (HB.out.cell (World.block_lt_of_cell? w _ hx458_5)).trans hx458_5
                replace p458 := eq_true p458
                replace q458 := eq_true q458
                refine start_ (n := 44) (S := fun w' => w'.cell? (ad457.add (x9_2).toNat) = some (.int .i64 (rd t447 x9_2)) ∧ w'.cell? (ad458.add (((rd t443 x9_2)).toNat * 6)) = some (.int .i64 ((rd_T63 l0 (rd t443 x9_2)).f0)) ∧ w'.cell? ⟨(ad458.add (((rd t443 x9_2)).toNat * 6)).block, (ad458.add (((rd t443 x9_2)).toNat * 6)).off + 1, none⟩ = some (.int .i64 ((rd_T63 l0 (rd t443 x9_2)).f1.f0)) ∧ w'.cell? ⟨(ad458.add (((rd t443 x9_2)).toNat * 6)).block, (ad458.add (((rd t443 x9_2)).toNat * 6)).off + 2, none⟩ = some (.int .u64 ((rd_T63 l0 (rd t443 x9_2)).f1.f1)) ∧ w'.cell? ⟨(ad458.add (((rd t443 x9_2)).toNat * 6)).block, (ad458.add (((rd t443 x9_2)).toNat * 6)).off + 3, none⟩ = some (.bool ((rd_T63 l0 (rd t443 x9_2)).f2)) ∧ w'.cell? ⟨(ad458.add (((rd t443 x9_2)).toNat * 6)).block, (ad458.add (((rd t443 x9_2)).toNat * 6)).off + 4, none⟩ = some (.string ((rd_T63 l0 (rd t443 x9_2)).f3.f0)) ∧ w'.cell? ⟨(ad458.add (((rd t443 x9_2)).toNat * 6)).block, (ad458.add (((rd t443 x9_2)).toNat * 6)).off + 5, none⟩ = some (.bool ((rd_T63 l0 (rd t443 x9_2)).f3.f1))) (ds := []) (Sq.bl 44 0) (by kernel_rfl) rfl rfl ⟨hx457_0, ((HB.out.cell (World.block_lt_of_cell? w _ hw458_0)).trans hw458_0), ((HB.out.cell (World.block_lt_of_cell? w _ hw458_1)).trans hw458_1), ((HB.out.cell (World.block_lt_of_cell? w _ hw458_2)).trans hw458_2), ((HB.out.cell (World.block_lt_of_cell? w _ hw458_3)).trans hw458_3), ((HB.out.cell (World.block_lt_of_cell? w _ hw458_4)).trans hw458_4), ((HB.out.cell (World.block_lt_of_cell? w _ hw458_5)).trans hw458_5)⟩ (fun hHeld => ?_); refine with_tabW jalousielaw05_ViewEnds.tab9 jalousielaw05_ViewEnds.bits9 (fun HT_ HW_ => ?_)
                generalize wr.drew = w56 at HO_8 HO_447000 HO_447001 BK439 BK446 HB hx457_0 hx458_0 hx458_1 hx458_2 hx458_3 hx458_4 hx458_5 hHeld ⊢
                refine Sq.pu (v := ?_) (a' := ?_) 0 45 (Sq.bl 44 1) (any_of HT_.out (by kernel_rfl)) rfl rfl (fun _ _ _ h => h) (by rfl) ?_ ?_ ?_; rotate_left; (· intro w'; go_simp; with_reducible rfl); rotate_left; (· simp only [Act.put,zp1,zp2,zp3,zp4,zp5]; rfl)
                refine Sq.pu (v := ?_) (a' := ?_) 1 46 (Sq.bl 44 3) (any_of HT_.out (by kernel_rfl)) rfl rfl (fun _ _ _ h => h) (by rfl) ?_ ?_ ?_; rotate_left; (· intro w'; go_simp; with_reducible rfl); rotate_left; (· simp only [Act.put,zp1,zp2,zp3,zp4,zp5]; rfl)
                refine Sq.pu (v := ?_) (a' := ?_) 2 47 (Sq.bl 44 7) (any_of HT_.out (by kernel_rfl)) rfl rfl (fun _ _ _ h => h) (by rfl) ?_ ?_ ?_; rotate_left; (· intro w'; go_simp; with_reducible rfl); rotate_left; (· simp only [Act.put,zp1,zp2,zp3,zp4,zp5]; rfl)
                refine Sq.pu (v := ?_) (a' := ?_) 3 48 (Sq.bl 44 15) (any_of HT_.out (by kernel_rfl)) rfl rfl (fun _ _ _ h => h) (by rfl) ?_ ?_ ?_; rotate_left; (· intro w'; go_simp; with_reducible rfl); rotate_left; (· simp only [Act.put,zp1,zp2,zp3,zp4,zp5]; rfl)
                refine Sq.pu (v := ?_) (a' := ?_) 4 49 (Sq.bl 44 31) (any_of HT_.out (by kernel_rfl)) rfl rfl (fun _ _ _ h => h) (by rfl) ?_ ?_ ?_; rotate_left; (· intro w'; go_simp; with_reducible rfl); rotate_left; (· simp only [Act.put,zp1,zp2,zp3,zp4,zp5]; rfl)
                refine Sq.pu (v := ?_) (a' := ?_) 5 50 (Sq.bl 44 63) (any_of HT_.out (by kernel_rfl)) rfl rfl (fun _ _ _ h => h) (by rfl) ?_ ?_ ?_; rotate_left; (· intro w'; go_simp; with_reducible rfl); rotate_left; (· simp only [Act.put,zp1,zp2,zp3,zp4,zp5]; rfl)
                refine Sq.pu (v := ?_) (a' := ?_) 6 51 (Sq.bl 44 127) (any_of HT_.out (by kernel_rfl)) rfl rfl (fun _ _ _ h => h) (by rfl) ?_ ?_ ?_; rotate_left; (· intro w'; go_simp; with_reducible rfl); rotate_left; (· simp only [Act.put,zp1,zp2,zp3,zp4,zp5]; rfl)
                refine Sq.pu (v := ?_) (a' := ?_) 7 52 (Sq.bl 44 255) (any_of HT_.out (by kernel_rfl)) rfl rfl (fun _ _ _ h => h) (by rfl) ?_ ?_ ?_; rotate_left; (· intro w'; go_simp; with_reducible rfl); rotate_left; (· simp only [Act.put,zp1,zp2,zp3,zp4,zp5]; rfl)
                refine Sq.pu (v := ?_) (a' := ?_) 8 53 (Sq.bl 44 511) (any_of HT_.out (by kernel_rfl)) rfl rfl (fun _ _ _ h => h) (by rfl) ?_ ?_ ?_; rotate_left; (· intro w'; go_simp; with_reducible rfl); rotate_left; (· simp only [Act.put,zp1,zp2,zp3,zp4,zp5]; rfl)
                refine Sq.pu (v := ?_) (a' := ?_) 9 54 (Sq.bl 44 1023) (any_of HT_.out (by kernel_rfl)) rfl rfl (fun _ _ _ h => h) (by rfl) ?_ ?_ ?_; rotate_left; (· intro w'; go_simp; with_reducible rfl); rotate_left; (· simp only [Act.put,zp1,zp2,zp3,zp4,zp5]; rfl)
                refine Sq.pu (v := ?_) (a' := ?_) 10 55 (Sq.bl 44 2047) (any_of HT_.out (by kernel_rfl)) rfl rfl (fun _ _ _ h => h) (by rfl) ?_ ?_ ?_; rotate_left; (· intro w'; go_simp; with_reducible rfl); rotate_left; (· simp only [Act.put,zp1,zp2,zp3,zp4,zp5]; rfl)
                refine Sq.pu (v := ?_) (a' := ?_) 11 56 (Sq.bl 44 4095) (any_of HT_.out (by kernel_rfl)) rfl rfl (fun _ _ _ h => h) (by rfl) ?_ ?_ ?_; rotate_left; (· intro w'; go_simp; with_reducible rfl); rotate_left; (· simp only [Act.put,zp1,zp2,zp3,zp4,zp5]; rfl)
                refine pure_ (i := 12) (N := some 57) (v := undef) (a' := ?_) (Sq.bl 44 8191) rfl rfl (any_of HT_.out (by kernel_rfl)) (fun _ _ _ h => h) (Or.inr ⟨by rfl, rfl⟩) ?_ ?_
                rotate_left
                ·simp only [Act.put,zp1,zp2,zp3,zp4,zp5]
                 rfl
                refine pure_ (i := 13) (N := some 58) (v := undef) (a' := ?_) (Sq.bl 44 16383) rfl rfl (any_of HT_.out (by kernel_rfl)) (fun _ _ _ h => h) (Or.inr ⟨by rfl, rfl⟩) ?_ ?_
                rotate_left
                ·simp only [Act.put,zp1,zp2,zp3,zp4,zp5]
                 rfl
                refine pure_ (i := 14) (N := some 59) (v := undef) (a' := ?_) (Sq.bl 44 32767) rfl rfl (any_of HT_.out (by kernel_rfl)) (fun _ _ _ h => h) (Or.inr ⟨by rfl, rfl⟩) ?_ ?_
                rotate_left
                ·simp only [Act.put,zp1,zp2,zp3,zp4,zp5]
                 rfl
                refine pure_ (i := 15) (N := some 60) (v := undef) (a' := ?_) (Sq.bl 44 65535) rfl rfl (any_of HT_.out (by kernel_rfl)) (fun _ _ _ h => h) (Or.inr ⟨by rfl, rfl⟩) ?_ ?_
                rotate_left
                ·simp only [Act.put,zp1,zp2,zp3,zp4,zp5]
                 rfl
                refine pure_ (i := 16) (N := some 61) (v := undef) (a' := ?_) (Sq.bl 44 131071) rfl rfl (any_of HT_.out (by kernel_rfl)) (fun _ _ _ h => h) (Or.inr ⟨by rfl, rfl⟩) ?_ ?_
                rotate_left
                ·simp only [Act.put,zp1,zp2,zp3,zp4,zp5]
                 rfl
                refine pure_ (i := 17) (N := some 62) (v := undef) (a' := ?_) (Sq.bl 44 262143) rfl rfl (any_of HT_.out (by kernel_rfl)) (fun _ _ _ h => h) (Or.inr ⟨by rfl, rfl⟩) ?_ ?_
                rotate_left
                ·simp only [Act.put,zp1,zp2,zp3,zp4,zp5]
                 rfl
                refine pure_ (i := 18) (N := some 63) (v := undef) (a' := ?_) (Sq.bl 44 524287) rfl rfl (any_of HT_.out (by kernel_rfl)) (fun _ _ _ h => h) (Or.inr ⟨by rfl, rfl⟩) ?_ ?_
                rotate_left
                ·simp only [Act.put,zp1,zp2,zp3,zp4,zp5]
                 rfl
                refine pure_ (i := 19) (N := some 64) (v := undef) (a' := ?_) (Sq.bl 44 1048575) rfl rfl (any_of HT_.out (by kernel_rfl)) (fun _ _ _ h => h) (Or.inr ⟨by rfl, rfl⟩) ?_ ?_
                rotate_left
                ·simp only [Act.put,zp1,zp2,zp3,zp4,zp5]
                 rfl
                refine Sq.pu (v := ?_) (a' := ?_) 20 65 (Sq.bl 44 2097151) (any_of HT_.out (by kernel_rfl)) rfl rfl (fun _ _ _ h => h) (by rfl) ?_ ?_ ?_; rotate_left; (· intro w'; go_simp; with_reducible rfl); rotate_left; (· simp only [Act.put,zp1,zp2,zp3,zp4,zp5]; rfl)
                refine Sq.pu (v := ?_) (a' := ?_) 21 66 (Sq.bl 44 4194303) (any_of HT_.out (by kernel_rfl)) rfl rfl (fun _ _ _ h => h) (by rfl) ?_ ?_ ?_; rotate_left; (· intro w'; go_simp; with_reducible rfl); rotate_left; (· simp only [Act.put,zp1,zp2,zp3,zp4,zp5]; rfl)
                refine Sq.pu (v := ?_) (a' := ?_) 22 67 (Sq.bl 44 8388607) (any_of HT_.out (by kernel_rfl)) rfl rfl (fun _ _ _ h => h) (by rfl) ?_ ?_ ?_; rotate_left; (· intro w'; go_simp; with_reducible rfl); rotate_left; (· simp only [Act.put,zp1,zp2,zp3,zp4,zp5]; rfl)
                refine Sq.pu (v := ?_) (a' := ?_) 23 68 (Sq.bl 44 16777215) (any_of HT_.out (by kernel_rfl)) rfl rfl (fun _ _ _ h => h) (by rfl) ?_ ?_ ?_; rotate_left; (· intro w'; go_simp; with_reducible rfl); rotate_left; (· simp only [Act.put,zp1,zp2,zp3,zp4,zp5]; rfl)
                refine Sq.pu (v := ?_) (a' := ?_) 24 69 (Sq.bl 44 33554431) (any_of HT_.out (by kernel_rfl)) rfl rfl (fun _ _ _ h => h) (by rfl) ?_ ?_ ?_; rotate_left; (· intro w'; go_simp; with_reducible rfl); rotate_left; (· simp only [Act.put,zp1,zp2,zp3,zp4,zp5]; rfl)
                refine Sq.pu (v := ?_) (a' := ?_) 25 70 (Sq.bl 44 67108863) (any_of HT_.out (by kernel_rfl)) rfl rfl (fun _ _ _ h => h) (by rfl) ?_ ?_ ?_; rotate_left; (· intro w'; go_simp; with_reducible rfl); rotate_left; (· simp only [Act.put,zp1,zp2,zp3,zp4,zp5]; rfl)
                refine Sq.pu (v := ?_) (a' := ?_) 27 72 (Sq.bl 44 201326591) (any_of HT_.out (by kernel_rfl)) rfl rfl (fun _ _ _ h => h) (by rfl) ?_ ?_ ?_; rotate_left; (· intro w'; go_simp; with_reducible rfl); rotate_left; (· simp only [Act.put,zp1,zp2,zp3,zp4,zp5]; rfl)
                refine Sq.pu (v := ?_) (a' := ?_) 28 73 (Sq.bl 44 469762047) (any_of HT_.out (by kernel_rfl)) rfl rfl (fun _ _ _ h => h) (by rfl) ?_ ?_ ?_; rotate_left; (· intro w'; go_simp; with_reducible rfl); rotate_left; (· simp only [Act.put,zp1,zp2,zp3,zp4,zp5]; rfl)
                refine Sq.pu (v := ?_) (a' := ?_) 29 74 (Sq.bl 44 1006632959) (any_of HT_.out (by kernel_rfl)) rfl rfl (fun _ _ _ h => h) (by rfl) ?_ ?_ ?_; rotate_left; (· intro w'; go_simp; with_reducible rfl); rotate_left; (· simp only [Act.put,zp1,zp2,zp3,zp4,zp5]; rfl)
                refine Sq.pu (v := ?_) (a' := ?_) 30 75 (Sq.bl 44 2080374783) (any_of HT_.out (by kernel_rfl)) rfl rfl (fun _ _ _ h => h) (by rfl) ?_ ?_ ?_; rotate_left; (· intro w'; go_simp; with_reducible rfl); rotate_left; (· simp only [Act.put,zp1,zp2,zp3,zp4,zp5]; rfl)
                refine take_ (i := 26) (N := some 71) (v := ?_) (a' := ?_) (Sq.bl 44 2147483647) rfl rfl (take_ofW HT_.out HW_.out (by kernel_rfl)) (fun _ _ _ h => h) (Or.inl ⟨by rfl, ?_⟩) hHeld ?_ ?_
                rotate_left
                ·rintro w' ⟨s0, s1, s2, s3, s4, s5, s6⟩
                 go_simp
                 with_reducible rfl
                rotate_left
                ·simp only [Act.put,zp1,zp2,zp3,zp4,zp5]
                 rfl
                refine take_ (i := 31) (N := some 76) (v := ?_) (a' := ?_) (Sq.bl 44 4294967295) rfl rfl (take_ofW HT_.out HW_.out (by kernel_rfl)) (fun _ _ _ h => h) (Or.inl ⟨by rfl, ?_⟩) hHeld ?_ ?_
                rotate_left
                ·rintro w' ⟨s0, s1, s2, s3, s4, s5, s6⟩
                 go_simp
                 with_reducible rfl
                rotate_left
                ·simp only [Act.put,zp1,zp2,zp3,zp4,zp5]
                 rfl
                refine Sq.pu (v := ?_) (a' := ?_) 32 77 (Sq.bl 44 8589934591) (any_of HT_.out (by kernel_rfl)) rfl rfl (fun _ _ _ h => h) (by rfl) ?_ ?_ ?_; rotate_left; (· intro w'; go_simp; with_reducible rfl); rotate_left; (· simp only [Act.put,zp1,zp2,zp3,zp4,zp5]; rfl)
                refine Sq.pu (v := ?_) (a' := ?_) 33 78 (Sq.bl 44 17179869183) (any_of HT_.out (by kernel_rfl)) rfl rfl (fun _ _ _ h => h) (by rfl) ?_ ?_ ?_; rotate_left; (· intro w'; go_simp; with_reducible rfl); rotate_left; (· simp only [Act.put,zp1,zp2,zp3,zp4,zp5]; rfl)
                refine Sq.pu (v := ?_) (a' := ?_) 34 79 (Sq.bl 44 34359738367) (any_of HT_.out (by kernel_rfl)) rfl rfl (fun _ _ _ h => h) (by rfl) ?_ ?_ ?_; rotate_left; (· intro w'; go_simp; with_reducible rfl); rotate_left; (· simp only [Act.put,zp1,zp2,zp3,zp4,zp5]; rfl)
                refine pure_ (i := 35) (N := some 80) (v := undef) (a' := ?_) (Sq.bl 44 68719476735) rfl rfl (any_of HT_.out (by kernel_rfl)) (fun _ _ _ h => h) (Or.inr ⟨by rfl, rfl⟩) ?_ ?_
                rotate_left
                ·simp only [Act.put,zp1,zp2,zp3,zp4,zp5]
                 rfl
                refine pure_ (i := 36) (N := some 81) (v := undef) (a' := ?_) (Sq.bl 44 137438953471) rfl rfl (any_of HT_.out (by kernel_rfl)) (fun _ _ _ h => h) (Or.inr ⟨by rfl, rfl⟩) ?_ ?_
                rotate_left
                ·simp only [Act.put,zp1,zp2,zp3,zp4,zp5]
                 rfl
                refine pure_ (i := 37) (N := some 82) (v := undef) (a' := ?_) (Sq.bl 44 274877906943) rfl rfl (any_of HT_.out (by kernel_rfl)) (fun _ _ _ h => h) (Or.inr ⟨by rfl, rfl⟩) ?_ ?_
                rotate_left
                ·simp only [Act.put,zp1,zp2,zp3,zp4,zp5]
                 rfl
                refine pure_ (i := 38) (N := some 83) (v := undef) (a' := ?_) (Sq.bl 44 549755813887) rfl rfl (any_of HT_.out (by kernel_rfl)) (fun _ _ _ h => h) (Or.inr ⟨by rfl, rfl⟩) ?_ ?_
                rotate_left
                ·simp only [Act.put,zp1,zp2,zp3,zp4,zp5]
                 rfl
                refine pure_ (i := 39) (N := some 84) (v := undef) (a' := ?_) (Sq.bl 44 1099511627775) rfl rfl (any_of HT_.out (by kernel_rfl)) (fun _ _ _ h => h) (Or.inr ⟨by rfl, rfl⟩) ?_ ?_
                rotate_left
                ·simp only [Act.put,zp1,zp2,zp3,zp4,zp5]
                 rfl
                refine pure_ (i := 40) (N := some 85) (v := undef) (a' := ?_) (Sq.bl 44 2199023255551) rfl rfl (any_of HT_.out (by kernel_rfl)) (fun _ _ _ h => h) (Or.inr ⟨by rfl, rfl⟩) ?_ ?_
                rotate_left
                ·simp only [Act.put,zp1,zp2,zp3,zp4,zp5]
                 rfl
                refine pure_ (i := 41) (N := some 86) (v := undef) (a' := ?_) (Sq.bl 44 4398046511103) rfl rfl (any_of HT_.out (by kernel_rfl)) (fun _ _ _ h => h) (Or.inr ⟨by rfl, rfl⟩) ?_ ?_
                rotate_left
                ·simp only [Act.put,zp1,zp2,zp3,zp4,zp5]
                 rfl
                refine pure_ (i := 42) (N := some 87) (v := undef) (a' := ?_) (Sq.bl 44 8796093022207) rfl rfl (any_of HT_.out (by kernel_rfl)) (fun _ _ _ h => h) (Or.inr ⟨by rfl, rfl⟩) ?_ ?_
                rotate_left
                ·simp only [Act.put,zp1,zp2,zp3,zp4,zp5]
                 rfl
                refine Sq.pu (v := ?_) (a' := ?_) 43 88 (Sq.bl 44 17592186044415) (any_of HT_.out (by kernel_rfl)) rfl rfl (fun _ _ _ h => h) (by rfl) ?_ ?_ ?_; rotate_left; (· intro w'; go_simp; with_reducible rfl); rotate_left; (· simp only [Act.put,zp1,zp2,zp3,zp4,zp5]; rfl)
                refine done_ (done_of HT_.out (by kernel_rfl)) ?_
                try go_wp2
                go_meet
                case rel => exact ⟨_, (true), (by first | rfl | (simp; done) | (simp [*]; done)), H', ⟨by have := HJ5.out; have := HK2.out; first | omega | exact Nat.le_refl _⟩, ⟨by (with_reducible repeat first|apply zr1|apply zr2|apply zr3); exact HO_8.out⟩, ⟨by (with_reducible repeat first|apply zr1|apply zr2|apply zr3); exact HO_447000.out⟩, ⟨by (with_reducible repeat first|apply zr1|apply zr2|apply zr3); exact HO_447001.out⟩, ⟨by (with_reducible repeat first|refine zb1 ?_ _|refine zb2 ?_|refine zb3 ?_ _); exact BK439.out⟩, ⟨by (with_reducible repeat first|refine zb1 ?_ _|refine zb2 ?_|refine zb3 ?_ _); exact BK446.out⟩, ⟨by repeat (first | (with_reducible first | exact HB.out | apply below_alloc | apply pw_below_drewN | apply below_drew1 | refine below_set ?_ GE439.out | refine below_set ?_ GE446.out) | exact HB.out)⟩⟩
              ·rw [if_neg c50] at H
               exact absurd H (by simp)
             ·rw [if_neg c49] at H
              exact absurd H (by simp)
            ·rw [if_neg c48] at H
             exact absurd H (by simp)
        case rest =>
         clear HC25
         try clear c1
         try clear p2
         try clear c4
         try clear p4
         try clear q4
         try clear hx4
         try clear c5
         try clear c13
         try clear p45
         try clear q45
         try clear hx45
         try clear c48
         try clear c49
         try clear c50
         try clear c51
         try clear c51b0
         try clear c51b1
         try clear hx457_0
         try clear hx458_0
         try clear hx458_1
         try clear hx458_2
         try clear hx458_3
         try clear hx458_4
         try clear hx458_5
         try clear p457
         try clear p458
         try clear q457
         try clear q458
         obtain ⟨kq, x88_24, rfl, HA, HJ24, HO_8, HO_447000, HO_447001, BK439, BK446, HB⟩ := hcut
         cases kq with
         | zero => exact absurd HA.out (by simp [jalousielaw05_ViewEnds.j2])
         | succ kj24 =>
          have H := HA.out
          clear HA
          simp only [jalousielaw05_ViewEnds.j2] at H
          by_cases c58 : x88_24 = true
          ·subst c58
           have H1 : (some false) = some r := by rw [if_pos rfl] at H; exact H
           clear H
           have H := H1
           clear H1
           exact absurd (Option.some.inj (H.trans (congrArg some HRT.out))) (by decide)
          ·replace c58 := Bool.eq_false_iff.mpr c58
           subst c58
           have H1 : (if 0 ≤ x9_2 then (if x9_2 < (t440.length : Int) then (if x9_2 = (wrap64 ((t443.length : Int) - 1)) then (if 0 ≤ (rd t443 x9_2) then (if (rd t443 x9_2) < (l0.length : Int) then (if (((rd_T60 t440 x9_2).f1) != ((rd_T63 l0 (rd t443 x9_2)).f3.f1)) = true then (some false) else (jalousielaw05_ViewEnds.l0 kj24 l0 t447 (wrap64 (x9_2 + 1)) a1_0 a1_1 t440 t443)) else (none)) else (none)) else (if (((rd_T60 t440 x9_2).f1) != false) = true then (some false) else (jalousielaw05_ViewEnds.l0 kj24 l0 t447 (wrap64 (x9_2 + 1)) a1_0 a1_1 t440 t443))) else (none)) else (none)) = some r := by rw [if_neg (show ¬ (false = true) by decide)] at H; exact H
           clear H
           have H := H1
           clear H1
           by_cases c59 : 0 ≤ x9_2
           ·rw [if_pos c59] at H
            have c59b0 : decide (0 ≤ x9_2) = true := decide_eq_true c59
            clear c59
            by_cases c60 : x9_2 < (t440.length : Int)
            ·rw [if_pos c60] at H
             have c60b0 : decide (x9_2 < (t440.length : Int)) = true := decide_eq_true c60
             clear c60
             by_cases c61 : x9_2 = (wrap64 ((t443.length : Int) - 1))
             ·rw [if_pos c61] at H
              have c61b0 : (x9_2 == (wrap64 ((t443.length : Int) - 1))) = true := beq_iff_eq.mpr c61
              have c61b1 : (x9_2 != (wrap64 ((t443.length : Int) - 1))) = false := bne_eq_false_iff_eq.mpr c61
              clear c61
              by_cases c62 : 0 ≤ (rd t443 x9_2)
              ·rw [if_pos c62] at H
               have c62b0 : decide (0 ≤ (rd t443 x9_2)) = true := decide_eq_true c62
               clear c62
               by_cases c63 : (rd t443 x9_2) < (l0.length : Int)
               ·rw [if_pos c63] at H
                have c63b0 : decide ((rd t443 x9_2) < (l0.length : Int)) = true := decide_eq_true c63
                clear c63
                by_cases c64 : (((rd_T60 t440 x9_2).f1) != ((rd_T63 l0 (rd t443 x9_2)).f3.f1)) = true
                ·rw [if_pos c64] at H
                 have c64b0 : (((rd_T60 t440 x9_2).f1) != ((rd_T63 l0 (rd t443 x9_2)).f3.f1)) = true := c64
                 (try (have c64b1 : decide (((rd_T60 t440 x9_2).f1) = ((rd_T63 l0 (rd t443 x9_2)).f3.f1)) = false := by simpa using c64))
                 (try (have c64b2 : (((rd_T60 t440 x9_2).f1) == ((rd_T63 l0 (rd t443 x9_2)).f3.f1)) = false := by simpa using c64))
                 (try (have c64b3 : ¬ (((rd_T60 t440 x9_2).f1) = ((rd_T63 l0 (rd t443 x9_2)).f3.f1)) := by simpa using c64))
                 clear c64
                 exact absurd (Option.some.inj (H.trans (congrArg some HRT.out))) (by decide)
                ·rw [if_neg c64] at H
                 have c64b0 : (((rd_T60 t440 x9_2).f1) != ((rd_T63 l0 (rd t443 x9_2)).f3.f1)) = false := by simpa using c64
                 (try (have c64b1 : decide (((rd_T60 t440 x9_2).f1) = ((rd_T63 l0 (rd t443 x9_2)).f3.f1)) = true := by simpa using c64))
                 (try (have c64b2 : (((rd_T60 t440 x9_2).f1) == ((rd_T63 l0 (rd t443 x9_2)).f3.f1)) = true := by simpa using c64))
                 clear c64
                 have H' := Aside0.mk H
                 clear H
                 try go_wp2
                 have n0_ := Aside0.mk (Kd.R_drew HO_8.out)
                 have n1_ := Aside0.mk (Kd.R_drew HO_447000.out)
                 have n2_ := Aside0.mk (Kd.R_drew HO_447001.out)
                 have n3_ := Aside0.mk (blk_drew BK439.out)
                 have n4_ := Aside0.mk (blk_drew BK446.out)
                 have n5_ := Aside0.mk (below_drew1 HB.out)
                 clear HO_8
                 clear HO_447000
                 clear HO_447001
                 clear BK439
                 clear BK446
                 clear HB
                 have HO_8 := n0_
                 have HO_447000 := n1_
                 have HO_447001 := n2_
                 have BK439 := n3_
                 have BK446 := n4_
                 have HB := n5_
                 clear n0_ n1_ n2_ n3_ n4_ n5_
                 have p461 : 0 ≤ (x9_2 : Int) := of_decide_eq_true (by first | (with_reducible assumption) | assumption)
                 have q461 : x9_2 < (t440.length : Int) := of_decide_eq_true (by first | (with_reducible assumption) | assumption)
                 obtain ⟨ad461, e461, hx461_0, hx461_1⟩ := at_T60 (Kd.R_reads' HO_447000.out).2.2 x9_2 p461 q461
                 cases e461
                 replace p461 := eq_true p461
                 replace q461 := eq_true q461
                 have p462 : 0 ≤ ((rd t443 x9_2) : Int) := of_decide_eq_true (by first | (with_reducible assumption) | assumption)
                 have q462 : (rd t443 x9_2) < (l0.length : Int) := of_decide_eq_true (by first | (with_reducible assumption) | assumption)
                 obtain ⟨ad462, e462, hx462_0, hx462_1, hx462_2, hx462_3, hx462_4, hx462_5⟩ := at_T63 HR0.out (rd t443 x9_2) p462 q462
                 have hw462_5 := hx462_5
                 have hw462_4 := hx462_4
                 have hw462_3 := hx462_3
                 have hw462_2 := hx462_2
                 have hw462_1 := hx462_1
                 have hw462_0 := hx462_0
                 cases e462
                 replace hx462_0 := (HB.out.cell (World.block_lt_of_cell? w _ hx462_0)).trans hx462_0
                 replace hx462_1 := (HB.out.cell (World.block_lt_of_cell? w _ hx462_1)).trans hx462_1
                 replace hx462_2 := (HB.out.cell (World.block_lt_of_cell? w _ hx462_2)).trans hx462_2
                 replace hx462_3 := (HB.out.cell (World.block_lt_of_cell? w _ hx462_3)).trans hx462_3
                 replace hx462_4 := (HB.out.cell (World.block_lt_of_cell? w _ hx462_4)).trans hx462_4
                 replace hx462_5 := (HB.out.cell (World.block_lt_of_cell? w _ hx462_5)).trans hx462_5
                 replace p462 := eq_true p462
                 replace q462 := eq_true q462
                 refine start_ (n := 21) (S := fun w' => w'.cell? ⟨gb446, 0, none⟩ = some (.slice (some ad461) t440.length co11) ∧ w'.cell? ⟨gb446, 1, none⟩ = some (.slice (some ad451) t443.length co14) ∧ w'.cell? (ad461.add ((x9_2).toNat * 2)) = some (.string ((rd_T60 t440 x9_2).f0)) ∧ w'.cell? ⟨(ad461.add ((x9_2).toNat * 2)).block, (ad461.add ((x9_2).toNat * 2)).off + 1, none⟩ = some (.bool ((rd_T60 t440 x9_2).f1)) ∧ w'.cell? (ad462.add (((rd t443 x9_2)).toNat * 6)) = some (.int .i64 ((rd_T63 l0 (rd t443 x9_2)).f0)) ∧ w'.cell? ⟨(ad462.add (((rd t443 x9_2)).toNat * 6)).block, (ad462.add (((rd t443 x9_2)).toNat * 6)).off + 1, none⟩ = some (.int .i64 ((rd_T63 l0 (rd t443 x9_2)).f1.f0)) ∧ w'.cell? ⟨(ad462.add (((rd t443 x9_2)).toNat * 6)).block, (ad462.add (((rd t443 x9_2)).toNat * 6)).off + 2, none⟩ = some (.int .u64 ((rd_T63 l0 (rd t443 x9_2)).f1.f1)) ∧ w'.cell? ⟨(ad462.add (((rd t443 x9_2)).toNat * 6)).block, (ad462.add (((rd t443 x9_2)).toNat * 6)).off + 3, none⟩ = some (.bool ((rd_T63 l0 (rd t443 x9_2)).f2)) ∧ w'.cell? ⟨(ad462.add (((rd t443 x9_2)).toNat * 6)).block, (ad462.add (((rd t443 x9_2)).toNat * 6)).off + 4, none⟩ = some (.string ((rd_T63 l0 (rd t443 x9_2)).f3.f0)) ∧ w'.cell? ⟨(ad462.add (((rd t443 x9_2)).toNat * 6)).block, (ad462.add (((rd t443 x9_2)).toNat * 6)).off + 5, none⟩ = some (.bool ((rd_T63 l0 (rd t443 x9_2)).f3.f1))) (ds := []) (Sq.bl 21 0) (by kernel_rfl) rfl rfl ⟨(blk_cell BK446.out 0).trans rfl, (blk_cell BK446.out 1).trans rfl, hx461_0, hx461_1, ((HB.out.cell (World.block_lt_of_cell? w _ hw462_0)).trans hw462_0), ((HB.out.cell (World.block_lt_of_cell? w _ hw462_1)).trans hw462_1), ((HB.out.cell (World.block_lt_of_cell? w _ hw462_2)).trans hw462_2), ((HB.out.cell (World.block_lt_of_cell? w _ hw462_3)).trans hw462_3), ((HB.out.cell (World.block_lt_of_cell? w _ hw462_4)).trans hw462_4), ((HB.out.cell (World.block_lt_of_cell? w _ hw462_5)).trans hw462_5)⟩ (fun hHeld => ?_); refine with_tabW jalousielaw05_ViewEnds.tab11 jalousielaw05_ViewEnds.bits11 (fun HT_ HW_ => ?_)
                 generalize wc.drew = w65 at HO_8 HO_447000 HO_447001 BK439 BK446 HB hx461_0 hx461_1 hx462_0 hx462_1 hx462_2 hx462_3 hx462_4 hx462_5 hHeld ⊢
                 refine Sq.pu (v := ?_) (a' := ?_) 0 89 (Sq.bl 21 1) (any_of HT_.out (by kernel_rfl)) rfl rfl (fun _ _ _ h => h) (by rfl) ?_ ?_ ?_; rotate_left; (· intro w'; go_simp; with_reducible rfl); rotate_left; (· simp only [Act.put,zp1,zp2,zp3,zp4,zp5]; rfl)
                 refine Sq.pu (v := ?_) (a' := ?_) 2 91 (Sq.bl 21 5) (any_of HT_.out (by kernel_rfl)) rfl rfl (fun _ _ _ h => h) (by rfl) ?_ ?_ ?_; rotate_left; (· intro w'; go_simp; with_reducible rfl); rotate_left; (· simp only [Act.put,zp1,zp2,zp3,zp4,zp5]; rfl)
                 refine Sq.pu (v := ?_) (a' := ?_) 6 95 (Sq.bl 21 69) (any_of HT_.out (by kernel_rfl)) rfl rfl (fun _ _ _ h => h) (by rfl) ?_ ?_ ?_; rotate_left; (· intro w'; go_simp; with_reducible rfl); rotate_left; (· simp only [Act.put,zp1,zp2,zp3,zp4,zp5]; rfl)
                 refine Sq.pu (v := ?_) (a' := ?_) 7 96 (Sq.bl 21 197) (any_of HT_.out (by kernel_rfl)) rfl rfl (fun _ _ _ h => h) (by rfl) ?_ ?_ ?_; rotate_left; (· intro w'; go_simp; with_reducible rfl); rotate_left; (· simp only [Act.put,zp1,zp2,zp3,zp4,zp5]; rfl)
                 refine take_ (i := 1) (N := some 90) (v := ?_) (a' := ?_) (Sq.bl 21 199) rfl rfl (take_ofW HT_.out HW_.out (by kernel_rfl)) (fun _ _ _ h => h) (Or.inl ⟨by rfl, ?_⟩) hHeld ?_ ?_
                 rotate_left
                 ·rintro w' ⟨s0, s1, s2, s3, s4, s5, s6, s7, s8, s9⟩
                  go_simp
                  with_reducible rfl
                 rotate_left
                 ·simp only [Act.put,zp1,zp2,zp3,zp4,zp5]
                  rfl
                 refine Sq.pu (v := ?_) (a' := ?_) 3 92 (Sq.bl 21 207) (any_of HT_.out (by kernel_rfl)) rfl rfl (fun _ _ _ h => h) (by rfl) ?_ ?_ ?_; rotate_left; (· intro w'; go_simp; with_reducible rfl); rotate_left; (· simp only [Act.put,zp1,zp2,zp3,zp4,zp5]; rfl)
                 refine Sq.pu (v := ?_) (a' := ?_) 4 93 (Sq.bl 21 223) (any_of HT_.out (by kernel_rfl)) rfl rfl (fun _ _ _ h => h) (by rfl) ?_ ?_ ?_; rotate_left; (· intro w'; go_simp; with_reducible rfl); rotate_left; (· simp only [Act.put,zp1,zp2,zp3,zp4,zp5]; rfl)
                 refine take_ (i := 5) (N := some 94) (v := ?_) (a' := ?_) (Sq.bl 21 255) rfl rfl (take_ofW HT_.out HW_.out (by kernel_rfl)) (fun _ _ _ h => h) (Or.inl ⟨by rfl, ?_⟩) hHeld ?_ ?_
                 rotate_left
                 ·rintro w' ⟨s0, s1, s2, s3, s4, s5, s6, s7, s8, s9⟩
                  go_simp
                  with_reducible rfl
                 rotate_left
                 ·simp only [Act.put,zp1,zp2,zp3,zp4,zp5]
                  rfl
                 refine take_ (i := 8) (N := some 97) (v := ?_) (a' := ?_) (Sq.bl 21 511) rfl rfl (take_ofW HT_.out HW_.out (by kernel_rfl)) (fun _ _ _ h => h) (Or.inl ⟨by rfl, ?_⟩) hHeld ?_ ?_
                 rotate_left
                 ·rintro w' ⟨s0, s1, s2, s3, s4, s5, s6, s7, s8, s9⟩
                  go_simp
                  with_reducible rfl
                 rotate_left
                 ·simp only [Act.put,zp1,zp2,zp3,zp4,zp5]
                  rfl
                 refine Sq.pu (v := ?_) (a' := ?_) 9 98 (Sq.bl 21 1023) (any_of HT_.out (by kernel_rfl)) rfl rfl (fun _ _ _ h => h) (by rfl) ?_ ?_ ?_; rotate_left; (· intro w'; go_simp; with_reducible rfl); rotate_left; (· simp only [Act.put,zp1,zp2,zp3,zp4,zp5]; rfl)
                 refine Sq.pu (v := ?_) (a' := ?_) 10 99 (Sq.bl 21 2047) (any_of HT_.out (by kernel_rfl)) rfl rfl (fun _ _ _ h => h) (by rfl) ?_ ?_ ?_; rotate_left; (· intro w'; go_simp; with_reducible rfl); rotate_left; (· simp only [Act.put,zp1,zp2,zp3,zp4,zp5]; rfl)
                 refine Sq.pu (v := ?_) (a' := ?_) 11 100 (Sq.bl 21 4095) (any_of HT_.out (by kernel_rfl)) rfl rfl (fun _ _ _ h => h) (by rfl) ?_ ?_ ?_; rotate_left; (· intro w'; go_simp; with_reducible rfl); rotate_left; (· simp only [Act.put,zp1,zp2,zp3,zp4,zp5]; rfl)
                 refine Sq.pu (v := ?_) (a' := ?_) 12 101 (Sq.bl 21 8191) (any_of HT_.out (by kernel_rfl)) rfl rfl (fun _ _ _ h => h) (by rfl) ?_ ?_ ?_; rotate_left; (· intro w'; go_simp; with_reducible rfl); rotate_left; (· simp only [Act.put,zp1,zp2,zp3,zp4,zp5]; rfl)
                 refine Sq.pu (v := ?_) (a' := ?_) 13 102 (Sq.bl 21 16383) (any_of HT_.out (by kernel_rfl)) rfl rfl (fun _ _ _ h => h) (by rfl) ?_ ?_ ?_; rotate_left; (· intro w'; go_simp; with_reducible rfl); rotate_left; (· simp only [Act.put,zp1,zp2,zp3,zp4,zp5]; rfl)
                 refine Sq.pu (v := ?_) (a' := ?_) 14 103 (Sq.bl 21 32767) (any_of HT_.out (by kernel_rfl)) rfl rfl (fun _ _ _ h => h) (by rfl) ?_ ?_ ?_; rotate_left; (· intro w'; go_simp; with_reducible rfl); rotate_left; (· simp only [Act.put,zp1,zp2,zp3,zp4,zp5]; rfl)
                 refine Sq.pu (v := ?_) (a' := ?_) 15 104 (Sq.bl 21 65535) (any_of HT_.out (by kernel_rfl)) rfl rfl (fun _ _ _ h => h) (by rfl) ?_ ?_ ?_; rotate_left; (· intro w'; go_simp; with_reducible rfl); rotate_left; (· simp only [Act.put,zp1,zp2,zp3,zp4,zp5]; rfl)
                 refine Sq.pu (v := ?_) (a' := ?_) 16 105 (Sq.bl 21 131071) (any_of HT_.out (by kernel_rfl)) rfl rfl (fun _ _ _ h => h) (by rfl) ?_ ?_ ?_; rotate_left; (· intro w'; go_simp; with_reducible rfl); rotate_left; (· simp only [Act.put,zp1,zp2,zp3,zp4,zp5]; rfl)
                 refine Sq.pu (v := ?_) (a' := ?_) 17 106 (Sq.bl 21 262143) (any_of HT_.out (by kernel_rfl)) rfl rfl (fun _ _ _ h => h) (by rfl) ?_ ?_ ?_; rotate_left; (· intro w'; go_simp; with_reducible rfl); rotate_left; (· simp only [Act.put,zp1,zp2,zp3,zp4,zp5]; rfl)
                 refine take_ (i := 18) (N := some 107) (v := ?_) (a' := ?_) (Sq.bl 21 524287) rfl rfl (take_ofW HT_.out HW_.out (by kernel_rfl)) (fun _ _ _ h => h) (Or.inl ⟨by rfl, ?_⟩) hHeld ?_ ?_
                 rotate_left
                 ·rintro w' ⟨s0, s1, s2, s3, s4, s5, s6, s7, s8, s9⟩
                  go_simp
                  with_reducible rfl
                 rotate_left
                 ·simp only [Act.put,zp1,zp2,zp3,zp4,zp5]
                  rfl
                 refine Sq.pu (v := ?_) (a' := ?_) 19 108 (Sq.bl 21 1048575) (any_of HT_.out (by kernel_rfl)) rfl rfl (fun _ _ _ h => h) (by rfl) ?_ ?_ ?_; rotate_left; (· intro w'; go_simp; with_reducible rfl); rotate_left; (· simp only [Act.put,zp1,zp2,zp3,zp4,zp5]; rfl)
                 refine Sq.pu (v := ?_) (a' := ?_) 20 109 (Sq.bl 21 2097151) (any_of HT_.out (by kernel_rfl)) rfl rfl (fun _ _ _ h => h) (by rfl) ?_ ?_ ?_; rotate_left; (· intro w'; go_simp; with_reducible rfl); rotate_left; (· simp only [Act.put,zp1,zp2,zp3,zp4,zp5]; rfl)
                 refine done_ (done_of HT_.out (by kernel_rfl)) ?_
                 try go_wp2
                 go_roundg kj24
                 case measure => have := HJ5.out; have := HK2.out; have := HJ24.out; omega
                 case rel => exact ⟨(wrap64 (x9_2 + 1)), (by first | rfl | (simp; done) | (simp [*]; done)), H', ⟨by have := HJ5.out; have := HK2.out; have := HJ24.out; omega⟩, ⟨by (with_reducible repeat first|apply zr1|apply zr2|apply zr3); exact HO_8.out⟩, ⟨by (with_reducible repeat first|apply zr1|apply zr2|apply zr3); exact HO_447000.out⟩, ⟨by (with_reducible repeat first|apply zr1|apply zr2|apply zr3); exact HO_447001.out⟩, ⟨by (with_reducible repeat first|refine zb1 ?_ _|refine zb2 ?_|refine zb3 ?_ _); exact BK439.out⟩, ⟨by (with_reducible repeat first|refine zb1 ?_ _|refine zb2 ?_|refine zb3 ?_ _); exact BK446.out⟩, ⟨by repeat (first | (with_reducible first | exact HB.out | apply below_alloc | apply pw_below_drewN | apply below_drew1 | refine below_set ?_ GE439.out | refine below_set ?_ GE446.out) | exact HB.out)⟩⟩
               ·rw [if_neg c63] at H
                exact absurd H (by simp)
              ·rw [if_neg c62] at H
               exact absurd H (by simp)
             ·rw [if_neg c61] at H
              have c61b0 : (x9_2 == (wrap64 ((t443.length : Int) - 1))) = false := beq_eq_false_iff_ne.mpr c61
              have c61b1 : (x9_2 != (wrap64 ((t443.length : Int) - 1))) = true := bne_iff_ne.mpr c61
              by_cases c66 : (((rd_T60 t440 x9_2).f1) != false) = true
              ·rw [if_pos c66] at H
               have c66b0 : (((rd_T60 t440 x9_2).f1) != false) = true := c66
               (try (have c66b1 : decide (((rd_T60 t440 x9_2).f1) = false) = false := by simpa using c66))
               (try (have c66b2 : (((rd_T60 t440 x9_2).f1) == false) = false := by simpa using c66))
               (try (have c66b3 : ¬ (((rd_T60 t440 x9_2).f1) = false) := by simpa using c66))
               clear c66
               exact absurd (Option.some.inj (H.trans (congrArg some HRT.out))) (by decide)
              ·rw [if_neg c66] at H
               have c66b0 : (((rd_T60 t440 x9_2).f1) != false) = false := by simpa using c66
               (try (have c66b1 : decide (((rd_T60 t440 x9_2).f1) = false) = true := by simpa using c66))
               (try (have c66b2 : (((rd_T60 t440 x9_2).f1) == false) = true := by simpa using c66))
               clear c66
               have H' := Aside0.mk H
               clear H
               try go_wp2
               have n0_ := Aside0.mk (Kd.R_drew HO_8.out)
               have n1_ := Aside0.mk (Kd.R_drew HO_447000.out)
               have n2_ := Aside0.mk (Kd.R_drew HO_447001.out)
               have n3_ := Aside0.mk (blk_drew BK439.out)
               have n4_ := Aside0.mk (blk_drew BK446.out)
               have n5_ := Aside0.mk (below_drew1 HB.out)
               clear HO_8
               clear HO_447000
               clear HO_447001
               clear BK439
               clear BK446
               clear HB
               have HO_8 := n0_
               have HO_447000 := n1_
               have HO_447001 := n2_
               have BK439 := n3_
               have BK446 := n4_
               have HB := n5_
               clear n0_ n1_ n2_ n3_ n4_ n5_
               have p461 : 0 ≤ (x9_2 : Int) := of_decide_eq_true (by first | (with_reducible assumption) | assumption)
               have q461 : x9_2 < (t440.length : Int) := of_decide_eq_true (by first | (with_reducible assumption) | assumption)
               obtain ⟨ad461, e461, hx461_0, hx461_1⟩ := at_T60 (Kd.R_reads' HO_447000.out).2.2 x9_2 p461 q461
               cases e461
               replace p461 := eq_true p461
               replace q461 := eq_true q461
               refine start_ (n := 21) (S := fun w' => w'.cell? ⟨gb446, 0, none⟩ = some (.slice (some ad461) t440.length co11) ∧ w'.cell? ⟨gb446, 1, none⟩ = some (.slice (some ad451) t443.length co14) ∧ w'.cell? (ad461.add ((x9_2).toNat * 2)) = some (.string ((rd_T60 t440 x9_2).f0)) ∧ w'.cell? ⟨(ad461.add ((x9_2).toNat * 2)).block, (ad461.add ((x9_2).toNat * 2)).off + 1, none⟩ = some (.bool ((rd_T60 t440 x9_2).f1))) (ds := []) (Sq.bl 21 0) (by kernel_rfl) rfl rfl ⟨(blk_cell BK446.out 0).trans rfl, (blk_cell BK446.out 1).trans rfl, hx461_0, hx461_1⟩ (fun hHeld => ?_); refine with_tabW jalousielaw05_ViewEnds.tab11 jalousielaw05_ViewEnds.bits11 (fun HT_ HW_ => ?_)
               generalize wc.drew = w67 at HO_8 HO_447000 HO_447001 BK439 BK446 HB hx461_0 hx461_1 hHeld ⊢
               refine Sq.pu (v := ?_) (a' := ?_) 0 89 (Sq.bl 21 1) (any_of HT_.out (by kernel_rfl)) rfl rfl (fun _ _ _ h => h) (by rfl) ?_ ?_ ?_; rotate_left; (· intro w'; go_simp; with_reducible rfl); rotate_left; (· simp only [Act.put,zp1,zp2,zp3,zp4,zp5]; rfl)
               refine Sq.pu (v := ?_) (a' := ?_) 2 91 (Sq.bl 21 5) (any_of HT_.out (by kernel_rfl)) rfl rfl (fun _ _ _ h => h) (by rfl) ?_ ?_ ?_; rotate_left; (· intro w'; go_simp; with_reducible rfl); rotate_left; (· simp only [Act.put,zp1,zp2,zp3,zp4,zp5]; rfl)
               refine Sq.pu (v := ?_) (a' := ?_) 6 95 (Sq.bl 21 69) (any_of HT_.out (by kernel_rfl)) rfl rfl (fun _ _ _ h => h) (by rfl) ?_ ?_ ?_; rotate_left; (· intro w'; go_simp; with_reducible rfl); rotate_left; (· simp only [Act.put,zp1,zp2,zp3,zp4,zp5]; rfl)
               refine Sq.pu (v := ?_) (a' := ?_) 7 96 (Sq.bl 21 197) (any_of HT_.out (by kernel_rfl)) rfl rfl (fun _ _ _ h => h) (by rfl) ?_ ?_ ?_; rotate_left; (· intro w'; go_simp; with_reducible rfl); rotate_left; (· simp only [Act.put,zp1,zp2,zp3,zp4,zp5]; rfl)
               refine take_ (i := 1) (N := some 90) (v := ?_) (a' := ?_) (Sq.bl 21 199) rfl rfl (take_ofW HT_.out HW_.out (by kernel_rfl)) (fun _ _ _ h => h) (Or.inl ⟨by rfl, ?_⟩) hHeld ?_ ?_
               rotate_left
               ·rintro w' ⟨s0, s1, s2, s3⟩
                go_simp
                with_reducible rfl
               rotate_left
               ·simp only [Act.put,zp1,zp2,zp3,zp4,zp5]
                rfl
               refine Sq.pu (v := ?_) (a' := ?_) 3 92 (Sq.bl 21 207) (any_of HT_.out (by kernel_rfl)) rfl rfl (fun _ _ _ h => h) (by rfl) ?_ ?_ ?_; rotate_left; (· intro w'; go_simp; with_reducible rfl); rotate_left; (· simp only [Act.put,zp1,zp2,zp3,zp4,zp5]; rfl)
               refine Sq.pu (v := ?_) (a' := ?_) 4 93 (Sq.bl 21 223) (any_of HT_.out (by kernel_rfl)) rfl rfl (fun _ _ _ h => h) (by rfl) ?_ ?_ ?_; rotate_left; (· intro w'; go_simp; with_reducible rfl); rotate_left; (· simp only [Act.put,zp1,zp2,zp3,zp4,zp5]; rfl)
               refine take_ (i := 5) (N := some 94) (v := ?_) (a' := ?_) (Sq.bl 21 255) rfl rfl (take_ofW HT_.out HW_.out (by kernel_rfl)) (fun _ _ _ h => h) (Or.inl ⟨by rfl, ?_⟩) hHeld ?_ ?_
               rotate_left
               ·rintro w' ⟨s0, s1, s2, s3⟩
                go_simp
                with_reducible rfl
               rotate_left
               ·simp only [Act.put,zp1,zp2,zp3,zp4,zp5]
                rfl
               refine take_ (i := 8) (N := some 97) (v := ?_) (a' := ?_) (Sq.bl 21 511) rfl rfl (take_ofW HT_.out HW_.out (by kernel_rfl)) (fun _ _ _ h => h) (Or.inl ⟨by rfl, ?_⟩) hHeld ?_ ?_
               rotate_left
               ·rintro w' ⟨s0, s1, s2, s3⟩
                go_simp
                with_reducible rfl
               rotate_left
               ·simp only [Act.put,zp1,zp2,zp3,zp4,zp5]
                rfl
               refine Sq.pu (v := ?_) (a' := ?_) 9 98 (Sq.bl 21 1023) (any_of HT_.out (by kernel_rfl)) rfl rfl (fun _ _ _ h => h) (by rfl) ?_ ?_ ?_; rotate_left; (· intro w'; go_simp; with_reducible rfl); rotate_left; (· simp only [Act.put,zp1,zp2,zp3,zp4,zp5]; rfl)
               refine Sq.pu (v := ?_) (a' := ?_) 10 99 (Sq.bl 21 2047) (any_of HT_.out (by kernel_rfl)) rfl rfl (fun _ _ _ h => h) (by rfl) ?_ ?_ ?_; rotate_left; (· intro w'; go_simp; with_reducible rfl); rotate_left; (· simp only [Act.put,zp1,zp2,zp3,zp4,zp5]; rfl)
               refine Sq.pu (v := ?_) (a' := ?_) 11 100 (Sq.bl 21 4095) (any_of HT_.out (by kernel_rfl)) rfl rfl (fun _ _ _ h => h) (by rfl) ?_ ?_ ?_; rotate_left; (· intro w'; go_simp; with_reducible rfl); rotate_left; (· simp only [Act.put,zp1,zp2,zp3,zp4,zp5]; rfl)
               refine Sq.pu (v := ?_) (a' := ?_) 12 101 (Sq.bl 21 8191) (any_of HT_.out (by kernel_rfl)) rfl rfl (fun _ _ _ h => h) (by rfl) ?_ ?_ ?_; rotate_left; (· intro w'; go_simp; with_reducible rfl); rotate_left; (· simp only [Act.put,zp1,zp2,zp3,zp4,zp5]; rfl)
               refine pure_ (i := 13) (N := some 102) (v := undef) (a' := ?_) (Sq.bl 21 16383) rfl rfl (any_of HT_.out (by kernel_rfl)) (fun _ _ _ h => h) (Or.inr ⟨by rfl, rfl⟩) ?_ ?_
               rotate_left
               ·simp only [Act.put,zp1,zp2,zp3,zp4,zp5]
                rfl
               refine pure_ (i := 14) (N := some 103) (v := undef) (a' := ?_) (Sq.bl 21 32767) rfl rfl (any_of HT_.out (by kernel_rfl)) (fun _ _ _ h => h) (Or.inr ⟨by rfl, rfl⟩) ?_ ?_
               rotate_left
               ·simp only [Act.put,zp1,zp2,zp3,zp4,zp5]
                rfl
               refine pure_ (i := 15) (N := some 104) (v := undef) (a' := ?_) (Sq.bl 21 65535) rfl rfl (any_of HT_.out (by kernel_rfl)) (fun _ _ _ h => h) (Or.inr ⟨by rfl, rfl⟩) ?_ ?_
               rotate_left
               ·simp only [Act.put,zp1,zp2,zp3,zp4,zp5]
                rfl
               refine pure_ (i := 16) (N := some 105) (v := undef) (a' := ?_) (Sq.bl 21 131071) rfl rfl (any_of HT_.out (by kernel_rfl)) (fun _ _ _ h => h) (Or.inr ⟨by rfl, rfl⟩) ?_ ?_
               rotate_left
               ·simp only [Act.put,zp1,zp2,zp3,zp4,zp5]
                rfl
               refine pure_ (i := 17) (N := some 106) (v := undef) (a' := ?_) (Sq.bl 21 262143) rfl rfl (any_of HT_.out (by kernel_rfl)) (fun _ _ _ h => h) (Or.inr ⟨by rfl, rfl⟩) ?_ ?_
               rotate_left
               ·simp only [Act.put,zp1,zp2,zp3,zp4,zp5]
                rfl
               refine pure_ (i := 18) (N := some 107) (v := undef) (a' := ?_) (Sq.bl 21 524287) rfl rfl (any_of HT_.out (by kernel_rfl)) (fun _ _ _ h => h) (Or.inr ⟨by rfl, rfl⟩) ?_ ?_
               rotate_left
               ·simp only [Act.put,zp1,zp2,zp3,zp4,zp5]
                rfl
               refine Sq.pu (v := ?_) (a' := ?_) 19 108 (Sq.bl 21 1048575) (any_of HT_.out (by kernel_rfl)) rfl rfl (fun _ _ _ h => h) (by rfl) ?_ ?_ ?_; rotate_left; (· intro w'; go_simp; with_reducible rfl); rotate_left; (· simp only [Act.put,zp1,zp2,zp3,zp4,zp5]; rfl)
               refine Sq.pu (v := ?_) (a' := ?_) 20 109 (Sq.bl 21 2097151) (any_of HT_.out (by kernel_rfl)) rfl rfl (fun _ _ _ h => h) (by rfl) ?_ ?_ ?_; rotate_left; (· intro w'; go_simp; with_reducible rfl); rotate_left; (· simp only [Act.put,zp1,zp2,zp3,zp4,zp5]; rfl)
               refine done_ (done_of HT_.out (by kernel_rfl)) ?_
               try go_wp2
               go_roundg kj24
               case measure => have := HJ5.out; have := HK2.out; have := HJ24.out; omega
               case rel => exact ⟨(wrap64 (x9_2 + 1)), (by first | rfl | (simp; done) | (simp [*]; done)), H', ⟨by have := HJ5.out; have := HK2.out; have := HJ24.out; omega⟩, ⟨by (with_reducible repeat first|apply zr1|apply zr2|apply zr3); exact HO_8.out⟩, ⟨by (with_reducible repeat first|apply zr1|apply zr2|apply zr3); exact HO_447000.out⟩, ⟨by (with_reducible repeat first|apply zr1|apply zr2|apply zr3); exact HO_447001.out⟩, ⟨by (with_reducible repeat first|refine zb1 ?_ _|refine zb2 ?_|refine zb3 ?_ _); exact BK439.out⟩, ⟨by (with_reducible repeat first|refine zb1 ?_ _|refine zb2 ?_|refine zb3 ?_ _); exact BK446.out⟩, ⟨by repeat (first | (with_reducible first | exact HB.out | apply below_alloc | apply pw_below_drewN | apply below_drew1 | refine below_set ?_ GE439.out | refine below_set ?_ GE446.out) | exact HB.out)⟩⟩
            ·rw [if_neg c60] at H
             exact absurd H (by simp)
           ·rw [if_neg c59] at H
            exact absurd H (by simp)
       ·rw [if_neg c24] at H
        exact absurd H (by simp)
      ·rw [if_neg c23] at H
       have c23b0 : decide (x9_2 < (t443.length : Int)) = false := decide_eq_false c23
       clear c23
       replace H := Option.bind_eq_some_iff.mp H
       obtain ⟨t450, A680, H⟩ := H
       replace H : (some t450) = some r := H
       have A68 := Aside0.mk A680
       clear A680
       obtain rfl := Option.some.inj H
       have hnb69 := NB446_439.out
       have hnc69 := NB439_446.out
       have hcz70_0 : wr.cell? ⟨gb446, 0, none⟩ = some (.slice Ao11 t440.length co11) := (blk_cell BK446.out 0).trans rfl
       have hcz70_1 : wr.cell? ⟨gb446, 1, none⟩ = some (.slice Ao14 t443.length co14) := (blk_cell BK446.out 1).trans rfl
       have hfz70_0 := blk_frozen BK446.out 0
       have hfz70_1 := blk_frozen BK446.out 1
       go_wp2_with (first | ((with_reducible refine gate_callee (f := 28) rfl ?_); refine goesL_ (some 110) rfl rfl Try.func28 (by kernel_rfl) rfl #[] rfl (by (try simp only [List.map_toArray, List.map_cons, List.map_nil]); first | done | rfl | (simp only [List.length_drop, List.length_take]; rfl)) ?_; (with_reducible refine (jalousielaw05_live.calls k2  t450 _ A68.out).mono ?_); rintro e w71 ⟨rfl, hb⟩; refine ⟨_, rfl, ?_⟩; have n0_ := Aside0.mk (Kd.R_below (by (with_reducible repeat first|apply zr1|apply zr2|apply zr3); exact HO_8.out) hb); have n1_ := Aside0.mk (Kd.R_below (by (with_reducible repeat first|apply zr1|apply zr2|apply zr3); exact HO_447000.out) hb); have n2_ := Aside0.mk (Kd.R_below (by (with_reducible repeat first|apply zr1|apply zr2|apply zr3); exact HO_447001.out) hb); have n3_ := Aside0.mk (blk_below (g := gb439) (o := .cells #[.int .i64 a1_0, .int .u64 a1_1] 25 (0, 0)) (by (with_reducible repeat first|refine zb1 ?_ _|refine zb2 ?_|refine zb3 ?_ _); exact BK439.out) hb); have n4_ := Aside0.mk (blk_below (g := gb446) (o := .cells #[.slice Ao11 t440.length co11, .slice Ao14 t443.length co14] 42 (0, 0)) (by (with_reducible repeat first|refine zb1 ?_ _|refine zb2 ?_|refine zb3 ?_ _); exact BK446.out) hb); have n5_ := Aside0.mk (below_step (by repeat (first | (with_reducible first | exact HB.out | apply below_alloc | apply pw_below_drewN | apply below_drew1 | refine below_set ?_ GE439.out | refine below_set ?_ GE446.out) | exact HB.out)) hb); clear HO_8; clear HO_447000; clear HO_447001; clear BK439; clear BK446; clear HB; have HO_8 := n0_; have HO_447000 := n1_; have HO_447001 := n2_; have BK439 := n3_; have BK446 := n4_; have HB := n5_; clear n0_ n1_ n2_ n3_ n4_ n5_; (try clear hb); (try clear hb2); (try clear hk); (try clear hi)))
       go_ret
       exact ⟨by first | rfl | (simp [errW_none, errW_some] <;> rfl) | (simp [*, errW_none, errW_some] <;> rfl), by repeat (first | (with_reducible first | exact HB.out | apply below_alloc | apply pw_below_drewN | apply below_drew1 | refine below_set ?_ GE439.out | refine below_set ?_ GE446.out) | exact HB.out)⟩

end Go.Proofs.Ytdbdfnkhbcgklaa.V
