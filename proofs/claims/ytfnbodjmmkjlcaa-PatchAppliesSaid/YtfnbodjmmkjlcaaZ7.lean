/-
  What the claim needs of the words, of the walks and of the plain proofs, in one row (7).
-/
import Derived.ChangeKeysEq
import Derived.RangeFuncNested
import Derived.RangeFuncBound
import Derived.RangeFuncCalls
import Derived.RangeFuncLeaves
import Derived.RangeFuncBox
import Derived.RangeFuncMany
import Derived.OwnWalkIn
import Derived.Test.YtfnbodjmmkjlcaaZ0
import Derived.Test.YtfnbodjmmkjlcaaZ1
import Derived.Test.YtfnbodjmmkjlcaaZ2
import Derived.Test.YtfnbodjmmkjlcaaZ3
import Derived.Test.YtfnbodjmmkjlcaaZ4
import Derived.Test.YtfnbodjmmkjlcaaZ5
import Derived.Test.YtfnbodjmmkjlcaaZ6
section
namespace Go.Proofs.Ytfnbodjmmkjlcaa.H
open Go.RowKit Go.Proofs.YtfnbodjmmkjlcaaW.PrintWords Go.Proofs.YtfnbodjmmkjlcaaW.PrintLast Go.Proofs.YtfnbodjmmkjlcaaW.PrintMore
attribute [local go_sem] max2_int min2_int max_two min_two max_three min_three max_four min_four   -- for this text's walks alone
set_option linter.unusedVariables false
set_option linter.unusedSimpArgs false

def jalousieref11_Apply.l0 : Nat → List (S47) → Int → Int → List (S66) → List (S64) → List Int → List Int → Option ((List (S66)) × (List (S64)) × List Int × List Int × Int)
 | 0, _, _, _, _, _, _, _ => none
 | k + 1, x8, x10, x11, x450000, x450001, x450002, x450003 => if x11 < (x8.length : Int) then (if 0 ≤ x11 then (if ((rd_T47 x8 x11).f0) = 1 then (if x450001.length < 8796093022208 then (if 0 < (((rd_T47 x8 x11).f1).length : Int) then (if x450000.length < 5864062014805 then (jalousieref11_Apply.l0 k x8 (wrap64 (x10 + 1)) (wrap64 (x11 + 1)) (x450000 ++ [(⟨(rd_T66 ((rd_T47 x8 x11).f1) 0).f0, (rd_T66 ((rd_T47 x8 x11).f1) 0).f1⟩ : S66)]) (x450001 ++ [(⟨x10, (x450000.length : Int)⟩ : S64)]) x450002 x450003) else (none)) else (none)) else (none)) else (if ((rd_T47 x8 x11).f0) = 2 then (if x450002.length < 17592186044416 then (jalousieref11_Apply.l0 k x8 (wrap64 (x10 + 1)) (wrap64 (x11 + 1)) x450000 x450001 (x450002 ++ [x10]) x450003) else (none)) else (if ((rd_T47 x8 x11).f0) = 3 then (if x450003.length < 17592186044416 then (if 0 < (((rd_T47 x8 x11).f1).length : Int) then (if x450000.length < 5864062014805 then (jalousieref11_Apply.l0 k x8 x10 (wrap64 (x11 + 1)) (x450000 ++ [(⟨(rd_T66 ((rd_T47 x8 x11).f1) 0).f0, (rd_T66 ((rd_T47 x8 x11).f1) 0).f1⟩ : S66)]) x450001 x450002 (x450003 ++ [(x450000.length : Int)])) else (none)) else (none)) else (none)) else (jalousieref11_Apply.l0 k x8 x10 (wrap64 (x11 + 1)) x450000 x450001 x450002 x450003)))) else (none)) else (if (x450000.length : Int) > 400 then (some (([] : List (S66)), ([] : List (S64)), ([] : List Int), ([] : List Int), 4)) else ((jalousieref01_Right.f k x450000).bind fun t470 => (if t470 = true then (some (x450000, x450001, x450002, x450003, 0)) else (some (([] : List (S66)), ([] : List (S64)), ([] : List Int), ([] : List Int), 3)))))
def jalousieref11_Apply.f (k : Nat) (l0 : List (S44)) (l1 : List (S66)) : Option ((List (S66)) × (List (S64)) × List Int × List Int × Int) := (jalousieref09_Whole.f k l0 l1).bind fun bt442 => (if bt442.2 = 0 then ((jalousieref09_Single.f k bt442.1).bind fun t446 => (jalousieref11_Apply.l0 k t446 0 0 ([] : List (S66)) ([] : List (S64)) ([] : List Int) ([] : List Int))) else (some (([] : List (S66)), ([] : List (S64)), ([] : List Int), ([] : List Int), bt442.2)))
def jalousieref11_Apply.T13 : Bool × List (List Nat × List Nat) := (true, [([], []), ([0], [0]), ([], []), ([], []), ([2, 3], [2, 3]), ([4], [4]), ([5], [5]), ([6], [6]), ([7], [7]), ([8], [8]), ([1, 9], [1, 9]), ([0, 1, 2, 3, 4, 5, 6, 7, 8, 9, 10], []), ([11, 10, 10, 0, 1, 2, 3, 4, 5, 6, 7, 8, 9, 10], [10, 11])])
def jalousieref11_Apply.B13 : List Nat := [0, 1, 0, 0, 12, 28, 60, 124, 252, 508, 1023, 2047, 4095]
theorem jalousieref11_Apply.tab13 : rtab .any (opsOf Try.f31 13) = jalousieref11_Apply.T13 := by kernel_rfl
theorem jalousieref11_Apply.bits13 : waitsOk jalousieref11_Apply.T13.2 jalousieref11_Apply.B13 = true := by kernel_rfl
def jalousieref11_Apply.T20 : Bool × List (List Nat × List Nat) := (true, [([], []), ([0], [0]), ([], []), ([], []), ([2, 3], [2, 3]), ([4], [4]), ([5], [5]), ([6], [6]), ([7], [7]), ([8], [8]), ([1, 9], [1, 9]), ([0, 1, 2, 3, 4, 5, 6, 7, 8, 9, 10], []), ([11, 10, 10, 0, 1, 2, 3, 4, 5, 6, 7, 8, 9, 10], [10, 11])])
def jalousieref11_Apply.B20 : List Nat := [0, 1, 0, 0, 12, 28, 60, 124, 252, 508, 1023, 2047, 4095]
theorem jalousieref11_Apply.tab20 : rtab .any (opsOf Try.f31 20) = jalousieref11_Apply.T20 := by kernel_rfl
theorem jalousieref11_Apply.bits20 : waitsOk jalousieref11_Apply.T20.2 jalousieref11_Apply.B20 = true := by kernel_rfl
set_option maxHeartbeats 8000000 in
set_option maxRecDepth 100000 in
theorem jalousieref11_Apply.calls (k : Nat) (A0 : Option Addr) (c0 : Nat) (l0 : List (S44)) (A1 : Option Addr) (c1 : Nat) (l1 : List (S66)) (r1 : List (S66)) (r2 : List (S64)) (r3 : List Int) (r4 : List Int) (r5 : Int) (w : World) (hr0 : Kd.C k44 w A0 l0.length l0) (hc0 : l0.length ≤ c0) (hr1 : Kd.C k66 w A1 l1.length l1) (hc1 : l1.length ≤ c1) (h : jalousieref11_Apply.f k l0 l1 = some (r1, r2, r3, r4, r5)) :
  Calls Try.prog 31 #[.slice A0 l0.length c0, .slice A1 l1.length c1] w fun e w' => ∃ v0_ v1_ v2_ v3_ : Value, e = .returned (.tuple #[.agg #[v0_, v1_, v2_, v3_], .int .i64 r5]) ∧ Kd.R k66 66 w' w.heap.size (fun _ => True) v0_ r1 ∧ Kd.R k64 64 w' w.heap.size (fun _ => True) v1_ r2 ∧ Kd.R (Kd.int .i64) 3 w' w.heap.size (fun k_ => some k_ ≠ (v3_ : Value).ownBlock) v2_ r3 ∧ Kd.R (Kd.int .i64) 3 w' w.heap.size (fun k_ => some k_ ≠ (v2_ : Value).ownBlock) v3_ r4 ∧ Below w.heap.size w w' := by
 have hu57 := Try.underlying57
 have hu64 := Try.underlying64
 have hu66 := Try.underlying66
 have HR0 := Aside0.mk hr0
 have HC0 := Aside0.mk hc0
 clear hr0 hc0
 have HR1 := Aside0.mk hr1
 have HC1 := Aside0.mk hc1
 clear hr1 hc1
 have HB := Aside0.mk (Below.refl w.heap.size w)
 have H : ((jalousieref09_Whole.f k l0 l1).bind fun bt442 => (if bt442.2 = 0 then ((jalousieref09_Single.f k bt442.1).bind fun t446 => (jalousieref11_Apply.l0 k t446 0 0 ([] : List (S66)) ([] : List (S64)) ([] : List Int) ([] : List Int))) else (some (([] : List (S66)), ([] : List (S64)), ([] : List Int), ([] : List Int), bt442.2)))) = some (r1, r2, r3, r4, r5) := h
 clear h
 replace H := Option.bind_eq_some_iff.mp H
 obtain ⟨⟨t442, t445⟩, A30, H⟩ := H
 replace H : (if t445 = 0 then ((jalousieref09_Single.f k t442).bind fun t446 => (jalousieref11_Apply.l0 k t446 0 0 ([] : List (S66)) ([] : List (S64)) ([] : List Int) ([] : List Int))) else (some (([] : List (S66)), ([] : List (S64)), ([] : List Int), ([] : List Int), t445))) = some (r1, r2, r3, r4, r5) := H
 have A3 := Aside0.mk A30
 clear A30
 by_cases c4 : t445 = 0
 ·rw [if_pos c4] at H
  have c4b0 : (t445 == 0) = true := beq_iff_eq.mpr c4
  have c4b1 : (t445 != 0) = false := bne_eq_false_iff_eq.mpr c4
  clear c4
  replace H := Option.bind_eq_some_iff.mp H
  obtain ⟨t446, A50, H⟩ := H
  replace H : (jalousieref11_Apply.l0 k t446 0 0 ([] : List (S66)) ([] : List (S64)) ([] : List Int) ([] : List Int)) = some (r1, r2, r3, r4, r5) := H
  have A5 := Aside0.mk A50
  clear A50
  have H' := Aside0.mk H
  clear H
  go_enter Try.func31, Try.ntmps31
  go_wp2_with (first | ((with_reducible refine gate_dst (N := 4) rfl ?_); refine box_event ?hg (N := 4) ?hd (cs := #[.slice none 0 0, .slice none 0 0, .slice none 0 0, .slice none 0 0]) (t := 57) ?hr ?_; (case hd => rfl); (case hg => rfl); (case hr => first | (go_simp; done) | (go_simp; rfl)); intro gb441 hg w6 hbox hb; have n0_ := Aside0.mk (below_step (by repeat (first | (with_reducible first | exact HB.out | apply below_alloc | apply pw_below_drewN | apply below_drew1) | exact HB.out)) hb); have n1_ := Aside0.mk (hbox); have n2_ := Aside0.mk ((by rw [hg]; exact (below_size (by repeat (first | (with_reducible first | exact HB.out | apply below_alloc | apply pw_below_drewN | apply below_drew1) | exact HB.out))) : w.heap.size ≤ gb441)); have n3_ := Aside0.mk ((by rw [hg]; exact (below_size (by repeat (first | (with_reducible first | exact HB.out | apply below_alloc | apply pw_below_drewN | apply below_drew1) | exact HB.out))) : w.heap.size ≤ gb441)); clear HB; have HB := n0_; have BK441 := n1_; have GW441 := n2_; have GE441 := n3_; clear n0_ n1_ n2_ n3_; clear hb hbox hg) | ((with_reducible refine gate_callee (f := 62) rfl ?_); refine goesL_ (some 15) rfl rfl Try.func62 (by kernel_rfl) rfl #[.slice A0 l0.length c0, .slice A1 l1.length c1] rfl (by (try simp only [List.map_toArray, List.map_cons, List.map_nil]); first | done | rfl | (simp only [List.length_drop, List.length_take]; rfl)) ?_; (with_reducible refine (jalousieref09_Whole.calls k (fun k_ => k_ < w.heap.size) _ _ l0 (fun k_ => k_ < w.heap.size) _ _ l1 t442 t445 _ ?side1 ?side2 A3.out).mono ?_); (case side1 => exact Kd.V_mk HC0.out (Kd.F_below (Kd.C_F k44_heap HR0.out) (by repeat (first | (with_reducible first | exact HB.out | apply below_alloc | apply pw_below_drewN | apply below_drew1 | refine below_set ?_ GE441.out) | exact HB.out)))); (case side2 => exact Kd.V_mk HC1.out (Kd.F_below (Kd.C_F k66_heap HR1.out) (by repeat (first | (with_reducible first | exact HB.out | apply below_alloc | apply pw_below_drewN | apply below_drew1 | refine below_set ?_ GE441.out) | exact HB.out)))); rintro e w7 ⟨v443, rfl, ho0, hb⟩; refine ⟨_, rfl, ?_⟩; have n0_ := Aside0.mk (Kd.N_lower (Kd.N_mono (ok' := fun k_ => k_ ≠ gb441) ho0 (fun k_ hk_ => Or.elim hk_ (fun hs_ => Or.elim hs_ (fun hs_ => fun e_ => Nat.not_le.2 hs_ (by rw [e_]; exact GW441.out)) (fun hs_ => fun e_ => Nat.not_le.2 hs_ (by rw [e_]; exact GW441.out))) (fun hn_ => (Kd.freshB (g := gb441) (o := .cells #[.slice none 0 0, .slice none 0 0, .slice none 0 0, .slice none 0 0] 57 (0, 0)) (by (with_reducible repeat first|refine zb1 ?_ _|refine zb2 ?_|refine zb3 ?_ _); exact BK441.out) k_ hn_)))) (below_size (by repeat (first | (with_reducible first | exact HB.out | apply below_alloc | apply pw_below_drewN | apply below_drew1 | refine below_set ?_ GE441.out) | exact HB.out)))); have n1_ := Aside0.mk (blk_below (g := gb441) (o := .cells #[.slice none 0 0, .slice none 0 0, .slice none 0 0, .slice none 0 0] 57 (0, 0)) (by (with_reducible repeat first|refine zb1 ?_ _|refine zb2 ?_|refine zb3 ?_ _); exact BK441.out) hb); have n2_ := Aside0.mk (below_step (by repeat (first | (with_reducible first | exact HB.out | apply below_alloc | apply pw_below_drewN | apply below_drew1 | refine below_set ?_ GE441.out) | exact HB.out)) hb); clear BK441; clear HB; have HO444 := n0_; have BK441 := n1_; have HB := n2_; clear n0_ n1_ n2_; (try clear hb); (try clear hb2); (try clear hk); (try clear hi); (try clear ho0); obtain ⟨Ao8, co8, eo8⟩ := Kd.N_slice HO444.out; subst eo8) | ((with_reducible refine gate_callee (f := 41) rfl ?_); refine goesL_ (some 23) rfl rfl Try.func41 (by kernel_rfl) rfl #[.slice Ao8 t442.length co8] rfl (by (try simp only [List.map_toArray, List.map_cons, List.map_nil]); first | done | rfl | (simp only [List.length_drop, List.length_take]; rfl)) ?_; (with_reducible refine (jalousieref09_Single.calls k _ _ t442 t446 _ ?side1 ?side2 A5.out).mono ?_); (case side1 => repeat (first | exact (Kd.N_reads' HO444.out).2.2 | (with_reducible refine Kd.C_alloc ?_ _) | (with_reducible refine Kd.C_drewN ?_ _) | (with_reducible refine Kd.C_drew ?_))); (case side2 => exact (Kd.N_reads' HO444.out).2.1); rintro e w9 ⟨v447, rfl, ho0, hb⟩; refine ⟨_, rfl, ?_⟩; have n0_ := Aside0.mk (Kd.N_elder' (by (with_reducible repeat (first | apply Kd.N_alloc | apply Kd.N_drewN | apply Kd.N_drew)); exact HO444.out) (by first | exact Kd.S_base ho0 | exact Kd.R_base ho0 | exact Kd.N_base ho0) hb); have n1_ := Aside0.mk (Kd.N_lower (Kd.N_mono (ok' := fun k_ => some k_ ≠ (.slice Ao8 t442.length co8 : Value).ownBlock ∧ k_ ≠ gb441) (Kd.S_N (Kd.S_bound ho0)) (fun k_ hk_ => ⟨(Kd.fresh' (Kd.N_lt (by (with_reducible repeat (first | apply Kd.N_alloc | apply Kd.N_drewN | apply Kd.N_drew)); exact HO444.out)) k_ hk_.2.1), (Kd.freshB (g := gb441) (o := .cells #[.slice none 0 0, .slice none 0 0, .slice none 0 0, .slice none 0 0] 57 (0, 0)) (by (with_reducible repeat first|refine zb1 ?_ _|refine zb2 ?_|refine zb3 ?_ _); exact BK441.out) k_ hk_.2.1)⟩)) (below_size (by repeat (first | (with_reducible first | exact HB.out | apply below_alloc | apply pw_below_drewN | apply below_drew1 | refine below_set ?_ GE441.out) | exact HB.out)))); have n2_ := Aside0.mk (blk_below (g := gb441) (o := .cells #[.slice none 0 0, .slice none 0 0, .slice none 0 0, .slice none 0 0] 57 (0, 0)) (by (with_reducible repeat first|refine zb1 ?_ _|refine zb2 ?_|refine zb3 ?_ _); exact BK441.out) hb); have n3_ := Aside0.mk (below_step (by repeat (first | (with_reducible first | exact HB.out | apply below_alloc | apply pw_below_drewN | apply below_drew1 | refine below_set ?_ GE441.out) | exact HB.out)) hb); clear HO444; clear BK441; clear HB; have HO444 := n0_; have HO448 := n1_; have BK441 := n2_; have HB := n3_; clear n0_ n1_ n2_ n3_; (try clear hb); (try clear hb2); (try clear hk); (try clear hi); (try clear ho0)) | ((with_reducible refine gate_dst (N := 9) rfl ?_); refine box_event ?hg (N := 9) ?hd (cs := #[.slice none 0 0, .slice none 0 0, .slice none 0 0, .slice none 0 0]) (t := 57) ?hr ?_; (case hd => rfl); (case hg => rfl); (case hr => first | (go_simp; done) | (go_simp; rfl)); intro gb449 hg w10 hbox hb; have n0_ := Aside0.mk (Kd.N_below (Kd.N_elderB (by (with_reducible repeat (first | apply Kd.N_alloc | apply Kd.N_drewN | apply Kd.N_drew)); exact HO444.out) gb449 (Nat.le_of_eq hg.symm)) hb); have n1_ := Aside0.mk (Kd.N_below (Kd.N_elderB (by (with_reducible repeat (first | apply Kd.N_alloc | apply Kd.N_drewN | apply Kd.N_drew)); exact HO448.out) gb449 (Nat.le_of_eq hg.symm)) hb); have n2_ := Aside0.mk (blk_below (g := gb441) (o := .cells #[.slice none 0 0, .slice none 0 0, .slice none 0 0, .slice none 0 0] 57 (0, 0)) (by (with_reducible repeat first|refine zb1 ?_ _|refine zb2 ?_|refine zb3 ?_ _); exact BK441.out) hb); have n3_ := Aside0.mk (below_step (by repeat (first | (with_reducible first | exact HB.out | apply below_alloc | apply pw_below_drewN | apply below_drew1 | refine below_set ?_ GE441.out) | exact HB.out)) hb); have n4_ := Aside0.mk (hbox); have n5_ := Aside0.mk ((by rw [hg]; exact (below_size (by repeat (first | (with_reducible first | exact HB.out | apply below_alloc | apply pw_below_drewN | apply below_drew1 | refine below_set ?_ GE441.out) | exact HB.out))) : w.heap.size ≤ gb449)); have n6_ := Aside0.mk ((by rw [hg]; exact (below_size (by repeat (first | (with_reducible first | exact HB.out | apply below_alloc | apply pw_below_drewN | apply below_drew1 | refine below_set ?_ GE441.out) | exact HB.out))) : w.heap.size ≤ gb449)); have n7_ := Aside0.mk ((by rw [hg]; exact Nat.ne_of_lt (blk_lt (g := gb441) (o := .cells #[.slice none 0 0, .slice none 0 0, .slice none 0 0, .slice none 0 0] 57 (0, 0)) (by (with_reducible repeat first|refine zb1 ?_ _|refine zb2 ?_|refine zb3 ?_ _); exact BK441.out)) : gb441 ≠ gb449)); have n8_ := Aside0.mk ((by rw [hg]; exact Nat.ne_of_gt (blk_lt (g := gb441) (o := .cells #[.slice none 0 0, .slice none 0 0, .slice none 0 0, .slice none 0 0] 57 (0, 0)) (by (with_reducible repeat first|refine zb1 ?_ _|refine zb2 ?_|refine zb3 ?_ _); exact BK441.out)) : gb449 ≠ gb441)); clear HO444; clear HO448; clear BK441; clear HB; have HO444 := n0_; have HO448 := n1_; have BK441 := n2_; have HB := n3_; have BK449 := n4_; have GW449 := n5_; have GE449 := n6_; have NB441_449 := n7_; have NB449_441 := n8_; clear n0_ n1_ n2_ n3_ n4_ n5_ n6_ n7_ n8_; clear hb hbox hg; have hnb11 := NB449_441.out; have hnc11 := NB441_449.out; have hcz12_0 : w10.cell? ⟨gb449, 0, none⟩ = some (.slice none 0 0) := (blk_cell BK449.out 0).trans rfl; have hcz12_1 : w10.cell? ⟨gb449, 1, none⟩ = some (.slice none 0 0) := (blk_cell BK449.out 1).trans rfl; have hcz12_2 : w10.cell? ⟨gb449, 2, none⟩ = some (.slice none 0 0) := (blk_cell BK449.out 2).trans rfl; have hcz12_3 : w10.cell? ⟨gb449, 3, none⟩ = some (.slice none 0 0) := (blk_cell BK449.out 3).trans rfl; have hfz12_0 := blk_frozen BK449.out 0; have hfz12_1 := blk_frozen BK449.out 1; have hfz12_2 := blk_frozen BK449.out 2; have hfz12_3 := blk_frozen BK449.out 3))
  go_loopg [10, 11] k (fun kq v10 v11 w' => ∃ (x10_1 : Int) (x11_1 : Int) (x450000_1 : List (S66)) (x450001_1 : List (S64)) (x450002_1 : List Int) (x450003_1 : List Int) (u450000 : Value) (u450001 : Value) (u450002 : Value) (u450003 : Value), v10 = .int .i64 x10_1 ∧ v11 = .int .i64 x11_1 ∧ Aside0 (jalousieref11_Apply.l0 kq t446 x10_1 x11_1 x450000_1 x450001_1 x450002_1 x450003_1 = some (r1, r2, r3, r4, r5)) ∧ Aside0 (kq ≤ k) ∧ Aside0 (Kd.N k47 47 w' w.heap.size (fun k_ => some k_ ≠ (u450000 : Value).ownBlock ∧ some k_ ≠ (u450001 : Value).ownBlock ∧ some k_ ≠ (u450002 : Value).ownBlock ∧ some k_ ≠ (u450003 : Value).ownBlock ∧ k_ ≠ gb441 ∧ k_ ≠ gb449) v447 t446) ∧ Aside0 (Kd.R k66 66 w' w.heap.size (fun _ => True) u450000 x450000_1) ∧ Aside0 (Kd.R k64 64 w' w.heap.size (fun _ => True) u450001 x450001_1) ∧ Aside0 (Kd.R (Kd.int .i64) 3 w' w.heap.size (fun k_ => some k_ ≠ (u450003 : Value).ownBlock) u450002 x450002_1) ∧ Aside0 (Kd.R (Kd.int .i64) 3 w' w.heap.size (fun k_ => some k_ ≠ (u450002 : Value).ownBlock) u450003 x450003_1) ∧ Aside0 (w'.heap[gb441]? = some (.cells #[(.slice none 0 0), (.slice none 0 0), (.slice none 0 0), (.slice none 0 0)] 57 (0, 0))) ∧ Aside0 (w'.heap[gb449]? = some (.cells #[u450000, u450001, u450002, u450003] 57 (0, 0))) ∧ Aside0 (Below w.heap.size w w'))
  case atStart => exact ⟨(0), (0), (([] : List (S66))), (([] : List (S64))), (([] : List Int)), (([] : List Int)), (.slice none 0 0), (.slice none 0 0), (.slice none 0 0), (.slice none 0 0), (by first | rfl | (simp; done) | (simp [*]; done)), (by first | rfl | (simp; done) | (simp [*]; done)), H', ⟨Nat.le_refl _⟩, ⟨by (with_reducible repeat (first | apply Kd.N_alloc | apply Kd.N_drewN | apply Kd.N_drew)); exact Kd.N_mono (Kd.N_far (p := ⟨gb449, 3, none⟩) (Kd.N_far (p := ⟨gb449, 2, none⟩) (Kd.N_far (p := ⟨gb449, 1, none⟩) (Kd.N_far (p := ⟨gb449, 0, none⟩) (Kd.N_mono HO448.out (fun k_ hk => (⟨hk, hk.2⟩ : _ ∧ k_ ≠ gb449))) (fun _ hk => hk.2) (.slice none 0 0)) (fun _ hk => hk.2) (.slice none 0 0)) (fun _ hk => hk.2) (.slice none 0 0)) (fun _ hk => hk.2) (.slice none 0 0)) (fun _ hk => ⟨(by simp [Value.ownBlock]), ⟨(by simp [Value.ownBlock]), ⟨(by simp [Value.ownBlock]), ⟨(by simp [Value.ownBlock]), ⟨hk.1.1.2, hk.1.2⟩⟩⟩⟩⟩)⟩, ⟨by first | exact Kd.R_nil _ _ _ _ _ | exact Kd.N_nil _ _ _ _ _ | exact Kd.V_nil _ _ _ _ _ | exact Kd.Q_nil _ _ _ _ _ | exact Kd.S_nil _ _ _ _ _⟩, ⟨by first | exact Kd.R_nil _ _ _ _ _ | exact Kd.N_nil _ _ _ _ _ | exact Kd.V_nil _ _ _ _ _ | exact Kd.Q_nil _ _ _ _ _ | exact Kd.S_nil _ _ _ _ _⟩, ⟨by first | exact Kd.R_nil _ _ _ _ _ | exact Kd.N_nil _ _ _ _ _ | exact Kd.V_nil _ _ _ _ _ | exact Kd.Q_nil _ _ _ _ _ | exact Kd.S_nil _ _ _ _ _⟩, ⟨by first | exact Kd.R_nil _ _ _ _ _ | exact Kd.N_nil _ _ _ _ _ | exact Kd.V_nil _ _ _ _ _ | exact Kd.Q_nil _ _ _ _ _ | exact Kd.S_nil _ _ _ _ _⟩, ⟨by (with_reducible repeat first|refine zb1 ?_ _|refine zb2 ?_|refine zb3 ?_ _); refine blk_far ?_ NB441_449.out _; (with_reducible repeat first|refine zb1 ?_ _|refine zb2 ?_|refine zb3 ?_ _); refine blk_far ?_ NB441_449.out _; (with_reducible repeat first|refine zb1 ?_ _|refine zb2 ?_|refine zb3 ?_ _); refine blk_far ?_ NB441_449.out _; (with_reducible repeat first|refine zb1 ?_ _|refine zb2 ?_|refine zb3 ?_ _); refine blk_far ?_ NB441_449.out _; (with_reducible repeat first|refine zb1 ?_ _|refine zb2 ?_|refine zb3 ?_ _); exact BK441.out⟩, ⟨by (with_reducible repeat first|refine zb1 ?_ _|refine zb2 ?_|refine zb3 ?_ _); refine blk_put (cs := #[.slice none 0 0, .slice none 0 0, .slice none 0 0, .slice none 0 0]) ?_ 3 _ rfl; (with_reducible repeat first|refine zb1 ?_ _|refine zb2 ?_|refine zb3 ?_ _); refine blk_put (cs := #[.slice none 0 0, .slice none 0 0, .slice none 0 0, .slice none 0 0]) ?_ 2 _ rfl; (with_reducible repeat first|refine zb1 ?_ _|refine zb2 ?_|refine zb3 ?_ _); refine blk_put (cs := #[.slice none 0 0, .slice none 0 0, .slice none 0 0, .slice none 0 0]) ?_ 1 _ rfl; (with_reducible repeat first|refine zb1 ?_ _|refine zb2 ?_|refine zb3 ?_ _); refine blk_put (cs := #[.slice none 0 0, .slice none 0 0, .slice none 0 0, .slice none 0 0]) ?_ 0 _ rfl; (with_reducible repeat first|refine zb1 ?_ _|refine zb2 ?_|refine zb3 ?_ _); exact BK449.out⟩, ⟨by repeat (first | (with_reducible first | exact HB.out | apply below_alloc | apply pw_below_drewN | apply below_drew1 | refine below_set ?_ GE441.out | refine below_set ?_ GE449.out) | exact HB.out)⟩⟩
  case round =>
   clear H'
   try clear c1
   try clear p2
   try clear c3
   try clear c4
   try clear c4b0
   try clear c4b1
   try clear c6
   try clear c11
   try clear hcz12_0
   try clear hcz12_1
   try clear hcz12_2
   try clear hcz12_3
   try clear hfz12_0
   try clear hfz12_1
   try clear hfz12_2
   try clear hfz12_3
   obtain ⟨x10_1, x11_1, x450000_1, x450001_1, x450002_1, x450003_1, u450000, u450001, u450002, u450003, rfl, rfl, HA, HK1, HO_8, HO_450000, HO_450001, HO_450002, HO_450003, BK441, BK449, HB⟩ := hrel
   cases gk with
   | zero => exact absurd HA.out (by simp [jalousieref11_Apply.l0])
   | succ k1 =>
    have H := HA.out
    clear HA
    simp only [jalousieref11_Apply.l0] at H
    by_cases c13 : x11_1 < (t446.length : Int)
    ·rw [if_pos c13] at H
     have c13b0 : decide (x11_1 < (t446.length : Int)) = true := decide_eq_true c13
     clear c13
     by_cases c14 : 0 ≤ x11_1
     ·rw [if_pos c14] at H
      have c14b0 : decide (0 ≤ x11_1) = true := decide_eq_true c14
      clear c14
      by_cases c15 : ((rd_T47 t446 x11_1).f0) = 1
      ·rw [if_pos c15] at H
       have c15b0 : (((rd_T47 t446 x11_1).f0) == 1) = true := beq_iff_eq.mpr c15
       have c15b1 : (((rd_T47 t446 x11_1).f0) != 1) = false := bne_eq_false_iff_eq.mpr c15
       clear c15
       by_cases c16 : x450001_1.length < 8796093022208
       ·rw [if_pos c16] at H
        have LMc16 := Aside0.mk c16
        clear c16
        obtain ⟨y451, hy451⟩ : ∃ y_ : List (S64), y_ = (x450001_1 ++ [(⟨x10_1, (x450000_1.length : Int)⟩ : S64)]) := ⟨_, rfl⟩
        replace H : (if 0 < (((rd_T47 t446 x11_1).f1).length : Int) then (if x450000_1.length < 5864062014805 then (jalousieref11_Apply.l0 k1 t446 (wrap64 (x10_1 + 1)) (wrap64 (x11_1 + 1)) (x450000_1 ++ [(⟨(rd_T66 ((rd_T47 t446 x11_1).f1) 0).f0, (rd_T66 ((rd_T47 t446 x11_1).f1) 0).f1⟩ : S66)]) y451 x450002_1 x450003_1) else (none)) else (none)) = some (r1, r2, r3, r4, r5) := by first | (rw [hy451]; with_reducible exact H) | (have H2_ := (Option.bind_some _ _).symm.trans H; rw [hy451]; with_reducible exact H2_) | (have H2_ := (Option.bind_some _ _).symm.trans H; with_reducible exact H2_) | with_reducible exact H | (rw [hy451]; exact H) | exact H
        have Ny451 := Aside0.mk hy451
        clear hy451
        by_cases c17 : 0 < (((rd_T47 t446 x11_1).f1).length : Int)
        ·rw [if_pos c17] at H
         have c17b0 : decide (0 < (((rd_T47 t446 x11_1).f1).length : Int)) = true := decide_eq_true c17
         have c17b1 : decide (0 < ((rd_T47 t446 x11_1).f1).length) = true := decide_eq_true (by omega)
         clear c17
         by_cases c18 : x450000_1.length < 5864062014805
         ·rw [if_pos c18] at H
          have LMc18 := Aside0.mk c18
          clear c18
          obtain ⟨y456, hy456⟩ : ∃ y_ : List (S66), y_ = (x450000_1 ++ [(⟨(rd_T66 ((rd_T47 t446 x11_1).f1) 0).f0, (rd_T66 ((rd_T47 t446 x11_1).f1) 0).f1⟩ : S66)]) := ⟨_, rfl⟩
          replace H : (jalousieref11_Apply.l0 k1 t446 (wrap64 (x10_1 + 1)) (wrap64 (x11_1 + 1)) y456 y451 x450002_1 x450003_1) = some (r1, r2, r3, r4, r5) := by first | (rw [hy456]; with_reducible exact H) | (have H2_ := (Option.bind_some _ _).symm.trans H; rw [hy456]; with_reducible exact H2_) | (have H2_ := (Option.bind_some _ _).symm.trans H; with_reducible exact H2_) | with_reducible exact H | (rw [hy456]; exact H) | exact H
          have Ny456 := Aside0.mk hy456
          clear hy456
          have H' := Aside0.mk H
          clear H
          obtain ⟨Ao19, co19, eo19⟩ := Kd.N_slice HO_8.out
          subst eo19
          have p450 : 0 ≤ (x11_1 : Int) := of_decide_eq_true (by first | (with_reducible assumption) | assumption)
          have q450 : x11_1 < (t446.length : Int) := of_decide_eq_true (by first | (with_reducible assumption) | assumption)
          obtain ⟨ad450, A450_1, c450_1, e450, hx450_0, hx450_1, hl450_1, hi450_1⟩ := at_T47 (Kd.N_reads' HO_8.out).2.2 x11_1 p450 q450
          cases e450
          obtain ⟨ce450, hce450, hMe450, hcc450⟩ := Kd.N_get HO_8.out z47 x11_1 p450 (by first | exact q450 | exact of_decide_eq_true (by first | (with_reducible assumption) | assumption) | (have e_ := (Kd.N_reads' HO_8.out).1; omega))
          obtain ⟨ua450_1, uc450_1, rfl, ul450_1, ge450_1⟩ := k47_openF hMe450
          have hv450_1 := hcc450 1 _ rfl
          rw [add_field _ _ 1 (by omega)] at hv450_1
          replace hv450_1 := Option.some.inj (hv450_1.symm.trans hx450_1)
          injection hv450_1 with hva_ hvn_ hvc_
          rw [hva_] at ge450_1
          rw [hvc_] at ul450_1
          have HL450_1 := Aside0.mk (show Kd.V k66 66 _ w.heap.size _ _ ((rd_T47 t446 x11_1).f1) from Kd.V_mk ul450_1 ge450_1)
          clear hva_ hvn_ hvc_ ge450_1 ul450_1
          clear hcc450 hce450
          have HR450_1 := Aside0.mk hi450_1
          have HC450_1 := Aside0.mk hl450_1
          clear hi450_1 hl450_1
          replace p450 := eq_true p450
          replace q450 := eq_true q450
          have hnb20 := NB449_441.out
          have hnc20 := NB441_449.out
          have hcz21_0 : wr.cell? ⟨gb449, 0, none⟩ = some (u450000) := (blk_cell BK449.out 0).trans rfl
          have hcz21_1 : wr.cell? ⟨gb449, 1, none⟩ = some (u450001) := (blk_cell BK449.out 1).trans rfl
          have hcz21_2 : wr.cell? ⟨gb449, 2, none⟩ = some (u450002) := (blk_cell BK449.out 2).trans rfl
          have hcz21_3 : wr.cell? ⟨gb449, 3, none⟩ = some (u450003) := (blk_cell BK449.out 3).trans rfl
          have hfz21_0 := blk_frozen BK449.out 0
          have hfz21_1 := blk_frozen BK449.out 1
          have hfz21_2 := blk_frozen BK449.out 2
          have hfz21_3 := blk_frozen BK449.out 3
          obtain ⟨Ao22, co22, eo22⟩ := Kd.R_slice HO_450000.out
          subst eo22
          try go_wp2_with (first | ((with_reducible refine gate_builtin (b := .append) (xs := #[.tmp 39, .tmp 45]) rfl ?_); at_builtin; refine Kd.R_append k64 (w0 := w) w.heap.size rfl (.tmp 39) (.tmp 45) 50 64 (.agg #[(.int .i64 0), (.int .i64 0)]) 16 rfl Try.underlying50 info64 rfl (by decide) (by omega) u450001 x450001_1 (⟨x10_1, (x450000_1.length : Int)⟩ : S64) [.int .i64 x10_1, .int .i64 (x450000_1.length : Int)] (fun _ => True) (fun _ => False) rfl rfl ?aP (fun _ hk => hk.elim) ?aF ?aO ?aB ?aS ?aL ?_; (case aP => exact k64_mkM _ _ _ (⟨x10_1, (x450000_1.length : Int)⟩ : S64)); (case aB => exact (by repeat (first | (with_reducible first | exact HB.out | apply below_alloc | apply pw_below_drewN | apply below_drew1 | refine below_set ?_ GE441.out | refine below_set ?_ GE449.out) | exact HB.out))); (case aF => exact (fun _ _ => trivial)); (case aO => exact (by (with_reducible repeat first|apply zr1|apply zr2|apply zr3); exact HO_450001.out)); (case aS => exact (below_size (by repeat (first | (with_reducible first | exact HB.out | apply below_alloc | apply pw_below_drewN | apply below_drew1 | refine below_set ?_ GE441.out | refine below_set ?_ GE449.out) | exact HB.out)))); (case aL => have := LMc16.out; omega); intro v452 w23 ho hb hg hat; rw [← Ny451.out] at ho; have n0_ := Aside0.mk (Kd.N_afterv (ok := (fun k_ => some k_ ≠ (.slice Ao22 x450000_1.length co22 : Value).ownBlock ∧ some k_ ≠ (u450002 : Value).ownBlock ∧ some k_ ≠ (u450003 : Value).ownBlock ∧ k_ ≠ gb441 ∧ k_ ≠ gb449)) (by (with_reducible repeat (first | apply Kd.N_alloc | apply Kd.N_drewN | apply Kd.N_drew)); exact Kd.N_mono HO_8.out (fun _ hk => ⟨⟨hk.1, ⟨hk.2.2.1, ⟨hk.2.2.2.1, ⟨hk.2.2.2.2.1, hk.2.2.2.2.2⟩⟩⟩⟩, hk.2.1⟩)) hg hat); have n1_ := Aside0.mk (Kd.R_over' (by (with_reducible repeat first|apply zr1|apply zr2|apply zr3); exact HO_450000.out) (Kd.R_typed (by (with_reducible repeat first|apply zr1|apply zr2|apply zr3); exact HO_450001.out)) (by decide) hg); have n2_ := Aside0.mk (Kd.R_over' (by (with_reducible repeat first|apply zr1|apply zr2|apply zr3); exact HO_450002.out) (Kd.R_typed (by (with_reducible repeat first|apply zr1|apply zr2|apply zr3); exact HO_450001.out)) (by decide) hg); have n3_ := Aside0.mk (Kd.R_over' (by (with_reducible repeat first|apply zr1|apply zr2|apply zr3); exact HO_450003.out) (Kd.R_typed (by (with_reducible repeat first|apply zr1|apply zr2|apply zr3); exact HO_450001.out)) (by decide) hg); have n4_ := Aside0.mk (blk_grown (g := gb441) (o := .cells #[.slice none 0 0, .slice none 0 0, .slice none 0 0, .slice none 0 0] 57 (0, 0)) (by (with_reducible repeat first|refine zb1 ?_ _|refine zb2 ?_|refine zb3 ?_ _); exact BK441.out) hg (Kd.R_ne HO_450001.out BK441.out (by decide))); have n5_ := Aside0.mk (blk_grown (g := gb449) (o := .cells #[.slice Ao22 x450000_1.length co22, u450001, u450002, u450003] 57 (0, 0)) (by (with_reducible repeat first|refine zb1 ?_ _|refine zb2 ?_|refine zb3 ?_ _); exact BK449.out) hg (Kd.R_ne HO_450001.out BK449.out (by decide))); have n6_ := Aside0.mk (Kd.V_afterv (ok := (fun k_ => some k_ ≠ (.slice (some ad450) t446.length co19 : Value).ownBlock ∧ some k_ ≠ (.slice Ao22 x450000_1.length co22 : Value).ownBlock ∧ some k_ ≠ (u450002 : Value).ownBlock ∧ some k_ ≠ (u450003 : Value).ownBlock ∧ k_ ≠ gb441 ∧ k_ ≠ gb449)) (by (with_reducible repeat (first | apply Kd.V_alloc | apply Kd.V_drewN | apply Kd.V_drew)); exact Kd.V_mono HL450_1.out (fun _ hk => ⟨⟨hk.2, ⟨hk.1.1, ⟨hk.1.2.2.1, ⟨hk.1.2.2.2.1, ⟨hk.1.2.2.2.2.1, hk.1.2.2.2.2.2⟩⟩⟩⟩⟩, hk.1.2.1⟩)) hg hat); have n7_ := Aside0.mk (hb); have n8_ := Aside0.mk (ho); clear HO_8; clear HO_450000; clear HO_450002; clear HO_450003; clear BK441; clear BK449; clear HL450_1; clear HB; clear HO_450001; have HO_8 := n0_; have HO_450000 := n1_; have HO_450002 := n2_; have HO_450003 := n3_; have BK441 := n4_; have BK449 := n5_; have HL450_1 := n6_; have HB := n7_; have HO453 := n8_; clear n0_ n1_ n2_ n3_ n4_ n5_ n6_ n7_ n8_; clear ho hb hg hat; obtain ⟨Ao24, co24, eo24⟩ := Kd.R_slice HO453.out; subst eo24; have hcz25_0 : w23.cell? ⟨gb449, 0, none⟩ = some (.slice Ao22 x450000_1.length co22) := (blk_cell BK449.out 0).trans rfl; have hcz25_1 : w23.cell? ⟨gb449, 1, none⟩ = some (u450001) := (blk_cell BK449.out 1).trans rfl; have hcz25_2 : w23.cell? ⟨gb449, 2, none⟩ = some (u450002) := (blk_cell BK449.out 2).trans rfl; have hcz25_3 : w23.cell? ⟨gb449, 3, none⟩ = some (u450003) := (blk_cell BK449.out 3).trans rfl; have hfz25_0 := blk_frozen BK449.out 0; have hfz25_1 := blk_frozen BK449.out 1; have hfz25_2 := blk_frozen BK449.out 2; have hfz25_3 := blk_frozen BK449.out 3))
          have n0_ : Aside0 (Kd.N k47 47 (w23.setCell ⟨gb449, 1, none⟩ (.slice Ao24 y451.length co24)) w.heap.size (fun k_ => some k_ ≠ (.slice Ao22 x450000_1.length co22 : Value).ownBlock ∧ some k_ ≠ (u450002 : Value).ownBlock ∧ some k_ ≠ (u450003 : Value).ownBlock ∧ some k_ ≠ (.slice Ao24 y451.length co24 : Value).ownBlock ∧ k_ ≠ gb441 ∧ k_ ≠ gb449) (.slice (some ad450) t446.length co19) t446) := ⟨by (with_reducible repeat (first | apply Kd.N_alloc | apply Kd.N_drewN | apply Kd.N_drew)); exact Kd.N_mono (Kd.N_far (p := ⟨gb449, 1, none⟩) (Kd.N_mono HO_8.out (fun k_ hk => (⟨hk, hk.1.2.2.2.2⟩ : _ ∧ k_ ≠ gb449))) (fun _ hk => hk.2) (.slice Ao24 y451.length co24)) (fun _ hk => ⟨hk.1.1.1, ⟨hk.1.1.2.1, ⟨hk.1.1.2.2.1, ⟨hk.1.2, ⟨hk.1.1.2.2.2.1, hk.1.1.2.2.2.2⟩⟩⟩⟩⟩)⟩
          have n1_ : Aside0 (Kd.R k66 66 (w23.setCell ⟨gb449, 1, none⟩ (.slice Ao24 y451.length co24)) w.heap.size (fun _ => True) (.slice Ao22 x450000_1.length co22) x450000_1) := ⟨by (with_reducible repeat first|apply zr1|apply zr2|apply zr3); exact Kd.R_mono (Kd.R_far (p := ⟨gb449, 1, none⟩) (Kd.R_types HO_450000.out BK449.out (by decide)) (fun _ hk => hk.2) (.slice Ao24 y451.length co24)) (fun _ hk => trivial)⟩
          have n2_ : Aside0 (Kd.R (Kd.int .i64) 3 (w23.setCell ⟨gb449, 1, none⟩ (.slice Ao24 y451.length co24)) w.heap.size (fun k_ => some k_ ≠ (u450003 : Value).ownBlock) u450002 x450002_1) := ⟨by (with_reducible repeat first|apply zr1|apply zr2|apply zr3); exact Kd.R_mono (Kd.R_far (p := ⟨gb449, 1, none⟩) (Kd.R_types HO_450002.out BK449.out (by decide)) (fun _ hk => hk.2) (.slice Ao24 y451.length co24)) (fun _ hk => hk.1)⟩
          have n3_ : Aside0 (Kd.R (Kd.int .i64) 3 (w23.setCell ⟨gb449, 1, none⟩ (.slice Ao24 y451.length co24)) w.heap.size (fun k_ => some k_ ≠ (u450002 : Value).ownBlock) u450003 x450003_1) := ⟨by (with_reducible repeat first|apply zr1|apply zr2|apply zr3); exact Kd.R_mono (Kd.R_far (p := ⟨gb449, 1, none⟩) (Kd.R_types HO_450003.out BK449.out (by decide)) (fun _ hk => hk.2) (.slice Ao24 y451.length co24)) (fun _ hk => hk.1)⟩
          have n4_ : Aside0 (Kd.V k66 66 (w23.setCell ⟨gb449, 1, none⟩ (.slice Ao24 y451.length co24)) w.heap.size (fun k_ => some k_ ≠ (.slice (some ad450) t446.length co19 : Value).ownBlock ∧ some k_ ≠ (.slice Ao22 x450000_1.length co22 : Value).ownBlock ∧ some k_ ≠ (u450002 : Value).ownBlock ∧ some k_ ≠ (u450003 : Value).ownBlock ∧ some k_ ≠ (.slice Ao24 y451.length co24 : Value).ownBlock ∧ k_ ≠ gb441 ∧ k_ ≠ gb449) (.slice A450_1 ((rd_T47 t446 x11_1).f1).length c450_1) ((rd_T47 t446 x11_1).f1)) := ⟨by (with_reducible repeat (first | apply Kd.V_alloc | apply Kd.V_drewN | apply Kd.V_drew)); exact Kd.V_mono (Kd.V_far (p := ⟨gb449, 1, none⟩) (Kd.V_mono HL450_1.out (fun k_ hk => (⟨hk, hk.1.2.2.2.2.2⟩ : _ ∧ k_ ≠ gb449))) (fun _ hk => hk.2) (.slice Ao24 y451.length co24)) (fun _ hk => ⟨hk.1.1.1, ⟨hk.1.1.2.1, ⟨hk.1.1.2.2.1, ⟨hk.1.1.2.2.2.1, ⟨hk.1.2, ⟨hk.1.1.2.2.2.2.1, hk.1.1.2.2.2.2.2⟩⟩⟩⟩⟩⟩)⟩
          have n5_ : Aside0 (Kd.R k64 64 (w23.setCell ⟨gb449, 1, none⟩ (.slice Ao24 y451.length co24)) w.heap.size (fun _ => True) (.slice Ao24 y451.length co24) y451) := ⟨by (with_reducible repeat first|apply zr1|apply zr2|apply zr3); exact Kd.R_mono (Kd.R_far (p := ⟨gb449, 1, none⟩) (Kd.R_types HO453.out BK449.out (by decide)) (fun _ hk => hk.2) (.slice Ao24 y451.length co24)) (fun _ hk => trivial)⟩
          have n6_ : Aside0 ((w23.setCell ⟨gb449, 1, none⟩ (.slice Ao24 y451.length co24)).heap[gb441]? = some (.cells #[.slice none 0 0, .slice none 0 0, .slice none 0 0, .slice none 0 0] 57 (0, 0))) := ⟨by (with_reducible repeat first|refine zb1 ?_ _|refine zb2 ?_|refine zb3 ?_ _); refine blk_far ?_ NB441_449.out _; (with_reducible repeat first|refine zb1 ?_ _|refine zb2 ?_|refine zb3 ?_ _); exact BK441.out⟩
          have n7_ : Aside0 ((w23.setCell ⟨gb449, 1, none⟩ (.slice Ao24 y451.length co24)).heap[gb449]? = some (.cells #[.slice Ao22 x450000_1.length co22, .slice Ao24 y451.length co24, u450002, u450003] 57 (0, 0))) := ⟨by (with_reducible repeat first|refine zb1 ?_ _|refine zb2 ?_|refine zb3 ?_ _); refine blk_put (cs := #[.slice Ao22 x450000_1.length co22, u450001, u450002, u450003]) ?_ 1 _ rfl; (with_reducible repeat first|refine zb1 ?_ _|refine zb2 ?_|refine zb3 ?_ _); exact BK449.out⟩
          have n8_ : Aside0 (Below w.heap.size w (w23.setCell ⟨gb449, 1, none⟩ (.slice Ao24 y451.length co24))) := ⟨by repeat (first | (with_reducible first | exact HB.out | apply below_alloc | apply pw_below_drewN | apply below_drew1 | refine below_set ?_ GE441.out | refine below_set ?_ GE449.out) | exact HB.out)⟩
          (try clear HO_8)
          (try clear HO_450000)
          (try clear HO_450002)
          (try clear HO_450003)
          (try clear HL450_1)
          (try clear HO453)
          (try clear BK441)
          (try clear BK449)
          (try clear HB)
          generalize (w23.setCell ⟨gb449, 1, none⟩ (.slice Ao24 y451.length co24)) = w26 at n0_ n1_ n2_ n3_ n4_ n5_ n6_ n7_ n8_ ⊢
          have HO_8 := n0_
          have HO_450000 := n1_
          have HO_450002 := n2_
          have HO_450003 := n3_
          have HL450_1 := n4_
          have HO453 := n5_
          have BK441 := n6_
          have BK449 := n7_
          have HB := n8_
          clear n0_ n1_ n2_ n3_ n4_ n5_ n6_ n7_ n8_
          have n0_ := Aside0.mk (Kd.N_drew HO_8.out)
          have n1_ := Aside0.mk (Kd.R_drew HO_450000.out)
          have n2_ := Aside0.mk (Kd.R_drew HO_450002.out)
          have n3_ := Aside0.mk (Kd.R_drew HO_450003.out)
          have n4_ := Aside0.mk (Kd.V_drew HL450_1.out)
          have n5_ := Aside0.mk (Kd.R_drew HO453.out)
          have n6_ := Aside0.mk (blk_drew BK441.out)
          have n7_ := Aside0.mk (blk_drew BK449.out)
          have n8_ := Aside0.mk (below_drew1 HB.out)
          clear HO_8
          clear HO_450000
          clear HO_450002
          clear HO_450003
          clear HL450_1
          clear HO453
          clear BK441
          clear BK449
          clear HB
          have HO_8 := n0_
          have HO_450000 := n1_
          have HO_450002 := n2_
          have HO_450003 := n3_
          have HL450_1 := n4_
          have HO453 := n5_
          have BK441 := n6_
          have BK449 := n7_
          have HB := n8_
          clear n0_ n1_ n2_ n3_ n4_ n5_ n6_ n7_ n8_
          have p454 : 0 ≤ (x11_1 : Int) := of_decide_eq_true (by first | (with_reducible assumption) | assumption)
          have q454 : x11_1 < (t446.length : Int) := of_decide_eq_true (by first | (with_reducible assumption) | assumption)
          obtain ⟨ad454, A454_1, c454_1, e454, hx454_0, hx454_1, hl454_1, hi454_1⟩ := at_T47 (Kd.N_reads' HO_8.out).2.2 x11_1 p454 q454
          obtain rfl : ad450 = ad454 := (by injection e454)
          obtain ⟨ce454, hce454, hMe454, hcc454⟩ := Kd.N_get HO_8.out z47 x11_1 p454 (by first | exact q454 | exact of_decide_eq_true (by first | (with_reducible assumption) | assumption) | (have e_ := (Kd.N_reads' HO_8.out).1; omega))
          obtain ⟨ua454_1, uc454_1, rfl, ul454_1, ge454_1⟩ := k47_openF hMe454
          have hv454_1 := hcc454 1 _ rfl
          rw [add_field _ _ 1 (by omega)] at hv454_1
          replace hv454_1 := Option.some.inj (hv454_1.symm.trans hx454_1)
          injection hv454_1 with hva_ hvn_ hvc_
          rw [hva_] at ge454_1
          rw [hvc_] at ul454_1
          have HL454_1 := Aside0.mk (show Kd.V k66 66 _ w.heap.size _ _ ((rd_T47 t446 x11_1).f1) from Kd.V_mk ul454_1 ge454_1)
          clear hva_ hvn_ hvc_ ge454_1 ul454_1
          clear hcc454 hce454
          have HR454_1 := Aside0.mk hi454_1
          have HC454_1 := Aside0.mk hl454_1
          clear hi454_1 hl454_1
          replace p454 := eq_true p454
          replace q454 := eq_true q454
          have p455 : 0 ≤ (0 : Int) := (by omega)
          have q455 : 0 < (((rd_T47 t446 x11_1).f1).length : Int) := of_decide_eq_true (by first | (with_reducible assumption) | assumption)
          obtain ⟨ad455, e455, hx455_0, hx455_1⟩ := at_T66 (by repeat (first | (with_reducible exact HR454_1.out) | (with_reducible refine Kd.C_alloc ?_ _) | (with_reducible refine Kd.C_drewN ?_ _) | (with_reducible refine Kd.C_drew ?_) | exact HR454_1.out)) 0 p455 q455
          cases e455
          have qi455 : (0 < ((rd_T47 t446 x11_1).f1).length) = True := eq_true (by omega)
          (try rw [show ((0 : Int)).toNat = 0 from rfl] at hx455_0)
          (try rw [show 0 * 2 = 0 from rfl] at hx455_0)
          (try rw [Addr.add_zero'] at hx455_0)
          (try rw [show ((0 : Int)).toNat = 0 from rfl] at hx455_1)
          (try rw [show 0 * 2 = 0 from rfl] at hx455_1)
          (try rw [Addr.add_zero'] at hx455_1)
          replace p455 := eq_true p455
          replace q455 := eq_true q455
          refine start_ (n := 13) (S := fun w' => w'.cell? ⟨gb449, 0, none⟩ = some (.slice Ao22 x450000_1.length co22) ∧ w'.cell? ⟨gb449, 1, none⟩ = some (.slice Ao24 y451.length co24) ∧ w'.cell? ⟨gb449, 2, none⟩ = some (u450002) ∧ w'.cell? ⟨gb449, 3, none⟩ = some (u450003) ∧ w'.cell? (ad450.add ((x11_1).toNat * 2)) = some (.int .i64 ((rd_T47 t446 x11_1).f0)) ∧ w'.cell? ⟨(ad450.add ((x11_1).toNat * 2)).block, (ad450.add ((x11_1).toNat * 2)).off + 1, none⟩ = some (.slice (some ad455) ((rd_T47 t446 x11_1).f1).length c454_1) ∧ w'.cell? ad455 = some (.string ((rd_T66 ((rd_T47 t446 x11_1).f1) 0).f0)) ∧ w'.cell? ⟨ad455.block, ad455.off + 1, none⟩ = some (.bool ((rd_T66 ((rd_T47 t446 x11_1).f1) 0).f1))) (ds := [10, 12]) (Sq.bl 13 0) (by kernel_rfl) rfl rfl ⟨(blk_cell BK449.out 0).trans rfl, (blk_cell BK449.out 1).trans rfl, (blk_cell BK449.out 2).trans rfl, (blk_cell BK449.out 3).trans rfl, hx454_0, hx454_1, hx455_0, hx455_1⟩ (fun hHeld => ?_); refine with_tabW jalousieref11_Apply.tab13 jalousieref11_Apply.bits13 (fun HT_ HW_ => ?_)
          generalize w26.drew = w27 at HO_8 HO_450000 HO_450002 HO_450003 HL450_1 HO453 BK441 BK449 HB HL454_1 HR454_1 hx454_0 hx454_1 hx455_0 hx455_1 hHeld ⊢
          refine Sq.pu (v := ?_) (a' := ?_) 0 48 (Sq.bl 13 1) (any_of HT_.out (by kernel_rfl)) rfl rfl (fun _ _ _ h => h) (by rfl) ?_ ?_ ?_; rotate_left; (· intro w'; go_simp; with_reducible rfl); rotate_left; (· simp only [Act.put,zp1,zp2,zp3,zp4,zp5]; rfl)
          refine Sq.pu (v := ?_) (a' := ?_) 2 50 (Sq.bl 13 5) (any_of HT_.out (by kernel_rfl)) rfl rfl (fun _ _ _ h => h) (by rfl) ?_ ?_ ?_; rotate_left; (· intro w'; go_simp; with_reducible rfl); rotate_left; (· simp only [Act.put,zp1,zp2,zp3,zp4,zp5]; rfl)
          refine Sq.pu (v := ?_) (a' := ?_) 3 51 (Sq.bl 13 13) (any_of HT_.out (by kernel_rfl)) rfl rfl (fun _ _ _ h => h) (by rfl) ?_ ?_ ?_; rotate_left; (· intro w'; go_simp; with_reducible rfl); rotate_left; (· simp only [Act.put,zp1,zp2,zp3,zp4,zp5]; rfl)
          refine Sq.pu (v := ?_) (a' := ?_) 4 52 (Sq.bl 13 29) (any_of HT_.out (by kernel_rfl)) rfl rfl (fun _ _ _ h => h) (by rfl) ?_ ?_ ?_; rotate_left; (· intro w'; go_simp; with_reducible rfl); rotate_left; (· simp only [Act.put,zp1,zp2,zp3,zp4,zp5]; rfl)
          refine Sq.pu (v := ?_) (a' := ?_) 5 53 (Sq.bl 13 61) (any_of HT_.out (by kernel_rfl)) rfl rfl (fun _ _ _ h => h) (by rfl) ?_ ?_ ?_; rotate_left; (· intro w'; go_simp; with_reducible rfl); rotate_left; (· simp only [Act.put,zp1,zp2,zp3,zp4,zp5]; rfl)
          refine take_ (i := 1) (N := some 49) (v := ?_) (a' := ?_) (Sq.bl 13 63) rfl rfl (take_ofW HT_.out HW_.out (by kernel_rfl)) (fun _ _ _ h => h) (Or.inl ⟨by rfl, ?_⟩) hHeld ?_ ?_
          rotate_left
          ·rintro w' ⟨s0, s1, s2, s3, s4, s5, s6, s7⟩
           go_simp
           with_reducible rfl
          rotate_left
          ·simp only [Act.put,zp1,zp2,zp3,zp4,zp5]
           rfl
          refine take_ (i := 6) (N := some 54) (v := ?_) (a' := ?_) (Sq.bl 13 127) rfl rfl (take_ofW HT_.out HW_.out (by kernel_rfl)) (fun _ _ _ h => h) (Or.inl ⟨by rfl, ?_⟩) hHeld ?_ ?_
          rotate_left
          ·rintro w' ⟨s0, s1, s2, s3, s4, s5, s6, s7⟩
           go_simp
           with_reducible rfl
          rotate_left
          ·simp only [Act.put,zp1,zp2,zp3,zp4,zp5]
           rfl
          refine Sq.pu (v := ?_) (a' := ?_) 7 55 (Sq.bl 13 255) (any_of HT_.out (by kernel_rfl)) rfl rfl (fun _ _ _ h => h) (by rfl) ?_ ?_ ?_; rotate_left; (· intro w'; go_simp; with_reducible rfl); rotate_left; (· simp only [Act.put,zp1,zp2,zp3,zp4,zp5]; rfl)
          refine take_ (i := 8) (N := some 56) (v := ?_) (a' := ?_) (Sq.bl 13 511) rfl rfl (take_ofW HT_.out HW_.out (by kernel_rfl)) (fun _ _ _ h => h) (Or.inl ⟨by rfl, ?_⟩) hHeld ?_ ?_
          rotate_left
          ·rintro w' ⟨s0, s1, s2, s3, s4, s5, s6, s7⟩
           go_simp
           with_reducible rfl
          rotate_left
          ·simp only [Act.put,zp1,zp2,zp3,zp4,zp5]
           rfl
          refine one_ (i := 9) (N := some 57) (Sq.bl 13 1023) rfl rfl (one_of HT_.out (by kernel_rfl)) (by decide) (fun K hK => ?_)
          refine value_ (w1 := ?_) (v := ?_) (by rfl) rfl ?_ ?_
          rotate_left 2
          ·go_simp
           constructor
           ·rfl
           ·rfl
          refine hK.out _ _ ⟨(blk_cell (blk_alloc BK449.out _) 0).trans rfl, (blk_cell (blk_alloc BK449.out _) 1).trans rfl, (blk_cell (blk_alloc BK449.out _) 2).trans rfl, (blk_cell (blk_alloc BK449.out _) 3).trans rfl, (World.cell?_alloc_lt _ _ _ (World.block_lt_of_cell? _ _ (hHeld.2.2.2.2.1))).trans (hHeld.2.2.2.2.1), (World.cell?_alloc_lt _ _ _ (World.block_lt_of_cell? _ _ (hHeld.2.2.2.2.2.1))).trans (hHeld.2.2.2.2.2.1), (World.cell?_alloc_lt _ _ _ (World.block_lt_of_cell? _ _ (hHeld.2.2.2.2.2.2.1))).trans (hHeld.2.2.2.2.2.2.1), (World.cell?_alloc_lt _ _ _ (World.block_lt_of_cell? _ _ (hHeld.2.2.2.2.2.2.2))).trans (hHeld.2.2.2.2.2.2.2)⟩ (fun hHeld => ?_)
          clear hK K
          refine norm_ (a' := ?_) ?_ ?_
          rotate_left
          ·show Act.put _ (some 57) _ = _
           simp only [Act.put,zp1,zp2,zp3,zp4,zp5]
           rfl
          refine last_ (i := 10) (N := some 58) (Sq.bl 13 2047) rfl rfl (one_of HT_.out (by kernel_rfl)) (by decide) (fun K hK => ?_)
          refine Kd.R_append_step k66 (w0 := w) w.heap.size (by rfl) (.tmp 49) (.tmp 57) 37 66 (.agg #[(.string ⟨#[]⟩), (.bool false)]) 24 rfl Try.underlying37 info66 rfl (by decide) (by omega) (.slice Ao22 x450000_1.length co22) x450000_1 (⟨(rd_T66 ((rd_T47 t446 x11_1).f1) 0).f0, (rd_T66 ((rd_T47 t446 x11_1).f1) 0).f1⟩ : S66) [.string ((rd_T66 ((rd_T47 t446 x11_1).f1) 0).f0), .bool ((rd_T66 ((rd_T47 t446 x11_1).f1) 0).f1)] (fun _ => True) (fun _ => False) rfl rfl ?aP (fun _ hk => hk.elim) ?aF ?aO ?aB ?aS ?aL ?_
          (case aP => exact k66_mkM _ _ _ (⟨(rd_T66 ((rd_T47 t446 x11_1).f1) 0).f0, (rd_T66 ((rd_T47 t446 x11_1).f1) 0).f1⟩ : S66))
          (case aB => exact (by repeat (first | (with_reducible first | exact HB.out | apply below_alloc | apply pw_below_drewN | apply below_drew1 | refine below_set ?_ GE441.out | refine below_set ?_ GE449.out) | exact HB.out)))
          (case aF => exact (fun _ _ => trivial))
          (case aO => exact (by (with_reducible repeat first|apply zr1|apply zr2|apply zr3); exact HO_450000.out))
          (case aS => exact (below_size (by repeat (first | (with_reducible first | exact HB.out | apply below_alloc | apply pw_below_drewN | apply below_drew1 | refine below_set ?_ GE441.out | refine below_set ?_ GE449.out) | exact HB.out))))
          (case aL => have := LMc18.out; omega)
          intro v457 w28 ho hb hg hat
          rw [← Ny456.out] at ho
          have n0_ := Aside0.mk (Kd.N_afterv (ok := (fun k_ => some k_ ≠ (u450002 : Value).ownBlock ∧ some k_ ≠ (u450003 : Value).ownBlock ∧ some k_ ≠ (.slice Ao24 y451.length co24 : Value).ownBlock ∧ k_ ≠ gb441 ∧ k_ ≠ gb449)) (by (with_reducible repeat (first | apply Kd.N_alloc | apply Kd.N_drewN | apply Kd.N_drew)); exact Kd.N_mono HO_8.out (fun _ hk => ⟨⟨hk.2.1, ⟨hk.2.2.1, ⟨hk.2.2.2.1, ⟨hk.2.2.2.2.1, hk.2.2.2.2.2⟩⟩⟩⟩, hk.1⟩)) hg hat)
          have n1_ := Aside0.mk (Kd.R_over' (by (with_reducible repeat first|apply zr1|apply zr2|apply zr3); exact HO_450002.out) (Kd.R_typed (by (with_reducible repeat first|apply zr1|apply zr2|apply zr3); exact HO_450000.out)) (by decide) hg)
          have n2_ := Aside0.mk (Kd.R_over' (by (with_reducible repeat first|apply zr1|apply zr2|apply zr3); exact HO_450003.out) (Kd.R_typed (by (with_reducible repeat first|apply zr1|apply zr2|apply zr3); exact HO_450000.out)) (by decide) hg)
          have n3_ := Aside0.mk (blk_grown (g := gb441) (o := .cells #[.slice none 0 0, .slice none 0 0, .slice none 0 0, .slice none 0 0] 57 (0, 0)) (by (with_reducible repeat first|refine zb1 ?_ _|refine zb2 ?_|refine zb3 ?_ _); exact BK441.out) hg (Kd.R_ne HO_450000.out BK441.out (by decide)))
          have n4_ := Aside0.mk (blk_grown (g := gb449) (o := .cells #[.slice Ao22 x450000_1.length co22, .slice Ao24 y451.length co24, u450002, u450003] 57 (0, 0)) (by (with_reducible repeat first|refine zb1 ?_ _|refine zb2 ?_|refine zb3 ?_ _); exact BK449.out) hg (Kd.R_ne HO_450000.out BK449.out (by decide)))
          have n5_ := Aside0.mk (Kd.V_afterv (ok := (fun k_ => some k_ ≠ (.slice (some ad450) t446.length co19 : Value).ownBlock ∧ some k_ ≠ (u450002 : Value).ownBlock ∧ some k_ ≠ (u450003 : Value).ownBlock ∧ some k_ ≠ (.slice Ao24 y451.length co24 : Value).ownBlock ∧ k_ ≠ gb441 ∧ k_ ≠ gb449)) (by (with_reducible repeat (first | apply Kd.V_alloc | apply Kd.V_drewN | apply Kd.V_drew)); exact Kd.V_mono HL450_1.out (fun _ hk => ⟨⟨hk.1, ⟨hk.2.2.1, ⟨hk.2.2.2.1, ⟨hk.2.2.2.2.1, ⟨hk.2.2.2.2.2.1, hk.2.2.2.2.2.2⟩⟩⟩⟩⟩, hk.2.1⟩)) hg hat)
          have n6_ := Aside0.mk (Kd.R_over' (by (with_reducible repeat first|apply zr1|apply zr2|apply zr3); exact HO453.out) (Kd.R_typed (by (with_reducible repeat first|apply zr1|apply zr2|apply zr3); exact HO_450000.out)) (by decide) hg)
          have n7_ := Aside0.mk (Kd.V_afterv (ok := (fun k_ => some k_ ≠ (.slice (some ad450) t446.length co19 : Value).ownBlock ∧ some k_ ≠ (u450002 : Value).ownBlock ∧ some k_ ≠ (u450003 : Value).ownBlock ∧ some k_ ≠ (.slice Ao24 y451.length co24 : Value).ownBlock ∧ k_ ≠ gb441 ∧ k_ ≠ gb449)) (by (with_reducible repeat (first | apply Kd.V_alloc | apply Kd.V_drewN | apply Kd.V_drew)); exact Kd.V_mono HL454_1.out (fun _ hk => ⟨⟨hk.2, ⟨hk.1.2.1, ⟨hk.1.2.2.1, ⟨hk.1.2.2.2.1, ⟨hk.1.2.2.2.2.1, hk.1.2.2.2.2.2⟩⟩⟩⟩⟩, hk.1.1⟩)) hg hat)
          have n8_ := Aside0.mk (hb)
          have n9_ := Aside0.mk (ho)
          clear HO_8
          clear HO_450002
          clear HO_450003
          clear BK441
          clear BK449
          clear HL450_1
          clear HO453
          clear HL454_1
          clear HB
          clear HO_450000
          have HO_8 := n0_
          have HO_450002 := n1_
          have HO_450003 := n2_
          have BK441 := n3_
          have BK449 := n4_
          have HL450_1 := n5_
          have HO453 := n6_
          have HL454_1 := n7_
          have HB := n8_
          have HO458 := n9_
          clear n0_ n1_ n2_ n3_ n4_ n5_ n6_ n7_ n8_ n9_
          clear ho hb hg hat
          obtain ⟨Ao29, co29, eo29⟩ := Kd.R_slice HO458.out
          (first | subst eo29 | (injection eo29 with f1_ f2_ f3_; have f4_ := f1_.symm; have f5_ := f3_.symm; clear f1_ f2_ f3_; subst f4_; subst f5_))
          refine hK.out _ _ ?_
          clear hK K
          refine norm_ (a' := ?_) ?_ ?_
          rotate_left
          ·show Act.put _ (some 58) _ = _
           simp only [Act.put,zp1,zp2,zp3,zp4,zp5]
           rfl
          refine Sq.pu (v := ?_) (a' := ?_) 11 59 (Sq.bl 13 4095) (any_of HT_.out (by kernel_rfl)) rfl rfl (fun _ _ _ h => h) (by rfl) ?_ ?_ ?_; rotate_left; (· intro w'; go_simp; with_reducible rfl); rotate_left; (· simp only [Act.put,zp1,zp2,zp3,zp4,zp5]; rfl)
          refine last_ (i := 12) (N := none) (Sq.bl 13 8191) rfl rfl (one_of HT_.out (by kernel_rfl)) (by decide) (fun K hK => ?_)
          have hs30 : w28.cell? ⟨gb449, 0, none⟩ = some (.slice Ao22 x450000_1.length co22) := (blk_cell BK449.out 0).trans rfl
          have hfs30 := blk_frozen BK449.out 0
          have hns30_0 := NB441_449.out
          have hms30_0 := NB449_441.out
          refine skip_ (w1 := ?_) (by rfl) rfl ?_ ?_
          rotate_left
          ·go_simp
           rfl
          refine hK.out _ _ ?_
          clear hK K
          refine done_ (done_of HT_.out (by kernel_rfl)) ?_
          try go_wp2
          go_roundg k1
          case measure => have := HK1.out; omega
          case rel => exact ⟨(wrap64 (x10_1 + 1)), (wrap64 (x11_1 + 1)), (y456), (y451), (x450002_1), (x450003_1), (.slice Ao29 y456.length co29), (.slice Ao24 y451.length co24), (u450002), (u450003), (by first | rfl | (simp; done) | (simp [*]; done)), (by first | rfl | (simp; done) | (simp [*]; done)), H', ⟨by have := HK1.out; omega⟩, ⟨by (with_reducible repeat (first | apply Kd.N_alloc | apply Kd.N_drewN | apply Kd.N_drew)); exact Kd.N_mono (Kd.N_far (p := ⟨gb449, 0, none⟩) (Kd.N_mono HO_8.out (fun k_ hk => (⟨hk, hk.1.2.2.2.2⟩ : _ ∧ k_ ≠ gb449))) (fun _ hk => hk.2) (.slice Ao29 y456.length co29)) (fun _ hk => ⟨hk.1.2, ⟨hk.1.1.2.2.1, ⟨hk.1.1.1, ⟨hk.1.1.2.1, ⟨hk.1.1.2.2.2.1, hk.1.1.2.2.2.2⟩⟩⟩⟩⟩)⟩, ⟨by (with_reducible repeat first|apply zr1|apply zr2|apply zr3); exact Kd.R_mono (Kd.R_far (p := ⟨gb449, 0, none⟩) (Kd.R_types HO458.out BK449.out (by decide)) (fun _ hk => hk.2) (.slice Ao29 y456.length co29)) (fun _ hk => trivial)⟩, ⟨by (with_reducible repeat first|apply zr1|apply zr2|apply zr3); exact Kd.R_mono (Kd.R_far (p := ⟨gb449, 0, none⟩) (Kd.R_types HO453.out BK449.out (by decide)) (fun _ hk => hk.2) (.slice Ao29 y456.length co29)) (fun _ hk => trivial)⟩, ⟨by (with_reducible repeat first|apply zr1|apply zr2|apply zr3); exact Kd.R_mono (Kd.R_far (p := ⟨gb449, 0, none⟩) (Kd.R_types HO_450002.out BK449.out (by decide)) (fun _ hk => hk.2) (.slice Ao29 y456.length co29)) (fun _ hk => hk.1)⟩, ⟨by (with_reducible repeat first|apply zr1|apply zr2|apply zr3); exact Kd.R_mono (Kd.R_far (p := ⟨gb449, 0, none⟩) (Kd.R_types HO_450003.out BK449.out (by decide)) (fun _ hk => hk.2) (.slice Ao29 y456.length co29)) (fun _ hk => hk.1)⟩, ⟨by (with_reducible repeat first|refine zb1 ?_ _|refine zb2 ?_|refine zb3 ?_ _); refine blk_far ?_ NB441_449.out _; (with_reducible repeat first|refine zb1 ?_ _|refine zb2 ?_|refine zb3 ?_ _); exact BK441.out⟩, ⟨by (with_reducible repeat first|refine zb1 ?_ _|refine zb2 ?_|refine zb3 ?_ _); refine blk_put (cs := #[.slice Ao22 x450000_1.length co22, .slice Ao24 y451.length co24, u450002, u450003]) ?_ 0 _ rfl; (with_reducible repeat first|refine zb1 ?_ _|refine zb2 ?_|refine zb3 ?_ _); exact BK449.out⟩, ⟨by repeat (first | (with_reducible first | exact HB.out | apply below_alloc | apply pw_below_drewN | apply below_drew1 | refine below_set ?_ GE441.out | refine below_set ?_ GE449.out) | exact HB.out)⟩⟩
         ·rw [if_neg c18] at H
          exact absurd H (by simp)
        ·rw [if_neg c17] at H
         exact absurd H (by simp)
       ·rw [if_neg c16] at H
        exact absurd H (by simp)
      ·rw [if_neg c15] at H
       have c15b0 : (((rd_T47 t446 x11_1).f0) == 1) = false := beq_eq_false_iff_ne.mpr c15
       have c15b1 : (((rd_T47 t446 x11_1).f0) != 1) = true := bne_iff_ne.mpr c15
       by_cases c31 : ((rd_T47 t446 x11_1).f0) = 2
       ·rw [if_pos c31] at H
        have c31b0 : (((rd_T47 t446 x11_1).f0) == 2) = true := beq_iff_eq.mpr c31
        have c31b1 : (((rd_T47 t446 x11_1).f0) != 2) = false := bne_eq_false_iff_eq.mpr c31
        clear c31
        by_cases c32 : x450002_1.length < 17592186044416
        ·rw [if_pos c32] at H
         have LMc32 := Aside0.mk c32
         clear c32
         obtain ⟨y459, hy459⟩ : ∃ y_ : List Int, y_ = (x450002_1 ++ [x10_1]) := ⟨_, rfl⟩
         replace H : (jalousieref11_Apply.l0 k1 t446 (wrap64 (x10_1 + 1)) (wrap64 (x11_1 + 1)) x450000_1 x450001_1 y459 x450003_1) = some (r1, r2, r3, r4, r5) := by first | (rw [hy459]; with_reducible exact H) | (have H2_ := (Option.bind_some _ _).symm.trans H; rw [hy459]; with_reducible exact H2_) | (have H2_ := (Option.bind_some _ _).symm.trans H; with_reducible exact H2_) | with_reducible exact H | (rw [hy459]; exact H) | exact H
         have Ny459 := Aside0.mk hy459
         clear hy459
         have H' := Aside0.mk H
         clear H
         obtain ⟨Ao33, co33, eo33⟩ := Kd.N_slice HO_8.out
         subst eo33
         have p450 : 0 ≤ (x11_1 : Int) := of_decide_eq_true (by first | (with_reducible assumption) | assumption)
         have q450 : x11_1 < (t446.length : Int) := of_decide_eq_true (by first | (with_reducible assumption) | assumption)
         obtain ⟨ad450, A450_1, c450_1, e450, hx450_0, hx450_1, hl450_1, hi450_1⟩ := at_T47 (Kd.N_reads' HO_8.out).2.2 x11_1 p450 q450
         cases e450
         obtain ⟨ce450, hce450, hMe450, hcc450⟩ := Kd.N_get HO_8.out z47 x11_1 p450 (by first | exact q450 | exact of_decide_eq_true (by first | (with_reducible assumption) | assumption) | (have e_ := (Kd.N_reads' HO_8.out).1; omega))
         obtain ⟨ua450_1, uc450_1, rfl, ul450_1, ge450_1⟩ := k47_openF hMe450
         have hv450_1 := hcc450 1 _ rfl
         rw [add_field _ _ 1 (by omega)] at hv450_1
         replace hv450_1 := Option.some.inj (hv450_1.symm.trans hx450_1)
         injection hv450_1 with hva_ hvn_ hvc_
         rw [hva_] at ge450_1
         rw [hvc_] at ul450_1
         have HL450_1 := Aside0.mk (show Kd.V k66 66 _ w.heap.size _ _ ((rd_T47 t446 x11_1).f1) from Kd.V_mk ul450_1 ge450_1)
         clear hva_ hvn_ hvc_ ge450_1 ul450_1
         clear hcc450 hce450
         have HR450_1 := Aside0.mk hi450_1
         have HC450_1 := Aside0.mk hl450_1
         clear hi450_1 hl450_1
         replace p450 := eq_true p450
         replace q450 := eq_true q450
         have hnb34 := NB449_441.out
         have hnc34 := NB441_449.out
         have hcz35_0 : wr.cell? ⟨gb449, 0, none⟩ = some (u450000) := (blk_cell BK449.out 0).trans rfl
         have hcz35_1 : wr.cell? ⟨gb449, 1, none⟩ = some (u450001) := (blk_cell BK449.out 1).trans rfl
         have hcz35_2 : wr.cell? ⟨gb449, 2, none⟩ = some (u450002) := (blk_cell BK449.out 2).trans rfl
         have hcz35_3 : wr.cell? ⟨gb449, 3, none⟩ = some (u450003) := (blk_cell BK449.out 3).trans rfl
         have hfz35_0 := blk_frozen BK449.out 0
         have hfz35_1 := blk_frozen BK449.out 1
         have hfz35_2 := blk_frozen BK449.out 2
         have hfz35_3 := blk_frozen BK449.out 3
         go_wp2_with (first | ((with_reducible refine gate_builtin (b := .append) (xs := #[.tmp 65, .tmp 67]) rfl ?_); at_builtin; refine Kd.R_append (Kd.int .i64) (w0 := w) w.heap.size rfl (.tmp 65) (.tmp 67) 53 3 (.int .i64 0) 8 rfl Try.underlying53 info3 rfl (by decide) (by omega) u450002 x450002_1 x10_1 [.int .i64 x10_1] (fun k_ => some k_ ≠ (u450003 : Value).ownBlock) (fun _ => False) rfl rfl ?aP (fun _ hk => hk.elim) ?aF ?aO ?aB ?aS ?aL ?_; (case aP => exact rfl); (case aB => exact (by repeat (first | (with_reducible first | exact HB.out | apply below_alloc | apply pw_below_drewN | apply below_drew1 | refine below_set ?_ GE441.out | refine below_set ?_ GE449.out) | exact HB.out))); (case aF => exact (fun k_ hk => Kd.fresh' (Kd.R_lt (by (with_reducible repeat first|apply zr1|apply zr2|apply zr3); exact HO_450003.out)) k_ hk)); (case aO => exact (by (with_reducible repeat first|apply zr1|apply zr2|apply zr3); exact HO_450002.out)); (case aS => exact (below_size (by repeat (first | (with_reducible first | exact HB.out | apply below_alloc | apply pw_below_drewN | apply below_drew1 | refine below_set ?_ GE441.out | refine below_set ?_ GE449.out) | exact HB.out)))); (case aL => have := LMc32.out; omega); intro v460 w36 ho hb hg hat; rw [← Ny459.out] at ho; have n0_ := Aside0.mk (Kd.N_afterv (ok := (fun k_ => some k_ ≠ (u450000 : Value).ownBlock ∧ some k_ ≠ (u450001 : Value).ownBlock ∧ some k_ ≠ (u450003 : Value).ownBlock ∧ k_ ≠ gb441 ∧ k_ ≠ gb449)) (by (with_reducible repeat (first | apply Kd.N_alloc | apply Kd.N_drewN | apply Kd.N_drew)); exact Kd.N_mono HO_8.out (fun _ hk => ⟨⟨hk.1, ⟨hk.2.1, ⟨hk.2.2.2.1, ⟨hk.2.2.2.2.1, hk.2.2.2.2.2⟩⟩⟩⟩, hk.2.2.1⟩)) hg hat); have n1_ := Aside0.mk (Kd.R_over' (by (with_reducible repeat first|apply zr1|apply zr2|apply zr3); exact HO_450000.out) (Kd.R_typed (by (with_reducible repeat first|apply zr1|apply zr2|apply zr3); exact HO_450002.out)) (by decide) hg); have n2_ := Aside0.mk (Kd.R_over' (by (with_reducible repeat first|apply zr1|apply zr2|apply zr3); exact HO_450001.out) (Kd.R_typed (by (with_reducible repeat first|apply zr1|apply zr2|apply zr3); exact HO_450002.out)) (by decide) hg); have n3_ := Aside0.mk (Kd.R_after (ok := (fun _ => True)) (by (with_reducible repeat first|apply zr1|apply zr2|apply zr3); exact Kd.R_mono HO_450003.out (fun _ hk => ⟨trivial, hk⟩)) hg hat); have n4_ := Aside0.mk (blk_grown (g := gb441) (o := .cells #[.slice none 0 0, .slice none 0 0, .slice none 0 0, .slice none 0 0] 57 (0, 0)) (by (with_reducible repeat first|refine zb1 ?_ _|refine zb2 ?_|refine zb3 ?_ _); exact BK441.out) hg (Kd.R_ne HO_450002.out BK441.out (by decide))); have n5_ := Aside0.mk (blk_grown (g := gb449) (o := .cells #[u450000, u450001, u450002, u450003] 57 (0, 0)) (by (with_reducible repeat first|refine zb1 ?_ _|refine zb2 ?_|refine zb3 ?_ _); exact BK449.out) hg (Kd.R_ne HO_450002.out BK449.out (by decide))); have n6_ := Aside0.mk (Kd.V_afterv (ok := (fun k_ => some k_ ≠ (.slice (some ad450) t446.length co33 : Value).ownBlock ∧ some k_ ≠ (u450000 : Value).ownBlock ∧ some k_ ≠ (u450001 : Value).ownBlock ∧ some k_ ≠ (u450003 : Value).ownBlock ∧ k_ ≠ gb441 ∧ k_ ≠ gb449)) (by (with_reducible repeat (first | apply Kd.V_alloc | apply Kd.V_drewN | apply Kd.V_drew)); exact Kd.V_mono HL450_1.out (fun _ hk => ⟨⟨hk.2, ⟨hk.1.1, ⟨hk.1.2.1, ⟨hk.1.2.2.2.1, ⟨hk.1.2.2.2.2.1, hk.1.2.2.2.2.2⟩⟩⟩⟩⟩, hk.1.2.2.1⟩)) hg hat); have n7_ := Aside0.mk (hb); have n8_ := Aside0.mk (ho); clear HO_8; clear HO_450000; clear HO_450001; clear HO_450003; clear BK441; clear BK449; clear HL450_1; clear HB; clear HO_450002; have HO_8 := n0_; have HO_450000 := n1_; have HO_450001 := n2_; have HO_450003 := n3_; have BK441 := n4_; have BK449 := n5_; have HL450_1 := n6_; have HB := n7_; have HO461 := n8_; clear n0_ n1_ n2_ n3_ n4_ n5_ n6_ n7_ n8_; clear ho hb hg hat; obtain ⟨Ao37, co37, eo37⟩ := Kd.R_slice HO461.out; subst eo37; have hcz38_0 : w36.cell? ⟨gb449, 0, none⟩ = some (u450000) := (blk_cell BK449.out 0).trans rfl; have hcz38_1 : w36.cell? ⟨gb449, 1, none⟩ = some (u450001) := (blk_cell BK449.out 1).trans rfl; have hcz38_2 : w36.cell? ⟨gb449, 2, none⟩ = some (u450002) := (blk_cell BK449.out 2).trans rfl; have hcz38_3 : w36.cell? ⟨gb449, 3, none⟩ = some (u450003) := (blk_cell BK449.out 3).trans rfl; have hfz38_0 := blk_frozen BK449.out 0; have hfz38_1 := blk_frozen BK449.out 1; have hfz38_2 := blk_frozen BK449.out 2; have hfz38_3 := blk_frozen BK449.out 3))
         go_roundg k1
         case measure => have := HK1.out; omega
         case rel => exact ⟨(wrap64 (x10_1 + 1)), (wrap64 (x11_1 + 1)), (x450000_1), (x450001_1), (y459), (x450003_1), (u450000), (u450001), (.slice Ao37 y459.length co37), (u450003), (by first | rfl | (simp; done) | (simp [*]; done)), (by first | rfl | (simp; done) | (simp [*]; done)), H', ⟨by have := HK1.out; omega⟩, ⟨by (with_reducible repeat (first | apply Kd.N_alloc | apply Kd.N_drewN | apply Kd.N_drew)); exact Kd.N_mono (Kd.N_far (p := ⟨gb449, 2, none⟩) (Kd.N_mono HO_8.out (fun k_ hk => (⟨hk, hk.1.2.2.2.2⟩ : _ ∧ k_ ≠ gb449))) (fun _ hk => hk.2) (.slice Ao37 y459.length co37)) (fun _ hk => ⟨hk.1.1.1, ⟨hk.1.1.2.1, ⟨hk.1.2, ⟨hk.1.1.2.2.1, ⟨hk.1.1.2.2.2.1, hk.1.1.2.2.2.2⟩⟩⟩⟩⟩)⟩, ⟨by (with_reducible repeat first|apply zr1|apply zr2|apply zr3); exact Kd.R_mono (Kd.R_far (p := ⟨gb449, 2, none⟩) (Kd.R_types HO_450000.out BK449.out (by decide)) (fun _ hk => hk.2) (.slice Ao37 y459.length co37)) (fun _ hk => trivial)⟩, ⟨by (with_reducible repeat first|apply zr1|apply zr2|apply zr3); exact Kd.R_mono (Kd.R_far (p := ⟨gb449, 2, none⟩) (Kd.R_types HO_450001.out BK449.out (by decide)) (fun _ hk => hk.2) (.slice Ao37 y459.length co37)) (fun _ hk => trivial)⟩, ⟨by (with_reducible repeat first|apply zr1|apply zr2|apply zr3); exact Kd.R_mono (Kd.R_far (p := ⟨gb449, 2, none⟩) (Kd.R_types HO461.out BK449.out (by decide)) (fun _ hk => hk.2) (.slice Ao37 y459.length co37)) (fun _ hk => hk.1)⟩, ⟨by (with_reducible repeat first|apply zr1|apply zr2|apply zr3); exact Kd.R_mono (Kd.R_far (p := ⟨gb449, 2, none⟩) (Kd.R_types HO_450003.out BK449.out (by decide)) (fun _ hk => hk.2) (.slice Ao37 y459.length co37)) (fun _ hk => hk.1.2)⟩, ⟨by (with_reducible repeat first|refine zb1 ?_ _|refine zb2 ?_|refine zb3 ?_ _); refine blk_far ?_ NB441_449.out _; (with_reducible repeat first|refine zb1 ?_ _|refine zb2 ?_|refine zb3 ?_ _); exact BK441.out⟩, ⟨by (with_reducible repeat first|refine zb1 ?_ _|refine zb2 ?_|refine zb3 ?_ _); refine blk_put (cs := #[u450000, u450001, u450002, u450003]) ?_ 2 _ rfl; (with_reducible repeat first|refine zb1 ?_ _|refine zb2 ?_|refine zb3 ?_ _); exact BK449.out⟩, ⟨by repeat (first | (with_reducible first | exact HB.out | apply below_alloc | apply pw_below_drewN | apply below_drew1 | refine below_set ?_ GE441.out | refine below_set ?_ GE449.out) | exact HB.out)⟩⟩
        ·rw [if_neg c32] at H
         exact absurd H (by simp)
       ·rw [if_neg c31] at H
        have c31b0 : (((rd_T47 t446 x11_1).f0) == 2) = false := beq_eq_false_iff_ne.mpr c31
        have c31b1 : (((rd_T47 t446 x11_1).f0) != 2) = true := bne_iff_ne.mpr c31
        by_cases c39 : ((rd_T47 t446 x11_1).f0) = 3
        ·rw [if_pos c39] at H
         have c39b0 : (((rd_T47 t446 x11_1).f0) == 3) = true := beq_iff_eq.mpr c39
         have c39b1 : (((rd_T47 t446 x11_1).f0) != 3) = false := bne_eq_false_iff_eq.mpr c39
         clear c39
         by_cases c40 : x450003_1.length < 17592186044416
         ·rw [if_pos c40] at H
          have LMc40 := Aside0.mk c40
          clear c40
          obtain ⟨y462, hy462⟩ : ∃ y_ : List Int, y_ = (x450003_1 ++ [(x450000_1.length : Int)]) := ⟨_, rfl⟩
          replace H : (if 0 < (((rd_T47 t446 x11_1).f1).length : Int) then (if x450000_1.length < 5864062014805 then (jalousieref11_Apply.l0 k1 t446 x10_1 (wrap64 (x11_1 + 1)) (x450000_1 ++ [(⟨(rd_T66 ((rd_T47 t446 x11_1).f1) 0).f0, (rd_T66 ((rd_T47 t446 x11_1).f1) 0).f1⟩ : S66)]) x450001_1 x450002_1 y462) else (none)) else (none)) = some (r1, r2, r3, r4, r5) := by first | (rw [hy462]; with_reducible exact H) | (have H2_ := (Option.bind_some _ _).symm.trans H; rw [hy462]; with_reducible exact H2_) | (have H2_ := (Option.bind_some _ _).symm.trans H; with_reducible exact H2_) | with_reducible exact H | (rw [hy462]; exact H) | exact H
          have Ny462 := Aside0.mk hy462
          clear hy462
          by_cases c41 : 0 < (((rd_T47 t446 x11_1).f1).length : Int)
          ·rw [if_pos c41] at H
           have c41b0 : decide (0 < (((rd_T47 t446 x11_1).f1).length : Int)) = true := decide_eq_true c41
           have c41b1 : decide (0 < ((rd_T47 t446 x11_1).f1).length) = true := decide_eq_true (by omega)
           clear c41
           by_cases c42 : x450000_1.length < 5864062014805
           ·rw [if_pos c42] at H
            have LMc42 := Aside0.mk c42
            clear c42
            obtain ⟨y467, hy467⟩ : ∃ y_ : List (S66), y_ = (x450000_1 ++ [(⟨(rd_T66 ((rd_T47 t446 x11_1).f1) 0).f0, (rd_T66 ((rd_T47 t446 x11_1).f1) 0).f1⟩ : S66)]) := ⟨_, rfl⟩
            replace H : (jalousieref11_Apply.l0 k1 t446 x10_1 (wrap64 (x11_1 + 1)) y467 x450001_1 x450002_1 y462) = some (r1, r2, r3, r4, r5) := by first | (rw [hy467]; with_reducible exact H) | (have H2_ := (Option.bind_some _ _).symm.trans H; rw [hy467]; with_reducible exact H2_) | (have H2_ := (Option.bind_some _ _).symm.trans H; with_reducible exact H2_) | with_reducible exact H | (rw [hy467]; exact H) | exact H
            have Ny467 := Aside0.mk hy467
            clear hy467
            have H' := Aside0.mk H
            clear H
            obtain ⟨Ao43, co43, eo43⟩ := Kd.N_slice HO_8.out
            subst eo43
            have p450 : 0 ≤ (x11_1 : Int) := of_decide_eq_true (by first | (with_reducible assumption) | assumption)
            have q450 : x11_1 < (t446.length : Int) := of_decide_eq_true (by first | (with_reducible assumption) | assumption)
            obtain ⟨ad450, A450_1, c450_1, e450, hx450_0, hx450_1, hl450_1, hi450_1⟩ := at_T47 (Kd.N_reads' HO_8.out).2.2 x11_1 p450 q450
            cases e450
            obtain ⟨ce450, hce450, hMe450, hcc450⟩ := Kd.N_get HO_8.out z47 x11_1 p450 (by first | exact q450 | exact of_decide_eq_true (by first | (with_reducible assumption) | assumption) | (have e_ := (Kd.N_reads' HO_8.out).1; omega))
            obtain ⟨ua450_1, uc450_1, rfl, ul450_1, ge450_1⟩ := k47_openF hMe450
            have hv450_1 := hcc450 1 _ rfl
            rw [add_field _ _ 1 (by omega)] at hv450_1
            replace hv450_1 := Option.some.inj (hv450_1.symm.trans hx450_1)
            injection hv450_1 with hva_ hvn_ hvc_
            rw [hva_] at ge450_1
            rw [hvc_] at ul450_1
            have HL450_1 := Aside0.mk (show Kd.V k66 66 _ w.heap.size _ _ ((rd_T47 t446 x11_1).f1) from Kd.V_mk ul450_1 ge450_1)
            clear hva_ hvn_ hvc_ ge450_1 ul450_1
            clear hcc450 hce450
            have HR450_1 := Aside0.mk hi450_1
            have HC450_1 := Aside0.mk hl450_1
            clear hi450_1 hl450_1
            replace p450 := eq_true p450
            replace q450 := eq_true q450
            have hnb44 := NB449_441.out
            have hnc44 := NB441_449.out
            have hcz45_0 : wr.cell? ⟨gb449, 0, none⟩ = some (u450000) := (blk_cell BK449.out 0).trans rfl
            have hcz45_1 : wr.cell? ⟨gb449, 1, none⟩ = some (u450001) := (blk_cell BK449.out 1).trans rfl
            have hcz45_2 : wr.cell? ⟨gb449, 2, none⟩ = some (u450002) := (blk_cell BK449.out 2).trans rfl
            have hcz45_3 : wr.cell? ⟨gb449, 3, none⟩ = some (u450003) := (blk_cell BK449.out 3).trans rfl
            have hfz45_0 := blk_frozen BK449.out 0
            have hfz45_1 := blk_frozen BK449.out 1
            have hfz45_2 := blk_frozen BK449.out 2
            have hfz45_3 := blk_frozen BK449.out 3
            obtain ⟨Ao46, co46, eo46⟩ := Kd.R_slice HO_450000.out
            subst eo46
            try go_wp2_with (first | ((with_reducible refine gate_builtin (b := .append) (xs := #[.tmp 75, .tmp 79]) rfl ?_); at_builtin; refine Kd.R_append (Kd.int .i64) (w0 := w) w.heap.size rfl (.tmp 75) (.tmp 79) 53 3 (.int .i64 0) 8 rfl Try.underlying53 info3 rfl (by decide) (by omega) u450003 x450003_1 (x450000_1.length : Int) [.int .i64 (x450000_1.length : Int)] (fun k_ => some k_ ≠ (u450002 : Value).ownBlock) (fun _ => False) rfl rfl ?aP (fun _ hk => hk.elim) ?aF ?aO ?aB ?aS ?aL ?_; (case aP => exact rfl); (case aB => exact (by repeat (first | (with_reducible first | exact HB.out | apply below_alloc | apply pw_below_drewN | apply below_drew1 | refine below_set ?_ GE441.out | refine below_set ?_ GE449.out) | exact HB.out))); (case aF => exact (fun k_ hk => Kd.fresh' (Kd.R_lt (by (with_reducible repeat first|apply zr1|apply zr2|apply zr3); exact HO_450002.out)) k_ hk)); (case aO => exact (by (with_reducible repeat first|apply zr1|apply zr2|apply zr3); exact HO_450003.out)); (case aS => exact (below_size (by repeat (first | (with_reducible first | exact HB.out | apply below_alloc | apply pw_below_drewN | apply below_drew1 | refine below_set ?_ GE441.out | refine below_set ?_ GE449.out) | exact HB.out)))); (case aL => have := LMc40.out; omega); intro v463 w47 ho hb hg hat; rw [← Ny462.out] at ho; have n0_ := Aside0.mk (Kd.N_afterv (ok := (fun k_ => some k_ ≠ (.slice Ao46 x450000_1.length co46 : Value).ownBlock ∧ some k_ ≠ (u450001 : Value).ownBlock ∧ some k_ ≠ (u450002 : Value).ownBlock ∧ k_ ≠ gb441 ∧ k_ ≠ gb449)) (by (with_reducible repeat (first | apply Kd.N_alloc | apply Kd.N_drewN | apply Kd.N_drew)); exact Kd.N_mono HO_8.out (fun _ hk => ⟨⟨hk.1, ⟨hk.2.1, ⟨hk.2.2.1, ⟨hk.2.2.2.2.1, hk.2.2.2.2.2⟩⟩⟩⟩, hk.2.2.2.1⟩)) hg hat); have n1_ := Aside0.mk (Kd.R_over' (by (with_reducible repeat first|apply zr1|apply zr2|apply zr3); exact HO_450000.out) (Kd.R_typed (by (with_reducible repeat first|apply zr1|apply zr2|apply zr3); exact HO_450003.out)) (by decide) hg); have n2_ := Aside0.mk (Kd.R_over' (by (with_reducible repeat first|apply zr1|apply zr2|apply zr3); exact HO_450001.out) (Kd.R_typed (by (with_reducible repeat first|apply zr1|apply zr2|apply zr3); exact HO_450003.out)) (by decide) hg); have n3_ := Aside0.mk (Kd.R_after (ok := (fun _ => True)) (by (with_reducible repeat first|apply zr1|apply zr2|apply zr3); exact Kd.R_mono HO_450002.out (fun _ hk => ⟨trivial, hk⟩)) hg hat); have n4_ := Aside0.mk (blk_grown (g := gb441) (o := .cells #[.slice none 0 0, .slice none 0 0, .slice none 0 0, .slice none 0 0] 57 (0, 0)) (by (with_reducible repeat first|refine zb1 ?_ _|refine zb2 ?_|refine zb3 ?_ _); exact BK441.out) hg (Kd.R_ne HO_450003.out BK441.out (by decide))); have n5_ := Aside0.mk (blk_grown (g := gb449) (o := .cells #[.slice Ao46 x450000_1.length co46, u450001, u450002, u450003] 57 (0, 0)) (by (with_reducible repeat first|refine zb1 ?_ _|refine zb2 ?_|refine zb3 ?_ _); exact BK449.out) hg (Kd.R_ne HO_450003.out BK449.out (by decide))); have n6_ := Aside0.mk (Kd.V_afterv (ok := (fun k_ => some k_ ≠ (.slice (some ad450) t446.length co43 : Value).ownBlock ∧ some k_ ≠ (.slice Ao46 x450000_1.length co46 : Value).ownBlock ∧ some k_ ≠ (u450001 : Value).ownBlock ∧ some k_ ≠ (u450002 : Value).ownBlock ∧ k_ ≠ gb441 ∧ k_ ≠ gb449)) (by (with_reducible repeat (first | apply Kd.V_alloc | apply Kd.V_drewN | apply Kd.V_drew)); exact Kd.V_mono HL450_1.out (fun _ hk => ⟨⟨hk.2, ⟨hk.1.1, ⟨hk.1.2.1, ⟨hk.1.2.2.1, ⟨hk.1.2.2.2.2.1, hk.1.2.2.2.2.2⟩⟩⟩⟩⟩, hk.1.2.2.2.1⟩)) hg hat); have n7_ := Aside0.mk (hb); have n8_ := Aside0.mk (ho); clear HO_8; clear HO_450000; clear HO_450001; clear HO_450002; clear BK441; clear BK449; clear HL450_1; clear HB; clear HO_450003; have HO_8 := n0_; have HO_450000 := n1_; have HO_450001 := n2_; have HO_450002 := n3_; have BK441 := n4_; have BK449 := n5_; have HL450_1 := n6_; have HB := n7_; have HO464 := n8_; clear n0_ n1_ n2_ n3_ n4_ n5_ n6_ n7_ n8_; clear ho hb hg hat; obtain ⟨Ao48, co48, eo48⟩ := Kd.R_slice HO464.out; subst eo48; have hcz49_0 : w47.cell? ⟨gb449, 0, none⟩ = some (.slice Ao46 x450000_1.length co46) := (blk_cell BK449.out 0).trans rfl; have hcz49_1 : w47.cell? ⟨gb449, 1, none⟩ = some (u450001) := (blk_cell BK449.out 1).trans rfl; have hcz49_2 : w47.cell? ⟨gb449, 2, none⟩ = some (u450002) := (blk_cell BK449.out 2).trans rfl; have hcz49_3 : w47.cell? ⟨gb449, 3, none⟩ = some (u450003) := (blk_cell BK449.out 3).trans rfl; have hfz49_0 := blk_frozen BK449.out 0; have hfz49_1 := blk_frozen BK449.out 1; have hfz49_2 := blk_frozen BK449.out 2; have hfz49_3 := blk_frozen BK449.out 3))
            have n0_ : Aside0 (Kd.N k47 47 (w47.setCell ⟨gb449, 3, none⟩ (.slice Ao48 y462.length co48)) w.heap.size (fun k_ => some k_ ≠ (.slice Ao46 x450000_1.length co46 : Value).ownBlock ∧ some k_ ≠ (u450001 : Value).ownBlock ∧ some k_ ≠ (u450002 : Value).ownBlock ∧ some k_ ≠ (.slice Ao48 y462.length co48 : Value).ownBlock ∧ k_ ≠ gb441 ∧ k_ ≠ gb449) (.slice (some ad450) t446.length co43) t446) := ⟨by (with_reducible repeat (first | apply Kd.N_alloc | apply Kd.N_drewN | apply Kd.N_drew)); exact Kd.N_mono (Kd.N_far (p := ⟨gb449, 3, none⟩) (Kd.N_mono HO_8.out (fun k_ hk => (⟨hk, hk.1.2.2.2.2⟩ : _ ∧ k_ ≠ gb449))) (fun _ hk => hk.2) (.slice Ao48 y462.length co48)) (fun _ hk => ⟨hk.1.1.1, ⟨hk.1.1.2.1, ⟨hk.1.1.2.2.1, ⟨hk.1.2, ⟨hk.1.1.2.2.2.1, hk.1.1.2.2.2.2⟩⟩⟩⟩⟩)⟩
            have n1_ : Aside0 (Kd.R k66 66 (w47.setCell ⟨gb449, 3, none⟩ (.slice Ao48 y462.length co48)) w.heap.size (fun _ => True) (.slice Ao46 x450000_1.length co46) x450000_1) := ⟨by (with_reducible repeat first|apply zr1|apply zr2|apply zr3); exact Kd.R_mono (Kd.R_far (p := ⟨gb449, 3, none⟩) (Kd.R_types HO_450000.out BK449.out (by decide)) (fun _ hk => hk.2) (.slice Ao48 y462.length co48)) (fun _ hk => trivial)⟩
            have n2_ : Aside0 (Kd.R k64 64 (w47.setCell ⟨gb449, 3, none⟩ (.slice Ao48 y462.length co48)) w.heap.size (fun _ => True) u450001 x450001_1) := ⟨by (with_reducible repeat first|apply zr1|apply zr2|apply zr3); exact Kd.R_mono (Kd.R_far (p := ⟨gb449, 3, none⟩) (Kd.R_types HO_450001.out BK449.out (by decide)) (fun _ hk => hk.2) (.slice Ao48 y462.length co48)) (fun _ hk => trivial)⟩
            have n3_ : Aside0 (Kd.R (Kd.int .i64) 3 (w47.setCell ⟨gb449, 3, none⟩ (.slice Ao48 y462.length co48)) w.heap.size (fun k_ => some k_ ≠ (.slice Ao48 y462.length co48 : Value).ownBlock) u450002 x450002_1) := ⟨by (with_reducible repeat first|apply zr1|apply zr2|apply zr3); exact Kd.R_mono (Kd.R_far (p := ⟨gb449, 3, none⟩) (Kd.R_types HO_450002.out BK449.out (by decide)) (fun _ hk => hk.2) (.slice Ao48 y462.length co48)) (fun _ hk => hk.1.2)⟩
            have n4_ : Aside0 (Kd.V k66 66 (w47.setCell ⟨gb449, 3, none⟩ (.slice Ao48 y462.length co48)) w.heap.size (fun k_ => some k_ ≠ (.slice (some ad450) t446.length co43 : Value).ownBlock ∧ some k_ ≠ (.slice Ao46 x450000_1.length co46 : Value).ownBlock ∧ some k_ ≠ (u450001 : Value).ownBlock ∧ some k_ ≠ (u450002 : Value).ownBlock ∧ some k_ ≠ (.slice Ao48 y462.length co48 : Value).ownBlock ∧ k_ ≠ gb441 ∧ k_ ≠ gb449) (.slice A450_1 ((rd_T47 t446 x11_1).f1).length c450_1) ((rd_T47 t446 x11_1).f1)) := ⟨by (with_reducible repeat (first | apply Kd.V_alloc | apply Kd.V_drewN | apply Kd.V_drew)); exact Kd.V_mono (Kd.V_far (p := ⟨gb449, 3, none⟩) (Kd.V_mono HL450_1.out (fun k_ hk => (⟨hk, hk.1.2.2.2.2.2⟩ : _ ∧ k_ ≠ gb449))) (fun _ hk => hk.2) (.slice Ao48 y462.length co48)) (fun _ hk => ⟨hk.1.1.1, ⟨hk.1.1.2.1, ⟨hk.1.1.2.2.1, ⟨hk.1.1.2.2.2.1, ⟨hk.1.2, ⟨hk.1.1.2.2.2.2.1, hk.1.1.2.2.2.2.2⟩⟩⟩⟩⟩⟩)⟩
            have n5_ : Aside0 (Kd.R (Kd.int .i64) 3 (w47.setCell ⟨gb449, 3, none⟩ (.slice Ao48 y462.length co48)) w.heap.size (fun k_ => some k_ ≠ (u450002 : Value).ownBlock) (.slice Ao48 y462.length co48) y462) := ⟨by (with_reducible repeat first|apply zr1|apply zr2|apply zr3); exact Kd.R_mono (Kd.R_far (p := ⟨gb449, 3, none⟩) (Kd.R_types HO464.out BK449.out (by decide)) (fun _ hk => hk.2) (.slice Ao48 y462.length co48)) (fun _ hk => hk.1)⟩
            have n6_ : Aside0 ((w47.setCell ⟨gb449, 3, none⟩ (.slice Ao48 y462.length co48)).heap[gb441]? = some (.cells #[.slice none 0 0, .slice none 0 0, .slice none 0 0, .slice none 0 0] 57 (0, 0))) := ⟨by (with_reducible repeat first|refine zb1 ?_ _|refine zb2 ?_|refine zb3 ?_ _); refine blk_far ?_ NB441_449.out _; (with_reducible repeat first|refine zb1 ?_ _|refine zb2 ?_|refine zb3 ?_ _); exact BK441.out⟩
            have n7_ : Aside0 ((w47.setCell ⟨gb449, 3, none⟩ (.slice Ao48 y462.length co48)).heap[gb449]? = some (.cells #[.slice Ao46 x450000_1.length co46, u450001, u450002, .slice Ao48 y462.length co48] 57 (0, 0))) := ⟨by (with_reducible repeat first|refine zb1 ?_ _|refine zb2 ?_|refine zb3 ?_ _); refine blk_put (cs := #[.slice Ao46 x450000_1.length co46, u450001, u450002, u450003]) ?_ 3 _ rfl; (with_reducible repeat first|refine zb1 ?_ _|refine zb2 ?_|refine zb3 ?_ _); exact BK449.out⟩
            have n8_ : Aside0 (Below w.heap.size w (w47.setCell ⟨gb449, 3, none⟩ (.slice Ao48 y462.length co48))) := ⟨by repeat (first | (with_reducible first | exact HB.out | apply below_alloc | apply pw_below_drewN | apply below_drew1 | refine below_set ?_ GE441.out | refine below_set ?_ GE449.out) | exact HB.out)⟩
            (try clear HO_8)
            (try clear HO_450000)
            (try clear HO_450001)
            (try clear HO_450002)
            (try clear HL450_1)
            (try clear HO464)
            (try clear BK441)
            (try clear BK449)
            (try clear HB)
            generalize (w47.setCell ⟨gb449, 3, none⟩ (.slice Ao48 y462.length co48)) = w50 at n0_ n1_ n2_ n3_ n4_ n5_ n6_ n7_ n8_ ⊢
            have HO_8 := n0_
            have HO_450000 := n1_
            have HO_450001 := n2_
            have HO_450002 := n3_
            have HL450_1 := n4_
            have HO464 := n5_
            have BK441 := n6_
            have BK449 := n7_
            have HB := n8_
            clear n0_ n1_ n2_ n3_ n4_ n5_ n6_ n7_ n8_
            have n0_ := Aside0.mk (Kd.N_drew HO_8.out)
            have n1_ := Aside0.mk (Kd.R_drew HO_450000.out)
            have n2_ := Aside0.mk (Kd.R_drew HO_450001.out)
            have n3_ := Aside0.mk (Kd.R_drew HO_450002.out)
            have n4_ := Aside0.mk (Kd.V_drew HL450_1.out)
            have n5_ := Aside0.mk (Kd.R_drew HO464.out)
            have n6_ := Aside0.mk (blk_drew BK441.out)
            have n7_ := Aside0.mk (blk_drew BK449.out)
            have n8_ := Aside0.mk (below_drew1 HB.out)
            clear HO_8
            clear HO_450000
            clear HO_450001
            clear HO_450002
            clear HL450_1
            clear HO464
            clear BK441
            clear BK449
            clear HB
            have HO_8 := n0_
            have HO_450000 := n1_
            have HO_450001 := n2_
            have HO_450002 := n3_
            have HL450_1 := n4_
            have HO464 := n5_
            have BK441 := n6_
            have BK449 := n7_
            have HB := n8_
            clear n0_ n1_ n2_ n3_ n4_ n5_ n6_ n7_ n8_
            have p465 : 0 ≤ (x11_1 : Int) := of_decide_eq_true (by first | (with_reducible assumption) | assumption)
            have q465 : x11_1 < (t446.length : Int) := of_decide_eq_true (by first | (with_reducible assumption) | assumption)
            obtain ⟨ad465, A465_1, c465_1, e465, hx465_0, hx465_1, hl465_1, hi465_1⟩ := at_T47 (Kd.N_reads' HO_8.out).2.2 x11_1 p465 q465
            obtain rfl : ad450 = ad465 := (by injection e465)
            obtain ⟨ce465, hce465, hMe465, hcc465⟩ := Kd.N_get HO_8.out z47 x11_1 p465 (by first | exact q465 | exact of_decide_eq_true (by first | (with_reducible assumption) | assumption) | (have e_ := (Kd.N_reads' HO_8.out).1; omega))
            obtain ⟨ua465_1, uc465_1, rfl, ul465_1, ge465_1⟩ := k47_openF hMe465
            have hv465_1 := hcc465 1 _ rfl
            rw [add_field _ _ 1 (by omega)] at hv465_1
            replace hv465_1 := Option.some.inj (hv465_1.symm.trans hx465_1)
            injection hv465_1 with hva_ hvn_ hvc_
            rw [hva_] at ge465_1
            rw [hvc_] at ul465_1
            have HL465_1 := Aside0.mk (show Kd.V k66 66 _ w.heap.size _ _ ((rd_T47 t446 x11_1).f1) from Kd.V_mk ul465_1 ge465_1)
            clear hva_ hvn_ hvc_ ge465_1 ul465_1
            clear hcc465 hce465
            have HR465_1 := Aside0.mk hi465_1
            have HC465_1 := Aside0.mk hl465_1
            clear hi465_1 hl465_1
            replace p465 := eq_true p465
            replace q465 := eq_true q465
            have p466 : 0 ≤ (0 : Int) := (by omega)
            have q466 : 0 < (((rd_T47 t446 x11_1).f1).length : Int) := of_decide_eq_true (by first | (with_reducible assumption) | assumption)
            obtain ⟨ad466, e466, hx466_0, hx466_1⟩ := at_T66 (by repeat (first | (with_reducible exact HR465_1.out) | (with_reducible refine Kd.C_alloc ?_ _) | (with_reducible refine Kd.C_drewN ?_ _) | (with_reducible refine Kd.C_drew ?_) | exact HR465_1.out)) 0 p466 q466
            cases e466
            have qi466 : (0 < ((rd_T47 t446 x11_1).f1).length) = True := eq_true (by omega)
            (try rw [show ((0 : Int)).toNat = 0 from rfl] at hx466_0)
            (try rw [show 0 * 2 = 0 from rfl] at hx466_0)
            (try rw [Addr.add_zero'] at hx466_0)
            (try rw [show ((0 : Int)).toNat = 0 from rfl] at hx466_1)
            (try rw [show 0 * 2 = 0 from rfl] at hx466_1)
            (try rw [Addr.add_zero'] at hx466_1)
            replace p466 := eq_true p466
            replace q466 := eq_true q466
            refine start_ (n := 13) (S := fun w' => w'.cell? ⟨gb449, 0, none⟩ = some (.slice Ao46 x450000_1.length co46) ∧ w'.cell? ⟨gb449, 1, none⟩ = some (u450001) ∧ w'.cell? ⟨gb449, 2, none⟩ = some (u450002) ∧ w'.cell? ⟨gb449, 3, none⟩ = some (.slice Ao48 y462.length co48) ∧ w'.cell? (ad450.add ((x11_1).toNat * 2)) = some (.int .i64 ((rd_T47 t446 x11_1).f0)) ∧ w'.cell? ⟨(ad450.add ((x11_1).toNat * 2)).block, (ad450.add ((x11_1).toNat * 2)).off + 1, none⟩ = some (.slice (some ad466) ((rd_T47 t446 x11_1).f1).length c465_1) ∧ w'.cell? ad466 = some (.string ((rd_T66 ((rd_T47 t446 x11_1).f1) 0).f0)) ∧ w'.cell? ⟨ad466.block, ad466.off + 1, none⟩ = some (.bool ((rd_T66 ((rd_T47 t446 x11_1).f1) 0).f1))) (ds := [10, 12]) (Sq.bl 13 0) (by kernel_rfl) rfl rfl ⟨(blk_cell BK449.out 0).trans rfl, (blk_cell BK449.out 1).trans rfl, (blk_cell BK449.out 2).trans rfl, (blk_cell BK449.out 3).trans rfl, hx465_0, hx465_1, hx466_0, hx466_1⟩ (fun hHeld => ?_); refine with_tabW jalousieref11_Apply.tab20 jalousieref11_Apply.bits20 (fun HT_ HW_ => ?_)
            generalize w50.drew = w51 at HO_8 HO_450000 HO_450001 HO_450002 HL450_1 HO464 BK441 BK449 HB HL465_1 HR465_1 hx465_0 hx465_1 hx466_0 hx466_1 hHeld ⊢
            refine Sq.pu (v := ?_) (a' := ?_) 0 82 (Sq.bl 13 1) (any_of HT_.out (by kernel_rfl)) rfl rfl (fun _ _ _ h => h) (by rfl) ?_ ?_ ?_; rotate_left; (· intro w'; go_simp; with_reducible rfl); rotate_left; (· simp only [Act.put,zp1,zp2,zp3,zp4,zp5]; rfl)
            refine Sq.pu (v := ?_) (a' := ?_) 2 84 (Sq.bl 13 5) (any_of HT_.out (by kernel_rfl)) rfl rfl (fun _ _ _ h => h) (by rfl) ?_ ?_ ?_; rotate_left; (· intro w'; go_simp; with_reducible rfl); rotate_left; (· simp only [Act.put,zp1,zp2,zp3,zp4,zp5]; rfl)
            refine Sq.pu (v := ?_) (a' := ?_) 3 85 (Sq.bl 13 13) (any_of HT_.out (by kernel_rfl)) rfl rfl (fun _ _ _ h => h) (by rfl) ?_ ?_ ?_; rotate_left; (· intro w'; go_simp; with_reducible rfl); rotate_left; (· simp only [Act.put,zp1,zp2,zp3,zp4,zp5]; rfl)
            refine Sq.pu (v := ?_) (a' := ?_) 4 86 (Sq.bl 13 29) (any_of HT_.out (by kernel_rfl)) rfl rfl (fun _ _ _ h => h) (by rfl) ?_ ?_ ?_; rotate_left; (· intro w'; go_simp; with_reducible rfl); rotate_left; (· simp only [Act.put,zp1,zp2,zp3,zp4,zp5]; rfl)
            refine Sq.pu (v := ?_) (a' := ?_) 5 87 (Sq.bl 13 61) (any_of HT_.out (by kernel_rfl)) rfl rfl (fun _ _ _ h => h) (by rfl) ?_ ?_ ?_; rotate_left; (· intro w'; go_simp; with_reducible rfl); rotate_left; (· simp only [Act.put,zp1,zp2,zp3,zp4,zp5]; rfl)
            refine take_ (i := 1) (N := some 83) (v := ?_) (a' := ?_) (Sq.bl 13 63) rfl rfl (take_ofW HT_.out HW_.out (by kernel_rfl)) (fun _ _ _ h => h) (Or.inl ⟨by rfl, ?_⟩) hHeld ?_ ?_
            rotate_left
            ·rintro w' ⟨s0, s1, s2, s3, s4, s5, s6, s7⟩
             go_simp
             with_reducible rfl
            rotate_left
            ·simp only [Act.put,zp1,zp2,zp3,zp4,zp5]
             rfl
            refine take_ (i := 6) (N := some 88) (v := ?_) (a' := ?_) (Sq.bl 13 127) rfl rfl (take_ofW HT_.out HW_.out (by kernel_rfl)) (fun _ _ _ h => h) (Or.inl ⟨by rfl, ?_⟩) hHeld ?_ ?_
            rotate_left
            ·rintro w' ⟨s0, s1, s2, s3, s4, s5, s6, s7⟩
             go_simp
             with_reducible rfl
            rotate_left
            ·simp only [Act.put,zp1,zp2,zp3,zp4,zp5]
             rfl
            refine Sq.pu (v := ?_) (a' := ?_) 7 89 (Sq.bl 13 255) (any_of HT_.out (by kernel_rfl)) rfl rfl (fun _ _ _ h => h) (by rfl) ?_ ?_ ?_; rotate_left; (· intro w'; go_simp; with_reducible rfl); rotate_left; (· simp only [Act.put,zp1,zp2,zp3,zp4,zp5]; rfl)
            refine take_ (i := 8) (N := some 90) (v := ?_) (a' := ?_) (Sq.bl 13 511) rfl rfl (take_ofW HT_.out HW_.out (by kernel_rfl)) (fun _ _ _ h => h) (Or.inl ⟨by rfl, ?_⟩) hHeld ?_ ?_
            rotate_left
            ·rintro w' ⟨s0, s1, s2, s3, s4, s5, s6, s7⟩
             go_simp
             with_reducible rfl
            rotate_left
            ·simp only [Act.put,zp1,zp2,zp3,zp4,zp5]
             rfl
            refine one_ (i := 9) (N := some 91) (Sq.bl 13 1023) rfl rfl (one_of HT_.out (by kernel_rfl)) (by decide) (fun K hK => ?_)
            refine value_ (w1 := ?_) (v := ?_) (by rfl) rfl ?_ ?_
            rotate_left 2
            ·go_simp
             constructor
             ·rfl
             ·rfl
            refine hK.out _ _ ⟨(blk_cell (blk_alloc BK449.out _) 0).trans rfl, (blk_cell (blk_alloc BK449.out _) 1).trans rfl, (blk_cell (blk_alloc BK449.out _) 2).trans rfl, (blk_cell (blk_alloc BK449.out _) 3).trans rfl, (World.cell?_alloc_lt _ _ _ (World.block_lt_of_cell? _ _ (hHeld.2.2.2.2.1))).trans (hHeld.2.2.2.2.1), (World.cell?_alloc_lt _ _ _ (World.block_lt_of_cell? _ _ (hHeld.2.2.2.2.2.1))).trans (hHeld.2.2.2.2.2.1), (World.cell?_alloc_lt _ _ _ (World.block_lt_of_cell? _ _ (hHeld.2.2.2.2.2.2.1))).trans (hHeld.2.2.2.2.2.2.1), (World.cell?_alloc_lt _ _ _ (World.block_lt_of_cell? _ _ (hHeld.2.2.2.2.2.2.2))).trans (hHeld.2.2.2.2.2.2.2)⟩ (fun hHeld => ?_)
            clear hK K
            refine norm_ (a' := ?_) ?_ ?_
            rotate_left
            ·show Act.put _ (some 91) _ = _
             simp only [Act.put,zp1,zp2,zp3,zp4,zp5]
             rfl
            refine last_ (i := 10) (N := some 92) (Sq.bl 13 2047) rfl rfl (one_of HT_.out (by kernel_rfl)) (by decide) (fun K hK => ?_)
            refine Kd.R_append_step k66 (w0 := w) w.heap.size (by rfl) (.tmp 83) (.tmp 91) 37 66 (.agg #[(.string ⟨#[]⟩), (.bool false)]) 24 rfl Try.underlying37 info66 rfl (by decide) (by omega) (.slice Ao46 x450000_1.length co46) x450000_1 (⟨(rd_T66 ((rd_T47 t446 x11_1).f1) 0).f0, (rd_T66 ((rd_T47 t446 x11_1).f1) 0).f1⟩ : S66) [.string ((rd_T66 ((rd_T47 t446 x11_1).f1) 0).f0), .bool ((rd_T66 ((rd_T47 t446 x11_1).f1) 0).f1)] (fun _ => True) (fun _ => False) rfl rfl ?aP (fun _ hk => hk.elim) ?aF ?aO ?aB ?aS ?aL ?_
            (case aP => exact k66_mkM _ _ _ (⟨(rd_T66 ((rd_T47 t446 x11_1).f1) 0).f0, (rd_T66 ((rd_T47 t446 x11_1).f1) 0).f1⟩ : S66))
            (case aB => exact (by repeat (first | (with_reducible first | exact HB.out | apply below_alloc | apply pw_below_drewN | apply below_drew1 | refine below_set ?_ GE441.out | refine below_set ?_ GE449.out) | exact HB.out)))
            (case aF => exact (fun _ _ => trivial))
            (case aO => exact (by (with_reducible repeat first|apply zr1|apply zr2|apply zr3); exact HO_450000.out))
            (case aS => exact (below_size (by repeat (first | (with_reducible first | exact HB.out | apply below_alloc | apply pw_below_drewN | apply below_drew1 | refine below_set ?_ GE441.out | refine below_set ?_ GE449.out) | exact HB.out))))
            (case aL => have := LMc42.out; omega)
            intro v468 w52 ho hb hg hat
            rw [← Ny467.out] at ho
            have n0_ := Aside0.mk (Kd.N_afterv (ok := (fun k_ => some k_ ≠ (u450001 : Value).ownBlock ∧ some k_ ≠ (u450002 : Value).ownBlock ∧ some k_ ≠ (.slice Ao48 y462.length co48 : Value).ownBlock ∧ k_ ≠ gb441 ∧ k_ ≠ gb449)) (by (with_reducible repeat (first | apply Kd.N_alloc | apply Kd.N_drewN | apply Kd.N_drew)); exact Kd.N_mono HO_8.out (fun _ hk => ⟨⟨hk.2.1, ⟨hk.2.2.1, ⟨hk.2.2.2.1, ⟨hk.2.2.2.2.1, hk.2.2.2.2.2⟩⟩⟩⟩, hk.1⟩)) hg hat)
            have n1_ := Aside0.mk (Kd.R_over' (by (with_reducible repeat first|apply zr1|apply zr2|apply zr3); exact HO_450001.out) (Kd.R_typed (by (with_reducible repeat first|apply zr1|apply zr2|apply zr3); exact HO_450000.out)) (by decide) hg)
            have n2_ := Aside0.mk (Kd.R_over' (by (with_reducible repeat first|apply zr1|apply zr2|apply zr3); exact HO_450002.out) (Kd.R_typed (by (with_reducible repeat first|apply zr1|apply zr2|apply zr3); exact HO_450000.out)) (by decide) hg)
            have n3_ := Aside0.mk (blk_grown (g := gb441) (o := .cells #[.slice none 0 0, .slice none 0 0, .slice none 0 0, .slice none 0 0] 57 (0, 0)) (by (with_reducible repeat first|refine zb1 ?_ _|refine zb2 ?_|refine zb3 ?_ _); exact BK441.out) hg (Kd.R_ne HO_450000.out BK441.out (by decide)))
            have n4_ := Aside0.mk (blk_grown (g := gb449) (o := .cells #[.slice Ao46 x450000_1.length co46, u450001, u450002, .slice Ao48 y462.length co48] 57 (0, 0)) (by (with_reducible repeat first|refine zb1 ?_ _|refine zb2 ?_|refine zb3 ?_ _); exact BK449.out) hg (Kd.R_ne HO_450000.out BK449.out (by decide)))
            have n5_ := Aside0.mk (Kd.V_afterv (ok := (fun k_ => some k_ ≠ (.slice (some ad450) t446.length co43 : Value).ownBlock ∧ some k_ ≠ (u450001 : Value).ownBlock ∧ some k_ ≠ (u450002 : Value).ownBlock ∧ some k_ ≠ (.slice Ao48 y462.length co48 : Value).ownBlock ∧ k_ ≠ gb441 ∧ k_ ≠ gb449)) (by (with_reducible repeat (first | apply Kd.V_alloc | apply Kd.V_drewN | apply Kd.V_drew)); exact Kd.V_mono HL450_1.out (fun _ hk => ⟨⟨hk.1, ⟨hk.2.2.1, ⟨hk.2.2.2.1, ⟨hk.2.2.2.2.1, ⟨hk.2.2.2.2.2.1, hk.2.2.2.2.2.2⟩⟩⟩⟩⟩, hk.2.1⟩)) hg hat)
            have n6_ := Aside0.mk (Kd.R_over' (by (with_reducible repeat first|apply zr1|apply zr2|apply zr3); exact HO464.out) (Kd.R_typed (by (with_reducible repeat first|apply zr1|apply zr2|apply zr3); exact HO_450000.out)) (by decide) hg)
            have n7_ := Aside0.mk (Kd.V_afterv (ok := (fun k_ => some k_ ≠ (.slice (some ad450) t446.length co43 : Value).ownBlock ∧ some k_ ≠ (u450001 : Value).ownBlock ∧ some k_ ≠ (u450002 : Value).ownBlock ∧ some k_ ≠ (.slice Ao48 y462.length co48 : Value).ownBlock ∧ k_ ≠ gb441 ∧ k_ ≠ gb449)) (by (with_reducible repeat (first | apply Kd.V_alloc | apply Kd.V_drewN | apply Kd.V_drew)); exact Kd.V_mono HL465_1.out (fun _ hk => ⟨⟨hk.2, ⟨hk.1.2.1, ⟨hk.1.2.2.1, ⟨hk.1.2.2.2.1, ⟨hk.1.2.2.2.2.1, hk.1.2.2.2.2.2⟩⟩⟩⟩⟩, hk.1.1⟩)) hg hat)
            have n8_ := Aside0.mk (hb)
            have n9_ := Aside0.mk (ho)
            clear HO_8
            clear HO_450001
            clear HO_450002
            clear BK441
            clear BK449
            clear HL450_1
            clear HO464
            clear HL465_1
            clear HB
            clear HO_450000
            have HO_8 := n0_
            have HO_450001 := n1_
            have HO_450002 := n2_
            have BK441 := n3_
            have BK449 := n4_
            have HL450_1 := n5_
            have HO464 := n6_
            have HL465_1 := n7_
            have HB := n8_
            have HO469 := n9_
            clear n0_ n1_ n2_ n3_ n4_ n5_ n6_ n7_ n8_ n9_
            clear ho hb hg hat
            obtain ⟨Ao53, co53, eo53⟩ := Kd.R_slice HO469.out
            (first | subst eo53 | (injection eo53 with f1_ f2_ f3_; have f4_ := f1_.symm; have f5_ := f3_.symm; clear f1_ f2_ f3_; subst f4_; subst f5_))
            refine hK.out _ _ ?_
            clear hK K
            refine norm_ (a' := ?_) ?_ ?_
            rotate_left
            ·show Act.put _ (some 92) _ = _
             simp only [Act.put,zp1,zp2,zp3,zp4,zp5]
             rfl
            refine Sq.pu (v := ?_) (a' := ?_) 11 93 (Sq.bl 13 4095) (any_of HT_.out (by kernel_rfl)) rfl rfl (fun _ _ _ h => h) (by rfl) ?_ ?_ ?_; rotate_left; (· intro w'; go_simp; with_reducible rfl); rotate_left; (· simp only [Act.put,zp1,zp2,zp3,zp4,zp5]; rfl)
            refine last_ (i := 12) (N := none) (Sq.bl 13 8191) rfl rfl (one_of HT_.out (by kernel_rfl)) (by decide) (fun K hK => ?_)
            have hs54 : w52.cell? ⟨gb449, 0, none⟩ = some (.slice Ao46 x450000_1.length co46) := (blk_cell BK449.out 0).trans rfl
            have hfs54 := blk_frozen BK449.out 0
            have hns54_0 := NB441_449.out
            have hms54_0 := NB449_441.out
            refine skip_ (w1 := ?_) (by rfl) rfl ?_ ?_
            rotate_left
            ·go_simp
             rfl
            refine hK.out _ _ ?_
            clear hK K
            refine done_ (done_of HT_.out (by kernel_rfl)) ?_
            try go_wp2
            go_roundg k1
            case measure => have := HK1.out; omega
            case rel => exact ⟨(x10_1), (wrap64 (x11_1 + 1)), (y467), (x450001_1), (x450002_1), (y462), (.slice Ao53 y467.length co53), (u450001), (u450002), (.slice Ao48 y462.length co48), (by first | rfl | (simp; done) | (simp [*]; done)), (by first | rfl | (simp; done) | (simp [*]; done)), H', ⟨by have := HK1.out; omega⟩, ⟨by (with_reducible repeat (first | apply Kd.N_alloc | apply Kd.N_drewN | apply Kd.N_drew)); exact Kd.N_mono (Kd.N_far (p := ⟨gb449, 0, none⟩) (Kd.N_mono HO_8.out (fun k_ hk => (⟨hk, hk.1.2.2.2.2⟩ : _ ∧ k_ ≠ gb449))) (fun _ hk => hk.2) (.slice Ao53 y467.length co53)) (fun _ hk => ⟨hk.1.2, ⟨hk.1.1.1, ⟨hk.1.1.2.1, ⟨hk.1.1.2.2.1, ⟨hk.1.1.2.2.2.1, hk.1.1.2.2.2.2⟩⟩⟩⟩⟩)⟩, ⟨by (with_reducible repeat first|apply zr1|apply zr2|apply zr3); exact Kd.R_mono (Kd.R_far (p := ⟨gb449, 0, none⟩) (Kd.R_types HO469.out BK449.out (by decide)) (fun _ hk => hk.2) (.slice Ao53 y467.length co53)) (fun _ hk => trivial)⟩, ⟨by (with_reducible repeat first|apply zr1|apply zr2|apply zr3); exact Kd.R_mono (Kd.R_far (p := ⟨gb449, 0, none⟩) (Kd.R_types HO_450001.out BK449.out (by decide)) (fun _ hk => hk.2) (.slice Ao53 y467.length co53)) (fun _ hk => trivial)⟩, ⟨by (with_reducible repeat first|apply zr1|apply zr2|apply zr3); exact Kd.R_mono (Kd.R_far (p := ⟨gb449, 0, none⟩) (Kd.R_types HO_450002.out BK449.out (by decide)) (fun _ hk => hk.2) (.slice Ao53 y467.length co53)) (fun _ hk => hk.1)⟩, ⟨by (with_reducible repeat first|apply zr1|apply zr2|apply zr3); exact Kd.R_mono (Kd.R_far (p := ⟨gb449, 0, none⟩) (Kd.R_types HO464.out BK449.out (by decide)) (fun _ hk => hk.2) (.slice Ao53 y467.length co53)) (fun _ hk => hk.1)⟩, ⟨by (with_reducible repeat first|refine zb1 ?_ _|refine zb2 ?_|refine zb3 ?_ _); refine blk_far ?_ NB441_449.out _; (with_reducible repeat first|refine zb1 ?_ _|refine zb2 ?_|refine zb3 ?_ _); exact BK441.out⟩, ⟨by (with_reducible repeat first|refine zb1 ?_ _|refine zb2 ?_|refine zb3 ?_ _); refine blk_put (cs := #[.slice Ao46 x450000_1.length co46, u450001, u450002, .slice Ao48 y462.length co48]) ?_ 0 _ rfl; (with_reducible repeat first|refine zb1 ?_ _|refine zb2 ?_|refine zb3 ?_ _); exact BK449.out⟩, ⟨by repeat (first | (with_reducible first | exact HB.out | apply below_alloc | apply pw_below_drewN | apply below_drew1 | refine below_set ?_ GE441.out | refine below_set ?_ GE449.out) | exact HB.out)⟩⟩
           ·rw [if_neg c42] at H
            exact absurd H (by simp)
          ·rw [if_neg c41] at H
           exact absurd H (by simp)
         ·rw [if_neg c40] at H
          exact absurd H (by simp)
        ·rw [if_neg c39] at H
         have c39b0 : (((rd_T47 t446 x11_1).f0) == 3) = false := beq_eq_false_iff_ne.mpr c39
         have c39b1 : (((rd_T47 t446 x11_1).f0) != 3) = true := bne_iff_ne.mpr c39
         have H' := Aside0.mk H
         clear H
         obtain ⟨Ao55, co55, eo55⟩ := Kd.N_slice HO_8.out
         subst eo55
         have p450 : 0 ≤ (x11_1 : Int) := of_decide_eq_true (by first | (with_reducible assumption) | assumption)
         have q450 : x11_1 < (t446.length : Int) := of_decide_eq_true (by first | (with_reducible assumption) | assumption)
         obtain ⟨ad450, A450_1, c450_1, e450, hx450_0, hx450_1, hl450_1, hi450_1⟩ := at_T47 (Kd.N_reads' HO_8.out).2.2 x11_1 p450 q450
         cases e450
         obtain ⟨ce450, hce450, hMe450, hcc450⟩ := Kd.N_get HO_8.out z47 x11_1 p450 (by first | exact q450 | exact of_decide_eq_true (by first | (with_reducible assumption) | assumption) | (have e_ := (Kd.N_reads' HO_8.out).1; omega))
         obtain ⟨ua450_1, uc450_1, rfl, ul450_1, ge450_1⟩ := k47_openF hMe450
         have hv450_1 := hcc450 1 _ rfl
         rw [add_field _ _ 1 (by omega)] at hv450_1
         replace hv450_1 := Option.some.inj (hv450_1.symm.trans hx450_1)
         injection hv450_1 with hva_ hvn_ hvc_
         rw [hva_] at ge450_1
         rw [hvc_] at ul450_1
         have HL450_1 := Aside0.mk (show Kd.V k66 66 _ w.heap.size _ _ ((rd_T47 t446 x11_1).f1) from Kd.V_mk ul450_1 ge450_1)
         clear hva_ hvn_ hvc_ ge450_1 ul450_1
         clear hcc450 hce450
         have HR450_1 := Aside0.mk hi450_1
         have HC450_1 := Aside0.mk hl450_1
         clear hi450_1 hl450_1
         replace p450 := eq_true p450
         replace q450 := eq_true q450
         go_wp2
         go_roundg k1
         case measure => have := HK1.out; omega
         case rel => exact ⟨(x10_1), (wrap64 (x11_1 + 1)), (x450000_1), (x450001_1), (x450002_1), (x450003_1), (u450000), (u450001), (u450002), (u450003), (by first | rfl | (simp; done) | (simp [*]; done)), (by first | rfl | (simp; done) | (simp [*]; done)), H', ⟨by have := HK1.out; omega⟩, ⟨by (with_reducible repeat (first | apply Kd.N_alloc | apply Kd.N_drewN | apply Kd.N_drew)); exact HO_8.out⟩, ⟨by (with_reducible repeat first|apply zr1|apply zr2|apply zr3); exact HO_450000.out⟩, ⟨by (with_reducible repeat first|apply zr1|apply zr2|apply zr3); exact HO_450001.out⟩, ⟨by (with_reducible repeat first|apply zr1|apply zr2|apply zr3); exact HO_450002.out⟩, ⟨by (with_reducible repeat first|apply zr1|apply zr2|apply zr3); exact HO_450003.out⟩, ⟨by (with_reducible repeat first|refine zb1 ?_ _|refine zb2 ?_|refine zb3 ?_ _); exact BK441.out⟩, ⟨by (with_reducible repeat first|refine zb1 ?_ _|refine zb2 ?_|refine zb3 ?_ _); exact BK449.out⟩, ⟨by repeat (first | (with_reducible first | exact HB.out | apply below_alloc | apply pw_below_drewN | apply below_drew1 | refine below_set ?_ GE441.out | refine below_set ?_ GE449.out) | exact HB.out)⟩⟩
     ·rw [if_neg c14] at H
      exact absurd H (by simp)
    ·rw [if_neg c13] at H
     have c13b0 : decide (x11_1 < (t446.length : Int)) = false := decide_eq_false c13
     clear c13
     by_cases c56 : (x450000_1.length : Int) > 400
     ·rw [if_pos c56] at H
      have c56b0 : decide (400 < (x450000_1.length : Int)) = true := decide_eq_true c56
      have c56b1 : decide (400 < x450000_1.length) = true := decide_eq_true (by omega)
      clear c56
      simp only [Option.some.injEq, Prod.mk.injEq] at H
      obtain ⟨rfl, rfl, rfl, rfl, rfl⟩ := H
      obtain ⟨Ao57, co57, eo57⟩ := Kd.N_slice HO_8.out
      subst eo57
      have hnb58 := NB449_441.out
      have hnc58 := NB441_449.out
      have hcz59_0 : wr.cell? ⟨gb449, 0, none⟩ = some (u450000) := (blk_cell BK449.out 0).trans rfl
      have hcz59_1 : wr.cell? ⟨gb449, 1, none⟩ = some (u450001) := (blk_cell BK449.out 1).trans rfl
      have hcz59_2 : wr.cell? ⟨gb449, 2, none⟩ = some (u450002) := (blk_cell BK449.out 2).trans rfl
      have hcz59_3 : wr.cell? ⟨gb449, 3, none⟩ = some (u450003) := (blk_cell BK449.out 3).trans rfl
      have hfz59_0 := blk_frozen BK449.out 0
      have hfz59_1 := blk_frozen BK449.out 1
      have hfz59_2 := blk_frozen BK449.out 2
      have hfz59_3 := blk_frozen BK449.out 3
      obtain ⟨Ao60, co60, eo60⟩ := Kd.R_slice HO_450000.out
      subst eo60
      have hcz61_0 : wr.cell? ⟨gb441, 0, none⟩ = some (.slice none 0 0) := (blk_cell BK441.out 0).trans rfl
      have hcz61_1 : wr.cell? ⟨gb441, 1, none⟩ = some (.slice none 0 0) := (blk_cell BK441.out 1).trans rfl
      have hcz61_2 : wr.cell? ⟨gb441, 2, none⟩ = some (.slice none 0 0) := (blk_cell BK441.out 2).trans rfl
      have hcz61_3 : wr.cell? ⟨gb441, 3, none⟩ = some (.slice none 0 0) := (blk_cell BK441.out 3).trans rfl
      have hfz61_0 := blk_frozen BK441.out 0
      have hfz61_1 := blk_frozen BK441.out 1
      have hfz61_2 := blk_frozen BK441.out 2
      have hfz61_3 := blk_frozen BK441.out 3
      go_wp2
      refine bodyPost_ret (results_ct rfl _ _ gb441 57 #[.slice none 0 0, .slice none 0 0, .slice none 0 0, .slice none 0 0] (0, 0) _ rfl (by (with_reducible repeat first|refine zb1 ?_ _|refine zb2 ?_|refine zb3 ?_ _); refine blk_put (cs := #[.slice none 0 0, .slice none 0 0, .slice none 0 0, .slice none 0 0]) ?_ 3 _ rfl; (with_reducible repeat first|refine zb1 ?_ _|refine zb2 ?_|refine zb3 ?_ _); refine blk_put (cs := #[.slice none 0 0, .slice none 0 0, .slice none 0 0, .slice none 0 0]) ?_ 2 _ rfl; (with_reducible repeat first|refine zb1 ?_ _|refine zb2 ?_|refine zb3 ?_ _); refine blk_put (cs := #[.slice none 0 0, .slice none 0 0, .slice none 0 0, .slice none 0 0]) ?_ 1 _ rfl; (with_reducible repeat first|refine zb1 ?_ _|refine zb2 ?_|refine zb3 ?_ _); refine blk_put (cs := #[.slice none 0 0, .slice none 0 0, .slice none 0 0, .slice none 0 0]) ?_ 0 _ rfl; (with_reducible repeat first|refine zb1 ?_ _|refine zb2 ?_|refine zb3 ?_ _); exact BK441.out) Try.underlying57 rfl (by kernel_rfl)) rfl ?_
      exact ⟨_, _, _, _, by first | rfl | (simp [errW_none, errW_some] <;> rfl) | (simp [*, errW_none, errW_some] <;> rfl), by first | exact Kd.R_nil _ _ _ _ _ | exact Kd.N_nil _ _ _ _ _ | exact Kd.V_nil _ _ _ _ _ | exact Kd.Q_nil _ _ _ _ _ | exact Kd.S_nil _ _ _ _ _, by first | exact Kd.R_nil _ _ _ _ _ | exact Kd.N_nil _ _ _ _ _ | exact Kd.V_nil _ _ _ _ _ | exact Kd.Q_nil _ _ _ _ _ | exact Kd.S_nil _ _ _ _ _, by first | exact Kd.R_nil _ _ _ _ _ | exact Kd.N_nil _ _ _ _ _ | exact Kd.V_nil _ _ _ _ _ | exact Kd.Q_nil _ _ _ _ _ | exact Kd.S_nil _ _ _ _ _, by first | exact Kd.R_nil _ _ _ _ _ | exact Kd.N_nil _ _ _ _ _ | exact Kd.V_nil _ _ _ _ _ | exact Kd.Q_nil _ _ _ _ _ | exact Kd.S_nil _ _ _ _ _, by repeat (first | (with_reducible first | exact HB.out | apply below_alloc | apply pw_below_drewN | apply below_drew1 | refine below_set ?_ GE441.out | refine below_set ?_ GE449.out) | exact HB.out)⟩
     ·rw [if_neg c56] at H
      have c56b0 : decide (400 < (x450000_1.length : Int)) = false := decide_eq_false c56
      have c56b1 : decide (400 < x450000_1.length) = false := decide_eq_false (by omega)
      clear c56
      replace H := Option.bind_eq_some_iff.mp H
      obtain ⟨t470, A620, H⟩ := H
      replace H : (if t470 = true then (some (x450000_1, x450001_1, x450002_1, x450003_1, 0)) else (some (([] : List (S66)), ([] : List (S64)), ([] : List Int), ([] : List Int), 3))) = some (r1, r2, r3, r4, r5) := H
      have A62 := Aside0.mk A620
      clear A620
      by_cases c63 : t470 = true
      ·subst c63
       have H1 : (some (x450000_1, x450001_1, x450002_1, x450003_1, 0)) = some (r1, r2, r3, r4, r5) := by rw [if_pos rfl] at H; exact H
       clear H
       have H := H1
       clear H1
       simp only [Option.some.injEq, Prod.mk.injEq] at H
       obtain ⟨rfl, rfl, rfl, rfl, rfl⟩ := H
       obtain ⟨Ao64, co64, eo64⟩ := Kd.N_slice HO_8.out
       subst eo64
       have hnb65 := NB449_441.out
       have hnc65 := NB441_449.out
       have hcz66_0 : wr.cell? ⟨gb449, 0, none⟩ = some (u450000) := (blk_cell BK449.out 0).trans rfl
       have hcz66_1 : wr.cell? ⟨gb449, 1, none⟩ = some (u450001) := (blk_cell BK449.out 1).trans rfl
       have hcz66_2 : wr.cell? ⟨gb449, 2, none⟩ = some (u450002) := (blk_cell BK449.out 2).trans rfl
       have hcz66_3 : wr.cell? ⟨gb449, 3, none⟩ = some (u450003) := (blk_cell BK449.out 3).trans rfl
       have hfz66_0 := blk_frozen BK449.out 0
       have hfz66_1 := blk_frozen BK449.out 1
       have hfz66_2 := blk_frozen BK449.out 2
       have hfz66_3 := blk_frozen BK449.out 3
       obtain ⟨Ao67, co67, eo67⟩ := Kd.R_slice HO_450000.out
       subst eo67
       go_wp2_with (first | ((with_reducible refine gate_callee (f := 37) rfl ?_); refine goesL_ (some 101) rfl rfl Try.func37 (by kernel_rfl) rfl #[.slice Ao67 x450000_1.length co67] rfl (by (try simp only [List.map_toArray, List.map_cons, List.map_nil]); first | done | rfl | (simp only [List.length_drop, List.length_take]; rfl)) ?_; (with_reducible refine (jalousieref01_Right.calls k1 _ _ x450000_1 true _ ?side1 ?side2 A62.out).mono ?_); (case side1 => repeat (first | exact (Kd.R_reads' HO_450000.out).2.2 | (with_reducible refine Kd.C_alloc ?_ _) | (with_reducible refine Kd.C_drewN ?_ _) | (with_reducible refine Kd.C_drew ?_))); (case side2 => exact (Kd.R_reads' HO_450000.out).2.1); rintro e w' ⟨rfl, ⟨nd, rfl⟩⟩; refine ⟨_, rfl, ?_⟩; (try (rw [drewN_self wr]; generalize hq_ : World.drewN wr _ = wr; have n0_ : Aside0 (Kd.R k66 66 wr w.heap.size (fun _ => True) (.slice Ao67 x450000_1.length co67) x450000_1) := ⟨by rw [← hq_]; exact (by (with_reducible repeat first|apply zr1|apply zr2|apply zr3); exact HO_450000.out)⟩; have n1_ : Aside0 (Kd.R k64 64 wr w.heap.size (fun _ => True) u450001 x450001_1) := ⟨by rw [← hq_]; exact (by (with_reducible repeat first|apply zr1|apply zr2|apply zr3); exact HO_450001.out)⟩; have n2_ : Aside0 (Kd.R (Kd.int .i64) 3 wr w.heap.size (fun k_ => some k_ ≠ (u450003 : Value).ownBlock) u450002 x450002_1) := ⟨by rw [← hq_]; exact (by (with_reducible repeat first|apply zr1|apply zr2|apply zr3); exact HO_450002.out)⟩; have n3_ : Aside0 (Kd.R (Kd.int .i64) 3 wr w.heap.size (fun k_ => some k_ ≠ (u450002 : Value).ownBlock) u450003 x450003_1) := ⟨by rw [← hq_]; exact (by (with_reducible repeat first|apply zr1|apply zr2|apply zr3); exact HO_450003.out)⟩; have n4_ : Aside0 (Kd.N k47 47 wr w.heap.size (fun k_ => some k_ ≠ (.slice Ao67 x450000_1.length co67 : Value).ownBlock ∧ some k_ ≠ (u450001 : Value).ownBlock ∧ some k_ ≠ (u450002 : Value).ownBlock ∧ some k_ ≠ (u450003 : Value).ownBlock ∧ k_ ≠ gb441 ∧ k_ ≠ gb449) (.slice Ao64 t446.length co64) t446) := ⟨by rw [← hq_]; exact (by (with_reducible repeat (first | apply Kd.N_alloc | apply Kd.N_drewN | apply Kd.N_drew)); exact HO_8.out)⟩; have n5_ : Aside0 (wr.heap[gb441]? = some (.cells #[.slice none 0 0, .slice none 0 0, .slice none 0 0, .slice none 0 0] 57 (0, 0))) := ⟨by rw [← hq_]; exact (by (with_reducible repeat first|refine zb1 ?_ _|refine zb2 ?_|refine zb3 ?_ _); exact BK441.out)⟩; have n6_ : Aside0 (wr.heap[gb449]? = some (.cells #[.slice Ao67 x450000_1.length co67, u450001, u450002, u450003] 57 (0, 0))) := ⟨by rw [← hq_]; exact (by (with_reducible repeat first|refine zb1 ?_ _|refine zb2 ?_|refine zb3 ?_ _); exact BK449.out)⟩; have n7_ : Aside0 (Below w.heap.size w wr) := ⟨by rw [← hq_]; exact (by repeat (first | (with_reducible first | exact HB.out | apply below_alloc | apply pw_below_drewN | apply below_drew1 | refine below_set ?_ GE441.out | refine below_set ?_ GE449.out) | exact HB.out))⟩; clear HO_450000 HO_450001 HO_450002 HO_450003 HO_8 BK441 BK449 HB hq_; have HO_450000 := n0_; have HO_450001 := n1_; have HO_450002 := n2_; have HO_450003 := n3_; have HO_8 := n4_; have BK441 := n5_; have BK449 := n6_; have HB := n7_; clear n0_ n1_ n2_ n3_ n4_ n5_ n6_ n7_)); have hcz68_0 : wr.cell? ⟨gb441, 0, none⟩ = some (.slice none 0 0) := (blk_cell BK441.out 0).trans rfl; have hcz68_1 : wr.cell? ⟨gb441, 1, none⟩ = some (.slice none 0 0) := (blk_cell BK441.out 1).trans rfl; have hcz68_2 : wr.cell? ⟨gb441, 2, none⟩ = some (.slice none 0 0) := (blk_cell BK441.out 2).trans rfl; have hcz68_3 : wr.cell? ⟨gb441, 3, none⟩ = some (.slice none 0 0) := (blk_cell BK441.out 3).trans rfl; have hfz68_0 := blk_frozen BK441.out 0; have hfz68_1 := blk_frozen BK441.out 1; have hfz68_2 := blk_frozen BK441.out 2; have hfz68_3 := blk_frozen BK441.out 3; obtain ⟨Ao69, co69, eo69⟩ := Kd.R_slice HO_450001.out; subst eo69; obtain ⟨Ao70, co70, eo70⟩ := Kd.R_slice HO_450002.out; subst eo70; obtain ⟨Ao71, co71, eo71⟩ := Kd.R_slice HO_450003.out; subst eo71; have hcy_0 := (blk_cell BK449.out 0).trans rfl; have hcy_1 := (blk_cell BK449.out 1).trans rfl; have hcy_2 := (blk_cell BK449.out 2).trans rfl; have hcy_3 := (blk_cell BK449.out 3).trans rfl))
       refine bodyPost_ret (results_ct rfl _ _ gb441 57 #[.slice Ao67 x450000_1.length co67, .slice Ao69 x450001_1.length co69, .slice Ao70 x450002_1.length co70, .slice Ao71 x450003_1.length co71] (0, 0) _ rfl (by (with_reducible repeat first|refine zb1 ?_ _|refine zb2 ?_|refine zb3 ?_ _); refine blk_put (cs := #[.slice Ao67 x450000_1.length co67, .slice Ao69 x450001_1.length co69, .slice Ao70 x450002_1.length co70, .slice none 0 0]) ?_ 3 _ rfl; (with_reducible repeat first|refine zb1 ?_ _|refine zb2 ?_|refine zb3 ?_ _); refine blk_put (cs := #[.slice Ao67 x450000_1.length co67, .slice Ao69 x450001_1.length co69, .slice none 0 0, .slice none 0 0]) ?_ 2 _ rfl; (with_reducible repeat first|refine zb1 ?_ _|refine zb2 ?_|refine zb3 ?_ _); refine blk_put (cs := #[.slice Ao67 x450000_1.length co67, .slice none 0 0, .slice none 0 0, .slice none 0 0]) ?_ 1 _ rfl; (with_reducible repeat first|refine zb1 ?_ _|refine zb2 ?_|refine zb3 ?_ _); refine blk_put (cs := #[.slice none 0 0, .slice none 0 0, .slice none 0 0, .slice none 0 0]) ?_ 0 _ rfl; (with_reducible repeat first|refine zb1 ?_ _|refine zb2 ?_|refine zb3 ?_ _); exact BK441.out) Try.underlying57 rfl (by kernel_rfl)) rfl ?_
       exact ⟨_, _, _, _, by first | rfl | (simp [errW_none, errW_some] <;> rfl) | (simp [*, errW_none, errW_some] <;> rfl), by (with_reducible repeat first|apply zr1|apply zr2|apply zr3); exact Kd.R_mono (Kd.R_far (p := ⟨gb441, 3, none⟩) (Kd.R_far (p := ⟨gb441, 2, none⟩) (Kd.R_far (p := ⟨gb441, 1, none⟩) (Kd.R_far (p := ⟨gb441, 0, none⟩) (Kd.R_types HO_450000.out BK441.out (by decide)) (fun _ hk => hk.2) (.slice Ao67 x450000_1.length co67)) (fun _ hk => hk.2) (.slice Ao69 x450001_1.length co69)) (fun _ hk => hk.2) (.slice Ao70 x450002_1.length co70)) (fun _ hk => hk.2) (.slice Ao71 x450003_1.length co71)) (fun _ hk => trivial), by (with_reducible repeat first|apply zr1|apply zr2|apply zr3); exact Kd.R_mono (Kd.R_far (p := ⟨gb441, 3, none⟩) (Kd.R_far (p := ⟨gb441, 2, none⟩) (Kd.R_far (p := ⟨gb441, 1, none⟩) (Kd.R_far (p := ⟨gb441, 0, none⟩) (Kd.R_types HO_450001.out BK441.out (by decide)) (fun _ hk => hk.2) (.slice Ao67 x450000_1.length co67)) (fun _ hk => hk.2) (.slice Ao69 x450001_1.length co69)) (fun _ hk => hk.2) (.slice Ao70 x450002_1.length co70)) (fun _ hk => hk.2) (.slice Ao71 x450003_1.length co71)) (fun _ hk => trivial), by (with_reducible repeat first|apply zr1|apply zr2|apply zr3); exact Kd.R_mono (Kd.R_far (p := ⟨gb441, 3, none⟩) (Kd.R_far (p := ⟨gb441, 2, none⟩) (Kd.R_far (p := ⟨gb441, 1, none⟩) (Kd.R_far (p := ⟨gb441, 0, none⟩) (Kd.R_types HO_450002.out BK441.out (by decide)) (fun _ hk => hk.2) (.slice Ao67 x450000_1.length co67)) (fun _ hk => hk.2) (.slice Ao69 x450001_1.length co69)) (fun _ hk => hk.2) (.slice Ao70 x450002_1.length co70)) (fun _ hk => hk.2) (.slice Ao71 x450003_1.length co71)) (fun _ hk => hk.1), by (with_reducible repeat first|apply zr1|apply zr2|apply zr3); exact Kd.R_mono (Kd.R_far (p := ⟨gb441, 3, none⟩) (Kd.R_far (p := ⟨gb441, 2, none⟩) (Kd.R_far (p := ⟨gb441, 1, none⟩) (Kd.R_far (p := ⟨gb441, 0, none⟩) (Kd.R_types HO_450003.out BK441.out (by decide)) (fun _ hk => hk.2) (.slice Ao67 x450000_1.length co67)) (fun _ hk => hk.2) (.slice Ao69 x450001_1.length co69)) (fun _ hk => hk.2) (.slice Ao70 x450002_1.length co70)) (fun _ hk => hk.2) (.slice Ao71 x450003_1.length co71)) (fun _ hk => hk.1), by repeat (first | (with_reducible first | exact HB.out | apply below_alloc | apply pw_below_drewN | apply below_drew1 | refine below_set ?_ GE441.out | refine below_set ?_ GE449.out) | exact HB.out)⟩
      ·replace c63 := Bool.eq_false_iff.mpr c63
       subst c63
       have H1 : (some (([] : List (S66)), ([] : List (S64)), ([] : List Int), ([] : List Int), 3)) = some (r1, r2, r3, r4, r5) := by rw [if_neg (show ¬ (false = true) by decide)] at H; exact H
       clear H
       have H := H1
       clear H1
       simp only [Option.some.injEq, Prod.mk.injEq] at H
       obtain ⟨rfl, rfl, rfl, rfl, rfl⟩ := H
       obtain ⟨Ao72, co72, eo72⟩ := Kd.N_slice HO_8.out
       subst eo72
       have hnb73 := NB449_441.out
       have hnc73 := NB441_449.out
       have hcz74_0 : wr.cell? ⟨gb449, 0, none⟩ = some (u450000) := (blk_cell BK449.out 0).trans rfl
       have hcz74_1 : wr.cell? ⟨gb449, 1, none⟩ = some (u450001) := (blk_cell BK449.out 1).trans rfl
       have hcz74_2 : wr.cell? ⟨gb449, 2, none⟩ = some (u450002) := (blk_cell BK449.out 2).trans rfl
       have hcz74_3 : wr.cell? ⟨gb449, 3, none⟩ = some (u450003) := (blk_cell BK449.out 3).trans rfl
       have hfz74_0 := blk_frozen BK449.out 0
       have hfz74_1 := blk_frozen BK449.out 1
       have hfz74_2 := blk_frozen BK449.out 2
       have hfz74_3 := blk_frozen BK449.out 3
       obtain ⟨Ao75, co75, eo75⟩ := Kd.R_slice HO_450000.out
       subst eo75
       go_wp2_with (first | ((with_reducible refine gate_callee (f := 37) rfl ?_); refine goesL_ (some 101) rfl rfl Try.func37 (by kernel_rfl) rfl #[.slice Ao75 x450000_1.length co75] rfl (by (try simp only [List.map_toArray, List.map_cons, List.map_nil]); first | done | rfl | (simp only [List.length_drop, List.length_take]; rfl)) ?_; (with_reducible refine (jalousieref01_Right.calls k1 _ _ x450000_1 false _ ?side1 ?side2 A62.out).mono ?_); (case side1 => repeat (first | exact (Kd.R_reads' HO_450000.out).2.2 | (with_reducible refine Kd.C_alloc ?_ _) | (with_reducible refine Kd.C_drewN ?_ _) | (with_reducible refine Kd.C_drew ?_))); (case side2 => exact (Kd.R_reads' HO_450000.out).2.1); rintro e w' ⟨rfl, ⟨nd, rfl⟩⟩; refine ⟨_, rfl, ?_⟩; (try (rw [drewN_self wr]; generalize hq_ : World.drewN wr _ = wr; have n0_ : Aside0 (Kd.R k66 66 wr w.heap.size (fun _ => True) (.slice Ao75 x450000_1.length co75) x450000_1) := ⟨by rw [← hq_]; exact (by (with_reducible repeat first|apply zr1|apply zr2|apply zr3); exact HO_450000.out)⟩; have n1_ : Aside0 (Kd.R k64 64 wr w.heap.size (fun _ => True) u450001 x450001_1) := ⟨by rw [← hq_]; exact (by (with_reducible repeat first|apply zr1|apply zr2|apply zr3); exact HO_450001.out)⟩; have n2_ : Aside0 (Kd.R (Kd.int .i64) 3 wr w.heap.size (fun k_ => some k_ ≠ (u450003 : Value).ownBlock) u450002 x450002_1) := ⟨by rw [← hq_]; exact (by (with_reducible repeat first|apply zr1|apply zr2|apply zr3); exact HO_450002.out)⟩; have n3_ : Aside0 (Kd.R (Kd.int .i64) 3 wr w.heap.size (fun k_ => some k_ ≠ (u450002 : Value).ownBlock) u450003 x450003_1) := ⟨by rw [← hq_]; exact (by (with_reducible repeat first|apply zr1|apply zr2|apply zr3); exact HO_450003.out)⟩; have n4_ : Aside0 (Kd.N k47 47 wr w.heap.size (fun k_ => some k_ ≠ (.slice Ao75 x450000_1.length co75 : Value).ownBlock ∧ some k_ ≠ (u450001 : Value).ownBlock ∧ some k_ ≠ (u450002 : Value).ownBlock ∧ some k_ ≠ (u450003 : Value).ownBlock ∧ k_ ≠ gb441 ∧ k_ ≠ gb449) (.slice Ao72 t446.length co72) t446) := ⟨by rw [← hq_]; exact (by (with_reducible repeat (first | apply Kd.N_alloc | apply Kd.N_drewN | apply Kd.N_drew)); exact HO_8.out)⟩; have n5_ : Aside0 (wr.heap[gb441]? = some (.cells #[.slice none 0 0, .slice none 0 0, .slice none 0 0, .slice none 0 0] 57 (0, 0))) := ⟨by rw [← hq_]; exact (by (with_reducible repeat first|refine zb1 ?_ _|refine zb2 ?_|refine zb3 ?_ _); exact BK441.out)⟩; have n6_ : Aside0 (wr.heap[gb449]? = some (.cells #[.slice Ao75 x450000_1.length co75, u450001, u450002, u450003] 57 (0, 0))) := ⟨by rw [← hq_]; exact (by (with_reducible repeat first|refine zb1 ?_ _|refine zb2 ?_|refine zb3 ?_ _); exact BK449.out)⟩; have n7_ : Aside0 (Below w.heap.size w wr) := ⟨by rw [← hq_]; exact (by repeat (first | (with_reducible first | exact HB.out | apply below_alloc | apply pw_below_drewN | apply below_drew1 | refine below_set ?_ GE441.out | refine below_set ?_ GE449.out) | exact HB.out))⟩; clear HO_450000 HO_450001 HO_450002 HO_450003 HO_8 BK441 BK449 HB hq_; have HO_450000 := n0_; have HO_450001 := n1_; have HO_450002 := n2_; have HO_450003 := n3_; have HO_8 := n4_; have BK441 := n5_; have BK449 := n6_; have HB := n7_; clear n0_ n1_ n2_ n3_ n4_ n5_ n6_ n7_)); have hcz76_0 : wr.cell? ⟨gb441, 0, none⟩ = some (.slice none 0 0) := (blk_cell BK441.out 0).trans rfl; have hcz76_1 : wr.cell? ⟨gb441, 1, none⟩ = some (.slice none 0 0) := (blk_cell BK441.out 1).trans rfl; have hcz76_2 : wr.cell? ⟨gb441, 2, none⟩ = some (.slice none 0 0) := (blk_cell BK441.out 2).trans rfl; have hcz76_3 : wr.cell? ⟨gb441, 3, none⟩ = some (.slice none 0 0) := (blk_cell BK441.out 3).trans rfl; have hfz76_0 := blk_frozen BK441.out 0; have hfz76_1 := blk_frozen BK441.out 1; have hfz76_2 := blk_frozen BK441.out 2; have hfz76_3 := blk_frozen BK441.out 3))
       refine bodyPost_ret (results_ct rfl _ _ gb441 57 #[.slice none 0 0, .slice none 0 0, .slice none 0 0, .slice none 0 0] (0, 0) _ rfl (by (with_reducible repeat first|refine zb1 ?_ _|refine zb2 ?_|refine zb3 ?_ _); refine blk_put (cs := #[.slice none 0 0, .slice none 0 0, .slice none 0 0, .slice none 0 0]) ?_ 3 _ rfl; (with_reducible repeat first|refine zb1 ?_ _|refine zb2 ?_|refine zb3 ?_ _); refine blk_put (cs := #[.slice none 0 0, .slice none 0 0, .slice none 0 0, .slice none 0 0]) ?_ 2 _ rfl; (with_reducible repeat first|refine zb1 ?_ _|refine zb2 ?_|refine zb3 ?_ _); refine blk_put (cs := #[.slice none 0 0, .slice none 0 0, .slice none 0 0, .slice none 0 0]) ?_ 1 _ rfl; (with_reducible repeat first|refine zb1 ?_ _|refine zb2 ?_|refine zb3 ?_ _); refine blk_put (cs := #[.slice none 0 0, .slice none 0 0, .slice none 0 0, .slice none 0 0]) ?_ 0 _ rfl; (with_reducible repeat first|refine zb1 ?_ _|refine zb2 ?_|refine zb3 ?_ _); exact BK441.out) Try.underlying57 rfl (by kernel_rfl)) rfl ?_
       exact ⟨_, _, _, _, by first | rfl | (simp [errW_none, errW_some] <;> rfl) | (simp [*, errW_none, errW_some] <;> rfl), by first | exact Kd.R_nil _ _ _ _ _ | exact Kd.N_nil _ _ _ _ _ | exact Kd.V_nil _ _ _ _ _ | exact Kd.Q_nil _ _ _ _ _ | exact Kd.S_nil _ _ _ _ _, by first | exact Kd.R_nil _ _ _ _ _ | exact Kd.N_nil _ _ _ _ _ | exact Kd.V_nil _ _ _ _ _ | exact Kd.Q_nil _ _ _ _ _ | exact Kd.S_nil _ _ _ _ _, by first | exact Kd.R_nil _ _ _ _ _ | exact Kd.N_nil _ _ _ _ _ | exact Kd.V_nil _ _ _ _ _ | exact Kd.Q_nil _ _ _ _ _ | exact Kd.S_nil _ _ _ _ _, by first | exact Kd.R_nil _ _ _ _ _ | exact Kd.N_nil _ _ _ _ _ | exact Kd.V_nil _ _ _ _ _ | exact Kd.Q_nil _ _ _ _ _ | exact Kd.S_nil _ _ _ _ _, by repeat (first | (with_reducible first | exact HB.out | apply below_alloc | apply pw_below_drewN | apply below_drew1 | refine below_set ?_ GE441.out | refine below_set ?_ GE449.out) | exact HB.out)⟩
 ·rw [if_neg c4] at H
  have c4b0 : (t445 == 0) = false := beq_eq_false_iff_ne.mpr c4
  have c4b1 : (t445 != 0) = true := bne_iff_ne.mpr c4
  simp only [Option.some.injEq, Prod.mk.injEq] at H
  obtain ⟨rfl, rfl, rfl, rfl, rfl⟩ := H
  go_enter Try.func31, Try.ntmps31
  go_wp2_with (first | ((with_reducible refine gate_dst (N := 4) rfl ?_); refine box_event ?hg (N := 4) ?hd (cs := #[.slice none 0 0, .slice none 0 0, .slice none 0 0, .slice none 0 0]) (t := 57) ?hr ?_; (case hd => rfl); (case hg => rfl); (case hr => first | (go_simp; done) | (go_simp; rfl)); intro gb441 hg w77 hbox hb; have n0_ := Aside0.mk (below_step (by repeat (first | (with_reducible first | exact HB.out | apply below_alloc | apply pw_below_drewN | apply below_drew1) | exact HB.out)) hb); have n1_ := Aside0.mk (hbox); have n2_ := Aside0.mk ((by rw [hg]; exact (below_size (by repeat (first | (with_reducible first | exact HB.out | apply below_alloc | apply pw_below_drewN | apply below_drew1) | exact HB.out))) : w.heap.size ≤ gb441)); have n3_ := Aside0.mk ((by rw [hg]; exact (below_size (by repeat (first | (with_reducible first | exact HB.out | apply below_alloc | apply pw_below_drewN | apply below_drew1) | exact HB.out))) : w.heap.size ≤ gb441)); clear HB; have HB := n0_; have BK441 := n1_; have GW441 := n2_; have GE441 := n3_; clear n0_ n1_ n2_ n3_; clear hb hbox hg) | ((with_reducible refine gate_callee (f := 62) rfl ?_); refine goesL_ (some 15) rfl rfl Try.func62 (by kernel_rfl) rfl #[.slice A0 l0.length c0, .slice A1 l1.length c1] rfl (by (try simp only [List.map_toArray, List.map_cons, List.map_nil]); first | done | rfl | (simp only [List.length_drop, List.length_take]; rfl)) ?_; (with_reducible refine (jalousieref09_Whole.calls k (fun k_ => k_ < w.heap.size) _ _ l0 (fun k_ => k_ < w.heap.size) _ _ l1 t442 t445 _ ?side1 ?side2 A3.out).mono ?_); (case side1 => exact Kd.V_mk HC0.out (Kd.F_below (Kd.C_F k44_heap HR0.out) (by repeat (first | (with_reducible first | exact HB.out | apply below_alloc | apply pw_below_drewN | apply below_drew1 | refine below_set ?_ GE441.out) | exact HB.out)))); (case side2 => exact Kd.V_mk HC1.out (Kd.F_below (Kd.C_F k66_heap HR1.out) (by repeat (first | (with_reducible first | exact HB.out | apply below_alloc | apply pw_below_drewN | apply below_drew1 | refine below_set ?_ GE441.out) | exact HB.out)))); rintro e w78 ⟨v443, rfl, ho0, hb⟩; refine ⟨_, rfl, ?_⟩; have n0_ := Aside0.mk (Kd.N_lower (Kd.N_mono (ok' := fun k_ => k_ ≠ gb441) ho0 (fun k_ hk_ => Or.elim hk_ (fun hs_ => Or.elim hs_ (fun hs_ => fun e_ => Nat.not_le.2 hs_ (by rw [e_]; exact GW441.out)) (fun hs_ => fun e_ => Nat.not_le.2 hs_ (by rw [e_]; exact GW441.out))) (fun hn_ => (Kd.freshB (g := gb441) (o := .cells #[.slice none 0 0, .slice none 0 0, .slice none 0 0, .slice none 0 0] 57 (0, 0)) (by (with_reducible repeat first|refine zb1 ?_ _|refine zb2 ?_|refine zb3 ?_ _); exact BK441.out) k_ hn_)))) (below_size (by repeat (first | (with_reducible first | exact HB.out | apply below_alloc | apply pw_below_drewN | apply below_drew1 | refine below_set ?_ GE441.out) | exact HB.out)))); have n1_ := Aside0.mk (blk_below (g := gb441) (o := .cells #[.slice none 0 0, .slice none 0 0, .slice none 0 0, .slice none 0 0] 57 (0, 0)) (by (with_reducible repeat first|refine zb1 ?_ _|refine zb2 ?_|refine zb3 ?_ _); exact BK441.out) hb); have n2_ := Aside0.mk (below_step (by repeat (first | (with_reducible first | exact HB.out | apply below_alloc | apply pw_below_drewN | apply below_drew1 | refine below_set ?_ GE441.out) | exact HB.out)) hb); clear BK441; clear HB; have HO444 := n0_; have BK441 := n1_; have HB := n2_; clear n0_ n1_ n2_; (try clear hb); (try clear hb2); (try clear hk); (try clear hi); (try clear ho0); have hcz79_0 : w78.cell? ⟨gb441, 0, none⟩ = some (.slice none 0 0) := (blk_cell BK441.out 0).trans rfl; have hcz79_1 : w78.cell? ⟨gb441, 1, none⟩ = some (.slice none 0 0) := (blk_cell BK441.out 1).trans rfl; have hcz79_2 : w78.cell? ⟨gb441, 2, none⟩ = some (.slice none 0 0) := (blk_cell BK441.out 2).trans rfl; have hcz79_3 : w78.cell? ⟨gb441, 3, none⟩ = some (.slice none 0 0) := (blk_cell BK441.out 3).trans rfl; have hfz79_0 := blk_frozen BK441.out 0; have hfz79_1 := blk_frozen BK441.out 1; have hfz79_2 := blk_frozen BK441.out 2; have hfz79_3 := blk_frozen BK441.out 3))
  refine bodyPost_ret (results_ct rfl _ _ gb441 57 #[.slice none 0 0, .slice none 0 0, .slice none 0 0, .slice none 0 0] (0, 0) _ rfl (by (with_reducible repeat first|refine zb1 ?_ _|refine zb2 ?_|refine zb3 ?_ _); refine blk_put (cs := #[.slice none 0 0, .slice none 0 0, .slice none 0 0, .slice none 0 0]) ?_ 3 _ rfl; (with_reducible repeat first|refine zb1 ?_ _|refine zb2 ?_|refine zb3 ?_ _); refine blk_put (cs := #[.slice none 0 0, .slice none 0 0, .slice none 0 0, .slice none 0 0]) ?_ 2 _ rfl; (with_reducible repeat first|refine zb1 ?_ _|refine zb2 ?_|refine zb3 ?_ _); refine blk_put (cs := #[.slice none 0 0, .slice none 0 0, .slice none 0 0, .slice none 0 0]) ?_ 1 _ rfl; (with_reducible repeat first|refine zb1 ?_ _|refine zb2 ?_|refine zb3 ?_ _); refine blk_put (cs := #[.slice none 0 0, .slice none 0 0, .slice none 0 0, .slice none 0 0]) ?_ 0 _ rfl; (with_reducible repeat first|refine zb1 ?_ _|refine zb2 ?_|refine zb3 ?_ _); exact BK441.out) Try.underlying57 rfl (by kernel_rfl)) rfl ?_
  exact ⟨_, _, _, _, by first | rfl | (simp [errW_none, errW_some] <;> rfl) | (simp [*, errW_none, errW_some] <;> rfl), by first | exact Kd.R_nil _ _ _ _ _ | exact Kd.N_nil _ _ _ _ _ | exact Kd.V_nil _ _ _ _ _ | exact Kd.Q_nil _ _ _ _ _ | exact Kd.S_nil _ _ _ _ _, by first | exact Kd.R_nil _ _ _ _ _ | exact Kd.N_nil _ _ _ _ _ | exact Kd.V_nil _ _ _ _ _ | exact Kd.Q_nil _ _ _ _ _ | exact Kd.S_nil _ _ _ _ _, by first | exact Kd.R_nil _ _ _ _ _ | exact Kd.N_nil _ _ _ _ _ | exact Kd.V_nil _ _ _ _ _ | exact Kd.Q_nil _ _ _ _ _ | exact Kd.S_nil _ _ _ _ _, by first | exact Kd.R_nil _ _ _ _ _ | exact Kd.N_nil _ _ _ _ _ | exact Kd.V_nil _ _ _ _ _ | exact Kd.Q_nil _ _ _ _ _ | exact Kd.S_nil _ _ _ _ _, by repeat (first | (with_reducible first | exact HB.out | apply below_alloc | apply pw_below_drewN | apply below_drew1 | refine below_set ?_ GE441.out) | exact HB.out)⟩

end Go.Proofs.Ytfnbodjmmkjlcaa.H
end
section
namespace Go.Proofs.Ytfnbodjmmkjlcaa.H
open Go.RowKit Go.Proofs.YtfnbodjmmkjlcaaW.PrintWords Go.Proofs.YtfnbodjmmkjlcaaW.PrintLast Go.Proofs.YtfnbodjmmkjlcaaW.PrintMore
attribute [local go_sem] max2_int min2_int max_two min_two max_three min_three max_four min_four   -- for this text's walks alone
set_option linter.unusedVariables false
set_option linter.unusedSimpArgs false

theorem eqi_cons {P : Program} {d e n : Nat} {xs ys : Array Value} {i : Nat} {is : List Nat} {a b : Value} {r s : Bool} {w : World} (ha : (part e xs (i * n)).run P w = .ok a w) (hb : (part e ys (i * n)).run P w = .ok b w) (he : (Op.equalIn d e a b).run P w = .ok r w) (hr : (Op.eqItems d e n xs ys is).run P w = .ok s w) : (Op.eqItems d e n xs ys (i :: is)).run P w = .ok (r && s) w := by
  simp only [Op.eqItems, Sem.run_bind, ha, hb, he, Result.andThen_ok]
  cases r
  · simp
  · simpa using hr
theorem eqi_last {P : Program} {d e n : Nat} {xs ys : Array Value} {i : Nat} {a b : Value} {r : Bool} {w : World} (ha : (part e xs (i * n)).run P w = .ok a w) (hb : (part e ys (i * n)).run P w = .ok b w) (he : (Op.equalIn d e a b).run P w = .ok r w) : (Op.eqItems d e n xs ys [i]).run P w = .ok r w := by
  have h := eqi_cons ha hb he (s := true) (is := []) (by simp [Op.eqItems])
  rwa [Bool.and_true] at h
theorem eqA64 (d : Nat) (w : World) (x0 y0 x1 y1 : Int) :
    (Op.equalIn (d + 2) 64 (.agg #[.int .i64 x0, .int .i64 x1]) (.agg #[.int .i64 y0, .int .i64 y1])).run Try.prog w = .ok (x0 == y0 && (x1 == y1)) w := by
  obtain ⟨i, hi⟩ := Go.info_of_underlying (P := Try.prog) Try.underlying3
  rw [Go.run_equalIn_array (P := Try.prog) w (d + 1) _ _ Try.underlying64 hi, show Try.prog.cellsOf 3 = 1 by kernel_rfl, show List.range 2 = [0, 1] by rfl]
  refine eqi_cons (by go_simp; rfl) (by go_simp; rfl) (by go_simp) ?_
  exact eqi_last (by go_simp; rfl) (by go_simp; rfl) (by go_simp)
end Go.Proofs.Ytfnbodjmmkjlcaa.H
end
section
namespace Go.Proofs.Ytfnbodjmmkjlcaa.H
open Go.RowKit Go.Proofs.YtfnbodjmmkjlcaaW.PrintWords Go.Proofs.YtfnbodjmmkjlcaaW.PrintLast Go.Proofs.YtfnbodjmmkjlcaaW.PrintMore
attribute [local go_sem] max2_int min2_int max_two min_two max_three min_three max_four min_four   -- for this text's walks alone
set_option linter.unusedVariables false
set_option linter.unusedSimpArgs false

mutual
def patch_Size.l0 : Nat → Int → Int → List (S44) → Int → Int → Option (Int × Int)
 | 0, _, _, _, _, _ => none
 | k + 1, x4, x5, x10, x11, x12 => if x12 < x11 then (if 0 ≤ x12 then (if x12 < (x10.length : Int) then (patch_Size.l1 k x4 x5 x10 x11 x12 ((rd_T44 x10 x12).f4) (((rd_T44 x10 x12).f4).length : Int) 0) else (none)) else (none)) else (some (x4, x5))
def patch_Size.l1 : Nat → Int → Int → List (S44) → Int → Int → List (S47) → Int → Int → Option (Int × Int)
 | 0, _, _, _, _, _, _, _, _ => none
 | k + 1, x4, x5, x10, x11, x12, x17, x18, x19 => if x19 < x18 then (if 0 ≤ x19 then (if x19 < (x17.length : Int) then (if ((rd_T47 x17 x19).f0) = 3 then (patch_Size.l1 k (wrap64 (x4 + (((rd_T47 x17 x19).f1).length : Int))) x5 x10 x11 x12 x17 x18 (wrap64 (x19 + 1))) else (if ((rd_T47 x17 x19).f0) = 2 then (patch_Size.l1 k x4 (wrap64 (x5 + (((rd_T47 x17 x19).f1).length : Int))) x10 x11 x12 x17 x18 (wrap64 (x19 + 1))) else (patch_Size.l1 k x4 x5 x10 x11 x12 x17 x18 (wrap64 (x19 + 1))))) else (none)) else (none)) else (patch_Size.l0 k x4 x5 x10 x11 (wrap64 (x12 + 1)))
end
def patch_Size.f (k : Nat) (l0 : List (S44)) : Option (Int × Int) := patch_Size.l0 k 0 0 l0 (l0.length : Int) 0
theorem patch_Size.mono_l : ∀ k, (∀ y0 y1 y2 y3 y4, LeO (patch_Size.l0 k y0 y1 y2 y3 y4) (patch_Size.l0 (k + 1) y0 y1 y2 y3 y4)) ∧ (∀ y0 y1 y2 y3 y4 y5 y6 y7, LeO (patch_Size.l1 k y0 y1 y2 y3 y4 y5 y6 y7) (patch_Size.l1 (k + 1) y0 y1 y2 y3 y4 y5 y6 y7))
 | 0 => ⟨fun _ _ _ _ _ r h => by simp [patch_Size.l0] at h, fun _ _ _ _ _ _ _ _ r h => by simp [patch_Size.l1] at h⟩
 | k + 1 => by
  obtain ⟨ih0, ih1⟩ := patch_Size.mono_l k
  refine ⟨?_, ?_⟩
  ·intro y0 y1 y2 y3 y4
   unfold patch_Size.l0
   repeat' first
   | (with_reducible exact ih0 _ _ _ _ _)
   | (with_reducible exact ih1 _ _ _ _ _ _ _ _)
   | (with_reducible exact LeO.refl _)
   | (with_reducible exact LeO.none _)
   | (with_reducible refine LeO.ite ?_ ?_)
   | (with_reducible refine LeO.bind ?_ (fun _ => ?_))
   | exact ih0 _ _ _ _ _
   | exact ih1 _ _ _ _ _ _ _ _
   | exact LeO.none _
   | refine LeO.ite ?_ ?_
   | refine LeO.bind ?_ (fun _ => ?_)
  ·intro y0 y1 y2 y3 y4 y5 y6 y7
   unfold patch_Size.l1
   repeat' first
   | (with_reducible exact ih0 _ _ _ _ _)
   | (with_reducible exact ih1 _ _ _ _ _ _ _ _)
   | (with_reducible exact LeO.refl _)
   | (with_reducible exact LeO.none _)
   | (with_reducible refine LeO.ite ?_ ?_)
   | (with_reducible refine LeO.bind ?_ (fun _ => ?_))
   | exact ih0 _ _ _ _ _
   | exact ih1 _ _ _ _ _ _ _ _
   | exact LeO.none _
   | refine LeO.ite ?_ ?_
   | refine LeO.bind ?_ (fun _ => ?_)
theorem patch_Size.mono : ∀ a0 k, LeO (patch_Size.f k a0) (patch_Size.f (k + 1) a0) := by
 intro a0 k
 obtain ⟨ih0, ih1⟩ := patch_Size.mono_l k
 unfold patch_Size.f
 repeat' first
   | (with_reducible exact ih0 _ _ _ _ _)
   | (with_reducible exact ih1 _ _ _ _ _ _ _ _)
   | (with_reducible exact LeO.refl _)
   | (with_reducible exact LeO.none _)
   | (with_reducible refine LeO.ite ?_ ?_)
   | (with_reducible refine LeO.bind ?_ (fun _ => ?_))
   | exact ih0 _ _ _ _ _
   | exact ih1 _ _ _ _ _ _ _ _
   | exact LeO.none _
   | refine LeO.ite ?_ ?_
   | refine LeO.bind ?_ (fun _ => ?_)
set_option maxHeartbeats 8000000 in
set_option maxRecDepth 100000 in
theorem patch_Size.calls (k : Nat) (A0 : Option Addr) (c0 : Nat) (l0 : List (S44)) (r1 : Int) (r2 : Int) (w : World) (hr0 : Kd.C k44 w A0 l0.length l0) (hc0 : l0.length ≤ c0) (h : patch_Size.f k l0 = some (r1, r2)) :
  Calls Try.prog 40 #[.slice A0 l0.length c0] w fun e w' => e = .returned (.tuple #[.int .i64 r1, .int .i64 r2]) ∧ Below w.heap.size w w' := by
 have hu44 := Try.underlying44
 have hu47 := Try.underlying47
 have HR0 := Aside0.mk hr0
 have HC0 := Aside0.mk hc0
 clear hr0 hc0
 have HB := Aside0.mk (Below.refl w.heap.size w)
 have H : (patch_Size.l0 k 0 0 l0 (l0.length : Int) 0) = some (r1, r2) := h
 clear h
 have H' := Aside0.mk H
 clear H
 go_enter Try.func40, Try.ntmps40
 go_wp2
 go_loopg [4, 5, 12] k (fun kq v4 v5 v12 w' => ∃ (x4_1 : Int) (x5_1 : Int) (x12_1 : Int), v4 = .int .i64 x4_1 ∧ v5 = .int .i64 x5_1 ∧ v12 = .int .i64 x12_1 ∧ Aside0 (patch_Size.l0 kq x4_1 x5_1 l0 (l0.length : Int) x12_1 = some (r1, r2)) ∧ Aside0 (kq ≤ k) ∧ Aside0 (Below w.heap.size w w'))
 case atStart => exact ⟨(0), (0), (0), (by first | rfl | (simp; done) | (simp [*]; done)), (by first | rfl | (simp; done) | (simp [*]; done)), (by first | rfl | (simp; done) | (simp [*]; done)), H', ⟨Nat.le_refl _⟩, ⟨by repeat (first | (with_reducible first | exact HB.out | apply below_alloc | apply pw_below_drewN | apply below_drew1) | exact HB.out)⟩⟩
 case round =>
  clear H'
  obtain ⟨x4_1, x5_1, x12_1, rfl, rfl, rfl, HA, HK1, HB⟩ := hrel
  cases gk with
  | zero => exact absurd HA.out (by simp [patch_Size.l0])
  | succ k1 =>
   have H := HA.out
   clear HA
   simp only [patch_Size.l0] at H
   by_cases c2 : x12_1 < (l0.length : Int)
   ·rw [if_pos c2] at H
    have c2b0 : decide (x12_1 < (l0.length : Int)) = true := decide_eq_true c2
    clear c2
    by_cases c3 : 0 ≤ x12_1
    ·rw [if_pos c3] at H
     have c3b0 : decide (0 ≤ x12_1) = true := decide_eq_true c3
     clear c3
     by_cases c4 : x12_1 < (l0.length : Int)
     ·rw [if_pos c4] at H
      have c4b0 : decide (x12_1 < (l0.length : Int)) = true := decide_eq_true c4
      clear c4
      have H' := Aside0.mk H
      clear H
      have p471 : 0 ≤ (x12_1 : Int) := of_decide_eq_true (by first | (with_reducible assumption) | assumption)
      have q471 : x12_1 < (l0.length : Int) := of_decide_eq_true (by first | (with_reducible assumption) | assumption)
      obtain ⟨ad471, A471_4, c471_4, e471, hx471_0, hx471_1, hx471_2, hx471_3, hx471_4, hl471_4, hi471_4⟩ := at_T44 HR0.out x12_1 p471 q471
      cases e471
      replace hx471_0 := (HB.out.cell (World.block_lt_of_cell? w _ hx471_0)).trans hx471_0
      replace hx471_1 := (HB.out.cell (World.block_lt_of_cell? w _ hx471_1)).trans hx471_1
      replace hx471_2 := (HB.out.cell (World.block_lt_of_cell? w _ hx471_2)).trans hx471_2
      replace hx471_3 := (HB.out.cell (World.block_lt_of_cell? w _ hx471_3)).trans hx471_3
      replace hx471_4 := (HB.out.cell (World.block_lt_of_cell? w _ hx471_4)).trans hx471_4
      have HR471_4 := Aside0.mk hi471_4
      have HC471_4 := Aside0.mk hl471_4
      clear hi471_4 hl471_4
      replace p471 := eq_true p471
      replace q471 := eq_true q471
      go_wp2_with (first | ((with_reducible refine gate_dst (N := 7) rfl ?_); refine box_event ?hg (N := 7) ?hd (cs := #[.int .i64 0, .int .i64 0, .int .i64 0, .int .i64 0, .slice none 0 0]) (t := 44) ?hr ?_; (case hd => rfl); (case hg => rfl); (case hr => first | (go_simp; done) | (go_simp; rfl)); intro gb472 hg w5 hbox hb; have n0_ := Aside0.mk (below_step (by repeat (first | (with_reducible first | exact HB.out | apply below_alloc | apply pw_below_drewN | apply below_drew1) | exact HB.out)) hb); have n1_ := Aside0.mk (hbox); have n2_ := Aside0.mk ((by rw [hg]; exact (below_size (by repeat (first | (with_reducible first | exact HB.out | apply below_alloc | apply pw_below_drewN | apply below_drew1) | exact HB.out))) : w.heap.size ≤ gb472)); have n3_ := Aside0.mk ((by rw [hg]; exact (below_size (by repeat (first | (with_reducible first | exact HB.out | apply below_alloc | apply pw_below_drewN | apply below_drew1) | exact HB.out))) : w.heap.size ≤ gb472)); clear HB; have HB := n0_; have BK472 := n1_; have GW472 := n2_; have GE472 := n3_; clear n0_ n1_ n2_ n3_; clear hb hbox hg; have hcz6_0 : w5.cell? ⟨gb472, 0, none⟩ = some (.int .i64 0) := (blk_cell BK472.out 0).trans rfl; have hcz6_1 : w5.cell? ⟨gb472, 1, none⟩ = some (.int .i64 0) := (blk_cell BK472.out 1).trans rfl; have hcz6_2 : w5.cell? ⟨gb472, 2, none⟩ = some (.int .i64 0) := (blk_cell BK472.out 2).trans rfl; have hcz6_3 : w5.cell? ⟨gb472, 3, none⟩ = some (.int .i64 0) := (blk_cell BK472.out 3).trans rfl; have hcz6_4 : w5.cell? ⟨gb472, 4, none⟩ = some (.slice none 0 0) := (blk_cell BK472.out 4).trans rfl; have hfz6_0 := blk_frozen BK472.out 0; have hfz6_1 := blk_frozen BK472.out 1; have hfz6_2 := blk_frozen BK472.out 2; have hfz6_3 := blk_frozen BK472.out 3; have hfz6_4 := blk_frozen BK472.out 4))
      go_loopg [4, 5, 19] k1 (fun kq v4 v5 v19 w' => ∃ (x4_2 : Int) (x5_2 : Int) (x19_2 : Int), v4 = .int .i64 x4_2 ∧ v5 = .int .i64 x5_2 ∧ v19 = .int .i64 x19_2 ∧ Aside0 (patch_Size.l1 kq x4_2 x5_2 l0 (l0.length : Int) x12_1 ((rd_T44 l0 x12_1).f4) (((rd_T44 l0 x12_1).f4).length : Int) x19_2 = some (r1, r2)) ∧ Aside0 (kq ≤ k1) ∧ Aside0 (w'.heap[gb472]? = some (.cells #[.int .i64 ((rd_T44 l0 x12_1).f0), .int .i64 ((rd_T44 l0 x12_1).f1), .int .i64 ((rd_T44 l0 x12_1).f2), .int .i64 ((rd_T44 l0 x12_1).f3), (.slice A471_4 ((rd_T44 l0 x12_1).f4).length c471_4)] 44 (0, 0))) ∧ Aside0 (Below w.heap.size w w'))
      case atStart => exact ⟨(x4_1), (x5_1), (0), (by first | rfl | (simp; done) | (simp [*]; done)), (by first | rfl | (simp; done) | (simp [*]; done)), (by first | rfl | (simp; done) | (simp [*]; done)), H', ⟨Nat.le_refl _⟩, ⟨by (with_reducible repeat first|refine zb1 ?_ _|refine zb2 ?_|refine zb3 ?_ _); refine blk_put (cs := #[.int .i64 ((rd_T44 l0 x12_1).f0), .int .i64 ((rd_T44 l0 x12_1).f1), .int .i64 ((rd_T44 l0 x12_1).f2), .int .i64 ((rd_T44 l0 x12_1).f3), .slice none 0 0]) ?_ 4 _ rfl; (with_reducible repeat first|refine zb1 ?_ _|refine zb2 ?_|refine zb3 ?_ _); refine blk_put (cs := #[.int .i64 ((rd_T44 l0 x12_1).f0), .int .i64 ((rd_T44 l0 x12_1).f1), .int .i64 ((rd_T44 l0 x12_1).f2), .int .i64 0, .slice none 0 0]) ?_ 3 _ rfl; (with_reducible repeat first|refine zb1 ?_ _|refine zb2 ?_|refine zb3 ?_ _); refine blk_put (cs := #[.int .i64 ((rd_T44 l0 x12_1).f0), .int .i64 ((rd_T44 l0 x12_1).f1), .int .i64 0, .int .i64 0, .slice none 0 0]) ?_ 2 _ rfl; (with_reducible repeat first|refine zb1 ?_ _|refine zb2 ?_|refine zb3 ?_ _); refine blk_put (cs := #[.int .i64 ((rd_T44 l0 x12_1).f0), .int .i64 0, .int .i64 0, .int .i64 0, .slice none 0 0]) ?_ 1 _ rfl; (with_reducible repeat first|refine zb1 ?_ _|refine zb2 ?_|refine zb3 ?_ _); refine blk_put (cs := #[.int .i64 0, .int .i64 0, .int .i64 0, .int .i64 0, .slice none 0 0]) ?_ 0 _ rfl; (with_reducible repeat first|refine zb1 ?_ _|refine zb2 ?_|refine zb3 ?_ _); exact BK472.out⟩, ⟨by repeat (first | (with_reducible first | exact HB.out | apply below_alloc | apply pw_below_drewN | apply below_drew1 | refine below_set ?_ GE472.out) | exact HB.out)⟩⟩
      case round =>
       clear H'
       try clear c2
       try clear c2b0
       try clear p2
       try clear c3
       try clear c3b0
       try clear c4
       try clear c4b0
       try clear p4
       try clear q4
       try clear hx4
       try clear hcz6_0
       try clear hcz6_1
       try clear hcz6_2
       try clear hcz6_3
       try clear hcz6_4
       try clear hfz6_0
       try clear hfz6_1
       try clear hfz6_2
       try clear hfz6_3
       try clear hfz6_4
       try clear hx471_0
       try clear hx471_1
       try clear hx471_2
       try clear hx471_3
       try clear hx471_4
       try clear p471
       try clear q471
       obtain ⟨x4_2, x5_2, x19_2, rfl, rfl, rfl, HA, HK2, BK472, HB⟩ := hrel
       cases gk with
       | zero => exact absurd HA.out (by simp [patch_Size.l1])
       | succ k2 =>
        have H := HA.out
        clear HA
        simp only [patch_Size.l1] at H
        by_cases c7 : x19_2 < (((rd_T44 l0 x12_1).f4).length : Int)
        ·rw [if_pos c7] at H
         have c7b0 : decide (x19_2 < (((rd_T44 l0 x12_1).f4).length : Int)) = true := decide_eq_true c7
         clear c7
         by_cases c8 : 0 ≤ x19_2
         ·rw [if_pos c8] at H
          have c8b0 : decide (0 ≤ x19_2) = true := decide_eq_true c8
          clear c8
          by_cases c9 : x19_2 < (((rd_T44 l0 x12_1).f4).length : Int)
          ·rw [if_pos c9] at H
           have c9b0 : decide (x19_2 < (((rd_T44 l0 x12_1).f4).length : Int)) = true := decide_eq_true c9
           clear c9
           by_cases c10 : ((rd_T47 ((rd_T44 l0 x12_1).f4) x19_2).f0) = 3
           ·rw [if_pos c10] at H
            have c10b0 : (((rd_T47 ((rd_T44 l0 x12_1).f4) x19_2).f0) == 3) = true := beq_iff_eq.mpr c10
            have c10b1 : (((rd_T47 ((rd_T44 l0 x12_1).f4) x19_2).f0) != 3) = false := bne_eq_false_iff_eq.mpr c10
            clear c10
            have H' := Aside0.mk H
            clear H
            have p473 : 0 ≤ (x19_2 : Int) := of_decide_eq_true (by first | (with_reducible assumption) | assumption)
            have q473 : x19_2 < (((rd_T44 l0 x12_1).f4).length : Int) := of_decide_eq_true (by first | (with_reducible assumption) | assumption)
            obtain ⟨ad473, A473_1, c473_1, e473, hx473_0, hx473_1, hl473_1, hi473_1⟩ := at_T47 HR471_4.out x19_2 p473 q473
            cases e473
            replace hx473_0 := (HB.out.cell (World.block_lt_of_cell? w _ hx473_0)).trans hx473_0
            replace hx473_1 := (HB.out.cell (World.block_lt_of_cell? w _ hx473_1)).trans hx473_1
            have HR473_1 := Aside0.mk hi473_1
            have HC473_1 := Aside0.mk hl473_1
            clear hi473_1 hl473_1
            replace p473 := eq_true p473
            replace q473 := eq_true q473
            go_wp2_with (first | ((with_reducible refine gate_dst (N := 9) rfl ?_); refine box_event ?hg (N := 9) ?hd (cs := #[.int .i64 0, .slice none 0 0]) (t := 47) ?hr ?_; (case hd => rfl); (case hg => rfl); (case hr => first | (go_simp; done) | (go_simp; rfl)); intro gb474 hg w11 hbox hb; have n0_ := Aside0.mk (blk_below (g := gb472) (o := .cells #[.int .i64 ((rd_T44 l0 x12_1).f0), .int .i64 ((rd_T44 l0 x12_1).f1), .int .i64 ((rd_T44 l0 x12_1).f2), .int .i64 ((rd_T44 l0 x12_1).f3), .slice (some ad473) ((rd_T44 l0 x12_1).f4).length c471_4] 44 (0, 0)) (by (with_reducible repeat first|refine zb1 ?_ _|refine zb2 ?_|refine zb3 ?_ _); exact BK472.out) hb); have n1_ := Aside0.mk (below_step (by repeat (first | (with_reducible first | exact HB.out | apply below_alloc | apply pw_below_drewN | apply below_drew1 | refine below_set ?_ GE472.out) | exact HB.out)) hb); have n2_ := Aside0.mk (hbox); have n3_ := Aside0.mk ((by rw [hg]; exact (below_size (by repeat (first | (with_reducible first | exact HB.out | apply below_alloc | apply pw_below_drewN | apply below_drew1 | refine below_set ?_ GE472.out) | exact HB.out))) : w.heap.size ≤ gb474)); have n4_ := Aside0.mk ((by rw [hg]; exact (below_size (by repeat (first | (with_reducible first | exact HB.out | apply below_alloc | apply pw_below_drewN | apply below_drew1 | refine below_set ?_ GE472.out) | exact HB.out))) : w.heap.size ≤ gb474)); have n5_ := Aside0.mk ((by rw [hg]; exact Nat.ne_of_lt (blk_lt (g := gb472) (o := .cells #[.int .i64 ((rd_T44 l0 x12_1).f0), .int .i64 ((rd_T44 l0 x12_1).f1), .int .i64 ((rd_T44 l0 x12_1).f2), .int .i64 ((rd_T44 l0 x12_1).f3), .slice (some ad473) ((rd_T44 l0 x12_1).f4).length c471_4] 44 (0, 0)) (by (with_reducible repeat first|refine zb1 ?_ _|refine zb2 ?_|refine zb3 ?_ _); exact BK472.out)) : gb472 ≠ gb474)); have n6_ := Aside0.mk ((by rw [hg]; exact Nat.ne_of_gt (blk_lt (g := gb472) (o := .cells #[.int .i64 ((rd_T44 l0 x12_1).f0), .int .i64 ((rd_T44 l0 x12_1).f1), .int .i64 ((rd_T44 l0 x12_1).f2), .int .i64 ((rd_T44 l0 x12_1).f3), .slice (some ad473) ((rd_T44 l0 x12_1).f4).length c471_4] 44 (0, 0)) (by (with_reducible repeat first|refine zb1 ?_ _|refine zb2 ?_|refine zb3 ?_ _); exact BK472.out)) : gb474 ≠ gb472)); clear BK472; clear HB; have BK472 := n0_; have HB := n1_; have BK474 := n2_; have GW474 := n3_; have GE474 := n4_; have NB472_474 := n5_; have NB474_472 := n6_; clear n0_ n1_ n2_ n3_ n4_ n5_ n6_; clear hb hbox hg; have hnb12 := NB474_472.out; have hnc12 := NB472_474.out; have hcz13_0 : w11.cell? ⟨gb474, 0, none⟩ = some (.int .i64 0) := (blk_cell BK474.out 0).trans rfl; have hcz13_1 : w11.cell? ⟨gb474, 1, none⟩ = some (.slice none 0 0) := (blk_cell BK474.out 1).trans rfl; have hfz13_0 := blk_frozen BK474.out 0; have hfz13_1 := blk_frozen BK474.out 1))
            go_roundg k2
            case measure => have := HK1.out; have := HK2.out; omega
            case rel => exact ⟨(wrap64 (x4_2 + (((rd_T47 ((rd_T44 l0 x12_1).f4) x19_2).f1).length : Int))), (x5_2), (wrap64 (x19_2 + 1)), (by first | rfl | (simp; done) | (simp [*]; done)), (by first | rfl | (simp; done) | (simp [*]; done)), (by first | rfl | (simp; done) | (simp [*]; done)), H', ⟨by have := HK1.out; have := HK2.out; omega⟩, ⟨by (with_reducible repeat first|refine zb1 ?_ _|refine zb2 ?_|refine zb3 ?_ _); refine blk_far ?_ NB472_474.out _; (with_reducible repeat first|refine zb1 ?_ _|refine zb2 ?_|refine zb3 ?_ _); refine blk_far ?_ NB472_474.out _; (with_reducible repeat first|refine zb1 ?_ _|refine zb2 ?_|refine zb3 ?_ _); exact BK472.out⟩, ⟨by repeat (first | (with_reducible first | exact HB.out | apply below_alloc | apply pw_below_drewN | apply below_drew1 | refine below_set ?_ GE472.out | refine below_set ?_ GE474.out) | exact HB.out)⟩⟩
           ·rw [if_neg c10] at H
            have c10b0 : (((rd_T47 ((rd_T44 l0 x12_1).f4) x19_2).f0) == 3) = false := beq_eq_false_iff_ne.mpr c10
            have c10b1 : (((rd_T47 ((rd_T44 l0 x12_1).f4) x19_2).f0) != 3) = true := bne_iff_ne.mpr c10
            by_cases c14 : ((rd_T47 ((rd_T44 l0 x12_1).f4) x19_2).f0) = 2
            ·rw [if_pos c14] at H
             have c14b0 : (((rd_T47 ((rd_T44 l0 x12_1).f4) x19_2).f0) == 2) = true := beq_iff_eq.mpr c14
             have c14b1 : (((rd_T47 ((rd_T44 l0 x12_1).f4) x19_2).f0) != 2) = false := bne_eq_false_iff_eq.mpr c14
             clear c14
             have H' := Aside0.mk H
             clear H
             have p473 : 0 ≤ (x19_2 : Int) := of_decide_eq_true (by first | (with_reducible assumption) | assumption)
             have q473 : x19_2 < (((rd_T44 l0 x12_1).f4).length : Int) := of_decide_eq_true (by first | (with_reducible assumption) | assumption)
             obtain ⟨ad473, A473_1, c473_1, e473, hx473_0, hx473_1, hl473_1, hi473_1⟩ := at_T47 HR471_4.out x19_2 p473 q473
             cases e473
             replace hx473_0 := (HB.out.cell (World.block_lt_of_cell? w _ hx473_0)).trans hx473_0
             replace hx473_1 := (HB.out.cell (World.block_lt_of_cell? w _ hx473_1)).trans hx473_1
             have HR473_1 := Aside0.mk hi473_1
             have HC473_1 := Aside0.mk hl473_1
             clear hi473_1 hl473_1
             replace p473 := eq_true p473
             replace q473 := eq_true q473
             go_wp2_with (first | ((with_reducible refine gate_dst (N := 9) rfl ?_); refine box_event ?hg (N := 9) ?hd (cs := #[.int .i64 0, .slice none 0 0]) (t := 47) ?hr ?_; (case hd => rfl); (case hg => rfl); (case hr => first | (go_simp; done) | (go_simp; rfl)); intro gb474 hg w15 hbox hb; have n0_ := Aside0.mk (blk_below (g := gb472) (o := .cells #[.int .i64 ((rd_T44 l0 x12_1).f0), .int .i64 ((rd_T44 l0 x12_1).f1), .int .i64 ((rd_T44 l0 x12_1).f2), .int .i64 ((rd_T44 l0 x12_1).f3), .slice (some ad473) ((rd_T44 l0 x12_1).f4).length c471_4] 44 (0, 0)) (by (with_reducible repeat first|refine zb1 ?_ _|refine zb2 ?_|refine zb3 ?_ _); exact BK472.out) hb); have n1_ := Aside0.mk (below_step (by repeat (first | (with_reducible first | exact HB.out | apply below_alloc | apply pw_below_drewN | apply below_drew1 | refine below_set ?_ GE472.out) | exact HB.out)) hb); have n2_ := Aside0.mk (hbox); have n3_ := Aside0.mk ((by rw [hg]; exact (below_size (by repeat (first | (with_reducible first | exact HB.out | apply below_alloc | apply pw_below_drewN | apply below_drew1 | refine below_set ?_ GE472.out) | exact HB.out))) : w.heap.size ≤ gb474)); have n4_ := Aside0.mk ((by rw [hg]; exact (below_size (by repeat (first | (with_reducible first | exact HB.out | apply below_alloc | apply pw_below_drewN | apply below_drew1 | refine below_set ?_ GE472.out) | exact HB.out))) : w.heap.size ≤ gb474)); have n5_ := Aside0.mk ((by rw [hg]; exact Nat.ne_of_lt (blk_lt (g := gb472) (o := .cells #[.int .i64 ((rd_T44 l0 x12_1).f0), .int .i64 ((rd_T44 l0 x12_1).f1), .int .i64 ((rd_T44 l0 x12_1).f2), .int .i64 ((rd_T44 l0 x12_1).f3), .slice (some ad473) ((rd_T44 l0 x12_1).f4).length c471_4] 44 (0, 0)) (by (with_reducible repeat first|refine zb1 ?_ _|refine zb2 ?_|refine zb3 ?_ _); exact BK472.out)) : gb472 ≠ gb474)); have n6_ := Aside0.mk ((by rw [hg]; exact Nat.ne_of_gt (blk_lt (g := gb472) (o := .cells #[.int .i64 ((rd_T44 l0 x12_1).f0), .int .i64 ((rd_T44 l0 x12_1).f1), .int .i64 ((rd_T44 l0 x12_1).f2), .int .i64 ((rd_T44 l0 x12_1).f3), .slice (some ad473) ((rd_T44 l0 x12_1).f4).length c471_4] 44 (0, 0)) (by (with_reducible repeat first|refine zb1 ?_ _|refine zb2 ?_|refine zb3 ?_ _); exact BK472.out)) : gb474 ≠ gb472)); clear BK472; clear HB; have BK472 := n0_; have HB := n1_; have BK474 := n2_; have GW474 := n3_; have GE474 := n4_; have NB472_474 := n5_; have NB474_472 := n6_; clear n0_ n1_ n2_ n3_ n4_ n5_ n6_; clear hb hbox hg; have hnb16 := NB474_472.out; have hnc16 := NB472_474.out; have hcz17_0 : w15.cell? ⟨gb474, 0, none⟩ = some (.int .i64 0) := (blk_cell BK474.out 0).trans rfl; have hcz17_1 : w15.cell? ⟨gb474, 1, none⟩ = some (.slice none 0 0) := (blk_cell BK474.out 1).trans rfl; have hfz17_0 := blk_frozen BK474.out 0; have hfz17_1 := blk_frozen BK474.out 1))
             go_roundg k2
             case measure => have := HK1.out; have := HK2.out; omega
             case rel => exact ⟨(x4_2), (wrap64 (x5_2 + (((rd_T47 ((rd_T44 l0 x12_1).f4) x19_2).f1).length : Int))), (wrap64 (x19_2 + 1)), (by first | rfl | (simp; done) | (simp [*]; done)), (by first | rfl | (simp; done) | (simp [*]; done)), (by first | rfl | (simp; done) | (simp [*]; done)), H', ⟨by have := HK1.out; have := HK2.out; omega⟩, ⟨by (with_reducible repeat first|refine zb1 ?_ _|refine zb2 ?_|refine zb3 ?_ _); refine blk_far ?_ NB472_474.out _; (with_reducible repeat first|refine zb1 ?_ _|refine zb2 ?_|refine zb3 ?_ _); refine blk_far ?_ NB472_474.out _; (with_reducible repeat first|refine zb1 ?_ _|refine zb2 ?_|refine zb3 ?_ _); exact BK472.out⟩, ⟨by repeat (first | (with_reducible first | exact HB.out | apply below_alloc | apply pw_below_drewN | apply below_drew1 | refine below_set ?_ GE472.out | refine below_set ?_ GE474.out) | exact HB.out)⟩⟩
            ·rw [if_neg c14] at H
             have c14b0 : (((rd_T47 ((rd_T44 l0 x12_1).f4) x19_2).f0) == 2) = false := beq_eq_false_iff_ne.mpr c14
             have c14b1 : (((rd_T47 ((rd_T44 l0 x12_1).f4) x19_2).f0) != 2) = true := bne_iff_ne.mpr c14
             have H' := Aside0.mk H
             clear H
             have p473 : 0 ≤ (x19_2 : Int) := of_decide_eq_true (by first | (with_reducible assumption) | assumption)
             have q473 : x19_2 < (((rd_T44 l0 x12_1).f4).length : Int) := of_decide_eq_true (by first | (with_reducible assumption) | assumption)
             obtain ⟨ad473, A473_1, c473_1, e473, hx473_0, hx473_1, hl473_1, hi473_1⟩ := at_T47 HR471_4.out x19_2 p473 q473
             cases e473
             replace hx473_0 := (HB.out.cell (World.block_lt_of_cell? w _ hx473_0)).trans hx473_0
             replace hx473_1 := (HB.out.cell (World.block_lt_of_cell? w _ hx473_1)).trans hx473_1
             have HR473_1 := Aside0.mk hi473_1
             have HC473_1 := Aside0.mk hl473_1
             clear hi473_1 hl473_1
             replace p473 := eq_true p473
             replace q473 := eq_true q473
             go_wp2_with (first | ((with_reducible refine gate_dst (N := 9) rfl ?_); refine box_event ?hg (N := 9) ?hd (cs := #[.int .i64 0, .slice none 0 0]) (t := 47) ?hr ?_; (case hd => rfl); (case hg => rfl); (case hr => first | (go_simp; done) | (go_simp; rfl)); intro gb474 hg w18 hbox hb; have n0_ := Aside0.mk (blk_below (g := gb472) (o := .cells #[.int .i64 ((rd_T44 l0 x12_1).f0), .int .i64 ((rd_T44 l0 x12_1).f1), .int .i64 ((rd_T44 l0 x12_1).f2), .int .i64 ((rd_T44 l0 x12_1).f3), .slice (some ad473) ((rd_T44 l0 x12_1).f4).length c471_4] 44 (0, 0)) (by (with_reducible repeat first|refine zb1 ?_ _|refine zb2 ?_|refine zb3 ?_ _); exact BK472.out) hb); have n1_ := Aside0.mk (below_step (by repeat (first | (with_reducible first | exact HB.out | apply below_alloc | apply pw_below_drewN | apply below_drew1 | refine below_set ?_ GE472.out) | exact HB.out)) hb); have n2_ := Aside0.mk (hbox); have n3_ := Aside0.mk ((by rw [hg]; exact (below_size (by repeat (first | (with_reducible first | exact HB.out | apply below_alloc | apply pw_below_drewN | apply below_drew1 | refine below_set ?_ GE472.out) | exact HB.out))) : w.heap.size ≤ gb474)); have n4_ := Aside0.mk ((by rw [hg]; exact (below_size (by repeat (first | (with_reducible first | exact HB.out | apply below_alloc | apply pw_below_drewN | apply below_drew1 | refine below_set ?_ GE472.out) | exact HB.out))) : w.heap.size ≤ gb474)); have n5_ := Aside0.mk ((by rw [hg]; exact Nat.ne_of_lt (blk_lt (g := gb472) (o := .cells #[.int .i64 ((rd_T44 l0 x12_1).f0), .int .i64 ((rd_T44 l0 x12_1).f1), .int .i64 ((rd_T44 l0 x12_1).f2), .int .i64 ((rd_T44 l0 x12_1).f3), .slice (some ad473) ((rd_T44 l0 x12_1).f4).length c471_4] 44 (0, 0)) (by (with_reducible repeat first|refine zb1 ?_ _|refine zb2 ?_|refine zb3 ?_ _); exact BK472.out)) : gb472 ≠ gb474)); have n6_ := Aside0.mk ((by rw [hg]; exact Nat.ne_of_gt (blk_lt (g := gb472) (o := .cells #[.int .i64 ((rd_T44 l0 x12_1).f0), .int .i64 ((rd_T44 l0 x12_1).f1), .int .i64 ((rd_T44 l0 x12_1).f2), .int .i64 ((rd_T44 l0 x12_1).f3), .slice (some ad473) ((rd_T44 l0 x12_1).f4).length c471_4] 44 (0, 0)) (by (with_reducible repeat first|refine zb1 ?_ _|refine zb2 ?_|refine zb3 ?_ _); exact BK472.out)) : gb474 ≠ gb472)); clear BK472; clear HB; have BK472 := n0_; have HB := n1_; have BK474 := n2_; have GW474 := n3_; have GE474 := n4_; have NB472_474 := n5_; have NB474_472 := n6_; clear n0_ n1_ n2_ n3_ n4_ n5_ n6_; clear hb hbox hg; have hnb19 := NB474_472.out; have hnc19 := NB472_474.out; have hcz20_0 : w18.cell? ⟨gb474, 0, none⟩ = some (.int .i64 0) := (blk_cell BK474.out 0).trans rfl; have hcz20_1 : w18.cell? ⟨gb474, 1, none⟩ = some (.slice none 0 0) := (blk_cell BK474.out 1).trans rfl; have hfz20_0 := blk_frozen BK474.out 0; have hfz20_1 := blk_frozen BK474.out 1))
             go_roundg k2
             case measure => have := HK1.out; have := HK2.out; omega
             case rel => exact ⟨(x4_2), (x5_2), (wrap64 (x19_2 + 1)), (by first | rfl | (simp; done) | (simp [*]; done)), (by first | rfl | (simp; done) | (simp [*]; done)), (by first | rfl | (simp; done) | (simp [*]; done)), H', ⟨by have := HK1.out; have := HK2.out; omega⟩, ⟨by (with_reducible repeat first|refine zb1 ?_ _|refine zb2 ?_|refine zb3 ?_ _); refine blk_far ?_ NB472_474.out _; (with_reducible repeat first|refine zb1 ?_ _|refine zb2 ?_|refine zb3 ?_ _); refine blk_far ?_ NB472_474.out _; (with_reducible repeat first|refine zb1 ?_ _|refine zb2 ?_|refine zb3 ?_ _); exact BK472.out⟩, ⟨by repeat (first | (with_reducible first | exact HB.out | apply below_alloc | apply pw_below_drewN | apply below_drew1 | refine below_set ?_ GE472.out | refine below_set ?_ GE474.out) | exact HB.out)⟩⟩
          ·rw [if_neg c9] at H
           exact absurd H (by simp)
         ·rw [if_neg c8] at H
          exact absurd H (by simp)
        ·rw [if_neg c7] at H
         have c7b0 : decide (x19_2 < (((rd_T44 l0 x12_1).f4).length : Int)) = false := decide_eq_false c7
         clear c7
         have H' := Aside0.mk H
         clear H
         go_wp2
         go_roundg k2
         case measure => have := HK1.out; have := HK2.out; omega
         case rel => exact ⟨(x4_2), (x5_2), (wrap64 (x12_1 + 1)), (by first | rfl | (simp; done) | (simp [*]; done)), (by first | rfl | (simp; done) | (simp [*]; done)), (by first | rfl | (simp; done) | (simp [*]; done)), H', ⟨by have := HK1.out; have := HK2.out; omega⟩, ⟨by repeat (first | (with_reducible first | exact HB.out | apply below_alloc | apply pw_below_drewN | apply below_drew1 | refine below_set ?_ GE472.out) | exact HB.out)⟩⟩
     ·rw [if_neg c4] at H
      exact absurd H (by simp)
    ·rw [if_neg c3] at H
     exact absurd H (by simp)
   ·rw [if_neg c2] at H
    have c2b0 : decide (x12_1 < (l0.length : Int)) = false := decide_eq_false c2
    clear c2
    simp only [Option.some.injEq, Prod.mk.injEq] at H
    obtain ⟨rfl, rfl⟩ := H
    go_wp2
    go_ret2
    exact ⟨by first | rfl | (simp [errW_none, errW_some] <;> rfl) | (simp [*, errW_none, errW_some] <;> rfl), by repeat (first | (with_reducible first | exact HB.out | apply below_alloc | apply pw_below_drewN | apply below_drew1) | exact HB.out)⟩

end Go.Proofs.Ytfnbodjmmkjlcaa.H
end
section
namespace Go.Proofs.Ytfnbodjmmkjlcaa.H
open Go.RowKit Go.Proofs.YtfnbodjmmkjlcaaW.PrintWords Go.Proofs.YtfnbodjmmkjlcaaW.PrintLast Go.Proofs.YtfnbodjmmkjlcaaW.PrintMore
attribute [local go_sem] max2_int min2_int max_two min_two max_three min_three max_four min_four   -- for this text's walks alone
set_option linter.unusedVariables false
set_option linter.unusedSimpArgs false

attribute [local go_sem high] eqA64
def jalousielaw11_live.f (k : Nat)  : Option (Bool) := (some (([(⟨0, 0, 0, 1, (([(⟨3, (([(⟨(⟨#[120]⟩ : ByteArray), false⟩ : S66)] : List (S66)))⟩ : S47)] : List (S47)))⟩ : S44)] : List (S44)) : List (S44))).bind fun y481 => ((patch_Apply.f k y481 (([(⟨(⟨#[97]⟩ : ByteArray), false⟩ : S66)] : List (S66)))).bind fun bt487 => ((patch_Size.f k y481).bind fun bt494 => (if bt487.2.2 = 0 then (if (bt487.1.length : Int) = 2 then (if 0 < (bt487.1.length : Int) then (if ((rd_T66 bt487.1 0).f0).toList = ([120] : List UInt8) then (if (bt487.2.1.length : Int) = 1 then (if 0 < (bt487.2.1.length : Int) then (if (((rd_T64 bt487.2.1 0).f0) == 0 && (((rd_T64 bt487.2.1 0).f1) == 1)) = true then (if bt494.1 = 1 then (some (bt494.2 == 0)) else (some false)) else (some false)) else (none)) else (some false)) else (some false)) else (none)) else (some false)) else (some false))))
theorem jalousielaw11_live.mono : ∀ k, LeO (jalousielaw11_live.f k ) (jalousielaw11_live.f (k + 1) ) := by
 intro  k
 unfold jalousielaw11_live.f
 repeat' first
   | (with_reducible exact patch_Apply.mono _ _ _)
   | (with_reducible exact patch_Size.mono _ _)
   | (with_reducible exact LeO.refl _)
   | (with_reducible exact LeO.none _)
   | (with_reducible refine LeO.ite ?_ ?_)
   | (with_reducible refine LeO.bind ?_ (fun _ => ?_))
   | exact patch_Apply.mono _ _ _
   | exact patch_Size.mono _ _
   | exact LeO.none _
   | refine LeO.ite ?_ ?_
   | refine LeO.bind ?_ (fun _ => ?_)
set_option maxHeartbeats 8000000 in
set_option maxRecDepth 100000 in
theorem jalousielaw11_live.calls (k : Nat)  (r : Bool) (w : World) (h : jalousielaw11_live.f k  = some r) (HRT : Aside0 (r = true) := by first | exact ⟨rfl⟩ | assumption) :
  Calls Try.prog 32 #[] w fun e w' => e = .returned (.bool r) ∧ Below w.heap.size w w' := by
 have hu66 := Try.underlying66
 have hu47 := Try.underlying47
 have hu44 := Try.underlying44
 have hu64 := Try.underlying64
 have HB := Aside0.mk (Below.refl w.heap.size w)
 have H : ((some (([(⟨0, 0, 0, 1, (([(⟨3, (([(⟨(⟨#[120]⟩ : ByteArray), false⟩ : S66)] : List (S66)))⟩ : S47)] : List (S47)))⟩ : S44)] : List (S44)) : List (S44))).bind fun y481 => ((patch_Apply.f k y481 (([(⟨(⟨#[97]⟩ : ByteArray), false⟩ : S66)] : List (S66)))).bind fun bt487 => ((patch_Size.f k y481).bind fun bt494 => (if bt487.2.2 = 0 then (if (bt487.1.length : Int) = 2 then (if 0 < (bt487.1.length : Int) then (if ((rd_T66 bt487.1 0).f0).toList = ([120] : List UInt8) then (if (bt487.2.1.length : Int) = 1 then (if 0 < (bt487.2.1.length : Int) then (if (((rd_T64 bt487.2.1 0).f0) == 0 && (((rd_T64 bt487.2.1 0).f1) == 1)) = true then (if bt494.1 = 1 then (some (bt494.2 == 0)) else (some false)) else (some false)) else (none)) else (some false)) else (some false)) else (none)) else (some false)) else (some false))))) = some r := h
 clear h
 obtain ⟨y475, hy475⟩ : ∃ y_ : List (S66), y_ = (([(⟨(⟨#[120]⟩ : ByteArray), false⟩ : S66)] : List (S66))) := ⟨_, rfl⟩
 replace H : ((some (([(⟨0, 0, 0, 1, (([(⟨3, y475⟩ : S47)] : List (S47)))⟩ : S44)] : List (S44)) : List (S44))).bind fun y481 => ((patch_Apply.f k y481 (([(⟨(⟨#[97]⟩ : ByteArray), false⟩ : S66)] : List (S66)))).bind fun bt487 => ((patch_Size.f k y481).bind fun bt494 => (if bt487.2.2 = 0 then (if (bt487.1.length : Int) = 2 then (if 0 < (bt487.1.length : Int) then (if ((rd_T66 bt487.1 0).f0).toList = ([120] : List UInt8) then (if (bt487.2.1.length : Int) = 1 then (if 0 < (bt487.2.1.length : Int) then (if (((rd_T64 bt487.2.1 0).f0) == 0 && (((rd_T64 bt487.2.1 0).f1) == 1)) = true then (if bt494.1 = 1 then (some (bt494.2 == 0)) else (some false)) else (some false)) else (none)) else (some false)) else (some false)) else (none)) else (some false)) else (some false))))) = some r := by first | (rw [hy475]; with_reducible exact H) | (have H2_ := (Option.bind_some _ _).symm.trans H; rw [hy475]; with_reducible exact H2_) | (have H2_ := (Option.bind_some _ _).symm.trans H; with_reducible exact H2_) | with_reducible exact H | (rw [hy475]; exact H) | exact H
 have Ny475 := Aside0.mk hy475
 clear hy475
 obtain ⟨y478, hy478⟩ : ∃ y_ : List (S47), y_ = (([(⟨3, y475⟩ : S47)] : List (S47))) := ⟨_, rfl⟩
 replace H : ((some (([(⟨0, 0, 0, 1, y478⟩ : S44)] : List (S44)) : List (S44))).bind fun y481 => ((patch_Apply.f k y481 (([(⟨(⟨#[97]⟩ : ByteArray), false⟩ : S66)] : List (S66)))).bind fun bt487 => ((patch_Size.f k y481).bind fun bt494 => (if bt487.2.2 = 0 then (if (bt487.1.length : Int) = 2 then (if 0 < (bt487.1.length : Int) then (if ((rd_T66 bt487.1 0).f0).toList = ([120] : List UInt8) then (if (bt487.2.1.length : Int) = 1 then (if 0 < (bt487.2.1.length : Int) then (if (((rd_T64 bt487.2.1 0).f0) == 0 && (((rd_T64 bt487.2.1 0).f1) == 1)) = true then (if bt494.1 = 1 then (some (bt494.2 == 0)) else (some false)) else (some false)) else (none)) else (some false)) else (some false)) else (none)) else (some false)) else (some false))))) = some r := by first | (rw [hy478]; with_reducible exact H) | (have H2_ := (Option.bind_some _ _).symm.trans H; rw [hy478]; with_reducible exact H2_) | (have H2_ := (Option.bind_some _ _).symm.trans H; with_reducible exact H2_) | with_reducible exact H | (rw [hy478]; exact H) | exact H
 have Ny478 := Aside0.mk hy478
 clear hy478
 obtain ⟨y481, hy481⟩ : ∃ y_ : List (S44), y_ = (([(⟨0, 0, 0, 1, y478⟩ : S44)] : List (S44))) := ⟨_, rfl⟩
 replace H : ((patch_Apply.f k y481 (([(⟨(⟨#[97]⟩ : ByteArray), false⟩ : S66)] : List (S66)))).bind fun bt487 => ((patch_Size.f k y481).bind fun bt494 => (if bt487.2.2 = 0 then (if (bt487.1.length : Int) = 2 then (if 0 < (bt487.1.length : Int) then (if ((rd_T66 bt487.1 0).f0).toList = ([120] : List UInt8) then (if (bt487.2.1.length : Int) = 1 then (if 0 < (bt487.2.1.length : Int) then (if (((rd_T64 bt487.2.1 0).f0) == 0 && (((rd_T64 bt487.2.1 0).f1) == 1)) = true then (if bt494.1 = 1 then (some (bt494.2 == 0)) else (some false)) else (some false)) else (none)) else (some false)) else (some false)) else (none)) else (some false)) else (some false)))) = some r := by first | (rw [hy481]; with_reducible exact H) | (have H2_ := (Option.bind_some _ _).symm.trans H; rw [hy481]; with_reducible exact H2_) | (have H2_ := (Option.bind_some _ _).symm.trans H; with_reducible exact H2_) | with_reducible exact H | (rw [hy481]; exact H) | exact H
 have Ny481 := Aside0.mk hy481
 clear hy481
 obtain ⟨y484, hy484⟩ : ∃ y_ : List (S66), y_ = (([(⟨(⟨#[97]⟩ : ByteArray), false⟩ : S66)] : List (S66))) := ⟨_, rfl⟩
 replace H : ((patch_Apply.f k y481 y484).bind fun bt487 => ((patch_Size.f k y481).bind fun bt494 => (if bt487.2.2 = 0 then (if (bt487.1.length : Int) = 2 then (if 0 < (bt487.1.length : Int) then (if ((rd_T66 bt487.1 0).f0).toList = ([120] : List UInt8) then (if (bt487.2.1.length : Int) = 1 then (if 0 < (bt487.2.1.length : Int) then (if (((rd_T64 bt487.2.1 0).f0) == 0 && (((rd_T64 bt487.2.1 0).f1) == 1)) = true then (if bt494.1 = 1 then (some (bt494.2 == 0)) else (some false)) else (some false)) else (none)) else (some false)) else (some false)) else (none)) else (some false)) else (some false)))) = some r := by first | (rw [hy484]; with_reducible exact H) | (have H2_ := (Option.bind_some _ _).symm.trans H; rw [hy484]; with_reducible exact H2_) | (have H2_ := (Option.bind_some _ _).symm.trans H; with_reducible exact H2_) | with_reducible exact H | (rw [hy484]; exact H) | exact H
 have Ny484 := Aside0.mk hy484
 clear hy484
 replace H := Option.bind_eq_some_iff.mp H
 obtain ⟨⟨t487, t488, t489⟩, A10, H⟩ := H
 replace H : ((patch_Size.f k y481).bind fun bt494 => (if t489 = 0 then (if (t487.length : Int) = 2 then (if 0 < (t487.length : Int) then (if ((rd_T66 t487 0).f0).toList = ([120] : List UInt8) then (if (t488.length : Int) = 1 then (if 0 < (t488.length : Int) then (if (((rd_T64 t488 0).f0) == 0 && (((rd_T64 t488 0).f1) == 1)) = true then (if bt494.1 = 1 then (some (bt494.2 == 0)) else (some false)) else (some false)) else (none)) else (some false)) else (some false)) else (none)) else (some false)) else (some false))) = some r := H
 have A1 := Aside0.mk A10
 clear A10
 replace H := Option.bind_eq_some_iff.mp H
 obtain ⟨⟨t494, t495⟩, A20, H⟩ := H
 replace H : (if t489 = 0 then (if (t487.length : Int) = 2 then (if 0 < (t487.length : Int) then (if ((rd_T66 t487 0).f0).toList = ([120] : List UInt8) then (if (t488.length : Int) = 1 then (if 0 < (t488.length : Int) then (if (((rd_T64 t488 0).f0) == 0 && (((rd_T64 t488 0).f1) == 1)) = true then (if t494 = 1 then (some (t495 == 0)) else (some false)) else (some false)) else (none)) else (some false)) else (some false)) else (none)) else (some false)) else (some false)) = some r := H
 have A2 := Aside0.mk A20
 clear A20
 by_cases c3 : t489 = 0
 ·rw [if_pos c3] at H
  have c3b0 : (t489 == 0) = true := beq_iff_eq.mpr c3
  have c3b1 : (t489 != 0) = false := bne_eq_false_iff_eq.mpr c3
  clear c3
  by_cases c4 : (t487.length : Int) = 2
  ·rw [if_pos c4] at H
   have c4b0 : ((t487.length : Int) == 2) = true := beq_iff_eq.mpr c4
   have c4b1 : ((t487.length : Int) != 2) = false := bne_eq_false_iff_eq.mpr c4
   clear c4
   by_cases c5 : 0 < (t487.length : Int)
   ·rw [if_pos c5] at H
    have c5b0 : decide (0 < (t487.length : Int)) = true := decide_eq_true c5
    have c5b1 : decide (0 < t487.length) = true := decide_eq_true (by omega)
    clear c5
    by_cases c6 : ((rd_T66 t487 0).f0).toList = ([120] : List UInt8)
    ·rw [if_pos c6] at H
     have c6b0 : (((rd_T66 t487 0).f0).toList == ([120] : List UInt8)) = true := beq_iff_eq.mpr c6
     have c6b1 : (((rd_T66 t487 0).f0).toList != ([120] : List UInt8)) = false := bne_eq_false_iff_eq.mpr c6
     clear c6
     by_cases c7 : (t488.length : Int) = 1
     ·rw [if_pos c7] at H
      have c7b0 : ((t488.length : Int) == 1) = true := beq_iff_eq.mpr c7
      have c7b1 : ((t488.length : Int) != 1) = false := bne_eq_false_iff_eq.mpr c7
      clear c7
      by_cases c8 : 0 < (t488.length : Int)
      ·rw [if_pos c8] at H
       have c8b0 : decide (0 < (t488.length : Int)) = true := decide_eq_true c8
       have c8b1 : decide (0 < t488.length) = true := decide_eq_true (by omega)
       clear c8
       by_cases c9 : (((rd_T64 t488 0).f0) == 0 && (((rd_T64 t488 0).f1) == 1)) = true
       ·rw [if_pos c9] at H
        have c9b0 : (((rd_T64 t488 0).f0) == 0 && (((rd_T64 t488 0).f1) == 1)) = true := c9
        (try (have c9b1 : decide (((rd_T64 t488 0).f0) = 0 && (((rd_T64 t488 0).f1) == 1)) = true := by simpa using c9))
        (try (have c9b2 : (((rd_T64 t488 0).f0) == 0 && (((rd_T64 t488 0).f1) == 1)) = true := by simpa using c9))
        clear c9
        by_cases c10 : t494 = 1
        ·rw [if_pos c10] at H
         have c10b0 : (t494 == 1) = true := beq_iff_eq.mpr c10
         have c10b1 : (t494 != 1) = false := bne_eq_false_iff_eq.mpr c10
         clear c10
         obtain rfl := Option.some.inj H
         go_enter Try.func32, Try.ntmps32
         go_wp2_with (first | ((with_reducible refine gate_dst (N := 8) rfl ?_); (try (refine gate_guard (by rfl) ?_; dsimp only)); refine Kd.R_lit k66 _ 66 ?hg (N := 8) ?hd (xs := ([(⟨(⟨#[120]⟩ : ByteArray), false⟩ : S66)] : List (S66))) (inner := [.string (⟨#[120]⟩ : ByteArray), .bool false]) (ok := fun _ => True) (okp := fun _ => True) ?hr ?hp (fun _ hk => hk) trivial (Below.refl _ _) (Nat.le_refl _) (by simp) ?_; (case hd => rfl); (case hg => rfl); (case hr => first | (go_simp; done) | (go_simp; rfl)); (case hp => exact (Reps.c2 (show Kd.M k66 _ _ _ (⟨(⟨#[120]⟩ : ByteArray), false⟩ : S66) [.string (⟨#[120]⟩ : ByteArray), .bool false] from (k66_mkM _ _ _ (⟨(⟨#[120]⟩ : ByteArray), false⟩ : S66) )) (Reps.none _ _))); intro v476 w11 ho12 hb hg_ hnew_; clear hg_ hnew_; (first | rw [← Ny475.out] at ho12 | (simp only [Int.reduceToNat] at ho12; rw [← Ny475.out] at ho12)); have n0_ := Aside0.mk (Kd.R_lower ho12 (below_size (by repeat (first | (with_reducible first | exact HB.out | apply below_alloc | apply pw_below_drewN | apply below_drew1) | exact HB.out)))); have n1_ := Aside0.mk (below_step (by repeat (first | (with_reducible first | exact HB.out | apply below_alloc | apply pw_below_drewN | apply below_drew1) | exact HB.out)) hb); clear HB; have HO477 := n0_; have HB := n1_; clear n0_ n1_; clear hb ho12; obtain ⟨Ao13, co13, eo13⟩ := Kd.R_slice HO477.out; subst eo13) | ((with_reducible refine gate_dst (N := 10) rfl ?_); (try (refine gate_guard (by rfl) ?_; dsimp only)); refine Kd.N_lit k47 _ 47 ?hg (N' := 10) ?hd (xs := ([(⟨3, y475⟩ : S47)] : List (S47))) (inner := [.int .i64 3, .slice Ao13 y475.length co13]) (ok := (fun _ => True)) (okp := (fun _ => True)) ?hr ?hp (fun _ hk => hk) ((show ∀ k_, w11.heap.size ≤ k_ → (fun _ => True) k_ from fun k_ hk => trivial) _ (Nat.le_refl _)) (Below.refl _ _) (Nat.le_refl _) (by simp) ?_; (case hd => rfl); (case hg => rfl); (case hr => first | (go_simp; done) | (go_simp; rfl)); (case hp => exact (Reps.c2 (show Kd.FK k47 _ _ (⟨3, y475⟩ : S47) [.int .i64 3, .slice Ao13 y475.length co13] from (k47_mkF _ _ (⟨3, y475⟩ : S47) (Kd.R_reads' (Kd.R_mono (ok' := (fun _ => True)) (HO477.out) (fun k_ hk => trivial))).2.1 (Kd.R_F (Kd.R_mono (ok' := (fun _ => True)) (HO477.out) (fun k_ hk => trivial))))) (Reps.none _ _))); intro v479 w14 ho15 hb hg_ hnew_; clear hg_ hnew_; (first | rw [← Ny478.out] at ho15 | (simp only [Int.reduceToNat] at ho15; rw [← Ny478.out] at ho15)); have n0_ := Aside0.mk (Kd.N_lower ho15 (below_size (by repeat (first | (with_reducible first | exact HB.out | apply below_alloc | apply pw_below_drewN | apply below_drew1) | exact HB.out)))); have n1_ := Aside0.mk (below_step (by repeat (first | (with_reducible first | exact HB.out | apply below_alloc | apply pw_below_drewN | apply below_drew1) | exact HB.out)) hb); clear HB; clear HO477; have HO480 := n0_; have HB := n1_; clear n0_ n1_; clear hb ho15; obtain ⟨Ao16, co16, eo16⟩ := Kd.N_slice HO480.out; subst eo16) | ((with_reducible refine gate_dst (N := 12) rfl ?_); (try (refine gate_guard (by rfl) ?_; dsimp only)); refine Kd.N_lit k44 _ 44 ?hg (N' := 12) ?hd (xs := ([(⟨0, 0, 0, 1, y478⟩ : S44)] : List (S44))) (inner := [.int .i64 0, .int .i64 0, .int .i64 0, .int .i64 1, .slice Ao16 y478.length co16]) (ok := (fun _ => True)) (okp := (fun _ => True)) ?hr ?hp (fun _ hk => hk) ((show ∀ k_, w14.heap.size ≤ k_ → (fun _ => True) k_ from fun k_ hk => trivial) _ (Nat.le_refl _)) (Below.refl _ _) (Nat.le_refl _) (by simp) ?_; (case hd => rfl); (case hg => rfl); (case hr => first | (go_simp; done) | (go_simp; rfl)); (case hp => exact (Reps.c5 (show Kd.FK k44 _ _ (⟨0, 0, 0, 1, y478⟩ : S44) [.int .i64 0, .int .i64 0, .int .i64 0, .int .i64 1, .slice Ao16 y478.length co16] from (k44_mkF _ _ (⟨0, 0, 0, 1, y478⟩ : S44) (Kd.N_reads' (Kd.N_mono (ok' := (fun _ => True)) (HO480.out) (fun k_ hk => trivial))).2.1 (Kd.N_F (Kd.N_mono (ok' := (fun _ => True)) (HO480.out) (fun k_ hk => trivial))))) (Reps.none _ _))); intro v482 w17 ho18 hb hg_ hnew_; clear hg_ hnew_; (first | rw [← Ny481.out] at ho18 | (simp only [Int.reduceToNat] at ho18; rw [← Ny481.out] at ho18)); have n0_ := Aside0.mk (Kd.N_lower ho18 (below_size (by repeat (first | (with_reducible first | exact HB.out | apply below_alloc | apply pw_below_drewN | apply below_drew1) | exact HB.out)))); have n1_ := Aside0.mk (below_step (by repeat (first | (with_reducible first | exact HB.out | apply below_alloc | apply pw_below_drewN | apply below_drew1) | exact HB.out)) hb); clear HB; clear HO480; have HO483 := n0_; have HB := n1_; clear n0_ n1_; clear hb ho18) | ((with_reducible refine gate_dst (N := 16) rfl ?_); (try (refine gate_guard (by rfl) ?_; dsimp only)); refine Kd.R_lit k66 _ 66 ?hg (N := 16) ?hd (xs := ([(⟨(⟨#[97]⟩ : ByteArray), false⟩ : S66)] : List (S66))) (inner := [.string (⟨#[97]⟩ : ByteArray), .bool false]) (ok := fun _ => True) (okp := fun _ => True) ?hr ?hp (fun _ hk => hk) trivial (Below.refl _ _) (Nat.le_refl _) (by simp) ?_; (case hd => rfl); (case hg => rfl); (case hr => first | (go_simp; done) | (go_simp; rfl)); (case hp => exact (Reps.c2 (show Kd.M k66 _ _ _ (⟨(⟨#[97]⟩ : ByteArray), false⟩ : S66) [.string (⟨#[97]⟩ : ByteArray), .bool false] from (k66_mkM _ _ _ (⟨(⟨#[97]⟩ : ByteArray), false⟩ : S66) )) (Reps.none _ _))); intro v485 w19 ho20 hb hg_ hnew_; clear hg_ hnew_; (first | rw [← Ny484.out] at ho20 | (simp only [Int.reduceToNat] at ho20; rw [← Ny484.out] at ho20)); have n0_ := Aside0.mk (Kd.N_elder' (by (with_reducible repeat (first | apply Kd.N_alloc | apply Kd.N_drewN | apply Kd.N_drew)); exact HO483.out) (Kd.R_base ho20) hb); have n1_ := Aside0.mk (Kd.R_lower ho20 (below_size (by repeat (first | (with_reducible first | exact HB.out | apply below_alloc | apply pw_below_drewN | apply below_drew1) | exact HB.out)))); have n2_ := Aside0.mk (below_step (by repeat (first | (with_reducible first | exact HB.out | apply below_alloc | apply pw_below_drewN | apply below_drew1) | exact HB.out)) hb); clear HO483; clear HB; have HO483 := n0_; have HO486 := n1_; have HB := n2_; clear n0_ n1_ n2_; clear hb ho20; obtain ⟨Ao21, co21, eo21⟩ := Kd.N_slice HO483.out; subst eo21; obtain ⟨Ao22, co22, eo22⟩ := Kd.R_slice HO486.out; subst eo22) | ((with_reducible refine gate_callee (f := 28) rfl ?_); refine goesL_ (some 17) rfl rfl Try.func28 (by kernel_rfl) rfl #[.slice Ao21 y481.length co21, .slice Ao22 y484.length co22] rfl (by (try simp only [List.map_toArray, List.map_cons, List.map_nil]); first | done | rfl | (simp only [List.length_drop, List.length_take]; rfl)) ?_; (with_reducible refine (patch_Apply.calls k _ _ y481 _ _ y484 t487 t488 t489 _ ?side1 ?side2 ?side3 ?side4 A1.out).mono ?_); (case side1 => repeat (first | exact (Kd.N_reads' HO483.out).2.2 | (with_reducible refine Kd.C_alloc ?_ _) | (with_reducible refine Kd.C_drewN ?_ _) | (with_reducible refine Kd.C_drew ?_))); (case side2 => exact (Kd.N_reads' HO483.out).2.1); (case side3 => repeat (first | exact (Kd.R_reads' HO486.out).2.2 | (with_reducible refine Kd.C_alloc ?_ _) | (with_reducible refine Kd.C_drewN ?_ _) | (with_reducible refine Kd.C_drew ?_))); (case side4 => exact (Kd.R_reads' HO486.out).2.1); rintro e w23 ⟨v490, v492, rfl, ho0, ho1, hb⟩; refine ⟨_, rfl, ?_⟩; have n0_ := Aside0.mk (Kd.N_mono (Kd.N_told (Kd.N_told (Kd.N_old (by (with_reducible repeat (first | apply Kd.N_alloc | apply Kd.N_drewN | apply Kd.N_drew)); exact HO483.out) hb) (Kd.R_base ho0)) (Kd.R_base ho1)) (fun _ h_ => h_.1)); have n1_ := Aside0.mk (Kd.R_elder' (by (with_reducible repeat first|apply zr1|apply zr2|apply zr3); exact HO486.out) (Kd.R_base ho0) hb); have n2_ := Aside0.mk (Kd.R_lower (Kd.R_new' ho0 (Kd.R_lt (by (with_reducible repeat first|apply zr1|apply zr2|apply zr3); exact HO486.out))) (below_size (by repeat (first | (with_reducible first | exact HB.out | apply below_alloc | apply pw_below_drewN | apply below_drew1) | exact HB.out)))); have n3_ := Aside0.mk (Kd.R_lower ho1 (below_size (by repeat (first | (with_reducible first | exact HB.out | apply below_alloc | apply pw_below_drewN | apply below_drew1) | exact HB.out)))); have n4_ := Aside0.mk (below_step (by repeat (first | (with_reducible first | exact HB.out | apply below_alloc | apply pw_below_drewN | apply below_drew1) | exact HB.out)) hb); clear HO483; clear HO486; clear HB; have HO483 := n0_; have HO486 := n1_; have HO491 := n2_; have HO493 := n3_; have HB := n4_; clear n0_ n1_ n2_ n3_ n4_; (try clear hb); (try clear hb2); (try clear hk); (try clear hi); (try clear ho0); (try clear ho1)) | ((with_reducible refine gate_callee (f := 40) rfl ?_); refine goesL_ (some 23) rfl rfl Try.func40 (by kernel_rfl) rfl #[.slice Ao21 y481.length co21] rfl (by (try simp only [List.map_toArray, List.map_cons, List.map_nil]); first | done | rfl | (simp only [List.length_drop, List.length_take]; rfl)) ?_; (with_reducible refine (patch_Size.calls k _ _ y481 t494 t495 _ ?side1 ?side2 A2.out).mono ?_); (case side1 => repeat (first | exact (Kd.N_reads' HO483.out).2.2 | (with_reducible refine Kd.C_alloc ?_ _) | (with_reducible refine Kd.C_drewN ?_ _) | (with_reducible refine Kd.C_drew ?_))); (case side2 => exact (Kd.N_reads' HO483.out).2.1); rintro e w24 ⟨rfl, hb⟩; refine ⟨_, rfl, ?_⟩; have n0_ := Aside0.mk (Kd.N_below (by (with_reducible repeat (first | apply Kd.N_alloc | apply Kd.N_drewN | apply Kd.N_drew)); exact HO483.out) hb); have n1_ := Aside0.mk (Kd.R_below (by (with_reducible repeat first|apply zr1|apply zr2|apply zr3); exact HO486.out) hb); have n2_ := Aside0.mk (Kd.R_below (by (with_reducible repeat first|apply zr1|apply zr2|apply zr3); exact HO491.out) hb); have n3_ := Aside0.mk (Kd.R_below (by (with_reducible repeat first|apply zr1|apply zr2|apply zr3); exact HO493.out) hb); have n4_ := Aside0.mk (below_step (by repeat (first | (with_reducible first | exact HB.out | apply below_alloc | apply pw_below_drewN | apply below_drew1) | exact HB.out)) hb); clear HO483; clear HO486; clear HO491; clear HO493; clear HB; have HO483 := n0_; have HO486 := n1_; have HO491 := n2_; have HO493 := n3_; have HB := n4_; clear n0_ n1_ n2_ n3_ n4_; (try clear hb); (try clear hb2); (try clear hk); (try clear hi); obtain ⟨Ao25, co25, eo25⟩ := Kd.R_slice HO491.out; subst eo25; have p496 : 0 ≤ (0 : Int) := (by omega); have q496 : 0 < (t487.length : Int) := of_decide_eq_true (by first | (with_reducible assumption) | assumption); obtain ⟨ad496, e496, hx496_0, hx496_1⟩ := at_T66 (Kd.R_reads' HO491.out).2.2 0 p496 q496; cases e496; have qi496 : (0 < t487.length) = True := eq_true (by omega); (try rw [show ((0 : Int)).toNat = 0 from rfl] at hx496_0); (try rw [show 0 * 2 = 0 from rfl] at hx496_0); (try rw [Addr.add_zero'] at hx496_0); (try rw [show ((0 : Int)).toNat = 0 from rfl] at hx496_1); (try rw [show 0 * 2 = 0 from rfl] at hx496_1); (try rw [Addr.add_zero'] at hx496_1); replace p496 := eq_true p496; replace q496 := eq_true q496; obtain ⟨Ao26, co26, eo26⟩ := Kd.R_slice HO493.out; subst eo26; have p497 : 0 ≤ (0 : Int) := (by omega); have q497 : 0 < (t488.length : Int) := of_decide_eq_true (by first | (with_reducible assumption) | assumption); obtain ⟨ad497, e497, hx497_0, hx497_1⟩ := at_T64 (Kd.R_reads' HO493.out).2.2 0 p497 q497; cases e497; have qi497 : (0 < t488.length) = True := eq_true (by omega); (try rw [show ((0 : Int)).toNat = 0 from rfl] at hx497_0); (try rw [show 0 * 2 = 0 from rfl] at hx497_0); (try rw [Addr.add_zero'] at hx497_0); (try rw [show ((0 : Int)).toNat = 0 from rfl] at hx497_1); (try rw [show 0 * 2 = 0 from rfl] at hx497_1); (try rw [Addr.add_zero'] at hx497_1); replace p497 := eq_true p497; replace q497 := eq_true q497))
         go_ret
         exact ⟨by first | rfl | (simp [errW_none, errW_some] <;> rfl) | (simp [*, errW_none, errW_some] <;> rfl), by repeat (first | (with_reducible first | exact HB.out | apply below_alloc | apply pw_below_drewN | apply below_drew1) | exact HB.out)⟩
        ·rw [if_neg c10] at H
         have c10b0 : (t494 == 1) = false := beq_eq_false_iff_ne.mpr c10
         have c10b1 : (t494 != 1) = true := bne_iff_ne.mpr c10
         exact absurd (Option.some.inj (H.trans (congrArg some HRT.out))) (by decide)
       ·rw [if_neg c9] at H
        have c9b0 : (((rd_T64 t488 0).f0) == 0 && (((rd_T64 t488 0).f1) == 1)) = false := by simpa using c9
        (try (have c9b1 : decide (((rd_T64 t488 0).f0) = 0 && (((rd_T64 t488 0).f1) == 1)) = false := by simpa using c9))
        (try (have c9b2 : (((rd_T64 t488 0).f0) == 0 && (((rd_T64 t488 0).f1) == 1)) = false := by simpa using c9))
        (try (have c9b3 : ¬ (((rd_T64 t488 0).f0) = 0 && (((rd_T64 t488 0).f1) == 1)) := by simpa using c9))
        clear c9
        exact absurd (Option.some.inj (H.trans (congrArg some HRT.out))) (by decide)
      ·rw [if_neg c8] at H
       exact absurd H (by simp)
     ·rw [if_neg c7] at H
      have c7b0 : ((t488.length : Int) == 1) = false := beq_eq_false_iff_ne.mpr c7
      have c7b1 : ((t488.length : Int) != 1) = true := bne_iff_ne.mpr c7
      exact absurd (Option.some.inj (H.trans (congrArg some HRT.out))) (by decide)
    ·rw [if_neg c6] at H
     have c6b0 : (((rd_T66 t487 0).f0).toList == ([120] : List UInt8)) = false := beq_eq_false_iff_ne.mpr c6
     have c6b1 : (((rd_T66 t487 0).f0).toList != ([120] : List UInt8)) = true := bne_iff_ne.mpr c6
     exact absurd (Option.some.inj (H.trans (congrArg some HRT.out))) (by decide)
   ·rw [if_neg c5] at H
    exact absurd H (by simp)
  ·rw [if_neg c4] at H
   have c4b0 : ((t487.length : Int) == 2) = false := beq_eq_false_iff_ne.mpr c4
   have c4b1 : ((t487.length : Int) != 2) = true := bne_iff_ne.mpr c4
   exact absurd (Option.some.inj (H.trans (congrArg some HRT.out))) (by decide)
 ·rw [if_neg c3] at H
  have c3b0 : (t489 == 0) = false := beq_eq_false_iff_ne.mpr c3
  have c3b1 : (t489 != 0) = true := bne_iff_ne.mpr c3
  exact absurd (Option.some.inj (H.trans (congrArg some HRT.out))) (by decide)

end Go.Proofs.Ytfnbodjmmkjlcaa.H
end
section
namespace Go.Proofs.Ytfnbodjmmkjlcaa.H
open Go.RowKit Go.Proofs.YtfnbodjmmkjlcaaW.PrintWords Go.Proofs.YtfnbodjmmkjlcaaW.PrintLast Go.Proofs.YtfnbodjmmkjlcaaW.PrintMore
attribute [local go_sem] max2_int min2_int max_two min_two max_three min_three max_four min_four   -- for this text's walks alone
set_option linter.unusedVariables false
set_option linter.unusedSimpArgs false

attribute [local go_sem high] eqA64
def jalousieref06_Same.l0 : Nat → List (S64) → List (S64) → Int → Option (Bool)
 | 0, _, _, _ => none
 | k + 1, x0, x1, x5 => if x5 < (x0.length : Int) then (if 0 ≤ x5 then (if x5 < (x1.length : Int) then (if (!(((rd_T64 x0 x5).f0) == ((rd_T64 x1 x5).f0)) || (!(((rd_T64 x0 x5).f1) == ((rd_T64 x1 x5).f1)))) = true then (some false) else (jalousieref06_Same.l0 k x0 x1 (wrap64 (x5 + 1)))) else (none)) else (none)) else (some true)
def jalousieref06_Same.f (k : Nat) (l0 : List (S64)) (l1 : List (S64)) : Option (Bool) := if (l0.length : Int) = (l1.length : Int) then (jalousieref06_Same.l0 k l0 l1 0) else (some false)
set_option maxHeartbeats 8000000 in
set_option maxRecDepth 100000 in
theorem jalousieref06_Same.calls (k : Nat) (A0 : Option Addr) (c0 : Nat) (l0 : List (S64)) (A1 : Option Addr) (c1 : Nat) (l1 : List (S64)) (r : Bool) (w : World) (hr0 : Kd.C k64 w A0 l0.length l0) (hc0 : l0.length ≤ c0) (hr1 : Kd.C k64 w A1 l1.length l1) (hc1 : l1.length ≤ c1) (h : jalousieref06_Same.f k l0 l1 = some r) :
  Calls Try.prog 34 #[.slice A0 l0.length c0, .slice A1 l1.length c1] w fun e w' => e = .returned (.bool r) ∧ Drawn0 w w' := by
 have hu64 := Try.underlying64
 have HR0 := Aside0.mk hr0
 have HC0 := Aside0.mk hc0
 clear hr0 hc0
 have HR1 := Aside0.mk hr1
 have HC1 := Aside0.mk hc1
 clear hr1 hc1
 have H : (if (l0.length : Int) = (l1.length : Int) then (jalousieref06_Same.l0 k l0 l1 0) else (some false)) = some r := h
 clear h
 by_cases c3 : (l0.length : Int) = (l1.length : Int)
 ·rw [if_pos c3] at H
  have c3b0 : ((l0.length : Int) == (l1.length : Int)) = true := beq_iff_eq.mpr c3
  have c3b1 : ((l0.length : Int) != (l1.length : Int)) = false := bne_eq_false_iff_eq.mpr c3
  have c3b2 : (l0.length == l1.length) = true := by first | simpa using c3 | (simp at c3 ⊢; omega)
  clear c3
  have H' := Aside0.mk H
  clear H
  go_enter Try.func34, Try.ntmps34
  go_wp2
  repeat (go_quiet (fail); try go_wp2)
  go_loopg [5] k (fun kq v5 w' => ∃ (x5_1 : Int), v5 = .int .i64 x5_1 ∧ Aside0 (jalousieref06_Same.l0 kq l0 l1 x5_1 = some r) ∧ Aside0 (kq ≤ k) ∧ Drawn0 w w')
  case atStart => exact ⟨(0), (by first | rfl | (simp; done) | (simp [*]; done)), H', ⟨Nat.le_refl _⟩, by repeat (first | exact Drawn0.refl _ | apply Drawn0.step)⟩
  case round =>
   clear H'
   try clear c1
   try clear p2
   try clear c3
   try clear c3b0
   try clear c3b1
   try clear c3b2
   obtain ⟨x5_1, rfl, HA, HK1, ⟨m1, rfl⟩⟩ := hrel
   cases gk with
   | zero => exact absurd HA.out (by simp [jalousieref06_Same.l0])
   | succ k1 =>
    have H := HA.out
    clear HA
    simp only [jalousieref06_Same.l0] at H
    by_cases c4 : x5_1 < (l0.length : Int)
    ·rw [if_pos c4] at H
     have c4b0 : decide (x5_1 < (l0.length : Int)) = true := decide_eq_true c4
     clear c4
     by_cases c5 : 0 ≤ x5_1
     ·rw [if_pos c5] at H
      have c5b0 : decide (0 ≤ x5_1) = true := decide_eq_true c5
      clear c5
      by_cases c6 : x5_1 < (l1.length : Int)
      ·rw [if_pos c6] at H
       have c6b0 : decide (x5_1 < (l1.length : Int)) = true := decide_eq_true c6
       clear c6
       by_cases c7 : (!(((rd_T64 l0 x5_1).f0) == ((rd_T64 l1 x5_1).f0)) || (!(((rd_T64 l0 x5_1).f1) == ((rd_T64 l1 x5_1).f1)))) = true
       ·rw [if_pos c7] at H
        have c7b0 : (!(((rd_T64 l0 x5_1).f0) == ((rd_T64 l1 x5_1).f0)) || (!(((rd_T64 l0 x5_1).f1) == ((rd_T64 l1 x5_1).f1)))) = true := c7
        clear c7
        obtain rfl := Option.some.inj H
        have p498 : 0 ≤ (x5_1 : Int) := of_decide_eq_true (by first | (with_reducible assumption) | assumption)
        have q498 : x5_1 < (l0.length : Int) := of_decide_eq_true (by first | (with_reducible assumption) | assumption)
        obtain ⟨ad498, e498, hx498_0, hx498_1⟩ := at_T64 HR0.out x5_1 p498 q498
        cases e498
        replace p498 := eq_true p498
        replace q498 := eq_true q498
        have p499 : 0 ≤ (x5_1 : Int) := of_decide_eq_true (by first | (with_reducible assumption) | assumption)
        have q499 : x5_1 < (l1.length : Int) := of_decide_eq_true (by first | (with_reducible assumption) | assumption)
        obtain ⟨ad499, e499, hx499_0, hx499_1⟩ := at_T64 HR1.out x5_1 p499 q499
        cases e499
        replace p499 := eq_true p499
        replace q499 := eq_true q499
        go_wp2
        repeat (go_quiet (fail); try go_wp2)
        go_ret
        exact ⟨by first | rfl | (simp; done) | (simp [*]; done), by repeat (first | exact Drawn0.refl _ | apply Drawn0.step)⟩
       ·rw [if_neg c7] at H
        have c7b0 : (!(((rd_T64 l0 x5_1).f0) == ((rd_T64 l1 x5_1).f0)) || (!(((rd_T64 l0 x5_1).f1) == ((rd_T64 l1 x5_1).f1)))) = false := by simpa using c7
        clear c7
        have H' := Aside0.mk H
        clear H
        have p498 : 0 ≤ (x5_1 : Int) := of_decide_eq_true (by first | (with_reducible assumption) | assumption)
        have q498 : x5_1 < (l0.length : Int) := of_decide_eq_true (by first | (with_reducible assumption) | assumption)
        obtain ⟨ad498, e498, hx498_0, hx498_1⟩ := at_T64 HR0.out x5_1 p498 q498
        cases e498
        replace p498 := eq_true p498
        replace q498 := eq_true q498
        have p499 : 0 ≤ (x5_1 : Int) := of_decide_eq_true (by first | (with_reducible assumption) | assumption)
        have q499 : x5_1 < (l1.length : Int) := of_decide_eq_true (by first | (with_reducible assumption) | assumption)
        obtain ⟨ad499, e499, hx499_0, hx499_1⟩ := at_T64 HR1.out x5_1 p499 q499
        cases e499
        replace p499 := eq_true p499
        replace q499 := eq_true q499
        go_wp2
        repeat (go_quiet (fail); try go_wp2)
        go_roundg k1
        case measure => have := HK1.out; omega
        case rel => exact ⟨(wrap64 (x5_1 + 1)), (by first | rfl | (simp; done) | (simp [*]; done)), H', ⟨by have := HK1.out; omega⟩, by repeat (first | exact Drawn0.refl _ | apply Drawn0.step)⟩
      ·rw [if_neg c6] at H
       exact absurd H (by simp)
     ·rw [if_neg c5] at H
      exact absurd H (by simp)
    ·rw [if_neg c4] at H
     have c4b0 : decide (x5_1 < (l0.length : Int)) = false := decide_eq_false c4
     clear c4
     obtain rfl := Option.some.inj H
     go_wp2
     repeat (go_quiet (fail); try go_wp2)
     go_ret
     exact ⟨by first | rfl | (simp; done) | (simp [*]; done), by repeat (first | exact Drawn0.refl _ | apply Drawn0.step)⟩
 ·rw [if_neg c3] at H
  have c3b0 : ((l0.length : Int) == (l1.length : Int)) = false := beq_eq_false_iff_ne.mpr c3
  have c3b1 : ((l0.length : Int) != (l1.length : Int)) = true := bne_iff_ne.mpr c3
  have c3b2 : (l0.length == l1.length) = false := by first | simpa using c3 | (simp at c3 ⊢; omega)
  obtain rfl := Option.some.inj H
  go_enter Try.func34, Try.ntmps34
  go_wp2
  repeat (go_quiet (fail); try go_wp2)
  go_ret
  exact ⟨by first | rfl | (simp; done) | (simp [*]; done), by repeat (first | exact Drawn0.refl _ | apply Drawn0.step)⟩

end Go.Proofs.Ytfnbodjmmkjlcaa.H
end
section
namespace Go.Proofs.Ytfnbodjmmkjlcaa.H
open Go.RowKit Go.Proofs.YtfnbodjmmkjlcaaW.PrintWords Go.Proofs.YtfnbodjmmkjlcaaW.PrintLast Go.Proofs.YtfnbodjmmkjlcaaW.PrintMore
attribute [local go_sem] max2_int min2_int max_two min_two max_three min_three max_four min_four   -- for this text's walks alone
set_option linter.unusedVariables false
set_option linter.unusedSimpArgs false

def jalousieref05_Ints.l0 : Nat → List Int → List Int → Int → Option (Bool)
 | 0, _, _, _ => none
 | k + 1, x0, x1, x5 => if x5 < (x0.length : Int) then (if 0 ≤ x5 then (if x5 < (x1.length : Int) then (if (rd x0 x5) = (rd x1 x5) then (jalousieref05_Ints.l0 k x0 x1 (wrap64 (x5 + 1))) else (some false)) else (none)) else (none)) else (some true)
def jalousieref05_Ints.f (k : Nat) (l0 : List Int) (l1 : List Int) : Option (Bool) := if (l0.length : Int) = (l1.length : Int) then (jalousieref05_Ints.l0 k l0 l1 0) else (some false)
set_option maxHeartbeats 8000000 in
set_option maxRecDepth 100000 in
theorem jalousieref05_Ints.calls (k : Nat) (A0 : Option Addr) (c0 : Nat) (l0 : List Int) (A1 : Option Addr) (c1 : Nat) (l1 : List Int) (r : Bool) (w : World) (hr0 : Kd.C (Kd.int .i64) w A0 l0.length l0) (hc0 : l0.length ≤ c0) (hr1 : Kd.C (Kd.int .i64) w A1 l1.length l1) (hc1 : l1.length ≤ c1) (h : jalousieref05_Ints.f k l0 l1 = some r) :
  Calls Try.prog 35 #[.slice A0 l0.length c0, .slice A1 l1.length c1] w fun e w' => e = .returned (.bool r) ∧ Drawn0 w w' := by
 have HR0 := Aside0.mk hr0
 have HC0 := Aside0.mk hc0
 clear hr0 hc0
 have HR1 := Aside0.mk hr1
 have HC1 := Aside0.mk hc1
 clear hr1 hc1
 have H : (if (l0.length : Int) = (l1.length : Int) then (jalousieref05_Ints.l0 k l0 l1 0) else (some false)) = some r := h
 clear h
 by_cases c3 : (l0.length : Int) = (l1.length : Int)
 ·rw [if_pos c3] at H
  have c3b0 : ((l0.length : Int) == (l1.length : Int)) = true := beq_iff_eq.mpr c3
  have c3b1 : ((l0.length : Int) != (l1.length : Int)) = false := bne_eq_false_iff_eq.mpr c3
  have c3b2 : (l0.length == l1.length) = true := by first | simpa using c3 | (simp at c3 ⊢; omega)
  clear c3
  have H' := Aside0.mk H
  clear H
  go_enter Try.func35, Try.ntmps35
  go_wp2
  repeat (go_quiet (fail); try go_wp2)
  go_loopg [5] k (fun kq v5 w' => ∃ (x5_1 : Int), v5 = .int .i64 x5_1 ∧ Aside0 (jalousieref05_Ints.l0 kq l0 l1 x5_1 = some r) ∧ Aside0 (kq ≤ k) ∧ Drawn0 w w')
  case atStart => exact ⟨(0), (by first | rfl | (simp; done) | (simp [*]; done)), H', ⟨Nat.le_refl _⟩, by repeat (first | exact Drawn0.refl _ | apply Drawn0.step)⟩
  case round =>
   clear H'
   try clear c1
   try clear p2
   try clear c3
   try clear c3b0
   try clear c3b1
   try clear c3b2
   obtain ⟨x5_1, rfl, HA, HK1, ⟨m1, rfl⟩⟩ := hrel
   cases gk with
   | zero => exact absurd HA.out (by simp [jalousieref05_Ints.l0])
   | succ k1 =>
    have H := HA.out
    clear HA
    simp only [jalousieref05_Ints.l0] at H
    by_cases c4 : x5_1 < (l0.length : Int)
    ·rw [if_pos c4] at H
     have c4b0 : decide (x5_1 < (l0.length : Int)) = true := decide_eq_true c4
     clear c4
     by_cases c5 : 0 ≤ x5_1
     ·rw [if_pos c5] at H
      have c5b0 : decide (0 ≤ x5_1) = true := decide_eq_true c5
      clear c5
      by_cases c6 : x5_1 < (l1.length : Int)
      ·rw [if_pos c6] at H
       have c6b0 : decide (x5_1 < (l1.length : Int)) = true := decide_eq_true c6
       clear c6
       by_cases c7 : (rd l0 x5_1) = (rd l1 x5_1)
       ·rw [if_pos c7] at H
        have c7b0 : ((rd l0 x5_1) == (rd l1 x5_1)) = true := beq_iff_eq.mpr c7
        have c7b1 : ((rd l0 x5_1) != (rd l1 x5_1)) = false := bne_eq_false_iff_eq.mpr c7
        clear c7
        have H' := Aside0.mk H
        clear H
        have p500 : 0 ≤ (x5_1 : Int) := of_decide_eq_true (by first | (with_reducible assumption) | assumption)
        have q500 : x5_1 < (l0.length : Int) := of_decide_eq_true (by first | (with_reducible assumption) | assumption)
        obtain ⟨ad500, e500, hx500_0⟩ := Kd.at_int HR0.out x5_1 p500 q500
        cases e500
        replace p500 := eq_true p500
        replace q500 := eq_true q500
        have p501 : 0 ≤ (x5_1 : Int) := of_decide_eq_true (by first | (with_reducible assumption) | assumption)
        have q501 : x5_1 < (l1.length : Int) := of_decide_eq_true (by first | (with_reducible assumption) | assumption)
        obtain ⟨ad501, e501, hx501_0⟩ := Kd.at_int HR1.out x5_1 p501 q501
        cases e501
        replace p501 := eq_true p501
        replace q501 := eq_true q501
        go_wp2
        repeat (go_quiet (fail); try go_wp2)
        go_roundg k1
        case measure => have := HK1.out; omega
        case rel => exact ⟨(wrap64 (x5_1 + 1)), (by first | rfl | (simp; done) | (simp [*]; done)), H', ⟨by have := HK1.out; omega⟩, by repeat (first | exact Drawn0.refl _ | apply Drawn0.step)⟩
       ·rw [if_neg c7] at H
        have c7b0 : ((rd l0 x5_1) == (rd l1 x5_1)) = false := beq_eq_false_iff_ne.mpr c7
        have c7b1 : ((rd l0 x5_1) != (rd l1 x5_1)) = true := bne_iff_ne.mpr c7
        obtain rfl := Option.some.inj H
        have p500 : 0 ≤ (x5_1 : Int) := of_decide_eq_true (by first | (with_reducible assumption) | assumption)
        have q500 : x5_1 < (l0.length : Int) := of_decide_eq_true (by first | (with_reducible assumption) | assumption)
        obtain ⟨ad500, e500, hx500_0⟩ := Kd.at_int HR0.out x5_1 p500 q500
        cases e500
        replace p500 := eq_true p500
        replace q500 := eq_true q500
        have p501 : 0 ≤ (x5_1 : Int) := of_decide_eq_true (by first | (with_reducible assumption) | assumption)
        have q501 : x5_1 < (l1.length : Int) := of_decide_eq_true (by first | (with_reducible assumption) | assumption)
        obtain ⟨ad501, e501, hx501_0⟩ := Kd.at_int HR1.out x5_1 p501 q501
        cases e501
        replace p501 := eq_true p501
        replace q501 := eq_true q501
        go_wp2
        repeat (go_quiet (fail); try go_wp2)
        go_ret
        exact ⟨by first | rfl | (simp; done) | (simp [*]; done), by repeat (first | exact Drawn0.refl _ | apply Drawn0.step)⟩
      ·rw [if_neg c6] at H
       exact absurd H (by simp)
     ·rw [if_neg c5] at H
      exact absurd H (by simp)
    ·rw [if_neg c4] at H
     have c4b0 : decide (x5_1 < (l0.length : Int)) = false := decide_eq_false c4
     clear c4
     obtain rfl := Option.some.inj H
     go_wp2
     repeat (go_quiet (fail); try go_wp2)
     go_ret
     exact ⟨by first | rfl | (simp; done) | (simp [*]; done), by repeat (first | exact Drawn0.refl _ | apply Drawn0.step)⟩
 ·rw [if_neg c3] at H
  have c3b0 : ((l0.length : Int) == (l1.length : Int)) = false := beq_eq_false_iff_ne.mpr c3
  have c3b1 : ((l0.length : Int) != (l1.length : Int)) = true := bne_iff_ne.mpr c3
  have c3b2 : (l0.length == l1.length) = false := by first | simpa using c3 | (simp at c3 ⊢; omega)
  obtain rfl := Option.some.inj H
  go_enter Try.func35, Try.ntmps35
  go_wp2
  repeat (go_quiet (fail); try go_wp2)
  go_ret
  exact ⟨by first | rfl | (simp; done) | (simp [*]; done), by repeat (first | exact Drawn0.refl _ | apply Drawn0.step)⟩

end Go.Proofs.Ytfnbodjmmkjlcaa.H
end
