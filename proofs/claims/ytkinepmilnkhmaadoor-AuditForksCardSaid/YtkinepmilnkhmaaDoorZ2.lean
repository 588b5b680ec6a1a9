/-
  What the claim needs of the words, of the walks and of the plain proofs, in one row (2).
-/
import Derived.Deep.RegionHeld3
import Derived.WalkLawsBesides
import Derived.WalkSpells
import Derived.RangeFuncNested
import Derived.RangeFuncBound
import Derived.RangeFuncCalls
import Derived.RangeFuncLeaves
import Derived.RangeFuncBox
import Derived.RangeFuncMany
import Derived.Shelf.Abstract
import Derived.OwnWalkIn
import Derived.TacticsInMore
import Derived.LoopNIn
import Derived.LoopIn
import Derived.Shelf.Strings.BuilderK
import Derived.Shelf.Strings.OnBuilder
import Derived.Shelf.Spec.TrailingZeros
import Derived.Test.YtkinepmilnkhmaaDoorProg
import Derived.ArgAppend
import Derived.Maps.Ext
import Derived.Test.YtkinepmilnkhmaaDoorZ0
import Derived.Test.YtkinepmilnkhmaaDoorZ1
section
namespace Go.Proofs.YtkinepmilnkhmaaDoor.A
open Go.RowKit Go.Proofs.YtkinepmilnkhmaaDoorW.PrintWords Go.Proofs.YtkinepmilnkhmaaDoorW.PrintLast Go.Proofs.YtkinepmilnkhmaaDoorW.PrintMore
attribute [local go_sem] max2_int min2_int max_two min_two max_three min_three max_four min_four   -- for this text's walks alone
set_option linter.unusedVariables false
set_option linter.unusedSimpArgs false

open Go.Maps Go.WideElems Go.MapKept
theorem audit_Full.calls (base p m : Nat) (xs : List S40) (a : S25) (q : Int) (ha : lblWf a) (w : World) (h : LogX w base p m xs) :
  Calls Tryd.prog 15 #[.pointer (some ⟨p, 0, none⟩), .agg #[.int .i64 a.f0, .int .u64 a.f1], .int .i64 q] w fun e w' => e = .returned (.bool (decide ((logCnt a xs : Int) ≥ q))) ∧ Below w.heap.size w w' := by
 have hX2 := LogX.below h (((Below.refl w.heap.size w).alloc (Nat.le_refl _) (.cells #[.int .i64 a.f0, .int .u64 a.f1] 25 (0, 0))).drew)
 obtain ⟨v, hb, hlk⟩ := LogX.look hX2 a ha
 have hbox := blk_drew (World.alloc_heap_new w (.cells #[.int .i64 a.f0, .int .u64 a.f1] 25 (0, 0)))
 have H0 := Aside0.mk (And.intro ((blk_cell hb 1).trans rfl) (And.intro ((blk_cell hbox 0).trans rfl) (And.intro ((blk_cell hbox 1).trans rfl) hlk)))
 have HB := Aside0.mk (((Below.refl w.heap.size w).alloc (Nat.le_refl _) (.cells #[.int .i64 a.f0, .int .u64 a.f1] 25 (0, 0))).drew)
 clear hb hbox hlk hX2 h
 go_enter Tryd.func15, Tryd.ntmps15
 go_wp2
 refine start_ (n := 13) (S := fun w' => w'.cell? ⟨p, 1, none⟩ = some (.map (some m)) ∧ w'.cell? ⟨w.heap.size, 0, none⟩ = some (.int .i64 a.f0) ∧ w'.cell? ⟨w.heap.size, 1, none⟩ = some (.int .u64 a.f1) ∧ (Instr.lookup 74 (.map (some m)) (.agg #[.int .i64 a.f0, .int .u64 a.f1]) false).run Tryd.prog w' = .ok (.int .i64 (logCnt a xs : Int)) w') (ds := []) (Sq.bl 13 0) (by kernel_rfl) rfl (by rfl) H0.out (fun hS => ?_)
 refine Sq.pu (v := ?_) (a' := ?_) 0 7 (Sq.bl 13 1) (by kernel_rfl) rfl rfl (fun _ _ _ h => h) (by rfl) ?_ ?_ ?_; rotate_left; (· intro w'; go_simp; with_reducible rfl); rotate_left; (· simp only [Act.put,zp1,zp2,zp3,zp4,zp5]; rfl)
 refine Sq.pu (v := ?_) (a' := ?_) 1 8 (Sq.bl 13 3) (by kernel_rfl) rfl rfl (fun _ _ _ h => h) (by rfl) ?_ ?_ ?_; rotate_left; (· intro w'; go_simp; with_reducible rfl); rotate_left; (· simp only [Act.put,zp1,zp2,zp3,zp4,zp5]; rfl)
 refine Sq.pu (v := ?_) (a' := ?_) 2 9 (Sq.bl 13 7) (by kernel_rfl) rfl rfl (fun _ _ _ h => h) (by rfl) ?_ ?_ ?_; rotate_left; (· intro w'; go_simp; with_reducible rfl); rotate_left; (· simp only [Act.put,zp1,zp2,zp3,zp4,zp5]; rfl)
 refine Sq.pu (v := ?_) (a' := ?_) 3 10 (Sq.bl 13 15) (by kernel_rfl) rfl rfl (fun _ _ _ h => h) (by rfl) ?_ ?_ ?_; rotate_left; (· intro w'; go_simp; with_reducible rfl); rotate_left; (· simp only [Act.put,zp1,zp2,zp3,zp4,zp5]; rfl)
 refine Sq.pu (v := ?_) (a' := ?_) 4 11 (Sq.bl 13 31) (by kernel_rfl) rfl rfl (fun _ _ _ h => h) (by rfl) ?_ ?_ ?_; rotate_left; (· intro w'; go_simp; with_reducible rfl); rotate_left; (· simp only [Act.put,zp1,zp2,zp3,zp4,zp5]; rfl)
 refine Sq.pu (v := ?_) (a' := ?_) 5 12 (Sq.bl 13 63) (by kernel_rfl) rfl rfl (fun _ _ _ h => h) (by rfl) ?_ ?_ ?_; rotate_left; (· intro w'; go_simp; with_reducible rfl); rotate_left; (· simp only [Act.put,zp1,zp2,zp3,zp4,zp5]; rfl)
 refine Sq.pu (v := ?_) (a' := ?_) 9 16 (Sq.bl 13 575) (by kernel_rfl) rfl rfl (fun _ _ _ h => h) (by rfl) ?_ ?_ ?_; rotate_left; (· intro w'; go_simp; with_reducible rfl); rotate_left; (· simp only [Act.put,zp1,zp2,zp3,zp4,zp5]; rfl)
 refine take_ (i := 6) (N := some 13) (v := ?_) (a' := ?_) (Sq.bl 13 639) rfl rfl (by kernel_rfl) (fun _ _ _ h => h) (Or.inl ⟨by rfl, ?_⟩) hS ?_ ?_; rotate_left; (· rintro w' ⟨s0, s1, s2, s3⟩; go_simp; with_reducible rfl); rotate_left; (· simp only [Act.put,zp1,zp2,zp3,zp4,zp5]; rfl)
 refine take_ (i := 7) (N := some 14) (v := ?_) (a' := ?_) (Sq.bl 13 767) rfl rfl (by kernel_rfl) (fun _ _ _ h => h) (Or.inl ⟨by rfl, ?_⟩) hS ?_ ?_; rotate_left; (· rintro w' ⟨s0, s1, s2, s3⟩; go_simp; with_reducible rfl); rotate_left; (· simp only [Act.put,zp1,zp2,zp3,zp4,zp5]; rfl)
 refine take_ (i := 8) (N := some 15) (v := ?_) (a' := ?_) (Sq.bl 13 1023) rfl rfl (by kernel_rfl) (fun _ _ _ h => h) (Or.inl ⟨by rfl, ?_⟩) hS ?_ ?_; rotate_left; (· rintro w' ⟨s0, s1, s2, s3⟩; go_simp; with_reducible rfl); rotate_left; (· simp only [Act.put,zp1,zp2,zp3,zp4,zp5]; rfl)
 refine Sq.pu (v := ?_) (a' := ?_) 10 17 (Sq.bl 13 2047) (by kernel_rfl) rfl rfl (fun _ _ _ h => h) (by rfl) ?_ ?_ ?_; rotate_left; (· intro w'; go_simp; with_reducible rfl); rotate_left; (· simp only [Act.put,zp1,zp2,zp3,zp4,zp5]; rfl)
 refine Sq.pu (v := ?_) (a' := ?_) 11 18 (Sq.bl 13 4095) (by kernel_rfl) rfl rfl (fun _ _ _ h => h) (by rfl) ?_ ?_ ?_; rotate_left; (· intro w'; go_simp; with_reducible rfl); rotate_left; (· simp only [Act.put,zp1,zp2,zp3,zp4,zp5]; rfl)
 refine Sq.pu (v := ?_) (a' := ?_) 12 6 (Sq.bl 13 8191) (by kernel_rfl) rfl rfl (fun _ _ _ h => h) (by rfl) ?_ ?_ ?_; rotate_left; (· intro w'; go_simp; with_reducible rfl); rotate_left; (· simp only [Act.put,zp1,zp2,zp3,zp4,zp5]; rfl)
 refine done_ (by kernel_rfl) ?_
 go_wp2
 go_ret
 exact ⟨rfl, HB.out⟩
theorem audit_Full.calls_nil (a : S25) (q : Int) (w : World) :
  Calls Tryd.prog 15 #[.pointer none, .agg #[.int .i64 a.f0, .int .u64 a.f1], .int .i64 q] w fun e w' => e = .returned (.bool false) ∧ Below w.heap.size w w' := by
 have HB := Aside0.mk (((Below.refl w.heap.size w).alloc (Nat.le_refl _) (.cells #[.int .i64 a.f0, .int .u64 a.f1] 25 (0, 0))).drew)
 go_enter Tryd.func15, Tryd.ntmps15
 go_wp2
 refine start_ (n := 13) (S := fun w' => True) (ds := []) (Sq.bl 13 0) (by kernel_rfl) rfl (by rfl) trivial (fun hS => ?_)
 refine Sq.pu (v := ?_) (a' := ?_) 0 7 (Sq.bl 13 1) (by kernel_rfl) rfl rfl (fun _ _ _ h => h) (by rfl) ?_ ?_ ?_; rotate_left; (· intro w'; go_simp; with_reducible rfl); rotate_left; (· simp only [Act.put,zp1,zp2,zp3,zp4,zp5]; rfl)
 refine Sq.pu (v := ?_) (a' := ?_) 1 8 (Sq.bl 13 3) (by kernel_rfl) rfl rfl (fun _ _ _ h => h) (by rfl) ?_ ?_ ?_; rotate_left; (· intro w'; go_simp; with_reducible rfl); rotate_left; (· simp only [Act.put,zp1,zp2,zp3,zp4,zp5]; rfl)
 refine Sq.pu (v := ?_) (a' := ?_) 2 9 (Sq.bl 13 7) (by kernel_rfl) rfl rfl (fun _ _ _ h => h) (by rfl) ?_ ?_ ?_; rotate_left; (· intro w'; go_simp; with_reducible rfl); rotate_left; (· simp only [Act.put,zp1,zp2,zp3,zp4,zp5]; rfl)
 refine pure_ (i := 3) (N := some 10) (v := undef) (a' := ?_) (Sq.bl 13 15) rfl rfl (by kernel_rfl) (fun _ _ _ h => h) (Or.inr ⟨by rfl, rfl⟩) ?_ ?_
 rotate_left
 ·simp only [Act.put,zp1,zp2,zp3,zp4,zp5]
  rfl
 refine pure_ (i := 4) (N := some 11) (v := undef) (a' := ?_) (Sq.bl 13 31) rfl rfl (by kernel_rfl) (fun _ _ _ h => h) (Or.inr ⟨by rfl, rfl⟩) ?_ ?_
 rotate_left
 ·simp only [Act.put,zp1,zp2,zp3,zp4,zp5]
  rfl
 refine pure_ (i := 5) (N := some 12) (v := undef) (a' := ?_) (Sq.bl 13 63) rfl rfl (by kernel_rfl) (fun _ _ _ h => h) (Or.inr ⟨by rfl, rfl⟩) ?_ ?_
 rotate_left
 ·simp only [Act.put,zp1,zp2,zp3,zp4,zp5]
  rfl
 refine pure_ (i := 6) (N := some 13) (v := undef) (a' := ?_) (Sq.bl 13 127) rfl rfl (by kernel_rfl) (fun _ _ _ h => h) (Or.inr ⟨by rfl, rfl⟩) ?_ ?_
 rotate_left
 ·simp only [Act.put,zp1,zp2,zp3,zp4,zp5]
  rfl
 refine pure_ (i := 7) (N := some 14) (v := undef) (a' := ?_) (Sq.bl 13 255) rfl rfl (by kernel_rfl) (fun _ _ _ h => h) (Or.inr ⟨by rfl, rfl⟩) ?_ ?_
 rotate_left
 ·simp only [Act.put,zp1,zp2,zp3,zp4,zp5]
  rfl
 refine pure_ (i := 8) (N := some 15) (v := undef) (a' := ?_) (Sq.bl 13 511) rfl rfl (by kernel_rfl) (fun _ _ _ h => h) (Or.inr ⟨by rfl, rfl⟩) ?_ ?_
 rotate_left
 ·simp only [Act.put,zp1,zp2,zp3,zp4,zp5]
  rfl
 refine pure_ (i := 9) (N := some 16) (v := undef) (a' := ?_) (Sq.bl 13 1023) rfl rfl (by kernel_rfl) (fun _ _ _ h => h) (Or.inr ⟨by rfl, rfl⟩) ?_ ?_
 rotate_left
 ·simp only [Act.put,zp1,zp2,zp3,zp4,zp5]
  rfl
 refine pure_ (i := 10) (N := some 17) (v := undef) (a' := ?_) (Sq.bl 13 2047) rfl rfl (by kernel_rfl) (fun _ _ _ h => h) (Or.inr ⟨by rfl, rfl⟩) ?_ ?_
 rotate_left
 ·simp only [Act.put,zp1,zp2,zp3,zp4,zp5]
  rfl
 refine Sq.pu (v := ?_) (a' := ?_) 11 18 (Sq.bl 13 4095) (by kernel_rfl) rfl rfl (fun _ _ _ h => h) (by rfl) ?_ ?_ ?_; rotate_left; (· intro w'; go_simp; with_reducible rfl); rotate_left; (· simp only [Act.put,zp1,zp2,zp3,zp4,zp5]; rfl)
 refine Sq.pu (v := ?_) (a' := ?_) 12 6 (Sq.bl 13 8191) (by kernel_rfl) rfl rfl (fun _ _ _ h => h) (by rfl) ?_ ?_ ?_; rotate_left; (· intro w'; go_simp; with_reducible rfl); rotate_left; (· simp only [Act.put,zp1,zp2,zp3,zp4,zp5]; rfl)
 refine done_ (by kernel_rfl) ?_
 go_wp2
 go_ret
 exact ⟨rfl, HB.out⟩


end Go.Proofs.YtkinepmilnkhmaaDoor.A
end
section
namespace Go.Proofs.YtkinepmilnkhmaaDoor.A
open Go.RowKit Go.Proofs.YtkinepmilnkhmaaDoorW.PrintWords Go.Proofs.YtkinepmilnkhmaaDoorW.PrintLast Go.Proofs.YtkinepmilnkhmaaDoorW.PrintMore
attribute [local go_sem] max2_int min2_int max_two min_two max_three min_three max_four min_four   -- for this text's walks alone
set_option linter.unusedVariables false
set_option linter.unusedSimpArgs false

open Go.Maps Go.WideElems Go.MapKept
/-- May whoever reads the second label read the first? -/
def lowB (a o : S25) : Bool := decide (a.f0 ≤ o.f0) && (Go.bits .andNot .u64 a.f1 o.f1 == 0)
theorem low_f (a o : S25) : label_Below.f a.f0 a.f1 o.f0 o.f1 = some (lowB a o) := by
 unfold label_Below.f lowB
 by_cases h : a.f0 ≤ o.f0
 ·rw [if_pos h, decide_eq_true h, Bool.true_and]
 ·rw [if_neg h, decide_eq_false h, Bool.false_and]
def seenL (o : S25) (xs : List S40) : List S40 := xs.filter fun x => lowB x.f1 o
theorem seen_take (o : S25) (xs : List S40) (i : Nat) (h : i < xs.length) (x : S40) (hx : xs[i]? = some x) : seenL o (xs.take (i + 1)) = seenL o (xs.take i) ++ (if lowB x.f1 o = true then [x] else []) := by
 have e : xs[i] = x := by rw [List.getElem?_eq_getElem h] at hx; exact Option.some.inj hx
 unfold seenL
 rw [List.take_succ_eq_append_getElem h, List.filter_append, e]
 congr 1
 cases hl : lowB x.f1 o <;> simp [hl]
set_option maxHeartbeats 8000000 in
set_option maxRecDepth 100000 in
theorem audit_Seen.calls (base p m : Nat) (xs : List S40) (o : S25) (w : World) (h : LogX w base p m xs) (hl : xs.length ≤ 100000) :
  Calls Tryd.prog 17 #[.pointer (some ⟨p, 0, none⟩), .agg #[.int .i64 o.f0, .int .u64 o.f1]] w fun e w' => ∃ v0_ : Value, e = .returned v0_ ∧ Kd.R k40 40 w' w.heap.size (fun _ => True) v0_ (seenL o xs) ∧ Below w.heap.size w w' := by
 obtain ⟨v, D, h1, h2, h3, h4⟩ := h
 obtain ⟨Ax, cx, e⟩ := Kd.R_slice h2
 subst e
 have hrd := Kd.R_reads' h2
 have HC := Aside0.mk hrd.2.2
 have hb2 := blk_alloc h1 (.cells #[.int .i64 o.f0, .int .u64 o.f1] 25 (0, 0))
 have hc0 := (blk_cell hb2 0).trans rfl
 have hbox := World.alloc_heap_new w (.cells #[.int .i64 o.f0, .int .u64 o.f1] 25 (0, 0))
 have HBX := Aside0.mk hbox
 have HB := Aside0.mk ((Below.refl w.heap.size w).alloc (Nat.le_refl _) (.cells #[.int .i64 o.f0, .int .u64 o.f1] 25 (0, 0)))
 clear h1 h2 h3 h4 hb2 hbox hrd
 go_enter Tryd.func17, Tryd.ntmps17
 go_wp2
 clear hc0
 go_loopw [15, 5] (fun vi vo wr => ∃ (i : Nat), i ≤ xs.length ∧ vi = .int .i64 (i : Int) ∧ Kd.R k40 40 wr w.heap.size (fun _ => True) vo (seenL o (xs.take i)) ∧ Below w.heap.size w wr ∧ wr.heap[w.heap.size]? = some (.cells #[.int .i64 o.f0, .int .u64 o.f1] 25 (0, 0))) (fun vi _ _ => xs.length - (intOf vi).toNat)
 case atStart => exact ⟨0, Nat.zero_le _, rfl, Kd.R_nil _ _ _ _ _, HB.out, HBX.out⟩
 case round =>
  obtain ⟨i, hi, rfl, hR, hB, hbx⟩ := hrel
  by_cases hlt : i < xs.length
  ·have hlt2 : ((i : Int) < (xs.length : Int)) = True := eq_true (by omega)
   have hlt3 : decide ((i : Int) < (xs.length : Int)) = true := decide_eq_true (by omega)
   have hi0 : (0 ≤ (i : Int)) = True := eq_true (by omega)
   have HW : Aside0 (wrap64 ((i : Int) + 1) = ((i + 1 : Nat) : Int)) := ⟨by unfold wrap64; omega⟩
   obtain ⟨ad, hA, hx0, hx1, hx2, hx3, hx4, hx5⟩ := at_T40 (Kd.C_below HC.out hB) (i : Int) (by omega) (by omega)
   subst hA
   have hget : xs[i]? = some (rd_T40 xs (i : Int)) := by
    unfold rd_T40
    rw [Int.toNat_natCast, List.getD_eq_getElem?_getD, List.getElem?_eq_getElem hlt]
    rfl
   rw [Int.toNat_natCast] at hx0 hx1 hx2 hx3 hx4 hx5
   have HST := Aside0.mk (seen_take o xs i hlt _ hget)
   clear hget
   generalize rd_T40 xs (i : Int) = x at hx0 hx1 hx2 hx3 hx4 hx5 HST
   have hboxn := World.alloc_heap_new wr (.cells #[.string x.f0, .int .i64 x.f1.f0, .int .u64 x.f1.f1, .string x.f2, .string x.f3, .string x.f4] 40 (0, 0))
   have hbx2 := blk_alloc hbx (.cells #[.string x.f0, .int .i64 x.f1.f0, .int .u64 x.f1.f1, .string x.f2, .string x.f3, .string x.f4] 40 (0, 0))
   have HRn := Aside0.mk (Kd.R_alloc hR (.cells #[.string x.f0, .int .i64 x.f1.f0, .int .u64 x.f1.f1, .string x.f2, .string x.f3, .string x.f4] 40 (0, 0)))
   have HBn := Aside0.mk (hB.alloc hB.size (.cells #[.string x.f0, .int .i64 x.f1.f0, .int .u64 x.f1.f1, .string x.f2, .string x.f3, .string x.f4] 40 (0, 0)))
   have hk0 := (blk_cell hboxn 0).trans rfl
   have hk1 := (blk_cell hboxn 1).trans rfl
   have hk2 := (blk_cell hboxn 2).trans rfl
   have ho0 := (blk_cell hbx2 0).trans rfl
   have ho1 := (blk_cell hbx2 1).trans rfl
   have HBN := Aside0.mk hboxn
   have HBX2 := Aside0.mk hbx2
   clear hR hB hbx hboxn hbx2
   cases hlow : lowB x.f1 o with
   | false =>
    have HF := Aside0.mk ((low_f x.f1 o).trans (congrArg some hlow))
    have HST2 := Aside0.mk (HST.out.trans (by rw [hlow]; simp : _ = seenL o (xs.take i)))
    clear hlow
    go_wp2_with (go_at_call 46; (refine (label_Below.calls _ _ _ _ false _ HF.out).mono ?_); rintro e_ w4 ⟨rfl, hb4⟩; have HX4 := Aside0.mk (blk_below HBX2.out hb4); have HR4 := Aside0.mk (Kd.R_below HRn.out hb4); have HB4 := Aside0.mk (HBn.out.trans (hb4.mono HBn.out.size)); clear hb4)
    go_roundw
    case rel => exact ⟨i + 1, by omega, by first | rfl | exact congrArg _ HW.out, by rw [HST2.out]; exact HR4.out, HB4.out, HX4.out⟩
    case measure => first | (rw [HW.out]; simp only [intOf, Int.toNat_natCast]; omega) | (simp only [intOf, Int.toNat_natCast]; omega)
   | true =>
    have HF := Aside0.mk ((low_f x.f1 o).trans (congrArg some hlow))
    have HST2 := Aside0.mk (HST.out.trans (by rw [hlow]; simp : _ = seenL o (xs.take i) ++ [x]))
    have hsl : (seenL o (xs.take i)).length ≤ 100000 := Nat.le_trans (List.length_filter_le _ _) (by rw [List.length_take]; omega)
    clear hlow
    go_wp2_with (first | (go_at_call 46; (refine (label_Below.calls _ _ _ _ true _ HF.out).mono ?_); rintro e_ w4 ⟨rfl, hb4⟩; have hN4 := blk_below HBN.out hb4; have hk0 := (blk_cell hN4 0).trans rfl; have hk1 := (blk_cell hN4 1).trans rfl; have hk2 := (blk_cell hN4 2).trans rfl; have hk3 := (blk_cell hN4 3).trans rfl; have hk4 := (blk_cell hN4 4).trans rfl; have hk5 := (blk_cell hN4 5).trans rfl; have HX4 := Aside0.mk (blk_below HBX2.out hb4); have HR4 := Aside0.mk (Kd.R_below HRn.out hb4); have HB4 := Aside0.mk (HBn.out.trans (hb4.mono HBn.out.size)); clear hb4 hN4) | ((with_reducible refine gate_builtin (b := .append) (xs := #[.tmp 23, .tmp 25]) rfl ?_); at_builtin; refine Kd.R_append k40 (w0 := w) w.heap.size rfl (.tmp 23) (.tmp 25) 22 40 (.agg #[(.string ⟨#[]⟩), (.int .i64 0), (.int .u64 0), (.string ⟨#[]⟩), (.string ⟨#[]⟩), (.string ⟨#[]⟩)]) 80 rfl Tryd.underlying22 info40 rfl (by decide) (by omega) _ (seenL o (xs.take i)) x [.string x.f0, .int .i64 x.f1.f0, .int .u64 x.f1.f1, .string x.f2, .string x.f3, .string x.f4] (fun _ => True) (fun _ => False) rfl rfl ?aP (fun _ hk => hk.elim) ?aF ?aO ?aB ?aS ?aL ?_; (case aP => exact k40_mkM _ _ _ x); (case aB => exact HB4.out); (case aF => exact (fun _ _ => trivial)); (case aO => exact HR4.out); (case aS => exact HB4.out.size); (case aL => omega); intro v1 w1 ho hbl hgr hat; have HO1 := Aside0.mk ho; have HB1 := Aside0.mk hbl; have HX1 := Aside0.mk (blk_grown HX4.out hgr (Kd.R_ne HR4.out HX4.out (by decide))); clear ho hbl hgr hat))
    go_roundw
    case rel => exact ⟨i + 1, by omega, by first | rfl | exact congrArg _ HW.out, by rw [HST2.out]; exact HO1.out, HB1.out, HX1.out⟩
    case measure => first | (rw [HW.out]; simp only [intOf, Int.toNat_natCast]; omega) | (simp only [intOf, Int.toNat_natCast]; omega)
  ·obtain rfl : i = xs.length := by omega
   have hlt2 : ((xs.length : Int) < (xs.length : Int)) = False := eq_false (by omega)
   have hlt3 : decide ((xs.length : Int) < (xs.length : Int)) = false := decide_eq_false (by omega)
   rw [List.take_length] at hR
   have HR := Aside0.mk hR
   have HB := Aside0.mk hB
   clear hR hB hbx
   go_wp2
   go_ret
   exact ⟨_, rfl, HR.out, HB.out⟩
theorem audit_Seen.calls_nil (o : S25) (w : World) :
  Calls Tryd.prog 17 #[.pointer none, .agg #[.int .i64 o.f0, .int .u64 o.f1]] w fun e w' => e = .returned (.slice none 0 0) ∧ Below w.heap.size w w' := by
 go_enter Tryd.func17, Tryd.ntmps17
 go_wp2
 go_ret
 exact ⟨rfl, (Below.refl w.heap.size w).alloc (Nat.le_refl _) _⟩


end Go.Proofs.YtkinepmilnkhmaaDoor.A
end
section
namespace Go.Proofs
open Go.Shelf
def Tryd.lays169_ren : Go.Shelf.Ren := ⟨fun | 169 => 51 | n => n, fun | 70 => 77 | 9 => 9 | 0 => 0 | 72 => 79 | 37 => 35 | 127 => 108 | 3 => 3 | 5 => 5 | n => n, fun | n => n⟩
theorem Tryd.lays169 : Go.Proofs.Lays.n169 Tryd.prog Tryd.lays169_ren := {
  mixed := by kernel_rfl
  f169 := Tryd.func51.trans (congrArg some (by kernel_rfl))
  t0 := Tryd.underlying0
  a0 := Tryd.isAgg0
  z0 := Tryd.sizeOf0
  v0 := Tryd.zeroValue0
  t3 := Tryd.underlying3
  a3 := Tryd.isAgg3
  z3 := Tryd.sizeOf3
  v3 := Tryd.zeroValue3
  t9 := Tryd.underlying9
  a9 := Tryd.isAgg9
  z9 := Tryd.sizeOf9
  v9 := Tryd.zeroValue9
  t37 := Tryd.underlying35
  a37 := Tryd.isAgg35
  z37 := Tryd.sizeOf35
  v37 := Tryd.zeroValue35
  t70 := Tryd.underlying77
  a70 := Tryd.isAgg77
  z70 := Tryd.sizeOf77
  v70 := Tryd.zeroValue77
  t72 := Tryd.underlying79
  a72 := Tryd.isAgg79
  z72 := Tryd.sizeOf79
  v72 := Tryd.zeroValue79
  t127 := Tryd.underlying108
  a127 := Tryd.isAgg108
  z127 := Tryd.sizeOf108
  v127 := Tryd.zeroValue108 }
theorem Tryd.Builder_Extra_169 : Builder.Extra Tryd.prog Tryd.lays169_ren := {
  sizeBuilder := by kernel_rfl
  liesBuilder := by kernel_rfl
  t5 := Tryd.underlying5
  a5 := Tryd.isAgg5
  z5 := Tryd.sizeOf5
  v5 := Tryd.zeroValue5
  infoByte := by kernel_rfl
  cellsByte := by kernel_rfl
  sizeByte := by kernel_rfl
  neB5 := by decide }
open Go.RowKit in
/-- (*strings.Builder).String: "String returns the accumulated string.": WHATEVER THE BUILDER HOLDS. (LAID: no walk: one application.) -/
theorem Tryd.Builder_String_k (B b : Nat) (l : List UInt8) (w : World) (h : Lib.IsBuilderF 79 5 B b (Lib.byteCells l) w) (hBw : B ≤ w.heap.size) :
    Calls Tryd.prog 51 #[.pointer (some ⟨b, 0, none⟩)] w fun e w' => e = .returned (.string ⟨l.toArray⟩) ∧ (Lib.IsBuilderF 79 5 B b (Lib.byteCells l) w' ∧ Below B w w' ∧ Lib.OthersKept 5 (some b) w w') := Any.Builder_String_any_k Tryd.lays169 Tryd.Builder_Extra_169 B b l w h hBw
def Tryd.lays156_ren : Go.Shelf.Ren := ⟨fun | 156 => 48 | 165 => 70 | 166 => 47 | 169 => 51 | 240 => 69 | 241 => 78 | 276 => 77 | 277 => 81 | n => n, fun | 31 => 87 | 9 => 9 | 3 => 3 | 4 => 4 | 0 => 0 | 20 => 20 | 72 => 79 | 76 => 82 | 70 => 77 | 37 => 35 | 75 => 81 | 127 => 108 | 164 => 113 | 5 => 5 | 80 => 88 | n => n, fun | n => n⟩
theorem Tryd.lays156 : Go.Proofs.Lays.n156 Tryd.prog Tryd.lays156_ren := {
  mixed := by kernel_rfl
  f156 := Tryd.func48.trans (congrArg some (by kernel_rfl))
  f165 := Tryd.func70.trans (congrArg some (by kernel_rfl))
  f166 := Tryd.func47.trans (congrArg some (by kernel_rfl))
  f169 := Tryd.func51.trans (congrArg some (by kernel_rfl))
  f240 := Tryd.func69.trans (congrArg some (by kernel_rfl))
  f241 := Tryd.func78.trans (congrArg some (by kernel_rfl))
  f276 := Tryd.func77.trans (congrArg some (by kernel_rfl))
  f277 := Tryd.func81.trans (congrArg some (by kernel_rfl))
  t0 := Tryd.underlying0
  a0 := Tryd.isAgg0
  z0 := Tryd.sizeOf0
  v0 := Tryd.zeroValue0
  t3 := Tryd.underlying3
  a3 := Tryd.isAgg3
  z3 := Tryd.sizeOf3
  v3 := Tryd.zeroValue3
  t4 := Tryd.underlying4
  a4 := Tryd.isAgg4
  z4 := Tryd.sizeOf4
  v4 := Tryd.zeroValue4
  t9 := Tryd.underlying9
  a9 := Tryd.isAgg9
  z9 := Tryd.sizeOf9
  v9 := Tryd.zeroValue9
  t20 := Tryd.underlying20
  a20 := Tryd.isAgg20
  z20 := Tryd.sizeOf20
  v20 := Tryd.zeroValue20
  t31 := Tryd.underlying87
  a31 := Tryd.isAgg87
  z31 := Tryd.sizeOf87
  v31 := Tryd.zeroValue87
  t37 := Tryd.underlying35
  a37 := Tryd.isAgg35
  z37 := Tryd.sizeOf35
  v37 := Tryd.zeroValue35
  t70 := Tryd.underlying77
  a70 := Tryd.isAgg77
  z70 := Tryd.sizeOf77
  v70 := Tryd.zeroValue77
  t72 := Tryd.underlying79
  a72 := Tryd.isAgg79
  z72 := Tryd.sizeOf79
  v72 := Tryd.zeroValue79
  t75 := Tryd.underlying81
  a75 := Tryd.isAgg81
  z75 := Tryd.sizeOf81
  v75 := Tryd.zeroValue81
  t76 := Tryd.underlying82
  a76 := Tryd.isAgg82
  z76 := Tryd.sizeOf82
  v76 := Tryd.zeroValue82
  t127 := Tryd.underlying108
  a127 := Tryd.isAgg108
  z127 := Tryd.sizeOf108
  v127 := Tryd.zeroValue108
  t164 := Tryd.underlying113
  a164 := Tryd.isAgg113
  z164 := Tryd.sizeOf113
  v164 := Tryd.zeroValue113 }
theorem Tryd.Builder_Extra_156 : Builder.Extra Tryd.prog Tryd.lays156_ren := {
  sizeBuilder := by kernel_rfl
  liesBuilder := by kernel_rfl
  t5 := Tryd.underlying5
  a5 := Tryd.isAgg5
  z5 := Tryd.sizeOf5
  v5 := Tryd.zeroValue5
  infoByte := by kernel_rfl
  cellsByte := by kernel_rfl
  sizeByte := by kernel_rfl
  neB5 := by decide }
open Go.RowKit in
/-- strings.Join: "Join concatenates the elements of its first argument to create a single string. The separator string sep is placed between elements in the resulting string.": HOWEVER MANY ELEMENTS. Below the heap's end the world is as it was. (LAID: no walk: one application.) -/
theorem Tryd.strings_Join (bk o c : Nat) (xs : List ByteArray) (sep : ByteArray) (w : World) (hcells : ∀ (j : Nat) x, xs[j]? = some x → w.cell? ⟨bk, o + j, none⟩ = some (.string x)) (hbk : bk < w.heap.size) (hN : xs.length ≤ 140737488355328) (hcap : xs.length ≤ c) (hlen : (Lib.join (xs.map (·.data.toList)) sep.data.toList).length ≤ 140737488355328) :
    Calls Tryd.prog 48 #[.slice (some ⟨bk, o, none⟩) xs.length c, .string sep] w fun e w' => e = .returned (.string ⟨(Lib.join (xs.map (·.data.toList)) sep.data.toList).toArray⟩) ∧ Below w.heap.size w w' := Any.strings_Join Tryd.lays156 Tryd.Builder_Extra_156 bk o c xs sep w hcells hbk hN hcap hlen
open Go.RowKit in
/-- (*strings.Builder).WriteString: "WriteString appends the contents of s to b's buffer. It returns the length of s and a nil error.": UNDER Go's OWN LIMIT: the new length takes at most 2^47 bytes. (LAID: no walk: one application.) -/
theorem Tryd.Builder_WriteString_k (B b : Nat) (bs : List Value) (s : ByteArray) (w : World) (h : Lib.IsBuilderF 79 5 B b bs w) (hlen : bs.length + s.size ≤ 140737488355328) (hBw : B ≤ w.heap.size) :
    Calls Tryd.prog 47 #[.pointer (some ⟨b, 0, none⟩), .string s] w fun e w' => e = .returned (.tuple #[.int .i64 s.size, .nilIface]) ∧ (Lib.BuilderAtF 79 5 B b (.pointer (some ⟨b, 0, none⟩)) (bs ++ Lib.strCells s) w' ∧ Below B w w' ∧ Lib.OthersKept 5 (some b) w w') := Any.Builder_WriteString_k { Tryd.lays156 with } Tryd.Builder_Extra_156 B b bs s w h hlen hBw
def Tryd.lays7_29_ren : Go.Shelf.Ren := ⟨fun | 29 => 79 | n => n, fun | 22 => 23 | 3 => 3 | 4 => 4 | 25 => 119 | 54 => 118 | 0 => 0 | 5 => 5 | n => n, fun | 1 => 0 | n => n⟩
theorem Tryd.lays7_29 : Go.Proofs.Lays7.n29 Tryd.prog Tryd.lays7_29_ren := {
  mixed := by kernel_rfl
  f29 := Tryd.func79.trans (congrArg some (by kernel_rfl))
  t0 := Tryd.underlying0
  a0 := Tryd.isAgg0
  z0 := Tryd.sizeOf0
  v0 := Tryd.zeroValue0
  i0 := by kernel_rfl
  t3 := Tryd.underlying3
  a3 := Tryd.isAgg3
  z3 := Tryd.sizeOf3
  v3 := Tryd.zeroValue3
  i3 := by kernel_rfl
  t4 := Tryd.underlying4
  a4 := Tryd.isAgg4
  z4 := Tryd.sizeOf4
  v4 := Tryd.zeroValue4
  i4 := by kernel_rfl
  t5 := Tryd.underlying5
  a5 := Tryd.isAgg5
  z5 := Tryd.sizeOf5
  v5 := Tryd.zeroValue5
  i5 := by kernel_rfl
  t22 := Tryd.underlying23
  a22 := Tryd.isAgg23
  z22 := Tryd.sizeOf23
  v22 := Tryd.zeroValue23
  i22 := by kernel_rfl
  t25 := Tryd.underlying119
  a25 := Tryd.isAgg119
  z25 := Tryd.sizeOf119
  v25 := Tryd.zeroValue119
  i25 := by kernel_rfl
  t54 := Tryd.underlying118
  a54 := Tryd.isAgg118
  z54 := Tryd.sizeOf118
  g1 := by kernel_rfl }
open Go.RowKit in
/-- math/bits.TrailingZeros64: how many zero bits stand at the low end. -/
theorem Tryd.bits_TrailingZeros64 (x : Nat) (hx : x < 18446744073709551616) (w : World) (hT : x ≠ 0 → TabAt (Tryd.lays7_29_ren.g 1) Lib.deBruijn64tab w) :
    Calls Tryd.prog 79 #[.int .u64 x] w fun e w' => e = .returned (.int .i64 (Lib.ctz 64 x)) ∧ w' = w := Any7.bits_TrailingZeros64 Tryd.lays7_29 x hx w hT
end Go.Proofs
end
section
namespace Go.Proofs.YtkinepmilnkhmaaDoor.A
open Go.RowKit Go.Proofs.YtkinepmilnkhmaaDoorW.PrintWords Go.Proofs.YtkinepmilnkhmaaDoorW.PrintLast Go.Proofs.YtkinepmilnkhmaaDoorW.PrintMore
attribute [local go_sem] max2_int min2_int max_two min_two max_three min_three max_four min_four   -- for this text's walks alone
set_option linter.unusedVariables false
set_option linter.unusedSimpArgs false

open Go.Shelf
/-- The numbers of the bits that are set, the lowest first. -/
def bitsOf (r : Nat) : List Int := if h : r = 0 then [] else (Lib.ctz 64 r : Int) :: bitsOf (r &&& (r - 1))
termination_by r
decreasing_by exact Nat.lt_of_le_of_lt Nat.and_le_right (by omega)
theorem and_even (a b : Nat) : (2 * a) &&& (2 * b + 1) = 2 * (a &&& b) := by
 have h1 : ((2 * a) &&& (2 * b + 1)) / 2 = a &&& b := by
  rw [Nat.and_div_two]
  congr 1 <;> omega
 have h2 : ((2 * a) &&& (2 * b + 1)) % 2 = 0 := by
  rcases Nat.mod_two_eq_zero_or_one ((2 * a) &&& (2 * b + 1)) with h | h
  ·exact h
  ·rw [Nat.and_mod_two_eq_one] at h
   omega
 omega
theorem and_odd (m : Nat) : (2 * m + 1) &&& (2 * m) = 2 * m := by
 have h1 : ((2 * m + 1) &&& (2 * m)) / 2 = m := by
  rw [Nat.and_div_two, show (2 * m + 1) / 2 = m by omega, show (2 * m) / 2 = m by omega, Nat.and_self]
 have h2 : ((2 * m + 1) &&& (2 * m)) % 2 = 0 := by
  rcases Nat.mod_two_eq_zero_or_one ((2 * m + 1) &&& (2 * m)) with h | h
  ·exact h
  ·rw [Nat.and_mod_two_eq_one] at h
   omega
 omega
/-- The lowest bit that is set falls away. -/
theorem and_pred (m : Nat) : ∀ k : Nat, (2 ^ k * (2 * m + 1)) &&& (2 ^ k * (2 * m + 1) - 1) = 2 ^ k * (2 * m)
 | 0 => by simpa using and_odd m
 | k + 1 => by
  have ih := and_pred m k
  have hp : 0 < 2 ^ k * (2 * m + 1) := Nat.mul_pos (Nat.two_pow_pos k) (by omega)
  have e1 : 2 ^ (k + 1) * (2 * m + 1) = 2 * (2 ^ k * (2 * m + 1)) := by rw [Nat.pow_succ, Nat.mul_comm (2 ^ k) 2, Nat.mul_assoc]
  have e2 : 2 ^ (k + 1) * (2 * m) = 2 * (2 ^ k * (2 * m)) := by rw [Nat.pow_succ, Nat.mul_comm (2 ^ k) 2, Nat.mul_assoc]
  rw [e1, e2, show 2 * (2 ^ k * (2 * m + 1)) - 1 = 2 * (2 ^ k * (2 * m + 1) - 1) + 1 by omega, and_even, ih]
theorem bitsOf_zero : bitsOf 0 = [] := by rw [bitsOf]; simp
theorem bitsOf_succ (r : Nat) (h : r ≠ 0) : bitsOf r = (Lib.ctz 64 r : Int) :: bitsOf (r &&& (r - 1)) := by rw [bitsOf, dif_neg h]
theorem bits_len : ∀ (f g r : Nat), r < 2 ^ 64 → g ≤ 64 → 64 - g ≤ f → (∃ q, r = 2 ^ g * q) → (bitsOf r).length ≤ f
 | f, g, r, hr, hg, hf, hq => by
  by_cases h0 : r = 0
  ·subst h0
   rw [bitsOf_zero]
   exact Nat.zero_le _
  ·obtain ⟨m, hm, hk⟩ := Lib.ctzFrom_spec 64 r (by omega) hr
   have hgk : g ≤ Lib.ctzFrom 64 r := by
    refine Classical.byContradiction fun hlt => ?_
    obtain ⟨q, hq⟩ := hq
    rw [hm] at hq
    have e : 2 ^ g = 2 ^ Lib.ctzFrom 64 r * (2 * 2 ^ (g - Lib.ctzFrom 64 r - 1)) := by
     rw [← Nat.pow_succ', ← Nat.pow_add]
     congr 1
     omega
    rw [e, Nat.mul_assoc] at hq
    have := Nat.eq_of_mul_eq_mul_left (Nat.two_pow_pos _) hq
    rw [Nat.mul_assoc] at this
    omega
   cases f with
   | zero => omega
   | succ f =>
    rw [bitsOf_succ r h0, List.length_cons]
    have hlt : r &&& (r - 1) < r := Nat.lt_of_le_of_lt Nat.and_le_right (by omega)
    refine Nat.succ_le_succ (bits_len f (Lib.ctzFrom 64 r + 1) (r &&& (r - 1)) (by omega) (by omega) (by omega) ⟨m, ?_⟩)
    have e := and_pred m (Lib.ctzFrom 64 r)
    rw [← hm] at e
    rw [e, Nat.pow_succ, Nat.mul_assoc]
theorem bits_le (r : Nat) (h : r < 2 ^ 64) : (bitsOf r).length ≤ 64 := bits_len 64 0 r h (by omega) (by omega) ⟨r, by simp⟩
/-- The table that bits.TrailingZeros64 reads. -/
def TabOk (w : World) : Prop := TabAt (Tryd.lays7_29_ren.g 1) Lib.deBruijn64tab w
theorem TabOk.below {w w' : World} (h : TabOk w) (hb : Below w.heap.size w w') : TabOk w' := fun j hj => pw_cell_below hb (h j hj)
set_option maxHeartbeats 8000000 in
set_option maxRecDepth 100000 in
theorem label_Cats.calls (a : Int) (c : Nat) (hc : c < 18446744073709551616) (w : World) (hT : TabOk w) :
  Calls Tryd.prog 71 #[.agg #[.int .i64 a, .int .u64 (c : Int)]] w fun e w' => ∃ v0_ : Value, e = .returned v0_ ∧ Kd.R (Kd.int .i64) 3 w' w.heap.size (fun _ => True) v0_ (bitsOf c) ∧ Below w.heap.size w w' := by
 have hbox := World.alloc_heap_new w (.cells #[.int .i64 a, .int .u64 (c : Int)] 25 (0, 0))
 have hx0 := (blk_cell hbox 0).trans rfl
 have hx1 := (blk_cell hbox 1).trans rfl
 have HB := Aside0.mk ((Below.refl w.heap.size w).alloc (Nat.le_refl _) (.cells #[.int .i64 a, .int .u64 (c : Int)] 25 (0, 0)))
 have HT := Aside0.mk hT
 clear hbox hT
 go_enter Tryd.func71, Tryd.ntmps71
 go_wp2
 clear hx0 hx1
 go_loopw [4, 3] (fun vr vo wr => ∃ (r : Nat) (acc : List Int), r < 18446744073709551616 ∧ vr = .int .u64 (r : Int) ∧ Kd.R (Kd.int .i64) 3 wr w.heap.size (fun _ => True) vo acc ∧ acc ++ bitsOf r = bitsOf c ∧ Below w.heap.size w wr) (fun vr _ _ => (intOf vr).toNat)
 case atStart => exact ⟨c, [], hc, rfl, Kd.R_nil _ _ _ _ _, rfl, HB.out⟩
 case round =>
  obtain ⟨r, acc, hr, rfl, hR, hacc, hB⟩ := hrel
  have hal : acc.length ≤ 64 := by
   have := bits_le c hc
   rw [← hacc, List.length_append] at this
   omega
  by_cases h0 : r = 0
  ·subst h0
   have hb : (((0 : Nat) : Int) != 0) = false := rfl
   rw [bitsOf_zero, List.append_nil] at hacc
   have HR := Aside0.mk hR
   have HB2 := Aside0.mk hB
   have HA := Aside0.mk hacc
   clear hR hB hacc
   go_wp2
   go_ret
   exact ⟨_, rfl, by rw [← HA.out]; exact HR.out, HB2.out⟩
  ·have hne : (((r : Nat) : Int) != 0) = true := bne_iff_ne.mpr (by omega)
   rw [bitsOf_succ r h0] at hacc
   have hsub : (IntKind.u64.wrap ((r : Int) - 1)) = ((r - 1 : Nat) : Int) := by
    rw [show (r : Int) - 1 = ((r - 1 : Nat) : Int) by omega]
    simp only [IntKind.wrap_u64]
    omega
   have hand : Go.bits .and .u64 (r : Int) ((r - 1 : Nat) : Int) = ((r &&& (r - 1) : Nat) : Int) := bits_and_u64_nat r (r - 1) hr (by omega)
   have hle : r &&& (r - 1) ≤ r - 1 := Nat.and_le_right
   have HR := Aside0.mk hR
   have HB2 := Aside0.mk hB
   have HA := Aside0.mk hacc
   have HT2 := Aside0.mk (TabOk.below HT.out hB)
   clear hR hB hacc
   go_wp2_with (first | (go_at_call 79; (refine (Tryd.bits_TrailingZeros64 r hr _ (fun _ => HT2.out)).mono ?_); rintro e_ w4 ⟨rfl, rfl⟩) | ((with_reducible refine gate_builtin (b := .append) (xs := #[.tmp 13, .tmp 16]) rfl ?_); at_builtin; refine Kd.R_append (Kd.int .i64) (w0 := w) w.heap.size rfl (.tmp 13) (.tmp 16) 94 3 (.int .i64 0) 8 rfl Tryd.underlying94 info3 rfl (by decide) (by omega) _ acc (Lib.ctz 64 r : Int) [.int .i64 (Lib.ctz 64 r : Int)] (fun _ => True) (fun _ => False) rfl rfl ?aP (fun _ hk => hk.elim) ?aF ?aO ?aB ?aS ?aL ?_; (case aP => exact rfl); (case aB => exact HB2.out); (case aF => exact (fun _ _ => trivial)); (case aO => exact HR.out); (case aS => exact HB2.out.size); (case aL => omega); intro v1 w1 ho hbl hgr hat; have HO1 := Aside0.mk ho; have HB1 := Aside0.mk hbl; clear ho hbl hgr hat))
   go_roundw
   case rel => exact ⟨r &&& (r - 1), acc ++ [(Lib.ctz 64 r : Int)], by omega, by first | rfl | (rw [hsub, hand]), HO1.out, by rw [List.append_assoc]; exact HA.out, HB1.out⟩
   case measure => first | (rw [hsub, hand]; simp only [intOf, Int.toNat_natCast]; omega) | (simp only [intOf, Int.toNat_natCast]; omega)


end Go.Proofs.YtkinepmilnkhmaaDoor.A
end
section
namespace Go.Proofs.YtkinepmilnkhmaaDoor.A
open Go.RowKit Go.Proofs.YtkinepmilnkhmaaDoorW.PrintWords Go.Proofs.YtkinepmilnkhmaaDoorW.PrintLast Go.Proofs.YtkinepmilnkhmaaDoorW.PrintMore
attribute [local go_sem] max2_int min2_int max_two min_two max_three min_three max_four min_four   -- for this text's walks alone
set_option linter.unusedVariables false
set_option linter.unusedSimpArgs false

open Go.Shelf
/-- The digits of m ahead of what is there. -/
def text_Decimal.ds : Nat → Nat → List Int → List Int
 | 0, _, acc => acc
 | f + 1, m, acc => if m / 10 = 0 then (48 + ((m % 10 : Nat) : Int)) :: acc else text_Decimal.ds f (m / 10) ((48 + ((m % 10 : Nat) : Int)) :: acc)
def text_Decimal.f (a0 : Int) : Option ByteArray := some (if a0 < 0 ∨ 2147483647 < a0 then ⟨#[63]⟩ else strOfNums (text_Decimal.ds 10 a0.toNat []))
def text_Decimal.cs (d : Nat) (acc : List Int) : Array Value := (List.replicate d (Value.int .u8 0) ++ acc.map (Value.int .u8)).toArray
set_option maxHeartbeats 4000000 in
set_option maxRecDepth 100000 in
theorem text_Decimal.calls (a0 : Int) (r : ByteArray) (w : World) (h : text_Decimal.f a0 = some r) :
  Calls Tryd.prog 49 #[.int .i64 a0] w fun e w' => e = .returned (.string r) ∧ Below w.heap.size w w' := by
 unfold text_Decimal.f at h
 have hr := Option.some.inj h
 clear h
 by_cases h0 : a0 < 0
 ·rw [if_pos (.inl h0)] at hr
  subst hr
  have hb : decide (a0 < 0) = true := decide_eq_true h0
  go_enter Tryd.func49, Tryd.ntmps49
  go_wp2
  go_ret
  exact ⟨rfl, Below.refl _ _⟩
 ·by_cases h1 : 2147483647 < a0
  ·rw [if_pos (.inr h1)] at hr
   subst hr
   have hb : decide (a0 < 0) = false := decide_eq_false h0
   have hc : decide (a0 > 2147483647) = true := decide_eq_true h1
   go_enter Tryd.func49, Tryd.ntmps49
   go_wp2
   go_ret
   exact ⟨rfl, Below.refl _ _⟩
  ·rw [if_neg (by omega)] at hr
   obtain ⟨n, rfl⟩ : ∃ n : Nat, a0 = n := ⟨a0.toNat, by omega⟩
   rw [Int.toNat_natCast] at hr
   have HR := Aside0.mk hr
   clear hr
   have hn : n < 10 ^ 10 := by omega
   have hb : decide ((n : Int) < 0) = false := decide_eq_false h0
   have hc : decide ((n : Int) > 2147483647) = false := decide_eq_false (by omega)
   go_enter Tryd.func49, Tryd.ntmps49
   go_wp2
   go_loopw [0, 4] (fun x i wr => ∃ (m d : Nat) (acc : List Int), x = .int .i64 (m : Int) ∧ i = .int .i64 ((d : Int) + 1) ∧ acc.length = 9 - d ∧ d ≤ 9 ∧ m < 10 ^ (d + 1) ∧ text_Decimal.ds (d + 1) m acc = text_Decimal.ds 10 n [] ∧ wr.heap[w.heap.size]? = some (.cells (text_Decimal.cs (d + 1) acc) 106 (0, 0)) ∧ Below w.heap.size w wr)
    (fun _ i _ => (intOf i).toNat)
   case atStart =>
    exact ⟨n, 9, [], rfl, rfl, rfl, Nat.le_refl _, hn, rfl, World.alloc_heap_new w _, below_alloc (Below.refl _ _) _⟩
   case round =>
    obtain ⟨m, d, acc, rfl, rfl, hal, hd, hm, hds, hB, hbel⟩ := hrel
    have hc0 : wr.cell? ⟨w.heap.size, d, none⟩ = some (.int .u8 0) := by
     rw [blk_cell hB d]
     simp [text_Decimal.cs, List.getElem?_append_left]
    have hf0 := blk_frozen hB d
    have hmd : m ≤ 9999999999 := by
     have : 10 ^ (d + 1) ≤ 10 ^ 10 := Nat.pow_le_pow_right (by omega) (by omega)
     omega
    have hset : (text_Decimal.cs (d + 1) acc).setIfInBounds d (.int .u8 (48 + ((m % 10 : Nat) : Int))) = text_Decimal.cs d ((48 + ((m % 10 : Nat) : Int)) :: acc) := by
     simp [text_Decimal.cs, List.replicate_succ', List.set_append_right]
    have hB2 := blk_put hB d (.int .u8 (48 + ((m % 10 : Nat) : Int))) hset
    have em : (48 : Int) + ((m % 10 : Nat) : Int) = 48 + (m : Int) % 10 := by omega
    by_cases hz : m / 10 = 0
    ·have hq : ((m : Int) / 10 == 0) = true := beq_iff_eq.mpr (by omega)
     have hq2 : (m : Int) / 10 = 0 := by omega
     have hres : strOfNums ((48 + (m : Int) % 10) :: acc) = r := by
      rw [← HR.out, ← hds, ← em]
      simp only [text_Decimal.ds]
      rw [if_pos hz]
     have hsl : ∀ W : World, (Instr.sliceAt 106 (.pointer (some ⟨w.heap.size, 0, none⟩)) (some (.int .i64 (d : Int))) none none).run Tryd.prog W = .ok (.slice (some ⟨w.heap.size, d, none⟩) (10 - d) (10 - d)) W := by
      intro W
      have hal : Tryd.prog.arrayLen 106 = 10 := by kernel_rfl
      have hel : Tryd.prog.elem 106 = 5 := by kernel_rfl
      have hz8 : (sizeOf 5).run Tryd.prog W = .ok 1 W := Tryd.sizeOf5 W
      have h := run_sliceAt_array_l (P := Tryd.prog) W 106 ⟨w.heap.size, 0, none⟩ (by rw [hal, hel]; exact Tryd.underlying106) .i64 (d : Int) (by omega) (by rw [hal]; omega)
      rw [h, hel, hz8, hal, Int.toNat_natCast]
      simp only [Result.andThen, slicedAt, Nat.mul_one, add_plain]
      rw [if_neg (by omega)]
     have hcv : (convert 35 9 (.slice (some ⟨w.heap.size, d, none⟩) (10 - d) (10 - d))).run Tryd.prog (wr.setCell ⟨w.heap.size, d, none⟩ (.int .u8 (48 + (m : Int) % 10))) = .ok (.string r) (wr.setCell ⟨w.heap.size, d, none⟩ (.int .u8 (48 + (m : Int) % 10))) := by
      rw [← hres]
      rw [em] at hB2
      refine string_of_reads Tryd.underlying35 Tryd.underlying5 Tryd.underlying9 ⟨by simp [hal]; omega, by omega, fun _ => ⟨_, rfl, fun j hj => ?_⟩⟩
      rw [show (⟨w.heap.size, d, none⟩ : Addr).add j = ⟨w.heap.size, d + j, none⟩ by unfold Addr.add; split <;> simp_all, blk_cell hB2 (d + j)]
      have hj' : j < ((48 + (m : Int) % 10) :: acc).length := by simp [hal]; omega
      have hm2 : (Value.int .u8 (48 + (m : Int) % 10) :: acc.map (Value.int .u8))[j]? = some (Value.int .u8 (((48 + (m : Int) % 10) :: acc)[j])) := by
       rw [← List.map_cons, List.getElem?_map, List.getElem?_eq_getElem hj']
       rfl
      simp [text_Decimal.cs, List.getElem?_append_right, List.getD_eq_getElem?_getD, List.getElem?_eq_getElem hj', hm2]
     have HS := Aside0.mk hset
     clear hset hds hm hal em hq2 hres
     go_wp2
     go_ret
     exact ⟨rfl, hbel.setCell (Nat.le_refl _) _⟩
    ·have hq : ((m : Int) / 10 == 0) = false := beq_eq_false_iff_ne.mpr (by omega)
     have Hds := Aside0.mk hds
     have Hal := Aside0.mk hal
     have Hm := Aside0.mk hm
     have HB2 := Aside0.mk hB2
     have Hem := Aside0.mk em
     clear hset hds hal hm hB2 em
     go_wp2
     go_roundw
     case rel =>
      have e1 : 1 ≤ d := by
       rcases Nat.eq_zero_or_pos d with h | h
       ·subst h
        have := Hm.out
        omega
       ·exact h
      refine ⟨m / 10, d - 1, (48 + ((m % 10 : Nat) : Int)) :: acc, by simp, ?_, ?_, by omega, ?_, ?_, ?_, hbel.setCell (Nat.le_refl _) _⟩
      ·congr 1
       omega
      ·have := Hal.out
       simp only [List.length_cons]
       omega
      ·rw [show d - 1 + 1 = d by omega]
       have := Hm.out
       rw [Nat.pow_succ] at this
       omega
      ·rw [← Hds.out, show d - 1 + 1 = d by omega]
       show _ = (if m / 10 = 0 then _ else text_Decimal.ds d (m / 10) _)
       rw [if_neg hz]
      ·rw [show d - 1 + 1 = d by omega, ← Hem.out]
       exact HB2.out
     case measure => simp [intOf]


end Go.Proofs.YtkinepmilnkhmaaDoor.A
end
section
namespace Go.Proofs.YtkinepmilnkhmaaDoor.A
open Go.RowKit Go.Proofs.YtkinepmilnkhmaaDoorW.PrintWords Go.Proofs.YtkinepmilnkhmaaDoorW.PrintLast Go.Proofs.YtkinepmilnkhmaaDoorW.PrintMore
attribute [local go_sem] max2_int min2_int max_two min_two max_three min_three max_four min_four   -- for this text's walks alone
set_option linter.unusedVariables false
set_option linter.unusedSimpArgs false

open Go.Shelf
/-- A number's text. -/
def dec (n : Int) : ByteArray := if n < 0 ∨ 2147483647 < n then ⟨#[63]⟩ else strOfNums (text_Decimal.ds 10 n.toNat [])
theorem dec_f (n : Int) : text_Decimal.f n = some (dec n) := rfl
theorem ds_len : ∀ (f m : Nat) (acc : List Int), (text_Decimal.ds f m acc).length ≤ f + acc.length
 | 0, m, acc => by simp [text_Decimal.ds]
 | f + 1, m, acc => by
  unfold text_Decimal.ds
  split
  ·simp
   omega
  ·have := ds_len f (m / 10) ((48 + ((m % 10 : Nat) : Int)) :: acc)
   rw [List.length_cons] at this
   omega
theorem dec_len (n : Int) : (dec n).size ≤ 10 := by
 unfold dec
 split
 ·decide
 ·have := ds_len 10 n.toNat []
  unfold strOfNums
  show ((text_Decimal.ds 10 n.toNat []).map _).toArray.size ≤ 10
  simpa using this
def sgn (first : Bool) : ByteArray := if first = true then ⟨#[58]⟩ else ⟨#[44]⟩
/-- A label's text: the categories behind its level. -/
def catAcc : List Int → ByteArray → Bool → ByteArray
 | [], s, _ => s
 | c :: t, s, first => catAcc t (s ++ (sgn first ++ dec c)) false
def lblText (a : S25) : ByteArray := catAcc (bitsOf a.f1.toNat) (dec a.f0) true
theorem cat_len : ∀ (l : List Int) (s : ByteArray) (f : Bool), (catAcc l s f).size ≤ s.size + 20 * l.length
 | [], s, f => by simp [catAcc]
 | c :: t, s, f => by
  have h1 := cat_len t (s ++ (sgn f ++ dec c)) false
  have h2 := dec_len c
  have h3 : (sgn f).size = 1 := by cases f <;> rfl
  rw [catAcc, List.length_cons]
  simp only [ByteArray.size_append] at h1
  omega
set_option maxHeartbeats 8000000 in
set_option maxRecDepth 100000 in
theorem label_Print.calls (a : S25) (h0 : 0 ≤ a.f1) (h1 : a.f1 < 18446744073709551616) (w : World) (hT : TabOk w) :
  Calls Tryd.prog 50 #[.agg #[.int .i64 a.f0, .int .u64 a.f1]] w fun e w' => e = .returned (.string (lblText a)) ∧ Below w.heap.size w w' := by
 obtain ⟨b, hb⟩ : ∃ b : Nat, a.f1 = (b : Int) := ⟨a.f1.toNat, by omega⟩
 have hlt : lblText a = catAcc (bitsOf b) (dec a.f0) true := by
  unfold lblText
  rw [hb, Int.toNat_natCast]
 have HLT := Aside0.mk hlt
 have hbits := bits_le b (by omega)
 rw [hb]
 have hbox := World.alloc_heap_new w (.cells #[.int .i64 a.f0, .int .u64 (b : Int)] 25 (0, 0))
 have hx0 := (blk_cell hbox 0).trans rfl
 have hx1 := (blk_cell hbox 1).trans rfl
 have HB := Aside0.mk ((Below.refl w.heap.size w).alloc (Nat.le_refl _) (.cells #[.int .i64 a.f0, .int .u64 (b : Int)] 25 (0, 0)))
 have HT := Aside0.mk hT
 have HBX := Aside0.mk hbox
 have HBB : Aside0 (b < 18446744073709551616) := ⟨by omega⟩
 clear hbox hT hlt
 go_enter Tryd.func50, Tryd.ntmps50
 go_wp2_with (first | (go_at_call 49; (refine (text_Decimal.calls a.f0 _ _ (dec_f _)).mono ?_); rintro e_ w4 ⟨rfl, hb4⟩; have hX4 := blk_below HBX.out hb4; have hx0 := (blk_cell hX4 0).trans rfl; have hx1 := (blk_cell hX4 1).trans rfl; have HB4 := Aside0.mk (HB.out.trans (hb4.mono HB.out.size)); clear hb4 hX4) | (go_at_call 71; (refine (label_Cats.calls a.f0 b HBB.out _ (TabOk.below HT.out HB4.out)).mono ?_); rintro e_ w5 ⟨vc, rfl, hR5, hb5⟩; obtain ⟨Ac, cc, ec⟩ := Kd.R_slice hR5; subst ec; have HC5 := Aside0.mk (Kd.R_reads' hR5).2.2; have hcap := (Kd.R_reads' hR5).2.1; have HB5 := Aside0.mk (HB4.out.trans (hb5.mono HB4.out.size)); clear hR5 hb5))
 clear hx0 hx1
 obtain ⟨wl, hwl⟩ : ∃ wl : List Int, wl = bitsOf b := ⟨_, rfl⟩
 rw [← hwl] at HC5 hcap hbits ⊢
 have HWL := Aside0.mk hwl
 clear hwl
 go_loopw [13, 3, 4] (fun vi vo vs wr => ∃ (i : Nat) (s : ByteArray) (f : Bool), i ≤ wl.length ∧ vi = .int .i64 (i : Int) ∧ vo = .string s ∧ vs = .string (sgn f) ∧ catAcc (wl.drop i) s f = lblText a ∧ s.size ≤ 20 + 20 * i ∧ Kd.C (Kd.int .i64) wr Ac wl.length wl ∧ Below w.heap.size w wr) (fun vi _ _ _ => wl.length - (intOf vi).toNat)
 case atStart => exact ⟨0, dec a.f0, true, Nat.zero_le _, rfl, rfl, rfl, by rw [List.drop_zero, HWL.out]; exact HLT.out.symm, by have := dec_len a.f0; omega, HC5.out, HB5.out⟩
 case round =>
  obtain ⟨i, s, f, hi, rfl, rfl, rfl, hcat, hs, hC, hB⟩ := hrel
  by_cases hlt : i < wl.length
  ·have hlt2 : ((i : Int) < (wl.length : Int)) = True := eq_true (by omega)
   have hlt3 : decide ((i : Int) < (wl.length : Int)) = true := decide_eq_true (by omega)
   have hi0 : (0 ≤ (i : Int)) = True := eq_true (by omega)
   have HW : Aside0 (wrap64 ((i : Int) + 1) = ((i + 1 : Nat) : Int)) := ⟨by unfold wrap64; omega⟩
   obtain ⟨ad, hA, hx⟩ := Kd.at_int hC (i : Int) (by omega) (by omega)
   subst hA
   rw [Int.toNat_natCast] at hx
   have hdr : wl.drop i = rd wl (i : Int) :: wl.drop (i + 1) := by
    rw [List.drop_eq_getElem_cons hlt]
    congr 1
    unfold rd
    rw [Int.toNat_natCast, List.getD_eq_getElem?_getD, List.getElem?_eq_getElem hlt]
    rfl
   rw [hdr] at hcat
   generalize rd wl (i : Int) = c at hx hcat
   have hd := dec_len c
   have hsg : (sgn f).size = 1 := by cases f <;> rfl
   have HC6 := Aside0.mk hC
   have HB6 := Aside0.mk hB
   have HCA := Aside0.mk hcat
   clear hC hB hcat hdr
   go_wp2_with (go_at_call 49; (refine (text_Decimal.calls c _ _ (dec_f _)).mono ?_); rintro e_ w7 ⟨rfl, hb7⟩; have HC7 := Aside0.mk (Kd.C_below HC6.out hb7); have HB7 := Aside0.mk (HB6.out.trans (hb7.mono HB6.out.size)); clear hb7)
   go_roundw
   case rel => exact ⟨i + 1, s ++ (sgn f ++ dec c), false, by omega, by first | rfl | exact congrArg _ HW.out, rfl, rfl, HCA.out, by simp only [ByteArray.size_append]; omega, HC7.out, HB7.out⟩
   case measure => first | (rw [HW.out]; simp only [intOf, Int.toNat_natCast]; omega) | (simp only [intOf, Int.toNat_natCast]; omega)
  ·obtain rfl : i = wl.length := by omega
   have hlt2 : ((wl.length : Int) < (wl.length : Int)) = False := eq_false (by omega)
   have hlt3 : decide ((wl.length : Int) < (wl.length : Int)) = false := decide_eq_false (by omega)
   rw [List.drop_length, catAcc] at hcat
   subst hcat
   have HB6 := Aside0.mk hB
   clear hC hB
   go_wp2
   go_ret
   exact ⟨rfl, HB6.out⟩


end Go.Proofs.YtkinepmilnkhmaaDoor.A
end
section
namespace Go.Proofs.YtkinepmilnkhmaaDoor.A
open Go.RowKit Go.Proofs.YtkinepmilnkhmaaDoorW.PrintWords Go.Proofs.YtkinepmilnkhmaaDoorW.PrintLast Go.Proofs.YtkinepmilnkhmaaDoorW.PrintMore
attribute [local go_sem] max2_int min2_int max_two min_two max_three min_three max_four min_four   -- for this text's walks alone
set_option linter.unusedVariables false
set_option linter.unusedSimpArgs false

open Go.Shelf Go.Maps Go.WideElems Go.MapKept
theorem builder_below {T e B b : Nat} {bs : List Value} {W W' : World} (h : Lib.IsBuilderF T e B b bs W) (hb : Below W.heap.size W W') : Lib.IsBuilderF T e B b bs W' := by
 have hg : W.grownBy W' none := ⟨hb.os, hb.tape, hb.output, hb.size, fun i hi _ => hb.block i hi⟩
 have one : ∀ p, Lib.BuilderAtF T e B b p bs W → Lib.BuilderAtF T e B b p bs W' := by
  rintro p ⟨h1, v, h2, h3, h4⟩
  refine ⟨h1, v, (hb.block b (blk_lt h2)).trans h2, h3.kept hg ?_, h4⟩
  cases hv : v.ownBlock with
  | none => exact .inl rfl
  | some k => exact .inr (by simp)
 rcases h with h | h
 ·exact .inl (one _ h)
 ·exact .inr (one _ h)
def lineW (i : Nat) (x : S40) : List ByteArray := [dec ((i + 1 : Nat) : Int), x.f0, lblText x.f1, x.f2, x.f3, x.f4]
def lineB (i : Nat) (x : S40) : List UInt8 := Lib.join ((lineW i x).map (·.data.toList)) [32] ++ [10]
/-- The entries as lines. -/
def printB : List S40 → Nat → List UInt8
 | [], _ => []
 | x :: t, i => lineB i x ++ printB t (i + 1)
def szE (x : S40) : Prop := x.f0.size ≤ 64 ∧ x.f2.size ≤ 64 ∧ x.f3.size ≤ 64 ∧ x.f4.size ≤ 64
theorem lbl_size (a : S25) (h : lblWf a) : (lblText a).size ≤ 1300 := by
 have h1 := cat_len (bitsOf a.f1.toNat) (dec a.f0) true
 have h2 := dec_len a.f0
 have hw := h.2
 simp [Lit.wf, IntKind.min, IntKind.max, IntKind.signed, IntKind.bits] at hw
 have h3 := bits_le a.f1.toNat (by omega)
 unfold lblText
 omega
theorem line_len (i : Nat) (x : S40) (hx : szE x) (hl : lblWf x.f1) : (Lib.join ((lineW i x).map (·.data.toList)) [32]).length ≤ 1700 := by
 have h1 := dec_len ((i + 1 : Nat) : Int)
 have h2 := lbl_size x.f1 hl
 obtain ⟨h3, h4, h5, h6⟩ := hx
 have e : ∀ s : ByteArray, s.data.toList.length = s.size := fun s => data_length s
 simp only [lineW, List.map_cons, List.map_nil, Lib.join_cons, Lib.joinTail, List.flatten_cons, List.flatten_nil, List.length_append, List.length_cons, List.length_nil, e]
 omega
theorem join6 (i : Nat) (x : S40) (g : Nat) (w : World) (hb : w.heap[g]? = some (.cells #[.string (dec ((i + 1 : Nat) : Int)), .string x.f0, .string (lblText x.f1), .string x.f2, .string x.f3, .string x.f4] 9 (0, 0))) (hl : (Lib.join ((lineW i x).map (·.data.toList)) [32]).length ≤ 1700) :
  Calls Tryd.prog 48 #[.slice (some ⟨g, 0, none⟩) 6 6, .string ⟨#[32]⟩] w fun e w' => e = .returned (.string ⟨(Lib.join ((lineW i x).map (·.data.toList)) [32]).toArray⟩) ∧ Below w.heap.size w w' := by
 refine Tryd.strings_Join g 0 6 (lineW i x) ⟨#[32]⟩ w (fun j s hs => ?_) (blk_lt hb) (by show 6 ≤ _; decide) (Nat.le_refl _) (by show (Lib.join ((lineW i x).map (·.data.toList)) [32]).length ≤ _; omega)
 rw [Nat.zero_add]
 match j, hs with
 | 0, hs => cases hs; exact (blk_cell hb 0).trans rfl
 | 1, hs => cases hs; exact (blk_cell hb 1).trans rfl
 | 2, hs => cases hs; exact (blk_cell hb 2).trans rfl
 | 3, hs => cases hs; exact (blk_cell hb 3).trans rfl
 | 4, hs => cases hs; exact (blk_cell hb 4).trans rfl
 | 5, hs => cases hs; exact (blk_cell hb 5).trans rfl
 | j + 6, hs => simp [lineW] at hs
theorem ws_cells (acc : List UInt8) (jn : ByteArray) : Lib.byteCells (acc ++ (jn.data.toList ++ [10])) = Lib.byteCells acc ++ Lib.strCells (jn ++ ⟨#[10]⟩) := by
 unfold Lib.byteCells Lib.strCells
 rw [List.map_append]
 congr 2
theorem ws_size (acc : List UInt8) (jn : ByteArray) (hl : acc.length + jn.size ≤ 1000000000) : (Lib.byteCells acc).length + (jn ++ (⟨#[10]⟩ : ByteArray)).size ≤ 140737488355328 := by
 have e1 : (jn ++ (⟨#[10]⟩ : ByteArray)).size = jn.size + 1 := ByteArray.size_append
 have e2 : (Lib.byteCells acc).length = acc.length := by simp [Lib.byteCells]
 rw [e1, e2]
 omega
theorem write_step (b : Nat) (acc : List UInt8) (jn : ByteArray) (W : World) (h : Lib.IsBuilderF 79 5 b b (Lib.byteCells acc) W) (hl : acc.length + jn.size ≤ 1000000000) (hb : b ≤ W.heap.size) :
  Calls Tryd.prog 47 #[.pointer (some ⟨b, 0, none⟩), .string (jn ++ ⟨#[10]⟩)] W fun e w' => (∃ v, e = .returned v) ∧ Lib.IsBuilderF 79 5 b b (Lib.byteCells (acc ++ (jn.data.toList ++ [10]))) w' ∧ Below b W w' ∧ Lib.OthersKept 5 (some b) W w' := by
 have hsz := ws_size acc jn hl
 have hcl := Tryd.Builder_WriteString_k b b (Lib.byteCells acc) (jn ++ ⟨#[10]⟩) W h hsz hb
 have e2 := ws_cells acc jn
 rw [e2]
 generalize (jn ++ (⟨#[10]⟩ : ByteArray)) = s at hcl hsz
 exact hcl.mono fun e w' hh => ⟨⟨_, hh.1⟩, .inr hh.2.1, hh.2.2.1, hh.2.2.2⟩
set_option maxHeartbeats 4000000 in
set_option maxRecDepth 100000 in
theorem audit_Print.calls (base p m : Nat) (xs : List S40) (o : S25) (w : World) (h : LogX w base p m xs) (hl : xs.length ≤ 1000) (hsz : ∀ x ∈ xs, szE x ∧ lblWf x.f1) (hT : TabOk w) :
  Calls Tryd.prog 19 #[.pointer (some ⟨p, 0, none⟩), .agg #[.int .i64 o.f0, .int .u64 o.f1]] w fun e w' => ∃ (A : Option Addr) (c : Nat), e = .returned (.slice A (printB (seenL o xs) 0).length c) ∧ ReadsInt w' .u8 A (printB (seenL o xs) 0).length (bytesOf ⟨(printB (seenL o xs) 0).toArray⟩) ∧ Below w.heap.size w w' := by
 have kb := fun (s : ByteArray) (W : World) => print_bytes (P := Tryd.prog) 9 35 5 Tryd.underlying9 Tryd.underlying35 Tryd.underlying5 s W
 obtain ⟨W2, hW2⟩ : ∃ W2 : World, W2 = (w.alloc (.cells #[.int .i64 o.f0, .int .u64 o.f1] 25 (0, 0))).alloc (.cells #[.pointer none, .slice none 0 0] 79 (0, 0)) := ⟨_, rfl⟩
 have HB2 : Aside0 (Below w.heap.size w W2) := ⟨by rw [hW2]; exact ((Below.refl w.heap.size w).alloc (Nat.le_refl _) _).alloc (by rw [World.size_alloc]; omega) _⟩
 have hbox := blk_alloc (World.alloc_heap_new w (.cells #[.int .i64 o.f0, .int .u64 o.f1] 25 (0, 0))) (.cells #[.pointer none, .slice none 0 0] 79 (0, 0))
 have ho0 := (blk_cell hbox 0).trans rfl
 have ho1 := (blk_cell hbox 1).trans rfl
 have HBu : Aside0 (Lib.IsBuilderF 79 5 (w.heap.size + 1) (w.heap.size + 1) (Lib.byteCells []) W2) := ⟨by
  have := Lib.fresh_isBuilder 79 5 (w.alloc (.cells #[.int .i64 o.f0, .int .u64 o.f1] 25 (0, 0)))
  rw [World.size_alloc] at this
  rw [hW2]
  exact Lib.IsBuilderF.of this⟩
 have HX2 : Aside0 (LogX W2 base p m xs) := ⟨LogX.below h HB2.out⟩
 have HSZ : Aside0 (∀ x ∈ seenL o xs, szE x ∧ lblWf x.f1) := ⟨fun x hx => hsz x (List.mem_filter.1 hx).1⟩
 have hsl : (seenL o xs).length ≤ 1000 := Nat.le_trans (List.length_filter_le _ _) hl
 obtain ⟨ys, hys⟩ : ∃ ys, ys = seenL o xs := ⟨_, rfl⟩
 rw [← hys] at HSZ hsl ⊢
 have HYS := Aside0.mk hys
 clear hys
 have HT := Aside0.mk hT
 have HW2 := Aside0.mk hW2
 clear hbox hT hW2 h
 go_enter Tryd.func19, Tryd.ntmps19
 go_wp2_with (go_at_call 17; rw [← HW2.out]; (refine (audit_Seen.calls base p m xs o _ HX2.out (by omega)).mono ?_); rintro e_ w4 ⟨vs, rfl, hR4, hb4⟩; rw [← HYS.out] at hR4; obtain ⟨As, cs, es⟩ := Kd.R_slice hR4; subst es; have HR4 := Aside0.mk hR4; have HBu4 := Aside0.mk (builder_below HBu.out hb4); have HB4 := Aside0.mk (HB2.out.trans (hb4.mono HB2.out.size)); have hs4 : w.heap.size + 2 ≤ w4.heap.size := Nat.le_trans (by rw [HW2.out, World.size_alloc, World.size_alloc]; omega) hb4.size; clear hR4 hb4)
 clear ho0 ho1
 go_loopw [12] (fun vi wr => ∃ (i : Nat) (acc : List UInt8), i ≤ ys.length ∧ vi = .int .i64 (i : Int) ∧ acc ++ printB (ys.drop i) i = printB ys 0 ∧ acc.length ≤ 2000 * i ∧ Lib.IsBuilderF 79 5 (w.heap.size + 1) (w.heap.size + 1) (Lib.byteCells acc) wr ∧ Kd.R k40 40 wr W2.heap.size (fun _ => True) (.slice As ys.length cs) ys ∧ Below w.heap.size w wr ∧ w.heap.size + 2 ≤ wr.heap.size) (fun vi _ => ys.length - (intOf vi).toNat)
 case atStart => exact ⟨0, [], Nat.zero_le _, rfl, by simp, by simp, HBu4.out, HR4.out, HB4.out, hs4⟩
 case round =>
  obtain ⟨i, acc, hi, rfl, hacc, hal, hbu, hR, hB, hsz2⟩ := hrel
  by_cases hlt : i < ys.length
  ·have hlt2 : ((i : Int) < (ys.length : Int)) = True := eq_true (by omega)
   have hlt3 : decide ((i : Int) < (ys.length : Int)) = true := decide_eq_true (by omega)
   have hi0 : (0 ≤ (i : Int)) = True := eq_true (by omega)
   have HW : Aside0 (wrap64 ((i : Int) + 1) = ((i + 1 : Nat) : Int)) := ⟨by unfold wrap64; omega⟩
   obtain ⟨ad, hA, hx0, hx1, hx2, hx3, hx4, hx5⟩ := at_T40 (Kd.R_reads' hR).2.2 (i : Int) (by omega) (by omega)
   subst hA
   have hmem : rd_T40 ys (i : Int) ∈ ys := by
    unfold rd_T40
    rw [Int.toNat_natCast, List.getD_eq_getElem?_getD, List.getElem?_eq_getElem hlt]
    exact List.getElem_mem hlt
   have hdr : ys.drop i = rd_T40 ys (i : Int) :: ys.drop (i + 1) := by
    rw [List.drop_eq_getElem_cons hlt]
    congr 1
    unfold rd_T40
    rw [Int.toNat_natCast, List.getD_eq_getElem?_getD, List.getElem?_eq_getElem hlt]
    rfl
   rw [Int.toNat_natCast] at hx0 hx1 hx2 hx3 hx4 hx5
   rw [hdr, printB] at hacc
   have hxs := HSZ.out _ hmem
   clear hdr hmem
   generalize rd_T40 ys (i : Int) = x at hx0 hx1 hx2 hx3 hx4 hx5 hacc hxs
   obtain ⟨Wn, hWn⟩ : ∃ Wn : World, Wn = wr.alloc (.cells #[.string x.f0, .int .i64 x.f1.f0, .int .u64 x.f1.f1, .string x.f2, .string x.f3, .string x.f4] 40 (0, 0)) := ⟨_, rfl⟩
   have hboxn : Wn.heap[wr.heap.size]? = some (.cells #[.string x.f0, .int .i64 x.f1.f0, .int .u64 x.f1.f1, .string x.f2, .string x.f3, .string x.f4] 40 (0, 0)) := by rw [hWn]; exact World.alloc_heap_new wr _
   have hbn : Below wr.heap.size wr Wn := by rw [hWn]; exact (Below.refl _ _).alloc (Nat.le_refl _) _
   have HBN := Aside0.mk hboxn
   have HBUN := Aside0.mk (builder_below hbu hbn)
   have HRN := Aside0.mk (Kd.R_below hR hbn)
   have HBB := Aside0.mk (hB.trans (hbn.mono hB.size))
   have HWN := Aside0.mk hWn
   have HACC := Aside0.mk hacc
   have hWs := hbn.size
   clear hboxn hbn hbu hR hB hWn hacc
   have hNd := blk_drew HBN.out
   have hbd : Below Wn.heap.size Wn Wn.drew := (Below.refl _ _).drew
   have hxw := hxs.2.2
   simp [Lit.wf, IntKind.min, IntKind.max, IntKind.signed, IntKind.bits] at hxw
   have hjl := line_len i x hxs.1 hxs.2
   obtain ⟨jn, hjn⟩ : ∃ jn : ByteArray, jn = ⟨(Lib.join ((lineW i x).map (·.data.toList)) [32]).toArray⟩ := ⟨_, rfl⟩
   have hjs : jn.size ≤ 1700 := by rw [hjn]; exact hjl
   have hcat : (9223372036854775807 < jn.size + 1) = False := eq_false (by omega)
   have HJN := Aside0.mk hjn
   have HXW := Aside0.mk hxw
   have HJL := Aside0.mk hjl
   clear hjn hxw hjl
   go_wp2
   refine start_ (n := 18) (S := fun w' => w'.cell? ⟨wr.heap.size, 0, none⟩ = some (.string x.f0) ∧ w'.cell? ⟨wr.heap.size, 1, none⟩ = some (.int .i64 x.f1.f0) ∧ w'.cell? ⟨wr.heap.size, 2, none⟩ = some (.int .u64 x.f1.f1) ∧ w'.cell? ⟨wr.heap.size, 3, none⟩ = some (.string x.f2) ∧ w'.cell? ⟨wr.heap.size, 4, none⟩ = some (.string x.f3) ∧ w'.cell? ⟨wr.heap.size, 5, none⟩ = some (.string x.f4)) (ds := []) (Sq.bl 18 0) (by kernel_rfl) rfl (by rfl) (by rw [← HWN.out]; exact ⟨(blk_cell hNd 0).trans rfl, (blk_cell hNd 1).trans rfl, (blk_cell hNd 2).trans rfl, (blk_cell hNd 3).trans rfl, (blk_cell hNd 4).trans rfl, (blk_cell hNd 5).trans rfl⟩) (fun hS => ?_)
   rw [← HWN.out] at hS ⊢
   refine Sq.pu (v := ?_) (a' := ?_) 0 17 (Sq.bl 18 1) (by kernel_rfl) rfl rfl (fun _ _ _ h => h) (by rfl) ?_ ?_ ?_; rotate_left; (· intro w'; go_simp; with_reducible rfl); rotate_left; (· simp only [Act.put, List.setIfInBounds_toArray, List.set_cons_zero, List.set_cons_succ, i64_w, i32_w, HW.out]; rfl)
   refine Sq.pu (v := ?_) (a' := ?_) 1 18 (Sq.bl 18 3) (by kernel_rfl) rfl rfl (fun _ _ _ h => h) (by rfl) ?_ ?_ ?_; rotate_left; (· intro w'; go_simp; with_reducible rfl); rotate_left; (· simp only [Act.put, List.setIfInBounds_toArray, List.set_cons_zero, List.set_cons_succ, i64_w, i32_w, HW.out]; rfl)
   refine Sq.pu (v := ?_) (a' := ?_) 3 20 (Sq.bl 18 11) (by kernel_rfl) rfl rfl (fun _ _ _ h => h) (by rfl) ?_ ?_ ?_; rotate_left; (· intro w'; go_simp; with_reducible rfl); rotate_left; (· simp only [Act.put, List.setIfInBounds_toArray, List.set_cons_zero, List.set_cons_succ, i64_w, i32_w, HW.out]; rfl)
   refine Sq.pu (v := ?_) (a' := ?_) 5 22 (Sq.bl 18 43) (by kernel_rfl) rfl rfl (fun _ _ _ h => h) (by rfl) ?_ ?_ ?_; rotate_left; (· intro w'; go_simp; with_reducible rfl); rotate_left; (· simp only [Act.put, List.setIfInBounds_toArray, List.set_cons_zero, List.set_cons_succ, i64_w, i32_w, HW.out]; rfl)
   refine Sq.pu (v := ?_) (a' := ?_) 8 25 (Sq.bl 18 299) (by kernel_rfl) rfl rfl (fun _ _ _ h => h) (by rfl) ?_ ?_ ?_; rotate_left; (· intro w'; go_simp; with_reducible rfl); rotate_left; (· simp only [Act.put, List.setIfInBounds_toArray, List.set_cons_zero, List.set_cons_succ, i64_w, i32_w, HW.out]; rfl)
   refine Sq.pu (v := ?_) (a' := ?_) 10 27 (Sq.bl 18 1323) (by kernel_rfl) rfl rfl (fun _ _ _ h => h) (by rfl) ?_ ?_ ?_; rotate_left; (· intro w'; go_simp; with_reducible rfl); rotate_left; (· simp only [Act.put, List.setIfInBounds_toArray, List.set_cons_zero, List.set_cons_succ, i64_w, i32_w, HW.out]; rfl)
   refine Sq.pu (v := ?_) (a' := ?_) 12 29 (Sq.bl 18 5419) (by kernel_rfl) rfl rfl (fun _ _ _ h => h) (by rfl) ?_ ?_ ?_; rotate_left; (· intro w'; go_simp; with_reducible rfl); rotate_left; (· simp only [Act.put, List.setIfInBounds_toArray, List.set_cons_zero, List.set_cons_succ, i64_w, i32_w, HW.out]; rfl)
   refine take_ (i := 4) (N := some 21) (v := ?_) (a' := ?_) (Sq.bl 18 5435) rfl rfl (by kernel_rfl) (fun _ _ _ h => h) (Or.inl ⟨by rfl, ?_⟩) hS ?_ ?_; rotate_left; (· rintro w' ⟨s0, s1, s2, s3, s4, s5⟩; go_simp; with_reducible rfl); rotate_left; (· simp only [Act.put, List.setIfInBounds_toArray, List.set_cons_zero, List.set_cons_succ, i64_w, i32_w, HW.out]; rfl)
   refine take_ (i := 6) (N := some 23) (v := ?_) (a' := ?_) (Sq.bl 18 5499) rfl rfl (by kernel_rfl) (fun _ _ _ h => h) (Or.inl ⟨by rfl, ?_⟩) hS ?_ ?_; rotate_left; (· rintro w' ⟨s0, s1, s2, s3, s4, s5⟩; go_simp; with_reducible rfl); rotate_left; (· simp only [Act.put, List.setIfInBounds_toArray, List.set_cons_zero, List.set_cons_succ, i64_w, i32_w, HW.out]; rfl)
   refine take_ (i := 9) (N := some 26) (v := ?_) (a' := ?_) (Sq.bl 18 6011) rfl rfl (by kernel_rfl) (fun _ _ _ h => h) (Or.inl ⟨by rfl, ?_⟩) hS ?_ ?_; rotate_left; (· rintro w' ⟨s0, s1, s2, s3, s4, s5⟩; go_simp; with_reducible rfl); rotate_left; (· simp only [Act.put, List.setIfInBounds_toArray, List.set_cons_zero, List.set_cons_succ, i64_w, i32_w, HW.out]; rfl)
   refine take_ (i := 11) (N := some 28) (v := ?_) (a' := ?_) (Sq.bl 18 8059) rfl rfl (by kernel_rfl) (fun _ _ _ h => h) (Or.inl ⟨by rfl, ?_⟩) hS ?_ ?_; rotate_left; (· rintro w' ⟨s0, s1, s2, s3, s4, s5⟩; go_simp; with_reducible rfl); rotate_left; (· simp only [Act.put, List.setIfInBounds_toArray, List.set_cons_zero, List.set_cons_succ, i64_w, i32_w, HW.out]; rfl)
   refine take_ (i := 13) (N := some 30) (v := ?_) (a' := ?_) (Sq.bl 18 16251) rfl rfl (by kernel_rfl) (fun _ _ _ h => h) (Or.inl ⟨by rfl, ?_⟩) hS ?_ ?_; rotate_left; (· rintro w' ⟨s0, s1, s2, s3, s4, s5⟩; go_simp; with_reducible rfl); rotate_left; (· simp only [Act.put, List.setIfInBounds_toArray, List.set_cons_zero, List.set_cons_succ, i64_w, i32_w, HW.out]; rfl)
   refine one_ (i := 2) (N := some 19) (Sq.bl 18 16255) rfl rfl (by kernel_rfl) (by decide) (fun K hK => ?_)
   refine goes_ Tryd.func49 (by kernel_rfl) rfl #[.int .i64 ((i + 1 : Nat) : Int)] (by rfl) rfl rfl (by (try simp only [List.map_toArray, List.map_cons, List.map_nil]); first | done | rfl | skip) ?_
   refine (text_Decimal.calls _ _ _ (dec_f _)).mono ?_
   rintro e_ w5 ⟨rfl, hb5⟩
   have hN5 := blk_below hNd hb5
   have hb5' : Below Wn.heap.size Wn w5 := hbd.trans hb5
   refine ⟨_, rfl, hK.out _ _ ⟨(blk_cell hN5 0).trans rfl, (blk_cell hN5 1).trans rfl, (blk_cell hN5 2).trans rfl, (blk_cell hN5 3).trans rfl, (blk_cell hN5 4).trans rfl, (blk_cell hN5 5).trans rfl⟩ (fun hS => ?_)⟩
   clear hK K
   refine norm_ (a' := ?_) ?_ ?_
   rotate_left
   ·show Act.put _ (some 19) _ = _
    simp only [Act.put, List.setIfInBounds_toArray, List.set_cons_zero, List.set_cons_succ, i64_w, i32_w, HW.out]
    rfl
   refine one_ (i := 7) (N := some 24) (Sq.bl 18 16383) rfl rfl (by kernel_rfl) (by decide) (fun K hK => ?_)
   refine goes_ Tryd.func50 (by kernel_rfl) rfl #[.agg #[.int .i64 x.f1.f0, .int .u64 x.f1.f1]] (by rfl) rfl rfl (by (try simp only [List.map_toArray, List.map_cons, List.map_nil]); first | done | rfl | skip) ?_
   refine (label_Print.calls x.f1 HXW.out.1 (by have := HXW.out.2; omega) _ (TabOk.below HT.out (HBB.out.trans (hb5'.mono HBB.out.size)))).mono ?_
   rintro e_ w6 ⟨rfl, hb6⟩
   have hN6 := blk_below hN5 hb6
   have hb6' : Below Wn.heap.size Wn w6 := hb5'.trans (hb6.mono hb5'.size)
   refine ⟨_, rfl, hK.out _ _ ⟨(blk_cell hN6 0).trans rfl, (blk_cell hN6 1).trans rfl, (blk_cell hN6 2).trans rfl, (blk_cell hN6 3).trans rfl, (blk_cell hN6 4).trans rfl, (blk_cell hN6 5).trans rfl⟩ (fun hS => ?_)⟩
   clear hK K
   refine norm_ (a' := ?_) ?_ ?_
   rotate_left
   ·show Act.put _ (some 24) _ = _
    simp only [Act.put, List.setIfInBounds_toArray, List.set_cons_zero, List.set_cons_succ, i64_w, i32_w, HW.out]
    rfl
   refine one_ (i := 14) (N := some 31) (Sq.bl 18 32767) rfl rfl (by kernel_rfl) (by decide) (fun K hK => ?_)
   refine value_ (w1 := ?_) (v := ?_) (by rfl) rfl ?_ ?_
   rotate_left 2
   ·go_simp
    constructor
    ·rfl
    ·rfl
   have hlit := World.alloc_heap_new w6 (.cells #[.string (dec ((i + 1 : Nat) : Int)), .string x.f0, .string (lblText x.f1), .string x.f2, .string x.f3, .string x.f4] 9 (0, 0))
   have hN7 := blk_alloc hN6 (.cells #[.string (dec ((i + 1 : Nat) : Int)), .string x.f0, .string (lblText x.f1), .string x.f2, .string x.f3, .string x.f4] 9 (0, 0))
   have hb7' := hb6'.alloc hb6'.size (.cells #[.string (dec ((i + 1 : Nat) : Int)), .string x.f0, .string (lblText x.f1), .string x.f2, .string x.f3, .string x.f4] 9 (0, 0))
   refine hK.out _ _ ⟨(blk_cell hN7 0).trans rfl, (blk_cell hN7 1).trans rfl, (blk_cell hN7 2).trans rfl, (blk_cell hN7 3).trans rfl, (blk_cell hN7 4).trans rfl, (blk_cell hN7 5).trans rfl⟩ (fun hS => ?_)
   clear hK K
   refine norm_ (a' := ?_) ?_ ?_
   rotate_left
   ·show Act.put _ (some 31) _ = _
    simp only [Act.put, List.setIfInBounds_toArray, List.set_cons_zero, List.set_cons_succ, i64_w, i32_w, HW.out]
    rfl
   refine one_ (i := 15) (N := some 32) (Sq.bl 18 65535) rfl rfl (by kernel_rfl) (by decide) (fun K hK => ?_)
   refine goes_ Tryd.func48 (by kernel_rfl) rfl #[.slice (some ⟨w6.heap.size, 0, none⟩) 6 6, .string ⟨#[32]⟩] (by rfl) rfl rfl (by (try simp only [List.map_toArray, List.map_cons, List.map_nil]); first | done | rfl | skip) ?_
   refine (join6 i x w6.heap.size _ hlit HJL.out).mono ?_
   rintro e_ w8 ⟨rfl, hb8⟩
   rw [← HJN.out]
   have hN8 := blk_below hN7 hb8
   have hb8' : Below Wn.heap.size Wn w8 := hb7'.trans (hb8.mono hb7'.size)
   refine ⟨_, rfl, hK.out _ _ ⟨(blk_cell hN8 0).trans rfl, (blk_cell hN8 1).trans rfl, (blk_cell hN8 2).trans rfl, (blk_cell hN8 3).trans rfl, (blk_cell hN8 4).trans rfl, (blk_cell hN8 5).trans rfl⟩ (fun hS => ?_)⟩
   clear hK K
   refine norm_ (a' := ?_) ?_ ?_
   rotate_left
   ·show Act.put _ (some 32) _ = _
    simp only [Act.put, List.setIfInBounds_toArray, List.set_cons_zero, List.set_cons_succ, i64_w, i32_w, HW.out]
    rfl
   refine Sq.pu (v := ?_) (a' := ?_) 16 33 (Sq.bl 18 131071) (by kernel_rfl) rfl rfl (fun _ _ _ h => h) (by rfl) ?_ ?_ ?_; rotate_left; (· intro w'; go_simp; with_reducible rfl); rotate_left; (· simp only [Act.put, List.setIfInBounds_toArray, List.set_cons_zero, List.set_cons_succ, i64_w, i32_w, HW.out]; rfl)
   refine one_ (i := 17) (N := some 34) (Sq.bl 18 262143) rfl rfl (by kernel_rfl) (by decide) (fun K hK => ?_)
   refine goes_ Tryd.func47 (by kernel_rfl) rfl #[.pointer (some ⟨w.heap.size + 1, 0, none⟩), .string (jn ++ ⟨#[10]⟩)] (by rfl) rfl rfl (by (try simp only [List.map_toArray, List.map_cons, List.map_nil]); first | done | rfl | skip) ?_
   have hcl := write_step (w.heap.size + 1) acc jn w8 (builder_below HBUN.out hb8') (by omega) (by have := hb8'.size; omega)
   with_reducible refine hcl.mono ?_
   rintro e_ w9 ⟨⟨v9, rfl⟩, hbu9, hb9, hk9⟩
   have hN9 := (hk9 _ _ hN8 (by intro e9; injection e9 with e9; omega) (by intro c fz e9; cases e9)).trans rfl
   refine ⟨_, rfl, hK.out _ _ ⟨(blk_cell hN9 0).trans rfl, (blk_cell hN9 1).trans rfl, (blk_cell hN9 2).trans rfl, (blk_cell hN9 3).trans rfl, (blk_cell hN9 4).trans rfl, (blk_cell hN9 5).trans rfl⟩ (fun hS => ?_)⟩
   clear hK K
   refine norm_ (a' := ?_) ?_ ?_
   rotate_left
   ·show Act.put _ (some 34) _ = _
    simp only [Act.put, List.setIfInBounds_toArray, List.set_cons_zero, List.set_cons_succ, i64_w, i32_w, HW.out]
    rfl
   refine done_ (by kernel_rfl) ?_
   have hbu8 := builder_below HBUN.out hb8'
   have hR9 := R_keep (Kd.R_below HRN.out hb8') (fun k c fz hk => (hk9 k _ hk (by
    intro e9
    injection e9 with e9
    subst e9
    rcases hbu8 with ⟨_, v, hv, _⟩ | ⟨_, v, hv, _⟩
    ·rw [hv] at hk
     injection hk with hk
     injection hk with _ hk
     exact absurd hk (by decide)
    ·rw [hv] at hk
     injection hk with hk
     injection hk with _ hk
     exact absurd hk (by decide)) (by intro c' fz' e9; injection e9 with _ e9; exact absurd e9 (by decide))).trans hk.symm)
   have hjd : jn.data.toList = Lib.join ((lineW i x).map (·.data.toList)) [32] := by rw [HJN.out]
   have hB9 : Below w.heap.size w w9 := (HBB.out.trans (hb8'.mono HBB.out.size)).trans (hb9.mono (by omega))
   have hs9 : w.heap.size + 2 ≤ w9.heap.size := by have := hb9.size; have := hb8'.size; omega
   have hl9 : (acc ++ (jn.data.toList ++ [10])).length ≤ 2000 * (i + 1) := by
    rw [List.length_append, List.length_append, data_length]
    simp only [List.length_singleton]
    omega
   have hacc9 : (acc ++ (jn.data.toList ++ [10])) ++ printB (ys.drop (i + 1)) (i + 1) = printB ys 0 := by
    rw [hjd, List.append_assoc]
    exact HACC.out
   have HF := Aside0.mk (And.intro hR9 (And.intro hB9 (And.intro hs9 (And.intro hl9 (And.intro hacc9 hbu9)))))
   clear hR9 hB9 hs9 hl9 hacc9 hbu9 hb9 hk9 hbu8 hb8' hb7' hb6' hb5' hb8 hb6 hb5
   go_wp2
   go_roundw
   case rel => exact ⟨i + 1, _, by omega, by first | rfl | exact congrArg _ HW.out, HF.out.2.2.2.2.1, HF.out.2.2.2.1, HF.out.2.2.2.2.2, HF.out.1, HF.out.2.1, HF.out.2.2.1⟩
   case measure => first | (rw [HW.out]; simp only [intOf, Int.toNat_natCast]; omega) | (simp only [intOf, Int.toNat_natCast]; omega)
  ·obtain rfl : i = ys.length := by omega
   have hlt2 : ((ys.length : Int) < (ys.length : Int)) = False := eq_false (by omega)
   have hlt3 : decide ((ys.length : Int) < (ys.length : Int)) = false := decide_eq_false (by omega)
   rw [List.drop_length, printB, List.append_nil] at hacc
   subst hacc
   have HBu5 := Aside0.mk hbu
   have HB5 := Aside0.mk hB
   clear hbu hB hR
   go_wp2_with (go_at_call 51; (refine (Tryd.Builder_String_k (w.heap.size + 1) (w.heap.size + 1) (printB ys 0) _ HBu5.out (by omega)).mono ?_); rintro e_ w9 ⟨rfl, _, hb9, _⟩; have HB9 := Aside0.mk (HB5.out.trans (hb9.mono (by omega))); clear hb9)
   go_ret
   have hpl : (printB ys 0).length ≤ 9223372036854775807 := by omega
   exact ⟨_, _, rfl, bytes_reads w9 5 ⟨(printB ys 0).toArray⟩ (by show (printB ys 0).toArray.size ≤ _; simpa using hpl), bytes_below HB9.out HB9.out.size _ _⟩
set_option maxHeartbeats 4000000 in
set_option maxRecDepth 100000 in
theorem audit_Print.calls_nil (o : S25) (w : World) :
  Calls Tryd.prog 19 #[.pointer none, .agg #[.int .i64 o.f0, .int .u64 o.f1]] w fun e w' => ∃ (A : Option Addr) (c : Nat), e = .returned (.slice A 0 c) ∧ Below w.heap.size w w' := by
 have kb := fun (s : ByteArray) (W : World) => print_bytes (P := Tryd.prog) 9 35 5 Tryd.underlying9 Tryd.underlying35 Tryd.underlying5 s W
 obtain ⟨W2, hW2⟩ : ∃ W2 : World, W2 = (w.alloc (.cells #[.int .i64 o.f0, .int .u64 o.f1] 25 (0, 0))).alloc (.cells #[.pointer none, .slice none 0 0] 79 (0, 0)) := ⟨_, rfl⟩
 have HB2 : Aside0 (Below w.heap.size w W2) := ⟨by rw [hW2]; exact ((Below.refl w.heap.size w).alloc (Nat.le_refl _) _).alloc (by rw [World.size_alloc]; omega) _⟩
 have hbox := blk_alloc (World.alloc_heap_new w (.cells #[.int .i64 o.f0, .int .u64 o.f1] 25 (0, 0))) (.cells #[.pointer none, .slice none 0 0] 79 (0, 0))
 have ho0 := (blk_cell hbox 0).trans rfl
 have ho1 := (blk_cell hbox 1).trans rfl
 have HBu : Aside0 (Lib.IsBuilderF 79 5 (w.heap.size + 1) (w.heap.size + 1) (Lib.byteCells []) W2) := ⟨by
  have := Lib.fresh_isBuilder 79 5 (w.alloc (.cells #[.int .i64 o.f0, .int .u64 o.f1] 25 (0, 0)))
  rw [World.size_alloc] at this
  rw [hW2]
  exact Lib.IsBuilderF.of this⟩
 have HW2 := Aside0.mk hW2
 clear hbox hW2
 go_enter Tryd.func19, Tryd.ntmps19
 go_wp2_with (go_at_call 17; rw [← HW2.out]; (refine (audit_Seen.calls_nil o _).mono ?_); rintro e_ w4 ⟨rfl, hb4⟩; have HBu4 := Aside0.mk (builder_below HBu.out hb4); have HB4 := Aside0.mk (HB2.out.trans (hb4.mono HB2.out.size)); have hs4 : w.heap.size + 2 ≤ w4.heap.size := Nat.le_trans (by rw [HW2.out, World.size_alloc, World.size_alloc]; omega) hb4.size; clear hb4)
 clear ho0 ho1
 refine wp_loop_rounds 1 ?_
 rw [rounds_succ]
 go_wp2_with (go_at_call 51; (refine (Tryd.Builder_String_k (w.heap.size + 1) (w.heap.size + 1) [] _ HBu4.out (by omega)).mono ?_); rintro e_ w9 ⟨rfl, _, hb9, _⟩; have HB9 := Aside0.mk (HB4.out.trans (hb9.mono (by omega))); clear hb9)
 go_ret
 exact ⟨_, _, rfl, bytes_below HB9.out HB9.out.size _ _⟩


end Go.Proofs.YtkinepmilnkhmaaDoor.A
end
section
namespace Go.Proofs.YtkinepmilnkhmaaDoor.A
open Go.RowKit Go.Proofs.YtkinepmilnkhmaaDoorW.PrintWords Go.Proofs.YtkinepmilnkhmaaDoorW.PrintLast Go.Proofs.YtkinepmilnkhmaaDoorW.PrintMore
attribute [local go_sem] max2_int min2_int max_two min_two max_three min_three max_four min_four   -- for this text's walks alone
set_option linter.unusedVariables false
set_option linter.unusedSimpArgs false

open Go.Maps Go.WideElems Go.MapKept
def eAnn : S40 := ⟨⟨#[97, 110, 110]⟩, ⟨0, 0⟩, ⟨#[99, 97, 116]⟩, ⟨#[97]⟩, ⟨#[111, 107]⟩⟩
def eBob : S40 := ⟨⟨#[98, 111, 98]⟩, ⟨1, 0⟩, ⟨#[108, 111, 103]⟩, ⟨#[45]⟩, ⟨#[111, 107]⟩⟩
theorem nums_back (s : ByteArray) : strOfNums (bytesOf s) = s := by
 have h : (bytesOf s).map (fun n => UInt8.ofNat n.toNat) = s.data.toList := by
  unfold bytesOf
  rw [List.map_map]
  conv => rhs; rw [← List.map_id s.data.toList]
  refine List.map_congr_left fun b _ => ?_
  simp
 unfold strOfNums
 rw [h]
theorem live_text : printB (seenL ⟨0, 0⟩ [eAnn, eBob]) 0 = [49, 32, 97, 110, 110, 32, 48, 32, 99, 97, 116, 32, 97, 32, 111, 107, 10] := by
 have h : seenL ⟨0, 0⟩ [eAnn, eBob] = [eAnn] := rfl
 rw [h]
 decide +kernel
set_option maxHeartbeats 8000000 in
set_option maxRecDepth 100000 in
theorem live.calls (k : Nat) (hA : audit_Check.f k eAnn = some 0) (hB : audit_Check.f k eBob = some 0) (w : World) (hT : TabOk w) :
  Calls Tryd.prog 12 #[] w fun e w' => e = .returned (.bool true) ∧ Below w.heap.size w w' := by
 have HT := Aside0.mk hT
 have HCA := Aside0.mk hA
 have HCB := Aside0.mk hB
 clear hT hA hB
 go_enter Tryd.func12, Tryd.ntmps12
 go_wp2_with (go_at_call 43; (refine (audit_New.calls _).mono ?_); rintro e_ w1 ⟨p, m, rfl, hp, hm, hX1, hb1⟩; have HX1 := Aside0.mk hX1; have HB1 := Aside0.mk hb1; clear hX1 hb1)
 obtain ⟨W2, hW2⟩ : ∃ W2 : World, W2 = (w1.alloc (.cells #[.string ⟨#[97, 110, 110]⟩, .int .i64 0, .int .u64 0, .string ⟨#[99, 97, 116]⟩, .string ⟨#[97]⟩, .string ⟨#[111, 107]⟩] 40 (0, 0))).alloc (.cells #[.string ⟨#[98, 111, 98]⟩, .int .i64 1, .int .u64 0, .string ⟨#[108, 111, 103]⟩, .string ⟨#[45]⟩, .string ⟨#[111, 107]⟩] 40 (0, 0)) := ⟨_, rfl⟩
 have hd2 : Below w1.heap.size w1 W2 := by rw [hW2]; exact ((Below.refl _ _).alloc (Nat.le_refl _) _).alloc (by rw [World.size_alloc]; omega) _
 have hX2 := LogX.below HX1.out hd2
 have hB2 := HB1.out.trans (hd2.mono HB1.out.size)
 have hbb : W2.heap[w1.heap.size + 1]? = some (.cells #[.string ⟨#[98, 111, 98]⟩, .int .i64 1, .int .u64 0, .string ⟨#[108, 111, 103]⟩, .string ⟨#[45]⟩, .string ⟨#[111, 107]⟩] 40 (0, 0)) := by
  have := World.alloc_heap_new (w1.alloc (.cells #[.string ⟨#[97, 110, 110]⟩, .int .i64 0, .int .u64 0, .string ⟨#[99, 97, 116]⟩, .string ⟨#[97]⟩, .string ⟨#[111, 107]⟩] 40 (0, 0))) (.cells #[.string ⟨#[98, 111, 98]⟩, .int .i64 1, .int .u64 0, .string ⟨#[108, 111, 103]⟩, .string ⟨#[45]⟩, .string ⟨#[111, 107]⟩] 40 (0, 0))
  rw [World.size_alloc] at this
  rw [hW2]
  exact this
 have hpm : p < w1.heap.size ∧ m < w1.heap.size := by
  obtain ⟨v, D, h1, _, h3, _⟩ := HX1.out
  exact ⟨blk_lt h1, h3.lt⟩
 rw [← hW2]
 clear hW2 hd2 HX1
 have hcl := audit_Add.calls k w.heap.size p m w [] eAnn ⟨by decide, by decide⟩ W2 hX2 hB2 hp hm (by decide) 0 HCA.out
 refine hcl.mono ?_
 clear hcl
 rintro e_ w2 ⟨rfl, hX3, hB3, hs3, hf3⟩
 have hX3' : LogX w2 w.heap.size p m [eAnn] := hX3
 have hb3 := (hf3 _ (blk_lt hbb) (by omega) (by omega)).trans hbb
 have hk0 := (blk_cell hb3 0).trans rfl
 have hk1 := (blk_cell hb3 1).trans rfl
 have hk2 := (blk_cell hb3 2).trans rfl
 have hk3 := (blk_cell hb3 3).trans rfl
 have hk4 := (blk_cell hb3 4).trans rfl
 have hk5 := (blk_cell hb3 5).trans rfl
 have HX3 := Aside0.mk hX3'
 have HB3 := Aside0.mk hB3
 clear hX2 hB2 hbb hX3 hX3' hB3 hs3 hf3 hb3
 go_wp2_with (fail)
 have hcl := audit_Add.calls k w.heap.size p m w [eAnn] eBob ⟨by decide, by decide⟩ w2 HX3.out HB3.out hp hm (by decide) 0 HCB.out
 refine hcl.mono ?_
 clear hcl
 rintro e_ w3 ⟨rfl, hX4, hB4, hs4, hf4⟩
 have hX4' : LogX w3 w.heap.size p m [eAnn, eBob] := hX4
 have HX4 := Aside0.mk hX4'
 have HB4 := Aside0.mk hB4
 clear hk0 hk1 hk2 hk3 hk4 hk5 hX4 hX4' hB4 hs4 hf4
 go_wp2_with (fail)
 have hT3 : TabOk w3 := TabOk.below HT.out HB4.out
 have hcl := audit_Print.calls w.heap.size p m [eAnn, eBob] ⟨0, 0⟩ w3 HX4.out (by decide) (by
  intro x hx
  simp only [List.mem_cons, List.mem_nil_iff, or_false] at hx
  rcases hx with rfl | rfl <;> exact ⟨⟨by decide, by decide, by decide, by decide⟩, by decide, by decide⟩) hT3
 rw [live_text] at hcl
 refine hcl.mono ?_
 clear hcl hT3
 rintro e_ w4 ⟨Ab, cb, rfl, hrb, hb4⟩
 have hX5 := LogX.below HX4.out hb4
 have HX5 := Aside0.mk hX5
 have HB5 := Aside0.mk (HB4.out.trans (hb4.mono HB4.out.size))
 have hcv : (convert 35 9 (.slice Ab 17 cb)).run Tryd.prog w4 = .ok (.string ⟨#[49, 32, 97, 110, 110, 32, 48, 32, 99, 97, 116, 32, 97, 32, 111, 107, 10]⟩) w4 := by
  have := string_of_reads (P := Tryd.prog) (c := cb) Tryd.underlying35 Tryd.underlying5 Tryd.underlying9 hrb
  rw [nums_back] at this
  exact this
 clear hX5 hb4 hrb
 go_wp2_with (fail)
 have hcl : Calls Tryd.prog 26 #[.pointer (some ⟨p, 0, none⟩)] w4 fun e w' => e = .returned (.int .i64 2) ∧ w' = w4 := audit_Len.calls w.heap.size p m [eAnn, eBob] w4 HX5.out
 refine hcl.mono ?_
 clear hcl hcv
 rintro e_ w5 ⟨rfl, e5⟩
 subst e5
 go_wp2_with (fail)
 have hcl : Calls Tryd.prog 13 #[.pointer (some ⟨p, 0, none⟩), .agg #[.int .i64 1, .int .u64 0]] w5 fun e w' => e = .returned (.int .i64 1) ∧ Below w5.heap.size w5 w' := audit_Of.calls w.heap.size p m [eAnn, eBob] ⟨1, 0⟩ ⟨by decide, by decide⟩ w5 HX5.out
 refine hcl.mono ?_
 clear hcl
 rintro e_ w6 ⟨rfl, hb6⟩
 have HX6 := Aside0.mk (LogX.below HX5.out hb6)
 have HB6 := Aside0.mk (HB5.out.trans (hb6.mono HB5.out.size))
 clear hb6
 go_wp2_with (fail)
 have hcl : Calls Tryd.prog 15 #[.pointer (some ⟨p, 0, none⟩), .agg #[.int .i64 0, .int .u64 0], .int .i64 1] w6 fun e w' => e = .returned (.bool true) ∧ Below w6.heap.size w6 w' := audit_Full.calls w.heap.size p m [eAnn, eBob] ⟨0, 0⟩ 1 ⟨by decide, by decide⟩ w6 HX6.out
 refine hcl.mono ?_
 clear hcl
 rintro e_ w7 ⟨rfl, hb7⟩
 have HB7 := Aside0.mk (HB6.out.trans (hb7.mono HB6.out.size))
 clear hb7
 go_wp2
 go_ret
 exact ⟨rfl, HB7.out⟩


end Go.Proofs.YtkinepmilnkhmaaDoor.A
end
section
namespace Go.Proofs.YtkinepmilnkhmaaDoor.Rd
open Go.RowKit Go.Proofs.YtkinepmilnkhmaaDoorW.PrintWords Go.Proofs.YtkinepmilnkhmaaDoorW.PrintLast
set_option linter.unusedVariables false
theorem empty {α : Type} (d : Kd α) (W : World) (B g e : Nat) (ok : Nat → Prop) (h : W.heap[g]? = some (.cells #[] e (0, 0))) (hB : B ≤ g) (hok : ok g) (hs : 0 < d.sz) : d.R e W B ok (.slice (some ⟨g, 0, none⟩) 0 0) [] := by
  refine ⟨fun k hk => ?_, [], ⟨by simp, .inr ⟨g, 0, #[], rfl, hB, h, Nat.le_refl _, by omega, by simp, by simp⟩⟩, Reps.none _ _⟩
  have : g = k := by simpa [Value.ownBlock] using hk
  exact this ▸ hok
/-- A literal that was made behind the empty row is none of what the row became. -/
theorem lit_ne {α : Type} {d : Kd α} {e : Nat} {W Y w1 : World} {B g : Nat} {ok ok' : Nat → Prop} {v0 v1 : Value} {xs ys : List α} {o : Obj} (h0 : d.R e W B ok v0 xs) (_h1 : d.R e w1 B ok' v1 ys) (hat : v1.ownBlock = v0.ownBlock ∨ ∃ b, v1.ownBlock = some b ∧ Y.heap.size ≤ b) (hl : Y.heap[g]? = some o) (hg : W.heap.size ≤ g) : some g ≠ v1.ownBlock := by
  rcases hat with h | ⟨b, h, hb⟩
  · rw [h]
    exact fun e_ => by have := Kd.R_lt h0 _ e_.symm; omega
  · rw [h]
    exact fun e_ => by
      have := blk_lt hl
      injection e_ with e_
      omega
theorem lit_ne2 {α : Type} {d : Kd α} {e : Nat} {Y w1 : World} {B g : Nat} {ok' : Nat → Prop} {v0 v1 : Value} {ys : List α} (_h1 : d.R e w1 B ok' v1 ys) (hat : v1.ownBlock = v0.ownBlock ∨ ∃ b, v1.ownBlock = some b ∧ Y.heap.size ≤ b) (h0 : some g ≠ v0.ownBlock) (hg : g < Y.heap.size) : some g ≠ v1.ownBlock := by
  rcases hat with h | ⟨b, h, hb⟩
  · rw [h]
    exact h0
  · rw [h]
    exact fun e_ => by
      injection e_ with e_
      omega
/-- A literal of one element, read. -/
theorem lit_reads {α : Type} {W : World} {g t : Nat} {cs : List Value} (x : α) (n : Nat) (hn : cs.length = n) (hl : W.heap[g]? = some (.cells cs.toArray t (0, 0))) (h1 : ∀ u ∈ cs, u.oneCell' = true) : ReadsRow (fun y c => y = x ∧ c = cs) n W (some ⟨g, 0, none⟩) 1 [x] := by
  refine ⟨rfl, by decide, fun _ => ⟨_, rfl, fun j p hj => ?_⟩⟩
  have hj0 : j = 0 ∧ p = x := by
    cases j with
    | zero => exact ⟨rfl, by simpa using hj.symm⟩
    | succ j => simp at hj
  obtain ⟨rfl, rfl⟩ := hj0
  refine ⟨cs, hn, ⟨rfl, rfl⟩, fun i u hi => ?_⟩
  rw [add_plain, blk_cell hl]
  simpa using hi
/-- What an appended-to new row leads to is new. -/
theorem own_new {W Y : World} {v0 v1 : Value} (hat : v1.ownBlock = v0.ownBlock ∨ ∃ b, v1.ownBlock = some b ∧ Y.heap.size ≤ b) (hs : W.heap.size ≤ Y.heap.size) (h0 : ∀ k, v0.ownBlock = some k → W.heap.size ≤ k) : ∀ k, v1.ownBlock = some k → W.heap.size ≤ k := by
  intro k hk
  rcases hat with h | ⟨b, h, hb⟩
  · exact h0 k (h ▸ hk)
  · rw [h] at hk
    injection hk with hk
    omega
/-- A row that is new in Y has grown. -/
theorem grown_new {W Y w1 : World} {row : Option Nat} (hB : Below W.heap.size W Y) (hg : Y.grownBy w1 row) (hr : ∀ k, row = some k → W.heap.size ≤ k) : Below W.heap.size W w1 := pw_below_grown hB row hB.size hg hr
end Go.Proofs.YtkinepmilnkhmaaDoor.Rd
end
section
namespace Go.Proofs.YtkinepmilnkhmaaDoor.A
open Go.RowKit Go.Proofs.YtkinepmilnkhmaaDoorW.PrintWords Go.Proofs.YtkinepmilnkhmaaDoorW.PrintLast Go.Proofs.YtkinepmilnkhmaaDoorW.PrintMore
attribute [local go_sem] max2_int min2_int max_two min_two max_three min_three max_four min_four   -- for this text's walks alone
set_option linter.unusedVariables false
set_option linter.unusedSimpArgs false

open Go.Maps Go.WideElems Go.MapKept
/-- THE DOCUMENT'S LOG AT q. -/
def LogY (W : World) (base q : Nat) (xs : List S40) : Prop := ∃ v : Value, W.heap[q]? = some (Obj.cells #[v] 73 (0, 0)) ∧ Kd.R k40 40 W base (fun _ => True) v xs
theorem LogY.stay {W W' : World} {base q : Nat} {xs : List S40} (h : LogY W base q xs) (hp : W'.heap[q]? = W.heap[q]?) (hE : ∀ (k : Nat) (cs : Array Value) (fz : Nat × Nat), W.heap[k]? = some (Obj.cells cs 40 fz) → W'.heap[k]? = W.heap[k]?) : LogY W' base q xs := by
 obtain ⟨v, h1, h2⟩ := h
 exact ⟨v, hp.trans h1, R_keep h2 hE⟩
theorem LogY.below {W W' : World} {base q : Nat} {xs : List S40} (h : LogY W base q xs) (hb : Below W.heap.size W W') : LogY W' base q xs := by
 have hq : q < W.heap.size := by
  obtain ⟨v, h1, _⟩ := h
  exact (Array.getElem?_eq_some_iff.1 h1).1
 exact LogY.stay h (hb.block _ hq) (fun k cs fz hk => hb.block _ (Array.getElem?_eq_some_iff.1 hk).1)
set_option maxHeartbeats 8000000 in
set_option maxRecDepth 100000 in
/-- An entry is taken, or refused. -/
theorem ref20_Add.calls (k base q : Nat) (w0 : World) (xs : List S40) (y : S40) (w : World) (hX : LogY w base q xs) (hB : Below base w0 w) (hqb : base ≤ q) (hl : xs.length ≤ 1000) (r : Int) (hr : jalousieref20_Check.f k y.f0 y.f1.f0 y.f1.f1 y.f2 y.f3 y.f4 = some r) :
  Calls Tryd.prog 25 #[.pointer (some ⟨q, 0, none⟩), .agg #[.string y.f0, .int .i64 y.f1.f0, .int .u64 y.f1.f1, .string y.f2, .string y.f3, .string y.f4]] w fun e w' => e = .returned (.int .i64 r) ∧ LogY w' base q (addX r xs y) ∧ Below base w0 w' ∧ w.heap.size ≤ w'.heap.size ∧ ∀ z, z < w.heap.size → z ≠ q → w'.heap[z]? = w.heap[z]? := by
 have hpm : q < w.heap.size := by
  obtain ⟨v, h1, _⟩ := hX
  exact (Array.getElem?_eq_some_iff.1 h1).1
 have hbw : base ≤ w.heap.size := by omega
 have hlim : decide ((xs.length : Int) ≥ 1000000) = false := decide_eq_false (by omega)
 obtain ⟨W1, hW1⟩ : ∃ W1 : World, W1 = w.alloc (.cells #[.string y.f0, .int .i64 y.f1.f0, .int .u64 y.f1.f1, .string y.f2, .string y.f3, .string y.f4] 40 (0, 0)) := ⟨_, rfl⟩
 have hbox : W1.heap[w.heap.size]? = some (.cells #[.string y.f0, .int .i64 y.f1.f0, .int .u64 y.f1.f1, .string y.f2, .string y.f3, .string y.f4] 40 (0, 0)) := by
  rw [hW1]
  exact World.alloc_heap_new w _
 have hbox0 := World.alloc_heap_new w (.cells #[.string y.f0, .int .i64 y.f1.f0, .int .u64 y.f1.f1, .string y.f2, .string y.f3, .string y.f4] 40 (0, 0))
 have hx0 := (blk_cell hbox0 0).trans rfl
 have hx1 := (blk_cell hbox0 1).trans rfl
 have hx2 := (blk_cell hbox0 2).trans rfl
 have hx3 := (blk_cell hbox0 3).trans rfl
 have hx4 := (blk_cell hbox0 4).trans rfl
 have hx5 := (blk_cell hbox0 5).trans rfl
 have HBX := Aside0.mk hbox
 have HB1 : Aside0 (Below w.heap.size w W1) := ⟨by rw [hW1]; exact (Below.refl w.heap.size w).alloc (Nat.le_refl _) _⟩
 have HX := Aside0.mk hX
 have HB := Aside0.mk hB
 have HR := Aside0.mk hr
 have HW1 := Aside0.mk hW1
 clear hX hB hr hbox hbox0 hW1
 by_cases hr0 : r = 0
 ·have hne : (r != 0) = false := by simp [hr0]
  subst hr0
  go_enter Tryd.func25, Tryd.ntmps25
  go_wp2_with (go_at_call 45; rw [← HW1.out]; (refine (jalousieref20_Check.calls k _ _ _ _ _ _ 0 _ HR.out).mono ?_); rintro e_ w2 ⟨rfl, hd⟩; have HBX2 := Aside0.mk ((hd.block _ (Array.getElem?_eq_some_iff.1 HBX.out).1).trans HBX.out); have HD := Aside0.mk (HB1.out.trans (hd.mono HB1.out.size)); obtain ⟨v, hx, hv⟩ := LogY.below HX.out HD.out; obtain ⟨Av, cv, ev⟩ := Kd.R_slice hv; subst ev; have HL := Aside0.mk hx; have HV := Aside0.mk hv; have hc0 := (blk_cell hx 0).trans rfl; clear hd hx hv)
  obtain ⟨W, hWe⟩ : ∃ W : World, W = w2.drew := ⟨_, rfl⟩
  have hLd : W.heap[q]? = some (.cells #[.slice Av xs.length cv] 73 (0, 0)) := by rw [hWe]; exact blk_drew HL.out
  have hBd : W.heap[w.heap.size]? = some (.cells #[.string y.f0, .int .i64 y.f1.f0, .int .u64 y.f1.f1, .string y.f2, .string y.f3, .string y.f4] 40 (0, 0)) := by rw [hWe]; exact blk_drew HBX2.out
  have hVd : Kd.R k40 40 W base (fun _ => True) (.slice Av xs.length cv) xs := by rw [hWe]; exact Kd.R_drew HV.out
  have hBw : Below w.heap.size w W := by rw [hWe]; exact HD.out.drew
  have hqW := blk_lt hLd
  have hgW := blk_lt hBd
  have hWb : base ≤ W.heap.size := by omega
  clear hc0
  have hSk : ∀ Y : World, Below W.heap.size W Y → Y.cell? ⟨q, 0, none⟩ = some (.slice Av xs.length cv) ∧ Y.cell? ⟨w.heap.size, 0, none⟩ = some (.string y.f0) ∧ Y.cell? ⟨w.heap.size, 1, none⟩ = some (.int .i64 y.f1.f0) ∧ Y.cell? ⟨w.heap.size, 2, none⟩ = some (.int .u64 y.f1.f1) ∧ Y.cell? ⟨w.heap.size, 3, none⟩ = some (.string y.f2) ∧ Y.cell? ⟨w.heap.size, 4, none⟩ = some (.string y.f3) ∧ Y.cell? ⟨w.heap.size, 5, none⟩ = some (.string y.f4) ∧ Y.frozen? ⟨q, 0, none⟩ = false := fun Y hY => by
   have h1 := (hY.block _ hqW).trans hLd
   have h2 := (hY.block _ hgW).trans hBd
   exact ⟨(blk_cell h1 0).trans rfl, (blk_cell h2 0).trans rfl, (blk_cell h2 1).trans rfl, (blk_cell h2 2).trans rfl, (blk_cell h2 3).trans rfl, (blk_cell h2 4).trans rfl, (blk_cell h2 5).trans rfl, blk_frozen h1 0⟩
  have hCk : ∀ Y : World, Below W.heap.size W Y → ReadsRow (k40.M Y base (fun k_ => k_ < W.heap.size)) 6 Y Av xs.length xs := fun Y hY => by
   have h1 := Kd.R_below (Kd.R_mono (Kd.R_bound hVd) (ok' := fun k_ => k_ < W.heap.size) (fun k_ hk_ => hk_.2.2.1)) hY
   obtain ⟨A_, c_, e_, _, hr_⟩ := OwnRow.reads h1.2
   injection e_ with e_ _ _
   subst e_
   exact ReadsRow.imp_ hr_ (Below.refl _ _) (fun _ _ hp => k40.M_mono (fun _ hk => hk.1) hp)
  have hS0 := hSk W (Below.refl _ _)
  have HSK := Aside0.mk hSk
  refine start_ (n := 13) (S := fun w' => w'.cell? ⟨q, 0, none⟩ = some (.slice Av xs.length cv) ∧ w'.cell? ⟨w.heap.size, 0, none⟩ = some (.string y.f0) ∧ w'.cell? ⟨w.heap.size, 1, none⟩ = some (.int .i64 y.f1.f0) ∧ w'.cell? ⟨w.heap.size, 2, none⟩ = some (.int .u64 y.f1.f1) ∧ w'.cell? ⟨w.heap.size, 3, none⟩ = some (.string y.f2) ∧ w'.cell? ⟨w.heap.size, 4, none⟩ = some (.string y.f3) ∧ w'.cell? ⟨w.heap.size, 5, none⟩ = some (.string y.f4) ∧ w'.frozen? ⟨q, 0, none⟩ = false) (ds := [12]) (Sq.bl 13 0) (by kernel_rfl) rfl (by rfl) (by rw [← hWe]; exact hS0) (fun hS => ?_)
  rw [← hWe] at hS ⊢; clear hWe hS0
  refine Sq.pu (v := ?_) (a' := ?_) 0 17 (Sq.bl 13 1) (by kernel_rfl) rfl rfl (fun _ _ _ h => h) (by rfl) ?_ ?_ ?_; rotate_left; (· intro w'; go_simp; with_reducible rfl); rotate_left; (· simp only [Act.put,zp1,zp2,zp3,zp4,zp5]; rfl)
  refine Sq.pu (v := ?_) (a' := ?_) 2 19 (Sq.bl 13 5) (by kernel_rfl) rfl rfl (fun _ _ _ h => h) (by rfl) ?_ ?_ ?_; rotate_left; (· intro w'; go_simp; with_reducible rfl); rotate_left; (· simp only [Act.put,zp1,zp2,zp3,zp4,zp5]; rfl)
  refine Sq.pu (v := ?_) (a' := ?_) 3 20 (Sq.bl 13 13) (by kernel_rfl) rfl rfl (fun _ _ _ h => h) (by rfl) ?_ ?_ ?_; rotate_left; (· intro w'; go_simp; with_reducible rfl); rotate_left; (· simp only [Act.put,zp1,zp2,zp3,zp4,zp5]; rfl)
  refine Sq.pu (v := ?_) (a' := ?_) 4 21 (Sq.bl 13 29) (by kernel_rfl) rfl rfl (fun _ _ _ h => h) (by rfl) ?_ ?_ ?_; rotate_left; (· intro w'; go_simp; with_reducible rfl); rotate_left; (· simp only [Act.put,zp1,zp2,zp3,zp4,zp5]; rfl)
  refine take_ (i := 5) (N := some 22) (v := ?_) (a' := ?_) (Sq.bl 13 61) rfl rfl (by kernel_rfl) (fun _ _ _ h => h) (Or.inl ⟨by rfl, ?_⟩) hS ?_ ?_; rotate_left; (· rintro w' ⟨s0, s1, s2, s3, s4, s5, s6, s7⟩; go_simp; with_reducible rfl); rotate_left; (· simp only [Act.put,zp1,zp2,zp3,zp4,zp5]; rfl)
  refine take_ (i := 7) (N := some 24) (v := ?_) (a' := ?_) (Sq.bl 13 189) rfl rfl (by kernel_rfl) (fun _ _ _ h => h) (Or.inl ⟨by rfl, ?_⟩) hS ?_ ?_; rotate_left; (· rintro w' ⟨s0, s1, s2, s3, s4, s5, s6, s7⟩; go_simp; with_reducible rfl); rotate_left; (· simp only [Act.put,zp1,zp2,zp3,zp4,zp5]; rfl)
  refine join_ 4 (Sq.bl 13 511) (fun s : Value × Value × Value => [(18, s.1), (23, s.2.1), (25, s.2.2)]) (fun s X => Below W.heap.size W X ∧ Kd.R k40 40 X base (fun _ => True) s.2.1 xs ∧ ∃ g, s.2.2 = .slice (some ⟨g, 0, none⟩) 1 1 ∧ X.heap[g]? = some (.cells #[.string y.f0, .int .i64 y.f1.f0, .int .u64 y.f1.f1, .string y.f2, .string y.f3, .string y.f4] 40 (0, 0)) ∧ some g ≠ s.2.1.ownBlock ∧ W.heap.size ≤ g ∧ ∀ k_, s.2.1.ownBlock = some k_ → W.heap.size ≤ k_) ?tail (fun hcont => ?ord)
  case ord =>
   refine two_ (i := 1) (j := 8) (Ni := some 18) (Nj := some 25) (Sq.bl 13 191) (Sq.bl 13 445) rfl rfl rfl rfl (by kernel_rfl) (by decide) (by decide) (fun K hK => ?_) (fun K hK => ?_)
   ·skip
    refine value_ (w1 := ?_) (v := ?_) (by rfl) rfl ?_ ?_
    rotate_left 2
    ·go_simp
     constructor
     ·rfl
     ·rfl
    have hB0 := (Below.refl W.heap.size W).alloc (Below.refl W.heap.size W).size (.cells #[] 40)
    have hq0 := World.alloc_heap_new W (.cells #[] 40)
    have hr0 : Kd.R k40 40 (W.alloc (.cells #[] 40)) (base) (fun _ => True) (.slice (some ⟨W.heap.size, 0, none⟩) 0 0) [] := Rd.empty k40 _ _ _ _ _ hq0 (Nat.le_trans hWb (Below.refl W.heap.size W).size) trivial (by decide)
    refine hK.out _ _ (hSk _ hB0) (fun hS => ?_)
    refine norm_ (a' := ?_) ?_ ?_
    rotate_left
    ·show Act.put _ (some 18) _ = _
     simp only [Act.put,zp1,zp2,zp3,zp4,zp5]
     rfl
    refine two_ (i := 6) (j := 8) (Ni := some 23) (Nj := some 25) (Sq.bl 13 255) (Sq.bl 13 447) rfl rfl rfl rfl (by kernel_rfl) (by decide) (by decide) (fun K hK => ?_) (fun K hK => ?_)
    ·skip
     refine Kd.R_append_rows_step k40 (w0 := W) (base) (by rfl) (.tmp 18) (.tmp 22) 22 40 (.agg #[(.string ⟨#[]⟩), (.int .i64 0), (.int .u64 0), (.string ⟨#[]⟩), (.string ⟨#[]⟩), (.string ⟨#[]⟩)]) 80 rfl Tryd.underlying22 info40 rfl (by decide) (by omega) (.slice (some ⟨W.heap.size, 0, none⟩) 0 0) [] xs _ _ _ (fun _ => True) (fun k_ => k_ < W.heap.size) rfl rfl hr0 (hCk _ hB0) (fun _ _ h => h) (fun k_ hk_ => ⟨trivial, fun e_ => by simp [Value.ownBlock] at e_; omega⟩) (fun _ _ => trivial) (hB0.mono hWb) (Nat.le_trans hWb hB0.size) ?aL ?_
     (case aL => simp only [List.length_nil]; omega)
     intro v1 w1 hr1 hB1_ hg1 hat1
     have hB1 := Rd.grown_new hB0 hg1 (by simp [Value.ownBlock])
     have hn1 := Rd.own_new hat1 hB0.size (by simp [Value.ownBlock])
     clear hB1_
     refine hK.out _ _ (hSk _ hB1) (fun hS => ?_)
     refine norm_ (a' := ?_) ?_ ?_
     rotate_left
     ·show Act.put _ (some 23) _ = _
      simp only [Act.put,zp1,zp2,zp3,zp4,zp5]
      rfl
     refine one_ (i := 8) (N := some 25) (Sq.bl 13 511) rfl rfl (by kernel_rfl) (by decide) (fun K hK => ?_)
     refine value_ (w1 := ?_) (v := ?_) (by rfl) rfl ?_ ?_
     rotate_left 2
     ·go_simp
      constructor
      ·rfl
      ·rfl
     have hB2 := hB1.alloc hB1.size (.cells #[.string y.f0, .int .i64 y.f1.f0, .int .u64 y.f1.f1, .string y.f2, .string y.f3, .string y.f4] 40)
     have hl2 := World.alloc_heap_new w1 (.cells #[.string y.f0, .int .i64 y.f1.f0, .int .u64 y.f1.f1, .string y.f2, .string y.f3, .string y.f4] 40)
     have hr2 := Kd.R_alloc hr1 (.cells #[.string y.f0, .int .i64 y.f1.f0, .int .u64 y.f1.f1, .string y.f2, .string y.f3, .string y.f4] 40)
     refine hK.out _ _ (hSk _ hB2) (fun hS => ?_)
     refine norm_ (a' := ?_) ?_ ?_
     rotate_left
     ·show Act.put _ (some 25) _ = _
      simp only [Act.put,zp1,zp2,zp3,zp4,zp5]
      rfl
     exact hcont (.slice (some ⟨W.heap.size, 0, none⟩) 0 0, v1, .slice (some ⟨w1.heap.size, 0, none⟩) 1 1) _ ⟨hB2, hr2, _, rfl, hl2, (fun e_ => by have h_ := Kd.R_lt hr1 _ e_.symm; omega), hB1.size, hn1⟩
    ·skip
     refine value_ (w1 := ?_) (v := ?_) (by rfl) rfl ?_ ?_
     rotate_left 2
     ·go_simp
      constructor
      ·rfl
      ·rfl
     have hB2 := hB0.alloc hB0.size (.cells #[.string y.f0, .int .i64 y.f1.f0, .int .u64 y.f1.f1, .string y.f2, .string y.f3, .string y.f4] 40)
     have hl2 := World.alloc_heap_new (W.alloc (.cells #[] 40)) (.cells #[.string y.f0, .int .i64 y.f1.f0, .int .u64 y.f1.f1, .string y.f2, .string y.f3, .string y.f4] 40)
     simp only [World.size_alloc] at hl2
     have hr02 := Kd.R_alloc hr0 (.cells #[.string y.f0, .int .i64 y.f1.f0, .int .u64 y.f1.f1, .string y.f2, .string y.f3, .string y.f4] 40)
     refine hK.out _ _ (hSk _ hB2) (fun hS => ?_)
     refine norm_ (a' := ?_) ?_ ?_
     rotate_left
     ·show Act.put _ (some 25) _ = _
      simp only [Act.put,zp1,zp2,zp3,zp4,zp5]
      rfl
     refine one_ (i := 6) (N := some 23) (Sq.bl 13 511) rfl rfl (by kernel_rfl) (by decide) (fun K hK => ?_)
     refine Kd.R_append_rows_step k40 (w0 := W) (base) (by rfl) (.tmp 18) (.tmp 22) 22 40 (.agg #[(.string ⟨#[]⟩), (.int .i64 0), (.int .u64 0), (.string ⟨#[]⟩), (.string ⟨#[]⟩), (.string ⟨#[]⟩)]) 80 rfl Tryd.underlying22 info40 rfl (by decide) (by omega) (.slice (some ⟨W.heap.size, 0, none⟩) 0 0) [] xs _ _ _ (fun _ => True) (fun k_ => k_ < W.heap.size) rfl rfl hr02 (hCk _ hB2) (fun _ _ h => h) (fun k_ hk_ => ⟨trivial, fun e_ => by simp [Value.ownBlock] at e_; omega⟩) (fun _ _ => trivial) (hB2.mono hWb) (Nat.le_trans hWb hB2.size) ?aL ?_
     (case aL => simp only [List.length_nil]; omega)
     intro v1 w1 hr1 hB1_ hg1 hat1
     have hB1 := Rd.grown_new hB2 hg1 (by simp [Value.ownBlock])
     have hn1 := Rd.own_new hat1 hB2.size (by simp [Value.ownBlock])
     clear hB1_
     have hl1 := (hg1.block _ (blk_lt hl2) (by simp [Value.ownBlock])).trans hl2
     refine hK.out _ _ (hSk _ hB1) (fun hS => ?_)
     refine norm_ (a' := ?_) ?_ ?_
     rotate_left
     ·show Act.put _ (some 23) _ = _
      simp only [Act.put,zp1,zp2,zp3,zp4,zp5]
      rfl
     exact hcont (.slice (some ⟨W.heap.size, 0, none⟩) 0 0, v1, .slice (some ⟨W.heap.size + 1, 0, none⟩) 1 1) _ ⟨hB1, hr1, _, rfl, hl1, Rd.lit_ne hr0 hr1 hat1 hl2 (by simp), by simp, hn1⟩
   ·skip
    refine value_ (w1 := ?_) (v := ?_) (by rfl) rfl ?_ ?_
    rotate_left 2
    ·go_simp
     constructor
     ·rfl
     ·rfl
    have hB2 := (Below.refl W.heap.size W).alloc (Below.refl W.heap.size W).size (.cells #[.string y.f0, .int .i64 y.f1.f0, .int .u64 y.f1.f1, .string y.f2, .string y.f3, .string y.f4] 40)
    have hl2 := World.alloc_heap_new W (.cells #[.string y.f0, .int .i64 y.f1.f0, .int .u64 y.f1.f1, .string y.f2, .string y.f3, .string y.f4] 40)
    refine hK.out _ _ (hSk _ hB2) (fun hS => ?_)
    refine norm_ (a' := ?_) ?_ ?_
    rotate_left
    ·show Act.put _ (some 25) _ = _
     simp only [Act.put,zp1,zp2,zp3,zp4,zp5]
     rfl
    refine one_ (i := 1) (N := some 18) (Sq.bl 13 447) rfl rfl (by kernel_rfl) (by decide) (fun K hK => ?_)
    refine value_ (w1 := ?_) (v := ?_) (by rfl) rfl ?_ ?_
    rotate_left 2
    ·go_simp
     constructor
     ·rfl
     ·rfl
    have hB0 := hB2.alloc hB2.size (.cells #[] 40)
    have hq0 := World.alloc_heap_new (W.alloc (.cells #[.string y.f0, .int .i64 y.f1.f0, .int .u64 y.f1.f1, .string y.f2, .string y.f3, .string y.f4] 40)) (.cells #[] 40)
    have hr0 : Kd.R k40 40 ((W.alloc (.cells #[.string y.f0, .int .i64 y.f1.f0, .int .u64 y.f1.f1, .string y.f2, .string y.f3, .string y.f4] 40)).alloc (.cells #[] 40)) (base) (fun _ => True) (.slice (some ⟨(W.alloc (.cells #[.string y.f0, .int .i64 y.f1.f0, .int .u64 y.f1.f1, .string y.f2, .string y.f3, .string y.f4] 40)).heap.size, 0, none⟩) 0 0) [] := Rd.empty k40 _ _ _ _ _ hq0 (Nat.le_trans hWb hB2.size) trivial (by decide)
    simp only [World.size_alloc] at hr0 hq0
    have hl0 := blk_alloc hl2 (.cells #[] 40)
    refine hK.out _ _ (hSk _ hB0) (fun hS => ?_)
    refine norm_ (a' := ?_) ?_ ?_
    rotate_left
    ·show Act.put _ (some 18) _ = _
     simp only [Act.put,zp1,zp2,zp3,zp4,zp5]
     rfl
    refine one_ (i := 6) (N := some 23) (Sq.bl 13 511) rfl rfl (by kernel_rfl) (by decide) (fun K hK => ?_)
    refine Kd.R_append_rows_step k40 (w0 := W) (base) (by rfl) (.tmp 18) (.tmp 22) 22 40 (.agg #[(.string ⟨#[]⟩), (.int .i64 0), (.int .u64 0), (.string ⟨#[]⟩), (.string ⟨#[]⟩), (.string ⟨#[]⟩)]) 80 rfl Tryd.underlying22 info40 rfl (by decide) (by omega) (.slice (some ⟨W.heap.size + 1, 0, none⟩) 0 0) [] xs _ _ _ (fun _ => True) (fun k_ => k_ < W.heap.size) rfl rfl hr0 (hCk _ hB0) (fun _ _ h => h) (fun k_ hk_ => ⟨trivial, fun e_ => by simp [Value.ownBlock] at e_; omega⟩) (fun _ _ => trivial) (hB0.mono hWb) (Nat.le_trans hWb hB0.size) ?aL ?_
    (case aL => simp only [List.length_nil]; omega)
    intro v1 w1 hr1 hB1_ hg1 hat1
    have hB1 := Rd.grown_new hB0 hg1 (by simp [Value.ownBlock])
    have hn1 := Rd.own_new hat1 hB0.size (by simp [Value.ownBlock])
    clear hB1_
    have hl1 := (hg1.block _ (blk_lt hl0) (by simp [Value.ownBlock])).trans hl0
    refine hK.out _ _ (hSk _ hB1) (fun hS => ?_)
    refine norm_ (a' := ?_) ?_ ?_
    rotate_left
    ·show Act.put _ (some 23) _ = _
     simp only [Act.put,zp1,zp2,zp3,zp4,zp5]
     rfl
    exact hcont (.slice (some ⟨W.heap.size + 1, 0, none⟩) 0 0, v1, .slice (some ⟨W.heap.size, 0, none⟩) 1 1) _ ⟨hB1, hr1, _, rfl, hl1, Rd.lit_ne2 hr1 hat1 (by simp [Value.ownBlock]) (by simp only [World.size_alloc]; omega), Nat.le_refl _, hn1⟩
  case tail =>
   rintro ⟨s88_, s91_, s96_⟩ wt ⟨hBt, hRt, gt, he_, hlt_, hnt, hgt, hot⟩
   simp only at he_ hRt hnt hot
   subst he_
   have hS := hSk _ hBt
   simp only [putAll, Act.put, List.setIfInBounds_toArray, List.set_cons_zero, List.set_cons_succ]
   refine one_ (i := 9) (N := some 26) (Sq.bl 13 1023) rfl rfl (by kernel_rfl) (by decide) (fun K hK => ?_)
   refine Kd.R_append_rows_step k40 (Rr := fun y' c_ => y' = y ∧ c_ = [.string y.f0, .int .i64 y.f1.f0, .int .u64 y.f1.f1, .string y.f2, .string y.f3, .string y.f4]) (w0 := W) base (by rfl) (.tmp 23) (.tmp 25) 22 40 (.agg #[(.string ⟨#[]⟩), (.int .i64 0), (.int .u64 0), (.string ⟨#[]⟩), (.string ⟨#[]⟩), (.string ⟨#[]⟩)]) 80 rfl Tryd.underlying22 info40 rfl (by decide) (by omega) s91_ xs [y] _ _ _ (fun _ => True) (fun k_ => k_ < W.heap.size) rfl rfl hRt (Rd.lit_reads y 6 rfl hlt_ (by intro u hu; simp at hu; rcases hu with rfl | rfl | rfl | rfl | rfl | rfl <;> rfl)) (fun y' c_ hy => by rw [hy.1, hy.2]; exact k40_mkM _ _ _ y) (fun k_ hk_ => ⟨trivial, fun e_ => by have := hot k_ e_.symm; omega⟩) (fun _ _ => trivial) (hBt.mono hWb) (Nat.le_trans hWb hBt.size) ?aL ?_
   (case aL => omega)
   intro v97 w97 hr97 hB97_ hg97 hat97
   obtain ⟨A97, c97, rfl⟩ := Kd.R_slice hr97
   have hB97 := Rd.grown_new hBt hg97 hot
   refine hK.out _ _ (HSK.out _ hB97) (fun hS => ?_)
   clear hK K
   refine norm_ (a' := ?_) ?_ ?_
   rotate_left
   ·show Act.put _ (some 26) _ = _
    simp only [Act.put,zp1,zp2,zp3,zp4,zp5]
    rfl
   refine Sq.pu (v := ?_) (a' := ?_) 10 27 (Sq.bl 13 2047) (by kernel_rfl) rfl rfl (fun _ _ _ h => h) (by rfl) ?_ ?_ ?_; rotate_left; (· intro w'; go_simp; with_reducible rfl); rotate_left; (· simp only [Act.put,zp1,zp2,zp3,zp4,zp5]; rfl)
   refine Sq.pu (v := ?_) (a' := ?_) 11 28 (Sq.bl 13 4095) (by kernel_rfl) rfl rfl (fun _ _ _ h => h) (by rfl) ?_ ?_ ?_; rotate_left; (· intro w'; go_simp; with_reducible rfl); rotate_left; (· simp only [Act.put,zp1,zp2,zp3,zp4,zp5]; rfl)
   refine last_ (i := 12) (N := none) (Sq.bl 13 8191) rfl rfl (by kernel_rfl) (by decide) (fun K hK => ?_)
   refine skip_ (w1 := ?_) (by rfl) rfl ?_ ?_
   rotate_left
   ·go_simp
    rfl
   refine hK.out _ _ ?_
   clear hK K
   refine done_ (by kernel_rfl) ?_
   have hL97 := (hB97.block _ hqW).trans hLd
   have hfin : LogY (w97.setCell ⟨q, 0, none⟩ (.slice A97 (xs ++ [y]).length c97)) base q (xs ++ [y]) := by
    refine ⟨_, (blk_set hL97 0 _).trans rfl, R_keep hr97 (fun k_ cs fz hk => Below.heap_setCell _ ⟨q, 0, none⟩ _ k_ (fun e => ?_))⟩
    subst e
    rw [hL97] at hk
    injection hk with hk
    injection hk with _ hk
    exact absurd hk (by decide)
   have hbel : Below base w0 (w97.setCell ⟨q, 0, none⟩ (.slice A97 (xs ++ [y]).length c97)) := ((HB.out.trans (hBw.mono hbw)).trans (hB97.mono hWb)).setCell hqb _
   have hsz : w.heap.size ≤ (w97.setCell ⟨q, 0, none⟩ (.slice A97 (xs ++ [y]).length c97)).heap.size := by
    have e : (w97.setCell ⟨q, 0, none⟩ (.slice A97 (xs ++ [y]).length c97)).heap.size = w97.heap.size := by simp [World.setCell]
    have := hBw.size
    have := hB97.size
    omega
   have hfar : ∀ z, z < w.heap.size → z ≠ q → (w97.setCell ⟨q, 0, none⟩ (.slice A97 (xs ++ [y]).length c97)).heap[z]? = w.heap[z]? := fun z hz hzq => (Below.heap_setCell _ ⟨q, 0, none⟩ _ z hzq).trans ((hB97.block _ (Nat.lt_of_lt_of_le hz hBw.size)).trans (hBw.block _ hz))
   have HF := Aside0.mk (And.intro hfin (And.intro hbel (And.intro hsz hfar)))
   clear hfin hbel hsz hfar hL97 hS hr97 hB97 hB97_ hg97 hat97 hRt hBt hlt_ hnt hgt hot hSk hCk hVd hLd hBd hBw HSK HV HL
   rw [show (xs ++ [y]).length = xs.length + 1 by simp] at HF
   go_wp2
   go_ret
   refine ⟨rfl, ?_, HF.out.2.1, HF.out.2.2.1, HF.out.2.2.2⟩
   rw [addX, if_pos rfl]
   exact HF.out.1
 ·have hne : (r != 0) = true := bne_iff_ne.mpr hr0
  have HR0 := Aside0.mk hr0
  clear hr0
  go_enter Tryd.func25, Tryd.ntmps25
  go_wp2_with (go_at_call 45; rw [← HW1.out]; (refine (jalousieref20_Check.calls k _ _ _ _ _ _ r _ HR.out).mono ?_); rintro e_ w2 ⟨rfl, hd⟩; have HD := Aside0.mk (HB1.out.trans (hd.mono HB1.out.size)); clear hd)
  go_ret
  refine ⟨rfl, ?_, HB.out.trans (HD.out.mono hbw), HD.out.size, fun z hz _ => HD.out.block z hz⟩
  rw [addX, if_neg HR0.out]
  exact LogY.below HX.out HD.out


end Go.Proofs.YtkinepmilnkhmaaDoor.A
end
section
namespace Go.Proofs.YtkinepmilnkhmaaDoor.A
open Go.RowKit Go.Proofs.YtkinepmilnkhmaaDoorW.PrintWords Go.Proofs.YtkinepmilnkhmaaDoorW.PrintLast Go.Proofs.YtkinepmilnkhmaaDoorW.PrintMore
attribute [local go_sem] max2_int min2_int max_two min_two max_three min_three max_four min_four   -- for this text's walks alone
set_option linter.unusedVariables false
set_option linter.unusedSimpArgs false

open Go.Maps Go.WideElems Go.MapKept
theorem LogY.aside {W W' : World} {base q p m : Nat} {xs ys : List S40} (hY : LogY W base q ys) (hX : LogX W base p m xs) (hf : ∀ z, z < W.heap.size → z ≠ p → z ≠ m → W'.heap[z]? = W.heap[z]?) : LogY W' base q ys := by
 obtain ⟨v, D, h1, _, ⟨es, clock, h3, _⟩, _⟩ := hX
 have key : ∀ (z t : Nat) (cs : Array Value) (fz : Nat × Nat), t ≠ 76 → W.heap[z]? = some (Obj.cells cs t fz) → W'.heap[z]? = W.heap[z]? := by
  intro z t cs fz ht hz
  refine hf z (blk_lt hz) ?_ ?_
  ·rintro rfl
   rw [h1] at hz
   injection hz with hz
   injection hz with _ hz
   exact ht hz.symm
  ·rintro rfl
   rw [h3] at hz
   cases hz
 have hY' := hY
 obtain ⟨u, h5, _⟩ := hY'
 exact hY.stay (key _ _ _ _ (by decide) h5) (fun k cs fz hk => key _ _ _ _ (by decide) hk)
theorem LogX.aside {W W' : World} {base q p m : Nat} {xs ys : List S40} (hX : LogX W base p m xs) (hY : LogY W base q ys) (hf : ∀ z, z < W.heap.size → z ≠ q → W'.heap[z]? = W.heap[z]?) : LogX W' base p m xs := by
 obtain ⟨u, h5, _⟩ := hY
 have key : ∀ (z t : Nat) (cs : Array Value) (fz : Nat × Nat), t ≠ 73 → W.heap[z]? = some (Obj.cells cs t fz) → W'.heap[z]? = W.heap[z]? := by
  intro z t cs fz ht hz
  refine hf z (blk_lt hz) ?_
  rintro rfl
  rw [h5] at hz
  injection hz with hz
  injection hz with _ hz
  exact ht hz.symm
 have hX' := hX
 obtain ⟨v, D, h1, _, ⟨es, clock, h3, _⟩, _⟩ := hX'
 refine hX.stay (key _ _ _ _ (by decide) h1) (hf m (blk_lt h3) ?_) (fun k cs fz hk => key _ _ _ _ (by decide) hk)
 rintro rfl
 rw [h5] at h3
 cases h3
/-- What is taken, of entries: those that are right, of the first 60. -/
def playL (ck : S40 → Int) (l : List S40) : List S40 := l.filter fun x => ck x == 0
theorem playL_len (ck : S40 → Int) (l : List S40) : (playL ck l).length ≤ l.length := List.length_filter_le _ _
theorem play_take (ck : S40 → Int) (xs : List S40) (i : Nat) (h : i < xs.length) (x : S40) (hx : xs[i]? = some x) : playL ck (xs.take (i + 1)) = addX (ck x) (playL ck (xs.take i)) x := by
 have e : xs[i] = x := by rw [List.getElem?_eq_getElem h] at hx; exact Option.some.inj hx
 unfold playL addX
 rw [List.take_succ_eq_append_getElem h, List.filter_append, e]
 by_cases hl : ck x = 0
 ·simp [hl]
 ·simp [hl]
set_option maxHeartbeats 8000000 in
set_option maxRecDepth 100000 in
theorem play.calls (k : Nat) (ck : S40 → Int) (A0 : Option Addr) (c0 : Nat) (l : List S40) (hka : ∀ x ∈ l, audit_Check.f k x = some (ck x)) (hkr : ∀ x ∈ l, jalousieref20_Check.f k x.f0 x.f1.f0 x.f1.f1 x.f2 x.f3 x.f4 = some (ck x)) (w : World) (hr0 : Kd.C k40 w A0 l.length l) (hc0 : l.length ≤ c0) (hwf : ∀ x ∈ l, lblWf x.f1) :
  Calls Tryd.prog 11 #[.slice A0 l.length c0] w fun e w' => ∃ p m q : Nat, e = .returned (.tuple #[.pointer (some ⟨p, 0, none⟩), .pointer (some ⟨q, 0, none⟩), .bool true]) ∧ w.heap.size ≤ p ∧ w.heap.size ≤ m ∧ w.heap.size ≤ q ∧ LogX w' w.heap.size p m (playL ck (l.take 60)) ∧ LogY w' w.heap.size q (playL ck (l.take 60)) ∧ Below w.heap.size w w' := by
 have HC := Aside0.mk hr0
 have HKA := Aside0.mk hka
 have HKR := Aside0.mk hkr
 have HWF := Aside0.mk hwf
 clear hr0 hka hkr hwf
 go_enter Tryd.func11, Tryd.ntmps11
 go_wp2_with (go_at_call 43; (refine (audit_New.calls _).mono ?_); rintro e_ w1 ⟨p, m, rfl, hp, hm, hX1, hb1⟩; have HX1 := Aside0.mk hX1; have HB1 := Aside0.mk hb1; clear hX1 hb1)
 have hs1 := HB1.out.size
 obtain ⟨q, hq⟩ : ∃ q, q = w1.heap.size := ⟨_, rfl⟩
 have HB2 : Aside0 (Below w.heap.size w (w1.alloc (.cells #[.slice none 0 0] 73 (0, 0)))) := ⟨HB1.out.alloc hs1 _⟩
 have HX2 : Aside0 (LogX (w1.alloc (.cells #[.slice none 0 0] 73 (0, 0))) w.heap.size p m []) := ⟨LogX.below HX1.out ((Below.refl _ _).alloc (Nat.le_refl _) _)⟩
 have HY2 : Aside0 (LogY (w1.alloc (.cells #[.slice none 0 0] 73 (0, 0))) w.heap.size q []) := ⟨⟨.slice none 0 0, by rw [hq]; exact World.alloc_heap_new w1 _, Kd.R_nil _ _ _ _ _⟩⟩
 have hqw : w.heap.size ≤ q := by omega
 rw [← hq]
 clear HX1 HB1 hq
 go_loopw [7] (fun vi wr => ∃ (i : Nat), i ≤ l.length ∧ i ≤ 60 ∧ vi = .int .i64 (i : Int) ∧ LogX wr w.heap.size p m (playL ck (l.take i)) ∧ LogY wr w.heap.size q (playL ck (l.take i)) ∧ Below w.heap.size w wr) (fun vi _ => 60 - (intOf vi).toNat)
 case atStart => exact ⟨0, Nat.zero_le _, Nat.zero_le _, rfl, HX2.out, HY2.out, HB2.out⟩
 case round =>
  obtain ⟨i, hi, hi6, rfl, hX, hY, hB⟩ := hrel
  have hpl := playL_len ck (l.take i)
  rw [List.length_take] at hpl
  by_cases hlt : i < l.length
  ·have hlt3 : decide ((i : Int) < (l.length : Int)) = true := decide_eq_true (by omega)
   by_cases h60 : i < 60
   ·have h603 : decide ((i : Int) < 60) = true := decide_eq_true (by omega)
    have hlt2 : ((i : Int) < (l.length : Int)) = True := eq_true (by omega)
    have hi0 : (0 ≤ (i : Int)) = True := eq_true (by omega)
    have HW : Aside0 (wrap64 ((i : Int) + 1) = ((i + 1 : Nat) : Int)) := ⟨by unfold wrap64; omega⟩
    obtain ⟨ad, hA, hx0, hx1, hx2, hx3, hx4, hx5⟩ := at_T40 HC.out (i : Int) (by omega) (by omega)
    subst hA
    have hget : l[i]? = some (rd_T40 l (i : Int)) := by
     unfold rd_T40
     rw [Int.toNat_natCast, List.getD_eq_getElem?_getD, List.getElem?_eq_getElem hlt]
     rfl
    rw [Int.toNat_natCast] at hx0 hx1 hx2 hx3 hx4 hx5
    have HST := Aside0.mk (play_take ck l i hlt _ hget)
    have hwx := HWF.out _ (List.mem_of_getElem? hget)
    have hck := HKA.out _ (List.mem_of_getElem? hget)
    have hcr := HKR.out _ (List.mem_of_getElem? hget)
    clear hget
    generalize rd_T40 l (i : Int) = x at hx0 hx1 hx2 hx3 hx4 hx5 HST hwx hck hcr
    obtain ⟨r, hr⟩ : ∃ r, r = ck x := ⟨_, rfl⟩
    rw [← hr] at hck hcr HST
    have HX := Aside0.mk hX
    have HY := Aside0.mk hY
    have HB := Aside0.mk hB
    have HCA := Aside0.mk hck
    have HCR := Aside0.mk hcr
    have HWX := Aside0.mk hwx
    obtain ⟨Wd, hWd⟩ : ∃ Wd : World, Wd = wr.drew := ⟨_, rfl⟩
    have HBd : Aside0 (Below w.heap.size w Wd) := ⟨by rw [hWd]; exact HB.out.drew⟩
    have HXd : Aside0 (LogX Wd w.heap.size p m (playL ck (l.take i))) := ⟨by rw [hWd]; exact LogX.below HX.out (Below.refl _ _).drew⟩
    have HYd : Aside0 (LogY Wd w.heap.size q (playL ck (l.take i))) := ⟨by rw [hWd]; exact LogY.below HY.out (Below.refl _ _).drew⟩
    have HE : Aside0 (∀ Y : World, Below w.heap.size w Y → Y.cell? (ad.add (i * 6)) = some (.string x.f0) ∧ Y.cell? ⟨(ad.add (i * 6)).block, (ad.add (i * 6)).off + 1, none⟩ = some (.int .i64 x.f1.f0) ∧ Y.cell? ⟨(ad.add (i * 6)).block, (ad.add (i * 6)).off + 2, none⟩ = some (.int .u64 x.f1.f1) ∧ Y.cell? ⟨(ad.add (i * 6)).block, (ad.add (i * 6)).off + 3, none⟩ = some (.string x.f2) ∧ Y.cell? ⟨(ad.add (i * 6)).block, (ad.add (i * 6)).off + 4, none⟩ = some (.string x.f3) ∧ Y.cell? ⟨(ad.add (i * 6)).block, (ad.add (i * 6)).off + 5, none⟩ = some (.string x.f4)) := ⟨fun Y hY => ⟨(hY.cell (World.block_lt_of_cell? _ _ hx0)).trans hx0, (hY.cell (World.block_lt_of_cell? _ _ hx1)).trans hx1, (hY.cell (World.block_lt_of_cell? _ _ hx2)).trans hx2, (hY.cell (World.block_lt_of_cell? _ _ hx3)).trans hx3, (hY.cell (World.block_lt_of_cell? _ _ hx4)).trans hx4, (hY.cell (World.block_lt_of_cell? _ _ hx5)).trans hx5⟩⟩
    have hpl2 : (playL ck (l.take i)).length ≤ 1000 := by omega
    clear hx0 hx1 hx2 hx3 hx4 hx5 hX hY hB hck hcr hwx hr
    go_wp2
    refine start_ (n := 26) (S := fun w' => w'.cell? (ad.add (i * 6)) = some (.string x.f0) ∧ w'.cell? ⟨(ad.add (i * 6)).block, (ad.add (i * 6)).off + 1, none⟩ = some (.int .i64 x.f1.f0) ∧ w'.cell? ⟨(ad.add (i * 6)).block, (ad.add (i * 6)).off + 2, none⟩ = some (.int .u64 x.f1.f1) ∧ w'.cell? ⟨(ad.add (i * 6)).block, (ad.add (i * 6)).off + 3, none⟩ = some (.string x.f2) ∧ w'.cell? ⟨(ad.add (i * 6)).block, (ad.add (i * 6)).off + 4, none⟩ = some (.string x.f3) ∧ w'.cell? ⟨(ad.add (i * 6)).block, (ad.add (i * 6)).off + 5, none⟩ = some (.string x.f4)) (ds := []) (Sq.bl 26 0) (by kernel_rfl) rfl (by rfl) (by rw [← hWd]; exact HE.out _ HBd.out) (fun hS => ?_)
    rw [← hWd] at hS ⊢
    refine Sq.pu (v := ?_) (a' := ?_) 0 25 (Sq.bl 26 1) (by kernel_rfl) rfl rfl (fun _ _ _ h => h) (by rfl) ?_ ?_ ?_; rotate_left; (· intro w'; go_simp; with_reducible rfl); rotate_left; (· simp only [Act.put,zp1,zp2,zp3,zp4,zp5]; rfl)
    refine Sq.pu (v := ?_) (a' := ?_) 1 26 (Sq.bl 26 3) (by kernel_rfl) rfl rfl (fun _ _ _ h => h) (by rfl) ?_ ?_ ?_; rotate_left; (· intro w'; go_simp; with_reducible rfl); rotate_left; (· simp only [Act.put,zp1,zp2,zp3,zp4,zp5]; rfl)
    refine Sq.pu (v := ?_) (a' := ?_) 2 27 (Sq.bl 26 7) (by kernel_rfl) rfl rfl (fun _ _ _ h => h) (by rfl) ?_ ?_ ?_; rotate_left; (· intro w'; go_simp; with_reducible rfl); rotate_left; (· simp only [Act.put,zp1,zp2,zp3,zp4,zp5]; rfl)
    refine Sq.pu (v := ?_) (a' := ?_) 5 30 (Sq.bl 26 39) (by kernel_rfl) rfl rfl (fun _ _ _ h => h) (by rfl) ?_ ?_ ?_; rotate_left; (· intro w'; go_simp; with_reducible rfl); rotate_left; (· simp only [Act.put,zp1,zp2,zp3,zp4,zp5]; rfl)
    refine Sq.pu (v := ?_) (a' := ?_) 6 31 (Sq.bl 26 103) (by kernel_rfl) rfl rfl (fun _ _ _ h => h) (by rfl) ?_ ?_ ?_; rotate_left; (· intro w'; go_simp; with_reducible rfl); rotate_left; (· simp only [Act.put,zp1,zp2,zp3,zp4,zp5]; rfl)
    refine Sq.pu (v := ?_) (a' := ?_) 7 32 (Sq.bl 26 231) (by kernel_rfl) rfl rfl (fun _ _ _ h => h) (by rfl) ?_ ?_ ?_; rotate_left; (· intro w'; go_simp; with_reducible rfl); rotate_left; (· simp only [Act.put,zp1,zp2,zp3,zp4,zp5]; rfl)
    refine take_ (i := 3) (N := some 28) (v := ?_) (a' := ?_) (Sq.bl 26 239) rfl rfl (by kernel_rfl) (fun _ _ _ h => h) (Or.inl ⟨by rfl, ?_⟩) hS ?_ ?_; rotate_left; (· rintro w' ⟨s0, s1, s2, s3, s4, s5⟩; go_simp; with_reducible rfl); rotate_left; (· simp only [Act.put,zp1,zp2,zp3,zp4,zp5]; rfl)
    refine take_ (i := 8) (N := some 33) (v := ?_) (a' := ?_) (Sq.bl 26 495) rfl rfl (by kernel_rfl) (fun _ _ _ h => h) (Or.inl ⟨by rfl, ?_⟩) hS ?_ ?_; rotate_left; (· rintro w' ⟨s0, s1, s2, s3, s4, s5⟩; go_simp; with_reducible rfl); rotate_left; (· simp only [Act.put,zp1,zp2,zp3,zp4,zp5]; rfl)
    refine one_ (i := 4) (N := some 29) (Sq.bl 26 511) rfl rfl (by kernel_rfl) (by decide) (fun K hK => ?_)
    refine goes_ Tryd.func44 (by kernel_rfl) rfl #[.agg #[.string x.f0, .int .i64 x.f1.f0, .int .u64 x.f1.f1, .string x.f2, .string x.f3, .string x.f4]] (by rfl) rfl rfl (by (try simp only [List.map_toArray, List.map_cons, List.map_nil]); first | done | rfl | skip) ?_
    refine (audit_Check.calls k x r _ HCA.out).mono ?_
    rintro e_ w4 ⟨rfl, hb4⟩
    have hB4 := HBd.out.trans (hb4.mono HBd.out.size)
    have hX4 := LogX.below HXd.out hb4
    have hY4 := LogY.below HYd.out hb4
    refine ⟨_, rfl, hK.out _ _ (HE.out _ hB4) (fun hS => ?_)⟩
    clear hK K
    refine norm_ (a' := ?_) ?_ ?_
    rotate_left
    ·show Act.put _ (some 29) _ = _
     simp only [Act.put,zp1,zp2,zp3,zp4,zp5]
     rfl
    refine one_ (i := 9) (N := some 34) (Sq.bl 26 1023) rfl rfl (by kernel_rfl) (by decide) (fun K hK => ?_)
    refine goes_ Tryd.func45 (by kernel_rfl) rfl #[.agg #[.string x.f0, .int .i64 x.f1.f0, .int .u64 x.f1.f1, .string x.f2, .string x.f3, .string x.f4]] (by rfl) rfl rfl (by (try simp only [List.map_toArray, List.map_cons, List.map_nil]); first | done | rfl | skip) ?_
    refine (jalousieref20_Check.calls k _ _ _ _ _ _ r _ HCR.out).mono ?_
    rintro e_ w9 ⟨rfl, hb9⟩
    have hB9 := hB4.trans (hb9.mono hB4.size)
    have hX9 := LogX.below hX4 hb9
    have hY9 := LogY.below hY4 hb9
    refine ⟨_, rfl, hK.out _ _ (HE.out _ hB9) (fun hS => ?_)⟩
    clear hK K
    refine norm_ (a' := ?_) ?_ ?_
    rotate_left
    ·show Act.put _ (some 34) _ = _
     simp only [Act.put,zp1,zp2,zp3,zp4,zp5]
     rfl
    refine Sq.pu (v := ?_) (a' := ?_) 10 35 (Sq.bl 26 2047) (by kernel_rfl) rfl rfl (fun _ _ _ h => h) (by rfl) ?_ ?_ ?_; rotate_left; (· intro w'; go_simp; with_reducible rfl); rotate_left; (· simp only [Act.put,zp1,zp2,zp3,zp4,zp5]; rfl)
    refine Sq.pu (v := ?_) (a' := ?_) 11 36 (Sq.bl 26 4095) (by kernel_rfl) rfl rfl (fun _ _ _ h => h) (by rfl) ?_ ?_ ?_; rotate_left; (· intro w'; go_simp; with_reducible rfl); rotate_left; (· simp only [Act.put,zp1,zp2,zp3,zp4,zp5]; rfl)
    refine Sq.pu (v := ?_) (a' := ?_) 12 37 (Sq.bl 26 8191) (by kernel_rfl) rfl rfl (fun _ _ _ h => h) (by rfl) ?_ ?_ ?_; rotate_left; (· intro w'; go_simp; with_reducible rfl); rotate_left; (· simp only [Act.put,zp1,zp2,zp3,zp4,zp5]; rfl)
    refine Sq.pu (v := ?_) (a' := ?_) 13 38 (Sq.bl 26 16383) (by kernel_rfl) rfl rfl (fun _ _ _ h => h) (by rfl) ?_ ?_ ?_; rotate_left; (· intro w'; go_simp; with_reducible rfl); rotate_left; (· simp only [Act.put,zp1,zp2,zp3,zp4,zp5]; rfl)
    refine Sq.pu (v := ?_) (a' := ?_) 14 39 (Sq.bl 26 32767) (by kernel_rfl) rfl rfl (fun _ _ _ h => h) (by rfl) ?_ ?_ ?_; rotate_left; (· intro w'; go_simp; with_reducible rfl); rotate_left; (· simp only [Act.put,zp1,zp2,zp3,zp4,zp5]; rfl)
    refine Sq.pu (v := ?_) (a' := ?_) 15 40 (Sq.bl 26 65535) (by kernel_rfl) rfl rfl (fun _ _ _ h => h) (by rfl) ?_ ?_ ?_; rotate_left; (· intro w'; go_simp; with_reducible rfl); rotate_left; (· simp only [Act.put,zp1,zp2,zp3,zp4,zp5]; rfl)
    refine Sq.pu (v := ?_) (a' := ?_) 18 43 (Sq.bl 26 327679) (by kernel_rfl) rfl rfl (fun _ _ _ h => h) (by rfl) ?_ ?_ ?_; rotate_left; (· intro w'; go_simp; with_reducible rfl); rotate_left; (· simp only [Act.put,zp1,zp2,zp3,zp4,zp5]; rfl)
    refine Sq.pu (v := ?_) (a' := ?_) 19 44 (Sq.bl 26 851967) (by kernel_rfl) rfl rfl (fun _ _ _ h => h) (by rfl) ?_ ?_ ?_; rotate_left; (· intro w'; go_simp; with_reducible rfl); rotate_left; (· simp only [Act.put,zp1,zp2,zp3,zp4,zp5]; rfl)
    refine Sq.pu (v := ?_) (a' := ?_) 20 45 (Sq.bl 26 1900543) (by kernel_rfl) rfl rfl (fun _ _ _ h => h) (by rfl) ?_ ?_ ?_; rotate_left; (· intro w'; go_simp; with_reducible rfl); rotate_left; (· simp only [Act.put,zp1,zp2,zp3,zp4,zp5]; rfl)
    refine Sq.pu (v := ?_) (a' := ?_) 21 46 (Sq.bl 26 3997695) (by kernel_rfl) rfl rfl (fun _ _ _ h => h) (by rfl) ?_ ?_ ?_; rotate_left; (· intro w'; go_simp; with_reducible rfl); rotate_left; (· simp only [Act.put,zp1,zp2,zp3,zp4,zp5]; rfl)
    refine take_ (i := 16) (N := some 41) (v := ?_) (a' := ?_) (Sq.bl 26 4063231) rfl rfl (by kernel_rfl) (fun _ _ _ h => h) (Or.inl ⟨by rfl, ?_⟩) hS ?_ ?_; rotate_left; (· rintro w' ⟨s0, s1, s2, s3, s4, s5⟩; go_simp; with_reducible rfl); rotate_left; (· simp only [Act.put,zp1,zp2,zp3,zp4,zp5]; rfl)
    refine take_ (i := 22) (N := some 47) (v := ?_) (a' := ?_) (Sq.bl 26 8257535) rfl rfl (by kernel_rfl) (fun _ _ _ h => h) (Or.inl ⟨by rfl, ?_⟩) hS ?_ ?_; rotate_left; (· rintro w' ⟨s0, s1, s2, s3, s4, s5⟩; go_simp; with_reducible rfl); rotate_left; (· simp only [Act.put,zp1,zp2,zp3,zp4,zp5]; rfl)
    refine one_ (i := 17) (N := some 42) (Sq.bl 26 8388607) rfl rfl (by kernel_rfl) (by decide) (fun K hK => ?_)
    refine goes_ Tryd.func22 (by kernel_rfl) rfl #[.pointer (some ⟨p, 0, none⟩), .agg #[.string x.f0, .int .i64 x.f1.f0, .int .u64 x.f1.f1, .string x.f2, .string x.f3, .string x.f4]] (by rfl) rfl rfl (by (try simp only [List.map_toArray, List.map_cons, List.map_nil]); first | done | rfl | skip) ?_
    refine (audit_Add.calls k w.heap.size p m w (playL ck (l.take i)) x HWX.out w9 hX9 hB9 hp hm hpl2 r HCA.out).mono ?_
    rintro e_ w17 ⟨rfl, hX17, hB17, hs17, hf17⟩
    have hY17 := LogY.aside hY9 hX9 hf17
    refine ⟨_, rfl, hK.out _ _ (HE.out _ hB17) (fun hS => ?_)⟩
    clear hK K
    refine norm_ (a' := ?_) ?_ ?_
    rotate_left
    ·show Act.put _ (some 42) _ = _
     simp only [Act.put,zp1,zp2,zp3,zp4,zp5]
     rfl
    refine one_ (i := 23) (N := some 48) (Sq.bl 26 16777215) rfl rfl (by kernel_rfl) (by decide) (fun K hK => ?_)
    refine goes_ Tryd.func25 (by kernel_rfl) rfl #[.pointer (some ⟨q, 0, none⟩), .agg #[.string x.f0, .int .i64 x.f1.f0, .int .u64 x.f1.f1, .string x.f2, .string x.f3, .string x.f4]] (by rfl) rfl rfl (by (try simp only [List.map_toArray, List.map_cons, List.map_nil]); first | done | rfl | skip) ?_
    refine (ref20_Add.calls k w.heap.size q w (playL ck (l.take i)) x w17 hY17 hB17 hqw hpl2 r HCR.out).mono ?_
    rintro e_ w23 ⟨rfl, hY23, hB23, hs23, hf23⟩
    have hX23 := LogX.aside hX17 hY17 hf23
    refine ⟨_, rfl, hK.out _ _ (HE.out _ hB23) (fun hS => ?_)⟩
    clear hK K
    refine norm_ (a' := ?_) ?_ ?_
    rotate_left
    ·show Act.put _ (some 48) _ = _
     simp only [Act.put,zp1,zp2,zp3,zp4,zp5]
     rfl
    refine Sq.pu (v := ?_) (a' := ?_) 24 49 (Sq.bl 26 33554431) (by kernel_rfl) rfl rfl (fun _ _ _ h => h) (by rfl) ?_ ?_ ?_; rotate_left; (· intro w'; go_simp; with_reducible rfl); rotate_left; (· simp only [Act.put,zp1,zp2,zp3,zp4,zp5]; rfl)
    refine Sq.pu (v := ?_) (a' := ?_) 25 50 (Sq.bl 26 67108863) (by kernel_rfl) rfl rfl (fun _ _ _ h => h) (by rfl) ?_ ?_ ?_; rotate_left; (· intro w'; go_simp; with_reducible rfl); rotate_left; (· simp only [Act.put,zp1,zp2,zp3,zp4,zp5]; rfl)
    refine done_ (by kernel_rfl) ?_
    have HF := Aside0.mk (And.intro hX23 (And.intro hY23 hB23))
    clear hX23 hY23 hB23 hf23 hs23 hf17 hs17 hX17 hY17 hB17 hX9 hY9 hB9 hX4 hY4 hB4 hb4 hb9 hS
    go_wp2
    go_roundw
    case rel => exact ⟨i + 1, by omega, by omega, by first | rfl | exact congrArg _ HW.out, by rw [HST.out]; exact HF.out.1, by rw [HST.out]; exact HF.out.2.1, HF.out.2.2⟩
    case measure => first | (rw [HW.out]; simp only [intOf, Int.toNat_natCast]; omega) | (simp only [intOf, Int.toNat_natCast]; omega)
   ·have h603 : decide ((i : Int) < 60) = false := decide_eq_false (by omega)
    have hi60 : i = 60 := by omega
    have hE : playL ck (l.take i) = playL ck (l.take 60) := by rw [hi60]
    rw [hE] at hX hY
    obtain ⟨v, hv, hR⟩ := hY
    obtain ⟨Av, cv, ev⟩ := Kd.R_slice hR
    subst ev
    have hvd := blk_drew hv
    have hXd : LogX wr.drew w.heap.size p m (playL ck (l.take 60)) := LogX.below hX (Below.refl _ _).drew
    have HXd := Aside0.mk hXd
    have HYd : Aside0 (LogY wr.drew w.heap.size q (playL ck (l.take 60))) := ⟨⟨_, hvd, Kd.R_drew hR⟩⟩
    have HB := Aside0.mk hB.drew
    clear hX hB hv hR hXd
    go_wp2
    refine start_ (n := 13) (S := fun w' => w'.cell? ⟨q, 0, none⟩ = some (.slice Av (playL ck (l.take 60)).length cv)) (ds := []) (Sq.bl 13 0) (by kernel_rfl) rfl (by rfl) ((blk_cell hvd 0).trans rfl) (fun hS => ?_)
    refine Sq.pu (v := ?_) (a' := ?_) 0 53 (Sq.bl 13 1) (by kernel_rfl) rfl rfl (fun _ _ _ h => h) (by rfl) ?_ ?_ ?_; rotate_left; (· intro w'; go_simp; with_reducible rfl); rotate_left; (· simp only [Act.put,zp1,zp2,zp3,zp4,zp5]; rfl)
    refine Sq.pu (v := ?_) (a' := ?_) 1 54 (Sq.bl 13 3) (by kernel_rfl) rfl rfl (fun _ _ _ h => h) (by rfl) ?_ ?_ ?_; rotate_left; (· intro w'; go_simp; with_reducible rfl); rotate_left; (· simp only [Act.put,zp1,zp2,zp3,zp4,zp5]; rfl)
    refine Sq.pu (v := ?_) (a' := ?_) 2 55 (Sq.bl 13 7) (by kernel_rfl) rfl rfl (fun _ _ _ h => h) (by rfl) ?_ ?_ ?_; rotate_left; (· intro w'; go_simp; with_reducible rfl); rotate_left; (· simp only [Act.put,zp1,zp2,zp3,zp4,zp5]; rfl)
    refine Sq.pu (v := ?_) (a' := ?_) 4 57 (Sq.bl 13 23) (by kernel_rfl) rfl rfl (fun _ _ _ h => h) (by rfl) ?_ ?_ ?_; rotate_left; (· intro w'; go_simp; with_reducible rfl); rotate_left; (· simp only [Act.put,zp1,zp2,zp3,zp4,zp5]; rfl)
    refine Sq.pu (v := ?_) (a' := ?_) 5 58 (Sq.bl 13 55) (by kernel_rfl) rfl rfl (fun _ _ _ h => h) (by rfl) ?_ ?_ ?_; rotate_left; (· intro w'; go_simp; with_reducible rfl); rotate_left; (· simp only [Act.put,zp1,zp2,zp3,zp4,zp5]; rfl)
    refine Sq.pu (v := ?_) (a' := ?_) 6 59 (Sq.bl 13 119) (by kernel_rfl) rfl rfl (fun _ _ _ h => h) (by rfl) ?_ ?_ ?_; rotate_left; (· intro w'; go_simp; with_reducible rfl); rotate_left; (· simp only [Act.put,zp1,zp2,zp3,zp4,zp5]; rfl)
    refine take_ (i := 7) (N := some 60) (v := ?_) (a' := ?_) (Sq.bl 13 247) rfl rfl (by kernel_rfl) (fun _ _ _ h => h) (Or.inl ⟨by rfl, ?_⟩) hS ?_ ?_; rotate_left; (· rintro w' s0; go_simp; with_reducible rfl); rotate_left; (· simp only [Act.put,zp1,zp2,zp3,zp4,zp5]; rfl)
    refine Sq.pu (v := ?_) (a' := ?_) 8 61 (Sq.bl 13 503) (by kernel_rfl) rfl rfl (fun _ _ _ h => h) (by rfl) ?_ ?_ ?_; rotate_left; (· intro w'; go_simp; with_reducible rfl); rotate_left; (· simp only [Act.put,zp1,zp2,zp3,zp4,zp5]; rfl)
    refine one_ (i := 3) (N := some 56) (Sq.bl 13 511) rfl rfl (by kernel_rfl) (by decide) (fun K hK => ?_)
    refine goes_ Tryd.func26 (by kernel_rfl) rfl #[.pointer (some ⟨p, 0, none⟩)] (by rfl) rfl rfl (by (try simp only [List.map_toArray, List.map_cons, List.map_nil]); first | done | rfl | skip) ?_
    refine (audit_Len.calls w.heap.size p m _ _ HXd.out).mono ?_
    rintro e_ w3 ⟨rfl, e3⟩
    subst e3
    refine ⟨_, rfl, hK.out _ _ ((blk_cell hvd 0).trans rfl) (fun hS => ?_)⟩
    clear hK K
    refine norm_ (a' := ?_) ?_ ?_
    rotate_left
    ·show Act.put _ (some 56) _ = _
     simp only [Act.put,zp1,zp2,zp3,zp4,zp5]
     rfl
    refine Sq.pu (v := ?_) (a' := ?_) 9 62 (Sq.bl 13 1023) (by kernel_rfl) rfl rfl (fun _ _ _ h => h) (by rfl) ?_ ?_ ?_; rotate_left; (· intro w'; go_simp; with_reducible rfl); rotate_left; (· simp only [Act.put,zp1,zp2,zp3,zp4,zp5]; rfl)
    refine Sq.pu (v := ?_) (a' := ?_) 10 2 (Sq.bl 13 2047) (by kernel_rfl) rfl rfl (fun _ _ _ h => h) (by rfl) ?_ ?_ ?_; rotate_left; (· intro w'; go_simp; with_reducible rfl); rotate_left; (· simp only [Act.put,zp1,zp2,zp3,zp4,zp5]; rfl)
    refine Sq.pu (v := ?_) (a' := ?_) 11 3 (Sq.bl 13 4095) (by kernel_rfl) rfl rfl (fun _ _ _ h => h) (by rfl) ?_ ?_ ?_; rotate_left; (· intro w'; go_simp; with_reducible rfl); rotate_left; (· simp only [Act.put,zp1,zp2,zp3,zp4,zp5]; rfl)
    refine Sq.pu (v := ?_) (a' := ?_) 12 4 (Sq.bl 13 8191) (by kernel_rfl) rfl rfl (fun _ _ _ h => h) (by rfl) ?_ ?_ ?_; rotate_left; (· intro w'; go_simp; with_reducible rfl); rotate_left; (· simp only [Act.put,zp1,zp2,zp3,zp4,zp5]; rfl)
    refine done_ (by kernel_rfl) ?_
    go_wp2
    go_ret3
    exact ⟨p, m, q, rfl, hp, hm, hqw, HXd.out, HYd.out, HB.out⟩
  ·have hlt3 : decide ((i : Int) < (l.length : Int)) = false := decide_eq_false (by omega)
   have hE : playL ck (l.take i) = playL ck (l.take 60) := by rw [List.take_of_length_le (by omega), List.take_of_length_le (by omega)]
   rw [hE] at hX hY
   obtain ⟨v, hv, hR⟩ := hY
   obtain ⟨Av, cv, ev⟩ := Kd.R_slice hR
   subst ev
   have hvd := blk_drew hv
   have hXd : LogX wr.drew w.heap.size p m (playL ck (l.take 60)) := LogX.below hX (Below.refl _ _).drew
   have HXd := Aside0.mk hXd
   have HYd : Aside0 (LogY wr.drew w.heap.size q (playL ck (l.take 60))) := ⟨⟨_, hvd, Kd.R_drew hR⟩⟩
   have HB := Aside0.mk hB.drew
   clear hX hB hv hR hXd
   go_wp2
   refine start_ (n := 13) (S := fun w' => w'.cell? ⟨q, 0, none⟩ = some (.slice Av (playL ck (l.take 60)).length cv)) (ds := []) (Sq.bl 13 0) (by kernel_rfl) rfl (by rfl) ((blk_cell hvd 0).trans rfl) (fun hS => ?_)
   refine Sq.pu (v := ?_) (a' := ?_) 0 53 (Sq.bl 13 1) (by kernel_rfl) rfl rfl (fun _ _ _ h => h) (by rfl) ?_ ?_ ?_; rotate_left; (· intro w'; go_simp; with_reducible rfl); rotate_left; (· simp only [Act.put,zp1,zp2,zp3,zp4,zp5]; rfl)
   refine Sq.pu (v := ?_) (a' := ?_) 1 54 (Sq.bl 13 3) (by kernel_rfl) rfl rfl (fun _ _ _ h => h) (by rfl) ?_ ?_ ?_; rotate_left; (· intro w'; go_simp; with_reducible rfl); rotate_left; (· simp only [Act.put,zp1,zp2,zp3,zp4,zp5]; rfl)
   refine Sq.pu (v := ?_) (a' := ?_) 2 55 (Sq.bl 13 7) (by kernel_rfl) rfl rfl (fun _ _ _ h => h) (by rfl) ?_ ?_ ?_; rotate_left; (· intro w'; go_simp; with_reducible rfl); rotate_left; (· simp only [Act.put,zp1,zp2,zp3,zp4,zp5]; rfl)
   refine Sq.pu (v := ?_) (a' := ?_) 4 57 (Sq.bl 13 23) (by kernel_rfl) rfl rfl (fun _ _ _ h => h) (by rfl) ?_ ?_ ?_; rotate_left; (· intro w'; go_simp; with_reducible rfl); rotate_left; (· simp only [Act.put,zp1,zp2,zp3,zp4,zp5]; rfl)
   refine Sq.pu (v := ?_) (a' := ?_) 5 58 (Sq.bl 13 55) (by kernel_rfl) rfl rfl (fun _ _ _ h => h) (by rfl) ?_ ?_ ?_; rotate_left; (· intro w'; go_simp; with_reducible rfl); rotate_left; (· simp only [Act.put,zp1,zp2,zp3,zp4,zp5]; rfl)
   refine Sq.pu (v := ?_) (a' := ?_) 6 59 (Sq.bl 13 119) (by kernel_rfl) rfl rfl (fun _ _ _ h => h) (by rfl) ?_ ?_ ?_; rotate_left; (· intro w'; go_simp; with_reducible rfl); rotate_left; (· simp only [Act.put,zp1,zp2,zp3,zp4,zp5]; rfl)
   refine take_ (i := 7) (N := some 60) (v := ?_) (a' := ?_) (Sq.bl 13 247) rfl rfl (by kernel_rfl) (fun _ _ _ h => h) (Or.inl ⟨by rfl, ?_⟩) hS ?_ ?_; rotate_left; (· rintro w' s0; go_simp; with_reducible rfl); rotate_left; (· simp only [Act.put,zp1,zp2,zp3,zp4,zp5]; rfl)
   refine Sq.pu (v := ?_) (a' := ?_) 8 61 (Sq.bl 13 503) (by kernel_rfl) rfl rfl (fun _ _ _ h => h) (by rfl) ?_ ?_ ?_; rotate_left; (· intro w'; go_simp; with_reducible rfl); rotate_left; (· simp only [Act.put,zp1,zp2,zp3,zp4,zp5]; rfl)
   refine one_ (i := 3) (N := some 56) (Sq.bl 13 511) rfl rfl (by kernel_rfl) (by decide) (fun K hK => ?_)
   refine goes_ Tryd.func26 (by kernel_rfl) rfl #[.pointer (some ⟨p, 0, none⟩)] (by rfl) rfl rfl (by (try simp only [List.map_toArray, List.map_cons, List.map_nil]); first | done | rfl | skip) ?_
   refine (audit_Len.calls w.heap.size p m _ _ HXd.out).mono ?_
   rintro e_ w3 ⟨rfl, e3⟩
   subst e3
   refine ⟨_, rfl, hK.out _ _ ((blk_cell hvd 0).trans rfl) (fun hS => ?_)⟩
   clear hK K
   refine norm_ (a' := ?_) ?_ ?_
   rotate_left
   ·show Act.put _ (some 56) _ = _
    simp only [Act.put,zp1,zp2,zp3,zp4,zp5]
    rfl
   refine Sq.pu (v := ?_) (a' := ?_) 9 62 (Sq.bl 13 1023) (by kernel_rfl) rfl rfl (fun _ _ _ h => h) (by rfl) ?_ ?_ ?_; rotate_left; (· intro w'; go_simp; with_reducible rfl); rotate_left; (· simp only [Act.put,zp1,zp2,zp3,zp4,zp5]; rfl)
   refine Sq.pu (v := ?_) (a' := ?_) 10 2 (Sq.bl 13 2047) (by kernel_rfl) rfl rfl (fun _ _ _ h => h) (by rfl) ?_ ?_ ?_; rotate_left; (· intro w'; go_simp; with_reducible rfl); rotate_left; (· simp only [Act.put,zp1,zp2,zp3,zp4,zp5]; rfl)
   refine Sq.pu (v := ?_) (a' := ?_) 11 3 (Sq.bl 13 4095) (by kernel_rfl) rfl rfl (fun _ _ _ h => h) (by rfl) ?_ ?_ ?_; rotate_left; (· intro w'; go_simp; with_reducible rfl); rotate_left; (· simp only [Act.put,zp1,zp2,zp3,zp4,zp5]; rfl)
   refine Sq.pu (v := ?_) (a' := ?_) 12 4 (Sq.bl 13 8191) (by kernel_rfl) rfl rfl (fun _ _ _ h => h) (by rfl) ?_ ?_ ?_; rotate_left; (· intro w'; go_simp; with_reducible rfl); rotate_left; (· simp only [Act.put,zp1,zp2,zp3,zp4,zp5]; rfl)
   refine done_ (by kernel_rfl) ?_
   go_wp2
   go_ret3
   exact ⟨p, m, q, rfl, hp, hm, hqw, HXd.out, HYd.out, HB.out⟩


end Go.Proofs.YtkinepmilnkhmaaDoor.A
end
section
namespace Go.Proofs.YtkinepmilnkhmaaDoor.A
open Go.RowKit Go.Proofs.YtkinepmilnkhmaaDoorW.PrintWords Go.Proofs.YtkinepmilnkhmaaDoorW.PrintLast Go.Proofs.YtkinepmilnkhmaaDoorW.PrintMore
set_option linter.unusedVariables false
set_option linter.unusedSimpArgs false
theorem low_bel (x o : S25) : bel x o = lowB x o := Option.some.inj ((bel_some x o).symm.trans (low_f x o))
theorem low_ev {x o : S25} (hx : ok25 x) (ho : ok25 o) : ∃ K, ∀ k, K ≤ k → jalousieref02_Below.f k x.f0 x.f1 o.f0 o.f1 = some (lowB x o) := by
  obtain ⟨K, hK⟩ := below_ev hx ho
  exact ⟨K, fun k hk => by rw [← low_bel]; exact hK k hk⟩
theorem ann_ok : chkE eAnn = 0 := by decide +kernel
theorem bob_ok : chkE eBob = 0 := by decide +kernel
theorem chk_all (l : List S40) (h : ∀ x ∈ l, ok40 x) : ∃ K, ∀ k, K ≤ k → ∀ x ∈ l, audit_Check.f k x = some (chkE x) ∧ jalousieref20_Check.f k x.f0 x.f1.f0 x.f1.f1 x.f2 x.f3 x.f4 = some (chkE x) :=
  all_rounds _ l fun x hx => chk_ev x (h x hx).1 (h x hx).2.2.1 (h x hx).2.2.2.1 (h x hx).2.2.2.2
theorem live_rounds : ∃ K, ∀ k, K ≤ k → audit_Check.f k eAnn = some 0 ∧ audit_Check.f k eBob = some 0 := by
  obtain ⟨K1, h1⟩ := chk_ev eAnn (by decide) (by decide) (by decide) (by decide)
  obtain ⟨K2, h2⟩ := chk_ev eBob (by decide) (by decide) (by decide) (by decide)
  refine ⟨K1 + K2, fun k hk => ?_⟩
  have e1 := (h1 k (by omega)).1
  have e2 := (h2 k (by omega)).1
  rw [ann_ok] at e1
  rw [bob_ok] at e2
  exact ⟨e1, e2⟩
theorem low_all (l : List S40) (o : S25) (ho : ok25 o) (h : ∀ x ∈ l, ok40 x) : ∃ K, ∀ k, K ≤ k → ∀ x ∈ l, jalousieref02_Below.f k x.f1.f0 x.f1.f1 o.f0 o.f1 = some (lowB x.f1 o) :=
  all_rounds _ l fun x hx => low_ev (h x hx).2.1 ho
end Go.Proofs.YtkinepmilnkhmaaDoor.A
end
section
namespace Go.Proofs.YtkinepmilnkhmaaDoor.A
open Go.RowKit Go.Proofs.YtkinepmilnkhmaaDoorW.PrintWords Go.Proofs.YtkinepmilnkhmaaDoorW.PrintLast Go.Proofs.YtkinepmilnkhmaaDoorW.PrintMore
attribute [local go_sem] max2_int min2_int max_two min_two max_three min_three max_four min_four   -- for this text's walks alone
set_option linter.unusedVariables false
set_option linter.unusedSimpArgs false

theorem eqA25 (d : Nat) (w : World) (x0 y0 : Int) (x1 y1 : Int) :
    (Op.equalIn (d + 2) 25 (.agg #[.int .i64 x0, .int .u64 x1]) (.agg #[.int .i64 y0, .int .u64 y1])).run Tryd.prog w = .ok (x0 == y0 && (x1 == y1)) w := by
  refine eqA_of Tryd.underlying25 (by kernel_rfl) ?_
  refine eqf_cons (by rfl) (by go_simp; rfl) (by go_simp; rfl) (by go_simp) ?_
  exact eqf_last (by rfl) (by go_simp; rfl) (by go_simp; rfl) (by go_simp)
theorem eqA40 (d : Nat) (w : World) (x0 y0 : ByteArray) (x1 y1 : Int) (x2 y2 : Int) (x3 y3 : ByteArray) (x4 y4 : ByteArray) (x5 y5 : ByteArray) :
    (Op.equalIn (d + 3) 40 (.agg #[.string x0, .int .i64 x1, .int .u64 x2, .string x3, .string x4, .string x5]) (.agg #[.string y0, .int .i64 y1, .int .u64 y2, .string y3, .string y4, .string y5])).run Tryd.prog w = .ok (x0.toList == y0.toList && ((x1 == y1 && (x2 == y2)) && (x3.toList == y3.toList && (x4.toList == y4.toList && (x5.toList == y5.toList))))) w := by
  refine eqA_of Tryd.underlying40 (by kernel_rfl) ?_
  refine eqf_cons (by rfl) (by go_simp; rfl) (by go_simp; rfl) (by go_simp) ?_
  refine eqf_cons (by rfl) (by go_simp) (by go_simp) (eqA25 (d + 0) w _ _ _ _) ?_
  refine eqf_cons (by rfl) (by go_simp; rfl) (by go_simp; rfl) (by go_simp) ?_
  refine eqf_cons (by rfl) (by go_simp; rfl) (by go_simp; rfl) (by go_simp) ?_
  exact eqf_last (by rfl) (by go_simp; rfl) (by go_simp; rfl) (by go_simp)
end Go.Proofs.YtkinepmilnkhmaaDoor.A
end
section
namespace Go.Proofs.YtkinepmilnkhmaaDoor.A
open Go.RowKit Go.Proofs.YtkinepmilnkhmaaDoorW.PrintWords Go.Proofs.YtkinepmilnkhmaaDoorW.PrintLast Go.Proofs.YtkinepmilnkhmaaDoorW.PrintMore
attribute [local go_sem] max2_int min2_int max_two min_two max_three min_three max_four min_four   -- for this text's walks alone
set_option linter.unusedVariables false
set_option linter.unusedSimpArgs false

attribute [local go_sem high] eqA40
def jalousieref20_Same.l0 : Nat → List (S40) → List (S40) → Int → Option (Bool)
 | 0, _, _, _ => none
 | k + 1, x0, x1, x5 => if x5 < (x0.length : Int) then (if 0 ≤ x5 then (if x5 < (x1.length : Int) then (if (!((((rd_T40 x0 x5).f0).toList) == (((rd_T40 x1 x5).f0).toList)) || ((!(((rd_T40 x0 x5).f1.f0) == ((rd_T40 x1 x5).f1.f0)) || (!(((rd_T40 x0 x5).f1.f1) == ((rd_T40 x1 x5).f1.f1)))) || (!((((rd_T40 x0 x5).f2).toList) == (((rd_T40 x1 x5).f2).toList)) || (!((((rd_T40 x0 x5).f3).toList) == (((rd_T40 x1 x5).f3).toList)) || (!((((rd_T40 x0 x5).f4).toList) == (((rd_T40 x1 x5).f4).toList))))))) = true then (some false) else (jalousieref20_Same.l0 k x0 x1 (wrap64 (x5 + 1)))) else (none)) else (none)) else (some true)
def jalousieref20_Same.f (k : Nat) (l0 : List (S40)) (l1 : List (S40)) : Option (Bool) := if (l0.length : Int) = (l1.length : Int) then (jalousieref20_Same.l0 k l0 l1 0) else (some false)
set_option maxHeartbeats 8000000 in
set_option maxRecDepth 100000 in
theorem jalousieref20_Same.calls (k : Nat) (A0 : Option Addr) (c0 : Nat) (l0 : List (S40)) (A1 : Option Addr) (c1 : Nat) (l1 : List (S40)) (r : Bool) (w : World) (hr0 : Kd.C k40 w A0 l0.length l0) (hc0 : l0.length ≤ c0) (hr1 : Kd.C k40 w A1 l1.length l1) (hc1 : l1.length ≤ c1) (h : jalousieref20_Same.f k l0 l1 = some r) :
  Calls Tryd.prog 16 #[.slice A0 l0.length c0, .slice A1 l1.length c1] w fun e w' => e = .returned (.bool r) ∧ Drawn0 w w' := by
 have hu40 := Tryd.underlying40
 have HR0 := Aside0.mk hr0
 have HC0 := Aside0.mk hc0
 clear hr0 hc0
 have HR1 := Aside0.mk hr1
 have HC1 := Aside0.mk hc1
 clear hr1 hc1
 have H : (if (l0.length : Int) = (l1.length : Int) then (jalousieref20_Same.l0 k l0 l1 0) else (some false)) = some r := h
 clear h
 by_cases c3 : (l0.length : Int) = (l1.length : Int)
 ·rw [if_pos c3] at H
  have c3b0 : ((l0.length : Int) == (l1.length : Int)) = true := beq_iff_eq.mpr c3
  have c3b1 : ((l0.length : Int) != (l1.length : Int)) = false := bne_eq_false_iff_eq.mpr c3
  have c3b2 : (l0.length == l1.length) = true := by first | simpa using c3 | (simp at c3 ⊢; omega)
  clear c3
  have H' := Aside0.mk H
  clear H
  go_enter Tryd.func16, Tryd.ntmps16
  go_wp2
  repeat (go_quiet (fail); try go_wp2)
  go_loopg [5] k (fun kq v5 w' => ∃ (x5_1 : Int), v5 = .int .i64 x5_1 ∧ Aside0 (jalousieref20_Same.l0 kq l0 l1 x5_1 = some r) ∧ Aside0 (kq ≤ k) ∧ Drawn0 w w')
  case atStart => exact ⟨(0), (by first | rfl | (simp; done) | (simp [*]; done)), H', ⟨Nat.le_refl _⟩, by repeat (first | exact Drawn0.refl _ | apply Drawn0.step)⟩
  case round =>
   clear H'
   try clear c1
   try clear p2
   try clear c3
   try clear c3b0
   try clear c3b1
   try clear c3b2
   obtain ⟨x5_1, rfl, HA, HK1, ⟨m1, rfl⟩⟩ := hrel
   cases gk with
   | zero => exact absurd HA.out (by simp [jalousieref20_Same.l0])
   | succ k1 =>
    have H := HA.out
    clear HA
    simp only [jalousieref20_Same.l0] at H
    by_cases c4 : x5_1 < (l0.length : Int)
    ·rw [if_pos c4] at H
     have c4b0 : decide (x5_1 < (l0.length : Int)) = true := decide_eq_true c4
     clear c4
     by_cases c5 : 0 ≤ x5_1
     ·rw [if_pos c5] at H
      have c5b0 : decide (0 ≤ x5_1) = true := decide_eq_true c5
      clear c5
      by_cases c6 : x5_1 < (l1.length : Int)
      ·rw [if_pos c6] at H
       have c6b0 : decide (x5_1 < (l1.length : Int)) = true := decide_eq_true c6
       clear c6
       by_cases c7 : (!((((rd_T40 l0 x5_1).f0).toList) == (((rd_T40 l1 x5_1).f0).toList)) || ((!(((rd_T40 l0 x5_1).f1.f0) == ((rd_T40 l1 x5_1).f1.f0)) || (!(((rd_T40 l0 x5_1).f1.f1) == ((rd_T40 l1 x5_1).f1.f1)))) || (!((((rd_T40 l0 x5_1).f2).toList) == (((rd_T40 l1 x5_1).f2).toList)) || (!((((rd_T40 l0 x5_1).f3).toList) == (((rd_T40 l1 x5_1).f3).toList)) || (!((((rd_T40 l0 x5_1).f4).toList) == (((rd_T40 l1 x5_1).f4).toList))))))) = true
       ·rw [if_pos c7] at H
        have c7b0 : (!((((rd_T40 l0 x5_1).f0).toList) == (((rd_T40 l1 x5_1).f0).toList)) || ((!(((rd_T40 l0 x5_1).f1.f0) == ((rd_T40 l1 x5_1).f1.f0)) || (!(((rd_T40 l0 x5_1).f1.f1) == ((rd_T40 l1 x5_1).f1.f1)))) || (!((((rd_T40 l0 x5_1).f2).toList) == (((rd_T40 l1 x5_1).f2).toList)) || (!((((rd_T40 l0 x5_1).f3).toList) == (((rd_T40 l1 x5_1).f3).toList)) || (!((((rd_T40 l0 x5_1).f4).toList) == (((rd_T40 l1 x5_1).f4).toList))))))) = true := c7
        clear c7
        obtain rfl := Option.some.inj H
        have p112 : 0 ≤ (x5_1 : Int) := of_decide_eq_true (by first | (with_reducible assumption) | assumption)
        have q112 : x5_1 < (l0.length : Int) := of_decide_eq_true (by first | (with_reducible assumption) | assumption)
        obtain ⟨ad112, e112, hx112_0, hx112_1, hx112_2, hx112_3, hx112_4, hx112_5⟩ := at_T40 HR0.out x5_1 p112 q112
        cases e112
        replace p112 := eq_true p112
        replace q112 := eq_true q112
        have p113 : 0 ≤ (x5_1 : Int) := of_decide_eq_true (by first | (with_reducible assumption) | assumption)
        have q113 : x5_1 < (l1.length : Int) := of_decide_eq_true (by first | (with_reducible assumption) | assumption)
        obtain ⟨ad113, e113, hx113_0, hx113_1, hx113_2, hx113_3, hx113_4, hx113_5⟩ := at_T40 HR1.out x5_1 p113 q113
        cases e113
        replace p113 := eq_true p113
        replace q113 := eq_true q113
        go_wp2
        repeat (go_quiet (fail); try go_wp2)
        go_ret
        exact ⟨by first | rfl | (simp; done) | (simp [*]; done), by repeat (first | exact Drawn0.refl _ | apply Drawn0.step)⟩
       ·rw [if_neg c7] at H
        have c7b0 : (!((((rd_T40 l0 x5_1).f0).toList) == (((rd_T40 l1 x5_1).f0).toList)) || ((!(((rd_T40 l0 x5_1).f1.f0) == ((rd_T40 l1 x5_1).f1.f0)) || (!(((rd_T40 l0 x5_1).f1.f1) == ((rd_T40 l1 x5_1).f1.f1)))) || (!((((rd_T40 l0 x5_1).f2).toList) == (((rd_T40 l1 x5_1).f2).toList)) || (!((((rd_T40 l0 x5_1).f3).toList) == (((rd_T40 l1 x5_1).f3).toList)) || (!((((rd_T40 l0 x5_1).f4).toList) == (((rd_T40 l1 x5_1).f4).toList))))))) = false := by simpa using c7
        clear c7
        have H' := Aside0.mk H
        clear H
        have p112 : 0 ≤ (x5_1 : Int) := of_decide_eq_true (by first | (with_reducible assumption) | assumption)
        have q112 : x5_1 < (l0.length : Int) := of_decide_eq_true (by first | (with_reducible assumption) | assumption)
        obtain ⟨ad112, e112, hx112_0, hx112_1, hx112_2, hx112_3, hx112_4, hx112_5⟩ := at_T40 HR0.out x5_1 p112 q112
        cases e112
        replace p112 := eq_true p112
        replace q112 := eq_true q112
        have p113 : 0 ≤ (x5_1 : Int) := of_decide_eq_true (by first | (with_reducible assumption) | assumption)
        have q113 : x5_1 < (l1.length : Int) := of_decide_eq_true (by first | (with_reducible assumption) | assumption)
        obtain ⟨ad113, e113, hx113_0, hx113_1, hx113_2, hx113_3, hx113_4, hx113_5⟩ := at_T40 HR1.out x5_1 p113 q113
        cases e113
        replace p113 := eq_true p113
        replace q113 := eq_true q113
        go_wp2
        repeat (go_quiet (fail); try go_wp2)
        go_roundg k1
        case measure => have := HK1.out; omega
        case rel => exact ⟨(wrap64 (x5_1 + 1)), (by first | rfl | (simp; done) | (simp [*]; done)), H', ⟨by have := HK1.out; omega⟩, by repeat (first | exact Drawn0.refl _ | apply Drawn0.step)⟩
      ·rw [if_neg c6] at H
       exact absurd H (by simp)
     ·rw [if_neg c5] at H
      exact absurd H (by simp)
    ·rw [if_neg c4] at H
     have c4b0 : decide (x5_1 < (l0.length : Int)) = false := decide_eq_false c4
     clear c4
     obtain rfl := Option.some.inj H
     go_wp2
     repeat (go_quiet (fail); try go_wp2)
     go_ret
     exact ⟨by first | rfl | (simp; done) | (simp [*]; done), by repeat (first | exact Drawn0.refl _ | apply Drawn0.step)⟩
 ·rw [if_neg c3] at H
  have c3b0 : ((l0.length : Int) == (l1.length : Int)) = false := beq_eq_false_iff_ne.mpr c3
  have c3b1 : ((l0.length : Int) != (l1.length : Int)) = true := bne_iff_ne.mpr c3
  have c3b2 : (l0.length == l1.length) = false := by first | simpa using c3 | (simp at c3 ⊢; omega)
  obtain rfl := Option.some.inj H
  go_enter Tryd.func16, Tryd.ntmps16
  go_wp2
  repeat (go_quiet (fail); try go_wp2)
  go_ret
  exact ⟨by first | rfl | (simp; done) | (simp [*]; done), by repeat (first | exact Drawn0.refl _ | apply Drawn0.step)⟩

end Go.Proofs.YtkinepmilnkhmaaDoor.A
end
section
namespace Go.Proofs.YtkinepmilnkhmaaDoor.A
open Go.RowKit Go.Proofs.YtkinepmilnkhmaaDoorW.PrintWords Go.Proofs.YtkinepmilnkhmaaDoorW.PrintLast Go.Proofs.YtkinepmilnkhmaaDoorW.PrintMore
set_option linter.unusedVariables false
set_option linter.unusedSimpArgs false
theorem same_ev (L : List S40) (hL : L.length ≤ 1000) : ∃ K, ∀ k, K ≤ k → jalousieref20_Same.f k L L = some true := by
  have key : ∀ d i : Nat, i + d = L.length → ∀ k, d + 1 ≤ k → jalousieref20_Same.l0 k L L (i : Int) = some true := by
    intro d
    induction d with
    | zero =>
      intro i h k hk
      obtain ⟨m, rfl⟩ : ∃ m, k = m + 1 := ⟨k - 1, by omega⟩
      simp only [jalousieref20_Same.l0]
      rw [if_neg (by omega)]
    | succ d ih =>
      intro i h k hk
      obtain ⟨m, rfl⟩ : ∃ m, k = m + 1 := ⟨k - 1, by omega⟩
      have hn := ih (i + 1) (by omega) m (by omega)
      rw [← w64s i (by omega)] at hn
      simp only [jalousieref20_Same.l0]
      rw [if_pos (by omega), if_pos (by omega), if_pos (by omega), if_neg (by simp)]
      exact hn
  refine ⟨L.length + 1, fun k hk => ?_⟩
  unfold jalousieref20_Same.f
  rw [if_pos rfl]
  exact key L.length 0 (by omega) k hk
end Go.Proofs.YtkinepmilnkhmaaDoor.A
end
section
namespace Go.Proofs.YtkinepmilnkhmaaDoor.A
open Go.RowKit Go.Proofs.YtkinepmilnkhmaaDoorW.PrintWords Go.Proofs.YtkinepmilnkhmaaDoorW.PrintLast Go.Proofs.YtkinepmilnkhmaaDoorW.PrintMore
attribute [local go_sem] max2_int min2_int max_two min_two max_three min_three max_four min_four   -- for this text's walks alone
set_option linter.unusedVariables false
set_option linter.unusedSimpArgs false

open Go.Maps Go.WideElems Go.MapKept
theorem cnt_take (a : S25) (xs : List S40) (i : Nat) (h : i < xs.length) (x : S40) (hx : xs[i]? = some x) : logCnt a (xs.take (i + 1)) = logCnt a (xs.take i) + (if (x.f1.f0 == a.f0 && x.f1.f1 == a.f1) = true then 1 else 0) := by
 have e : xs[i] = x := by rw [List.getElem?_eq_getElem h] at hx; exact Option.some.inj hx
 unfold logCnt
 rw [List.take_succ_eq_append_getElem h, List.filter_append, e, List.length_append]
 congr 1
 cases hl : (x.f1.f0 == a.f0 && x.f1.f1 == a.f1) <;> simp [hl]
set_option maxHeartbeats 8000000 in
set_option maxRecDepth 100000 in
theorem ref20_Of.calls (base q : Nat) (xs : List S40) (a : S25) (w : World) (h : LogY w base q xs) (hl : xs.length ≤ 100000) :
  Calls Tryd.prog 14 #[.pointer (some ⟨q, 0, none⟩), .agg #[.int .i64 a.f0, .int .u64 a.f1]] w fun e w' => e = .returned (.int .i64 (logCnt a xs : Int)) ∧ Below w.heap.size w w' := by
 obtain ⟨v, h1, h2⟩ := h
 obtain ⟨Ax, cx, e⟩ := Kd.R_slice h2
 subst e
 have hrd := Kd.R_reads' h2
 have HC := Aside0.mk hrd.2.2
 have HL := Aside0.mk h1
 have hbox := World.alloc_heap_new w (.cells #[.int .i64 a.f0, .int .u64 a.f1] 25 (0, 0))
 have HBX := Aside0.mk hbox
 have HB := Aside0.mk ((Below.refl w.heap.size w).alloc (Nat.le_refl _) (.cells #[.int .i64 a.f0, .int .u64 a.f1] 25 (0, 0)))
 have hqw := blk_lt h1
 clear h1 h2 hbox hrd
 go_enter Tryd.func14, Tryd.ntmps14
 go_wp2
 go_loopw [6, 5] (fun vi vn wr => ∃ (i : Nat), i ≤ xs.length ∧ vi = .int .i64 (i : Int) ∧ vn = .int .i64 (logCnt a (xs.take i) : Int) ∧ Below w.heap.size w wr ∧ wr.heap[w.heap.size]? = some (.cells #[.int .i64 a.f0, .int .u64 a.f1] 25 (0, 0))) (fun vi _ _ => xs.length - (intOf vi).toNat)
 case atStart => exact ⟨0, Nat.zero_le _, rfl, rfl, HB.out, HBX.out⟩
 case round =>
  obtain ⟨i, hi, rfl, rfl, hB, hbx⟩ := hrel
  have hLr := (hB.block _ hqw).trans HL.out
  have hc0 := (blk_cell hLr 0).trans rfl
  by_cases hlt : i < xs.length
  ·have hlt2 : ((i : Int) < (xs.length : Int)) = True := eq_true (by omega)
   have hlt3 : decide ((i : Int) < (xs.length : Int)) = true := decide_eq_true (by omega)
   have hi0 : (0 ≤ (i : Int)) = True := eq_true (by omega)
   have HW : Aside0 (wrap64 ((i : Int) + 1) = ((i + 1 : Nat) : Int)) := ⟨by unfold wrap64; omega⟩
   have hbd := blk_drew hbx
   have hLd := blk_drew hLr
   obtain ⟨ad, hA, hx0, hx1, hx2, hx3, hx4, hx5⟩ := at_T40 (Kd.C_below HC.out hB.drew) (i : Int) (by omega) (by omega)
   subst hA
   have hget : xs[i]? = some (rd_T40 xs (i : Int)) := by
    unfold rd_T40
    rw [Int.toNat_natCast, List.getD_eq_getElem?_getD, List.getElem?_eq_getElem hlt]
    rfl
   rw [Int.toNat_natCast] at hx0 hx1 hx2 hx3 hx4 hx5
   have HST := Aside0.mk (cnt_take a xs i hlt _ hget)
   have HWN : Aside0 (wrap64 ((logCnt a (xs.take i) : Int) + 1) = ((logCnt a (xs.take i) + 1 : Nat) : Int)) := ⟨by
    have := logCnt_le a (xs.take i)
    rw [List.length_take] at this
    unfold wrap64
    omega⟩
   clear hget
   generalize rd_T40 xs (i : Int) = x at hx0 hx1 hx2 hx3 hx4 hx5 HST
   have hS0 : _ ∧ _ ∧ _ ∧ _ ∧ _ := ⟨(blk_cell hLd 0).trans rfl, hx1, hx2, (blk_cell hbd 0).trans rfl, (blk_cell hbd 1).trans rfl⟩
   have HB1 := Aside0.mk hB.drew
   have HX1 := Aside0.mk hbd
   clear hx0 hx3 hx4 hx5 hB hbx hbd hLd hLr
   cases hb : (x.f1.f0 == a.f0 && x.f1.f1 == a.f1) with
   | false =>
    have hEQ : ∀ {α : Type} (A B : α), (if x.f1.f0 = a.f0 then if x.f1.f1 = a.f1 then A else B else B) = B := fun A B => by
     by_cases h1 : x.f1.f0 = a.f0 <;> by_cases h2 : x.f1.f1 = a.f1 <;> simp_all
    have HST2 := Aside0.mk (HST.out.trans (by rw [hb]; simp : _ = logCnt a (xs.take i)))
    clear hb
    go_wp2
    refine start_ (n := 10) (S := fun w' => w'.cell? ⟨q, 0, none⟩ = some (.slice (some ad) xs.length cx) ∧ w'.cell? _ = some (.int .i64 x.f1.f0) ∧ w'.cell? _ = some (.int .u64 x.f1.f1) ∧ w'.cell? ⟨w.heap.size, 0, none⟩ = some (.int .i64 a.f0) ∧ w'.cell? ⟨w.heap.size, 1, none⟩ = some (.int .u64 a.f1)) (ds := []) (Sq.bl 10 0) (by kernel_rfl) rfl (by rfl) hS0 (fun hS => ?_)
    refine Sq.pu (v := ?_) (a' := ?_) 0 16 (Sq.bl 10 1) (by kernel_rfl) rfl rfl (fun _ _ _ h => h) (by rfl) ?_ ?_ ?_; rotate_left; (· intro w'; go_simp; with_reducible rfl); rotate_left; (· simp only [Act.put,zp1,zp2,zp3,zp4,zp5]; rfl)
    refine Sq.pu (v := ?_) (a' := ?_) 1 17 (Sq.bl 10 3) (by kernel_rfl) rfl rfl (fun _ _ _ h => h) (by rfl) ?_ ?_ ?_; rotate_left; (· intro w'; go_simp; with_reducible rfl); rotate_left; (· simp only [Act.put,zp1,zp2,zp3,zp4,zp5]; rfl)
    refine Sq.pu (v := ?_) (a' := ?_) 2 18 (Sq.bl 10 7) (by kernel_rfl) rfl rfl (fun _ _ _ h => h) (by rfl) ?_ ?_ ?_; rotate_left; (· intro w'; go_simp; with_reducible rfl); rotate_left; (· simp only [Act.put,zp1,zp2,zp3,zp4,zp5]; rfl)
    refine Sq.pu (v := ?_) (a' := ?_) 4 20 (Sq.bl 10 23) (by kernel_rfl) rfl rfl (fun _ _ _ h => h) (by rfl) ?_ ?_ ?_; rotate_left; (· intro w'; go_simp; with_reducible rfl); rotate_left; (· simp only [Act.put,zp1,zp2,zp3,zp4,zp5]; rfl)
    refine take_ (i := 3) (N := some 19) (v := ?_) (a' := ?_) (Sq.bl 10 31) rfl rfl (by kernel_rfl) (fun _ _ _ h => h) (Or.inl ⟨by rfl, ?_⟩) hS ?_ ?_; rotate_left; (· rintro w' ⟨s0, s1, s2, s3, s4⟩; go_simp; with_reducible rfl); rotate_left; (· simp only [Act.put,zp1,zp2,zp3,zp4,zp5]; rfl)
    refine Sq.pu (v := ?_) (a' := ?_) 5 21 (Sq.bl 10 63) (by kernel_rfl) rfl rfl (fun _ _ _ h => h) (by rfl) ?_ ?_ ?_; rotate_left; (· intro w'; go_simp; with_reducible rfl); rotate_left; (· simp only [Act.put,zp1,zp2,zp3,zp4,zp5]; rfl)
    refine Sq.pu (v := ?_) (a' := ?_) 6 22 (Sq.bl 10 127) (by kernel_rfl) rfl rfl (fun _ _ _ h => h) (by rfl) ?_ ?_ ?_; rotate_left; (· intro w'; go_simp; with_reducible rfl); rotate_left; (· simp only [Act.put,zp1,zp2,zp3,zp4,zp5]; rfl)
    refine take_ (i := 7) (N := some 23) (v := ?_) (a' := ?_) (Sq.bl 10 255) rfl rfl (by kernel_rfl) (fun _ _ _ h => h) (Or.inl ⟨by rfl, ?_⟩) hS ?_ ?_; rotate_left; (· rintro w' ⟨s0, s1, s2, s3, s4⟩; go_simp; with_reducible rfl); rotate_left; (· simp only [Act.put,zp1,zp2,zp3,zp4,zp5]; rfl)
    refine take_ (i := 8) (N := some 24) (v := ?_) (a' := ?_) (Sq.bl 10 511) rfl rfl (by kernel_rfl) (fun _ _ _ h => h) (Or.inl ⟨by rfl, ?_⟩) hS ?_ ?_; rotate_left; (· rintro w' ⟨s0, s1, s2, s3, s4⟩; go_simp; with_reducible rfl); rotate_left; (· simp only [Act.put,zp1,zp2,zp3,zp4,zp5]; rfl)
    refine Sq.pu (v := ?_) (a' := ?_) 9 25 (Sq.bl 10 1023) (by kernel_rfl) rfl rfl (fun _ _ _ h => h) (by rfl) ?_ ?_ ?_; rotate_left; (· intro w'; go_simp; with_reducible rfl); rotate_left; (· simp only [Act.put,zp1,zp2,zp3,zp4,zp5]; rfl)
    refine done_ (by kernel_rfl) ?_
    go_wp2
    go_roundw
    case rel => exact ⟨i + 1, by omega, by first | rfl | exact congrArg _ HW.out, by rw [HST2.out], HB1.out, HX1.out⟩
    case measure => first | (rw [HW.out]; simp only [intOf, Int.toNat_natCast]; omega) | (simp only [intOf, Int.toNat_natCast]; omega)
   | true =>
    have hEQ : ∀ {α : Type} (A B : α), (if x.f1.f0 = a.f0 then if x.f1.f1 = a.f1 then A else B else B) = A := fun A B => by
     by_cases h1 : x.f1.f0 = a.f0 <;> by_cases h2 : x.f1.f1 = a.f1 <;> simp_all
    have HST2 := Aside0.mk (HST.out.trans (by rw [hb]; simp : _ = logCnt a (xs.take i) + 1))
    clear hb
    go_wp2
    refine start_ (n := 10) (S := fun w' => w'.cell? ⟨q, 0, none⟩ = some (.slice (some ad) xs.length cx) ∧ w'.cell? _ = some (.int .i64 x.f1.f0) ∧ w'.cell? _ = some (.int .u64 x.f1.f1) ∧ w'.cell? ⟨w.heap.size, 0, none⟩ = some (.int .i64 a.f0) ∧ w'.cell? ⟨w.heap.size, 1, none⟩ = some (.int .u64 a.f1)) (ds := []) (Sq.bl 10 0) (by kernel_rfl) rfl (by rfl) hS0 (fun hS => ?_)
    refine Sq.pu (v := ?_) (a' := ?_) 0 16 (Sq.bl 10 1) (by kernel_rfl) rfl rfl (fun _ _ _ h => h) (by rfl) ?_ ?_ ?_; rotate_left; (· intro w'; go_simp; with_reducible rfl); rotate_left; (· simp only [Act.put,zp1,zp2,zp3,zp4,zp5]; rfl)
    refine Sq.pu (v := ?_) (a' := ?_) 1 17 (Sq.bl 10 3) (by kernel_rfl) rfl rfl (fun _ _ _ h => h) (by rfl) ?_ ?_ ?_; rotate_left; (· intro w'; go_simp; with_reducible rfl); rotate_left; (· simp only [Act.put,zp1,zp2,zp3,zp4,zp5]; rfl)
    refine Sq.pu (v := ?_) (a' := ?_) 2 18 (Sq.bl 10 7) (by kernel_rfl) rfl rfl (fun _ _ _ h => h) (by rfl) ?_ ?_ ?_; rotate_left; (· intro w'; go_simp; with_reducible rfl); rotate_left; (· simp only [Act.put,zp1,zp2,zp3,zp4,zp5]; rfl)
    refine Sq.pu (v := ?_) (a' := ?_) 4 20 (Sq.bl 10 23) (by kernel_rfl) rfl rfl (fun _ _ _ h => h) (by rfl) ?_ ?_ ?_; rotate_left; (· intro w'; go_simp; with_reducible rfl); rotate_left; (· simp only [Act.put,zp1,zp2,zp3,zp4,zp5]; rfl)
    refine take_ (i := 3) (N := some 19) (v := ?_) (a' := ?_) (Sq.bl 10 31) rfl rfl (by kernel_rfl) (fun _ _ _ h => h) (Or.inl ⟨by rfl, ?_⟩) hS ?_ ?_; rotate_left; (· rintro w' ⟨s0, s1, s2, s3, s4⟩; go_simp; with_reducible rfl); rotate_left; (· simp only [Act.put,zp1,zp2,zp3,zp4,zp5]; rfl)
    refine Sq.pu (v := ?_) (a' := ?_) 5 21 (Sq.bl 10 63) (by kernel_rfl) rfl rfl (fun _ _ _ h => h) (by rfl) ?_ ?_ ?_; rotate_left; (· intro w'; go_simp; with_reducible rfl); rotate_left; (· simp only [Act.put,zp1,zp2,zp3,zp4,zp5]; rfl)
    refine Sq.pu (v := ?_) (a' := ?_) 6 22 (Sq.bl 10 127) (by kernel_rfl) rfl rfl (fun _ _ _ h => h) (by rfl) ?_ ?_ ?_; rotate_left; (· intro w'; go_simp; with_reducible rfl); rotate_left; (· simp only [Act.put,zp1,zp2,zp3,zp4,zp5]; rfl)
    refine take_ (i := 7) (N := some 23) (v := ?_) (a' := ?_) (Sq.bl 10 255) rfl rfl (by kernel_rfl) (fun _ _ _ h => h) (Or.inl ⟨by rfl, ?_⟩) hS ?_ ?_; rotate_left; (· rintro w' ⟨s0, s1, s2, s3, s4⟩; go_simp; with_reducible rfl); rotate_left; (· simp only [Act.put,zp1,zp2,zp3,zp4,zp5]; rfl)
    refine take_ (i := 8) (N := some 24) (v := ?_) (a' := ?_) (Sq.bl 10 511) rfl rfl (by kernel_rfl) (fun _ _ _ h => h) (Or.inl ⟨by rfl, ?_⟩) hS ?_ ?_; rotate_left; (· rintro w' ⟨s0, s1, s2, s3, s4⟩; go_simp; with_reducible rfl); rotate_left; (· simp only [Act.put,zp1,zp2,zp3,zp4,zp5]; rfl)
    refine Sq.pu (v := ?_) (a' := ?_) 9 25 (Sq.bl 10 1023) (by kernel_rfl) rfl rfl (fun _ _ _ h => h) (by rfl) ?_ ?_ ?_; rotate_left; (· intro w'; go_simp; with_reducible rfl); rotate_left; (· simp only [Act.put,zp1,zp2,zp3,zp4,zp5]; rfl)
    refine done_ (by kernel_rfl) ?_
    go_wp2
    go_roundw
    case rel => exact ⟨i + 1, by omega, by first | rfl | exact congrArg _ HW.out, by rw [HST2.out]; exact congrArg _ HWN.out, HB1.out, HX1.out⟩
    case measure => first | (rw [HW.out]; simp only [intOf, Int.toNat_natCast]; omega) | (simp only [intOf, Int.toNat_natCast]; omega)
  ·obtain rfl : i = xs.length := by omega
   have hlt2 : ((xs.length : Int) < (xs.length : Int)) = False := eq_false (by omega)
   have hlt3 : decide ((xs.length : Int) < (xs.length : Int)) = false := decide_eq_false (by omega)
   have HB := Aside0.mk hB
   clear hB hbx hLr
   go_wp2
   go_ret
   rw [List.take_length]
   exact ⟨rfl, HB.out⟩


end Go.Proofs.YtkinepmilnkhmaaDoor.A
end
section
namespace Go.Proofs.YtkinepmilnkhmaaDoor.A
open Go.RowKit Go.Proofs.YtkinepmilnkhmaaDoorW.PrintWords Go.Proofs.YtkinepmilnkhmaaDoorW.PrintLast Go.Proofs.YtkinepmilnkhmaaDoorW.PrintMore
attribute [local go_sem] max2_int min2_int max_two min_two max_three min_three max_four min_four   -- for this text's walks alone
set_option linter.unusedVariables false
set_option linter.unusedSimpArgs false
open Go.Maps Go.WideElems Go.MapKept
theorem kept_cell {base : Nat} {W Y : World} {g : Nat} {cs : Array Value} {t : Nat} {fz : Nat × Nat} (h : W.heap[g]? = some (.cells cs t fz)) (hB : Below W.heap.size W Y) : Y.heap[g]? = some (.cells cs t fz) := (hB.block _ (blk_lt h)).trans h
end Go.Proofs.YtkinepmilnkhmaaDoor.A
end
section
namespace Go.Proofs.YtkinepmilnkhmaaDoor.A
open Go.RowKit Go.Proofs.YtkinepmilnkhmaaDoorW.PrintWords Go.Proofs.YtkinepmilnkhmaaDoorW.PrintLast Go.Proofs.YtkinepmilnkhmaaDoorW.PrintMore
attribute [local go_sem] max2_int min2_int max_two min_two max_three min_three max_four min_four   -- for this text's walks alone
set_option linter.unusedVariables false
set_option linter.unusedSimpArgs false
open Go.Maps Go.WideElems Go.MapKept
set_option maxRecDepth 100000 in
theorem lbl_inv {key : Value} {kl : Lit} (h : keyOf Tryd.prog 25 key = some kl) : ∃ x : S25, key = .agg #[.int .i64 x.f0, .int .u64 x.f1] ∧ lblWf x ∧ kl = lbl x := by
  have hu := Tryd.underlying25
  have hu1 := Tryd.underlying3
  have hu2 := Tryd.underlying23
  have hc : Tryd.prog.cellsOf 25 = 2 := by kernel_rfl
  have hc1 : Tryd.prog.cellsOf 3 = 1 := by kernel_rfl
  have hc2 : Tryd.prog.cellsOf 23 = 1 := by kernel_rfl
  have hs0 : decide (2 ≤ Tryd.prog.types.size) = true := by kernel_rfl
  have hs1 := of_decide_eq_true hs0
  have hsz : ∃ m, Tryd.prog.types.size = m + 2 := ⟨Tryd.prog.types.size - 2, by omega⟩
  obtain ⟨m, hm⟩ := hsz
  have k1 : ∀ (n : Nat) (c : Value) (ls : List Lit), Tryd.prog.keyLits (n + 1) 3 [c] = some ls → ∃ a : Int, c = .int .i64 a ∧ (Lit.int .i64 a).wf = true ∧ ls = [.int .i64 a] := by
    intro n c ls h
    unfold Program.keyLits at h
    simp only [hu1] at h
    cases c <;> simp at h
    obtain ⟨⟨rfl, hw⟩, rfl⟩ := h
    exact ⟨_, rfl, hw, rfl⟩
  have k2 : ∀ (n : Nat) (c : Value) (ls : List Lit), Tryd.prog.keyLits (n + 1) 23 [c] = some ls → ∃ a : Int, c = .int .u64 a ∧ (Lit.int .u64 a).wf = true ∧ ls = [.int .u64 a] := by
    intro n c ls h
    unfold Program.keyLits at h
    simp only [hu2] at h
    cases c <;> simp at h
    obtain ⟨⟨rfl, hw⟩, rfl⟩ := h
    exact ⟨_, rfl, hw, rfl⟩
  unfold keyOf at h
  simp only [hu] at h
  split at h
  · next hf =>
    rw [Bool.and_eq_true] at hf
    cases key with
    | agg cs =>
      have h2 : cs.size = 2 := by simpa [Value.formed, hu, hc] using hf.2
      obtain ⟨c0, c1, hcs⟩ : ∃ c0 c1, cs = #[c0, c1] := by
        obtain ⟨l⟩ := cs
        match l, h2 with
        | [a, b], _ => exact ⟨a, b, rfl⟩
      subst hcs
      rw [hm] at h
      unfold Program.keyLits at h
      simp only [hu, Value.cells] at h
      rw [if_pos (by rw [hc]; exact ⟨rfl, by simp⟩)] at h
      obtain ⟨ls, h, hkl⟩ := Option.map_eq_some_iff.1 h
      obtain ⟨l2, h, hfl⟩ := Option.map_eq_some_iff.1 h
      simp only [List.mapM_cons, List.mapM_nil, hc1, hc2, Option.bind_eq_bind, Option.pure_def, Option.bind_eq_some_iff] at h
      obtain ⟨la, ha, lb', ⟨lb, hb, hlb⟩, hl2⟩ := h
      obtain ⟨a, rfl, wa, rfl⟩ := k1 _ _ _ ha
      obtain ⟨b, rfl, wb, hlb2⟩ := k2 _ _ _ hb
      refine ⟨⟨a, b⟩, rfl, ⟨wa, wb⟩, ?_⟩
      rw [← hkl, ← hfl]
      simp at hlb hl2
      subst hlb2
      first
      | (subst hlb; subst hl2; simp [lbl])
      | (obtain ⟨y, hy, rfl⟩ := hlb; subst hl2; simp [lbl] at hy ⊢; try simp [hy])
    | _ => simp [Value.formed, hu] at hf
  · cases h
theorem own_nil {W : World} {m : Nat} {D : DataW Unit} (h : W.ownsMap Tryd.prog 25 (plainElem Tryd.prog 3) m 0 D) : D = .map [] := by
  obtain ⟨es, clock, _, _, hs, rfl⟩ := h
  have : es = #[] := Array.eq_empty_of_size_eq_zero (by omega)
  subst this
  rfl
theorem grown_of {W W' : World} (hb : Below W.heap.size W W') : W.grownBy W' none := ⟨hb.os, hb.tape, hb.output, hb.size, fun i hi _ => hb.block i hi⟩
set_option maxHeartbeats 8000000 in
set_option maxRecDepth 100000 in
theorem audit_Fork.calls (base p m : Nat) (xs : List S40) (w : World) (h : LogX w base p m xs) (hbw : base ≤ w.heap.size) (hl : xs.length ≤ 1000) :
    Calls Tryd.prog 23 #[.pointer (some ⟨p, 0, none⟩)] w fun e w' => ∃ p2 m2 : Nat, e = .returned (.pointer (some ⟨p2, 0, none⟩)) ∧ w.heap.size ≤ p2 ∧ w.heap.size ≤ m2 ∧ LogX w' base p2 m2 xs ∧ Below w.heap.size w w' := by
  obtain ⟨v, D, k1, k2, k3, k4⟩ := h
  obtain ⟨Av, cv, ev⟩ := Kd.R_slice k2
  subst ev
  have hpw := blk_lt k1
  have hmw := k3.lt
  have K1 := Aside0.mk k1
  have K2 := Aside0.mk k2
  have K3 := Aside0.mk k3
  have H4 := Aside0.mk k4
  clear k1 k2 k3 k4
  go_enter Tryd.func23, Tryd.ntmps23
  go_wp2_with (fail)
  refine (audit_New.calls _).mono ?_
  rintro e_ w1 ⟨p2, m2, rfl, hp2, hm2, hX1, hb1⟩
  have HX1 := Aside0.mk hX1
  have HB1 := Aside0.mk hb1
  clear hX1 hb1
  have h1 := (HB1.out.block p hpw).trans K1.out
  have h3 := K3.out.kept (grown_of HB1.out) (by simp)
  obtain ⟨v2, D2, g1, g2, g3, g4⟩ := HX1.out
  obtain ⟨A2, c2, ev⟩ := Kd.R_slice g2
  subst ev
  have hne : p ≠ p2 := by omega
  have hpm : p2 ≠ m2 := by
    rintro rfl
    obtain ⟨_, _, t1, _⟩ := g3
    rw [g1] at t1
    cases t1
  have hD2 : D2 = .map [] := own_nil g3
  subst hD2
  obtain ⟨W2, hW2⟩ : ∃ W2 : World, W2 = w1.setCell ⟨p2, 0, none⟩ (.slice Av xs.length cv) := ⟨_, rfl⟩
  have hg2 : w1.grownBy W2 (some p2) := by rw [hW2]; exact grownBy_setCell' w1 p2 _
  have hpc := (blk_cell h1 0).trans rfl
  have hqf := blk_frozen g1 0
  have hqc := (blk_cell g1 0).trans rfl
  have hpW : W2.cell? ⟨p, 1, none⟩ = some (.map (some m)) := by rw [hW2]; exact (blk_cell (blk_far h1 hne _) 1).trans rfl
  have hqW : W2.heap[p2]? = some (.cells #[.slice Av xs.length cv, .map (some m2)] 76 (0, 0)) := by rw [hW2]; exact blk_put g1 0 _ rfl
  have hB2 : Below w.heap.size w W2 := HB1.out.grown hg2 HB1.out.size (fun j hj => by cases hj; exact hp2)
  have H3 := Aside0.mk (h3.kept hg2 (by intro e; injection e with e; omega))
  have G3 := Aside0.mk (g3.kept hg2 (by intro e; injection e with e; exact hpm e.symm))
  have HQ := Aside0.mk hqW
  have HB2 := Aside0.mk hB2
  have HW2 := Aside0.mk hW2
  have hm2l : m2 < W2.heap.size := G3.out.lt
  have hp2l : p2 < W2.heap.size := blk_lt hqW
  clear h1 h3 g1 g2 g3 g4 hqW hB2 hg2 hW2
  have hpW2 : (w1.setCell ⟨p2, 0, none⟩ (.slice Av xs.length cv)).cell? ⟨p, 1, none⟩ = some (.map (some m)) := by rw [← HW2.out]; exact hpW
  clear hpW
  obtain ⟨w0, hrun, hrg0, hg0, hs0⟩ := H3.out.range lbl_keyed Tryd.underlying74
  go_wp2_with (fail)
  rw [← HW2.out, hrun]
  clear hpW2 hqc hqf hpc hrun
  obtain ⟨r, hr⟩ : ∃ r, r = W2.heap.size := ⟨_, rfl⟩
  rw [← hr] at hrg0 hs0 hm2l hp2l ⊢
  have hr2 : W2.heap.size ≤ r := by omega
  have HRR := Aside0.mk (And.intro hr hs0)
  clear hr hs0
  go_wp2
  have HR0 := Aside0.mk hrg0
  have HG0 := Aside0.mk hg0
  have hB0 : Below w.heap.size w w0 := HB2.out.grown hg0 HB2.out.size (fun j hj => by cases hj)
  have HB0 := Aside0.mk hB0
  have HO0 := Aside0.mk (G3.out.kept hg0 (by simp))
  have HQ0 := Aside0.mk ((hg0.block p2 (by have := HRR.out; omega) (by simp)).trans HQ.out)
  clear hrg0 hg0 hB0
  go_loopw [4, 5] (fun _ _ wr => ∃ (left : Lit → Bool) (cnt : Nat) (E : DataW Unit), wr.ranges Tryd.prog 25 (plainElem Tryd.prog 3) m r xs.length D left cnt ∧ cnt ≤ Maps.size D ∧ wr.ownsMap Tryd.prog 25 (plainElem Tryd.prog 3) m2 (Maps.size D - cnt) E ∧ Agree E D left ∧ Below w.heap.size w wr ∧ wr.heap[p2]? = some (.cells #[.slice Av xs.length cv, .map (some m2)] 76 (0, 0)) ∧ r < wr.heap.size) (fun _ _ wr => wr.rangeLeft m r)
  case atStart => exact ⟨_, _, .map [], HR0.out, Nat.le_refl _, HO0.out.mono (Nat.zero_le _), agree_start D, HB0.out, HQ0.out, HR0.out.lt⟩
  case round =>
    obtain ⟨left, cnt, E, hrg, hcs, hout, hA, hB, hq, hrl⟩ := hrel
    have HRG := Aside0.mk hrg
    have HOUT := Aside0.mk hout
    have HAG := Aside0.mk hA
    have HB := Aside0.mk hB
    have HQ := Aside0.mk hq
    clear hrg hout hA hB hq
    rcases HRG.out.next lbl_keyed 0 with ⟨h0, hl0, hrun⟩ | ⟨key, v, kl, y, w1, cnt1, hkey, hlk, hv, hat, hrun, hrg1, hlt, hg1, hs1, hen⟩
    · have HL0 := Aside0.mk (And.intro h0 hl0)
      clear h0 hl0
      go_wp2
      go_ret
      obtain ⟨h0, hl0⟩ := HL0.out
      subst h0
      have e := agree_end HAG.out hl0 (HOUT.out.canon lbl_keyed) (H3.out.canon lbl_keyed)
      refine ⟨p2, m2, rfl, hp2, hm2, ⟨_, D, HQ.out, ?_, ?_, H4.out⟩, HB.out⟩
      · exact Kd.R_below K2.out HB.out
      · rw [← e]
        exact HOUT.out.mono H3.out.size_le
    · obtain ⟨x, rfl, hxw, rfl⟩ := lbl_inv hkey
      obtain ⟨c, rfl, rfl, hcw⟩ := plainElem_int_inv Tryd.underlying3 hv
      have HAT := Aside0.mk hat
      have HG1 := Aside0.mk hg1
      have HRG1 := Aside0.mk hrg1
      have HLT := Aside0.mk hlt
      clear hat hg1 hrg1 hlt hkey hlk hv
      go_wp2
      obtain ⟨W3, hW3⟩ : ∃ W3 : World, W3 = (w1.alloc (.cells #[.int .i64 x.f0, .int .u64 x.f1] 25 (0, 0))).drew := ⟨_, rfl⟩
      have hb3 : Below w1.heap.size w1 W3 := by rw [hW3]; exact ((Below.refl _ _).alloc (Nat.le_refl _) _).drew
      have hbx3 : W3.heap[wr.heap.size]? = some (.cells #[.int .i64 x.f0, .int .u64 x.f1] 25 (0, 0)) := by
        rw [hW3, ← hs1]
        exact blk_drew (World.alloc_heap_new w1 _)
      have hp2r : p2 < wr.heap.size := by omega
      have hq1 : w1.heap[p2]? = some (.cells #[.slice Av xs.length cv, .map (some m2)] 76 (0, 0)) := (HG1.out.block p2 hp2r (by intro e; injection e with e; omega)).trans HQ.out
      have hq3 := (hb3.block p2 (blk_lt hq1)).trans hq1
      have hout1 := HOUT.out.kept HG1.out (by intro e; injection e with e; omega)
      have hout3 := hout1.kept (grown_of hb3) (by simp)
      obtain ⟨w4, hup, hout4, hg4⟩ := hout3.update lbl_keyed Tryd.underlying74 (by have := H3.out.size_le; simp only [maxLen]; omega) (lbl_key x hxw) (plainElem_int Tryd.underlying3 hcw)
      have HW3 := Aside0.mk hW3
      have HUP := Aside0.mk hup
      have hS0 : W3.cell? ⟨p2, 1, none⟩ = some (.map (some m2)) ∧ W3.cell? ⟨wr.heap.size, 0, none⟩ = some (.int .i64 x.f0) ∧ W3.cell? ⟨wr.heap.size, 1, none⟩ = some (.int .u64 x.f1) := ⟨(blk_cell hq3 1).trans rfl, (blk_cell hbx3 0).trans rfl, (blk_cell hbx3 1).trans rfl⟩
      clear hW3 hup hrun hen
      refine start_ (n := 7) (S := fun w' => w'.cell? ⟨p2, 1, none⟩ = some (.map (some m2)) ∧ w'.cell? ⟨wr.heap.size, 0, none⟩ = some (.int .i64 x.f0) ∧ w'.cell? ⟨wr.heap.size, 1, none⟩ = some (.int .u64 x.f1)) (ds := [6]) (Sq.bl 7 0) (by kernel_rfl) rfl (by rfl) (by rw [← HW3.out]; exact hS0) (fun hS => ?_)
      rw [← HW3.out] at hS ⊢
      refine Sq.pu (v := ?_) (a' := ?_) 0 26 (Sq.bl 7 1) (by kernel_rfl) rfl rfl (fun _ _ _ h => h) (by rfl) ?_ ?_ ?_; rotate_left; (· intro w'; go_simp; with_reducible rfl); rotate_left; (· simp only [Act.put, List.setIfInBounds_toArray, List.set_cons_zero, List.set_cons_succ, i64_w, i32_w]; rfl)
      refine Sq.pu (v := ?_) (a' := ?_) 1 27 (Sq.bl 7 3) (by kernel_rfl) rfl rfl (fun _ _ _ h => h) (by rfl) ?_ ?_ ?_; rotate_left; (· intro w'; go_simp; with_reducible rfl); rotate_left; (· simp only [Act.put, List.setIfInBounds_toArray, List.set_cons_zero, List.set_cons_succ, i64_w, i32_w]; rfl)
      refine Sq.pu (v := ?_) (a' := ?_) 2 28 (Sq.bl 7 7) (by kernel_rfl) rfl rfl (fun _ _ _ h => h) (by rfl) ?_ ?_ ?_; rotate_left; (· intro w'; go_simp; with_reducible rfl); rotate_left; (· simp only [Act.put, List.setIfInBounds_toArray, List.set_cons_zero, List.set_cons_succ, i64_w, i32_w]; rfl)
      refine Sq.pu (v := ?_) (a' := ?_) 5 31 (Sq.bl 7 39) (by kernel_rfl) rfl rfl (fun _ _ _ h => h) (by rfl) ?_ ?_ ?_; rotate_left; (· intro w'; go_simp; with_reducible rfl); rotate_left; (· simp only [Act.put, List.setIfInBounds_toArray, List.set_cons_zero, List.set_cons_succ, i64_w, i32_w]; rfl)
      refine take_ (i := 3) (N := some 29) (v := ?_) (a' := ?_) (Sq.bl 7 47) rfl rfl (by kernel_rfl) (fun _ _ _ h => h) (Or.inl ⟨by rfl, ?_⟩) hS ?_ ?_; rotate_left; (· rintro w' ⟨s0, s1, s2⟩; go_simp; with_reducible rfl); rotate_left; (· simp only [Act.put, List.setIfInBounds_toArray, List.set_cons_zero, List.set_cons_succ, i64_w, i32_w]; rfl)
      refine take_ (i := 4) (N := some 30) (v := ?_) (a' := ?_) (Sq.bl 7 63) rfl rfl (by kernel_rfl) (fun _ _ _ h => h) (Or.inl ⟨by rfl, ?_⟩) hS ?_ ?_; rotate_left; (· rintro w' ⟨s0, s1, s2⟩; go_simp; with_reducible rfl); rotate_left; (· simp only [Act.put, List.setIfInBounds_toArray, List.set_cons_zero, List.set_cons_succ, i64_w, i32_w]; rfl)
      refine last_ (i := 6) (N := none) (Sq.bl 7 127) rfl rfl (by kernel_rfl) (by decide) (fun K hK => ?_)
      refine skip_ (w1 := ?_) (by rfl) rfl ?_ ?_
      rotate_left
      · go_simp
        rw [HUP.out]
        rfl
      refine hK.out _ _ ?_
      clear hK K
      refine done_ (by kernel_rfl) ?_
      have hrg4 := (HRG1.out.kept (grown_of hb3) (by simp) (by simp)).kept hg4 (by intro e; injection e with e; omega) (by intro e; injection e with e; omega)
      have hb4 : Below w.heap.size w w4 := ((HB.out.grown HG1.out HB.out.size (fun j hj => by cases hj; have := HRR.out; have := HB2.out.size; omega)).trans (hb3.mono (by have := HB.out.size; omega))).grown hg4 (by have := HB.out.size; have := hb3.size; omega) (fun j hj => by cases hj; exact hm2)
      have hq4 := (hg4.block p2 (blk_lt hq3) (by intro e; injection e with e; exact hpm e)).trans hq3
      have hag4 := agree_step HAG.out HOUT.out.isMap (lbl_isKey x) HAT.out
      have HF := Aside0.mk (And.intro hrg4 (And.intro hb4 (And.intro hq4 (And.intro hag4 hout4))))
      clear hrg4 hb4 hq4 hag4 hout4
      go_wp2
      go_roundw
      case rel => exact ⟨_, cnt1, _, HF.out.1, by have := HLT.out; omega, HF.out.2.2.2.2.mono (by have := HLT.out; omega), HF.out.2.2.2.1, HF.out.2.1, HF.out.2.2.1, HF.out.1.lt⟩
      case measure => rw [HF.out.1.left_eq, HRG.out.left_eq]; exact HLT.out
theorem audit_Fork.calls_nil (w : World) :
    Calls Tryd.prog 23 #[.pointer none] w fun e w' => e = .returned (.pointer none) ∧ Below w.heap.size w w' := by
  go_enter Tryd.func23, Tryd.ntmps23
  go_wp2
  go_ret
  exact ⟨rfl, Below.refl _ _⟩
theorem audit_Add.calls_nil (y : S40) (w : World) :
    Calls Tryd.prog 22 #[.pointer none, .agg #[.string y.f0, .int .i64 y.f1.f0, .int .u64 y.f1.f1, .string y.f2, .string y.f3, .string y.f4]] w fun e w' => e = .returned (.int .i64 1) ∧ Below w.heap.size w w' := by
  go_enter Tryd.func22, Tryd.ntmps22
  go_wp2
  go_ret
  exact ⟨rfl, (Below.refl w.heap.size w).alloc (Nat.le_refl _) _⟩
end Go.Proofs.YtkinepmilnkhmaaDoor.A
end
section
namespace Go.Proofs.YtkinepmilnkhmaaDoor.A
open Go.RowKit Go.Proofs.YtkinepmilnkhmaaDoorW.PrintWords Go.Proofs.YtkinepmilnkhmaaDoorW.PrintLast Go.Proofs.YtkinepmilnkhmaaDoorW.PrintMore
attribute [local go_sem] max2_int min2_int max_two min_two max_three min_three max_four min_four   -- for this text's walks alone
set_option linter.unusedVariables false
set_option linter.unusedSimpArgs false
theorem ref20_Fork.calls (base q : Nat) (xs : List S40) (w : World) (h : LogY w base q xs) :
    Calls Tryd.prog 24 #[.pointer (some ⟨q, 0, none⟩)] w fun e w' => ∃ q2 : Nat, e = .returned (.pointer (some ⟨q2, 0, none⟩)) ∧ w.heap.size ≤ q2 ∧ LogY w' base q2 xs ∧ Below w.heap.size w w' := by
  obtain ⟨v, h1, h2⟩ := h
  obtain ⟨Ax, cx, e⟩ := Kd.R_slice h2
  subst e
  have hc0 := (blk_cell h1 0).trans rfl
  have HR := Aside0.mk h2
  clear h1 h2
  go_enter Tryd.func24, Tryd.ntmps24
  go_wp2
  go_ret
  have hb := (Below.refl w.heap.size w).alloc (Nat.le_refl _) (.cells #[.slice Ax xs.length cx] 73 (0, 0))
  exact ⟨w.heap.size, rfl, Nat.le_refl _, ⟨_, World.alloc_heap_new w _, Kd.R_below HR.out hb⟩, hb⟩
end Go.Proofs.YtkinepmilnkhmaaDoor.A
end
section
namespace Go.Proofs.YtkinepmilnkhmaaDoor.A
open Go.RowKit Go.Proofs.YtkinepmilnkhmaaDoorW.PrintWords Go.Proofs.YtkinepmilnkhmaaDoorW.PrintLast Go.Proofs.YtkinepmilnkhmaaDoorW.PrintMore
attribute [local go_sem] max2_int min2_int max_two min_two max_three min_three max_four min_four   -- for this text's walks alone
set_option linter.unusedVariables false
set_option linter.unusedSimpArgs false

open Go.Maps Go.WideElems Go.MapKept
set_option maxHeartbeats 8000000 in
set_option maxRecDepth 100000 in
theorem ref20_Seen.calls (k base q : Nat) (xs : List S40) (o : S25) (w : World) (h : LogY w base q xs) (hl : xs.length ≤ 100000) (hlow : ∀ x ∈ xs, jalousieref02_Below.f k x.f1.f0 x.f1.f1 o.f0 o.f1 = some (lowB x.f1 o)) :
  Calls Tryd.prog 18 #[.pointer (some ⟨q, 0, none⟩), .agg #[.int .i64 o.f0, .int .u64 o.f1]] w fun e w' => ∃ v0_ : Value, e = .returned v0_ ∧ Kd.R k40 40 w' w.heap.size (fun _ => True) v0_ (seenL o xs) ∧ Below w.heap.size w w' := by
 obtain ⟨v, h1, h2⟩ := h
 obtain ⟨Ax, cx, e⟩ := Kd.R_slice h2
 subst e
 have hrd := Kd.R_reads' h2
 have HC := Aside0.mk hrd.2.2
 have HL := Aside0.mk h1
 have hbox := World.alloc_heap_new w (.cells #[.int .i64 o.f0, .int .u64 o.f1] 25 (0, 0))
 have HBX := Aside0.mk (blk_alloc hbox (.cells #[] 40 (0, 0)))
 have hb1 := (Below.refl w.heap.size w).alloc (Nat.le_refl _) (.cells #[.int .i64 o.f0, .int .u64 o.f1] 25 (0, 0))
 have HB := Aside0.mk (hb1.alloc hb1.size (.cells #[] 40 (0, 0)))
 have HR0 : Aside0 (Kd.R k40 40 ((w.alloc (.cells #[.int .i64 o.f0, .int .u64 o.f1] 25 (0, 0))).alloc (.cells #[] 40 (0, 0))) w.heap.size (fun _ => True) (.slice (some ⟨w.heap.size + 1, 0, none⟩) 0 0) []) := ⟨by
  have := Rd.empty k40 _ w.heap.size _ 40 (fun _ => True) (World.alloc_heap_new (w.alloc (.cells #[.int .i64 o.f0, .int .u64 o.f1] 25 (0, 0))) (.cells #[] 40 (0, 0))) hb1.size trivial (by decide)
  rw [World.size_alloc] at this
  exact this⟩
 have hqw := blk_lt h1
 clear h1 h2 hbox hrd hb1
 go_enter Tryd.func18, Tryd.ntmps18
 go_wp2
 go_loopw [6, 5] (fun vi vo wr => ∃ (i : Nat), i ≤ xs.length ∧ vi = .int .i64 (i : Int) ∧ Kd.R k40 40 wr w.heap.size (fun _ => True) vo (seenL o (xs.take i)) ∧ Below w.heap.size w wr ∧ wr.heap[w.heap.size]? = some (.cells #[.int .i64 o.f0, .int .u64 o.f1] 25 (0, 0))) (fun vi _ _ => xs.length - (intOf vi).toNat)
 case atStart => exact ⟨0, Nat.zero_le _, rfl, HR0.out, HB.out, HBX.out⟩
 case round =>
  obtain ⟨i, hi, rfl, hR, hB, hbx⟩ := hrel
  have hLr := (hB.block _ hqw).trans HL.out
  have hc0 := (blk_cell hLr 0).trans rfl
  by_cases hlt : i < xs.length
  ·have hlt2 : ((i : Int) < (xs.length : Int)) = True := eq_true (by omega)
   have hlt3 : decide ((i : Int) < (xs.length : Int)) = true := decide_eq_true (by omega)
   have hi0 : (0 ≤ (i : Int)) = True := eq_true (by omega)
   have HW : Aside0 (wrap64 ((i : Int) + 1) = ((i + 1 : Nat) : Int)) := ⟨by unfold wrap64; omega⟩
   have hbd := blk_drew hbx
   have hLd := blk_drew hLr
   obtain ⟨ad, hA, hx0, hx1, hx2, hx3, hx4, hx5⟩ := at_T40 (Kd.C_below HC.out hB.drew) (i : Int) (by omega) (by omega)
   subst hA
   have hget : xs[i]? = some (rd_T40 xs (i : Int)) := by
    unfold rd_T40
    rw [Int.toNat_natCast, List.getD_eq_getElem?_getD, List.getElem?_eq_getElem hlt]
    rfl
   rw [Int.toNat_natCast] at hx0 hx1 hx2 hx3 hx4 hx5
   have HST := Aside0.mk (seen_take o xs i hlt _ hget)
   have hlw := hlow _ (List.mem_of_getElem? hget)
   clear hget
   generalize rd_T40 xs (i : Int) = x at hx0 hx1 hx2 hx3 hx4 hx5 HST hlw
   have HLW := Aside0.mk hlw
   clear hlw
   have hS0 : _ ∧ _ ∧ _ ∧ _ ∧ _ := ⟨(blk_cell hLd 0).trans rfl, hx1, hx2, (blk_cell hbd 0).trans rfl, (blk_cell hbd 1).trans rfl⟩
   have HRd := Aside0.mk (Kd.R_drew hR)
   have HB1 := Aside0.mk hB.drew
   have HX1 := Aside0.mk hbd
   have HLD := Aside0.mk hLd
   have HXS := Aside0.mk (And.intro hx0 (And.intro hx1 (And.intro hx2 (And.intro hx3 (And.intro hx4 hx5)))))
   have HE := Aside0.mk (fun (Y : World) (hY : Below (wr.drew).heap.size wr.drew Y) => at_T40 (Kd.C_below HC.out (HB1.out.trans (hY.mono HB1.out.size))) (i : Int) (by omega) (by omega))
   clear hx0 hx1 hx2 hx3 hx4 hx5 hB hbx hbd hLd hLr hR
   cases hlo : lowB x.f1 o with
   | false =>
    have HF := Aside0.mk (HLW.out.trans (congrArg some hlo))
    have HST2 := Aside0.mk (HST.out.trans (by rw [hlo]; simp : _ = seenL o (xs.take i)))
    clear hlo
    go_wp2
    refine start_ (n := 10) (S := fun w' => w'.cell? ⟨q, 0, none⟩ = some (.slice (some ad) xs.length cx) ∧ w'.cell? _ = some (.int .i64 x.f1.f0) ∧ w'.cell? _ = some (.int .u64 x.f1.f1) ∧ w'.cell? ⟨w.heap.size, 0, none⟩ = some (.int .i64 o.f0) ∧ w'.cell? ⟨w.heap.size, 1, none⟩ = some (.int .u64 o.f1)) (ds := []) (Sq.bl 10 0) (by kernel_rfl) rfl (by rfl) hS0 (fun hS => ?_)
    refine Sq.pu (v := ?_) (a' := ?_) 0 17 (Sq.bl 10 1) (by kernel_rfl) rfl rfl (fun _ _ _ h => h) (by rfl) ?_ ?_ ?_; rotate_left; (· intro w'; go_simp; with_reducible rfl); rotate_left; (· simp only [Act.put,zp1,zp2,zp3,zp4,zp5]; rfl)
    refine Sq.pu (v := ?_) (a' := ?_) 1 18 (Sq.bl 10 3) (by kernel_rfl) rfl rfl (fun _ _ _ h => h) (by rfl) ?_ ?_ ?_; rotate_left; (· intro w'; go_simp; with_reducible rfl); rotate_left; (· simp only [Act.put,zp1,zp2,zp3,zp4,zp5]; rfl)
    refine Sq.pu (v := ?_) (a' := ?_) 2 19 (Sq.bl 10 7) (by kernel_rfl) rfl rfl (fun _ _ _ h => h) (by rfl) ?_ ?_ ?_; rotate_left; (· intro w'; go_simp; with_reducible rfl); rotate_left; (· simp only [Act.put,zp1,zp2,zp3,zp4,zp5]; rfl)
    refine Sq.pu (v := ?_) (a' := ?_) 4 21 (Sq.bl 10 23) (by kernel_rfl) rfl rfl (fun _ _ _ h => h) (by rfl) ?_ ?_ ?_; rotate_left; (· intro w'; go_simp; with_reducible rfl); rotate_left; (· simp only [Act.put,zp1,zp2,zp3,zp4,zp5]; rfl)
    refine take_ (i := 3) (N := some 20) (v := ?_) (a' := ?_) (Sq.bl 10 31) rfl rfl (by kernel_rfl) (fun _ _ _ h => h) (Or.inl ⟨by rfl, ?_⟩) hS ?_ ?_; rotate_left; (· rintro w' ⟨s0, s1, s2, s3, s4⟩; go_simp; with_reducible rfl); rotate_left; (· simp only [Act.put,zp1,zp2,zp3,zp4,zp5]; rfl)
    refine Sq.pu (v := ?_) (a' := ?_) 5 22 (Sq.bl 10 63) (by kernel_rfl) rfl rfl (fun _ _ _ h => h) (by rfl) ?_ ?_ ?_; rotate_left; (· intro w'; go_simp; with_reducible rfl); rotate_left; (· simp only [Act.put,zp1,zp2,zp3,zp4,zp5]; rfl)
    refine Sq.pu (v := ?_) (a' := ?_) 6 23 (Sq.bl 10 127) (by kernel_rfl) rfl rfl (fun _ _ _ h => h) (by rfl) ?_ ?_ ?_; rotate_left; (· intro w'; go_simp; with_reducible rfl); rotate_left; (· simp only [Act.put,zp1,zp2,zp3,zp4,zp5]; rfl)
    refine take_ (i := 7) (N := some 24) (v := ?_) (a' := ?_) (Sq.bl 10 255) rfl rfl (by kernel_rfl) (fun _ _ _ h => h) (Or.inl ⟨by rfl, ?_⟩) hS ?_ ?_; rotate_left; (· rintro w' ⟨s0, s1, s2, s3, s4⟩; go_simp; with_reducible rfl); rotate_left; (· simp only [Act.put,zp1,zp2,zp3,zp4,zp5]; rfl)
    refine take_ (i := 8) (N := some 25) (v := ?_) (a' := ?_) (Sq.bl 10 511) rfl rfl (by kernel_rfl) (fun _ _ _ h => h) (Or.inl ⟨by rfl, ?_⟩) hS ?_ ?_; rotate_left; (· rintro w' ⟨s0, s1, s2, s3, s4⟩; go_simp; with_reducible rfl); rotate_left; (· simp only [Act.put,zp1,zp2,zp3,zp4,zp5]; rfl)
    refine one_ (i := 9) (N := some 26) (Sq.bl 10 1023) rfl rfl (by kernel_rfl) (by decide) (fun K hK => ?_)
    refine goes_ Tryd.func21 (by kernel_rfl) rfl #[.agg #[.int .i64 x.f1.f0, .int .u64 x.f1.f1], .agg #[.int .i64 o.f0, .int .u64 o.f1]] (by rfl) rfl rfl (by (try simp only [List.map_toArray, List.map_cons, List.map_nil]); first | done | rfl | skip) ?_
    refine (jalousieref02_Below.calls k _ _ _ _ false _ HF.out).mono ?_
    rintro e_ w4 ⟨rfl, hb4⟩
    have h4 := fun c v (hc : wr.drew.cell? c = some v) => (hb4.cell (World.block_lt_of_cell? _ _ hc)).trans hc
    refine ⟨_, rfl, hK.out _ _ ⟨h4 _ _ hS0.1, h4 _ _ hS0.2.1, h4 _ _ hS0.2.2.1, h4 _ _ hS0.2.2.2.1, h4 _ _ hS0.2.2.2.2⟩ (fun hS => ?_)⟩
    clear hK K
    refine norm_ (a' := ?_) ?_ ?_
    rotate_left
    ·show Act.put _ (some 26) _ = _
     simp only [Act.put,zp1,zp2,zp3,zp4,zp5]
     rfl
    refine done_ (by kernel_rfl) ?_
    have HR4 := Aside0.mk (Kd.R_below HRd.out hb4)
    have HX4 := Aside0.mk (blk_below HX1.out hb4)
    have HB4 := Aside0.mk (HB1.out.trans (hb4.mono HB1.out.size))
    clear hb4
    go_wp2
    go_roundw
    case rel => exact ⟨i + 1, by omega, by first | rfl | exact congrArg _ HW.out, by rw [HST2.out]; exact HR4.out, HB4.out, HX4.out⟩
    case measure => first | (rw [HW.out]; simp only [intOf, Int.toNat_natCast]; omega) | (simp only [intOf, Int.toNat_natCast]; omega)
   | true =>
    have HF := Aside0.mk (HLW.out.trans (congrArg some hlo))
    have HST2 := Aside0.mk (HST.out.trans (by rw [hlo]; simp : _ = seenL o (xs.take i) ++ [x]))
    have hsl : (seenL o (xs.take i)).length ≤ 100000 := Nat.le_trans (List.length_filter_le _ _) (by rw [List.length_take]; omega)
    clear hlo
    go_wp2
    refine start_ (n := 10) (S := fun w' => w'.cell? ⟨q, 0, none⟩ = some (.slice (some ad) xs.length cx) ∧ w'.cell? _ = some (.int .i64 x.f1.f0) ∧ w'.cell? _ = some (.int .u64 x.f1.f1) ∧ w'.cell? ⟨w.heap.size, 0, none⟩ = some (.int .i64 o.f0) ∧ w'.cell? ⟨w.heap.size, 1, none⟩ = some (.int .u64 o.f1)) (ds := []) (Sq.bl 10 0) (by kernel_rfl) rfl (by rfl) hS0 (fun hS => ?_)
    refine Sq.pu (v := ?_) (a' := ?_) 0 17 (Sq.bl 10 1) (by kernel_rfl) rfl rfl (fun _ _ _ h => h) (by rfl) ?_ ?_ ?_; rotate_left; (· intro w'; go_simp; with_reducible rfl); rotate_left; (· simp only [Act.put,zp1,zp2,zp3,zp4,zp5]; rfl)
    refine Sq.pu (v := ?_) (a' := ?_) 1 18 (Sq.bl 10 3) (by kernel_rfl) rfl rfl (fun _ _ _ h => h) (by rfl) ?_ ?_ ?_; rotate_left; (· intro w'; go_simp; with_reducible rfl); rotate_left; (· simp only [Act.put,zp1,zp2,zp3,zp4,zp5]; rfl)
    refine Sq.pu (v := ?_) (a' := ?_) 2 19 (Sq.bl 10 7) (by kernel_rfl) rfl rfl (fun _ _ _ h => h) (by rfl) ?_ ?_ ?_; rotate_left; (· intro w'; go_simp; with_reducible rfl); rotate_left; (· simp only [Act.put,zp1,zp2,zp3,zp4,zp5]; rfl)
    refine Sq.pu (v := ?_) (a' := ?_) 4 21 (Sq.bl 10 23) (by kernel_rfl) rfl rfl (fun _ _ _ h => h) (by rfl) ?_ ?_ ?_; rotate_left; (· intro w'; go_simp; with_reducible rfl); rotate_left; (· simp only [Act.put,zp1,zp2,zp3,zp4,zp5]; rfl)
    refine take_ (i := 3) (N := some 20) (v := ?_) (a' := ?_) (Sq.bl 10 31) rfl rfl (by kernel_rfl) (fun _ _ _ h => h) (Or.inl ⟨by rfl, ?_⟩) hS ?_ ?_; rotate_left; (· rintro w' ⟨s0, s1, s2, s3, s4⟩; go_simp; with_reducible rfl); rotate_left; (· simp only [Act.put,zp1,zp2,zp3,zp4,zp5]; rfl)
    refine Sq.pu (v := ?_) (a' := ?_) 5 22 (Sq.bl 10 63) (by kernel_rfl) rfl rfl (fun _ _ _ h => h) (by rfl) ?_ ?_ ?_; rotate_left; (· intro w'; go_simp; with_reducible rfl); rotate_left; (· simp only [Act.put,zp1,zp2,zp3,zp4,zp5]; rfl)
    refine Sq.pu (v := ?_) (a' := ?_) 6 23 (Sq.bl 10 127) (by kernel_rfl) rfl rfl (fun _ _ _ h => h) (by rfl) ?_ ?_ ?_; rotate_left; (· intro w'; go_simp; with_reducible rfl); rotate_left; (· simp only [Act.put,zp1,zp2,zp3,zp4,zp5]; rfl)
    refine take_ (i := 7) (N := some 24) (v := ?_) (a' := ?_) (Sq.bl 10 255) rfl rfl (by kernel_rfl) (fun _ _ _ h => h) (Or.inl ⟨by rfl, ?_⟩) hS ?_ ?_; rotate_left; (· rintro w' ⟨s0, s1, s2, s3, s4⟩; go_simp; with_reducible rfl); rotate_left; (· simp only [Act.put,zp1,zp2,zp3,zp4,zp5]; rfl)
    refine take_ (i := 8) (N := some 25) (v := ?_) (a' := ?_) (Sq.bl 10 511) rfl rfl (by kernel_rfl) (fun _ _ _ h => h) (Or.inl ⟨by rfl, ?_⟩) hS ?_ ?_; rotate_left; (· rintro w' ⟨s0, s1, s2, s3, s4⟩; go_simp; with_reducible rfl); rotate_left; (· simp only [Act.put,zp1,zp2,zp3,zp4,zp5]; rfl)
    refine one_ (i := 9) (N := some 26) (Sq.bl 10 1023) rfl rfl (by kernel_rfl) (by decide) (fun K hK => ?_)
    refine goes_ Tryd.func21 (by kernel_rfl) rfl #[.agg #[.int .i64 x.f1.f0, .int .u64 x.f1.f1], .agg #[.int .i64 o.f0, .int .u64 o.f1]] (by rfl) rfl rfl (by (try simp only [List.map_toArray, List.map_cons, List.map_nil]); first | done | rfl | skip) ?_
    refine (jalousieref02_Below.calls k _ _ _ _ true _ HF.out).mono ?_
    rintro e_ w4 ⟨rfl, hb4⟩
    have h4 := fun c v (hc : wr.drew.cell? c = some v) => (hb4.cell (World.block_lt_of_cell? _ _ hc)).trans hc
    refine ⟨_, rfl, hK.out _ _ ⟨h4 _ _ hS0.1, h4 _ _ hS0.2.1, h4 _ _ hS0.2.2.1, h4 _ _ hS0.2.2.2.1, h4 _ _ hS0.2.2.2.2⟩ (fun hS => ?_)⟩
    clear hK K
    refine norm_ (a' := ?_) ?_ ?_
    rotate_left
    ·show Act.put _ (some 26) _ = _
     simp only [Act.put,zp1,zp2,zp3,zp4,zp5]
     rfl
    refine done_ (by kernel_rfl) ?_
    have hq4 := (h4 _ _ hS0.1)
    obtain ⟨hx0, hx1, hx2, hx3, hx4, hx5⟩ := HXS.out
    have hk0 := h4 _ _ hx0
    have hk1 := h4 _ _ hx1
    have hk2 := h4 _ _ hx2
    have hk3 := h4 _ _ hx3
    have hk4 := h4 _ _ hx4
    have hk5 := h4 _ _ hx5
    have HR4 := Aside0.mk (Kd.R_below HRd.out hb4)
    have HX4 := Aside0.mk (blk_below HX1.out hb4)
    have HB4 := Aside0.mk (HB1.out.trans (hb4.mono HB1.out.size))
    clear hb4 hS h4 hx0 hx1 hx2 hx3 hx4 hx5 hS0
    go_wp2_with ((with_reducible refine gate_builtin (b := .append) (xs := #[.tmp 27, .tmp 35]) rfl ?_); at_builtin; refine Kd.R_append k40 (w0 := w) w.heap.size rfl (.tmp 27) (.tmp 35) 22 40 (.agg #[(.string ⟨#[]⟩), (.int .i64 0), (.int .u64 0), (.string ⟨#[]⟩), (.string ⟨#[]⟩), (.string ⟨#[]⟩)]) 80 rfl Tryd.underlying22 info40 rfl (by decide) (by omega) _ (seenL o (xs.take i)) x [.string x.f0, .int .i64 x.f1.f0, .int .u64 x.f1.f1, .string x.f2, .string x.f3, .string x.f4] (fun _ => True) (fun _ => False) rfl rfl ?aP (fun _ hk => hk.elim) ?aF ?aO ?aB ?aS ?aL ?_; (case aP => exact k40_mkM _ _ _ x); (case aB => exact HB4.out); (case aF => exact (fun _ _ => trivial)); (case aO => exact HR4.out); (case aS => exact HB4.out.size); (case aL => omega); intro v1 w1 ho hbl hgr hat; have HO1 := Aside0.mk ho; have HBB1 := Aside0.mk hbl; have HX1 := Aside0.mk (blk_grown HX4.out hgr (Kd.R_ne HR4.out HX4.out (by decide))); clear ho hbl hgr hat)
    go_roundw
    case rel => exact ⟨i + 1, by omega, by first | rfl | exact congrArg _ HW.out, by rw [HST2.out]; exact HO1.out, HBB1.out, HX1.out⟩
    case measure => first | (rw [HW.out]; simp only [intOf, Int.toNat_natCast]; omega) | (simp only [intOf, Int.toNat_natCast]; omega)
  ·obtain rfl : i = xs.length := by omega
   have hlt2 : ((xs.length : Int) < (xs.length : Int)) = False := eq_false (by omega)
   have hlt3 : decide ((xs.length : Int) < (xs.length : Int)) = false := decide_eq_false (by omega)
   rw [List.take_length] at hR
   have HR := Aside0.mk hR
   have HB := Aside0.mk hB
   clear hR hB hbx hLr
   go_wp2
   go_ret
   exact ⟨_, rfl, HR.out, HB.out⟩


end Go.Proofs.YtkinepmilnkhmaaDoor.A
end
