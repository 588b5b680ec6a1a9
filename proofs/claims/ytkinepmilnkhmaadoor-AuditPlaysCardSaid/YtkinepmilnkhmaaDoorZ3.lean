/-
  What the claim needs of the words, of the walks and of the plain proofs, in one row (3).
-/
import Derived.Deep.RegionHeld3
import Derived.WalkLawsBesides
import Derived.WalkSpells
import Derived.RangeFuncNested
import Derived.RangeFuncBound
import Derived.RangeFuncCalls
import Derived.RangeFuncLeaves
import Derived.RangeFuncBox
import Derived.RangeFuncMany
import Derived.Shelf.Abstract
import Derived.OwnWalkIn
import Derived.TacticsInMore
import Derived.LoopNIn
import Derived.LoopIn
import Derived.ArgAppend
import Derived.Test.YtkinepmilnkhmaaDoorZ0
import Derived.Test.YtkinepmilnkhmaaDoorZ1
import Derived.Test.YtkinepmilnkhmaaDoorZ2
section
namespace Go.Proofs.YtkinepmilnkhmaaDoor.A
open Go.RowKit Go.Proofs.YtkinepmilnkhmaaDoorW.PrintWords Go.Proofs.YtkinepmilnkhmaaDoorW.PrintLast Go.Proofs.YtkinepmilnkhmaaDoorW.PrintMore
attribute [local go_sem] max2_int min2_int max_two min_two max_three min_three max_four min_four   -- for this text's walks alone
set_option linter.unusedVariables false
set_option linter.unusedSimpArgs false

open Go.Maps Go.WideElems Go.MapKept
theorem cnt_take (a : S25) (xs : List S40) (i : Nat) (h : i < xs.length) (x : S40) (hx : xs[i]? = some x) : logCnt a (xs.take (i + 1)) = logCnt a (xs.take i) + (if (x.f1.f0 == a.f0 && x.f1.f1 == a.f1) = true then 1 else 0) := by
 have e : xs[i] = x := by rw [List.getElem?_eq_getElem h] at hx; exact Option.some.inj hx
 unfold logCnt
 rw [List.take_succ_eq_append_getElem h, List.filter_append, e, List.length_append]
 congr 1
 cases hl : (x.f1.f0 == a.f0 && x.f1.f1 == a.f1) <;> simp [hl]
set_option maxHeartbeats 8000000 in
set_option maxRecDepth 100000 in
theorem ref20_Of.calls (base q : Nat) (xs : List S40) (a : S25) (w : World) (h : LogY w base q xs) (hl : xs.length ≤ 100000) :
  Calls Tryd.prog 14 #[.pointer (some ⟨q, 0, none⟩), .agg #[.int .i64 a.f0, .int .u64 a.f1]] w fun e w' => e = .returned (.int .i64 (logCnt a xs : Int)) ∧ Below w.heap.size w w' := by
 obtain ⟨v, h1, h2⟩ := h
 obtain ⟨Ax, cx, e⟩ := Kd.R_slice h2
 subst e
 have hrd := Kd.R_reads' h2
 have HC := Aside0.mk hrd.2.2
 have HL := Aside0.mk h1
 have hbox := World.alloc_heap_new w (.cells #[.int .i64 a.f0, .int .u64 a.f1] 25 (0, 0))
 have HBX := Aside0.mk hbox
 have HB := Aside0.mk ((Below.refl w.heap.size w).alloc (Nat.le_refl _) (.cells #[.int .i64 a.f0, .int .u64 a.f1] 25 (0, 0)))
 have hqw := blk_lt h1
 clear h1 h2 hbox hrd
 go_enter Tryd.func14, Tryd.ntmps14
 go_wp2
 go_loopw [6, 5] (fun vi vn wr => ∃ (i : Nat), i ≤ xs.length ∧ vi = .int .i64 (i : Int) ∧ vn = .int .i64 (logCnt a (xs.take i) : Int) ∧ Below w.heap.size w wr ∧ wr.heap[w.heap.size]? = some (.cells #[.int .i64 a.f0, .int .u64 a.f1] 25 (0, 0))) (fun vi _ _ => xs.length - (intOf vi).toNat)
 case atStart => exact ⟨0, Nat.zero_le _, rfl, rfl, HB.out, HBX.out⟩
 case round =>
  obtain ⟨i, hi, rfl, rfl, hB, hbx⟩ := hrel
  have hLr := (hB.block _ hqw).trans HL.out
  have hc0 := (blk_cell hLr 0).trans rfl
  by_cases hlt : i < xs.length
  ·have hlt2 : ((i : Int) < (xs.length : Int)) = True := eq_true (by omega)
   have hlt3 : decide ((i : Int) < (xs.length : Int)) = true := decide_eq_true (by omega)
   have hi0 : (0 ≤ (i : Int)) = True := eq_true (by omega)
   have HW : Aside0 (wrap64 ((i : Int) + 1) = ((i + 1 : Nat) : Int)) := ⟨by unfold wrap64; omega⟩
   have hbd := blk_drew hbx
   have hLd := blk_drew hLr
   obtain ⟨ad, hA, hx0, hx1, hx2, hx3, hx4, hx5⟩ := at_T40 (Kd.C_below HC.out hB.drew) (i : Int) (by omega) (by omega)
   subst hA
   have hget : xs[i]? = some (rd_T40 xs (i : Int)) := by
    unfold rd_T40
    rw [Int.toNat_natCast, List.getD_eq_getElem?_getD, List.getElem?_eq_getElem hlt]
    rfl
   rw [Int.toNat_natCast] at hx0 hx1 hx2 hx3 hx4 hx5
   have HST := Aside0.mk (cnt_take a xs i hlt _ hget)
   have HWN : Aside0 (wrap64 ((logCnt a (xs.take i) : Int) + 1) = ((logCnt a (xs.take i) + 1 : Nat) : Int)) := ⟨by
    have := logCnt_le a (xs.take i)
    rw [List.length_take] at this
    unfold wrap64
    omega⟩
   clear hget
   generalize rd_T40 xs (i : Int) = x at hx0 hx1 hx2 hx3 hx4 hx5 HST
   have hS0 : _ ∧ _ ∧ _ ∧ _ ∧ _ := ⟨(blk_cell hLd 0).trans rfl, hx1, hx2, (blk_cell hbd 0).trans rfl, (blk_cell hbd 1).trans rfl⟩
   have HB1 := Aside0.mk hB.drew
   have HX1 := Aside0.mk hbd
   clear hx0 hx3 hx4 hx5 hB hbx hbd hLd hLr
   cases hb : (x.f1.f0 == a.f0 && x.f1.f1 == a.f1) with
   | false =>
    have hEQ : ∀ {α : Type} (A B : α), (if x.f1.f0 = a.f0 then if x.f1.f1 = a.f1 then A else B else B) = B := fun A B => by
     by_cases h1 : x.f1.f0 = a.f0 <;> by_cases h2 : x.f1.f1 = a.f1 <;> simp_all
    have HST2 := Aside0.mk (HST.out.trans (by rw [hb]; simp : _ = logCnt a (xs.take i)))
    clear hb
    go_wp2
    refine start_ (n := 10) (S := fun w' => w'.cell? ⟨q, 0, none⟩ = some (.slice (some ad) xs.length cx) ∧ w'.cell? _ = some (.int .i64 x.f1.f0) ∧ w'.cell? _ = some (.int .u64 x.f1.f1) ∧ w'.cell? ⟨w.heap.size, 0, none⟩ = some (.int .i64 a.f0) ∧ w'.cell? ⟨w.heap.size, 1, none⟩ = some (.int .u64 a.f1)) (ds := []) (Sq.bl 10 0) (by kernel_rfl) rfl (by rfl) hS0 (fun hS => ?_)
    refine Sq.pu (v := ?_) (a' := ?_) 0 16 (Sq.bl 10 1) (by kernel_rfl) rfl rfl (fun _ _ _ h => h) (by rfl) ?_ ?_ ?_; rotate_left; (· intro w'; go_simp; with_reducible rfl); rotate_left; (· simp only [Act.put,zp1,zp2,zp3,zp4,zp5]; rfl)
    refine Sq.pu (v := ?_) (a' := ?_) 1 17 (Sq.bl 10 3) (by kernel_rfl) rfl rfl (fun _ _ _ h => h) (by rfl) ?_ ?_ ?_; rotate_left; (· intro w'; go_simp; with_reducible rfl); rotate_left; (· simp only [Act.put,zp1,zp2,zp3,zp4,zp5]; rfl)
    refine Sq.pu (v := ?_) (a' := ?_) 2 18 (Sq.bl 10 7) (by kernel_rfl) rfl rfl (fun _ _ _ h => h) (by rfl) ?_ ?_ ?_; rotate_left; (· intro w'; go_simp; with_reducible rfl); rotate_left; (· simp only [Act.put,zp1,zp2,zp3,zp4,zp5]; rfl)
    refine Sq.pu (v := ?_) (a' := ?_) 4 20 (Sq.bl 10 23) (by kernel_rfl) rfl rfl (fun _ _ _ h => h) (by rfl) ?_ ?_ ?_; rotate_left; (· intro w'; go_simp; with_reducible rfl); rotate_left; (· simp only [Act.put,zp1,zp2,zp3,zp4,zp5]; rfl)
    refine take_ (i := 3) (N := some 19) (v := ?_) (a' := ?_) (Sq.bl 10 31) rfl rfl (by kernel_rfl) (fun _ _ _ h => h) (Or.inl ⟨by rfl, ?_⟩) hS ?_ ?_; rotate_left; (· rintro w' ⟨s0, s1, s2, s3, s4⟩; go_simp; with_reducible rfl); rotate_left; (· simp only [Act.put,zp1,zp2,zp3,zp4,zp5]; rfl)
    refine Sq.pu (v := ?_) (a' := ?_) 5 21 (Sq.bl 10 63) (by kernel_rfl) rfl rfl (fun _ _ _ h => h) (by rfl) ?_ ?_ ?_; rotate_left; (· intro w'; go_simp; with_reducible rfl); rotate_left; (· simp only [Act.put,zp1,zp2,zp3,zp4,zp5]; rfl)
    refine Sq.pu (v := ?_) (a' := ?_) 6 22 (Sq.bl 10 127) (by kernel_rfl) rfl rfl (fun _ _ _ h => h) (by rfl) ?_ ?_ ?_; rotate_left; (· intro w'; go_simp; with_reducible rfl); rotate_left; (· simp only [Act.put,zp1,zp2,zp3,zp4,zp5]; rfl)
    refine take_ (i := 7) (N := some 23) (v := ?_) (a' := ?_) (Sq.bl 10 255) rfl rfl (by kernel_rfl) (fun _ _ _ h => h) (Or.inl ⟨by rfl, ?_⟩) hS ?_ ?_; rotate_left; (· rintro w' ⟨s0, s1, s2, s3, s4⟩; go_simp; with_reducible rfl); rotate_left; (· simp only [Act.put,zp1,zp2,zp3,zp4,zp5]; rfl)
    refine take_ (i := 8) (N := some 24) (v := ?_) (a' := ?_) (Sq.bl 10 511) rfl rfl (by kernel_rfl) (fun _ _ _ h => h) (Or.inl ⟨by rfl, ?_⟩) hS ?_ ?_; rotate_left; (· rintro w' ⟨s0, s1, s2, s3, s4⟩; go_simp; with_reducible rfl); rotate_left; (· simp only [Act.put,zp1,zp2,zp3,zp4,zp5]; rfl)
    refine Sq.pu (v := ?_) (a' := ?_) 9 25 (Sq.bl 10 1023) (by kernel_rfl) rfl rfl (fun _ _ _ h => h) (by rfl) ?_ ?_ ?_; rotate_left; (· intro w'; go_simp; with_reducible rfl); rotate_left; (· simp only [Act.put,zp1,zp2,zp3,zp4,zp5]; rfl)
    refine done_ (by kernel_rfl) ?_
    go_wp2
    go_roundw
    case rel => exact ⟨i + 1, by omega, by first | rfl | exact congrArg _ HW.out, by rw [HST2.out], HB1.out, HX1.out⟩
    case measure => first | (rw [HW.out]; simp only [intOf, Int.toNat_natCast]; omega) | (simp only [intOf, Int.toNat_natCast]; omega)
   | true =>
    have hEQ : ∀ {α : Type} (A B : α), (if x.f1.f0 = a.f0 then if x.f1.f1 = a.f1 then A else B else B) = A := fun A B => by
     by_cases h1 : x.f1.f0 = a.f0 <;> by_cases h2 : x.f1.f1 = a.f1 <;> simp_all
    have HST2 := Aside0.mk (HST.out.trans (by rw [hb]; simp : _ = logCnt a (xs.take i) + 1))
    clear hb
    go_wp2
    refine start_ (n := 10) (S := fun w' => w'.cell? ⟨q, 0, none⟩ = some (.slice (some ad) xs.length cx) ∧ w'.cell? _ = some (.int .i64 x.f1.f0) ∧ w'.cell? _ = some (.int .u64 x.f1.f1) ∧ w'.cell? ⟨w.heap.size, 0, none⟩ = some (.int .i64 a.f0) ∧ w'.cell? ⟨w.heap.size, 1, none⟩ = some (.int .u64 a.f1)) (ds := []) (Sq.bl 10 0) (by kernel_rfl) rfl (by rfl) hS0 (fun hS => ?_)
    refine Sq.pu (v := ?_) (a' := ?_) 0 16 (Sq.bl 10 1) (by kernel_rfl) rfl rfl (fun _ _ _ h => h) (by rfl) ?_ ?_ ?_; rotate_left; (· intro w'; go_simp; with_reducible rfl); rotate_left; (· simp only [Act.put,zp1,zp2,zp3,zp4,zp5]; rfl)
    refine Sq.pu (v := ?_) (a' := ?_) 1 17 (Sq.bl 10 3) (by kernel_rfl) rfl rfl (fun _ _ _ h => h) (by rfl) ?_ ?_ ?_; rotate_left; (· intro w'; go_simp; with_reducible rfl); rotate_left; (· simp only [Act.put,zp1,zp2,zp3,zp4,zp5]; rfl)
    refine Sq.pu (v := ?_) (a' := ?_) 2 18 (Sq.bl 10 7) (by kernel_rfl) rfl rfl (fun _ _ _ h => h) (by rfl) ?_ ?_ ?_; rotate_left; (· intro w'; go_simp; with_reducible rfl); rotate_left; (· simp only [Act.put,zp1,zp2,zp3,zp4,zp5]; rfl)
    refine Sq.pu (v := ?_) (a' := ?_) 4 20 (Sq.bl 10 23) (by kernel_rfl) rfl rfl (fun _ _ _ h => h) (by rfl) ?_ ?_ ?_; rotate_left; (· intro w'; go_simp; with_reducible rfl); rotate_left; (· simp only [Act.put,zp1,zp2,zp3,zp4,zp5]; rfl)
    refine take_ (i := 3) (N := some 19) (v := ?_) (a' := ?_) (Sq.bl 10 31) rfl rfl (by kernel_rfl) (fun _ _ _ h => h) (Or.inl ⟨by rfl, ?_⟩) hS ?_ ?_; rotate_left; (· rintro w' ⟨s0, s1, s2, s3, s4⟩; go_simp; with_reducible rfl); rotate_left; (· simp only [Act.put,zp1,zp2,zp3,zp4,zp5]; rfl)
    refine Sq.pu (v := ?_) (a' := ?_) 5 21 (Sq.bl 10 63) (by kernel_rfl) rfl rfl (fun _ _ _ h => h) (by rfl) ?_ ?_ ?_; rotate_left; (· intro w'; go_simp; with_reducible rfl); rotate_left; (· simp only [Act.put,zp1,zp2,zp3,zp4,zp5]; rfl)
    refine Sq.pu (v := ?_) (a' := ?_) 6 22 (Sq.bl 10 127) (by kernel_rfl) rfl rfl (fun _ _ _ h => h) (by rfl) ?_ ?_ ?_; rotate_left; (· intro w'; go_simp; with_reducible rfl); rotate_left; (· simp only [Act.put,zp1,zp2,zp3,zp4,zp5]; rfl)
    refine take_ (i := 7) (N := some 23) (v := ?_) (a' := ?_) (Sq.bl 10 255) rfl rfl (by kernel_rfl) (fun _ _ _ h => h) (Or.inl ⟨by rfl, ?_⟩) hS ?_ ?_; rotate_left; (· rintro w' ⟨s0, s1, s2, s3, s4⟩; go_simp; with_reducible rfl); rotate_left; (· simp only [Act.put,zp1,zp2,zp3,zp4,zp5]; rfl)
    refine take_ (i := 8) (N := some 24) (v := ?_) (a' := ?_) (Sq.bl 10 511) rfl rfl (by kernel_rfl) (fun _ _ _ h => h) (Or.inl ⟨by rfl, ?_⟩) hS ?_ ?_; rotate_left; (· rintro w' ⟨s0, s1, s2, s3, s4⟩; go_simp; with_reducible rfl); rotate_left; (· simp only [Act.put,zp1,zp2,zp3,zp4,zp5]; rfl)
    refine Sq.pu (v := ?_) (a' := ?_) 9 25 (Sq.bl 10 1023) (by kernel_rfl) rfl rfl (fun _ _ _ h => h) (by rfl) ?_ ?_ ?_; rotate_left; (· intro w'; go_simp; with_reducible rfl); rotate_left; (· simp only [Act.put,zp1,zp2,zp3,zp4,zp5]; rfl)
    refine done_ (by kernel_rfl) ?_
    go_wp2
    go_roundw
    case rel => exact ⟨i + 1, by omega, by first | rfl | exact congrArg _ HW.out, by rw [HST2.out]; exact congrArg _ HWN.out, HB1.out, HX1.out⟩
    case measure => first | (rw [HW.out]; simp only [intOf, Int.toNat_natCast]; omega) | (simp only [intOf, Int.toNat_natCast]; omega)
  ·obtain rfl : i = xs.length := by omega
   have hlt2 : ((xs.length : Int) < (xs.length : Int)) = False := eq_false (by omega)
   have hlt3 : decide ((xs.length : Int) < (xs.length : Int)) = false := decide_eq_false (by omega)
   have HB := Aside0.mk hB
   clear hB hbx hLr
   go_wp2
   go_ret
   rw [List.take_length]
   exact ⟨rfl, HB.out⟩


end Go.Proofs.YtkinepmilnkhmaaDoor.A
end
section
namespace Go.Proofs.YtkinepmilnkhmaaDoor.A
open Go.RowKit Go.Proofs.YtkinepmilnkhmaaDoorW.PrintWords Go.Proofs.YtkinepmilnkhmaaDoorW.PrintLast Go.Proofs.YtkinepmilnkhmaaDoorW.PrintMore
attribute [local go_sem] max2_int min2_int max_two min_two max_three min_three max_four min_four   -- for this text's walks alone
set_option linter.unusedVariables false
set_option linter.unusedSimpArgs false
open Go.Maps Go.WideElems Go.MapKept
theorem kept_cell {base : Nat} {W Y : World} {g : Nat} {cs : Array Value} {t : Nat} {fz : Nat × Nat} (h : W.heap[g]? = some (.cells cs t fz)) (hB : Below W.heap.size W Y) : Y.heap[g]? = some (.cells cs t fz) := (hB.block _ (blk_lt h)).trans h
theorem cvt {w Y : World} {A : Option Addr} {n c : Nat} {L : List UInt8} (r : ReadsInt w .u8 A n (bytesOf ⟨L.toArray⟩)) (h : Below w.heap.size w Y) : (convert 35 9 (.slice A n c)).run Tryd.prog Y = .ok (.string ⟨L.toArray⟩) Y := by
  have := string_of_reads (P := Tryd.prog) (c := c) Tryd.underlying35 Tryd.underlying5 Tryd.underlying9 (r.below h)
  rw [nums_back] at this
  exact this
end Go.Proofs.YtkinepmilnkhmaaDoor.A
end
section
namespace Go.Proofs.YtkinepmilnkhmaaDoor.A
open Go.RowKit Go.Proofs.YtkinepmilnkhmaaDoorW.PrintWords Go.Proofs.YtkinepmilnkhmaaDoorW.PrintLast Go.Proofs.YtkinepmilnkhmaaDoorW.PrintMore
attribute [local go_sem] max2_int min2_int max_two min_two max_three min_three max_four min_four   -- for this text's walks alone
set_option linter.unusedVariables false
set_option linter.unusedSimpArgs false

open Go.Maps Go.WideElems Go.MapKept
set_option maxHeartbeats 8000000 in
set_option maxRecDepth 100000 in
theorem ref20_Seen.calls (k base q : Nat) (xs : List S40) (o : S25) (w : World) (h : LogY w base q xs) (hl : xs.length ≤ 100000) (hlow : ∀ x ∈ xs, jalousieref02_Below.f k x.f1.f0 x.f1.f1 o.f0 o.f1 = some (lowB x.f1 o)) :
  Calls Tryd.prog 18 #[.pointer (some ⟨q, 0, none⟩), .agg #[.int .i64 o.f0, .int .u64 o.f1]] w fun e w' => ∃ v0_ : Value, e = .returned v0_ ∧ Kd.R k40 40 w' w.heap.size (fun _ => True) v0_ (seenL o xs) ∧ Below w.heap.size w w' := by
 obtain ⟨v, h1, h2⟩ := h
 obtain ⟨Ax, cx, e⟩ := Kd.R_slice h2
 subst e
 have hrd := Kd.R_reads' h2
 have HC := Aside0.mk hrd.2.2
 have HL := Aside0.mk h1
 have hbox := World.alloc_heap_new w (.cells #[.int .i64 o.f0, .int .u64 o.f1] 25 (0, 0))
 have HBX := Aside0.mk (blk_alloc hbox (.cells #[] 40 (0, 0)))
 have hb1 := (Below.refl w.heap.size w).alloc (Nat.le_refl _) (.cells #[.int .i64 o.f0, .int .u64 o.f1] 25 (0, 0))
 have HB := Aside0.mk (hb1.alloc hb1.size (.cells #[] 40 (0, 0)))
 have HR0 : Aside0 (Kd.R k40 40 ((w.alloc (.cells #[.int .i64 o.f0, .int .u64 o.f1] 25 (0, 0))).alloc (.cells #[] 40 (0, 0))) w.heap.size (fun _ => True) (.slice (some ⟨w.heap.size + 1, 0, none⟩) 0 0) []) := ⟨by
  have := Rd.empty k40 _ w.heap.size _ 40 (fun _ => True) (World.alloc_heap_new (w.alloc (.cells #[.int .i64 o.f0, .int .u64 o.f1] 25 (0, 0))) (.cells #[] 40 (0, 0))) hb1.size trivial (by decide)
  rw [World.size_alloc] at this
  exact this⟩
 have hqw := blk_lt h1
 clear h1 h2 hbox hrd hb1
 go_enter Tryd.func18, Tryd.ntmps18
 go_wp2
 go_loopw [6, 5] (fun vi vo wr => ∃ (i : Nat), i ≤ xs.length ∧ vi = .int .i64 (i : Int) ∧ Kd.R k40 40 wr w.heap.size (fun _ => True) vo (seenL o (xs.take i)) ∧ Below w.heap.size w wr ∧ wr.heap[w.heap.size]? = some (.cells #[.int .i64 o.f0, .int .u64 o.f1] 25 (0, 0))) (fun vi _ _ => xs.length - (intOf vi).toNat)
 case atStart => exact ⟨0, Nat.zero_le _, rfl, HR0.out, HB.out, HBX.out⟩
 case round =>
  obtain ⟨i, hi, rfl, hR, hB, hbx⟩ := hrel
  have hLr := (hB.block _ hqw).trans HL.out
  have hc0 := (blk_cell hLr 0).trans rfl
  by_cases hlt : i < xs.length
  ·have hlt2 : ((i : Int) < (xs.length : Int)) = True := eq_true (by omega)
   have hlt3 : decide ((i : Int) < (xs.length : Int)) = true := decide_eq_true (by omega)
   have hi0 : (0 ≤ (i : Int)) = True := eq_true (by omega)
   have HW : Aside0 (wrap64 ((i : Int) + 1) = ((i + 1 : Nat) : Int)) := ⟨by unfold wrap64; omega⟩
   have hbd := blk_drew hbx
   have hLd := blk_drew hLr
   obtain ⟨ad, hA, hx0, hx1, hx2, hx3, hx4, hx5⟩ := at_T40 (Kd.C_below HC.out hB.drew) (i : Int) (by omega) (by omega)
   subst hA
   have hget : xs[i]? = some (rd_T40 xs (i : Int)) := by
    unfold rd_T40
    rw [Int.toNat_natCast, List.getD_eq_getElem?_getD, List.getElem?_eq_getElem hlt]
    rfl
   rw [Int.toNat_natCast] at hx0 hx1 hx2 hx3 hx4 hx5
   have HST := Aside0.mk (seen_take o xs i hlt _ hget)
   have hlw := hlow _ (List.mem_of_getElem? hget)
   clear hget
   generalize rd_T40 xs (i : Int) = x at hx0 hx1 hx2 hx3 hx4 hx5 HST hlw
   have HLW := Aside0.mk hlw
   clear hlw
   have hS0 : _ ∧ _ ∧ _ ∧ _ ∧ _ := ⟨(blk_cell hLd 0).trans rfl, hx1, hx2, (blk_cell hbd 0).trans rfl, (blk_cell hbd 1).trans rfl⟩
   have HRd := Aside0.mk (Kd.R_drew hR)
   have HB1 := Aside0.mk hB.drew
   have HX1 := Aside0.mk hbd
   have HLD := Aside0.mk hLd
   have HXS := Aside0.mk (And.intro hx0 (And.intro hx1 (And.intro hx2 (And.intro hx3 (And.intro hx4 hx5)))))
   have HE := Aside0.mk (fun (Y : World) (hY : Below (wr.drew).heap.size wr.drew Y) => at_T40 (Kd.C_below HC.out (HB1.out.trans (hY.mono HB1.out.size))) (i : Int) (by omega) (by omega))
   clear hx0 hx1 hx2 hx3 hx4 hx5 hB hbx hbd hLd hLr hR
   cases hlo : lowB x.f1 o with
   | false =>
    have HF := Aside0.mk (HLW.out.trans (congrArg some hlo))
    have HST2 := Aside0.mk (HST.out.trans (by rw [hlo]; simp : _ = seenL o (xs.take i)))
    clear hlo
    go_wp2
    refine start_ (n := 10) (S := fun w' => w'.cell? ⟨q, 0, none⟩ = some (.slice (some ad) xs.length cx) ∧ w'.cell? _ = some (.int .i64 x.f1.f0) ∧ w'.cell? _ = some (.int .u64 x.f1.f1) ∧ w'.cell? ⟨w.heap.size, 0, none⟩ = some (.int .i64 o.f0) ∧ w'.cell? ⟨w.heap.size, 1, none⟩ = some (.int .u64 o.f1)) (ds := []) (Sq.bl 10 0) (by kernel_rfl) rfl (by rfl) hS0 (fun hS => ?_)
    refine Sq.pu (v := ?_) (a' := ?_) 0 17 (Sq.bl 10 1) (by kernel_rfl) rfl rfl (fun _ _ _ h => h) (by rfl) ?_ ?_ ?_; rotate_left; (· intro w'; go_simp; with_reducible rfl); rotate_left; (· simp only [Act.put,zp1,zp2,zp3,zp4,zp5]; rfl)
    refine Sq.pu (v := ?_) (a' := ?_) 1 18 (Sq.bl 10 3) (by kernel_rfl) rfl rfl (fun _ _ _ h => h) (by rfl) ?_ ?_ ?_; rotate_left; (· intro w'; go_simp; with_reducible rfl); rotate_left; (· simp only [Act.put,zp1,zp2,zp3,zp4,zp5]; rfl)
    refine Sq.pu (v := ?_) (a' := ?_) 2 19 (Sq.bl 10 7) (by kernel_rfl) rfl rfl (fun _ _ _ h => h) (by rfl) ?_ ?_ ?_; rotate_left; (· intro w'; go_simp; with_reducible rfl); rotate_left; (· simp only [Act.put,zp1,zp2,zp3,zp4,zp5]; rfl)
    refine Sq.pu (v := ?_) (a' := ?_) 4 21 (Sq.bl 10 23) (by kernel_rfl) rfl rfl (fun _ _ _ h => h) (by rfl) ?_ ?_ ?_; rotate_left; (· intro w'; go_simp; with_reducible rfl); rotate_left; (· simp only [Act.put,zp1,zp2,zp3,zp4,zp5]; rfl)
    refine take_ (i := 3) (N := some 20) (v := ?_) (a' := ?_) (Sq.bl 10 31) rfl rfl (by kernel_rfl) (fun _ _ _ h => h) (Or.inl ⟨by rfl, ?_⟩) hS ?_ ?_; rotate_left; (· rintro w' ⟨s0, s1, s2, s3, s4⟩; go_simp; with_reducible rfl); rotate_left; (· simp only [Act.put,zp1,zp2,zp3,zp4,zp5]; rfl)
    refine Sq.pu (v := ?_) (a' := ?_) 5 22 (Sq.bl 10 63) (by kernel_rfl) rfl rfl (fun _ _ _ h => h) (by rfl) ?_ ?_ ?_; rotate_left; (· intro w'; go_simp; with_reducible rfl); rotate_left; (· simp only [Act.put,zp1,zp2,zp3,zp4,zp5]; rfl)
    refine Sq.pu (v := ?_) (a' := ?_) 6 23 (Sq.bl 10 127) (by kernel_rfl) rfl rfl (fun _ _ _ h => h) (by rfl) ?_ ?_ ?_; rotate_left; (· intro w'; go_simp; with_reducible rfl); rotate_left; (· simp only [Act.put,zp1,zp2,zp3,zp4,zp5]; rfl)
    refine take_ (i := 7) (N := some 24) (v := ?_) (a' := ?_) (Sq.bl 10 255) rfl rfl (by kernel_rfl) (fun _ _ _ h => h) (Or.inl ⟨by rfl, ?_⟩) hS ?_ ?_; rotate_left; (· rintro w' ⟨s0, s1, s2, s3, s4⟩; go_simp; with_reducible rfl); rotate_left; (· simp only [Act.put,zp1,zp2,zp3,zp4,zp5]; rfl)
    refine take_ (i := 8) (N := some 25) (v := ?_) (a' := ?_) (Sq.bl 10 511) rfl rfl (by kernel_rfl) (fun _ _ _ h => h) (Or.inl ⟨by rfl, ?_⟩) hS ?_ ?_; rotate_left; (· rintro w' ⟨s0, s1, s2, s3, s4⟩; go_simp; with_reducible rfl); rotate_left; (· simp only [Act.put,zp1,zp2,zp3,zp4,zp5]; rfl)
    refine one_ (i := 9) (N := some 26) (Sq.bl 10 1023) rfl rfl (by kernel_rfl) (by decide) (fun K hK => ?_)
    refine goes_ Tryd.func21 (by kernel_rfl) rfl #[.agg #[.int .i64 x.f1.f0, .int .u64 x.f1.f1], .agg #[.int .i64 o.f0, .int .u64 o.f1]] (by rfl) rfl rfl (by (try simp only [List.map_toArray, List.map_cons, List.map_nil]); first | done | rfl | skip) ?_
    refine (jalousieref02_Below.calls k _ _ _ _ false _ HF.out).mono ?_
    rintro e_ w4 ⟨rfl, hb4⟩
    have h4 := fun c v (hc : wr.drew.cell? c = some v) => (hb4.cell (World.block_lt_of_cell? _ _ hc)).trans hc
    refine ⟨_, rfl, hK.out _ _ ⟨h4 _ _ hS0.1, h4 _ _ hS0.2.1, h4 _ _ hS0.2.2.1, h4 _ _ hS0.2.2.2.1, h4 _ _ hS0.2.2.2.2⟩ (fun hS => ?_)⟩
    clear hK K
    refine norm_ (a' := ?_) ?_ ?_
    rotate_left
    ·show Act.put _ (some 26) _ = _
     simp only [Act.put,zp1,zp2,zp3,zp4,zp5]
     rfl
    refine done_ (by kernel_rfl) ?_
    have HR4 := Aside0.mk (Kd.R_below HRd.out hb4)
    have HX4 := Aside0.mk (blk_below HX1.out hb4)
    have HB4 := Aside0.mk (HB1.out.trans (hb4.mono HB1.out.size))
    clear hb4
    go_wp2
    go_roundw
    case rel => exact ⟨i + 1, by omega, by first | rfl | exact congrArg _ HW.out, by rw [HST2.out]; exact HR4.out, HB4.out, HX4.out⟩
    case measure => first | (rw [HW.out]; simp only [intOf, Int.toNat_natCast]; omega) | (simp only [intOf, Int.toNat_natCast]; omega)
   | true =>
    have HF := Aside0.mk (HLW.out.trans (congrArg some hlo))
    have HST2 := Aside0.mk (HST.out.trans (by rw [hlo]; simp : _ = seenL o (xs.take i) ++ [x]))
    have hsl : (seenL o (xs.take i)).length ≤ 100000 := Nat.le_trans (List.length_filter_le _ _) (by rw [List.length_take]; omega)
    clear hlo
    go_wp2
    refine start_ (n := 10) (S := fun w' => w'.cell? ⟨q, 0, none⟩ = some (.slice (some ad) xs.length cx) ∧ w'.cell? _ = some (.int .i64 x.f1.f0) ∧ w'.cell? _ = some (.int .u64 x.f1.f1) ∧ w'.cell? ⟨w.heap.size, 0, none⟩ = some (.int .i64 o.f0) ∧ w'.cell? ⟨w.heap.size, 1, none⟩ = some (.int .u64 o.f1)) (ds := []) (Sq.bl 10 0) (by kernel_rfl) rfl (by rfl) hS0 (fun hS => ?_)
    refine Sq.pu (v := ?_) (a' := ?_) 0 17 (Sq.bl 10 1) (by kernel_rfl) rfl rfl (fun _ _ _ h => h) (by rfl) ?_ ?_ ?_; rotate_left; (· intro w'; go_simp; with_reducible rfl); rotate_left; (· simp only [Act.put,zp1,zp2,zp3,zp4,zp5]; rfl)
    refine Sq.pu (v := ?_) (a' := ?_) 1 18 (Sq.bl 10 3) (by kernel_rfl) rfl rfl (fun _ _ _ h => h) (by rfl) ?_ ?_ ?_; rotate_left; (· intro w'; go_simp; with_reducible rfl); rotate_left; (· simp only [Act.put,zp1,zp2,zp3,zp4,zp5]; rfl)
    refine Sq.pu (v := ?_) (a' := ?_) 2 19 (Sq.bl 10 7) (by kernel_rfl) rfl rfl (fun _ _ _ h => h) (by rfl) ?_ ?_ ?_; rotate_left; (· intro w'; go_simp; with_reducible rfl); rotate_left; (· simp only [Act.put,zp1,zp2,zp3,zp4,zp5]; rfl)
    refine Sq.pu (v := ?_) (a' := ?_) 4 21 (Sq.bl 10 23) (by kernel_rfl) rfl rfl (fun _ _ _ h => h) (by rfl) ?_ ?_ ?_; rotate_left; (· intro w'; go_simp; with_reducible rfl); rotate_left; (· simp only [Act.put,zp1,zp2,zp3,zp4,zp5]; rfl)
    refine take_ (i := 3) (N := some 20) (v := ?_) (a' := ?_) (Sq.bl 10 31) rfl rfl (by kernel_rfl) (fun _ _ _ h => h) (Or.inl ⟨by rfl, ?_⟩) hS ?_ ?_; rotate_left; (· rintro w' ⟨s0, s1, s2, s3, s4⟩; go_simp; with_reducible rfl); rotate_left; (· simp only [Act.put,zp1,zp2,zp3,zp4,zp5]; rfl)
    refine Sq.pu (v := ?_) (a' := ?_) 5 22 (Sq.bl 10 63) (by kernel_rfl) rfl rfl (fun _ _ _ h => h) (by rfl) ?_ ?_ ?_; rotate_left; (· intro w'; go_simp; with_reducible rfl); rotate_left; (· simp only [Act.put,zp1,zp2,zp3,zp4,zp5]; rfl)
    refine Sq.pu (v := ?_) (a' := ?_) 6 23 (Sq.bl 10 127) (by kernel_rfl) rfl rfl (fun _ _ _ h => h) (by rfl) ?_ ?_ ?_; rotate_left; (· intro w'; go_simp; with_reducible rfl); rotate_left; (· simp only [Act.put,zp1,zp2,zp3,zp4,zp5]; rfl)
    refine take_ (i := 7) (N := some 24) (v := ?_) (a' := ?_) (Sq.bl 10 255) rfl rfl (by kernel_rfl) (fun _ _ _ h => h) (Or.inl ⟨by rfl, ?_⟩) hS ?_ ?_; rotate_left; (· rintro w' ⟨s0, s1, s2, s3, s4⟩; go_simp; with_reducible rfl); rotate_left; (· simp only [Act.put,zp1,zp2,zp3,zp4,zp5]; rfl)
    refine take_ (i := 8) (N := some 25) (v := ?_) (a' := ?_) (Sq.bl 10 511) rfl rfl (by kernel_rfl) (fun _ _ _ h => h) (Or.inl ⟨by rfl, ?_⟩) hS ?_ ?_; rotate_left; (· rintro w' ⟨s0, s1, s2, s3, s4⟩; go_simp; with_reducible rfl); rotate_left; (· simp only [Act.put,zp1,zp2,zp3,zp4,zp5]; rfl)
    refine one_ (i := 9) (N := some 26) (Sq.bl 10 1023) rfl rfl (by kernel_rfl) (by decide) (fun K hK => ?_)
    refine goes_ Tryd.func21 (by kernel_rfl) rfl #[.agg #[.int .i64 x.f1.f0, .int .u64 x.f1.f1], .agg #[.int .i64 o.f0, .int .u64 o.f1]] (by rfl) rfl rfl (by (try simp only [List.map_toArray, List.map_cons, List.map_nil]); first | done | rfl | skip) ?_
    refine (jalousieref02_Below.calls k _ _ _ _ true _ HF.out).mono ?_
    rintro e_ w4 ⟨rfl, hb4⟩
    have h4 := fun c v (hc : wr.drew.cell? c = some v) => (hb4.cell (World.block_lt_of_cell? _ _ hc)).trans hc
    refine ⟨_, rfl, hK.out _ _ ⟨h4 _ _ hS0.1, h4 _ _ hS0.2.1, h4 _ _ hS0.2.2.1, h4 _ _ hS0.2.2.2.1, h4 _ _ hS0.2.2.2.2⟩ (fun hS => ?_)⟩
    clear hK K
    refine norm_ (a' := ?_) ?_ ?_
    rotate_left
    ·show Act.put _ (some 26) _ = _
     simp only [Act.put,zp1,zp2,zp3,zp4,zp5]
     rfl
    refine done_ (by kernel_rfl) ?_
    have hq4 := (h4 _ _ hS0.1)
    obtain ⟨hx0, hx1, hx2, hx3, hx4, hx5⟩ := HXS.out
    have hk0 := h4 _ _ hx0
    have hk1 := h4 _ _ hx1
    have hk2 := h4 _ _ hx2
    have hk3 := h4 _ _ hx3
    have hk4 := h4 _ _ hx4
    have hk5 := h4 _ _ hx5
    have HR4 := Aside0.mk (Kd.R_below HRd.out hb4)
    have HX4 := Aside0.mk (blk_below HX1.out hb4)
    have HB4 := Aside0.mk (HB1.out.trans (hb4.mono HB1.out.size))
    clear hb4 hS h4 hx0 hx1 hx2 hx3 hx4 hx5 hS0
    go_wp2_with ((with_reducible refine gate_builtin (b := .append) (xs := #[.tmp 27, .tmp 35]) rfl ?_); at_builtin; refine Kd.R_append k40 (w0 := w) w.heap.size rfl (.tmp 27) (.tmp 35) 22 40 (.agg #[(.string ⟨#[]⟩), (.int .i64 0), (.int .u64 0), (.string ⟨#[]⟩), (.string ⟨#[]⟩), (.string ⟨#[]⟩)]) 80 rfl Tryd.underlying22 info40 rfl (by decide) (by omega) _ (seenL o (xs.take i)) x [.string x.f0, .int .i64 x.f1.f0, .int .u64 x.f1.f1, .string x.f2, .string x.f3, .string x.f4] (fun _ => True) (fun _ => False) rfl rfl ?aP (fun _ hk => hk.elim) ?aF ?aO ?aB ?aS ?aL ?_; (case aP => exact k40_mkM _ _ _ x); (case aB => exact HB4.out); (case aF => exact (fun _ _ => trivial)); (case aO => exact HR4.out); (case aS => exact HB4.out.size); (case aL => omega); intro v1 w1 ho hbl hgr hat; have HO1 := Aside0.mk ho; have HBB1 := Aside0.mk hbl; have HX1 := Aside0.mk (blk_grown HX4.out hgr (Kd.R_ne HR4.out HX4.out (by decide))); clear ho hbl hgr hat)
    go_roundw
    case rel => exact ⟨i + 1, by omega, by first | rfl | exact congrArg _ HW.out, by rw [HST2.out]; exact HO1.out, HBB1.out, HX1.out⟩
    case measure => first | (rw [HW.out]; simp only [intOf, Int.toNat_natCast]; omega) | (simp only [intOf, Int.toNat_natCast]; omega)
  ·obtain rfl : i = xs.length := by omega
   have hlt2 : ((xs.length : Int) < (xs.length : Int)) = False := eq_false (by omega)
   have hlt3 : decide ((xs.length : Int) < (xs.length : Int)) = false := decide_eq_false (by omega)
   rw [List.take_length] at hR
   have HR := Aside0.mk hR
   have HB := Aside0.mk hB
   clear hR hB hbx hLr
   go_wp2
   go_ret
   exact ⟨_, rfl, HR.out, HB.out⟩


end Go.Proofs.YtkinepmilnkhmaaDoor.A
end
section
namespace Go.Proofs.YtkinepmilnkhmaaDoor.A
open Go.RowKit Go.Proofs.YtkinepmilnkhmaaDoorW.PrintWords Go.Proofs.YtkinepmilnkhmaaDoorW.PrintLast Go.Proofs.YtkinepmilnkhmaaDoorW.PrintMore
attribute [local go_sem] max2_int min2_int max_two min_two max_three min_three max_four min_four   -- for this text's walks alone
set_option linter.unusedVariables false
set_option linter.unusedSimpArgs false
open Go.Maps Go.WideElems Go.MapKept
theorem line_cat (s : ByteArray) (i : Nat) (x : S40) : (s ++ dec ((i + 1 : Nat) : Int) ++ (⟨#[32]⟩ : ByteArray) ++ x.f0 ++ (⟨#[32]⟩ : ByteArray) ++ lblText x.f1 ++ (⟨#[32]⟩ : ByteArray) ++ x.f2 ++ (⟨#[32]⟩ : ByteArray) ++ x.f3 ++ (⟨#[32]⟩ : ByteArray) ++ x.f4 ++ (⟨#[10]⟩ : ByteArray)).data.toList = s.data.toList ++ lineB i x := by
  simp [lineB, lineW, Lib.join_cons, Lib.joinTail, ByteArray.data_append, List.append_assoc]
theorem line_sz (i : Nat) (x : S40) (hx : szE x) (hl : lblWf x.f1) : (dec ((i + 1 : Nat) : Int)).size ≤ 200 ∧ (lblText x.f1).size ≤ 1300 ∧ (lineB i x).length ≤ 1701 := by
  refine ⟨Nat.le_trans (dec_len _) (by omega), lbl_size x.f1 hl, ?_⟩
  have := line_len i x hx hl
  unfold lineB
  rw [List.length_append, List.length_singleton]
  omega
set_option maxHeartbeats 8000000 in
set_option maxRecDepth 100000 in
theorem ref20_Print.calls (k base q : Nat) (xs : List S40) (o : S25) (w : World) (h : LogY w base q xs) (hl : xs.length ≤ 1000) (hlow : ∀ x ∈ xs, jalousieref02_Below.f k x.f1.f0 x.f1.f1 o.f0 o.f1 = some (lowB x.f1 o)) (hsz : ∀ x ∈ xs, szE x ∧ lblWf x.f1) (hdec : ∀ i : Nat, i < 1000 → jalousieref01_Decimal.f k ((i + 1 : Nat) : Int) = some (dec ((i + 1 : Nat) : Int))) (hlp : ∀ x ∈ xs, jalousieref02_Print.f k x.f1.f0 x.f1.f1 = some (lblText x.f1)) :
    Calls Tryd.prog 20 #[.pointer (some ⟨q, 0, none⟩), .agg #[.int .i64 o.f0, .int .u64 o.f1]] w fun e w' => ∃ (A : Option Addr) (c : Nat), e = .returned (.slice A (printB (seenL o xs) 0).length c) ∧ ReadsInt w' .u8 A (printB (seenL o xs) 0).length (bytesOf ⟨(printB (seenL o xs) 0).toArray⟩) ∧ Below w.heap.size w w' := by
  have kb := fun (s : ByteArray) (W : World) => print_bytes (P := Tryd.prog) 9 35 5 Tryd.underlying9 Tryd.underlying35 Tryd.underlying5 s W
  obtain ⟨W2, hW2⟩ : ∃ W2 : World, W2 = w.alloc (.cells #[.int .i64 o.f0, .int .u64 o.f1] 25 (0, 0)) := ⟨_, rfl⟩
  have HB2 : Aside0 (Below w.heap.size w W2) := ⟨by rw [hW2]; exact (Below.refl w.heap.size w).alloc (Nat.le_refl _) _⟩
  have hbox := World.alloc_heap_new w (.cells #[.int .i64 o.f0, .int .u64 o.f1] 25 (0, 0))
  have ho0 := (blk_cell hbox 0).trans rfl
  have ho1 := (blk_cell hbox 1).trans rfl
  have HY2 : Aside0 (LogY W2 base q xs) := ⟨LogY.below h HB2.out⟩
  have HSZ : Aside0 (∀ x ∈ seenL o xs, szE x ∧ lblWf x.f1) := ⟨fun x hx => hsz x (List.mem_filter.1 hx).1⟩
  have HLP : Aside0 (∀ x ∈ seenL o xs, jalousieref02_Print.f k x.f1.f0 x.f1.f1 = some (lblText x.f1)) := ⟨fun x hx => hlp x (List.mem_filter.1 hx).1⟩
  have hsl : (seenL o xs).length ≤ 1000 := Nat.le_trans (List.length_filter_le _ _) hl
  obtain ⟨ys, hys⟩ : ∃ ys, ys = seenL o xs := ⟨_, rfl⟩
  rw [← hys] at HSZ HLP hsl ⊢
  have HYS := Aside0.mk hys
  have HW2 := Aside0.mk hW2
  have HLOW := Aside0.mk hlow
  have HDEC := Aside0.mk hdec
  clear hys hbox hW2 h hlow hdec hsz hlp
  go_enter Tryd.func20, Tryd.ntmps20
  go_wp2_with (go_at_call 18; rw [← HW2.out]; (refine (ref20_Seen.calls k base q xs o _ HY2.out (by omega) HLOW.out).mono ?_); rintro e_ w4 ⟨vs, rfl, hR4, hb4⟩; rw [← HYS.out] at hR4; obtain ⟨As, cs, es⟩ := Kd.R_slice hR4; subst es; have HR4 := Aside0.mk (Kd.R_reads' hR4).2.2; have HB4 := Aside0.mk (HB2.out.trans (hb4.mono HB2.out.size)); clear hR4 hb4)
  clear ho0 ho1
  go_loopw [7, 5] (fun vi vo wr => ∃ (i : Nat) (s : ByteArray), i ≤ ys.length ∧ vi = .int .i64 (i : Int) ∧ vo = .string s ∧ s.data.toList ++ printB (ys.drop i) i = printB ys 0 ∧ s.size ≤ 2000 * i ∧ Below w4.heap.size w4 wr) (fun vi _ _ => ys.length - (intOf vi).toNat)
  case atStart => exact ⟨0, _, Nat.zero_le _, rfl, rfl, by simp, by decide, Below.refl _ _⟩
  case round =>
    obtain ⟨i, s, hi, rfl, rfl, hacc, hal, hB⟩ := hrel
    by_cases hlt : i < ys.length
    · have hlt2 : ((i : Int) < (ys.length : Int)) = True := eq_true (by omega)
      have hlt3 : decide ((i : Int) < (ys.length : Int)) = true := decide_eq_true (by omega)
      have hi0 : (0 ≤ (i : Int)) = True := eq_true (by omega)
      have HW : Aside0 (wrap64 ((i : Int) + 1) = ((i + 1 : Nat) : Int)) := ⟨by unfold wrap64; omega⟩
      obtain ⟨ad, hA, hx0, hx1, hx2, hx3, hx4, hx5⟩ := at_T40 (Kd.C_below HR4.out hB) (i : Int) (by omega) (by omega)
      subst hA
      have hmem : rd_T40 ys (i : Int) ∈ ys := by
        unfold rd_T40
        rw [Int.toNat_natCast, List.getD_eq_getElem?_getD, List.getElem?_eq_getElem hlt]
        exact List.getElem_mem hlt
      have hdr : ys.drop i = rd_T40 ys (i : Int) :: ys.drop (i + 1) := by
        rw [List.drop_eq_getElem_cons hlt]
        congr 1
        unfold rd_T40
        rw [Int.toNat_natCast, List.getD_eq_getElem?_getD, List.getElem?_eq_getElem hlt]
        rfl
      rw [Int.toNat_natCast] at hx0 hx1 hx2 hx3 hx4 hx5
      rw [hdr, printB] at hacc
      have hxs := HSZ.out _ hmem
      have hlpx := HLP.out _ hmem
      have hdx := HDEC.out i (by omega)
      clear hdr hmem
      generalize rd_T40 ys (i : Int) = x at hx0 hx1 hx2 hx3 hx4 hx5 hacc hxs hlpx
      have HACC := Aside0.mk hacc
      have HLPX := Aside0.mk hlpx
      have HDX := Aside0.mk hdx
      obtain ⟨hzd, hzl, hzn⟩ := line_sz i x hxs.1 hxs.2
      obtain ⟨z0, z2, z3, z4⟩ := hxs.1
      have HZN := Aside0.mk hzn
      have HLC := Aside0.mk (line_cat s i x)
      have HE : Aside0 (∀ Y : World, Below wr.heap.size wr Y → Y.cell? (ad.add (i * 6)) = some (.string x.f0) ∧ Y.cell? ⟨(ad.add (i * 6)).block, (ad.add (i * 6)).off + 1, none⟩ = some (.int .i64 x.f1.f0) ∧ Y.cell? ⟨(ad.add (i * 6)).block, (ad.add (i * 6)).off + 2, none⟩ = some (.int .u64 x.f1.f1) ∧ Y.cell? ⟨(ad.add (i * 6)).block, (ad.add (i * 6)).off + 3, none⟩ = some (.string x.f2) ∧ Y.cell? ⟨(ad.add (i * 6)).block, (ad.add (i * 6)).off + 4, none⟩ = some (.string x.f3) ∧ Y.cell? ⟨(ad.add (i * 6)).block, (ad.add (i * 6)).off + 5, none⟩ = some (.string x.f4)) := ⟨fun Y hY => ⟨(hY.cell (World.block_lt_of_cell? _ _ hx0)).trans hx0, (hY.cell (World.block_lt_of_cell? _ _ hx1)).trans hx1, (hY.cell (World.block_lt_of_cell? _ _ hx2)).trans hx2, (hY.cell (World.block_lt_of_cell? _ _ hx3)).trans hx3, (hY.cell (World.block_lt_of_cell? _ _ hx4)).trans hx4, (hY.cell (World.block_lt_of_cell? _ _ hx5)).trans hx5⟩⟩
      obtain ⟨d, hd⟩ : ∃ d, d = dec ((i + 1 : Nat) : Int) := ⟨_, rfl⟩
      obtain ⟨lt, hlt'⟩ : ∃ lt, lt = lblText x.f1 := ⟨_, rfl⟩
      rw [← hd] at HLC HDX hzd
      rw [← hlt'] at HLC HLPX hzl
      clear hd hlt' hacc hlpx hdx hzn hxs hx0 hx1 hx2 hx3 hx4 hx5
      have hc1 : (9223372036854775807 < s.size + d.size) = False := eq_false (by omega)
      have hc2 : (9223372036854775807 < s.size + d.size + 1) = False := eq_false (by omega)
      have hc3 : (9223372036854775807 < s.size + d.size + 1 + x.f0.size) = False := eq_false (by omega)
      have hc4 : (9223372036854775807 < s.size + d.size + 1 + x.f0.size + 1) = False := eq_false (by omega)
      have hc5 : (9223372036854775807 < s.size + d.size + 1 + x.f0.size + 1 + lt.size) = False := eq_false (by omega)
      have hc6 : (9223372036854775807 < s.size + d.size + 1 + x.f0.size + 1 + lt.size + 1) = False := eq_false (by omega)
      have hc7 : (9223372036854775807 < s.size + d.size + 1 + x.f0.size + 1 + lt.size + 1 + x.f2.size) = False := eq_false (by omega)
      have hc8 : (9223372036854775807 < s.size + d.size + 1 + x.f0.size + 1 + lt.size + 1 + x.f2.size + 1) = False := eq_false (by omega)
      have hc9 : (9223372036854775807 < s.size + d.size + 1 + x.f0.size + 1 + lt.size + 1 + x.f2.size + 1 + x.f3.size) = False := eq_false (by omega)
      have hc10 : (9223372036854775807 < s.size + d.size + 1 + x.f0.size + 1 + lt.size + 1 + x.f2.size + 1 + x.f3.size + 1) = False := eq_false (by omega)
      have hc11 : (9223372036854775807 < s.size + d.size + 1 + x.f0.size + 1 + lt.size + 1 + x.f2.size + 1 + x.f3.size + 1 + x.f4.size) = False := eq_false (by omega)
      have hc12 : (9223372036854775807 < s.size + d.size + 1 + x.f0.size + 1 + lt.size + 1 + x.f2.size + 1 + x.f3.size + 1 + x.f4.size + 1) = False := eq_false (by omega)
      have HNS : Aside0 ((s ++ d ++ (⟨#[32]⟩ : ByteArray) ++ x.f0 ++ (⟨#[32]⟩ : ByteArray) ++ lt ++ (⟨#[32]⟩ : ByteArray) ++ x.f2 ++ (⟨#[32]⟩ : ByteArray) ++ x.f3 ++ (⟨#[32]⟩ : ByteArray) ++ x.f4 ++ (⟨#[10]⟩ : ByteArray)).size ≤ 2000 * (i + 1)) := ⟨by
        rw [← data_length, HLC.out, List.length_append, data_length]
        have := HZN.out
        omega⟩
      have HBr := Aside0.mk hB
      clear hB
      go_wp2
      refine start_ (n := 43) (S := fun w' => w'.cell? (ad.add (i * 6)) = some (.string x.f0) ∧ w'.cell? ⟨(ad.add (i * 6)).block, (ad.add (i * 6)).off + 1, none⟩ = some (.int .i64 x.f1.f0) ∧ w'.cell? ⟨(ad.add (i * 6)).block, (ad.add (i * 6)).off + 2, none⟩ = some (.int .u64 x.f1.f1) ∧ w'.cell? ⟨(ad.add (i * 6)).block, (ad.add (i * 6)).off + 3, none⟩ = some (.string x.f2) ∧ w'.cell? ⟨(ad.add (i * 6)).block, (ad.add (i * 6)).off + 4, none⟩ = some (.string x.f3) ∧ w'.cell? ⟨(ad.add (i * 6)).block, (ad.add (i * 6)).off + 5, none⟩ = some (.string x.f4)) (ds := []) (Sq.bl 43 0) (by kernel_rfl) rfl (by rfl) (HE.out _ (Below.refl _ _).drew) (fun hS => ?_)
      refine Sq.pu (v := ?_) (a' := ?_) 0 17 (Sq.bl 43 1) (by kernel_rfl) rfl rfl (fun _ _ _ h => h) (by rfl) ?_ ?_ ?_; rotate_left; (· intro w'; go_simp; with_reducible rfl); rotate_left; (· simp only [Act.put, List.setIfInBounds_toArray, List.set_cons_zero, List.set_cons_succ, i64_w, i32_w, HW.out]; rfl)
      refine Sq.pu (v := ?_) (a' := ?_) 1 18 (Sq.bl 43 3) (by kernel_rfl) rfl rfl (fun _ _ _ h => h) (by rfl) ?_ ?_ ?_; rotate_left; (· intro w'; go_simp; with_reducible rfl); rotate_left; (· simp only [Act.put, List.setIfInBounds_toArray, List.set_cons_zero, List.set_cons_succ, i64_w, i32_w, HW.out]; rfl)
      refine Sq.pu (v := ?_) (a' := ?_) 2 19 (Sq.bl 43 7) (by kernel_rfl) rfl rfl (fun _ _ _ h => h) (by rfl) ?_ ?_ ?_; rotate_left; (· intro w'; go_simp; with_reducible rfl); rotate_left; (· simp only [Act.put, List.setIfInBounds_toArray, List.set_cons_zero, List.set_cons_succ, i64_w, i32_w, HW.out]; rfl)
      refine Sq.pu (v := ?_) (a' := ?_) 6 23 (Sq.bl 43 71) (by kernel_rfl) rfl rfl (fun _ _ _ h => h) (by rfl) ?_ ?_ ?_; rotate_left; (· intro w'; go_simp; with_reducible rfl); rotate_left; (· simp only [Act.put, List.setIfInBounds_toArray, List.set_cons_zero, List.set_cons_succ, i64_w, i32_w, HW.out]; rfl)
      refine Sq.pu (v := ?_) (a' := ?_) 7 24 (Sq.bl 43 199) (by kernel_rfl) rfl rfl (fun _ _ _ h => h) (by rfl) ?_ ?_ ?_; rotate_left; (· intro w'; go_simp; with_reducible rfl); rotate_left; (· simp only [Act.put, List.setIfInBounds_toArray, List.set_cons_zero, List.set_cons_succ, i64_w, i32_w, HW.out]; rfl)
      refine Sq.pu (v := ?_) (a' := ?_) 8 25 (Sq.bl 43 455) (by kernel_rfl) rfl rfl (fun _ _ _ h => h) (by rfl) ?_ ?_ ?_; rotate_left; (· intro w'; go_simp; with_reducible rfl); rotate_left; (· simp only [Act.put, List.setIfInBounds_toArray, List.set_cons_zero, List.set_cons_succ, i64_w, i32_w, HW.out]; rfl)
      refine Sq.pu (v := ?_) (a' := ?_) 9 26 (Sq.bl 43 967) (by kernel_rfl) rfl rfl (fun _ _ _ h => h) (by rfl) ?_ ?_ ?_; rotate_left; (· intro w'; go_simp; with_reducible rfl); rotate_left; (· simp only [Act.put, List.setIfInBounds_toArray, List.set_cons_zero, List.set_cons_succ, i64_w, i32_w, HW.out]; rfl)
      refine Sq.pu (v := ?_) (a' := ?_) 13 30 (Sq.bl 43 9159) (by kernel_rfl) rfl rfl (fun _ _ _ h => h) (by rfl) ?_ ?_ ?_; rotate_left; (· intro w'; go_simp; with_reducible rfl); rotate_left; (· simp only [Act.put, List.setIfInBounds_toArray, List.set_cons_zero, List.set_cons_succ, i64_w, i32_w, HW.out]; rfl)
      refine Sq.pu (v := ?_) (a' := ?_) 14 31 (Sq.bl 43 25543) (by kernel_rfl) rfl rfl (fun _ _ _ h => h) (by rfl) ?_ ?_ ?_; rotate_left; (· intro w'; go_simp; with_reducible rfl); rotate_left; (· simp only [Act.put, List.setIfInBounds_toArray, List.set_cons_zero, List.set_cons_succ, i64_w, i32_w, HW.out]; rfl)
      refine Sq.pu (v := ?_) (a' := ?_) 15 32 (Sq.bl 43 58311) (by kernel_rfl) rfl rfl (fun _ _ _ h => h) (by rfl) ?_ ?_ ?_; rotate_left; (· intro w'; go_simp; with_reducible rfl); rotate_left; (· simp only [Act.put, List.setIfInBounds_toArray, List.set_cons_zero, List.set_cons_succ, i64_w, i32_w, HW.out]; rfl)
      refine Sq.pu (v := ?_) (a' := ?_) 16 33 (Sq.bl 43 123847) (by kernel_rfl) rfl rfl (fun _ _ _ h => h) (by rfl) ?_ ?_ ?_; rotate_left; (· intro w'; go_simp; with_reducible rfl); rotate_left; (· simp only [Act.put, List.setIfInBounds_toArray, List.set_cons_zero, List.set_cons_succ, i64_w, i32_w, HW.out]; rfl)
      refine Sq.pu (v := ?_) (a' := ?_) 21 38 (Sq.bl 43 2220999) (by kernel_rfl) rfl rfl (fun _ _ _ h => h) (by rfl) ?_ ?_ ?_; rotate_left; (· intro w'; go_simp; with_reducible rfl); rotate_left; (· simp only [Act.put, List.setIfInBounds_toArray, List.set_cons_zero, List.set_cons_succ, i64_w, i32_w, HW.out]; rfl)
      refine Sq.pu (v := ?_) (a' := ?_) 22 39 (Sq.bl 43 6415303) (by kernel_rfl) rfl rfl (fun _ _ _ h => h) (by rfl) ?_ ?_ ?_; rotate_left; (· intro w'; go_simp; with_reducible rfl); rotate_left; (· simp only [Act.put, List.setIfInBounds_toArray, List.set_cons_zero, List.set_cons_succ, i64_w, i32_w, HW.out]; rfl)
      refine Sq.pu (v := ?_) (a' := ?_) 23 40 (Sq.bl 43 14803911) (by kernel_rfl) rfl rfl (fun _ _ _ h => h) (by rfl) ?_ ?_ ?_; rotate_left; (· intro w'; go_simp; with_reducible rfl); rotate_left; (· simp only [Act.put, List.setIfInBounds_toArray, List.set_cons_zero, List.set_cons_succ, i64_w, i32_w, HW.out]; rfl)
      refine Sq.pu (v := ?_) (a' := ?_) 24 41 (Sq.bl 43 31581127) (by kernel_rfl) rfl rfl (fun _ _ _ h => h) (by rfl) ?_ ?_ ?_; rotate_left; (· intro w'; go_simp; with_reducible rfl); rotate_left; (· simp only [Act.put, List.setIfInBounds_toArray, List.set_cons_zero, List.set_cons_succ, i64_w, i32_w, HW.out]; rfl)
      refine Sq.pu (v := ?_) (a' := ?_) 28 45 (Sq.bl 43 300016583) (by kernel_rfl) rfl rfl (fun _ _ _ h => h) (by rfl) ?_ ?_ ?_; rotate_left; (· intro w'; go_simp; with_reducible rfl); rotate_left; (· simp only [Act.put, List.setIfInBounds_toArray, List.set_cons_zero, List.set_cons_succ, i64_w, i32_w, HW.out]; rfl)
      refine Sq.pu (v := ?_) (a' := ?_) 29 46 (Sq.bl 43 836887495) (by kernel_rfl) rfl rfl (fun _ _ _ h => h) (by rfl) ?_ ?_ ?_; rotate_left; (· intro w'; go_simp; with_reducible rfl); rotate_left; (· simp only [Act.put, List.setIfInBounds_toArray, List.set_cons_zero, List.set_cons_succ, i64_w, i32_w, HW.out]; rfl)
      refine Sq.pu (v := ?_) (a' := ?_) 30 47 (Sq.bl 43 1910629319) (by kernel_rfl) rfl rfl (fun _ _ _ h => h) (by rfl) ?_ ?_ ?_; rotate_left; (· intro w'; go_simp; with_reducible rfl); rotate_left; (· simp only [Act.put, List.setIfInBounds_toArray, List.set_cons_zero, List.set_cons_succ, i64_w, i32_w, HW.out]; rfl)
      refine Sq.pu (v := ?_) (a' := ?_) 31 48 (Sq.bl 43 4058112967) (by kernel_rfl) rfl rfl (fun _ _ _ h => h) (by rfl) ?_ ?_ ?_; rotate_left; (· intro w'; go_simp; with_reducible rfl); rotate_left; (· simp only [Act.put, List.setIfInBounds_toArray, List.set_cons_zero, List.set_cons_succ, i64_w, i32_w, HW.out]; rfl)
      refine Sq.pu (v := ?_) (a' := ?_) 35 52 (Sq.bl 43 38417851335) (by kernel_rfl) rfl rfl (fun _ _ _ h => h) (by rfl) ?_ ?_ ?_; rotate_left; (· intro w'; go_simp; with_reducible rfl); rotate_left; (· simp only [Act.put, List.setIfInBounds_toArray, List.set_cons_zero, List.set_cons_succ, i64_w, i32_w, HW.out]; rfl)
      refine Sq.pu (v := ?_) (a' := ?_) 36 53 (Sq.bl 43 107137328071) (by kernel_rfl) rfl rfl (fun _ _ _ h => h) (by rfl) ?_ ?_ ?_; rotate_left; (· intro w'; go_simp; with_reducible rfl); rotate_left; (· simp only [Act.put, List.setIfInBounds_toArray, List.set_cons_zero, List.set_cons_succ, i64_w, i32_w, HW.out]; rfl)
      refine Sq.pu (v := ?_) (a' := ?_) 37 54 (Sq.bl 43 244576281543) (by kernel_rfl) rfl rfl (fun _ _ _ h => h) (by rfl) ?_ ?_ ?_; rotate_left; (· intro w'; go_simp; with_reducible rfl); rotate_left; (· simp only [Act.put, List.setIfInBounds_toArray, List.set_cons_zero, List.set_cons_succ, i64_w, i32_w, HW.out]; rfl)
      refine Sq.pu (v := ?_) (a' := ?_) 38 55 (Sq.bl 43 519454188487) (by kernel_rfl) rfl rfl (fun _ _ _ h => h) (by rfl) ?_ ?_ ?_; rotate_left; (· intro w'; go_simp; with_reducible rfl); rotate_left; (· simp only [Act.put, List.setIfInBounds_toArray, List.set_cons_zero, List.set_cons_succ, i64_w, i32_w, HW.out]; rfl)
      refine take_ (i := 10) (N := some 27) (v := ?_) (a' := ?_) (Sq.bl 43 519454189511) rfl rfl (by kernel_rfl) (fun _ _ _ h => h) (Or.inl ⟨by rfl, ?_⟩) hS ?_ ?_; rotate_left; (· rintro w' ⟨s0, s1, s2, s3, s4, s5⟩; go_simp; with_reducible rfl); rotate_left; (· simp only [Act.put, List.setIfInBounds_toArray, List.set_cons_zero, List.set_cons_succ, i64_w, i32_w, HW.out]; rfl)
      refine take_ (i := 17) (N := some 34) (v := ?_) (a' := ?_) (Sq.bl 43 519454320583) rfl rfl (by kernel_rfl) (fun _ _ _ h => h) (Or.inl ⟨by rfl, ?_⟩) hS ?_ ?_; rotate_left; (· rintro w' ⟨s0, s1, s2, s3, s4, s5⟩; go_simp; with_reducible rfl); rotate_left; (· simp only [Act.put, List.setIfInBounds_toArray, List.set_cons_zero, List.set_cons_succ, i64_w, i32_w, HW.out]; rfl)
      refine take_ (i := 25) (N := some 42) (v := ?_) (a' := ?_) (Sq.bl 43 519487875015) rfl rfl (by kernel_rfl) (fun _ _ _ h => h) (Or.inl ⟨by rfl, ?_⟩) hS ?_ ?_; rotate_left; (· rintro w' ⟨s0, s1, s2, s3, s4, s5⟩; go_simp; with_reducible rfl); rotate_left; (· simp only [Act.put, List.setIfInBounds_toArray, List.set_cons_zero, List.set_cons_succ, i64_w, i32_w, HW.out]; rfl)
      refine take_ (i := 32) (N := some 49) (v := ?_) (a' := ?_) (Sq.bl 43 523782842311) rfl rfl (by kernel_rfl) (fun _ _ _ h => h) (Or.inl ⟨by rfl, ?_⟩) hS ?_ ?_; rotate_left; (· rintro w' ⟨s0, s1, s2, s3, s4, s5⟩; go_simp; with_reducible rfl); rotate_left; (· simp only [Act.put, List.setIfInBounds_toArray, List.set_cons_zero, List.set_cons_succ, i64_w, i32_w, HW.out]; rfl)
      refine take_ (i := 39) (N := some 56) (v := ?_) (a' := ?_) (Sq.bl 43 1073538656199) rfl rfl (by kernel_rfl) (fun _ _ _ h => h) (Or.inl ⟨by rfl, ?_⟩) hS ?_ ?_; rotate_left; (· rintro w' ⟨s0, s1, s2, s3, s4, s5⟩; go_simp; with_reducible rfl); rotate_left; (· simp only [Act.put, List.setIfInBounds_toArray, List.set_cons_zero, List.set_cons_succ, i64_w, i32_w, HW.out]; rfl)
      refine one_ (i := 3) (N := some 20) (Sq.bl 43 1073538656207) rfl rfl (by kernel_rfl) (by decide) (fun K hK => ?_)
      refine goes_ Tryd.func52 (by kernel_rfl) rfl #[.int .i64 ((i + 1 : Nat) : Int)] (by rfl) rfl rfl (by (try simp only [List.map_toArray, List.map_cons, List.map_nil]); first | done | rfl | skip) ?_
      refine (jalousieref01_Decimal.calls k _ _ _ HDX.out).mono ?_
      rintro e_ w5 ⟨rfl, hb5⟩
      have g5 := below_step (Below.refl _ wr).drew hb5
      refine ⟨_, rfl, hK.out _ _ (HE.out _ g5) (fun hS => ?_)⟩
      clear hK K
      refine norm_ (a' := ?_) ?_ ?_
      rotate_left
      · show Act.put _ (some 20) _ = _
        simp only [Act.put, List.setIfInBounds_toArray, List.set_cons_zero, List.set_cons_succ, i64_w, i32_w, HW.out]
        rfl
      refine Sq.pu (v := ?_) (a' := ?_) 4 21 (Sq.bl 43 1073538656223) (by kernel_rfl) rfl rfl (fun _ _ _ h => h) (by rfl) ?_ ?_ ?_; rotate_left; (· intro w'; go_simp; with_reducible rfl); rotate_left; (· simp only [Act.put, List.setIfInBounds_toArray, List.set_cons_zero, List.set_cons_succ, i64_w, i32_w, HW.out]; rfl)
      refine Sq.pu (v := ?_) (a' := ?_) 5 22 (Sq.bl 43 1073538656255) (by kernel_rfl) rfl rfl (fun _ _ _ h => h) (by rfl) ?_ ?_ ?_; rotate_left; (· intro w'; go_simp; with_reducible rfl); rotate_left; (· simp only [Act.put, List.setIfInBounds_toArray, List.set_cons_zero, List.set_cons_succ, i64_w, i32_w, HW.out]; rfl)
      refine Sq.pu (v := ?_) (a' := ?_) 11 28 (Sq.bl 43 1073538658303) (by kernel_rfl) rfl rfl (fun _ _ _ h => h) (by rfl) ?_ ?_ ?_; rotate_left; (· intro w'; go_simp; with_reducible rfl); rotate_left; (· simp only [Act.put, List.setIfInBounds_toArray, List.set_cons_zero, List.set_cons_succ, i64_w, i32_w, HW.out]; rfl)
      refine Sq.pu (v := ?_) (a' := ?_) 12 29 (Sq.bl 43 1073538662399) (by kernel_rfl) rfl rfl (fun _ _ _ h => h) (by rfl) ?_ ?_ ?_; rotate_left; (· intro w'; go_simp; with_reducible rfl); rotate_left; (· simp only [Act.put, List.setIfInBounds_toArray, List.set_cons_zero, List.set_cons_succ, i64_w, i32_w, HW.out]; rfl)
      refine one_ (i := 18) (N := some 35) (Sq.bl 43 1073538924543) rfl rfl (by kernel_rfl) (by decide) (fun K hK => ?_)
      refine goes_ Tryd.func53 (by kernel_rfl) rfl #[.agg #[.int .i64 x.f1.f0, .int .u64 x.f1.f1]] (by rfl) rfl rfl (by (try simp only [List.map_toArray, List.map_cons, List.map_nil]); first | done | rfl | skip) ?_
      refine (jalousieref02_Print.calls k _ _ _ _ HLPX.out).mono ?_
      rintro e_ w6 ⟨rfl, hb6⟩
      have g6 := below_step g5 hb6
      refine ⟨_, rfl, hK.out _ _ (HE.out _ g6) (fun hS => ?_)⟩
      clear hK K
      refine norm_ (a' := ?_) ?_ ?_
      rotate_left
      · show Act.put _ (some 35) _ = _
        simp only [Act.put, List.setIfInBounds_toArray, List.set_cons_zero, List.set_cons_succ, i64_w, i32_w, HW.out]
        rfl
      refine Sq.pu (v := ?_) (a' := ?_) 19 36 (Sq.bl 43 1073539448831) (by kernel_rfl) rfl rfl (fun _ _ _ h => h) (by rfl) ?_ ?_ ?_; rotate_left; (· intro w'; go_simp; with_reducible rfl); rotate_left; (· simp only [Act.put, List.setIfInBounds_toArray, List.set_cons_zero, List.set_cons_succ, i64_w, i32_w, HW.out]; rfl)
      refine Sq.pu (v := ?_) (a' := ?_) 20 37 (Sq.bl 43 1073540497407) (by kernel_rfl) rfl rfl (fun _ _ _ h => h) (by rfl) ?_ ?_ ?_; rotate_left; (· intro w'; go_simp; with_reducible rfl); rotate_left; (· simp only [Act.put, List.setIfInBounds_toArray, List.set_cons_zero, List.set_cons_succ, i64_w, i32_w, HW.out]; rfl)
      refine Sq.pu (v := ?_) (a' := ?_) 26 43 (Sq.bl 43 1073607606271) (by kernel_rfl) rfl rfl (fun _ _ _ h => h) (by rfl) ?_ ?_ ?_; rotate_left; (· intro w'; go_simp; with_reducible rfl); rotate_left; (· simp only [Act.put, List.setIfInBounds_toArray, List.set_cons_zero, List.set_cons_succ, i64_w, i32_w, HW.out]; rfl)
      refine Sq.pu (v := ?_) (a' := ?_) 27 44 (Sq.bl 43 1073741823999) (by kernel_rfl) rfl rfl (fun _ _ _ h => h) (by rfl) ?_ ?_ ?_; rotate_left; (· intro w'; go_simp; with_reducible rfl); rotate_left; (· simp only [Act.put, List.setIfInBounds_toArray, List.set_cons_zero, List.set_cons_succ, i64_w, i32_w, HW.out]; rfl)
      refine Sq.pu (v := ?_) (a' := ?_) 33 50 (Sq.bl 43 1082331758591) (by kernel_rfl) rfl rfl (fun _ _ _ h => h) (by rfl) ?_ ?_ ?_; rotate_left; (· intro w'; go_simp; with_reducible rfl); rotate_left; (· simp only [Act.put, List.setIfInBounds_toArray, List.set_cons_zero, List.set_cons_succ, i64_w, i32_w, HW.out]; rfl)
      refine Sq.pu (v := ?_) (a' := ?_) 34 51 (Sq.bl 43 1099511627775) (by kernel_rfl) rfl rfl (fun _ _ _ h => h) (by rfl) ?_ ?_ ?_; rotate_left; (· intro w'; go_simp; with_reducible rfl); rotate_left; (· simp only [Act.put, List.setIfInBounds_toArray, List.set_cons_zero, List.set_cons_succ, i64_w, i32_w, HW.out]; rfl)
      refine Sq.pu (v := ?_) (a' := ?_) 40 57 (Sq.bl 43 2199023255551) (by kernel_rfl) rfl rfl (fun _ _ _ h => h) (by rfl) ?_ ?_ ?_; rotate_left; (· intro w'; go_simp; with_reducible rfl); rotate_left; (· simp only [Act.put, List.setIfInBounds_toArray, List.set_cons_zero, List.set_cons_succ, i64_w, i32_w, HW.out]; rfl)
      refine Sq.pu (v := ?_) (a' := ?_) 41 58 (Sq.bl 43 4398046511103) (by kernel_rfl) rfl rfl (fun _ _ _ h => h) (by rfl) ?_ ?_ ?_; rotate_left; (· intro w'; go_simp; with_reducible rfl); rotate_left; (· simp only [Act.put, List.setIfInBounds_toArray, List.set_cons_zero, List.set_cons_succ, i64_w, i32_w, HW.out]; rfl)
      refine Sq.pu (v := ?_) (a' := ?_) 42 5 (Sq.bl 43 8796093022207) (by kernel_rfl) rfl rfl (fun _ _ _ h => h) (by rfl) ?_ ?_ ?_; rotate_left; (· intro w'; go_simp; with_reducible rfl); rotate_left; (· simp only [Act.put, List.setIfInBounds_toArray, List.set_cons_zero, List.set_cons_succ, i64_w, i32_w, HW.out]; rfl)
      refine done_ (by kernel_rfl) ?_
      have HBn := Aside0.mk (HBr.out.trans (g6.mono HBr.out.size))
      clear hS g6 g5 hb6 hb5
      go_wp2
      go_roundw
      case rel => exact ⟨i + 1, _, by omega, by first | rfl | exact congrArg _ HW.out, rfl, by rw [HLC.out, List.append_assoc]; exact HACC.out, HNS.out, HBn.out⟩
      case measure => first | (rw [HW.out]; simp only [intOf, Int.toNat_natCast]; omega) | (simp only [intOf, Int.toNat_natCast]; omega)
    · obtain rfl : i = ys.length := by omega
      have hlt2 : ((ys.length : Int) < (ys.length : Int)) = False := eq_false (by omega)
      have hlt3 : decide ((ys.length : Int) < (ys.length : Int)) = false := decide_eq_false (by omega)
      rw [List.drop_length, printB, List.append_nil] at hacc
      have hss : s = ⟨(printB ys 0).toArray⟩ := by rw [← hacc]
      have hsn : s.size = (printB ys 0).length := by rw [← data_length, hacc]
      have HSS := Aside0.mk hss
      have HSN := Aside0.mk hsn
      have HBr := Aside0.mk (HB4.out.trans (hB.mono HB4.out.size))
      clear hacc hss hsn hB
      go_wp2
      go_ret
      have hb := bytes_reads wr 5 s (by have := hal; omega)
      rw [HSN.out] at hb ⊢
      rw [HSS.out] at hb ⊢
      exact ⟨_, _, rfl, hb, bytes_below HBr.out HBr.out.size _ _⟩
end Go.Proofs.YtkinepmilnkhmaaDoor.A
end
section
namespace Go.Proofs.YtkinepmilnkhmaaDoor.A
open Go.RowKit Go.Proofs.YtkinepmilnkhmaaDoorW.PrintWords Go.Proofs.YtkinepmilnkhmaaDoorW.PrintLast Go.Proofs.YtkinepmilnkhmaaDoorW.PrintMore
attribute [local go_sem] max2_int min2_int max_two min_two max_three min_three max_four min_four   -- for this text's walks alone
set_option linter.unusedVariables false
set_option linter.unusedSimpArgs false
open Go.Maps Go.WideElems Go.MapKept
set_option maxHeartbeats 8000000 in
set_option maxRecDepth 100000 in
theorem plays.calls (k : Nat) (ck : S40 → Int) (A0 : Option Addr) (c0 : Nat) (l : List S40) (a o : S25) (quota : Int) (w : World) (hr0 : Kd.C k40 w A0 l.length l) (hc0 : l.length ≤ c0) (hwf : ∀ x ∈ l, lblWf x.f1) (ha : lblWf a) (hka : ∀ x ∈ l, audit_Check.f k x = some (ck x)) (hkr : ∀ x ∈ l, jalousieref20_Check.f k x.f0 x.f1.f0 x.f1.f1 x.f2 x.f3 x.f4 = some (ck x)) (hA : audit_Check.f k eAnn = some 0) (hB : audit_Check.f k eBob = some 0) (hT : TabOk w) (hsz : ∀ x ∈ l, ck x = 0 → szE x)
    (hlow : ∀ x ∈ l, jalousieref02_Below.f k x.f1.f0 x.f1.f1 o.f0 o.f1 = some (lowB x.f1 o)) (hdec : ∀ i : Nat, i < 1000 → jalousieref01_Decimal.f k ((i + 1 : Nat) : Int) = some (dec ((i + 1 : Nat) : Int))) (hlp : ∀ x ∈ l, ck x = 0 → jalousieref02_Print.f k x.f1.f0 x.f1.f1 = some (lblText x.f1)) (hsame : jalousieref20_Same.f k (seenL o (playL ck (l.take 60))) (seenL o (playL ck (l.take 60))) = some true) :
    Calls Tryd.prog 3 #[.slice A0 l.length c0, .agg #[.int .i64 a.f0, .int .u64 a.f1], .agg #[.int .i64 o.f0, .int .u64 o.f1], .int .i64 quota] w fun e w' => e = .returned (.bool true) ∧ Below w.heap.size w w' := by
  obtain ⟨W2, hW2, hba, hbo, hBW, hsW⟩ := boxes_label a o (w := w)
  have HC := Aside0.mk hr0
  have HKA := Aside0.mk hka
  have HKR := Aside0.mk hkr
  have HWF := Aside0.mk hwf
  have HA := Aside0.mk (And.intro hA hB)
  have HT := Aside0.mk hT
  have HSZ := Aside0.mk hsz
  have HLW := Aside0.mk hlow
  have HDEC := Aside0.mk hdec
  have HLP := Aside0.mk hlp
  have HSAME := Aside0.mk hsame
  have HW2 := Aside0.mk hW2
  have HBO := Aside0.mk hbo
  have HBA := Aside0.mk hba
  have HBW := Aside0.mk hBW
  have HAWF := Aside0.mk ha
  clear hr0 hka hkr hwf hA hB hT hsz hlow hdec hlp hsame hW2 hbo hba hBW ha
  obtain ⟨xs, hxs⟩ : ∃ xs, xs = playL ck (l.take 60) := ⟨_, rfl⟩
  rw [← hxs] at HSAME
  have hxl : xs.length ≤ 60 := by
    have := playL_len ck (l.take 60)
    rw [List.length_take] at this
    rw [hxs]
    omega
  have HIN : Aside0 (∀ x ∈ xs, x ∈ l ∧ ck x = 0) := ⟨fun x hx => by
    rw [hxs] at hx
    have h1 := List.mem_filter.1 hx
    exact ⟨List.mem_of_mem_take h1.1, by simpa using h1.2⟩⟩
  have HXS := Aside0.mk hxs
  clear hxs
  go_enter Tryd.func3, Tryd.ntmps3
  go_wp2_with (go_at_call 11; rw [← HW2.out]; (refine (play.calls k ck A0 c0 l HKA.out HKR.out _ (Kd.C_below HC.out HBW.out) hc0 HWF.out).mono ?_); rintro e_ w3 ⟨p, m, q, rfl, hp, hm, hq, hX, hY, hb⟩; rw [← HXS.out] at hX hY; have HX := Aside0.mk hX; have HY := Aside0.mk hY; have HB3 := Aside0.mk (HBW.out.trans (hb.mono HBW.out.size)); have HO3 := Aside0.mk (kept_cell (base := 0) HBO.out hb); have HA3 := Aside0.mk (kept_cell (base := 0) HBA.out hb); have hs3 := hb.size; clear hX hY hb)
  obtain ⟨W4, hW4⟩ : ∃ W4 : World, W4 = w3.drew := ⟨_, rfl⟩
  have HW4 := Aside0.mk hW4
  have HB34 : Aside0 (Below w3.heap.size w3 W4) := ⟨by rw [hW4]; exact (Below.refl _ _).drew⟩
  have HXd : Aside0 (LogX W4 _ p m xs) := ⟨LogX.below HX.out HB34.out⟩
  have HYd : Aside0 (LogY W4 _ q xs) := ⟨LogY.below HY.out HB34.out⟩
  have HB4 := Aside0.mk (HB3.out.trans (HB34.out.mono HB3.out.size))
  have hO4 := kept_cell (base := 0) HO3.out HB34.out
  have hA4 := kept_cell (base := 0) HA3.out HB34.out
  have HS : Aside0 (∀ Y : World, Below W4.heap.size W4 Y → Y.cell? ⟨w.heap.size, 0, none⟩ = some (.int .i64 a.f0) ∧ Y.cell? ⟨w.heap.size, 1, none⟩ = some (.int .u64 a.f1) ∧ Y.cell? ⟨w.heap.size + 1, 0, none⟩ = some (.int .i64 o.f0) ∧ Y.cell? ⟨w.heap.size + 1, 1, none⟩ = some (.int .u64 o.f1)) := ⟨fun Y hY => ⟨(blk_cell (kept_cell (base := 0) hA4 hY) 0).trans rfl, (blk_cell (kept_cell (base := 0) hA4 hY) 1).trans rfl, (blk_cell (kept_cell (base := 0) hO4 hY) 0).trans rfl, (blk_cell (kept_cell (base := 0) hO4 hY) 1).trans rfl⟩⟩
  have hxsz : ∀ x ∈ xs, szE x ∧ lblWf x.f1 := fun x hx => ⟨HSZ.out x (HIN.out x hx).1 (HIN.out x hx).2, HWF.out x (HIN.out x hx).1⟩
  obtain ⟨sx, hsx⟩ : ∃ sx, sx = printB (seenL o xs) 0 := ⟨_, rfl⟩
  obtain ⟨n, hn⟩ : ∃ n, n = logCnt a xs := ⟨_, rfl⟩
  obtain ⟨b, hbq⟩ : ∃ b, b = decide ((n : Int) ≥ quota) := ⟨_, rfl⟩
  have HPX := Aside0.mk (fun (Y : World) (hY : Below W4.heap.size W4 Y) => audit_Print.calls _ p m xs o Y (LogX.below HXd.out hY) (by omega) hxsz (TabOk.below HT.out (HB4.out.trans (hY.mono HB4.out.size))))
  have HPY := Aside0.mk (fun (Y : World) (hY : Below W4.heap.size W4 Y) => ref20_Print.calls k _ q xs o Y (LogY.below HYd.out hY) (by omega) (fun x hx => HLW.out x (HIN.out x hx).1) hxsz HDEC.out (fun x hx => HLP.out x (HIN.out x hx).1 (HIN.out x hx).2))
  have HOX := Aside0.mk (fun (Y : World) (hY : Below W4.heap.size W4 Y) => audit_Of.calls _ p m xs a HAWF.out Y (LogX.below HXd.out hY))
  have HOY := Aside0.mk (fun (Y : World) (hY : Below W4.heap.size W4 Y) => ref20_Of.calls _ q xs a Y (LogY.below HYd.out hY) (by omega))
  have HFX := Aside0.mk (fun (Y : World) (hY : Below W4.heap.size W4 Y) => audit_Full.calls _ p m xs a quota HAWF.out Y (LogX.below HXd.out hY))
  have HSX := Aside0.mk (fun (Y : World) (hY : Below W4.heap.size W4 Y) => audit_Seen.calls _ p m xs o Y (LogX.below HXd.out hY) (by omega))
  have HSY := Aside0.mk (fun (Y : World) (hY : Below W4.heap.size W4 Y) => ref20_Seen.calls k _ q xs o Y (LogY.below HYd.out hY) (by omega) (fun x hx => HLW.out x (HIN.out x hx).1))
  simp only [← hsx, ← hn, ← hbq] at HPX HPY HOX HOY HFX
  obtain ⟨ys, hys⟩ : ∃ ys, ys = seenL o xs := ⟨_, rfl⟩
  rw [← hys] at HSAME
  simp only [← hys] at HSX HSY
  have hg1 : decide (quota ≤ (n : Int)) = b := hbq.symm
  have hg2 : decide ((n : Int) ≥ quota) = b := hbq.symm
  clear hW4 hO4 hA4 hxsz hsx hn hys hbq
  go_wp2
  refine start_ (n := 46) (S := fun w' => w'.cell? ⟨w.heap.size, 0, none⟩ = some (.int .i64 a.f0) ∧ w'.cell? ⟨w.heap.size, 1, none⟩ = some (.int .u64 a.f1) ∧ w'.cell? ⟨w.heap.size + 1, 0, none⟩ = some (.int .i64 o.f0) ∧ w'.cell? ⟨w.heap.size + 1, 1, none⟩ = some (.int .u64 o.f1)) (ds := []) (Sq.bl 46 0) (by kernel_rfl) rfl (by rfl) (by rw [← HW4.out]; exact HS.out _ (Below.refl _ _)) (fun hS => ?_)
  rw [← HW4.out]
  refine Sq.pu (v := ?_) (a' := ?_) 0 18 (Sq.bl 46 1) (by kernel_rfl) rfl rfl (fun _ _ _ h => h) (by rfl) ?_ ?_ ?_; rotate_left; (· intro w'; go_simp; with_reducible rfl); rotate_left; (· simp only [Act.put, List.setIfInBounds_toArray, List.set_cons_zero, List.set_cons_succ, i64_w, i32_w, hg1, hg2, beq_self_eq_true]; rfl)
  refine Sq.pu (v := ?_) (a' := ?_) 1 19 (Sq.bl 46 3) (by kernel_rfl) rfl rfl (fun _ _ _ h => h) (by rfl) ?_ ?_ ?_; rotate_left; (· intro w'; go_simp; with_reducible rfl); rotate_left; (· simp only [Act.put, List.setIfInBounds_toArray, List.set_cons_zero, List.set_cons_succ, i64_w, i32_w, hg1, hg2, beq_self_eq_true]; rfl)
  refine one_ (i := 2) (N := some 20) (Sq.bl 46 7) rfl rfl (by kernel_rfl) (by decide) (fun K hK => ?_)
  refine goes_ Tryd.func12 (by kernel_rfl) rfl #[] (by rfl) rfl rfl (by simp) ?_
  refine (live.calls k HA.out.1 HA.out.2 _ (TabOk.below HT.out HB4.out)).mono ?_
  rintro e_ v2 ⟨rfl, g2⟩
  refine ⟨_, rfl, hK.out _ _ (HS.out _ g2) (fun hS => ?_)⟩
  clear hK K
  refine norm_ (a' := ?_) ?_ ?_
  rotate_left
  · show Act.put _ (some 20) _ = _
    simp only [Act.put, List.setIfInBounds_toArray, List.set_cons_zero, List.set_cons_succ, i64_w, i32_w, hg1, hg2, beq_self_eq_true]
    rfl
  refine Sq.pu (v := ?_) (a' := ?_) 3 21 (Sq.bl 46 15) (by kernel_rfl) rfl rfl (fun _ _ _ h => h) (by rfl) ?_ ?_ ?_; rotate_left; (· intro w'; go_simp; with_reducible rfl); rotate_left; (· simp only [Act.put, List.setIfInBounds_toArray, List.set_cons_zero, List.set_cons_succ, i64_w, i32_w, hg1, hg2, beq_self_eq_true]; rfl)
  refine Sq.pu (v := ?_) (a' := ?_) 4 22 (Sq.bl 46 31) (by kernel_rfl) rfl rfl (fun _ _ _ h => h) (by rfl) ?_ ?_ ?_; rotate_left; (· intro w'; go_simp; with_reducible rfl); rotate_left; (· simp only [Act.put, List.setIfInBounds_toArray, List.set_cons_zero, List.set_cons_succ, i64_w, i32_w, hg1, hg2, beq_self_eq_true]; rfl)
  refine Sq.pu (v := ?_) (a' := ?_) 5 23 (Sq.bl 46 63) (by kernel_rfl) rfl rfl (fun _ _ _ h => h) (by rfl) ?_ ?_ ?_; rotate_left; (· intro w'; go_simp; with_reducible rfl); rotate_left; (· simp only [Act.put, List.setIfInBounds_toArray, List.set_cons_zero, List.set_cons_succ, i64_w, i32_w, hg1, hg2, beq_self_eq_true]; rfl)
  refine Sq.pu (v := ?_) (a' := ?_) 8 26 (Sq.bl 46 319) (by kernel_rfl) rfl rfl (fun _ _ _ h => h) (by rfl) ?_ ?_ ?_; rotate_left; (· intro w'; go_simp; with_reducible rfl); rotate_left; (· simp only [Act.put, List.setIfInBounds_toArray, List.set_cons_zero, List.set_cons_succ, i64_w, i32_w, hg1, hg2, beq_self_eq_true]; rfl)
  refine take_ (i := 6) (N := some 24) (v := ?_) (a' := ?_) (Sq.bl 46 383) rfl rfl (by kernel_rfl) (fun _ _ _ h => h) (Or.inl ⟨by rfl, ?_⟩) hS ?_ ?_; rotate_left; (· rintro w' ⟨s0, s1, s2, s3⟩; go_simp; with_reducible rfl); rotate_left; (· simp only [Act.put, List.setIfInBounds_toArray, List.set_cons_zero, List.set_cons_succ, i64_w, i32_w, hg1, hg2, beq_self_eq_true]; rfl)
  refine take_ (i := 9) (N := some 27) (v := ?_) (a' := ?_) (Sq.bl 46 895) rfl rfl (by kernel_rfl) (fun _ _ _ h => h) (Or.inl ⟨by rfl, ?_⟩) hS ?_ ?_; rotate_left; (· rintro w' ⟨s0, s1, s2, s3⟩; go_simp; with_reducible rfl); rotate_left; (· simp only [Act.put, List.setIfInBounds_toArray, List.set_cons_zero, List.set_cons_succ, i64_w, i32_w, hg1, hg2, beq_self_eq_true]; rfl)
  refine one_ (i := 7) (N := some 25) (Sq.bl 46 1023) rfl rfl (by kernel_rfl) (by decide) (fun K hK => ?_)
  refine goes_ Tryd.func13 (by kernel_rfl) rfl #[.pointer (some ⟨p, 0, none⟩), .agg #[.int .i64 a.f0, .int .u64 a.f1]] (by rfl) rfl rfl (by (try simp only [List.map_toArray, List.map_cons, List.map_nil]); first | done | rfl | skip) ?_
  refine (HOX.out _ g2).mono ?_
  rintro e_ v7 ⟨rfl, h7⟩
  have g7 := below_step g2 h7
  refine ⟨_, rfl, hK.out _ _ (HS.out _ g7) (fun hS => ?_)⟩
  clear hK K
  refine norm_ (a' := ?_) ?_ ?_
  rotate_left
  · show Act.put _ (some 25) _ = _
    simp only [Act.put, List.setIfInBounds_toArray, List.set_cons_zero, List.set_cons_succ, i64_w, i32_w, hg1, hg2, beq_self_eq_true]
    rfl
  refine one_ (i := 10) (N := some 28) (Sq.bl 46 2047) rfl rfl (by kernel_rfl) (by decide) (fun K hK => ?_)
  refine goes_ Tryd.func14 (by kernel_rfl) rfl #[.pointer (some ⟨q, 0, none⟩), .agg #[.int .i64 a.f0, .int .u64 a.f1]] (by rfl) rfl rfl (by (try simp only [List.map_toArray, List.map_cons, List.map_nil]); first | done | rfl | skip) ?_
  refine (HOY.out _ g7).mono ?_
  rintro e_ v10 ⟨rfl, h10⟩
  have g10 := below_step g7 h10
  refine ⟨_, rfl, hK.out _ _ (HS.out _ g10) (fun hS => ?_)⟩
  clear hK K
  refine norm_ (a' := ?_) ?_ ?_
  rotate_left
  · show Act.put _ (some 28) _ = _
    simp only [Act.put, List.setIfInBounds_toArray, List.set_cons_zero, List.set_cons_succ, i64_w, i32_w, hg1, hg2, beq_self_eq_true]
    rfl
  refine Sq.pu (v := ?_) (a' := ?_) 11 29 (Sq.bl 46 4095) (by kernel_rfl) rfl rfl (fun _ _ _ h => h) (by rfl) ?_ ?_ ?_; rotate_left; (· intro w'; go_simp; with_reducible rfl); rotate_left; (· simp only [Act.put, List.setIfInBounds_toArray, List.set_cons_zero, List.set_cons_succ, i64_w, i32_w, hg1, hg2, beq_self_eq_true]; rfl)
  refine Sq.pu (v := ?_) (a' := ?_) 12 30 (Sq.bl 46 8191) (by kernel_rfl) rfl rfl (fun _ _ _ h => h) (by rfl) ?_ ?_ ?_; rotate_left; (· intro w'; go_simp; with_reducible rfl); rotate_left; (· simp only [Act.put, List.setIfInBounds_toArray, List.set_cons_zero, List.set_cons_succ, i64_w, i32_w, hg1, hg2, beq_self_eq_true]; rfl)
  refine Sq.pu (v := ?_) (a' := ?_) 13 31 (Sq.bl 46 16383) (by kernel_rfl) rfl rfl (fun _ _ _ h => h) (by rfl) ?_ ?_ ?_; rotate_left; (· intro w'; go_simp; with_reducible rfl); rotate_left; (· simp only [Act.put, List.setIfInBounds_toArray, List.set_cons_zero, List.set_cons_succ, i64_w, i32_w, hg1, hg2, beq_self_eq_true]; rfl)
  refine Sq.pu (v := ?_) (a' := ?_) 14 32 (Sq.bl 46 32767) (by kernel_rfl) rfl rfl (fun _ _ _ h => h) (by rfl) ?_ ?_ ?_; rotate_left; (· intro w'; go_simp; with_reducible rfl); rotate_left; (· simp only [Act.put, List.setIfInBounds_toArray, List.set_cons_zero, List.set_cons_succ, i64_w, i32_w, hg1, hg2, beq_self_eq_true]; rfl)
  refine Sq.pu (v := ?_) (a' := ?_) 16 34 (Sq.bl 46 98303) (by kernel_rfl) rfl rfl (fun _ _ _ h => h) (by rfl) ?_ ?_ ?_; rotate_left; (· intro w'; go_simp; with_reducible rfl); rotate_left; (· simp only [Act.put, List.setIfInBounds_toArray, List.set_cons_zero, List.set_cons_succ, i64_w, i32_w, hg1, hg2, beq_self_eq_true]; rfl)
  refine Sq.pu (v := ?_) (a' := ?_) 18 36 (Sq.bl 46 360447) (by kernel_rfl) rfl rfl (fun _ _ _ h => h) (by rfl) ?_ ?_ ?_; rotate_left; (· intro w'; go_simp; with_reducible rfl); rotate_left; (· simp only [Act.put, List.setIfInBounds_toArray, List.set_cons_zero, List.set_cons_succ, i64_w, i32_w, hg1, hg2, beq_self_eq_true]; rfl)
  refine Sq.pu (v := ?_) (a' := ?_) 21 39 (Sq.bl 46 2457599) (by kernel_rfl) rfl rfl (fun _ _ _ h => h) (by rfl) ?_ ?_ ?_; rotate_left; (· intro w'; go_simp; with_reducible rfl); rotate_left; (· simp only [Act.put, List.setIfInBounds_toArray, List.set_cons_zero, List.set_cons_succ, i64_w, i32_w, hg1, hg2, beq_self_eq_true]; rfl)
  refine take_ (i := 15) (N := some 33) (v := ?_) (a' := ?_) (Sq.bl 46 2490367) rfl rfl (by kernel_rfl) (fun _ _ _ h => h) (Or.inl ⟨by rfl, ?_⟩) hS ?_ ?_; rotate_left; (· rintro w' ⟨s0, s1, s2, s3⟩; go_simp; with_reducible rfl); rotate_left; (· simp only [Act.put, List.setIfInBounds_toArray, List.set_cons_zero, List.set_cons_succ, i64_w, i32_w, hg1, hg2, beq_self_eq_true]; rfl)
  refine take_ (i := 19) (N := some 37) (v := ?_) (a' := ?_) (Sq.bl 46 3014655) rfl rfl (by kernel_rfl) (fun _ _ _ h => h) (Or.inl ⟨by rfl, ?_⟩) hS ?_ ?_; rotate_left; (· rintro w' ⟨s0, s1, s2, s3⟩; go_simp; with_reducible rfl); rotate_left; (· simp only [Act.put, List.setIfInBounds_toArray, List.set_cons_zero, List.set_cons_succ, i64_w, i32_w, hg1, hg2, beq_self_eq_true]; rfl)
  refine one_ (i := 17) (N := some 35) (Sq.bl 46 3145727) rfl rfl (by kernel_rfl) (by decide) (fun K hK => ?_)
  refine goes_ Tryd.func15 (by kernel_rfl) rfl #[.pointer (some ⟨p, 0, none⟩), .agg #[.int .i64 a.f0, .int .u64 a.f1], .int .i64 quota] (by rfl) rfl rfl (by (try simp only [List.map_toArray, List.map_cons, List.map_nil]); first | done | rfl | skip) ?_
  refine (HFX.out _ g10).mono ?_
  rintro e_ v17 ⟨rfl, h17⟩
  have g17 := below_step g10 h17
  refine ⟨_, rfl, hK.out _ _ (HS.out _ g17) (fun hS => ?_)⟩
  clear hK K
  refine norm_ (a' := ?_) ?_ ?_
  rotate_left
  · show Act.put _ (some 35) _ = _
    simp only [Act.put, List.setIfInBounds_toArray, List.set_cons_zero, List.set_cons_succ, i64_w, i32_w, hg1, hg2, beq_self_eq_true]
    rfl
  refine one_ (i := 20) (N := some 38) (Sq.bl 46 4194303) rfl rfl (by kernel_rfl) (by decide) (fun K hK => ?_)
  refine goes_ Tryd.func14 (by kernel_rfl) rfl #[.pointer (some ⟨q, 0, none⟩), .agg #[.int .i64 a.f0, .int .u64 a.f1]] (by rfl) rfl rfl (by (try simp only [List.map_toArray, List.map_cons, List.map_nil]); first | done | rfl | skip) ?_
  refine (HOY.out _ g17).mono ?_
  rintro e_ v20 ⟨rfl, h20⟩
  have g20 := below_step g17 h20
  refine ⟨_, rfl, hK.out _ _ (HS.out _ g20) (fun hS => ?_)⟩
  clear hK K
  refine norm_ (a' := ?_) ?_ ?_
  rotate_left
  · show Act.put _ (some 38) _ = _
    simp only [Act.put, List.setIfInBounds_toArray, List.set_cons_zero, List.set_cons_succ, i64_w, i32_w, hg1, hg2, beq_self_eq_true]
    rfl
  refine Sq.pu (v := ?_) (a' := ?_) 22 40 (Sq.bl 46 8388607) (by kernel_rfl) rfl rfl (fun _ _ _ h => h) (by rfl) ?_ ?_ ?_; rotate_left; (· intro w'; go_simp; with_reducible rfl); rotate_left; (· simp only [Act.put, List.setIfInBounds_toArray, List.set_cons_zero, List.set_cons_succ, i64_w, i32_w, hg1, hg2, beq_self_eq_true]; rfl)
  refine Sq.pu (v := ?_) (a' := ?_) 23 41 (Sq.bl 46 16777215) (by kernel_rfl) rfl rfl (fun _ _ _ h => h) (by rfl) ?_ ?_ ?_; rotate_left; (· intro w'; go_simp; with_reducible rfl); rotate_left; (· simp only [Act.put, List.setIfInBounds_toArray, List.set_cons_zero, List.set_cons_succ, i64_w, i32_w, hg1, hg2, beq_self_eq_true]; rfl)
  refine Sq.pu (v := ?_) (a' := ?_) 24 42 (Sq.bl 46 33554431) (by kernel_rfl) rfl rfl (fun _ _ _ h => h) (by rfl) ?_ ?_ ?_; rotate_left; (· intro w'; go_simp; with_reducible rfl); rotate_left; (· simp only [Act.put, List.setIfInBounds_toArray, List.set_cons_zero, List.set_cons_succ, i64_w, i32_w, hg1, hg2, beq_self_eq_true]; rfl)
  refine Sq.pu (v := ?_) (a' := ?_) 25 43 (Sq.bl 46 67108863) (by kernel_rfl) rfl rfl (fun _ _ _ h => h) (by rfl) ?_ ?_ ?_; rotate_left; (· intro w'; go_simp; with_reducible rfl); rotate_left; (· simp only [Act.put, List.setIfInBounds_toArray, List.set_cons_zero, List.set_cons_succ, i64_w, i32_w, hg1, hg2, beq_self_eq_true]; rfl)
  refine Sq.pu (v := ?_) (a' := ?_) 26 44 (Sq.bl 46 134217727) (by kernel_rfl) rfl rfl (fun _ _ _ h => h) (by rfl) ?_ ?_ ?_; rotate_left; (· intro w'; go_simp; with_reducible rfl); rotate_left; (· simp only [Act.put, List.setIfInBounds_toArray, List.set_cons_zero, List.set_cons_succ, i64_w, i32_w, hg1, hg2, beq_self_eq_true]; rfl)
  refine Sq.pu (v := ?_) (a' := ?_) 29 47 (Sq.bl 46 671088639) (by kernel_rfl) rfl rfl (fun _ _ _ h => h) (by rfl) ?_ ?_ ?_; rotate_left; (· intro w'; go_simp; with_reducible rfl); rotate_left; (· simp only [Act.put, List.setIfInBounds_toArray, List.set_cons_zero, List.set_cons_succ, i64_w, i32_w, hg1, hg2, beq_self_eq_true]; rfl)
  refine take_ (i := 27) (N := some 45) (v := ?_) (a' := ?_) (Sq.bl 46 805306367) rfl rfl (by kernel_rfl) (fun _ _ _ h => h) (Or.inl ⟨by rfl, ?_⟩) hS ?_ ?_; rotate_left; (· rintro w' ⟨s0, s1, s2, s3⟩; go_simp; with_reducible rfl); rotate_left; (· simp only [Act.put, List.setIfInBounds_toArray, List.set_cons_zero, List.set_cons_succ, i64_w, i32_w, hg1, hg2, beq_self_eq_true]; rfl)
  refine take_ (i := 30) (N := some 48) (v := ?_) (a' := ?_) (Sq.bl 46 1879048191) rfl rfl (by kernel_rfl) (fun _ _ _ h => h) (Or.inl ⟨by rfl, ?_⟩) hS ?_ ?_; rotate_left; (· rintro w' ⟨s0, s1, s2, s3⟩; go_simp; with_reducible rfl); rotate_left; (· simp only [Act.put, List.setIfInBounds_toArray, List.set_cons_zero, List.set_cons_succ, i64_w, i32_w, hg1, hg2, beq_self_eq_true]; rfl)
  refine one_ (i := 28) (N := some 46) (Sq.bl 46 2147483647) rfl rfl (by kernel_rfl) (by decide) (fun K hK => ?_)
  refine goes_ Tryd.func17 (by kernel_rfl) rfl #[.pointer (some ⟨p, 0, none⟩), .agg #[.int .i64 o.f0, .int .u64 o.f1]] (by rfl) rfl rfl (by (try simp only [List.map_toArray, List.map_cons, List.map_nil]); first | done | rfl | skip) ?_
  refine (HSX.out _ g20).mono ?_
  rintro e_ v28 ⟨vs, rfl, hR28, h28⟩
  obtain ⟨A28, c28, ev⟩ := Kd.R_slice hR28
  subst ev
  have g28 := below_step g20 h28
  refine ⟨_, rfl, hK.out _ _ (HS.out _ g28) (fun hS => ?_)⟩
  clear hK K
  refine norm_ (a' := ?_) ?_ ?_
  rotate_left
  · show Act.put _ (some 46) _ = _
    simp only [Act.put, List.setIfInBounds_toArray, List.set_cons_zero, List.set_cons_succ, i64_w, i32_w, hg1, hg2, beq_self_eq_true]
    rfl
  refine one_ (i := 31) (N := some 49) (Sq.bl 46 4294967295) rfl rfl (by kernel_rfl) (by decide) (fun K hK => ?_)
  refine goes_ Tryd.func18 (by kernel_rfl) rfl #[.pointer (some ⟨q, 0, none⟩), .agg #[.int .i64 o.f0, .int .u64 o.f1]] (by rfl) rfl rfl (by (try simp only [List.map_toArray, List.map_cons, List.map_nil]); first | done | rfl | skip) ?_
  refine (HSY.out _ g28).mono ?_
  rintro e_ v31 ⟨vs, rfl, hR31, h31⟩
  obtain ⟨A31, c31, ev⟩ := Kd.R_slice hR31
  subst ev
  have g31 := below_step g28 h31
  have HR31 := Aside0.mk (Kd.R_reads' hR31)
  have HR28 := Aside0.mk (Kd.R_reads' (Kd.R_below hR28 h31))
  clear hR28 hR31
  refine ⟨_, rfl, hK.out _ _ (HS.out _ g31) (fun hS => ?_)⟩
  clear hK K
  refine norm_ (a' := ?_) ?_ ?_
  rotate_left
  · show Act.put _ (some 49) _ = _
    simp only [Act.put, List.setIfInBounds_toArray, List.set_cons_zero, List.set_cons_succ, i64_w, i32_w, hg1, hg2, beq_self_eq_true]
    rfl
  refine one_ (i := 32) (N := some 50) (Sq.bl 46 8589934591) rfl rfl (by kernel_rfl) (by decide) (fun K hK => ?_)
  refine goes_ Tryd.func16 (by kernel_rfl) rfl #[.slice A28 ys.length c28, .slice A31 ys.length c31] (by rfl) rfl rfl (by (try simp only [List.map_toArray, List.map_cons, List.map_nil]); first | done | rfl | skip) ?_
  refine (jalousieref20_Same.calls k A28 c28 ys A31 c31 ys true _ HR28.out.2.2 HR28.out.2.1 HR31.out.2.2 HR31.out.2.1 HSAME.out).mono ?_
  rintro e_ v32 ⟨rfl, h32⟩
  have g32 := below_step g31 h32.below
  refine ⟨_, rfl, hK.out _ _ (HS.out _ g32) (fun hS => ?_)⟩
  clear hK K
  refine norm_ (a' := ?_) ?_ ?_
  rotate_left
  · show Act.put _ (some 50) _ = _
    simp only [Act.put, List.setIfInBounds_toArray, List.set_cons_zero, List.set_cons_succ, i64_w, i32_w, hg1, hg2, beq_self_eq_true]
    rfl
  refine Sq.pu (v := ?_) (a' := ?_) 33 51 (Sq.bl 46 17179869183) (by kernel_rfl) rfl rfl (fun _ _ _ h => h) (by rfl) ?_ ?_ ?_; rotate_left; (· intro w'; go_simp; with_reducible rfl); rotate_left; (· simp only [Act.put, List.setIfInBounds_toArray, List.set_cons_zero, List.set_cons_succ, i64_w, i32_w, hg1, hg2, beq_self_eq_true]; rfl)
  refine Sq.pu (v := ?_) (a' := ?_) 34 52 (Sq.bl 46 34359738367) (by kernel_rfl) rfl rfl (fun _ _ _ h => h) (by rfl) ?_ ?_ ?_; rotate_left; (· intro w'; go_simp; with_reducible rfl); rotate_left; (· simp only [Act.put, List.setIfInBounds_toArray, List.set_cons_zero, List.set_cons_succ, i64_w, i32_w, hg1, hg2, beq_self_eq_true]; rfl)
  refine Sq.pu (v := ?_) (a' := ?_) 35 53 (Sq.bl 46 68719476735) (by kernel_rfl) rfl rfl (fun _ _ _ h => h) (by rfl) ?_ ?_ ?_; rotate_left; (· intro w'; go_simp; with_reducible rfl); rotate_left; (· simp only [Act.put, List.setIfInBounds_toArray, List.set_cons_zero, List.set_cons_succ, i64_w, i32_w, hg1, hg2, beq_self_eq_true]; rfl)
  refine Sq.pu (v := ?_) (a' := ?_) 39 57 (Sq.bl 46 618475290623) (by kernel_rfl) rfl rfl (fun _ _ _ h => h) (by rfl) ?_ ?_ ?_; rotate_left; (· intro w'; go_simp; with_reducible rfl); rotate_left; (· simp only [Act.put, List.setIfInBounds_toArray, List.set_cons_zero, List.set_cons_succ, i64_w, i32_w, hg1, hg2, beq_self_eq_true]; rfl)
  refine take_ (i := 36) (N := some 54) (v := ?_) (a' := ?_) (Sq.bl 46 687194767359) rfl rfl (by kernel_rfl) (fun _ _ _ h => h) (Or.inl ⟨by rfl, ?_⟩) hS ?_ ?_; rotate_left; (· rintro w' ⟨s0, s1, s2, s3⟩; go_simp; with_reducible rfl); rotate_left; (· simp only [Act.put, List.setIfInBounds_toArray, List.set_cons_zero, List.set_cons_succ, i64_w, i32_w, hg1, hg2, beq_self_eq_true]; rfl)
  refine take_ (i := 40) (N := some 58) (v := ?_) (a' := ?_) (Sq.bl 46 1786706395135) rfl rfl (by kernel_rfl) (fun _ _ _ h => h) (Or.inl ⟨by rfl, ?_⟩) hS ?_ ?_; rotate_left; (· rintro w' ⟨s0, s1, s2, s3⟩; go_simp; with_reducible rfl); rotate_left; (· simp only [Act.put, List.setIfInBounds_toArray, List.set_cons_zero, List.set_cons_succ, i64_w, i32_w, hg1, hg2, beq_self_eq_true]; rfl)
  refine one_ (i := 37) (N := some 55) (Sq.bl 46 1924145348607) rfl rfl (by kernel_rfl) (by decide) (fun K hK => ?_)
  refine goes_ Tryd.func19 (by kernel_rfl) rfl #[.pointer (some ⟨p, 0, none⟩), .agg #[.int .i64 o.f0, .int .u64 o.f1]] (by rfl) rfl rfl (by (try simp only [List.map_toArray, List.map_cons, List.map_nil]); first | done | rfl | skip) ?_
  refine (HPX.out _ g32).mono ?_
  rintro e_ v37 ⟨A37, c37, rfl, r37, h37⟩
  have g37 := below_step g32 h37
  refine ⟨_, rfl, hK.out _ _ (HS.out _ g37) (fun hS => ?_)⟩
  clear hK K
  refine norm_ (a' := ?_) ?_ ?_
  rotate_left
  · show Act.put _ (some 55) _ = _
    simp only [Act.put, List.setIfInBounds_toArray, List.set_cons_zero, List.set_cons_succ, i64_w, i32_w, hg1, hg2, beq_self_eq_true]
    rfl
  refine more_ (S' := fun w' => (convert 35 9 (.slice A37 sx.length c37)).run Tryd.prog w' = .ok (.string ⟨sx.toArray⟩) w' ∧ w'.cell? ⟨w.heap.size, 0, none⟩ = some (.int .i64 a.f0) ∧ w'.cell? ⟨w.heap.size, 1, none⟩ = some (.int .u64 a.f1) ∧ w'.cell? ⟨w.heap.size + 1, 0, none⟩ = some (.int .i64 o.f0) ∧ w'.cell? ⟨w.heap.size + 1, 1, none⟩ = some (.int .u64 o.f1)) (fun _ h => h.2) _ ⟨cvt r37 (Below.refl _ _), hS⟩ (fun hS => ?_)
  refine take_ (i := 38) (N := some 56) (v := ?_) (a' := ?_) (Sq.bl 46 2199023255551) rfl rfl (by kernel_rfl) (fun _ _ _ h => h) (Or.inl ⟨by rfl, ?_⟩) hS ?_ ?_; rotate_left; (· rintro w' ⟨t37, s0, s1, s2, s3⟩; go_simp; with_reducible rfl); rotate_left; (· simp only [Act.put, List.setIfInBounds_toArray, List.set_cons_zero, List.set_cons_succ, i64_w, i32_w, hg1, hg2, beq_self_eq_true]; rfl)
  refine one_ (i := 41) (N := some 59) (Sq.bl 46 4398046511103) rfl rfl (by kernel_rfl) (by decide) (fun K hK => ?_)
  refine goes_ Tryd.func20 (by kernel_rfl) rfl #[.pointer (some ⟨q, 0, none⟩), .agg #[.int .i64 o.f0, .int .u64 o.f1]] (by rfl) rfl rfl (by (try simp only [List.map_toArray, List.map_cons, List.map_nil]); first | done | rfl | skip) ?_
  refine (HPY.out _ g37).mono ?_
  rintro e_ v41 ⟨A41, c41, rfl, r41, h41⟩
  have g41 := below_step g37 h41
  refine ⟨_, rfl, hK.out _ _ ⟨cvt r37 h41, HS.out _ g41⟩ (fun hS => ?_)⟩
  clear hK K
  refine norm_ (a' := ?_) ?_ ?_
  rotate_left
  · show Act.put _ (some 59) _ = _
    simp only [Act.put, List.setIfInBounds_toArray, List.set_cons_zero, List.set_cons_succ, i64_w, i32_w, hg1, hg2, beq_self_eq_true]
    rfl
  refine more_ (S' := fun w' => (convert 35 9 (.slice A41 sx.length c41)).run Tryd.prog w' = .ok (.string ⟨sx.toArray⟩) w' ∧ (convert 35 9 (.slice A37 sx.length c37)).run Tryd.prog w' = .ok (.string ⟨sx.toArray⟩) w' ∧ w'.cell? ⟨w.heap.size, 0, none⟩ = some (.int .i64 a.f0) ∧ w'.cell? ⟨w.heap.size, 1, none⟩ = some (.int .u64 a.f1) ∧ w'.cell? ⟨w.heap.size + 1, 0, none⟩ = some (.int .i64 o.f0) ∧ w'.cell? ⟨w.heap.size + 1, 1, none⟩ = some (.int .u64 o.f1)) (fun _ h => h.2) _ ⟨cvt r41 (Below.refl _ _), hS⟩ (fun hS => ?_)
  refine take_ (i := 42) (N := some 60) (v := ?_) (a' := ?_) (Sq.bl 46 8796093022207) rfl rfl (by kernel_rfl) (fun _ _ _ h => h) (Or.inl ⟨by rfl, ?_⟩) hS ?_ ?_; rotate_left; (· rintro w' ⟨t41, t37, s0, s1, s2, s3⟩; go_simp; with_reducible rfl); rotate_left; (· simp only [Act.put, List.setIfInBounds_toArray, List.set_cons_zero, List.set_cons_succ, i64_w, i32_w, hg1, hg2, beq_self_eq_true]; rfl)
  refine Sq.pu (v := ?_) (a' := ?_) 43 61 (Sq.bl 46 17592186044415) (by kernel_rfl) rfl rfl (fun _ _ _ h => h) (by rfl) ?_ ?_ ?_; rotate_left; (· intro w'; go_simp; with_reducible rfl); rotate_left; (· simp only [Act.put, List.setIfInBounds_toArray, List.set_cons_zero, List.set_cons_succ, i64_w, i32_w, hg1, hg2, beq_self_eq_true]; rfl)
  refine Sq.pu (v := ?_) (a' := ?_) 44 62 (Sq.bl 46 35184372088831) (by kernel_rfl) rfl rfl (fun _ _ _ h => h) (by rfl) ?_ ?_ ?_; rotate_left; (· intro w'; go_simp; with_reducible rfl); rotate_left; (· simp only [Act.put, List.setIfInBounds_toArray, List.set_cons_zero, List.set_cons_succ, i64_w, i32_w, hg1, hg2, beq_self_eq_true]; rfl)
  refine Sq.pu (v := ?_) (a' := ?_) 45 8 (Sq.bl 46 70368744177663) (by kernel_rfl) rfl rfl (fun _ _ _ h => h) (by rfl) ?_ ?_ ?_; rotate_left; (· intro w'; go_simp; with_reducible rfl); rotate_left; (· simp only [Act.put, List.setIfInBounds_toArray, List.set_cons_zero, List.set_cons_succ, i64_w, i32_w, hg1, hg2, beq_self_eq_true]; rfl)
  refine done_ (by kernel_rfl) ?_
  have HE := Aside0.mk (HB4.out.trans (g41.mono HB4.out.size))
  clear hS r37 r41
  go_wp2
  go_ret
  exact ⟨rfl, HE.out⟩
end Go.Proofs.YtkinepmilnkhmaaDoor.A
end
section
namespace Go.Proofs.YtkinepmilnkhmaaDoor.A
open Go.RowKit Go.Proofs.YtkinepmilnkhmaaDoorW.PrintWords Go.Proofs.YtkinepmilnkhmaaDoorW.PrintLast Go.Proofs.YtkinepmilnkhmaaDoorW.PrintMore
set_option linter.unusedVariables false
set_option linter.unusedSimpArgs false
theorem chk_lvl {x : S40} (h : chkE x = 0) : 0 ≤ x.f1.f0 ∧ x.f1.f0 ≤ 15 := (chk_small h).2
theorem law_plays (A0 : Option Addr) (c0 : Nat) (l : List S40) (a o : S25) (q : Int) (w : World) (hr0 : Kd.C k40 w A0 l.length l) (hc0 : l.length ≤ c0) (s0 : ∀ x ∈ l, ok40 x) (s1 : ok25 a) (s2 : ok25 o) (s3 : (Lit.int .i64 q).wf = true) (hT : TabOk w) :
    Calls Tryd.prog 3 #[.slice A0 l.length c0, .agg #[.int .i64 a.f0, .int .u64 a.f1], .agg #[.int .i64 o.f0, .int .u64 o.f1], .int .i64 q] w fun e w' => e = .returned (.bool true) ∧ Below w.heap.size w w' := by
  obtain ⟨K1, h1⟩ := chk_all l s0
  obtain ⟨K2, h2⟩ := live_rounds
  obtain ⟨K3, h3⟩ := low_all l o s2 s0
  obtain ⟨K4, h4⟩ := same_ev (seenL o (playL chkE (l.take 60))) (Nat.le_trans (List.length_filter_le _ _) (Nat.le_trans (playL_len _ _) (by rw [List.length_take]; omega)))
  have g1 := h1 (K1 + K2 + K3 + K4 + 100) (by omega)
  have g2 := h2 (K1 + K2 + K3 + K4 + 100) (by omega)
  exact plays.calls (K1 + K2 + K3 + K4 + 100) chkE A0 c0 l a o q w hr0 hc0 (fun x hx => (s0 x hx).2.1) s1 (fun x hx => (g1 x hx).1) (fun x hx => (g1 x hx).2) g2.1 g2.2 hT (fun x _ h => (chk_small h).1) (h3 _ (by omega)) (fun i hi => dec_ref (i + 1) (by omega) _ (by omega)) (fun x hx h => lbl_ref x.f1 (chk_lvl h).1 (by have := (chk_lvl h).2; omega) (s0 x hx).2.1.2 _ (by omega)) (h4 _ (by omega))
end Go.Proofs.YtkinepmilnkhmaaDoor.A
end
