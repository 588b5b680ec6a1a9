/-
  What the claim needs of the words, of the walks and of the plain proofs, in one row (4).
-/
import Derived.Deep.RegionHeld3
import Derived.WalkLawsBesides
import Derived.WalkSpells
import Derived.RangeFuncNested
import Derived.RangeFuncBound
import Derived.RangeFuncCalls
import Derived.RangeFuncLeaves
import Derived.RangeFuncBox
import Derived.RangeFuncMany
import Derived.Shelf.Abstract
import Derived.OwnWalkIn
import Derived.TacticsInMore
import Derived.LoopNIn
import Derived.LoopIn
import Derived.Test.YtfnbodjmmkjlcaaZ0
import Derived.Test.YtfnbodjmmkjlcaaZ1
import Derived.Test.YtfnbodjmmkjlcaaZ2
import Derived.Test.YtfnbodjmmkjlcaaZ3
section
namespace Go.Proofs.Ytfnbodjmmkjlcaa.H
open Go.RowKit Go.Proofs.YtfnbodjmmkjlcaaW.PrintWords Go.Proofs.YtfnbodjmmkjlcaaW.PrintLast Go.Proofs.YtfnbodjmmkjlcaaW.PrintMore
attribute [local go_sem] max2_int min2_int max_two min_two max_three min_three max_four min_four   -- for this text's walks alone
set_option linter.unusedVariables false
set_option linter.unusedSimpArgs false

/-- A walk over a script's lines: the state, and how many lines of both sides were gone past. -/
def patch_walk.one {σ : Type} (step : σ → Int → Nat → Nat → σ) (d : Int) : Nat → σ × Nat × Nat → σ × Nat × Nat
 | 0, q => q
 | m + 1, q => patch_walk.one step d m (step q.1 d q.2.1 q.2.2, if d = 3 then q.2.1 else q.2.1 + 1, if d = 2 then q.2.2 else q.2.2 + 1)
def patch_walk.all {σ : Type} (step : σ → Int → Nat → Nat → σ) : List S47 → σ × Nat × Nat → σ × Nat × Nat
 | [], q => q
 | x :: t, q => patch_walk.all step t (patch_walk.one step x.f0 x.f1.length q)
def patch_walk.lines (s : List S47) : Nat := (s.map (fun e => e.f1.length)).sum
theorem patch_walk.drop_cons (s : List S47) (i : Nat) (h : i < s.length) : s.drop i = s.getD i z47 :: s.drop (i + 1) := by
 rw [List.drop_eq_getElem_cons h, List.getD_eq_getElem?_getD, List.getElem?_eq_getElem h]
 rfl
set_option maxHeartbeats 8000000 in
set_option maxRecDepth 100000 in
theorem patch_walk.callsA {σ : Type} (step : σ → Int → Nat → Nat → σ) (v : Value) (P : World → σ → Prop) (sz : σ → Nat) (A : Option Addr) (cs : Nat) (s : List S47) (x : σ) (w : World)
  (hC : ∀ w x, P w x → Kd.C k47 w A s.length s) (hcs : s.length ≤ cs) (hlen : s.length ≤ 1000000) (hlines : patch_walk.lines s ≤ 1000000) (hP : P w x) (hsz : sz x = 0)
  (hal : ∀ w x o, P w x → P (w.alloc o) x) (hss : ∀ x d i j, sz (step x d i j) ≤ sz x + 1)
  (hcl : ∀ (w : World) (x : σ) (d : Int) (i j : Nat), P w x → sz x ≤ i + j → i ≤ 1000000 → j ≤ 1000000 → Calls Try.prog 59 #[.int .i64 d, .int .i64 (i : Int), .int .i64 (j : Int), v] w fun e w' => e = .returned (.tuple #[]) ∧ P w' (step x d i j) ∧ ∀ (k : Nat) (c : Array Value), w.heap[k]? = some (Obj.cells c 47 (0, 0)) → w'.heap[k]? = some (Obj.cells c 47 (0, 0))) :
  Calls Try.prog 58 #[.slice A s.length cs, .func (.func 59) #[] #[v]] w fun e w' => e = .returned (.tuple #[]) ∧ P w' (patch_walk.all step s (x, 0, 0)).1 := by
 have HC := Aside0.mk hC
 have HAL := Aside0.mk hal
 have HSS := Aside0.mk hss
 have HCL := Aside0.mk hcl
 have HP := Aside0.mk hP
 have HSZ := Aside0.mk hsz
 have HLN := Aside0.mk hlines
 clear hC hal hss hcl hP hsz hlines
 go_enter Try.func58, Try.ntmps58
 go_wp2
 go_loopw [4, 5, 10] (fun vi vj vk wr => ∃ (k i j : Nat) (y : σ), k ≤ s.length ∧ vk = .int .i64 (k : Int) ∧ vi = .int .i64 (i : Int) ∧ vj = .int .i64 (j : Int) ∧ P wr y ∧ sz y ≤ i + j ∧ i + patch_walk.lines (s.drop k) ≤ 1000000 ∧ j + patch_walk.lines (s.drop k) ≤ 1000000 ∧ patch_walk.all step (s.drop k) (y, i, j) = patch_walk.all step s (x, 0, 0)) (fun _ _ vk _ => s.length - (intOf vk).toNat)
 case atStart => exact ⟨0, 0, 0, x, Nat.zero_le _, rfl, rfl, rfl, HP.out, by rw [HSZ.out]; exact Nat.zero_le _, by simpa using HLN.out, by simpa using HLN.out, by simp⟩
 case round =>
  obtain ⟨k, i, j, y, hk, rfl, rfl, rfl, hPy, hsy, hi, hj, hall⟩ := hrel
  by_cases hlt : k < s.length
  ·rw [patch_walk.drop_cons s k hlt] at hi hj hall
   have hlt2 : ((k : Int) < (s.length : Int)) = True := eq_true (by omega)
   have hlt3 : decide ((k : Int) < (s.length : Int)) = true := decide_eq_true (by omega)
   have hk0 : (0 ≤ (k : Int)) = True := eq_true (by omega)
   have HWk : Aside0 (wrap64 ((k : Int) + 1) = ((k + 1 : Nat) : Int)) := ⟨by unfold wrap64; omega⟩
   obtain ⟨ad, A1, c1, hA, hx0, hx1, hl1, hC1⟩ := at_T47 (HC.out wr y hPy) (k : Int) (by omega) (by omega)
   subst hA
   have hrd : rd_T47 s (k : Int) = s.getD k z47 := by simp [rd_T47]
   rw [hrd] at hx0 hx1
   rw [Int.toNat_natCast] at hx0 hx1
   clear hrd hl1 hC1
   generalize s.getD k z47 = z at hi hj hall hx0 hx1
   have hbox := World.alloc_heap_new wr (.cells #[.int .i64 z.f0, .slice A1 z.f1.length c1] 47 (0, 0))
   have HPY := Aside0.mk (HAL.out wr y (.cells #[.int .i64 z.f0, .slice A1 z.f1.length c1] 47 (0, 0)) hPy)
   have HBOX := Aside0.mk hbox
   have HALL := Aside0.mk hall
   have HSY := Aside0.mk hsy
   have HI := Aside0.mk hi
   have HJ := Aside0.mk hj
   have hz1 := (blk_cell hbox 1).trans rfl
   clear hPy hbox hall hsy hi hj
   go_wp2
   obtain ⟨wo, rfl⟩ : ∃ wo : World, wo = wr := ⟨_, rfl⟩
   clear hx0 hx1 hz1
   go_loopw [4, 5, 17] (fun vi vj vm wr => ∃ (m i' j' : Nat) (y' : σ), m ≤ z.f1.length ∧ vm = .int .i64 (m : Int) ∧ vi = .int .i64 (i' : Int) ∧ vj = .int .i64 (j' : Int) ∧ P wr y' ∧ sz y' ≤ i' + j' ∧ wr.heap[wo.heap.size]? = some (Obj.cells #[.int .i64 z.f0, .slice A1 z.f1.length c1] 47 (0, 0)) ∧ i' + (z.f1.length - m) ≤ i + z.f1.length ∧ j' + (z.f1.length - m) ≤ j + z.f1.length ∧ patch_walk.one step z.f0 (z.f1.length - m) (y', i', j') = patch_walk.one step z.f0 z.f1.length (y, i, j)) (fun _ _ vm _ => z.f1.length - (intOf vm).toNat)
   case atStart => exact ⟨0, i, j, y, Nat.zero_le _, rfl, rfl, rfl, HPY.out, HSY.out, HBOX.out, by omega, by omega, rfl⟩
   case round =>
    obtain ⟨m, i', j', y', hm, rfl, rfl, rfl, hPz, hsz, hbx, hi', hj', hone⟩ := hrel
    have hit : i + z.f1.length ≤ 1000000 := by
     have := HI.out
     simp only [patch_walk.lines, List.map_cons, List.sum_cons] at this
     omega
    have hjt : j + z.f1.length ≤ 1000000 := by
     have := HJ.out
     simp only [patch_walk.lines, List.map_cons, List.sum_cons] at this
     omega
    by_cases hmt : m < z.f1.length
    ·obtain ⟨e, he⟩ : ∃ e, z.f1.length - m = e + 1 := ⟨z.f1.length - m - 1, by omega⟩
     have hmt2 : ((m : Int) < (z.f1.length : Int)) = True := eq_true (by omega)
     have hmt3 : decide ((m : Int) < (z.f1.length : Int)) = true := decide_eq_true (by omega)
     have HWm : Aside0 (wrap64 ((m : Int) + 1) = ((m + 1 : Nat) : Int)) := ⟨by unfold wrap64; omega⟩
     have HWi : Aside0 (wrap64 ((i' : Int) + 1) = ((i' + 1 : Nat) : Int)) := ⟨by unfold wrap64; omega⟩
     have HWj : Aside0 (wrap64 ((j' : Int) + 1) = ((j' + 1 : Nat) : Int)) := ⟨by unfold wrap64; omega⟩
     have hb0 := (blk_cell hbx 0).trans rfl
     have HBX := Aside0.mk hbx
     have HONE := Aside0.mk (by rw [he] at hone; exact hone)
     have HPZ := Aside0.mk hPz
     have HSZ' := Aside0.mk hsz
     have hi6 : i' ≤ 1000000 := by omega
     have hj6 : j' ≤ 1000000 := by omega
     have HE := Aside0.mk he
     have HM := Aside0.mk (show i' + (e + 1) ≤ i + z.f1.length ∧ j' + (e + 1) ≤ j + z.f1.length by omega)
     clear hbx hone hPz hsz he hi' hj' hm
     by_cases h3 : z.f0 = 3
     ·have hb3 : (z.f0 != 3) = false := by simp [h3]
      have hb2 : (z.f0 != 2) = true := by simp [h3]
      have H3 := Aside0.mk h3
      clear h3
      go_wp2_with (go_at_call 59; (with_reducible refine (HCL.out _ y' _ i' j' HPZ.out HSZ'.out hi6 hj6).mono ?_); rintro e_ w4 ⟨rfl, hp4, hk4⟩; have HP4 := Aside0.mk hp4; have HB4 := Aside0.mk (hk4 _ _ HBX.out); have hc0 := (blk_cell HB4.out 0).trans rfl; clear hp4 hk4)
      go_roundw
      case rel => exact ⟨m + 1, i', j' + 1, _, by omega, by first | rfl | exact congrArg _ HWm.out, rfl, by first | rfl | exact congrArg _ HWj.out, HP4.out, Nat.le_trans (HSS.out _ _ _ _) (by have := HSZ'.out; omega), HB4.out, by have := HM.out; have := HE.out; omega, by have := HM.out; have := HE.out; omega, by rw [← HONE.out]; simp [patch_walk.one, HE.out, H3.out, show z.f1.length - (m + 1) = e by have := HE.out; omega]⟩
      case measure => first | (rw [HWm.out]; simp only [intOf, Int.toNat_natCast]; omega) | (simp only [intOf, Int.toNat_natCast]; omega)
     ·by_cases h2 : z.f0 = 2
      ·have hb3 : (z.f0 != 3) = true := by simp [h2]
       have hb2 : (z.f0 != 2) = false := by simp [h2]
       have H3 := Aside0.mk h2
       clear h3 h2
       go_wp2_with (go_at_call 59; (with_reducible refine (HCL.out _ y' _ i' j' HPZ.out HSZ'.out hi6 hj6).mono ?_); rintro e_ w4 ⟨rfl, hp4, hk4⟩; have HP4 := Aside0.mk hp4; have HB4 := Aside0.mk (hk4 _ _ HBX.out); have hc0 := (blk_cell HB4.out 0).trans rfl; clear hp4 hk4)
       go_roundw
       case rel => exact ⟨m + 1, i' + 1, j', _, by omega, by first | rfl | exact congrArg _ HWm.out, by first | rfl | exact congrArg _ HWi.out, rfl, HP4.out, Nat.le_trans (HSS.out _ _ _ _) (by have := HSZ'.out; omega), HB4.out, by have := HM.out; have := HE.out; omega, by have := HM.out; have := HE.out; omega, by rw [← HONE.out]; simp [patch_walk.one, HE.out, H3.out, show z.f1.length - (m + 1) = e by have := HE.out; omega]⟩
       case measure => first | (rw [HWm.out]; simp only [intOf, Int.toNat_natCast]; omega) | (simp only [intOf, Int.toNat_natCast]; omega)
      ·have hb3 : (z.f0 != 3) = true := by simp [h3]
       have hb2 : (z.f0 != 2) = true := by simp [h2]
       have H3 := Aside0.mk (And.intro h3 h2)
       clear h3 h2
       go_wp2_with (go_at_call 59; (with_reducible refine (HCL.out _ y' _ i' j' HPZ.out HSZ'.out hi6 hj6).mono ?_); rintro e_ w4 ⟨rfl, hp4, hk4⟩; have HP4 := Aside0.mk hp4; have HB4 := Aside0.mk (hk4 _ _ HBX.out); have hc0 := (blk_cell HB4.out 0).trans rfl; clear hp4 hk4)
       go_roundw
       case rel => exact ⟨m + 1, i' + 1, j' + 1, _, by omega, by first | rfl | exact congrArg _ HWm.out, by first | rfl | exact congrArg _ HWi.out, by first | rfl | exact congrArg _ HWj.out, HP4.out, Nat.le_trans (HSS.out _ _ _ _) (by have := HSZ'.out; omega), HB4.out, by have := HM.out; have := HE.out; omega, by have := HM.out; have := HE.out; omega, by rw [← HONE.out]; simp [patch_walk.one, HE.out, H3.out, show z.f1.length - (m + 1) = e by have := HE.out; omega]⟩
       case measure => first | (rw [HWm.out]; simp only [intOf, Int.toNat_natCast]; omega) | (simp only [intOf, Int.toNat_natCast]; omega)
    ·obtain rfl : m = z.f1.length := by omega
     have hmt2 : ((z.f1.length : Int) < (z.f1.length : Int)) = False := eq_false (by omega)
     have hmt3 : decide ((z.f1.length : Int) < (z.f1.length : Int)) = false := decide_eq_false (by omega)
     have hq : (y', i', j') = patch_walk.one step z.f0 z.f1.length (y, i, j) := by simpa [patch_walk.one] using hone
     have HQ := Aside0.mk hq
     have HPZ := Aside0.mk hPz
     have HSZ' := Aside0.mk hsz
     have HM := Aside0.mk (And.intro hi' hj')
     clear hq hone hPz hsz hi' hj'
     go_wp2
     go_roundw
     case rel => exact ⟨k + 1, i', j', y', by omega, by first | rfl | exact congrArg _ HWk.out, rfl, rfl, HPZ.out, HSZ'.out, by have := HI.out; have := HM.out; simp only [patch_walk.lines, List.map_cons, List.sum_cons] at this ⊢; simp only [patch_walk.lines, List.map_cons, List.sum_cons] at *; omega, by have := HJ.out; have := HM.out; simp only [patch_walk.lines, List.map_cons, List.sum_cons] at *; omega, by rw [HQ.out]; exact HALL.out⟩
     case measure =>
      try rw [HWk.out]
      simp only [intOf, Int.toNat_natCast]
      omega
  ·obtain rfl : k = s.length := by omega
   have hlt2 : ((s.length : Int) < (s.length : Int)) = False := eq_false (by omega)
   have hlt3 : decide ((s.length : Int) < (s.length : Int)) = false := decide_eq_false (by omega)
   rw [List.drop_length] at hall
   have hq : y = (patch_walk.all step s (x, 0, 0)).1 := by rw [← hall]; rfl
   have HQ := Aside0.mk hq
   have HPY := Aside0.mk hPy
   clear hq hall hPy hsy hi hj
   go_wp2
   go_end0
   exact ⟨rfl, HQ.out ▸ HPY.out⟩
set_option maxHeartbeats 8000000 in
set_option maxRecDepth 100000 in
theorem patch_walk.callsG {σ : Type} (step : σ → Int → Nat → Nat → σ) (v : Value) (P : World → σ → Prop) (sz : σ → Nat) (A : Option Addr) (cs : Nat) (s : List S47) (x : σ) (w : World)
  (hC : ∀ w x, P w x → Kd.C k47 w A s.length s) (hcs : s.length ≤ cs) (hlen : s.length ≤ 1000000) (hlines : patch_walk.lines s ≤ 1000000) (hP : P w x) (hsz : sz x = 0)
  (hal : ∀ w x o, P w x → P (w.alloc o) x) (hss : ∀ x d i j, sz (step x d i j) ≤ sz x + 1)
  (hcl : ∀ (w : World) (x : σ) (d : Int) (i j : Nat), P w x → sz x ≤ i + j → i ≤ 1000000 → j ≤ 1000000 → Calls Try.prog 60 #[.int .i64 d, .int .i64 (i : Int), .int .i64 (j : Int), v] w fun e w' => e = .returned (.tuple #[]) ∧ P w' (step x d i j) ∧ ∀ (k : Nat) (c : Array Value), w.heap[k]? = some (Obj.cells c 47 (0, 0)) → w'.heap[k]? = some (Obj.cells c 47 (0, 0))) :
  Calls Try.prog 58 #[.slice A s.length cs, .func (.func 60) #[] #[v]] w fun e w' => e = .returned (.tuple #[]) ∧ P w' (patch_walk.all step s (x, 0, 0)).1 := by
 have HC := Aside0.mk hC
 have HAL := Aside0.mk hal
 have HSS := Aside0.mk hss
 have HCL := Aside0.mk hcl
 have HP := Aside0.mk hP
 have HSZ := Aside0.mk hsz
 have HLN := Aside0.mk hlines
 clear hC hal hss hcl hP hsz hlines
 go_enter Try.func58, Try.ntmps58
 go_wp2
 go_loopw [4, 5, 10] (fun vi vj vk wr => ∃ (k i j : Nat) (y : σ), k ≤ s.length ∧ vk = .int .i64 (k : Int) ∧ vi = .int .i64 (i : Int) ∧ vj = .int .i64 (j : Int) ∧ P wr y ∧ sz y ≤ i + j ∧ i + patch_walk.lines (s.drop k) ≤ 1000000 ∧ j + patch_walk.lines (s.drop k) ≤ 1000000 ∧ patch_walk.all step (s.drop k) (y, i, j) = patch_walk.all step s (x, 0, 0)) (fun _ _ vk _ => s.length - (intOf vk).toNat)
 case atStart => exact ⟨0, 0, 0, x, Nat.zero_le _, rfl, rfl, rfl, HP.out, by rw [HSZ.out]; exact Nat.zero_le _, by simpa using HLN.out, by simpa using HLN.out, by simp⟩
 case round =>
  obtain ⟨k, i, j, y, hk, rfl, rfl, rfl, hPy, hsy, hi, hj, hall⟩ := hrel
  by_cases hlt : k < s.length
  ·rw [patch_walk.drop_cons s k hlt] at hi hj hall
   have hlt2 : ((k : Int) < (s.length : Int)) = True := eq_true (by omega)
   have hlt3 : decide ((k : Int) < (s.length : Int)) = true := decide_eq_true (by omega)
   have hk0 : (0 ≤ (k : Int)) = True := eq_true (by omega)
   have HWk : Aside0 (wrap64 ((k : Int) + 1) = ((k + 1 : Nat) : Int)) := ⟨by unfold wrap64; omega⟩
   obtain ⟨ad, A1, c1, hA, hx0, hx1, hl1, hC1⟩ := at_T47 (HC.out wr y hPy) (k : Int) (by omega) (by omega)
   subst hA
   have hrd : rd_T47 s (k : Int) = s.getD k z47 := by simp [rd_T47]
   rw [hrd] at hx0 hx1
   rw [Int.toNat_natCast] at hx0 hx1
   clear hrd hl1 hC1
   generalize s.getD k z47 = z at hi hj hall hx0 hx1
   have hbox := World.alloc_heap_new wr (.cells #[.int .i64 z.f0, .slice A1 z.f1.length c1] 47 (0, 0))
   have HPY := Aside0.mk (HAL.out wr y (.cells #[.int .i64 z.f0, .slice A1 z.f1.length c1] 47 (0, 0)) hPy)
   have HBOX := Aside0.mk hbox
   have HALL := Aside0.mk hall
   have HSY := Aside0.mk hsy
   have HI := Aside0.mk hi
   have HJ := Aside0.mk hj
   have hz1 := (blk_cell hbox 1).trans rfl
   clear hPy hbox hall hsy hi hj
   go_wp2
   obtain ⟨wo, rfl⟩ : ∃ wo : World, wo = wr := ⟨_, rfl⟩
   clear hx0 hx1 hz1
   go_loopw [4, 5, 17] (fun vi vj vm wr => ∃ (m i' j' : Nat) (y' : σ), m ≤ z.f1.length ∧ vm = .int .i64 (m : Int) ∧ vi = .int .i64 (i' : Int) ∧ vj = .int .i64 (j' : Int) ∧ P wr y' ∧ sz y' ≤ i' + j' ∧ wr.heap[wo.heap.size]? = some (Obj.cells #[.int .i64 z.f0, .slice A1 z.f1.length c1] 47 (0, 0)) ∧ i' + (z.f1.length - m) ≤ i + z.f1.length ∧ j' + (z.f1.length - m) ≤ j + z.f1.length ∧ patch_walk.one step z.f0 (z.f1.length - m) (y', i', j') = patch_walk.one step z.f0 z.f1.length (y, i, j)) (fun _ _ vm _ => z.f1.length - (intOf vm).toNat)
   case atStart => exact ⟨0, i, j, y, Nat.zero_le _, rfl, rfl, rfl, HPY.out, HSY.out, HBOX.out, by omega, by omega, rfl⟩
   case round =>
    obtain ⟨m, i', j', y', hm, rfl, rfl, rfl, hPz, hsz, hbx, hi', hj', hone⟩ := hrel
    have hit : i + z.f1.length ≤ 1000000 := by
     have := HI.out
     simp only [patch_walk.lines, List.map_cons, List.sum_cons] at this
     omega
    have hjt : j + z.f1.length ≤ 1000000 := by
     have := HJ.out
     simp only [patch_walk.lines, List.map_cons, List.sum_cons] at this
     omega
    by_cases hmt : m < z.f1.length
    ·obtain ⟨e, he⟩ : ∃ e, z.f1.length - m = e + 1 := ⟨z.f1.length - m - 1, by omega⟩
     have hmt2 : ((m : Int) < (z.f1.length : Int)) = True := eq_true (by omega)
     have hmt3 : decide ((m : Int) < (z.f1.length : Int)) = true := decide_eq_true (by omega)
     have HWm : Aside0 (wrap64 ((m : Int) + 1) = ((m + 1 : Nat) : Int)) := ⟨by unfold wrap64; omega⟩
     have HWi : Aside0 (wrap64 ((i' : Int) + 1) = ((i' + 1 : Nat) : Int)) := ⟨by unfold wrap64; omega⟩
     have HWj : Aside0 (wrap64 ((j' : Int) + 1) = ((j' + 1 : Nat) : Int)) := ⟨by unfold wrap64; omega⟩
     have hb0 := (blk_cell hbx 0).trans rfl
     have HBX := Aside0.mk hbx
     have HONE := Aside0.mk (by rw [he] at hone; exact hone)
     have HPZ := Aside0.mk hPz
     have HSZ' := Aside0.mk hsz
     have hi6 : i' ≤ 1000000 := by omega
     have hj6 : j' ≤ 1000000 := by omega
     have HE := Aside0.mk he
     have HM := Aside0.mk (show i' + (e + 1) ≤ i + z.f1.length ∧ j' + (e + 1) ≤ j + z.f1.length by omega)
     clear hbx hone hPz hsz he hi' hj' hm
     by_cases h3 : z.f0 = 3
     ·have hb3 : (z.f0 != 3) = false := by simp [h3]
      have hb2 : (z.f0 != 2) = true := by simp [h3]
      have H3 := Aside0.mk h3
      clear h3
      go_wp2_with (go_at_call 60; (with_reducible refine (HCL.out _ y' _ i' j' HPZ.out HSZ'.out hi6 hj6).mono ?_); rintro e_ w4 ⟨rfl, hp4, hk4⟩; have HP4 := Aside0.mk hp4; have HB4 := Aside0.mk (hk4 _ _ HBX.out); have hc0 := (blk_cell HB4.out 0).trans rfl; clear hp4 hk4)
      go_roundw
      case rel => exact ⟨m + 1, i', j' + 1, _, by omega, by first | rfl | exact congrArg _ HWm.out, rfl, by first | rfl | exact congrArg _ HWj.out, HP4.out, Nat.le_trans (HSS.out _ _ _ _) (by have := HSZ'.out; omega), HB4.out, by have := HM.out; have := HE.out; omega, by have := HM.out; have := HE.out; omega, by rw [← HONE.out]; simp [patch_walk.one, HE.out, H3.out, show z.f1.length - (m + 1) = e by have := HE.out; omega]⟩
      case measure => first | (rw [HWm.out]; simp only [intOf, Int.toNat_natCast]; omega) | (simp only [intOf, Int.toNat_natCast]; omega)
     ·by_cases h2 : z.f0 = 2
      ·have hb3 : (z.f0 != 3) = true := by simp [h2]
       have hb2 : (z.f0 != 2) = false := by simp [h2]
       have H3 := Aside0.mk h2
       clear h3 h2
       go_wp2_with (go_at_call 60; (with_reducible refine (HCL.out _ y' _ i' j' HPZ.out HSZ'.out hi6 hj6).mono ?_); rintro e_ w4 ⟨rfl, hp4, hk4⟩; have HP4 := Aside0.mk hp4; have HB4 := Aside0.mk (hk4 _ _ HBX.out); have hc0 := (blk_cell HB4.out 0).trans rfl; clear hp4 hk4)
       go_roundw
       case rel => exact ⟨m + 1, i' + 1, j', _, by omega, by first | rfl | exact congrArg _ HWm.out, by first | rfl | exact congrArg _ HWi.out, rfl, HP4.out, Nat.le_trans (HSS.out _ _ _ _) (by have := HSZ'.out; omega), HB4.out, by have := HM.out; have := HE.out; omega, by have := HM.out; have := HE.out; omega, by rw [← HONE.out]; simp [patch_walk.one, HE.out, H3.out, show z.f1.length - (m + 1) = e by have := HE.out; omega]⟩
       case measure => first | (rw [HWm.out]; simp only [intOf, Int.toNat_natCast]; omega) | (simp only [intOf, Int.toNat_natCast]; omega)
      ·have hb3 : (z.f0 != 3) = true := by simp [h3]
       have hb2 : (z.f0 != 2) = true := by simp [h2]
       have H3 := Aside0.mk (And.intro h3 h2)
       clear h3 h2
       go_wp2_with (go_at_call 60; (with_reducible refine (HCL.out _ y' _ i' j' HPZ.out HSZ'.out hi6 hj6).mono ?_); rintro e_ w4 ⟨rfl, hp4, hk4⟩; have HP4 := Aside0.mk hp4; have HB4 := Aside0.mk (hk4 _ _ HBX.out); have hc0 := (blk_cell HB4.out 0).trans rfl; clear hp4 hk4)
       go_roundw
       case rel => exact ⟨m + 1, i' + 1, j' + 1, _, by omega, by first | rfl | exact congrArg _ HWm.out, by first | rfl | exact congrArg _ HWi.out, by first | rfl | exact congrArg _ HWj.out, HP4.out, Nat.le_trans (HSS.out _ _ _ _) (by have := HSZ'.out; omega), HB4.out, by have := HM.out; have := HE.out; omega, by have := HM.out; have := HE.out; omega, by rw [← HONE.out]; simp [patch_walk.one, HE.out, H3.out, show z.f1.length - (m + 1) = e by have := HE.out; omega]⟩
       case measure => first | (rw [HWm.out]; simp only [intOf, Int.toNat_natCast]; omega) | (simp only [intOf, Int.toNat_natCast]; omega)
    ·obtain rfl : m = z.f1.length := by omega
     have hmt2 : ((z.f1.length : Int) < (z.f1.length : Int)) = False := eq_false (by omega)
     have hmt3 : decide ((z.f1.length : Int) < (z.f1.length : Int)) = false := decide_eq_false (by omega)
     have hq : (y', i', j') = patch_walk.one step z.f0 z.f1.length (y, i, j) := by simpa [patch_walk.one] using hone
     have HQ := Aside0.mk hq
     have HPZ := Aside0.mk hPz
     have HSZ' := Aside0.mk hsz
     have HM := Aside0.mk (And.intro hi' hj')
     clear hq hone hPz hsz hi' hj'
     go_wp2
     go_roundw
     case rel => exact ⟨k + 1, i', j', y', by omega, by first | rfl | exact congrArg _ HWk.out, rfl, rfl, HPZ.out, HSZ'.out, by have := HI.out; have := HM.out; simp only [patch_walk.lines, List.map_cons, List.sum_cons] at this ⊢; simp only [patch_walk.lines, List.map_cons, List.sum_cons] at *; omega, by have := HJ.out; have := HM.out; simp only [patch_walk.lines, List.map_cons, List.sum_cons] at *; omega, by rw [HQ.out]; exact HALL.out⟩
     case measure =>
      try rw [HWk.out]
      simp only [intOf, Int.toNat_natCast]
      omega
  ·obtain rfl : k = s.length := by omega
   have hlt2 : ((s.length : Int) < (s.length : Int)) = False := eq_false (by omega)
   have hlt3 : decide ((s.length : Int) < (s.length : Int)) = false := decide_eq_false (by omega)
   rw [List.drop_length] at hall
   have hq : y = (patch_walk.all step s (x, 0, 0)).1 := by rw [← hall]; rfl
   have HQ := Aside0.mk hq
   have HPY := Aside0.mk hPy
   clear hq hall hPy hsy hi hj
   go_wp2
   go_end0
   exact ⟨rfl, HQ.out ▸ HPY.out⟩
set_option maxHeartbeats 8000000 in
set_option maxRecDepth 100000 in
theorem patch_walk.callsM {σ : Type} (step : σ → Int → Nat → Nat → σ) (v : Value) (P : World → σ → Prop) (sz : σ → Nat) (A : Option Addr) (cs : Nat) (s : List S47) (x : σ) (w : World)
  (hC : ∀ w x, P w x → Kd.C k47 w A s.length s) (hcs : s.length ≤ cs) (hlen : s.length ≤ 1000000) (hlines : patch_walk.lines s ≤ 1000000) (hP : P w x) (hsz : sz x = 0)
  (hal : ∀ w x o, P w x → P (w.alloc o) x) (hss : ∀ x d i j, sz (step x d i j) ≤ sz x + 1)
  (hcl : ∀ (w : World) (x : σ) (d : Int) (i j : Nat), P w x → sz x ≤ i + j → i ≤ 1000000 → j ≤ 1000000 → Calls Try.prog 61 #[.int .i64 d, .int .i64 (i : Int), .int .i64 (j : Int), v] w fun e w' => e = .returned (.tuple #[]) ∧ P w' (step x d i j) ∧ ∀ (k : Nat) (c : Array Value), w.heap[k]? = some (Obj.cells c 47 (0, 0)) → w'.heap[k]? = some (Obj.cells c 47 (0, 0))) :
  Calls Try.prog 58 #[.slice A s.length cs, .func (.func 61) #[] #[v]] w fun e w' => e = .returned (.tuple #[]) ∧ P w' (patch_walk.all step s (x, 0, 0)).1 := by
 have HC := Aside0.mk hC
 have HAL := Aside0.mk hal
 have HSS := Aside0.mk hss
 have HCL := Aside0.mk hcl
 have HP := Aside0.mk hP
 have HSZ := Aside0.mk hsz
 have HLN := Aside0.mk hlines
 clear hC hal hss hcl hP hsz hlines
 go_enter Try.func58, Try.ntmps58
 go_wp2
 go_loopw [4, 5, 10] (fun vi vj vk wr => ∃ (k i j : Nat) (y : σ), k ≤ s.length ∧ vk = .int .i64 (k : Int) ∧ vi = .int .i64 (i : Int) ∧ vj = .int .i64 (j : Int) ∧ P wr y ∧ sz y ≤ i + j ∧ i + patch_walk.lines (s.drop k) ≤ 1000000 ∧ j + patch_walk.lines (s.drop k) ≤ 1000000 ∧ patch_walk.all step (s.drop k) (y, i, j) = patch_walk.all step s (x, 0, 0)) (fun _ _ vk _ => s.length - (intOf vk).toNat)
 case atStart => exact ⟨0, 0, 0, x, Nat.zero_le _, rfl, rfl, rfl, HP.out, by rw [HSZ.out]; exact Nat.zero_le _, by simpa using HLN.out, by simpa using HLN.out, by simp⟩
 case round =>
  obtain ⟨k, i, j, y, hk, rfl, rfl, rfl, hPy, hsy, hi, hj, hall⟩ := hrel
  by_cases hlt : k < s.length
  ·rw [patch_walk.drop_cons s k hlt] at hi hj hall
   have hlt2 : ((k : Int) < (s.length : Int)) = True := eq_true (by omega)
   have hlt3 : decide ((k : Int) < (s.length : Int)) = true := decide_eq_true (by omega)
   have hk0 : (0 ≤ (k : Int)) = True := eq_true (by omega)
   have HWk : Aside0 (wrap64 ((k : Int) + 1) = ((k + 1 : Nat) : Int)) := ⟨by unfold wrap64; omega⟩
   obtain ⟨ad, A1, c1, hA, hx0, hx1, hl1, hC1⟩ := at_T47 (HC.out wr y hPy) (k : Int) (by omega) (by omega)
   subst hA
   have hrd : rd_T47 s (k : Int) = s.getD k z47 := by simp [rd_T47]
   rw [hrd] at hx0 hx1
   rw [Int.toNat_natCast] at hx0 hx1
   clear hrd hl1 hC1
   generalize s.getD k z47 = z at hi hj hall hx0 hx1
   have hbox := World.alloc_heap_new wr (.cells #[.int .i64 z.f0, .slice A1 z.f1.length c1] 47 (0, 0))
   have HPY := Aside0.mk (HAL.out wr y (.cells #[.int .i64 z.f0, .slice A1 z.f1.length c1] 47 (0, 0)) hPy)
   have HBOX := Aside0.mk hbox
   have HALL := Aside0.mk hall
   have HSY := Aside0.mk hsy
   have HI := Aside0.mk hi
   have HJ := Aside0.mk hj
   have hz1 := (blk_cell hbox 1).trans rfl
   clear hPy hbox hall hsy hi hj
   go_wp2
   obtain ⟨wo, rfl⟩ : ∃ wo : World, wo = wr := ⟨_, rfl⟩
   clear hx0 hx1 hz1
   go_loopw [4, 5, 17] (fun vi vj vm wr => ∃ (m i' j' : Nat) (y' : σ), m ≤ z.f1.length ∧ vm = .int .i64 (m : Int) ∧ vi = .int .i64 (i' : Int) ∧ vj = .int .i64 (j' : Int) ∧ P wr y' ∧ sz y' ≤ i' + j' ∧ wr.heap[wo.heap.size]? = some (Obj.cells #[.int .i64 z.f0, .slice A1 z.f1.length c1] 47 (0, 0)) ∧ i' + (z.f1.length - m) ≤ i + z.f1.length ∧ j' + (z.f1.length - m) ≤ j + z.f1.length ∧ patch_walk.one step z.f0 (z.f1.length - m) (y', i', j') = patch_walk.one step z.f0 z.f1.length (y, i, j)) (fun _ _ vm _ => z.f1.length - (intOf vm).toNat)
   case atStart => exact ⟨0, i, j, y, Nat.zero_le _, rfl, rfl, rfl, HPY.out, HSY.out, HBOX.out, by omega, by omega, rfl⟩
   case round =>
    obtain ⟨m, i', j', y', hm, rfl, rfl, rfl, hPz, hsz, hbx, hi', hj', hone⟩ := hrel
    have hit : i + z.f1.length ≤ 1000000 := by
     have := HI.out
     simp only [patch_walk.lines, List.map_cons, List.sum_cons] at this
     omega
    have hjt : j + z.f1.length ≤ 1000000 := by
     have := HJ.out
     simp only [patch_walk.lines, List.map_cons, List.sum_cons] at this
     omega
    by_cases hmt : m < z.f1.length
    ·obtain ⟨e, he⟩ : ∃ e, z.f1.length - m = e + 1 := ⟨z.f1.length - m - 1, by omega⟩
     have hmt2 : ((m : Int) < (z.f1.length : Int)) = True := eq_true (by omega)
     have hmt3 : decide ((m : Int) < (z.f1.length : Int)) = true := decide_eq_true (by omega)
     have HWm : Aside0 (wrap64 ((m : Int) + 1) = ((m + 1 : Nat) : Int)) := ⟨by unfold wrap64; omega⟩
     have HWi : Aside0 (wrap64 ((i' : Int) + 1) = ((i' + 1 : Nat) : Int)) := ⟨by unfold wrap64; omega⟩
     have HWj : Aside0 (wrap64 ((j' : Int) + 1) = ((j' + 1 : Nat) : Int)) := ⟨by unfold wrap64; omega⟩
     have hb0 := (blk_cell hbx 0).trans rfl
     have HBX := Aside0.mk hbx
     have HONE := Aside0.mk (by rw [he] at hone; exact hone)
     have HPZ := Aside0.mk hPz
     have HSZ' := Aside0.mk hsz
     have hi6 : i' ≤ 1000000 := by omega
     have hj6 : j' ≤ 1000000 := by omega
     have HE := Aside0.mk he
     have HM := Aside0.mk (show i' + (e + 1) ≤ i + z.f1.length ∧ j' + (e + 1) ≤ j + z.f1.length by omega)
     clear hbx hone hPz hsz he hi' hj' hm
     by_cases h3 : z.f0 = 3
     ·have hb3 : (z.f0 != 3) = false := by simp [h3]
      have hb2 : (z.f0 != 2) = true := by simp [h3]
      have H3 := Aside0.mk h3
      clear h3
      go_wp2_with (go_at_call 61; (with_reducible refine (HCL.out _ y' _ i' j' HPZ.out HSZ'.out hi6 hj6).mono ?_); rintro e_ w4 ⟨rfl, hp4, hk4⟩; have HP4 := Aside0.mk hp4; have HB4 := Aside0.mk (hk4 _ _ HBX.out); have hc0 := (blk_cell HB4.out 0).trans rfl; clear hp4 hk4)
      go_roundw
      case rel => exact ⟨m + 1, i', j' + 1, _, by omega, by first | rfl | exact congrArg _ HWm.out, rfl, by first | rfl | exact congrArg _ HWj.out, HP4.out, Nat.le_trans (HSS.out _ _ _ _) (by have := HSZ'.out; omega), HB4.out, by have := HM.out; have := HE.out; omega, by have := HM.out; have := HE.out; omega, by rw [← HONE.out]; simp [patch_walk.one, HE.out, H3.out, show z.f1.length - (m + 1) = e by have := HE.out; omega]⟩
      case measure => first | (rw [HWm.out]; simp only [intOf, Int.toNat_natCast]; omega) | (simp only [intOf, Int.toNat_natCast]; omega)
     ·by_cases h2 : z.f0 = 2
      ·have hb3 : (z.f0 != 3) = true := by simp [h2]
       have hb2 : (z.f0 != 2) = false := by simp [h2]
       have H3 := Aside0.mk h2
       clear h3 h2
       go_wp2_with (go_at_call 61; (with_reducible refine (HCL.out _ y' _ i' j' HPZ.out HSZ'.out hi6 hj6).mono ?_); rintro e_ w4 ⟨rfl, hp4, hk4⟩; have HP4 := Aside0.mk hp4; have HB4 := Aside0.mk (hk4 _ _ HBX.out); have hc0 := (blk_cell HB4.out 0).trans rfl; clear hp4 hk4)
       go_roundw
       case rel => exact ⟨m + 1, i' + 1, j', _, by omega, by first | rfl | exact congrArg _ HWm.out, by first | rfl | exact congrArg _ HWi.out, rfl, HP4.out, Nat.le_trans (HSS.out _ _ _ _) (by have := HSZ'.out; omega), HB4.out, by have := HM.out; have := HE.out; omega, by have := HM.out; have := HE.out; omega, by rw [← HONE.out]; simp [patch_walk.one, HE.out, H3.out, show z.f1.length - (m + 1) = e by have := HE.out; omega]⟩
       case measure => first | (rw [HWm.out]; simp only [intOf, Int.toNat_natCast]; omega) | (simp only [intOf, Int.toNat_natCast]; omega)
      ·have hb3 : (z.f0 != 3) = true := by simp [h3]
       have hb2 : (z.f0 != 2) = true := by simp [h2]
       have H3 := Aside0.mk (And.intro h3 h2)
       clear h3 h2
       go_wp2_with (go_at_call 61; (with_reducible refine (HCL.out _ y' _ i' j' HPZ.out HSZ'.out hi6 hj6).mono ?_); rintro e_ w4 ⟨rfl, hp4, hk4⟩; have HP4 := Aside0.mk hp4; have HB4 := Aside0.mk (hk4 _ _ HBX.out); have hc0 := (blk_cell HB4.out 0).trans rfl; clear hp4 hk4)
       go_roundw
       case rel => exact ⟨m + 1, i' + 1, j' + 1, _, by omega, by first | rfl | exact congrArg _ HWm.out, by first | rfl | exact congrArg _ HWi.out, by first | rfl | exact congrArg _ HWj.out, HP4.out, Nat.le_trans (HSS.out _ _ _ _) (by have := HSZ'.out; omega), HB4.out, by have := HM.out; have := HE.out; omega, by have := HM.out; have := HE.out; omega, by rw [← HONE.out]; simp [patch_walk.one, HE.out, H3.out, show z.f1.length - (m + 1) = e by have := HE.out; omega]⟩
       case measure => first | (rw [HWm.out]; simp only [intOf, Int.toNat_natCast]; omega) | (simp only [intOf, Int.toNat_natCast]; omega)
    ·obtain rfl : m = z.f1.length := by omega
     have hmt2 : ((z.f1.length : Int) < (z.f1.length : Int)) = False := eq_false (by omega)
     have hmt3 : decide ((z.f1.length : Int) < (z.f1.length : Int)) = false := decide_eq_false (by omega)
     have hq : (y', i', j') = patch_walk.one step z.f0 z.f1.length (y, i, j) := by simpa [patch_walk.one] using hone
     have HQ := Aside0.mk hq
     have HPZ := Aside0.mk hPz
     have HSZ' := Aside0.mk hsz
     have HM := Aside0.mk (And.intro hi' hj')
     clear hq hone hPz hsz hi' hj'
     go_wp2
     go_roundw
     case rel => exact ⟨k + 1, i', j', y', by omega, by first | rfl | exact congrArg _ HWk.out, rfl, rfl, HPZ.out, HSZ'.out, by have := HI.out; have := HM.out; simp only [patch_walk.lines, List.map_cons, List.sum_cons] at this ⊢; simp only [patch_walk.lines, List.map_cons, List.sum_cons] at *; omega, by have := HJ.out; have := HM.out; simp only [patch_walk.lines, List.map_cons, List.sum_cons] at *; omega, by rw [HQ.out]; exact HALL.out⟩
     case measure =>
      try rw [HWk.out]
      simp only [intOf, Int.toNat_natCast]
      omega
  ·obtain rfl : k = s.length := by omega
   have hlt2 : ((s.length : Int) < (s.length : Int)) = False := eq_false (by omega)
   have hlt3 : decide ((s.length : Int) < (s.length : Int)) = false := decide_eq_false (by omega)
   rw [List.drop_length] at hall
   have hq : y = (patch_walk.all step s (x, 0, 0)).1 := by rw [← hall]; rfl
   have HQ := Aside0.mk hq
   have HPY := Aside0.mk hPy
   clear hq hall hPy hsy hi hj
   go_wp2
   go_end0
   exact ⟨rfl, HQ.out ▸ HPY.out⟩


end Go.Proofs.Ytfnbodjmmkjlcaa.H
end
section
namespace Go.Proofs.Ytfnbodjmmkjlcaa.H
open Go.RowKit Go.Proofs.YtfnbodjmmkjlcaaW.PrintWords Go.Proofs.YtfnbodjmmkjlcaaW.PrintLast Go.Proofs.YtfnbodjmmkjlcaaW.PrintMore
attribute [local go_sem] max2_int min2_int max_two min_two max_three min_three max_four min_four   -- for this text's walks alone
set_option linter.unusedVariables false
set_option linter.unusedSimpArgs false

def patch_Apply.step (xs : List S64) (d : Int) (i j : Nat) : List S64 := if d = 1 then xs ++ [⟨(i : Int), (j : Int)⟩] else xs
set_option maxRecDepth 100000 in
set_option maxHeartbeats 4000000 in
/-- One call of Apply$1: the row of pairs behind the captured variable grows where the line stays. -/
theorem patch_Apply.one (base gb : Nat) (w0 : World) (xs : List S64) (v : Value) (d : Int) (i j : Nat) (w : World)
  (hb : w.heap[gb]? = some (Obj.cells #[v] 50 (0, 0))) (hv : Kd.R k64 64 w base (fun _ => True) v xs) (hB : Below base w0 w) (hgb : base ≤ gb) (hl : xs.length ≤ 2000000) (vs : Value) (s : List S47) (hN : Kd.N k47 47 w base (fun k => some k ≠ v.ownBlock ∧ k ≠ gb) vs s) (vb : Value) (bs : List S66) (hR : Kd.R k66 66 w base (fun _ => True) vb bs) :
  Calls Try.prog 59 #[.int .i64 d, .int .i64 (i : Int), .int .i64 (j : Int), .pointer (some ⟨gb, 0, none⟩)] w fun e w' => e = .returned (.tuple #[]) ∧ ((∃ v', w'.heap[gb]? = some (Obj.cells #[v'] 50 (0, 0)) ∧ Kd.R k64 64 w' base (fun _ => True) v' (patch_Apply.step xs d i j) ∧ Kd.N k47 47 w' base (fun k => some k ≠ v'.ownBlock ∧ k ≠ gb) vs s ∧ Kd.R k66 66 w' base (fun _ => True) vb bs) ∧ Below base w0 w') ∧ ∀ (k : Nat) (c : Array Value), w.heap[k]? = some (Obj.cells c 47 (0, 0)) → w'.heap[k]? = some (Obj.cells c 47 (0, 0)) := by
 have hsz : base ≤ w.heap.size := Nat.le_trans hgb (Nat.le_of_lt (Array.getElem?_eq_some_iff.mp hb).1)
 have hc := (blk_cell hb 0).trans rfl
 have hf := blk_frozen hb 0
 have HB := Aside0.mk hB
 have HV := Aside0.mk hv
 have BK := Aside0.mk hb
 have HN := Aside0.mk hN
 have HRB := Aside0.mk hR
 clear hB hv hb hN hR
 by_cases hd : d = 1
 ·have hd' : (d == 1) = true := by simp [hd]
  have HD := Aside0.mk hd
  clear hd
  go_enter Try.func59, Try.ntmps59
  go_wp2_with ((with_reducible refine gate_builtin (b := .append) (xs := #[.tmp 9, .tmp 13]) rfl ?_); at_builtin; refine Kd.R_append k64 (w0 := w0) base rfl (.tmp 9) (.tmp 13) 50 64 (.agg #[(.int .i64 0), (.int .i64 0)]) 16 rfl Try.underlying50 info64 rfl (by decide) (by omega) v xs (⟨(i : Int), (j : Int)⟩ : S64) [.int .i64 (i : Int), .int .i64 (j : Int)] (fun _ => True) (fun _ => False) rfl rfl ?aP (fun _ hk => hk.elim) ?aF ?aO ?aB ?aS ?aL ?_; (case aP => exact k64_mkM _ _ _ (⟨(i : Int), (j : Int)⟩ : S64)); (case aB => exact HB.out); (case aF => exact (fun _ _ => trivial)); (case aO => exact HV.out); (case aS => exact hsz); (case aL => omega); intro v1 w1 ho hbl hgr hat; obtain ⟨Ao1, co1, eo1⟩ := Kd.R_slice ho; subst eo1; have BK1 := Aside0.mk (blk_grown (g := gb) (o := .cells #[v] 50 (0, 0)) BK.out hgr (Kd.R_ne HV.out BK.out (by decide))); have hc1 := (blk_cell BK1.out 0).trans rfl; have hf1 := blk_frozen BK1.out 0; have HR1 := Aside0.mk (Kd.R_over' HRB.out (Kd.R_typed HV.out) (by decide) hgr); have HO1 := Aside0.mk ho; have HB1 := Aside0.mk hbl; have HG1 := Aside0.mk hgr; have HN1 := Aside0.mk (Kd.N_afterv (ok := fun k => k ≠ gb) (Kd.N_mono HN.out (fun _ hk => ⟨hk.2, hk.1⟩)) hgr hat); clear ho hbl hgr hat hc hf)
  go_end0
  refine ⟨rfl, ⟨⟨_, blk_put (cs := #[v]) BK1.out 0 _ rfl, ?_⟩, HB1.out.setCell hgb _⟩, fun k c hk => blk_far (blk_grown hk HG1.out (Kd.R_ne HV.out hk (by decide))) ?_ _⟩
  ·rw [patch_Apply.step, if_pos HD.out]
   refine ⟨?_, ?_, ?_⟩
   rotate_left
   ·have h6 := Kd.N_mono (ok' := fun k => some k ≠ (Value.slice Ao1 (xs.length + 1) co1).ownBlock ∧ k ≠ gb) (Kd.N_far (p := ⟨gb, 0, none⟩) HN1.out (fun _ hk => hk.1) (Value.slice Ao1 (xs.length + 1) co1)) (fun _ hk => ⟨by have h7 := hk.2; simpa only [List.length_append, List.length_singleton] using h7, hk.1⟩)
    exact h6
   ·exact Kd.R_mono (ok' := fun _ => True) (Kd.R_far (p := ⟨gb, 0, none⟩) (Kd.R_types HR1.out BK1.out (by decide)) (fun _ hk => hk.2) (Value.slice Ao1 (xs.length + 1) co1)) (fun _ hk => trivial)
   have h5 := Kd.R_mono (ok' := fun _ => True) (Kd.R_far (p := ⟨gb, 0, none⟩) (Kd.R_types HO1.out BK1.out (by decide)) (fun _ hk => hk.2) (Value.slice Ao1 (xs.length + 1) co1)) (fun _ hk => trivial)
   simpa only [List.length_append, List.length_singleton] using h5
  ·rintro rfl
   have := BK.out.symm.trans hk
   simp at this
 ·have hd' : (d == 1) = false := by simp [hd]
  have HD := Aside0.mk hd
  clear hd
  go_enter Try.func59, Try.ntmps59
  go_wp2
  go_end0
  exact ⟨rfl, ⟨⟨v, BK.out, by rw [patch_Apply.step, if_neg HD.out]; exact HV.out, HN.out, HRB.out⟩, HB.out⟩, fun _ _ h => h⟩
def patch_Apply.f (k : Nat) (l0 : List S44) (l1 : List S66) : Option (List S66 × List S64 × Int) := (patch_whole.f k l0 l1).bind fun t => if patch_walk.lines t.1 ≤ 1000000 ∧ t.1.length ≤ 1000000 then some (t.2.1, (patch_walk.all patch_Apply.step t.1 ([], 0, 0)).1, t.2.2) else none
theorem patch_Apply.mono (k : Nat) (l0 : List S44) (l1 : List S66) : LeO (patch_Apply.f k l0 l1) (patch_Apply.f (k + 1) l0 l1) := by
 unfold patch_Apply.f
 exact LeO.bind (patch_whole.mono _ _ _) (fun _ => LeO.refl _)
set_option maxRecDepth 100000 in
set_option maxHeartbeats 4000000 in
theorem patch_Apply.calls (k : Nat) (A0 : Option Addr) (c0 : Nat) (l0 : List S44) (A1 : Option Addr) (c1 : Nat) (l1 : List S66) (r1 : List S66) (r2 : List S64) (r3 : Int) (w : World) (hr0 : Kd.C k44 w A0 l0.length l0) (hc0 : l0.length ≤ c0) (hr1 : Kd.C k66 w A1 l1.length l1) (hc1 : l1.length ≤ c1) (h : patch_Apply.f k l0 l1 = some (r1, r2, r3)) :
  Calls Try.prog 28 #[.slice A0 l0.length c0, .slice A1 l1.length c1] w fun e w' => ∃ v0_ v1_ : Value, e = .returned (.tuple #[v0_, v1_, .int .i64 r3]) ∧ Kd.R k66 66 w' w.heap.size (fun _ => True) v0_ r1 ∧ Kd.R k64 64 w' w.heap.size (fun _ => True) v1_ r2 ∧ Below w.heap.size w w' := by
 unfold patch_Apply.f at h
 obtain ⟨⟨s, b, e⟩, hw, h⟩ := Option.bind_eq_some_iff.mp h
 dsimp only at h
 by_cases hl : patch_walk.lines s ≤ 1000000 ∧ s.length ≤ 1000000
 ·rw [if_pos hl] at h
  cases h
  have HW := Aside0.mk hw
  have HR0 := Aside0.mk hr0
  have HR1 := Aside0.mk hr1
  have HC0 := Aside0.mk hc0
  have HC1 := Aside0.mk hc1
  have HL := Aside0.mk hl
  clear hw hr0 hr1 hc0 hc1 hl
  have HCL := Aside0.mk (patch_whole.calls k (fun _ => True) A0 c0 l0 (fun _ => True) A1 c1 l1 s r1 r3 w (Kd.V_mk HC0.out (fun W' hW => k44_heap.C (fun q hq => hW q trivial hq) HR0.out)) (Kd.V_mk HC1.out (fun W' hW => k66_heap.C (fun q hq => hW q trivial hq) HR1.out)) HW.out)
  have hmf : ∀ (fn : Fn) (first cap : Array Value) (w : World), (Instr.makeFunc fn first cap).run Try.prog w = .ok (.func fn first cap) w := fun _ _ _ _ => rfl
  go_enter Try.func28, Try.ntmps28
  go_wp2_with (go_at_call 57; (refine HCL.out.mono ?_); rintro e_ w1 ⟨v0, v1, rfl, hN, hRb, hB1⟩; obtain ⟨As, cs, eN⟩ := Kd.N_slice hN; subst eN; have HN := Aside0.mk (Kd.N_mono (ok' := fun _ => True) hN (fun _ _ => trivial)); have HRb := Aside0.mk (Kd.R_mono (ok' := fun _ => True) hRb (fun _ _ => trivial)); have HB := Aside0.mk hB1; clear hN hRb hB1)
  have hgb : w.heap.size ≤ w1.heap.size := HB.out.size
  have hnew := World.alloc_heap_new w1 (.cells #[.slice none 0 0] 50 (0, 0))
  have HP0 : Aside0 ((∃ v', (w1.alloc (.cells #[.slice none 0 0] 50 (0, 0))).heap[w1.heap.size]? = some (Obj.cells #[v'] 50 (0, 0)) ∧ Kd.R k64 64 (w1.alloc (.cells #[.slice none 0 0] 50 (0, 0))) w.heap.size (fun _ => True) v' [] ∧ Kd.N k47 47 (w1.alloc (.cells #[.slice none 0 0] 50 (0, 0))) w.heap.size (fun k => some k ≠ v'.ownBlock ∧ k ≠ w1.heap.size) (.slice As s.length cs) s ∧ Kd.R k66 66 (w1.alloc (.cells #[.slice none 0 0] 50 (0, 0))) w.heap.size (fun _ => True) v1 r1) ∧ Below w.heap.size w (w1.alloc (.cells #[.slice none 0 0] 50 (0, 0)))) := ⟨⟨_, hnew, Kd.R_nil _ _ _ _ _, Kd.N_alloc (Kd.N_mono (Kd.N_elderB HN.out w1.heap.size (Nat.le_refl _)) (fun k hk => ⟨by simp [Value.ownBlock], hk.2⟩)) _, Kd.R_alloc HRb.out _⟩, HB.out.alloc hgb _⟩
  clear hnew
  go_wp2_with (go_at_call 58; refine (patch_walk.callsA patch_Apply.step (.pointer (some ⟨w1.heap.size, 0, none⟩)) (fun W x => (∃ v', W.heap[w1.heap.size]? = some (Obj.cells #[v'] 50 (0, 0)) ∧ Kd.R k64 64 W w.heap.size (fun _ => True) v' x ∧ Kd.N k47 47 W w.heap.size (fun k => some k ≠ v'.ownBlock ∧ k ≠ w1.heap.size) (.slice As s.length cs) s ∧ Kd.R k66 66 W w.heap.size (fun _ => True) v1 r1) ∧ Below w.heap.size w W) List.length As cs s [] _ ?aC ?aS HL.out.2 HL.out.1 HP0.out rfl ?aL ?aZ ?aK).mono ?_; (case aC => exact (fun W x h => (Kd.N_reads' h.1.choose_spec.2.2.1).2.2)); (case aS => exact (Kd.N_reads' HN.out).2.1); (case aL => exact (fun W x o h => ⟨⟨_, blk_alloc h.1.choose_spec.1 _, Kd.R_alloc h.1.choose_spec.2.1 _, Kd.N_alloc h.1.choose_spec.2.2.1 _, Kd.R_alloc h.1.choose_spec.2.2.2 _⟩, h.2.alloc h.2.size _⟩)); (case aZ => exact (fun x d i j => by unfold patch_Apply.step; split <;> simp)); (case aK => exact (fun W x d i j h hs hi hj => (patch_Apply.one w.heap.size w1.heap.size w x _ d i j W h.1.choose_spec.1 h.1.choose_spec.2.1 h.2 hgb (by omega) _ _ h.1.choose_spec.2.2.1 _ _ h.1.choose_spec.2.2.2).mono (fun _ _ hq => hq))); rintro e_ w2 ⟨rfl, ⟨vr, hbk, hR, hN2, hRl⟩, hB2⟩; have HRr := Aside0.mk hR; have HRl := Aside0.mk hRl; have HB2 := Aside0.mk hB2; have hbk := blk_drew hbk; clear hR hN2 hB2 hRl)
  refine start_ (n := 6) (S := fun w' => w'.cell? ⟨w1.heap.size, 0, none⟩ = some vr) (ds := []) (Sq.bl 6 0) (by kernel_rfl) rfl (by rfl) ((blk_cell hbk 0).trans rfl) (fun hS => ?_)
  refine Sq.pu (v := ?_) (a' := ?_) 0 21 (Sq.bl 6 1) (by kernel_rfl) rfl rfl (fun _ _ _ h => h) (by rfl) ?_ ?_ ?_; rotate_left; (· intro w'; go_simp; with_reducible rfl); rotate_left; (· simp only [Act.put,zp1,zp2,zp3,zp4,zp5]; rfl)
  refine Sq.pu (v := ?_) (a' := ?_) 2 23 (Sq.bl 6 5) (by kernel_rfl) rfl rfl (fun _ _ _ h => h) (by rfl) ?_ ?_ ?_; rotate_left; (· intro w'; go_simp; with_reducible rfl); rotate_left; (· simp only [Act.put,zp1,zp2,zp3,zp4,zp5]; rfl)
  refine Sq.pu (v := ?_) (a' := ?_) 3 4 (Sq.bl 6 13) (by kernel_rfl) rfl rfl (fun _ _ _ h => h) (by rfl) ?_ ?_ ?_; rotate_left; (· intro w'; go_simp; with_reducible rfl); rotate_left; (· simp only [Act.put,zp1,zp2,zp3,zp4,zp5]; rfl)
  refine take_ (i := 1) (N := some 22) (v := ?_) (a' := ?_) (Sq.bl 6 15) rfl rfl (by kernel_rfl) (fun _ _ _ h => h) (Or.inl ⟨by rfl, ?_⟩) hS ?_ ?_; rotate_left; (· rintro w' s0; go_simp; with_reducible rfl); rotate_left; (· simp only [Act.put,zp1,zp2,zp3,zp4,zp5]; rfl)
  refine Sq.pu (v := ?_) (a' := ?_) 4 5 (Sq.bl 6 31) (by kernel_rfl) rfl rfl (fun _ _ _ h => h) (by rfl) ?_ ?_ ?_; rotate_left; (· intro w'; go_simp; with_reducible rfl); rotate_left; (· simp only [Act.put,zp1,zp2,zp3,zp4,zp5]; rfl)
  refine Sq.pu (v := ?_) (a' := ?_) 5 6 (Sq.bl 6 63) (by kernel_rfl) rfl rfl (fun _ _ _ h => h) (by rfl) ?_ ?_ ?_; rotate_left; (· intro w'; go_simp; with_reducible rfl); rotate_left; (· simp only [Act.put,zp1,zp2,zp3,zp4,zp5]; rfl)
  refine done_ (by kernel_rfl) ?_
  go_wp2
  go_ret3
  exact ⟨_, _, rfl, Kd.R_drew HRl.out, Kd.R_drew HRr.out, HB2.out.drew⟩
 ·rw [if_neg hl] at h
  cases h


end Go.Proofs.Ytfnbodjmmkjlcaa.H
end
section
namespace Go.Proofs.Ytfnbodjmmkjlcaa.H
open Go.RowKit Go.Proofs.YtfnbodjmmkjlcaaW.PrintWords Go.Proofs.YtfnbodjmmkjlcaaW.PrintLast Go.Proofs.YtfnbodjmmkjlcaaW.PrintMore
attribute [local go_sem] max2_int min2_int max_two min_two max_three min_three max_four min_four   -- for this text's walks alone
set_option linter.unusedVariables false
set_option linter.unusedSimpArgs false

def patch_Gone.step (xs : List Int) (d : Int) (i j : Nat) : List Int := if d = 2 then xs ++ [(i : Int)] else xs
set_option maxRecDepth 100000 in
set_option maxHeartbeats 4000000 in
/-- One call of jalousie/patch.Gone$1: the row behind the captured variable grows where the line is of its kind. -/
theorem patch_Gone.one (base gb : Nat) (w0 : World) (xs : List Int) (v : Value) (d : Int) (i j : Nat) (w : World)
  (hb : w.heap[gb]? = some (Obj.cells #[v] 53 (0, 0))) (hv : Kd.R (Kd.int .i64) 3 w base (fun _ => True) v xs) (hB : Below base w0 w) (hgb : base ≤ gb) (hl : xs.length ≤ 2000000) (vs : Value) (s : List S47) (hN : Kd.N k47 47 w base (fun k => some k ≠ v.ownBlock ∧ k ≠ gb) vs s) :
  Calls Try.prog 60 #[.int .i64 d, .int .i64 (i : Int), .int .i64 (j : Int), .pointer (some ⟨gb, 0, none⟩)] w fun e w' => e = .returned (.tuple #[]) ∧ ((∃ v', w'.heap[gb]? = some (Obj.cells #[v'] 53 (0, 0)) ∧ Kd.R (Kd.int .i64) 3 w' base (fun _ => True) v' (patch_Gone.step xs d i j) ∧ Kd.N k47 47 w' base (fun k => some k ≠ v'.ownBlock ∧ k ≠ gb) vs s) ∧ Below base w0 w') ∧ ∀ (k : Nat) (c : Array Value), w.heap[k]? = some (Obj.cells c 47 (0, 0)) → w'.heap[k]? = some (Obj.cells c 47 (0, 0)) := by
 have hsz : base ≤ w.heap.size := Nat.le_trans hgb (Nat.le_of_lt (Array.getElem?_eq_some_iff.mp hb).1)
 have hc := (blk_cell hb 0).trans rfl
 have hf := blk_frozen hb 0
 have HB := Aside0.mk hB
 have HV := Aside0.mk hv
 have BK := Aside0.mk hb
 have HN := Aside0.mk hN
 clear hB hv hb hN
 by_cases hd : d = 2
 ·have hd' : (d == 2) = true := by simp [hd]
  have HD := Aside0.mk hd
  clear hd
  go_enter Try.func60, Try.ntmps60
  go_wp2_with ((with_reducible refine gate_builtin (b := .append) (xs := #[.tmp 9, .tmp 11]) rfl ?_); at_builtin; refine Kd.R_append (Kd.int .i64) (w0 := w0) base rfl (.tmp 9) (.tmp 11) 53 3 (.int .i64 0) 8 rfl Try.underlying53 info3 rfl (by decide) (by omega) v xs (i : Int) [.int .i64 (i : Int)] (fun _ => True) (fun _ => False) rfl rfl ?aP (fun _ hk => hk.elim) ?aF ?aO ?aB ?aS ?aL ?_; (case aP => exact rfl); (case aB => exact HB.out); (case aF => exact (fun _ _ => trivial)); (case aO => exact HV.out); (case aS => exact hsz); (case aL => omega); intro v1 w1 ho hbl hgr hat; obtain ⟨Ao1, co1, eo1⟩ := Kd.R_slice ho; subst eo1; have BK1 := Aside0.mk (blk_grown (g := gb) (o := .cells #[v] 53 (0, 0)) BK.out hgr (Kd.R_ne HV.out BK.out (by decide))); have hc1 := (blk_cell BK1.out 0).trans rfl; have hf1 := blk_frozen BK1.out 0; have HO1 := Aside0.mk ho; have HB1 := Aside0.mk hbl; have HG1 := Aside0.mk hgr; have HN1 := Aside0.mk (Kd.N_afterv (ok := fun k => k ≠ gb) (Kd.N_mono HN.out (fun _ hk => ⟨hk.2, hk.1⟩)) hgr hat); clear ho hbl hgr hat hc hf)
  go_end0
  refine ⟨rfl, ⟨⟨_, blk_put (cs := #[v]) BK1.out 0 _ rfl, ?_⟩, HB1.out.setCell hgb _⟩, fun k c hk => blk_far (blk_grown hk HG1.out (Kd.R_ne HV.out hk (by decide))) ?_ _⟩
  ·rw [patch_Gone.step, if_pos HD.out]
   refine ⟨?_, ?_⟩
   rotate_left
   ·have h6 := Kd.N_mono (ok' := fun k => some k ≠ (Value.slice Ao1 (xs.length + 1) co1).ownBlock ∧ k ≠ gb) (Kd.N_far (p := ⟨gb, 0, none⟩) HN1.out (fun _ hk => hk.1) (Value.slice Ao1 (xs.length + 1) co1)) (fun _ hk => ⟨by have h7 := hk.2; simpa only [List.length_append, List.length_singleton] using h7, hk.1⟩)
    exact h6
   have h5 := Kd.R_mono (ok' := fun _ => True) (Kd.R_far (p := ⟨gb, 0, none⟩) (Kd.R_types HO1.out BK1.out (by decide)) (fun _ hk => hk.2) (Value.slice Ao1 (xs.length + 1) co1)) (fun _ hk => trivial)
   simpa only [List.length_append, List.length_singleton] using h5
  ·rintro rfl
   have := BK.out.symm.trans hk
   simp at this
 ·have hd' : (d == 2) = false := by simp [hd]
  have HD := Aside0.mk hd
  clear hd
  go_enter Try.func60, Try.ntmps60
  go_wp2
  go_end0
  exact ⟨rfl, ⟨⟨v, BK.out, by rw [patch_Gone.step, if_neg HD.out]; exact HV.out, HN.out⟩, HB.out⟩, fun _ _ h => h⟩
def patch_Gone.f (k : Nat) (l0 : List S44) (l1 : List S66) : Option (List Int × Int) := (patch_whole.f k l0 l1).bind fun t => if patch_walk.lines t.1 ≤ 1000000 ∧ t.1.length ≤ 1000000 then some ((patch_walk.all patch_Gone.step t.1 ([], 0, 0)).1, t.2.2) else none
set_option maxRecDepth 100000 in
set_option maxHeartbeats 4000000 in
theorem patch_Gone.calls (k : Nat) (A0 : Option Addr) (c0 : Nat) (l0 : List S44) (A1 : Option Addr) (c1 : Nat) (l1 : List S66) (r1 : List Int) (r2 : Int) (w : World) (hr0 : Kd.C k44 w A0 l0.length l0) (hc0 : l0.length ≤ c0) (hr1 : Kd.C k66 w A1 l1.length l1) (hc1 : l1.length ≤ c1) (h : patch_Gone.f k l0 l1 = some (r1, r2)) :
  Calls Try.prog 29 #[.slice A0 l0.length c0, .slice A1 l1.length c1] w fun e w' => ∃ v0_ : Value, e = .returned (.tuple #[v0_, .int .i64 r2]) ∧ Kd.R (Kd.int .i64) 3 w' w.heap.size (fun _ => True) v0_ r1 ∧ Below w.heap.size w w' := by
 unfold patch_Gone.f at h
 obtain ⟨⟨s, b, e⟩, hw, h⟩ := Option.bind_eq_some_iff.mp h
 dsimp only at h
 by_cases hl : patch_walk.lines s ≤ 1000000 ∧ s.length ≤ 1000000
 ·rw [if_pos hl] at h
  cases h
  have HW := Aside0.mk hw
  have HR0 := Aside0.mk hr0
  have HR1 := Aside0.mk hr1
  have HC0 := Aside0.mk hc0
  have HC1 := Aside0.mk hc1
  have HL := Aside0.mk hl
  clear hw hr0 hr1 hc0 hc1 hl
  have HCL := Aside0.mk (patch_whole.calls k (fun _ => True) A0 c0 l0 (fun _ => True) A1 c1 l1 s b r2 w (Kd.V_mk HC0.out (fun W' hW => k44_heap.C (fun q hq => hW q trivial hq) HR0.out)) (Kd.V_mk HC1.out (fun W' hW => k66_heap.C (fun q hq => hW q trivial hq) HR1.out)) HW.out)
  have hmf : ∀ (fn : Fn) (first cap : Array Value) (w : World), (Instr.makeFunc fn first cap).run Try.prog w = .ok (.func fn first cap) w := fun _ _ _ _ => rfl
  go_enter Try.func29, Try.ntmps29
  go_wp2_with (go_at_call 57; (refine HCL.out.mono ?_); rintro e_ w1 ⟨v0, v1, rfl, hN, hRb, hB1⟩; obtain ⟨As, cs, eN⟩ := Kd.N_slice hN; subst eN; have HN := Aside0.mk hN; have HRb := Aside0.mk hRb; have HB := Aside0.mk hB1; clear hN hRb hB1)
  have hgb : w.heap.size ≤ w1.heap.size := HB.out.size
  have hnew := World.alloc_heap_new w1 (.cells #[.slice none 0 0] 53 (0, 0))
  have HP0 : Aside0 ((∃ v', (w1.alloc (.cells #[.slice none 0 0] 53 (0, 0))).heap[w1.heap.size]? = some (Obj.cells #[v'] 53 (0, 0)) ∧ Kd.R (Kd.int .i64) 3 (w1.alloc (.cells #[.slice none 0 0] 53 (0, 0))) w.heap.size (fun _ => True) v' [] ∧ Kd.N k47 47 (w1.alloc (.cells #[.slice none 0 0] 53 (0, 0))) w.heap.size (fun k => some k ≠ v'.ownBlock ∧ k ≠ w1.heap.size) (.slice As s.length cs) s) ∧ Below w.heap.size w (w1.alloc (.cells #[.slice none 0 0] 53 (0, 0)))) := ⟨⟨_, hnew, Kd.R_nil _ _ _ _ _, Kd.N_alloc (Kd.N_mono (Kd.N_elderB HN.out w1.heap.size (Nat.le_refl _)) (fun k hk => ⟨by simp [Value.ownBlock], hk.2⟩)) _⟩, HB.out.alloc hgb _⟩
  clear hnew
  go_wp2_with (go_at_call 58; refine (patch_walk.callsG patch_Gone.step (.pointer (some ⟨w1.heap.size, 0, none⟩)) (fun W x => (∃ v', W.heap[w1.heap.size]? = some (Obj.cells #[v'] 53 (0, 0)) ∧ Kd.R (Kd.int .i64) 3 W w.heap.size (fun _ => True) v' x ∧ Kd.N k47 47 W w.heap.size (fun k => some k ≠ v'.ownBlock ∧ k ≠ w1.heap.size) (.slice As s.length cs) s) ∧ Below w.heap.size w W) List.length As cs s [] _ ?aC ?aS HL.out.2 HL.out.1 HP0.out rfl ?aL ?aZ ?aK).mono ?_; (case aC => exact (fun W x h => (Kd.N_reads' h.1.choose_spec.2.2).2.2)); (case aS => exact (Kd.N_reads' HN.out).2.1); (case aL => exact (fun W x o h => ⟨⟨_, blk_alloc h.1.choose_spec.1 _, Kd.R_alloc h.1.choose_spec.2.1 _, Kd.N_alloc h.1.choose_spec.2.2 _⟩, h.2.alloc h.2.size _⟩)); (case aZ => exact (fun x d i j => by unfold patch_Gone.step; split <;> simp)); (case aK => exact (fun W x d i j h hs hi hj => (patch_Gone.one w.heap.size w1.heap.size w x _ d i j W h.1.choose_spec.1 h.1.choose_spec.2.1 h.2 hgb (by omega) _ _ h.1.choose_spec.2.2).mono (fun _ _ hq => hq))); rintro e_ w2 ⟨rfl, ⟨vr, hbk, hR, hN2⟩, hB2⟩; have HRr := Aside0.mk hR; have HB2 := Aside0.mk hB2; have hcz := (blk_cell hbk 0).trans rfl; have hfz := blk_frozen hbk 0; clear hbk hR hN2 hB2)
  go_ret2
  exact ⟨_, rfl, HRr.out, HB2.out⟩
 ·rw [if_neg hl] at h
  cases h


end Go.Proofs.Ytfnbodjmmkjlcaa.H
end
section
namespace Go.Proofs.Ytfnbodjmmkjlcaa.H
open Go.RowKit Go.Proofs.YtfnbodjmmkjlcaaW.PrintWords Go.Proofs.YtfnbodjmmkjlcaaW.PrintLast Go.Proofs.YtfnbodjmmkjlcaaW.PrintMore
attribute [local go_sem] max2_int min2_int max_two min_two max_three min_three max_four min_four   -- for this text's walks alone
set_option linter.unusedVariables false
set_option linter.unusedSimpArgs false

def patch_Made.step (xs : List Int) (d : Int) (i j : Nat) : List Int := if d = 3 then xs ++ [(j : Int)] else xs
set_option maxRecDepth 100000 in
set_option maxHeartbeats 4000000 in
/-- One call of jalousie/patch.Made$1: the row behind the captured variable grows where the line is of its kind. -/
theorem patch_Made.one (base gb : Nat) (w0 : World) (xs : List Int) (v : Value) (d : Int) (i j : Nat) (w : World)
  (hb : w.heap[gb]? = some (Obj.cells #[v] 53 (0, 0))) (hv : Kd.R (Kd.int .i64) 3 w base (fun _ => True) v xs) (hB : Below base w0 w) (hgb : base ≤ gb) (hl : xs.length ≤ 2000000) (vs : Value) (s : List S47) (hN : Kd.N k47 47 w base (fun k => some k ≠ v.ownBlock ∧ k ≠ gb) vs s) :
  Calls Try.prog 61 #[.int .i64 d, .int .i64 (i : Int), .int .i64 (j : Int), .pointer (some ⟨gb, 0, none⟩)] w fun e w' => e = .returned (.tuple #[]) ∧ ((∃ v', w'.heap[gb]? = some (Obj.cells #[v'] 53 (0, 0)) ∧ Kd.R (Kd.int .i64) 3 w' base (fun _ => True) v' (patch_Made.step xs d i j) ∧ Kd.N k47 47 w' base (fun k => some k ≠ v'.ownBlock ∧ k ≠ gb) vs s) ∧ Below base w0 w') ∧ ∀ (k : Nat) (c : Array Value), w.heap[k]? = some (Obj.cells c 47 (0, 0)) → w'.heap[k]? = some (Obj.cells c 47 (0, 0)) := by
 have hsz : base ≤ w.heap.size := Nat.le_trans hgb (Nat.le_of_lt (Array.getElem?_eq_some_iff.mp hb).1)
 have hc := (blk_cell hb 0).trans rfl
 have hf := blk_frozen hb 0
 have HB := Aside0.mk hB
 have HV := Aside0.mk hv
 have BK := Aside0.mk hb
 have HN := Aside0.mk hN
 clear hB hv hb hN
 by_cases hd : d = 3
 ·have hd' : (d == 3) = true := by simp [hd]
  have HD := Aside0.mk hd
  clear hd
  go_enter Try.func61, Try.ntmps61
  go_wp2_with ((with_reducible refine gate_builtin (b := .append) (xs := #[.tmp 9, .tmp 11]) rfl ?_); at_builtin; refine Kd.R_append (Kd.int .i64) (w0 := w0) base rfl (.tmp 9) (.tmp 11) 53 3 (.int .i64 0) 8 rfl Try.underlying53 info3 rfl (by decide) (by omega) v xs (j : Int) [.int .i64 (j : Int)] (fun _ => True) (fun _ => False) rfl rfl ?aP (fun _ hk => hk.elim) ?aF ?aO ?aB ?aS ?aL ?_; (case aP => exact rfl); (case aB => exact HB.out); (case aF => exact (fun _ _ => trivial)); (case aO => exact HV.out); (case aS => exact hsz); (case aL => omega); intro v1 w1 ho hbl hgr hat; obtain ⟨Ao1, co1, eo1⟩ := Kd.R_slice ho; subst eo1; have BK1 := Aside0.mk (blk_grown (g := gb) (o := .cells #[v] 53 (0, 0)) BK.out hgr (Kd.R_ne HV.out BK.out (by decide))); have hc1 := (blk_cell BK1.out 0).trans rfl; have hf1 := blk_frozen BK1.out 0; have HO1 := Aside0.mk ho; have HB1 := Aside0.mk hbl; have HG1 := Aside0.mk hgr; have HN1 := Aside0.mk (Kd.N_afterv (ok := fun k => k ≠ gb) (Kd.N_mono HN.out (fun _ hk => ⟨hk.2, hk.1⟩)) hgr hat); clear ho hbl hgr hat hc hf)
  go_end0
  refine ⟨rfl, ⟨⟨_, blk_put (cs := #[v]) BK1.out 0 _ rfl, ?_⟩, HB1.out.setCell hgb _⟩, fun k c hk => blk_far (blk_grown hk HG1.out (Kd.R_ne HV.out hk (by decide))) ?_ _⟩
  ·rw [patch_Made.step, if_pos HD.out]
   refine ⟨?_, ?_⟩
   rotate_left
   ·have h6 := Kd.N_mono (ok' := fun k => some k ≠ (Value.slice Ao1 (xs.length + 1) co1).ownBlock ∧ k ≠ gb) (Kd.N_far (p := ⟨gb, 0, none⟩) HN1.out (fun _ hk => hk.1) (Value.slice Ao1 (xs.length + 1) co1)) (fun _ hk => ⟨by have h7 := hk.2; simpa only [List.length_append, List.length_singleton] using h7, hk.1⟩)
    exact h6
   have h5 := Kd.R_mono (ok' := fun _ => True) (Kd.R_far (p := ⟨gb, 0, none⟩) (Kd.R_types HO1.out BK1.out (by decide)) (fun _ hk => hk.2) (Value.slice Ao1 (xs.length + 1) co1)) (fun _ hk => trivial)
   simpa only [List.length_append, List.length_singleton] using h5
  ·rintro rfl
   have := BK.out.symm.trans hk
   simp at this
 ·have hd' : (d == 3) = false := by simp [hd]
  have HD := Aside0.mk hd
  clear hd
  go_enter Try.func61, Try.ntmps61
  go_wp2
  go_end0
  exact ⟨rfl, ⟨⟨v, BK.out, by rw [patch_Made.step, if_neg HD.out]; exact HV.out, HN.out⟩, HB.out⟩, fun _ _ h => h⟩
def patch_Made.f (k : Nat) (l0 : List S44) (l1 : List S66) : Option (List Int × Int) := (patch_whole.f k l0 l1).bind fun t => if patch_walk.lines t.1 ≤ 1000000 ∧ t.1.length ≤ 1000000 then some ((patch_walk.all patch_Made.step t.1 ([], 0, 0)).1, t.2.2) else none
set_option maxRecDepth 100000 in
set_option maxHeartbeats 4000000 in
theorem patch_Made.calls (k : Nat) (A0 : Option Addr) (c0 : Nat) (l0 : List S44) (A1 : Option Addr) (c1 : Nat) (l1 : List S66) (r1 : List Int) (r2 : Int) (w : World) (hr0 : Kd.C k44 w A0 l0.length l0) (hc0 : l0.length ≤ c0) (hr1 : Kd.C k66 w A1 l1.length l1) (hc1 : l1.length ≤ c1) (h : patch_Made.f k l0 l1 = some (r1, r2)) :
  Calls Try.prog 30 #[.slice A0 l0.length c0, .slice A1 l1.length c1] w fun e w' => ∃ v0_ : Value, e = .returned (.tuple #[v0_, .int .i64 r2]) ∧ Kd.R (Kd.int .i64) 3 w' w.heap.size (fun _ => True) v0_ r1 ∧ Below w.heap.size w w' := by
 unfold patch_Made.f at h
 obtain ⟨⟨s, b, e⟩, hw, h⟩ := Option.bind_eq_some_iff.mp h
 dsimp only at h
 by_cases hl : patch_walk.lines s ≤ 1000000 ∧ s.length ≤ 1000000
 ·rw [if_pos hl] at h
  cases h
  have HW := Aside0.mk hw
  have HR0 := Aside0.mk hr0
  have HR1 := Aside0.mk hr1
  have HC0 := Aside0.mk hc0
  have HC1 := Aside0.mk hc1
  have HL := Aside0.mk hl
  clear hw hr0 hr1 hc0 hc1 hl
  have HCL := Aside0.mk (patch_whole.calls k (fun _ => True) A0 c0 l0 (fun _ => True) A1 c1 l1 s b r2 w (Kd.V_mk HC0.out (fun W' hW => k44_heap.C (fun q hq => hW q trivial hq) HR0.out)) (Kd.V_mk HC1.out (fun W' hW => k66_heap.C (fun q hq => hW q trivial hq) HR1.out)) HW.out)
  have hmf : ∀ (fn : Fn) (first cap : Array Value) (w : World), (Instr.makeFunc fn first cap).run Try.prog w = .ok (.func fn first cap) w := fun _ _ _ _ => rfl
  go_enter Try.func30, Try.ntmps30
  go_wp2_with (go_at_call 57; (refine HCL.out.mono ?_); rintro e_ w1 ⟨v0, v1, rfl, hN, hRb, hB1⟩; obtain ⟨As, cs, eN⟩ := Kd.N_slice hN; subst eN; have HN := Aside0.mk hN; have HRb := Aside0.mk hRb; have HB := Aside0.mk hB1; clear hN hRb hB1)
  have hgb : w.heap.size ≤ w1.heap.size := HB.out.size
  have hnew := World.alloc_heap_new w1 (.cells #[.slice none 0 0] 53 (0, 0))
  have HP0 : Aside0 ((∃ v', (w1.alloc (.cells #[.slice none 0 0] 53 (0, 0))).heap[w1.heap.size]? = some (Obj.cells #[v'] 53 (0, 0)) ∧ Kd.R (Kd.int .i64) 3 (w1.alloc (.cells #[.slice none 0 0] 53 (0, 0))) w.heap.size (fun _ => True) v' [] ∧ Kd.N k47 47 (w1.alloc (.cells #[.slice none 0 0] 53 (0, 0))) w.heap.size (fun k => some k ≠ v'.ownBlock ∧ k ≠ w1.heap.size) (.slice As s.length cs) s) ∧ Below w.heap.size w (w1.alloc (.cells #[.slice none 0 0] 53 (0, 0)))) := ⟨⟨_, hnew, Kd.R_nil _ _ _ _ _, Kd.N_alloc (Kd.N_mono (Kd.N_elderB HN.out w1.heap.size (Nat.le_refl _)) (fun k hk => ⟨by simp [Value.ownBlock], hk.2⟩)) _⟩, HB.out.alloc hgb _⟩
  clear hnew
  go_wp2_with (go_at_call 58; refine (patch_walk.callsM patch_Made.step (.pointer (some ⟨w1.heap.size, 0, none⟩)) (fun W x => (∃ v', W.heap[w1.heap.size]? = some (Obj.cells #[v'] 53 (0, 0)) ∧ Kd.R (Kd.int .i64) 3 W w.heap.size (fun _ => True) v' x ∧ Kd.N k47 47 W w.heap.size (fun k => some k ≠ v'.ownBlock ∧ k ≠ w1.heap.size) (.slice As s.length cs) s) ∧ Below w.heap.size w W) List.length As cs s [] _ ?aC ?aS HL.out.2 HL.out.1 HP0.out rfl ?aL ?aZ ?aK).mono ?_; (case aC => exact (fun W x h => (Kd.N_reads' h.1.choose_spec.2.2).2.2)); (case aS => exact (Kd.N_reads' HN.out).2.1); (case aL => exact (fun W x o h => ⟨⟨_, blk_alloc h.1.choose_spec.1 _, Kd.R_alloc h.1.choose_spec.2.1 _, Kd.N_alloc h.1.choose_spec.2.2 _⟩, h.2.alloc h.2.size _⟩)); (case aZ => exact (fun x d i j => by unfold patch_Made.step; split <;> simp)); (case aK => exact (fun W x d i j h hs hi hj => (patch_Made.one w.heap.size w1.heap.size w x _ d i j W h.1.choose_spec.1 h.1.choose_spec.2.1 h.2 hgb (by omega) _ _ h.1.choose_spec.2.2).mono (fun _ _ hq => hq))); rintro e_ w2 ⟨rfl, ⟨vr, hbk, hR, hN2⟩, hB2⟩; have HRr := Aside0.mk hR; have HB2 := Aside0.mk hB2; have hcz := (blk_cell hbk 0).trans rfl; have hfz := blk_frozen hbk 0; clear hbk hR hN2 hB2)
  go_ret2
  exact ⟨_, rfl, HRr.out, HB2.out⟩
 ·rw [if_neg hl] at h
  cases h


end Go.Proofs.Ytfnbodjmmkjlcaa.H
end
section
namespace Go.Proofs.Ytfnbodjmmkjlcaa.H
open Go.RowKit Go.Proofs.YtfnbodjmmkjlcaaW.PrintWords Go.Proofs.YtfnbodjmmkjlcaaW.PrintLast Go.Proofs.YtfnbodjmmkjlcaaW.PrintMore
attribute [local go_sem] max2_int min2_int max_two min_two max_three min_three max_four min_four   -- for this text's walks alone
set_option linter.unusedVariables false
set_option linter.unusedSimpArgs false

mutual
def jalousieref09_Single.l0 : Nat → List (S47) → List (S47) → Int → Option ((List (S47)))
 | 0, _, _, _ => none
 | k + 1, x0, x3, x4 => if x4 < (x0.length : Int) then (jalousieref09_Single.l1 k x0 x3 x4 0) else (some x3)
def jalousieref09_Single.l1 : Nat → List (S47) → List (S47) → Int → Int → Option ((List (S47)))
 | 0, _, _, _, _ => none
 | k + 1, x0, x3, x4, x5 => if 0 ≤ x4 then (if x4 < (x0.length : Int) then (if x5 < (((rd_T47 x0 x4).f1).length : Int) then (if 0 ≤ x5 then (if x3.length < 4398046511104 then (jalousieref09_Single.l1 k x0 (x3 ++ [(⟨(rd_T47 x0 x4).f0, (([(⟨(rd_T66 ((rd_T47 x0 x4).f1) x5).f0, (rd_T66 ((rd_T47 x0 x4).f1) x5).f1⟩ : S66)] : List (S66)))⟩ : S47)]) x4 (wrap64 (x5 + 1))) else (none)) else (none)) else (jalousieref09_Single.l0 k x0 x3 (wrap64 (x4 + 1)))) else (none)) else (none)
end
def jalousieref09_Single.f (k : Nat) (l0 : List (S47)) : Option ((List (S47))) := jalousieref09_Single.l0 k l0 (([] : List (S47))) 0
def jalousieref09_Single.T8 : Bool × List (List Nat × List Nat) := (true, [([], []), ([], []), ([], []), ([1, 2], [1, 2]), ([3], [3]), ([4], [4]), ([], []), ([], []), ([6, 7], [6, 7]), ([8], [8]), ([9], [9]), ([], []), ([10, 11], [10, 11]), ([12], [12]), ([13], [13]), ([5, 14], [5, 14]), ([15], [15]), ([0, 16], [0, 16]), ([17, 17, 0, 1, 2, 3, 4, 5, 6, 7, 8, 9, 10, 11, 12, 13, 14, 15, 16, 17], [0, 17])])
def jalousieref09_Single.B8 : List Nat := [0, 0, 0, 6, 14, 30, 0, 0, 192, 448, 960, 0, 4032, 8128, 16320, 32766, 65534, 131071, 262143]
theorem jalousieref09_Single.tab8 : rtab .any (opsOf Try.f41 8) = jalousieref09_Single.T8 := by kernel_rfl
theorem jalousieref09_Single.bits8 : waitsOk jalousieref09_Single.T8.2 jalousieref09_Single.B8 = true := by kernel_rfl
set_option maxHeartbeats 8000000 in
set_option maxRecDepth 100000 in
theorem jalousieref09_Single.calls (k : Nat) (A0 : Option Addr) (c0 : Nat) (l0 : List (S47)) (r : List (S47)) (w : World) (hr0 : Kd.C k47 w A0 l0.length l0) (hc0 : l0.length ≤ c0) (h : jalousieref09_Single.f k l0 = some r) :
  Calls Try.prog 41 #[.slice A0 l0.length c0] w fun e w' => ∃ v0_ : Value, e = .returned (v0_) ∧ Kd.S k47 47 w' w.heap.size (fun _ => True) v0_ r ∧ Below w.heap.size w w' := by
 have hu66 := Try.underlying66
 have hu47 := Try.underlying47
 have HR0 := Aside0.mk hr0
 have HC0 := Aside0.mk hc0
 clear hr0 hc0
 have HB := Aside0.mk (Below.refl w.heap.size w)
 have H : (jalousieref09_Single.l0 k l0 (([] : List (S47))) 0) = some r := h
 clear h
 obtain ⟨y234, hy234⟩ : ∃ y_ : List (S47), y_ = (([] : List (S47))) := ⟨_, rfl⟩
 replace H : (jalousieref09_Single.l0 k l0 y234 0) = some r := by first | (rw [hy234]; with_reducible exact H) | (have H2_ := (Option.bind_some _ _).symm.trans H; rw [hy234]; with_reducible exact H2_) | (have H2_ := (Option.bind_some _ _).symm.trans H; with_reducible exact H2_) | with_reducible exact H | (rw [hy234]; exact H) | exact H
 have Ny234 := Aside0.mk hy234
 clear hy234
 have H' := Aside0.mk H
 clear H
 go_enter Try.func41, Try.ntmps41
 go_wp2_with (first | ((with_reducible refine gate_dst (N := 6) rfl ?_); refine Kd.S_lit k47 _ 47 ?hg (N := 6) ?hd (xs := ([] : List (S47))) (inner := []) (ok := fun _ => True) (okp := fun _ => True) ?hr ?hp (fun _ hk => hk) trivial (Below.refl _ _) (Nat.le_refl _) (by simp) ?_; (case hd => rfl); (case hg => rfl); (case hr => first | (go_simp; done) | (go_simp; rfl)); (case hp => exact (Reps.none _ _)); intro v235 w2 ho3 hb hg_ hnew_; clear hg_ hnew_; (first | rw [← Ny234.out] at ho3 | (simp only [Int.reduceToNat] at ho3; rw [← Ny234.out] at ho3)); have n0_ := Aside0.mk (Kd.S_lower ho3 (below_size (by repeat (first | (with_reducible first | exact HB.out | apply below_alloc | apply pw_below_drewN | apply below_drew1) | exact HB.out)))); have n1_ := Aside0.mk (below_step (by repeat (first | (with_reducible first | exact HB.out | apply below_alloc | apply pw_below_drewN | apply below_drew1) | exact HB.out)) hb); clear HB; have HO236 := n0_; have HB := n1_; clear n0_ n1_; clear hb ho3))
 go_loopg [3, 4] k (fun kq v3 v4 w' => ∃ (x3_1 : List (S47)) (x4_1 : Int), v4 = .int .i64 x4_1 ∧ Aside0 (jalousieref09_Single.l0 kq l0 x3_1 x4_1 = some r) ∧ Aside0 (kq ≤ k) ∧ Aside0 (Kd.S k47 47 w' w.heap.size (fun _ => True) v3 x3_1) ∧ Aside0 (Below w.heap.size w w'))
 case atStart => exact ⟨(y234), (0), (by first | rfl | (simp; done) | (simp [*]; done)), H', ⟨Nat.le_refl _⟩, ⟨by (with_reducible repeat (first | apply Kd.S_alloc | apply Kd.S_drewN | apply Kd.S_drew)); exact HO236.out⟩, ⟨by repeat (first | (with_reducible first | exact HB.out | apply below_alloc | apply pw_below_drewN | apply below_drew1) | exact HB.out)⟩⟩
 case round =>
  clear H'
  try clear p2
  obtain ⟨x3_1, x4_1, rfl, HA, HK1, HO_3, HB⟩ := hrel
  cases gk with
  | zero => exact absurd HA.out (by simp [jalousieref09_Single.l0])
  | succ k1 =>
   have H := HA.out
   clear HA
   simp only [jalousieref09_Single.l0] at H
   by_cases c4 : x4_1 < (l0.length : Int)
   ·rw [if_pos c4] at H
    have c4b0 : decide (x4_1 < (l0.length : Int)) = true := decide_eq_true c4
    clear c4
    have H' := Aside0.mk H
    clear H
    go_wp2
    go_loopg [3, 5] k1 (fun kq v3 v5 w' => ∃ (x3_2 : List (S47)) (x5_2 : Int), v5 = .int .i64 x5_2 ∧ Aside0 (jalousieref09_Single.l1 kq l0 x3_2 x4_1 x5_2 = some r) ∧ Aside0 (kq ≤ k1) ∧ Aside0 (Kd.S k47 47 w' w.heap.size (fun _ => True) v3 x3_2) ∧ Aside0 (Below w.heap.size w w'))
    case atStart => exact ⟨(x3_1), (0), (by first | rfl | (simp; done) | (simp [*]; done)), H', ⟨Nat.le_refl _⟩, ⟨by (with_reducible repeat (first | apply Kd.S_alloc | apply Kd.S_drewN | apply Kd.S_drew)); exact HO_3.out⟩, ⟨by repeat (first | (with_reducible first | exact HB.out | apply below_alloc | apply pw_below_drewN | apply below_drew1) | exact HB.out)⟩⟩
    case round =>
     clear H'
     try clear p2
     try clear c4
     try clear c4b0
     try clear p2
     obtain ⟨x3_2, x5_2, rfl, HA, HK2, HO_3, HB⟩ := hrel
     cases gk with
     | zero => exact absurd HA.out (by simp [jalousieref09_Single.l1])
     | succ k2 =>
      have H := HA.out
      clear HA
      simp only [jalousieref09_Single.l1] at H
      by_cases c5 : 0 ≤ x4_1
      ·rw [if_pos c5] at H
       have c5b0 : decide (0 ≤ x4_1) = true := decide_eq_true c5
       clear c5
       by_cases c6 : x4_1 < (l0.length : Int)
       ·rw [if_pos c6] at H
        have c6b0 : decide (x4_1 < (l0.length : Int)) = true := decide_eq_true c6
        clear c6
        by_cases c7 : x5_2 < (((rd_T47 l0 x4_1).f1).length : Int)
        ·rw [if_pos c7] at H
         have c7b0 : decide (x5_2 < (((rd_T47 l0 x4_1).f1).length : Int)) = true := decide_eq_true c7
         clear c7
         by_cases c8 : 0 ≤ x5_2
         ·rw [if_pos c8] at H
          have c8b0 : decide (0 ≤ x5_2) = true := decide_eq_true c8
          clear c8
          obtain ⟨y241, hy241⟩ : ∃ y_ : List (S66), y_ = (([(⟨(rd_T66 ((rd_T47 l0 x4_1).f1) x5_2).f0, (rd_T66 ((rd_T47 l0 x4_1).f1) x5_2).f1⟩ : S66)] : List (S66))) := ⟨_, rfl⟩
          replace H : (if x3_2.length < 4398046511104 then (jalousieref09_Single.l1 k2 l0 (x3_2 ++ [(⟨(rd_T47 l0 x4_1).f0, y241⟩ : S47)]) x4_1 (wrap64 (x5_2 + 1))) else (none)) = some r := by first | (rw [hy241]; with_reducible exact H) | (have H2_ := (Option.bind_some _ _).symm.trans H; rw [hy241]; with_reducible exact H2_) | (have H2_ := (Option.bind_some _ _).symm.trans H; with_reducible exact H2_) | with_reducible exact H | (rw [hy241]; exact H) | exact H
          have Ny241 := Aside0.mk hy241
          clear hy241
          by_cases c9 : x3_2.length < 4398046511104
          ·rw [if_pos c9] at H
           have LMc9 := Aside0.mk c9
           clear c9
           obtain ⟨y244, hy244⟩ : ∃ y_ : List (S47), y_ = (x3_2 ++ [(⟨(rd_T47 l0 x4_1).f0, y241⟩ : S47)]) := ⟨_, rfl⟩
           replace H : (jalousieref09_Single.l1 k2 l0 y244 x4_1 (wrap64 (x5_2 + 1))) = some r := by first | (rw [hy244]; with_reducible exact H) | (have H2_ := (Option.bind_some _ _).symm.trans H; rw [hy244]; with_reducible exact H2_) | (have H2_ := (Option.bind_some _ _).symm.trans H; with_reducible exact H2_) | with_reducible exact H | (rw [hy244]; exact H) | exact H
           have Ny244 := Aside0.mk hy244
           clear hy244
           have H' := Aside0.mk H
           clear H
           have p237 : 0 ≤ (x4_1 : Int) := of_decide_eq_true (by first | (with_reducible assumption) | assumption)
           have q237 : x4_1 < (l0.length : Int) := of_decide_eq_true (by first | (with_reducible assumption) | assumption)
           obtain ⟨ad237, A237_1, c237_1, e237, hx237_0, hx237_1, hl237_1, hi237_1⟩ := at_T47 HR0.out x4_1 p237 q237
           cases e237
           replace hx237_0 := (HB.out.cell (World.block_lt_of_cell? w _ hx237_0)).trans hx237_0
           replace hx237_1 := (HB.out.cell (World.block_lt_of_cell? w _ hx237_1)).trans hx237_1
           have HR237_1 := Aside0.mk hi237_1
           have HC237_1 := Aside0.mk hl237_1
           clear hi237_1 hl237_1
           replace p237 := eq_true p237
           replace q237 := eq_true q237
           try go_wp2
           have n0_ := Aside0.mk (Kd.S_drew HO_3.out)
           have n1_ := Aside0.mk (below_drew1 HB.out)
           clear HO_3
           clear HB
           have HO_3 := n0_
           have HB := n1_
           clear n0_ n1_
           have p238 : 0 ≤ (x4_1 : Int) := of_decide_eq_true (by first | (with_reducible assumption) | assumption)
           have q238 : x4_1 < (l0.length : Int) := of_decide_eq_true (by first | (with_reducible assumption) | assumption)
           obtain ⟨ad238, A238_1, c238_1, e238, hx238_0, hx238_1, hl238_1, hi238_1⟩ := at_T47 HR0.out x4_1 p238 q238
           have hw238_1 := hx238_1
           have hw238_0 := hx238_0
           obtain rfl : ad237 = ad238 := (by injection e238)
           replace hx238_0 := (HB.out.cell (World.block_lt_of_cell? w _ hx238_0)).trans hx238_0
           replace hx238_1 := (HB.out.cell (World.block_lt_of_cell? w _ hx238_1)).trans hx238_1
           have HR238_1 := Aside0.mk hi238_1
           have HC238_1 := Aside0.mk hl238_1
           clear hi238_1 hl238_1
           replace p238 := eq_true p238
           replace q238 := eq_true q238
           have p239 : 0 ≤ (x4_1 : Int) := of_decide_eq_true (by first | (with_reducible assumption) | assumption)
           have q239 : x4_1 < (l0.length : Int) := of_decide_eq_true (by first | (with_reducible assumption) | assumption)
           obtain ⟨ad239, A239_1, c239_1, e239, hx239_0, hx239_1, hl239_1, hi239_1⟩ := at_T47 HR0.out x4_1 p239 q239
           have hw239_1 := hx239_1
           have hw239_0 := hx239_0
           obtain rfl : ad237 = ad239 := (by injection e239)
           replace hx239_0 := (HB.out.cell (World.block_lt_of_cell? w _ hx239_0)).trans hx239_0
           replace hx239_1 := (HB.out.cell (World.block_lt_of_cell? w _ hx239_1)).trans hx239_1
           have HR239_1 := Aside0.mk hi239_1
           have HC239_1 := Aside0.mk hl239_1
           clear hi239_1 hl239_1
           replace p239 := eq_true p239
           replace q239 := eq_true q239
           have ea_ := Option.some.inj (hx238_1.symm.trans hx239_1)
           injection ea_ with ea_ en_ ec_
           subst ea_
           subst ec_
           clear en_
           have p240 : 0 ≤ (x5_2 : Int) := of_decide_eq_true (by first | (with_reducible assumption) | assumption)
           have q240 : x5_2 < (((rd_T47 l0 x4_1).f1).length : Int) := of_decide_eq_true (by first | (with_reducible assumption) | assumption)
           obtain ⟨ad240, e240, hx240_0, hx240_1⟩ := at_T66 HR239_1.out x5_2 p240 q240
           have hw240_1 := hx240_1
           have hw240_0 := hx240_0
           cases e240
           replace hx240_0 := (HB.out.cell (World.block_lt_of_cell? w _ hx240_0)).trans hx240_0
           replace hx240_1 := (HB.out.cell (World.block_lt_of_cell? w _ hx240_1)).trans hx240_1
           replace p240 := eq_true p240
           replace q240 := eq_true q240
           refine start_ (n := 19) (S := fun w' => w'.cell? (ad237.add ((x4_1).toNat * 2)) = some (.int .i64 ((rd_T47 l0 x4_1).f0)) ∧ w'.cell? ⟨(ad237.add ((x4_1).toNat * 2)).block, (ad237.add ((x4_1).toNat * 2)).off + 1, none⟩ = some (.slice (some ad240) ((rd_T47 l0 x4_1).f1).length c238_1) ∧ w'.cell? (ad237.add ((x4_1).toNat * 2)) = some (.int .i64 ((rd_T47 l0 x4_1).f0)) ∧ w'.cell? ⟨(ad237.add ((x4_1).toNat * 2)).block, (ad237.add ((x4_1).toNat * 2)).off + 1, none⟩ = some (.slice (some ad240) ((rd_T47 l0 x4_1).f1).length c238_1) ∧ w'.cell? (ad240.add ((x5_2).toNat * 2)) = some (.string ((rd_T66 ((rd_T47 l0 x4_1).f1) x5_2).f0)) ∧ w'.cell? ⟨(ad240.add ((x5_2).toNat * 2)).block, (ad240.add ((x5_2).toNat * 2)).off + 1, none⟩ = some (.bool ((rd_T66 ((rd_T47 l0 x4_1).f1) x5_2).f1))) (ds := []) (Sq.bl 19 0) (by kernel_rfl) rfl rfl ⟨((HB.out.cell (World.block_lt_of_cell? w _ hw238_0)).trans hw238_0), ((HB.out.cell (World.block_lt_of_cell? w _ hw238_1)).trans hw238_1), ((HB.out.cell (World.block_lt_of_cell? w _ hw239_0)).trans hw239_0), ((HB.out.cell (World.block_lt_of_cell? w _ hw239_1)).trans hw239_1), ((HB.out.cell (World.block_lt_of_cell? w _ hw240_0)).trans hw240_0), ((HB.out.cell (World.block_lt_of_cell? w _ hw240_1)).trans hw240_1)⟩ (fun hHeld => ?_); refine with_tabW jalousieref09_Single.tab8 jalousieref09_Single.bits8 (fun HT_ HW_ => ?_)
           generalize wr.drew = w10 at HO_3 HB HR238_1 HR239_1 hx238_0 hx238_1 hx239_0 hx239_1 hx240_0 hx240_1 hHeld ⊢
           refine Sq.pu (v := ?_) (a' := ?_) 0 23 (Sq.bl 19 1) (any_of HT_.out (by kernel_rfl)) rfl rfl (fun _ _ _ h => h) (by rfl) ?_ ?_ ?_; rotate_left; (· intro w'; go_simp; with_reducible rfl); rotate_left; (· simp only [Act.put,zp1,zp2,zp3,zp4,zp5]; rfl)
           refine Sq.pu (v := ?_) (a' := ?_) 1 24 (Sq.bl 19 3) (any_of HT_.out (by kernel_rfl)) rfl rfl (fun _ _ _ h => h) (by rfl) ?_ ?_ ?_; rotate_left; (· intro w'; go_simp; with_reducible rfl); rotate_left; (· simp only [Act.put,zp1,zp2,zp3,zp4,zp5]; rfl)
           refine Sq.pu (v := ?_) (a' := ?_) 2 25 (Sq.bl 19 7) (any_of HT_.out (by kernel_rfl)) rfl rfl (fun _ _ _ h => h) (by rfl) ?_ ?_ ?_; rotate_left; (· intro w'; go_simp; with_reducible rfl); rotate_left; (· simp only [Act.put,zp1,zp2,zp3,zp4,zp5]; rfl)
           refine Sq.pu (v := ?_) (a' := ?_) 3 26 (Sq.bl 19 15) (any_of HT_.out (by kernel_rfl)) rfl rfl (fun _ _ _ h => h) (by rfl) ?_ ?_ ?_; rotate_left; (· intro w'; go_simp; with_reducible rfl); rotate_left; (· simp only [Act.put,zp1,zp2,zp3,zp4,zp5]; rfl)
           refine Sq.pu (v := ?_) (a' := ?_) 4 27 (Sq.bl 19 31) (any_of HT_.out (by kernel_rfl)) rfl rfl (fun _ _ _ h => h) (by rfl) ?_ ?_ ?_; rotate_left; (· intro w'; go_simp; with_reducible rfl); rotate_left; (· simp only [Act.put,zp1,zp2,zp3,zp4,zp5]; rfl)
           refine Sq.pu (v := ?_) (a' := ?_) 6 29 (Sq.bl 19 95) (any_of HT_.out (by kernel_rfl)) rfl rfl (fun _ _ _ h => h) (by rfl) ?_ ?_ ?_; rotate_left; (· intro w'; go_simp; with_reducible rfl); rotate_left; (· simp only [Act.put,zp1,zp2,zp3,zp4,zp5]; rfl)
           refine Sq.pu (v := ?_) (a' := ?_) 7 30 (Sq.bl 19 223) (any_of HT_.out (by kernel_rfl)) rfl rfl (fun _ _ _ h => h) (by rfl) ?_ ?_ ?_; rotate_left; (· intro w'; go_simp; with_reducible rfl); rotate_left; (· simp only [Act.put,zp1,zp2,zp3,zp4,zp5]; rfl)
           refine Sq.pu (v := ?_) (a' := ?_) 8 31 (Sq.bl 19 479) (any_of HT_.out (by kernel_rfl)) rfl rfl (fun _ _ _ h => h) (by rfl) ?_ ?_ ?_; rotate_left; (· intro w'; go_simp; with_reducible rfl); rotate_left; (· simp only [Act.put,zp1,zp2,zp3,zp4,zp5]; rfl)
           refine Sq.pu (v := ?_) (a' := ?_) 9 32 (Sq.bl 19 991) (any_of HT_.out (by kernel_rfl)) rfl rfl (fun _ _ _ h => h) (by rfl) ?_ ?_ ?_; rotate_left; (· intro w'; go_simp; with_reducible rfl); rotate_left; (· simp only [Act.put,zp1,zp2,zp3,zp4,zp5]; rfl)
           refine Sq.pu (v := ?_) (a' := ?_) 11 34 (Sq.bl 19 3039) (any_of HT_.out (by kernel_rfl)) rfl rfl (fun _ _ _ h => h) (by rfl) ?_ ?_ ?_; rotate_left; (· intro w'; go_simp; with_reducible rfl); rotate_left; (· simp only [Act.put,zp1,zp2,zp3,zp4,zp5]; rfl)
           refine take_ (i := 5) (N := some 28) (v := ?_) (a' := ?_) (Sq.bl 19 3071) rfl rfl (take_ofW HT_.out HW_.out (by kernel_rfl)) (fun _ _ _ h => h) (Or.inl ⟨by rfl, ?_⟩) hHeld ?_ ?_
           rotate_left
           ·rintro w' ⟨s0, s1, s2, s3, s4, s5⟩
            go_simp
            with_reducible rfl
           rotate_left
           ·simp only [Act.put,zp1,zp2,zp3,zp4,zp5]
            rfl
           refine take_ (i := 10) (N := some 33) (v := ?_) (a' := ?_) (Sq.bl 19 4095) rfl rfl (take_ofW HT_.out HW_.out (by kernel_rfl)) (fun _ _ _ h => h) (Or.inl ⟨by rfl, ?_⟩) hHeld ?_ ?_
           rotate_left
           ·rintro w' ⟨s0, s1, s2, s3, s4, s5⟩
            go_simp
            with_reducible rfl
           rotate_left
           ·simp only [Act.put,zp1,zp2,zp3,zp4,zp5]
            rfl
           refine Sq.pu (v := ?_) (a' := ?_) 12 35 (Sq.bl 19 8191) (any_of HT_.out (by kernel_rfl)) rfl rfl (fun _ _ _ h => h) (by rfl) ?_ ?_ ?_; rotate_left; (· intro w'; go_simp; with_reducible rfl); rotate_left; (· simp only [Act.put,zp1,zp2,zp3,zp4,zp5]; rfl)
           refine take_ (i := 13) (N := some 36) (v := ?_) (a' := ?_) (Sq.bl 19 16383) rfl rfl (take_ofW HT_.out HW_.out (by kernel_rfl)) (fun _ _ _ h => h) (Or.inl ⟨by rfl, ?_⟩) hHeld ?_ ?_
           rotate_left
           ·rintro w' ⟨s0, s1, s2, s3, s4, s5⟩
            go_simp
            with_reducible rfl
           rotate_left
           ·simp only [Act.put,zp1,zp2,zp3,zp4,zp5]
            rfl
           refine one_ (i := 14) (N := some 37) (Sq.bl 19 32767) rfl rfl (one_of HT_.out (by kernel_rfl)) (by decide) (fun K hK => ?_)
           refine Kd.R_lit_step k66 _ 66 ?hg (N := 37) ?hd (xs := ([(⟨(rd_T66 ((rd_T47 l0 x4_1).f1) x5_2).f0, (rd_T66 ((rd_T47 l0 x4_1).f1) x5_2).f1⟩ : S66)] : List (S66))) (inner := [.string ((rd_T66 ((rd_T47 l0 x4_1).f1) x5_2).f0), .bool ((rd_T66 ((rd_T47 l0 x4_1).f1) x5_2).f1)]) (ok := fun _ => True) (okp := fun _ => True) ?hr ?hp (fun _ hk => hk) trivial (Below.refl _ _) (Nat.le_refl _) (by simp) ?_; (case hd => rfl); (case hg => rfl); (case hr => first | (go_simp; done) | (go_simp; rfl)); (case hp => exact (Reps.c2 (show Kd.M k66 _ _ _ (⟨(rd_T66 ((rd_T47 l0 x4_1).f1) x5_2).f0, (rd_T66 ((rd_T47 l0 x4_1).f1) x5_2).f1⟩ : S66) [.string ((rd_T66 ((rd_T47 l0 x4_1).f1) x5_2).f0), .bool ((rd_T66 ((rd_T47 l0 x4_1).f1) x5_2).f1)] from (k66_mkM _ _ _ (⟨(rd_T66 ((rd_T47 l0 x4_1).f1) x5_2).f0, (rd_T66 ((rd_T47 l0 x4_1).f1) x5_2).f1⟩ : S66) )) (Reps.none _ _)))
           intro v242 w11 ho12 hb hg_ hnew_
           clear hg_ hnew_
           (first | rw [← Ny241.out] at ho12 | (simp only [Int.reduceToNat] at ho12; rw [← Ny241.out] at ho12))
           have n0_ := Aside0.mk (Kd.S_elder' (by (with_reducible repeat (first | apply Kd.S_alloc | apply Kd.S_drewN | apply Kd.S_drew)); exact HO_3.out) (Kd.R_base ho12) hb)
           have n1_ := Aside0.mk (Kd.R_lower ho12 (below_size (by repeat (first | (with_reducible first | exact HB.out | apply below_alloc | apply pw_below_drewN | apply below_drew1) | exact HB.out))))
           have n2_ := Aside0.mk (below_step (by repeat (first | (with_reducible first | exact HB.out | apply below_alloc | apply pw_below_drewN | apply below_drew1) | exact HB.out)) hb)
           clear HO_3
           clear HB
           have HO_3 := n0_
           have HO243 := n1_
           have HB := n2_
           clear n0_ n1_ n2_
           clear hb ho12
           obtain ⟨Ao13, co13, eo13⟩ := Kd.R_slice HO243.out
           (first | subst eo13 | (injection eo13 with f1_ f2_ f3_; have f4_ := f1_.symm; have f5_ := f3_.symm; clear f1_ f2_ f3_; subst f4_; subst f5_))
           refine hK.out _ _ ⟨((HB.out.cell (World.block_lt_of_cell? w _ hw238_0)).trans hw238_0), ((HB.out.cell (World.block_lt_of_cell? w _ hw238_1)).trans hw238_1), ((HB.out.cell (World.block_lt_of_cell? w _ hw239_0)).trans hw239_0), ((HB.out.cell (World.block_lt_of_cell? w _ hw239_1)).trans hw239_1), ((HB.out.cell (World.block_lt_of_cell? w _ hw240_0)).trans hw240_0), ((HB.out.cell (World.block_lt_of_cell? w _ hw240_1)).trans hw240_1)⟩ (fun hHeld => ?_)
           clear hK K
           refine norm_ (a' := ?_) ?_ ?_
           rotate_left
           ·show Act.put _ (some 37) _ = _
            simp only [Act.put,zp1,zp2,zp3,zp4,zp5]
            rfl
           refine Sq.pu (v := ?_) (a' := ?_) 15 38 (Sq.bl 19 65535) (any_of HT_.out (by kernel_rfl)) rfl rfl (fun _ _ _ h => h) (by rfl) ?_ ?_ ?_; rotate_left; (· intro w'; go_simp; with_reducible rfl); rotate_left; (· simp only [Act.put,zp1,zp2,zp3,zp4,zp5]; rfl)
           refine one_ (i := 16) (N := some 39) (Sq.bl 19 131071) rfl rfl (one_of HT_.out (by kernel_rfl)) (by decide) (fun K hK => ?_)
           refine value_ (w1 := ?_) (v := ?_) (by rfl) rfl ?_ ?_
           rotate_left 2
           ·go_simp
            constructor
            ·rfl
            ·rfl
           refine hK.out _ _ ⟨(World.cell?_alloc_lt _ _ _ (World.block_lt_of_cell? _ _ (((HB.out.cell (World.block_lt_of_cell? w _ hw238_0)).trans hw238_0)))).trans (((HB.out.cell (World.block_lt_of_cell? w _ hw238_0)).trans hw238_0)), (World.cell?_alloc_lt _ _ _ (World.block_lt_of_cell? _ _ (((HB.out.cell (World.block_lt_of_cell? w _ hw238_1)).trans hw238_1)))).trans (((HB.out.cell (World.block_lt_of_cell? w _ hw238_1)).trans hw238_1)), (World.cell?_alloc_lt _ _ _ (World.block_lt_of_cell? _ _ (((HB.out.cell (World.block_lt_of_cell? w _ hw239_0)).trans hw239_0)))).trans (((HB.out.cell (World.block_lt_of_cell? w _ hw239_0)).trans hw239_0)), (World.cell?_alloc_lt _ _ _ (World.block_lt_of_cell? _ _ (((HB.out.cell (World.block_lt_of_cell? w _ hw239_1)).trans hw239_1)))).trans (((HB.out.cell (World.block_lt_of_cell? w _ hw239_1)).trans hw239_1)), (World.cell?_alloc_lt _ _ _ (World.block_lt_of_cell? _ _ (((HB.out.cell (World.block_lt_of_cell? w _ hw240_0)).trans hw240_0)))).trans (((HB.out.cell (World.block_lt_of_cell? w _ hw240_0)).trans hw240_0)), (World.cell?_alloc_lt _ _ _ (World.block_lt_of_cell? _ _ (((HB.out.cell (World.block_lt_of_cell? w _ hw240_1)).trans hw240_1)))).trans (((HB.out.cell (World.block_lt_of_cell? w _ hw240_1)).trans hw240_1))⟩ (fun hHeld => ?_)
           clear hK K
           refine norm_ (a' := ?_) ?_ ?_
           rotate_left
           ·show Act.put _ (some 39) _ = _
            simp only [Act.put,zp1,zp2,zp3,zp4,zp5]
            rfl
           refine one_ (i := 17) (N := some 40) (Sq.bl 19 262143) rfl rfl (one_of HT_.out (by kernel_rfl)) (by decide) (fun K hK => ?_)
           refine Kd.S_append_step k47 (w0 := w) w.heap.size (by rfl) (.tmp 23) (.tmp 39) 22 47 (.agg #[(.int .i64 0), (.slice none 0 0)]) 32 rfl Try.underlying22 info47 rfl (by decide) (by omega) u3 x3_2 (⟨(rd_T47 l0 x4_1).f0, y241⟩ : S47) [.int .i64 ((rd_T47 l0 x4_1).f0), .slice Ao13 y241.length co13] (fun _ => True) (fun k_ => some k_ = (.slice Ao13 y241.length co13 : Value).ownBlock) rfl rfl ?aP (fun k_ hk_ => ((Kd.R_mono (ok' := fun k_ => ((fun _ => True)) k_ ∧ some k_ ≠ (u3 : Value).ownBlock) (Kd.R_apart' (HO243.out) (Kd.S_typed HO_3.out) (by decide)) (fun k_ hk => ⟨trivial, hk.2⟩))).1 k_ hk_.symm) ?aF ?aO ?aB ?aS ?aL ?_
           (case aP => exact k47_mkM _ _ _ (⟨(rd_T47 l0 x4_1).f0, y241⟩ : S47) (Kd.R_mono (Kd.R_tight rfl (Kd.R_mono (ok' := fun k_ => ((fun _ => True)) k_ ∧ some k_ ≠ (u3 : Value).ownBlock) (Kd.R_apart' (HO243.out) (Kd.S_typed HO_3.out) (by decide)) (fun k_ hk => ⟨trivial, hk.2⟩))) (fun _ h_ => h_)))
           (case aB => exact (by repeat (first | (with_reducible first | exact HB.out | apply below_alloc | apply pw_below_drewN | apply below_drew1) | exact HB.out)))
           (case aF => exact (fun _ _ => trivial))
           (case aO => exact (by (with_reducible repeat (first | apply Kd.S_alloc | apply Kd.S_drewN | apply Kd.S_drew)); exact Kd.S_mono HO_3.out (fun k_ hk => ⟨trivial, fun e_ => hk.2 e_⟩)))
           (case aS => exact (below_size (by repeat (first | (with_reducible first | exact HB.out | apply below_alloc | apply pw_below_drewN | apply below_drew1) | exact HB.out))))
           (case aL => have := LMc9.out; omega)
           intro v245 w14 ho hb hg hat
           rw [← Ny244.out] at ho
           have n0_ := Aside0.mk (hb)
           have n1_ := Aside0.mk (ho)
           clear HB
           clear HO_3
           clear HO243
           have HB := n0_
           have HO246 := n1_
           clear n0_ n1_
           clear ho hb hg hat
           refine hK.out _ _ ⟨((HB.out.cell (World.block_lt_of_cell? w _ hw238_0)).trans hw238_0), ((HB.out.cell (World.block_lt_of_cell? w _ hw238_1)).trans hw238_1), ((HB.out.cell (World.block_lt_of_cell? w _ hw239_0)).trans hw239_0), ((HB.out.cell (World.block_lt_of_cell? w _ hw239_1)).trans hw239_1), ((HB.out.cell (World.block_lt_of_cell? w _ hw240_0)).trans hw240_0), ((HB.out.cell (World.block_lt_of_cell? w _ hw240_1)).trans hw240_1)⟩ (fun hHeld => ?_)
           clear hK K
           refine norm_ (a' := ?_) ?_ ?_
           rotate_left
           ·show Act.put _ (some 40) _ = _
            simp only [Act.put,zp1,zp2,zp3,zp4,zp5]
            rfl
           refine Sq.pu (v := ?_) (a' := ?_) 18 3 (Sq.bl 19 524287) (any_of HT_.out (by kernel_rfl)) rfl rfl (fun _ _ _ h => h) (by rfl) ?_ ?_ ?_; rotate_left; (· intro w'; go_simp; with_reducible rfl); rotate_left; (· simp only [Act.put,zp1,zp2,zp3,zp4,zp5]; rfl)
           refine done_ (done_of HT_.out (by kernel_rfl)) ?_
           try go_wp2
           go_roundg k2
           case measure => have := HK1.out; have := HK2.out; omega
           case rel => exact ⟨(y244), (wrap64 (x5_2 + 1)), (by first | rfl | (simp; done) | (simp [*]; done)), H', ⟨by have := HK1.out; have := HK2.out; omega⟩, ⟨by (with_reducible repeat (first | apply Kd.S_alloc | apply Kd.S_drewN | apply Kd.S_drew)); exact HO246.out⟩, ⟨by repeat (first | (with_reducible first | exact HB.out | apply below_alloc | apply pw_below_drewN | apply below_drew1) | exact HB.out)⟩⟩
          ·rw [if_neg c9] at H
           exact absurd H (by simp)
         ·rw [if_neg c8] at H
          exact absurd H (by simp)
        ·rw [if_neg c7] at H
         have c7b0 : decide (x5_2 < (((rd_T47 l0 x4_1).f1).length : Int)) = false := decide_eq_false c7
         clear c7
         have H' := Aside0.mk H
         clear H
         have p237 : 0 ≤ (x4_1 : Int) := of_decide_eq_true (by first | (with_reducible assumption) | assumption)
         have q237 : x4_1 < (l0.length : Int) := of_decide_eq_true (by first | (with_reducible assumption) | assumption)
         obtain ⟨ad237, A237_1, c237_1, e237, hx237_0, hx237_1, hl237_1, hi237_1⟩ := at_T47 HR0.out x4_1 p237 q237
         cases e237
         replace hx237_0 := (HB.out.cell (World.block_lt_of_cell? w _ hx237_0)).trans hx237_0
         replace hx237_1 := (HB.out.cell (World.block_lt_of_cell? w _ hx237_1)).trans hx237_1
         have HR237_1 := Aside0.mk hi237_1
         have HC237_1 := Aside0.mk hl237_1
         clear hi237_1 hl237_1
         replace p237 := eq_true p237
         replace q237 := eq_true q237
         go_wp2
         go_roundg k2
         case measure => have := HK1.out; have := HK2.out; omega
         case rel => exact ⟨(x3_2), (wrap64 (x4_1 + 1)), (by first | rfl | (simp; done) | (simp [*]; done)), H', ⟨by have := HK1.out; have := HK2.out; omega⟩, ⟨by (with_reducible repeat (first | apply Kd.S_alloc | apply Kd.S_drewN | apply Kd.S_drew)); exact HO_3.out⟩, ⟨by repeat (first | (with_reducible first | exact HB.out | apply below_alloc | apply pw_below_drewN | apply below_drew1) | exact HB.out)⟩⟩
       ·rw [if_neg c6] at H
        exact absurd H (by simp)
      ·rw [if_neg c5] at H
       exact absurd H (by simp)
   ·rw [if_neg c4] at H
    have c4b0 : decide (x4_1 < (l0.length : Int)) = false := decide_eq_false c4
    clear c4
    obtain rfl := Option.some.inj H
    go_wp2
    go_ret
    exact ⟨_, by first | rfl | (simp [errW_none, errW_some] <;> rfl) | (simp [*, errW_none, errW_some] <;> rfl), by (with_reducible repeat (first | apply Kd.S_alloc | apply Kd.S_drewN | apply Kd.S_drew)); exact HO_3.out, by repeat (first | (with_reducible first | exact HB.out | apply below_alloc | apply pw_below_drewN | apply below_drew1) | exact HB.out)⟩

end Go.Proofs.Ytfnbodjmmkjlcaa.H
end
section
namespace Go.Proofs.Ytfnbodjmmkjlcaa.H
open Go.RowKit Go.Proofs.YtfnbodjmmkjlcaaW.PrintWords Go.Proofs.YtfnbodjmmkjlcaaW.PrintLast Go.Proofs.YtfnbodjmmkjlcaaW.PrintMore
attribute [local go_sem] max2_int min2_int max_two min_two max_three min_three max_four min_four   -- for this text's walks alone
set_option linter.unusedVariables false
set_option linter.unusedSimpArgs false

mutual
def jalousieref01_Right.l0 : Nat → List (S66) → Int → Option (Bool)
 | 0, _, _ => none
 | k + 1, x0, x3 => if x3 < (x0.length : Int) then (jalousieref01_Right.l1 k x0 x3 0) else (some true)
def jalousieref01_Right.l1 : Nat → List (S66) → Int → Int → Option (Bool)
 | 0, _, _, _ => none
 | k + 1, x0, x3, x4 => if 0 ≤ x3 then (if x3 < (x0.length : Int) then (if x4 < (((rd_T66 x0 x3).f0).size : Int) then (if 0 ≤ x4 then (if (bt ((rd_T66 x0 x3).f0) x4) = 10 then (some false) else (jalousieref01_Right.l1 k x0 x3 (wrap64 (x4 + 1)))) else (none)) else (if (rd_T66 x0 x3).f1 = true then (if (wrap64 (x3 + 1)) < (x0.length : Int) then (some false) else (if (((rd_T66 x0 x3).f0).size : Int) = 0 then (some false) else (jalousieref01_Right.l0 k x0 (wrap64 (x3 + 1))))) else (jalousieref01_Right.l0 k x0 (wrap64 (x3 + 1))))) else (none)) else (none)
end
def jalousieref01_Right.f (k : Nat) (l0 : List (S66)) : Option (Bool) := jalousieref01_Right.l0 k l0 0
set_option maxHeartbeats 8000000 in
set_option maxRecDepth 100000 in
theorem jalousieref01_Right.calls (k : Nat) (A0 : Option Addr) (c0 : Nat) (l0 : List (S66)) (r : Bool) (w : World) (hr0 : Kd.C k66 w A0 l0.length l0) (hc0 : l0.length ≤ c0) (h : jalousieref01_Right.f k l0 = some r) :
  Calls Try.prog 37 #[.slice A0 l0.length c0] w fun e w' => e = .returned (.bool r) ∧ Drawn0 w w' := by
 have HR0 := Aside0.mk hr0
 have HC0 := Aside0.mk hc0
 clear hr0 hc0
 have H : (jalousieref01_Right.l0 k l0 0) = some r := h
 clear h
 have H' := Aside0.mk H
 clear H
 go_enter Try.func37, Try.ntmps37
 go_wp2
 go_loopg [3] k (fun kq v3 w' => ∃ (x3_1 : Int), v3 = .int .i64 x3_1 ∧ Aside0 (jalousieref01_Right.l0 kq l0 x3_1 = some r) ∧ Aside0 (kq ≤ k) ∧ Drawn0 w w')
 case atStart => exact ⟨(0), (by first | rfl | (simp; done) | (simp [*]; done)), H', ⟨Nat.le_refl _⟩, by repeat (first | exact Drawn0.refl _ | apply Drawn0.step)⟩
 case round =>
  clear H'
  obtain ⟨x3_1, rfl, HA, HK1, ⟨m1, rfl⟩⟩ := hrel
  cases gk with
  | zero => exact absurd HA.out (by simp [jalousieref01_Right.l0])
  | succ k1 =>
   have H := HA.out
   clear HA
   simp only [jalousieref01_Right.l0] at H
   by_cases c2 : x3_1 < (l0.length : Int)
   ·rw [if_pos c2] at H
    have c2b0 : decide (x3_1 < (l0.length : Int)) = true := decide_eq_true c2
    clear c2
    have H' := Aside0.mk H
    clear H
    go_wp2
    go_loopg [4] k1 (fun kq v4 w' => ∃ (x4_2 : Int), v4 = .int .i64 x4_2 ∧ Aside0 (jalousieref01_Right.l1 kq l0 x3_1 x4_2 = some r) ∧ Aside0 (kq ≤ k1) ∧ Drawn0 w w')
    case atStart => exact ⟨(0), (by first | rfl | (simp; done) | (simp [*]; done)), H', ⟨Nat.le_refl _⟩, by repeat (first | exact Drawn0.refl _ | apply Drawn0.step)⟩
    case round =>
     clear H'
     try clear c2
     try clear c2b0
     try clear p2
     obtain ⟨x4_2, rfl, HA, HK2, ⟨m2, rfl⟩⟩ := hrel
     cases gk with
     | zero => exact absurd HA.out (by simp [jalousieref01_Right.l1])
     | succ k2 =>
      have H := HA.out
      clear HA
      simp only [jalousieref01_Right.l1] at H
      by_cases c3 : 0 ≤ x3_1
      ·rw [if_pos c3] at H
       have c3b0 : decide (0 ≤ x3_1) = true := decide_eq_true c3
       clear c3
       by_cases c4 : x3_1 < (l0.length : Int)
       ·rw [if_pos c4] at H
        have c4b0 : decide (x3_1 < (l0.length : Int)) = true := decide_eq_true c4
        clear c4
        by_cases c5 : x4_2 < (((rd_T66 l0 x3_1).f0).size : Int)
        ·rw [if_pos c5] at H
         have c5b0 : decide (x4_2 < (((rd_T66 l0 x3_1).f0).size : Int)) = true := decide_eq_true c5
         clear c5
         by_cases c6 : 0 ≤ x4_2
         ·rw [if_pos c6] at H
          have c6b0 : decide (0 ≤ x4_2) = true := decide_eq_true c6
          clear c6
          by_cases c8 : (bt ((rd_T66 l0 x3_1).f0) x4_2) = 10
          ·rw [if_pos c8] at H
           have c8b0 : ((bt ((rd_T66 l0 x3_1).f0) x4_2) == 10) = true := beq_iff_eq.mpr c8
           have c8b1 : ((bt ((rd_T66 l0 x3_1).f0) x4_2) != 10) = false := bne_eq_false_iff_eq.mpr c8
           clear c8
           obtain rfl := Option.some.inj H
           have p392 : 0 ≤ (x3_1 : Int) := of_decide_eq_true (by first | (with_reducible assumption) | assumption)
           have q392 : x3_1 < (l0.length : Int) := of_decide_eq_true (by first | (with_reducible assumption) | assumption)
           obtain ⟨ad392, e392, hx392_0, hx392_1⟩ := at_T66 HR0.out x3_1 p392 q392
           cases e392
           replace p392 := eq_true p392
           replace q392 := eq_true q392
           have p393 : 0 ≤ (x3_1 : Int) := of_decide_eq_true (by first | (with_reducible assumption) | assumption)
           have q393 : x3_1 < (l0.length : Int) := of_decide_eq_true (by first | (with_reducible assumption) | assumption)
           obtain ⟨ad393, e393, hx393_0, hx393_1⟩ := at_T66 HR0.out x3_1 p393 q393
           obtain rfl : ad392 = ad393 := (by injection e393)
           replace p393 := eq_true p393
           replace q393 := eq_true q393
           have p7 : 0 ≤ (x4_2 : Int) := of_decide_eq_true (by first | (with_reducible assumption) | assumption)
           have q7 : x4_2 < (((rd_T66 l0 x3_1).f0).size : Int) := of_decide_eq_true (by first | (with_reducible assumption) | assumption)
           have hx7 := bt_at ((rd_T66 l0 x3_1).f0) x4_2
           replace p7 := eq_true p7
           replace q7 := eq_true q7
           go_wp2
           go_ret
           exact ⟨by first | rfl | (simp; done) | (simp [*]; done), by repeat (first | exact Drawn0.refl _ | apply Drawn0.step)⟩
          ·rw [if_neg c8] at H
           have c8b0 : ((bt ((rd_T66 l0 x3_1).f0) x4_2) == 10) = false := beq_eq_false_iff_ne.mpr c8
           have c8b1 : ((bt ((rd_T66 l0 x3_1).f0) x4_2) != 10) = true := bne_iff_ne.mpr c8
           have H' := Aside0.mk H
           clear H
           have p392 : 0 ≤ (x3_1 : Int) := of_decide_eq_true (by first | (with_reducible assumption) | assumption)
           have q392 : x3_1 < (l0.length : Int) := of_decide_eq_true (by first | (with_reducible assumption) | assumption)
           obtain ⟨ad392, e392, hx392_0, hx392_1⟩ := at_T66 HR0.out x3_1 p392 q392
           cases e392
           replace p392 := eq_true p392
           replace q392 := eq_true q392
           have p393 : 0 ≤ (x3_1 : Int) := of_decide_eq_true (by first | (with_reducible assumption) | assumption)
           have q393 : x3_1 < (l0.length : Int) := of_decide_eq_true (by first | (with_reducible assumption) | assumption)
           obtain ⟨ad393, e393, hx393_0, hx393_1⟩ := at_T66 HR0.out x3_1 p393 q393
           obtain rfl : ad392 = ad393 := (by injection e393)
           replace p393 := eq_true p393
           replace q393 := eq_true q393
           have p7 : 0 ≤ (x4_2 : Int) := of_decide_eq_true (by first | (with_reducible assumption) | assumption)
           have q7 : x4_2 < (((rd_T66 l0 x3_1).f0).size : Int) := of_decide_eq_true (by first | (with_reducible assumption) | assumption)
           have hx7 := bt_at ((rd_T66 l0 x3_1).f0) x4_2
           replace p7 := eq_true p7
           replace q7 := eq_true q7
           go_wp2
           go_roundg k2
           case measure => have := HK1.out; have := HK2.out; omega
           case rel => exact ⟨(wrap64 (x4_2 + 1)), (by first | rfl | (simp; done) | (simp [*]; done)), H', ⟨by have := HK1.out; have := HK2.out; omega⟩, by repeat (first | exact Drawn0.refl _ | apply Drawn0.step)⟩
         ·rw [if_neg c6] at H
          exact absurd H (by simp)
        ·rw [if_neg c5] at H
         have c5b0 : decide (x4_2 < (((rd_T66 l0 x3_1).f0).size : Int)) = false := decide_eq_false c5
         clear c5
         obtain ⟨bq9, hbq9⟩ : ∃ b_ : Bool, b_ = ((rd_T66 l0 x3_1).f1) := ⟨_, rfl⟩
         replace H : (if bq9 = true then (if (wrap64 (x3_1 + 1)) < (l0.length : Int) then (some false) else (if (((rd_T66 l0 x3_1).f0).size : Int) = 0 then (some false) else (jalousieref01_Right.l0 k2 l0 (wrap64 (x3_1 + 1))))) else (jalousieref01_Right.l0 k2 l0 (wrap64 (x3_1 + 1)))) = some r := by rw [← hbq9] at H; exact H
         have Nbq9 := Aside0.mk hbq9
         clear hbq9
         by_cases c10 : bq9 = true
         ·subst c10
          have H1 : (if (wrap64 (x3_1 + 1)) < (l0.length : Int) then (some false) else (if (((rd_T66 l0 x3_1).f0).size : Int) = 0 then (some false) else (jalousieref01_Right.l0 k2 l0 (wrap64 (x3_1 + 1))))) = some r := by rw [if_pos rfl] at H; exact H
          clear H
          have H := H1
          clear H1
          by_cases c11 : (wrap64 (x3_1 + 1)) < (l0.length : Int)
          ·rw [if_pos c11] at H
           have c11b0 : decide ((wrap64 (x3_1 + 1)) < (l0.length : Int)) = true := decide_eq_true c11
           clear c11
           obtain rfl := Option.some.inj H
           have p392 : 0 ≤ (x3_1 : Int) := of_decide_eq_true (by first | (with_reducible assumption) | assumption)
           have q392 : x3_1 < (l0.length : Int) := of_decide_eq_true (by first | (with_reducible assumption) | assumption)
           obtain ⟨ad392, e392, hx392_0, hx392_1⟩ := at_T66 HR0.out x3_1 p392 q392
           (try rw [← Nbq9.out] at hx392_1); (try rw [← Nbq9.out] at hw392_1)
           cases e392
           replace p392 := eq_true p392
           replace q392 := eq_true q392
           have p394 : 0 ≤ (x3_1 : Int) := of_decide_eq_true (by first | (with_reducible assumption) | assumption)
           have q394 : x3_1 < (l0.length : Int) := of_decide_eq_true (by first | (with_reducible assumption) | assumption)
           obtain ⟨ad394, e394, hx394_0, hx394_1⟩ := at_T66 HR0.out x3_1 p394 q394
           (try rw [← Nbq9.out] at hx394_1); (try rw [← Nbq9.out] at hw394_1)
           obtain rfl : ad392 = ad394 := (by injection e394)
           replace p394 := eq_true p394
           replace q394 := eq_true q394
           go_wp2
           go_ret
           exact ⟨by first | rfl | (simp; done) | (simp [*]; done), by repeat (first | exact Drawn0.refl _ | apply Drawn0.step)⟩
          ·rw [if_neg c11] at H
           have c11b0 : decide ((wrap64 (x3_1 + 1)) < (l0.length : Int)) = false := decide_eq_false c11
           clear c11
           by_cases c12 : (((rd_T66 l0 x3_1).f0).size : Int) = 0
           ·rw [if_pos c12] at H
            have c12b0 : ((((rd_T66 l0 x3_1).f0).size : Int) == 0) = true := beq_iff_eq.mpr c12
            have c12b1 : ((((rd_T66 l0 x3_1).f0).size : Int) != 0) = false := bne_eq_false_iff_eq.mpr c12
            clear c12
            obtain rfl := Option.some.inj H
            have p392 : 0 ≤ (x3_1 : Int) := of_decide_eq_true (by first | (with_reducible assumption) | assumption)
            have q392 : x3_1 < (l0.length : Int) := of_decide_eq_true (by first | (with_reducible assumption) | assumption)
            obtain ⟨ad392, e392, hx392_0, hx392_1⟩ := at_T66 HR0.out x3_1 p392 q392
            (try rw [← Nbq9.out] at hx392_1); (try rw [← Nbq9.out] at hw392_1)
            cases e392
            replace p392 := eq_true p392
            replace q392 := eq_true q392
            have p394 : 0 ≤ (x3_1 : Int) := of_decide_eq_true (by first | (with_reducible assumption) | assumption)
            have q394 : x3_1 < (l0.length : Int) := of_decide_eq_true (by first | (with_reducible assumption) | assumption)
            obtain ⟨ad394, e394, hx394_0, hx394_1⟩ := at_T66 HR0.out x3_1 p394 q394
            (try rw [← Nbq9.out] at hx394_1); (try rw [← Nbq9.out] at hw394_1)
            obtain rfl : ad392 = ad394 := (by injection e394)
            replace p394 := eq_true p394
            replace q394 := eq_true q394
            have p395 : 0 ≤ (x3_1 : Int) := of_decide_eq_true (by first | (with_reducible assumption) | assumption)
            have q395 : x3_1 < (l0.length : Int) := of_decide_eq_true (by first | (with_reducible assumption) | assumption)
            obtain ⟨ad395, e395, hx395_0, hx395_1⟩ := at_T66 HR0.out x3_1 p395 q395
            (try rw [← Nbq9.out] at hx395_1); (try rw [← Nbq9.out] at hw395_1)
            obtain rfl : ad392 = ad395 := (by injection e395)
            replace p395 := eq_true p395
            replace q395 := eq_true q395
            go_wp2
            go_ret
            exact ⟨by first | rfl | (simp; done) | (simp [*]; done), by repeat (first | exact Drawn0.refl _ | apply Drawn0.step)⟩
           ·rw [if_neg c12] at H
            have c12b0 : ((((rd_T66 l0 x3_1).f0).size : Int) == 0) = false := beq_eq_false_iff_ne.mpr c12
            have c12b1 : ((((rd_T66 l0 x3_1).f0).size : Int) != 0) = true := bne_iff_ne.mpr c12
            have H' := Aside0.mk H
            clear H
            have p392 : 0 ≤ (x3_1 : Int) := of_decide_eq_true (by first | (with_reducible assumption) | assumption)
            have q392 : x3_1 < (l0.length : Int) := of_decide_eq_true (by first | (with_reducible assumption) | assumption)
            obtain ⟨ad392, e392, hx392_0, hx392_1⟩ := at_T66 HR0.out x3_1 p392 q392
            (try rw [← Nbq9.out] at hx392_1); (try rw [← Nbq9.out] at hw392_1)
            cases e392
            replace p392 := eq_true p392
            replace q392 := eq_true q392
            have p394 : 0 ≤ (x3_1 : Int) := of_decide_eq_true (by first | (with_reducible assumption) | assumption)
            have q394 : x3_1 < (l0.length : Int) := of_decide_eq_true (by first | (with_reducible assumption) | assumption)
            obtain ⟨ad394, e394, hx394_0, hx394_1⟩ := at_T66 HR0.out x3_1 p394 q394
            (try rw [← Nbq9.out] at hx394_1); (try rw [← Nbq9.out] at hw394_1)
            obtain rfl : ad392 = ad394 := (by injection e394)
            replace p394 := eq_true p394
            replace q394 := eq_true q394
            have p395 : 0 ≤ (x3_1 : Int) := of_decide_eq_true (by first | (with_reducible assumption) | assumption)
            have q395 : x3_1 < (l0.length : Int) := of_decide_eq_true (by first | (with_reducible assumption) | assumption)
            obtain ⟨ad395, e395, hx395_0, hx395_1⟩ := at_T66 HR0.out x3_1 p395 q395
            (try rw [← Nbq9.out] at hx395_1); (try rw [← Nbq9.out] at hw395_1)
            obtain rfl : ad392 = ad395 := (by injection e395)
            replace p395 := eq_true p395
            replace q395 := eq_true q395
            go_wp2
            go_roundg k2
            case measure => have := HK1.out; have := HK2.out; omega
            case rel => exact ⟨(wrap64 (x3_1 + 1)), (by first | rfl | (simp; done) | (simp [*]; done)), H', ⟨by have := HK1.out; have := HK2.out; omega⟩, by repeat (first | exact Drawn0.refl _ | apply Drawn0.step)⟩
         ·replace c10 := Bool.eq_false_iff.mpr c10
          subst c10
          have H1 : (jalousieref01_Right.l0 k2 l0 (wrap64 (x3_1 + 1))) = some r := by rw [if_neg (show ¬ (false = true) by decide)] at H; exact H
          clear H
          have H := H1
          clear H1
          have H' := Aside0.mk H
          clear H
          have p392 : 0 ≤ (x3_1 : Int) := of_decide_eq_true (by first | (with_reducible assumption) | assumption)
          have q392 : x3_1 < (l0.length : Int) := of_decide_eq_true (by first | (with_reducible assumption) | assumption)
          obtain ⟨ad392, e392, hx392_0, hx392_1⟩ := at_T66 HR0.out x3_1 p392 q392
          (try rw [← Nbq9.out] at hx392_1); (try rw [← Nbq9.out] at hw392_1)
          cases e392
          replace p392 := eq_true p392
          replace q392 := eq_true q392
          have p394 : 0 ≤ (x3_1 : Int) := of_decide_eq_true (by first | (with_reducible assumption) | assumption)
          have q394 : x3_1 < (l0.length : Int) := of_decide_eq_true (by first | (with_reducible assumption) | assumption)
          obtain ⟨ad394, e394, hx394_0, hx394_1⟩ := at_T66 HR0.out x3_1 p394 q394
          (try rw [← Nbq9.out] at hx394_1); (try rw [← Nbq9.out] at hw394_1)
          obtain rfl : ad392 = ad394 := (by injection e394)
          replace p394 := eq_true p394
          replace q394 := eq_true q394
          go_wp2
          go_roundg k2
          case measure => have := HK1.out; have := HK2.out; omega
          case rel => exact ⟨(wrap64 (x3_1 + 1)), (by first | rfl | (simp; done) | (simp [*]; done)), H', ⟨by have := HK1.out; have := HK2.out; omega⟩, by repeat (first | exact Drawn0.refl _ | apply Drawn0.step)⟩
       ·rw [if_neg c4] at H
        exact absurd H (by simp)
      ·rw [if_neg c3] at H
       exact absurd H (by simp)
   ·rw [if_neg c2] at H
    have c2b0 : decide (x3_1 < (l0.length : Int)) = false := decide_eq_false c2
    clear c2
    obtain rfl := Option.some.inj H
    go_wp2
    go_ret
    exact ⟨by first | rfl | (simp; done) | (simp [*]; done), by repeat (first | exact Drawn0.refl _ | apply Drawn0.step)⟩

end Go.Proofs.Ytfnbodjmmkjlcaa.H
end
section
namespace Go.Proofs.Ytfnbodjmmkjlcaa.H
open Go.RowKit Go.Proofs.YtfnbodjmmkjlcaaW.PrintWords Go.Proofs.YtfnbodjmmkjlcaaW.PrintLast Go.Proofs.YtfnbodjmmkjlcaaW.PrintMore
attribute [local go_sem] max2_int min2_int max_two min_two max_three min_three max_four min_four   -- for this text's walks alone
set_option linter.unusedVariables false
set_option linter.unusedSimpArgs false

mutual
def jalousieref08_Check.l0 : Nat → List (S47) → Int → Int → Option (Int)
 | 0, _, _, _ => none
 | k + 1, x0, x3, x4 => if x4 < (x0.length : Int) then (if 0 ≤ x4 then (if (((rd_T47 x0 x4).f1).length : Int) > (wrap64 (800 - x3)) then (some 4) else (jalousieref08_Check.l0 k x0 (wrap64 (x3 + (((rd_T47 x0 x4).f1).length : Int))) (wrap64 (x4 + 1)))) else (none)) else (jalousieref08_Check.l1 k x0 0)
def jalousieref08_Check.l1 : Nat → List (S47) → Int → Option (Int)
 | 0, _, _ => none
 | k + 1, x0, x5 => if x5 < (x0.length : Int) then (if 0 ≤ x5 then (if ((rd_T47 x0 x5).f0) = 1 then (jalousieref08_Check.l1 k x0 (wrap64 (x5 + 1))) else (if ((rd_T47 x0 x5).f0) = 2 then (jalousieref08_Check.l1 k x0 (wrap64 (x5 + 1))) else (if ((rd_T47 x0 x5).f0) = 3 then (jalousieref08_Check.l1 k x0 (wrap64 (x5 + 1))) else (some 3)))) else (none)) else (some 0)
end
def jalousieref08_Check.f (k : Nat) (l0 : List (S47)) : Option (Int) := if (l0.length : Int) > 800 then (some 4) else (jalousieref08_Check.l0 k l0 0 0)
set_option maxHeartbeats 8000000 in
set_option maxRecDepth 100000 in
theorem jalousieref08_Check.calls (k : Nat) (A0 : Option Addr) (c0 : Nat) (l0 : List (S47)) (r : Int) (w : World) (hr0 : Kd.C k47 w A0 l0.length l0) (hc0 : l0.length ≤ c0) (h : jalousieref08_Check.f k l0 = some r) :
  Calls Try.prog 26 #[.slice A0 l0.length c0] w fun e w' => e = .returned (.int .i64 r) ∧ Drawn0 w w' := by
 have HR0 := Aside0.mk hr0
 have HC0 := Aside0.mk hc0
 clear hr0 hc0
 have H : (if (l0.length : Int) > 800 then (some 4) else (jalousieref08_Check.l0 k l0 0 0)) = some r := h
 clear h
 by_cases c2 : (l0.length : Int) > 800
 ·rw [if_pos c2] at H
  have c2b0 : decide (800 < (l0.length : Int)) = true := decide_eq_true c2
  have c2b1 : decide (800 < l0.length) = true := decide_eq_true (by omega)
  clear c2
  obtain rfl := Option.some.inj H
  go_enter Try.func26, Try.ntmps26
  go_wp2
  go_ret
  exact ⟨by first | rfl | (simp; done) | (simp [*]; done), by repeat (first | exact Drawn0.refl _ | apply Drawn0.step)⟩
 ·rw [if_neg c2] at H
  have c2b0 : decide (800 < (l0.length : Int)) = false := decide_eq_false c2
  have c2b1 : decide (800 < l0.length) = false := decide_eq_false (by omega)
  clear c2
  have H' := Aside0.mk H
  clear H
  go_enter Try.func26, Try.ntmps26
  go_wp2
  go_loopg [3, 4] k (fun kq v3 v4 w' => ∃ (x3_1 : Int) (x4_1 : Int), v3 = .int .i64 x3_1 ∧ v4 = .int .i64 x4_1 ∧ Aside0 (jalousieref08_Check.l0 kq l0 x3_1 x4_1 = some r) ∧ Aside0 (kq ≤ k) ∧ Drawn0 w w')
  case atStart => exact ⟨(0), (0), (by first | rfl | (simp; done) | (simp [*]; done)), (by first | rfl | (simp; done) | (simp [*]; done)), H', ⟨Nat.le_refl _⟩, by repeat (first | exact Drawn0.refl _ | apply Drawn0.step)⟩
  case round =>
   clear H'
   try clear c2
   try clear c2b0
   try clear c2b1
   try clear p2
   obtain ⟨x3_1, x4_1, rfl, rfl, HA, HK1, ⟨m1, rfl⟩⟩ := hrel
   cases gk with
   | zero => exact absurd HA.out (by simp [jalousieref08_Check.l0])
   | succ k1 =>
    have H := HA.out
    clear HA
    simp only [jalousieref08_Check.l0] at H
    by_cases c3 : x4_1 < (l0.length : Int)
    ·rw [if_pos c3] at H
     have c3b0 : decide (x4_1 < (l0.length : Int)) = true := decide_eq_true c3
     clear c3
     by_cases c4 : 0 ≤ x4_1
     ·rw [if_pos c4] at H
      have c4b0 : decide (0 ≤ x4_1) = true := decide_eq_true c4
      clear c4
      by_cases c5 : (((rd_T47 l0 x4_1).f1).length : Int) > (wrap64 (800 - x3_1))
      ·rw [if_pos c5] at H
       have c5b0 : decide ((wrap64 (800 - x3_1)) < (((rd_T47 l0 x4_1).f1).length : Int)) = true := decide_eq_true c5
       clear c5
       obtain rfl := Option.some.inj H
       have p229 : 0 ≤ (x4_1 : Int) := of_decide_eq_true (by first | (with_reducible assumption) | assumption)
       have q229 : x4_1 < (l0.length : Int) := of_decide_eq_true (by first | (with_reducible assumption) | assumption)
       obtain ⟨ad229, A229_1, c229_1, e229, hx229_0, hx229_1, hl229_1, hi229_1⟩ := at_T47 HR0.out x4_1 p229 q229
       cases e229
       have HR229_1 := Aside0.mk hi229_1
       have HC229_1 := Aside0.mk hl229_1
       clear hi229_1 hl229_1
       replace p229 := eq_true p229
       replace q229 := eq_true q229
       go_wp2
       go_ret
       exact ⟨by first | rfl | (simp; done) | (simp [*]; done), by repeat (first | exact Drawn0.refl _ | apply Drawn0.step)⟩
      ·rw [if_neg c5] at H
       have c5b0 : decide ((wrap64 (800 - x3_1)) < (((rd_T47 l0 x4_1).f1).length : Int)) = false := decide_eq_false c5
       clear c5
       have H' := Aside0.mk H
       clear H
       have p229 : 0 ≤ (x4_1 : Int) := of_decide_eq_true (by first | (with_reducible assumption) | assumption)
       have q229 : x4_1 < (l0.length : Int) := of_decide_eq_true (by first | (with_reducible assumption) | assumption)
       obtain ⟨ad229, A229_1, c229_1, e229, hx229_0, hx229_1, hl229_1, hi229_1⟩ := at_T47 HR0.out x4_1 p229 q229
       cases e229
       have HR229_1 := Aside0.mk hi229_1
       have HC229_1 := Aside0.mk hl229_1
       clear hi229_1 hl229_1
       replace p229 := eq_true p229
       replace q229 := eq_true q229
       have p230 : 0 ≤ (x4_1 : Int) := of_decide_eq_true (by first | (with_reducible assumption) | assumption)
       have q230 : x4_1 < (l0.length : Int) := of_decide_eq_true (by first | (with_reducible assumption) | assumption)
       obtain ⟨ad230, A230_1, c230_1, e230, hx230_0, hx230_1, hl230_1, hi230_1⟩ := at_T47 HR0.out x4_1 p230 q230
       obtain rfl : ad229 = ad230 := (by injection e230)
       have HR230_1 := Aside0.mk hi230_1
       have HC230_1 := Aside0.mk hl230_1
       clear hi230_1 hl230_1
       replace p230 := eq_true p230
       replace q230 := eq_true q230
       have ea_ := Option.some.inj (hx229_1.symm.trans hx230_1)
       injection ea_ with ea_ en_ ec_
       subst ea_
       subst ec_
       clear en_
       go_wp2
       go_roundg k1
       case measure => have := HK1.out; omega
       case rel => exact ⟨(wrap64 (x3_1 + (((rd_T47 l0 x4_1).f1).length : Int))), (wrap64 (x4_1 + 1)), (by first | rfl | (simp; done) | (simp [*]; done)), (by first | rfl | (simp; done) | (simp [*]; done)), H', ⟨by have := HK1.out; omega⟩, by repeat (first | exact Drawn0.refl _ | apply Drawn0.step)⟩
     ·rw [if_neg c4] at H
      exact absurd H (by simp)
    ·rw [if_neg c3] at H
     have c3b0 : decide (x4_1 < (l0.length : Int)) = false := decide_eq_false c3
     clear c3
     have H' := Aside0.mk H
     clear H
     go_wp2
     go_loopg [5] k1 (fun kq v5 w' => ∃ (x5_2 : Int), v5 = .int .i64 x5_2 ∧ Aside0 (jalousieref08_Check.l1 kq l0 x5_2 = some r) ∧ Aside0 (kq ≤ k1) ∧ Drawn0 w w')
     case atStart => exact ⟨(0), (by first | rfl | (simp; done) | (simp [*]; done)), H', ⟨Nat.le_refl _⟩, by repeat (first | exact Drawn0.refl _ | apply Drawn0.step)⟩
     case round =>
      clear H'
      try clear c2
      try clear c2b0
      try clear c2b1
      try clear p2
      try clear q2
      try clear hx2
      try clear c3
      try clear c3b0
      try clear c4
      try clear c4b0
      try clear c5
      try clear c5b0
      try clear hx229_0
      try clear hx229_1
      try clear hx230_0
      try clear hx230_1
      try clear p2
      try clear p229
      try clear p230
      try clear q229
      try clear q230
      obtain ⟨x5_2, rfl, HA, HK2, ⟨m2, rfl⟩⟩ := hrel
      cases gk with
      | zero => exact absurd HA.out (by simp [jalousieref08_Check.l1])
      | succ k2 =>
       have H := HA.out
       clear HA
       simp only [jalousieref08_Check.l1] at H
       by_cases c6 : x5_2 < (l0.length : Int)
       ·rw [if_pos c6] at H
        have c6b0 : decide (x5_2 < (l0.length : Int)) = true := decide_eq_true c6
        clear c6
        by_cases c7 : 0 ≤ x5_2
        ·rw [if_pos c7] at H
         have c7b0 : decide (0 ≤ x5_2) = true := decide_eq_true c7
         clear c7
         by_cases c8 : ((rd_T47 l0 x5_2).f0) = 1
         ·rw [if_pos c8] at H
          have c8b0 : (((rd_T47 l0 x5_2).f0) == 1) = true := beq_iff_eq.mpr c8
          have c8b1 : (((rd_T47 l0 x5_2).f0) != 1) = false := bne_eq_false_iff_eq.mpr c8
          clear c8
          have H' := Aside0.mk H
          clear H
          have p231 : 0 ≤ (x5_2 : Int) := of_decide_eq_true (by first | (with_reducible assumption) | assumption)
          have q231 : x5_2 < (l0.length : Int) := of_decide_eq_true (by first | (with_reducible assumption) | assumption)
          obtain ⟨ad231, A231_1, c231_1, e231, hx231_0, hx231_1, hl231_1, hi231_1⟩ := at_T47 HR0.out x5_2 p231 q231
          cases e231
          have HR231_1 := Aside0.mk hi231_1
          have HC231_1 := Aside0.mk hl231_1
          clear hi231_1 hl231_1
          replace p231 := eq_true p231
          replace q231 := eq_true q231
          go_wp2
          go_roundg k2
          case measure => have := HK1.out; have := HK2.out; omega
          case rel => exact ⟨(wrap64 (x5_2 + 1)), (by first | rfl | (simp; done) | (simp [*]; done)), H', ⟨by have := HK1.out; have := HK2.out; omega⟩, by repeat (first | exact Drawn0.refl _ | apply Drawn0.step)⟩
         ·rw [if_neg c8] at H
          have c8b0 : (((rd_T47 l0 x5_2).f0) == 1) = false := beq_eq_false_iff_ne.mpr c8
          have c8b1 : (((rd_T47 l0 x5_2).f0) != 1) = true := bne_iff_ne.mpr c8
          by_cases c9 : ((rd_T47 l0 x5_2).f0) = 2
          ·rw [if_pos c9] at H
           have c9b0 : (((rd_T47 l0 x5_2).f0) == 2) = true := beq_iff_eq.mpr c9
           have c9b1 : (((rd_T47 l0 x5_2).f0) != 2) = false := bne_eq_false_iff_eq.mpr c9
           clear c9
           have H' := Aside0.mk H
           clear H
           have p231 : 0 ≤ (x5_2 : Int) := of_decide_eq_true (by first | (with_reducible assumption) | assumption)
           have q231 : x5_2 < (l0.length : Int) := of_decide_eq_true (by first | (with_reducible assumption) | assumption)
           obtain ⟨ad231, A231_1, c231_1, e231, hx231_0, hx231_1, hl231_1, hi231_1⟩ := at_T47 HR0.out x5_2 p231 q231
           cases e231
           have HR231_1 := Aside0.mk hi231_1
           have HC231_1 := Aside0.mk hl231_1
           clear hi231_1 hl231_1
           replace p231 := eq_true p231
           replace q231 := eq_true q231
           have p232 : 0 ≤ (x5_2 : Int) := of_decide_eq_true (by first | (with_reducible assumption) | assumption)
           have q232 : x5_2 < (l0.length : Int) := of_decide_eq_true (by first | (with_reducible assumption) | assumption)
           obtain ⟨ad232, A232_1, c232_1, e232, hx232_0, hx232_1, hl232_1, hi232_1⟩ := at_T47 HR0.out x5_2 p232 q232
           obtain rfl : ad231 = ad232 := (by injection e232)
           have HR232_1 := Aside0.mk hi232_1
           have HC232_1 := Aside0.mk hl232_1
           clear hi232_1 hl232_1
           replace p232 := eq_true p232
           replace q232 := eq_true q232
           have ea_ := Option.some.inj (hx231_1.symm.trans hx232_1)
           injection ea_ with ea_ en_ ec_
           subst ea_
           subst ec_
           clear en_
           go_wp2
           go_roundg k2
           case measure => have := HK1.out; have := HK2.out; omega
           case rel => exact ⟨(wrap64 (x5_2 + 1)), (by first | rfl | (simp; done) | (simp [*]; done)), H', ⟨by have := HK1.out; have := HK2.out; omega⟩, by repeat (first | exact Drawn0.refl _ | apply Drawn0.step)⟩
          ·rw [if_neg c9] at H
           have c9b0 : (((rd_T47 l0 x5_2).f0) == 2) = false := beq_eq_false_iff_ne.mpr c9
           have c9b1 : (((rd_T47 l0 x5_2).f0) != 2) = true := bne_iff_ne.mpr c9
           by_cases c10 : ((rd_T47 l0 x5_2).f0) = 3
           ·rw [if_pos c10] at H
            have c10b0 : (((rd_T47 l0 x5_2).f0) == 3) = true := beq_iff_eq.mpr c10
            have c10b1 : (((rd_T47 l0 x5_2).f0) != 3) = false := bne_eq_false_iff_eq.mpr c10
            clear c10
            have H' := Aside0.mk H
            clear H
            have p231 : 0 ≤ (x5_2 : Int) := of_decide_eq_true (by first | (with_reducible assumption) | assumption)
            have q231 : x5_2 < (l0.length : Int) := of_decide_eq_true (by first | (with_reducible assumption) | assumption)
            obtain ⟨ad231, A231_1, c231_1, e231, hx231_0, hx231_1, hl231_1, hi231_1⟩ := at_T47 HR0.out x5_2 p231 q231
            cases e231
            have HR231_1 := Aside0.mk hi231_1
            have HC231_1 := Aside0.mk hl231_1
            clear hi231_1 hl231_1
            replace p231 := eq_true p231
            replace q231 := eq_true q231
            have p232 : 0 ≤ (x5_2 : Int) := of_decide_eq_true (by first | (with_reducible assumption) | assumption)
            have q232 : x5_2 < (l0.length : Int) := of_decide_eq_true (by first | (with_reducible assumption) | assumption)
            obtain ⟨ad232, A232_1, c232_1, e232, hx232_0, hx232_1, hl232_1, hi232_1⟩ := at_T47 HR0.out x5_2 p232 q232
            obtain rfl : ad231 = ad232 := (by injection e232)
            have HR232_1 := Aside0.mk hi232_1
            have HC232_1 := Aside0.mk hl232_1
            clear hi232_1 hl232_1
            replace p232 := eq_true p232
            replace q232 := eq_true q232
            have ea_ := Option.some.inj (hx231_1.symm.trans hx232_1)
            injection ea_ with ea_ en_ ec_
            subst ea_
            subst ec_
            clear en_
            have p233 : 0 ≤ (x5_2 : Int) := of_decide_eq_true (by first | (with_reducible assumption) | assumption)
            have q233 : x5_2 < (l0.length : Int) := of_decide_eq_true (by first | (with_reducible assumption) | assumption)
            obtain ⟨ad233, A233_1, c233_1, e233, hx233_0, hx233_1, hl233_1, hi233_1⟩ := at_T47 HR0.out x5_2 p233 q233
            obtain rfl : ad231 = ad233 := (by injection e233)
            have HR233_1 := Aside0.mk hi233_1
            have HC233_1 := Aside0.mk hl233_1
            clear hi233_1 hl233_1
            replace p233 := eq_true p233
            replace q233 := eq_true q233
            have ea_ := Option.some.inj (hx231_1.symm.trans hx233_1)
            injection ea_ with ea_ en_ ec_
            subst ea_
            subst ec_
            clear en_
            go_wp2
            go_roundg k2
            case measure => have := HK1.out; have := HK2.out; omega
            case rel => exact ⟨(wrap64 (x5_2 + 1)), (by first | rfl | (simp; done) | (simp [*]; done)), H', ⟨by have := HK1.out; have := HK2.out; omega⟩, by repeat (first | exact Drawn0.refl _ | apply Drawn0.step)⟩
           ·rw [if_neg c10] at H
            have c10b0 : (((rd_T47 l0 x5_2).f0) == 3) = false := beq_eq_false_iff_ne.mpr c10
            have c10b1 : (((rd_T47 l0 x5_2).f0) != 3) = true := bne_iff_ne.mpr c10
            obtain rfl := Option.some.inj H
            have p231 : 0 ≤ (x5_2 : Int) := of_decide_eq_true (by first | (with_reducible assumption) | assumption)
            have q231 : x5_2 < (l0.length : Int) := of_decide_eq_true (by first | (with_reducible assumption) | assumption)
            obtain ⟨ad231, A231_1, c231_1, e231, hx231_0, hx231_1, hl231_1, hi231_1⟩ := at_T47 HR0.out x5_2 p231 q231
            cases e231
            have HR231_1 := Aside0.mk hi231_1
            have HC231_1 := Aside0.mk hl231_1
            clear hi231_1 hl231_1
            replace p231 := eq_true p231
            replace q231 := eq_true q231
            have p232 : 0 ≤ (x5_2 : Int) := of_decide_eq_true (by first | (with_reducible assumption) | assumption)
            have q232 : x5_2 < (l0.length : Int) := of_decide_eq_true (by first | (with_reducible assumption) | assumption)
            obtain ⟨ad232, A232_1, c232_1, e232, hx232_0, hx232_1, hl232_1, hi232_1⟩ := at_T47 HR0.out x5_2 p232 q232
            obtain rfl : ad231 = ad232 := (by injection e232)
            have HR232_1 := Aside0.mk hi232_1
            have HC232_1 := Aside0.mk hl232_1
            clear hi232_1 hl232_1
            replace p232 := eq_true p232
            replace q232 := eq_true q232
            have ea_ := Option.some.inj (hx231_1.symm.trans hx232_1)
            injection ea_ with ea_ en_ ec_
            subst ea_
            subst ec_
            clear en_
            have p233 : 0 ≤ (x5_2 : Int) := of_decide_eq_true (by first | (with_reducible assumption) | assumption)
            have q233 : x5_2 < (l0.length : Int) := of_decide_eq_true (by first | (with_reducible assumption) | assumption)
            obtain ⟨ad233, A233_1, c233_1, e233, hx233_0, hx233_1, hl233_1, hi233_1⟩ := at_T47 HR0.out x5_2 p233 q233
            obtain rfl : ad231 = ad233 := (by injection e233)
            have HR233_1 := Aside0.mk hi233_1
            have HC233_1 := Aside0.mk hl233_1
            clear hi233_1 hl233_1
            replace p233 := eq_true p233
            replace q233 := eq_true q233
            have ea_ := Option.some.inj (hx231_1.symm.trans hx233_1)
            injection ea_ with ea_ en_ ec_
            subst ea_
            subst ec_
            clear en_
            go_wp2
            go_ret
            exact ⟨by first | rfl | (simp; done) | (simp [*]; done), by repeat (first | exact Drawn0.refl _ | apply Drawn0.step)⟩
        ·rw [if_neg c7] at H
         exact absurd H (by simp)
       ·rw [if_neg c6] at H
        have c6b0 : decide (x5_2 < (l0.length : Int)) = false := decide_eq_false c6
        clear c6
        obtain rfl := Option.some.inj H
        go_wp2
        go_ret
        exact ⟨by first | rfl | (simp; done) | (simp [*]; done), by repeat (first | exact Drawn0.refl _ | apply Drawn0.step)⟩

end Go.Proofs.Ytfnbodjmmkjlcaa.H
end
section
namespace Go.Proofs.Ytfnbodjmmkjlcaa.H
open Go.RowKit Go.Proofs.YtfnbodjmmkjlcaaW.PrintWords Go.Proofs.YtfnbodjmmkjlcaaW.PrintLast Go.Proofs.YtfnbodjmmkjlcaaW.PrintMore
attribute [local go_sem] max2_int min2_int max_two min_two max_three min_three max_four min_four   -- for this text's walks alone
set_option linter.unusedVariables false
set_option linter.unusedSimpArgs false

def jalousieref08_lay.p (s : List S47) (d : Int) (l : List S66) : List S47 := if l.length = 0 then s else s ++ [⟨d, l⟩]
set_option maxHeartbeats 4000000 in
set_option maxRecDepth 100000 in
theorem jalousieref08_lay.owned (B : Nat) (ok : Nat → Prop) (s : List S47) (d : Int) (l : List S66) (vs : Value) (A : Option Addr) (c : Nat) (w : World) (hs : Kd.S k47 47 w B ok vs s) (hfr : ∀ k, w.heap.size ≤ k → ok k)
  (hl : Kd.C k66 w A l.length l) (hc : l.length ≤ c) (h1 : s.length ≤ 1000000000) (h2 : l.length ≤ 1000000000) (hB : B ≤ w.heap.size) :
  Calls Try.prog 53 #[vs, .int .i64 d, .slice A l.length c] w fun e w' => ∃ v1 : Value, e = .returned v1 ∧ Kd.S k47 47 w' B ok v1 (jalousieref08_lay.p s d l) ∧ w.grownBy w' vs.ownBlock ∧ (v1.ownBlock = vs.ownBlock ∨ ∃ b, v1.ownBlock = some b ∧ w.heap.size ≤ b) ∧ Below B w w' := by
 obtain ⟨A1, c1, rfl⟩ := Kd.R_slice (Kd.S_R hs)
 have HS := Aside0.mk hs
 have HL := Aside0.mk hl
 have HC := Aside0.mk hc
 by_cases hl0 : l.length = 0
 ·have hl0' : (((l.length : Nat) : Int) == 0) = true := beq_iff_eq.mpr (by omega)
  have hr : jalousieref08_lay.p s d l = s := if_pos hl0
  rw [hr]
  clear hr hs hl hc
  go_enter Try.func53, Try.ntmps53
  go_wp2
  go_ret
  exact ⟨_, rfl, HS.out, grown_of_below (Below.refl _ _) _, .inl rfl, Below.refl _ _⟩
 ·have hl0' : (((l.length : Nat) : Int) == 0) = false := beq_eq_false_iff_ne.mpr (by omega)
  have hr : jalousieref08_lay.p s d l = s ++ [⟨d, l⟩] := if_neg hl0
  rw [hr]
  clear hr hs hl hc hl0
  go_enter Try.func53, Try.ntmps53
  go_wp2_with (first | ((with_reducible refine gate_dst (N := 13) rfl ?_); refine Kd.R_lit k66 w.heap.size 66 ?hg (N := 13) ?hd (xs := []) (inner := []) (ok := fun _ => True) (okp := fun _ => True) ?hr ?hp (fun _ hk => hk) trivial (Below.refl w.heap.size w) (Nat.le_refl _) (by simp) ?_; (case hd => rfl); (case hg => rfl); (case hr => first | (go_simp; done) | (go_simp; rfl)); (case hp => exact Reps.none _ _); intro v1 w1 ho hb hg_ hnew_; have HO := Aside0.mk ho; have HB1 := Aside0.mk hb; clear ho hb hg_ hnew_) | ((with_reducible refine gate_builtin (b := .append) (xs := #[.tmp 13, .tmp 14]) rfl ?_); at_builtin; refine Kd.R_append_rows k66 (w0 := w) w.heap.size rfl (.tmp 13) (.tmp 14) 37 66 (.agg #[(.string ⟨#[]⟩), (.bool false)]) 24 rfl Try.underlying37 info66 rfl (by decide) (by omega) v1 [] l _ _ _ (fun _ => True) (fun _ => False) rfl rfl HO.out (Kd.C_below HL.out HB1.out) (fun _ _ h => h) (fun _ h => h.elim) (fun _ _ => trivial) HB1.out HB1.out.size ?aL ?_; (case aL => simp only [List.length_nil]; omega); intro v2 w2 ho hb hg hat; obtain ⟨A2, c2, rfl⟩ := Kd.R_slice ho; have HO2 := Aside0.mk ho; have HB2 := Aside0.mk hb; clear ho hb hg hat) | ((with_reducible refine gate_builtin (b := .append) (xs := #[.tmp 11, .tmp 17]) rfl ?_); at_builtin; refine Kd.S_append k47 (w0 := w) B rfl (.tmp 11) (.tmp 17) 22 47 (.agg #[(.int .i64 0), (.slice none 0 0)]) 32 rfl Try.underlying22 info47 rfl (by decide) (by omega) (.slice A1 s.length c1) s (⟨d, l⟩ : S47) [.int .i64 d, .slice A2 l.length c2] ok (fun k => w.heap.size ≤ k ∧ k < w2.heap.size) rfl rfl ?aP ?aK ?aF ?aO ?aB ?aS ?aL ?_; (case aP => exact k47_mkM _ _ _ (⟨d, l⟩ : S47) (Kd.R_lower (Kd.R_mono (Kd.R_bound HO2.out) (fun k hk => ⟨hk.2.1, hk.2.2.1⟩)) hB)); (case aK => exact fun k hk => ⟨hfr k hk.1, fun e => by have := Kd.S_lt HS.out k e.symm; omega⟩); (case aF => exact fun k hk => hfr k (Nat.le_trans HB2.out.size hk)); (case aO => exact Kd.S_mono (Kd.S_below (Kd.S_bound HS.out) HB2.out) (fun k hk => ⟨hk.1, fun h => by have := hk.2.2.1; omega⟩)); (case aB => exact HB2.out.mono hB); (case aS => exact Nat.le_trans hB HB2.out.size); (case aL => omega); intro v4 w4 ho hb hg hat))
  go_ret
  refine ⟨_, rfl, ho, ?_, ?_, hb⟩
  ·exact World.grownBy.trans (grown_of_below HB2.out _) hg
  ·rcases hat with h | ⟨b, h, h'⟩
   ·exact .inl h
   ·exact .inr ⟨b, h, Nat.le_trans HB2.out.size h'⟩


end Go.Proofs.Ytfnbodjmmkjlcaa.H
end
section
namespace Go.Proofs.Ytfnbodjmmkjlcaa.H
open Go.RowKit Go.Proofs.YtfnbodjmmkjlcaaW.PrintWords Go.Proofs.YtfnbodjmmkjlcaaW.PrintLast Go.Proofs.YtfnbodjmmkjlcaaW.PrintMore
attribute [local go_sem] max2_int min2_int max_two min_two max_three min_three max_four min_four   -- for this text's walks alone
set_option linter.unusedVariables false
set_option linter.unusedSimpArgs false

structure jalousieref08_Normal.Q where
 out : List S47
 keep : List S66
 gone : List S66
 made : List S66
def jalousieref08_Normal.fin (q : jalousieref08_Normal.Q) : List S47 := jalousieref08_lay.p (jalousieref08_lay.p (jalousieref08_lay.p q.out 1 q.keep) 2 q.gone) 3 q.made
def jalousieref08_Normal.pre (q : jalousieref08_Normal.Q) (x : S47) : jalousieref08_Normal.Q :=
 if x.f0 = 1 ∧ 0 < x.f1.length ∧ 0 < q.gone.length + q.made.length then ⟨jalousieref08_Normal.fin q, [], [], []⟩ else q
def jalousieref08_Normal.add (q : jalousieref08_Normal.Q) (x : S47) : jalousieref08_Normal.Q :=
 if x.f0 = 1 then ⟨q.out, q.keep ++ x.f1, q.gone, q.made⟩ else if x.f0 = 2 then ⟨q.out, q.keep, q.gone ++ x.f1, q.made⟩ else if x.f0 = 3 then ⟨q.out, q.keep, q.gone, q.made ++ x.f1⟩ else q
def jalousieref08_Normal.all (l : List S47) : jalousieref08_Normal.Q := l.foldl (fun q x => jalousieref08_Normal.add (jalousieref08_Normal.pre q x) x) ⟨[], [], [], []⟩
def jalousieref08_Normal.f (k : Nat) (l0 : List S47) : Option (List S47 × Int) :=
 (jalousieref08_Check.f k l0).bind fun e => if e = 0 then (if l0.length ≤ 1000000 ∧ (l0.map (fun e => e.f1.length)).sum ≤ 1000000 then some (jalousieref08_Normal.fin (jalousieref08_Normal.all l0), 0) else none) else some ([], e)
theorem jalousieref08_Normal.fin_len (q : jalousieref08_Normal.Q) : (jalousieref08_Normal.fin q).length ≤ q.out.length + 3 := by
 unfold jalousieref08_Normal.fin jalousieref08_lay.p
 repeat' split
 all_goals simp <;> omega
theorem jalousieref08_Normal.all_len (l : List S47) : ∀ n : Nat, (jalousieref08_Normal.all (l.take n)).out.length ≤ 3 * n ∧ (jalousieref08_Normal.all (l.take n)).keep.length + (jalousieref08_Normal.all (l.take n)).gone.length + (jalousieref08_Normal.all (l.take n)).made.length ≤ ((l.take n).map (fun e => e.f1.length)).sum
 | 0 => by simp [jalousieref08_Normal.all]
 | n + 1 => by
  have ih := jalousieref08_Normal.all_len l n
  rcases Nat.lt_or_ge n l.length with h | h
  ·rw [List.take_succ_eq_append_getElem h]
   have e : jalousieref08_Normal.all (l.take n ++ [l[n]]) = jalousieref08_Normal.add (jalousieref08_Normal.pre (jalousieref08_Normal.all (l.take n)) l[n]) l[n] := by
    rw [jalousieref08_Normal.all, List.foldl_append]
    rfl
   rw [e, List.map_append, List.sum_append]
   generalize jalousieref08_Normal.all (l.take n) = q at ih ⊢
   generalize l[n] = x
   have hf := jalousieref08_Normal.fin_len q
   have hp : (jalousieref08_Normal.pre q x).out.length ≤ 3 * n + 3 ∧ (jalousieref08_Normal.pre q x).keep.length + (jalousieref08_Normal.pre q x).gone.length + (jalousieref08_Normal.pre q x).made.length ≤ ((l.take n).map (fun e => e.f1.length)).sum := by
    unfold jalousieref08_Normal.pre
    split
    ·exact ⟨by simp only; omega, by simp⟩
    ·exact ⟨by omega, ih.2⟩
   generalize jalousieref08_Normal.pre q x = p at hp ⊢
   unfold jalousieref08_Normal.add
   simp only [List.map_cons, List.map_nil, List.sum_cons, List.sum_nil]
   repeat' split
   all_goals first | (simp only [List.length_append]; omega) | omega
  ·rw [List.take_of_length_le (by omega)]
   rw [List.take_of_length_le h] at ih
   omega
def jalousieref08_Normal.N4 (B : Nat) (W : World) (vo vk vg vm : Value) (q : jalousieref08_Normal.Q) : Prop :=
 Kd.S k47 47 W B (fun k => (some k ≠ vk.ownBlock ∧ some k ≠ vg.ownBlock) ∧ some k ≠ vm.ownBlock) vo q.out ∧ Kd.R k66 66 W B (fun k => some k ≠ vg.ownBlock ∧ some k ≠ vm.ownBlock) vk q.keep ∧
 Kd.R k66 66 W B (fun k => some k ≠ vk.ownBlock ∧ some k ≠ vm.ownBlock) vg q.gone ∧ Kd.R k66 66 W B (fun k => some k ≠ vk.ownBlock ∧ some k ≠ vg.ownBlock) vm q.made
section
variable {B : Nat} {W W1 : World} {vo vk vg vm v1 : Value} {q : jalousieref08_Normal.Q} {ys : List S66} {out : List S47}
theorem jalousieref08_Normal.N4.putk (h : jalousieref08_Normal.N4 B W vo vk vg vm q) (hr : Kd.R k66 66 W1 B (fun k => some k ≠ vg.ownBlock ∧ some k ≠ vm.ownBlock) v1 ys) (hg : W.grownBy W1 vk.ownBlock) (hat : v1.ownBlock = vk.ownBlock ∨ ∃ b, v1.ownBlock = some b ∧ W.heap.size ≤ b) :
  jalousieref08_Normal.N4 B W1 vo v1 vg vm ⟨q.out, ys, q.gone, q.made⟩ :=
 ⟨Kd.S_mono (Kd.S_after (ok := fun k => some k ≠ vg.ownBlock ∧ some k ≠ vm.ownBlock) (Kd.S_mono h.1 (fun _ hk => ⟨⟨hk.1.2, hk.2⟩, hk.1.1⟩)) hg hat) (fun _ hk => ⟨⟨hk.2, hk.1.1⟩, hk.1.2⟩), hr,
  Kd.R_mono (Kd.R_after (ok := fun k => some k ≠ vm.ownBlock) (Kd.R_mono h.2.2.1 (fun _ hk => ⟨hk.2, hk.1⟩)) hg hat) (fun _ hk => ⟨hk.2, hk.1⟩),
  Kd.R_mono (Kd.R_after (ok := fun k => some k ≠ vg.ownBlock) (Kd.R_mono h.2.2.2 (fun _ hk => ⟨hk.2, hk.1⟩)) hg hat) (fun _ hk => ⟨hk.2, hk.1⟩)⟩
theorem jalousieref08_Normal.N4.putg (h : jalousieref08_Normal.N4 B W vo vk vg vm q) (hr : Kd.R k66 66 W1 B (fun k => some k ≠ vk.ownBlock ∧ some k ≠ vm.ownBlock) v1 ys) (hg : W.grownBy W1 vg.ownBlock) (hat : v1.ownBlock = vg.ownBlock ∨ ∃ b, v1.ownBlock = some b ∧ W.heap.size ≤ b) :
  jalousieref08_Normal.N4 B W1 vo vk v1 vm ⟨q.out, q.keep, ys, q.made⟩ :=
 ⟨Kd.S_mono (Kd.S_after (ok := fun k => some k ≠ vk.ownBlock ∧ some k ≠ vm.ownBlock) (Kd.S_mono h.1 (fun _ hk => ⟨⟨hk.1.1, hk.2⟩, hk.1.2⟩)) hg hat) (fun _ hk => ⟨⟨hk.1.1, hk.2⟩, hk.1.2⟩),
  Kd.R_mono (Kd.R_after (ok := fun k => some k ≠ vm.ownBlock) (Kd.R_mono h.2.1 (fun _ hk => ⟨hk.2, hk.1⟩)) hg hat) (fun _ hk => ⟨hk.2, hk.1⟩), hr,
  Kd.R_mono (Kd.R_after (ok := fun k => some k ≠ vk.ownBlock) (Kd.R_mono h.2.2.2 (fun _ hk => ⟨hk.1, hk.2⟩)) hg hat) (fun _ hk => ⟨hk.1, hk.2⟩)⟩
theorem jalousieref08_Normal.N4.putm (h : jalousieref08_Normal.N4 B W vo vk vg vm q) (hr : Kd.R k66 66 W1 B (fun k => some k ≠ vk.ownBlock ∧ some k ≠ vg.ownBlock) v1 ys) (hg : W.grownBy W1 vm.ownBlock) (hat : v1.ownBlock = vm.ownBlock ∨ ∃ b, v1.ownBlock = some b ∧ W.heap.size ≤ b) :
  jalousieref08_Normal.N4 B W1 vo vk vg v1 ⟨q.out, q.keep, q.gone, ys⟩ :=
 ⟨Kd.S_after (ok := fun k => some k ≠ vk.ownBlock ∧ some k ≠ vg.ownBlock) h.1 hg hat,
  Kd.R_after (ok := fun k => some k ≠ vg.ownBlock) h.2.1 hg hat, Kd.R_after (ok := fun k => some k ≠ vk.ownBlock) h.2.2.1 hg hat, hr⟩
theorem jalousieref08_Normal.N4.puto (h : jalousieref08_Normal.N4 B W vo vk vg vm q) (hr : Kd.S k47 47 W1 B (fun k => (some k ≠ vk.ownBlock ∧ some k ≠ vg.ownBlock) ∧ some k ≠ vm.ownBlock) v1 out) (hg : W.grownBy W1 vo.ownBlock) :
  jalousieref08_Normal.N4 B W1 v1 vk vg vm ⟨out, q.keep, q.gone, q.made⟩ :=
 ⟨hr, Kd.R_over' h.2.1 (Kd.S_typed h.1) (by decide) hg, Kd.R_over' h.2.2.1 (Kd.S_typed h.1) (by decide) hg, Kd.R_over' h.2.2.2 (Kd.S_typed h.1) (by decide) hg⟩
theorem jalousieref08_Normal.N4.fresh (h : jalousieref08_Normal.N4 B W vo vk vg vm q) : ∀ k, W.heap.size ≤ k → (some k ≠ vk.ownBlock ∧ some k ≠ vg.ownBlock) ∧ some k ≠ vm.ownBlock := fun k hk =>
 ⟨⟨fun e => by have := Kd.R_lt h.2.1 k e.symm; omega, fun e => by have := Kd.R_lt h.2.2.1 k e.symm; omega⟩, fun e => by have := Kd.R_lt h.2.2.2 k e.symm; omega⟩
theorem jalousieref08_Normal.N4.clear (h : jalousieref08_Normal.N4 B W vo vk vg vm q) : jalousieref08_Normal.N4 B W vo (.slice none 0 0) (.slice none 0 0) (.slice none 0 0) ⟨q.out, [], [], []⟩ :=
 ⟨Kd.S_mono h.1 (fun _ _ => by simp [Value.ownBlock]), Kd.R_nil _ _ _ _ _, Kd.R_nil _ _ _ _ _, Kd.R_nil _ _ _ _ _⟩
end
theorem jalousieref08_Normal.empty {α : Type} (d : Kd α) (W : World) (B g e : Nat) (ok : Nat → Prop) (h : W.heap[g]? = some (.cells #[] e (0, 0))) (hB : B ≤ g) (hok : ok g) (hs : 0 < d.sz) : d.R e W B ok (.slice (some ⟨g, 0, none⟩) 0 0) [] := by
 refine ⟨fun k hk => ?_, [], ⟨by simp, .inr ⟨g, 0, #[], rfl, hB, h, Nat.le_refl _, by omega, by simp, by simp⟩⟩, Reps.none _ _⟩
 have : g = k := by simpa [Value.ownBlock] using hk
 exact this ▸ hok
theorem jalousieref08_Normal.lay_len (s : List S47) (d : Int) (l : List S66) : (jalousieref08_lay.p s d l).length ≤ s.length + 1 := by
 unfold jalousieref08_lay.p
 split <;> simp
theorem jalousieref08_Normal.four (w1 : World) (a b c d : Obj) : ((((w1.alloc a).alloc b).alloc c).alloc d).heap[w1.heap.size]? = some a ∧ ((((w1.alloc a).alloc b).alloc c).alloc d).heap[w1.heap.size + 1]? = some b ∧ ((((w1.alloc a).alloc b).alloc c).alloc d).heap[w1.heap.size + 1 + 1]? = some c ∧ ((((w1.alloc a).alloc b).alloc c).alloc d).heap[w1.heap.size + 1 + 1 + 1]? = some d := by
 have h0 := World.alloc_heap_new w1 a
 have h1 := World.alloc_heap_new (w1.alloc a) b
 have h2 := World.alloc_heap_new ((w1.alloc a).alloc b) c
 have h3 := World.alloc_heap_new (((w1.alloc a).alloc b).alloc c) d
 simp only [World.size_alloc] at h1 h2 h3
 exact ⟨blk_alloc (blk_alloc (blk_alloc h0 _) _) _, blk_alloc (blk_alloc h1 _) _, blk_alloc h2 _, h3⟩
set_option maxHeartbeats 4000000 in
set_option maxRecDepth 100000 in
theorem jalousieref08_Normal.calls (k : Nat) (A0 : Option Addr) (c0 : Nat) (l0 : List S47) (r1 : List S47) (r2 : Int) (w : World) (hr0 : Kd.C k47 w A0 l0.length l0) (hc0 : l0.length ≤ c0) (h : jalousieref08_Normal.f k l0 = some (r1, r2)) :
  Calls Try.prog 23 #[.slice A0 l0.length c0] w fun e w' => ∃ v0_ : Value, e = .returned (.tuple #[v0_, .int .i64 r2]) ∧ Kd.S k47 47 w' w.heap.size (fun _ => True) v0_ r1 ∧ Below w.heap.size w w' := by
 unfold jalousieref08_Normal.f at h
 obtain ⟨e0, hE, h⟩ := Option.bind_eq_some_iff.1 h
 have HE := Aside0.mk (jalousieref08_Check.calls k A0 c0 l0 e0 w hr0 hc0 hE)
 have HC0 := Aside0.mk hr0
 have Hc0 := Aside0.mk hc0
 clear hE hr0 hc0
 by_cases he0 : e0 = 0
 ·subst he0
  rw [if_pos rfl] at h
  split at h
  case isFalse => cases h
  rename_i hsz
  obtain ⟨hs1, hs2⟩ := hsz
  have hr := Option.some.inj h
  simp only [Prod.mk.injEq] at hr
  obtain ⟨hr1, rfl⟩ := hr
  have HR1 := Aside0.mk hr1
  clear h hr1
  go_enter Try.func23, Try.ntmps23
  go_wp2_with (go_at_call 26; refine HE.out.mono ?_; rintro e w1 ⟨rfl, hD⟩; have HB := Aside0.mk hD.below; clear hD)
  go_loopw [5, 6, 7, 8, 9] (fun vo vk vg vm vi wr => ∃ n : Nat, n ≤ l0.length ∧ vi = .int .i64 (n : Int) ∧ jalousieref08_Normal.N4 w.heap.size wr vo vk vg vm (jalousieref08_Normal.all (l0.take n)) ∧ Below w.heap.size w wr)
   (fun _ _ _ _ vi _ => l0.length - (intOf vi).toNat)
  case atStart =>
   have hs := HB.out.size
   obtain ⟨q0, q1, q2, q3⟩ := jalousieref08_Normal.four w1 (.cells #[] 47) (.cells #[] 66) (.cells #[] 66) (.cells #[] 66)
   refine ⟨0, Nat.zero_le _, rfl, ⟨⟨fun _ => 0, jalousieref08_Normal.empty _ _ _ _ _ _ q0 hs ?_ (by decide)⟩, jalousieref08_Normal.empty _ _ _ _ _ _ q1 (by omega) ?_ (by decide), jalousieref08_Normal.empty _ _ _ _ _ _ q2 (by omega) ?_ (by decide), jalousieref08_Normal.empty _ _ _ _ _ _ q3 (by omega) ?_ (by decide)⟩, ?_⟩
   case refine_5 => exact (((HB.out.alloc hs _).alloc (by rw [World.size_alloc]; omega) _).alloc (by simp only [World.size_alloc]; omega) _).alloc (by simp only [World.size_alloc]; omega) _
   all_goals simp only [Value.ownBlock, ne_eq, Option.some.injEq]; omega
  case round =>
   obtain ⟨n, hn, rfl, hN, hBr⟩ := hrel
   by_cases hlt : n < l0.length
   ·have hx : rd_T47 l0 (n : Int) = l0[n] := by
     simp [rd_T47, hlt]
    have hlt' : decide ((n : Int) < (l0.length : Int)) = true := decide_eq_true (by omega)
    have hlt2 : ((n : Int) < (l0.length : Int)) = True := eq_true (by omega)
    have hlen := jalousieref08_Normal.all_len l0 n
    have hlen2 := jalousieref08_Normal.all_len l0 (n + 1)
    have hsum : ((l0.take n).map (fun e => e.f1.length)).sum + (rd_T47 l0 (n : Int)).f1.length ≤ 1000000 := by
     have e1 := congrArg (fun l => (l.map (fun e : S47 => e.f1.length)).sum) (List.take_append_drop n l0)
     simp only [List.map_append, List.sum_append] at e1
     rw [List.drop_eq_getElem_cons hlt, List.map_cons, List.sum_cons, ← hx] at e1
     omega
    have hall : jalousieref08_Normal.all (l0.take (n + 1)) = jalousieref08_Normal.add (jalousieref08_Normal.pre (jalousieref08_Normal.all (l0.take n)) (rd_T47 l0 (n : Int))) (rd_T47 l0 (n : Int)) := by
     rw [List.take_succ_eq_append_getElem hlt, jalousieref08_Normal.all, List.foldl_append, hx]
     rfl
    obtain ⟨ad, A1, c1, e, hx0, hx1, hl5, hC1⟩ := at_T47 HC0.out (n : Int) (by omega) (by omega)
    cases e
    simp only [Int.toNat_natCast] at hx0 hx1
    have HX0w := Aside0.mk hx0
    have HX1w := Aside0.mk hx1
    replace hx0 := (hBr.cell (World.block_lt_of_cell? w _ hx0)).trans hx0
    replace hx1 := (hBr.cell (World.block_lt_of_cell? w _ hx1)).trans hx1
    have hsl : l0.length ≤ 9223372036854775807 := HC0.out.2.1
    have HWn : Aside0 (wrap64 ((n : Int) + 1) = ((n + 1 : Nat) : Int)) := ⟨by unfold wrap64; omega⟩
    have HC1 := Aside0.mk hC1
    generalize hqq : jalousieref08_Normal.all (l0.take n) = q at hN hlen hall
    obtain ⟨out, keep, gone, made⟩ := q
    obtain ⟨Ak, ck, rfl⟩ := Kd.R_slice hN.2.1
    obtain ⟨Ag, cg, rfl⟩ := Kd.R_slice hN.2.2.1
    obtain ⟨Am, cm, rfl⟩ := Kd.R_slice hN.2.2.2
    obtain ⟨Ao, co, rfl⟩ := Kd.R_slice (Kd.S_R hN.1)
    simp only at hlen
    have Hall := Aside0.mk hall
    have HN := Aside0.mk hN
    have HB := Aside0.mk hBr
    have Hqq := Aside0.mk hqq
    clear hx hall hN hBr hC1 hl5 hqq
    have hg64 : wrap64 ((gone.length : Int) + (made.length : Int)) = ((gone.length + made.length : Nat) : Int) := by unfold wrap64; omega
    have Hg64 := Aside0.mk hg64
    clear hg64
    by_cases h1 : (rd_T47 l0 (n : Int)).f0 = 1
    ·have h1' : ((rd_T47 l0 (n : Int)).f0 == 1) = true := beq_iff_eq.mpr h1
     by_cases hl : 0 < (rd_T47 l0 (n : Int)).f1.length
     ·have hl' : decide (0 < (rd_T47 l0 (n : Int)).f1.length) = true := decide_eq_true hl
      by_cases hgm : 0 < gone.length + made.length
      ·have hgm' : decide (0 < gone.length + made.length) = true := decide_eq_true hgm
       have hgm2 : (0 < (gone.length : Int) + (made.length : Int)) = True := eq_true (by omega)
       have HA : Aside0 (jalousieref08_Normal.all (l0.take (n + 1)) = ⟨jalousieref08_Normal.fin ⟨out, keep, gone, made⟩, [] ++ (rd_T47 l0 (n : Int)).f1, [], []⟩) := ⟨by
        rw [Hall.out]
        unfold jalousieref08_Normal.pre
        rw [if_pos ⟨h1, hl, hgm⟩]
        unfold jalousieref08_Normal.add
        rw [if_pos h1]⟩
       clear h1 hl hgm
       go_wp2_with (first | (go_at_call 53; have hcl := jalousieref08_lay.owned w.heap.size _ out 1 keep (.slice Ao out.length co) _ _ wr HN.out.1 HN.out.fresh (Kd.R_reads' HN.out.2.1).2.2 (Kd.R_reads' HN.out.2.1).2.1 (by omega) (by omega) HB.out.size; with_reducible refine hcl.mono ?_; clear hcl; rintro e wa ⟨va, rfl, hsa, hga, _, hba⟩; obtain ⟨Aa, ca, rfl⟩ := Kd.R_slice (Kd.S_R hsa); have HNa := Aside0.mk (HN.out.puto hsa hga); have HBa := Aside0.mk (HB.out.trans (hba)); clear hsa hga hba) | (go_at_call 53; have hcl := jalousieref08_lay.owned w.heap.size _ (jalousieref08_lay.p out 1 keep) 2 gone (.slice Aa (jalousieref08_lay.p out 1 keep).length ca) _ _ wa HNa.out.1 HNa.out.fresh (Kd.R_reads' HNa.out.2.2.1).2.2 (Kd.R_reads' HNa.out.2.2.1).2.1 (by have := jalousieref08_Normal.lay_len out 1 keep; have := jalousieref08_Normal.lay_len (jalousieref08_lay.p out 1 keep) 2 gone; omega) (by omega) HBa.out.size; with_reducible refine hcl.mono ?_; clear hcl; rintro e wb ⟨vb, rfl, hsb, hgb, _, hbb⟩; obtain ⟨Ab, cb, rfl⟩ := Kd.R_slice (Kd.S_R hsb); have HNb := Aside0.mk (HNa.out.puto hsb hgb); have HBb := Aside0.mk (HBa.out.trans (hbb)); clear hsb hgb hbb) | (go_at_call 53; have hcl := jalousieref08_lay.owned w.heap.size _ (jalousieref08_lay.p (jalousieref08_lay.p out 1 keep) 2 gone) 3 made (.slice Ab (jalousieref08_lay.p (jalousieref08_lay.p out 1 keep) 2 gone).length cb) _ _ wb HNb.out.1 HNb.out.fresh (Kd.R_reads' HNb.out.2.2.2).2.2 (Kd.R_reads' HNb.out.2.2.2).2.1 (by have := jalousieref08_Normal.lay_len out 1 keep; have := jalousieref08_Normal.lay_len (jalousieref08_lay.p out 1 keep) 2 gone; omega) (by omega) HBb.out.size; with_reducible refine hcl.mono ?_; clear hcl; rintro e wd ⟨vd, rfl, hsd, hgd, _, hbd⟩; obtain ⟨Ad, cd, rfl⟩ := Kd.R_slice (Kd.S_R hsd); have HNd := Aside0.mk (HNb.out.puto hsd hgd); have HBd := Aside0.mk (HBb.out.trans (hbd)); clear hsd hgd hbd; have hx0d := (HBd.out.cell (World.block_lt_of_cell? w _ HX0w.out)).trans HX0w.out) | ((with_reducible refine gate_dst (N := 67) rfl ?_); refine Kd.event_run (w1 := wd) (v := .slice A1 (rd_T47 l0 (n : Int)).f1.length c1) ?hg ?hr ?_; (case hg => rfl); (case hr => have hx1d := (HBd.out.cell (World.block_lt_of_cell? w _ HX1w.out)).trans HX1w.out; first | (go_simp; done) | (go_simp; rfl)); obtain ⟨u6, hu6⟩ : ∃ u : Value, u = .slice none 0 0 := ⟨_, rfl⟩; rw [← hu6]; have U6 := Aside0.mk hu6; have HNe : Aside0 (jalousieref08_Normal.N4 w.heap.size wd (.slice Ad (jalousieref08_Normal.fin ⟨out, keep, gone, made⟩).length cd) u6 u6 u6 ⟨jalousieref08_Normal.fin ⟨out, keep, gone, made⟩, [], [], []⟩) := ⟨by rw [U6.out]; exact HNd.out.clear⟩; clear HNd hu6) | ((with_reducible refine gate_builtin (b := .append) (xs := #[.tmp 62, .tmp 67]) rfl ?_); at_builtin; refine Kd.R_append_rows k66 (w0 := w) w.heap.size rfl (.tmp 62) (.tmp 67) 37 66 (.agg #[(.string ⟨#[]⟩), (.bool false)]) 24 rfl Try.underlying37 info66 rfl (by decide) (by omega) u6 [] (rd_T47 l0 (n : Int)).f1 _ _ _ _ (fun _ => False) rfl rfl HNe.out.2.1 (Kd.C_below HC1.out HBd.out) (fun _ _ h => h) (fun _ h => h.elim) (fun k hk => ⟨(HNe.out.fresh k hk).1.2, (HNe.out.fresh k hk).2⟩) HBd.out HBd.out.size ?aL ?_; (case aL => (try simp only [List.length_nil]); omega); intro v9 w9 ho9 hb9 hg9 hat9; have HN9 := Aside0.mk (HNe.out.putk ho9 hg9 hat9); have HB9 := Aside0.mk hb9; clear ho9 hb9 hg9 hat9))
       go_roundw
       case rel => exact ⟨_, _, _, _, _, ⟨n + 1, by omega, by first | rfl | exact congrArg _ HWn.out, by rw [HA.out]; exact HN9.out, HB9.out⟩, U6.out, rfl, rfl, rfl, rfl, rfl⟩
       case measure =>
        try rw [HWn.out]
        simp only [intOf, Int.toNat_natCast]
        omega
      ·have hgm' : decide (0 < gone.length + made.length) = false := decide_eq_false hgm
       have hgm2 : (0 < (gone.length : Int) + (made.length : Int)) = False := eq_false (by omega)
       have HA : Aside0 (jalousieref08_Normal.all (l0.take (n + 1)) = ⟨out, keep ++ (rd_T47 l0 (n : Int)).f1, gone, made⟩) := ⟨by
        rw [Hall.out]
        unfold jalousieref08_Normal.pre
        rw [if_neg (fun h => hgm h.2.2)]
        unfold jalousieref08_Normal.add
        rw [if_pos h1]⟩
       clear h1 hl hgm
       go_wp2_with ((with_reducible refine gate_builtin (b := .append) (xs := #[.tmp 62, .tmp 67]) rfl ?_); at_builtin; refine Kd.R_append_rows k66 (w0 := w) w.heap.size rfl (.tmp 62) (.tmp 67) 37 66 (.agg #[(.string ⟨#[]⟩), (.bool false)]) 24 rfl Try.underlying37 info66 rfl (by decide) (by omega) (.slice Ak keep.length ck) keep (rd_T47 l0 (n : Int)).f1 _ _ _ _ (fun _ => False) rfl rfl HN.out.2.1 (Kd.C_below HC1.out HB.out) (fun _ _ h => h) (fun _ h => h.elim) (fun k hk => ⟨(HN.out.fresh k hk).1.2, (HN.out.fresh k hk).2⟩) HB.out HB.out.size ?aL ?_; (case aL => (try simp only [List.length_nil]); omega); intro v9 w9 ho9 hb9 hg9 hat9; have HN9 := Aside0.mk (HN.out.putk ho9 hg9 hat9); have HB9 := Aside0.mk hb9; clear ho9 hb9 hg9 hat9)
       go_roundw
       case rel => exact ⟨n + 1, by omega, by first | rfl | exact congrArg _ HWn.out, by rw [HA.out]; exact HN9.out, HB9.out⟩
       case measure =>
        try rw [HWn.out]
        simp only [intOf, Int.toNat_natCast]
        omega
     ·have hl' : decide (0 < (rd_T47 l0 (n : Int)).f1.length) = false := decide_eq_false hl
      have HA : Aside0 (jalousieref08_Normal.all (l0.take (n + 1)) = ⟨out, keep ++ (rd_T47 l0 (n : Int)).f1, gone, made⟩) := ⟨by
       rw [Hall.out]
       unfold jalousieref08_Normal.pre
       rw [if_neg (fun h => hl h.2.1)]
       unfold jalousieref08_Normal.add
       rw [if_pos h1]⟩
      clear h1 hl
      go_wp2_with ((with_reducible refine gate_builtin (b := .append) (xs := #[.tmp 62, .tmp 67]) rfl ?_); at_builtin; refine Kd.R_append_rows k66 (w0 := w) w.heap.size rfl (.tmp 62) (.tmp 67) 37 66 (.agg #[(.string ⟨#[]⟩), (.bool false)]) 24 rfl Try.underlying37 info66 rfl (by decide) (by omega) (.slice Ak keep.length ck) keep (rd_T47 l0 (n : Int)).f1 _ _ _ _ (fun _ => False) rfl rfl HN.out.2.1 (Kd.C_below HC1.out HB.out) (fun _ _ h => h) (fun _ h => h.elim) (fun k hk => ⟨(HN.out.fresh k hk).1.2, (HN.out.fresh k hk).2⟩) HB.out HB.out.size ?aL ?_; (case aL => (try simp only [List.length_nil]); omega); intro v9 w9 ho9 hb9 hg9 hat9; have HN9 := Aside0.mk (HN.out.putk ho9 hg9 hat9); have HB9 := Aside0.mk hb9; clear ho9 hb9 hg9 hat9)
      go_roundw
      case rel => exact ⟨n + 1, by omega, by first | rfl | exact congrArg _ HWn.out, by rw [HA.out]; exact HN9.out, HB9.out⟩
      case measure =>
       try rw [HWn.out]
       simp only [intOf, Int.toNat_natCast]
       omega
    ·have h1' : ((rd_T47 l0 (n : Int)).f0 == 1) = false := beq_eq_false_iff_ne.mpr h1
     by_cases h2 : (rd_T47 l0 (n : Int)).f0 = 2
     ·have h2' : ((rd_T47 l0 (n : Int)).f0 == 2) = true := beq_iff_eq.mpr h2
      have HA : Aside0 (jalousieref08_Normal.all (l0.take (n + 1)) = ⟨out, keep, gone ++ (rd_T47 l0 (n : Int)).f1, made⟩) := ⟨by
      rw [Hall.out]
      unfold jalousieref08_Normal.pre
      rw [if_neg (fun h => h1 h.1)]
      unfold jalousieref08_Normal.add
      rw [if_neg h1, if_pos h2]⟩
      clear h1 h2
      go_wp2_with ((with_reducible refine gate_builtin (b := .append) (xs := #[.tmp 71, .tmp 76]) rfl ?_); at_builtin; refine Kd.R_append_rows k66 (w0 := w) w.heap.size rfl (.tmp 71) (.tmp 76) 37 66 (.agg #[(.string ⟨#[]⟩), (.bool false)]) 24 rfl Try.underlying37 info66 rfl (by decide) (by omega) (.slice Ag gone.length cg) gone (rd_T47 l0 (n : Int)).f1 _ _ _ _ (fun _ => False) rfl rfl HN.out.2.2.1 (Kd.C_below HC1.out HB.out) (fun _ _ h => h) (fun _ h => h.elim) (fun k hk => ⟨(HN.out.fresh k hk).1.1, (HN.out.fresh k hk).2⟩) HB.out HB.out.size ?aL ?_; (case aL => (try simp only [List.length_nil]); omega); intro v9 w9 ho9 hb9 hg9 hat9; have HN9 := Aside0.mk (HN.out.putg ho9 hg9 hat9); have HB9 := Aside0.mk hb9; clear ho9 hb9 hg9 hat9)
      go_roundw
      case rel => exact ⟨n + 1, by omega, by first | rfl | exact congrArg _ HWn.out, by rw [HA.out]; exact HN9.out, HB9.out⟩
      case measure =>
       try rw [HWn.out]
       simp only [intOf, Int.toNat_natCast]
       omega
     ·have h2' : ((rd_T47 l0 (n : Int)).f0 == 2) = false := beq_eq_false_iff_ne.mpr h2
      by_cases h3 : (rd_T47 l0 (n : Int)).f0 = 3
      ·have h3' : ((rd_T47 l0 (n : Int)).f0 == 3) = true := beq_iff_eq.mpr h3
       have HA : Aside0 (jalousieref08_Normal.all (l0.take (n + 1)) = ⟨out, keep, gone, made ++ (rd_T47 l0 (n : Int)).f1⟩) := ⟨by
       rw [Hall.out]
       unfold jalousieref08_Normal.pre
       rw [if_neg (fun h => h1 h.1)]
       unfold jalousieref08_Normal.add
       rw [if_neg h1, if_neg h2, if_pos h3]⟩
       clear h1 h2 h3
       go_wp2_with ((with_reducible refine gate_builtin (b := .append) (xs := #[.tmp 80, .tmp 85]) rfl ?_); at_builtin; refine Kd.R_append_rows k66 (w0 := w) w.heap.size rfl (.tmp 80) (.tmp 85) 37 66 (.agg #[(.string ⟨#[]⟩), (.bool false)]) 24 rfl Try.underlying37 info66 rfl (by decide) (by omega) (.slice Am made.length cm) made (rd_T47 l0 (n : Int)).f1 _ _ _ _ (fun _ => False) rfl rfl HN.out.2.2.2 (Kd.C_below HC1.out HB.out) (fun _ _ h => h) (fun _ h => h.elim) (fun k hk => (HN.out.fresh k hk).1) HB.out HB.out.size ?aL ?_; (case aL => (try simp only [List.length_nil]); omega); intro v9 w9 ho9 hb9 hg9 hat9; have HN9 := Aside0.mk (HN.out.putm ho9 hg9 hat9); have HB9 := Aside0.mk hb9; clear ho9 hb9 hg9 hat9)
       go_roundw
       case rel => exact ⟨n + 1, by omega, by first | rfl | exact congrArg _ HWn.out, by rw [HA.out]; exact HN9.out, HB9.out⟩
       case measure =>
        try rw [HWn.out]
        simp only [intOf, Int.toNat_natCast]
        omega
      ·have h3' : ((rd_T47 l0 (n : Int)).f0 == 3) = false := beq_eq_false_iff_ne.mpr h3
       have HA : Aside0 (jalousieref08_Normal.all (l0.take (n + 1)) = ⟨out, keep, gone, made⟩) := ⟨by
       rw [Hall.out]
       unfold jalousieref08_Normal.pre
       rw [if_neg (fun h => h1 h.1)]
       unfold jalousieref08_Normal.add
       rw [if_neg h1, if_neg h2, if_neg h3]⟩
       clear h1 h2 h3
       go_wp2
       go_roundw
       case rel => exact ⟨n + 1, by omega, by first | rfl | exact congrArg _ HWn.out, by rw [HA.out]; exact HN.out, HB.out⟩
       case measure =>
        try rw [HWn.out]
        simp only [intOf, Int.toNat_natCast]
        omega
   ·obtain rfl : n = l0.length := by omega
    have hlt' : decide ((l0.length : Int) < (l0.length : Int)) = false := decide_eq_false (by omega)
    have hlen := jalousieref08_Normal.all_len l0 l0.length
    rw [List.take_length] at hN hlen
    unfold jalousieref08_Normal.all at hlen
    generalize hqq : jalousieref08_Normal.all l0 = q at hN
    have hqq' := hqq
    unfold jalousieref08_Normal.all at hqq'
    rw [hqq'] at hlen
    obtain ⟨out, keep, gone, made⟩ := q
    obtain ⟨Ak, ck, rfl⟩ := Kd.R_slice hN.2.1
    obtain ⟨Ag, cg, rfl⟩ := Kd.R_slice hN.2.2.1
    obtain ⟨Am, cm, rfl⟩ := Kd.R_slice hN.2.2.2
    obtain ⟨Ao, co, rfl⟩ := Kd.R_slice (Kd.S_R hN.1)
    simp only at hlen
    have HN := Aside0.mk hN
    have HB := Aside0.mk hBr
    have Hqq := Aside0.mk hqq
    clear hN hBr hqq hqq' hlt hn
    go_wp2_with (first | (go_at_call 53; have hcl := jalousieref08_lay.owned w.heap.size _ out 1 keep (.slice Ao out.length co) _ _ wr HN.out.1 HN.out.fresh (Kd.R_reads' HN.out.2.1).2.2 (Kd.R_reads' HN.out.2.1).2.1 (by omega) (by omega) HB.out.size; with_reducible refine hcl.mono ?_; clear hcl; rintro e wa ⟨va, rfl, hsa, hga, _, hba⟩; obtain ⟨Aa, ca, rfl⟩ := Kd.R_slice (Kd.S_R hsa); have HNa := Aside0.mk (HN.out.puto hsa hga); have HBa := Aside0.mk (HB.out.trans (hba)); clear hsa hga hba) | (go_at_call 53; have hcl := jalousieref08_lay.owned w.heap.size _ (jalousieref08_lay.p out 1 keep) 2 gone (.slice Aa (jalousieref08_lay.p out 1 keep).length ca) _ _ wa HNa.out.1 HNa.out.fresh (Kd.R_reads' HNa.out.2.2.1).2.2 (Kd.R_reads' HNa.out.2.2.1).2.1 (by have := jalousieref08_Normal.lay_len out 1 keep; have := jalousieref08_Normal.lay_len (jalousieref08_lay.p out 1 keep) 2 gone; omega) (by omega) HBa.out.size; with_reducible refine hcl.mono ?_; clear hcl; rintro e wb ⟨vb, rfl, hsb, hgb, _, hbb⟩; obtain ⟨Ab, cb, rfl⟩ := Kd.R_slice (Kd.S_R hsb); have HNb := Aside0.mk (HNa.out.puto hsb hgb); have HBb := Aside0.mk (HBa.out.trans (hbb)); clear hsb hgb hbb) | (go_at_call 53; have hcl := jalousieref08_lay.owned w.heap.size _ (jalousieref08_lay.p (jalousieref08_lay.p out 1 keep) 2 gone) 3 made (.slice Ab (jalousieref08_lay.p (jalousieref08_lay.p out 1 keep) 2 gone).length cb) _ _ wb HNb.out.1 HNb.out.fresh (Kd.R_reads' HNb.out.2.2.2).2.2 (Kd.R_reads' HNb.out.2.2.2).2.1 (by have := jalousieref08_Normal.lay_len out 1 keep; have := jalousieref08_Normal.lay_len (jalousieref08_lay.p out 1 keep) 2 gone; omega) (by omega) HBb.out.size; with_reducible refine hcl.mono ?_; clear hcl; rintro e wd ⟨vd, rfl, hsd, hgd, _, hbd⟩; obtain ⟨Ad, cd, rfl⟩ := Kd.R_slice (Kd.S_R hsd); have HNd := Aside0.mk (HNb.out.puto hsd hgd); have HBd := Aside0.mk (HBb.out.trans (hbd)); clear hsd hgd hbd))
    go_ret2
    have e2 : r1 = jalousieref08_Normal.fin ⟨out, keep, gone, made⟩ := by rw [← HR1.out, Hqq.out]
    rw [e2]
    exact ⟨_, rfl, Kd.S_mono HNd.out.1 (fun _ _ => trivial), HBd.out⟩
 ·rw [if_neg he0] at h
  have hr := Option.some.inj h
  simp only [Prod.mk.injEq] at hr
  obtain ⟨rfl, rfl⟩ := hr
  have hne : (e0 != 0) = true := bne_iff_ne.mpr he0
  clear h he0
  go_enter Try.func23, Try.ntmps23
  go_wp2_with (go_at_call 26; refine HE.out.mono ?_; rintro e w1 ⟨rfl, hD⟩)
  go_ret2
  exact ⟨_, rfl, Kd.S_nil _ _ _ _ _, hD.below⟩


end Go.Proofs.Ytfnbodjmmkjlcaa.H
end
section
namespace Go.Proofs.Ytfnbodjmmkjlcaa.H
open Go.RowKit Go.Proofs.YtfnbodjmmkjlcaaW.PrintWords Go.Proofs.YtfnbodjmmkjlcaaW.PrintLast Go.Proofs.YtfnbodjmmkjlcaaW.PrintMore
attribute [local go_sem] max2_int min2_int max_two min_two max_three min_three max_four min_four   -- for this text's walks alone
set_option linter.unusedVariables false
set_option linter.unusedSimpArgs false

def jalousieref08_side.l0 : Nat → List (S47) → Int → List (S66) → Int → Option ((List (S66)))
 | 0, _, _, _, _ => none
 | k + 1, x0, x1, x5, x6 => if x6 < (x0.length : Int) then (if 0 ≤ x6 then (if ((rd_T47 x0 x6).f0) = x1 then (jalousieref08_side.l0 k x0 x1 x5 (wrap64 (x6 + 1))) else (if x5.length + ((rd_T47 x0 x6).f1).length < 5864062014805 then (jalousieref08_side.l0 k x0 x1 (x5 ++ ((rd_T47 x0 x6).f1)) (wrap64 (x6 + 1))) else (none))) else (none)) else (some x5)
def jalousieref08_side.f (k : Nat) (l0 : List (S47)) (a1 : Int) : Option ((List (S66))) := jalousieref08_side.l0 k l0 a1 (([] : List (S66))) 0
set_option maxHeartbeats 8000000 in
set_option maxRecDepth 100000 in
theorem jalousieref08_side.calls (k : Nat) (A0 : Option Addr) (c0 : Nat) (l0 : List (S47)) (a1 : Int) (r : List (S66)) (w : World) (hr0 : Kd.C k47 w A0 l0.length l0) (hc0 : l0.length ≤ c0) (h : jalousieref08_side.f k l0 a1 = some r) :
  Calls Try.prog 54 #[.slice A0 l0.length c0, .int .i64 a1] w fun e w' => ∃ v0_ : Value, e = .returned (v0_) ∧ Kd.R k66 66 w' w.heap.size (fun _ => True) v0_ r ∧ Below w.heap.size w w' := by
 have HR0 := Aside0.mk hr0
 have HC0 := Aside0.mk hc0
 clear hr0 hc0
 have HB := Aside0.mk (Below.refl w.heap.size w)
 have H : (jalousieref08_side.l0 k l0 a1 (([] : List (S66))) 0) = some r := h
 clear h
 obtain ⟨y267, hy267⟩ : ∃ y_ : List (S66), y_ = (([] : List (S66))) := ⟨_, rfl⟩
 replace H : (jalousieref08_side.l0 k l0 a1 y267 0) = some r := by first | (rw [hy267]; with_reducible exact H) | (have H2_ := (Option.bind_some _ _).symm.trans H; rw [hy267]; with_reducible exact H2_) | (have H2_ := (Option.bind_some _ _).symm.trans H; with_reducible exact H2_) | with_reducible exact H | (rw [hy267]; exact H) | exact H
 have Ny267 := Aside0.mk hy267
 clear hy267
 have H' := Aside0.mk H
 clear H
 go_enter Try.func54, Try.ntmps54
 go_wp2_with (first | ((with_reducible refine gate_dst (N := 7) rfl ?_); refine Kd.R_lit k66 _ 66 ?hg (N := 7) ?hd (xs := ([] : List (S66))) (inner := []) (ok := fun _ => True) (okp := fun _ => True) ?hr ?hp (fun _ hk => hk) trivial (Below.refl _ _) (Nat.le_refl _) (by simp) ?_; (case hd => rfl); (case hg => rfl); (case hr => first | (go_simp; done) | (go_simp; rfl)); (case hp => exact (Reps.none _ _)); intro v268 w3 ho4 hb hg_ hnew_; clear hg_ hnew_; (first | rw [← Ny267.out] at ho4 | (simp only [Int.reduceToNat] at ho4; rw [← Ny267.out] at ho4)); have n0_ := Aside0.mk (Kd.R_lower ho4 (below_size (by repeat (first | (with_reducible first | exact HB.out | apply below_alloc | apply pw_below_drewN | apply below_drew1) | exact HB.out)))); have n1_ := Aside0.mk (below_step (by repeat (first | (with_reducible first | exact HB.out | apply below_alloc | apply pw_below_drewN | apply below_drew1) | exact HB.out)) hb); clear HB; have HO269 := n0_; have HB := n1_; clear n0_ n1_; clear hb ho4))
 go_loopg [5, 6] k (fun kq v5 v6 w' => ∃ (x5_1 : List (S66)) (x6_1 : Int), v6 = .int .i64 x6_1 ∧ Aside0 (jalousieref08_side.l0 kq l0 a1 x5_1 x6_1 = some r) ∧ Aside0 (kq ≤ k) ∧ Aside0 (Kd.R k66 66 w' w.heap.size (fun _ => True) v5 x5_1) ∧ Aside0 (Below w.heap.size w w'))
 case atStart => exact ⟨(y267), (0), (by first | rfl | (simp; done) | (simp [*]; done)), H', ⟨Nat.le_refl _⟩, ⟨by (with_reducible repeat first|apply zr1|apply zr2|apply zr3); exact HO269.out⟩, ⟨by repeat (first | (with_reducible first | exact HB.out | apply below_alloc | apply pw_below_drewN | apply below_drew1) | exact HB.out)⟩⟩
 case round =>
  clear H'
  try clear p2
  obtain ⟨x5_1, x6_1, rfl, HA, HK1, HO_5, HB⟩ := hrel
  cases gk with
  | zero => exact absurd HA.out (by simp [jalousieref08_side.l0])
  | succ k1 =>
   have H := HA.out
   clear HA
   simp only [jalousieref08_side.l0] at H
   by_cases c5 : x6_1 < (l0.length : Int)
   ·rw [if_pos c5] at H
    have c5b0 : decide (x6_1 < (l0.length : Int)) = true := decide_eq_true c5
    clear c5
    by_cases c6 : 0 ≤ x6_1
    ·rw [if_pos c6] at H
     have c6b0 : decide (0 ≤ x6_1) = true := decide_eq_true c6
     clear c6
     by_cases c7 : ((rd_T47 l0 x6_1).f0) = a1
     ·rw [if_pos c7] at H
      have c7b0 : (((rd_T47 l0 x6_1).f0) == a1) = true := beq_iff_eq.mpr c7
      have c7b1 : (((rd_T47 l0 x6_1).f0) != a1) = false := bne_eq_false_iff_eq.mpr c7
      clear c7
      have H' := Aside0.mk H
      clear H
      have p270 : 0 ≤ (x6_1 : Int) := of_decide_eq_true (by first | (with_reducible assumption) | assumption)
      have q270 : x6_1 < (l0.length : Int) := of_decide_eq_true (by first | (with_reducible assumption) | assumption)
      obtain ⟨ad270, A270_1, c270_1, e270, hx270_0, hx270_1, hl270_1, hi270_1⟩ := at_T47 HR0.out x6_1 p270 q270
      cases e270
      replace hx270_0 := (HB.out.cell (World.block_lt_of_cell? w _ hx270_0)).trans hx270_0
      replace hx270_1 := (HB.out.cell (World.block_lt_of_cell? w _ hx270_1)).trans hx270_1
      have HR270_1 := Aside0.mk hi270_1
      have HC270_1 := Aside0.mk hl270_1
      clear hi270_1 hl270_1
      replace p270 := eq_true p270
      replace q270 := eq_true q270
      go_wp2
      go_roundg k1
      case measure => have := HK1.out; omega
      case rel => exact ⟨(x5_1), (wrap64 (x6_1 + 1)), (by first | rfl | (simp; done) | (simp [*]; done)), H', ⟨by have := HK1.out; omega⟩, ⟨by (with_reducible repeat first|apply zr1|apply zr2|apply zr3); exact HO_5.out⟩, ⟨by repeat (first | (with_reducible first | exact HB.out | apply below_alloc | apply pw_below_drewN | apply below_drew1) | exact HB.out)⟩⟩
     ·rw [if_neg c7] at H
      have c7b0 : (((rd_T47 l0 x6_1).f0) == a1) = false := beq_eq_false_iff_ne.mpr c7
      have c7b1 : (((rd_T47 l0 x6_1).f0) != a1) = true := bne_iff_ne.mpr c7
      by_cases c8 : x5_1.length + ((rd_T47 l0 x6_1).f1).length < 5864062014805
      ·rw [if_pos c8] at H
       have LMc8 := Aside0.mk c8
       clear c8
       obtain ⟨y272, hy272⟩ : ∃ y_ : List (S66), y_ = (x5_1 ++ ((rd_T47 l0 x6_1).f1)) := ⟨_, rfl⟩
       replace H : (jalousieref08_side.l0 k1 l0 a1 y272 (wrap64 (x6_1 + 1))) = some r := by first | (rw [hy272]; with_reducible exact H) | (have H2_ := (Option.bind_some _ _).symm.trans H; rw [hy272]; with_reducible exact H2_) | (have H2_ := (Option.bind_some _ _).symm.trans H; with_reducible exact H2_) | with_reducible exact H | (rw [hy272]; exact H) | exact H
       have Ny272 := Aside0.mk hy272
       clear hy272
       have H' := Aside0.mk H
       clear H
       have p270 : 0 ≤ (x6_1 : Int) := of_decide_eq_true (by first | (with_reducible assumption) | assumption)
       have q270 : x6_1 < (l0.length : Int) := of_decide_eq_true (by first | (with_reducible assumption) | assumption)
       obtain ⟨ad270, A270_1, c270_1, e270, hx270_0, hx270_1, hl270_1, hi270_1⟩ := at_T47 HR0.out x6_1 p270 q270
       cases e270
       replace hx270_0 := (HB.out.cell (World.block_lt_of_cell? w _ hx270_0)).trans hx270_0
       replace hx270_1 := (HB.out.cell (World.block_lt_of_cell? w _ hx270_1)).trans hx270_1
       have HR270_1 := Aside0.mk hi270_1
       have HC270_1 := Aside0.mk hl270_1
       clear hi270_1 hl270_1
       replace p270 := eq_true p270
       replace q270 := eq_true q270
       have p271 : 0 ≤ (x6_1 : Int) := of_decide_eq_true (by first | (with_reducible assumption) | assumption)
       have q271 : x6_1 < (l0.length : Int) := of_decide_eq_true (by first | (with_reducible assumption) | assumption)
       obtain ⟨ad271, A271_1, c271_1, e271, hx271_0, hx271_1, hl271_1, hi271_1⟩ := at_T47 HR0.out x6_1 p271 q271
       obtain rfl : ad270 = ad271 := (by injection e271)
       replace hx271_0 := (HB.out.cell (World.block_lt_of_cell? w _ hx271_0)).trans hx271_0
       replace hx271_1 := (HB.out.cell (World.block_lt_of_cell? w _ hx271_1)).trans hx271_1
       have HR271_1 := Aside0.mk hi271_1
       have HC271_1 := Aside0.mk hl271_1
       clear hi271_1 hl271_1
       replace p271 := eq_true p271
       replace q271 := eq_true q271
       have ea_ := Option.some.inj (hx270_1.symm.trans hx271_1)
       injection ea_ with ea_ en_ ec_
       subst ea_
       subst ec_
       clear en_
       go_wp2_with (first | ((with_reducible refine gate_builtin (b := .append) (xs := #[.tmp 21, .tmp 26]) rfl ?_); at_builtin; refine Kd.R_append_rows k66 (w0 := w) w.heap.size rfl (.tmp 21) (.tmp 26) 37 66 (.agg #[(.string ⟨#[]⟩), (.bool false)]) 24 rfl Try.underlying37 info66 rfl (by decide) (by omega) u5 x5_1 ((rd_T47 l0 x6_1).f1) _ _ _ (fun _ => True) (fun _ => False) rfl rfl ?aO ?aR (fun _ _ h => h) (fun _ h => h.elim) ?aF ?aB ?aS ?aL ?_; (case aR => repeat (first | exact (Kd.C_below HR271_1.out HB.out) | (with_reducible refine Kd.C_alloc ?_ _) | (with_reducible refine Kd.C_drewN ?_ _) | (with_reducible refine Kd.C_drew ?_))); (case aB => exact (by repeat (first | (with_reducible first | exact HB.out | apply below_alloc | apply pw_below_drewN | apply below_drew1) | exact HB.out))); (case aF => exact (fun _ _ => trivial)); (case aO => exact (by (with_reducible repeat first|apply zr1|apply zr2|apply zr3); exact HO_5.out)); (case aS => exact (below_size (by repeat (first | (with_reducible first | exact HB.out | apply below_alloc | apply pw_below_drewN | apply below_drew1) | exact HB.out)))); (case aL => have := LMc8.out; omega); intro v273 w9 ho hb hg hat; rw [← Ny272.out] at ho; have n0_ := Aside0.mk (hb); have n1_ := Aside0.mk (ho); clear HB; clear HO_5; have HB := n0_; have HO274 := n1_; clear n0_ n1_; clear ho hb hg hat))
       go_roundg k1
       case measure => have := HK1.out; omega
       case rel => exact ⟨(y272), (wrap64 (x6_1 + 1)), (by first | rfl | (simp; done) | (simp [*]; done)), H', ⟨by have := HK1.out; omega⟩, ⟨by (with_reducible repeat first|apply zr1|apply zr2|apply zr3); exact HO274.out⟩, ⟨by repeat (first | (with_reducible first | exact HB.out | apply below_alloc | apply pw_below_drewN | apply below_drew1) | exact HB.out)⟩⟩
      ·rw [if_neg c8] at H
       exact absurd H (by simp)
    ·rw [if_neg c6] at H
     exact absurd H (by simp)
   ·rw [if_neg c5] at H
    have c5b0 : decide (x6_1 < (l0.length : Int)) = false := decide_eq_false c5
    clear c5
    obtain rfl := Option.some.inj H
    go_wp2
    go_ret
    exact ⟨_, by first | rfl | (simp [errW_none, errW_some] <;> rfl) | (simp [*, errW_none, errW_some] <;> rfl), by (with_reducible repeat first|apply zr1|apply zr2|apply zr3); exact HO_5.out, by repeat (first | (with_reducible first | exact HB.out | apply below_alloc | apply pw_below_drewN | apply below_drew1) | exact HB.out)⟩

end Go.Proofs.Ytfnbodjmmkjlcaa.H
end
section
namespace Go.Proofs.Ytfnbodjmmkjlcaa.H
open Go.RowKit Go.Proofs.YtfnbodjmmkjlcaaW.PrintWords Go.Proofs.YtfnbodjmmkjlcaaW.PrintLast Go.Proofs.YtfnbodjmmkjlcaaW.PrintMore
attribute [local go_sem] max2_int min2_int max_two min_two max_three min_three max_four min_four   -- for this text's walks alone
set_option linter.unusedVariables false
set_option linter.unusedSimpArgs false

def jalousieref08_Sides.f (k : Nat) (l0 : List (S47)) : Option ((List (S66)) × (List (S66)) × Int) := (jalousieref08_Check.f k l0).bind fun t275 => (if t275 = 0 then ((jalousieref08_side.f k l0 3).bind fun t276 => ((jalousieref08_side.f k l0 2).bind fun t279 => (some (t276, t279, 0)))) else (some (([] : List (S66)), ([] : List (S66)), t275)))
set_option maxHeartbeats 8000000 in
set_option maxRecDepth 100000 in
theorem jalousieref08_Sides.calls (k : Nat) (A0 : Option Addr) (c0 : Nat) (l0 : List (S47)) (r1 : List (S66)) (r2 : List (S66)) (r3 : Int) (w : World) (hr0 : Kd.C k47 w A0 l0.length l0) (hc0 : l0.length ≤ c0) (h : jalousieref08_Sides.f k l0 = some (r1, r2, r3)) :
  Calls Try.prog 24 #[.slice A0 l0.length c0] w fun e w' => ∃ v0_ v1_ : Value, e = .returned (.tuple #[v0_, v1_, .int .i64 r3]) ∧ Kd.R k66 66 w' w.heap.size (fun k_ => some k_ ≠ (v1_ : Value).ownBlock) v0_ r1 ∧ Kd.R k66 66 w' w.heap.size (fun k_ => some k_ ≠ (v0_ : Value).ownBlock) v1_ r2 ∧ Below w.heap.size w w' := by
 have HR0 := Aside0.mk hr0
 have HC0 := Aside0.mk hc0
 clear hr0 hc0
 have HB := Aside0.mk (Below.refl w.heap.size w)
 have H : ((jalousieref08_Check.f k l0).bind fun t275 => (if t275 = 0 then ((jalousieref08_side.f k l0 3).bind fun t276 => ((jalousieref08_side.f k l0 2).bind fun t279 => (some (t276, t279, 0)))) else (some (([] : List (S66)), ([] : List (S66)), t275)))) = some (r1, r2, r3) := h
 clear h
 replace H := Option.bind_eq_some_iff.mp H
 obtain ⟨t275, A20, H⟩ := H
 replace H : (if t275 = 0 then ((jalousieref08_side.f k l0 3).bind fun t276 => ((jalousieref08_side.f k l0 2).bind fun t279 => (some (t276, t279, 0)))) else (some (([] : List (S66)), ([] : List (S66)), t275))) = some (r1, r2, r3) := H
 have A2 := Aside0.mk A20
 clear A20
 by_cases c3 : t275 = 0
 ·rw [if_pos c3] at H
  have c3b0 : (t275 == 0) = true := beq_iff_eq.mpr c3
  have c3b1 : (t275 != 0) = false := bne_eq_false_iff_eq.mpr c3
  clear c3
  replace H := Option.bind_eq_some_iff.mp H
  obtain ⟨t276, A40, H⟩ := H
  replace H : ((jalousieref08_side.f k l0 2).bind fun t279 => (some (t276, t279, 0))) = some (r1, r2, r3) := H
  have A4 := Aside0.mk A40
  clear A40
  replace H := Option.bind_eq_some_iff.mp H
  obtain ⟨t279, A50, H⟩ := H
  replace H : (some (t276, t279, 0)) = some (r1, r2, r3) := H
  have A5 := Aside0.mk A50
  clear A50
  simp only [Option.some.injEq, Prod.mk.injEq] at H
  obtain ⟨rfl, rfl, rfl⟩ := H
  go_enter Try.func24, Try.ntmps24
  go_wp2_with (first | ((with_reducible refine gate_callee (f := 26) rfl ?_); refine goesL_ (some 7) rfl rfl Try.func26 (by kernel_rfl) rfl #[.slice A0 l0.length c0] rfl (by (try simp only [List.map_toArray, List.map_cons, List.map_nil]); first | done | rfl | (simp only [List.length_drop, List.length_take]; rfl)) ?_; (with_reducible refine (jalousieref08_Check.calls k _ _ l0 t275 _ ?side1 ?side2 A2.out).mono ?_); (case side1 => repeat (first | exact HR0.out | (with_reducible refine Kd.C_alloc ?_ _) | (with_reducible refine Kd.C_drewN ?_ _) | (with_reducible refine Kd.C_drew ?_))); (case side2 => exact HC0.out); rintro e w' ⟨rfl, ⟨nd, rfl⟩⟩; refine ⟨_, rfl, ?_⟩) | ((with_reducible refine gate_callee (f := 54) rfl ?_); refine goesL_ (some 12) rfl rfl Try.func54 (by kernel_rfl) rfl #[.slice A0 l0.length c0, .int .i64 3] rfl (by (try simp only [List.map_toArray, List.map_cons, List.map_nil]); first | done | rfl | (simp only [List.length_drop, List.length_take]; rfl)) ?_; (with_reducible refine (jalousieref08_side.calls k _ _ l0 3 t276 _ ?side1 ?side2 A4.out).mono ?_); (case side1 => repeat (first | exact HR0.out | (with_reducible refine Kd.C_alloc ?_ _) | (with_reducible refine Kd.C_drewN ?_ _) | (with_reducible refine Kd.C_drew ?_))); (case side2 => exact HC0.out); rintro e w6 ⟨v277, rfl, ho0, hb⟩; refine ⟨_, rfl, ?_⟩; have n0_ := Aside0.mk (Kd.R_lower ho0 (below_size (by repeat (first | (with_reducible first | exact HB.out | apply below_alloc | apply pw_below_drewN | apply below_drew1) | exact HB.out)))); have n1_ := Aside0.mk (below_step (by repeat (first | (with_reducible first | exact HB.out | apply below_alloc | apply pw_below_drewN | apply below_drew1) | exact HB.out)) hb); clear HB; have HO278 := n0_; have HB := n1_; clear n0_ n1_; (try clear hb); (try clear hb2); (try clear hk); (try clear hi); (try clear ho0)) | ((with_reducible refine gate_callee (f := 54) rfl ?_); refine goesL_ (some 14) rfl rfl Try.func54 (by kernel_rfl) rfl #[.slice A0 l0.length c0, .int .i64 2] rfl (by (try simp only [List.map_toArray, List.map_cons, List.map_nil]); first | done | rfl | (simp only [List.length_drop, List.length_take]; rfl)) ?_; (with_reducible refine (jalousieref08_side.calls k _ _ l0 2 t279 _ ?side1 ?side2 A5.out).mono ?_); (case side1 => repeat (first | exact (Kd.C_below HR0.out HB.out) | (with_reducible refine Kd.C_alloc ?_ _) | (with_reducible refine Kd.C_drewN ?_ _) | (with_reducible refine Kd.C_drew ?_))); (case side2 => exact HC0.out); rintro e w7 ⟨v280, rfl, ho0, hb⟩; refine ⟨_, rfl, ?_⟩; have n0_ := Aside0.mk (Kd.R_elder' (by (with_reducible repeat first|apply zr1|apply zr2|apply zr3); exact HO278.out) (Kd.R_base ho0) hb); have n1_ := Aside0.mk (Kd.R_lower (Kd.R_new' ho0 (Kd.R_lt (by (with_reducible repeat first|apply zr1|apply zr2|apply zr3); exact HO278.out))) (below_size (by repeat (first | (with_reducible first | exact HB.out | apply below_alloc | apply pw_below_drewN | apply below_drew1) | exact HB.out)))); have n2_ := Aside0.mk (below_step (by repeat (first | (with_reducible first | exact HB.out | apply below_alloc | apply pw_below_drewN | apply below_drew1) | exact HB.out)) hb); clear HO278; clear HB; have HO278 := n0_; have HO281 := n1_; have HB := n2_; clear n0_ n1_ n2_; (try clear hb); (try clear hb2); (try clear hk); (try clear hi); (try clear ho0)))
  go_ret3
  exact ⟨_, _, by first | rfl | (simp [errW_none, errW_some] <;> rfl) | (simp [*, errW_none, errW_some] <;> rfl), by (with_reducible repeat first|apply zr1|apply zr2|apply zr3); exact Kd.R_mono HO278.out (fun _ hk => hk.2), by (with_reducible repeat first|apply zr1|apply zr2|apply zr3); exact Kd.R_mono HO281.out (fun _ hk => hk.2), by repeat (first | (with_reducible first | exact HB.out | apply below_alloc | apply pw_below_drewN | apply below_drew1) | exact HB.out)⟩
 ·rw [if_neg c3] at H
  have c3b0 : (t275 == 0) = false := beq_eq_false_iff_ne.mpr c3
  have c3b1 : (t275 != 0) = true := bne_iff_ne.mpr c3
  simp only [Option.some.injEq, Prod.mk.injEq] at H
  obtain ⟨rfl, rfl, rfl⟩ := H
  go_enter Try.func24, Try.ntmps24
  go_wp2_with (first | ((with_reducible refine gate_callee (f := 26) rfl ?_); refine goesL_ (some 7) rfl rfl Try.func26 (by kernel_rfl) rfl #[.slice A0 l0.length c0] rfl (by (try simp only [List.map_toArray, List.map_cons, List.map_nil]); first | done | rfl | (simp only [List.length_drop, List.length_take]; rfl)) ?_; (with_reducible refine (jalousieref08_Check.calls k _ _ l0 t275 _ ?side1 ?side2 A2.out).mono ?_); (case side1 => repeat (first | exact HR0.out | (with_reducible refine Kd.C_alloc ?_ _) | (with_reducible refine Kd.C_drewN ?_ _) | (with_reducible refine Kd.C_drew ?_))); (case side2 => exact HC0.out); rintro e w' ⟨rfl, ⟨nd, rfl⟩⟩; refine ⟨_, rfl, ?_⟩))
  go_ret3
  exact ⟨_, _, by first | rfl | (simp [errW_none, errW_some] <;> rfl) | (simp [*, errW_none, errW_some] <;> rfl), by first | exact Kd.R_nil _ _ _ _ _ | exact Kd.N_nil _ _ _ _ _ | exact Kd.V_nil _ _ _ _ _ | exact Kd.Q_nil _ _ _ _ _ | exact Kd.S_nil _ _ _ _ _, by first | exact Kd.R_nil _ _ _ _ _ | exact Kd.N_nil _ _ _ _ _ | exact Kd.V_nil _ _ _ _ _ | exact Kd.Q_nil _ _ _ _ _ | exact Kd.S_nil _ _ _ _ _, by repeat (first | (with_reducible first | exact HB.out | apply below_alloc | apply pw_below_drewN | apply below_drew1) | exact HB.out)⟩

end Go.Proofs.Ytfnbodjmmkjlcaa.H
end
section
namespace Go.Proofs.Ytfnbodjmmkjlcaa.H
open Go.RowKit Go.Proofs.YtfnbodjmmkjlcaaW.PrintWords Go.Proofs.YtfnbodjmmkjlcaaW.PrintLast Go.Proofs.YtfnbodjmmkjlcaaW.PrintMore
attribute [local go_sem] max2_int min2_int max_two min_two max_three min_three max_four min_four   -- for this text's walks alone
set_option linter.unusedVariables false
set_option linter.unusedSimpArgs false

def jalousieref08_Same.l0 : Nat → List (S47) → List (S47) → Int → Option (Bool)
 | 0, _, _, _ => none
 | k + 1, x0, x1, x5 => if x5 < (x0.length : Int) then (if 0 ≤ x5 then (if x5 < (x1.length : Int) then (if ((rd_T47 x0 x5).f0) = ((rd_T47 x1 x5).f0) then ((jalousieref01_Same.f k ((rd_T47 x0 x5).f1) ((rd_T47 x1 x5).f1)).bind fun t254 => (if t254 = true then (jalousieref08_Same.l0 k x0 x1 (wrap64 (x5 + 1))) else (some false))) else (some false)) else (none)) else (none)) else (some true)
def jalousieref08_Same.f (k : Nat) (l0 : List (S47)) (l1 : List (S47)) : Option (Bool) := if (l0.length : Int) = (l1.length : Int) then (jalousieref08_Same.l0 k l0 l1 0) else (some false)
set_option maxHeartbeats 8000000 in
set_option maxRecDepth 100000 in
theorem jalousieref08_Same.calls (k : Nat) (A0 : Option Addr) (c0 : Nat) (l0 : List (S47)) (A1 : Option Addr) (c1 : Nat) (l1 : List (S47)) (r : Bool) (w : World) (hr0 : Kd.C k47 w A0 l0.length l0) (hc0 : l0.length ≤ c0) (hr1 : Kd.C k47 w A1 l1.length l1) (hc1 : l1.length ≤ c1) (h : jalousieref08_Same.f k l0 l1 = some r) :
  Calls Try.prog 20 #[.slice A0 l0.length c0, .slice A1 l1.length c1] w fun e w' => e = .returned (.bool r) ∧ Drawn0 w w' := by
 have HR0 := Aside0.mk hr0
 have HC0 := Aside0.mk hc0
 clear hr0 hc0
 have HR1 := Aside0.mk hr1
 have HC1 := Aside0.mk hc1
 clear hr1 hc1
 have H : (if (l0.length : Int) = (l1.length : Int) then (jalousieref08_Same.l0 k l0 l1 0) else (some false)) = some r := h
 clear h
 by_cases c3 : (l0.length : Int) = (l1.length : Int)
 ·rw [if_pos c3] at H
  have c3b0 : ((l0.length : Int) == (l1.length : Int)) = true := beq_iff_eq.mpr c3
  have c3b1 : ((l0.length : Int) != (l1.length : Int)) = false := bne_eq_false_iff_eq.mpr c3
  have c3b2 : (l0.length == l1.length) = true := by first | simpa using c3 | (simp at c3 ⊢; omega)
  clear c3
  have H' := Aside0.mk H
  clear H
  go_enter Try.func20, Try.ntmps20
  go_wp2
  repeat (go_quiet (fail); try go_wp2)
  go_loopg [5] k (fun kq v5 w' => ∃ (x5_1 : Int), v5 = .int .i64 x5_1 ∧ Aside0 (jalousieref08_Same.l0 kq l0 l1 x5_1 = some r) ∧ Aside0 (kq ≤ k) ∧ Drawn0 w w')
  case atStart => exact ⟨(0), (by first | rfl | (simp; done) | (simp [*]; done)), H', ⟨Nat.le_refl _⟩, by repeat (first | exact Drawn0.refl _ | apply Drawn0.step)⟩
  case round =>
   clear H'
   try clear c1
   try clear c2
   try clear p2
   try clear c3
   try clear c3b0
   try clear c3b1
   try clear c3b2
   obtain ⟨x5_1, rfl, HA, HK1, ⟨m1, rfl⟩⟩ := hrel
   cases gk with
   | zero => exact absurd HA.out (by simp [jalousieref08_Same.l0])
   | succ k1 =>
    have H := HA.out
    clear HA
    simp only [jalousieref08_Same.l0] at H
    by_cases c4 : x5_1 < (l0.length : Int)
    ·rw [if_pos c4] at H
     have c4b0 : decide (x5_1 < (l0.length : Int)) = true := decide_eq_true c4
     clear c4
     by_cases c5 : 0 ≤ x5_1
     ·rw [if_pos c5] at H
      have c5b0 : decide (0 ≤ x5_1) = true := decide_eq_true c5
      clear c5
      by_cases c6 : x5_1 < (l1.length : Int)
      ·rw [if_pos c6] at H
       have c6b0 : decide (x5_1 < (l1.length : Int)) = true := decide_eq_true c6
       clear c6
       by_cases c7 : ((rd_T47 l0 x5_1).f0) = ((rd_T47 l1 x5_1).f0)
       ·rw [if_pos c7] at H
        have c7b0 : (((rd_T47 l0 x5_1).f0) == ((rd_T47 l1 x5_1).f0)) = true := beq_iff_eq.mpr c7
        have c7b1 : (((rd_T47 l0 x5_1).f0) != ((rd_T47 l1 x5_1).f0)) = false := bne_eq_false_iff_eq.mpr c7
        clear c7
        replace H := Option.bind_eq_some_iff.mp H
        obtain ⟨t254, A80, H⟩ := H
        replace H : (if t254 = true then (jalousieref08_Same.l0 k1 l0 l1 (wrap64 (x5_1 + 1))) else (some false)) = some r := H
        have A8 := Aside0.mk A80
        clear A80
        by_cases c9 : t254 = true
        ·subst c9
         have H1 : (jalousieref08_Same.l0 k1 l0 l1 (wrap64 (x5_1 + 1))) = some r := by rw [if_pos rfl] at H; exact H
         clear H
         have H := H1
         clear H1
         have H' := Aside0.mk H
         clear H
         have p250 : 0 ≤ (x5_1 : Int) := of_decide_eq_true (by first | (with_reducible assumption) | assumption)
         have q250 : x5_1 < (l0.length : Int) := of_decide_eq_true (by first | (with_reducible assumption) | assumption)
         obtain ⟨ad250, A250_1, c250_1, e250, hx250_0, hx250_1, hl250_1, hi250_1⟩ := at_T47 HR0.out x5_1 p250 q250
         cases e250
         have HR250_1 := Aside0.mk hi250_1
         have HC250_1 := Aside0.mk hl250_1
         clear hi250_1 hl250_1
         replace p250 := eq_true p250
         replace q250 := eq_true q250
         have p251 : 0 ≤ (x5_1 : Int) := of_decide_eq_true (by first | (with_reducible assumption) | assumption)
         have q251 : x5_1 < (l1.length : Int) := of_decide_eq_true (by first | (with_reducible assumption) | assumption)
         obtain ⟨ad251, A251_1, c251_1, e251, hx251_0, hx251_1, hl251_1, hi251_1⟩ := at_T47 HR1.out x5_1 p251 q251
         cases e251
         have HR251_1 := Aside0.mk hi251_1
         have HC251_1 := Aside0.mk hl251_1
         clear hi251_1 hl251_1
         replace p251 := eq_true p251
         replace q251 := eq_true q251
         have p252 : 0 ≤ (x5_1 : Int) := of_decide_eq_true (by first | (with_reducible assumption) | assumption)
         have q252 : x5_1 < (l0.length : Int) := of_decide_eq_true (by first | (with_reducible assumption) | assumption)
         obtain ⟨ad252, A252_1, c252_1, e252, hx252_0, hx252_1, hl252_1, hi252_1⟩ := at_T47 HR0.out x5_1 p252 q252
         obtain rfl : ad250 = ad252 := (by injection e252)
         have HR252_1 := Aside0.mk hi252_1
         have HC252_1 := Aside0.mk hl252_1
         clear hi252_1 hl252_1
         replace p252 := eq_true p252
         replace q252 := eq_true q252
         have ea_ := Option.some.inj (hx250_1.symm.trans hx252_1)
         injection ea_ with ea_ en_ ec_
         subst ea_
         subst ec_
         clear en_
         have p253 : 0 ≤ (x5_1 : Int) := of_decide_eq_true (by first | (with_reducible assumption) | assumption)
         have q253 : x5_1 < (l1.length : Int) := of_decide_eq_true (by first | (with_reducible assumption) | assumption)
         obtain ⟨ad253, A253_1, c253_1, e253, hx253_0, hx253_1, hl253_1, hi253_1⟩ := at_T47 HR1.out x5_1 p253 q253
         obtain rfl : ad251 = ad253 := (by injection e253)
         have HR253_1 := Aside0.mk hi253_1
         have HC253_1 := Aside0.mk hl253_1
         clear hi253_1 hl253_1
         replace p253 := eq_true p253
         replace q253 := eq_true q253
         have ea_ := Option.some.inj (hx251_1.symm.trans hx253_1)
         injection ea_ with ea_ en_ ec_
         subst ea_
         subst ec_
         clear en_
         go_wp2_with (first | (go_at_call 33; (with_reducible refine (jalousieref01_Same.calls k1 _ _ ((rd_T47 l0 x5_1).f1) _ _ ((rd_T47 l1 x5_1).f1) true _ ?side1 ?side2 ?side3 ?side4 A8.out).mono ?_); (case side1 => repeat (first | exact HR252_1.out | (with_reducible refine Kd.C_alloc ?_ _) | (with_reducible refine Kd.C_drewN ?_ _) | (with_reducible refine Kd.C_drew ?_))); (case side2 => exact HC252_1.out); (case side3 => repeat (first | exact HR253_1.out | (with_reducible refine Kd.C_alloc ?_ _) | (with_reducible refine Kd.C_drewN ?_ _) | (with_reducible refine Kd.C_drew ?_))); (case side4 => exact HC253_1.out); rintro e w' ⟨rfl, ⟨nd, rfl⟩⟩; (try first | exact ⟨rfl, _, World.drewN_drewN _ _ _⟩ | exact ⟨rfl, _, Eq.trans (World.drewN_drewN _ _ _) (congrArg (World.drewN _) (Nat.add_assoc _ _ _))⟩)))
         repeat (go_quiet (first | (go_at_call 33; (with_reducible refine (jalousieref01_Same.calls k1 _ _ ((rd_T47 l0 x5_1).f1) _ _ ((rd_T47 l1 x5_1).f1) true _ ?side1 ?side2 ?side3 ?side4 A8.out).mono ?_); (case side1 => repeat (first | exact HR252_1.out | (with_reducible refine Kd.C_alloc ?_ _) | (with_reducible refine Kd.C_drewN ?_ _) | (with_reducible refine Kd.C_drew ?_))); (case side2 => exact HC252_1.out); (case side3 => repeat (first | exact HR253_1.out | (with_reducible refine Kd.C_alloc ?_ _) | (with_reducible refine Kd.C_drewN ?_ _) | (with_reducible refine Kd.C_drew ?_))); (case side4 => exact HC253_1.out); rintro e w' ⟨rfl, ⟨nd, rfl⟩⟩; (try first | exact ⟨rfl, _, World.drewN_drewN _ _ _⟩ | exact ⟨rfl, _, Eq.trans (World.drewN_drewN _ _ _) (congrArg (World.drewN _) (Nat.add_assoc _ _ _))⟩))); try go_wp2_with (first | (go_at_call 33; (with_reducible refine (jalousieref01_Same.calls k1 _ _ ((rd_T47 l0 x5_1).f1) _ _ ((rd_T47 l1 x5_1).f1) true _ ?side1 ?side2 ?side3 ?side4 A8.out).mono ?_); (case side1 => repeat (first | exact HR252_1.out | (with_reducible refine Kd.C_alloc ?_ _) | (with_reducible refine Kd.C_drewN ?_ _) | (with_reducible refine Kd.C_drew ?_))); (case side2 => exact HC252_1.out); (case side3 => repeat (first | exact HR253_1.out | (with_reducible refine Kd.C_alloc ?_ _) | (with_reducible refine Kd.C_drewN ?_ _) | (with_reducible refine Kd.C_drew ?_))); (case side4 => exact HC253_1.out); rintro e w' ⟨rfl, ⟨nd, rfl⟩⟩; (try first | exact ⟨rfl, _, World.drewN_drewN _ _ _⟩ | exact ⟨rfl, _, Eq.trans (World.drewN_drewN _ _ _) (congrArg (World.drewN _) (Nat.add_assoc _ _ _))⟩))))
         go_roundg k1
         case measure => have := HK1.out; omega
         case rel => exact ⟨(wrap64 (x5_1 + 1)), (by first | rfl | (simp; done) | (simp [*]; done)), H', ⟨by have := HK1.out; omega⟩, by repeat (first | exact Drawn0.refl _ | apply Drawn0.step)⟩
        ·replace c9 := Bool.eq_false_iff.mpr c9
         subst c9
         have H1 : (some false) = some r := by rw [if_neg (show ¬ (false = true) by decide)] at H; exact H
         clear H
         have H := H1
         clear H1
         obtain rfl := Option.some.inj H
         have p250 : 0 ≤ (x5_1 : Int) := of_decide_eq_true (by first | (with_reducible assumption) | assumption)
         have q250 : x5_1 < (l0.length : Int) := of_decide_eq_true (by first | (with_reducible assumption) | assumption)
         obtain ⟨ad250, A250_1, c250_1, e250, hx250_0, hx250_1, hl250_1, hi250_1⟩ := at_T47 HR0.out x5_1 p250 q250
         cases e250
         have HR250_1 := Aside0.mk hi250_1
         have HC250_1 := Aside0.mk hl250_1
         clear hi250_1 hl250_1
         replace p250 := eq_true p250
         replace q250 := eq_true q250
         have p251 : 0 ≤ (x5_1 : Int) := of_decide_eq_true (by first | (with_reducible assumption) | assumption)
         have q251 : x5_1 < (l1.length : Int) := of_decide_eq_true (by first | (with_reducible assumption) | assumption)
         obtain ⟨ad251, A251_1, c251_1, e251, hx251_0, hx251_1, hl251_1, hi251_1⟩ := at_T47 HR1.out x5_1 p251 q251
         cases e251
         have HR251_1 := Aside0.mk hi251_1
         have HC251_1 := Aside0.mk hl251_1
         clear hi251_1 hl251_1
         replace p251 := eq_true p251
         replace q251 := eq_true q251
         have p252 : 0 ≤ (x5_1 : Int) := of_decide_eq_true (by first | (with_reducible assumption) | assumption)
         have q252 : x5_1 < (l0.length : Int) := of_decide_eq_true (by first | (with_reducible assumption) | assumption)
         obtain ⟨ad252, A252_1, c252_1, e252, hx252_0, hx252_1, hl252_1, hi252_1⟩ := at_T47 HR0.out x5_1 p252 q252
         obtain rfl : ad250 = ad252 := (by injection e252)
         have HR252_1 := Aside0.mk hi252_1
         have HC252_1 := Aside0.mk hl252_1
         clear hi252_1 hl252_1
         replace p252 := eq_true p252
         replace q252 := eq_true q252
         have ea_ := Option.some.inj (hx250_1.symm.trans hx252_1)
         injection ea_ with ea_ en_ ec_
         subst ea_
         subst ec_
         clear en_
         have p253 : 0 ≤ (x5_1 : Int) := of_decide_eq_true (by first | (with_reducible assumption) | assumption)
         have q253 : x5_1 < (l1.length : Int) := of_decide_eq_true (by first | (with_reducible assumption) | assumption)
         obtain ⟨ad253, A253_1, c253_1, e253, hx253_0, hx253_1, hl253_1, hi253_1⟩ := at_T47 HR1.out x5_1 p253 q253
         obtain rfl : ad251 = ad253 := (by injection e253)
         have HR253_1 := Aside0.mk hi253_1
         have HC253_1 := Aside0.mk hl253_1
         clear hi253_1 hl253_1
         replace p253 := eq_true p253
         replace q253 := eq_true q253
         have ea_ := Option.some.inj (hx251_1.symm.trans hx253_1)
         injection ea_ with ea_ en_ ec_
         subst ea_
         subst ec_
         clear en_
         go_wp2_with (first | (go_at_call 33; (with_reducible refine (jalousieref01_Same.calls k1 _ _ ((rd_T47 l0 x5_1).f1) _ _ ((rd_T47 l1 x5_1).f1) false _ ?side1 ?side2 ?side3 ?side4 A8.out).mono ?_); (case side1 => repeat (first | exact HR252_1.out | (with_reducible refine Kd.C_alloc ?_ _) | (with_reducible refine Kd.C_drewN ?_ _) | (with_reducible refine Kd.C_drew ?_))); (case side2 => exact HC252_1.out); (case side3 => repeat (first | exact HR253_1.out | (with_reducible refine Kd.C_alloc ?_ _) | (with_reducible refine Kd.C_drewN ?_ _) | (with_reducible refine Kd.C_drew ?_))); (case side4 => exact HC253_1.out); rintro e w' ⟨rfl, ⟨nd, rfl⟩⟩; (try first | exact ⟨rfl, _, World.drewN_drewN _ _ _⟩ | exact ⟨rfl, _, Eq.trans (World.drewN_drewN _ _ _) (congrArg (World.drewN _) (Nat.add_assoc _ _ _))⟩)))
         repeat (go_quiet (first | (go_at_call 33; (with_reducible refine (jalousieref01_Same.calls k1 _ _ ((rd_T47 l0 x5_1).f1) _ _ ((rd_T47 l1 x5_1).f1) false _ ?side1 ?side2 ?side3 ?side4 A8.out).mono ?_); (case side1 => repeat (first | exact HR252_1.out | (with_reducible refine Kd.C_alloc ?_ _) | (with_reducible refine Kd.C_drewN ?_ _) | (with_reducible refine Kd.C_drew ?_))); (case side2 => exact HC252_1.out); (case side3 => repeat (first | exact HR253_1.out | (with_reducible refine Kd.C_alloc ?_ _) | (with_reducible refine Kd.C_drewN ?_ _) | (with_reducible refine Kd.C_drew ?_))); (case side4 => exact HC253_1.out); rintro e w' ⟨rfl, ⟨nd, rfl⟩⟩; (try first | exact ⟨rfl, _, World.drewN_drewN _ _ _⟩ | exact ⟨rfl, _, Eq.trans (World.drewN_drewN _ _ _) (congrArg (World.drewN _) (Nat.add_assoc _ _ _))⟩))); try go_wp2_with (first | (go_at_call 33; (with_reducible refine (jalousieref01_Same.calls k1 _ _ ((rd_T47 l0 x5_1).f1) _ _ ((rd_T47 l1 x5_1).f1) false _ ?side1 ?side2 ?side3 ?side4 A8.out).mono ?_); (case side1 => repeat (first | exact HR252_1.out | (with_reducible refine Kd.C_alloc ?_ _) | (with_reducible refine Kd.C_drewN ?_ _) | (with_reducible refine Kd.C_drew ?_))); (case side2 => exact HC252_1.out); (case side3 => repeat (first | exact HR253_1.out | (with_reducible refine Kd.C_alloc ?_ _) | (with_reducible refine Kd.C_drewN ?_ _) | (with_reducible refine Kd.C_drew ?_))); (case side4 => exact HC253_1.out); rintro e w' ⟨rfl, ⟨nd, rfl⟩⟩; (try first | exact ⟨rfl, _, World.drewN_drewN _ _ _⟩ | exact ⟨rfl, _, Eq.trans (World.drewN_drewN _ _ _) (congrArg (World.drewN _) (Nat.add_assoc _ _ _))⟩))))
         go_ret
         exact ⟨by first | rfl | (simp; done) | (simp [*]; done), by repeat (first | exact Drawn0.refl _ | apply Drawn0.step)⟩
       ·rw [if_neg c7] at H
        have c7b0 : (((rd_T47 l0 x5_1).f0) == ((rd_T47 l1 x5_1).f0)) = false := beq_eq_false_iff_ne.mpr c7
        have c7b1 : (((rd_T47 l0 x5_1).f0) != ((rd_T47 l1 x5_1).f0)) = true := bne_iff_ne.mpr c7
        obtain rfl := Option.some.inj H
        have p250 : 0 ≤ (x5_1 : Int) := of_decide_eq_true (by first | (with_reducible assumption) | assumption)
        have q250 : x5_1 < (l0.length : Int) := of_decide_eq_true (by first | (with_reducible assumption) | assumption)
        obtain ⟨ad250, A250_1, c250_1, e250, hx250_0, hx250_1, hl250_1, hi250_1⟩ := at_T47 HR0.out x5_1 p250 q250
        cases e250
        have HR250_1 := Aside0.mk hi250_1
        have HC250_1 := Aside0.mk hl250_1
        clear hi250_1 hl250_1
        replace p250 := eq_true p250
        replace q250 := eq_true q250
        have p251 : 0 ≤ (x5_1 : Int) := of_decide_eq_true (by first | (with_reducible assumption) | assumption)
        have q251 : x5_1 < (l1.length : Int) := of_decide_eq_true (by first | (with_reducible assumption) | assumption)
        obtain ⟨ad251, A251_1, c251_1, e251, hx251_0, hx251_1, hl251_1, hi251_1⟩ := at_T47 HR1.out x5_1 p251 q251
        cases e251
        have HR251_1 := Aside0.mk hi251_1
        have HC251_1 := Aside0.mk hl251_1
        clear hi251_1 hl251_1
        replace p251 := eq_true p251
        replace q251 := eq_true q251
        go_wp2
        repeat (go_quiet (fail); try go_wp2)
        go_ret
        exact ⟨by first | rfl | (simp; done) | (simp [*]; done), by repeat (first | exact Drawn0.refl _ | apply Drawn0.step)⟩
      ·rw [if_neg c6] at H
       exact absurd H (by simp)
     ·rw [if_neg c5] at H
      exact absurd H (by simp)
    ·rw [if_neg c4] at H
     have c4b0 : decide (x5_1 < (l0.length : Int)) = false := decide_eq_false c4
     clear c4
     obtain rfl := Option.some.inj H
     go_wp2
     repeat (go_quiet (fail); try go_wp2)
     go_ret
     exact ⟨by first | rfl | (simp; done) | (simp [*]; done), by repeat (first | exact Drawn0.refl _ | apply Drawn0.step)⟩
 ·rw [if_neg c3] at H
  have c3b0 : ((l0.length : Int) == (l1.length : Int)) = false := beq_eq_false_iff_ne.mpr c3
  have c3b1 : ((l0.length : Int) != (l1.length : Int)) = true := bne_iff_ne.mpr c3
  have c3b2 : (l0.length == l1.length) = false := by first | simpa using c3 | (simp at c3 ⊢; omega)
  obtain rfl := Option.some.inj H
  go_enter Try.func20, Try.ntmps20
  go_wp2
  repeat (go_quiet (fail); try go_wp2)
  go_ret
  exact ⟨by first | rfl | (simp; done) | (simp [*]; done), by repeat (first | exact Drawn0.refl _ | apply Drawn0.step)⟩

end Go.Proofs.Ytfnbodjmmkjlcaa.H
end
