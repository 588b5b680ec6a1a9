/-
  What the claim needs of the words, of the walks and of the plain proofs, in one row (2).
-/
import Derived.Deep.RegionHeld3
import Derived.WalkLawsBesides
import Derived.WalkSpells
import Derived.RangeFuncNested
import Derived.RangeFuncBound
import Derived.RangeFuncCalls
import Derived.RangeFuncLeaves
import Derived.RangeFuncBox
import Derived.RangeFuncMany
import Derived.Shelf.Abstract
import Derived.OwnWalkIn
import Derived.TacticsInMore
import Derived.LoopNIn
import Derived.LoopIn
import Derived.Test.YtfnbodjmmkjlcaaZ0
import Derived.Test.YtfnbodjmmkjlcaaZ1
section
namespace Go.Proofs.Ytfnbodjmmkjlcaa.H
open Go.RowKit Go.Proofs.YtfnbodjmmkjlcaaW.PrintWords Go.Proofs.YtfnbodjmmkjlcaaW.PrintLast Go.Proofs.YtfnbodjmmkjlcaaW.PrintMore
attribute [local go_sem] max2_int min2_int max_two min_two max_three min_three max_four min_four   -- for this text's walks alone
set_option linter.unusedVariables false
set_option linter.unusedSimpArgs false

attribute [local go_sem 3000] hunk_Build.min2
set_option maxHeartbeats 4000000 in
set_option maxRecDepth 100000 in
theorem hunk_Build.begin_calls (w0 : World) (b : Nat) (kp : Nat → Prop) (c : Nat) (out : List S44) (now : List S47) (ah : List S66) (A : Option Addr) (ca : Nat) (w : World) (hBb : w0.heap.size ≤ b) (hkb : ¬ kp b) (hkl : ∀ k, kp k → k < w.heap.size)
  (ha : hunk_Build.At w0.heap.size b kp w c out now (.slice A ah.length ca)) (hC : Kd.C k66 w0 A ah.length ah) (hca : ah.length ≤ ca) (hbw : Below w0.heap.size w0 w) (h1 : now.length ≤ 1000000000) (h2 : ah.length ≤ 1000000000) (h3 : c ≤ 1000000000) :
  Calls Try.prog 69 #[.pointer (some ⟨b, 0, none⟩)] w fun e w' => e = .returned (.tuple #[]) ∧ hunk_Build.At w0.heap.size b kp w' c out (now ++ hunk_Build.lead c ah) (.slice none 0 0) ∧ Below w0.heap.size w w' ∧ (∀ k, kp k → w'.heap[k]? = w.heap[k]?) := by
 obtain ⟨vo, vn, hb, hvo, hvn⟩ := ha
 obtain ⟨An, cn, rfl⟩ := Kd.R_slice hvn
 have hx0 : w.cell? ⟨b, 0, none⟩ = some (.int .i64 (c : Int)) := (blk_cell hb 0).trans rfl
 have hx2 : w.cell? ⟨b, 2, none⟩ = some (.slice An now.length cn) := (blk_cell hb 2).trans rfl
 have hx5 : w.cell? ⟨b, 5, none⟩ = some (.slice A ah.length ca) := (blk_cell hb 5).trans rfl
 have hf2 := blk_frozen hb 2
 have hf5 := blk_frozen hb 5
 by_cases hk : 0 < min c ah.length
 ·have hr : hunk_Build.lead c ah = [⟨1, ah.drop (ah.length - min c ah.length)⟩] := if_pos hk
  rw [hr]
  obtain ⟨q, hq⟩ : ∃ q : Nat, q = hunk_Build.mnn c ah.length := ⟨_, rfl⟩
  have hq2 : q = min c ah.length := hq
  rw [← hq2] at hk ⊢
  have hk' : decide (0 < hunk_Build.mnn c ah.length) = true := decide_eq_true (by rw [← hq]; exact hk)
  obtain ⟨m, hm⟩ : ∃ m : Nat, m = ah.length - q := ⟨_, rfl⟩
  rw [← hm]
  obtain ⟨dl, Ad, cd, hdl, hcut, hCd, hcd⟩ := hunk_Build.cut_tail w0 A ca ah m (by omega) hca hC
  rw [← hdl]
  have HQ : Aside0 (wrap64 ((ah.length : Int) - (q : Int)) = (m : Int)) := ⟨by unfold wrap64; omega⟩
  have hdl2 : dl.length ≤ 1000000000 := by rw [hdl, List.length_drop]; omega
  have HQQ := Aside0.mk hq
  have HM := Aside0.mk hm
  clear hr hdl hq hq2 hm
  go_enter Try.func69, Try.ntmps69
  go_wp2
  rw [← HQQ.out]
  refine start_ (n := 20) (S := fun w' => w'.cell? ⟨b, 2, none⟩ = some (.slice An now.length cn) ∧ w'.cell? ⟨b, 5, none⟩ = some (.slice A ah.length ca) ∧ w'.frozen? ⟨b, 2, none⟩ = false) (ds := [19]) (Sq.bl 20 0) (by kernel_rfl) rfl (by rfl) ⟨hx2, hx5, hf2⟩ (fun hS => ?_)
  refine Sq.pu (v := ?_) (a' := ?_) 0 17 (Sq.bl 20 1) (by kernel_rfl) rfl rfl (fun _ _ _ h => h) (by rfl) ?_ ?_ ?_; rotate_left; (· intro w'; go_simp; with_reducible rfl); rotate_left; (· simp only [Act.put, List.setIfInBounds_toArray, List.set_cons_zero, List.set_cons_succ, i64_w, i32_w, HQ.out]; rfl)
  refine Sq.pu (v := ?_) (a' := ?_) 1 18 (Sq.bl 20 3) (by kernel_rfl) rfl rfl (fun _ _ _ h => h) (by rfl) ?_ ?_ ?_; rotate_left; (· intro w'; go_simp; with_reducible rfl); rotate_left; (· simp only [Act.put, List.setIfInBounds_toArray, List.set_cons_zero, List.set_cons_succ, i64_w, i32_w, HQ.out]; rfl)
  refine Sq.pu (v := ?_) (a' := ?_) 2 19 (Sq.bl 20 7) (by kernel_rfl) rfl rfl (fun _ _ _ h => h) (by rfl) ?_ ?_ ?_; rotate_left; (· intro w'; go_simp; with_reducible rfl); rotate_left; (· simp only [Act.put, List.setIfInBounds_toArray, List.set_cons_zero, List.set_cons_succ, i64_w, i32_w, HQ.out]; rfl)
  refine Sq.pu (v := ?_) (a' := ?_) 3 20 (Sq.bl 20 15) (by kernel_rfl) rfl rfl (fun _ _ _ h => h) (by rfl) ?_ ?_ ?_; rotate_left; (· intro w'; go_simp; with_reducible rfl); rotate_left; (· simp only [Act.put, List.setIfInBounds_toArray, List.set_cons_zero, List.set_cons_succ, i64_w, i32_w, HQ.out]; rfl)
  refine Sq.pu (v := ?_) (a' := ?_) 5 22 (Sq.bl 20 47) (by kernel_rfl) rfl rfl (fun _ _ _ h => h) (by rfl) ?_ ?_ ?_; rotate_left; (· intro w'; go_simp; with_reducible rfl); rotate_left; (· simp only [Act.put, List.setIfInBounds_toArray, List.set_cons_zero, List.set_cons_succ, i64_w, i32_w, HQ.out]; rfl)
  refine Sq.pu (v := ?_) (a' := ?_) 6 23 (Sq.bl 20 111) (by kernel_rfl) rfl rfl (fun _ _ _ h => h) (by rfl) ?_ ?_ ?_; rotate_left; (· intro w'; go_simp; with_reducible rfl); rotate_left; (· simp only [Act.put, List.setIfInBounds_toArray, List.set_cons_zero, List.set_cons_succ, i64_w, i32_w, HQ.out]; rfl)
  refine Sq.pu (v := ?_) (a' := ?_) 7 24 (Sq.bl 20 239) (by kernel_rfl) rfl rfl (fun _ _ _ h => h) (by rfl) ?_ ?_ ?_; rotate_left; (· intro w'; go_simp; with_reducible rfl); rotate_left; (· simp only [Act.put, List.setIfInBounds_toArray, List.set_cons_zero, List.set_cons_succ, i64_w, i32_w, HQ.out]; rfl)
  refine Sq.pu (v := ?_) (a' := ?_) 9 26 (Sq.bl 20 751) (by kernel_rfl) rfl rfl (fun _ _ _ h => h) (by rfl) ?_ ?_ ?_; rotate_left; (· intro w'; go_simp; with_reducible rfl); rotate_left; (· simp only [Act.put, List.setIfInBounds_toArray, List.set_cons_zero, List.set_cons_succ, i64_w, i32_w, HQ.out]; rfl)
  refine Sq.pu (v := ?_) (a' := ?_) 10 27 (Sq.bl 20 1775) (by kernel_rfl) rfl rfl (fun _ _ _ h => h) (by rfl) ?_ ?_ ?_; rotate_left; (· intro w'; go_simp; with_reducible rfl); rotate_left; (· simp only [Act.put, List.setIfInBounds_toArray, List.set_cons_zero, List.set_cons_succ, i64_w, i32_w, HQ.out]; rfl)
  refine Sq.pu (v := ?_) (a' := ?_) 11 28 (Sq.bl 20 3823) (by kernel_rfl) rfl rfl (fun _ _ _ h => h) (by rfl) ?_ ?_ ?_; rotate_left; (· intro w'; go_simp; with_reducible rfl); rotate_left; (· simp only [Act.put, List.setIfInBounds_toArray, List.set_cons_zero, List.set_cons_succ, i64_w, i32_w, HQ.out]; rfl)
  refine take_ (i := 4) (N := some 21) (v := ?_) (a' := ?_) (Sq.bl 20 3839) rfl rfl (by kernel_rfl) (fun _ _ _ h => h) (Or.inl ⟨by rfl, ?_⟩) hS ?_ ?_; rotate_left; (· rintro w' ⟨s0, s1, s2⟩; go_simp; with_reducible rfl); rotate_left; (· simp only [Act.put, List.setIfInBounds_toArray, List.set_cons_zero, List.set_cons_succ, i64_w, i32_w, HQ.out]; rfl)
  refine take_ (i := 8) (N := some 25) (v := ?_) (a' := ?_) (Sq.bl 20 4095) rfl rfl (by kernel_rfl) (fun _ _ _ h => h) (Or.inl ⟨by rfl, ?_⟩) hS ?_ ?_; rotate_left; (· rintro w' ⟨s0, s1, s2⟩; go_simp; with_reducible rfl); rotate_left; (· simp only [Act.put, List.setIfInBounds_toArray, List.set_cons_zero, List.set_cons_succ, i64_w, i32_w, HQ.out]; rfl)
  refine Sq.pu (v := ?_) (a' := ?_) 12 29 (Sq.bl 20 8191) (by kernel_rfl) rfl rfl (fun _ _ _ h => h) (by rfl) ?_ ?_ ?_; rotate_left; (· intro w'; go_simp; with_reducible rfl); rotate_left; (· simp only [Act.put, List.setIfInBounds_toArray, List.set_cons_zero, List.set_cons_succ, i64_w, i32_w, HQ.out]; rfl)
  refine one_ (i := 13) (N := some 30) (Sq.bl 20 16383) rfl rfl (by kernel_rfl) (by decide) (fun K hK => ?_)
  refine goes_ Try.func52 (by kernel_rfl) rfl #[.slice Ad dl.length cd] (by rfl) rfl rfl (by (try simp only [List.map_toArray, List.map_cons, List.map_nil]); first | done | rfl | skip) ?_
  refine (api_Line_52.made Ad cd dl _ (Kd.C_below hCd (hbw.trans (Below.drew (Below.refl _ _)))) hcd (by omega)).mono ?_
  rintro e w2 ⟨v0, rfl, ho, hbel⟩
  obtain ⟨A3, c3, rfl⟩ := Kd.R_slice ho
  have hs2 : w.heap.size ≤ w2.heap.size := hbel.size
  have hb2 := (hbel.block b (blk_lt hb)).trans hb
  refine ⟨_, rfl, hK.out _ _ ⟨(blk_cell hb2 2).trans rfl, (blk_cell hb2 5).trans rfl, blk_frozen hb2 2⟩ (fun hS => ?_)⟩
  clear hK K
  refine norm_ (a' := ?_) ?_ ?_
  rotate_left
  ·show Act.put _ (some 30) _ = _
   simp only [Act.put, List.setIfInBounds_toArray, List.set_cons_zero, List.set_cons_succ, i64_w, i32_w, HQ.out]
   rfl
  refine Sq.pu (v := ?_) (a' := ?_) 14 31 (Sq.bl 20 32767) (by kernel_rfl) rfl rfl (fun _ _ _ h => h) (by rfl) ?_ ?_ ?_; rotate_left; (· intro w'; go_simp; with_reducible rfl); rotate_left; (· simp only [Act.put, List.setIfInBounds_toArray, List.set_cons_zero, List.set_cons_succ, i64_w, i32_w, HQ.out]; rfl)
  refine one_ (i := 15) (N := some 32) (Sq.bl 20 65535) rfl rfl (by kernel_rfl) (by decide) (fun K hK => ?_)
  refine value_ (w1 := ?_) (v := ?_) (by rfl) rfl ?_ ?_
  rotate_left 2
  ·go_simp
   constructor
   ·rfl
   ·rfl
  have hb3 := blk_alloc hb2 (.cells #[.int .i64 1, .slice A3 dl.length c3] 47)
  refine hK.out _ _ ⟨(blk_cell hb3 2).trans rfl, (blk_cell hb3 5).trans rfl, blk_frozen hb3 2⟩ (fun hS => ?_)
  clear hK K
  refine norm_ (a' := ?_) ?_ ?_
  rotate_left
  ·show Act.put _ (some 32) _ = _
   simp only [Act.put, List.setIfInBounds_toArray, List.set_cons_zero, List.set_cons_succ, i64_w, i32_w, HQ.out]
   rfl
  refine one_ (i := 16) (N := some 33) (Sq.bl 20 131071) rfl rfl (by kernel_rfl) (by decide) (fun K hK => ?_)
  refine Kd.R_append_step k47 (w0 := w) w0.heap.size (by rfl) (.tmp 21) (.tmp 32) 22 47 (.agg #[(.int .i64 0), (.slice none 0 0)]) 32 rfl Try.underlying22 info47 rfl (by decide) (by omega) (.slice An now.length cn) now (⟨1, dl⟩ : S47) [.int .i64 1, .slice A3 dl.length c3] (fun k => ¬ kp k ∧ some k ≠ vo.ownBlock) (fun k => w.heap.size ≤ k ∧ k < w2.heap.size) rfl rfl ?aP ?aK ?aF ?aO ?aB ?aS ?aL ?_
  (case aP => exact k47_mkM _ _ _ (⟨1, dl⟩ : S47) (Kd.R_lower (Kd.R_mono (Kd.R_bound ho) (fun k hk => ⟨hk.2.1, hk.2.2.1⟩)) (by have := hbw.size; have : w.drew.heap.size = w.heap.size := rfl; omega)))
  (case aK => exact fun k hk => ⟨⟨fun e => by have := hkl k e; omega, fun e => by have := Kd.R_lt hvo k e.symm; omega⟩, fun e => by have := Kd.R_lt hvn k e.symm; omega⟩)
  (case aF => exact fun k hk => ⟨fun e => by have := hkl k e; omega, fun e => by have := Kd.R_lt hvo k e.symm; omega⟩)
  (case aO => exact Kd.R_below hvn (below_then (below_drew (Below.refl _ _)) (Nat.le_refl _) hbel))
  (case aB => exact (below_then (below_drew (Below.refl _ _)) (Nat.le_refl _) hbel).mono hbw.size)
  (case aS => exact (by have := hbw.size; omega))
  (case aL => omega)
  intro v4 w4 ho4 hbel4 hg4 hat4
  obtain ⟨A4, c4, rfl⟩ := Kd.R_slice ho4
  have hneb : some b ≠ (Value.slice An now.length cn).ownBlock := Kd.R_ne hvn hb (by decide)
  have hb4 := (hg4.block b (blk_lt hb2) hneb).trans hb2
  refine hK.out _ _ ⟨(blk_cell hb4 2).trans rfl, (blk_cell hb4 5).trans rfl, blk_frozen hb4 2⟩ (fun hS => ?_)
  have hbel2 : Below w.heap.size w w2 := below_then (below_drew (Below.refl _ _)) (Nat.le_refl _) hbel
  have hdone := hunk_Build.put_done hBb hkb hkl hvo hvn hbel2 hb4 ho4 hbel4 hg4 hat4
  rw [List.length_append] at hdone
  clear hK K
  refine norm_ (a' := ?_) ?_ ?_
  rotate_left
  ·show Act.put _ (some 33) _ = _
   simp only [Act.put, List.setIfInBounds_toArray, List.set_cons_zero, List.set_cons_succ, i64_w, i32_w, HQ.out]
   rfl
  refine Sq.pu (v := ?_) (a' := ?_) 17 34 (Sq.bl 20 262143) (by kernel_rfl) rfl rfl (fun _ _ _ h => h) (by rfl) ?_ ?_ ?_; rotate_left; (· intro w'; go_simp; with_reducible rfl); rotate_left; (· simp only [Act.put, List.setIfInBounds_toArray, List.set_cons_zero, List.set_cons_succ, i64_w, i32_w, HQ.out]; rfl)
  refine Sq.pu (v := ?_) (a' := ?_) 18 35 (Sq.bl 20 524287) (by kernel_rfl) rfl rfl (fun _ _ _ h => h) (by rfl) ?_ ?_ ?_; rotate_left; (· intro w'; go_simp; with_reducible rfl); rotate_left; (· simp only [Act.put, List.setIfInBounds_toArray, List.set_cons_zero, List.set_cons_succ, i64_w, i32_w, HQ.out]; rfl)
  refine last_ (i := 19) (N := none) (Sq.bl 20 1048575) rfl rfl (by kernel_rfl) (by decide) (fun K hK => ?_)
  refine skip_ (w1 := ?_) (by rfl) rfl ?_ ?_
  rotate_left
  ·go_simp
   rfl
  refine hK.out _ _ ?_
  clear hK K
  refine done_ (by kernel_rfl) ?_
  obtain ⟨hA5, hB5, hk5⟩ := hdone
  obtain ⟨vo5, vn5, hb5⟩ := hA5.blk
  have hA6 := Aside0.mk hA5
  have hB6 := Aside0.mk hB5
  have hk6 := Aside0.mk hk5
  have hc6 := blk_cell hb5 5
  have hf6 := blk_frozen hb5 5
  clear hA5 hB5 hk5
  try simp only [List.length_singleton] at hA6 hB6 hk6 hb5 hc6 hf6
  generalize w4.setCell ⟨b, 2, none⟩ (.slice A4 (now.length + 1) c4) = w5 at hA6 hB6 hk6 hb5 hc6 hf6 ⊢
  go_wp2
  go_end0
  exact ⟨rfl, hA6.out.setva _, hB6.out.setCell hBb _, hunk_Build.keep_set hkb hk6.out _⟩
 ·have hr : hunk_Build.lead c ah = [] := if_neg hk
  rw [hr, List.append_nil]
  have hk' : decide (0 < hunk_Build.mnn c ah.length) = false := decide_eq_false hk
  clear hr hk
  go_enter Try.func69, Try.ntmps69
  go_wp2
  go_end0
  exact ⟨rfl, ⟨vo, _, (blk_set hb 5 _).trans rfl, Kd.R_set hvo hb (by decide) 5 _, Kd.R_set hvn hb (by decide) 5 _⟩, (Below.refl _ _).setCell (by omega) _, fun k hk => Below.heap_setCell w ⟨b, 5, none⟩ _ k (fun e => hkb ((show k = b from e) ▸ hk))⟩


end Go.Proofs.Ytfnbodjmmkjlcaa.H
end
section
namespace Go.Proofs.Ytfnbodjmmkjlcaa.H
open Go.RowKit Go.Proofs.YtfnbodjmmkjlcaaW.PrintWords Go.Proofs.YtfnbodjmmkjlcaaW.PrintLast Go.Proofs.YtfnbodjmmkjlcaaW.PrintMore
attribute [local go_sem] max2_int min2_int max_two min_two max_three min_three max_four min_four   -- for this text's walks alone
set_option linter.unusedVariables false
set_option linter.unusedSimpArgs false

/-- What a step makes of a builder's state. -/
def hunk_Build.takep (k c : Nat) (s : hunk_Build.St) (x : S47) (last : Bool) : Option hunk_Build.St :=
 if x.f0 = 1 then
  (if s.now.length = 0 then some ⟨s.out, s.now, x.f1⟩
  else if last = true ∨ 2 * c < x.f1.length then (hunk_Build.hk k (s.now ++ hunk_Build.trail c x.f1)).bind fun h => some ⟨s.out ++ [h], [], x.f1⟩
  else some ⟨s.out, s.now ++ [x], s.ah⟩)
 else if s.now.length = 0 then some ⟨s.out, s.now ++ hunk_Build.lead c s.ah ++ [x], []⟩
 else some ⟨s.out, s.now ++ [x], s.ah⟩
def hunk_Build.Is (w0 : World) (b : Nat) (kp : Nat → Prop) (w : World) (c : Nat) (s : hunk_Build.St) : Prop :=
 ∃ (A : Option Addr) (ca : Nat), hunk_Build.At w0.heap.size b kp w c s.out s.now (.slice A s.ah.length ca) ∧ Kd.C k66 w0 A s.ah.length s.ah ∧ s.ah.length ≤ ca
theorem hunk_Build.At.free {B b : Nat} {kp : Nat → Prop} {w : World} {c : Nat} {out : List S44} {now : List S47} {va : Value} (h : hunk_Build.At B b kp w c out now va) : hunk_Build.At B b (fun _ => False) w c out now va := by
 obtain ⟨vo, vn, hb, hvo, hvn⟩ := h
 exact ⟨vo, vn, hb, Kd.R_mono hvo (fun k hk => ⟨fun h => h, hk.2⟩), Kd.R_mono hvn (fun k hk => ⟨fun h => h, hk.2⟩)⟩
theorem hunk_Build.At.boxed {B b : Nat} {w : World} {c : Nat} {out : List S44} {now : List S47} {va : Value} (h : hunk_Build.At B b (fun _ => False) w c out now va) (o : Obj) : hunk_Build.At B b (fun k => k = w.heap.size) (w.alloc o) c out now va := by
 obtain ⟨vo, vn, hb, hvo, hvn⟩ := h
 exact ⟨vo, vn, blk_alloc hb o, Kd.R_alloc (Kd.R_mono (Kd.R_bound hvo) (fun k hk => ⟨by have := hk.2.2.1; omega, hk.1.2⟩)) o, Kd.R_alloc (Kd.R_mono (Kd.R_bound hvn) (fun k hk => ⟨by have := hk.2.2.1; omega, hk.1.2⟩)) o⟩
set_option maxHeartbeats 4000000 in
set_option maxRecDepth 100000 in
theorem hunk_Build.take_calls (k : Nat) (w0 : World) (b : Nat) (c : Nat) (s s' : hunk_Build.St) (x : S47) (last : Bool) (A : Option Addr) (cx : Nat) (w : World) (hBb : w0.heap.size ≤ b)
  (ha : hunk_Build.Is w0 b (fun _ => False) w c s) (hCx : Kd.C k66 w0 A x.f1.length x.f1) (hcx : x.f1.length ≤ cx) (hbw : Below w0.heap.size w0 w) (h1 : s.now.length ≤ 100000000) (h2 : s.ah.length ≤ 1000000000) (h3 : c ≤ 1000000) (h4 : s.out.length ≤ 1000000000) (h5 : x.f1.length ≤ 1000000000) (hT : hunk_Build.takep k c s x last = some s') :
  Calls Try.prog 43 #[.pointer (some ⟨b, 0, none⟩), .agg #[.int .i64 x.f0, .slice A x.f1.length cx], .bool last] w fun e w' => e = .returned (.tuple #[]) ∧ hunk_Build.Is w0 b (fun _ => False) w' c s' ∧ Below w0.heap.size w w' := by
 obtain ⟨out, now, ah⟩ := s
 obtain ⟨Aa, ca, hat, hCa, hca⟩ := ha
 simp only at hat hCa hca h1 h2 h4
 unfold hunk_Build.takep at hT
 simp only at hT
 obtain ⟨o, ho⟩ : ∃ o : Obj, o = .cells #[.int .i64 x.f0, .slice A x.f1.length cx] 47 (0, 0) := ⟨_, rfl⟩
 obtain ⟨kp, hkp⟩ : ∃ kp : Nat → Prop, kp = fun k => k = w.heap.size := ⟨_, rfl⟩
 have hat1 : hunk_Build.At w0.heap.size b kp (w.alloc o) c out now (.slice Aa ah.length ca) := by
  rw [hkp]
  exact hat.boxed o
 have hlt : b < w.heap.size := by
  obtain ⟨_, _, hb⟩ := hat.blk
  exact blk_lt hb
 have hkb : ¬ kp b := by
  rw [hkp]
  show ¬ b = w.heap.size
  omega
 have hkX : kp w.heap.size := by rw [hkp]
 have hkl : ∀ k, kp k → k < (w.alloc o).heap.size := by
  rw [hkp]
  rintro k rfl
  simp
 have hX : (w.alloc o).heap[w.heap.size]? = some o := World.alloc_heap_new w o
 have hB1 : Below w0.heap.size w (w.alloc o) := (below_alloc (Below.refl _ _) o).mono hbw.size
 have hbw1 := hbw.trans hB1
 have hCx0 := Aside0.mk hCx
 have hcx0 := Aside0.mk hcx
 have hat0 := Aside0.mk hat1
 have hbw0 := Aside0.mk hbw
 have hB10 := Aside0.mk hB1
 have hbw10 := Aside0.mk hbw1
 have hX0 := Aside0.mk hX
 have hCa0 := Aside0.mk hCa
 have hca0 := Aside0.mk hca
 have hkb0 := Aside0.mk hkb
 have hkl0 := Aside0.mk hkl
 have hkX0 := Aside0.mk hkX
 clear hCx hcx hat hbw hB1 hbw1 hX hCa hca hkb hlt hkl hkX hkp hat1
 by_cases hd : x.f0 = 1
 ·rw [if_pos hd] at hT
  have hd1 : (x.f0 != 1) = false := by simp [hd]
  by_cases hn : now.length = 0
  ·rw [if_pos hn] at hT
   have HT := Aside0.mk (Option.some.inj hT)
   have hn' : (((now.length : Nat) : Int) == 0) = true := beq_iff_eq.mpr (by omega)
   have Hd := Aside0.mk hd
   clear hT hd hn
   subst ho
   go_enter Try.func43, Try.ntmps43
   go_wp2_with (first | (go_at_call 68; refine (hunk_changes.calls x.f0 A cx x.f1 false _ (Kd.C_below hCx0.out hbw10.out) hcx0.out (by unfold hunk_changes.f; rw [hd1])).mono ?_; rintro e W ⟨rfl, hbW⟩; obtain ⟨vo, vn, hb, hvo, hvn⟩ := hat0.out; obtain ⟨An, cn, rfl⟩ := Kd.R_slice hvn; have hbW2 := (hbW.block b (blk_lt hb)).trans hb; have hXW := (hbW.block _ (blk_lt hX0.out)).trans hX0.out; have hc2 : W.cell? ⟨b, 2, none⟩ = some (.slice An now.length cn) := (blk_cell hbW2 2).trans rfl; have hc0 : W.cell? ⟨b, 0, none⟩ = some (.int .i64 (c : Int)) := (blk_cell hbW2 0).trans rfl; have hc5 := blk_cell hbW2 5; have hf5 := blk_frozen hbW2 5; have hcX0 : W.cell? ⟨w.heap.size, 0, none⟩ = some (.int .i64 x.f0) := (blk_cell hXW 0).trans rfl; have hcX1 : W.cell? ⟨w.heap.size, 1, none⟩ = some (.slice A x.f1.length cx) := (blk_cell hXW 1).trans rfl; have HbW := Aside0.mk hbW; have HbW2 := Aside0.mk hbW2; have HXW := Aside0.mk hXW; have Hvo := Aside0.mk (Kd.R_below hvo hbW); have Hvn := Aside0.mk (Kd.R_below hvn hbW); clear hb hvo hvn hbW hbW2 hXW))
   go_wp2
   go_end0
   have hkl : ∀ k, kp k → k < W.heap.size := fun k hk => Nat.lt_of_lt_of_le (hkl0.out k hk) HbW.out.size
   have hBW : Below w0.heap.size w W := hB10.out.trans (HbW.out.mono hbw10.out.size)
   refine ⟨rfl, ?_, hBW.setCell hBb _⟩
   rw [← HT.out]
   exact ⟨A, cx, (hunk_Build.At.free ⟨vo, _, HbW2.out, Hvo.out, Hvn.out⟩).setva _, hCx0.out, hcx0.out⟩
  ·rw [if_neg hn] at hT
   have hn' : (((now.length : Nat) : Int) == 0) = false := beq_eq_false_iff_ne.mpr (by omega)
   by_cases hq : last = true ∨ 2 * c < x.f1.length
   ·rw [if_pos hq] at hT
    obtain ⟨h, hh, hT⟩ := Option.bind_eq_some_iff.1 hT
    have HT := Aside0.mk (Option.some.inj hT)
    unfold hunk_Build.hk at hh
    obtain ⟨⟨r1, r2, r3⟩, hsd, hh⟩ := Option.bind_eq_some_iff.1 hh
    have Hh := Aside0.mk (Option.some.inj hh)
    have Hsd := Aside0.mk hsd
    have Hd := Aside0.mk hd
    clear hT hd hn hh hsd
    cases last with
    | true =>
     clear hq
     subst ho
     go_enter Try.func43, Try.ntmps43
     go_wp2_with (first | (go_at_call 68; refine (hunk_changes.calls x.f0 A cx x.f1 false _ (Kd.C_below hCx0.out hbw10.out) hcx0.out (by unfold hunk_changes.f; rw [hd1])).mono ?_; rintro e W ⟨rfl, hbW⟩; obtain ⟨vo, vn, hb, hvo, hvn⟩ := hat0.out; obtain ⟨An, cn, rfl⟩ := Kd.R_slice hvn; have hbW2 := (hbW.block b (blk_lt hb)).trans hb; have hXW := (hbW.block _ (blk_lt hX0.out)).trans hX0.out; have hc2 : W.cell? ⟨b, 2, none⟩ = some (.slice An now.length cn) := (blk_cell hbW2 2).trans rfl; have hc0 : W.cell? ⟨b, 0, none⟩ = some (.int .i64 (c : Int)) := (blk_cell hbW2 0).trans rfl; have hc5 := blk_cell hbW2 5; have hf5 := blk_frozen hbW2 5; have hcX0 : W.cell? ⟨w.heap.size, 0, none⟩ = some (.int .i64 x.f0) := (blk_cell hXW 0).trans rfl; have hcX1 : W.cell? ⟨w.heap.size, 1, none⟩ = some (.slice A x.f1.length cx) := (blk_cell hXW 1).trans rfl; have HbW := Aside0.mk hbW; have HbW2 := Aside0.mk hbW2; have HXW := Aside0.mk hXW; have Hvo := Aside0.mk (Kd.R_below hvo hbW); have Hvn := Aside0.mk (Kd.R_below hvn hbW); clear hb hvo hvn hbW hbW2 hXW))
     go_wp2
     have hkl : ∀ k, kp k → k < W.heap.size := fun k hk => Nat.lt_of_lt_of_le (hkl0.out k hk) HbW.out.size
     have hBW : Below w0.heap.size w W := hB10.out.trans (HbW.out.mono hbw10.out.size)
     refine start_ (n := 13) (S := fun w' => w'.cell? ⟨b, 0, none⟩ = some (.int .i64 (c : Int)) ∧ w'.cell? ⟨w.heap.size, 1, none⟩ = some (.slice A x.f1.length cx)) (ds := []) (Sq.bl 13 0) (by kernel_rfl) rfl (by rfl) ⟨hc0, hcX1⟩ (fun hS => ?_)
     refine Sq.pu (v := ?_) (a' := ?_) 0 60 (Sq.bl 13 1) (by kernel_rfl) rfl rfl (fun _ _ _ h => h) (by rfl) ?_ ?_ ?_; rotate_left; (· intro w'; go_simp; with_reducible rfl); rotate_left; (· simp only [Act.put,zp1,zp2,zp3,zp4,zp5]; rfl)
     refine Sq.pu (v := ?_) (a' := ?_) 1 61 (Sq.bl 13 3) (by kernel_rfl) rfl rfl (fun _ _ _ h => h) (by rfl) ?_ ?_ ?_; rotate_left; (· intro w'; go_simp; with_reducible rfl); rotate_left; (· simp only [Act.put,zp1,zp2,zp3,zp4,zp5]; rfl)
     refine pure_ (i := 2) (N := some 62) (v := undef) (a' := ?_) (Sq.bl 13 7) rfl rfl (by kernel_rfl) (fun _ _ _ h => h) (Or.inr ⟨by rfl, rfl⟩) ?_ ?_
     rotate_left
     ·simp only [Act.put,zp1,zp2,zp3,zp4,zp5]
      rfl
     refine pure_ (i := 5) (N := some 65) (v := undef) (a' := ?_) (Sq.bl 13 39) rfl rfl (by kernel_rfl) (fun _ _ _ h => h) (Or.inr ⟨by rfl, rfl⟩) ?_ ?_
     rotate_left
     ·simp only [Act.put,zp1,zp2,zp3,zp4,zp5]
      rfl
     refine pure_ (i := 6) (N := some 66) (v := undef) (a' := ?_) (Sq.bl 13 103) rfl rfl (by kernel_rfl) (fun _ _ _ h => h) (Or.inr ⟨by rfl, rfl⟩) ?_ ?_
     rotate_left
     ·simp only [Act.put,zp1,zp2,zp3,zp4,zp5]
      rfl
     refine pure_ (i := 7) (N := some 67) (v := undef) (a' := ?_) (Sq.bl 13 231) rfl rfl (by kernel_rfl) (fun _ _ _ h => h) (Or.inr ⟨by rfl, rfl⟩) ?_ ?_
     rotate_left
     ·simp only [Act.put,zp1,zp2,zp3,zp4,zp5]
      rfl
     refine pure_ (i := 3) (N := some 63) (v := undef) (a' := ?_) (Sq.bl 13 239) rfl rfl (by kernel_rfl) (fun _ _ _ h => h) (Or.inr ⟨by rfl, rfl⟩) ?_ ?_
     rotate_left
     ·simp only [Act.put,zp1,zp2,zp3,zp4,zp5]
      rfl
     refine pure_ (i := 4) (N := some 64) (v := undef) (a' := ?_) (Sq.bl 13 255) rfl rfl (by kernel_rfl) (fun _ _ _ h => h) (Or.inr ⟨by rfl, rfl⟩) ?_ ?_
     rotate_left
     ·simp only [Act.put,zp1,zp2,zp3,zp4,zp5]
      rfl
     refine pure_ (i := 8) (N := some 68) (v := undef) (a' := ?_) (Sq.bl 13 511) rfl rfl (by kernel_rfl) (fun _ _ _ h => h) (Or.inr ⟨by rfl, rfl⟩) ?_ ?_
     rotate_left
     ·simp only [Act.put,zp1,zp2,zp3,zp4,zp5]
      rfl
     refine pure_ (i := 9) (N := some 69) (v := undef) (a' := ?_) (Sq.bl 13 1023) rfl rfl (by kernel_rfl) (fun _ _ _ h => h) (Or.inr ⟨by rfl, rfl⟩) ?_ ?_
     rotate_left
     ·simp only [Act.put,zp1,zp2,zp3,zp4,zp5]
      rfl
     refine pure_ (i := 10) (N := some 70) (v := undef) (a' := ?_) (Sq.bl 13 2047) rfl rfl (by kernel_rfl) (fun _ _ _ h => h) (Or.inr ⟨by rfl, rfl⟩) ?_ ?_
     rotate_left
     ·simp only [Act.put,zp1,zp2,zp3,zp4,zp5]
      rfl
     refine Sq.pu (v := ?_) (a' := ?_) 11 71 (Sq.bl 13 4095) (by kernel_rfl) rfl rfl (fun _ _ _ h => h) (by rfl) ?_ ?_ ?_; rotate_left; (· intro w'; go_simp; with_reducible rfl); rotate_left; (· simp only [Act.put,zp1,zp2,zp3,zp4,zp5]; rfl)
     refine Sq.pu (v := ?_) (a' := ?_) 12 59 (Sq.bl 13 8191) (by kernel_rfl) rfl rfl (fun _ _ _ h => h) (by rfl) ?_ ?_ ?_; rotate_left; (· intro w'; go_simp; with_reducible rfl); rotate_left; (· simp only [Act.put,zp1,zp2,zp3,zp4,zp5]; rfl)
     refine done_ (by kernel_rfl) ?_
     have hb := blk_drew HbW2.out
     have hX := blk_drew HXW.out
     have hvo := Kd.R_drew Hvo.out
     have hvn := Kd.R_drew Hvn.out
     have hbw := (hbw0.out.trans hBW).drew
     have hBW1 := hBW.drew
     have hkl1 : ∀ k, kp k → k < W.drew.heap.size := hkl
     have hCx := hCx0.out
     have hcx := hcx0.out
     have hkb := hkb0.out
     have hkX := hkX0.out
     clear hkl hBW hc0 hc2 hc5 hf5 hcX0 hcX1 HbW2 HXW Hvo Hvn HbW
     generalize W.drew = W1 at hb hX hvo hvn hbw hBW1 hkl1 ⊢
     have hkl := hkl1
     have hBW := hBW1
     have hAW : hunk_Build.At w0.heap.size b kp W1 c out now (.slice Aa ah.length ca) := ⟨vo, _, hb, hvo, hvn⟩
     have HE := Aside0.mk (hunk_Build.end_calls k w0 b kp c out now x.f1 A cx (.slice Aa ah.length ca) r1 r2 r3 W1 hBb hkb hkl hAW hCx hcx hbw (by omega) (by omega) (by omega) (by omega) Hsd.out)
     have HX := Aside0.mk hX
     have hcX1 : W1.cell? ⟨w.heap.size, 1, none⟩ = some (.slice A x.f1.length cx) := (blk_cell hX 1).trans rfl
     clear hAW hb hvo hvn hX
     go_wp2_with (go_at_call 44; refine HE.out.mono ?_; rintro e w5 ⟨rfl, hA5, hB5, hk5⟩; have hX5 := (hk5 _ hkX).trans HX.out; have hcX5 : w5.cell? ⟨w.heap.size, 1, none⟩ = some (.slice A x.f1.length cx) := (blk_cell hX5 1).trans rfl; obtain ⟨vo5, vn5, hb5⟩ := hA5.blk; have hc55 := blk_cell hb5 5; have hf55 := blk_frozen hb5 5; have HA5 := Aside0.mk hA5; have HB5 := Aside0.mk hB5; clear hA5 hB5 hk5 hX5 hb5)
     go_end0
     refine ⟨rfl, ?_, (hBW.trans HB5.out).setCell hBb _⟩
     rw [← HT.out, ← Hh.out]
     exact ⟨A, cx, HA5.out.free.setva _, hCx, hcx⟩
    | false =>
     have hq' : 2 * c < x.f1.length := hq.resolve_left (by decide)
     obtain ⟨c2, hc2e⟩ : ∃ c2 : Nat, c2 = 2 * c := ⟨_, rfl⟩
     have HC2 : Aside0 (wrap64 (2 * (c : Int)) = (c2 : Int)) := ⟨by unfold wrap64; omega⟩
     have hgt : decide (c2 < x.f1.length) = true := decide_eq_true (by omega)
     clear hq hq' hc2e
     subst ho
     go_enter Try.func43, Try.ntmps43
     go_wp2_with (first | (go_at_call 68; refine (hunk_changes.calls x.f0 A cx x.f1 false _ (Kd.C_below hCx0.out hbw10.out) hcx0.out (by unfold hunk_changes.f; rw [hd1])).mono ?_; rintro e W ⟨rfl, hbW⟩; obtain ⟨vo, vn, hb, hvo, hvn⟩ := hat0.out; obtain ⟨An, cn, rfl⟩ := Kd.R_slice hvn; have hbW2 := (hbW.block b (blk_lt hb)).trans hb; have hXW := (hbW.block _ (blk_lt hX0.out)).trans hX0.out; have hc2 : W.cell? ⟨b, 2, none⟩ = some (.slice An now.length cn) := (blk_cell hbW2 2).trans rfl; have hc0 : W.cell? ⟨b, 0, none⟩ = some (.int .i64 (c : Int)) := (blk_cell hbW2 0).trans rfl; have hc5 := blk_cell hbW2 5; have hf5 := blk_frozen hbW2 5; have hcX0 : W.cell? ⟨w.heap.size, 0, none⟩ = some (.int .i64 x.f0) := (blk_cell hXW 0).trans rfl; have hcX1 : W.cell? ⟨w.heap.size, 1, none⟩ = some (.slice A x.f1.length cx) := (blk_cell hXW 1).trans rfl; have HbW := Aside0.mk hbW; have HbW2 := Aside0.mk hbW2; have HXW := Aside0.mk hXW; have Hvo := Aside0.mk (Kd.R_below hvo hbW); have Hvn := Aside0.mk (Kd.R_below hvn hbW); clear hb hvo hvn hbW hbW2 hXW))
     go_wp2
     have hkl : ∀ k, kp k → k < W.heap.size := fun k hk => Nat.lt_of_lt_of_le (hkl0.out k hk) HbW.out.size
     have hBW : Below w0.heap.size w W := hB10.out.trans (HbW.out.mono hbw10.out.size)
     refine start_ (n := 13) (S := fun w' => w'.cell? ⟨b, 0, none⟩ = some (.int .i64 (c : Int)) ∧ w'.cell? ⟨w.heap.size, 1, none⟩ = some (.slice A x.f1.length cx)) (ds := []) (Sq.bl 13 0) (by kernel_rfl) rfl (by rfl) ⟨hc0, hcX1⟩ (fun hS => ?_)
     refine Sq.pu (v := ?_) (a' := ?_) 0 60 (Sq.bl 13 1) (by kernel_rfl) rfl rfl (fun _ _ _ h => h) (by rfl) ?_ ?_ ?_; rotate_left; (· intro w'; go_simp; with_reducible rfl); rotate_left; (· simp only [Act.put, List.setIfInBounds_toArray, List.set_cons_zero, List.set_cons_succ, i64_w, i32_w, HC2.out]; rfl)
     refine Sq.pu (v := ?_) (a' := ?_) 1 61 (Sq.bl 13 3) (by kernel_rfl) rfl rfl (fun _ _ _ h => h) (by rfl) ?_ ?_ ?_; rotate_left; (· intro w'; go_simp; with_reducible rfl); rotate_left; (· simp only [Act.put, List.setIfInBounds_toArray, List.set_cons_zero, List.set_cons_succ, i64_w, i32_w, HC2.out]; rfl)
     refine Sq.pu (v := ?_) (a' := ?_) 2 62 (Sq.bl 13 7) (by kernel_rfl) rfl rfl (fun _ _ _ h => h) (by rfl) ?_ ?_ ?_; rotate_left; (· intro w'; go_simp; with_reducible rfl); rotate_left; (· simp only [Act.put, List.setIfInBounds_toArray, List.set_cons_zero, List.set_cons_succ, i64_w, i32_w, HC2.out]; rfl)
     refine Sq.pu (v := ?_) (a' := ?_) 5 65 (Sq.bl 13 39) (by kernel_rfl) rfl rfl (fun _ _ _ h => h) (by rfl) ?_ ?_ ?_; rotate_left; (· intro w'; go_simp; with_reducible rfl); rotate_left; (· simp only [Act.put, List.setIfInBounds_toArray, List.set_cons_zero, List.set_cons_succ, i64_w, i32_w, HC2.out]; rfl)
     refine Sq.pu (v := ?_) (a' := ?_) 6 66 (Sq.bl 13 103) (by kernel_rfl) rfl rfl (fun _ _ _ h => h) (by rfl) ?_ ?_ ?_; rotate_left; (· intro w'; go_simp; with_reducible rfl); rotate_left; (· simp only [Act.put, List.setIfInBounds_toArray, List.set_cons_zero, List.set_cons_succ, i64_w, i32_w, HC2.out]; rfl)
     refine Sq.pu (v := ?_) (a' := ?_) 7 67 (Sq.bl 13 231) (by kernel_rfl) rfl rfl (fun _ _ _ h => h) (by rfl) ?_ ?_ ?_; rotate_left; (· intro w'; go_simp; with_reducible rfl); rotate_left; (· simp only [Act.put, List.setIfInBounds_toArray, List.set_cons_zero, List.set_cons_succ, i64_w, i32_w, HC2.out]; rfl)
     refine take_ (i := 3) (N := some 63) (v := ?_) (a' := ?_) (Sq.bl 13 239) rfl rfl (by kernel_rfl) (fun _ _ _ h => h) (Or.inl ⟨by rfl, ?_⟩) hS ?_ ?_; rotate_left; (· rintro w' ⟨s0, s1⟩; go_simp; with_reducible rfl); rotate_left; (· simp only [Act.put, List.setIfInBounds_toArray, List.set_cons_zero, List.set_cons_succ, i64_w, i32_w, HC2.out]; rfl)
     refine Sq.pu (v := ?_) (a' := ?_) 4 64 (Sq.bl 13 255) (by kernel_rfl) rfl rfl (fun _ _ _ h => h) (by rfl) ?_ ?_ ?_; rotate_left; (· intro w'; go_simp; with_reducible rfl); rotate_left; (· simp only [Act.put, List.setIfInBounds_toArray, List.set_cons_zero, List.set_cons_succ, i64_w, i32_w, HC2.out]; rfl)
     refine take_ (i := 8) (N := some 68) (v := ?_) (a' := ?_) (Sq.bl 13 511) rfl rfl (by kernel_rfl) (fun _ _ _ h => h) (Or.inl ⟨by rfl, ?_⟩) hS ?_ ?_; rotate_left; (· rintro w' ⟨s0, s1⟩; go_simp; with_reducible rfl); rotate_left; (· simp only [Act.put, List.setIfInBounds_toArray, List.set_cons_zero, List.set_cons_succ, i64_w, i32_w, HC2.out]; rfl)
     refine Sq.pu (v := ?_) (a' := ?_) 9 69 (Sq.bl 13 1023) (by kernel_rfl) rfl rfl (fun _ _ _ h => h) (by rfl) ?_ ?_ ?_; rotate_left; (· intro w'; go_simp; with_reducible rfl); rotate_left; (· simp only [Act.put, List.setIfInBounds_toArray, List.set_cons_zero, List.set_cons_succ, i64_w, i32_w, HC2.out]; rfl)
     refine Sq.pu (v := ?_) (a' := ?_) 10 70 (Sq.bl 13 2047) (by kernel_rfl) rfl rfl (fun _ _ _ h => h) (by rfl) ?_ ?_ ?_; rotate_left; (· intro w'; go_simp; with_reducible rfl); rotate_left; (· simp only [Act.put, List.setIfInBounds_toArray, List.set_cons_zero, List.set_cons_succ, i64_w, i32_w, HC2.out]; rfl)
     refine Sq.pu (v := ?_) (a' := ?_) 11 71 (Sq.bl 13 4095) (by kernel_rfl) rfl rfl (fun _ _ _ h => h) (by rfl) ?_ ?_ ?_; rotate_left; (· intro w'; go_simp; with_reducible rfl); rotate_left; (· simp only [Act.put, List.setIfInBounds_toArray, List.set_cons_zero, List.set_cons_succ, i64_w, i32_w, HC2.out]; rfl)
     refine Sq.pu (v := ?_) (a' := ?_) 12 59 (Sq.bl 13 8191) (by kernel_rfl) rfl rfl (fun _ _ _ h => h) (by rfl) ?_ ?_ ?_; rotate_left; (· intro w'; go_simp; with_reducible rfl); rotate_left; (· simp only [Act.put, List.setIfInBounds_toArray, List.set_cons_zero, List.set_cons_succ, i64_w, i32_w, HC2.out]; rfl)
     refine done_ (by kernel_rfl) ?_
     have hb := blk_drew HbW2.out
     have hX := blk_drew HXW.out
     have hvo := Kd.R_drew Hvo.out
     have hvn := Kd.R_drew Hvn.out
     have hbw := (hbw0.out.trans hBW).drew
     have hBW1 := hBW.drew
     have hkl1 : ∀ k, kp k → k < W.drew.heap.size := hkl
     have hCx := hCx0.out
     have hcx := hcx0.out
     have hkb := hkb0.out
     have hkX := hkX0.out
     clear hkl hBW hc0 hc2 hc5 hf5 hcX0 hcX1 HbW2 HXW Hvo Hvn HbW
     generalize W.drew = W1 at hb hX hvo hvn hbw hBW1 hkl1 ⊢
     have hkl := hkl1
     have hBW := hBW1
     have hAW : hunk_Build.At w0.heap.size b kp W1 c out now (.slice Aa ah.length ca) := ⟨vo, _, hb, hvo, hvn⟩
     have HE := Aside0.mk (hunk_Build.end_calls k w0 b kp c out now x.f1 A cx (.slice Aa ah.length ca) r1 r2 r3 W1 hBb hkb hkl hAW hCx hcx hbw (by omega) (by omega) (by omega) (by omega) Hsd.out)
     have HX := Aside0.mk hX
     have hcX1 : W1.cell? ⟨w.heap.size, 1, none⟩ = some (.slice A x.f1.length cx) := (blk_cell hX 1).trans rfl
     clear hAW hb hvo hvn hX
     go_wp2_with (go_at_call 44; refine HE.out.mono ?_; rintro e w5 ⟨rfl, hA5, hB5, hk5⟩; have hX5 := (hk5 _ hkX).trans HX.out; have hcX5 : w5.cell? ⟨w.heap.size, 1, none⟩ = some (.slice A x.f1.length cx) := (blk_cell hX5 1).trans rfl; obtain ⟨vo5, vn5, hb5⟩ := hA5.blk; have hc55 := blk_cell hb5 5; have hf55 := blk_frozen hb5 5; have HA5 := Aside0.mk hA5; have HB5 := Aside0.mk hB5; clear hA5 hB5 hk5 hX5 hb5)
     go_end0
     refine ⟨rfl, ?_, (hBW.trans HB5.out).setCell hBb _⟩
     rw [← HT.out, ← Hh.out]
     exact ⟨A, cx, HA5.out.free.setva _, hCx, hcx⟩
   ·rw [if_neg hq] at hT
    have HT := Aside0.mk (Option.some.inj hT)
    have hl : last = false := by
     cases last with
     | true => exact absurd (.inl rfl) hq
     | false => rfl
    subst hl
    obtain ⟨c2, hc2e⟩ : ∃ c2 : Nat, c2 = 2 * c := ⟨_, rfl⟩
    have HC2 : Aside0 (wrap64 (2 * (c : Int)) = (c2 : Int)) := ⟨by unfold wrap64; omega⟩
    have hgt : decide (c2 < x.f1.length) = false := decide_eq_false (fun h => hq (.inr (by omega)))
    have Hd := Aside0.mk hd
    clear hT hd hn hq hc2e
    subst ho
    go_enter Try.func43, Try.ntmps43
    go_wp2_with (first | (go_at_call 68; refine (hunk_changes.calls x.f0 A cx x.f1 false _ (Kd.C_below hCx0.out hbw10.out) hcx0.out (by unfold hunk_changes.f; rw [hd1])).mono ?_; rintro e W ⟨rfl, hbW⟩; obtain ⟨vo, vn, hb, hvo, hvn⟩ := hat0.out; obtain ⟨An, cn, rfl⟩ := Kd.R_slice hvn; have hbW2 := (hbW.block b (blk_lt hb)).trans hb; have hXW := (hbW.block _ (blk_lt hX0.out)).trans hX0.out; have hc2 : W.cell? ⟨b, 2, none⟩ = some (.slice An now.length cn) := (blk_cell hbW2 2).trans rfl; have hc0 : W.cell? ⟨b, 0, none⟩ = some (.int .i64 (c : Int)) := (blk_cell hbW2 0).trans rfl; have hc5 := blk_cell hbW2 5; have hf5 := blk_frozen hbW2 5; have hcX0 : W.cell? ⟨w.heap.size, 0, none⟩ = some (.int .i64 x.f0) := (blk_cell hXW 0).trans rfl; have hcX1 : W.cell? ⟨w.heap.size, 1, none⟩ = some (.slice A x.f1.length cx) := (blk_cell hXW 1).trans rfl; have HbW := Aside0.mk hbW; have HbW2 := Aside0.mk hbW2; have HXW := Aside0.mk hXW; have Hvo := Aside0.mk (Kd.R_below hvo hbW); have Hvn := Aside0.mk (Kd.R_below hvn hbW); clear hb hvo hvn hbW hbW2 hXW))
    go_wp2
    have hkl : ∀ k, kp k → k < W.heap.size := fun k hk => Nat.lt_of_lt_of_le (hkl0.out k hk) HbW.out.size
    have hBW : Below w0.heap.size w W := hB10.out.trans (HbW.out.mono hbw10.out.size)
    refine start_ (n := 13) (S := fun w' => w'.cell? ⟨b, 0, none⟩ = some (.int .i64 (c : Int)) ∧ w'.cell? ⟨w.heap.size, 1, none⟩ = some (.slice A x.f1.length cx)) (ds := []) (Sq.bl 13 0) (by kernel_rfl) rfl (by rfl) ⟨hc0, hcX1⟩ (fun hS => ?_)
    refine Sq.pu (v := ?_) (a' := ?_) 0 60 (Sq.bl 13 1) (by kernel_rfl) rfl rfl (fun _ _ _ h => h) (by rfl) ?_ ?_ ?_; rotate_left; (· intro w'; go_simp; with_reducible rfl); rotate_left; (· simp only [Act.put, List.setIfInBounds_toArray, List.set_cons_zero, List.set_cons_succ, i64_w, i32_w, HC2.out]; rfl)
    refine Sq.pu (v := ?_) (a' := ?_) 1 61 (Sq.bl 13 3) (by kernel_rfl) rfl rfl (fun _ _ _ h => h) (by rfl) ?_ ?_ ?_; rotate_left; (· intro w'; go_simp; with_reducible rfl); rotate_left; (· simp only [Act.put, List.setIfInBounds_toArray, List.set_cons_zero, List.set_cons_succ, i64_w, i32_w, HC2.out]; rfl)
    refine Sq.pu (v := ?_) (a' := ?_) 2 62 (Sq.bl 13 7) (by kernel_rfl) rfl rfl (fun _ _ _ h => h) (by rfl) ?_ ?_ ?_; rotate_left; (· intro w'; go_simp; with_reducible rfl); rotate_left; (· simp only [Act.put, List.setIfInBounds_toArray, List.set_cons_zero, List.set_cons_succ, i64_w, i32_w, HC2.out]; rfl)
    refine Sq.pu (v := ?_) (a' := ?_) 5 65 (Sq.bl 13 39) (by kernel_rfl) rfl rfl (fun _ _ _ h => h) (by rfl) ?_ ?_ ?_; rotate_left; (· intro w'; go_simp; with_reducible rfl); rotate_left; (· simp only [Act.put, List.setIfInBounds_toArray, List.set_cons_zero, List.set_cons_succ, i64_w, i32_w, HC2.out]; rfl)
    refine Sq.pu (v := ?_) (a' := ?_) 6 66 (Sq.bl 13 103) (by kernel_rfl) rfl rfl (fun _ _ _ h => h) (by rfl) ?_ ?_ ?_; rotate_left; (· intro w'; go_simp; with_reducible rfl); rotate_left; (· simp only [Act.put, List.setIfInBounds_toArray, List.set_cons_zero, List.set_cons_succ, i64_w, i32_w, HC2.out]; rfl)
    refine Sq.pu (v := ?_) (a' := ?_) 7 67 (Sq.bl 13 231) (by kernel_rfl) rfl rfl (fun _ _ _ h => h) (by rfl) ?_ ?_ ?_; rotate_left; (· intro w'; go_simp; with_reducible rfl); rotate_left; (· simp only [Act.put, List.setIfInBounds_toArray, List.set_cons_zero, List.set_cons_succ, i64_w, i32_w, HC2.out]; rfl)
    refine take_ (i := 3) (N := some 63) (v := ?_) (a' := ?_) (Sq.bl 13 239) rfl rfl (by kernel_rfl) (fun _ _ _ h => h) (Or.inl ⟨by rfl, ?_⟩) hS ?_ ?_; rotate_left; (· rintro w' ⟨s0, s1⟩; go_simp; with_reducible rfl); rotate_left; (· simp only [Act.put, List.setIfInBounds_toArray, List.set_cons_zero, List.set_cons_succ, i64_w, i32_w, HC2.out]; rfl)
    refine Sq.pu (v := ?_) (a' := ?_) 4 64 (Sq.bl 13 255) (by kernel_rfl) rfl rfl (fun _ _ _ h => h) (by rfl) ?_ ?_ ?_; rotate_left; (· intro w'; go_simp; with_reducible rfl); rotate_left; (· simp only [Act.put, List.setIfInBounds_toArray, List.set_cons_zero, List.set_cons_succ, i64_w, i32_w, HC2.out]; rfl)
    refine take_ (i := 8) (N := some 68) (v := ?_) (a' := ?_) (Sq.bl 13 511) rfl rfl (by kernel_rfl) (fun _ _ _ h => h) (Or.inl ⟨by rfl, ?_⟩) hS ?_ ?_; rotate_left; (· rintro w' ⟨s0, s1⟩; go_simp; with_reducible rfl); rotate_left; (· simp only [Act.put, List.setIfInBounds_toArray, List.set_cons_zero, List.set_cons_succ, i64_w, i32_w, HC2.out]; rfl)
    refine Sq.pu (v := ?_) (a' := ?_) 9 69 (Sq.bl 13 1023) (by kernel_rfl) rfl rfl (fun _ _ _ h => h) (by rfl) ?_ ?_ ?_; rotate_left; (· intro w'; go_simp; with_reducible rfl); rotate_left; (· simp only [Act.put, List.setIfInBounds_toArray, List.set_cons_zero, List.set_cons_succ, i64_w, i32_w, HC2.out]; rfl)
    refine Sq.pu (v := ?_) (a' := ?_) 10 70 (Sq.bl 13 2047) (by kernel_rfl) rfl rfl (fun _ _ _ h => h) (by rfl) ?_ ?_ ?_; rotate_left; (· intro w'; go_simp; with_reducible rfl); rotate_left; (· simp only [Act.put, List.setIfInBounds_toArray, List.set_cons_zero, List.set_cons_succ, i64_w, i32_w, HC2.out]; rfl)
    refine Sq.pu (v := ?_) (a' := ?_) 11 71 (Sq.bl 13 4095) (by kernel_rfl) rfl rfl (fun _ _ _ h => h) (by rfl) ?_ ?_ ?_; rotate_left; (· intro w'; go_simp; with_reducible rfl); rotate_left; (· simp only [Act.put, List.setIfInBounds_toArray, List.set_cons_zero, List.set_cons_succ, i64_w, i32_w, HC2.out]; rfl)
    refine Sq.pu (v := ?_) (a' := ?_) 12 59 (Sq.bl 13 8191) (by kernel_rfl) rfl rfl (fun _ _ _ h => h) (by rfl) ?_ ?_ ?_; rotate_left; (· intro w'; go_simp; with_reducible rfl); rotate_left; (· simp only [Act.put, List.setIfInBounds_toArray, List.set_cons_zero, List.set_cons_succ, i64_w, i32_w, HC2.out]; rfl)
    refine done_ (by kernel_rfl) ?_
    have hb := blk_drew HbW2.out
    have hX := blk_drew HXW.out
    have hvo := Kd.R_drew Hvo.out
    have hvn := Kd.R_drew Hvn.out
    have hbw := (hbw0.out.trans hBW).drew
    have hBW1 := hBW.drew
    have hkl1 : ∀ k, kp k → k < W.drew.heap.size := hkl
    have hCx := hCx0.out
    have hcx := hcx0.out
    have hkb := hkb0.out
    have hkX := hkX0.out
    clear hkl hBW hc0 hc2 hc5 hf5 hcX0 hcX1 HbW2 HXW Hvo Hvn HbW
    generalize W.drew = W1 at hb hX hvo hvn hbw hBW1 hkl1 ⊢
    have hkl := hkl1
    have hBW := hBW1
    go_wp2
    refine start_ (n := 16) (S := fun w' => w'.cell? ⟨b, 2, none⟩ = some (.slice An now.length cn) ∧ w'.cell? ⟨w.heap.size, 0, none⟩ = some (.int .i64 x.f0) ∧ w'.cell? ⟨w.heap.size, 1, none⟩ = some (.slice A x.f1.length cx) ∧ w'.frozen? ⟨b, 2, none⟩ = false) (ds := [15]) (Sq.bl 16 0) (by kernel_rfl) rfl (by rfl) ⟨(blk_cell hb 2).trans rfl, (blk_cell hX 0).trans rfl, (blk_cell hX 1).trans rfl, blk_frozen hb 2⟩ (fun hS => ?_)
    refine Sq.pu (v := ?_) (a' := ?_) 0 6 (Sq.bl 16 1) (by kernel_rfl) rfl rfl (fun _ _ _ h => h) (by rfl) ?_ ?_ ?_; rotate_left; (· intro w'; go_simp; with_reducible rfl); rotate_left; (· simp only [Act.put,zp1,zp2,zp3,zp4,zp5]; rfl)
    refine Sq.pu (v := ?_) (a' := ?_) 1 7 (Sq.bl 16 3) (by kernel_rfl) rfl rfl (fun _ _ _ h => h) (by rfl) ?_ ?_ ?_; rotate_left; (· intro w'; go_simp; with_reducible rfl); rotate_left; (· simp only [Act.put,zp1,zp2,zp3,zp4,zp5]; rfl)
    refine Sq.pu (v := ?_) (a' := ?_) 2 8 (Sq.bl 16 7) (by kernel_rfl) rfl rfl (fun _ _ _ h => h) (by rfl) ?_ ?_ ?_; rotate_left; (· intro w'; go_simp; with_reducible rfl); rotate_left; (· simp only [Act.put,zp1,zp2,zp3,zp4,zp5]; rfl)
    refine Sq.pu (v := ?_) (a' := ?_) 3 9 (Sq.bl 16 15) (by kernel_rfl) rfl rfl (fun _ _ _ h => h) (by rfl) ?_ ?_ ?_; rotate_left; (· intro w'; go_simp; with_reducible rfl); rotate_left; (· simp only [Act.put,zp1,zp2,zp3,zp4,zp5]; rfl)
    refine Sq.pu (v := ?_) (a' := ?_) 5 11 (Sq.bl 16 47) (by kernel_rfl) rfl rfl (fun _ _ _ h => h) (by rfl) ?_ ?_ ?_; rotate_left; (· intro w'; go_simp; with_reducible rfl); rotate_left; (· simp only [Act.put,zp1,zp2,zp3,zp4,zp5]; rfl)
    refine Sq.pu (v := ?_) (a' := ?_) 7 13 (Sq.bl 16 175) (by kernel_rfl) rfl rfl (fun _ _ _ h => h) (by rfl) ?_ ?_ ?_; rotate_left; (· intro w'; go_simp; with_reducible rfl); rotate_left; (· simp only [Act.put,zp1,zp2,zp3,zp4,zp5]; rfl)
    refine take_ (i := 4) (N := some 10) (v := ?_) (a' := ?_) (Sq.bl 16 191) rfl rfl (by kernel_rfl) (fun _ _ _ h => h) (Or.inl ⟨by rfl, ?_⟩) hS ?_ ?_; rotate_left; (· rintro w' ⟨s0, s1, s2, s3⟩; go_simp; with_reducible rfl); rotate_left; (· simp only [Act.put,zp1,zp2,zp3,zp4,zp5]; rfl)
    refine take_ (i := 6) (N := some 12) (v := ?_) (a' := ?_) (Sq.bl 16 255) rfl rfl (by kernel_rfl) (fun _ _ _ h => h) (Or.inl ⟨by rfl, ?_⟩) hS ?_ ?_; rotate_left; (· rintro w' ⟨s0, s1, s2, s3⟩; go_simp; with_reducible rfl); rotate_left; (· simp only [Act.put,zp1,zp2,zp3,zp4,zp5]; rfl)
    refine take_ (i := 8) (N := some 14) (v := ?_) (a' := ?_) (Sq.bl 16 511) rfl rfl (by kernel_rfl) (fun _ _ _ h => h) (Or.inl ⟨by rfl, ?_⟩) hS ?_ ?_; rotate_left; (· rintro w' ⟨s0, s1, s2, s3⟩; go_simp; with_reducible rfl); rotate_left; (· simp only [Act.put,zp1,zp2,zp3,zp4,zp5]; rfl)
    refine one_ (i := 9) (N := some 15) (Sq.bl 16 1023) rfl rfl (by kernel_rfl) (by decide) (fun K hK => ?_)
    refine goes_ Try.func52 (by kernel_rfl) rfl #[.slice A x.f1.length cx] (by rfl) rfl rfl (by (try simp only [List.map_toArray, List.map_cons, List.map_nil]); first | done | rfl | skip) ?_
    refine (api_Line_52.made A cx x.f1 _ (Kd.C_below hCx (hbw.trans (Below.drew (Below.refl _ _)))) hcx (by omega)).mono ?_
    rintro e w2 ⟨v0, rfl, ho, hbel⟩
    obtain ⟨A3, c3, rfl⟩ := Kd.R_slice ho
    have hs2 : W1.heap.size ≤ w2.heap.size := hbel.size
    have hb2 := (hbel.block b (blk_lt hb)).trans hb
    have hX2 := (hbel.block _ (blk_lt hX)).trans hX
    refine ⟨_, rfl, hK.out _ _ ⟨(blk_cell hb2 2).trans rfl, (blk_cell hX2 0).trans rfl, (blk_cell hX2 1).trans rfl, blk_frozen hb2 2⟩ (fun hS => ?_)⟩
    clear hK K
    refine norm_ (a' := ?_) ?_ ?_
    rotate_left
    ·show Act.put _ (some 15) _ = _
     simp only [Act.put,zp1,zp2,zp3,zp4,zp5]
     rfl
    refine Sq.pu (v := ?_) (a' := ?_) 10 16 (Sq.bl 16 2047) (by kernel_rfl) rfl rfl (fun _ _ _ h => h) (by rfl) ?_ ?_ ?_; rotate_left; (· intro w'; go_simp; with_reducible rfl); rotate_left; (· simp only [Act.put,zp1,zp2,zp3,zp4,zp5]; rfl)
    refine one_ (i := 11) (N := some 17) (Sq.bl 16 4095) rfl rfl (by kernel_rfl) (by decide) (fun K hK => ?_)
    refine value_ (w1 := ?_) (v := ?_) (by rfl) rfl ?_ ?_
    rotate_left 2
    ·go_simp
     constructor
     ·rfl
     ·rfl
    have hb3 := blk_alloc hb2 (.cells #[.int .i64 x.f0, .slice A3 x.f1.length c3] 47)
    have hX3 := blk_alloc hX2 (.cells #[.int .i64 x.f0, .slice A3 x.f1.length c3] 47)
    refine hK.out _ _ ⟨(blk_cell hb3 2).trans rfl, (blk_cell hX3 0).trans rfl, (blk_cell hX3 1).trans rfl, blk_frozen hb3 2⟩ (fun hS => ?_)
    clear hK K
    refine norm_ (a' := ?_) ?_ ?_
    rotate_left
    ·show Act.put _ (some 17) _ = _
     simp only [Act.put,zp1,zp2,zp3,zp4,zp5]
     rfl
    refine one_ (i := 12) (N := some 18) (Sq.bl 16 8191) rfl rfl (by kernel_rfl) (by decide) (fun K hK => ?_)
    refine Kd.R_append_step k47 (w0 := W1) w0.heap.size (by rfl) (.tmp 10) (.tmp 17) 22 47 (.agg #[(.int .i64 0), (.slice none 0 0)]) 32 rfl Try.underlying22 info47 rfl (by decide) (by omega) (.slice An now.length cn) now (⟨x.f0, x.f1⟩ : S47) [.int .i64 x.f0, .slice A3 x.f1.length c3] (fun k => ¬ kp k ∧ some k ≠ vo.ownBlock) (fun k => W1.heap.size ≤ k ∧ k < w2.heap.size) rfl rfl ?aP ?aK ?aF ?aO ?aB ?aS ?aL ?_
    (case aP => exact k47_mkM _ _ _ (⟨x.f0, x.f1⟩ : S47) (Kd.R_lower (Kd.R_mono (Kd.R_bound ho) (fun k hk => ⟨hk.2.1, hk.2.2.1⟩)) (by have := hbw.size; have : W1.drew.heap.size = W1.heap.size := rfl; omega)))
    (case aK => exact fun k hk => ⟨⟨fun e => by have := hkl k e; omega, fun e => by have := Kd.R_lt hvo k e.symm; omega⟩, fun e => by have := Kd.R_lt hvn k e.symm; omega⟩)
    (case aF => exact fun k hk => ⟨fun e => by have := hkl k e; omega, fun e => by have := Kd.R_lt hvo k e.symm; omega⟩)
    (case aO => exact Kd.R_below hvn (below_then (below_drew (Below.refl _ _)) (Nat.le_refl _) hbel))
    (case aB => exact (below_then (below_drew (Below.refl _ _)) (Nat.le_refl _) hbel).mono hbw.size)
    (case aS => exact (by have := hbw.size; omega))
    (case aL => omega)
    intro v4 w4 ho4 hbel4 hg4 hat4
    obtain ⟨A4, c4, rfl⟩ := Kd.R_slice ho4
    have hneb : some b ≠ (Value.slice An now.length cn).ownBlock := Kd.R_ne hvn hb (by decide)
    have hb4 := (hg4.block b (blk_lt hb2) hneb).trans hb2
    have hX4 := (hg4.block _ (blk_lt hX2) (fun e => (hvn.1 _ e.symm).1 hkX)).trans hX2
    refine hK.out _ _ ⟨(blk_cell hb4 2).trans rfl, (blk_cell hX4 0).trans rfl, (blk_cell hX4 1).trans rfl, blk_frozen hb4 2⟩ (fun hS => ?_)
    have hbel2 : Below W1.heap.size W1 w2 := below_then (below_drew (Below.refl _ _)) (Nat.le_refl _) hbel
    have hdone := hunk_Build.put_done hBb hkb hkl hvo hvn hbel2 hb4 ho4 hbel4 hg4 hat4
    rw [List.length_append] at hdone
    clear hK K
    refine norm_ (a' := ?_) ?_ ?_
    rotate_left
    ·show Act.put _ (some 18) _ = _
     simp only [Act.put,zp1,zp2,zp3,zp4,zp5]
     rfl
    refine Sq.pu (v := ?_) (a' := ?_) 13 19 (Sq.bl 16 16383) (by kernel_rfl) rfl rfl (fun _ _ _ h => h) (by rfl) ?_ ?_ ?_; rotate_left; (· intro w'; go_simp; with_reducible rfl); rotate_left; (· simp only [Act.put,zp1,zp2,zp3,zp4,zp5]; rfl)
    refine Sq.pu (v := ?_) (a' := ?_) 14 20 (Sq.bl 16 32767) (by kernel_rfl) rfl rfl (fun _ _ _ h => h) (by rfl) ?_ ?_ ?_; rotate_left; (· intro w'; go_simp; with_reducible rfl); rotate_left; (· simp only [Act.put,zp1,zp2,zp3,zp4,zp5]; rfl)
    refine last_ (i := 15) (N := none) (Sq.bl 16 65535) rfl rfl (by kernel_rfl) (by decide) (fun K hK => ?_)
    refine skip_ (w1 := ?_) (by rfl) rfl ?_ ?_
    rotate_left
    ·go_simp
     rfl
    refine hK.out _ _ ?_
    clear hK K
    refine done_ (by kernel_rfl) ?_
    obtain ⟨hA6, hB6, _⟩ := hdone
    try simp only [List.length_singleton] at hA6 hB6
    have HA6 := Aside0.mk hA6
    have HB6 := Aside0.mk (hBW.trans hB6)
    clear hA6 hB6 ho4 hbel4 hg4 hat4 hb4 hneb hb3 hb2 hs2 hbel hbel2 ho hvo hvn hb hS hX hX2 hX3 hX4
    generalize w4.setCell ⟨b, 2, none⟩ (.slice A4 (now.length + 1) c4) = w6 at HA6 HB6 ⊢
    try go_wp2
    go_end0
    refine ⟨rfl, ?_, HB6.out⟩
    rw [← HT.out]
    exact ⟨Aa, ca, HA6.out.free, hCa0.out, hca0.out⟩
 ·rw [if_neg hd] at hT
  have hd1 : (x.f0 != 1) = true := by simp [hd]
  have Hd := Aside0.mk hd
  by_cases hn : now.length = 0
  ·rw [if_pos hn] at hT
   have HT := Aside0.mk (Option.some.inj hT)
   have hn' : (((now.length : Nat) : Int) == 0) = true := beq_iff_eq.mpr (by omega)
   clear hT hd hn
   subst ho
   go_enter Try.func43, Try.ntmps43
   go_wp2_with (first | (go_at_call 68; refine (hunk_changes.calls x.f0 A cx x.f1 true _ (Kd.C_below hCx0.out hbw10.out) hcx0.out (by unfold hunk_changes.f; rw [hd1])).mono ?_; rintro e W ⟨rfl, hbW⟩; obtain ⟨vo, vn, hb, hvo, hvn⟩ := hat0.out; obtain ⟨An, cn, rfl⟩ := Kd.R_slice hvn; have hbW2 := (hbW.block b (blk_lt hb)).trans hb; have hXW := (hbW.block _ (blk_lt hX0.out)).trans hX0.out; have hc2 : W.cell? ⟨b, 2, none⟩ = some (.slice An now.length cn) := (blk_cell hbW2 2).trans rfl; have hc0 : W.cell? ⟨b, 0, none⟩ = some (.int .i64 (c : Int)) := (blk_cell hbW2 0).trans rfl; have hc5 := blk_cell hbW2 5; have hf5 := blk_frozen hbW2 5; have hcX0 : W.cell? ⟨w.heap.size, 0, none⟩ = some (.int .i64 x.f0) := (blk_cell hXW 0).trans rfl; have hcX1 : W.cell? ⟨w.heap.size, 1, none⟩ = some (.slice A x.f1.length cx) := (blk_cell hXW 1).trans rfl; have HbW := Aside0.mk hbW; have HbW2 := Aside0.mk hbW2; have HXW := Aside0.mk hXW; have Hvo := Aside0.mk (Kd.R_below hvo hbW); have Hvn := Aside0.mk (Kd.R_below hvn hbW); clear hb hvo hvn hbW hbW2 hXW) | (go_at_call 69; refine (hunk_Build.begin_calls w0 b kp c out now ah Aa ca W hBb hkb0.out (fun k hk => Nat.lt_of_lt_of_le (hkl0.out k hk) HbW.out.size) ⟨vo, _, HbW2.out, Hvo.out, Hvn.out⟩ hCa0.out hca0.out (hbw0.out.trans (hB10.out.trans (HbW.out.mono hbw10.out.size))) (by omega) (by omega) (by omega)).mono ?_; rintro e w3 ⟨rfl, hA3, hB3, hk3⟩; have HA3 := Aside0.mk hA3; have HB3 := Aside0.mk hB3; have HX3 := Aside0.mk ((hk3 _ hkX0.out).trans HXW.out); have Hk3 := Aside0.mk hk3; clear hA3 hB3 hk3))
   try go_wp2
   have hkl : ∀ k, kp k → k < W.heap.size := fun k hk => Nat.lt_of_lt_of_le (hkl0.out k hk) HbW.out.size
   have hBW : Below w0.heap.size w W := hB10.out.trans (HbW.out.mono hbw10.out.size)
   have hBW := hBW.trans HB3.out
   have hkl : ∀ k, kp k → k < w3.heap.size := fun k hk => Nat.lt_of_lt_of_le (hkl k hk) HB3.out.size
   have hA3 := HA3.out
   have hnl : (now ++ hunk_Build.lead c ah).length ≤ 100000001 := by
    unfold hunk_Build.lead
    split <;> simp <;> omega
   clear HA3 Hvn Hvo HbW2 hc0 hc2 hc5 hf5 hcX0 hcX1 hn'
   generalize now ++ hunk_Build.lead c ah = now at hA3 HT hnl ⊢
   obtain ⟨vo, vn, hb, hvo, hvn⟩ := hA3
   obtain ⟨An, cn, rfl⟩ := Kd.R_slice hvn
   have hX := HX3.out
   have hbw := hbw0.out.trans hBW
   have hCx := hCx0.out
   have hcx := hcx0.out
   have hkb := hkb0.out
   have hkX := hkX0.out
   refine start_ (n := 16) (S := fun w' => w'.cell? ⟨b, 2, none⟩ = some (.slice An now.length cn) ∧ w'.cell? ⟨w.heap.size, 0, none⟩ = some (.int .i64 x.f0) ∧ w'.cell? ⟨w.heap.size, 1, none⟩ = some (.slice A x.f1.length cx) ∧ w'.frozen? ⟨b, 2, none⟩ = false) (ds := [15]) (Sq.bl 16 0) (by kernel_rfl) rfl (by rfl) ⟨(blk_cell hb 2).trans rfl, (blk_cell hX 0).trans rfl, (blk_cell hX 1).trans rfl, blk_frozen hb 2⟩ (fun hS => ?_)
   refine Sq.pu (v := ?_) (a' := ?_) 0 32 (Sq.bl 16 1) (by kernel_rfl) rfl rfl (fun _ _ _ h => h) (by rfl) ?_ ?_ ?_; rotate_left; (· intro w'; go_simp; with_reducible rfl); rotate_left; (· simp only [Act.put,zp1,zp2,zp3,zp4,zp5]; rfl)
   refine Sq.pu (v := ?_) (a' := ?_) 1 33 (Sq.bl 16 3) (by kernel_rfl) rfl rfl (fun _ _ _ h => h) (by rfl) ?_ ?_ ?_; rotate_left; (· intro w'; go_simp; with_reducible rfl); rotate_left; (· simp only [Act.put,zp1,zp2,zp3,zp4,zp5]; rfl)
   refine Sq.pu (v := ?_) (a' := ?_) 2 34 (Sq.bl 16 7) (by kernel_rfl) rfl rfl (fun _ _ _ h => h) (by rfl) ?_ ?_ ?_; rotate_left; (· intro w'; go_simp; with_reducible rfl); rotate_left; (· simp only [Act.put,zp1,zp2,zp3,zp4,zp5]; rfl)
   refine Sq.pu (v := ?_) (a' := ?_) 3 35 (Sq.bl 16 15) (by kernel_rfl) rfl rfl (fun _ _ _ h => h) (by rfl) ?_ ?_ ?_; rotate_left; (· intro w'; go_simp; with_reducible rfl); rotate_left; (· simp only [Act.put,zp1,zp2,zp3,zp4,zp5]; rfl)
   refine Sq.pu (v := ?_) (a' := ?_) 5 37 (Sq.bl 16 47) (by kernel_rfl) rfl rfl (fun _ _ _ h => h) (by rfl) ?_ ?_ ?_; rotate_left; (· intro w'; go_simp; with_reducible rfl); rotate_left; (· simp only [Act.put,zp1,zp2,zp3,zp4,zp5]; rfl)
   refine Sq.pu (v := ?_) (a' := ?_) 7 39 (Sq.bl 16 175) (by kernel_rfl) rfl rfl (fun _ _ _ h => h) (by rfl) ?_ ?_ ?_; rotate_left; (· intro w'; go_simp; with_reducible rfl); rotate_left; (· simp only [Act.put,zp1,zp2,zp3,zp4,zp5]; rfl)
   refine take_ (i := 4) (N := some 36) (v := ?_) (a' := ?_) (Sq.bl 16 191) rfl rfl (by kernel_rfl) (fun _ _ _ h => h) (Or.inl ⟨by rfl, ?_⟩) hS ?_ ?_; rotate_left; (· rintro w' ⟨s0, s1, s2, s3⟩; go_simp; with_reducible rfl); rotate_left; (· simp only [Act.put,zp1,zp2,zp3,zp4,zp5]; rfl)
   refine take_ (i := 6) (N := some 38) (v := ?_) (a' := ?_) (Sq.bl 16 255) rfl rfl (by kernel_rfl) (fun _ _ _ h => h) (Or.inl ⟨by rfl, ?_⟩) hS ?_ ?_; rotate_left; (· rintro w' ⟨s0, s1, s2, s3⟩; go_simp; with_reducible rfl); rotate_left; (· simp only [Act.put,zp1,zp2,zp3,zp4,zp5]; rfl)
   refine take_ (i := 8) (N := some 40) (v := ?_) (a' := ?_) (Sq.bl 16 511) rfl rfl (by kernel_rfl) (fun _ _ _ h => h) (Or.inl ⟨by rfl, ?_⟩) hS ?_ ?_; rotate_left; (· rintro w' ⟨s0, s1, s2, s3⟩; go_simp; with_reducible rfl); rotate_left; (· simp only [Act.put,zp1,zp2,zp3,zp4,zp5]; rfl)
   refine one_ (i := 9) (N := some 41) (Sq.bl 16 1023) rfl rfl (by kernel_rfl) (by decide) (fun K hK => ?_)
   refine goes_ Try.func52 (by kernel_rfl) rfl #[.slice A x.f1.length cx] (by rfl) rfl rfl (by (try simp only [List.map_toArray, List.map_cons, List.map_nil]); first | done | rfl | skip) ?_
   refine (api_Line_52.made A cx x.f1 _ (Kd.C_below hCx (hbw.trans (Below.drew (Below.refl _ _)))) hcx (by omega)).mono ?_
   rintro e w2 ⟨v0, rfl, ho, hbel⟩
   obtain ⟨A3, c3, rfl⟩ := Kd.R_slice ho
   have hs2 : w3.heap.size ≤ w2.heap.size := hbel.size
   have hb2 := (hbel.block b (blk_lt hb)).trans hb
   have hX2 := (hbel.block _ (blk_lt hX)).trans hX
   refine ⟨_, rfl, hK.out _ _ ⟨(blk_cell hb2 2).trans rfl, (blk_cell hX2 0).trans rfl, (blk_cell hX2 1).trans rfl, blk_frozen hb2 2⟩ (fun hS => ?_)⟩
   clear hK K
   refine norm_ (a' := ?_) ?_ ?_
   rotate_left
   ·show Act.put _ (some 41) _ = _
    simp only [Act.put,zp1,zp2,zp3,zp4,zp5]
    rfl
   refine Sq.pu (v := ?_) (a' := ?_) 10 42 (Sq.bl 16 2047) (by kernel_rfl) rfl rfl (fun _ _ _ h => h) (by rfl) ?_ ?_ ?_; rotate_left; (· intro w'; go_simp; with_reducible rfl); rotate_left; (· simp only [Act.put,zp1,zp2,zp3,zp4,zp5]; rfl)
   refine one_ (i := 11) (N := some 43) (Sq.bl 16 4095) rfl rfl (by kernel_rfl) (by decide) (fun K hK => ?_)
   refine value_ (w1 := ?_) (v := ?_) (by rfl) rfl ?_ ?_
   rotate_left 2
   ·go_simp
    constructor
    ·rfl
    ·rfl
   have hb3 := blk_alloc hb2 (.cells #[.int .i64 x.f0, .slice A3 x.f1.length c3] 47)
   have hX3 := blk_alloc hX2 (.cells #[.int .i64 x.f0, .slice A3 x.f1.length c3] 47)
   refine hK.out _ _ ⟨(blk_cell hb3 2).trans rfl, (blk_cell hX3 0).trans rfl, (blk_cell hX3 1).trans rfl, blk_frozen hb3 2⟩ (fun hS => ?_)
   clear hK K
   refine norm_ (a' := ?_) ?_ ?_
   rotate_left
   ·show Act.put _ (some 43) _ = _
    simp only [Act.put,zp1,zp2,zp3,zp4,zp5]
    rfl
   refine one_ (i := 12) (N := some 44) (Sq.bl 16 8191) rfl rfl (by kernel_rfl) (by decide) (fun K hK => ?_)
   refine Kd.R_append_step k47 (w0 := w3) w0.heap.size (by rfl) (.tmp 36) (.tmp 43) 22 47 (.agg #[(.int .i64 0), (.slice none 0 0)]) 32 rfl Try.underlying22 info47 rfl (by decide) (by omega) (.slice An now.length cn) now (⟨x.f0, x.f1⟩ : S47) [.int .i64 x.f0, .slice A3 x.f1.length c3] (fun k => ¬ kp k ∧ some k ≠ vo.ownBlock) (fun k => w3.heap.size ≤ k ∧ k < w2.heap.size) rfl rfl ?aP ?aK ?aF ?aO ?aB ?aS ?aL ?_
   (case aP => exact k47_mkM _ _ _ (⟨x.f0, x.f1⟩ : S47) (Kd.R_lower (Kd.R_mono (Kd.R_bound ho) (fun k hk => ⟨hk.2.1, hk.2.2.1⟩)) (by have := hbw.size; have : w3.drew.heap.size = w3.heap.size := rfl; omega)))
   (case aK => exact fun k hk => ⟨⟨fun e => by have := hkl k e; omega, fun e => by have := Kd.R_lt hvo k e.symm; omega⟩, fun e => by have := Kd.R_lt hvn k e.symm; omega⟩)
   (case aF => exact fun k hk => ⟨fun e => by have := hkl k e; omega, fun e => by have := Kd.R_lt hvo k e.symm; omega⟩)
   (case aO => exact Kd.R_below hvn (below_then (below_drew (Below.refl _ _)) (Nat.le_refl _) hbel))
   (case aB => exact (below_then (below_drew (Below.refl _ _)) (Nat.le_refl _) hbel).mono hbw.size)
   (case aS => exact (by have := hbw.size; omega))
   (case aL => omega)
   intro v4 w4 ho4 hbel4 hg4 hat4
   obtain ⟨A4, c4, rfl⟩ := Kd.R_slice ho4
   have hneb : some b ≠ (Value.slice An now.length cn).ownBlock := Kd.R_ne hvn hb (by decide)
   have hb4 := (hg4.block b (blk_lt hb2) hneb).trans hb2
   have hX4 := (hg4.block _ (blk_lt hX2) (fun e => (hvn.1 _ e.symm).1 hkX)).trans hX2
   refine hK.out _ _ ⟨(blk_cell hb4 2).trans rfl, (blk_cell hX4 0).trans rfl, (blk_cell hX4 1).trans rfl, blk_frozen hb4 2⟩ (fun hS => ?_)
   have hbel2 : Below w3.heap.size w3 w2 := below_then (below_drew (Below.refl _ _)) (Nat.le_refl _) hbel
   have hdone := hunk_Build.put_done hBb hkb hkl hvo hvn hbel2 hb4 ho4 hbel4 hg4 hat4
   rw [List.length_append] at hdone
   clear hK K
   refine norm_ (a' := ?_) ?_ ?_
   rotate_left
   ·show Act.put _ (some 44) _ = _
    simp only [Act.put,zp1,zp2,zp3,zp4,zp5]
    rfl
   refine Sq.pu (v := ?_) (a' := ?_) 13 45 (Sq.bl 16 16383) (by kernel_rfl) rfl rfl (fun _ _ _ h => h) (by rfl) ?_ ?_ ?_; rotate_left; (· intro w'; go_simp; with_reducible rfl); rotate_left; (· simp only [Act.put,zp1,zp2,zp3,zp4,zp5]; rfl)
   refine Sq.pu (v := ?_) (a' := ?_) 14 46 (Sq.bl 16 32767) (by kernel_rfl) rfl rfl (fun _ _ _ h => h) (by rfl) ?_ ?_ ?_; rotate_left; (· intro w'; go_simp; with_reducible rfl); rotate_left; (· simp only [Act.put,zp1,zp2,zp3,zp4,zp5]; rfl)
   refine last_ (i := 15) (N := none) (Sq.bl 16 65535) rfl rfl (by kernel_rfl) (by decide) (fun K hK => ?_)
   refine skip_ (w1 := ?_) (by rfl) rfl ?_ ?_
   rotate_left
   ·go_simp
    rfl
   refine hK.out _ _ ?_
   clear hK K
   refine done_ (by kernel_rfl) ?_
   obtain ⟨hA6, hB6, _⟩ := hdone
   try simp only [List.length_singleton] at hA6 hB6
   have HA6 := Aside0.mk hA6
   have HB6 := Aside0.mk (hBW.trans hB6)
   clear hA6 hB6 ho4 hbel4 hg4 hat4 hb4 hneb hb3 hb2 hs2 hbel hbel2 ho hvo hvn hb hS hX hX2 hX3 hX4
   generalize w4.setCell ⟨b, 2, none⟩ (.slice A4 (now.length + 1) c4) = w6 at HA6 HB6 ⊢
   try go_wp2
   go_end0
   refine ⟨rfl, ?_, HB6.out⟩
   rw [← HT.out]
   exact ⟨none, 0, HA6.out.free, ⟨rfl, Nat.zero_le _, fun h => absurd h (by simp)⟩, Nat.le_refl _⟩
  ·rw [if_neg hn] at hT
   have HT := Aside0.mk (Option.some.inj hT)
   have hn' : (((now.length : Nat) : Int) == 0) = false := beq_eq_false_iff_ne.mpr (by omega)
   clear hT hd hn
   subst ho
   go_enter Try.func43, Try.ntmps43
   go_wp2_with (first | (go_at_call 68; refine (hunk_changes.calls x.f0 A cx x.f1 true _ (Kd.C_below hCx0.out hbw10.out) hcx0.out (by unfold hunk_changes.f; rw [hd1])).mono ?_; rintro e W ⟨rfl, hbW⟩; obtain ⟨vo, vn, hb, hvo, hvn⟩ := hat0.out; obtain ⟨An, cn, rfl⟩ := Kd.R_slice hvn; have hbW2 := (hbW.block b (blk_lt hb)).trans hb; have hXW := (hbW.block _ (blk_lt hX0.out)).trans hX0.out; have hc2 : W.cell? ⟨b, 2, none⟩ = some (.slice An now.length cn) := (blk_cell hbW2 2).trans rfl; have hc0 : W.cell? ⟨b, 0, none⟩ = some (.int .i64 (c : Int)) := (blk_cell hbW2 0).trans rfl; have hc5 := blk_cell hbW2 5; have hf5 := blk_frozen hbW2 5; have hcX0 : W.cell? ⟨w.heap.size, 0, none⟩ = some (.int .i64 x.f0) := (blk_cell hXW 0).trans rfl; have hcX1 : W.cell? ⟨w.heap.size, 1, none⟩ = some (.slice A x.f1.length cx) := (blk_cell hXW 1).trans rfl; have HbW := Aside0.mk hbW; have HbW2 := Aside0.mk hbW2; have HXW := Aside0.mk hXW; have Hvo := Aside0.mk (Kd.R_below hvo hbW); have Hvn := Aside0.mk (Kd.R_below hvn hbW); clear hb hvo hvn hbW hbW2 hXW))
   try go_wp2
   have hkl : ∀ k, kp k → k < W.heap.size := fun k hk => Nat.lt_of_lt_of_le (hkl0.out k hk) HbW.out.size
   have hBW : Below w0.heap.size w W := hB10.out.trans (HbW.out.mono hbw10.out.size)
   have hb := HbW2.out
   have hX := HXW.out
   have hvo := Hvo.out
   have hvn := Hvn.out
   have hbw := hbw0.out.trans hBW
   have hCx := hCx0.out
   have hcx := hcx0.out
   have hkb := hkb0.out
   have hkX := hkX0.out
   refine start_ (n := 16) (S := fun w' => w'.cell? ⟨b, 2, none⟩ = some (.slice An now.length cn) ∧ w'.cell? ⟨w.heap.size, 0, none⟩ = some (.int .i64 x.f0) ∧ w'.cell? ⟨w.heap.size, 1, none⟩ = some (.slice A x.f1.length cx) ∧ w'.frozen? ⟨b, 2, none⟩ = false) (ds := [15]) (Sq.bl 16 0) (by kernel_rfl) rfl (by rfl) ⟨(blk_cell hb 2).trans rfl, (blk_cell hX 0).trans rfl, (blk_cell hX 1).trans rfl, blk_frozen hb 2⟩ (fun hS => ?_)
   refine Sq.pu (v := ?_) (a' := ?_) 0 32 (Sq.bl 16 1) (by kernel_rfl) rfl rfl (fun _ _ _ h => h) (by rfl) ?_ ?_ ?_; rotate_left; (· intro w'; go_simp; with_reducible rfl); rotate_left; (· simp only [Act.put,zp1,zp2,zp3,zp4,zp5]; rfl)
   refine Sq.pu (v := ?_) (a' := ?_) 1 33 (Sq.bl 16 3) (by kernel_rfl) rfl rfl (fun _ _ _ h => h) (by rfl) ?_ ?_ ?_; rotate_left; (· intro w'; go_simp; with_reducible rfl); rotate_left; (· simp only [Act.put,zp1,zp2,zp3,zp4,zp5]; rfl)
   refine Sq.pu (v := ?_) (a' := ?_) 2 34 (Sq.bl 16 7) (by kernel_rfl) rfl rfl (fun _ _ _ h => h) (by rfl) ?_ ?_ ?_; rotate_left; (· intro w'; go_simp; with_reducible rfl); rotate_left; (· simp only [Act.put,zp1,zp2,zp3,zp4,zp5]; rfl)
   refine Sq.pu (v := ?_) (a' := ?_) 3 35 (Sq.bl 16 15) (by kernel_rfl) rfl rfl (fun _ _ _ h => h) (by rfl) ?_ ?_ ?_; rotate_left; (· intro w'; go_simp; with_reducible rfl); rotate_left; (· simp only [Act.put,zp1,zp2,zp3,zp4,zp5]; rfl)
   refine Sq.pu (v := ?_) (a' := ?_) 5 37 (Sq.bl 16 47) (by kernel_rfl) rfl rfl (fun _ _ _ h => h) (by rfl) ?_ ?_ ?_; rotate_left; (· intro w'; go_simp; with_reducible rfl); rotate_left; (· simp only [Act.put,zp1,zp2,zp3,zp4,zp5]; rfl)
   refine Sq.pu (v := ?_) (a' := ?_) 7 39 (Sq.bl 16 175) (by kernel_rfl) rfl rfl (fun _ _ _ h => h) (by rfl) ?_ ?_ ?_; rotate_left; (· intro w'; go_simp; with_reducible rfl); rotate_left; (· simp only [Act.put,zp1,zp2,zp3,zp4,zp5]; rfl)
   refine take_ (i := 4) (N := some 36) (v := ?_) (a' := ?_) (Sq.bl 16 191) rfl rfl (by kernel_rfl) (fun _ _ _ h => h) (Or.inl ⟨by rfl, ?_⟩) hS ?_ ?_; rotate_left; (· rintro w' ⟨s0, s1, s2, s3⟩; go_simp; with_reducible rfl); rotate_left; (· simp only [Act.put,zp1,zp2,zp3,zp4,zp5]; rfl)
   refine take_ (i := 6) (N := some 38) (v := ?_) (a' := ?_) (Sq.bl 16 255) rfl rfl (by kernel_rfl) (fun _ _ _ h => h) (Or.inl ⟨by rfl, ?_⟩) hS ?_ ?_; rotate_left; (· rintro w' ⟨s0, s1, s2, s3⟩; go_simp; with_reducible rfl); rotate_left; (· simp only [Act.put,zp1,zp2,zp3,zp4,zp5]; rfl)
   refine take_ (i := 8) (N := some 40) (v := ?_) (a' := ?_) (Sq.bl 16 511) rfl rfl (by kernel_rfl) (fun _ _ _ h => h) (Or.inl ⟨by rfl, ?_⟩) hS ?_ ?_; rotate_left; (· rintro w' ⟨s0, s1, s2, s3⟩; go_simp; with_reducible rfl); rotate_left; (· simp only [Act.put,zp1,zp2,zp3,zp4,zp5]; rfl)
   refine one_ (i := 9) (N := some 41) (Sq.bl 16 1023) rfl rfl (by kernel_rfl) (by decide) (fun K hK => ?_)
   refine goes_ Try.func52 (by kernel_rfl) rfl #[.slice A x.f1.length cx] (by rfl) rfl rfl (by (try simp only [List.map_toArray, List.map_cons, List.map_nil]); first | done | rfl | skip) ?_
   refine (api_Line_52.made A cx x.f1 _ (Kd.C_below hCx (hbw.trans (Below.drew (Below.refl _ _)))) hcx (by omega)).mono ?_
   rintro e w2 ⟨v0, rfl, ho, hbel⟩
   obtain ⟨A3, c3, rfl⟩ := Kd.R_slice ho
   have hs2 : W.heap.size ≤ w2.heap.size := hbel.size
   have hb2 := (hbel.block b (blk_lt hb)).trans hb
   have hX2 := (hbel.block _ (blk_lt hX)).trans hX
   refine ⟨_, rfl, hK.out _ _ ⟨(blk_cell hb2 2).trans rfl, (blk_cell hX2 0).trans rfl, (blk_cell hX2 1).trans rfl, blk_frozen hb2 2⟩ (fun hS => ?_)⟩
   clear hK K
   refine norm_ (a' := ?_) ?_ ?_
   rotate_left
   ·show Act.put _ (some 41) _ = _
    simp only [Act.put,zp1,zp2,zp3,zp4,zp5]
    rfl
   refine Sq.pu (v := ?_) (a' := ?_) 10 42 (Sq.bl 16 2047) (by kernel_rfl) rfl rfl (fun _ _ _ h => h) (by rfl) ?_ ?_ ?_; rotate_left; (· intro w'; go_simp; with_reducible rfl); rotate_left; (· simp only [Act.put,zp1,zp2,zp3,zp4,zp5]; rfl)
   refine one_ (i := 11) (N := some 43) (Sq.bl 16 4095) rfl rfl (by kernel_rfl) (by decide) (fun K hK => ?_)
   refine value_ (w1 := ?_) (v := ?_) (by rfl) rfl ?_ ?_
   rotate_left 2
   ·go_simp
    constructor
    ·rfl
    ·rfl
   have hb3 := blk_alloc hb2 (.cells #[.int .i64 x.f0, .slice A3 x.f1.length c3] 47)
   have hX3 := blk_alloc hX2 (.cells #[.int .i64 x.f0, .slice A3 x.f1.length c3] 47)
   refine hK.out _ _ ⟨(blk_cell hb3 2).trans rfl, (blk_cell hX3 0).trans rfl, (blk_cell hX3 1).trans rfl, blk_frozen hb3 2⟩ (fun hS => ?_)
   clear hK K
   refine norm_ (a' := ?_) ?_ ?_
   rotate_left
   ·show Act.put _ (some 43) _ = _
    simp only [Act.put,zp1,zp2,zp3,zp4,zp5]
    rfl
   refine one_ (i := 12) (N := some 44) (Sq.bl 16 8191) rfl rfl (by kernel_rfl) (by decide) (fun K hK => ?_)
   refine Kd.R_append_step k47 (w0 := W) w0.heap.size (by rfl) (.tmp 36) (.tmp 43) 22 47 (.agg #[(.int .i64 0), (.slice none 0 0)]) 32 rfl Try.underlying22 info47 rfl (by decide) (by omega) (.slice An now.length cn) now (⟨x.f0, x.f1⟩ : S47) [.int .i64 x.f0, .slice A3 x.f1.length c3] (fun k => ¬ kp k ∧ some k ≠ vo.ownBlock) (fun k => W.heap.size ≤ k ∧ k < w2.heap.size) rfl rfl ?aP ?aK ?aF ?aO ?aB ?aS ?aL ?_
   (case aP => exact k47_mkM _ _ _ (⟨x.f0, x.f1⟩ : S47) (Kd.R_lower (Kd.R_mono (Kd.R_bound ho) (fun k hk => ⟨hk.2.1, hk.2.2.1⟩)) (by have := hbw.size; have : W.drew.heap.size = W.heap.size := rfl; omega)))
   (case aK => exact fun k hk => ⟨⟨fun e => by have := hkl k e; omega, fun e => by have := Kd.R_lt hvo k e.symm; omega⟩, fun e => by have := Kd.R_lt hvn k e.symm; omega⟩)
   (case aF => exact fun k hk => ⟨fun e => by have := hkl k e; omega, fun e => by have := Kd.R_lt hvo k e.symm; omega⟩)
   (case aO => exact Kd.R_below hvn (below_then (below_drew (Below.refl _ _)) (Nat.le_refl _) hbel))
   (case aB => exact (below_then (below_drew (Below.refl _ _)) (Nat.le_refl _) hbel).mono hbw.size)
   (case aS => exact (by have := hbw.size; omega))
   (case aL => omega)
   intro v4 w4 ho4 hbel4 hg4 hat4
   obtain ⟨A4, c4, rfl⟩ := Kd.R_slice ho4
   have hneb : some b ≠ (Value.slice An now.length cn).ownBlock := Kd.R_ne hvn hb (by decide)
   have hb4 := (hg4.block b (blk_lt hb2) hneb).trans hb2
   have hX4 := (hg4.block _ (blk_lt hX2) (fun e => (hvn.1 _ e.symm).1 hkX)).trans hX2
   refine hK.out _ _ ⟨(blk_cell hb4 2).trans rfl, (blk_cell hX4 0).trans rfl, (blk_cell hX4 1).trans rfl, blk_frozen hb4 2⟩ (fun hS => ?_)
   have hbel2 : Below W.heap.size W w2 := below_then (below_drew (Below.refl _ _)) (Nat.le_refl _) hbel
   have hdone := hunk_Build.put_done hBb hkb hkl hvo hvn hbel2 hb4 ho4 hbel4 hg4 hat4
   rw [List.length_append] at hdone
   clear hK K
   refine norm_ (a' := ?_) ?_ ?_
   rotate_left
   ·show Act.put _ (some 44) _ = _
    simp only [Act.put,zp1,zp2,zp3,zp4,zp5]
    rfl
   refine Sq.pu (v := ?_) (a' := ?_) 13 45 (Sq.bl 16 16383) (by kernel_rfl) rfl rfl (fun _ _ _ h => h) (by rfl) ?_ ?_ ?_; rotate_left; (· intro w'; go_simp; with_reducible rfl); rotate_left; (· simp only [Act.put,zp1,zp2,zp3,zp4,zp5]; rfl)
   refine Sq.pu (v := ?_) (a' := ?_) 14 46 (Sq.bl 16 32767) (by kernel_rfl) rfl rfl (fun _ _ _ h => h) (by rfl) ?_ ?_ ?_; rotate_left; (· intro w'; go_simp; with_reducible rfl); rotate_left; (· simp only [Act.put,zp1,zp2,zp3,zp4,zp5]; rfl)
   refine last_ (i := 15) (N := none) (Sq.bl 16 65535) rfl rfl (by kernel_rfl) (by decide) (fun K hK => ?_)
   refine skip_ (w1 := ?_) (by rfl) rfl ?_ ?_
   rotate_left
   ·go_simp
    rfl
   refine hK.out _ _ ?_
   clear hK K
   refine done_ (by kernel_rfl) ?_
   obtain ⟨hA6, hB6, _⟩ := hdone
   try simp only [List.length_singleton] at hA6 hB6
   have HA6 := Aside0.mk hA6
   have HB6 := Aside0.mk (hBW.trans hB6)
   clear hA6 hB6 ho4 hbel4 hg4 hat4 hb4 hneb hb3 hb2 hs2 hbel hbel2 ho hvo hvn hb hS hX hX2 hX3 hX4
   generalize w4.setCell ⟨b, 2, none⟩ (.slice A4 (now.length + 1) c4) = w6 at HA6 HB6 ⊢
   try go_wp2
   go_end0
   refine ⟨rfl, ?_, HB6.out⟩
   rw [← HT.out]
   exact ⟨Aa, ca, HA6.out.free, hCa0.out, hca0.out⟩


end Go.Proofs.Ytfnbodjmmkjlcaa.H
end
section
namespace Go.Proofs.Ytfnbodjmmkjlcaa.H
open Go.RowKit Go.Proofs.YtfnbodjmmkjlcaaW.PrintWords Go.Proofs.YtfnbodjmmkjlcaaW.PrintLast Go.Proofs.YtfnbodjmmkjlcaaW.PrintMore
attribute [local go_sem] max2_int min2_int max_two min_two max_three min_three max_four min_four   -- for this text's walks alone
set_option linter.unusedVariables false
set_option linter.unusedSimpArgs false

/-- What the walk over a script knows: how many lines of both sides were gone past, the next hunk, whether the next change is the first one of a hunk, and the hunks. -/
structure hunk_place.PS where
 a : Nat
 b : Nat
 i : Nat
 fresh : Bool
 l : List S44
def hunk_place.ld (e : S47) : Nat := if e.f0 = 1 then e.f1.length else 0
def hunk_place.setp (p : hunk_place.PS) : Option (List S44) :=
 if p.i < p.l.length then
  (match (p.l.getD p.i z44).f4 with
  | [] => none
  | e :: _ => some (p.l.set p.i ⟨(p.a : Int) - (hunk_place.ld e : Int), (p.l.getD p.i z44).f1, (p.b : Int) - (hunk_place.ld e : Int), (p.l.getD p.i z44).f3, (p.l.getD p.i z44).f4⟩))
 else none
def hunk_place.step (c k : Nat) (x : S47) (p : hunk_place.PS) : Option hunk_place.PS :=
 if x.f0 = 1 then some ⟨p.a + x.f1.length, p.b + x.f1.length, p.i, if 0 < k ∧ 2 * c < x.f1.length then true else p.fresh, p.l⟩
 else if x.f0 = 2 ∨ x.f0 = 3 then
  (if p.fresh = true then (hunk_place.setp p).bind fun l => some ⟨if x.f0 = 2 then p.a + x.f1.length else p.a, if x.f0 = 2 then p.b else p.b + x.f1.length, p.i + 1, false, l⟩
  else some ⟨if x.f0 = 2 then p.a + x.f1.length else p.a, if x.f0 = 2 then p.b else p.b + x.f1.length, p.i, false, p.l⟩)
 else none
def hunk_place.p (c : Nat) : List S47 → Nat → hunk_place.PS → Option hunk_place.PS
 | [], _, q => some q
 | x :: xs, k, q => (hunk_place.step c k x q).bind (hunk_place.p c xs (k + 1))
theorem hunk_place.set2 {W : World} {B : Nat} {ok : Nat → Prop} {g n cap : Nat} {l : List S44} (hR : Kd.R k44 44 W B ok (.slice (some ⟨g, 0, none⟩) n cap) l) (i : Nat) (hi : i < n) (u v : Int) :
  Kd.R k44 44 ((W.setCell ⟨g, i * 5, none⟩ (.int .i64 u)).setCell ⟨g, i * 5 + 2, none⟩ (.int .i64 v)) B ok (.slice (some ⟨g, 0, none⟩) n cap) (l.set i ⟨u, (l.getD i z44).f1, v, (l.getD i z44).f3, (l.getD i z44).f4⟩) := by
 have hn := (Kd.R_reads' hR).1
 obtain ⟨c, hcl, hM, hcc, hfr⟩ := Kd.R_elem hR z44 (i : Int) (by omega) (by omega)
 obtain ⟨v4, rfl, hv4⟩ := k44_openM hM
 simp only [Int.toNat_natCast] at hv4 hcc hcl hM
 have h1 := Kd.R_seg hR (i : Int) (by omega) (by omega) (seg := [.int .i64 u]) (j := 0) hcl hcc (show 0 + 1 ≤ 5 by decide) (x' := ⟨u, (l.getD i z44).f1, (l.getD i z44).f2, (l.getD i z44).f3, (l.getD i z44).f4⟩) (okp := fun k => ok k ∧ k ≠ g) (k44_mkM _ _ _ ⟨u, (l.getD i z44).f1, (l.getD i z44).f2, (l.getD i z44).f3, (l.getD i z44).f4⟩ hv4) (fun _ hk => hk)
 simp only [Int.toNat_natCast] at h1
 have h2 : Kd.R k44 44 (W.setCell ⟨g, i * 5, none⟩ (.int .i64 u)) B ok (.slice (some ⟨g, 0, none⟩) n cap) (l.set i ⟨u, (l.getD i z44).f1, (l.getD i z44).f2, (l.getD i z44).f3, (l.getD i z44).f4⟩) := h1.1
 have hg : ∀ d : S44, (l.set i d).getD i z44 = d := fun d => by
  rw [List.getD_eq_getElem?_getD, List.getElem?_set_self (by omega)]
  rfl
 obtain ⟨c', hcl', hM', hcc', _⟩ := Kd.R_elem h2 z44 (i : Int) (by omega) (by omega)
 obtain ⟨v4', rfl, hv4'⟩ := k44_openM hM'
 simp only [Int.toNat_natCast] at hv4' hcc' hcl' hM'
 have h3 := Kd.R_seg h2 (i : Int) (by omega) (by omega) (seg := [.int .i64 v]) (j := 2) hcl' hcc' (show 2 + 1 ≤ 5 by decide) (x' := ⟨u, (l.getD i z44).f1, v, (l.getD i z44).f3, (l.getD i z44).f4⟩) (okp := fun k => ok k ∧ k ≠ g) (by
  rw [hg] at hv4' ⊢
  exact k44_mkM _ _ _ ⟨u, (l.getD i z44).f1, v, (l.getD i z44).f3, (l.getD i z44).f4⟩ hv4') (fun _ hk => hk)
 simp only [Int.toNat_natCast, List.set_set] at h3
 exact h3.1
theorem hunk_place.elem {W : World} {B : Nat} {ok : Nat → Prop} {g n cap : Nat} {l : List S44} (hR : Kd.R k44 44 W B ok (.slice (some ⟨g, 0, none⟩) n cap) l) (i : Nat) (hi : i < n) {e : S47} {es : List S47} (hf : (l.getD i z44).f4 = e :: es) :
  ∃ (v0 v2 : Value) (ad : Addr) (c4 : Nat) (A5 : Option Addr) (c5 : Nat), W.cell? ⟨g, i * 5, none⟩ = some v0 ∧ W.cell? ⟨g, i * 5 + 2, none⟩ = some v2 ∧ W.cell? ⟨g, i * 5 + 4, none⟩ = some (.slice (some ad) (es.length + 1) c4) ∧ W.cell? ad = some (.int .i64 e.f0) ∧ W.cell? ⟨ad.block, ad.off + 1, none⟩ = some (.slice A5 e.f1.length c5) ∧ W.frozen? ⟨g, i * 5, none⟩ = false ∧ W.frozen? ⟨g, i * 5 + 2, none⟩ = false ∧ e.f1.length ≤ 9223372036854775807 := by
 obtain ⟨c, hcl, hM, hcc, hfr⟩ := Kd.R_elem hR z44 (i : Int) (by omega) (by omega)
 obtain ⟨v4, rfl, hv4⟩ := k44_openM hM
 simp only [Int.toNat_natCast] at hv4 hcc hcl hM hfr
 rw [hf] at hv4
 obtain ⟨A4, c4, rfl, hl4, hC4⟩ := Kd.R_reads hv4
 obtain ⟨ad, A5, c5, rfl, hy0, hy1, hl5, hC5⟩ := at_T47 hC4 0 (by omega) (by simp)
 have e0 : ad.add ((0 : Int).toNat * 2) = ad := by simp [Addr.add]
 rw [e0] at hy0 hy1
 exact ⟨_, _, ad, c4, A5, c5, hcc 0 _ rfl, hcc 2 _ rfl, hcc 4 _ rfl, hy0, hy1, hfr 0, hfr 2, hC5.2.1⟩
set_option maxHeartbeats 4000000 in
set_option maxRecDepth 100000 in
theorem hunk_place.calls (w0 : World) (c : Nat) (s : List S47) (A : Option Addr) (cs : Nat) (l : List S44) (vl : Value) (ok : Nat → Prop) (r : hunk_place.PS) (w : World) (hc : c ≤ 1000000) (hC : Kd.C k47 w0 A s.length s) (hbw : Below w0.heap.size w0 w) (hcs : s.length ≤ cs) (hsz : script_normal.lines s ≤ 1000000)
  (hR : Kd.R k44 44 w w0.heap.size ok vl l) (h : hunk_place.p c s 0 ⟨0, 0, 0, true, l⟩ = some r) :
  Calls Try.prog 45 #[.slice A s.length cs, vl, .int .i64 (c : Int)] w fun e w' => e = .returned (.tuple #[]) ∧ Kd.R k44 44 w' w0.heap.size ok vl r.l ∧ w.heap.size ≤ w'.heap.size ∧ (∀ k, k < w.heap.size → some k ≠ vl.ownBlock → w'.heap[k]? = w.heap[k]?) ∧ Below w0.heap.size w w' := by
 obtain ⟨Al, cl, rfl, hcl, hCl⟩ := Kd.R_reads hR
 have HC := Aside0.mk hC
 have Hcs := Aside0.mk hcs
 have HR := Aside0.mk hR
 have HH := Aside0.mk h
 clear hC hcs hR h hCl
 go_enter Try.func45, Try.ntmps45
 go_wp2
 go_loopw [6, 7, 8, 9, 17] (fun va vb vi vf vk wr => ∃ (n : Nat) (q : hunk_place.PS), n ≤ s.length ∧ va = .int .i64 (q.a : Int) ∧ vb = .int .i64 (q.b : Int) ∧ vi = .int .i64 (q.i : Int) ∧ vf = .bool q.fresh ∧ vk = .int .i64 (n : Int) ∧ q.a ≤ script_normal.lines (s.take n) ∧ q.b ≤ script_normal.lines (s.take n) ∧ q.i ≤ n ∧ q.l.length = l.length ∧ hunk_place.p c (s.drop n) n q = some r ∧
   Kd.R k44 44 wr w0.heap.size ok (.slice Al l.length cl) q.l ∧ w.heap.size ≤ wr.heap.size ∧ (∀ k, k < w.heap.size → some k ≠ (Value.slice Al l.length cl).ownBlock → wr.heap[k]? = w.heap[k]?) ∧ Below w0.heap.size w wr)
  (fun _ _ _ _ vk _ => s.length - (intOf vk).toNat)
 case atStart => exact ⟨0, ⟨0, 0, 0, true, l⟩, Nat.zero_le _, rfl, rfl, rfl, rfl, rfl, Nat.zero_le _, Nat.zero_le _, Nat.le_refl _, rfl, HH.out, HR.out, Nat.le_refl _, fun _ _ _ => rfl, Below.refl _ _⟩
 case round =>
  obtain ⟨n, ⟨a, b, i, fresh, q⟩, hn, rfl, rfl, rfl, rfl, rfl, ha, hb, hi, hql, hq, hRr, hsz1, hfr, hB⟩ := hrel
  simp only at ha hb hi hql hq hRr
  by_cases hlt : n < s.length
  ·have hx : rd_T47 s (n : Int) = s[n] := by
    simp [rd_T47, hlt]
   have hdr : s.drop n = rd_T47 s (n : Int) :: s.drop (n + 1) := by rw [List.drop_eq_getElem_cons hlt, hx]
   have hlt' : decide ((n : Int) < (s.length : Int)) = true := decide_eq_true (by omega)
   have hln : script_normal.lines (s.take (n + 1)) = script_normal.lines (s.take n) + (rd_T47 s (n : Int)).f1.length := by
    rw [List.take_succ_eq_append_getElem hlt, script_normal.lines_append, hx]
    simp [script_normal.lines]
   have hln2 := script_normal.lines_take s (n + 1)
   rw [hdr] at hq
   unfold hunk_place.p at hq
   obtain ⟨q1, hq1, hq2⟩ := Option.bind_eq_some_iff.1 hq
   obtain ⟨ad, A1, c1, e, hx0, hx1, hl1, hC1⟩ := at_T47 HC.out (n : Int) (by omega) (by omega)
   cases e
   replace hx0 := ((hbw.trans hB).cell (World.block_lt_of_cell? w0 _ hx0)).trans hx0
   replace hx1 := ((hbw.trans hB).cell (World.block_lt_of_cell? w0 _ hx1)).trans hx1
   simp only [Int.toNat_natCast] at hx0 hx1
   have HC1 := Aside0.mk hC1
   have Hl1 := Aside0.mk hl1
   have HX := Aside0.mk (World.alloc_heap_new wr (.cells #[.int .i64 (rd_T47 s (n : Int)).f0, .slice A1 (rd_T47 s (n : Int)).f1.length c1] 47 (0, 0)))
   have HBx := Aside0.mk ((hbw.trans hB).alloc (by have := hbw.size; omega) (.cells #[.int .i64 (rd_T47 s (n : Int)).f0, .slice A1 (rd_T47 s (n : Int)).f1.length c1] 47))
   have HRr := Aside0.mk hRr
   have HB := Aside0.mk hB
   have Hfr := Aside0.mk hfr
   have Hq2 := Aside0.mk hq2
   have Hbw := Aside0.mk hbw
   have Hln := Aside0.mk hln
   have hln3 := Hln.out
   clear hdr hx hq hq2 hC1 hl1 hRr hfr hB hbw hln
   have HWa : Aside0 (wrap64 ((a : Int) + ((rd_T47 s (n : Int)).f1.length : Int)) = ((a + (rd_T47 s (n : Int)).f1.length : Nat) : Int)) := ⟨by unfold wrap64; omega⟩
   have HWb : Aside0 (wrap64 ((b : Int) + ((rd_T47 s (n : Int)).f1.length : Int)) = ((b + (rd_T47 s (n : Int)).f1.length : Nat) : Int)) := ⟨by unfold wrap64; omega⟩
   have hsl : s.length ≤ 9223372036854775807 := HC.out.2.1
   have HWn : Aside0 (wrap64 ((n : Int) + 1) = ((n + 1 : Nat) : Int)) := ⟨by unfold wrap64; omega⟩
   unfold hunk_place.step at hq1
   simp only at hq1
   by_cases hd1 : (rd_T47 s (n : Int)).f0 = 1
   ·rw [if_pos hd1] at hq1
    have HQ1 := Aside0.mk (Option.some.inj hq1)
    have hch : ((rd_T47 s (n : Int)).f0 != 1) = false := by simp [hd1]
    have hd2 : ((rd_T47 s (n : Int)).f0 != 2) = true := by simp [hd1]
    have hd3 : ((rd_T47 s (n : Int)).f0 != 3) = true := by simp [hd1]
    clear hq1 hd1
    by_cases hn0 : 0 < n
    ·have hn0' : decide (0 < n) = true := decide_eq_true hn0
     by_cases hg : 2 * c < (rd_T47 s (n : Int)).f1.length
     ·have hg' : decide (2 * c < (rd_T47 s (n : Int)).f1.length) = true := decide_eq_true hg
      have hg2 : (2 * (c : Int) < ((rd_T47 s (n : Int)).f1.length : Int)) = True := eq_true (by omega)
      rw [if_pos ⟨hn0, hg⟩] at HQ1
      clear hn0 hg
      go_wp2_with (first | (go_at_call 68; refine (hunk_changes.calls (rd_T47 s (n : Int)).f0 A1 c1 (rd_T47 s (n : Int)).f1 false (wr.alloc _) (Kd.C_below HC1.out HBx.out) Hl1.out (by unfold hunk_changes.f; rw [hch])).mono ?_; rintro e W1 ⟨rfl, hbW1⟩; have hX1 := (hbW1.block _ (blk_lt HX.out)).trans HX.out; have hX10 : W1.cell? ⟨wr.heap.size, 0, none⟩ = some (.int .i64 (rd_T47 s (n : Int)).f0) := (blk_cell hX1 0).trans rfl; have hX11 : W1.cell? ⟨wr.heap.size, 1, none⟩ = some (.slice A1 (rd_T47 s (n : Int)).f1.length c1) := (blk_cell hX1 1).trans rfl; have HX1 := Aside0.mk hX1; have HW1 := Aside0.mk hbW1; clear hX1 hbW1) | (go_at_call 68; refine (hunk_changes.calls (rd_T47 s (n : Int)).f0 A1 c1 (rd_T47 s (n : Int)).f1 false W1 (Kd.C_below HC1.out (HBx.out.trans (HW1.out.mono HBx.out.size))) Hl1.out (by unfold hunk_changes.f; rw [hch])).mono ?_; rintro e W2 ⟨rfl, hbW2⟩; have hX2 := (hbW2.block _ (blk_lt HX1.out)).trans HX1.out; have hX20 : W2.cell? ⟨wr.heap.size, 0, none⟩ = some (.int .i64 (rd_T47 s (n : Int)).f0) := (blk_cell hX2 0).trans rfl; have HW2 := Aside0.mk hbW2; clear hX2 hbW2))
      go_roundw
      case rel =>
       obtain rfl := HQ1.out
       have hbB := HBx.out.trans ((HW1.out.mono HBx.out.size).trans (HW2.out.mono (Nat.le_trans HBx.out.size HW1.out.size)))
       have hs1 := HW1.out.size
       have hs2 := HW2.out.size
       simp only [World.size_alloc] at hs1
       have hl1 := Hln.out
       refine ⟨n + 1, _, by omega, by first | rfl | exact congrArg _ HWa.out, by first | rfl | exact congrArg _ HWb.out, rfl, rfl, by first | rfl | exact congrArg _ HWn.out, by simp only; omega, by simp only; omega, by simp only; omega, hql, Hq2.out, Kd.R_below (Kd.R_below (Kd.R_alloc HRr.out _) HW1.out) HW2.out, by omega, fun k hk hk2 => ?_, ?_⟩
       ·exact ((HW2.out.block k (by omega)).trans ((HW1.out.block k (by rw [World.size_alloc]; omega)).trans (Below.heap_alloc _ _ _ (by omega)))).trans (Hfr.out k hk hk2)
       ·exact ((HB.out.alloc (by have := Hbw.out.size; omega) _).trans (HW1.out.mono HBx.out.size)).trans (HW2.out.mono (Nat.le_trans HBx.out.size HW1.out.size))
      case measure =>
       try rw [HWn.out]
       simp only [intOf, Int.toNat_natCast]
       omega
     ·have hg' : decide (2 * c < (rd_T47 s (n : Int)).f1.length) = false := decide_eq_false hg
      have hg2 : (2 * (c : Int) < ((rd_T47 s (n : Int)).f1.length : Int)) = False := eq_false (by omega)
      rw [if_neg (by omega)] at HQ1
      clear hn0 hg
      go_wp2_with (first | (go_at_call 68; refine (hunk_changes.calls (rd_T47 s (n : Int)).f0 A1 c1 (rd_T47 s (n : Int)).f1 false (wr.alloc _) (Kd.C_below HC1.out HBx.out) Hl1.out (by unfold hunk_changes.f; rw [hch])).mono ?_; rintro e W1 ⟨rfl, hbW1⟩; have hX1 := (hbW1.block _ (blk_lt HX.out)).trans HX.out; have hX10 : W1.cell? ⟨wr.heap.size, 0, none⟩ = some (.int .i64 (rd_T47 s (n : Int)).f0) := (blk_cell hX1 0).trans rfl; have hX11 : W1.cell? ⟨wr.heap.size, 1, none⟩ = some (.slice A1 (rd_T47 s (n : Int)).f1.length c1) := (blk_cell hX1 1).trans rfl; have HX1 := Aside0.mk hX1; have HW1 := Aside0.mk hbW1; clear hX1 hbW1) | (go_at_call 68; refine (hunk_changes.calls (rd_T47 s (n : Int)).f0 A1 c1 (rd_T47 s (n : Int)).f1 false W1 (Kd.C_below HC1.out (HBx.out.trans (HW1.out.mono HBx.out.size))) Hl1.out (by unfold hunk_changes.f; rw [hch])).mono ?_; rintro e W2 ⟨rfl, hbW2⟩; have hX2 := (hbW2.block _ (blk_lt HX1.out)).trans HX1.out; have hX20 : W2.cell? ⟨wr.heap.size, 0, none⟩ = some (.int .i64 (rd_T47 s (n : Int)).f0) := (blk_cell hX2 0).trans rfl; have HW2 := Aside0.mk hbW2; clear hX2 hbW2))
      go_roundw
      case rel =>
       obtain rfl := HQ1.out
       have hbB := HBx.out.trans ((HW1.out.mono HBx.out.size).trans (HW2.out.mono (Nat.le_trans HBx.out.size HW1.out.size)))
       have hs1 := HW1.out.size
       have hs2 := HW2.out.size
       simp only [World.size_alloc] at hs1
       have hl1 := Hln.out
       refine ⟨n + 1, _, by omega, by first | rfl | exact congrArg _ HWa.out, by first | rfl | exact congrArg _ HWb.out, rfl, rfl, by first | rfl | exact congrArg _ HWn.out, by simp only; omega, by simp only; omega, by simp only; omega, hql, Hq2.out, Kd.R_below (Kd.R_below (Kd.R_alloc HRr.out _) HW1.out) HW2.out, by omega, fun k hk hk2 => ?_, ?_⟩
       ·exact ((HW2.out.block k (by omega)).trans ((HW1.out.block k (by rw [World.size_alloc]; omega)).trans (Below.heap_alloc _ _ _ (by omega)))).trans (Hfr.out k hk hk2)
       ·exact ((HB.out.alloc (by have := Hbw.out.size; omega) _).trans (HW1.out.mono HBx.out.size)).trans (HW2.out.mono (Nat.le_trans HBx.out.size HW1.out.size))
      case measure =>
       try rw [HWn.out]
       simp only [intOf, Int.toNat_natCast]
       omega
    ·have hn0' : decide (0 < n) = false := decide_eq_false hn0
     rw [if_neg (by omega)] at HQ1
     clear hn0
     go_wp2_with (first | (go_at_call 68; refine (hunk_changes.calls (rd_T47 s (n : Int)).f0 A1 c1 (rd_T47 s (n : Int)).f1 false (wr.alloc _) (Kd.C_below HC1.out HBx.out) Hl1.out (by unfold hunk_changes.f; rw [hch])).mono ?_; rintro e W1 ⟨rfl, hbW1⟩; have hX1 := (hbW1.block _ (blk_lt HX.out)).trans HX.out; have hX10 : W1.cell? ⟨wr.heap.size, 0, none⟩ = some (.int .i64 (rd_T47 s (n : Int)).f0) := (blk_cell hX1 0).trans rfl; have hX11 : W1.cell? ⟨wr.heap.size, 1, none⟩ = some (.slice A1 (rd_T47 s (n : Int)).f1.length c1) := (blk_cell hX1 1).trans rfl; have HX1 := Aside0.mk hX1; have HW1 := Aside0.mk hbW1; clear hX1 hbW1) | (go_at_call 68; refine (hunk_changes.calls (rd_T47 s (n : Int)).f0 A1 c1 (rd_T47 s (n : Int)).f1 false W1 (Kd.C_below HC1.out (HBx.out.trans (HW1.out.mono HBx.out.size))) Hl1.out (by unfold hunk_changes.f; rw [hch])).mono ?_; rintro e W2 ⟨rfl, hbW2⟩; have hX2 := (hbW2.block _ (blk_lt HX1.out)).trans HX1.out; have hX20 : W2.cell? ⟨wr.heap.size, 0, none⟩ = some (.int .i64 (rd_T47 s (n : Int)).f0) := (blk_cell hX2 0).trans rfl; have HW2 := Aside0.mk hbW2; clear hX2 hbW2))
     go_roundw
     case rel =>
      obtain rfl := HQ1.out
      have hbB := HBx.out.trans ((HW1.out.mono HBx.out.size).trans (HW2.out.mono (Nat.le_trans HBx.out.size HW1.out.size)))
      have hs1 := HW1.out.size
      have hs2 := HW2.out.size
      simp only [World.size_alloc] at hs1
      have hl1 := Hln.out
      refine ⟨n + 1, _, by omega, by first | rfl | exact congrArg _ HWa.out, by first | rfl | exact congrArg _ HWb.out, rfl, rfl, by first | rfl | exact congrArg _ HWn.out, by simp only; omega, by simp only; omega, by simp only; omega, hql, Hq2.out, Kd.R_below (Kd.R_below (Kd.R_alloc HRr.out _) HW1.out) HW2.out, by omega, fun k hk hk2 => ?_, ?_⟩
      ·exact ((HW2.out.block k (by omega)).trans ((HW1.out.block k (by rw [World.size_alloc]; omega)).trans (Below.heap_alloc _ _ _ (by omega)))).trans (Hfr.out k hk hk2)
      ·exact ((HB.out.alloc (by have := Hbw.out.size; omega) _).trans (HW1.out.mono HBx.out.size)).trans (HW2.out.mono (Nat.le_trans HBx.out.size HW1.out.size))
     case measure =>
      try rw [HWn.out]
      simp only [intOf, Int.toNat_natCast]
      omega
   ·rw [if_neg hd1] at hq1
    have hch : ((rd_T47 s (n : Int)).f0 != 1) = true := by simp [hd1]
    by_cases hd23 : (rd_T47 s (n : Int)).f0 = 2 ∨ (rd_T47 s (n : Int)).f0 = 3
    ·rw [if_pos hd23] at hq1
     cases fresh with
     | false =>
      rw [if_neg (by decide)] at hq1
      have HQ1 := Aside0.mk (Option.some.inj hq1)
      by_cases h2 : (rd_T47 s (n : Int)).f0 = 2
      ·rw [if_pos h2, if_pos h2] at HQ1
       have hd2 : ((rd_T47 s (n : Int)).f0 != 2) = false := by simp [h2]
       have hd3 : ((rd_T47 s (n : Int)).f0 != 3) = true := by simp [h2]
       clear hq1 hd1 hd23 h2
       go_wp2_with (first | (go_at_call 68; refine (hunk_changes.calls (rd_T47 s (n : Int)).f0 A1 c1 (rd_T47 s (n : Int)).f1 true (wr.alloc _) (Kd.C_below HC1.out HBx.out) Hl1.out (by unfold hunk_changes.f; rw [hch])).mono ?_; rintro e W1 ⟨rfl, hbW1⟩; have hX1 := (hbW1.block _ (blk_lt HX.out)).trans HX.out; have hX10 : W1.cell? ⟨wr.heap.size, 0, none⟩ = some (.int .i64 (rd_T47 s (n : Int)).f0) := (blk_cell hX1 0).trans rfl; have hX11 : W1.cell? ⟨wr.heap.size, 1, none⟩ = some (.slice A1 (rd_T47 s (n : Int)).f1.length c1) := (blk_cell hX1 1).trans rfl; have HX1 := Aside0.mk hX1; have HW1 := Aside0.mk hbW1; clear hX1 hbW1) | (go_at_call 68; refine (hunk_changes.calls (rd_T47 s (n : Int)).f0 A1 c1 (rd_T47 s (n : Int)).f1 true W1 (Kd.C_below HC1.out (HBx.out.trans (HW1.out.mono HBx.out.size))) Hl1.out (by unfold hunk_changes.f; rw [hch])).mono ?_; rintro e W2 ⟨rfl, hbW2⟩; have hX2 := (hbW2.block _ (blk_lt HX1.out)).trans HX1.out; have hX20 : W2.cell? ⟨wr.heap.size, 0, none⟩ = some (.int .i64 (rd_T47 s (n : Int)).f0) := (blk_cell hX2 0).trans rfl; have HW2 := Aside0.mk hbW2; clear hX2 hbW2))
       go_roundw
       case rel =>
        obtain rfl := HQ1.out
        have hbB := HBx.out.trans ((HW1.out.mono HBx.out.size).trans (HW2.out.mono (Nat.le_trans HBx.out.size HW1.out.size)))
        have hs1 := HW1.out.size
        have hs2 := HW2.out.size
        simp only [World.size_alloc] at hs1
        have hl1 := Hln.out
        refine ⟨n + 1, _, by omega, by first | rfl | exact congrArg _ HWa.out, by first | rfl | exact congrArg _ HWb.out, rfl, rfl, by first | rfl | exact congrArg _ HWn.out, by simp only; omega, by simp only; omega, by simp only; omega, hql, Hq2.out, Kd.R_below (Kd.R_below (Kd.R_alloc HRr.out _) HW1.out) HW2.out, by omega, fun k hk hk2 => ?_, ?_⟩
        ·exact ((HW2.out.block k (by omega)).trans ((HW1.out.block k (by rw [World.size_alloc]; omega)).trans (Below.heap_alloc _ _ _ (by omega)))).trans (Hfr.out k hk hk2)
        ·exact ((HB.out.alloc (by have := Hbw.out.size; omega) _).trans (HW1.out.mono HBx.out.size)).trans (HW2.out.mono (Nat.le_trans HBx.out.size HW1.out.size))
       case measure =>
        try rw [HWn.out]
        simp only [intOf, Int.toNat_natCast]
        omega
      ·rw [if_neg h2, if_neg h2] at HQ1
       have h3 := hd23.resolve_left h2
       have hd2 : ((rd_T47 s (n : Int)).f0 != 2) = true := by simp [h3]
       have hd3 : ((rd_T47 s (n : Int)).f0 != 3) = false := by simp [h3]
       clear hq1 hd1 hd23 h2 h3
       go_wp2_with (first | (go_at_call 68; refine (hunk_changes.calls (rd_T47 s (n : Int)).f0 A1 c1 (rd_T47 s (n : Int)).f1 true (wr.alloc _) (Kd.C_below HC1.out HBx.out) Hl1.out (by unfold hunk_changes.f; rw [hch])).mono ?_; rintro e W1 ⟨rfl, hbW1⟩; have hX1 := (hbW1.block _ (blk_lt HX.out)).trans HX.out; have hX10 : W1.cell? ⟨wr.heap.size, 0, none⟩ = some (.int .i64 (rd_T47 s (n : Int)).f0) := (blk_cell hX1 0).trans rfl; have hX11 : W1.cell? ⟨wr.heap.size, 1, none⟩ = some (.slice A1 (rd_T47 s (n : Int)).f1.length c1) := (blk_cell hX1 1).trans rfl; have HX1 := Aside0.mk hX1; have HW1 := Aside0.mk hbW1; clear hX1 hbW1) | (go_at_call 68; refine (hunk_changes.calls (rd_T47 s (n : Int)).f0 A1 c1 (rd_T47 s (n : Int)).f1 true W1 (Kd.C_below HC1.out (HBx.out.trans (HW1.out.mono HBx.out.size))) Hl1.out (by unfold hunk_changes.f; rw [hch])).mono ?_; rintro e W2 ⟨rfl, hbW2⟩; have hX2 := (hbW2.block _ (blk_lt HX1.out)).trans HX1.out; have hX20 : W2.cell? ⟨wr.heap.size, 0, none⟩ = some (.int .i64 (rd_T47 s (n : Int)).f0) := (blk_cell hX2 0).trans rfl; have HW2 := Aside0.mk hbW2; clear hX2 hbW2))
       go_roundw
       case rel =>
        obtain rfl := HQ1.out
        have hbB := HBx.out.trans ((HW1.out.mono HBx.out.size).trans (HW2.out.mono (Nat.le_trans HBx.out.size HW1.out.size)))
        have hs1 := HW1.out.size
        have hs2 := HW2.out.size
        simp only [World.size_alloc] at hs1
        have hl1 := Hln.out
        refine ⟨n + 1, _, by omega, by first | rfl | exact congrArg _ HWa.out, by first | rfl | exact congrArg _ HWb.out, rfl, rfl, by first | rfl | exact congrArg _ HWn.out, by simp only; omega, by simp only; omega, by simp only; omega, hql, Hq2.out, Kd.R_below (Kd.R_below (Kd.R_alloc HRr.out _) HW1.out) HW2.out, by omega, fun k hk hk2 => ?_, ?_⟩
        ·exact ((HW2.out.block k (by omega)).trans ((HW1.out.block k (by rw [World.size_alloc]; omega)).trans (Below.heap_alloc _ _ _ (by omega)))).trans (Hfr.out k hk hk2)
        ·exact ((HB.out.alloc (by have := Hbw.out.size; omega) _).trans (HW1.out.mono HBx.out.size)).trans (HW2.out.mono (Nat.le_trans HBx.out.size HW1.out.size))
       case measure =>
        try rw [HWn.out]
        simp only [intOf, Int.toNat_natCast]
        omega
     | true =>
      rw [if_pos rfl] at hq1
      obtain ⟨l2, hl2, hq1⟩ := Option.bind_eq_some_iff.1 hq1
      have HQ1 := Aside0.mk (Option.some.inj hq1)
      unfold hunk_place.setp at hl2
      simp only at hl2
      split at hl2
      case isFalse => cases hl2
      rename_i hil
      split at hl2
      case h_1 => cases hl2
      rename_i e es hf4
      have Hl2 := Aside0.mk (Option.some.inj hl2)
      have hne : q ≠ [] := by rintro rfl; simp at hil
      obtain ⟨g, cg, eg⟩ : ∃ g cg, (Value.slice Al l.length cl) = .slice (some ⟨g, 0, none⟩) l.length cg := by
       obtain ⟨inner, hown⟩ := Kd.R_own HRr.out
       rcases hown.2 with ⟨hv, hn0⟩ | ⟨g, cap, cur, hv, _⟩
       ·omega
       ·exact ⟨g, cap, by rw [hv, hql]⟩
      injection eg with eg1 _ eg2
      subst eg1 eg2
      have hil2 : ((i : Int) < (l.length : Int)) = True := eq_true (by omega)
      have hil3 : i < l.length := by omega
      have HF4 := Aside0.mk hf4
      have HGb : Aside0 (w0.heap.size ≤ g) := ⟨Kd.R_base HRr.out g (by simp [Value.ownBlock])⟩
      have HXg : Aside0 (wr.heap.size ≠ g) := ⟨by have := Kd.R_lt HRr.out g (by simp [Value.ownBlock]); omega⟩
      clear hq1 hl2 hil hf4 hne hd1
      by_cases h2 : (rd_T47 s (n : Int)).f0 = 2
      ·rw [if_pos h2, if_pos h2] at HQ1
       have hd2 : ((rd_T47 s (n : Int)).f0 != 2) = false := by simp [h2]
       have hd3 : ((rd_T47 s (n : Int)).f0 != 3) = true := by simp [h2]
       clear hd23 h2
       by_cases he : e.f0 = 1
       ·have he' : (e.f0 == 1) = true := beq_iff_eq.mpr he
        have HL : Aside0 (q.set i ⟨(a : Int) - (e.f1.length : Int), (q.getD i z44).f1, (b : Int) - (e.f1.length : Int), (q.getD i z44).f3, (q.getD i z44).f4⟩ = l2) := ⟨by
         have h_ := Hl2.out
         unfold hunk_place.ld at h_
         rw [if_pos he] at h_
         exact h_⟩
        clear he
        go_wp2_with (first | (go_at_call 68; refine (hunk_changes.calls (rd_T47 s (n : Int)).f0 A1 c1 (rd_T47 s (n : Int)).f1 true (wr.alloc _) (Kd.C_below HC1.out HBx.out) Hl1.out (by unfold hunk_changes.f; rw [hch])).mono ?_; rintro ee W1 ⟨rfl, hbW1⟩; have hX1 := (hbW1.block _ (blk_lt HX.out)).trans HX.out; have hX11 : W1.cell? ⟨wr.heap.size, 1, none⟩ = some (.slice A1 (rd_T47 s (n : Int)).f1.length c1) := (blk_cell hX1 1).trans rfl; have hX10 : W1.cell? ⟨wr.heap.size, 0, none⟩ = some (.int .i64 (rd_T47 s (n : Int)).f0) := (blk_cell hX1 0).trans rfl; have HX1 := Aside0.mk hX1; have HW1 := Aside0.mk hbW1; obtain ⟨v0, v2, ad4, c4, A5, c5, hg0, hg2, hg4, hy0, hy1, hz0, hz2, hle⟩ := hunk_place.elem (Kd.R_below (Kd.R_alloc HRr.out _) hbW1) i hil3 HF4.out; obtain ⟨cg, hgb⟩ := Kd.R_typed (Kd.R_below (Kd.R_alloc HRr.out _) hbW1) g (by simp [Value.ownBlock]); have hz3 : ∀ (o : Obj) (u : Value), ((W1.alloc o).setCell ⟨g, i * 5, none⟩ u).frozen? ⟨g, i * 5 + 2, none⟩ = false := fun o u => blk_frozen (blk_set (blk_alloc hgb o) (i * 5) u) _; have hg3 : ∀ (o : Obj) (u : Value), ((W1.alloc o).setCell ⟨g, i * 5, none⟩ u).cell? ⟨g, i * 5 + 2, none⟩ = some v2 := fun o u => (blk_cell (blk_set (blk_alloc hgb o) (i * 5) u) _).trans (by rw [Array.getElem?_setIfInBounds_ne (by omega)]; exact (blk_cell hgb _).symm.trans hg2); have hz4 : ∀ o : Obj, (W1.alloc o).frozen? ⟨g, i * 5, none⟩ = false := fun o => blk_frozen (blk_alloc hgb o) _; have hg4' : ∀ o : Obj, (W1.alloc o).cell? ⟨g, i * 5, none⟩ = some v0 := fun o => (blk_cell (blk_alloc hgb o) _).trans ((blk_cell hgb _).symm.trans hg0); have HGB := Aside0.mk hgb; have hXc : ∀ (o : Obj) (u v : Value) (j : Nat), (((W1.alloc o).setCell ⟨g, i * 5, none⟩ u).setCell ⟨g, i * 5 + 2, none⟩ v).cell? ⟨wr.heap.size, j, none⟩ = W1.cell? ⟨wr.heap.size, j, none⟩ := fun o u v j => (blk_cell (blk_far (blk_far (blk_alloc hX1 o) (p := ⟨g, i * 5, none⟩) HXg.out u) (p := ⟨g, i * 5 + 2, none⟩) HXg.out v) j).trans (blk_cell hX1 j).symm; have hXc0 : ∀ (o : Obj) (u v : Value), (((W1.alloc o).setCell ⟨g, i * 5, none⟩ u).setCell ⟨g, i * 5 + 2, none⟩ v).cell? ⟨wr.heap.size, 0, none⟩ = some (.int .i64 (rd_T47 s (n : Int)).f0) := fun o u v => (hXc o u v 0).trans hX10; have hXc1 : ∀ (o : Obj) (u v : Value), (((W1.alloc o).setCell ⟨g, i * 5, none⟩ u).setCell ⟨g, i * 5 + 2, none⟩ v).cell? ⟨wr.heap.size, 1, none⟩ = some (.slice A1 (rd_T47 s (n : Int)).f1.length c1) := fun o u v => (hXc o u v 1).trans hX11; clear hX1 hbW1 hgb hXc) | (go_at_call 68; refine (hunk_changes.calls (rd_T47 s (n : Int)).f0 A1 c1 (rd_T47 s (n : Int)).f1 true _ (Kd.C_below HC1.out ((((HBx.out.trans (HW1.out.mono HBx.out.size)).alloc (Nat.le_trans HBx.out.size HW1.out.size) _).setCell HGb.out _).setCell HGb.out _)) Hl1.out (by unfold hunk_changes.f; rw [hch])).mono ?_; rintro ee W4 ⟨rfl, hbW4⟩; have hX4 : W4.cell? ⟨wr.heap.size, 0, none⟩ = some (.int .i64 (rd_T47 s (n : Int)).f0) := (hbW4.cell (by simp; have := blk_lt HX1.out; omega)).trans (hXc0 _ _ _); have HW4 := Aside0.mk hbW4; clear hbW4))
        go_roundw
        case rel =>
         obtain rfl := HQ1.out
         have hs1 := HW1.out.size
         have hs4 := HW4.out.size
         simp only [World.size_alloc, World.size_setCell] at hs1 hs4
         have hl1 := Hln.out
         have hs0 := HBx.out.size
         simp only [World.size_alloc] at hs0
         have hR4 := Kd.R_below (hunk_place.set2 (Kd.R_alloc (Kd.R_below (Kd.R_alloc HRr.out _) HW1.out) _) i hil3 ((a : Int) - (e.f1.length : Int)) ((b : Int) - (e.f1.length : Int))) HW4.out
         rw [HL.out] at hR4
         refine ⟨n + 1, _, by omega, by first | rfl | exact congrArg _ HWa.out, by first | rfl | exact congrArg _ HWb.out, rfl, rfl, by first | rfl | exact congrArg _ HWn.out, by simp only; omega, by simp only; omega, by simp only; omega, ?_, Hq2.out, hR4, by omega, fun k hk hk2 => ?_, ?_⟩
         ·show l2.length = l.length
          rw [← HL.out, List.length_set]
          exact hql
         ·have hkg : k ≠ g := fun e => hk2 (by rw [e]; simp [Value.ownBlock])
          have hk4 : k < W1.heap.size := by omega
          exact ((HW4.out.block k (by simp only [World.size_alloc, World.size_setCell]; omega)).trans ((Below.heap_setCell _ ⟨g, i * 5 + 2, none⟩ _ k hkg).trans ((Below.heap_setCell _ ⟨g, i * 5, none⟩ _ k hkg).trans ((Below.heap_alloc _ _ _ hk4).trans ((HW1.out.block k (by rw [World.size_alloc]; omega)).trans (Below.heap_alloc _ _ _ (by omega))))))).trans (Hfr.out k hk hk2)
         ·exact ((((HB.out.alloc (by have := Hbw.out.size; omega) _).trans (HW1.out.mono HBx.out.size)).alloc (by omega) _).setCell HGb.out _).setCell HGb.out _ |>.trans (HW4.out.mono (by simp only [World.size_alloc, World.size_setCell]; omega))
        case measure =>
         try rw [HWn.out]
         simp only [intOf, Int.toNat_natCast]
         omega
       ·have he' : (e.f0 == 1) = false := beq_eq_false_iff_ne.mpr he
        have HL : Aside0 (q.set i ⟨(a : Int), (q.getD i z44).f1, (b : Int), (q.getD i z44).f3, (q.getD i z44).f4⟩ = l2) := ⟨by
         have h_ := Hl2.out
         unfold hunk_place.ld at h_
         rw [if_neg he] at h_
         simp only [Int.natCast_zero, Int.sub_zero] at h_
         exact h_⟩
        clear he
        go_wp2_with (first | (go_at_call 68; refine (hunk_changes.calls (rd_T47 s (n : Int)).f0 A1 c1 (rd_T47 s (n : Int)).f1 true (wr.alloc _) (Kd.C_below HC1.out HBx.out) Hl1.out (by unfold hunk_changes.f; rw [hch])).mono ?_; rintro ee W1 ⟨rfl, hbW1⟩; have hX1 := (hbW1.block _ (blk_lt HX.out)).trans HX.out; have hX11 : W1.cell? ⟨wr.heap.size, 1, none⟩ = some (.slice A1 (rd_T47 s (n : Int)).f1.length c1) := (blk_cell hX1 1).trans rfl; have hX10 : W1.cell? ⟨wr.heap.size, 0, none⟩ = some (.int .i64 (rd_T47 s (n : Int)).f0) := (blk_cell hX1 0).trans rfl; have HX1 := Aside0.mk hX1; have HW1 := Aside0.mk hbW1; obtain ⟨v0, v2, ad4, c4, A5, c5, hg0, hg2, hg4, hy0, hy1, hz0, hz2, hle⟩ := hunk_place.elem (Kd.R_below (Kd.R_alloc HRr.out _) hbW1) i hil3 HF4.out; obtain ⟨cg, hgb⟩ := Kd.R_typed (Kd.R_below (Kd.R_alloc HRr.out _) hbW1) g (by simp [Value.ownBlock]); have hz3 : ∀ (o : Obj) (u : Value), ((W1.alloc o).setCell ⟨g, i * 5, none⟩ u).frozen? ⟨g, i * 5 + 2, none⟩ = false := fun o u => blk_frozen (blk_set (blk_alloc hgb o) (i * 5) u) _; have hg3 : ∀ (o : Obj) (u : Value), ((W1.alloc o).setCell ⟨g, i * 5, none⟩ u).cell? ⟨g, i * 5 + 2, none⟩ = some v2 := fun o u => (blk_cell (blk_set (blk_alloc hgb o) (i * 5) u) _).trans (by rw [Array.getElem?_setIfInBounds_ne (by omega)]; exact (blk_cell hgb _).symm.trans hg2); have hz4 : ∀ o : Obj, (W1.alloc o).frozen? ⟨g, i * 5, none⟩ = false := fun o => blk_frozen (blk_alloc hgb o) _; have hg4' : ∀ o : Obj, (W1.alloc o).cell? ⟨g, i * 5, none⟩ = some v0 := fun o => (blk_cell (blk_alloc hgb o) _).trans ((blk_cell hgb _).symm.trans hg0); have HGB := Aside0.mk hgb; have hXc : ∀ (o : Obj) (u v : Value) (j : Nat), (((W1.alloc o).setCell ⟨g, i * 5, none⟩ u).setCell ⟨g, i * 5 + 2, none⟩ v).cell? ⟨wr.heap.size, j, none⟩ = W1.cell? ⟨wr.heap.size, j, none⟩ := fun o u v j => (blk_cell (blk_far (blk_far (blk_alloc hX1 o) (p := ⟨g, i * 5, none⟩) HXg.out u) (p := ⟨g, i * 5 + 2, none⟩) HXg.out v) j).trans (blk_cell hX1 j).symm; have hXc0 : ∀ (o : Obj) (u v : Value), (((W1.alloc o).setCell ⟨g, i * 5, none⟩ u).setCell ⟨g, i * 5 + 2, none⟩ v).cell? ⟨wr.heap.size, 0, none⟩ = some (.int .i64 (rd_T47 s (n : Int)).f0) := fun o u v => (hXc o u v 0).trans hX10; have hXc1 : ∀ (o : Obj) (u v : Value), (((W1.alloc o).setCell ⟨g, i * 5, none⟩ u).setCell ⟨g, i * 5 + 2, none⟩ v).cell? ⟨wr.heap.size, 1, none⟩ = some (.slice A1 (rd_T47 s (n : Int)).f1.length c1) := fun o u v => (hXc o u v 1).trans hX11; clear hX1 hbW1 hgb hXc) | (go_at_call 68; refine (hunk_changes.calls (rd_T47 s (n : Int)).f0 A1 c1 (rd_T47 s (n : Int)).f1 true _ (Kd.C_below HC1.out ((((HBx.out.trans (HW1.out.mono HBx.out.size)).alloc (Nat.le_trans HBx.out.size HW1.out.size) _).setCell HGb.out _).setCell HGb.out _)) Hl1.out (by unfold hunk_changes.f; rw [hch])).mono ?_; rintro ee W4 ⟨rfl, hbW4⟩; have hX4 : W4.cell? ⟨wr.heap.size, 0, none⟩ = some (.int .i64 (rd_T47 s (n : Int)).f0) := (hbW4.cell (by simp; have := blk_lt HX1.out; omega)).trans (hXc0 _ _ _); have HW4 := Aside0.mk hbW4; clear hbW4))
        go_roundw
        case rel =>
         obtain rfl := HQ1.out
         have hs1 := HW1.out.size
         have hs4 := HW4.out.size
         simp only [World.size_alloc, World.size_setCell] at hs1 hs4
         have hl1 := Hln.out
         have hs0 := HBx.out.size
         simp only [World.size_alloc] at hs0
         have hR4 := Kd.R_below (hunk_place.set2 (Kd.R_alloc (Kd.R_below (Kd.R_alloc HRr.out _) HW1.out) _) i hil3 (a : Int) (b : Int)) HW4.out
         rw [HL.out] at hR4
         refine ⟨n + 1, _, by omega, by first | rfl | exact congrArg _ HWa.out, by first | rfl | exact congrArg _ HWb.out, rfl, rfl, by first | rfl | exact congrArg _ HWn.out, by simp only; omega, by simp only; omega, by simp only; omega, ?_, Hq2.out, hR4, by omega, fun k hk hk2 => ?_, ?_⟩
         ·show l2.length = l.length
          rw [← HL.out, List.length_set]
          exact hql
         ·have hkg : k ≠ g := fun e => hk2 (by rw [e]; simp [Value.ownBlock])
          have hk4 : k < W1.heap.size := by omega
          exact ((HW4.out.block k (by simp only [World.size_alloc, World.size_setCell]; omega)).trans ((Below.heap_setCell _ ⟨g, i * 5 + 2, none⟩ _ k hkg).trans ((Below.heap_setCell _ ⟨g, i * 5, none⟩ _ k hkg).trans ((Below.heap_alloc _ _ _ hk4).trans ((HW1.out.block k (by rw [World.size_alloc]; omega)).trans (Below.heap_alloc _ _ _ (by omega))))))).trans (Hfr.out k hk hk2)
         ·exact ((((HB.out.alloc (by have := Hbw.out.size; omega) _).trans (HW1.out.mono HBx.out.size)).alloc (by omega) _).setCell HGb.out _).setCell HGb.out _ |>.trans (HW4.out.mono (by simp only [World.size_alloc, World.size_setCell]; omega))
        case measure =>
         try rw [HWn.out]
         simp only [intOf, Int.toNat_natCast]
         omega
      ·rw [if_neg h2, if_neg h2] at HQ1
       have h3 := hd23.resolve_left h2
       have hd2 : ((rd_T47 s (n : Int)).f0 != 2) = true := by simp [h3]
       have hd3 : ((rd_T47 s (n : Int)).f0 != 3) = false := by simp [h3]
       clear hd23 h2 h3
       by_cases he : e.f0 = 1
       ·have he' : (e.f0 == 1) = true := beq_iff_eq.mpr he
        have HL : Aside0 (q.set i ⟨(a : Int) - (e.f1.length : Int), (q.getD i z44).f1, (b : Int) - (e.f1.length : Int), (q.getD i z44).f3, (q.getD i z44).f4⟩ = l2) := ⟨by
         have h_ := Hl2.out
         unfold hunk_place.ld at h_
         rw [if_pos he] at h_
         exact h_⟩
        clear he
        go_wp2_with (first | (go_at_call 68; refine (hunk_changes.calls (rd_T47 s (n : Int)).f0 A1 c1 (rd_T47 s (n : Int)).f1 true (wr.alloc _) (Kd.C_below HC1.out HBx.out) Hl1.out (by unfold hunk_changes.f; rw [hch])).mono ?_; rintro ee W1 ⟨rfl, hbW1⟩; have hX1 := (hbW1.block _ (blk_lt HX.out)).trans HX.out; have hX11 : W1.cell? ⟨wr.heap.size, 1, none⟩ = some (.slice A1 (rd_T47 s (n : Int)).f1.length c1) := (blk_cell hX1 1).trans rfl; have hX10 : W1.cell? ⟨wr.heap.size, 0, none⟩ = some (.int .i64 (rd_T47 s (n : Int)).f0) := (blk_cell hX1 0).trans rfl; have HX1 := Aside0.mk hX1; have HW1 := Aside0.mk hbW1; obtain ⟨v0, v2, ad4, c4, A5, c5, hg0, hg2, hg4, hy0, hy1, hz0, hz2, hle⟩ := hunk_place.elem (Kd.R_below (Kd.R_alloc HRr.out _) hbW1) i hil3 HF4.out; obtain ⟨cg, hgb⟩ := Kd.R_typed (Kd.R_below (Kd.R_alloc HRr.out _) hbW1) g (by simp [Value.ownBlock]); have hz3 : ∀ (o : Obj) (u : Value), ((W1.alloc o).setCell ⟨g, i * 5, none⟩ u).frozen? ⟨g, i * 5 + 2, none⟩ = false := fun o u => blk_frozen (blk_set (blk_alloc hgb o) (i * 5) u) _; have hg3 : ∀ (o : Obj) (u : Value), ((W1.alloc o).setCell ⟨g, i * 5, none⟩ u).cell? ⟨g, i * 5 + 2, none⟩ = some v2 := fun o u => (blk_cell (blk_set (blk_alloc hgb o) (i * 5) u) _).trans (by rw [Array.getElem?_setIfInBounds_ne (by omega)]; exact (blk_cell hgb _).symm.trans hg2); have hz4 : ∀ o : Obj, (W1.alloc o).frozen? ⟨g, i * 5, none⟩ = false := fun o => blk_frozen (blk_alloc hgb o) _; have hg4' : ∀ o : Obj, (W1.alloc o).cell? ⟨g, i * 5, none⟩ = some v0 := fun o => (blk_cell (blk_alloc hgb o) _).trans ((blk_cell hgb _).symm.trans hg0); have HGB := Aside0.mk hgb; have hXc : ∀ (o : Obj) (u v : Value) (j : Nat), (((W1.alloc o).setCell ⟨g, i * 5, none⟩ u).setCell ⟨g, i * 5 + 2, none⟩ v).cell? ⟨wr.heap.size, j, none⟩ = W1.cell? ⟨wr.heap.size, j, none⟩ := fun o u v j => (blk_cell (blk_far (blk_far (blk_alloc hX1 o) (p := ⟨g, i * 5, none⟩) HXg.out u) (p := ⟨g, i * 5 + 2, none⟩) HXg.out v) j).trans (blk_cell hX1 j).symm; have hXc0 : ∀ (o : Obj) (u v : Value), (((W1.alloc o).setCell ⟨g, i * 5, none⟩ u).setCell ⟨g, i * 5 + 2, none⟩ v).cell? ⟨wr.heap.size, 0, none⟩ = some (.int .i64 (rd_T47 s (n : Int)).f0) := fun o u v => (hXc o u v 0).trans hX10; have hXc1 : ∀ (o : Obj) (u v : Value), (((W1.alloc o).setCell ⟨g, i * 5, none⟩ u).setCell ⟨g, i * 5 + 2, none⟩ v).cell? ⟨wr.heap.size, 1, none⟩ = some (.slice A1 (rd_T47 s (n : Int)).f1.length c1) := fun o u v => (hXc o u v 1).trans hX11; clear hX1 hbW1 hgb hXc) | (go_at_call 68; refine (hunk_changes.calls (rd_T47 s (n : Int)).f0 A1 c1 (rd_T47 s (n : Int)).f1 true _ (Kd.C_below HC1.out ((((HBx.out.trans (HW1.out.mono HBx.out.size)).alloc (Nat.le_trans HBx.out.size HW1.out.size) _).setCell HGb.out _).setCell HGb.out _)) Hl1.out (by unfold hunk_changes.f; rw [hch])).mono ?_; rintro ee W4 ⟨rfl, hbW4⟩; have hX4 : W4.cell? ⟨wr.heap.size, 0, none⟩ = some (.int .i64 (rd_T47 s (n : Int)).f0) := (hbW4.cell (by simp; have := blk_lt HX1.out; omega)).trans (hXc0 _ _ _); have HW4 := Aside0.mk hbW4; clear hbW4))
        go_roundw
        case rel =>
         obtain rfl := HQ1.out
         have hs1 := HW1.out.size
         have hs4 := HW4.out.size
         simp only [World.size_alloc, World.size_setCell] at hs1 hs4
         have hl1 := Hln.out
         have hs0 := HBx.out.size
         simp only [World.size_alloc] at hs0
         have hR4 := Kd.R_below (hunk_place.set2 (Kd.R_alloc (Kd.R_below (Kd.R_alloc HRr.out _) HW1.out) _) i hil3 ((a : Int) - (e.f1.length : Int)) ((b : Int) - (e.f1.length : Int))) HW4.out
         rw [HL.out] at hR4
         refine ⟨n + 1, _, by omega, by first | rfl | exact congrArg _ HWa.out, by first | rfl | exact congrArg _ HWb.out, rfl, rfl, by first | rfl | exact congrArg _ HWn.out, by simp only; omega, by simp only; omega, by simp only; omega, ?_, Hq2.out, hR4, by omega, fun k hk hk2 => ?_, ?_⟩
         ·show l2.length = l.length
          rw [← HL.out, List.length_set]
          exact hql
         ·have hkg : k ≠ g := fun e => hk2 (by rw [e]; simp [Value.ownBlock])
          have hk4 : k < W1.heap.size := by omega
          exact ((HW4.out.block k (by simp only [World.size_alloc, World.size_setCell]; omega)).trans ((Below.heap_setCell _ ⟨g, i * 5 + 2, none⟩ _ k hkg).trans ((Below.heap_setCell _ ⟨g, i * 5, none⟩ _ k hkg).trans ((Below.heap_alloc _ _ _ hk4).trans ((HW1.out.block k (by rw [World.size_alloc]; omega)).trans (Below.heap_alloc _ _ _ (by omega))))))).trans (Hfr.out k hk hk2)
         ·exact ((((HB.out.alloc (by have := Hbw.out.size; omega) _).trans (HW1.out.mono HBx.out.size)).alloc (by omega) _).setCell HGb.out _).setCell HGb.out _ |>.trans (HW4.out.mono (by simp only [World.size_alloc, World.size_setCell]; omega))
        case measure =>
         try rw [HWn.out]
         simp only [intOf, Int.toNat_natCast]
         omega
       ·have he' : (e.f0 == 1) = false := beq_eq_false_iff_ne.mpr he
        have HL : Aside0 (q.set i ⟨(a : Int), (q.getD i z44).f1, (b : Int), (q.getD i z44).f3, (q.getD i z44).f4⟩ = l2) := ⟨by
         have h_ := Hl2.out
         unfold hunk_place.ld at h_
         rw [if_neg he] at h_
         simp only [Int.natCast_zero, Int.sub_zero] at h_
         exact h_⟩
        clear he
        go_wp2_with (first | (go_at_call 68; refine (hunk_changes.calls (rd_T47 s (n : Int)).f0 A1 c1 (rd_T47 s (n : Int)).f1 true (wr.alloc _) (Kd.C_below HC1.out HBx.out) Hl1.out (by unfold hunk_changes.f; rw [hch])).mono ?_; rintro ee W1 ⟨rfl, hbW1⟩; have hX1 := (hbW1.block _ (blk_lt HX.out)).trans HX.out; have hX11 : W1.cell? ⟨wr.heap.size, 1, none⟩ = some (.slice A1 (rd_T47 s (n : Int)).f1.length c1) := (blk_cell hX1 1).trans rfl; have hX10 : W1.cell? ⟨wr.heap.size, 0, none⟩ = some (.int .i64 (rd_T47 s (n : Int)).f0) := (blk_cell hX1 0).trans rfl; have HX1 := Aside0.mk hX1; have HW1 := Aside0.mk hbW1; obtain ⟨v0, v2, ad4, c4, A5, c5, hg0, hg2, hg4, hy0, hy1, hz0, hz2, hle⟩ := hunk_place.elem (Kd.R_below (Kd.R_alloc HRr.out _) hbW1) i hil3 HF4.out; obtain ⟨cg, hgb⟩ := Kd.R_typed (Kd.R_below (Kd.R_alloc HRr.out _) hbW1) g (by simp [Value.ownBlock]); have hz3 : ∀ (o : Obj) (u : Value), ((W1.alloc o).setCell ⟨g, i * 5, none⟩ u).frozen? ⟨g, i * 5 + 2, none⟩ = false := fun o u => blk_frozen (blk_set (blk_alloc hgb o) (i * 5) u) _; have hg3 : ∀ (o : Obj) (u : Value), ((W1.alloc o).setCell ⟨g, i * 5, none⟩ u).cell? ⟨g, i * 5 + 2, none⟩ = some v2 := fun o u => (blk_cell (blk_set (blk_alloc hgb o) (i * 5) u) _).trans (by rw [Array.getElem?_setIfInBounds_ne (by omega)]; exact (blk_cell hgb _).symm.trans hg2); have hz4 : ∀ o : Obj, (W1.alloc o).frozen? ⟨g, i * 5, none⟩ = false := fun o => blk_frozen (blk_alloc hgb o) _; have hg4' : ∀ o : Obj, (W1.alloc o).cell? ⟨g, i * 5, none⟩ = some v0 := fun o => (blk_cell (blk_alloc hgb o) _).trans ((blk_cell hgb _).symm.trans hg0); have HGB := Aside0.mk hgb; have hXc : ∀ (o : Obj) (u v : Value) (j : Nat), (((W1.alloc o).setCell ⟨g, i * 5, none⟩ u).setCell ⟨g, i * 5 + 2, none⟩ v).cell? ⟨wr.heap.size, j, none⟩ = W1.cell? ⟨wr.heap.size, j, none⟩ := fun o u v j => (blk_cell (blk_far (blk_far (blk_alloc hX1 o) (p := ⟨g, i * 5, none⟩) HXg.out u) (p := ⟨g, i * 5 + 2, none⟩) HXg.out v) j).trans (blk_cell hX1 j).symm; have hXc0 : ∀ (o : Obj) (u v : Value), (((W1.alloc o).setCell ⟨g, i * 5, none⟩ u).setCell ⟨g, i * 5 + 2, none⟩ v).cell? ⟨wr.heap.size, 0, none⟩ = some (.int .i64 (rd_T47 s (n : Int)).f0) := fun o u v => (hXc o u v 0).trans hX10; have hXc1 : ∀ (o : Obj) (u v : Value), (((W1.alloc o).setCell ⟨g, i * 5, none⟩ u).setCell ⟨g, i * 5 + 2, none⟩ v).cell? ⟨wr.heap.size, 1, none⟩ = some (.slice A1 (rd_T47 s (n : Int)).f1.length c1) := fun o u v => (hXc o u v 1).trans hX11; clear hX1 hbW1 hgb hXc) | (go_at_call 68; refine (hunk_changes.calls (rd_T47 s (n : Int)).f0 A1 c1 (rd_T47 s (n : Int)).f1 true _ (Kd.C_below HC1.out ((((HBx.out.trans (HW1.out.mono HBx.out.size)).alloc (Nat.le_trans HBx.out.size HW1.out.size) _).setCell HGb.out _).setCell HGb.out _)) Hl1.out (by unfold hunk_changes.f; rw [hch])).mono ?_; rintro ee W4 ⟨rfl, hbW4⟩; have hX4 : W4.cell? ⟨wr.heap.size, 0, none⟩ = some (.int .i64 (rd_T47 s (n : Int)).f0) := (hbW4.cell (by simp; have := blk_lt HX1.out; omega)).trans (hXc0 _ _ _); have HW4 := Aside0.mk hbW4; clear hbW4))
        go_roundw
        case rel =>
         obtain rfl := HQ1.out
         have hs1 := HW1.out.size
         have hs4 := HW4.out.size
         simp only [World.size_alloc, World.size_setCell] at hs1 hs4
         have hl1 := Hln.out
         have hs0 := HBx.out.size
         simp only [World.size_alloc] at hs0
         have hR4 := Kd.R_below (hunk_place.set2 (Kd.R_alloc (Kd.R_below (Kd.R_alloc HRr.out _) HW1.out) _) i hil3 (a : Int) (b : Int)) HW4.out
         rw [HL.out] at hR4
         refine ⟨n + 1, _, by omega, by first | rfl | exact congrArg _ HWa.out, by first | rfl | exact congrArg _ HWb.out, rfl, rfl, by first | rfl | exact congrArg _ HWn.out, by simp only; omega, by simp only; omega, by simp only; omega, ?_, Hq2.out, hR4, by omega, fun k hk hk2 => ?_, ?_⟩
         ·show l2.length = l.length
          rw [← HL.out, List.length_set]
          exact hql
         ·have hkg : k ≠ g := fun e => hk2 (by rw [e]; simp [Value.ownBlock])
          have hk4 : k < W1.heap.size := by omega
          exact ((HW4.out.block k (by simp only [World.size_alloc, World.size_setCell]; omega)).trans ((Below.heap_setCell _ ⟨g, i * 5 + 2, none⟩ _ k hkg).trans ((Below.heap_setCell _ ⟨g, i * 5, none⟩ _ k hkg).trans ((Below.heap_alloc _ _ _ hk4).trans ((HW1.out.block k (by rw [World.size_alloc]; omega)).trans (Below.heap_alloc _ _ _ (by omega))))))).trans (Hfr.out k hk hk2)
         ·exact ((((HB.out.alloc (by have := Hbw.out.size; omega) _).trans (HW1.out.mono HBx.out.size)).alloc (by omega) _).setCell HGb.out _).setCell HGb.out _ |>.trans (HW4.out.mono (by simp only [World.size_alloc, World.size_setCell]; omega))
        case measure =>
         try rw [HWn.out]
         simp only [intOf, Int.toNat_natCast]
         omega
    ·rw [if_neg hd23] at hq1
     cases hq1
  ·obtain rfl : n = s.length := by omega
   rw [List.drop_length] at hq
   obtain rfl := Option.some.inj hq
   have hlt' : decide ((s.length : Int) < (s.length : Int)) = false := decide_eq_false (by omega)
   clear hlt hn
   go_wp2
   go_end0
   exact ⟨rfl, hRr, hsz1, hfr, hB⟩


end Go.Proofs.Ytfnbodjmmkjlcaa.H
end
section
namespace Go.Proofs.Ytfnbodjmmkjlcaa.H
open Go.RowKit Go.Proofs.YtfnbodjmmkjlcaaW.PrintWords Go.Proofs.YtfnbodjmmkjlcaaW.PrintLast Go.Proofs.YtfnbodjmmkjlcaaW.PrintMore
attribute [local go_sem] max2_int min2_int max_two min_two max_three min_three max_four min_four   -- for this text's walks alone
set_option linter.unusedVariables false
set_option linter.unusedSimpArgs false

/-- All edits, one by one. -/
def hunk_Build.allp (k c : Nat) : List S47 → hunk_Build.St → Option hunk_Build.St
 | [], s => some s
 | x :: xs, s => (hunk_Build.takep k c s x xs.isEmpty).bind (hunk_Build.allp k c xs)
def hunk_Build.fin (k : Nat) (s : hunk_Build.St) : Option (List S44) := if 0 < s.now.length then (hunk_Build.hk k s.now).bind fun h => some (s.out ++ [h]) else some s.out
def hunk_Build.run (k c : Nat) (n : List S47) : Option (List S44) :=
 if n.length ≤ 1000000 ∧ script_normal.lines n ≤ 1000000 then (hunk_Build.allp k c n ⟨[], [], []⟩).bind fun s => (hunk_Build.fin k s).bind fun o => (hunk_place.p c n 0 ⟨0, 0, 0, true, o⟩).bind fun q => some q.l else none
def hunk_Build.f (k : Nat) (l0 : List S47) (a1 : Int) : Option (List S44 × Int) :=
 (script_Normal.f k l0).bind fun t => if t.2 = 0 then (if a1 < 0 ∨ 20 < a1 then some ([], 2) else (hunk_Build.run k a1.toNat t.1).bind fun h => some (h, 0)) else some ([], t.2)
theorem hunk_Build.hk_mono (k : Nat) (n : List S47) : LeO (hunk_Build.hk k n) (hunk_Build.hk (k + 1) n) := LeO.bind (script_Sides.mono _ k) (fun _ => LeO.refl _)
theorem hunk_Build.takep_mono (k c : Nat) (s : hunk_Build.St) (x : S47) (b : Bool) : LeO (hunk_Build.takep k c s x b) (hunk_Build.takep (k + 1) c s x b) := by
 unfold hunk_Build.takep
 exact LeO.ite (LeO.ite (LeO.refl _) (LeO.ite (LeO.bind (hunk_Build.hk_mono k _) (fun _ => LeO.refl _)) (LeO.refl _))) (LeO.ite (LeO.refl _) (LeO.refl _))
theorem hunk_Build.allp_mono (k c : Nat) : ∀ (n : List S47) (s : hunk_Build.St), LeO (hunk_Build.allp k c n s) (hunk_Build.allp (k + 1) c n s)
 | [], s => LeO.refl _
 | x :: xs, s => by
  unfold hunk_Build.allp
  exact LeO.bind (hunk_Build.takep_mono k c s x _) (fun s' => hunk_Build.allp_mono k c xs s')
theorem hunk_Build.mono : ∀ a0 a1 k, LeO (hunk_Build.f k a0 a1) (hunk_Build.f (k + 1) a0 a1) := by
 intro a0 a1 k
 unfold hunk_Build.f
 refine LeO.bind (script_Normal.mono _ k) (fun t => LeO.ite (LeO.ite (LeO.refl _) (LeO.bind ?_ (fun _ => LeO.refl _))) (LeO.refl _))
 unfold hunk_Build.run
 refine LeO.ite (LeO.bind (hunk_Build.allp_mono k _ _ _) (fun s => LeO.bind ?_ (fun _ => LeO.refl _))) (LeO.refl _)
 unfold hunk_Build.fin
 exact LeO.ite (LeO.bind (hunk_Build.hk_mono k _) (fun _ => LeO.refl _)) (LeO.refl _)
theorem hunk_Build.lead_len (c : Nat) (l : List S66) : (hunk_Build.lead c l).length ≤ 1 := by
 unfold hunk_Build.lead
 split <;> simp
theorem hunk_Build.takep_len {k c : Nat} {s s' : hunk_Build.St} {x : S47} {b : Bool} {N : Nat} (h : hunk_Build.takep k c s x b = some s') (hx : x.f1.length ≤ N) (ha : s.ah.length ≤ N) : s'.now.length ≤ s.now.length + 2 ∧ s'.out.length ≤ s.out.length + 1 ∧ s'.ah.length ≤ N := by
 unfold hunk_Build.takep at h
 split at h
 ·split at h
  ·obtain rfl := Option.some.inj h
   exact ⟨by simp only; omega, by simp only; omega, hx⟩
  ·split at h
   ·obtain ⟨q, _, h⟩ := Option.bind_eq_some_iff.1 h
    obtain rfl := Option.some.inj h
    exact ⟨by simp, by simp, hx⟩
   ·obtain rfl := Option.some.inj h
    exact ⟨by simp, by simp only; omega, ha⟩
 ·have := hunk_Build.lead_len c s.ah
  split at h
  ·obtain rfl := Option.some.inj h
   exact ⟨by simp only [List.length_append, List.length_singleton]; omega, by simp only; omega, by simp⟩
  ·obtain rfl := Option.some.inj h
   exact ⟨by simp, by simp only; omega, ha⟩
theorem hunk_Build.Is.alloc {w0 w : World} {b c : Nat} {kp : Nat → Prop} {s : hunk_Build.St} (h : hunk_Build.Is w0 b kp w c s) (o : Obj) : hunk_Build.Is w0 b kp (w.alloc o) c s := by
 obtain ⟨A, ca, ⟨vo, vn, hb, hvo, hvn⟩, hC, hl⟩ := h
 exact ⟨A, ca, ⟨vo, vn, blk_alloc hb o, Kd.R_alloc hvo o, Kd.R_alloc hvn o⟩, hC, hl⟩
set_option maxHeartbeats 4000000 in
set_option maxRecDepth 100000 in
theorem hunk_Build.calls (k : Nat) (A0 : Option Addr) (c0 : Nat) (l0 : List S47) (a1 : Int) (r1 : List S44) (r2 : Int) (w : World) (hr0 : Kd.C k47 w A0 l0.length l0) (hc0 : l0.length ≤ c0) (h : hunk_Build.f k l0 a1 = some (r1, r2)) :
  Calls Try.prog 15 #[.slice A0 l0.length c0, .int .i64 a1] w fun e w' => ∃ v0_ : Value, e = .returned (.tuple #[v0_, .int .i64 r2]) ∧ Kd.R k44 44 w' w.heap.size (fun _ => True) v0_ r1 ∧ Below w.heap.size w w' := by
 unfold hunk_Build.f at h
 obtain ⟨⟨n, e0⟩, hN, h⟩ := Option.bind_eq_some_iff.1 h
 simp only at h
 have HN := Aside0.mk (script_Normal.calls k A0 c0 l0 n e0 w hr0 hc0 hN)
 clear hN hr0 hc0
 by_cases he0 : e0 = 0
 ·subst he0
  rw [if_pos rfl] at h
  by_cases ha : a1 < 0 ∨ 20 < a1
  ·rw [if_pos ha] at h
   have hr := Option.some.inj h
   simp only [Prod.mk.injEq] at hr
   obtain ⟨rfl, rfl⟩ := hr
   clear h
   by_cases ha0 : a1 < 0
   ·have hd : decide (a1 < 0) = true := decide_eq_true ha0
    clear ha ha0
    go_enter Try.func15, Try.ntmps15
    go_wp2_with (go_at_call 42; refine HN.out.mono ?_; rintro e w1 ⟨v0, rfl, ho, hb⟩)
    go_ret2
    exact ⟨_, rfl, Kd.R_nil _ _ _ _ _, hb⟩
   ·have hd : decide (a1 < 0) = false := decide_eq_false ha0
    have hd2 : decide (a1 > 20) = true := decide_eq_true (ha.resolve_left ha0)
    clear ha ha0
    go_enter Try.func15, Try.ntmps15
    go_wp2_with (go_at_call 42; refine HN.out.mono ?_; rintro e w1 ⟨v0, rfl, ho, hb⟩)
    go_ret2
    exact ⟨_, rfl, Kd.R_nil _ _ _ _ _, hb⟩
  ·rw [if_neg ha] at h
   have hd : decide (a1 < 0) = false := decide_eq_false (fun h => ha (.inl h))
   have hd2 : decide (a1 > 20) = false := decide_eq_false (fun h => ha (.inr h))
   obtain ⟨c, rfl⟩ : ∃ c : Nat, a1 = c := ⟨a1.toNat, by omega⟩
   rw [Int.toNat_natCast] at h
   have hc20 : c ≤ 20 := by omega
   obtain ⟨o, hrun, h⟩ := Option.bind_eq_some_iff.1 h
   have hr := Option.some.inj h
   simp only [Prod.mk.injEq] at hr
   obtain ⟨rfl, rfl⟩ := hr
   unfold hunk_Build.run at hrun
   split at hrun
   case isFalse => cases hrun
   rename_i hsz
   obtain ⟨hs1, hs2⟩ := hsz
   obtain ⟨sF, hall, hrun⟩ := Option.bind_eq_some_iff.1 hrun
   obtain ⟨oF, hfin, hrun⟩ := Option.bind_eq_some_iff.1 hrun
   obtain ⟨q, hpl, hrun⟩ := Option.bind_eq_some_iff.1 hrun
   obtain rfl := Option.some.inj hrun
   have Hall := Aside0.mk hall
   have Hfin := Aside0.mk hfin
   have Hpl := Aside0.mk hpl
   clear h hrun hall hfin hpl ha
   go_enter Try.func15, Try.ntmps15
   go_wp2_with (go_at_call 42; refine HN.out.mono ?_; rintro e w1 ⟨v0, rfl, ho, hb⟩; obtain ⟨An, cn, rfl, hcn, hCn⟩ := Kd.R_reads (Kd.S_R ho); have HCn := Aside0.mk hCn; have Hcn := Aside0.mk hcn; have HB := Aside0.mk hb; clear ho hb hCn hcn)
   go_loopw [32] (fun v wr => ∃ (m : Nat) (s : hunk_Build.St), m ≤ n.length ∧ v = .int .i64 (m : Int) ∧ hunk_Build.allp k c (n.drop m) s = some sF ∧ hunk_Build.Is w1 w1.heap.size (fun _ => False) wr c s ∧ s.now.length ≤ 2 * m ∧ s.out.length ≤ m ∧ s.ah.length ≤ 1000000 ∧ Below w1.heap.size w1 wr)
    (fun v _ => n.length - (intOf v).toNat)
   case atStart =>
    refine ⟨0, ⟨[], [], []⟩, Nat.zero_le _, rfl, Hall.out, ⟨none, 0, ⟨_, _, World.alloc_heap_new w1 _, Kd.R_nil _ _ _ _ _, Kd.R_nil _ _ _ _ _⟩, ⟨rfl, Nat.zero_le _, fun h => absurd h (by simp)⟩, Nat.le_refl _⟩, Nat.le_refl _, Nat.le_refl _, Nat.zero_le _, below_alloc (Below.refl _ _) _⟩
   case round =>
    obtain ⟨m, s, hm, rfl, hall, his, hl1, hl2, hl3, hBr⟩ := hrel
    by_cases hlt : m < n.length
    ·have hx : rd_T47 n (m : Int) = n[m] := by
      simp [rd_T47, hlt]
     have hlt' : decide ((m : Int) < (n.length : Int)) = true := decide_eq_true (by omega)
     rw [List.drop_eq_getElem_cons hlt, ← hx] at hall
     unfold hunk_Build.allp at hall
     obtain ⟨s', hs', hall⟩ := Option.bind_eq_some_iff.1 hall
     have hxl : (rd_T47 n (m : Int)).f1.length ≤ 1000000 := Nat.le_trans (script_normal.lines_le (by rw [hx]; exact List.getElem_mem _)) hs2
     have hlen := hunk_Build.takep_len hs' hxl hl3
     obtain ⟨ad, A1, c1, e, hx0, hx1, hl5, hC1⟩ := at_T47 HCn.out (m : Int) (by omega) (by omega)
     cases e
     replace hx0 := (hBr.cell (World.block_lt_of_cell? w1 _ hx0)).trans hx0
     replace hx1 := (hBr.cell (World.block_lt_of_cell? w1 _ hx1)).trans hx1
     simp only [Int.toNat_natCast] at hx0 hx1
     have HC1 := Aside0.mk hC1
     have Hl5 := Aside0.mk hl5
     have HIs := Aside0.mk his
     have HBr := Aside0.mk hBr
     have Hall2 := Aside0.mk hall
     have Hlen := Aside0.mk hlen
     have HWm : Aside0 (wrap64 ((m : Int) + 1) = ((m + 1 : Nat) : Int)) := ⟨by unfold wrap64; omega⟩
     by_cases hlast : m + 1 = n.length
     ·have he : (n.drop (m + 1)).isEmpty = true := by rw [List.drop_of_length_le (by omega)]; rfl
      rw [he] at hs'
      have hq : ((m : Int) == (n.length : Int) - 1) = true := beq_iff_eq.mpr (by omega)
      have Hs' := Aside0.mk hs'
      clear hx hall his hBr hC1 hl5 hlen hs' he hlast
      go_wp2_with (go_at_call 43; refine (hunk_Build.take_calls k w1 w1.heap.size c s s' (rd_T47 n (m : Int)) true A1 c1 _ (Nat.le_refl _) (HIs.out.alloc _) HC1.out Hl5.out (HBr.out.alloc HBr.out.size _) (by omega) (by omega) (by omega) (by omega) (by omega) Hs'.out).mono ?_; rintro e w2 ⟨rfl, his2, hB2⟩)
      go_roundw
      case rel =>
       have hl := Hlen.out
       exact ⟨m + 1, s', by omega, by first | rfl | exact congrArg _ HWm.out, Hall2.out, his2, by omega, by omega, hl.2.2, (HBr.out.alloc HBr.out.size _).trans hB2⟩
      case measure =>
       try rw [HWm.out]
       simp only [intOf, Int.toNat_natCast]
       omega
     ·have he : (n.drop (m + 1)).isEmpty = false := by
       rw [List.drop_eq_getElem_cons (by omega)]
       rfl
      rw [he] at hs'
      have hq : ((m : Int) == (n.length : Int) - 1) = false := beq_eq_false_iff_ne.mpr (by omega)
      have Hs' := Aside0.mk hs'
      clear hx hall his hBr hC1 hl5 hlen hs' he hlast
      go_wp2_with (go_at_call 43; refine (hunk_Build.take_calls k w1 w1.heap.size c s s' (rd_T47 n (m : Int)) false A1 c1 _ (Nat.le_refl _) (HIs.out.alloc _) HC1.out Hl5.out (HBr.out.alloc HBr.out.size _) (by omega) (by omega) (by omega) (by omega) (by omega) Hs'.out).mono ?_; rintro e w2 ⟨rfl, his2, hB2⟩)
      go_roundw
      case rel =>
       have hl := Hlen.out
       exact ⟨m + 1, s', by omega, by first | rfl | exact congrArg _ HWm.out, Hall2.out, his2, by omega, by omega, hl.2.2, (HBr.out.alloc HBr.out.size _).trans hB2⟩
      case measure =>
       try rw [HWm.out]
       simp only [intOf, Int.toNat_natCast]
       omega
    ·obtain rfl : m = n.length := by omega
     rw [List.drop_length] at hall
     obtain rfl := Option.some.inj hall
     have hlt' : decide ((n.length : Int) < (n.length : Int)) = false := decide_eq_false (by omega)
     obtain ⟨Aa, ca, hat, hCa, hca⟩ := his
     obtain ⟨out, now, ah⟩ := s
     simp only at hat hCa hca hl1 hl2 hl3
     have hfin := Hfin.out
     unfold hunk_Build.fin at hfin
     simp only at hfin
     obtain ⟨vo, vn, hb, hvo, hvn⟩ := hat
     obtain ⟨An2, cn2, rfl⟩ := Kd.R_slice hvn
     have hb2 : wr.cell? ⟨w1.heap.size, 2, none⟩ = some (.slice An2 now.length cn2) := (blk_cell hb 2).trans rfl
     have hb1 : wr.cell? ⟨w1.heap.size, 1, none⟩ = some vo := (blk_cell hb 1).trans rfl
     obtain ⟨Ao, co, rfl⟩ := Kd.R_slice hvo
     have Hb := Aside0.mk hb
     have Hvo := Aside0.mk hvo
     have Hvn := Aside0.mk hvn
     have HBr := Aside0.mk hBr
     by_cases hn : 0 < now.length
     ·rw [if_pos hn] at hfin
      have hn' : decide (0 < now.length) = true := decide_eq_true hn
      obtain ⟨hh, hk1, hk2⟩ := Option.bind_eq_some_iff.1 hfin
      unfold hunk_Build.hk at hk1
      obtain ⟨⟨r1, r2, r3⟩, hsd, hk3⟩ := Option.bind_eq_some_iff.1 hk1
      obtain rfl := Option.some.inj hk3
      have Hk2 := Aside0.mk (Option.some.inj hk2)
      have htr : hunk_Build.trail c [] = [] := by
       unfold hunk_Build.trail
       rw [if_neg (by simp)]
      have hE := hunk_Build.end_calls k w1 w1.heap.size (fun _ => False) c out now [] none 0 (.slice Aa ah.length ca) r1 r2 r3 wr (Nat.le_refl _) (fun h => h) (fun _ h => h.elim) ⟨_, _, Hb.out, Hvo.out, Hvn.out⟩ ⟨rfl, Nat.zero_le _, fun h => absurd h (by simp)⟩ (Nat.le_refl _) HBr.out (by omega) (by simp) (by omega) (by omega) (by rw [htr, List.append_nil]; exact hsd)
      rw [htr, List.append_nil] at hE
      simp only at Hk2
      rw [Hk2.out] at hE
      have HE := Aside0.mk hE
      clear hE hk1 hk2 hk3 hsd htr hfin hn hlt hm hall Hfin Hvo Hvn hb hvo hvn hBr Hk2
      go_wp2_with (first | (go_at_call 44; refine HE.out.mono ?_; rintro e w5 ⟨rfl, ⟨vo5, vn5, hb5, hvo5, hvn5⟩, hB5, _⟩; obtain ⟨Ao5, co5, rfl⟩ := Kd.R_slice hvo5; have hc51 : w5.cell? ⟨w1.heap.size, 1, none⟩ = some (.slice Ao5 oF.length co5) := (blk_cell hb5 1).trans rfl; have HB5 := Aside0.mk hB5; have Hb5 := Aside0.mk hb5; have Hvo5 := Aside0.mk hvo5; clear hb5 hvo5 hvn5 hB5) | (go_at_call 45; refine (hunk_place.calls w1 c n An cn oF (.slice Ao5 oF.length co5) _ q w5 (by omega) HCn.out (HBr.out.trans HB5.out) Hcn.out hs2 Hvo5.out Hpl.out).mono ?_; rintro e w6 ⟨rfl, hR6, hs6, hfr6, hB6⟩; have hb6 := (hfr6 _ (blk_lt Hb5.out) (Kd.R_ne Hvo5.out Hb5.out (by decide))).trans Hb5.out; have hc6 : w6.cell? ⟨w1.heap.size, 1, none⟩ = some (.slice Ao5 oF.length co5) := (blk_cell hb6 1).trans rfl; clear hb6))
      go_ret2
      exact ⟨_, rfl, Kd.R_mono (Kd.R_lower hR6 HB.out.size) (fun _ _ => trivial), HB.out.trans (((HBr.out.trans HB5.out).trans hB6).mono HB.out.size)⟩
     ·rw [if_neg hn] at hfin
      have hn' : decide (0 < now.length) = false := decide_eq_false hn
      obtain rfl := Option.some.inj hfin
      clear hfin hn hlt hm hall Hfin hb hvo hvn hBr
      go_wp2_with (go_at_call 45; refine (hunk_place.calls w1 c n An cn out (.slice Ao out.length co) _ q wr (by omega) HCn.out HBr.out Hcn.out hs2 Hvo.out Hpl.out).mono ?_; rintro e w6 ⟨rfl, hR6, hs6, hfr6, hB6⟩; have hb6 := (hfr6 _ (blk_lt Hb.out) (Kd.R_ne Hvo.out Hb.out (by decide))).trans Hb.out; have hc6 : w6.cell? ⟨w1.heap.size, 1, none⟩ = some (.slice Ao out.length co) := (blk_cell hb6 1).trans rfl; clear hb6)
      go_ret2
      exact ⟨_, rfl, Kd.R_mono (Kd.R_lower hR6 HB.out.size) (fun _ _ => trivial), HB.out.trans ((HBr.out.trans hB6).mono HB.out.size)⟩
 ·rw [if_neg he0] at h
  have hr := Option.some.inj h
  simp only [Prod.mk.injEq] at hr
  obtain ⟨rfl, rfl⟩ := hr
  have hne : (e0 != 0) = true := bne_iff_ne.mpr he0
  clear h he0
  go_enter Try.func15, Try.ntmps15
  go_wp2_with (go_at_call 42; refine HN.out.mono ?_; rintro e w1 ⟨v0, rfl, ho, hb⟩)
  go_ret2
  exact ⟨_, rfl, Kd.R_nil _ _ _ _ _, hb⟩


end Go.Proofs.Ytfnbodjmmkjlcaa.H
end
section
namespace Go.Proofs.Ytfnbodjmmkjlcaa.H
open Go.RowKit Go.Proofs.YtfnbodjmmkjlcaaW.PrintWords Go.Proofs.YtfnbodjmmkjlcaaW.PrintLast Go.Proofs.YtfnbodjmmkjlcaaW.PrintMore
attribute [local go_sem] max2_int min2_int max_two min_two max_three min_three max_four min_four   -- for this text's walks alone
set_option linter.unusedVariables false
set_option linter.unusedSimpArgs false

mutual
def hunk_Join.l0 : Nat → List (S47) → List (S44) → Int → Int → Option ((List (S47)))
 | 0, _, _, _, _ => none
 | k + 1, x3, x8, x9, x10 => if x10 < x9 then (if 0 ≤ x10 then (if x10 < (x8.length : Int) then (hunk_Join.l1 k x3 x8 x9 x10 ((rd_T44 x8 x10).f4) (((rd_T44 x8 x10).f4).length : Int) 0) else (none)) else (none)) else (some x3)
def hunk_Join.l1 : Nat → List (S47) → List (S44) → Int → Int → List (S47) → Int → Int → Option ((List (S47)))
 | 0, _, _, _, _, _, _, _ => none
 | k + 1, x3, x8, x9, x10, x15, x16, x17 => if x17 < x16 then (if 0 ≤ x17 then (if x17 < (x15.length : Int) then ((api_Line_52.f ((rd_T47 x15 x17).f1)).bind fun t155 => (if x3.length < 4398046511104 then (hunk_Join.l1 k (x3 ++ [(⟨(rd_T47 x15 x17).f0, t155⟩ : S47)]) x8 x9 x10 x15 x16 (wrap64 (x17 + 1))) else (none))) else (none)) else (none)) else (hunk_Join.l0 k x3 x8 x9 (wrap64 (x10 + 1)))
end
def hunk_Join.f (k : Nat) (l0 : List (S44)) : Option ((List (S47))) := hunk_Join.l0 k ([] : List (S47)) l0 (l0.length : Int) 0
theorem hunk_Join.mono_l : ∀ k, (∀ y0 y1 y2 y3, LeO (hunk_Join.l0 k y0 y1 y2 y3) (hunk_Join.l0 (k + 1) y0 y1 y2 y3)) ∧ (∀ y0 y1 y2 y3 y4 y5 y6, LeO (hunk_Join.l1 k y0 y1 y2 y3 y4 y5 y6) (hunk_Join.l1 (k + 1) y0 y1 y2 y3 y4 y5 y6))
 | 0 => ⟨fun _ _ _ _ r h => by simp [hunk_Join.l0] at h, fun _ _ _ _ _ _ _ r h => by simp [hunk_Join.l1] at h⟩
 | k + 1 => by
  obtain ⟨ih0, ih1⟩ := hunk_Join.mono_l k
  refine ⟨?_, ?_⟩
  ·intro y0 y1 y2 y3
   unfold hunk_Join.l0
   repeat' first
   | (with_reducible exact ih0 _ _ _ _)
   | (with_reducible exact ih1 _ _ _ _ _ _ _)
   | (with_reducible exact LeO.refl _)
   | (with_reducible exact LeO.none _)
   | (with_reducible refine LeO.ite ?_ ?_)
   | (with_reducible refine LeO.bind ?_ (fun _ => ?_))
   | exact ih0 _ _ _ _
   | exact ih1 _ _ _ _ _ _ _
   | exact LeO.none _
   | refine LeO.ite ?_ ?_
   | refine LeO.bind ?_ (fun _ => ?_)
  ·intro y0 y1 y2 y3 y4 y5 y6
   unfold hunk_Join.l1
   repeat' first
   | (with_reducible exact ih0 _ _ _ _)
   | (with_reducible exact ih1 _ _ _ _ _ _ _)
   | (with_reducible exact LeO.refl _)
   | (with_reducible exact LeO.none _)
   | (with_reducible refine LeO.ite ?_ ?_)
   | (with_reducible refine LeO.bind ?_ (fun _ => ?_))
   | exact ih0 _ _ _ _
   | exact ih1 _ _ _ _ _ _ _
   | exact LeO.none _
   | refine LeO.ite ?_ ?_
   | refine LeO.bind ?_ (fun _ => ?_)
theorem hunk_Join.mono : ∀ a0 k, LeO (hunk_Join.f k a0) (hunk_Join.f (k + 1) a0) := by
 intro a0 k
 obtain ⟨ih0, ih1⟩ := hunk_Join.mono_l k
 unfold hunk_Join.f
 repeat' first
   | (with_reducible exact ih0 _ _ _ _)
   | (with_reducible exact ih1 _ _ _ _ _ _ _)
   | (with_reducible exact LeO.refl _)
   | (with_reducible exact LeO.none _)
   | (with_reducible refine LeO.ite ?_ ?_)
   | (with_reducible refine LeO.bind ?_ (fun _ => ?_))
   | exact ih0 _ _ _ _
   | exact ih1 _ _ _ _ _ _ _
   | exact LeO.none _
   | refine LeO.ite ?_ ?_
   | refine LeO.bind ?_ (fun _ => ?_)
def hunk_Join.T8 : Bool × List (List Nat × List Nat) := (true, [([], []), ([], []), ([1], [1]), ([], []), ([3], [3]), ([4], [4]), ([2, 5], [2, 5]), ([6], [6]), ([0, 7, 5], [0, 7]), ([8, 8, 0, 1, 2, 3, 4, 5, 6, 7, 8], [0, 8])])
def hunk_Join.B8 : List Nat := [0, 0, 2, 0, 8, 24, 62, 126, 255, 511]
theorem hunk_Join.tab8 : rtab .any (opsOf Try.f21 8) = hunk_Join.T8 := by kernel_rfl
theorem hunk_Join.bits8 : waitsOk hunk_Join.T8.2 hunk_Join.B8 = true := by kernel_rfl
set_option maxHeartbeats 8000000 in
set_option maxRecDepth 100000 in
theorem hunk_Join.calls (k : Nat) (A0 : Option Addr) (c0 : Nat) (l0 : List (S44)) (r : List (S47)) (w : World) (hr0 : Kd.C k44 w A0 l0.length l0) (hc0 : l0.length ≤ c0) (h : hunk_Join.f k l0 = some r) :
  Calls Try.prog 21 #[.slice A0 l0.length c0] w fun e w' => ∃ v0_ : Value, e = .returned (v0_) ∧ Kd.S k47 47 w' w.heap.size (fun _ => True) v0_ r ∧ Below w.heap.size w w' := by
 have hu44 := Try.underlying44
 have hu47 := Try.underlying47
 have HR0 := Aside0.mk hr0
 have HC0 := Aside0.mk hc0
 clear hr0 hc0
 have HB := Aside0.mk (Below.refl w.heap.size w)
 have H : (hunk_Join.l0 k ([] : List (S47)) l0 (l0.length : Int) 0) = some r := h
 clear h
 have H' := Aside0.mk H
 clear H
 go_enter Try.func21, Try.ntmps21
 go_wp2
 go_loopg [3, 10] k (fun kq v3 v10 w' => ∃ (x3_1 : List (S47)) (x10_1 : Int), v10 = .int .i64 x10_1 ∧ Aside0 (hunk_Join.l0 kq x3_1 l0 (l0.length : Int) x10_1 = some r) ∧ Aside0 (kq ≤ k) ∧ Aside0 (Kd.S k47 47 w' w.heap.size (fun _ => True) v3 x3_1) ∧ Aside0 (Below w.heap.size w w'))
 case atStart => exact ⟨(([] : List (S47))), (0), (by first | rfl | (simp; done) | (simp [*]; done)), H', ⟨Nat.le_refl _⟩, ⟨by first | exact Kd.S_nil _ _ _ _ _ | exact Kd.N_nil _ _ _ _ _ | exact Kd.V_nil _ _ _ _ _ | exact Kd.Q_nil _ _ _ _ _ | exact Kd.R_nil _ _ _ _ _⟩, ⟨by repeat (first | (with_reducible first | exact HB.out | apply below_alloc | apply pw_below_drewN | apply below_drew1) | exact HB.out)⟩⟩
 case round =>
  clear H'
  obtain ⟨x3_1, x10_1, rfl, HA, HK1, HO_3, HB⟩ := hrel
  cases gk with
  | zero => exact absurd HA.out (by simp [hunk_Join.l0])
  | succ k1 =>
   have H := HA.out
   clear HA
   simp only [hunk_Join.l0] at H
   by_cases c2 : x10_1 < (l0.length : Int)
   ·rw [if_pos c2] at H
    have c2b0 : decide (x10_1 < (l0.length : Int)) = true := decide_eq_true c2
    clear c2
    by_cases c3 : 0 ≤ x10_1
    ·rw [if_pos c3] at H
     have c3b0 : decide (0 ≤ x10_1) = true := decide_eq_true c3
     clear c3
     by_cases c4 : x10_1 < (l0.length : Int)
     ·rw [if_pos c4] at H
      have c4b0 : decide (x10_1 < (l0.length : Int)) = true := decide_eq_true c4
      clear c4
      have H' := Aside0.mk H
      clear H
      have p151 : 0 ≤ (x10_1 : Int) := of_decide_eq_true (by first | (with_reducible assumption) | assumption)
      have q151 : x10_1 < (l0.length : Int) := of_decide_eq_true (by first | (with_reducible assumption) | assumption)
      obtain ⟨ad151, A151_4, c151_4, e151, hx151_0, hx151_1, hx151_2, hx151_3, hx151_4, hl151_4, hi151_4⟩ := at_T44 HR0.out x10_1 p151 q151
      cases e151
      replace hx151_0 := (HB.out.cell (World.block_lt_of_cell? w _ hx151_0)).trans hx151_0
      replace hx151_1 := (HB.out.cell (World.block_lt_of_cell? w _ hx151_1)).trans hx151_1
      replace hx151_2 := (HB.out.cell (World.block_lt_of_cell? w _ hx151_2)).trans hx151_2
      replace hx151_3 := (HB.out.cell (World.block_lt_of_cell? w _ hx151_3)).trans hx151_3
      replace hx151_4 := (HB.out.cell (World.block_lt_of_cell? w _ hx151_4)).trans hx151_4
      have HR151_4 := Aside0.mk hi151_4
      have HC151_4 := Aside0.mk hl151_4
      clear hi151_4 hl151_4
      replace p151 := eq_true p151
      replace q151 := eq_true q151
      go_wp2_with (first | ((with_reducible refine gate_dst (N := 5) rfl ?_); refine box_event ?hg (N := 5) ?hd (cs := #[.int .i64 0, .int .i64 0, .int .i64 0, .int .i64 0, .slice none 0 0]) (t := 44) ?hr ?_; (case hd => rfl); (case hg => rfl); (case hr => first | (go_simp; done) | (go_simp; rfl)); intro gb152 hg w5 hbox hb; have n0_ := Aside0.mk (Kd.S_below (by (with_reducible repeat (first | apply Kd.S_alloc | apply Kd.S_drewN | apply Kd.S_drew)); exact HO_3.out) hb); have n1_ := Aside0.mk (below_step (by repeat (first | (with_reducible first | exact HB.out | apply below_alloc | apply pw_below_drewN | apply below_drew1) | exact HB.out)) hb); have n2_ := Aside0.mk (hbox); have n3_ := Aside0.mk ((by rw [hg]; exact (below_size (by repeat (first | (with_reducible first | exact HB.out | apply below_alloc | apply pw_below_drewN | apply below_drew1) | exact HB.out))) : w.heap.size ≤ gb152)); have n4_ := Aside0.mk ((by rw [hg]; exact (below_size (by repeat (first | (with_reducible first | exact HB.out | apply below_alloc | apply pw_below_drewN | apply below_drew1) | exact HB.out))) : w.heap.size ≤ gb152)); clear HO_3; clear HB; have HO_3 := n0_; have HB := n1_; have BK152 := n2_; have GW152 := n3_; have GE152 := n4_; clear n0_ n1_ n2_ n3_ n4_; clear hb hbox hg; have hcz6_0 : w5.cell? ⟨gb152, 0, none⟩ = some (.int .i64 0) := (blk_cell BK152.out 0).trans rfl; have hcz6_1 : w5.cell? ⟨gb152, 1, none⟩ = some (.int .i64 0) := (blk_cell BK152.out 1).trans rfl; have hcz6_2 : w5.cell? ⟨gb152, 2, none⟩ = some (.int .i64 0) := (blk_cell BK152.out 2).trans rfl; have hcz6_3 : w5.cell? ⟨gb152, 3, none⟩ = some (.int .i64 0) := (blk_cell BK152.out 3).trans rfl; have hcz6_4 : w5.cell? ⟨gb152, 4, none⟩ = some (.slice none 0 0) := (blk_cell BK152.out 4).trans rfl; have hfz6_0 := blk_frozen BK152.out 0; have hfz6_1 := blk_frozen BK152.out 1; have hfz6_2 := blk_frozen BK152.out 2; have hfz6_3 := blk_frozen BK152.out 3; have hfz6_4 := blk_frozen BK152.out 4))
      go_loopg [3, 17] k1 (fun kq v3 v17 w' => ∃ (x3_2 : List (S47)) (x17_2 : Int), v17 = .int .i64 x17_2 ∧ Aside0 (hunk_Join.l1 kq x3_2 l0 (l0.length : Int) x10_1 ((rd_T44 l0 x10_1).f4) (((rd_T44 l0 x10_1).f4).length : Int) x17_2 = some r) ∧ Aside0 (kq ≤ k1) ∧ Aside0 (Kd.S k47 47 w' w.heap.size (fun _ => True) v3 x3_2) ∧ Aside0 (w'.heap[gb152]? = some (.cells #[.int .i64 ((rd_T44 l0 x10_1).f0), .int .i64 ((rd_T44 l0 x10_1).f1), .int .i64 ((rd_T44 l0 x10_1).f2), .int .i64 ((rd_T44 l0 x10_1).f3), (.slice A151_4 ((rd_T44 l0 x10_1).f4).length c151_4)] 44 (0, 0))) ∧ Aside0 (Below w.heap.size w w'))
      case atStart => exact ⟨(x3_1), (0), (by first | rfl | (simp; done) | (simp [*]; done)), H', ⟨Nat.le_refl _⟩, ⟨by (with_reducible repeat (first | apply Kd.S_alloc | apply Kd.S_drewN | apply Kd.S_drew)); exact Kd.S_mono (Kd.S_far (p := ⟨gb152, 4, none⟩) (Kd.S_far (p := ⟨gb152, 3, none⟩) (Kd.S_far (p := ⟨gb152, 2, none⟩) (Kd.S_far (p := ⟨gb152, 1, none⟩) (Kd.S_far (p := ⟨gb152, 0, none⟩) (Kd.S_types HO_3.out BK152.out (by decide)) (fun _ hk => hk.2) (.int .i64 ((rd_T44 l0 x10_1).f0))) (fun _ hk => hk.2) (.int .i64 ((rd_T44 l0 x10_1).f1))) (fun _ hk => hk.2) (.int .i64 ((rd_T44 l0 x10_1).f2))) (fun _ hk => hk.2) (.int .i64 ((rd_T44 l0 x10_1).f3))) (fun _ hk => hk.2) (.slice A151_4 ((rd_T44 l0 x10_1).f4).length c151_4)) (fun _ hk => trivial)⟩, ⟨by (with_reducible repeat first|refine zb1 ?_ _|refine zb2 ?_|refine zb3 ?_ _); refine blk_put (cs := #[.int .i64 ((rd_T44 l0 x10_1).f0), .int .i64 ((rd_T44 l0 x10_1).f1), .int .i64 ((rd_T44 l0 x10_1).f2), .int .i64 ((rd_T44 l0 x10_1).f3), .slice none 0 0]) ?_ 4 _ rfl; (with_reducible repeat first|refine zb1 ?_ _|refine zb2 ?_|refine zb3 ?_ _); refine blk_put (cs := #[.int .i64 ((rd_T44 l0 x10_1).f0), .int .i64 ((rd_T44 l0 x10_1).f1), .int .i64 ((rd_T44 l0 x10_1).f2), .int .i64 0, .slice none 0 0]) ?_ 3 _ rfl; (with_reducible repeat first|refine zb1 ?_ _|refine zb2 ?_|refine zb3 ?_ _); refine blk_put (cs := #[.int .i64 ((rd_T44 l0 x10_1).f0), .int .i64 ((rd_T44 l0 x10_1).f1), .int .i64 0, .int .i64 0, .slice none 0 0]) ?_ 2 _ rfl; (with_reducible repeat first|refine zb1 ?_ _|refine zb2 ?_|refine zb3 ?_ _); refine blk_put (cs := #[.int .i64 ((rd_T44 l0 x10_1).f0), .int .i64 0, .int .i64 0, .int .i64 0, .slice none 0 0]) ?_ 1 _ rfl; (with_reducible repeat first|refine zb1 ?_ _|refine zb2 ?_|refine zb3 ?_ _); refine blk_put (cs := #[.int .i64 0, .int .i64 0, .int .i64 0, .int .i64 0, .slice none 0 0]) ?_ 0 _ rfl; (with_reducible repeat first|refine zb1 ?_ _|refine zb2 ?_|refine zb3 ?_ _); exact BK152.out⟩, ⟨by repeat (first | (with_reducible first | exact HB.out | apply below_alloc | apply pw_below_drewN | apply below_drew1 | refine below_set ?_ GE152.out) | exact HB.out)⟩⟩
      case round =>
       clear H'
       try clear c1
       try clear p1
       try clear q1
       try clear hx1
       try clear c2
       try clear c2b0
       try clear p2
       try clear c3
       try clear c3b0
       try clear c4
       try clear c4b0
       try clear hcz6_0
       try clear hcz6_1
       try clear hcz6_2
       try clear hcz6_3
       try clear hcz6_4
       try clear hfz6_0
       try clear hfz6_1
       try clear hfz6_2
       try clear hfz6_3
       try clear hfz6_4
       try clear hx151_0
       try clear hx151_1
       try clear hx151_2
       try clear hx151_3
       try clear hx151_4
       try clear p151
       try clear q151
       obtain ⟨x3_2, x17_2, rfl, HA, HK2, HO_3, BK152, HB⟩ := hrel
       cases gk with
       | zero => exact absurd HA.out (by simp [hunk_Join.l1])
       | succ k2 =>
        have H := HA.out
        clear HA
        simp only [hunk_Join.l1] at H
        by_cases c7 : x17_2 < (((rd_T44 l0 x10_1).f4).length : Int)
        ·rw [if_pos c7] at H
         have c7b0 : decide (x17_2 < (((rd_T44 l0 x10_1).f4).length : Int)) = true := decide_eq_true c7
         clear c7
         by_cases c8 : 0 ≤ x17_2
         ·rw [if_pos c8] at H
          have c8b0 : decide (0 ≤ x17_2) = true := decide_eq_true c8
          clear c8
          by_cases c9 : x17_2 < (((rd_T44 l0 x10_1).f4).length : Int)
          ·rw [if_pos c9] at H
           have c9b0 : decide (x17_2 < (((rd_T44 l0 x10_1).f4).length : Int)) = true := decide_eq_true c9
           clear c9
           replace H := Option.bind_eq_some_iff.mp H
           obtain ⟨t155, A100, H⟩ := H
           replace H : (if x3_2.length < 4398046511104 then (hunk_Join.l1 k2 (x3_2 ++ [(⟨(rd_T47 ((rd_T44 l0 x10_1).f4) x17_2).f0, t155⟩ : S47)]) l0 (l0.length : Int) x10_1 ((rd_T44 l0 x10_1).f4) (((rd_T44 l0 x10_1).f4).length : Int) (wrap64 (x17_2 + 1))) else (none)) = some r := H
           have A10 := Aside0.mk A100
           clear A100
           by_cases c11 : x3_2.length < 4398046511104
           ·rw [if_pos c11] at H
            have LMc11 := Aside0.mk c11
            clear c11
            obtain ⟨y158, hy158⟩ : ∃ y_ : List (S47), y_ = (x3_2 ++ [(⟨(rd_T47 ((rd_T44 l0 x10_1).f4) x17_2).f0, t155⟩ : S47)]) := ⟨_, rfl⟩
            replace H : (hunk_Join.l1 k2 y158 l0 (l0.length : Int) x10_1 ((rd_T44 l0 x10_1).f4) (((rd_T44 l0 x10_1).f4).length : Int) (wrap64 (x17_2 + 1))) = some r := by first | (rw [hy158]; with_reducible exact H) | (have H2_ := (Option.bind_some _ _).symm.trans H; rw [hy158]; with_reducible exact H2_) | (have H2_ := (Option.bind_some _ _).symm.trans H; with_reducible exact H2_) | with_reducible exact H | (rw [hy158]; exact H) | exact H
            have Ny158 := Aside0.mk hy158
            clear hy158
            have H' := Aside0.mk H
            clear H
            have p153 : 0 ≤ (x17_2 : Int) := of_decide_eq_true (by first | (with_reducible assumption) | assumption)
            have q153 : x17_2 < (((rd_T44 l0 x10_1).f4).length : Int) := of_decide_eq_true (by first | (with_reducible assumption) | assumption)
            obtain ⟨ad153, A153_1, c153_1, e153, hx153_0, hx153_1, hl153_1, hi153_1⟩ := at_T47 HR151_4.out x17_2 p153 q153
            cases e153
            replace hx153_0 := (HB.out.cell (World.block_lt_of_cell? w _ hx153_0)).trans hx153_0
            replace hx153_1 := (HB.out.cell (World.block_lt_of_cell? w _ hx153_1)).trans hx153_1
            have HR153_1 := Aside0.mk hi153_1
            have HC153_1 := Aside0.mk hl153_1
            clear hi153_1 hl153_1
            replace p153 := eq_true p153
            replace q153 := eq_true q153
            try go_wp2_with (first | ((with_reducible refine gate_dst (N := 7) rfl ?_); refine box_event ?hg (N := 7) ?hd (cs := #[.int .i64 0, .slice none 0 0]) (t := 47) ?hr ?_; (case hd => rfl); (case hg => rfl); (case hr => first | (go_simp; done) | (go_simp; rfl)); intro gb154 hg w12 hbox hb; have n0_ := Aside0.mk (Kd.S_below (Kd.S_elderB (by (with_reducible repeat (first | apply Kd.S_alloc | apply Kd.S_drewN | apply Kd.S_drew)); exact HO_3.out) gb154 (Nat.le_of_eq hg.symm)) hb); have n1_ := Aside0.mk (blk_below (g := gb152) (o := .cells #[.int .i64 ((rd_T44 l0 x10_1).f0), .int .i64 ((rd_T44 l0 x10_1).f1), .int .i64 ((rd_T44 l0 x10_1).f2), .int .i64 ((rd_T44 l0 x10_1).f3), .slice (some ad153) ((rd_T44 l0 x10_1).f4).length c151_4] 44 (0, 0)) (by (with_reducible repeat first|refine zb1 ?_ _|refine zb2 ?_|refine zb3 ?_ _); exact BK152.out) hb); have n2_ := Aside0.mk (below_step (by repeat (first | (with_reducible first | exact HB.out | apply below_alloc | apply pw_below_drewN | apply below_drew1 | refine below_set ?_ GE152.out) | exact HB.out)) hb); have n3_ := Aside0.mk (hbox); have n4_ := Aside0.mk ((by rw [hg]; exact (below_size (by repeat (first | (with_reducible first | exact HB.out | apply below_alloc | apply pw_below_drewN | apply below_drew1 | refine below_set ?_ GE152.out) | exact HB.out))) : w.heap.size ≤ gb154)); have n5_ := Aside0.mk ((by rw [hg]; exact (below_size (by repeat (first | (with_reducible first | exact HB.out | apply below_alloc | apply pw_below_drewN | apply below_drew1 | refine below_set ?_ GE152.out) | exact HB.out))) : w.heap.size ≤ gb154)); have n6_ := Aside0.mk ((by rw [hg]; exact Nat.ne_of_lt (blk_lt (g := gb152) (o := .cells #[.int .i64 ((rd_T44 l0 x10_1).f0), .int .i64 ((rd_T44 l0 x10_1).f1), .int .i64 ((rd_T44 l0 x10_1).f2), .int .i64 ((rd_T44 l0 x10_1).f3), .slice (some ad153) ((rd_T44 l0 x10_1).f4).length c151_4] 44 (0, 0)) (by (with_reducible repeat first|refine zb1 ?_ _|refine zb2 ?_|refine zb3 ?_ _); exact BK152.out)) : gb152 ≠ gb154)); have n7_ := Aside0.mk ((by rw [hg]; exact Nat.ne_of_gt (blk_lt (g := gb152) (o := .cells #[.int .i64 ((rd_T44 l0 x10_1).f0), .int .i64 ((rd_T44 l0 x10_1).f1), .int .i64 ((rd_T44 l0 x10_1).f2), .int .i64 ((rd_T44 l0 x10_1).f3), .slice (some ad153) ((rd_T44 l0 x10_1).f4).length c151_4] 44 (0, 0)) (by (with_reducible repeat first|refine zb1 ?_ _|refine zb2 ?_|refine zb3 ?_ _); exact BK152.out)) : gb154 ≠ gb152)); clear HO_3; clear BK152; clear HB; have HO_3 := n0_; have BK152 := n1_; have HB := n2_; have BK154 := n3_; have GW154 := n4_; have GE154 := n5_; have NB152_154 := n6_; have NB154_152 := n7_; clear n0_ n1_ n2_ n3_ n4_ n5_ n6_ n7_; clear hb hbox hg; have hnb13 := NB154_152.out; have hnc13 := NB152_154.out; have hcz14_0 : w12.cell? ⟨gb154, 0, none⟩ = some (.int .i64 0) := (blk_cell BK154.out 0).trans rfl; have hcz14_1 : w12.cell? ⟨gb154, 1, none⟩ = some (.slice none 0 0) := (blk_cell BK154.out 1).trans rfl; have hfz14_0 := blk_frozen BK154.out 0; have hfz14_1 := blk_frozen BK154.out 1))
            have n0_ : Aside0 (Kd.S k47 47 ((w12.setCell ⟨gb154, 0, none⟩ (.int .i64 ((rd_T47 ((rd_T44 l0 x10_1).f4) x17_2).f0))).setCell ⟨gb154, 1, none⟩ (.slice A153_1 ((rd_T47 ((rd_T44 l0 x10_1).f4) x17_2).f1).length c153_1)) w.heap.size (fun k_ => k_ ≠ gb154) u3 x3_2) := ⟨by (with_reducible repeat (first | apply Kd.S_alloc | apply Kd.S_drewN | apply Kd.S_drew)); exact Kd.S_mono (Kd.S_far (p := ⟨gb154, 1, none⟩) (Kd.S_far (p := ⟨gb154, 0, none⟩) (Kd.S_mono HO_3.out (fun k_ hk => (⟨hk, hk.2⟩ : _ ∧ k_ ≠ gb154))) (fun _ hk => hk.2) (.int .i64 ((rd_T47 ((rd_T44 l0 x10_1).f4) x17_2).f0))) (fun _ hk => hk.2) (.slice A153_1 ((rd_T47 ((rd_T44 l0 x10_1).f4) x17_2).f1).length c153_1)) (fun _ hk => hk.1.2)⟩
            have n1_ : Aside0 (((w12.setCell ⟨gb154, 0, none⟩ (.int .i64 ((rd_T47 ((rd_T44 l0 x10_1).f4) x17_2).f0))).setCell ⟨gb154, 1, none⟩ (.slice A153_1 ((rd_T47 ((rd_T44 l0 x10_1).f4) x17_2).f1).length c153_1)).heap[gb152]? = some (.cells #[.int .i64 ((rd_T44 l0 x10_1).f0), .int .i64 ((rd_T44 l0 x10_1).f1), .int .i64 ((rd_T44 l0 x10_1).f2), .int .i64 ((rd_T44 l0 x10_1).f3), .slice (some ad153) ((rd_T44 l0 x10_1).f4).length c151_4] 44 (0, 0))) := ⟨by (with_reducible repeat first|refine zb1 ?_ _|refine zb2 ?_|refine zb3 ?_ _); refine blk_far ?_ NB152_154.out _; (with_reducible repeat first|refine zb1 ?_ _|refine zb2 ?_|refine zb3 ?_ _); refine blk_far ?_ NB152_154.out _; (with_reducible repeat first|refine zb1 ?_ _|refine zb2 ?_|refine zb3 ?_ _); exact BK152.out⟩
            have n2_ : Aside0 (((w12.setCell ⟨gb154, 0, none⟩ (.int .i64 ((rd_T47 ((rd_T44 l0 x10_1).f4) x17_2).f0))).setCell ⟨gb154, 1, none⟩ (.slice A153_1 ((rd_T47 ((rd_T44 l0 x10_1).f4) x17_2).f1).length c153_1)).heap[gb154]? = some (.cells #[.int .i64 ((rd_T47 ((rd_T44 l0 x10_1).f4) x17_2).f0), .slice A153_1 ((rd_T47 ((rd_T44 l0 x10_1).f4) x17_2).f1).length c153_1] 47 (0, 0))) := ⟨by (with_reducible repeat first|refine zb1 ?_ _|refine zb2 ?_|refine zb3 ?_ _); refine blk_put (cs := #[.int .i64 ((rd_T47 ((rd_T44 l0 x10_1).f4) x17_2).f0), .slice none 0 0]) ?_ 1 _ rfl; (with_reducible repeat first|refine zb1 ?_ _|refine zb2 ?_|refine zb3 ?_ _); refine blk_put (cs := #[.int .i64 0, .slice none 0 0]) ?_ 0 _ rfl; (with_reducible repeat first|refine zb1 ?_ _|refine zb2 ?_|refine zb3 ?_ _); exact BK154.out⟩
            have n3_ : Aside0 (Below w.heap.size w ((w12.setCell ⟨gb154, 0, none⟩ (.int .i64 ((rd_T47 ((rd_T44 l0 x10_1).f4) x17_2).f0))).setCell ⟨gb154, 1, none⟩ (.slice A153_1 ((rd_T47 ((rd_T44 l0 x10_1).f4) x17_2).f1).length c153_1))) := ⟨by repeat (first | (with_reducible first | exact HB.out | apply below_alloc | apply pw_below_drewN | apply below_drew1 | refine below_set ?_ GE152.out | refine below_set ?_ GE154.out) | exact HB.out)⟩
            (try clear HO_3)
            (try clear BK152)
            (try clear BK154)
            (try clear HB)
            generalize ((w12.setCell ⟨gb154, 0, none⟩ (.int .i64 ((rd_T47 ((rd_T44 l0 x10_1).f4) x17_2).f0))).setCell ⟨gb154, 1, none⟩ (.slice A153_1 ((rd_T47 ((rd_T44 l0 x10_1).f4) x17_2).f1).length c153_1)) = w15 at n0_ n1_ n2_ n3_ ⊢
            have HO_3 := n0_
            have BK152 := n1_
            have BK154 := n2_
            have HB := n3_
            clear n0_ n1_ n2_ n3_
            have n0_ := Aside0.mk (Kd.S_drew HO_3.out)
            have n1_ := Aside0.mk (blk_drew BK152.out)
            have n2_ := Aside0.mk (blk_drew BK154.out)
            have n3_ := Aside0.mk (below_drew1 HB.out)
            clear HO_3
            clear BK152
            clear BK154
            clear HB
            have HO_3 := n0_
            have BK152 := n1_
            have BK154 := n2_
            have HB := n3_
            clear n0_ n1_ n2_ n3_
            refine start_ (n := 10) (S := fun w' => w'.cell? ⟨gb154, 0, none⟩ = some (.int .i64 ((rd_T47 ((rd_T44 l0 x10_1).f4) x17_2).f0)) ∧ w'.cell? ⟨gb154, 1, none⟩ = some (.slice A153_1 ((rd_T47 ((rd_T44 l0 x10_1).f4) x17_2).f1).length c153_1)) (ds := []) (Sq.bl 10 0) (by kernel_rfl) rfl rfl ⟨(blk_cell BK154.out 0).trans rfl, (blk_cell BK154.out 1).trans rfl⟩ (fun hHeld => ?_); refine with_tabW hunk_Join.tab8 hunk_Join.bits8 (fun HT_ HW_ => ?_)
            generalize w15.drew = w16 at HO_3 BK152 BK154 HB hHeld ⊢
            refine Sq.pu (v := ?_) (a' := ?_) 0 21 (Sq.bl 10 1) (any_of HT_.out (by kernel_rfl)) rfl rfl (fun _ _ _ h => h) (by rfl) ?_ ?_ ?_; rotate_left; (· intro w'; go_simp; with_reducible rfl); rotate_left; (· simp only [Act.put,zp1,zp2,zp3,zp4,zp5]; rfl)
            refine Sq.pu (v := ?_) (a' := ?_) 1 22 (Sq.bl 10 3) (any_of HT_.out (by kernel_rfl)) rfl rfl (fun _ _ _ h => h) (by rfl) ?_ ?_ ?_; rotate_left; (· intro w'; go_simp; with_reducible rfl); rotate_left; (· simp only [Act.put,zp1,zp2,zp3,zp4,zp5]; rfl)
            refine Sq.pu (v := ?_) (a' := ?_) 3 24 (Sq.bl 10 11) (any_of HT_.out (by kernel_rfl)) rfl rfl (fun _ _ _ h => h) (by rfl) ?_ ?_ ?_; rotate_left; (· intro w'; go_simp; with_reducible rfl); rotate_left; (· simp only [Act.put,zp1,zp2,zp3,zp4,zp5]; rfl)
            refine take_ (i := 2) (N := some 23) (v := ?_) (a' := ?_) (Sq.bl 10 15) rfl rfl (take_ofW HT_.out HW_.out (by kernel_rfl)) (fun _ _ _ h => h) (Or.inl ⟨by rfl, ?_⟩) hHeld ?_ ?_
            rotate_left
            ·rintro w' ⟨s0, s1⟩
             go_simp
             with_reducible rfl
            rotate_left
            ·simp only [Act.put,zp1,zp2,zp3,zp4,zp5]
             rfl
            refine take_ (i := 4) (N := some 25) (v := ?_) (a' := ?_) (Sq.bl 10 31) rfl rfl (take_ofW HT_.out HW_.out (by kernel_rfl)) (fun _ _ _ h => h) (Or.inl ⟨by rfl, ?_⟩) hHeld ?_ ?_
            rotate_left
            ·rintro w' ⟨s0, s1⟩
             go_simp
             with_reducible rfl
            rotate_left
            ·simp only [Act.put,zp1,zp2,zp3,zp4,zp5]
             rfl
            refine one_ (i := 5) (N := some 26) (Sq.bl 10 63) rfl rfl (one_of HT_.out (by kernel_rfl)) (by decide) (fun K hK => ?_)
            refine goes_ Try.func52 (by kernel_rfl) rfl #[.slice A153_1 ((rd_T47 ((rd_T44 l0 x10_1).f4) x17_2).f1).length c153_1] (by rfl) rfl rfl (by (try simp only [List.map_toArray, List.map_cons, List.map_nil]); first | done | rfl | (simp only [List.length_drop, List.length_take]; rfl)) ?_
            with_reducible refine (api_Line_52.calls _ _ ((rd_T47 ((rd_T44 l0 x10_1).f4) x17_2).f1) t155 _ ?side1 ?side2 A10.out).mono ?_
            (case side1 => repeat (first | exact (Kd.C_below HR153_1.out HB.out) | (with_reducible refine Kd.C_alloc ?_ _) | (with_reducible refine Kd.C_drewN ?_ _) | (with_reducible refine Kd.C_drew ?_)))
            (case side2 => exact HC153_1.out)
            rintro e w17 ⟨v156, rfl, ho0, hb⟩
            refine ⟨_, rfl, ?_⟩
            have n0_ := Aside0.mk (Kd.S_elder' (by (with_reducible repeat (first | apply Kd.S_alloc | apply Kd.S_drewN | apply Kd.S_drew)); exact HO_3.out) (Kd.R_base ho0) hb)
            have n1_ := Aside0.mk (Kd.R_lower ho0 (below_size (by repeat (first | (with_reducible first | exact HB.out | apply below_alloc | apply pw_below_drewN | apply below_drew1 | refine below_set ?_ GE152.out | refine below_set ?_ GE154.out) | exact HB.out))))
            have n2_ := Aside0.mk (blk_below (g := gb152) (o := .cells #[.int .i64 ((rd_T44 l0 x10_1).f0), .int .i64 ((rd_T44 l0 x10_1).f1), .int .i64 ((rd_T44 l0 x10_1).f2), .int .i64 ((rd_T44 l0 x10_1).f3), .slice (some ad153) ((rd_T44 l0 x10_1).f4).length c151_4] 44 (0, 0)) (by (with_reducible repeat first|refine zb1 ?_ _|refine zb2 ?_|refine zb3 ?_ _); exact BK152.out) hb)
            have n3_ := Aside0.mk (blk_below (g := gb154) (o := .cells #[.int .i64 ((rd_T47 ((rd_T44 l0 x10_1).f4) x17_2).f0), .slice A153_1 ((rd_T47 ((rd_T44 l0 x10_1).f4) x17_2).f1).length c153_1] 47 (0, 0)) (by (with_reducible repeat first|refine zb1 ?_ _|refine zb2 ?_|refine zb3 ?_ _); exact BK154.out) hb)
            have n4_ := Aside0.mk (below_step (by repeat (first | (with_reducible first | exact HB.out | apply below_alloc | apply pw_below_drewN | apply below_drew1 | refine below_set ?_ GE152.out | refine below_set ?_ GE154.out) | exact HB.out)) hb)
            clear HO_3
            clear BK152
            clear BK154
            clear HB
            have HO_3 := n0_
            have HO157 := n1_
            have BK152 := n2_
            have BK154 := n3_
            have HB := n4_
            clear n0_ n1_ n2_ n3_ n4_
            (try clear hb)
            (try clear hb2)
            (try clear hk)
            (try clear hi)
            (try clear ho0)
            obtain ⟨Ao18, co18, eo18⟩ := Kd.R_slice HO157.out
            (first | subst eo18 | (injection eo18 with f1_ f2_ f3_; have f4_ := f1_.symm; have f5_ := f3_.symm; clear f1_ f2_ f3_; subst f4_; subst f5_))
            refine hK.out _ _ ⟨(blk_cell BK154.out 0).trans rfl, (blk_cell BK154.out 1).trans rfl⟩ (fun hHeld => ?_)
            clear hK K
            refine norm_ (a' := ?_) ?_ ?_
            rotate_left
            ·show Act.put _ (some 26) _ = _
             simp only [Act.put,zp1,zp2,zp3,zp4,zp5]
             rfl
            refine Sq.pu (v := ?_) (a' := ?_) 6 27 (Sq.bl 10 127) (any_of HT_.out (by kernel_rfl)) rfl rfl (fun _ _ _ h => h) (by rfl) ?_ ?_ ?_; rotate_left; (· intro w'; go_simp; with_reducible rfl); rotate_left; (· simp only [Act.put,zp1,zp2,zp3,zp4,zp5]; rfl)
            refine one_ (i := 7) (N := some 28) (Sq.bl 10 255) rfl rfl (one_of HT_.out (by kernel_rfl)) (by decide) (fun K hK => ?_)
            refine value_ (w1 := ?_) (v := ?_) (by rfl) rfl ?_ ?_
            rotate_left 2
            ·go_simp
             constructor
             ·rfl
             ·rfl
            refine hK.out _ _ ⟨(blk_cell (blk_alloc BK154.out _) 0).trans rfl, (blk_cell (blk_alloc BK154.out _) 1).trans rfl⟩ (fun hHeld => ?_)
            clear hK K
            refine norm_ (a' := ?_) ?_ ?_
            rotate_left
            ·show Act.put _ (some 28) _ = _
             simp only [Act.put,zp1,zp2,zp3,zp4,zp5]
             rfl
            refine one_ (i := 8) (N := some 29) (Sq.bl 10 511) rfl rfl (one_of HT_.out (by kernel_rfl)) (by decide) (fun K hK => ?_)
            refine Kd.S_append_step k47 (w0 := w) w.heap.size (by rfl) (.tmp 21) (.tmp 28) 22 47 (.agg #[(.int .i64 0), (.slice none 0 0)]) 32 rfl Try.underlying22 info47 rfl (by decide) (by omega) u3 x3_2 (⟨(rd_T47 ((rd_T44 l0 x10_1).f4) x17_2).f0, t155⟩ : S47) [.int .i64 ((rd_T47 ((rd_T44 l0 x10_1).f4) x17_2).f0), .slice Ao18 t155.length co18] (fun k_ => k_ ≠ gb154) (fun k_ => some k_ = (.slice Ao18 t155.length co18 : Value).ownBlock) rfl rfl ?aP (fun k_ hk_ => ((Kd.R_mono (ok' := fun k_ => ((fun k_ => k_ ≠ gb154)) k_ ∧ some k_ ≠ (u3 : Value).ownBlock) (Kd.R_types (Kd.R_apart' (HO157.out) (Kd.S_typed HO_3.out) (by decide)) BK154.out (by decide)) (fun k_ hk => ⟨hk.2, hk.1.2⟩))).1 k_ hk_.symm) ?aF ?aO ?aB ?aS ?aL ?_
            (case aP => exact k47_mkM _ _ _ (⟨(rd_T47 ((rd_T44 l0 x10_1).f4) x17_2).f0, t155⟩ : S47) (Kd.R_mono (Kd.R_tight rfl (Kd.R_mono (ok' := fun k_ => ((fun k_ => k_ ≠ gb154)) k_ ∧ some k_ ≠ (u3 : Value).ownBlock) (Kd.R_types (Kd.R_apart' (HO157.out) (Kd.S_typed HO_3.out) (by decide)) BK154.out (by decide)) (fun k_ hk => ⟨hk.2, hk.1.2⟩))) (fun _ h_ => h_)))
            (case aB => exact (by repeat (first | (with_reducible first | exact HB.out | apply below_alloc | apply pw_below_drewN | apply below_drew1 | refine below_set ?_ GE152.out | refine below_set ?_ GE154.out) | exact HB.out)))
            (case aF => exact (fun k_ hk => Kd.freshB (g := gb154) (o := .cells #[.int .i64 ((rd_T47 ((rd_T44 l0 x10_1).f4) x17_2).f0), .slice A153_1 ((rd_T47 ((rd_T44 l0 x10_1).f4) x17_2).f1).length c153_1] 47 (0, 0)) (by (with_reducible repeat first|refine zb1 ?_ _|refine zb2 ?_|refine zb3 ?_ _); exact BK154.out) k_ hk))
            (case aO => exact (by (with_reducible repeat (first | apply Kd.S_alloc | apply Kd.S_drewN | apply Kd.S_drew)); exact Kd.S_mono HO_3.out (fun k_ hk => ⟨hk.1, fun e_ => hk.2 e_⟩)))
            (case aS => exact (below_size (by repeat (first | (with_reducible first | exact HB.out | apply below_alloc | apply pw_below_drewN | apply below_drew1 | refine below_set ?_ GE152.out | refine below_set ?_ GE154.out) | exact HB.out))))
            (case aL => have := LMc11.out; omega)
            intro v159 w19 ho hb hg hat
            rw [← Ny158.out] at ho
            have n0_ := Aside0.mk (blk_grown (g := gb152) (o := .cells #[.int .i64 ((rd_T44 l0 x10_1).f0), .int .i64 ((rd_T44 l0 x10_1).f1), .int .i64 ((rd_T44 l0 x10_1).f2), .int .i64 ((rd_T44 l0 x10_1).f3), .slice (some ad153) ((rd_T44 l0 x10_1).f4).length c151_4] 44 (0, 0)) (by (with_reducible repeat first|refine zb1 ?_ _|refine zb2 ?_|refine zb3 ?_ _); exact BK152.out) hg (Kd.S_ne HO_3.out BK152.out (by decide)))
            have n1_ := Aside0.mk (blk_grown (g := gb154) (o := .cells #[.int .i64 ((rd_T47 ((rd_T44 l0 x10_1).f4) x17_2).f0), .slice A153_1 ((rd_T47 ((rd_T44 l0 x10_1).f4) x17_2).f1).length c153_1] 47 (0, 0)) (by (with_reducible repeat first|refine zb1 ?_ _|refine zb2 ?_|refine zb3 ?_ _); exact BK154.out) hg (Kd.S_away HO_3.out (fun _ hk => hk.1)))
            have n2_ := Aside0.mk (hb)
            have n3_ := Aside0.mk (ho)
            clear BK152
            clear BK154
            clear HB
            clear HO_3
            clear HO157
            have BK152 := n0_
            have BK154 := n1_
            have HB := n2_
            have HO160 := n3_
            clear n0_ n1_ n2_ n3_
            clear ho hb hg hat
            refine hK.out _ _ ⟨(blk_cell BK154.out 0).trans rfl, (blk_cell BK154.out 1).trans rfl⟩ (fun hHeld => ?_)
            clear hK K
            refine norm_ (a' := ?_) ?_ ?_
            rotate_left
            ·show Act.put _ (some 29) _ = _
             simp only [Act.put,zp1,zp2,zp3,zp4,zp5]
             rfl
            refine Sq.pu (v := ?_) (a' := ?_) 9 3 (Sq.bl 10 1023) (any_of HT_.out (by kernel_rfl)) rfl rfl (fun _ _ _ h => h) (by rfl) ?_ ?_ ?_; rotate_left; (· intro w'; go_simp; with_reducible rfl); rotate_left; (· simp only [Act.put,zp1,zp2,zp3,zp4,zp5]; rfl)
            refine done_ (done_of HT_.out (by kernel_rfl)) ?_
            try go_wp2
            go_roundg k2
            case measure => have := HK1.out; have := HK2.out; omega
            case rel => exact ⟨(y158), (wrap64 (x17_2 + 1)), (by first | rfl | (simp; done) | (simp [*]; done)), H', ⟨by have := HK1.out; have := HK2.out; omega⟩, ⟨by (with_reducible repeat (first | apply Kd.S_alloc | apply Kd.S_drewN | apply Kd.S_drew)); exact Kd.S_mono HO160.out (fun _ hk => trivial)⟩, ⟨by (with_reducible repeat first|refine zb1 ?_ _|refine zb2 ?_|refine zb3 ?_ _); exact BK152.out⟩, ⟨by repeat (first | (with_reducible first | exact HB.out | apply below_alloc | apply pw_below_drewN | apply below_drew1 | refine below_set ?_ GE152.out | refine below_set ?_ GE154.out) | exact HB.out)⟩⟩
           ·rw [if_neg c11] at H
            exact absurd H (by simp)
          ·rw [if_neg c9] at H
           exact absurd H (by simp)
         ·rw [if_neg c8] at H
          exact absurd H (by simp)
        ·rw [if_neg c7] at H
         have c7b0 : decide (x17_2 < (((rd_T44 l0 x10_1).f4).length : Int)) = false := decide_eq_false c7
         clear c7
         have H' := Aside0.mk H
         clear H
         go_wp2
         go_roundg k2
         case measure => have := HK1.out; have := HK2.out; omega
         case rel => exact ⟨(x3_2), (wrap64 (x10_1 + 1)), (by first | rfl | (simp; done) | (simp [*]; done)), H', ⟨by have := HK1.out; have := HK2.out; omega⟩, ⟨by (with_reducible repeat (first | apply Kd.S_alloc | apply Kd.S_drewN | apply Kd.S_drew)); exact HO_3.out⟩, ⟨by repeat (first | (with_reducible first | exact HB.out | apply below_alloc | apply pw_below_drewN | apply below_drew1 | refine below_set ?_ GE152.out) | exact HB.out)⟩⟩
     ·rw [if_neg c4] at H
      exact absurd H (by simp)
    ·rw [if_neg c3] at H
     exact absurd H (by simp)
   ·rw [if_neg c2] at H
    have c2b0 : decide (x10_1 < (l0.length : Int)) = false := decide_eq_false c2
    clear c2
    obtain rfl := Option.some.inj H
    go_wp2
    go_ret
    exact ⟨_, by first | rfl | (simp [errW_none, errW_some] <;> rfl) | (simp [*, errW_none, errW_some] <;> rfl), by (with_reducible repeat (first | apply Kd.S_alloc | apply Kd.S_drewN | apply Kd.S_drew)); exact HO_3.out, by repeat (first | (with_reducible first | exact HB.out | apply below_alloc | apply pw_below_drewN | apply below_drew1) | exact HB.out)⟩

end Go.Proofs.Ytfnbodjmmkjlcaa.H
end
section
namespace Go.Proofs.Ytfnbodjmmkjlcaa.H
open Go.RowKit Go.Proofs.YtfnbodjmmkjlcaaW.PrintWords Go.Proofs.YtfnbodjmmkjlcaaW.PrintLast Go.Proofs.YtfnbodjmmkjlcaaW.PrintMore
attribute [local go_sem] max2_int min2_int max_two min_two max_three min_three max_four min_four   -- for this text's walks alone
set_option linter.unusedVariables false
set_option linter.unusedSimpArgs false

def hunk_within.f (a0 : Int) : Option (Bool) := if a0 ≥ 0 then (some (decide (a0 ≤ 400))) else (some false)
set_option maxHeartbeats 8000000 in
set_option maxRecDepth 100000 in
theorem hunk_within.calls (a0 : Int) (r : Bool) (w : World) (h : hunk_within.f a0 = some r) :
    Calls Try.prog 51 #[.int .i64 a0] w fun e w' => e = .returned (.bool r) ∧ Drawn0 w w' := by
  have H : (if a0 ≥ 0 then (some (decide (a0 ≤ 400))) else (some false)) = some r := h
  clear h
  by_cases c2 : a0 ≥ 0
  · rw [if_pos c2] at H
    have c2b0 : decide (0 ≤ a0) = true := decide_eq_true c2
    clear c2
    obtain rfl := Option.some.inj H
    go_enter Try.func51, Try.ntmps51
    go_wp2
    go_ret
    exact ⟨by first | rfl | (simp; done) | (simp [*]; done), by repeat (first | exact Drawn0.refl _ | apply Drawn0.step)⟩
  · rw [if_neg c2] at H
    have c2b0 : decide (0 ≤ a0) = false := decide_eq_false c2
    clear c2
    obtain rfl := Option.some.inj H
    go_enter Try.func51, Try.ntmps51
    go_wp2
    go_ret
    exact ⟨by first | rfl | (simp; done) | (simp [*]; done), by repeat (first | exact Drawn0.refl _ | apply Drawn0.step)⟩

end Go.Proofs.Ytfnbodjmmkjlcaa.H
end
section
namespace Go.Proofs.Ytfnbodjmmkjlcaa.H
open Go.RowKit Go.Proofs.YtfnbodjmmkjlcaaW.PrintWords Go.Proofs.YtfnbodjmmkjlcaaW.PrintLast Go.Proofs.YtfnbodjmmkjlcaaW.PrintMore
attribute [local go_sem] max2_int min2_int max_two min_two max_three min_three max_four min_four   -- for this text's walks alone
set_option linter.unusedVariables false
set_option linter.unusedSimpArgs false

theorem eqA66 (d : Nat) (w : World) (x0 y0 : ByteArray) (x1 y1 : Bool) :
    (Op.equalIn (d + 2) 66 (.agg #[.string x0, .bool x1]) (.agg #[.string y0, .bool y1])).run Try.prog w = .ok (x0.toList == y0.toList && (x1 == y1)) w := by
  refine eqA_of Try.underlying66 (by kernel_rfl) ?_
  refine eqf_cons (by rfl) (by go_simp; rfl) (by go_simp; rfl) (by go_simp) ?_
  exact eqf_last (by rfl) (by go_simp; rfl) (by go_simp; rfl) (by go_simp)
end Go.Proofs.Ytfnbodjmmkjlcaa.H
end
section
namespace Go.Proofs.Ytfnbodjmmkjlcaa.H
open Go.RowKit Go.Proofs.YtfnbodjmmkjlcaaW.PrintWords Go.Proofs.YtfnbodjmmkjlcaaW.PrintLast Go.Proofs.YtfnbodjmmkjlcaaW.PrintMore
attribute [local go_sem] max2_int min2_int max_two min_two max_three min_three max_four min_four   -- for this text's walks alone
set_option linter.unusedVariables false
set_option linter.unusedSimpArgs false

attribute [local go_sem high] eqA66
def api_Line_56.l0 : Nat → List (S66) → List (S66) → Int → Int → Option (Bool)
 | 0, _, _, _, _ => none
 | k + 1, x0, x1, x12, x13 => if x13 < x12 then (if 0 ≤ x13 then (if x13 < (x0.length : Int) then (if x13 < (x1.length : Int) then (if (!((((rd_T66 x0 x13).f0).toList) == (((rd_T66 x1 x13).f0).toList)) || (!(((rd_T66 x0 x13).f1) == ((rd_T66 x1 x13).f1)))) = true then (some false) else (api_Line_56.l0 k x0 x1 x12 (wrap64 (x13 + 1)))) else (none)) else (none)) else (none)) else (some true)
def api_Line_56.f (k : Nat) (l0 : List (S66)) (l1 : List (S66)) : Option (Bool) := if (l0.length : Int) = (l1.length : Int) then (api_Line_56.l0 k l0 l1 (l0.length : Int) 0) else (some false)
theorem api_Line_56.mono_l : ∀ k, (∀ y0 y1 y2 y3, LeO (api_Line_56.l0 k y0 y1 y2 y3) (api_Line_56.l0 (k + 1) y0 y1 y2 y3))
 | 0 => fun _ _ _ _ r h => by simp [api_Line_56.l0] at h
 | k + 1 => by
  have ih0 := api_Line_56.mono_l k
  ·intro y0 y1 y2 y3
   unfold api_Line_56.l0
   repeat' first
   | (with_reducible exact ih0 _ _ _ _)
   | (with_reducible exact LeO.refl _)
   | (with_reducible exact LeO.none _)
   | (with_reducible refine LeO.ite ?_ ?_)
   | (with_reducible refine LeO.bind ?_ (fun _ => ?_))
   | exact ih0 _ _ _ _
   | exact LeO.none _
   | refine LeO.ite ?_ ?_
   | refine LeO.bind ?_ (fun _ => ?_)
theorem api_Line_56.mono : ∀ a0 a1 k, LeO (api_Line_56.f k a0 a1) (api_Line_56.f (k + 1) a0 a1) := by
 intro a0 a1 k
 have ih0 := api_Line_56.mono_l k
 unfold api_Line_56.f
 repeat' first
   | (with_reducible exact ih0 _ _ _ _)
   | (with_reducible exact LeO.refl _)
   | (with_reducible exact LeO.none _)
   | (with_reducible refine LeO.ite ?_ ?_)
   | (with_reducible refine LeO.bind ?_ (fun _ => ?_))
   | exact ih0 _ _ _ _
   | exact LeO.none _
   | refine LeO.ite ?_ ?_
   | refine LeO.bind ?_ (fun _ => ?_)
set_option maxHeartbeats 8000000 in
set_option maxRecDepth 100000 in
theorem api_Line_56.calls (k : Nat) (A0 : Option Addr) (c0 : Nat) (l0 : List (S66)) (A1 : Option Addr) (c1 : Nat) (l1 : List (S66)) (r : Bool) (w : World) (hr0 : Kd.C k66 w A0 l0.length l0) (hc0 : l0.length ≤ c0) (hr1 : Kd.C k66 w A1 l1.length l1) (hc1 : l1.length ≤ c1) (h : api_Line_56.f k l0 l1 = some r) :
  Calls Try.prog 56 #[.slice A0 l0.length c0, .slice A1 l1.length c1] w fun e w' => e = .returned (.bool r) ∧ Drawn0 w w' := by
 have hu66 := Try.underlying66
 have HR0 := Aside0.mk hr0
 have HC0 := Aside0.mk hc0
 clear hr0 hc0
 have HR1 := Aside0.mk hr1
 have HC1 := Aside0.mk hc1
 clear hr1 hc1
 have H : (if (l0.length : Int) = (l1.length : Int) then (api_Line_56.l0 k l0 l1 (l0.length : Int) 0) else (some false)) = some r := h
 clear h
 by_cases c3 : (l0.length : Int) = (l1.length : Int)
 ·rw [if_pos c3] at H
  have c3b0 : ((l0.length : Int) == (l1.length : Int)) = true := beq_iff_eq.mpr c3
  have c3b1 : ((l0.length : Int) != (l1.length : Int)) = false := bne_eq_false_iff_eq.mpr c3
  have c3b2 : (l0.length == l1.length) = true := by first | simpa using c3 | (simp at c3 ⊢; omega)
  clear c3
  have H' := Aside0.mk H
  clear H
  go_enter Try.func56, Try.ntmps56
  go_wp2
  repeat (go_quiet (fail); try go_wp2)
  go_loopg [13] k (fun kq v13 w' => ∃ (x13_1 : Int), v13 = .int .i64 x13_1 ∧ Aside0 (api_Line_56.l0 kq l0 l1 (l0.length : Int) x13_1 = some r) ∧ Aside0 (kq ≤ k) ∧ Drawn0 w w')
  case atStart => exact ⟨(0), (by first | rfl | (simp; done) | (simp [*]; done)), H', ⟨Nat.le_refl _⟩, by repeat (first | exact Drawn0.refl _ | apply Drawn0.step)⟩
  case round =>
   clear H'
   try clear c1
   try clear p2
   try clear c3
   try clear c3b0
   try clear c3b1
   try clear c3b2
   obtain ⟨x13_1, rfl, HA, HK1, ⟨m1, rfl⟩⟩ := hrel
   cases gk with
   | zero => exact absurd HA.out (by simp [api_Line_56.l0])
   | succ k1 =>
    have H := HA.out
    clear HA
    simp only [api_Line_56.l0] at H
    by_cases c4 : x13_1 < (l0.length : Int)
    ·rw [if_pos c4] at H
     have c4b0 : decide (x13_1 < (l0.length : Int)) = true := decide_eq_true c4
     clear c4
     by_cases c5 : 0 ≤ x13_1
     ·rw [if_pos c5] at H
      have c5b0 : decide (0 ≤ x13_1) = true := decide_eq_true c5
      clear c5
      by_cases c6 : x13_1 < (l0.length : Int)
      ·rw [if_pos c6] at H
       have c6b0 : decide (x13_1 < (l0.length : Int)) = true := decide_eq_true c6
       clear c6
       by_cases c7 : x13_1 < (l1.length : Int)
       ·rw [if_pos c7] at H
        have c7b0 : decide (x13_1 < (l1.length : Int)) = true := decide_eq_true c7
        clear c7
        by_cases c8 : (!((((rd_T66 l0 x13_1).f0).toList) == (((rd_T66 l1 x13_1).f0).toList)) || (!(((rd_T66 l0 x13_1).f1) == ((rd_T66 l1 x13_1).f1)))) = true
        ·rw [if_pos c8] at H
         have c8b0 : (!((((rd_T66 l0 x13_1).f0).toList) == (((rd_T66 l1 x13_1).f0).toList)) || (!(((rd_T66 l0 x13_1).f1) == ((rd_T66 l1 x13_1).f1)))) = true := c8
         clear c8
         obtain rfl := Option.some.inj H
         have p161 : 0 ≤ (x13_1 : Int) := of_decide_eq_true (by first | (with_reducible assumption) | assumption)
         have q161 : x13_1 < (l0.length : Int) := of_decide_eq_true (by first | (with_reducible assumption) | assumption)
         obtain ⟨ad161, e161, hx161_0, hx161_1⟩ := at_T66 HR0.out x13_1 p161 q161
         cases e161
         replace p161 := eq_true p161
         replace q161 := eq_true q161
         have p162 : 0 ≤ (x13_1 : Int) := of_decide_eq_true (by first | (with_reducible assumption) | assumption)
         have q162 : x13_1 < (l1.length : Int) := of_decide_eq_true (by first | (with_reducible assumption) | assumption)
         obtain ⟨ad162, e162, hx162_0, hx162_1⟩ := at_T66 HR1.out x13_1 p162 q162
         cases e162
         replace p162 := eq_true p162
         replace q162 := eq_true q162
         go_wp2
         repeat (go_quiet (fail); try go_wp2)
         go_ret
         exact ⟨by first | rfl | (simp; done) | (simp [*]; done), by repeat (first | exact Drawn0.refl _ | apply Drawn0.step)⟩
        ·rw [if_neg c8] at H
         have c8b0 : (!((((rd_T66 l0 x13_1).f0).toList) == (((rd_T66 l1 x13_1).f0).toList)) || (!(((rd_T66 l0 x13_1).f1) == ((rd_T66 l1 x13_1).f1)))) = false := by simpa using c8
         clear c8
         have H' := Aside0.mk H
         clear H
         have p161 : 0 ≤ (x13_1 : Int) := of_decide_eq_true (by first | (with_reducible assumption) | assumption)
         have q161 : x13_1 < (l0.length : Int) := of_decide_eq_true (by first | (with_reducible assumption) | assumption)
         obtain ⟨ad161, e161, hx161_0, hx161_1⟩ := at_T66 HR0.out x13_1 p161 q161
         cases e161
         replace p161 := eq_true p161
         replace q161 := eq_true q161
         have p162 : 0 ≤ (x13_1 : Int) := of_decide_eq_true (by first | (with_reducible assumption) | assumption)
         have q162 : x13_1 < (l1.length : Int) := of_decide_eq_true (by first | (with_reducible assumption) | assumption)
         obtain ⟨ad162, e162, hx162_0, hx162_1⟩ := at_T66 HR1.out x13_1 p162 q162
         cases e162
         replace p162 := eq_true p162
         replace q162 := eq_true q162
         go_wp2
         repeat (go_quiet (fail); try go_wp2)
         go_roundg k1
         case measure => have := HK1.out; omega
         case rel => exact ⟨(wrap64 (x13_1 + 1)), (by first | rfl | (simp; done) | (simp [*]; done)), H', ⟨by have := HK1.out; omega⟩, by repeat (first | exact Drawn0.refl _ | apply Drawn0.step)⟩
       ·rw [if_neg c7] at H
        exact absurd H (by simp)
      ·rw [if_neg c6] at H
       exact absurd H (by simp)
     ·rw [if_neg c5] at H
      exact absurd H (by simp)
    ·rw [if_neg c4] at H
     have c4b0 : decide (x13_1 < (l0.length : Int)) = false := decide_eq_false c4
     clear c4
     obtain rfl := Option.some.inj H
     go_wp2
     repeat (go_quiet (fail); try go_wp2)
     go_ret
     exact ⟨by first | rfl | (simp; done) | (simp [*]; done), by repeat (first | exact Drawn0.refl _ | apply Drawn0.step)⟩
 ·rw [if_neg c3] at H
  have c3b0 : ((l0.length : Int) == (l1.length : Int)) = false := beq_eq_false_iff_ne.mpr c3
  have c3b1 : ((l0.length : Int) != (l1.length : Int)) = true := bne_iff_ne.mpr c3
  have c3b2 : (l0.length == l1.length) = false := by first | simpa using c3 | (simp at c3 ⊢; omega)
  obtain rfl := Option.some.inj H
  go_enter Try.func56, Try.ntmps56
  go_wp2
  repeat (go_quiet (fail); try go_wp2)
  go_ret
  exact ⟨by first | rfl | (simp; done) | (simp [*]; done), by repeat (first | exact Drawn0.refl _ | apply Drawn0.step)⟩

end Go.Proofs.Ytfnbodjmmkjlcaa.H
end
section
namespace Go.Proofs.Ytfnbodjmmkjlcaa.H
open Go.RowKit Go.Proofs.YtfnbodjmmkjlcaaW.PrintWords Go.Proofs.YtfnbodjmmkjlcaaW.PrintLast Go.Proofs.YtfnbodjmmkjlcaaW.PrintMore
attribute [local go_sem] max2_int min2_int max_two min_two max_three min_three max_four min_four   -- for this text's walks alone
set_option linter.unusedVariables false
set_option linter.unusedSimpArgs false

def hunk_same.one (k : Nat) (x y : S47) : Option Bool := if x.f0 = y.f0 then api_Line_56.f k x.f1 y.f1 else some false
def hunk_same.all (k : Nat) : List S47 → List S47 → Option Bool
 | x :: xs, y :: ys => (hunk_same.one k x y).bind fun r => if r = true then hunk_same.all k xs ys else some false
 | _, _ => some true
def hunk_same.f (k : Nat) (l0 l1 : List S47) : Option Bool := if l0.length = l1.length then hunk_same.all k l0 l1 else some false
theorem hunk_same.one_mono (k : Nat) (x y : S47) : LeO (hunk_same.one k x y) (hunk_same.one (k + 1) x y) := LeO.ite (api_Line_56.mono _ _ k) (LeO.refl _)
theorem hunk_same.all_mono (k : Nat) : ∀ (xs ys : List S47), LeO (hunk_same.all k xs ys) (hunk_same.all (k + 1) xs ys)
 | x :: xs, y :: ys => LeO.bind (hunk_same.one_mono k x y) (fun r => LeO.ite (hunk_same.all_mono k xs ys) (LeO.refl _))
 | [], _ => LeO.refl _
 | _ :: _, [] => LeO.refl _
theorem hunk_same.mono : ∀ a0 a1 k, LeO (hunk_same.f k a0 a1) (hunk_same.f (k + 1) a0 a1) := fun a0 a1 k => LeO.ite (hunk_same.all_mono k a0 a1) (LeO.refl _)
set_option maxHeartbeats 4000000 in
set_option maxRecDepth 100000 in
theorem hunk_same.one_calls (k : Nat) (x y : S47) (A B : Option Addr) (ca cb : Nat) (r : Bool) (w : World) (hx : Kd.C k66 w A x.f1.length x.f1) (hca : x.f1.length ≤ ca) (hy : Kd.C k66 w B y.f1.length y.f1) (hcb : y.f1.length ≤ cb) (h : hunk_same.one k x y = some r) :
  Calls Try.prog 80 #[.agg #[.int .i64 x.f0, .slice A x.f1.length ca], .agg #[.int .i64 y.f0, .slice B y.f1.length cb]] w fun e w' => e = .returned (.bool r) ∧ Below w.heap.size w w' := by
 unfold hunk_same.one at h
 have HX := Aside0.mk hx
 have HY := Aside0.mk hy
 have HCA := Aside0.mk hca
 have HCB := Aside0.mk hcb
 clear hx hy hca hcb
 by_cases he : x.f0 = y.f0
 ·rw [if_pos he] at h
  have he' : (x.f0 == y.f0) = true := beq_iff_eq.mpr he
  have H := Aside0.mk h
  clear h he
  go_enter Try.func80, Try.ntmps80
  go_wp2_with (go_at_call 56; refine (api_Line_56.calls k A ca x.f1 B cb y.f1 r _ (Kd.C_below HX.out (below_alloc (below_alloc (Below.refl _ _) _) _)) HCA.out (Kd.C_below HY.out (below_alloc (below_alloc (Below.refl _ _) _) _)) HCB.out H.out).mono ?_; rintro e w1 ⟨rfl, hD⟩)
  go_ret
  exact ⟨rfl, below_step (below_alloc (below_alloc (Below.refl _ _) _) _) hD.below⟩
 ·rw [if_neg he] at h
  obtain rfl := Option.some.inj h
  have he' : (x.f0 == y.f0) = false := beq_eq_false_iff_ne.mpr he
  clear h he
  go_enter Try.func80, Try.ntmps80
  go_wp2
  go_ret
  exact ⟨rfl, below_alloc (below_alloc (Below.refl _ _) _) _⟩
set_option maxHeartbeats 4000000 in
set_option maxRecDepth 100000 in
theorem hunk_same.calls (k : Nat) (A0 : Option Addr) (c0 : Nat) (l0 : List S47) (A1 : Option Addr) (c1 : Nat) (l1 : List S47) (r : Bool) (w : World) (hr0 : Kd.C k47 w A0 l0.length l0) (hc0 : l0.length ≤ c0) (hr1 : Kd.C k47 w A1 l1.length l1) (hc1 : l1.length ≤ c1) (h : hunk_same.f k l0 l1 = some r) :
  Calls Try.prog 71 #[.slice A0 l0.length c0, .slice A1 l1.length c1] w fun e w' => e = .returned (.bool r) ∧ Below w.heap.size w w' := by
 unfold hunk_same.f at h
 have HR0 := Aside0.mk hr0
 have HC0 := Aside0.mk hc0
 have HR1 := Aside0.mk hr1
 have HC1 := Aside0.mk hc1
 clear hr0 hc0 hr1 hc1
 by_cases hl : l0.length = l1.length
 ·rw [if_pos hl] at h
  have hl' : (((l0.length : Nat) : Int) != ((l1.length : Nat) : Int)) = false := bne_eq_false_iff_eq.mpr (by omega)
  have H := Aside0.mk h
  have HL := Aside0.mk hl
  clear h hl
  go_enter Try.func71, Try.ntmps71
  go_wp2
  go_loopw [17] (fun v wr => ∃ n : Nat, n ≤ l0.length ∧ v = .int .i64 (n : Int) ∧ hunk_same.all k (l0.drop n) (l1.drop n) = some r ∧ Below w.heap.size w wr)
   (fun v _ => l0.length - (intOf v).toNat)
  case atStart => exact ⟨0, Nat.zero_le _, rfl, H.out, Below.refl _ _⟩
  case round =>
   obtain ⟨n, hn, rfl, ha, hB⟩ := hrel
   by_cases hlt : n < l0.length
   ·have hlt1 : n < l1.length := by
     have := HL.out
     omega
    have hx : rd_T47 l0 (n : Int) = l0[n] := by
     simp [rd_T47, hlt]
    have hy : rd_T47 l1 (n : Int) = l1[n] := by
     simp [rd_T47, hlt1]
    have hlt' : decide ((n : Int) < (l0.length : Int)) = true := decide_eq_true (by omega)
    have hlt2 : ((n : Int) < (l1.length : Int)) = True := eq_true (by omega)
    rw [List.drop_eq_getElem_cons hlt, List.drop_eq_getElem_cons hlt1, ← hx, ← hy] at ha
    unfold hunk_same.all at ha
    obtain ⟨q, hq, ha⟩ := Option.bind_eq_some_iff.1 ha
    obtain ⟨ad, A2, c2, e, hx0, hx1, hl2, hC2⟩ := at_T47 HR0.out (n : Int) (by omega) (by omega)
    cases e
    obtain ⟨bd, A3, c3, e, hy0, hy1, hl3, hC3⟩ := at_T47 HR1.out (n : Int) (by omega) (by omega)
    cases e
    have hsl : l0.length ≤ 9223372036854775807 := HR0.out.2.1
    have hadx := World.block_lt_of_cell? w _ hx0
    have hady := World.block_lt_of_cell? w _ hy0
    have hadx1 := World.block_lt_of_cell? w _ hx1
    have hady1 := World.block_lt_of_cell? w _ hy1
    have hy0w : ∀ o : Obj, (wr.alloc o).cell? (bd.add ((n : Int).toNat * 2)) = some _ := fun o => ((hB.alloc hB.size o).cell hady).trans hy0
    have hy1w : ∀ o : Obj, (wr.alloc o).cell? ⟨(bd.add ((n : Int).toNat * 2)).block, (bd.add ((n : Int).toNat * 2)).off + 1, none⟩ = some _ := fun o => ((hB.alloc hB.size o).cell hady1).trans hy1
    replace hx0 := (hB.cell hadx).trans hx0
    replace hx1 := (hB.cell hadx1).trans hx1
    simp only [Int.toNat_natCast] at hx0 hx1 hy0w hy1w
    have HC2 := Aside0.mk hC2
    have Hl2 := Aside0.mk hl2
    have HC3 := Aside0.mk hC3
    have Hl3 := Aside0.mk hl3
    have HB := Aside0.mk hB
    have Hq := Aside0.mk hq
    have HWn : Aside0 (wrap64 ((n : Int) + 1) = ((n + 1 : Nat) : Int)) := ⟨by unfold wrap64; omega⟩
    clear hadx hady hadx1 hady1 hy0 hy1 hx hy hC2 hl2 hC3 hl3 hB hq
    cases q with
    | true =>
     rw [if_pos rfl] at ha
     have Ha := Aside0.mk ha
     clear ha
     go_wp2_with (go_at_call 80; refine (hunk_same.one_calls k (rd_T47 l0 (n : Int)) (rd_T47 l1 (n : Int)) A2 A3 c2 c3 true _ (Kd.C_below HC2.out ((HB.out.alloc HB.out.size _).alloc (by rw [World.size_alloc]; have := HB.out.size; omega) _)) Hl2.out (Kd.C_below HC3.out ((HB.out.alloc HB.out.size _).alloc (by rw [World.size_alloc]; have := HB.out.size; omega) _)) Hl3.out Hq.out).mono ?_; rintro e w2 ⟨rfl, hb2⟩)
     go_roundw
     case rel => exact ⟨n + 1, by omega, by first | rfl | exact congrArg _ HWn.out, Ha.out, below_step ((HB.out.alloc HB.out.size _).alloc (by rw [World.size_alloc]; have := HB.out.size; omega) _) hb2⟩
     case measure =>
      try rw [HWn.out]
      simp only [intOf, Int.toNat_natCast]
      omega
    | false =>
     rw [if_neg (by decide)] at ha
     obtain rfl := Option.some.inj ha
     clear ha
     go_wp2_with (go_at_call 80; refine (hunk_same.one_calls k (rd_T47 l0 (n : Int)) (rd_T47 l1 (n : Int)) A2 A3 c2 c3 false _ (Kd.C_below HC2.out ((HB.out.alloc HB.out.size _).alloc (by rw [World.size_alloc]; have := HB.out.size; omega) _)) Hl2.out (Kd.C_below HC3.out ((HB.out.alloc HB.out.size _).alloc (by rw [World.size_alloc]; have := HB.out.size; omega) _)) Hl3.out Hq.out).mono ?_; rintro e w2 ⟨rfl, hb2⟩)
     go_ret
     exact ⟨rfl, below_step ((HB.out.alloc HB.out.size _).alloc (by rw [World.size_alloc]; have := HB.out.size; omega) _) hb2⟩
   ·obtain rfl : n = l0.length := by omega
    have hlt' : decide ((l0.length : Int) < (l0.length : Int)) = false := decide_eq_false (by omega)
    rw [List.drop_length] at ha
    unfold hunk_same.all at ha
    obtain rfl := Option.some.inj ha
    clear ha
    go_wp2
    go_ret
    exact ⟨rfl, hB⟩
 ·rw [if_neg hl] at h
  obtain rfl := Option.some.inj h
  have hl' : (((l0.length : Nat) : Int) != ((l1.length : Nat) : Int)) = true := bne_iff_ne.mpr (by omega)
  clear h hl
  go_enter Try.func71, Try.ntmps71
  go_wp2
  go_ret
  exact ⟨rfl, Below.refl _ _⟩


end Go.Proofs.Ytfnbodjmmkjlcaa.H
end
section
namespace Go.Proofs.Ytfnbodjmmkjlcaa.H
open Go.RowKit Go.Proofs.YtfnbodjmmkjlcaaW.PrintWords Go.Proofs.YtfnbodjmmkjlcaaW.PrintLast Go.Proofs.YtfnbodjmmkjlcaaW.PrintMore
attribute [local go_sem] max2_int min2_int max_two min_two max_three min_three max_four min_four   -- for this text's walks alone
set_option linter.unusedVariables false
set_option linter.unusedSimpArgs false

def script_Changed.l0 : Nat → Int → List (S47) → Int → Int → Option (Int)
 | 0, _, _, _, _ => none
 | k + 1, x3, x6, x7, x8 => if x8 < x7 then (if 0 ≤ x8 then (if x8 < (x6.length : Int) then (if ((rd_T47 x6 x8).f0) = 2 then (script_Changed.l0 k (wrap64 (x3 + (((rd_T47 x6 x8).f1).length : Int))) x6 x7 (wrap64 (x8 + 1))) else (if ((rd_T47 x6 x8).f0) = 3 then (script_Changed.l0 k (wrap64 (x3 + (((rd_T47 x6 x8).f1).length : Int))) x6 x7 (wrap64 (x8 + 1))) else (script_Changed.l0 k x3 x6 x7 (wrap64 (x8 + 1))))) else (none)) else (none)) else (some x3)
def script_Changed.f (k : Nat) (l0 : List (S47)) : Option (Int) := script_Changed.l0 k 0 l0 (l0.length : Int) 0
theorem script_Changed.mono_l : ∀ k, (∀ y0 y1 y2 y3, LeO (script_Changed.l0 k y0 y1 y2 y3) (script_Changed.l0 (k + 1) y0 y1 y2 y3))
 | 0 => fun _ _ _ _ r h => by simp [script_Changed.l0] at h
 | k + 1 => by
  have ih0 := script_Changed.mono_l k
  ·intro y0 y1 y2 y3
   unfold script_Changed.l0
   repeat' first
   | (with_reducible exact ih0 _ _ _ _)
   | (with_reducible exact LeO.refl _)
   | (with_reducible exact LeO.none _)
   | (with_reducible refine LeO.ite ?_ ?_)
   | (with_reducible refine LeO.bind ?_ (fun _ => ?_))
   | exact ih0 _ _ _ _
   | exact LeO.none _
   | refine LeO.ite ?_ ?_
   | refine LeO.bind ?_ (fun _ => ?_)
theorem script_Changed.mono : ∀ a0 k, LeO (script_Changed.f k a0) (script_Changed.f (k + 1) a0) := by
 intro a0 k
 have ih0 := script_Changed.mono_l k
 unfold script_Changed.f
 repeat' first
   | (with_reducible exact ih0 _ _ _ _)
   | (with_reducible exact LeO.refl _)
   | (with_reducible exact LeO.none _)
   | (with_reducible refine LeO.ite ?_ ?_)
   | (with_reducible refine LeO.bind ?_ (fun _ => ?_))
   | exact ih0 _ _ _ _
   | exact LeO.none _
   | refine LeO.ite ?_ ?_
   | refine LeO.bind ?_ (fun _ => ?_)
set_option maxHeartbeats 8000000 in
set_option maxRecDepth 100000 in
theorem script_Changed.calls (k : Nat) (A0 : Option Addr) (c0 : Nat) (l0 : List (S47)) (r : Int) (w : World) (hr0 : Kd.C k47 w A0 l0.length l0) (hc0 : l0.length ≤ c0) (h : script_Changed.f k l0 = some r) :
  Calls Try.prog 72 #[.slice A0 l0.length c0] w fun e w' => e = .returned (.int .i64 r) ∧ Below w.heap.size w w' := by
 have hu47 := Try.underlying47
 have HR0 := Aside0.mk hr0
 have HC0 := Aside0.mk hc0
 clear hr0 hc0
 have HB := Aside0.mk (Below.refl w.heap.size w)
 have H : (script_Changed.l0 k 0 l0 (l0.length : Int) 0) = some r := h
 clear h
 have H' := Aside0.mk H
 clear H
 go_enter Try.func72, Try.ntmps72
 go_wp2
 go_loopg [3, 8] k (fun kq v3 v8 w' => ∃ (x3_1 : Int) (x8_1 : Int), v3 = .int .i64 x3_1 ∧ v8 = .int .i64 x8_1 ∧ Aside0 (script_Changed.l0 kq x3_1 l0 (l0.length : Int) x8_1 = some r) ∧ Aside0 (kq ≤ k) ∧ Aside0 (Below w.heap.size w w'))
 case atStart => exact ⟨(0), (0), (by first | rfl | (simp; done) | (simp [*]; done)), (by first | rfl | (simp; done) | (simp [*]; done)), H', ⟨Nat.le_refl _⟩, ⟨by repeat (first | (with_reducible first | exact HB.out | apply below_alloc | apply pw_below_drewN | apply below_drew1) | exact HB.out)⟩⟩
 case round =>
  clear H'
  obtain ⟨x3_1, x8_1, rfl, rfl, HA, HK1, HB⟩ := hrel
  cases gk with
  | zero => exact absurd HA.out (by simp [script_Changed.l0])
  | succ k1 =>
   have H := HA.out
   clear HA
   simp only [script_Changed.l0] at H
   by_cases c2 : x8_1 < (l0.length : Int)
   ·rw [if_pos c2] at H
    have c2b0 : decide (x8_1 < (l0.length : Int)) = true := decide_eq_true c2
    clear c2
    by_cases c3 : 0 ≤ x8_1
    ·rw [if_pos c3] at H
     have c3b0 : decide (0 ≤ x8_1) = true := decide_eq_true c3
     clear c3
     by_cases c4 : x8_1 < (l0.length : Int)
     ·rw [if_pos c4] at H
      have c4b0 : decide (x8_1 < (l0.length : Int)) = true := decide_eq_true c4
      clear c4
      by_cases c5 : ((rd_T47 l0 x8_1).f0) = 2
      ·rw [if_pos c5] at H
       have c5b0 : (((rd_T47 l0 x8_1).f0) == 2) = true := beq_iff_eq.mpr c5
       have c5b1 : (((rd_T47 l0 x8_1).f0) != 2) = false := bne_eq_false_iff_eq.mpr c5
       clear c5
       have H' := Aside0.mk H
       clear H
       have p133 : 0 ≤ (x8_1 : Int) := of_decide_eq_true (by first | (with_reducible assumption) | assumption)
       have q133 : x8_1 < (l0.length : Int) := of_decide_eq_true (by first | (with_reducible assumption) | assumption)
       obtain ⟨ad133, A133_1, c133_1, e133, hx133_0, hx133_1, hl133_1, hi133_1⟩ := at_T47 HR0.out x8_1 p133 q133
       cases e133
       replace hx133_0 := (HB.out.cell (World.block_lt_of_cell? w _ hx133_0)).trans hx133_0
       replace hx133_1 := (HB.out.cell (World.block_lt_of_cell? w _ hx133_1)).trans hx133_1
       have HR133_1 := Aside0.mk hi133_1
       have HC133_1 := Aside0.mk hl133_1
       clear hi133_1 hl133_1
       replace p133 := eq_true p133
       replace q133 := eq_true q133
       go_wp2_with (first | ((with_reducible refine gate_dst (N := 5) rfl ?_); refine box_event ?hg (N := 5) ?hd (cs := #[.int .i64 0, .slice none 0 0]) (t := 47) ?hr ?_; (case hd => rfl); (case hg => rfl); (case hr => first | (go_simp; done) | (go_simp; rfl)); intro gb134 hg w6 hbox hb; have n0_ := Aside0.mk (below_step (by repeat (first | (with_reducible first | exact HB.out | apply below_alloc | apply pw_below_drewN | apply below_drew1) | exact HB.out)) hb); have n1_ := Aside0.mk (hbox); have n2_ := Aside0.mk ((by rw [hg]; exact (below_size (by repeat (first | (with_reducible first | exact HB.out | apply below_alloc | apply pw_below_drewN | apply below_drew1) | exact HB.out))) : w.heap.size ≤ gb134)); have n3_ := Aside0.mk ((by rw [hg]; exact (below_size (by repeat (first | (with_reducible first | exact HB.out | apply below_alloc | apply pw_below_drewN | apply below_drew1) | exact HB.out))) : w.heap.size ≤ gb134)); clear HB; have HB := n0_; have BK134 := n1_; have GW134 := n2_; have GE134 := n3_; clear n0_ n1_ n2_ n3_; clear hb hbox hg; have hcz7_0 : w6.cell? ⟨gb134, 0, none⟩ = some (.int .i64 0) := (blk_cell BK134.out 0).trans rfl; have hcz7_1 : w6.cell? ⟨gb134, 1, none⟩ = some (.slice none 0 0) := (blk_cell BK134.out 1).trans rfl; have hfz7_0 := blk_frozen BK134.out 0; have hfz7_1 := blk_frozen BK134.out 1))
       go_roundg k1
       case measure => have := HK1.out; omega
       case rel => exact ⟨(wrap64 (x3_1 + (((rd_T47 l0 x8_1).f1).length : Int))), (wrap64 (x8_1 + 1)), (by first | rfl | (simp; done) | (simp [*]; done)), (by first | rfl | (simp; done) | (simp [*]; done)), H', ⟨by have := HK1.out; omega⟩, ⟨by repeat (first | (with_reducible first | exact HB.out | apply below_alloc | apply pw_below_drewN | apply below_drew1 | refine below_set ?_ GE134.out) | exact HB.out)⟩⟩
      ·rw [if_neg c5] at H
       have c5b0 : (((rd_T47 l0 x8_1).f0) == 2) = false := beq_eq_false_iff_ne.mpr c5
       have c5b1 : (((rd_T47 l0 x8_1).f0) != 2) = true := bne_iff_ne.mpr c5
       by_cases c8 : ((rd_T47 l0 x8_1).f0) = 3
       ·rw [if_pos c8] at H
        have c8b0 : (((rd_T47 l0 x8_1).f0) == 3) = true := beq_iff_eq.mpr c8
        have c8b1 : (((rd_T47 l0 x8_1).f0) != 3) = false := bne_eq_false_iff_eq.mpr c8
        clear c8
        have H' := Aside0.mk H
        clear H
        have p133 : 0 ≤ (x8_1 : Int) := of_decide_eq_true (by first | (with_reducible assumption) | assumption)
        have q133 : x8_1 < (l0.length : Int) := of_decide_eq_true (by first | (with_reducible assumption) | assumption)
        obtain ⟨ad133, A133_1, c133_1, e133, hx133_0, hx133_1, hl133_1, hi133_1⟩ := at_T47 HR0.out x8_1 p133 q133
        cases e133
        replace hx133_0 := (HB.out.cell (World.block_lt_of_cell? w _ hx133_0)).trans hx133_0
        replace hx133_1 := (HB.out.cell (World.block_lt_of_cell? w _ hx133_1)).trans hx133_1
        have HR133_1 := Aside0.mk hi133_1
        have HC133_1 := Aside0.mk hl133_1
        clear hi133_1 hl133_1
        replace p133 := eq_true p133
        replace q133 := eq_true q133
        go_wp2_with (first | ((with_reducible refine gate_dst (N := 5) rfl ?_); refine box_event ?hg (N := 5) ?hd (cs := #[.int .i64 0, .slice none 0 0]) (t := 47) ?hr ?_; (case hd => rfl); (case hg => rfl); (case hr => first | (go_simp; done) | (go_simp; rfl)); intro gb134 hg w9 hbox hb; have n0_ := Aside0.mk (below_step (by repeat (first | (with_reducible first | exact HB.out | apply below_alloc | apply pw_below_drewN | apply below_drew1) | exact HB.out)) hb); have n1_ := Aside0.mk (hbox); have n2_ := Aside0.mk ((by rw [hg]; exact (below_size (by repeat (first | (with_reducible first | exact HB.out | apply below_alloc | apply pw_below_drewN | apply below_drew1) | exact HB.out))) : w.heap.size ≤ gb134)); have n3_ := Aside0.mk ((by rw [hg]; exact (below_size (by repeat (first | (with_reducible first | exact HB.out | apply below_alloc | apply pw_below_drewN | apply below_drew1) | exact HB.out))) : w.heap.size ≤ gb134)); clear HB; have HB := n0_; have BK134 := n1_; have GW134 := n2_; have GE134 := n3_; clear n0_ n1_ n2_ n3_; clear hb hbox hg; have hcz10_0 : w9.cell? ⟨gb134, 0, none⟩ = some (.int .i64 0) := (blk_cell BK134.out 0).trans rfl; have hcz10_1 : w9.cell? ⟨gb134, 1, none⟩ = some (.slice none 0 0) := (blk_cell BK134.out 1).trans rfl; have hfz10_0 := blk_frozen BK134.out 0; have hfz10_1 := blk_frozen BK134.out 1))
        go_roundg k1
        case measure => have := HK1.out; omega
        case rel => exact ⟨(wrap64 (x3_1 + (((rd_T47 l0 x8_1).f1).length : Int))), (wrap64 (x8_1 + 1)), (by first | rfl | (simp; done) | (simp [*]; done)), (by first | rfl | (simp; done) | (simp [*]; done)), H', ⟨by have := HK1.out; omega⟩, ⟨by repeat (first | (with_reducible first | exact HB.out | apply below_alloc | apply pw_below_drewN | apply below_drew1 | refine below_set ?_ GE134.out) | exact HB.out)⟩⟩
       ·rw [if_neg c8] at H
        have c8b0 : (((rd_T47 l0 x8_1).f0) == 3) = false := beq_eq_false_iff_ne.mpr c8
        have c8b1 : (((rd_T47 l0 x8_1).f0) != 3) = true := bne_iff_ne.mpr c8
        have H' := Aside0.mk H
        clear H
        have p133 : 0 ≤ (x8_1 : Int) := of_decide_eq_true (by first | (with_reducible assumption) | assumption)
        have q133 : x8_1 < (l0.length : Int) := of_decide_eq_true (by first | (with_reducible assumption) | assumption)
        obtain ⟨ad133, A133_1, c133_1, e133, hx133_0, hx133_1, hl133_1, hi133_1⟩ := at_T47 HR0.out x8_1 p133 q133
        cases e133
        replace hx133_0 := (HB.out.cell (World.block_lt_of_cell? w _ hx133_0)).trans hx133_0
        replace hx133_1 := (HB.out.cell (World.block_lt_of_cell? w _ hx133_1)).trans hx133_1
        have HR133_1 := Aside0.mk hi133_1
        have HC133_1 := Aside0.mk hl133_1
        clear hi133_1 hl133_1
        replace p133 := eq_true p133
        replace q133 := eq_true q133
        go_wp2_with (first | ((with_reducible refine gate_dst (N := 5) rfl ?_); refine box_event ?hg (N := 5) ?hd (cs := #[.int .i64 0, .slice none 0 0]) (t := 47) ?hr ?_; (case hd => rfl); (case hg => rfl); (case hr => first | (go_simp; done) | (go_simp; rfl)); intro gb134 hg w11 hbox hb; have n0_ := Aside0.mk (below_step (by repeat (first | (with_reducible first | exact HB.out | apply below_alloc | apply pw_below_drewN | apply below_drew1) | exact HB.out)) hb); have n1_ := Aside0.mk (hbox); have n2_ := Aside0.mk ((by rw [hg]; exact (below_size (by repeat (first | (with_reducible first | exact HB.out | apply below_alloc | apply pw_below_drewN | apply below_drew1) | exact HB.out))) : w.heap.size ≤ gb134)); have n3_ := Aside0.mk ((by rw [hg]; exact (below_size (by repeat (first | (with_reducible first | exact HB.out | apply below_alloc | apply pw_below_drewN | apply below_drew1) | exact HB.out))) : w.heap.size ≤ gb134)); clear HB; have HB := n0_; have BK134 := n1_; have GW134 := n2_; have GE134 := n3_; clear n0_ n1_ n2_ n3_; clear hb hbox hg; have hcz12_0 : w11.cell? ⟨gb134, 0, none⟩ = some (.int .i64 0) := (blk_cell BK134.out 0).trans rfl; have hcz12_1 : w11.cell? ⟨gb134, 1, none⟩ = some (.slice none 0 0) := (blk_cell BK134.out 1).trans rfl; have hfz12_0 := blk_frozen BK134.out 0; have hfz12_1 := blk_frozen BK134.out 1))
        go_roundg k1
        case measure => have := HK1.out; omega
        case rel => exact ⟨(x3_1), (wrap64 (x8_1 + 1)), (by first | rfl | (simp; done) | (simp [*]; done)), (by first | rfl | (simp; done) | (simp [*]; done)), H', ⟨by have := HK1.out; omega⟩, ⟨by repeat (first | (with_reducible first | exact HB.out | apply below_alloc | apply pw_below_drewN | apply below_drew1 | refine below_set ?_ GE134.out) | exact HB.out)⟩⟩
     ·rw [if_neg c4] at H
      exact absurd H (by simp)
    ·rw [if_neg c3] at H
     exact absurd H (by simp)
   ·rw [if_neg c2] at H
    have c2b0 : decide (x8_1 < (l0.length : Int)) = false := decide_eq_false c2
    clear c2
    obtain rfl := Option.some.inj H
    go_wp2
    go_ret
    exact ⟨by first | rfl | (simp [errW_none, errW_some] <;> rfl) | (simp [*, errW_none, errW_some] <;> rfl), by repeat (first | (with_reducible first | exact HB.out | apply below_alloc | apply pw_below_drewN | apply below_drew1) | exact HB.out)⟩

end Go.Proofs.Ytfnbodjmmkjlcaa.H
end
