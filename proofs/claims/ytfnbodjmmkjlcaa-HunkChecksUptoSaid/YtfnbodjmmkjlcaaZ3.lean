/-
  What the claim needs of the words, of the walks and of the plain proofs, in one row (3).
-/
import Derived.Deep.RegionHeld3
import Derived.WalkLawsBesides
import Derived.WalkSpells
import Derived.RangeFuncNested
import Derived.RangeFuncBound
import Derived.RangeFuncCalls
import Derived.RangeFuncLeaves
import Derived.RangeFuncBox
import Derived.RangeFuncMany
import Derived.Shelf.Abstract
import Derived.OwnWalkIn
import Derived.TacticsInMore
import Derived.LoopNIn
import Derived.LoopIn
import Derived.ArgAppend
import Derived.Test.YtfnbodjmmkjlcaaZ0
import Derived.Test.YtfnbodjmmkjlcaaZ1
import Derived.Test.YtfnbodjmmkjlcaaZ2
section
namespace Go.Proofs.Ytfnbodjmmkjlcaa.H
open Go.RowKit Go.Proofs.YtfnbodjmmkjlcaaW.PrintWords Go.Proofs.YtfnbodjmmkjlcaaW.PrintLast Go.Proofs.YtfnbodjmmkjlcaaW.PrintMore
attribute [local go_sem] max2_int min2_int max_two min_two max_three min_three max_four min_four   -- for this text's walks alone
set_option linter.unusedVariables false
set_option linter.unusedSimpArgs false

/-- What a step makes of a builder's state. -/
def hunk_Build.takep (k c : Nat) (s : hunk_Build.St) (x : S47) (last : Bool) : Option hunk_Build.St :=
 if x.f0 = 1 then
  (if s.now.length = 0 then some ⟨s.out, s.now, x.f1⟩
  else if last = true ∨ 2 * c < x.f1.length then (hunk_Build.hk k (s.now ++ hunk_Build.trail c x.f1)).bind fun h => some ⟨s.out ++ [h], [], x.f1⟩
  else some ⟨s.out, s.now ++ [x], s.ah⟩)
 else if s.now.length = 0 then some ⟨s.out, s.now ++ hunk_Build.lead c s.ah ++ [x], []⟩
 else some ⟨s.out, s.now ++ [x], s.ah⟩
def hunk_Build.Is (w0 : World) (b : Nat) (kp : Nat → Prop) (w : World) (c : Nat) (s : hunk_Build.St) : Prop :=
 ∃ (A : Option Addr) (ca : Nat), hunk_Build.At w0.heap.size b kp w c s.out s.now (.slice A s.ah.length ca) ∧ Kd.C k66 w0 A s.ah.length s.ah ∧ s.ah.length ≤ ca
theorem hunk_Build.At.free {B b : Nat} {kp : Nat → Prop} {w : World} {c : Nat} {out : List S44} {now : List S47} {va : Value} (h : hunk_Build.At B b kp w c out now va) : hunk_Build.At B b (fun _ => False) w c out now va := by
 obtain ⟨vo, vn, hb, hvo, hvn⟩ := h
 exact ⟨vo, vn, hb, Kd.R_mono hvo (fun k hk => ⟨fun h => h, hk.2⟩), Kd.R_mono hvn (fun k hk => ⟨fun h => h, hk.2⟩)⟩
theorem hunk_Build.At.boxed {B b : Nat} {w : World} {c : Nat} {out : List S44} {now : List S47} {va : Value} (h : hunk_Build.At B b (fun _ => False) w c out now va) (o : Obj) : hunk_Build.At B b (fun k => k = w.heap.size) (w.alloc o) c out now va := by
 obtain ⟨vo, vn, hb, hvo, hvn⟩ := h
 exact ⟨vo, vn, blk_alloc hb o, Kd.R_alloc (Kd.R_mono (Kd.R_bound hvo) (fun k hk => ⟨by have := hk.2.2.1; omega, hk.1.2⟩)) o, Kd.R_alloc (Kd.R_mono (Kd.R_bound hvn) (fun k hk => ⟨by have := hk.2.2.1; omega, hk.1.2⟩)) o⟩
set_option maxHeartbeats 4000000 in
set_option maxRecDepth 100000 in
theorem hunk_Build.take_calls (k : Nat) (w0 : World) (b : Nat) (c : Nat) (s s' : hunk_Build.St) (x : S47) (last : Bool) (A : Option Addr) (cx : Nat) (w : World) (hBb : w0.heap.size ≤ b)
  (ha : hunk_Build.Is w0 b (fun _ => False) w c s) (hCx : Kd.C k66 w0 A x.f1.length x.f1) (hcx : x.f1.length ≤ cx) (hbw : Below w0.heap.size w0 w) (h1 : s.now.length ≤ 100000000) (h2 : s.ah.length ≤ 1000000000) (h3 : c ≤ 1000000) (h4 : s.out.length ≤ 1000000000) (h5 : x.f1.length ≤ 1000000000) (hT : hunk_Build.takep k c s x last = some s') :
  Calls Try.prog 43 #[.pointer (some ⟨b, 0, none⟩), .agg #[.int .i64 x.f0, .slice A x.f1.length cx], .bool last] w fun e w' => e = .returned (.tuple #[]) ∧ hunk_Build.Is w0 b (fun _ => False) w' c s' ∧ Below w0.heap.size w w' := by
 obtain ⟨out, now, ah⟩ := s
 obtain ⟨Aa, ca, hat, hCa, hca⟩ := ha
 simp only at hat hCa hca h1 h2 h4
 unfold hunk_Build.takep at hT
 simp only at hT
 obtain ⟨o, ho⟩ : ∃ o : Obj, o = .cells #[.int .i64 x.f0, .slice A x.f1.length cx] 47 (0, 0) := ⟨_, rfl⟩
 obtain ⟨kp, hkp⟩ : ∃ kp : Nat → Prop, kp = fun k => k = w.heap.size := ⟨_, rfl⟩
 have hat1 : hunk_Build.At w0.heap.size b kp (w.alloc o) c out now (.slice Aa ah.length ca) := by
  rw [hkp]
  exact hat.boxed o
 have hlt : b < w.heap.size := by
  obtain ⟨_, _, hb⟩ := hat.blk
  exact blk_lt hb
 have hkb : ¬ kp b := by
  rw [hkp]
  show ¬ b = w.heap.size
  omega
 have hkX : kp w.heap.size := by rw [hkp]
 have hkl : ∀ k, kp k → k < (w.alloc o).heap.size := by
  rw [hkp]
  rintro k rfl
  simp
 have hX : (w.alloc o).heap[w.heap.size]? = some o := World.alloc_heap_new w o
 have hB1 : Below w0.heap.size w (w.alloc o) := (below_alloc (Below.refl _ _) o).mono hbw.size
 have hbw1 := hbw.trans hB1
 have hCx0 := Aside0.mk hCx
 have hcx0 := Aside0.mk hcx
 have hat0 := Aside0.mk hat1
 have hbw0 := Aside0.mk hbw
 have hB10 := Aside0.mk hB1
 have hbw10 := Aside0.mk hbw1
 have hX0 := Aside0.mk hX
 have hCa0 := Aside0.mk hCa
 have hca0 := Aside0.mk hca
 have hkb0 := Aside0.mk hkb
 have hkl0 := Aside0.mk hkl
 have hkX0 := Aside0.mk hkX
 clear hCx hcx hat hbw hB1 hbw1 hX hCa hca hkb hlt hkl hkX hkp hat1
 by_cases hd : x.f0 = 1
 ·rw [if_pos hd] at hT
  have hd1 : (x.f0 != 1) = false := by simp [hd]
  by_cases hn : now.length = 0
  ·rw [if_pos hn] at hT
   have HT := Aside0.mk (Option.some.inj hT)
   have hn' : (((now.length : Nat) : Int) == 0) = true := beq_iff_eq.mpr (by omega)
   have Hd := Aside0.mk hd
   clear hT hd hn
   subst ho
   go_enter Try.func43, Try.ntmps43
   go_wp2_with (first | (go_at_call 68; refine (hunk_changes.calls x.f0 A cx x.f1 false _ (Kd.C_below hCx0.out hbw10.out) hcx0.out (by unfold hunk_changes.f; rw [hd1])).mono ?_; rintro e W ⟨rfl, hbW⟩; obtain ⟨vo, vn, hb, hvo, hvn⟩ := hat0.out; obtain ⟨An, cn, rfl⟩ := Kd.R_slice hvn; have hbW2 := (hbW.block b (blk_lt hb)).trans hb; have hXW := (hbW.block _ (blk_lt hX0.out)).trans hX0.out; have hc2 : W.cell? ⟨b, 2, none⟩ = some (.slice An now.length cn) := (blk_cell hbW2 2).trans rfl; have hc0 : W.cell? ⟨b, 0, none⟩ = some (.int .i64 (c : Int)) := (blk_cell hbW2 0).trans rfl; have hc5 := blk_cell hbW2 5; have hf5 := blk_frozen hbW2 5; have hcX0 : W.cell? ⟨w.heap.size, 0, none⟩ = some (.int .i64 x.f0) := (blk_cell hXW 0).trans rfl; have hcX1 : W.cell? ⟨w.heap.size, 1, none⟩ = some (.slice A x.f1.length cx) := (blk_cell hXW 1).trans rfl; have HbW := Aside0.mk hbW; have HbW2 := Aside0.mk hbW2; have HXW := Aside0.mk hXW; have Hvo := Aside0.mk (Kd.R_below hvo hbW); have Hvn := Aside0.mk (Kd.R_below hvn hbW); clear hb hvo hvn hbW hbW2 hXW))
   go_wp2
   go_end0
   have hkl : ∀ k, kp k → k < W.heap.size := fun k hk => Nat.lt_of_lt_of_le (hkl0.out k hk) HbW.out.size
   have hBW : Below w0.heap.size w W := hB10.out.trans (HbW.out.mono hbw10.out.size)
   refine ⟨rfl, ?_, hBW.setCell hBb _⟩
   rw [← HT.out]
   exact ⟨A, cx, (hunk_Build.At.free ⟨vo, _, HbW2.out, Hvo.out, Hvn.out⟩).setva _, hCx0.out, hcx0.out⟩
  ·rw [if_neg hn] at hT
   have hn' : (((now.length : Nat) : Int) == 0) = false := beq_eq_false_iff_ne.mpr (by omega)
   by_cases hq : last = true ∨ 2 * c < x.f1.length
   ·rw [if_pos hq] at hT
    obtain ⟨h, hh, hT⟩ := Option.bind_eq_some_iff.1 hT
    have HT := Aside0.mk (Option.some.inj hT)
    unfold hunk_Build.hk at hh
    obtain ⟨⟨r1, r2, r3⟩, hsd, hh⟩ := Option.bind_eq_some_iff.1 hh
    have Hh := Aside0.mk (Option.some.inj hh)
    have Hsd := Aside0.mk hsd
    have Hd := Aside0.mk hd
    clear hT hd hn hh hsd
    cases last with
    | true =>
     clear hq
     subst ho
     go_enter Try.func43, Try.ntmps43
     go_wp2_with (first | (go_at_call 68; refine (hunk_changes.calls x.f0 A cx x.f1 false _ (Kd.C_below hCx0.out hbw10.out) hcx0.out (by unfold hunk_changes.f; rw [hd1])).mono ?_; rintro e W ⟨rfl, hbW⟩; obtain ⟨vo, vn, hb, hvo, hvn⟩ := hat0.out; obtain ⟨An, cn, rfl⟩ := Kd.R_slice hvn; have hbW2 := (hbW.block b (blk_lt hb)).trans hb; have hXW := (hbW.block _ (blk_lt hX0.out)).trans hX0.out; have hc2 : W.cell? ⟨b, 2, none⟩ = some (.slice An now.length cn) := (blk_cell hbW2 2).trans rfl; have hc0 : W.cell? ⟨b, 0, none⟩ = some (.int .i64 (c : Int)) := (blk_cell hbW2 0).trans rfl; have hc5 := blk_cell hbW2 5; have hf5 := blk_frozen hbW2 5; have hcX0 : W.cell? ⟨w.heap.size, 0, none⟩ = some (.int .i64 x.f0) := (blk_cell hXW 0).trans rfl; have hcX1 : W.cell? ⟨w.heap.size, 1, none⟩ = some (.slice A x.f1.length cx) := (blk_cell hXW 1).trans rfl; have HbW := Aside0.mk hbW; have HbW2 := Aside0.mk hbW2; have HXW := Aside0.mk hXW; have Hvo := Aside0.mk (Kd.R_below hvo hbW); have Hvn := Aside0.mk (Kd.R_below hvn hbW); clear hb hvo hvn hbW hbW2 hXW))
     go_wp2
     have hkl : ∀ k, kp k → k < W.heap.size := fun k hk => Nat.lt_of_lt_of_le (hkl0.out k hk) HbW.out.size
     have hBW : Below w0.heap.size w W := hB10.out.trans (HbW.out.mono hbw10.out.size)
     refine start_ (n := 13) (S := fun w' => w'.cell? ⟨b, 0, none⟩ = some (.int .i64 (c : Int)) ∧ w'.cell? ⟨w.heap.size, 1, none⟩ = some (.slice A x.f1.length cx)) (ds := []) (Sq.bl 13 0) (by kernel_rfl) rfl (by rfl) ⟨hc0, hcX1⟩ (fun hS => ?_)
     refine Sq.pu (v := ?_) (a' := ?_) 0 60 (Sq.bl 13 1) (by kernel_rfl) rfl rfl (fun _ _ _ h => h) (by rfl) ?_ ?_ ?_; rotate_left; (· intro w'; go_simp; with_reducible rfl); rotate_left; (· simp only [Act.put,zp1,zp2,zp3,zp4,zp5]; rfl)
     refine Sq.pu (v := ?_) (a' := ?_) 1 61 (Sq.bl 13 3) (by kernel_rfl) rfl rfl (fun _ _ _ h => h) (by rfl) ?_ ?_ ?_; rotate_left; (· intro w'; go_simp; with_reducible rfl); rotate_left; (· simp only [Act.put,zp1,zp2,zp3,zp4,zp5]; rfl)
     refine pure_ (i := 2) (N := some 62) (v := undef) (a' := ?_) (Sq.bl 13 7) rfl rfl (by kernel_rfl) (fun _ _ _ h => h) (Or.inr ⟨by rfl, rfl⟩) ?_ ?_
     rotate_left
     ·simp only [Act.put,zp1,zp2,zp3,zp4,zp5]
      rfl
     refine pure_ (i := 5) (N := some 65) (v := undef) (a' := ?_) (Sq.bl 13 39) rfl rfl (by kernel_rfl) (fun _ _ _ h => h) (Or.inr ⟨by rfl, rfl⟩) ?_ ?_
     rotate_left
     ·simp only [Act.put,zp1,zp2,zp3,zp4,zp5]
      rfl
     refine pure_ (i := 6) (N := some 66) (v := undef) (a' := ?_) (Sq.bl 13 103) rfl rfl (by kernel_rfl) (fun _ _ _ h => h) (Or.inr ⟨by rfl, rfl⟩) ?_ ?_
     rotate_left
     ·simp only [Act.put,zp1,zp2,zp3,zp4,zp5]
      rfl
     refine pure_ (i := 7) (N := some 67) (v := undef) (a' := ?_) (Sq.bl 13 231) rfl rfl (by kernel_rfl) (fun _ _ _ h => h) (Or.inr ⟨by rfl, rfl⟩) ?_ ?_
     rotate_left
     ·simp only [Act.put,zp1,zp2,zp3,zp4,zp5]
      rfl
     refine pure_ (i := 3) (N := some 63) (v := undef) (a' := ?_) (Sq.bl 13 239) rfl rfl (by kernel_rfl) (fun _ _ _ h => h) (Or.inr ⟨by rfl, rfl⟩) ?_ ?_
     rotate_left
     ·simp only [Act.put,zp1,zp2,zp3,zp4,zp5]
      rfl
     refine pure_ (i := 4) (N := some 64) (v := undef) (a' := ?_) (Sq.bl 13 255) rfl rfl (by kernel_rfl) (fun _ _ _ h => h) (Or.inr ⟨by rfl, rfl⟩) ?_ ?_
     rotate_left
     ·simp only [Act.put,zp1,zp2,zp3,zp4,zp5]
      rfl
     refine pure_ (i := 8) (N := some 68) (v := undef) (a' := ?_) (Sq.bl 13 511) rfl rfl (by kernel_rfl) (fun _ _ _ h => h) (Or.inr ⟨by rfl, rfl⟩) ?_ ?_
     rotate_left
     ·simp only [Act.put,zp1,zp2,zp3,zp4,zp5]
      rfl
     refine pure_ (i := 9) (N := some 69) (v := undef) (a' := ?_) (Sq.bl 13 1023) rfl rfl (by kernel_rfl) (fun _ _ _ h => h) (Or.inr ⟨by rfl, rfl⟩) ?_ ?_
     rotate_left
     ·simp only [Act.put,zp1,zp2,zp3,zp4,zp5]
      rfl
     refine pure_ (i := 10) (N := some 70) (v := undef) (a' := ?_) (Sq.bl 13 2047) rfl rfl (by kernel_rfl) (fun _ _ _ h => h) (Or.inr ⟨by rfl, rfl⟩) ?_ ?_
     rotate_left
     ·simp only [Act.put,zp1,zp2,zp3,zp4,zp5]
      rfl
     refine Sq.pu (v := ?_) (a' := ?_) 11 71 (Sq.bl 13 4095) (by kernel_rfl) rfl rfl (fun _ _ _ h => h) (by rfl) ?_ ?_ ?_; rotate_left; (· intro w'; go_simp; with_reducible rfl); rotate_left; (· simp only [Act.put,zp1,zp2,zp3,zp4,zp5]; rfl)
     refine Sq.pu (v := ?_) (a' := ?_) 12 59 (Sq.bl 13 8191) (by kernel_rfl) rfl rfl (fun _ _ _ h => h) (by rfl) ?_ ?_ ?_; rotate_left; (· intro w'; go_simp; with_reducible rfl); rotate_left; (· simp only [Act.put,zp1,zp2,zp3,zp4,zp5]; rfl)
     refine done_ (by kernel_rfl) ?_
     have hb := blk_drew HbW2.out
     have hX := blk_drew HXW.out
     have hvo := Kd.R_drew Hvo.out
     have hvn := Kd.R_drew Hvn.out
     have hbw := (hbw0.out.trans hBW).drew
     have hBW1 := hBW.drew
     have hkl1 : ∀ k, kp k → k < W.drew.heap.size := hkl
     have hCx := hCx0.out
     have hcx := hcx0.out
     have hkb := hkb0.out
     have hkX := hkX0.out
     clear hkl hBW hc0 hc2 hc5 hf5 hcX0 hcX1 HbW2 HXW Hvo Hvn HbW
     generalize W.drew = W1 at hb hX hvo hvn hbw hBW1 hkl1 ⊢
     have hkl := hkl1
     have hBW := hBW1
     have hAW : hunk_Build.At w0.heap.size b kp W1 c out now (.slice Aa ah.length ca) := ⟨vo, _, hb, hvo, hvn⟩
     have HE := Aside0.mk (hunk_Build.end_calls k w0 b kp c out now x.f1 A cx (.slice Aa ah.length ca) r1 r2 r3 W1 hBb hkb hkl hAW hCx hcx hbw (by omega) (by omega) (by omega) (by omega) Hsd.out)
     have HX := Aside0.mk hX
     have hcX1 : W1.cell? ⟨w.heap.size, 1, none⟩ = some (.slice A x.f1.length cx) := (blk_cell hX 1).trans rfl
     clear hAW hb hvo hvn hX
     go_wp2_with (go_at_call 44; refine HE.out.mono ?_; rintro e w5 ⟨rfl, hA5, hB5, hk5⟩; have hX5 := (hk5 _ hkX).trans HX.out; have hcX5 : w5.cell? ⟨w.heap.size, 1, none⟩ = some (.slice A x.f1.length cx) := (blk_cell hX5 1).trans rfl; obtain ⟨vo5, vn5, hb5⟩ := hA5.blk; have hc55 := blk_cell hb5 5; have hf55 := blk_frozen hb5 5; have HA5 := Aside0.mk hA5; have HB5 := Aside0.mk hB5; clear hA5 hB5 hk5 hX5 hb5)
     go_end0
     refine ⟨rfl, ?_, (hBW.trans HB5.out).setCell hBb _⟩
     rw [← HT.out, ← Hh.out]
     exact ⟨A, cx, HA5.out.free.setva _, hCx, hcx⟩
    | false =>
     have hq' : 2 * c < x.f1.length := hq.resolve_left (by decide)
     obtain ⟨c2, hc2e⟩ : ∃ c2 : Nat, c2 = 2 * c := ⟨_, rfl⟩
     have HC2 : Aside0 (wrap64 (2 * (c : Int)) = (c2 : Int)) := ⟨by unfold wrap64; omega⟩
     have hgt : decide (c2 < x.f1.length) = true := decide_eq_true (by omega)
     clear hq hq' hc2e
     subst ho
     go_enter Try.func43, Try.ntmps43
     go_wp2_with (first | (go_at_call 68; refine (hunk_changes.calls x.f0 A cx x.f1 false _ (Kd.C_below hCx0.out hbw10.out) hcx0.out (by unfold hunk_changes.f; rw [hd1])).mono ?_; rintro e W ⟨rfl, hbW⟩; obtain ⟨vo, vn, hb, hvo, hvn⟩ := hat0.out; obtain ⟨An, cn, rfl⟩ := Kd.R_slice hvn; have hbW2 := (hbW.block b (blk_lt hb)).trans hb; have hXW := (hbW.block _ (blk_lt hX0.out)).trans hX0.out; have hc2 : W.cell? ⟨b, 2, none⟩ = some (.slice An now.length cn) := (blk_cell hbW2 2).trans rfl; have hc0 : W.cell? ⟨b, 0, none⟩ = some (.int .i64 (c : Int)) := (blk_cell hbW2 0).trans rfl; have hc5 := blk_cell hbW2 5; have hf5 := blk_frozen hbW2 5; have hcX0 : W.cell? ⟨w.heap.size, 0, none⟩ = some (.int .i64 x.f0) := (blk_cell hXW 0).trans rfl; have hcX1 : W.cell? ⟨w.heap.size, 1, none⟩ = some (.slice A x.f1.length cx) := (blk_cell hXW 1).trans rfl; have HbW := Aside0.mk hbW; have HbW2 := Aside0.mk hbW2; have HXW := Aside0.mk hXW; have Hvo := Aside0.mk (Kd.R_below hvo hbW); have Hvn := Aside0.mk (Kd.R_below hvn hbW); clear hb hvo hvn hbW hbW2 hXW))
     go_wp2
     have hkl : ∀ k, kp k → k < W.heap.size := fun k hk => Nat.lt_of_lt_of_le (hkl0.out k hk) HbW.out.size
     have hBW : Below w0.heap.size w W := hB10.out.trans (HbW.out.mono hbw10.out.size)
     refine start_ (n := 13) (S := fun w' => w'.cell? ⟨b, 0, none⟩ = some (.int .i64 (c : Int)) ∧ w'.cell? ⟨w.heap.size, 1, none⟩ = some (.slice A x.f1.length cx)) (ds := []) (Sq.bl 13 0) (by kernel_rfl) rfl (by rfl) ⟨hc0, hcX1⟩ (fun hS => ?_)
     refine Sq.pu (v := ?_) (a' := ?_) 0 60 (Sq.bl 13 1) (by kernel_rfl) rfl rfl (fun _ _ _ h => h) (by rfl) ?_ ?_ ?_; rotate_left; (· intro w'; go_simp; with_reducible rfl); rotate_left; (· simp only [Act.put, List.setIfInBounds_toArray, List.set_cons_zero, List.set_cons_succ, i64_w, i32_w, HC2.out]; rfl)
     refine Sq.pu (v := ?_) (a' := ?_) 1 61 (Sq.bl 13 3) (by kernel_rfl) rfl rfl (fun _ _ _ h => h) (by rfl) ?_ ?_ ?_; rotate_left; (· intro w'; go_simp; with_reducible rfl); rotate_left; (· simp only [Act.put, List.setIfInBounds_toArray, List.set_cons_zero, List.set_cons_succ, i64_w, i32_w, HC2.out]; rfl)
     refine Sq.pu (v := ?_) (a' := ?_) 2 62 (Sq.bl 13 7) (by kernel_rfl) rfl rfl (fun _ _ _ h => h) (by rfl) ?_ ?_ ?_; rotate_left; (· intro w'; go_simp; with_reducible rfl); rotate_left; (· simp only [Act.put, List.setIfInBounds_toArray, List.set_cons_zero, List.set_cons_succ, i64_w, i32_w, HC2.out]; rfl)
     refine Sq.pu (v := ?_) (a' := ?_) 5 65 (Sq.bl 13 39) (by kernel_rfl) rfl rfl (fun _ _ _ h => h) (by rfl) ?_ ?_ ?_; rotate_left; (· intro w'; go_simp; with_reducible rfl); rotate_left; (· simp only [Act.put, List.setIfInBounds_toArray, List.set_cons_zero, List.set_cons_succ, i64_w, i32_w, HC2.out]; rfl)
     refine Sq.pu (v := ?_) (a' := ?_) 6 66 (Sq.bl 13 103) (by kernel_rfl) rfl rfl (fun _ _ _ h => h) (by rfl) ?_ ?_ ?_; rotate_left; (· intro w'; go_simp; with_reducible rfl); rotate_left; (· simp only [Act.put, List.setIfInBounds_toArray, List.set_cons_zero, List.set_cons_succ, i64_w, i32_w, HC2.out]; rfl)
     refine Sq.pu (v := ?_) (a' := ?_) 7 67 (Sq.bl 13 231) (by kernel_rfl) rfl rfl (fun _ _ _ h => h) (by rfl) ?_ ?_ ?_; rotate_left; (· intro w'; go_simp; with_reducible rfl); rotate_left; (· simp only [Act.put, List.setIfInBounds_toArray, List.set_cons_zero, List.set_cons_succ, i64_w, i32_w, HC2.out]; rfl)
     refine take_ (i := 3) (N := some 63) (v := ?_) (a' := ?_) (Sq.bl 13 239) rfl rfl (by kernel_rfl) (fun _ _ _ h => h) (Or.inl ⟨by rfl, ?_⟩) hS ?_ ?_; rotate_left; (· rintro w' ⟨s0, s1⟩; go_simp; with_reducible rfl); rotate_left; (· simp only [Act.put, List.setIfInBounds_toArray, List.set_cons_zero, List.set_cons_succ, i64_w, i32_w, HC2.out]; rfl)
     refine Sq.pu (v := ?_) (a' := ?_) 4 64 (Sq.bl 13 255) (by kernel_rfl) rfl rfl (fun _ _ _ h => h) (by rfl) ?_ ?_ ?_; rotate_left; (· intro w'; go_simp; with_reducible rfl); rotate_left; (· simp only [Act.put, List.setIfInBounds_toArray, List.set_cons_zero, List.set_cons_succ, i64_w, i32_w, HC2.out]; rfl)
     refine take_ (i := 8) (N := some 68) (v := ?_) (a' := ?_) (Sq.bl 13 511) rfl rfl (by kernel_rfl) (fun _ _ _ h => h) (Or.inl ⟨by rfl, ?_⟩) hS ?_ ?_; rotate_left; (· rintro w' ⟨s0, s1⟩; go_simp; with_reducible rfl); rotate_left; (· simp only [Act.put, List.setIfInBounds_toArray, List.set_cons_zero, List.set_cons_succ, i64_w, i32_w, HC2.out]; rfl)
     refine Sq.pu (v := ?_) (a' := ?_) 9 69 (Sq.bl 13 1023) (by kernel_rfl) rfl rfl (fun _ _ _ h => h) (by rfl) ?_ ?_ ?_; rotate_left; (· intro w'; go_simp; with_reducible rfl); rotate_left; (· simp only [Act.put, List.setIfInBounds_toArray, List.set_cons_zero, List.set_cons_succ, i64_w, i32_w, HC2.out]; rfl)
     refine Sq.pu (v := ?_) (a' := ?_) 10 70 (Sq.bl 13 2047) (by kernel_rfl) rfl rfl (fun _ _ _ h => h) (by rfl) ?_ ?_ ?_; rotate_left; (· intro w'; go_simp; with_reducible rfl); rotate_left; (· simp only [Act.put, List.setIfInBounds_toArray, List.set_cons_zero, List.set_cons_succ, i64_w, i32_w, HC2.out]; rfl)
     refine Sq.pu (v := ?_) (a' := ?_) 11 71 (Sq.bl 13 4095) (by kernel_rfl) rfl rfl (fun _ _ _ h => h) (by rfl) ?_ ?_ ?_; rotate_left; (· intro w'; go_simp; with_reducible rfl); rotate_left; (· simp only [Act.put, List.setIfInBounds_toArray, List.set_cons_zero, List.set_cons_succ, i64_w, i32_w, HC2.out]; rfl)
     refine Sq.pu (v := ?_) (a' := ?_) 12 59 (Sq.bl 13 8191) (by kernel_rfl) rfl rfl (fun _ _ _ h => h) (by rfl) ?_ ?_ ?_; rotate_left; (· intro w'; go_simp; with_reducible rfl); rotate_left; (· simp only [Act.put, List.setIfInBounds_toArray, List.set_cons_zero, List.set_cons_succ, i64_w, i32_w, HC2.out]; rfl)
     refine done_ (by kernel_rfl) ?_
     have hb := blk_drew HbW2.out
     have hX := blk_drew HXW.out
     have hvo := Kd.R_drew Hvo.out
     have hvn := Kd.R_drew Hvn.out
     have hbw := (hbw0.out.trans hBW).drew
     have hBW1 := hBW.drew
     have hkl1 : ∀ k, kp k → k < W.drew.heap.size := hkl
     have hCx := hCx0.out
     have hcx := hcx0.out
     have hkb := hkb0.out
     have hkX := hkX0.out
     clear hkl hBW hc0 hc2 hc5 hf5 hcX0 hcX1 HbW2 HXW Hvo Hvn HbW
     generalize W.drew = W1 at hb hX hvo hvn hbw hBW1 hkl1 ⊢
     have hkl := hkl1
     have hBW := hBW1
     have hAW : hunk_Build.At w0.heap.size b kp W1 c out now (.slice Aa ah.length ca) := ⟨vo, _, hb, hvo, hvn⟩
     have HE := Aside0.mk (hunk_Build.end_calls k w0 b kp c out now x.f1 A cx (.slice Aa ah.length ca) r1 r2 r3 W1 hBb hkb hkl hAW hCx hcx hbw (by omega) (by omega) (by omega) (by omega) Hsd.out)
     have HX := Aside0.mk hX
     have hcX1 : W1.cell? ⟨w.heap.size, 1, none⟩ = some (.slice A x.f1.length cx) := (blk_cell hX 1).trans rfl
     clear hAW hb hvo hvn hX
     go_wp2_with (go_at_call 44; refine HE.out.mono ?_; rintro e w5 ⟨rfl, hA5, hB5, hk5⟩; have hX5 := (hk5 _ hkX).trans HX.out; have hcX5 : w5.cell? ⟨w.heap.size, 1, none⟩ = some (.slice A x.f1.length cx) := (blk_cell hX5 1).trans rfl; obtain ⟨vo5, vn5, hb5⟩ := hA5.blk; have hc55 := blk_cell hb5 5; have hf55 := blk_frozen hb5 5; have HA5 := Aside0.mk hA5; have HB5 := Aside0.mk hB5; clear hA5 hB5 hk5 hX5 hb5)
     go_end0
     refine ⟨rfl, ?_, (hBW.trans HB5.out).setCell hBb _⟩
     rw [← HT.out, ← Hh.out]
     exact ⟨A, cx, HA5.out.free.setva _, hCx, hcx⟩
   ·rw [if_neg hq] at hT
    have HT := Aside0.mk (Option.some.inj hT)
    have hl : last = false := by
     cases last with
     | true => exact absurd (.inl rfl) hq
     | false => rfl
    subst hl
    obtain ⟨c2, hc2e⟩ : ∃ c2 : Nat, c2 = 2 * c := ⟨_, rfl⟩
    have HC2 : Aside0 (wrap64 (2 * (c : Int)) = (c2 : Int)) := ⟨by unfold wrap64; omega⟩
    have hgt : decide (c2 < x.f1.length) = false := decide_eq_false (fun h => hq (.inr (by omega)))
    have Hd := Aside0.mk hd
    clear hT hd hn hq hc2e
    subst ho
    go_enter Try.func43, Try.ntmps43
    go_wp2_with (first | (go_at_call 68; refine (hunk_changes.calls x.f0 A cx x.f1 false _ (Kd.C_below hCx0.out hbw10.out) hcx0.out (by unfold hunk_changes.f; rw [hd1])).mono ?_; rintro e W ⟨rfl, hbW⟩; obtain ⟨vo, vn, hb, hvo, hvn⟩ := hat0.out; obtain ⟨An, cn, rfl⟩ := Kd.R_slice hvn; have hbW2 := (hbW.block b (blk_lt hb)).trans hb; have hXW := (hbW.block _ (blk_lt hX0.out)).trans hX0.out; have hc2 : W.cell? ⟨b, 2, none⟩ = some (.slice An now.length cn) := (blk_cell hbW2 2).trans rfl; have hc0 : W.cell? ⟨b, 0, none⟩ = some (.int .i64 (c : Int)) := (blk_cell hbW2 0).trans rfl; have hc5 := blk_cell hbW2 5; have hf5 := blk_frozen hbW2 5; have hcX0 : W.cell? ⟨w.heap.size, 0, none⟩ = some (.int .i64 x.f0) := (blk_cell hXW 0).trans rfl; have hcX1 : W.cell? ⟨w.heap.size, 1, none⟩ = some (.slice A x.f1.length cx) := (blk_cell hXW 1).trans rfl; have HbW := Aside0.mk hbW; have HbW2 := Aside0.mk hbW2; have HXW := Aside0.mk hXW; have Hvo := Aside0.mk (Kd.R_below hvo hbW); have Hvn := Aside0.mk (Kd.R_below hvn hbW); clear hb hvo hvn hbW hbW2 hXW))
    go_wp2
    have hkl : ∀ k, kp k → k < W.heap.size := fun k hk => Nat.lt_of_lt_of_le (hkl0.out k hk) HbW.out.size
    have hBW : Below w0.heap.size w W := hB10.out.trans (HbW.out.mono hbw10.out.size)
    refine start_ (n := 13) (S := fun w' => w'.cell? ⟨b, 0, none⟩ = some (.int .i64 (c : Int)) ∧ w'.cell? ⟨w.heap.size, 1, none⟩ = some (.slice A x.f1.length cx)) (ds := []) (Sq.bl 13 0) (by kernel_rfl) rfl (by rfl) ⟨hc0, hcX1⟩ (fun hS => ?_)
    refine Sq.pu (v := ?_) (a' := ?_) 0 60 (Sq.bl 13 1) (by kernel_rfl) rfl rfl (fun _ _ _ h => h) (by rfl) ?_ ?_ ?_; rotate_left; (· intro w'; go_simp; with_reducible rfl); rotate_left; (· simp only [Act.put, List.setIfInBounds_toArray, List.set_cons_zero, List.set_cons_succ, i64_w, i32_w, HC2.out]; rfl)
    refine Sq.pu (v := ?_) (a' := ?_) 1 61 (Sq.bl 13 3) (by kernel_rfl) rfl rfl (fun _ _ _ h => h) (by rfl) ?_ ?_ ?_; rotate_left; (· intro w'; go_simp; with_reducible rfl); rotate_left; (· simp only [Act.put, List.setIfInBounds_toArray, List.set_cons_zero, List.set_cons_succ, i64_w, i32_w, HC2.out]; rfl)
    refine Sq.pu (v := ?_) (a' := ?_) 2 62 (Sq.bl 13 7) (by kernel_rfl) rfl rfl (fun _ _ _ h => h) (by rfl) ?_ ?_ ?_; rotate_left; (· intro w'; go_simp; with_reducible rfl); rotate_left; (· simp only [Act.put, List.setIfInBounds_toArray, List.set_cons_zero, List.set_cons_succ, i64_w, i32_w, HC2.out]; rfl)
    refine Sq.pu (v := ?_) (a' := ?_) 5 65 (Sq.bl 13 39) (by kernel_rfl) rfl rfl (fun _ _ _ h => h) (by rfl) ?_ ?_ ?_; rotate_left; (· intro w'; go_simp; with_reducible rfl); rotate_left; (· simp only [Act.put, List.setIfInBounds_toArray, List.set_cons_zero, List.set_cons_succ, i64_w, i32_w, HC2.out]; rfl)
    refine Sq.pu (v := ?_) (a' := ?_) 6 66 (Sq.bl 13 103) (by kernel_rfl) rfl rfl (fun _ _ _ h => h) (by rfl) ?_ ?_ ?_; rotate_left; (· intro w'; go_simp; with_reducible rfl); rotate_left; (· simp only [Act.put, List.setIfInBounds_toArray, List.set_cons_zero, List.set_cons_succ, i64_w, i32_w, HC2.out]; rfl)
    refine Sq.pu (v := ?_) (a' := ?_) 7 67 (Sq.bl 13 231) (by kernel_rfl) rfl rfl (fun _ _ _ h => h) (by rfl) ?_ ?_ ?_; rotate_left; (· intro w'; go_simp; with_reducible rfl); rotate_left; (· simp only [Act.put, List.setIfInBounds_toArray, List.set_cons_zero, List.set_cons_succ, i64_w, i32_w, HC2.out]; rfl)
    refine take_ (i := 3) (N := some 63) (v := ?_) (a' := ?_) (Sq.bl 13 239) rfl rfl (by kernel_rfl) (fun _ _ _ h => h) (Or.inl ⟨by rfl, ?_⟩) hS ?_ ?_; rotate_left; (· rintro w' ⟨s0, s1⟩; go_simp; with_reducible rfl); rotate_left; (· simp only [Act.put, List.setIfInBounds_toArray, List.set_cons_zero, List.set_cons_succ, i64_w, i32_w, HC2.out]; rfl)
    refine Sq.pu (v := ?_) (a' := ?_) 4 64 (Sq.bl 13 255) (by kernel_rfl) rfl rfl (fun _ _ _ h => h) (by rfl) ?_ ?_ ?_; rotate_left; (· intro w'; go_simp; with_reducible rfl); rotate_left; (· simp only [Act.put, List.setIfInBounds_toArray, List.set_cons_zero, List.set_cons_succ, i64_w, i32_w, HC2.out]; rfl)
    refine take_ (i := 8) (N := some 68) (v := ?_) (a' := ?_) (Sq.bl 13 511) rfl rfl (by kernel_rfl) (fun _ _ _ h => h) (Or.inl ⟨by rfl, ?_⟩) hS ?_ ?_; rotate_left; (· rintro w' ⟨s0, s1⟩; go_simp; with_reducible rfl); rotate_left; (· simp only [Act.put, List.setIfInBounds_toArray, List.set_cons_zero, List.set_cons_succ, i64_w, i32_w, HC2.out]; rfl)
    refine Sq.pu (v := ?_) (a' := ?_) 9 69 (Sq.bl 13 1023) (by kernel_rfl) rfl rfl (fun _ _ _ h => h) (by rfl) ?_ ?_ ?_; rotate_left; (· intro w'; go_simp; with_reducible rfl); rotate_left; (· simp only [Act.put, List.setIfInBounds_toArray, List.set_cons_zero, List.set_cons_succ, i64_w, i32_w, HC2.out]; rfl)
    refine Sq.pu (v := ?_) (a' := ?_) 10 70 (Sq.bl 13 2047) (by kernel_rfl) rfl rfl (fun _ _ _ h => h) (by rfl) ?_ ?_ ?_; rotate_left; (· intro w'; go_simp; with_reducible rfl); rotate_left; (· simp only [Act.put, List.setIfInBounds_toArray, List.set_cons_zero, List.set_cons_succ, i64_w, i32_w, HC2.out]; rfl)
    refine Sq.pu (v := ?_) (a' := ?_) 11 71 (Sq.bl 13 4095) (by kernel_rfl) rfl rfl (fun _ _ _ h => h) (by rfl) ?_ ?_ ?_; rotate_left; (· intro w'; go_simp; with_reducible rfl); rotate_left; (· simp only [Act.put, List.setIfInBounds_toArray, List.set_cons_zero, List.set_cons_succ, i64_w, i32_w, HC2.out]; rfl)
    refine Sq.pu (v := ?_) (a' := ?_) 12 59 (Sq.bl 13 8191) (by kernel_rfl) rfl rfl (fun _ _ _ h => h) (by rfl) ?_ ?_ ?_; rotate_left; (· intro w'; go_simp; with_reducible rfl); rotate_left; (· simp only [Act.put, List.setIfInBounds_toArray, List.set_cons_zero, List.set_cons_succ, i64_w, i32_w, HC2.out]; rfl)
    refine done_ (by kernel_rfl) ?_
    have hb := blk_drew HbW2.out
    have hX := blk_drew HXW.out
    have hvo := Kd.R_drew Hvo.out
    have hvn := Kd.R_drew Hvn.out
    have hbw := (hbw0.out.trans hBW).drew
    have hBW1 := hBW.drew
    have hkl1 : ∀ k, kp k → k < W.drew.heap.size := hkl
    have hCx := hCx0.out
    have hcx := hcx0.out
    have hkb := hkb0.out
    have hkX := hkX0.out
    clear hkl hBW hc0 hc2 hc5 hf5 hcX0 hcX1 HbW2 HXW Hvo Hvn HbW
    generalize W.drew = W1 at hb hX hvo hvn hbw hBW1 hkl1 ⊢
    have hkl := hkl1
    have hBW := hBW1
    go_wp2
    refine start_ (n := 16) (S := fun w' => w'.cell? ⟨b, 2, none⟩ = some (.slice An now.length cn) ∧ w'.cell? ⟨w.heap.size, 0, none⟩ = some (.int .i64 x.f0) ∧ w'.cell? ⟨w.heap.size, 1, none⟩ = some (.slice A x.f1.length cx) ∧ w'.frozen? ⟨b, 2, none⟩ = false) (ds := [15]) (Sq.bl 16 0) (by kernel_rfl) rfl (by rfl) ⟨(blk_cell hb 2).trans rfl, (blk_cell hX 0).trans rfl, (blk_cell hX 1).trans rfl, blk_frozen hb 2⟩ (fun hS => ?_)
    refine Sq.pu (v := ?_) (a' := ?_) 0 6 (Sq.bl 16 1) (by kernel_rfl) rfl rfl (fun _ _ _ h => h) (by rfl) ?_ ?_ ?_; rotate_left; (· intro w'; go_simp; with_reducible rfl); rotate_left; (· simp only [Act.put,zp1,zp2,zp3,zp4,zp5]; rfl)
    refine Sq.pu (v := ?_) (a' := ?_) 1 7 (Sq.bl 16 3) (by kernel_rfl) rfl rfl (fun _ _ _ h => h) (by rfl) ?_ ?_ ?_; rotate_left; (· intro w'; go_simp; with_reducible rfl); rotate_left; (· simp only [Act.put,zp1,zp2,zp3,zp4,zp5]; rfl)
    refine Sq.pu (v := ?_) (a' := ?_) 2 8 (Sq.bl 16 7) (by kernel_rfl) rfl rfl (fun _ _ _ h => h) (by rfl) ?_ ?_ ?_; rotate_left; (· intro w'; go_simp; with_reducible rfl); rotate_left; (· simp only [Act.put,zp1,zp2,zp3,zp4,zp5]; rfl)
    refine Sq.pu (v := ?_) (a' := ?_) 3 9 (Sq.bl 16 15) (by kernel_rfl) rfl rfl (fun _ _ _ h => h) (by rfl) ?_ ?_ ?_; rotate_left; (· intro w'; go_simp; with_reducible rfl); rotate_left; (· simp only [Act.put,zp1,zp2,zp3,zp4,zp5]; rfl)
    refine Sq.pu (v := ?_) (a' := ?_) 5 11 (Sq.bl 16 47) (by kernel_rfl) rfl rfl (fun _ _ _ h => h) (by rfl) ?_ ?_ ?_; rotate_left; (· intro w'; go_simp; with_reducible rfl); rotate_left; (· simp only [Act.put,zp1,zp2,zp3,zp4,zp5]; rfl)
    refine Sq.pu (v := ?_) (a' := ?_) 7 13 (Sq.bl 16 175) (by kernel_rfl) rfl rfl (fun _ _ _ h => h) (by rfl) ?_ ?_ ?_; rotate_left; (· intro w'; go_simp; with_reducible rfl); rotate_left; (· simp only [Act.put,zp1,zp2,zp3,zp4,zp5]; rfl)
    refine take_ (i := 4) (N := some 10) (v := ?_) (a' := ?_) (Sq.bl 16 191) rfl rfl (by kernel_rfl) (fun _ _ _ h => h) (Or.inl ⟨by rfl, ?_⟩) hS ?_ ?_; rotate_left; (· rintro w' ⟨s0, s1, s2, s3⟩; go_simp; with_reducible rfl); rotate_left; (· simp only [Act.put,zp1,zp2,zp3,zp4,zp5]; rfl)
    refine take_ (i := 6) (N := some 12) (v := ?_) (a' := ?_) (Sq.bl 16 255) rfl rfl (by kernel_rfl) (fun _ _ _ h => h) (Or.inl ⟨by rfl, ?_⟩) hS ?_ ?_; rotate_left; (· rintro w' ⟨s0, s1, s2, s3⟩; go_simp; with_reducible rfl); rotate_left; (· simp only [Act.put,zp1,zp2,zp3,zp4,zp5]; rfl)
    refine take_ (i := 8) (N := some 14) (v := ?_) (a' := ?_) (Sq.bl 16 511) rfl rfl (by kernel_rfl) (fun _ _ _ h => h) (Or.inl ⟨by rfl, ?_⟩) hS ?_ ?_; rotate_left; (· rintro w' ⟨s0, s1, s2, s3⟩; go_simp; with_reducible rfl); rotate_left; (· simp only [Act.put,zp1,zp2,zp3,zp4,zp5]; rfl)
    refine one_ (i := 9) (N := some 15) (Sq.bl 16 1023) rfl rfl (by kernel_rfl) (by decide) (fun K hK => ?_)
    refine goes_ Try.func52 (by kernel_rfl) rfl #[.slice A x.f1.length cx] (by rfl) rfl rfl (by (try simp only [List.map_toArray, List.map_cons, List.map_nil]); first | done | rfl | skip) ?_
    refine (api_Line_52.made A cx x.f1 _ (Kd.C_below hCx (hbw.trans (Below.drew (Below.refl _ _)))) hcx (by omega)).mono ?_
    rintro e w2 ⟨v0, rfl, ho, hbel⟩
    obtain ⟨A3, c3, rfl⟩ := Kd.R_slice ho
    have hs2 : W1.heap.size ≤ w2.heap.size := hbel.size
    have hb2 := (hbel.block b (blk_lt hb)).trans hb
    have hX2 := (hbel.block _ (blk_lt hX)).trans hX
    refine ⟨_, rfl, hK.out _ _ ⟨(blk_cell hb2 2).trans rfl, (blk_cell hX2 0).trans rfl, (blk_cell hX2 1).trans rfl, blk_frozen hb2 2⟩ (fun hS => ?_)⟩
    clear hK K
    refine norm_ (a' := ?_) ?_ ?_
    rotate_left
    ·show Act.put _ (some 15) _ = _
     simp only [Act.put,zp1,zp2,zp3,zp4,zp5]
     rfl
    refine Sq.pu (v := ?_) (a' := ?_) 10 16 (Sq.bl 16 2047) (by kernel_rfl) rfl rfl (fun _ _ _ h => h) (by rfl) ?_ ?_ ?_; rotate_left; (· intro w'; go_simp; with_reducible rfl); rotate_left; (· simp only [Act.put,zp1,zp2,zp3,zp4,zp5]; rfl)
    refine one_ (i := 11) (N := some 17) (Sq.bl 16 4095) rfl rfl (by kernel_rfl) (by decide) (fun K hK => ?_)
    refine value_ (w1 := ?_) (v := ?_) (by rfl) rfl ?_ ?_
    rotate_left 2
    ·go_simp
     constructor
     ·rfl
     ·rfl
    have hb3 := blk_alloc hb2 (.cells #[.int .i64 x.f0, .slice A3 x.f1.length c3] 47)
    have hX3 := blk_alloc hX2 (.cells #[.int .i64 x.f0, .slice A3 x.f1.length c3] 47)
    refine hK.out _ _ ⟨(blk_cell hb3 2).trans rfl, (blk_cell hX3 0).trans rfl, (blk_cell hX3 1).trans rfl, blk_frozen hb3 2⟩ (fun hS => ?_)
    clear hK K
    refine norm_ (a' := ?_) ?_ ?_
    rotate_left
    ·show Act.put _ (some 17) _ = _
     simp only [Act.put,zp1,zp2,zp3,zp4,zp5]
     rfl
    refine one_ (i := 12) (N := some 18) (Sq.bl 16 8191) rfl rfl (by kernel_rfl) (by decide) (fun K hK => ?_)
    refine Kd.R_append_step k47 (w0 := W1) w0.heap.size (by rfl) (.tmp 10) (.tmp 17) 22 47 (.agg #[(.int .i64 0), (.slice none 0 0)]) 32 rfl Try.underlying22 info47 rfl (by decide) (by omega) (.slice An now.length cn) now (⟨x.f0, x.f1⟩ : S47) [.int .i64 x.f0, .slice A3 x.f1.length c3] (fun k => ¬ kp k ∧ some k ≠ vo.ownBlock) (fun k => W1.heap.size ≤ k ∧ k < w2.heap.size) rfl rfl ?aP ?aK ?aF ?aO ?aB ?aS ?aL ?_
    (case aP => exact k47_mkM _ _ _ (⟨x.f0, x.f1⟩ : S47) (Kd.R_lower (Kd.R_mono (Kd.R_bound ho) (fun k hk => ⟨hk.2.1, hk.2.2.1⟩)) (by have := hbw.size; have : W1.drew.heap.size = W1.heap.size := rfl; omega)))
    (case aK => exact fun k hk => ⟨⟨fun e => by have := hkl k e; omega, fun e => by have := Kd.R_lt hvo k e.symm; omega⟩, fun e => by have := Kd.R_lt hvn k e.symm; omega⟩)
    (case aF => exact fun k hk => ⟨fun e => by have := hkl k e; omega, fun e => by have := Kd.R_lt hvo k e.symm; omega⟩)
    (case aO => exact Kd.R_below hvn (below_then (below_drew (Below.refl _ _)) (Nat.le_refl _) hbel))
    (case aB => exact (below_then (below_drew (Below.refl _ _)) (Nat.le_refl _) hbel).mono hbw.size)
    (case aS => exact (by have := hbw.size; omega))
    (case aL => omega)
    intro v4 w4 ho4 hbel4 hg4 hat4
    obtain ⟨A4, c4, rfl⟩ := Kd.R_slice ho4
    have hneb : some b ≠ (Value.slice An now.length cn).ownBlock := Kd.R_ne hvn hb (by decide)
    have hb4 := (hg4.block b (blk_lt hb2) hneb).trans hb2
    have hX4 := (hg4.block _ (blk_lt hX2) (fun e => (hvn.1 _ e.symm).1 hkX)).trans hX2
    refine hK.out _ _ ⟨(blk_cell hb4 2).trans rfl, (blk_cell hX4 0).trans rfl, (blk_cell hX4 1).trans rfl, blk_frozen hb4 2⟩ (fun hS => ?_)
    have hbel2 : Below W1.heap.size W1 w2 := below_then (below_drew (Below.refl _ _)) (Nat.le_refl _) hbel
    have hdone := hunk_Build.put_done hBb hkb hkl hvo hvn hbel2 hb4 ho4 hbel4 hg4 hat4
    rw [List.length_append] at hdone
    clear hK K
    refine norm_ (a' := ?_) ?_ ?_
    rotate_left
    ·show Act.put _ (some 18) _ = _
     simp only [Act.put,zp1,zp2,zp3,zp4,zp5]
     rfl
    refine Sq.pu (v := ?_) (a' := ?_) 13 19 (Sq.bl 16 16383) (by kernel_rfl) rfl rfl (fun _ _ _ h => h) (by rfl) ?_ ?_ ?_; rotate_left; (· intro w'; go_simp; with_reducible rfl); rotate_left; (· simp only [Act.put,zp1,zp2,zp3,zp4,zp5]; rfl)
    refine Sq.pu (v := ?_) (a' := ?_) 14 20 (Sq.bl 16 32767) (by kernel_rfl) rfl rfl (fun _ _ _ h => h) (by rfl) ?_ ?_ ?_; rotate_left; (· intro w'; go_simp; with_reducible rfl); rotate_left; (· simp only [Act.put,zp1,zp2,zp3,zp4,zp5]; rfl)
    refine last_ (i := 15) (N := none) (Sq.bl 16 65535) rfl rfl (by kernel_rfl) (by decide) (fun K hK => ?_)
    refine skip_ (w1 := ?_) (by rfl) rfl ?_ ?_
    rotate_left
    ·go_simp
     rfl
    refine hK.out _ _ ?_
    clear hK K
    refine done_ (by kernel_rfl) ?_
    obtain ⟨hA6, hB6, _⟩ := hdone
    try simp only [List.length_singleton] at hA6 hB6
    have HA6 := Aside0.mk hA6
    have HB6 := Aside0.mk (hBW.trans hB6)
    clear hA6 hB6 ho4 hbel4 hg4 hat4 hb4 hneb hb3 hb2 hs2 hbel hbel2 ho hvo hvn hb hS hX hX2 hX3 hX4
    generalize w4.setCell ⟨b, 2, none⟩ (.slice A4 (now.length + 1) c4) = w6 at HA6 HB6 ⊢
    try go_wp2
    go_end0
    refine ⟨rfl, ?_, HB6.out⟩
    rw [← HT.out]
    exact ⟨Aa, ca, HA6.out.free, hCa0.out, hca0.out⟩
 ·rw [if_neg hd] at hT
  have hd1 : (x.f0 != 1) = true := by simp [hd]
  have Hd := Aside0.mk hd
  by_cases hn : now.length = 0
  ·rw [if_pos hn] at hT
   have HT := Aside0.mk (Option.some.inj hT)
   have hn' : (((now.length : Nat) : Int) == 0) = true := beq_iff_eq.mpr (by omega)
   clear hT hd hn
   subst ho
   go_enter Try.func43, Try.ntmps43
   go_wp2_with (first | (go_at_call 68; refine (hunk_changes.calls x.f0 A cx x.f1 true _ (Kd.C_below hCx0.out hbw10.out) hcx0.out (by unfold hunk_changes.f; rw [hd1])).mono ?_; rintro e W ⟨rfl, hbW⟩; obtain ⟨vo, vn, hb, hvo, hvn⟩ := hat0.out; obtain ⟨An, cn, rfl⟩ := Kd.R_slice hvn; have hbW2 := (hbW.block b (blk_lt hb)).trans hb; have hXW := (hbW.block _ (blk_lt hX0.out)).trans hX0.out; have hc2 : W.cell? ⟨b, 2, none⟩ = some (.slice An now.length cn) := (blk_cell hbW2 2).trans rfl; have hc0 : W.cell? ⟨b, 0, none⟩ = some (.int .i64 (c : Int)) := (blk_cell hbW2 0).trans rfl; have hc5 := blk_cell hbW2 5; have hf5 := blk_frozen hbW2 5; have hcX0 : W.cell? ⟨w.heap.size, 0, none⟩ = some (.int .i64 x.f0) := (blk_cell hXW 0).trans rfl; have hcX1 : W.cell? ⟨w.heap.size, 1, none⟩ = some (.slice A x.f1.length cx) := (blk_cell hXW 1).trans rfl; have HbW := Aside0.mk hbW; have HbW2 := Aside0.mk hbW2; have HXW := Aside0.mk hXW; have Hvo := Aside0.mk (Kd.R_below hvo hbW); have Hvn := Aside0.mk (Kd.R_below hvn hbW); clear hb hvo hvn hbW hbW2 hXW) | (go_at_call 69; refine (hunk_Build.begin_calls w0 b kp c out now ah Aa ca W hBb hkb0.out (fun k hk => Nat.lt_of_lt_of_le (hkl0.out k hk) HbW.out.size) ⟨vo, _, HbW2.out, Hvo.out, Hvn.out⟩ hCa0.out hca0.out (hbw0.out.trans (hB10.out.trans (HbW.out.mono hbw10.out.size))) (by omega) (by omega) (by omega)).mono ?_; rintro e w3 ⟨rfl, hA3, hB3, hk3⟩; have HA3 := Aside0.mk hA3; have HB3 := Aside0.mk hB3; have HX3 := Aside0.mk ((hk3 _ hkX0.out).trans HXW.out); have Hk3 := Aside0.mk hk3; clear hA3 hB3 hk3))
   try go_wp2
   have hkl : ∀ k, kp k → k < W.heap.size := fun k hk => Nat.lt_of_lt_of_le (hkl0.out k hk) HbW.out.size
   have hBW : Below w0.heap.size w W := hB10.out.trans (HbW.out.mono hbw10.out.size)
   have hBW := hBW.trans HB3.out
   have hkl : ∀ k, kp k → k < w3.heap.size := fun k hk => Nat.lt_of_lt_of_le (hkl k hk) HB3.out.size
   have hA3 := HA3.out
   have hnl : (now ++ hunk_Build.lead c ah).length ≤ 100000001 := by
    unfold hunk_Build.lead
    split <;> simp <;> omega
   clear HA3 Hvn Hvo HbW2 hc0 hc2 hc5 hf5 hcX0 hcX1 hn'
   generalize now ++ hunk_Build.lead c ah = now at hA3 HT hnl ⊢
   obtain ⟨vo, vn, hb, hvo, hvn⟩ := hA3
   obtain ⟨An, cn, rfl⟩ := Kd.R_slice hvn
   have hX := HX3.out
   have hbw := hbw0.out.trans hBW
   have hCx := hCx0.out
   have hcx := hcx0.out
   have hkb := hkb0.out
   have hkX := hkX0.out
   refine start_ (n := 16) (S := fun w' => w'.cell? ⟨b, 2, none⟩ = some (.slice An now.length cn) ∧ w'.cell? ⟨w.heap.size, 0, none⟩ = some (.int .i64 x.f0) ∧ w'.cell? ⟨w.heap.size, 1, none⟩ = some (.slice A x.f1.length cx) ∧ w'.frozen? ⟨b, 2, none⟩ = false) (ds := [15]) (Sq.bl 16 0) (by kernel_rfl) rfl (by rfl) ⟨(blk_cell hb 2).trans rfl, (blk_cell hX 0).trans rfl, (blk_cell hX 1).trans rfl, blk_frozen hb 2⟩ (fun hS => ?_)
   refine Sq.pu (v := ?_) (a' := ?_) 0 32 (Sq.bl 16 1) (by kernel_rfl) rfl rfl (fun _ _ _ h => h) (by rfl) ?_ ?_ ?_; rotate_left; (· intro w'; go_simp; with_reducible rfl); rotate_left; (· simp only [Act.put,zp1,zp2,zp3,zp4,zp5]; rfl)
   refine Sq.pu (v := ?_) (a' := ?_) 1 33 (Sq.bl 16 3) (by kernel_rfl) rfl rfl (fun _ _ _ h => h) (by rfl) ?_ ?_ ?_; rotate_left; (· intro w'; go_simp; with_reducible rfl); rotate_left; (· simp only [Act.put,zp1,zp2,zp3,zp4,zp5]; rfl)
   refine Sq.pu (v := ?_) (a' := ?_) 2 34 (Sq.bl 16 7) (by kernel_rfl) rfl rfl (fun _ _ _ h => h) (by rfl) ?_ ?_ ?_; rotate_left; (· intro w'; go_simp; with_reducible rfl); rotate_left; (· simp only [Act.put,zp1,zp2,zp3,zp4,zp5]; rfl)
   refine Sq.pu (v := ?_) (a' := ?_) 3 35 (Sq.bl 16 15) (by kernel_rfl) rfl rfl (fun _ _ _ h => h) (by rfl) ?_ ?_ ?_; rotate_left; (· intro w'; go_simp; with_reducible rfl); rotate_left; (· simp only [Act.put,zp1,zp2,zp3,zp4,zp5]; rfl)
   refine Sq.pu (v := ?_) (a' := ?_) 5 37 (Sq.bl 16 47) (by kernel_rfl) rfl rfl (fun _ _ _ h => h) (by rfl) ?_ ?_ ?_; rotate_left; (· intro w'; go_simp; with_reducible rfl); rotate_left; (· simp only [Act.put,zp1,zp2,zp3,zp4,zp5]; rfl)
   refine Sq.pu (v := ?_) (a' := ?_) 7 39 (Sq.bl 16 175) (by kernel_rfl) rfl rfl (fun _ _ _ h => h) (by rfl) ?_ ?_ ?_; rotate_left; (· intro w'; go_simp; with_reducible rfl); rotate_left; (· simp only [Act.put,zp1,zp2,zp3,zp4,zp5]; rfl)
   refine take_ (i := 4) (N := some 36) (v := ?_) (a' := ?_) (Sq.bl 16 191) rfl rfl (by kernel_rfl) (fun _ _ _ h => h) (Or.inl ⟨by rfl, ?_⟩) hS ?_ ?_; rotate_left; (· rintro w' ⟨s0, s1, s2, s3⟩; go_simp; with_reducible rfl); rotate_left; (· simp only [Act.put,zp1,zp2,zp3,zp4,zp5]; rfl)
   refine take_ (i := 6) (N := some 38) (v := ?_) (a' := ?_) (Sq.bl 16 255) rfl rfl (by kernel_rfl) (fun _ _ _ h => h) (Or.inl ⟨by rfl, ?_⟩) hS ?_ ?_; rotate_left; (· rintro w' ⟨s0, s1, s2, s3⟩; go_simp; with_reducible rfl); rotate_left; (· simp only [Act.put,zp1,zp2,zp3,zp4,zp5]; rfl)
   refine take_ (i := 8) (N := some 40) (v := ?_) (a' := ?_) (Sq.bl 16 511) rfl rfl (by kernel_rfl) (fun _ _ _ h => h) (Or.inl ⟨by rfl, ?_⟩) hS ?_ ?_; rotate_left; (· rintro w' ⟨s0, s1, s2, s3⟩; go_simp; with_reducible rfl); rotate_left; (· simp only [Act.put,zp1,zp2,zp3,zp4,zp5]; rfl)
   refine one_ (i := 9) (N := some 41) (Sq.bl 16 1023) rfl rfl (by kernel_rfl) (by decide) (fun K hK => ?_)
   refine goes_ Try.func52 (by kernel_rfl) rfl #[.slice A x.f1.length cx] (by rfl) rfl rfl (by (try simp only [List.map_toArray, List.map_cons, List.map_nil]); first | done | rfl | skip) ?_
   refine (api_Line_52.made A cx x.f1 _ (Kd.C_below hCx (hbw.trans (Below.drew (Below.refl _ _)))) hcx (by omega)).mono ?_
   rintro e w2 ⟨v0, rfl, ho, hbel⟩
   obtain ⟨A3, c3, rfl⟩ := Kd.R_slice ho
   have hs2 : w3.heap.size ≤ w2.heap.size := hbel.size
   have hb2 := (hbel.block b (blk_lt hb)).trans hb
   have hX2 := (hbel.block _ (blk_lt hX)).trans hX
   refine ⟨_, rfl, hK.out _ _ ⟨(blk_cell hb2 2).trans rfl, (blk_cell hX2 0).trans rfl, (blk_cell hX2 1).trans rfl, blk_frozen hb2 2⟩ (fun hS => ?_)⟩
   clear hK K
   refine norm_ (a' := ?_) ?_ ?_
   rotate_left
   ·show Act.put _ (some 41) _ = _
    simp only [Act.put,zp1,zp2,zp3,zp4,zp5]
    rfl
   refine Sq.pu (v := ?_) (a' := ?_) 10 42 (Sq.bl 16 2047) (by kernel_rfl) rfl rfl (fun _ _ _ h => h) (by rfl) ?_ ?_ ?_; rotate_left; (· intro w'; go_simp; with_reducible rfl); rotate_left; (· simp only [Act.put,zp1,zp2,zp3,zp4,zp5]; rfl)
   refine one_ (i := 11) (N := some 43) (Sq.bl 16 4095) rfl rfl (by kernel_rfl) (by decide) (fun K hK => ?_)
   refine value_ (w1 := ?_) (v := ?_) (by rfl) rfl ?_ ?_
   rotate_left 2
   ·go_simp
    constructor
    ·rfl
    ·rfl
   have hb3 := blk_alloc hb2 (.cells #[.int .i64 x.f0, .slice A3 x.f1.length c3] 47)
   have hX3 := blk_alloc hX2 (.cells #[.int .i64 x.f0, .slice A3 x.f1.length c3] 47)
   refine hK.out _ _ ⟨(blk_cell hb3 2).trans rfl, (blk_cell hX3 0).trans rfl, (blk_cell hX3 1).trans rfl, blk_frozen hb3 2⟩ (fun hS => ?_)
   clear hK K
   refine norm_ (a' := ?_) ?_ ?_
   rotate_left
   ·show Act.put _ (some 43) _ = _
    simp only [Act.put,zp1,zp2,zp3,zp4,zp5]
    rfl
   refine one_ (i := 12) (N := some 44) (Sq.bl 16 8191) rfl rfl (by kernel_rfl) (by decide) (fun K hK => ?_)
   refine Kd.R_append_step k47 (w0 := w3) w0.heap.size (by rfl) (.tmp 36) (.tmp 43) 22 47 (.agg #[(.int .i64 0), (.slice none 0 0)]) 32 rfl Try.underlying22 info47 rfl (by decide) (by omega) (.slice An now.length cn) now (⟨x.f0, x.f1⟩ : S47) [.int .i64 x.f0, .slice A3 x.f1.length c3] (fun k => ¬ kp k ∧ some k ≠ vo.ownBlock) (fun k => w3.heap.size ≤ k ∧ k < w2.heap.size) rfl rfl ?aP ?aK ?aF ?aO ?aB ?aS ?aL ?_
   (case aP => exact k47_mkM _ _ _ (⟨x.f0, x.f1⟩ : S47) (Kd.R_lower (Kd.R_mono (Kd.R_bound ho) (fun k hk => ⟨hk.2.1, hk.2.2.1⟩)) (by have := hbw.size; have : w3.drew.heap.size = w3.heap.size := rfl; omega)))
   (case aK => exact fun k hk => ⟨⟨fun e => by have := hkl k e; omega, fun e => by have := Kd.R_lt hvo k e.symm; omega⟩, fun e => by have := Kd.R_lt hvn k e.symm; omega⟩)
   (case aF => exact fun k hk => ⟨fun e => by have := hkl k e; omega, fun e => by have := Kd.R_lt hvo k e.symm; omega⟩)
   (case aO => exact Kd.R_below hvn (below_then (below_drew (Below.refl _ _)) (Nat.le_refl _) hbel))
   (case aB => exact (below_then (below_drew (Below.refl _ _)) (Nat.le_refl _) hbel).mono hbw.size)
   (case aS => exact (by have := hbw.size; omega))
   (case aL => omega)
   intro v4 w4 ho4 hbel4 hg4 hat4
   obtain ⟨A4, c4, rfl⟩ := Kd.R_slice ho4
   have hneb : some b ≠ (Value.slice An now.length cn).ownBlock := Kd.R_ne hvn hb (by decide)
   have hb4 := (hg4.block b (blk_lt hb2) hneb).trans hb2
   have hX4 := (hg4.block _ (blk_lt hX2) (fun e => (hvn.1 _ e.symm).1 hkX)).trans hX2
   refine hK.out _ _ ⟨(blk_cell hb4 2).trans rfl, (blk_cell hX4 0).trans rfl, (blk_cell hX4 1).trans rfl, blk_frozen hb4 2⟩ (fun hS => ?_)
   have hbel2 : Below w3.heap.size w3 w2 := below_then (below_drew (Below.refl _ _)) (Nat.le_refl _) hbel
   have hdone := hunk_Build.put_done hBb hkb hkl hvo hvn hbel2 hb4 ho4 hbel4 hg4 hat4
   rw [List.length_append] at hdone
   clear hK K
   refine norm_ (a' := ?_) ?_ ?_
   rotate_left
   ·show Act.put _ (some 44) _ = _
    simp only [Act.put,zp1,zp2,zp3,zp4,zp5]
    rfl
   refine Sq.pu (v := ?_) (a' := ?_) 13 45 (Sq.bl 16 16383) (by kernel_rfl) rfl rfl (fun _ _ _ h => h) (by rfl) ?_ ?_ ?_; rotate_left; (· intro w'; go_simp; with_reducible rfl); rotate_left; (· simp only [Act.put,zp1,zp2,zp3,zp4,zp5]; rfl)
   refine Sq.pu (v := ?_) (a' := ?_) 14 46 (Sq.bl 16 32767) (by kernel_rfl) rfl rfl (fun _ _ _ h => h) (by rfl) ?_ ?_ ?_; rotate_left; (· intro w'; go_simp; with_reducible rfl); rotate_left; (· simp only [Act.put,zp1,zp2,zp3,zp4,zp5]; rfl)
   refine last_ (i := 15) (N := none) (Sq.bl 16 65535) rfl rfl (by kernel_rfl) (by decide) (fun K hK => ?_)
   refine skip_ (w1 := ?_) (by rfl) rfl ?_ ?_
   rotate_left
   ·go_simp
    rfl
   refine hK.out _ _ ?_
   clear hK K
   refine done_ (by kernel_rfl) ?_
   obtain ⟨hA6, hB6, _⟩ := hdone
   try simp only [List.length_singleton] at hA6 hB6
   have HA6 := Aside0.mk hA6
   have HB6 := Aside0.mk (hBW.trans hB6)
   clear hA6 hB6 ho4 hbel4 hg4 hat4 hb4 hneb hb3 hb2 hs2 hbel hbel2 ho hvo hvn hb hS hX hX2 hX3 hX4
   generalize w4.setCell ⟨b, 2, none⟩ (.slice A4 (now.length + 1) c4) = w6 at HA6 HB6 ⊢
   try go_wp2
   go_end0
   refine ⟨rfl, ?_, HB6.out⟩
   rw [← HT.out]
   exact ⟨none, 0, HA6.out.free, ⟨rfl, Nat.zero_le _, fun h => absurd h (by simp)⟩, Nat.le_refl _⟩
  ·rw [if_neg hn] at hT
   have HT := Aside0.mk (Option.some.inj hT)
   have hn' : (((now.length : Nat) : Int) == 0) = false := beq_eq_false_iff_ne.mpr (by omega)
   clear hT hd hn
   subst ho
   go_enter Try.func43, Try.ntmps43
   go_wp2_with (first | (go_at_call 68; refine (hunk_changes.calls x.f0 A cx x.f1 true _ (Kd.C_below hCx0.out hbw10.out) hcx0.out (by unfold hunk_changes.f; rw [hd1])).mono ?_; rintro e W ⟨rfl, hbW⟩; obtain ⟨vo, vn, hb, hvo, hvn⟩ := hat0.out; obtain ⟨An, cn, rfl⟩ := Kd.R_slice hvn; have hbW2 := (hbW.block b (blk_lt hb)).trans hb; have hXW := (hbW.block _ (blk_lt hX0.out)).trans hX0.out; have hc2 : W.cell? ⟨b, 2, none⟩ = some (.slice An now.length cn) := (blk_cell hbW2 2).trans rfl; have hc0 : W.cell? ⟨b, 0, none⟩ = some (.int .i64 (c : Int)) := (blk_cell hbW2 0).trans rfl; have hc5 := blk_cell hbW2 5; have hf5 := blk_frozen hbW2 5; have hcX0 : W.cell? ⟨w.heap.size, 0, none⟩ = some (.int .i64 x.f0) := (blk_cell hXW 0).trans rfl; have hcX1 : W.cell? ⟨w.heap.size, 1, none⟩ = some (.slice A x.f1.length cx) := (blk_cell hXW 1).trans rfl; have HbW := Aside0.mk hbW; have HbW2 := Aside0.mk hbW2; have HXW := Aside0.mk hXW; have Hvo := Aside0.mk (Kd.R_below hvo hbW); have Hvn := Aside0.mk (Kd.R_below hvn hbW); clear hb hvo hvn hbW hbW2 hXW))
   try go_wp2
   have hkl : ∀ k, kp k → k < W.heap.size := fun k hk => Nat.lt_of_lt_of_le (hkl0.out k hk) HbW.out.size
   have hBW : Below w0.heap.size w W := hB10.out.trans (HbW.out.mono hbw10.out.size)
   have hb := HbW2.out
   have hX := HXW.out
   have hvo := Hvo.out
   have hvn := Hvn.out
   have hbw := hbw0.out.trans hBW
   have hCx := hCx0.out
   have hcx := hcx0.out
   have hkb := hkb0.out
   have hkX := hkX0.out
   refine start_ (n := 16) (S := fun w' => w'.cell? ⟨b, 2, none⟩ = some (.slice An now.length cn) ∧ w'.cell? ⟨w.heap.size, 0, none⟩ = some (.int .i64 x.f0) ∧ w'.cell? ⟨w.heap.size, 1, none⟩ = some (.slice A x.f1.length cx) ∧ w'.frozen? ⟨b, 2, none⟩ = false) (ds := [15]) (Sq.bl 16 0) (by kernel_rfl) rfl (by rfl) ⟨(blk_cell hb 2).trans rfl, (blk_cell hX 0).trans rfl, (blk_cell hX 1).trans rfl, blk_frozen hb 2⟩ (fun hS => ?_)
   refine Sq.pu (v := ?_) (a' := ?_) 0 32 (Sq.bl 16 1) (by kernel_rfl) rfl rfl (fun _ _ _ h => h) (by rfl) ?_ ?_ ?_; rotate_left; (· intro w'; go_simp; with_reducible rfl); rotate_left; (· simp only [Act.put,zp1,zp2,zp3,zp4,zp5]; rfl)
   refine Sq.pu (v := ?_) (a' := ?_) 1 33 (Sq.bl 16 3) (by kernel_rfl) rfl rfl (fun _ _ _ h => h) (by rfl) ?_ ?_ ?_; rotate_left; (· intro w'; go_simp; with_reducible rfl); rotate_left; (· simp only [Act.put,zp1,zp2,zp3,zp4,zp5]; rfl)
   refine Sq.pu (v := ?_) (a' := ?_) 2 34 (Sq.bl 16 7) (by kernel_rfl) rfl rfl (fun _ _ _ h => h) (by rfl) ?_ ?_ ?_; rotate_left; (· intro w'; go_simp; with_reducible rfl); rotate_left; (· simp only [Act.put,zp1,zp2,zp3,zp4,zp5]; rfl)
   refine Sq.pu (v := ?_) (a' := ?_) 3 35 (Sq.bl 16 15) (by kernel_rfl) rfl rfl (fun _ _ _ h => h) (by rfl) ?_ ?_ ?_; rotate_left; (· intro w'; go_simp; with_reducible rfl); rotate_left; (· simp only [Act.put,zp1,zp2,zp3,zp4,zp5]; rfl)
   refine Sq.pu (v := ?_) (a' := ?_) 5 37 (Sq.bl 16 47) (by kernel_rfl) rfl rfl (fun _ _ _ h => h) (by rfl) ?_ ?_ ?_; rotate_left; (· intro w'; go_simp; with_reducible rfl); rotate_left; (· simp only [Act.put,zp1,zp2,zp3,zp4,zp5]; rfl)
   refine Sq.pu (v := ?_) (a' := ?_) 7 39 (Sq.bl 16 175) (by kernel_rfl) rfl rfl (fun _ _ _ h => h) (by rfl) ?_ ?_ ?_; rotate_left; (· intro w'; go_simp; with_reducible rfl); rotate_left; (· simp only [Act.put,zp1,zp2,zp3,zp4,zp5]; rfl)
   refine take_ (i := 4) (N := some 36) (v := ?_) (a' := ?_) (Sq.bl 16 191) rfl rfl (by kernel_rfl) (fun _ _ _ h => h) (Or.inl ⟨by rfl, ?_⟩) hS ?_ ?_; rotate_left; (· rintro w' ⟨s0, s1, s2, s3⟩; go_simp; with_reducible rfl); rotate_left; (· simp only [Act.put,zp1,zp2,zp3,zp4,zp5]; rfl)
   refine take_ (i := 6) (N := some 38) (v := ?_) (a' := ?_) (Sq.bl 16 255) rfl rfl (by kernel_rfl) (fun _ _ _ h => h) (Or.inl ⟨by rfl, ?_⟩) hS ?_ ?_; rotate_left; (· rintro w' ⟨s0, s1, s2, s3⟩; go_simp; with_reducible rfl); rotate_left; (· simp only [Act.put,zp1,zp2,zp3,zp4,zp5]; rfl)
   refine take_ (i := 8) (N := some 40) (v := ?_) (a' := ?_) (Sq.bl 16 511) rfl rfl (by kernel_rfl) (fun _ _ _ h => h) (Or.inl ⟨by rfl, ?_⟩) hS ?_ ?_; rotate_left; (· rintro w' ⟨s0, s1, s2, s3⟩; go_simp; with_reducible rfl); rotate_left; (· simp only [Act.put,zp1,zp2,zp3,zp4,zp5]; rfl)
   refine one_ (i := 9) (N := some 41) (Sq.bl 16 1023) rfl rfl (by kernel_rfl) (by decide) (fun K hK => ?_)
   refine goes_ Try.func52 (by kernel_rfl) rfl #[.slice A x.f1.length cx] (by rfl) rfl rfl (by (try simp only [List.map_toArray, List.map_cons, List.map_nil]); first | done | rfl | skip) ?_
   refine (api_Line_52.made A cx x.f1 _ (Kd.C_below hCx (hbw.trans (Below.drew (Below.refl _ _)))) hcx (by omega)).mono ?_
   rintro e w2 ⟨v0, rfl, ho, hbel⟩
   obtain ⟨A3, c3, rfl⟩ := Kd.R_slice ho
   have hs2 : W.heap.size ≤ w2.heap.size := hbel.size
   have hb2 := (hbel.block b (blk_lt hb)).trans hb
   have hX2 := (hbel.block _ (blk_lt hX)).trans hX
   refine ⟨_, rfl, hK.out _ _ ⟨(blk_cell hb2 2).trans rfl, (blk_cell hX2 0).trans rfl, (blk_cell hX2 1).trans rfl, blk_frozen hb2 2⟩ (fun hS => ?_)⟩
   clear hK K
   refine norm_ (a' := ?_) ?_ ?_
   rotate_left
   ·show Act.put _ (some 41) _ = _
    simp only [Act.put,zp1,zp2,zp3,zp4,zp5]
    rfl
   refine Sq.pu (v := ?_) (a' := ?_) 10 42 (Sq.bl 16 2047) (by kernel_rfl) rfl rfl (fun _ _ _ h => h) (by rfl) ?_ ?_ ?_; rotate_left; (· intro w'; go_simp; with_reducible rfl); rotate_left; (· simp only [Act.put,zp1,zp2,zp3,zp4,zp5]; rfl)
   refine one_ (i := 11) (N := some 43) (Sq.bl 16 4095) rfl rfl (by kernel_rfl) (by decide) (fun K hK => ?_)
   refine value_ (w1 := ?_) (v := ?_) (by rfl) rfl ?_ ?_
   rotate_left 2
   ·go_simp
    constructor
    ·rfl
    ·rfl
   have hb3 := blk_alloc hb2 (.cells #[.int .i64 x.f0, .slice A3 x.f1.length c3] 47)
   have hX3 := blk_alloc hX2 (.cells #[.int .i64 x.f0, .slice A3 x.f1.length c3] 47)
   refine hK.out _ _ ⟨(blk_cell hb3 2).trans rfl, (blk_cell hX3 0).trans rfl, (blk_cell hX3 1).trans rfl, blk_frozen hb3 2⟩ (fun hS => ?_)
   clear hK K
   refine norm_ (a' := ?_) ?_ ?_
   rotate_left
   ·show Act.put _ (some 43) _ = _
    simp only [Act.put,zp1,zp2,zp3,zp4,zp5]
    rfl
   refine one_ (i := 12) (N := some 44) (Sq.bl 16 8191) rfl rfl (by kernel_rfl) (by decide) (fun K hK => ?_)
   refine Kd.R_append_step k47 (w0 := W) w0.heap.size (by rfl) (.tmp 36) (.tmp 43) 22 47 (.agg #[(.int .i64 0), (.slice none 0 0)]) 32 rfl Try.underlying22 info47 rfl (by decide) (by omega) (.slice An now.length cn) now (⟨x.f0, x.f1⟩ : S47) [.int .i64 x.f0, .slice A3 x.f1.length c3] (fun k => ¬ kp k ∧ some k ≠ vo.ownBlock) (fun k => W.heap.size ≤ k ∧ k < w2.heap.size) rfl rfl ?aP ?aK ?aF ?aO ?aB ?aS ?aL ?_
   (case aP => exact k47_mkM _ _ _ (⟨x.f0, x.f1⟩ : S47) (Kd.R_lower (Kd.R_mono (Kd.R_bound ho) (fun k hk => ⟨hk.2.1, hk.2.2.1⟩)) (by have := hbw.size; have : W.drew.heap.size = W.heap.size := rfl; omega)))
   (case aK => exact fun k hk => ⟨⟨fun e => by have := hkl k e; omega, fun e => by have := Kd.R_lt hvo k e.symm; omega⟩, fun e => by have := Kd.R_lt hvn k e.symm; omega⟩)
   (case aF => exact fun k hk => ⟨fun e => by have := hkl k e; omega, fun e => by have := Kd.R_lt hvo k e.symm; omega⟩)
   (case aO => exact Kd.R_below hvn (below_then (below_drew (Below.refl _ _)) (Nat.le_refl _) hbel))
   (case aB => exact (below_then (below_drew (Below.refl _ _)) (Nat.le_refl _) hbel).mono hbw.size)
   (case aS => exact (by have := hbw.size; omega))
   (case aL => omega)
   intro v4 w4 ho4 hbel4 hg4 hat4
   obtain ⟨A4, c4, rfl⟩ := Kd.R_slice ho4
   have hneb : some b ≠ (Value.slice An now.length cn).ownBlock := Kd.R_ne hvn hb (by decide)
   have hb4 := (hg4.block b (blk_lt hb2) hneb).trans hb2
   have hX4 := (hg4.block _ (blk_lt hX2) (fun e => (hvn.1 _ e.symm).1 hkX)).trans hX2
   refine hK.out _ _ ⟨(blk_cell hb4 2).trans rfl, (blk_cell hX4 0).trans rfl, (blk_cell hX4 1).trans rfl, blk_frozen hb4 2⟩ (fun hS => ?_)
   have hbel2 : Below W.heap.size W w2 := below_then (below_drew (Below.refl _ _)) (Nat.le_refl _) hbel
   have hdone := hunk_Build.put_done hBb hkb hkl hvo hvn hbel2 hb4 ho4 hbel4 hg4 hat4
   rw [List.length_append] at hdone
   clear hK K
   refine norm_ (a' := ?_) ?_ ?_
   rotate_left
   ·show Act.put _ (some 44) _ = _
    simp only [Act.put,zp1,zp2,zp3,zp4,zp5]
    rfl
   refine Sq.pu (v := ?_) (a' := ?_) 13 45 (Sq.bl 16 16383) (by kernel_rfl) rfl rfl (fun _ _ _ h => h) (by rfl) ?_ ?_ ?_; rotate_left; (· intro w'; go_simp; with_reducible rfl); rotate_left; (· simp only [Act.put,zp1,zp2,zp3,zp4,zp5]; rfl)
   refine Sq.pu (v := ?_) (a' := ?_) 14 46 (Sq.bl 16 32767) (by kernel_rfl) rfl rfl (fun _ _ _ h => h) (by rfl) ?_ ?_ ?_; rotate_left; (· intro w'; go_simp; with_reducible rfl); rotate_left; (· simp only [Act.put,zp1,zp2,zp3,zp4,zp5]; rfl)
   refine last_ (i := 15) (N := none) (Sq.bl 16 65535) rfl rfl (by kernel_rfl) (by decide) (fun K hK => ?_)
   refine skip_ (w1 := ?_) (by rfl) rfl ?_ ?_
   rotate_left
   ·go_simp
    rfl
   refine hK.out _ _ ?_
   clear hK K
   refine done_ (by kernel_rfl) ?_
   obtain ⟨hA6, hB6, _⟩ := hdone
   try simp only [List.length_singleton] at hA6 hB6
   have HA6 := Aside0.mk hA6
   have HB6 := Aside0.mk (hBW.trans hB6)
   clear hA6 hB6 ho4 hbel4 hg4 hat4 hb4 hneb hb3 hb2 hs2 hbel hbel2 ho hvo hvn hb hS hX hX2 hX3 hX4
   generalize w4.setCell ⟨b, 2, none⟩ (.slice A4 (now.length + 1) c4) = w6 at HA6 HB6 ⊢
   try go_wp2
   go_end0
   refine ⟨rfl, ?_, HB6.out⟩
   rw [← HT.out]
   exact ⟨Aa, ca, HA6.out.free, hCa0.out, hca0.out⟩


end Go.Proofs.Ytfnbodjmmkjlcaa.H
end
section
namespace Go.Proofs.Ytfnbodjmmkjlcaa.H
open Go.RowKit Go.Proofs.YtfnbodjmmkjlcaaW.PrintWords Go.Proofs.YtfnbodjmmkjlcaaW.PrintLast Go.Proofs.YtfnbodjmmkjlcaaW.PrintMore
attribute [local go_sem] max2_int min2_int max_two min_two max_three min_three max_four min_four   -- for this text's walks alone
set_option linter.unusedVariables false
set_option linter.unusedSimpArgs false

/-- What the walk over a script knows: how many lines of both sides were gone past, the next hunk, whether the next change is the first one of a hunk, and the hunks. -/
structure hunk_place.PS where
 a : Nat
 b : Nat
 i : Nat
 fresh : Bool
 l : List S44
def hunk_place.ld (e : S47) : Nat := if e.f0 = 1 then e.f1.length else 0
def hunk_place.setp (p : hunk_place.PS) : Option (List S44) :=
 if p.i < p.l.length then
  (match (p.l.getD p.i z44).f4 with
  | [] => none
  | e :: _ => some (p.l.set p.i ⟨(p.a : Int) - (hunk_place.ld e : Int), (p.l.getD p.i z44).f1, (p.b : Int) - (hunk_place.ld e : Int), (p.l.getD p.i z44).f3, (p.l.getD p.i z44).f4⟩))
 else none
def hunk_place.step (c k : Nat) (x : S47) (p : hunk_place.PS) : Option hunk_place.PS :=
 if x.f0 = 1 then some ⟨p.a + x.f1.length, p.b + x.f1.length, p.i, if 0 < k ∧ 2 * c < x.f1.length then true else p.fresh, p.l⟩
 else if x.f0 = 2 ∨ x.f0 = 3 then
  (if p.fresh = true then (hunk_place.setp p).bind fun l => some ⟨if x.f0 = 2 then p.a + x.f1.length else p.a, if x.f0 = 2 then p.b else p.b + x.f1.length, p.i + 1, false, l⟩
  else some ⟨if x.f0 = 2 then p.a + x.f1.length else p.a, if x.f0 = 2 then p.b else p.b + x.f1.length, p.i, false, p.l⟩)
 else none
def hunk_place.p (c : Nat) : List S47 → Nat → hunk_place.PS → Option hunk_place.PS
 | [], _, q => some q
 | x :: xs, k, q => (hunk_place.step c k x q).bind (hunk_place.p c xs (k + 1))
theorem hunk_place.set2 {W : World} {B : Nat} {ok : Nat → Prop} {g n cap : Nat} {l : List S44} (hR : Kd.R k44 44 W B ok (.slice (some ⟨g, 0, none⟩) n cap) l) (i : Nat) (hi : i < n) (u v : Int) :
  Kd.R k44 44 ((W.setCell ⟨g, i * 5, none⟩ (.int .i64 u)).setCell ⟨g, i * 5 + 2, none⟩ (.int .i64 v)) B ok (.slice (some ⟨g, 0, none⟩) n cap) (l.set i ⟨u, (l.getD i z44).f1, v, (l.getD i z44).f3, (l.getD i z44).f4⟩) := by
 have hn := (Kd.R_reads' hR).1
 obtain ⟨c, hcl, hM, hcc, hfr⟩ := Kd.R_elem hR z44 (i : Int) (by omega) (by omega)
 obtain ⟨v4, rfl, hv4⟩ := k44_openM hM
 simp only [Int.toNat_natCast] at hv4 hcc hcl hM
 have h1 := Kd.R_seg hR (i : Int) (by omega) (by omega) (seg := [.int .i64 u]) (j := 0) hcl hcc (show 0 + 1 ≤ 5 by decide) (x' := ⟨u, (l.getD i z44).f1, (l.getD i z44).f2, (l.getD i z44).f3, (l.getD i z44).f4⟩) (okp := fun k => ok k ∧ k ≠ g) (k44_mkM _ _ _ ⟨u, (l.getD i z44).f1, (l.getD i z44).f2, (l.getD i z44).f3, (l.getD i z44).f4⟩ hv4) (fun _ hk => hk)
 simp only [Int.toNat_natCast] at h1
 have h2 : Kd.R k44 44 (W.setCell ⟨g, i * 5, none⟩ (.int .i64 u)) B ok (.slice (some ⟨g, 0, none⟩) n cap) (l.set i ⟨u, (l.getD i z44).f1, (l.getD i z44).f2, (l.getD i z44).f3, (l.getD i z44).f4⟩) := h1.1
 have hg : ∀ d : S44, (l.set i d).getD i z44 = d := fun d => by
  rw [List.getD_eq_getElem?_getD, List.getElem?_set_self (by omega)]
  rfl
 obtain ⟨c', hcl', hM', hcc', _⟩ := Kd.R_elem h2 z44 (i : Int) (by omega) (by omega)
 obtain ⟨v4', rfl, hv4'⟩ := k44_openM hM'
 simp only [Int.toNat_natCast] at hv4' hcc' hcl' hM'
 have h3 := Kd.R_seg h2 (i : Int) (by omega) (by omega) (seg := [.int .i64 v]) (j := 2) hcl' hcc' (show 2 + 1 ≤ 5 by decide) (x' := ⟨u, (l.getD i z44).f1, v, (l.getD i z44).f3, (l.getD i z44).f4⟩) (okp := fun k => ok k ∧ k ≠ g) (by
  rw [hg] at hv4' ⊢
  exact k44_mkM _ _ _ ⟨u, (l.getD i z44).f1, v, (l.getD i z44).f3, (l.getD i z44).f4⟩ hv4') (fun _ hk => hk)
 simp only [Int.toNat_natCast, List.set_set] at h3
 exact h3.1
theorem hunk_place.elem {W : World} {B : Nat} {ok : Nat → Prop} {g n cap : Nat} {l : List S44} (hR : Kd.R k44 44 W B ok (.slice (some ⟨g, 0, none⟩) n cap) l) (i : Nat) (hi : i < n) {e : S47} {es : List S47} (hf : (l.getD i z44).f4 = e :: es) :
  ∃ (v0 v2 : Value) (ad : Addr) (c4 : Nat) (A5 : Option Addr) (c5 : Nat), W.cell? ⟨g, i * 5, none⟩ = some v0 ∧ W.cell? ⟨g, i * 5 + 2, none⟩ = some v2 ∧ W.cell? ⟨g, i * 5 + 4, none⟩ = some (.slice (some ad) (es.length + 1) c4) ∧ W.cell? ad = some (.int .i64 e.f0) ∧ W.cell? ⟨ad.block, ad.off + 1, none⟩ = some (.slice A5 e.f1.length c5) ∧ W.frozen? ⟨g, i * 5, none⟩ = false ∧ W.frozen? ⟨g, i * 5 + 2, none⟩ = false ∧ e.f1.length ≤ 9223372036854775807 := by
 obtain ⟨c, hcl, hM, hcc, hfr⟩ := Kd.R_elem hR z44 (i : Int) (by omega) (by omega)
 obtain ⟨v4, rfl, hv4⟩ := k44_openM hM
 simp only [Int.toNat_natCast] at hv4 hcc hcl hM hfr
 rw [hf] at hv4
 obtain ⟨A4, c4, rfl, hl4, hC4⟩ := Kd.R_reads hv4
 obtain ⟨ad, A5, c5, rfl, hy0, hy1, hl5, hC5⟩ := at_T47 hC4 0 (by omega) (by simp)
 have e0 : ad.add ((0 : Int).toNat * 2) = ad := by simp [Addr.add]
 rw [e0] at hy0 hy1
 exact ⟨_, _, ad, c4, A5, c5, hcc 0 _ rfl, hcc 2 _ rfl, hcc 4 _ rfl, hy0, hy1, hfr 0, hfr 2, hC5.2.1⟩
set_option maxHeartbeats 4000000 in
set_option maxRecDepth 100000 in
theorem hunk_place.calls (w0 : World) (c : Nat) (s : List S47) (A : Option Addr) (cs : Nat) (l : List S44) (vl : Value) (ok : Nat → Prop) (r : hunk_place.PS) (w : World) (hc : c ≤ 1000000) (hC : Kd.C k47 w0 A s.length s) (hbw : Below w0.heap.size w0 w) (hcs : s.length ≤ cs) (hsz : script_normal.lines s ≤ 1000000)
  (hR : Kd.R k44 44 w w0.heap.size ok vl l) (h : hunk_place.p c s 0 ⟨0, 0, 0, true, l⟩ = some r) :
  Calls Try.prog 45 #[.slice A s.length cs, vl, .int .i64 (c : Int)] w fun e w' => e = .returned (.tuple #[]) ∧ Kd.R k44 44 w' w0.heap.size ok vl r.l ∧ w.heap.size ≤ w'.heap.size ∧ (∀ k, k < w.heap.size → some k ≠ vl.ownBlock → w'.heap[k]? = w.heap[k]?) ∧ Below w0.heap.size w w' := by
 obtain ⟨Al, cl, rfl, hcl, hCl⟩ := Kd.R_reads hR
 have HC := Aside0.mk hC
 have Hcs := Aside0.mk hcs
 have HR := Aside0.mk hR
 have HH := Aside0.mk h
 clear hC hcs hR h hCl
 go_enter Try.func45, Try.ntmps45
 go_wp2
 go_loopw [6, 7, 8, 9, 17] (fun va vb vi vf vk wr => ∃ (n : Nat) (q : hunk_place.PS), n ≤ s.length ∧ va = .int .i64 (q.a : Int) ∧ vb = .int .i64 (q.b : Int) ∧ vi = .int .i64 (q.i : Int) ∧ vf = .bool q.fresh ∧ vk = .int .i64 (n : Int) ∧ q.a ≤ script_normal.lines (s.take n) ∧ q.b ≤ script_normal.lines (s.take n) ∧ q.i ≤ n ∧ q.l.length = l.length ∧ hunk_place.p c (s.drop n) n q = some r ∧
   Kd.R k44 44 wr w0.heap.size ok (.slice Al l.length cl) q.l ∧ w.heap.size ≤ wr.heap.size ∧ (∀ k, k < w.heap.size → some k ≠ (Value.slice Al l.length cl).ownBlock → wr.heap[k]? = w.heap[k]?) ∧ Below w0.heap.size w wr)
  (fun _ _ _ _ vk _ => s.length - (intOf vk).toNat)
 case atStart => exact ⟨0, ⟨0, 0, 0, true, l⟩, Nat.zero_le _, rfl, rfl, rfl, rfl, rfl, Nat.zero_le _, Nat.zero_le _, Nat.le_refl _, rfl, HH.out, HR.out, Nat.le_refl _, fun _ _ _ => rfl, Below.refl _ _⟩
 case round =>
  obtain ⟨n, ⟨a, b, i, fresh, q⟩, hn, rfl, rfl, rfl, rfl, rfl, ha, hb, hi, hql, hq, hRr, hsz1, hfr, hB⟩ := hrel
  simp only at ha hb hi hql hq hRr
  by_cases hlt : n < s.length
  ·have hx : rd_T47 s (n : Int) = s[n] := by
    simp [rd_T47, hlt]
   have hdr : s.drop n = rd_T47 s (n : Int) :: s.drop (n + 1) := by rw [List.drop_eq_getElem_cons hlt, hx]
   have hlt' : decide ((n : Int) < (s.length : Int)) = true := decide_eq_true (by omega)
   have hln : script_normal.lines (s.take (n + 1)) = script_normal.lines (s.take n) + (rd_T47 s (n : Int)).f1.length := by
    rw [List.take_succ_eq_append_getElem hlt, script_normal.lines_append, hx]
    simp [script_normal.lines]
   have hln2 := script_normal.lines_take s (n + 1)
   rw [hdr] at hq
   unfold hunk_place.p at hq
   obtain ⟨q1, hq1, hq2⟩ := Option.bind_eq_some_iff.1 hq
   obtain ⟨ad, A1, c1, e, hx0, hx1, hl1, hC1⟩ := at_T47 HC.out (n : Int) (by omega) (by omega)
   cases e
   replace hx0 := ((hbw.trans hB).cell (World.block_lt_of_cell? w0 _ hx0)).trans hx0
   replace hx1 := ((hbw.trans hB).cell (World.block_lt_of_cell? w0 _ hx1)).trans hx1
   simp only [Int.toNat_natCast] at hx0 hx1
   have HC1 := Aside0.mk hC1
   have Hl1 := Aside0.mk hl1
   have HX := Aside0.mk (World.alloc_heap_new wr (.cells #[.int .i64 (rd_T47 s (n : Int)).f0, .slice A1 (rd_T47 s (n : Int)).f1.length c1] 47 (0, 0)))
   have HBx := Aside0.mk ((hbw.trans hB).alloc (by have := hbw.size; omega) (.cells #[.int .i64 (rd_T47 s (n : Int)).f0, .slice A1 (rd_T47 s (n : Int)).f1.length c1] 47))
   have HRr := Aside0.mk hRr
   have HB := Aside0.mk hB
   have Hfr := Aside0.mk hfr
   have Hq2 := Aside0.mk hq2
   have Hbw := Aside0.mk hbw
   have Hln := Aside0.mk hln
   have hln3 := Hln.out
   clear hdr hx hq hq2 hC1 hl1 hRr hfr hB hbw hln
   have HWa : Aside0 (wrap64 ((a : Int) + ((rd_T47 s (n : Int)).f1.length : Int)) = ((a + (rd_T47 s (n : Int)).f1.length : Nat) : Int)) := ⟨by unfold wrap64; omega⟩
   have HWb : Aside0 (wrap64 ((b : Int) + ((rd_T47 s (n : Int)).f1.length : Int)) = ((b + (rd_T47 s (n : Int)).f1.length : Nat) : Int)) := ⟨by unfold wrap64; omega⟩
   have hsl : s.length ≤ 9223372036854775807 := HC.out.2.1
   have HWn : Aside0 (wrap64 ((n : Int) + 1) = ((n + 1 : Nat) : Int)) := ⟨by unfold wrap64; omega⟩
   unfold hunk_place.step at hq1
   simp only at hq1
   by_cases hd1 : (rd_T47 s (n : Int)).f0 = 1
   ·rw [if_pos hd1] at hq1
    have HQ1 := Aside0.mk (Option.some.inj hq1)
    have hch : ((rd_T47 s (n : Int)).f0 != 1) = false := by simp [hd1]
    have hd2 : ((rd_T47 s (n : Int)).f0 != 2) = true := by simp [hd1]
    have hd3 : ((rd_T47 s (n : Int)).f0 != 3) = true := by simp [hd1]
    clear hq1 hd1
    by_cases hn0 : 0 < n
    ·have hn0' : decide (0 < n) = true := decide_eq_true hn0
     by_cases hg : 2 * c < (rd_T47 s (n : Int)).f1.length
     ·have hg' : decide (2 * c < (rd_T47 s (n : Int)).f1.length) = true := decide_eq_true hg
      have hg2 : (2 * (c : Int) < ((rd_T47 s (n : Int)).f1.length : Int)) = True := eq_true (by omega)
      rw [if_pos ⟨hn0, hg⟩] at HQ1
      clear hn0 hg
      go_wp2_with (first | (go_at_call 68; refine (hunk_changes.calls (rd_T47 s (n : Int)).f0 A1 c1 (rd_T47 s (n : Int)).f1 false (wr.alloc _) (Kd.C_below HC1.out HBx.out) Hl1.out (by unfold hunk_changes.f; rw [hch])).mono ?_; rintro e W1 ⟨rfl, hbW1⟩; have hX1 := (hbW1.block _ (blk_lt HX.out)).trans HX.out; have hX10 : W1.cell? ⟨wr.heap.size, 0, none⟩ = some (.int .i64 (rd_T47 s (n : Int)).f0) := (blk_cell hX1 0).trans rfl; have hX11 : W1.cell? ⟨wr.heap.size, 1, none⟩ = some (.slice A1 (rd_T47 s (n : Int)).f1.length c1) := (blk_cell hX1 1).trans rfl; have HX1 := Aside0.mk hX1; have HW1 := Aside0.mk hbW1; clear hX1 hbW1) | (go_at_call 68; refine (hunk_changes.calls (rd_T47 s (n : Int)).f0 A1 c1 (rd_T47 s (n : Int)).f1 false W1 (Kd.C_below HC1.out (HBx.out.trans (HW1.out.mono HBx.out.size))) Hl1.out (by unfold hunk_changes.f; rw [hch])).mono ?_; rintro e W2 ⟨rfl, hbW2⟩; have hX2 := (hbW2.block _ (blk_lt HX1.out)).trans HX1.out; have hX20 : W2.cell? ⟨wr.heap.size, 0, none⟩ = some (.int .i64 (rd_T47 s (n : Int)).f0) := (blk_cell hX2 0).trans rfl; have HW2 := Aside0.mk hbW2; clear hX2 hbW2))
      go_roundw
      case rel =>
       obtain rfl := HQ1.out
       have hbB := HBx.out.trans ((HW1.out.mono HBx.out.size).trans (HW2.out.mono (Nat.le_trans HBx.out.size HW1.out.size)))
       have hs1 := HW1.out.size
       have hs2 := HW2.out.size
       simp only [World.size_alloc] at hs1
       have hl1 := Hln.out
       refine ⟨n + 1, _, by omega, by first | rfl | exact congrArg _ HWa.out, by first | rfl | exact congrArg _ HWb.out, rfl, rfl, by first | rfl | exact congrArg _ HWn.out, by simp only; omega, by simp only; omega, by simp only; omega, hql, Hq2.out, Kd.R_below (Kd.R_below (Kd.R_alloc HRr.out _) HW1.out) HW2.out, by omega, fun k hk hk2 => ?_, ?_⟩
       ·exact ((HW2.out.block k (by omega)).trans ((HW1.out.block k (by rw [World.size_alloc]; omega)).trans (Below.heap_alloc _ _ _ (by omega)))).trans (Hfr.out k hk hk2)
       ·exact ((HB.out.alloc (by have := Hbw.out.size; omega) _).trans (HW1.out.mono HBx.out.size)).trans (HW2.out.mono (Nat.le_trans HBx.out.size HW1.out.size))
      case measure =>
       try rw [HWn.out]
       simp only [intOf, Int.toNat_natCast]
       omega
     ·have hg' : decide (2 * c < (rd_T47 s (n : Int)).f1.length) = false := decide_eq_false hg
      have hg2 : (2 * (c : Int) < ((rd_T47 s (n : Int)).f1.length : Int)) = False := eq_false (by omega)
      rw [if_neg (by omega)] at HQ1
      clear hn0 hg
      go_wp2_with (first | (go_at_call 68; refine (hunk_changes.calls (rd_T47 s (n : Int)).f0 A1 c1 (rd_T47 s (n : Int)).f1 false (wr.alloc _) (Kd.C_below HC1.out HBx.out) Hl1.out (by unfold hunk_changes.f; rw [hch])).mono ?_; rintro e W1 ⟨rfl, hbW1⟩; have hX1 := (hbW1.block _ (blk_lt HX.out)).trans HX.out; have hX10 : W1.cell? ⟨wr.heap.size, 0, none⟩ = some (.int .i64 (rd_T47 s (n : Int)).f0) := (blk_cell hX1 0).trans rfl; have hX11 : W1.cell? ⟨wr.heap.size, 1, none⟩ = some (.slice A1 (rd_T47 s (n : Int)).f1.length c1) := (blk_cell hX1 1).trans rfl; have HX1 := Aside0.mk hX1; have HW1 := Aside0.mk hbW1; clear hX1 hbW1) | (go_at_call 68; refine (hunk_changes.calls (rd_T47 s (n : Int)).f0 A1 c1 (rd_T47 s (n : Int)).f1 false W1 (Kd.C_below HC1.out (HBx.out.trans (HW1.out.mono HBx.out.size))) Hl1.out (by unfold hunk_changes.f; rw [hch])).mono ?_; rintro e W2 ⟨rfl, hbW2⟩; have hX2 := (hbW2.block _ (blk_lt HX1.out)).trans HX1.out; have hX20 : W2.cell? ⟨wr.heap.size, 0, none⟩ = some (.int .i64 (rd_T47 s (n : Int)).f0) := (blk_cell hX2 0).trans rfl; have HW2 := Aside0.mk hbW2; clear hX2 hbW2))
      go_roundw
      case rel =>
       obtain rfl := HQ1.out
       have hbB := HBx.out.trans ((HW1.out.mono HBx.out.size).trans (HW2.out.mono (Nat.le_trans HBx.out.size HW1.out.size)))
       have hs1 := HW1.out.size
       have hs2 := HW2.out.size
       simp only [World.size_alloc] at hs1
       have hl1 := Hln.out
       refine ⟨n + 1, _, by omega, by first | rfl | exact congrArg _ HWa.out, by first | rfl | exact congrArg _ HWb.out, rfl, rfl, by first | rfl | exact congrArg _ HWn.out, by simp only; omega, by simp only; omega, by simp only; omega, hql, Hq2.out, Kd.R_below (Kd.R_below (Kd.R_alloc HRr.out _) HW1.out) HW2.out, by omega, fun k hk hk2 => ?_, ?_⟩
       ·exact ((HW2.out.block k (by omega)).trans ((HW1.out.block k (by rw [World.size_alloc]; omega)).trans (Below.heap_alloc _ _ _ (by omega)))).trans (Hfr.out k hk hk2)
       ·exact ((HB.out.alloc (by have := Hbw.out.size; omega) _).trans (HW1.out.mono HBx.out.size)).trans (HW2.out.mono (Nat.le_trans HBx.out.size HW1.out.size))
      case measure =>
       try rw [HWn.out]
       simp only [intOf, Int.toNat_natCast]
       omega
    ·have hn0' : decide (0 < n) = false := decide_eq_false hn0
     rw [if_neg (by omega)] at HQ1
     clear hn0
     go_wp2_with (first | (go_at_call 68; refine (hunk_changes.calls (rd_T47 s (n : Int)).f0 A1 c1 (rd_T47 s (n : Int)).f1 false (wr.alloc _) (Kd.C_below HC1.out HBx.out) Hl1.out (by unfold hunk_changes.f; rw [hch])).mono ?_; rintro e W1 ⟨rfl, hbW1⟩; have hX1 := (hbW1.block _ (blk_lt HX.out)).trans HX.out; have hX10 : W1.cell? ⟨wr.heap.size, 0, none⟩ = some (.int .i64 (rd_T47 s (n : Int)).f0) := (blk_cell hX1 0).trans rfl; have hX11 : W1.cell? ⟨wr.heap.size, 1, none⟩ = some (.slice A1 (rd_T47 s (n : Int)).f1.length c1) := (blk_cell hX1 1).trans rfl; have HX1 := Aside0.mk hX1; have HW1 := Aside0.mk hbW1; clear hX1 hbW1) | (go_at_call 68; refine (hunk_changes.calls (rd_T47 s (n : Int)).f0 A1 c1 (rd_T47 s (n : Int)).f1 false W1 (Kd.C_below HC1.out (HBx.out.trans (HW1.out.mono HBx.out.size))) Hl1.out (by unfold hunk_changes.f; rw [hch])).mono ?_; rintro e W2 ⟨rfl, hbW2⟩; have hX2 := (hbW2.block _ (blk_lt HX1.out)).trans HX1.out; have hX20 : W2.cell? ⟨wr.heap.size, 0, none⟩ = some (.int .i64 (rd_T47 s (n : Int)).f0) := (blk_cell hX2 0).trans rfl; have HW2 := Aside0.mk hbW2; clear hX2 hbW2))
     go_roundw
     case rel =>
      obtain rfl := HQ1.out
      have hbB := HBx.out.trans ((HW1.out.mono HBx.out.size).trans (HW2.out.mono (Nat.le_trans HBx.out.size HW1.out.size)))
      have hs1 := HW1.out.size
      have hs2 := HW2.out.size
      simp only [World.size_alloc] at hs1
      have hl1 := Hln.out
      refine ⟨n + 1, _, by omega, by first | rfl | exact congrArg _ HWa.out, by first | rfl | exact congrArg _ HWb.out, rfl, rfl, by first | rfl | exact congrArg _ HWn.out, by simp only; omega, by simp only; omega, by simp only; omega, hql, Hq2.out, Kd.R_below (Kd.R_below (Kd.R_alloc HRr.out _) HW1.out) HW2.out, by omega, fun k hk hk2 => ?_, ?_⟩
      ·exact ((HW2.out.block k (by omega)).trans ((HW1.out.block k (by rw [World.size_alloc]; omega)).trans (Below.heap_alloc _ _ _ (by omega)))).trans (Hfr.out k hk hk2)
      ·exact ((HB.out.alloc (by have := Hbw.out.size; omega) _).trans (HW1.out.mono HBx.out.size)).trans (HW2.out.mono (Nat.le_trans HBx.out.size HW1.out.size))
     case measure =>
      try rw [HWn.out]
      simp only [intOf, Int.toNat_natCast]
      omega
   ·rw [if_neg hd1] at hq1
    have hch : ((rd_T47 s (n : Int)).f0 != 1) = true := by simp [hd1]
    by_cases hd23 : (rd_T47 s (n : Int)).f0 = 2 ∨ (rd_T47 s (n : Int)).f0 = 3
    ·rw [if_pos hd23] at hq1
     cases fresh with
     | false =>
      rw [if_neg (by decide)] at hq1
      have HQ1 := Aside0.mk (Option.some.inj hq1)
      by_cases h2 : (rd_T47 s (n : Int)).f0 = 2
      ·rw [if_pos h2, if_pos h2] at HQ1
       have hd2 : ((rd_T47 s (n : Int)).f0 != 2) = false := by simp [h2]
       have hd3 : ((rd_T47 s (n : Int)).f0 != 3) = true := by simp [h2]
       clear hq1 hd1 hd23 h2
       go_wp2_with (first | (go_at_call 68; refine (hunk_changes.calls (rd_T47 s (n : Int)).f0 A1 c1 (rd_T47 s (n : Int)).f1 true (wr.alloc _) (Kd.C_below HC1.out HBx.out) Hl1.out (by unfold hunk_changes.f; rw [hch])).mono ?_; rintro e W1 ⟨rfl, hbW1⟩; have hX1 := (hbW1.block _ (blk_lt HX.out)).trans HX.out; have hX10 : W1.cell? ⟨wr.heap.size, 0, none⟩ = some (.int .i64 (rd_T47 s (n : Int)).f0) := (blk_cell hX1 0).trans rfl; have hX11 : W1.cell? ⟨wr.heap.size, 1, none⟩ = some (.slice A1 (rd_T47 s (n : Int)).f1.length c1) := (blk_cell hX1 1).trans rfl; have HX1 := Aside0.mk hX1; have HW1 := Aside0.mk hbW1; clear hX1 hbW1) | (go_at_call 68; refine (hunk_changes.calls (rd_T47 s (n : Int)).f0 A1 c1 (rd_T47 s (n : Int)).f1 true W1 (Kd.C_below HC1.out (HBx.out.trans (HW1.out.mono HBx.out.size))) Hl1.out (by unfold hunk_changes.f; rw [hch])).mono ?_; rintro e W2 ⟨rfl, hbW2⟩; have hX2 := (hbW2.block _ (blk_lt HX1.out)).trans HX1.out; have hX20 : W2.cell? ⟨wr.heap.size, 0, none⟩ = some (.int .i64 (rd_T47 s (n : Int)).f0) := (blk_cell hX2 0).trans rfl; have HW2 := Aside0.mk hbW2; clear hX2 hbW2))
       go_roundw
       case rel =>
        obtain rfl := HQ1.out
        have hbB := HBx.out.trans ((HW1.out.mono HBx.out.size).trans (HW2.out.mono (Nat.le_trans HBx.out.size HW1.out.size)))
        have hs1 := HW1.out.size
        have hs2 := HW2.out.size
        simp only [World.size_alloc] at hs1
        have hl1 := Hln.out
        refine ⟨n + 1, _, by omega, by first | rfl | exact congrArg _ HWa.out, by first | rfl | exact congrArg _ HWb.out, rfl, rfl, by first | rfl | exact congrArg _ HWn.out, by simp only; omega, by simp only; omega, by simp only; omega, hql, Hq2.out, Kd.R_below (Kd.R_below (Kd.R_alloc HRr.out _) HW1.out) HW2.out, by omega, fun k hk hk2 => ?_, ?_⟩
        ·exact ((HW2.out.block k (by omega)).trans ((HW1.out.block k (by rw [World.size_alloc]; omega)).trans (Below.heap_alloc _ _ _ (by omega)))).trans (Hfr.out k hk hk2)
        ·exact ((HB.out.alloc (by have := Hbw.out.size; omega) _).trans (HW1.out.mono HBx.out.size)).trans (HW2.out.mono (Nat.le_trans HBx.out.size HW1.out.size))
       case measure =>
        try rw [HWn.out]
        simp only [intOf, Int.toNat_natCast]
        omega
      ·rw [if_neg h2, if_neg h2] at HQ1
       have h3 := hd23.resolve_left h2
       have hd2 : ((rd_T47 s (n : Int)).f0 != 2) = true := by simp [h3]
       have hd3 : ((rd_T47 s (n : Int)).f0 != 3) = false := by simp [h3]
       clear hq1 hd1 hd23 h2 h3
       go_wp2_with (first | (go_at_call 68; refine (hunk_changes.calls (rd_T47 s (n : Int)).f0 A1 c1 (rd_T47 s (n : Int)).f1 true (wr.alloc _) (Kd.C_below HC1.out HBx.out) Hl1.out (by unfold hunk_changes.f; rw [hch])).mono ?_; rintro e W1 ⟨rfl, hbW1⟩; have hX1 := (hbW1.block _ (blk_lt HX.out)).trans HX.out; have hX10 : W1.cell? ⟨wr.heap.size, 0, none⟩ = some (.int .i64 (rd_T47 s (n : Int)).f0) := (blk_cell hX1 0).trans rfl; have hX11 : W1.cell? ⟨wr.heap.size, 1, none⟩ = some (.slice A1 (rd_T47 s (n : Int)).f1.length c1) := (blk_cell hX1 1).trans rfl; have HX1 := Aside0.mk hX1; have HW1 := Aside0.mk hbW1; clear hX1 hbW1) | (go_at_call 68; refine (hunk_changes.calls (rd_T47 s (n : Int)).f0 A1 c1 (rd_T47 s (n : Int)).f1 true W1 (Kd.C_below HC1.out (HBx.out.trans (HW1.out.mono HBx.out.size))) Hl1.out (by unfold hunk_changes.f; rw [hch])).mono ?_; rintro e W2 ⟨rfl, hbW2⟩; have hX2 := (hbW2.block _ (blk_lt HX1.out)).trans HX1.out; have hX20 : W2.cell? ⟨wr.heap.size, 0, none⟩ = some (.int .i64 (rd_T47 s (n : Int)).f0) := (blk_cell hX2 0).trans rfl; have HW2 := Aside0.mk hbW2; clear hX2 hbW2))
       go_roundw
       case rel =>
        obtain rfl := HQ1.out
        have hbB := HBx.out.trans ((HW1.out.mono HBx.out.size).trans (HW2.out.mono (Nat.le_trans HBx.out.size HW1.out.size)))
        have hs1 := HW1.out.size
        have hs2 := HW2.out.size
        simp only [World.size_alloc] at hs1
        have hl1 := Hln.out
        refine ⟨n + 1, _, by omega, by first | rfl | exact congrArg _ HWa.out, by first | rfl | exact congrArg _ HWb.out, rfl, rfl, by first | rfl | exact congrArg _ HWn.out, by simp only; omega, by simp only; omega, by simp only; omega, hql, Hq2.out, Kd.R_below (Kd.R_below (Kd.R_alloc HRr.out _) HW1.out) HW2.out, by omega, fun k hk hk2 => ?_, ?_⟩
        ·exact ((HW2.out.block k (by omega)).trans ((HW1.out.block k (by rw [World.size_alloc]; omega)).trans (Below.heap_alloc _ _ _ (by omega)))).trans (Hfr.out k hk hk2)
        ·exact ((HB.out.alloc (by have := Hbw.out.size; omega) _).trans (HW1.out.mono HBx.out.size)).trans (HW2.out.mono (Nat.le_trans HBx.out.size HW1.out.size))
       case measure =>
        try rw [HWn.out]
        simp only [intOf, Int.toNat_natCast]
        omega
     | true =>
      rw [if_pos rfl] at hq1
      obtain ⟨l2, hl2, hq1⟩ := Option.bind_eq_some_iff.1 hq1
      have HQ1 := Aside0.mk (Option.some.inj hq1)
      unfold hunk_place.setp at hl2
      simp only at hl2
      split at hl2
      case isFalse => cases hl2
      rename_i hil
      split at hl2
      case h_1 => cases hl2
      rename_i e es hf4
      have Hl2 := Aside0.mk (Option.some.inj hl2)
      have hne : q ≠ [] := by rintro rfl; simp at hil
      obtain ⟨g, cg, eg⟩ : ∃ g cg, (Value.slice Al l.length cl) = .slice (some ⟨g, 0, none⟩) l.length cg := by
       obtain ⟨inner, hown⟩ := Kd.R_own HRr.out
       rcases hown.2 with ⟨hv, hn0⟩ | ⟨g, cap, cur, hv, _⟩
       ·omega
       ·exact ⟨g, cap, by rw [hv, hql]⟩
      injection eg with eg1 _ eg2
      subst eg1 eg2
      have hil2 : ((i : Int) < (l.length : Int)) = True := eq_true (by omega)
      have hil3 : i < l.length := by omega
      have HF4 := Aside0.mk hf4
      have HGb : Aside0 (w0.heap.size ≤ g) := ⟨Kd.R_base HRr.out g (by simp [Value.ownBlock])⟩
      have HXg : Aside0 (wr.heap.size ≠ g) := ⟨by have := Kd.R_lt HRr.out g (by simp [Value.ownBlock]); omega⟩
      clear hq1 hl2 hil hf4 hne hd1
      by_cases h2 : (rd_T47 s (n : Int)).f0 = 2
      ·rw [if_pos h2, if_pos h2] at HQ1
       have hd2 : ((rd_T47 s (n : Int)).f0 != 2) = false := by simp [h2]
       have hd3 : ((rd_T47 s (n : Int)).f0 != 3) = true := by simp [h2]
       clear hd23 h2
       by_cases he : e.f0 = 1
       ·have he' : (e.f0 == 1) = true := beq_iff_eq.mpr he
        have HL : Aside0 (q.set i ⟨(a : Int) - (e.f1.length : Int), (q.getD i z44).f1, (b : Int) - (e.f1.length : Int), (q.getD i z44).f3, (q.getD i z44).f4⟩ = l2) := ⟨by
         have h_ := Hl2.out
         unfold hunk_place.ld at h_
         rw [if_pos he] at h_
         exact h_⟩
        clear he
        go_wp2_with (first | (go_at_call 68; refine (hunk_changes.calls (rd_T47 s (n : Int)).f0 A1 c1 (rd_T47 s (n : Int)).f1 true (wr.alloc _) (Kd.C_below HC1.out HBx.out) Hl1.out (by unfold hunk_changes.f; rw [hch])).mono ?_; rintro ee W1 ⟨rfl, hbW1⟩; have hX1 := (hbW1.block _ (blk_lt HX.out)).trans HX.out; have hX11 : W1.cell? ⟨wr.heap.size, 1, none⟩ = some (.slice A1 (rd_T47 s (n : Int)).f1.length c1) := (blk_cell hX1 1).trans rfl; have hX10 : W1.cell? ⟨wr.heap.size, 0, none⟩ = some (.int .i64 (rd_T47 s (n : Int)).f0) := (blk_cell hX1 0).trans rfl; have HX1 := Aside0.mk hX1; have HW1 := Aside0.mk hbW1; obtain ⟨v0, v2, ad4, c4, A5, c5, hg0, hg2, hg4, hy0, hy1, hz0, hz2, hle⟩ := hunk_place.elem (Kd.R_below (Kd.R_alloc HRr.out _) hbW1) i hil3 HF4.out; obtain ⟨cg, hgb⟩ := Kd.R_typed (Kd.R_below (Kd.R_alloc HRr.out _) hbW1) g (by simp [Value.ownBlock]); have hz3 : ∀ (o : Obj) (u : Value), ((W1.alloc o).setCell ⟨g, i * 5, none⟩ u).frozen? ⟨g, i * 5 + 2, none⟩ = false := fun o u => blk_frozen (blk_set (blk_alloc hgb o) (i * 5) u) _; have hg3 : ∀ (o : Obj) (u : Value), ((W1.alloc o).setCell ⟨g, i * 5, none⟩ u).cell? ⟨g, i * 5 + 2, none⟩ = some v2 := fun o u => (blk_cell (blk_set (blk_alloc hgb o) (i * 5) u) _).trans (by rw [Array.getElem?_setIfInBounds_ne (by omega)]; exact (blk_cell hgb _).symm.trans hg2); have hz4 : ∀ o : Obj, (W1.alloc o).frozen? ⟨g, i * 5, none⟩ = false := fun o => blk_frozen (blk_alloc hgb o) _; have hg4' : ∀ o : Obj, (W1.alloc o).cell? ⟨g, i * 5, none⟩ = some v0 := fun o => (blk_cell (blk_alloc hgb o) _).trans ((blk_cell hgb _).symm.trans hg0); have HGB := Aside0.mk hgb; have hXc : ∀ (o : Obj) (u v : Value) (j : Nat), (((W1.alloc o).setCell ⟨g, i * 5, none⟩ u).setCell ⟨g, i * 5 + 2, none⟩ v).cell? ⟨wr.heap.size, j, none⟩ = W1.cell? ⟨wr.heap.size, j, none⟩ := fun o u v j => (blk_cell (blk_far (blk_far (blk_alloc hX1 o) (p := ⟨g, i * 5, none⟩) HXg.out u) (p := ⟨g, i * 5 + 2, none⟩) HXg.out v) j).trans (blk_cell hX1 j).symm; have hXc0 : ∀ (o : Obj) (u v : Value), (((W1.alloc o).setCell ⟨g, i * 5, none⟩ u).setCell ⟨g, i * 5 + 2, none⟩ v).cell? ⟨wr.heap.size, 0, none⟩ = some (.int .i64 (rd_T47 s (n : Int)).f0) := fun o u v => (hXc o u v 0).trans hX10; have hXc1 : ∀ (o : Obj) (u v : Value), (((W1.alloc o).setCell ⟨g, i * 5, none⟩ u).setCell ⟨g, i * 5 + 2, none⟩ v).cell? ⟨wr.heap.size, 1, none⟩ = some (.slice A1 (rd_T47 s (n : Int)).f1.length c1) := fun o u v => (hXc o u v 1).trans hX11; clear hX1 hbW1 hgb hXc) | (go_at_call 68; refine (hunk_changes.calls (rd_T47 s (n : Int)).f0 A1 c1 (rd_T47 s (n : Int)).f1 true _ (Kd.C_below HC1.out ((((HBx.out.trans (HW1.out.mono HBx.out.size)).alloc (Nat.le_trans HBx.out.size HW1.out.size) _).setCell HGb.out _).setCell HGb.out _)) Hl1.out (by unfold hunk_changes.f; rw [hch])).mono ?_; rintro ee W4 ⟨rfl, hbW4⟩; have hX4 : W4.cell? ⟨wr.heap.size, 0, none⟩ = some (.int .i64 (rd_T47 s (n : Int)).f0) := (hbW4.cell (by simp; have := blk_lt HX1.out; omega)).trans (hXc0 _ _ _); have HW4 := Aside0.mk hbW4; clear hbW4))
        go_roundw
        case rel =>
         obtain rfl := HQ1.out
         have hs1 := HW1.out.size
         have hs4 := HW4.out.size
         simp only [World.size_alloc, World.size_setCell] at hs1 hs4
         have hl1 := Hln.out
         have hs0 := HBx.out.size
         simp only [World.size_alloc] at hs0
         have hR4 := Kd.R_below (hunk_place.set2 (Kd.R_alloc (Kd.R_below (Kd.R_alloc HRr.out _) HW1.out) _) i hil3 ((a : Int) - (e.f1.length : Int)) ((b : Int) - (e.f1.length : Int))) HW4.out
         rw [HL.out] at hR4
         refine ⟨n + 1, _, by omega, by first | rfl | exact congrArg _ HWa.out, by first | rfl | exact congrArg _ HWb.out, rfl, rfl, by first | rfl | exact congrArg _ HWn.out, by simp only; omega, by simp only; omega, by simp only; omega, ?_, Hq2.out, hR4, by omega, fun k hk hk2 => ?_, ?_⟩
         ·show l2.length = l.length
          rw [← HL.out, List.length_set]
          exact hql
         ·have hkg : k ≠ g := fun e => hk2 (by rw [e]; simp [Value.ownBlock])
          have hk4 : k < W1.heap.size := by omega
          exact ((HW4.out.block k (by simp only [World.size_alloc, World.size_setCell]; omega)).trans ((Below.heap_setCell _ ⟨g, i * 5 + 2, none⟩ _ k hkg).trans ((Below.heap_setCell _ ⟨g, i * 5, none⟩ _ k hkg).trans ((Below.heap_alloc _ _ _ hk4).trans ((HW1.out.block k (by rw [World.size_alloc]; omega)).trans (Below.heap_alloc _ _ _ (by omega))))))).trans (Hfr.out k hk hk2)
         ·exact ((((HB.out.alloc (by have := Hbw.out.size; omega) _).trans (HW1.out.mono HBx.out.size)).alloc (by omega) _).setCell HGb.out _).setCell HGb.out _ |>.trans (HW4.out.mono (by simp only [World.size_alloc, World.size_setCell]; omega))
        case measure =>
         try rw [HWn.out]
         simp only [intOf, Int.toNat_natCast]
         omega
       ·have he' : (e.f0 == 1) = false := beq_eq_false_iff_ne.mpr he
        have HL : Aside0 (q.set i ⟨(a : Int), (q.getD i z44).f1, (b : Int), (q.getD i z44).f3, (q.getD i z44).f4⟩ = l2) := ⟨by
         have h_ := Hl2.out
         unfold hunk_place.ld at h_
         rw [if_neg he] at h_
         simp only [Int.natCast_zero, Int.sub_zero] at h_
         exact h_⟩
        clear he
        go_wp2_with (first | (go_at_call 68; refine (hunk_changes.calls (rd_T47 s (n : Int)).f0 A1 c1 (rd_T47 s (n : Int)).f1 true (wr.alloc _) (Kd.C_below HC1.out HBx.out) Hl1.out (by unfold hunk_changes.f; rw [hch])).mono ?_; rintro ee W1 ⟨rfl, hbW1⟩; have hX1 := (hbW1.block _ (blk_lt HX.out)).trans HX.out; have hX11 : W1.cell? ⟨wr.heap.size, 1, none⟩ = some (.slice A1 (rd_T47 s (n : Int)).f1.length c1) := (blk_cell hX1 1).trans rfl; have hX10 : W1.cell? ⟨wr.heap.size, 0, none⟩ = some (.int .i64 (rd_T47 s (n : Int)).f0) := (blk_cell hX1 0).trans rfl; have HX1 := Aside0.mk hX1; have HW1 := Aside0.mk hbW1; obtain ⟨v0, v2, ad4, c4, A5, c5, hg0, hg2, hg4, hy0, hy1, hz0, hz2, hle⟩ := hunk_place.elem (Kd.R_below (Kd.R_alloc HRr.out _) hbW1) i hil3 HF4.out; obtain ⟨cg, hgb⟩ := Kd.R_typed (Kd.R_below (Kd.R_alloc HRr.out _) hbW1) g (by simp [Value.ownBlock]); have hz3 : ∀ (o : Obj) (u : Value), ((W1.alloc o).setCell ⟨g, i * 5, none⟩ u).frozen? ⟨g, i * 5 + 2, none⟩ = false := fun o u => blk_frozen (blk_set (blk_alloc hgb o) (i * 5) u) _; have hg3 : ∀ (o : Obj) (u : Value), ((W1.alloc o).setCell ⟨g, i * 5, none⟩ u).cell? ⟨g, i * 5 + 2, none⟩ = some v2 := fun o u => (blk_cell (blk_set (blk_alloc hgb o) (i * 5) u) _).trans (by rw [Array.getElem?_setIfInBounds_ne (by omega)]; exact (blk_cell hgb _).symm.trans hg2); have hz4 : ∀ o : Obj, (W1.alloc o).frozen? ⟨g, i * 5, none⟩ = false := fun o => blk_frozen (blk_alloc hgb o) _; have hg4' : ∀ o : Obj, (W1.alloc o).cell? ⟨g, i * 5, none⟩ = some v0 := fun o => (blk_cell (blk_alloc hgb o) _).trans ((blk_cell hgb _).symm.trans hg0); have HGB := Aside0.mk hgb; have hXc : ∀ (o : Obj) (u v : Value) (j : Nat), (((W1.alloc o).setCell ⟨g, i * 5, none⟩ u).setCell ⟨g, i * 5 + 2, none⟩ v).cell? ⟨wr.heap.size, j, none⟩ = W1.cell? ⟨wr.heap.size, j, none⟩ := fun o u v j => (blk_cell (blk_far (blk_far (blk_alloc hX1 o) (p := ⟨g, i * 5, none⟩) HXg.out u) (p := ⟨g, i * 5 + 2, none⟩) HXg.out v) j).trans (blk_cell hX1 j).symm; have hXc0 : ∀ (o : Obj) (u v : Value), (((W1.alloc o).setCell ⟨g, i * 5, none⟩ u).setCell ⟨g, i * 5 + 2, none⟩ v).cell? ⟨wr.heap.size, 0, none⟩ = some (.int .i64 (rd_T47 s (n : Int)).f0) := fun o u v => (hXc o u v 0).trans hX10; have hXc1 : ∀ (o : Obj) (u v : Value), (((W1.alloc o).setCell ⟨g, i * 5, none⟩ u).setCell ⟨g, i * 5 + 2, none⟩ v).cell? ⟨wr.heap.size, 1, none⟩ = some (.slice A1 (rd_T47 s (n : Int)).f1.length c1) := fun o u v => (hXc o u v 1).trans hX11; clear hX1 hbW1 hgb hXc) | (go_at_call 68; refine (hunk_changes.calls (rd_T47 s (n : Int)).f0 A1 c1 (rd_T47 s (n : Int)).f1 true _ (Kd.C_below HC1.out ((((HBx.out.trans (HW1.out.mono HBx.out.size)).alloc (Nat.le_trans HBx.out.size HW1.out.size) _).setCell HGb.out _).setCell HGb.out _)) Hl1.out (by unfold hunk_changes.f; rw [hch])).mono ?_; rintro ee W4 ⟨rfl, hbW4⟩; have hX4 : W4.cell? ⟨wr.heap.size, 0, none⟩ = some (.int .i64 (rd_T47 s (n : Int)).f0) := (hbW4.cell (by simp; have := blk_lt HX1.out; omega)).trans (hXc0 _ _ _); have HW4 := Aside0.mk hbW4; clear hbW4))
        go_roundw
        case rel =>
         obtain rfl := HQ1.out
         have hs1 := HW1.out.size
         have hs4 := HW4.out.size
         simp only [World.size_alloc, World.size_setCell] at hs1 hs4
         have hl1 := Hln.out
         have hs0 := HBx.out.size
         simp only [World.size_alloc] at hs0
         have hR4 := Kd.R_below (hunk_place.set2 (Kd.R_alloc (Kd.R_below (Kd.R_alloc HRr.out _) HW1.out) _) i hil3 (a : Int) (b : Int)) HW4.out
         rw [HL.out] at hR4
         refine ⟨n + 1, _, by omega, by first | rfl | exact congrArg _ HWa.out, by first | rfl | exact congrArg _ HWb.out, rfl, rfl, by first | rfl | exact congrArg _ HWn.out, by simp only; omega, by simp only; omega, by simp only; omega, ?_, Hq2.out, hR4, by omega, fun k hk hk2 => ?_, ?_⟩
         ·show l2.length = l.length
          rw [← HL.out, List.length_set]
          exact hql
         ·have hkg : k ≠ g := fun e => hk2 (by rw [e]; simp [Value.ownBlock])
          have hk4 : k < W1.heap.size := by omega
          exact ((HW4.out.block k (by simp only [World.size_alloc, World.size_setCell]; omega)).trans ((Below.heap_setCell _ ⟨g, i * 5 + 2, none⟩ _ k hkg).trans ((Below.heap_setCell _ ⟨g, i * 5, none⟩ _ k hkg).trans ((Below.heap_alloc _ _ _ hk4).trans ((HW1.out.block k (by rw [World.size_alloc]; omega)).trans (Below.heap_alloc _ _ _ (by omega))))))).trans (Hfr.out k hk hk2)
         ·exact ((((HB.out.alloc (by have := Hbw.out.size; omega) _).trans (HW1.out.mono HBx.out.size)).alloc (by omega) _).setCell HGb.out _).setCell HGb.out _ |>.trans (HW4.out.mono (by simp only [World.size_alloc, World.size_setCell]; omega))
        case measure =>
         try rw [HWn.out]
         simp only [intOf, Int.toNat_natCast]
         omega
      ·rw [if_neg h2, if_neg h2] at HQ1
       have h3 := hd23.resolve_left h2
       have hd2 : ((rd_T47 s (n : Int)).f0 != 2) = true := by simp [h3]
       have hd3 : ((rd_T47 s (n : Int)).f0 != 3) = false := by simp [h3]
       clear hd23 h2 h3
       by_cases he : e.f0 = 1
       ·have he' : (e.f0 == 1) = true := beq_iff_eq.mpr he
        have HL : Aside0 (q.set i ⟨(a : Int) - (e.f1.length : Int), (q.getD i z44).f1, (b : Int) - (e.f1.length : Int), (q.getD i z44).f3, (q.getD i z44).f4⟩ = l2) := ⟨by
         have h_ := Hl2.out
         unfold hunk_place.ld at h_
         rw [if_pos he] at h_
         exact h_⟩
        clear he
        go_wp2_with (first | (go_at_call 68; refine (hunk_changes.calls (rd_T47 s (n : Int)).f0 A1 c1 (rd_T47 s (n : Int)).f1 true (wr.alloc _) (Kd.C_below HC1.out HBx.out) Hl1.out (by unfold hunk_changes.f; rw [hch])).mono ?_; rintro ee W1 ⟨rfl, hbW1⟩; have hX1 := (hbW1.block _ (blk_lt HX.out)).trans HX.out; have hX11 : W1.cell? ⟨wr.heap.size, 1, none⟩ = some (.slice A1 (rd_T47 s (n : Int)).f1.length c1) := (blk_cell hX1 1).trans rfl; have hX10 : W1.cell? ⟨wr.heap.size, 0, none⟩ = some (.int .i64 (rd_T47 s (n : Int)).f0) := (blk_cell hX1 0).trans rfl; have HX1 := Aside0.mk hX1; have HW1 := Aside0.mk hbW1; obtain ⟨v0, v2, ad4, c4, A5, c5, hg0, hg2, hg4, hy0, hy1, hz0, hz2, hle⟩ := hunk_place.elem (Kd.R_below (Kd.R_alloc HRr.out _) hbW1) i hil3 HF4.out; obtain ⟨cg, hgb⟩ := Kd.R_typed (Kd.R_below (Kd.R_alloc HRr.out _) hbW1) g (by simp [Value.ownBlock]); have hz3 : ∀ (o : Obj) (u : Value), ((W1.alloc o).setCell ⟨g, i * 5, none⟩ u).frozen? ⟨g, i * 5 + 2, none⟩ = false := fun o u => blk_frozen (blk_set (blk_alloc hgb o) (i * 5) u) _; have hg3 : ∀ (o : Obj) (u : Value), ((W1.alloc o).setCell ⟨g, i * 5, none⟩ u).cell? ⟨g, i * 5 + 2, none⟩ = some v2 := fun o u => (blk_cell (blk_set (blk_alloc hgb o) (i * 5) u) _).trans (by rw [Array.getElem?_setIfInBounds_ne (by omega)]; exact (blk_cell hgb _).symm.trans hg2); have hz4 : ∀ o : Obj, (W1.alloc o).frozen? ⟨g, i * 5, none⟩ = false := fun o => blk_frozen (blk_alloc hgb o) _; have hg4' : ∀ o : Obj, (W1.alloc o).cell? ⟨g, i * 5, none⟩ = some v0 := fun o => (blk_cell (blk_alloc hgb o) _).trans ((blk_cell hgb _).symm.trans hg0); have HGB := Aside0.mk hgb; have hXc : ∀ (o : Obj) (u v : Value) (j : Nat), (((W1.alloc o).setCell ⟨g, i * 5, none⟩ u).setCell ⟨g, i * 5 + 2, none⟩ v).cell? ⟨wr.heap.size, j, none⟩ = W1.cell? ⟨wr.heap.size, j, none⟩ := fun o u v j => (blk_cell (blk_far (blk_far (blk_alloc hX1 o) (p := ⟨g, i * 5, none⟩) HXg.out u) (p := ⟨g, i * 5 + 2, none⟩) HXg.out v) j).trans (blk_cell hX1 j).symm; have hXc0 : ∀ (o : Obj) (u v : Value), (((W1.alloc o).setCell ⟨g, i * 5, none⟩ u).setCell ⟨g, i * 5 + 2, none⟩ v).cell? ⟨wr.heap.size, 0, none⟩ = some (.int .i64 (rd_T47 s (n : Int)).f0) := fun o u v => (hXc o u v 0).trans hX10; have hXc1 : ∀ (o : Obj) (u v : Value), (((W1.alloc o).setCell ⟨g, i * 5, none⟩ u).setCell ⟨g, i * 5 + 2, none⟩ v).cell? ⟨wr.heap.size, 1, none⟩ = some (.slice A1 (rd_T47 s (n : Int)).f1.length c1) := fun o u v => (hXc o u v 1).trans hX11; clear hX1 hbW1 hgb hXc) | (go_at_call 68; refine (hunk_changes.calls (rd_T47 s (n : Int)).f0 A1 c1 (rd_T47 s (n : Int)).f1 true _ (Kd.C_below HC1.out ((((HBx.out.trans (HW1.out.mono HBx.out.size)).alloc (Nat.le_trans HBx.out.size HW1.out.size) _).setCell HGb.out _).setCell HGb.out _)) Hl1.out (by unfold hunk_changes.f; rw [hch])).mono ?_; rintro ee W4 ⟨rfl, hbW4⟩; have hX4 : W4.cell? ⟨wr.heap.size, 0, none⟩ = some (.int .i64 (rd_T47 s (n : Int)).f0) := (hbW4.cell (by simp; have := blk_lt HX1.out; omega)).trans (hXc0 _ _ _); have HW4 := Aside0.mk hbW4; clear hbW4))
        go_roundw
        case rel =>
         obtain rfl := HQ1.out
         have hs1 := HW1.out.size
         have hs4 := HW4.out.size
         simp only [World.size_alloc, World.size_setCell] at hs1 hs4
         have hl1 := Hln.out
         have hs0 := HBx.out.size
         simp only [World.size_alloc] at hs0
         have hR4 := Kd.R_below (hunk_place.set2 (Kd.R_alloc (Kd.R_below (Kd.R_alloc HRr.out _) HW1.out) _) i hil3 ((a : Int) - (e.f1.length : Int)) ((b : Int) - (e.f1.length : Int))) HW4.out
         rw [HL.out] at hR4
         refine ⟨n + 1, _, by omega, by first | rfl | exact congrArg _ HWa.out, by first | rfl | exact congrArg _ HWb.out, rfl, rfl, by first | rfl | exact congrArg _ HWn.out, by simp only; omega, by simp only; omega, by simp only; omega, ?_, Hq2.out, hR4, by omega, fun k hk hk2 => ?_, ?_⟩
         ·show l2.length = l.length
          rw [← HL.out, List.length_set]
          exact hql
         ·have hkg : k ≠ g := fun e => hk2 (by rw [e]; simp [Value.ownBlock])
          have hk4 : k < W1.heap.size := by omega
          exact ((HW4.out.block k (by simp only [World.size_alloc, World.size_setCell]; omega)).trans ((Below.heap_setCell _ ⟨g, i * 5 + 2, none⟩ _ k hkg).trans ((Below.heap_setCell _ ⟨g, i * 5, none⟩ _ k hkg).trans ((Below.heap_alloc _ _ _ hk4).trans ((HW1.out.block k (by rw [World.size_alloc]; omega)).trans (Below.heap_alloc _ _ _ (by omega))))))).trans (Hfr.out k hk hk2)
         ·exact ((((HB.out.alloc (by have := Hbw.out.size; omega) _).trans (HW1.out.mono HBx.out.size)).alloc (by omega) _).setCell HGb.out _).setCell HGb.out _ |>.trans (HW4.out.mono (by simp only [World.size_alloc, World.size_setCell]; omega))
        case measure =>
         try rw [HWn.out]
         simp only [intOf, Int.toNat_natCast]
         omega
       ·have he' : (e.f0 == 1) = false := beq_eq_false_iff_ne.mpr he
        have HL : Aside0 (q.set i ⟨(a : Int), (q.getD i z44).f1, (b : Int), (q.getD i z44).f3, (q.getD i z44).f4⟩ = l2) := ⟨by
         have h_ := Hl2.out
         unfold hunk_place.ld at h_
         rw [if_neg he] at h_
         simp only [Int.natCast_zero, Int.sub_zero] at h_
         exact h_⟩
        clear he
        go_wp2_with (first | (go_at_call 68; refine (hunk_changes.calls (rd_T47 s (n : Int)).f0 A1 c1 (rd_T47 s (n : Int)).f1 true (wr.alloc _) (Kd.C_below HC1.out HBx.out) Hl1.out (by unfold hunk_changes.f; rw [hch])).mono ?_; rintro ee W1 ⟨rfl, hbW1⟩; have hX1 := (hbW1.block _ (blk_lt HX.out)).trans HX.out; have hX11 : W1.cell? ⟨wr.heap.size, 1, none⟩ = some (.slice A1 (rd_T47 s (n : Int)).f1.length c1) := (blk_cell hX1 1).trans rfl; have hX10 : W1.cell? ⟨wr.heap.size, 0, none⟩ = some (.int .i64 (rd_T47 s (n : Int)).f0) := (blk_cell hX1 0).trans rfl; have HX1 := Aside0.mk hX1; have HW1 := Aside0.mk hbW1; obtain ⟨v0, v2, ad4, c4, A5, c5, hg0, hg2, hg4, hy0, hy1, hz0, hz2, hle⟩ := hunk_place.elem (Kd.R_below (Kd.R_alloc HRr.out _) hbW1) i hil3 HF4.out; obtain ⟨cg, hgb⟩ := Kd.R_typed (Kd.R_below (Kd.R_alloc HRr.out _) hbW1) g (by simp [Value.ownBlock]); have hz3 : ∀ (o : Obj) (u : Value), ((W1.alloc o).setCell ⟨g, i * 5, none⟩ u).frozen? ⟨g, i * 5 + 2, none⟩ = false := fun o u => blk_frozen (blk_set (blk_alloc hgb o) (i * 5) u) _; have hg3 : ∀ (o : Obj) (u : Value), ((W1.alloc o).setCell ⟨g, i * 5, none⟩ u).cell? ⟨g, i * 5 + 2, none⟩ = some v2 := fun o u => (blk_cell (blk_set (blk_alloc hgb o) (i * 5) u) _).trans (by rw [Array.getElem?_setIfInBounds_ne (by omega)]; exact (blk_cell hgb _).symm.trans hg2); have hz4 : ∀ o : Obj, (W1.alloc o).frozen? ⟨g, i * 5, none⟩ = false := fun o => blk_frozen (blk_alloc hgb o) _; have hg4' : ∀ o : Obj, (W1.alloc o).cell? ⟨g, i * 5, none⟩ = some v0 := fun o => (blk_cell (blk_alloc hgb o) _).trans ((blk_cell hgb _).symm.trans hg0); have HGB := Aside0.mk hgb; have hXc : ∀ (o : Obj) (u v : Value) (j : Nat), (((W1.alloc o).setCell ⟨g, i * 5, none⟩ u).setCell ⟨g, i * 5 + 2, none⟩ v).cell? ⟨wr.heap.size, j, none⟩ = W1.cell? ⟨wr.heap.size, j, none⟩ := fun o u v j => (blk_cell (blk_far (blk_far (blk_alloc hX1 o) (p := ⟨g, i * 5, none⟩) HXg.out u) (p := ⟨g, i * 5 + 2, none⟩) HXg.out v) j).trans (blk_cell hX1 j).symm; have hXc0 : ∀ (o : Obj) (u v : Value), (((W1.alloc o).setCell ⟨g, i * 5, none⟩ u).setCell ⟨g, i * 5 + 2, none⟩ v).cell? ⟨wr.heap.size, 0, none⟩ = some (.int .i64 (rd_T47 s (n : Int)).f0) := fun o u v => (hXc o u v 0).trans hX10; have hXc1 : ∀ (o : Obj) (u v : Value), (((W1.alloc o).setCell ⟨g, i * 5, none⟩ u).setCell ⟨g, i * 5 + 2, none⟩ v).cell? ⟨wr.heap.size, 1, none⟩ = some (.slice A1 (rd_T47 s (n : Int)).f1.length c1) := fun o u v => (hXc o u v 1).trans hX11; clear hX1 hbW1 hgb hXc) | (go_at_call 68; refine (hunk_changes.calls (rd_T47 s (n : Int)).f0 A1 c1 (rd_T47 s (n : Int)).f1 true _ (Kd.C_below HC1.out ((((HBx.out.trans (HW1.out.mono HBx.out.size)).alloc (Nat.le_trans HBx.out.size HW1.out.size) _).setCell HGb.out _).setCell HGb.out _)) Hl1.out (by unfold hunk_changes.f; rw [hch])).mono ?_; rintro ee W4 ⟨rfl, hbW4⟩; have hX4 : W4.cell? ⟨wr.heap.size, 0, none⟩ = some (.int .i64 (rd_T47 s (n : Int)).f0) := (hbW4.cell (by simp; have := blk_lt HX1.out; omega)).trans (hXc0 _ _ _); have HW4 := Aside0.mk hbW4; clear hbW4))
        go_roundw
        case rel =>
         obtain rfl := HQ1.out
         have hs1 := HW1.out.size
         have hs4 := HW4.out.size
         simp only [World.size_alloc, World.size_setCell] at hs1 hs4
         have hl1 := Hln.out
         have hs0 := HBx.out.size
         simp only [World.size_alloc] at hs0
         have hR4 := Kd.R_below (hunk_place.set2 (Kd.R_alloc (Kd.R_below (Kd.R_alloc HRr.out _) HW1.out) _) i hil3 (a : Int) (b : Int)) HW4.out
         rw [HL.out] at hR4
         refine ⟨n + 1, _, by omega, by first | rfl | exact congrArg _ HWa.out, by first | rfl | exact congrArg _ HWb.out, rfl, rfl, by first | rfl | exact congrArg _ HWn.out, by simp only; omega, by simp only; omega, by simp only; omega, ?_, Hq2.out, hR4, by omega, fun k hk hk2 => ?_, ?_⟩
         ·show l2.length = l.length
          rw [← HL.out, List.length_set]
          exact hql
         ·have hkg : k ≠ g := fun e => hk2 (by rw [e]; simp [Value.ownBlock])
          have hk4 : k < W1.heap.size := by omega
          exact ((HW4.out.block k (by simp only [World.size_alloc, World.size_setCell]; omega)).trans ((Below.heap_setCell _ ⟨g, i * 5 + 2, none⟩ _ k hkg).trans ((Below.heap_setCell _ ⟨g, i * 5, none⟩ _ k hkg).trans ((Below.heap_alloc _ _ _ hk4).trans ((HW1.out.block k (by rw [World.size_alloc]; omega)).trans (Below.heap_alloc _ _ _ (by omega))))))).trans (Hfr.out k hk hk2)
         ·exact ((((HB.out.alloc (by have := Hbw.out.size; omega) _).trans (HW1.out.mono HBx.out.size)).alloc (by omega) _).setCell HGb.out _).setCell HGb.out _ |>.trans (HW4.out.mono (by simp only [World.size_alloc, World.size_setCell]; omega))
        case measure =>
         try rw [HWn.out]
         simp only [intOf, Int.toNat_natCast]
         omega
    ·rw [if_neg hd23] at hq1
     cases hq1
  ·obtain rfl : n = s.length := by omega
   rw [List.drop_length] at hq
   obtain rfl := Option.some.inj hq
   have hlt' : decide ((s.length : Int) < (s.length : Int)) = false := decide_eq_false (by omega)
   clear hlt hn
   go_wp2
   go_end0
   exact ⟨rfl, hRr, hsz1, hfr, hB⟩


end Go.Proofs.Ytfnbodjmmkjlcaa.H
end
section
namespace Go.Proofs.Ytfnbodjmmkjlcaa.H
open Go.RowKit Go.Proofs.YtfnbodjmmkjlcaaW.PrintWords Go.Proofs.YtfnbodjmmkjlcaaW.PrintLast Go.Proofs.YtfnbodjmmkjlcaaW.PrintMore
attribute [local go_sem] max2_int min2_int max_two min_two max_three min_three max_four min_four   -- for this text's walks alone
set_option linter.unusedVariables false
set_option linter.unusedSimpArgs false

/-- All edits, one by one. -/
def hunk_Build.allp (k c : Nat) : List S47 → hunk_Build.St → Option hunk_Build.St
 | [], s => some s
 | x :: xs, s => (hunk_Build.takep k c s x xs.isEmpty).bind (hunk_Build.allp k c xs)
def hunk_Build.fin (k : Nat) (s : hunk_Build.St) : Option (List S44) := if 0 < s.now.length then (hunk_Build.hk k s.now).bind fun h => some (s.out ++ [h]) else some s.out
def hunk_Build.run (k c : Nat) (n : List S47) : Option (List S44) :=
 if n.length ≤ 1000000 ∧ script_normal.lines n ≤ 1000000 then (hunk_Build.allp k c n ⟨[], [], []⟩).bind fun s => (hunk_Build.fin k s).bind fun o => (hunk_place.p c n 0 ⟨0, 0, 0, true, o⟩).bind fun q => some q.l else none
def hunk_Build.f (k : Nat) (l0 : List S47) (a1 : Int) : Option (List S44 × Int) :=
 (script_Normal.f k l0).bind fun t => if t.2 = 0 then (if a1 < 0 ∨ 20 < a1 then some ([], 2) else (hunk_Build.run k a1.toNat t.1).bind fun h => some (h, 0)) else some ([], t.2)
theorem hunk_Build.hk_mono (k : Nat) (n : List S47) : LeO (hunk_Build.hk k n) (hunk_Build.hk (k + 1) n) := LeO.bind (script_Sides.mono _ k) (fun _ => LeO.refl _)
theorem hunk_Build.takep_mono (k c : Nat) (s : hunk_Build.St) (x : S47) (b : Bool) : LeO (hunk_Build.takep k c s x b) (hunk_Build.takep (k + 1) c s x b) := by
 unfold hunk_Build.takep
 exact LeO.ite (LeO.ite (LeO.refl _) (LeO.ite (LeO.bind (hunk_Build.hk_mono k _) (fun _ => LeO.refl _)) (LeO.refl _))) (LeO.ite (LeO.refl _) (LeO.refl _))
theorem hunk_Build.allp_mono (k c : Nat) : ∀ (n : List S47) (s : hunk_Build.St), LeO (hunk_Build.allp k c n s) (hunk_Build.allp (k + 1) c n s)
 | [], s => LeO.refl _
 | x :: xs, s => by
  unfold hunk_Build.allp
  exact LeO.bind (hunk_Build.takep_mono k c s x _) (fun s' => hunk_Build.allp_mono k c xs s')
theorem hunk_Build.mono : ∀ a0 a1 k, LeO (hunk_Build.f k a0 a1) (hunk_Build.f (k + 1) a0 a1) := by
 intro a0 a1 k
 unfold hunk_Build.f
 refine LeO.bind (script_Normal.mono _ k) (fun t => LeO.ite (LeO.ite (LeO.refl _) (LeO.bind ?_ (fun _ => LeO.refl _))) (LeO.refl _))
 unfold hunk_Build.run
 refine LeO.ite (LeO.bind (hunk_Build.allp_mono k _ _ _) (fun s => LeO.bind ?_ (fun _ => LeO.refl _))) (LeO.refl _)
 unfold hunk_Build.fin
 exact LeO.ite (LeO.bind (hunk_Build.hk_mono k _) (fun _ => LeO.refl _)) (LeO.refl _)
theorem hunk_Build.lead_len (c : Nat) (l : List S66) : (hunk_Build.lead c l).length ≤ 1 := by
 unfold hunk_Build.lead
 split <;> simp
theorem hunk_Build.takep_len {k c : Nat} {s s' : hunk_Build.St} {x : S47} {b : Bool} {N : Nat} (h : hunk_Build.takep k c s x b = some s') (hx : x.f1.length ≤ N) (ha : s.ah.length ≤ N) : s'.now.length ≤ s.now.length + 2 ∧ s'.out.length ≤ s.out.length + 1 ∧ s'.ah.length ≤ N := by
 unfold hunk_Build.takep at h
 split at h
 ·split at h
  ·obtain rfl := Option.some.inj h
   exact ⟨by simp only; omega, by simp only; omega, hx⟩
  ·split at h
   ·obtain ⟨q, _, h⟩ := Option.bind_eq_some_iff.1 h
    obtain rfl := Option.some.inj h
    exact ⟨by simp, by simp, hx⟩
   ·obtain rfl := Option.some.inj h
    exact ⟨by simp, by simp only; omega, ha⟩
 ·have := hunk_Build.lead_len c s.ah
  split at h
  ·obtain rfl := Option.some.inj h
   exact ⟨by simp only [List.length_append, List.length_singleton]; omega, by simp only; omega, by simp⟩
  ·obtain rfl := Option.some.inj h
   exact ⟨by simp, by simp only; omega, ha⟩
theorem hunk_Build.Is.alloc {w0 w : World} {b c : Nat} {kp : Nat → Prop} {s : hunk_Build.St} (h : hunk_Build.Is w0 b kp w c s) (o : Obj) : hunk_Build.Is w0 b kp (w.alloc o) c s := by
 obtain ⟨A, ca, ⟨vo, vn, hb, hvo, hvn⟩, hC, hl⟩ := h
 exact ⟨A, ca, ⟨vo, vn, blk_alloc hb o, Kd.R_alloc hvo o, Kd.R_alloc hvn o⟩, hC, hl⟩
set_option maxHeartbeats 4000000 in
set_option maxRecDepth 100000 in
theorem hunk_Build.calls (k : Nat) (A0 : Option Addr) (c0 : Nat) (l0 : List S47) (a1 : Int) (r1 : List S44) (r2 : Int) (w : World) (hr0 : Kd.C k47 w A0 l0.length l0) (hc0 : l0.length ≤ c0) (h : hunk_Build.f k l0 a1 = some (r1, r2)) :
  Calls Try.prog 15 #[.slice A0 l0.length c0, .int .i64 a1] w fun e w' => ∃ v0_ : Value, e = .returned (.tuple #[v0_, .int .i64 r2]) ∧ Kd.R k44 44 w' w.heap.size (fun _ => True) v0_ r1 ∧ Below w.heap.size w w' := by
 unfold hunk_Build.f at h
 obtain ⟨⟨n, e0⟩, hN, h⟩ := Option.bind_eq_some_iff.1 h
 simp only at h
 have HN := Aside0.mk (script_Normal.calls k A0 c0 l0 n e0 w hr0 hc0 hN)
 clear hN hr0 hc0
 by_cases he0 : e0 = 0
 ·subst he0
  rw [if_pos rfl] at h
  by_cases ha : a1 < 0 ∨ 20 < a1
  ·rw [if_pos ha] at h
   have hr := Option.some.inj h
   simp only [Prod.mk.injEq] at hr
   obtain ⟨rfl, rfl⟩ := hr
   clear h
   by_cases ha0 : a1 < 0
   ·have hd : decide (a1 < 0) = true := decide_eq_true ha0
    clear ha ha0
    go_enter Try.func15, Try.ntmps15
    go_wp2_with (go_at_call 42; refine HN.out.mono ?_; rintro e w1 ⟨v0, rfl, ho, hb⟩)
    go_ret2
    exact ⟨_, rfl, Kd.R_nil _ _ _ _ _, hb⟩
   ·have hd : decide (a1 < 0) = false := decide_eq_false ha0
    have hd2 : decide (a1 > 20) = true := decide_eq_true (ha.resolve_left ha0)
    clear ha ha0
    go_enter Try.func15, Try.ntmps15
    go_wp2_with (go_at_call 42; refine HN.out.mono ?_; rintro e w1 ⟨v0, rfl, ho, hb⟩)
    go_ret2
    exact ⟨_, rfl, Kd.R_nil _ _ _ _ _, hb⟩
  ·rw [if_neg ha] at h
   have hd : decide (a1 < 0) = false := decide_eq_false (fun h => ha (.inl h))
   have hd2 : decide (a1 > 20) = false := decide_eq_false (fun h => ha (.inr h))
   obtain ⟨c, rfl⟩ : ∃ c : Nat, a1 = c := ⟨a1.toNat, by omega⟩
   rw [Int.toNat_natCast] at h
   have hc20 : c ≤ 20 := by omega
   obtain ⟨o, hrun, h⟩ := Option.bind_eq_some_iff.1 h
   have hr := Option.some.inj h
   simp only [Prod.mk.injEq] at hr
   obtain ⟨rfl, rfl⟩ := hr
   unfold hunk_Build.run at hrun
   split at hrun
   case isFalse => cases hrun
   rename_i hsz
   obtain ⟨hs1, hs2⟩ := hsz
   obtain ⟨sF, hall, hrun⟩ := Option.bind_eq_some_iff.1 hrun
   obtain ⟨oF, hfin, hrun⟩ := Option.bind_eq_some_iff.1 hrun
   obtain ⟨q, hpl, hrun⟩ := Option.bind_eq_some_iff.1 hrun
   obtain rfl := Option.some.inj hrun
   have Hall := Aside0.mk hall
   have Hfin := Aside0.mk hfin
   have Hpl := Aside0.mk hpl
   clear h hrun hall hfin hpl ha
   go_enter Try.func15, Try.ntmps15
   go_wp2_with (go_at_call 42; refine HN.out.mono ?_; rintro e w1 ⟨v0, rfl, ho, hb⟩; obtain ⟨An, cn, rfl, hcn, hCn⟩ := Kd.R_reads (Kd.S_R ho); have HCn := Aside0.mk hCn; have Hcn := Aside0.mk hcn; have HB := Aside0.mk hb; clear ho hb hCn hcn)
   go_loopw [32] (fun v wr => ∃ (m : Nat) (s : hunk_Build.St), m ≤ n.length ∧ v = .int .i64 (m : Int) ∧ hunk_Build.allp k c (n.drop m) s = some sF ∧ hunk_Build.Is w1 w1.heap.size (fun _ => False) wr c s ∧ s.now.length ≤ 2 * m ∧ s.out.length ≤ m ∧ s.ah.length ≤ 1000000 ∧ Below w1.heap.size w1 wr)
    (fun v _ => n.length - (intOf v).toNat)
   case atStart =>
    refine ⟨0, ⟨[], [], []⟩, Nat.zero_le _, rfl, Hall.out, ⟨none, 0, ⟨_, _, World.alloc_heap_new w1 _, Kd.R_nil _ _ _ _ _, Kd.R_nil _ _ _ _ _⟩, ⟨rfl, Nat.zero_le _, fun h => absurd h (by simp)⟩, Nat.le_refl _⟩, Nat.le_refl _, Nat.le_refl _, Nat.zero_le _, below_alloc (Below.refl _ _) _⟩
   case round =>
    obtain ⟨m, s, hm, rfl, hall, his, hl1, hl2, hl3, hBr⟩ := hrel
    by_cases hlt : m < n.length
    ·have hx : rd_T47 n (m : Int) = n[m] := by
      simp [rd_T47, hlt]
     have hlt' : decide ((m : Int) < (n.length : Int)) = true := decide_eq_true (by omega)
     rw [List.drop_eq_getElem_cons hlt, ← hx] at hall
     unfold hunk_Build.allp at hall
     obtain ⟨s', hs', hall⟩ := Option.bind_eq_some_iff.1 hall
     have hxl : (rd_T47 n (m : Int)).f1.length ≤ 1000000 := Nat.le_trans (script_normal.lines_le (by rw [hx]; exact List.getElem_mem _)) hs2
     have hlen := hunk_Build.takep_len hs' hxl hl3
     obtain ⟨ad, A1, c1, e, hx0, hx1, hl5, hC1⟩ := at_T47 HCn.out (m : Int) (by omega) (by omega)
     cases e
     replace hx0 := (hBr.cell (World.block_lt_of_cell? w1 _ hx0)).trans hx0
     replace hx1 := (hBr.cell (World.block_lt_of_cell? w1 _ hx1)).trans hx1
     simp only [Int.toNat_natCast] at hx0 hx1
     have HC1 := Aside0.mk hC1
     have Hl5 := Aside0.mk hl5
     have HIs := Aside0.mk his
     have HBr := Aside0.mk hBr
     have Hall2 := Aside0.mk hall
     have Hlen := Aside0.mk hlen
     have HWm : Aside0 (wrap64 ((m : Int) + 1) = ((m + 1 : Nat) : Int)) := ⟨by unfold wrap64; omega⟩
     by_cases hlast : m + 1 = n.length
     ·have he : (n.drop (m + 1)).isEmpty = true := by rw [List.drop_of_length_le (by omega)]; rfl
      rw [he] at hs'
      have hq : ((m : Int) == (n.length : Int) - 1) = true := beq_iff_eq.mpr (by omega)
      have Hs' := Aside0.mk hs'
      clear hx hall his hBr hC1 hl5 hlen hs' he hlast
      go_wp2_with (go_at_call 43; refine (hunk_Build.take_calls k w1 w1.heap.size c s s' (rd_T47 n (m : Int)) true A1 c1 _ (Nat.le_refl _) (HIs.out.alloc _) HC1.out Hl5.out (HBr.out.alloc HBr.out.size _) (by omega) (by omega) (by omega) (by omega) (by omega) Hs'.out).mono ?_; rintro e w2 ⟨rfl, his2, hB2⟩)
      go_roundw
      case rel =>
       have hl := Hlen.out
       exact ⟨m + 1, s', by omega, by first | rfl | exact congrArg _ HWm.out, Hall2.out, his2, by omega, by omega, hl.2.2, (HBr.out.alloc HBr.out.size _).trans hB2⟩
      case measure =>
       try rw [HWm.out]
       simp only [intOf, Int.toNat_natCast]
       omega
     ·have he : (n.drop (m + 1)).isEmpty = false := by
       rw [List.drop_eq_getElem_cons (by omega)]
       rfl
      rw [he] at hs'
      have hq : ((m : Int) == (n.length : Int) - 1) = false := beq_eq_false_iff_ne.mpr (by omega)
      have Hs' := Aside0.mk hs'
      clear hx hall his hBr hC1 hl5 hlen hs' he hlast
      go_wp2_with (go_at_call 43; refine (hunk_Build.take_calls k w1 w1.heap.size c s s' (rd_T47 n (m : Int)) false A1 c1 _ (Nat.le_refl _) (HIs.out.alloc _) HC1.out Hl5.out (HBr.out.alloc HBr.out.size _) (by omega) (by omega) (by omega) (by omega) (by omega) Hs'.out).mono ?_; rintro e w2 ⟨rfl, his2, hB2⟩)
      go_roundw
      case rel =>
       have hl := Hlen.out
       exact ⟨m + 1, s', by omega, by first | rfl | exact congrArg _ HWm.out, Hall2.out, his2, by omega, by omega, hl.2.2, (HBr.out.alloc HBr.out.size _).trans hB2⟩
      case measure =>
       try rw [HWm.out]
       simp only [intOf, Int.toNat_natCast]
       omega
    ·obtain rfl : m = n.length := by omega
     rw [List.drop_length] at hall
     obtain rfl := Option.some.inj hall
     have hlt' : decide ((n.length : Int) < (n.length : Int)) = false := decide_eq_false (by omega)
     obtain ⟨Aa, ca, hat, hCa, hca⟩ := his
     obtain ⟨out, now, ah⟩ := s
     simp only at hat hCa hca hl1 hl2 hl3
     have hfin := Hfin.out
     unfold hunk_Build.fin at hfin
     simp only at hfin
     obtain ⟨vo, vn, hb, hvo, hvn⟩ := hat
     obtain ⟨An2, cn2, rfl⟩ := Kd.R_slice hvn
     have hb2 : wr.cell? ⟨w1.heap.size, 2, none⟩ = some (.slice An2 now.length cn2) := (blk_cell hb 2).trans rfl
     have hb1 : wr.cell? ⟨w1.heap.size, 1, none⟩ = some vo := (blk_cell hb 1).trans rfl
     obtain ⟨Ao, co, rfl⟩ := Kd.R_slice hvo
     have Hb := Aside0.mk hb
     have Hvo := Aside0.mk hvo
     have Hvn := Aside0.mk hvn
     have HBr := Aside0.mk hBr
     by_cases hn : 0 < now.length
     ·rw [if_pos hn] at hfin
      have hn' : decide (0 < now.length) = true := decide_eq_true hn
      obtain ⟨hh, hk1, hk2⟩ := Option.bind_eq_some_iff.1 hfin
      unfold hunk_Build.hk at hk1
      obtain ⟨⟨r1, r2, r3⟩, hsd, hk3⟩ := Option.bind_eq_some_iff.1 hk1
      obtain rfl := Option.some.inj hk3
      have Hk2 := Aside0.mk (Option.some.inj hk2)
      have htr : hunk_Build.trail c [] = [] := by
       unfold hunk_Build.trail
       rw [if_neg (by simp)]
      have hE := hunk_Build.end_calls k w1 w1.heap.size (fun _ => False) c out now [] none 0 (.slice Aa ah.length ca) r1 r2 r3 wr (Nat.le_refl _) (fun h => h) (fun _ h => h.elim) ⟨_, _, Hb.out, Hvo.out, Hvn.out⟩ ⟨rfl, Nat.zero_le _, fun h => absurd h (by simp)⟩ (Nat.le_refl _) HBr.out (by omega) (by simp) (by omega) (by omega) (by rw [htr, List.append_nil]; exact hsd)
      rw [htr, List.append_nil] at hE
      simp only at Hk2
      rw [Hk2.out] at hE
      have HE := Aside0.mk hE
      clear hE hk1 hk2 hk3 hsd htr hfin hn hlt hm hall Hfin Hvo Hvn hb hvo hvn hBr Hk2
      go_wp2_with (first | (go_at_call 44; refine HE.out.mono ?_; rintro e w5 ⟨rfl, ⟨vo5, vn5, hb5, hvo5, hvn5⟩, hB5, _⟩; obtain ⟨Ao5, co5, rfl⟩ := Kd.R_slice hvo5; have hc51 : w5.cell? ⟨w1.heap.size, 1, none⟩ = some (.slice Ao5 oF.length co5) := (blk_cell hb5 1).trans rfl; have HB5 := Aside0.mk hB5; have Hb5 := Aside0.mk hb5; have Hvo5 := Aside0.mk hvo5; clear hb5 hvo5 hvn5 hB5) | (go_at_call 45; refine (hunk_place.calls w1 c n An cn oF (.slice Ao5 oF.length co5) _ q w5 (by omega) HCn.out (HBr.out.trans HB5.out) Hcn.out hs2 Hvo5.out Hpl.out).mono ?_; rintro e w6 ⟨rfl, hR6, hs6, hfr6, hB6⟩; have hb6 := (hfr6 _ (blk_lt Hb5.out) (Kd.R_ne Hvo5.out Hb5.out (by decide))).trans Hb5.out; have hc6 : w6.cell? ⟨w1.heap.size, 1, none⟩ = some (.slice Ao5 oF.length co5) := (blk_cell hb6 1).trans rfl; clear hb6))
      go_ret2
      exact ⟨_, rfl, Kd.R_mono (Kd.R_lower hR6 HB.out.size) (fun _ _ => trivial), HB.out.trans (((HBr.out.trans HB5.out).trans hB6).mono HB.out.size)⟩
     ·rw [if_neg hn] at hfin
      have hn' : decide (0 < now.length) = false := decide_eq_false hn
      obtain rfl := Option.some.inj hfin
      clear hfin hn hlt hm hall Hfin hb hvo hvn hBr
      go_wp2_with (go_at_call 45; refine (hunk_place.calls w1 c n An cn out (.slice Ao out.length co) _ q wr (by omega) HCn.out HBr.out Hcn.out hs2 Hvo.out Hpl.out).mono ?_; rintro e w6 ⟨rfl, hR6, hs6, hfr6, hB6⟩; have hb6 := (hfr6 _ (blk_lt Hb.out) (Kd.R_ne Hvo.out Hb.out (by decide))).trans Hb.out; have hc6 : w6.cell? ⟨w1.heap.size, 1, none⟩ = some (.slice Ao out.length co) := (blk_cell hb6 1).trans rfl; clear hb6)
      go_ret2
      exact ⟨_, rfl, Kd.R_mono (Kd.R_lower hR6 HB.out.size) (fun _ _ => trivial), HB.out.trans ((HBr.out.trans hB6).mono HB.out.size)⟩
 ·rw [if_neg he0] at h
  have hr := Option.some.inj h
  simp only [Prod.mk.injEq] at hr
  obtain ⟨rfl, rfl⟩ := hr
  have hne : (e0 != 0) = true := bne_iff_ne.mpr he0
  clear h he0
  go_enter Try.func15, Try.ntmps15
  go_wp2_with (go_at_call 42; refine HN.out.mono ?_; rintro e w1 ⟨v0, rfl, ho, hb⟩)
  go_ret2
  exact ⟨_, rfl, Kd.R_nil _ _ _ _ _, hb⟩


end Go.Proofs.Ytfnbodjmmkjlcaa.H
end
section
namespace Go.Proofs.Ytfnbodjmmkjlcaa.Ra
open Go.RowKit Go.Proofs.YtfnbodjmmkjlcaaW.PrintWords Go.Proofs.YtfnbodjmmkjlcaaW.PrintLast
section
variable {P : Program}
theorem cut_mid3 (t e : TypeId) (kl kh km : IntKind) {i : TypeInfo} (ht : P.underlying t = some (.slice e)) (hi : P.info? e = some i) (size : Nat) (hsz : i.size = size) (A : Option Addr) (n c : Nat) (lo hi' : Int) (h0 : 0 ≤ lo) (h1 : lo ≤ hi') (h2 : hi' ≤ n) (hc : n ≤ c) :
    ∀ W : World, (Instr.slice t (.slice A n c) (some (.int kl lo)) (some (.int kh hi')) (some (.int km hi'))).run P W = .ok (.slice (if hi'.toNat = lo.toNat then A else A.map (·.add (lo.toNat * size))) (hi'.toNat - lo.toNat) (hi'.toNat - lo.toNat)) W := by
  intro W
  have hel : P.elem t = e := by simp [Program.elem, ht]
  have hu : P.underlying t = some (.slice (P.elem t)) := by rw [hel]; exact ht
  rw [run_slice_lhm W t A n c hu kl kh km lo hi' hi' h0 h1 (Int.le_refl _) (by omega), hel]
  simp [sizeOf, typeInfo, hi, hsz, sliced, Result.andThen]
end
variable {P : Program} {ops : Array Oper} {rest : List Oper} {o : Oper} {a : Act} {Q : Exit → Act → World → Prop} {α : Type}
end Go.Proofs.Ytfnbodjmmkjlcaa.Ra
end
