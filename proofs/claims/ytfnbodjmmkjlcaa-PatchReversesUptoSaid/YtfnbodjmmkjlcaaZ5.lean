/-
  What the claim needs of the words, of the walks and of the plain proofs, in one row (5).
-/
import Derived.Deep.RegionHeld3
import Derived.WalkLawsBesides
import Derived.WalkSpells
import Derived.RangeFuncNested
import Derived.RangeFuncBound
import Derived.RangeFuncCalls
import Derived.RangeFuncLeaves
import Derived.RangeFuncBox
import Derived.RangeFuncMany
import Derived.Shelf.Abstract
import Derived.OwnWalkIn
import Derived.TacticsInMore
import Derived.LoopNIn
import Derived.LoopIn
import Derived.Test.YtfnbodjmmkjlcaaZ0
import Derived.Test.YtfnbodjmmkjlcaaZ1
import Derived.Test.YtfnbodjmmkjlcaaZ2
import Derived.Test.YtfnbodjmmkjlcaaZ3
import Derived.Test.YtfnbodjmmkjlcaaZ4
section
namespace Go.Proofs.Ytfnbodjmmkjlcaa.H
open Go.RowKit Go.Proofs.YtfnbodjmmkjlcaaW.PrintWords Go.Proofs.YtfnbodjmmkjlcaaW.PrintLast Go.Proofs.YtfnbodjmmkjlcaaW.PrintMore
attribute [local go_sem] max2_int min2_int max_two min_two max_three min_three max_four min_four   -- for this text's walks alone
set_option linter.unusedVariables false
set_option linter.unusedSimpArgs false

def patch_Apply.step (xs : List S64) (d : Int) (i j : Nat) : List S64 := if d = 1 then xs ++ [⟨(i : Int), (j : Int)⟩] else xs
set_option maxRecDepth 100000 in
set_option maxHeartbeats 4000000 in
/-- One call of Apply$1: the row of pairs behind the captured variable grows where the line stays. -/
theorem patch_Apply.one (base gb : Nat) (w0 : World) (xs : List S64) (v : Value) (d : Int) (i j : Nat) (w : World)
  (hb : w.heap[gb]? = some (Obj.cells #[v] 50 (0, 0))) (hv : Kd.R k64 64 w base (fun _ => True) v xs) (hB : Below base w0 w) (hgb : base ≤ gb) (hl : xs.length ≤ 2000000) (vs : Value) (s : List S47) (hN : Kd.N k47 47 w base (fun k => some k ≠ v.ownBlock ∧ k ≠ gb) vs s) (vb : Value) (bs : List S66) (hR : Kd.R k66 66 w base (fun _ => True) vb bs) :
  Calls Try.prog 59 #[.int .i64 d, .int .i64 (i : Int), .int .i64 (j : Int), .pointer (some ⟨gb, 0, none⟩)] w fun e w' => e = .returned (.tuple #[]) ∧ ((∃ v', w'.heap[gb]? = some (Obj.cells #[v'] 50 (0, 0)) ∧ Kd.R k64 64 w' base (fun _ => True) v' (patch_Apply.step xs d i j) ∧ Kd.N k47 47 w' base (fun k => some k ≠ v'.ownBlock ∧ k ≠ gb) vs s ∧ Kd.R k66 66 w' base (fun _ => True) vb bs) ∧ Below base w0 w') ∧ ∀ (k : Nat) (c : Array Value), w.heap[k]? = some (Obj.cells c 47 (0, 0)) → w'.heap[k]? = some (Obj.cells c 47 (0, 0)) := by
 have hsz : base ≤ w.heap.size := Nat.le_trans hgb (Nat.le_of_lt (Array.getElem?_eq_some_iff.mp hb).1)
 have hc := (blk_cell hb 0).trans rfl
 have hf := blk_frozen hb 0
 have HB := Aside0.mk hB
 have HV := Aside0.mk hv
 have BK := Aside0.mk hb
 have HN := Aside0.mk hN
 have HRB := Aside0.mk hR
 clear hB hv hb hN hR
 by_cases hd : d = 1
 ·have hd' : (d == 1) = true := by simp [hd]
  have HD := Aside0.mk hd
  clear hd
  go_enter Try.func59, Try.ntmps59
  go_wp2_with ((with_reducible refine gate_builtin (b := .append) (xs := #[.tmp 9, .tmp 13]) rfl ?_); at_builtin; refine Kd.R_append k64 (w0 := w0) base rfl (.tmp 9) (.tmp 13) 50 64 (.agg #[(.int .i64 0), (.int .i64 0)]) 16 rfl Try.underlying50 info64 rfl (by decide) (by omega) v xs (⟨(i : Int), (j : Int)⟩ : S64) [.int .i64 (i : Int), .int .i64 (j : Int)] (fun _ => True) (fun _ => False) rfl rfl ?aP (fun _ hk => hk.elim) ?aF ?aO ?aB ?aS ?aL ?_; (case aP => exact k64_mkM _ _ _ (⟨(i : Int), (j : Int)⟩ : S64)); (case aB => exact HB.out); (case aF => exact (fun _ _ => trivial)); (case aO => exact HV.out); (case aS => exact hsz); (case aL => omega); intro v1 w1 ho hbl hgr hat; obtain ⟨Ao1, co1, eo1⟩ := Kd.R_slice ho; subst eo1; have BK1 := Aside0.mk (blk_grown (g := gb) (o := .cells #[v] 50 (0, 0)) BK.out hgr (Kd.R_ne HV.out BK.out (by decide))); have hc1 := (blk_cell BK1.out 0).trans rfl; have hf1 := blk_frozen BK1.out 0; have HR1 := Aside0.mk (Kd.R_over' HRB.out (Kd.R_typed HV.out) (by decide) hgr); have HO1 := Aside0.mk ho; have HB1 := Aside0.mk hbl; have HG1 := Aside0.mk hgr; have HN1 := Aside0.mk (Kd.N_afterv (ok := fun k => k ≠ gb) (Kd.N_mono HN.out (fun _ hk => ⟨hk.2, hk.1⟩)) hgr hat); clear ho hbl hgr hat hc hf)
  go_end0
  refine ⟨rfl, ⟨⟨_, blk_put (cs := #[v]) BK1.out 0 _ rfl, ?_⟩, HB1.out.setCell hgb _⟩, fun k c hk => blk_far (blk_grown hk HG1.out (Kd.R_ne HV.out hk (by decide))) ?_ _⟩
  ·rw [patch_Apply.step, if_pos HD.out]
   refine ⟨?_, ?_, ?_⟩
   rotate_left
   ·have h6 := Kd.N_mono (ok' := fun k => some k ≠ (Value.slice Ao1 (xs.length + 1) co1).ownBlock ∧ k ≠ gb) (Kd.N_far (p := ⟨gb, 0, none⟩) HN1.out (fun _ hk => hk.1) (Value.slice Ao1 (xs.length + 1) co1)) (fun _ hk => ⟨by have h7 := hk.2; simpa only [List.length_append, List.length_singleton] using h7, hk.1⟩)
    exact h6
   ·exact Kd.R_mono (ok' := fun _ => True) (Kd.R_far (p := ⟨gb, 0, none⟩) (Kd.R_types HR1.out BK1.out (by decide)) (fun _ hk => hk.2) (Value.slice Ao1 (xs.length + 1) co1)) (fun _ hk => trivial)
   have h5 := Kd.R_mono (ok' := fun _ => True) (Kd.R_far (p := ⟨gb, 0, none⟩) (Kd.R_types HO1.out BK1.out (by decide)) (fun _ hk => hk.2) (Value.slice Ao1 (xs.length + 1) co1)) (fun _ hk => trivial)
   simpa only [List.length_append, List.length_singleton] using h5
  ·rintro rfl
   have := BK.out.symm.trans hk
   simp at this
 ·have hd' : (d == 1) = false := by simp [hd]
  have HD := Aside0.mk hd
  clear hd
  go_enter Try.func59, Try.ntmps59
  go_wp2
  go_end0
  exact ⟨rfl, ⟨⟨v, BK.out, by rw [patch_Apply.step, if_neg HD.out]; exact HV.out, HN.out, HRB.out⟩, HB.out⟩, fun _ _ h => h⟩
def patch_Apply.f (k : Nat) (l0 : List S44) (l1 : List S66) : Option (List S66 × List S64 × Int) := (patch_whole.f k l0 l1).bind fun t => if patch_walk.lines t.1 ≤ 1000000 ∧ t.1.length ≤ 1000000 then some (t.2.1, (patch_walk.all patch_Apply.step t.1 ([], 0, 0)).1, t.2.2) else none
theorem patch_Apply.mono (k : Nat) (l0 : List S44) (l1 : List S66) : LeO (patch_Apply.f k l0 l1) (patch_Apply.f (k + 1) l0 l1) := by
 unfold patch_Apply.f
 exact LeO.bind (patch_whole.mono _ _ _) (fun _ => LeO.refl _)
set_option maxRecDepth 100000 in
set_option maxHeartbeats 4000000 in
theorem patch_Apply.calls (k : Nat) (A0 : Option Addr) (c0 : Nat) (l0 : List S44) (A1 : Option Addr) (c1 : Nat) (l1 : List S66) (r1 : List S66) (r2 : List S64) (r3 : Int) (w : World) (hr0 : Kd.C k44 w A0 l0.length l0) (hc0 : l0.length ≤ c0) (hr1 : Kd.C k66 w A1 l1.length l1) (hc1 : l1.length ≤ c1) (h : patch_Apply.f k l0 l1 = some (r1, r2, r3)) :
  Calls Try.prog 28 #[.slice A0 l0.length c0, .slice A1 l1.length c1] w fun e w' => ∃ v0_ v1_ : Value, e = .returned (.tuple #[v0_, v1_, .int .i64 r3]) ∧ Kd.R k66 66 w' w.heap.size (fun _ => True) v0_ r1 ∧ Kd.R k64 64 w' w.heap.size (fun _ => True) v1_ r2 ∧ Below w.heap.size w w' := by
 unfold patch_Apply.f at h
 obtain ⟨⟨s, b, e⟩, hw, h⟩ := Option.bind_eq_some_iff.mp h
 dsimp only at h
 by_cases hl : patch_walk.lines s ≤ 1000000 ∧ s.length ≤ 1000000
 ·rw [if_pos hl] at h
  cases h
  have HW := Aside0.mk hw
  have HR0 := Aside0.mk hr0
  have HR1 := Aside0.mk hr1
  have HC0 := Aside0.mk hc0
  have HC1 := Aside0.mk hc1
  have HL := Aside0.mk hl
  clear hw hr0 hr1 hc0 hc1 hl
  have HCL := Aside0.mk (patch_whole.calls k (fun _ => True) A0 c0 l0 (fun _ => True) A1 c1 l1 s r1 r3 w (Kd.V_mk HC0.out (fun W' hW => k44_heap.C (fun q hq => hW q trivial hq) HR0.out)) (Kd.V_mk HC1.out (fun W' hW => k66_heap.C (fun q hq => hW q trivial hq) HR1.out)) HW.out)
  have hmf : ∀ (fn : Fn) (first cap : Array Value) (w : World), (Instr.makeFunc fn first cap).run Try.prog w = .ok (.func fn first cap) w := fun _ _ _ _ => rfl
  go_enter Try.func28, Try.ntmps28
  go_wp2_with (go_at_call 57; (refine HCL.out.mono ?_); rintro e_ w1 ⟨v0, v1, rfl, hN, hRb, hB1⟩; obtain ⟨As, cs, eN⟩ := Kd.N_slice hN; subst eN; have HN := Aside0.mk (Kd.N_mono (ok' := fun _ => True) hN (fun _ _ => trivial)); have HRb := Aside0.mk (Kd.R_mono (ok' := fun _ => True) hRb (fun _ _ => trivial)); have HB := Aside0.mk hB1; clear hN hRb hB1)
  have hgb : w.heap.size ≤ w1.heap.size := HB.out.size
  have hnew := World.alloc_heap_new w1 (.cells #[.slice none 0 0] 50 (0, 0))
  have HP0 : Aside0 ((∃ v', (w1.alloc (.cells #[.slice none 0 0] 50 (0, 0))).heap[w1.heap.size]? = some (Obj.cells #[v'] 50 (0, 0)) ∧ Kd.R k64 64 (w1.alloc (.cells #[.slice none 0 0] 50 (0, 0))) w.heap.size (fun _ => True) v' [] ∧ Kd.N k47 47 (w1.alloc (.cells #[.slice none 0 0] 50 (0, 0))) w.heap.size (fun k => some k ≠ v'.ownBlock ∧ k ≠ w1.heap.size) (.slice As s.length cs) s ∧ Kd.R k66 66 (w1.alloc (.cells #[.slice none 0 0] 50 (0, 0))) w.heap.size (fun _ => True) v1 r1) ∧ Below w.heap.size w (w1.alloc (.cells #[.slice none 0 0] 50 (0, 0)))) := ⟨⟨_, hnew, Kd.R_nil _ _ _ _ _, Kd.N_alloc (Kd.N_mono (Kd.N_elderB HN.out w1.heap.size (Nat.le_refl _)) (fun k hk => ⟨by simp [Value.ownBlock], hk.2⟩)) _, Kd.R_alloc HRb.out _⟩, HB.out.alloc hgb _⟩
  clear hnew
  go_wp2_with (go_at_call 58; refine (patch_walk.callsA patch_Apply.step (.pointer (some ⟨w1.heap.size, 0, none⟩)) (fun W x => (∃ v', W.heap[w1.heap.size]? = some (Obj.cells #[v'] 50 (0, 0)) ∧ Kd.R k64 64 W w.heap.size (fun _ => True) v' x ∧ Kd.N k47 47 W w.heap.size (fun k => some k ≠ v'.ownBlock ∧ k ≠ w1.heap.size) (.slice As s.length cs) s ∧ Kd.R k66 66 W w.heap.size (fun _ => True) v1 r1) ∧ Below w.heap.size w W) List.length As cs s [] _ ?aC ?aS HL.out.2 HL.out.1 HP0.out rfl ?aL ?aZ ?aK).mono ?_; (case aC => exact (fun W x h => (Kd.N_reads' h.1.choose_spec.2.2.1).2.2)); (case aS => exact (Kd.N_reads' HN.out).2.1); (case aL => exact (fun W x o h => ⟨⟨_, blk_alloc h.1.choose_spec.1 _, Kd.R_alloc h.1.choose_spec.2.1 _, Kd.N_alloc h.1.choose_spec.2.2.1 _, Kd.R_alloc h.1.choose_spec.2.2.2 _⟩, h.2.alloc h.2.size _⟩)); (case aZ => exact (fun x d i j => by unfold patch_Apply.step; split <;> simp)); (case aK => exact (fun W x d i j h hs hi hj => (patch_Apply.one w.heap.size w1.heap.size w x _ d i j W h.1.choose_spec.1 h.1.choose_spec.2.1 h.2 hgb (by omega) _ _ h.1.choose_spec.2.2.1 _ _ h.1.choose_spec.2.2.2).mono (fun _ _ hq => hq))); rintro e_ w2 ⟨rfl, ⟨vr, hbk, hR, hN2, hRl⟩, hB2⟩; have HRr := Aside0.mk hR; have HRl := Aside0.mk hRl; have HB2 := Aside0.mk hB2; have hbk := blk_drew hbk; clear hR hN2 hB2 hRl)
  refine start_ (n := 6) (S := fun w' => w'.cell? ⟨w1.heap.size, 0, none⟩ = some vr) (ds := []) (Sq.bl 6 0) (by kernel_rfl) rfl (by rfl) ((blk_cell hbk 0).trans rfl) (fun hS => ?_)
  refine Sq.pu (v := ?_) (a' := ?_) 0 21 (Sq.bl 6 1) (by kernel_rfl) rfl rfl (fun _ _ _ h => h) (by rfl) ?_ ?_ ?_; rotate_left; (· intro w'; go_simp; with_reducible rfl); rotate_left; (· simp only [Act.put,zp1,zp2,zp3,zp4,zp5]; rfl)
  refine Sq.pu (v := ?_) (a' := ?_) 2 23 (Sq.bl 6 5) (by kernel_rfl) rfl rfl (fun _ _ _ h => h) (by rfl) ?_ ?_ ?_; rotate_left; (· intro w'; go_simp; with_reducible rfl); rotate_left; (· simp only [Act.put,zp1,zp2,zp3,zp4,zp5]; rfl)
  refine Sq.pu (v := ?_) (a' := ?_) 3 4 (Sq.bl 6 13) (by kernel_rfl) rfl rfl (fun _ _ _ h => h) (by rfl) ?_ ?_ ?_; rotate_left; (· intro w'; go_simp; with_reducible rfl); rotate_left; (· simp only [Act.put,zp1,zp2,zp3,zp4,zp5]; rfl)
  refine take_ (i := 1) (N := some 22) (v := ?_) (a' := ?_) (Sq.bl 6 15) rfl rfl (by kernel_rfl) (fun _ _ _ h => h) (Or.inl ⟨by rfl, ?_⟩) hS ?_ ?_; rotate_left; (· rintro w' s0; go_simp; with_reducible rfl); rotate_left; (· simp only [Act.put,zp1,zp2,zp3,zp4,zp5]; rfl)
  refine Sq.pu (v := ?_) (a' := ?_) 4 5 (Sq.bl 6 31) (by kernel_rfl) rfl rfl (fun _ _ _ h => h) (by rfl) ?_ ?_ ?_; rotate_left; (· intro w'; go_simp; with_reducible rfl); rotate_left; (· simp only [Act.put,zp1,zp2,zp3,zp4,zp5]; rfl)
  refine Sq.pu (v := ?_) (a' := ?_) 5 6 (Sq.bl 6 63) (by kernel_rfl) rfl rfl (fun _ _ _ h => h) (by rfl) ?_ ?_ ?_; rotate_left; (· intro w'; go_simp; with_reducible rfl); rotate_left; (· simp only [Act.put,zp1,zp2,zp3,zp4,zp5]; rfl)
  refine done_ (by kernel_rfl) ?_
  go_wp2
  go_ret3
  exact ⟨_, _, rfl, Kd.R_drew HRl.out, Kd.R_drew HRr.out, HB2.out.drew⟩
 ·rw [if_neg hl] at h
  cases h


end Go.Proofs.Ytfnbodjmmkjlcaa.H
end
section
namespace Go.Proofs.Ytfnbodjmmkjlcaa.H
open Go.RowKit Go.Proofs.YtfnbodjmmkjlcaaW.PrintWords Go.Proofs.YtfnbodjmmkjlcaaW.PrintLast Go.Proofs.YtfnbodjmmkjlcaaW.PrintMore
attribute [local go_sem] max2_int min2_int max_two min_two max_three min_three max_four min_four   -- for this text's walks alone
set_option linter.unusedVariables false
set_option linter.unusedSimpArgs false

attribute [local go_sem high] eqA64
def jalousielaw11_live.f (k : Nat)  : Option (Bool) := (some (([(⟨0, 0, 0, 1, (([(⟨3, (([(⟨(⟨#[120]⟩ : ByteArray), false⟩ : S66)] : List (S66)))⟩ : S47)] : List (S47)))⟩ : S44)] : List (S44)) : List (S44))).bind fun y481 => ((patch_Apply.f k y481 (([(⟨(⟨#[97]⟩ : ByteArray), false⟩ : S66)] : List (S66)))).bind fun bt487 => ((patch_Size.f k y481).bind fun bt494 => (if bt487.2.2 = 0 then (if (bt487.1.length : Int) = 2 then (if 0 < (bt487.1.length : Int) then (if ((rd_T66 bt487.1 0).f0).toList = ([120] : List UInt8) then (if (bt487.2.1.length : Int) = 1 then (if 0 < (bt487.2.1.length : Int) then (if (((rd_T64 bt487.2.1 0).f0) == 0 && (((rd_T64 bt487.2.1 0).f1) == 1)) = true then (if bt494.1 = 1 then (some (bt494.2 == 0)) else (some false)) else (some false)) else (none)) else (some false)) else (some false)) else (none)) else (some false)) else (some false))))
theorem jalousielaw11_live.mono : ∀ k, LeO (jalousielaw11_live.f k ) (jalousielaw11_live.f (k + 1) ) := by
 intro  k
 unfold jalousielaw11_live.f
 repeat' first
   | (with_reducible exact patch_Apply.mono _ _ _)
   | (with_reducible exact patch_Size.mono _ _)
   | (with_reducible exact LeO.refl _)
   | (with_reducible exact LeO.none _)
   | (with_reducible refine LeO.ite ?_ ?_)
   | (with_reducible refine LeO.bind ?_ (fun _ => ?_))
   | exact patch_Apply.mono _ _ _
   | exact patch_Size.mono _ _
   | exact LeO.none _
   | refine LeO.ite ?_ ?_
   | refine LeO.bind ?_ (fun _ => ?_)
set_option maxHeartbeats 8000000 in
set_option maxRecDepth 100000 in
theorem jalousielaw11_live.calls (k : Nat)  (r : Bool) (w : World) (h : jalousielaw11_live.f k  = some r) (HRT : Aside0 (r = true) := by first | exact ⟨rfl⟩ | assumption) :
  Calls Try.prog 32 #[] w fun e w' => e = .returned (.bool r) ∧ Below w.heap.size w w' := by
 have hu66 := Try.underlying66
 have hu47 := Try.underlying47
 have hu44 := Try.underlying44
 have hu64 := Try.underlying64
 have HB := Aside0.mk (Below.refl w.heap.size w)
 have H : ((some (([(⟨0, 0, 0, 1, (([(⟨3, (([(⟨(⟨#[120]⟩ : ByteArray), false⟩ : S66)] : List (S66)))⟩ : S47)] : List (S47)))⟩ : S44)] : List (S44)) : List (S44))).bind fun y481 => ((patch_Apply.f k y481 (([(⟨(⟨#[97]⟩ : ByteArray), false⟩ : S66)] : List (S66)))).bind fun bt487 => ((patch_Size.f k y481).bind fun bt494 => (if bt487.2.2 = 0 then (if (bt487.1.length : Int) = 2 then (if 0 < (bt487.1.length : Int) then (if ((rd_T66 bt487.1 0).f0).toList = ([120] : List UInt8) then (if (bt487.2.1.length : Int) = 1 then (if 0 < (bt487.2.1.length : Int) then (if (((rd_T64 bt487.2.1 0).f0) == 0 && (((rd_T64 bt487.2.1 0).f1) == 1)) = true then (if bt494.1 = 1 then (some (bt494.2 == 0)) else (some false)) else (some false)) else (none)) else (some false)) else (some false)) else (none)) else (some false)) else (some false))))) = some r := h
 clear h
 obtain ⟨y475, hy475⟩ : ∃ y_ : List (S66), y_ = (([(⟨(⟨#[120]⟩ : ByteArray), false⟩ : S66)] : List (S66))) := ⟨_, rfl⟩
 replace H : ((some (([(⟨0, 0, 0, 1, (([(⟨3, y475⟩ : S47)] : List (S47)))⟩ : S44)] : List (S44)) : List (S44))).bind fun y481 => ((patch_Apply.f k y481 (([(⟨(⟨#[97]⟩ : ByteArray), false⟩ : S66)] : List (S66)))).bind fun bt487 => ((patch_Size.f k y481).bind fun bt494 => (if bt487.2.2 = 0 then (if (bt487.1.length : Int) = 2 then (if 0 < (bt487.1.length : Int) then (if ((rd_T66 bt487.1 0).f0).toList = ([120] : List UInt8) then (if (bt487.2.1.length : Int) = 1 then (if 0 < (bt487.2.1.length : Int) then (if (((rd_T64 bt487.2.1 0).f0) == 0 && (((rd_T64 bt487.2.1 0).f1) == 1)) = true then (if bt494.1 = 1 then (some (bt494.2 == 0)) else (some false)) else (some false)) else (none)) else (some false)) else (some false)) else (none)) else (some false)) else (some false))))) = some r := by first | (rw [hy475]; with_reducible exact H) | (have H2_ := (Option.bind_some _ _).symm.trans H; rw [hy475]; with_reducible exact H2_) | (have H2_ := (Option.bind_some _ _).symm.trans H; with_reducible exact H2_) | with_reducible exact H | (rw [hy475]; exact H) | exact H
 have Ny475 := Aside0.mk hy475
 clear hy475
 obtain ⟨y478, hy478⟩ : ∃ y_ : List (S47), y_ = (([(⟨3, y475⟩ : S47)] : List (S47))) := ⟨_, rfl⟩
 replace H : ((some (([(⟨0, 0, 0, 1, y478⟩ : S44)] : List (S44)) : List (S44))).bind fun y481 => ((patch_Apply.f k y481 (([(⟨(⟨#[97]⟩ : ByteArray), false⟩ : S66)] : List (S66)))).bind fun bt487 => ((patch_Size.f k y481).bind fun bt494 => (if bt487.2.2 = 0 then (if (bt487.1.length : Int) = 2 then (if 0 < (bt487.1.length : Int) then (if ((rd_T66 bt487.1 0).f0).toList = ([120] : List UInt8) then (if (bt487.2.1.length : Int) = 1 then (if 0 < (bt487.2.1.length : Int) then (if (((rd_T64 bt487.2.1 0).f0) == 0 && (((rd_T64 bt487.2.1 0).f1) == 1)) = true then (if bt494.1 = 1 then (some (bt494.2 == 0)) else (some false)) else (some false)) else (none)) else (some false)) else (some false)) else (none)) else (some false)) else (some false))))) = some r := by first | (rw [hy478]; with_reducible exact H) | (have H2_ := (Option.bind_some _ _).symm.trans H; rw [hy478]; with_reducible exact H2_) | (have H2_ := (Option.bind_some _ _).symm.trans H; with_reducible exact H2_) | with_reducible exact H | (rw [hy478]; exact H) | exact H
 have Ny478 := Aside0.mk hy478
 clear hy478
 obtain ⟨y481, hy481⟩ : ∃ y_ : List (S44), y_ = (([(⟨0, 0, 0, 1, y478⟩ : S44)] : List (S44))) := ⟨_, rfl⟩
 replace H : ((patch_Apply.f k y481 (([(⟨(⟨#[97]⟩ : ByteArray), false⟩ : S66)] : List (S66)))).bind fun bt487 => ((patch_Size.f k y481).bind fun bt494 => (if bt487.2.2 = 0 then (if (bt487.1.length : Int) = 2 then (if 0 < (bt487.1.length : Int) then (if ((rd_T66 bt487.1 0).f0).toList = ([120] : List UInt8) then (if (bt487.2.1.length : Int) = 1 then (if 0 < (bt487.2.1.length : Int) then (if (((rd_T64 bt487.2.1 0).f0) == 0 && (((rd_T64 bt487.2.1 0).f1) == 1)) = true then (if bt494.1 = 1 then (some (bt494.2 == 0)) else (some false)) else (some false)) else (none)) else (some false)) else (some false)) else (none)) else (some false)) else (some false)))) = some r := by first | (rw [hy481]; with_reducible exact H) | (have H2_ := (Option.bind_some _ _).symm.trans H; rw [hy481]; with_reducible exact H2_) | (have H2_ := (Option.bind_some _ _).symm.trans H; with_reducible exact H2_) | with_reducible exact H | (rw [hy481]; exact H) | exact H
 have Ny481 := Aside0.mk hy481
 clear hy481
 obtain ⟨y484, hy484⟩ : ∃ y_ : List (S66), y_ = (([(⟨(⟨#[97]⟩ : ByteArray), false⟩ : S66)] : List (S66))) := ⟨_, rfl⟩
 replace H : ((patch_Apply.f k y481 y484).bind fun bt487 => ((patch_Size.f k y481).bind fun bt494 => (if bt487.2.2 = 0 then (if (bt487.1.length : Int) = 2 then (if 0 < (bt487.1.length : Int) then (if ((rd_T66 bt487.1 0).f0).toList = ([120] : List UInt8) then (if (bt487.2.1.length : Int) = 1 then (if 0 < (bt487.2.1.length : Int) then (if (((rd_T64 bt487.2.1 0).f0) == 0 && (((rd_T64 bt487.2.1 0).f1) == 1)) = true then (if bt494.1 = 1 then (some (bt494.2 == 0)) else (some false)) else (some false)) else (none)) else (some false)) else (some false)) else (none)) else (some false)) else (some false)))) = some r := by first | (rw [hy484]; with_reducible exact H) | (have H2_ := (Option.bind_some _ _).symm.trans H; rw [hy484]; with_reducible exact H2_) | (have H2_ := (Option.bind_some _ _).symm.trans H; with_reducible exact H2_) | with_reducible exact H | (rw [hy484]; exact H) | exact H
 have Ny484 := Aside0.mk hy484
 clear hy484
 replace H := Option.bind_eq_some_iff.mp H
 obtain ⟨⟨t487, t488, t489⟩, A10, H⟩ := H
 replace H : ((patch_Size.f k y481).bind fun bt494 => (if t489 = 0 then (if (t487.length : Int) = 2 then (if 0 < (t487.length : Int) then (if ((rd_T66 t487 0).f0).toList = ([120] : List UInt8) then (if (t488.length : Int) = 1 then (if 0 < (t488.length : Int) then (if (((rd_T64 t488 0).f0) == 0 && (((rd_T64 t488 0).f1) == 1)) = true then (if bt494.1 = 1 then (some (bt494.2 == 0)) else (some false)) else (some false)) else (none)) else (some false)) else (some false)) else (none)) else (some false)) else (some false))) = some r := H
 have A1 := Aside0.mk A10
 clear A10
 replace H := Option.bind_eq_some_iff.mp H
 obtain ⟨⟨t494, t495⟩, A20, H⟩ := H
 replace H : (if t489 = 0 then (if (t487.length : Int) = 2 then (if 0 < (t487.length : Int) then (if ((rd_T66 t487 0).f0).toList = ([120] : List UInt8) then (if (t488.length : Int) = 1 then (if 0 < (t488.length : Int) then (if (((rd_T64 t488 0).f0) == 0 && (((rd_T64 t488 0).f1) == 1)) = true then (if t494 = 1 then (some (t495 == 0)) else (some false)) else (some false)) else (none)) else (some false)) else (some false)) else (none)) else (some false)) else (some false)) = some r := H
 have A2 := Aside0.mk A20
 clear A20
 by_cases c3 : t489 = 0
 ·rw [if_pos c3] at H
  have c3b0 : (t489 == 0) = true := beq_iff_eq.mpr c3
  have c3b1 : (t489 != 0) = false := bne_eq_false_iff_eq.mpr c3
  clear c3
  by_cases c4 : (t487.length : Int) = 2
  ·rw [if_pos c4] at H
   have c4b0 : ((t487.length : Int) == 2) = true := beq_iff_eq.mpr c4
   have c4b1 : ((t487.length : Int) != 2) = false := bne_eq_false_iff_eq.mpr c4
   clear c4
   by_cases c5 : 0 < (t487.length : Int)
   ·rw [if_pos c5] at H
    have c5b0 : decide (0 < (t487.length : Int)) = true := decide_eq_true c5
    have c5b1 : decide (0 < t487.length) = true := decide_eq_true (by omega)
    clear c5
    by_cases c6 : ((rd_T66 t487 0).f0).toList = ([120] : List UInt8)
    ·rw [if_pos c6] at H
     have c6b0 : (((rd_T66 t487 0).f0).toList == ([120] : List UInt8)) = true := beq_iff_eq.mpr c6
     have c6b1 : (((rd_T66 t487 0).f0).toList != ([120] : List UInt8)) = false := bne_eq_false_iff_eq.mpr c6
     clear c6
     by_cases c7 : (t488.length : Int) = 1
     ·rw [if_pos c7] at H
      have c7b0 : ((t488.length : Int) == 1) = true := beq_iff_eq.mpr c7
      have c7b1 : ((t488.length : Int) != 1) = false := bne_eq_false_iff_eq.mpr c7
      clear c7
      by_cases c8 : 0 < (t488.length : Int)
      ·rw [if_pos c8] at H
       have c8b0 : decide (0 < (t488.length : Int)) = true := decide_eq_true c8
       have c8b1 : decide (0 < t488.length) = true := decide_eq_true (by omega)
       clear c8
       by_cases c9 : (((rd_T64 t488 0).f0) == 0 && (((rd_T64 t488 0).f1) == 1)) = true
       ·rw [if_pos c9] at H
        have c9b0 : (((rd_T64 t488 0).f0) == 0 && (((rd_T64 t488 0).f1) == 1)) = true := c9
        (try (have c9b1 : decide (((rd_T64 t488 0).f0) = 0 && (((rd_T64 t488 0).f1) == 1)) = true := by simpa using c9))
        (try (have c9b2 : (((rd_T64 t488 0).f0) == 0 && (((rd_T64 t488 0).f1) == 1)) = true := by simpa using c9))
        clear c9
        by_cases c10 : t494 = 1
        ·rw [if_pos c10] at H
         have c10b0 : (t494 == 1) = true := beq_iff_eq.mpr c10
         have c10b1 : (t494 != 1) = false := bne_eq_false_iff_eq.mpr c10
         clear c10
         obtain rfl := Option.some.inj H
         go_enter Try.func32, Try.ntmps32
         go_wp2_with (first | ((with_reducible refine gate_dst (N := 8) rfl ?_); (try (refine gate_guard (by rfl) ?_; dsimp only)); refine Kd.R_lit k66 _ 66 ?hg (N := 8) ?hd (xs := ([(⟨(⟨#[120]⟩ : ByteArray), false⟩ : S66)] : List (S66))) (inner := [.string (⟨#[120]⟩ : ByteArray), .bool false]) (ok := fun _ => True) (okp := fun _ => True) ?hr ?hp (fun _ hk => hk) trivial (Below.refl _ _) (Nat.le_refl _) (by simp) ?_; (case hd => rfl); (case hg => rfl); (case hr => first | (go_simp; done) | (go_simp; rfl)); (case hp => exact (Reps.c2 (show Kd.M k66 _ _ _ (⟨(⟨#[120]⟩ : ByteArray), false⟩ : S66) [.string (⟨#[120]⟩ : ByteArray), .bool false] from (k66_mkM _ _ _ (⟨(⟨#[120]⟩ : ByteArray), false⟩ : S66) )) (Reps.none _ _))); intro v476 w11 ho12 hb hg_ hnew_; clear hg_ hnew_; (first | rw [← Ny475.out] at ho12 | (simp only [Int.reduceToNat] at ho12; rw [← Ny475.out] at ho12)); have n0_ := Aside0.mk (Kd.R_lower ho12 (below_size (by repeat (first | (with_reducible first | exact HB.out | apply below_alloc | apply pw_below_drewN | apply below_drew1) | exact HB.out)))); have n1_ := Aside0.mk (below_step (by repeat (first | (with_reducible first | exact HB.out | apply below_alloc | apply pw_below_drewN | apply below_drew1) | exact HB.out)) hb); clear HB; have HO477 := n0_; have HB := n1_; clear n0_ n1_; clear hb ho12; obtain ⟨Ao13, co13, eo13⟩ := Kd.R_slice HO477.out; subst eo13) | ((with_reducible refine gate_dst (N := 10) rfl ?_); (try (refine gate_guard (by rfl) ?_; dsimp only)); refine Kd.N_lit k47 _ 47 ?hg (N' := 10) ?hd (xs := ([(⟨3, y475⟩ : S47)] : List (S47))) (inner := [.int .i64 3, .slice Ao13 y475.length co13]) (ok := (fun _ => True)) (okp := (fun _ => True)) ?hr ?hp (fun _ hk => hk) ((show ∀ k_, w11.heap.size ≤ k_ → (fun _ => True) k_ from fun k_ hk => trivial) _ (Nat.le_refl _)) (Below.refl _ _) (Nat.le_refl _) (by simp) ?_; (case hd => rfl); (case hg => rfl); (case hr => first | (go_simp; done) | (go_simp; rfl)); (case hp => exact (Reps.c2 (show Kd.FK k47 _ _ (⟨3, y475⟩ : S47) [.int .i64 3, .slice Ao13 y475.length co13] from (k47_mkF _ _ (⟨3, y475⟩ : S47) (Kd.R_reads' (Kd.R_mono (ok' := (fun _ => True)) (HO477.out) (fun k_ hk => trivial))).2.1 (Kd.R_F (Kd.R_mono (ok' := (fun _ => True)) (HO477.out) (fun k_ hk => trivial))))) (Reps.none _ _))); intro v479 w14 ho15 hb hg_ hnew_; clear hg_ hnew_; (first | rw [← Ny478.out] at ho15 | (simp only [Int.reduceToNat] at ho15; rw [← Ny478.out] at ho15)); have n0_ := Aside0.mk (Kd.N_lower ho15 (below_size (by repeat (first | (with_reducible first | exact HB.out | apply below_alloc | apply pw_below_drewN | apply below_drew1) | exact HB.out)))); have n1_ := Aside0.mk (below_step (by repeat (first | (with_reducible first | exact HB.out | apply below_alloc | apply pw_below_drewN | apply below_drew1) | exact HB.out)) hb); clear HB; clear HO477; have HO480 := n0_; have HB := n1_; clear n0_ n1_; clear hb ho15; obtain ⟨Ao16, co16, eo16⟩ := Kd.N_slice HO480.out; subst eo16) | ((with_reducible refine gate_dst (N := 12) rfl ?_); (try (refine gate_guard (by rfl) ?_; dsimp only)); refine Kd.N_lit k44 _ 44 ?hg (N' := 12) ?hd (xs := ([(⟨0, 0, 0, 1, y478⟩ : S44)] : List (S44))) (inner := [.int .i64 0, .int .i64 0, .int .i64 0, .int .i64 1, .slice Ao16 y478.length co16]) (ok := (fun _ => True)) (okp := (fun _ => True)) ?hr ?hp (fun _ hk => hk) ((show ∀ k_, w14.heap.size ≤ k_ → (fun _ => True) k_ from fun k_ hk => trivial) _ (Nat.le_refl _)) (Below.refl _ _) (Nat.le_refl _) (by simp) ?_; (case hd => rfl); (case hg => rfl); (case hr => first | (go_simp; done) | (go_simp; rfl)); (case hp => exact (Reps.c5 (show Kd.FK k44 _ _ (⟨0, 0, 0, 1, y478⟩ : S44) [.int .i64 0, .int .i64 0, .int .i64 0, .int .i64 1, .slice Ao16 y478.length co16] from (k44_mkF _ _ (⟨0, 0, 0, 1, y478⟩ : S44) (Kd.N_reads' (Kd.N_mono (ok' := (fun _ => True)) (HO480.out) (fun k_ hk => trivial))).2.1 (Kd.N_F (Kd.N_mono (ok' := (fun _ => True)) (HO480.out) (fun k_ hk => trivial))))) (Reps.none _ _))); intro v482 w17 ho18 hb hg_ hnew_; clear hg_ hnew_; (first | rw [← Ny481.out] at ho18 | (simp only [Int.reduceToNat] at ho18; rw [← Ny481.out] at ho18)); have n0_ := Aside0.mk (Kd.N_lower ho18 (below_size (by repeat (first | (with_reducible first | exact HB.out | apply below_alloc | apply pw_below_drewN | apply below_drew1) | exact HB.out)))); have n1_ := Aside0.mk (below_step (by repeat (first | (with_reducible first | exact HB.out | apply below_alloc | apply pw_below_drewN | apply below_drew1) | exact HB.out)) hb); clear HB; clear HO480; have HO483 := n0_; have HB := n1_; clear n0_ n1_; clear hb ho18) | ((with_reducible refine gate_dst (N := 16) rfl ?_); (try (refine gate_guard (by rfl) ?_; dsimp only)); refine Kd.R_lit k66 _ 66 ?hg (N := 16) ?hd (xs := ([(⟨(⟨#[97]⟩ : ByteArray), false⟩ : S66)] : List (S66))) (inner := [.string (⟨#[97]⟩ : ByteArray), .bool false]) (ok := fun _ => True) (okp := fun _ => True) ?hr ?hp (fun _ hk => hk) trivial (Below.refl _ _) (Nat.le_refl _) (by simp) ?_; (case hd => rfl); (case hg => rfl); (case hr => first | (go_simp; done) | (go_simp; rfl)); (case hp => exact (Reps.c2 (show Kd.M k66 _ _ _ (⟨(⟨#[97]⟩ : ByteArray), false⟩ : S66) [.string (⟨#[97]⟩ : ByteArray), .bool false] from (k66_mkM _ _ _ (⟨(⟨#[97]⟩ : ByteArray), false⟩ : S66) )) (Reps.none _ _))); intro v485 w19 ho20 hb hg_ hnew_; clear hg_ hnew_; (first | rw [← Ny484.out] at ho20 | (simp only [Int.reduceToNat] at ho20; rw [← Ny484.out] at ho20)); have n0_ := Aside0.mk (Kd.N_elder' (by (with_reducible repeat (first | apply Kd.N_alloc | apply Kd.N_drewN | apply Kd.N_drew)); exact HO483.out) (Kd.R_base ho20) hb); have n1_ := Aside0.mk (Kd.R_lower ho20 (below_size (by repeat (first | (with_reducible first | exact HB.out | apply below_alloc | apply pw_below_drewN | apply below_drew1) | exact HB.out)))); have n2_ := Aside0.mk (below_step (by repeat (first | (with_reducible first | exact HB.out | apply below_alloc | apply pw_below_drewN | apply below_drew1) | exact HB.out)) hb); clear HO483; clear HB; have HO483 := n0_; have HO486 := n1_; have HB := n2_; clear n0_ n1_ n2_; clear hb ho20; obtain ⟨Ao21, co21, eo21⟩ := Kd.N_slice HO483.out; subst eo21; obtain ⟨Ao22, co22, eo22⟩ := Kd.R_slice HO486.out; subst eo22) | ((with_reducible refine gate_callee (f := 28) rfl ?_); refine goesL_ (some 17) rfl rfl Try.func28 (by kernel_rfl) rfl #[.slice Ao21 y481.length co21, .slice Ao22 y484.length co22] rfl (by (try simp only [List.map_toArray, List.map_cons, List.map_nil]); first | done | rfl | (simp only [List.length_drop, List.length_take]; rfl)) ?_; (with_reducible refine (patch_Apply.calls k _ _ y481 _ _ y484 t487 t488 t489 _ ?side1 ?side2 ?side3 ?side4 A1.out).mono ?_); (case side1 => repeat (first | exact (Kd.N_reads' HO483.out).2.2 | (with_reducible refine Kd.C_alloc ?_ _) | (with_reducible refine Kd.C_drewN ?_ _) | (with_reducible refine Kd.C_drew ?_))); (case side2 => exact (Kd.N_reads' HO483.out).2.1); (case side3 => repeat (first | exact (Kd.R_reads' HO486.out).2.2 | (with_reducible refine Kd.C_alloc ?_ _) | (with_reducible refine Kd.C_drewN ?_ _) | (with_reducible refine Kd.C_drew ?_))); (case side4 => exact (Kd.R_reads' HO486.out).2.1); rintro e w23 ⟨v490, v492, rfl, ho0, ho1, hb⟩; refine ⟨_, rfl, ?_⟩; have n0_ := Aside0.mk (Kd.N_mono (Kd.N_told (Kd.N_told (Kd.N_old (by (with_reducible repeat (first | apply Kd.N_alloc | apply Kd.N_drewN | apply Kd.N_drew)); exact HO483.out) hb) (Kd.R_base ho0)) (Kd.R_base ho1)) (fun _ h_ => h_.1)); have n1_ := Aside0.mk (Kd.R_elder' (by (with_reducible repeat first|apply zr1|apply zr2|apply zr3); exact HO486.out) (Kd.R_base ho0) hb); have n2_ := Aside0.mk (Kd.R_lower (Kd.R_new' ho0 (Kd.R_lt (by (with_reducible repeat first|apply zr1|apply zr2|apply zr3); exact HO486.out))) (below_size (by repeat (first | (with_reducible first | exact HB.out | apply below_alloc | apply pw_below_drewN | apply below_drew1) | exact HB.out)))); have n3_ := Aside0.mk (Kd.R_lower ho1 (below_size (by repeat (first | (with_reducible first | exact HB.out | apply below_alloc | apply pw_below_drewN | apply below_drew1) | exact HB.out)))); have n4_ := Aside0.mk (below_step (by repeat (first | (with_reducible first | exact HB.out | apply below_alloc | apply pw_below_drewN | apply below_drew1) | exact HB.out)) hb); clear HO483; clear HO486; clear HB; have HO483 := n0_; have HO486 := n1_; have HO491 := n2_; have HO493 := n3_; have HB := n4_; clear n0_ n1_ n2_ n3_ n4_; (try clear hb); (try clear hb2); (try clear hk); (try clear hi); (try clear ho0); (try clear ho1)) | ((with_reducible refine gate_callee (f := 40) rfl ?_); refine goesL_ (some 23) rfl rfl Try.func40 (by kernel_rfl) rfl #[.slice Ao21 y481.length co21] rfl (by (try simp only [List.map_toArray, List.map_cons, List.map_nil]); first | done | rfl | (simp only [List.length_drop, List.length_take]; rfl)) ?_; (with_reducible refine (patch_Size.calls k _ _ y481 t494 t495 _ ?side1 ?side2 A2.out).mono ?_); (case side1 => repeat (first | exact (Kd.N_reads' HO483.out).2.2 | (with_reducible refine Kd.C_alloc ?_ _) | (with_reducible refine Kd.C_drewN ?_ _) | (with_reducible refine Kd.C_drew ?_))); (case side2 => exact (Kd.N_reads' HO483.out).2.1); rintro e w24 ⟨rfl, hb⟩; refine ⟨_, rfl, ?_⟩; have n0_ := Aside0.mk (Kd.N_below (by (with_reducible repeat (first | apply Kd.N_alloc | apply Kd.N_drewN | apply Kd.N_drew)); exact HO483.out) hb); have n1_ := Aside0.mk (Kd.R_below (by (with_reducible repeat first|apply zr1|apply zr2|apply zr3); exact HO486.out) hb); have n2_ := Aside0.mk (Kd.R_below (by (with_reducible repeat first|apply zr1|apply zr2|apply zr3); exact HO491.out) hb); have n3_ := Aside0.mk (Kd.R_below (by (with_reducible repeat first|apply zr1|apply zr2|apply zr3); exact HO493.out) hb); have n4_ := Aside0.mk (below_step (by repeat (first | (with_reducible first | exact HB.out | apply below_alloc | apply pw_below_drewN | apply below_drew1) | exact HB.out)) hb); clear HO483; clear HO486; clear HO491; clear HO493; clear HB; have HO483 := n0_; have HO486 := n1_; have HO491 := n2_; have HO493 := n3_; have HB := n4_; clear n0_ n1_ n2_ n3_ n4_; (try clear hb); (try clear hb2); (try clear hk); (try clear hi); obtain ⟨Ao25, co25, eo25⟩ := Kd.R_slice HO491.out; subst eo25; have p496 : 0 ≤ (0 : Int) := (by omega); have q496 : 0 < (t487.length : Int) := of_decide_eq_true (by first | (with_reducible assumption) | assumption); obtain ⟨ad496, e496, hx496_0, hx496_1⟩ := at_T66 (Kd.R_reads' HO491.out).2.2 0 p496 q496; cases e496; have qi496 : (0 < t487.length) = True := eq_true (by omega); (try rw [show ((0 : Int)).toNat = 0 from rfl] at hx496_0); (try rw [show 0 * 2 = 0 from rfl] at hx496_0); (try rw [Addr.add_zero'] at hx496_0); (try rw [show ((0 : Int)).toNat = 0 from rfl] at hx496_1); (try rw [show 0 * 2 = 0 from rfl] at hx496_1); (try rw [Addr.add_zero'] at hx496_1); replace p496 := eq_true p496; replace q496 := eq_true q496; obtain ⟨Ao26, co26, eo26⟩ := Kd.R_slice HO493.out; subst eo26; have p497 : 0 ≤ (0 : Int) := (by omega); have q497 : 0 < (t488.length : Int) := of_decide_eq_true (by first | (with_reducible assumption) | assumption); obtain ⟨ad497, e497, hx497_0, hx497_1⟩ := at_T64 (Kd.R_reads' HO493.out).2.2 0 p497 q497; cases e497; have qi497 : (0 < t488.length) = True := eq_true (by omega); (try rw [show ((0 : Int)).toNat = 0 from rfl] at hx497_0); (try rw [show 0 * 2 = 0 from rfl] at hx497_0); (try rw [Addr.add_zero'] at hx497_0); (try rw [show ((0 : Int)).toNat = 0 from rfl] at hx497_1); (try rw [show 0 * 2 = 0 from rfl] at hx497_1); (try rw [Addr.add_zero'] at hx497_1); replace p497 := eq_true p497; replace q497 := eq_true q497))
         go_ret
         exact ⟨by first | rfl | (simp [errW_none, errW_some] <;> rfl) | (simp [*, errW_none, errW_some] <;> rfl), by repeat (first | (with_reducible first | exact HB.out | apply below_alloc | apply pw_below_drewN | apply below_drew1) | exact HB.out)⟩
        ·rw [if_neg c10] at H
         have c10b0 : (t494 == 1) = false := beq_eq_false_iff_ne.mpr c10
         have c10b1 : (t494 != 1) = true := bne_iff_ne.mpr c10
         exact absurd (Option.some.inj (H.trans (congrArg some HRT.out))) (by decide)
       ·rw [if_neg c9] at H
        have c9b0 : (((rd_T64 t488 0).f0) == 0 && (((rd_T64 t488 0).f1) == 1)) = false := by simpa using c9
        (try (have c9b1 : decide (((rd_T64 t488 0).f0) = 0 && (((rd_T64 t488 0).f1) == 1)) = false := by simpa using c9))
        (try (have c9b2 : (((rd_T64 t488 0).f0) == 0 && (((rd_T64 t488 0).f1) == 1)) = false := by simpa using c9))
        (try (have c9b3 : ¬ (((rd_T64 t488 0).f0) = 0 && (((rd_T64 t488 0).f1) == 1)) := by simpa using c9))
        clear c9
        exact absurd (Option.some.inj (H.trans (congrArg some HRT.out))) (by decide)
      ·rw [if_neg c8] at H
       exact absurd H (by simp)
     ·rw [if_neg c7] at H
      have c7b0 : ((t488.length : Int) == 1) = false := beq_eq_false_iff_ne.mpr c7
      have c7b1 : ((t488.length : Int) != 1) = true := bne_iff_ne.mpr c7
      exact absurd (Option.some.inj (H.trans (congrArg some HRT.out))) (by decide)
    ·rw [if_neg c6] at H
     have c6b0 : (((rd_T66 t487 0).f0).toList == ([120] : List UInt8)) = false := beq_eq_false_iff_ne.mpr c6
     have c6b1 : (((rd_T66 t487 0).f0).toList != ([120] : List UInt8)) = true := bne_iff_ne.mpr c6
     exact absurd (Option.some.inj (H.trans (congrArg some HRT.out))) (by decide)
   ·rw [if_neg c5] at H
    exact absurd H (by simp)
  ·rw [if_neg c4] at H
   have c4b0 : ((t487.length : Int) == 2) = false := beq_eq_false_iff_ne.mpr c4
   have c4b1 : ((t487.length : Int) != 2) = true := bne_iff_ne.mpr c4
   exact absurd (Option.some.inj (H.trans (congrArg some HRT.out))) (by decide)
 ·rw [if_neg c3] at H
  have c3b0 : (t489 == 0) = false := beq_eq_false_iff_ne.mpr c3
  have c3b1 : (t489 != 0) = true := bne_iff_ne.mpr c3
  exact absurd (Option.some.inj (H.trans (congrArg some HRT.out))) (by decide)

end Go.Proofs.Ytfnbodjmmkjlcaa.H
end
section
namespace Go.Proofs.Ytfnbodjmmkjlcaa.H
open Go.RowKit Go.Proofs.YtfnbodjmmkjlcaaW.PrintWords Go.Proofs.YtfnbodjmmkjlcaaW.PrintLast Go.Proofs.YtfnbodjmmkjlcaaW.PrintMore
attribute [local go_sem] max2_int min2_int max_two min_two max_three min_three max_four min_four   -- for this text's walks alone
set_option linter.unusedVariables false
set_option linter.unusedSimpArgs false

def script_Invert.l0 : Nat → List (S47) → List (S47) → Int → Int → Option ((List (S47)) × Int)
 | 0, _, _, _, _ => none
 | k + 1, x5, x13, x14, x15 => if x15 < x14 then (if 0 ≤ x15 then (if x15 < (x13.length : Int) then (if ((rd_T47 x13 x15).f0) = 2 then (if x5.length < 4398046511104 then (script_Invert.l0 k (x5 ++ [(⟨3, (rd_T47 x13 x15).f1⟩ : S47)]) x13 x14 (wrap64 (x15 + 1))) else (none)) else (if ((rd_T47 x13 x15).f0) = 3 then (if x5.length < 4398046511104 then (script_Invert.l0 k (x5 ++ [(⟨2, (rd_T47 x13 x15).f1⟩ : S47)]) x13 x14 (wrap64 (x15 + 1))) else (none)) else (if x5.length < 4398046511104 then (script_Invert.l0 k (x5 ++ [(⟨(rd_T47 x13 x15).f0, (rd_T47 x13 x15).f1⟩ : S47)]) x13 x14 (wrap64 (x15 + 1))) else (none)))) else (none)) else (none)) else ((script_normal.f x5).bind fun t731 => (some (t731, 0)))
def script_Invert.f (k : Nat) (l0 : List (S47)) : Option ((List (S47)) × Int) := (script_Check.f k l0).bind fun t730 => (if t730 = 0 then (script_Invert.l0 k ([] : List (S47)) l0 (l0.length : Int) 0) else (some (([] : List (S47)), t730)))
set_option maxHeartbeats 8000000 in
set_option maxRecDepth 100000 in
theorem script_Invert.calls (k : Nat) (P0_ : Nat → Prop) (A0 : Option Addr) (c0 : Nat) (l0 : List (S47)) (r1 : List (S47)) (r2 : Int) (w : World) (hs0 : Kd.V k47 47 w w.heap.size (fun k_ => P0_ k_) (.slice A0 l0.length c0) l0) (h : script_Invert.f k l0 = some (r1, r2)) :
  Calls Try.prog 65 #[.slice A0 l0.length c0] w fun e w' => ∃ v0_ : Value, e = .returned (.tuple #[v0_, .int .i64 r2]) ∧ Kd.N k47 47 w' w.heap.size (fun k_ => (P0_ k_ ∨ w.heap.size ≤ k_)) v0_ r1 ∧ Below w.heap.size w w' := by
 have hu47 := Try.underlying47
 have HO0 := Aside0.mk (show Kd.V k47 47 w w.heap.size (fun k_ => (P0_ k_ ∨ w.heap.size ≤ k_)) (.slice A0 l0.length c0) l0 from Kd.V_mono hs0 (fun k_ hk => .inl hk))
 have HB := Aside0.mk (Below.refl w.heap.size w)
 have H : ((script_Check.f k l0).bind fun t730 => (if t730 = 0 then (script_Invert.l0 k ([] : List (S47)) l0 (l0.length : Int) 0) else (some (([] : List (S47)), t730)))) = some (r1, r2) := h
 clear h
 replace H := Option.bind_eq_some_iff.mp H
 obtain ⟨t730, A20, H⟩ := H
 replace H : (if t730 = 0 then (script_Invert.l0 k ([] : List (S47)) l0 (l0.length : Int) 0) else (some (([] : List (S47)), t730))) = some (r1, r2) := H
 have A2 := Aside0.mk A20
 clear A20
 by_cases c3 : t730 = 0
 ·rw [if_pos c3] at H
  have c3b0 : (t730 == 0) = true := beq_iff_eq.mpr c3
  have c3b1 : (t730 != 0) = false := bne_eq_false_iff_eq.mpr c3
  clear c3
  have H' := Aside0.mk H
  clear H
  go_enter Try.func65, Try.ntmps65
  go_wp2_with (first | ((with_reducible refine gate_callee (f := 49) rfl ?_); refine goesL_ (some 9) rfl rfl Try.func49 (by kernel_rfl) rfl #[.slice A0 l0.length c0] rfl (by (try simp only [List.map_toArray, List.map_cons, List.map_nil]); first | done | rfl | (simp only [List.length_drop, List.length_take]; rfl)) ?_; (with_reducible refine (script_Check.calls k _ _ l0 t730 _ ?side1 ?side2 A2.out).mono ?_); (case side1 => repeat (first | exact (Kd.V_reads' HO0.out).2.2 | (with_reducible refine Kd.C_alloc ?_ _) | (with_reducible refine Kd.C_drewN ?_ _) | (with_reducible refine Kd.C_drew ?_))); (case side2 => exact (Kd.V_reads' HO0.out).2.1); rintro e w4 ⟨rfl, hb⟩; refine ⟨_, rfl, ?_⟩; have n0_ := Aside0.mk (Kd.V_below (by (with_reducible repeat (first | apply Kd.V_alloc | apply Kd.V_drewN | apply Kd.V_drew)); exact HO0.out) hb); have n1_ := Aside0.mk (below_step (by repeat (first | (with_reducible first | exact HB.out | apply below_alloc | apply pw_below_drewN | apply below_drew1) | exact HB.out)) hb); clear HO0; clear HB; have HO0 := n0_; have HB := n1_; clear n0_ n1_; (try clear hb); (try clear hb2); (try clear hk); (try clear hi)))
  go_loopg [5, 15] k (fun kq v5 v15 w' => ∃ (x5_1 : List (S47)) (x15_1 : Int), v15 = .int .i64 x15_1 ∧ Aside0 (script_Invert.l0 kq x5_1 l0 (l0.length : Int) x15_1 = some (r1, r2)) ∧ Aside0 (kq ≤ k) ∧ Aside0 (Kd.N k47 47 w' w.heap.size (fun k_ => (P0_ k_ ∨ w.heap.size ≤ k_)) v5 x5_1) ∧ Aside0 (Kd.V k47 47 w' w.heap.size (fun k_ => (P0_ k_ ∨ w.heap.size ≤ k_) ∧ some k_ ≠ (v5 : Value).ownBlock) (.slice A0 l0.length c0) l0) ∧ Aside0 (Below w.heap.size w w'))
  case atStart => exact ⟨(([] : List (S47))), (0), (by first | rfl | (simp; done) | (simp [*]; done)), H', ⟨Nat.le_refl _⟩, ⟨by first | exact Kd.S_nil _ _ _ _ _ | exact Kd.N_nil _ _ _ _ _ | exact Kd.V_nil _ _ _ _ _ | exact Kd.Q_nil _ _ _ _ _ | exact Kd.R_nil _ _ _ _ _⟩, ⟨by (with_reducible repeat (first | apply Kd.V_alloc | apply Kd.V_drewN | apply Kd.V_drew)); exact Kd.V_mono HO0.out (fun _ hk => ⟨hk, (by simp [Value.ownBlock])⟩)⟩, ⟨by repeat (first | (with_reducible first | exact HB.out | apply below_alloc | apply pw_below_drewN | apply below_drew1) | exact HB.out)⟩⟩
  case round =>
   clear H'
   try clear p2
   try clear c3
   try clear c3b0
   try clear c3b1
   try clear c4
   obtain ⟨x5_1, x15_1, rfl, HA, HK1, HO_5, HO_13, HB⟩ := hrel
   cases gk with
   | zero => exact absurd HA.out (by simp [script_Invert.l0])
   | succ k1 =>
    have H := HA.out
    clear HA
    simp only [script_Invert.l0] at H
    by_cases c5 : x15_1 < (l0.length : Int)
    ·rw [if_pos c5] at H
     have c5b0 : decide (x15_1 < (l0.length : Int)) = true := decide_eq_true c5
     clear c5
     by_cases c6 : 0 ≤ x15_1
     ·rw [if_pos c6] at H
      have c6b0 : decide (0 ≤ x15_1) = true := decide_eq_true c6
      clear c6
      by_cases c7 : x15_1 < (l0.length : Int)
      ·rw [if_pos c7] at H
       have c7b0 : decide (x15_1 < (l0.length : Int)) = true := decide_eq_true c7
       clear c7
       by_cases c8 : ((rd_T47 l0 x15_1).f0) = 2
       ·rw [if_pos c8] at H
        have c8b0 : (((rd_T47 l0 x15_1).f0) == 2) = true := beq_iff_eq.mpr c8
        have c8b1 : (((rd_T47 l0 x15_1).f0) != 2) = false := bne_eq_false_iff_eq.mpr c8
        clear c8
        by_cases c9 : x5_1.length < 4398046511104
        ·rw [if_pos c9] at H
         have LMc9 := Aside0.mk c9
         clear c9
         obtain ⟨y736, hy736⟩ : ∃ y_ : List (S47), y_ = (x5_1 ++ [(⟨3, (rd_T47 l0 x15_1).f1⟩ : S47)]) := ⟨_, rfl⟩
         replace H : (script_Invert.l0 k1 y736 l0 (l0.length : Int) (wrap64 (x15_1 + 1))) = some (r1, r2) := by first | (rw [hy736]; with_reducible exact H) | (have H2_ := (Option.bind_some _ _).symm.trans H; rw [hy736]; with_reducible exact H2_) | (have H2_ := (Option.bind_some _ _).symm.trans H; with_reducible exact H2_) | with_reducible exact H | (rw [hy736]; exact H) | exact H
         have Ny736 := Aside0.mk hy736
         clear hy736
         have H' := Aside0.mk H
         clear H
         have p734 : 0 ≤ (x15_1 : Int) := of_decide_eq_true (by first | (with_reducible assumption) | assumption)
         have q734 : x15_1 < (l0.length : Int) := of_decide_eq_true (by first | (with_reducible assumption) | assumption)
         obtain ⟨ad734, A734_1, c734_1, e734, hx734_0, hx734_1, hl734_1, hi734_1⟩ := at_T47 (Kd.V_reads' HO_13.out).2.2 x15_1 p734 q734
         cases e734
         obtain ⟨ce734, hce734, hMe734, hcc734⟩ := Kd.V_get HO_13.out z47 x15_1 p734 (by first | exact q734 | exact of_decide_eq_true (by first | (with_reducible assumption) | assumption) | (have e_ := (Kd.V_reads' HO_13.out).1; omega))
         obtain ⟨ua734_1, uc734_1, rfl, ul734_1, ge734_1⟩ := k47_openF hMe734
         have hv734_1 := hcc734 1 _ rfl
         rw [add_field _ _ 1 (by omega)] at hv734_1
         replace hv734_1 := Option.some.inj (hv734_1.symm.trans hx734_1)
         injection hv734_1 with hva_ hvn_ hvc_
         rw [hva_] at ge734_1
         rw [hvc_] at ul734_1
         have HL734_1 := Aside0.mk (show Kd.V k66 66 _ w.heap.size _ _ ((rd_T47 l0 x15_1).f1) from Kd.V_mk ul734_1 ge734_1)
         clear hva_ hvn_ hvc_ ge734_1 ul734_1
         clear hcc734 hce734
         have HR734_1 := Aside0.mk hi734_1
         have HC734_1 := Aside0.mk hl734_1
         clear hi734_1 hl734_1
         replace p734 := eq_true p734
         replace q734 := eq_true q734
         go_wp2_with (first | ((with_reducible refine gate_dst (N := 7) rfl ?_); refine box_event ?hg (N := 7) ?hd (cs := #[.int .i64 0, .slice none 0 0]) (t := 47) ?hr ?_; (case hd => rfl); (case hg => rfl); (case hr => first | (go_simp; done) | (go_simp; rfl)); intro gb735 hg w10 hbox hb; have n0_ := Aside0.mk (Kd.N_below (Kd.N_elderB (by (with_reducible repeat (first | apply Kd.N_alloc | apply Kd.N_drewN | apply Kd.N_drew)); exact HO_5.out) gb735 (Nat.le_of_eq hg.symm)) hb); have n1_ := Aside0.mk (Kd.V_below (Kd.V_elderB (by (with_reducible repeat (first | apply Kd.V_alloc | apply Kd.V_drewN | apply Kd.V_drew)); exact HO_13.out) gb735 (Nat.le_of_eq hg.symm)) hb); have n2_ := Aside0.mk (Kd.V_below (Kd.V_elderB (by (with_reducible repeat (first | apply Kd.V_alloc | apply Kd.V_drewN | apply Kd.V_drew)); exact HL734_1.out) gb735 (Nat.le_of_eq hg.symm)) hb); have n3_ := Aside0.mk (Kd.C_below (by repeat (first | (with_reducible exact HR734_1.out) | (with_reducible refine Kd.C_alloc ?_ _) | (with_reducible refine Kd.C_drewN ?_ _) | (with_reducible refine Kd.C_drew ?_) | exact HR734_1.out)) hb); have n4_ := Aside0.mk (below_step (by repeat (first | (with_reducible first | exact HB.out | apply below_alloc | apply pw_below_drewN | apply below_drew1) | exact HB.out)) hb); have n5_ := Aside0.mk (hbox); have n6_ := Aside0.mk ((by rw [hg]; exact (below_size (by repeat (first | (with_reducible first | exact HB.out | apply below_alloc | apply pw_below_drewN | apply below_drew1) | exact HB.out))) : w.heap.size ≤ gb735)); have n7_ := Aside0.mk ((by rw [hg]; exact (below_size (by repeat (first | (with_reducible first | exact HB.out | apply below_alloc | apply pw_below_drewN | apply below_drew1) | exact HB.out))) : w.heap.size ≤ gb735)); clear HO_5; clear HO_13; clear HL734_1; clear HR734_1; clear HB; have HO_5 := n0_; have HO_13 := n1_; have HL734_1 := n2_; have HR734_1 := n3_; have HB := n4_; have BK735 := n5_; have GW735 := n6_; have GE735 := n7_; clear n0_ n1_ n2_ n3_ n4_ n5_ n6_ n7_; clear hb hbox hg; have hcz11_0 : w10.cell? ⟨gb735, 0, none⟩ = some (.int .i64 0) := (blk_cell BK735.out 0).trans rfl; have hcz11_1 : w10.cell? ⟨gb735, 1, none⟩ = some (.slice none 0 0) := (blk_cell BK735.out 1).trans rfl; have hfz11_0 := blk_frozen BK735.out 0; have hfz11_1 := blk_frozen BK735.out 1) | ((with_reducible refine gate_store (t := 47) (p := 7) rfl ?_); refine store_event (t := 47) (p := 7) (v := ?vo_w12) (w1 := ((w10.setCell ⟨gb735, 0, none⟩ (.int .i64 ((rd_T47 l0 x15_1).f0))).setCell ⟨gb735, 1, none⟩ (.slice A734_1 ((rd_T47 l0 x15_1).f1).length c734_1))) ?hg ?ho ?hn ?hr ?_; (case ho => rfl); (case hg => rfl); (case hn => rfl); (case hr => first | (go_simp; done) | (go_simp; rfl)); intro w12 hw; have n0_ : Aside0 (Kd.N k47 47 w12 w.heap.size (fun k_ => (P0_ k_ ∨ w.heap.size ≤ k_) ∧ k_ ≠ gb735) u5 x5_1) := ⟨(by rw [hw]; exact (by (with_reducible repeat (first | apply Kd.N_alloc | apply Kd.N_drewN | apply Kd.N_drew)); exact Kd.N_mono (Kd.N_far (p := ⟨gb735, 1, none⟩) (Kd.N_far (p := ⟨gb735, 0, none⟩) (Kd.N_mono HO_5.out (fun k_ hk => (⟨hk, hk.2⟩ : _ ∧ k_ ≠ gb735))) (fun _ hk => hk.2) (.int .i64 ((rd_T47 l0 x15_1).f0))) (fun _ hk => hk.2) (.slice A734_1 ((rd_T47 l0 x15_1).f1).length c734_1)) (fun _ hk => ⟨hk.1.1, hk.1.2⟩)))⟩; have n1_ : Aside0 (Kd.V k47 47 w12 w.heap.size (fun k_ => (P0_ k_ ∨ w.heap.size ≤ k_) ∧ some k_ ≠ (u5 : Value).ownBlock ∧ k_ ≠ gb735) (.slice (some ad734) l0.length c0) l0) := ⟨(by rw [hw]; exact (by (with_reducible repeat (first | apply Kd.V_alloc | apply Kd.V_drewN | apply Kd.V_drew)); exact Kd.V_mono (Kd.V_far (p := ⟨gb735, 1, none⟩) (Kd.V_far (p := ⟨gb735, 0, none⟩) (Kd.V_mono HO_13.out (fun k_ hk => (⟨hk, hk.2⟩ : _ ∧ k_ ≠ gb735))) (fun _ hk => hk.2) (.int .i64 ((rd_T47 l0 x15_1).f0))) (fun _ hk => hk.2) (.slice A734_1 ((rd_T47 l0 x15_1).f1).length c734_1)) (fun _ hk => ⟨hk.1.1.1, ⟨hk.1.1.2, hk.1.2⟩⟩)))⟩; have n2_ : Aside0 (Kd.V k66 66 w12 w.heap.size (fun k_ => (P0_ k_ ∨ w.heap.size ≤ k_) ∧ some k_ ≠ (u5 : Value).ownBlock ∧ k_ ≠ gb735) (.slice A734_1 ((rd_T47 l0 x15_1).f1).length c734_1) ((rd_T47 l0 x15_1).f1)) := ⟨(by rw [hw]; exact (by (with_reducible repeat (first | apply Kd.V_alloc | apply Kd.V_drewN | apply Kd.V_drew)); exact Kd.V_mono (Kd.V_far (p := ⟨gb735, 1, none⟩) (Kd.V_far (p := ⟨gb735, 0, none⟩) (Kd.V_mono HL734_1.out (fun k_ hk => (⟨hk, hk.2⟩ : _ ∧ k_ ≠ gb735))) (fun _ hk => hk.2) (.int .i64 ((rd_T47 l0 x15_1).f0))) (fun _ hk => hk.2) (.slice A734_1 ((rd_T47 l0 x15_1).f1).length c734_1)) (fun _ hk => ⟨hk.1.1.1, ⟨hk.1.1.2, hk.1.2⟩⟩)))⟩; have n3_ : Aside0 (w12.heap[gb735]? = some (.cells #[.int .i64 ((rd_T47 l0 x15_1).f0), .slice A734_1 ((rd_T47 l0 x15_1).f1).length c734_1] 47 (0, 0))) := ⟨(by rw [hw]; exact (by (with_reducible repeat first|refine zb1 ?_ _|refine zb2 ?_|refine zb3 ?_ _); refine blk_put (cs := #[.int .i64 ((rd_T47 l0 x15_1).f0), .slice none 0 0]) ?_ 1 _ rfl; (with_reducible repeat first|refine zb1 ?_ _|refine zb2 ?_|refine zb3 ?_ _); refine blk_put (cs := #[.int .i64 0, .slice none 0 0]) ?_ 0 _ rfl; (with_reducible repeat first|refine zb1 ?_ _|refine zb2 ?_|refine zb3 ?_ _); exact BK735.out))⟩; have n4_ : Aside0 (Below w.heap.size w w12) := ⟨(by rw [hw]; exact (by repeat (first | (with_reducible first | exact HB.out | apply below_alloc | apply pw_below_drewN | apply below_drew1 | refine below_set ?_ GE735.out) | exact HB.out)))⟩; clear hw; clear HO_5; clear HO_13; clear HL734_1; clear BK735; clear HB; have HO_5 := n0_; have HO_13 := n1_; have HL734_1 := n2_; have BK735 := n3_; have HB := n4_; clear n0_ n1_ n2_ n3_ n4_; have hcz13_0 : w12.cell? ⟨gb735, 0, none⟩ = some (.int .i64 ((rd_T47 l0 x15_1).f0)) := (blk_cell BK735.out 0).trans rfl; have hcz13_1 : w12.cell? ⟨gb735, 1, none⟩ = some (.slice A734_1 ((rd_T47 l0 x15_1).f1).length c734_1) := (blk_cell BK735.out 1).trans rfl; have hfz13_0 := blk_frozen BK735.out 0; have hfz13_1 := blk_frozen BK735.out 1) | ((with_reducible refine gate_store (t := 45) (p := 23) rfl ?_); refine store_event (t := 45) (p := 23) (v := ?vo_w14) (w1 := (w12.setCell ⟨gb735, 0, none⟩ (.int .i64 3))) ?hg ?ho ?hn ?hr ?_; (case ho => rfl); (case hg => rfl); (case hn => rfl); (case hr => first | (go_simp; done) | (go_simp; rfl)); intro w14 hw; have n0_ : Aside0 (Kd.N k47 47 w14 w.heap.size (fun k_ => (P0_ k_ ∨ w.heap.size ≤ k_) ∧ k_ ≠ gb735) u5 x5_1) := ⟨(by rw [hw]; exact (by (with_reducible repeat (first | apply Kd.N_alloc | apply Kd.N_drewN | apply Kd.N_drew)); exact Kd.N_mono (Kd.N_far (p := ⟨gb735, 0, none⟩) (Kd.N_mono HO_5.out (fun k_ hk => (⟨hk, hk.2⟩ : _ ∧ k_ ≠ gb735))) (fun _ hk => hk.2) (.int .i64 3)) (fun _ hk => ⟨hk.1.1, hk.1.2⟩)))⟩; have n1_ : Aside0 (Kd.V k47 47 w14 w.heap.size (fun k_ => (P0_ k_ ∨ w.heap.size ≤ k_) ∧ some k_ ≠ (u5 : Value).ownBlock ∧ k_ ≠ gb735) (.slice (some ad734) l0.length c0) l0) := ⟨(by rw [hw]; exact (by (with_reducible repeat (first | apply Kd.V_alloc | apply Kd.V_drewN | apply Kd.V_drew)); exact Kd.V_mono (Kd.V_far (p := ⟨gb735, 0, none⟩) (Kd.V_mono HO_13.out (fun k_ hk => (⟨hk, hk.2.2⟩ : _ ∧ k_ ≠ gb735))) (fun _ hk => hk.2) (.int .i64 3)) (fun _ hk => ⟨hk.1.1, ⟨hk.1.2.1, hk.1.2.2⟩⟩)))⟩; have n2_ : Aside0 (Kd.V k66 66 w14 w.heap.size (fun k_ => (P0_ k_ ∨ w.heap.size ≤ k_) ∧ some k_ ≠ (u5 : Value).ownBlock ∧ k_ ≠ gb735) (.slice A734_1 ((rd_T47 l0 x15_1).f1).length c734_1) ((rd_T47 l0 x15_1).f1)) := ⟨(by rw [hw]; exact (by (with_reducible repeat (first | apply Kd.V_alloc | apply Kd.V_drewN | apply Kd.V_drew)); exact Kd.V_mono (Kd.V_far (p := ⟨gb735, 0, none⟩) (Kd.V_mono HL734_1.out (fun k_ hk => (⟨hk, hk.2.2⟩ : _ ∧ k_ ≠ gb735))) (fun _ hk => hk.2) (.int .i64 3)) (fun _ hk => ⟨hk.1.1, ⟨hk.1.2.1, hk.1.2.2⟩⟩)))⟩; have n3_ : Aside0 (w14.heap[gb735]? = some (.cells #[.int .i64 3, .slice A734_1 ((rd_T47 l0 x15_1).f1).length c734_1] 47 (0, 0))) := ⟨(by rw [hw]; exact (by (with_reducible repeat first|refine zb1 ?_ _|refine zb2 ?_|refine zb3 ?_ _); refine blk_put (cs := #[.int .i64 ((rd_T47 l0 x15_1).f0), .slice A734_1 ((rd_T47 l0 x15_1).f1).length c734_1]) ?_ 0 _ rfl; (with_reducible repeat first|refine zb1 ?_ _|refine zb2 ?_|refine zb3 ?_ _); exact BK735.out))⟩; have n4_ : Aside0 (Below w.heap.size w w14) := ⟨(by rw [hw]; exact (by repeat (first | (with_reducible first | exact HB.out | apply below_alloc | apply pw_below_drewN | apply below_drew1 | refine below_set ?_ GE735.out) | exact HB.out)))⟩; clear hw; clear HO_5; clear HO_13; clear HL734_1; clear BK735; clear HB; have HO_5 := n0_; have HO_13 := n1_; have HL734_1 := n2_; have BK735 := n3_; have HB := n4_; clear n0_ n1_ n2_ n3_ n4_; have hcz15_0 : w14.cell? ⟨gb735, 0, none⟩ = some (.int .i64 3) := (blk_cell BK735.out 0).trans rfl; have hcz15_1 : w14.cell? ⟨gb735, 1, none⟩ = some (.slice A734_1 ((rd_T47 l0 x15_1).f1).length c734_1) := (blk_cell BK735.out 1).trans rfl; have hfz15_0 := blk_frozen BK735.out 0; have hfz15_1 := blk_frozen BK735.out 1) | ((with_reducible refine gate_builtin (b := .append) (xs := #[.tmp 27, .tmp 29]) rfl ?_); at_builtin; refine Kd.N_append k47 (w0 := w) w.heap.size rfl (.tmp 27) (.tmp 29) 22 47 (.agg #[(.int .i64 0), (.slice none 0 0)]) 32 rfl Try.underlying22 info47 rfl (by decide) (by omega) u5 x5_1 (⟨3, (rd_T47 l0 x15_1).f1⟩ : S47) [.int .i64 3, .slice A734_1 ((rd_T47 l0 x15_1).f1).length c734_1] (fun k_ => (P0_ k_ ∨ w.heap.size ≤ k_) ∧ k_ ≠ gb735) (fun k_ => ((fun k_ => (P0_ k_ ∨ w.heap.size ≤ k_) ∧ k_ ≠ gb735)) k_ ∧ some k_ ≠ (u5 : Value).ownBlock) rfl rfl ?aP (fun _ hk => hk) ?aF ?aO ?aB ?aS ?aL ?_; (case aP => exact (k47_mkF _ _ (⟨3, (rd_T47 l0 x15_1).f1⟩ : S47) (Kd.V_reads' (Kd.V_mono (ok' := (fun k_ => ((fun k_ => (P0_ k_ ∨ w.heap.size ≤ k_) ∧ k_ ≠ gb735)) k_ ∧ some k_ ≠ (u5 : Value).ownBlock)) (HL734_1.out) (fun k_ hk => ⟨⟨hk.1, hk.2.2⟩, hk.2.1⟩))).2.1 (Kd.V_F (Kd.V_mono (ok' := (fun k_ => ((fun k_ => (P0_ k_ ∨ w.heap.size ≤ k_) ∧ k_ ≠ gb735)) k_ ∧ some k_ ≠ (u5 : Value).ownBlock)) (HL734_1.out) (fun k_ hk => ⟨⟨hk.1, hk.2.2⟩, hk.2.1⟩))))); (case aB => exact (by repeat (first | (with_reducible first | exact HB.out | apply below_alloc | apply pw_below_drewN | apply below_drew1 | refine below_set ?_ GE735.out) | exact HB.out))); (case aF => exact (fun k_ hk => ⟨(.inr (Nat.le_trans (below_size (by repeat (first | (with_reducible first | exact HB.out | apply below_alloc | apply pw_below_drewN | apply below_drew1 | refine below_set ?_ GE735.out) | exact HB.out))) hk)), Kd.freshB (g := gb735) (o := .cells #[.int .i64 3, .slice A734_1 ((rd_T47 l0 x15_1).f1).length c734_1] 47 (0, 0)) (by (with_reducible repeat first|refine zb1 ?_ _|refine zb2 ?_|refine zb3 ?_ _); exact BK735.out) k_ hk⟩)); (case aO => exact (by (with_reducible repeat (first | apply Kd.N_alloc | apply Kd.N_drewN | apply Kd.N_drew)); exact HO_5.out)); (case aS => exact (below_size (by repeat (first | (with_reducible first | exact HB.out | apply below_alloc | apply pw_below_drewN | apply below_drew1 | refine below_set ?_ GE735.out) | exact HB.out)))); (case aL => have := LMc9.out; omega); intro v737 w16 ho hb hg hat; rw [← Ny736.out] at ho; have n0_ := Aside0.mk (Kd.V_afterv (ok := (fun k_ => (P0_ k_ ∨ w.heap.size ≤ k_) ∧ k_ ≠ gb735)) (by (with_reducible repeat (first | apply Kd.V_alloc | apply Kd.V_drewN | apply Kd.V_drew)); exact Kd.V_mono HO_13.out (fun _ hk => ⟨⟨hk.1, hk.2.2⟩, hk.2.1⟩)) hg hat); have n1_ := Aside0.mk (Kd.V_afterv (ok := (fun k_ => (P0_ k_ ∨ w.heap.size ≤ k_) ∧ k_ ≠ gb735)) (by (with_reducible repeat (first | apply Kd.V_alloc | apply Kd.V_drewN | apply Kd.V_drew)); exact Kd.V_mono HL734_1.out (fun _ hk => ⟨⟨hk.1, hk.2.2⟩, hk.2.1⟩)) hg hat); have n2_ := Aside0.mk (blk_grown (g := gb735) (o := .cells #[.int .i64 3, .slice A734_1 ((rd_T47 l0 x15_1).f1).length c734_1] 47 (0, 0)) (by (with_reducible repeat first|refine zb1 ?_ _|refine zb2 ?_|refine zb3 ?_ _); exact BK735.out) hg (Kd.N_away HO_5.out (fun _ hk => hk.2))); have n3_ := Aside0.mk (hb); have n4_ := Aside0.mk (ho); clear HO_13; clear HL734_1; clear BK735; clear HB; clear HO_5; have HO_13 := n0_; have HL734_1 := n1_; have BK735 := n2_; have HB := n3_; have HO738 := n4_; clear n0_ n1_ n2_ n3_ n4_; clear ho hb hg hat))
         go_roundg k1
         case measure => have := HK1.out; omega
         case rel => exact ⟨(y736), (wrap64 (x15_1 + 1)), (by first | rfl | (simp; done) | (simp [*]; done)), H', ⟨by have := HK1.out; omega⟩, ⟨by (with_reducible repeat (first | apply Kd.N_alloc | apply Kd.N_drewN | apply Kd.N_drew)); exact Kd.N_mono HO738.out (fun _ hk => hk.1)⟩, ⟨by (with_reducible repeat (first | apply Kd.V_alloc | apply Kd.V_drewN | apply Kd.V_drew)); exact Kd.V_mono HO_13.out (fun _ hk => ⟨hk.1.1, hk.2⟩)⟩, ⟨by repeat (first | (with_reducible first | exact HB.out | apply below_alloc | apply pw_below_drewN | apply below_drew1 | refine below_set ?_ GE735.out) | exact HB.out)⟩⟩
        ·rw [if_neg c9] at H
         exact absurd H (by simp)
       ·rw [if_neg c8] at H
        have c8b0 : (((rd_T47 l0 x15_1).f0) == 2) = false := beq_eq_false_iff_ne.mpr c8
        have c8b1 : (((rd_T47 l0 x15_1).f0) != 2) = true := bne_iff_ne.mpr c8
        by_cases c17 : ((rd_T47 l0 x15_1).f0) = 3
        ·rw [if_pos c17] at H
         have c17b0 : (((rd_T47 l0 x15_1).f0) == 3) = true := beq_iff_eq.mpr c17
         have c17b1 : (((rd_T47 l0 x15_1).f0) != 3) = false := bne_eq_false_iff_eq.mpr c17
         clear c17
         by_cases c18 : x5_1.length < 4398046511104
         ·rw [if_pos c18] at H
          have LMc18 := Aside0.mk c18
          clear c18
          obtain ⟨y739, hy739⟩ : ∃ y_ : List (S47), y_ = (x5_1 ++ [(⟨2, (rd_T47 l0 x15_1).f1⟩ : S47)]) := ⟨_, rfl⟩
          replace H : (script_Invert.l0 k1 y739 l0 (l0.length : Int) (wrap64 (x15_1 + 1))) = some (r1, r2) := by first | (rw [hy739]; with_reducible exact H) | (have H2_ := (Option.bind_some _ _).symm.trans H; rw [hy739]; with_reducible exact H2_) | (have H2_ := (Option.bind_some _ _).symm.trans H; with_reducible exact H2_) | with_reducible exact H | (rw [hy739]; exact H) | exact H
          have Ny739 := Aside0.mk hy739
          clear hy739
          have H' := Aside0.mk H
          clear H
          have p734 : 0 ≤ (x15_1 : Int) := of_decide_eq_true (by first | (with_reducible assumption) | assumption)
          have q734 : x15_1 < (l0.length : Int) := of_decide_eq_true (by first | (with_reducible assumption) | assumption)
          obtain ⟨ad734, A734_1, c734_1, e734, hx734_0, hx734_1, hl734_1, hi734_1⟩ := at_T47 (Kd.V_reads' HO_13.out).2.2 x15_1 p734 q734
          cases e734
          obtain ⟨ce734, hce734, hMe734, hcc734⟩ := Kd.V_get HO_13.out z47 x15_1 p734 (by first | exact q734 | exact of_decide_eq_true (by first | (with_reducible assumption) | assumption) | (have e_ := (Kd.V_reads' HO_13.out).1; omega))
          obtain ⟨ua734_1, uc734_1, rfl, ul734_1, ge734_1⟩ := k47_openF hMe734
          have hv734_1 := hcc734 1 _ rfl
          rw [add_field _ _ 1 (by omega)] at hv734_1
          replace hv734_1 := Option.some.inj (hv734_1.symm.trans hx734_1)
          injection hv734_1 with hva_ hvn_ hvc_
          rw [hva_] at ge734_1
          rw [hvc_] at ul734_1
          have HL734_1 := Aside0.mk (show Kd.V k66 66 _ w.heap.size _ _ ((rd_T47 l0 x15_1).f1) from Kd.V_mk ul734_1 ge734_1)
          clear hva_ hvn_ hvc_ ge734_1 ul734_1
          clear hcc734 hce734
          have HR734_1 := Aside0.mk hi734_1
          have HC734_1 := Aside0.mk hl734_1
          clear hi734_1 hl734_1
          replace p734 := eq_true p734
          replace q734 := eq_true q734
          go_wp2_with (first | ((with_reducible refine gate_dst (N := 7) rfl ?_); refine box_event ?hg (N := 7) ?hd (cs := #[.int .i64 0, .slice none 0 0]) (t := 47) ?hr ?_; (case hd => rfl); (case hg => rfl); (case hr => first | (go_simp; done) | (go_simp; rfl)); intro gb735 hg w19 hbox hb; have n0_ := Aside0.mk (Kd.N_below (Kd.N_elderB (by (with_reducible repeat (first | apply Kd.N_alloc | apply Kd.N_drewN | apply Kd.N_drew)); exact HO_5.out) gb735 (Nat.le_of_eq hg.symm)) hb); have n1_ := Aside0.mk (Kd.V_below (Kd.V_elderB (by (with_reducible repeat (first | apply Kd.V_alloc | apply Kd.V_drewN | apply Kd.V_drew)); exact HO_13.out) gb735 (Nat.le_of_eq hg.symm)) hb); have n2_ := Aside0.mk (Kd.V_below (Kd.V_elderB (by (with_reducible repeat (first | apply Kd.V_alloc | apply Kd.V_drewN | apply Kd.V_drew)); exact HL734_1.out) gb735 (Nat.le_of_eq hg.symm)) hb); have n3_ := Aside0.mk (Kd.C_below (by repeat (first | (with_reducible exact HR734_1.out) | (with_reducible refine Kd.C_alloc ?_ _) | (with_reducible refine Kd.C_drewN ?_ _) | (with_reducible refine Kd.C_drew ?_) | exact HR734_1.out)) hb); have n4_ := Aside0.mk (below_step (by repeat (first | (with_reducible first | exact HB.out | apply below_alloc | apply pw_below_drewN | apply below_drew1) | exact HB.out)) hb); have n5_ := Aside0.mk (hbox); have n6_ := Aside0.mk ((by rw [hg]; exact (below_size (by repeat (first | (with_reducible first | exact HB.out | apply below_alloc | apply pw_below_drewN | apply below_drew1) | exact HB.out))) : w.heap.size ≤ gb735)); have n7_ := Aside0.mk ((by rw [hg]; exact (below_size (by repeat (first | (with_reducible first | exact HB.out | apply below_alloc | apply pw_below_drewN | apply below_drew1) | exact HB.out))) : w.heap.size ≤ gb735)); clear HO_5; clear HO_13; clear HL734_1; clear HR734_1; clear HB; have HO_5 := n0_; have HO_13 := n1_; have HL734_1 := n2_; have HR734_1 := n3_; have HB := n4_; have BK735 := n5_; have GW735 := n6_; have GE735 := n7_; clear n0_ n1_ n2_ n3_ n4_ n5_ n6_ n7_; clear hb hbox hg; have hcz20_0 : w19.cell? ⟨gb735, 0, none⟩ = some (.int .i64 0) := (blk_cell BK735.out 0).trans rfl; have hcz20_1 : w19.cell? ⟨gb735, 1, none⟩ = some (.slice none 0 0) := (blk_cell BK735.out 1).trans rfl; have hfz20_0 := blk_frozen BK735.out 0; have hfz20_1 := blk_frozen BK735.out 1) | ((with_reducible refine gate_store (t := 47) (p := 7) rfl ?_); refine store_event (t := 47) (p := 7) (v := ?vo_w21) (w1 := ((w19.setCell ⟨gb735, 0, none⟩ (.int .i64 ((rd_T47 l0 x15_1).f0))).setCell ⟨gb735, 1, none⟩ (.slice A734_1 ((rd_T47 l0 x15_1).f1).length c734_1))) ?hg ?ho ?hn ?hr ?_; (case ho => rfl); (case hg => rfl); (case hn => rfl); (case hr => first | (go_simp; done) | (go_simp; rfl)); intro w21 hw; have n0_ : Aside0 (Kd.N k47 47 w21 w.heap.size (fun k_ => (P0_ k_ ∨ w.heap.size ≤ k_) ∧ k_ ≠ gb735) u5 x5_1) := ⟨(by rw [hw]; exact (by (with_reducible repeat (first | apply Kd.N_alloc | apply Kd.N_drewN | apply Kd.N_drew)); exact Kd.N_mono (Kd.N_far (p := ⟨gb735, 1, none⟩) (Kd.N_far (p := ⟨gb735, 0, none⟩) (Kd.N_mono HO_5.out (fun k_ hk => (⟨hk, hk.2⟩ : _ ∧ k_ ≠ gb735))) (fun _ hk => hk.2) (.int .i64 ((rd_T47 l0 x15_1).f0))) (fun _ hk => hk.2) (.slice A734_1 ((rd_T47 l0 x15_1).f1).length c734_1)) (fun _ hk => ⟨hk.1.1, hk.1.2⟩)))⟩; have n1_ : Aside0 (Kd.V k47 47 w21 w.heap.size (fun k_ => (P0_ k_ ∨ w.heap.size ≤ k_) ∧ some k_ ≠ (u5 : Value).ownBlock ∧ k_ ≠ gb735) (.slice (some ad734) l0.length c0) l0) := ⟨(by rw [hw]; exact (by (with_reducible repeat (first | apply Kd.V_alloc | apply Kd.V_drewN | apply Kd.V_drew)); exact Kd.V_mono (Kd.V_far (p := ⟨gb735, 1, none⟩) (Kd.V_far (p := ⟨gb735, 0, none⟩) (Kd.V_mono HO_13.out (fun k_ hk => (⟨hk, hk.2⟩ : _ ∧ k_ ≠ gb735))) (fun _ hk => hk.2) (.int .i64 ((rd_T47 l0 x15_1).f0))) (fun _ hk => hk.2) (.slice A734_1 ((rd_T47 l0 x15_1).f1).length c734_1)) (fun _ hk => ⟨hk.1.1.1, ⟨hk.1.1.2, hk.1.2⟩⟩)))⟩; have n2_ : Aside0 (Kd.V k66 66 w21 w.heap.size (fun k_ => (P0_ k_ ∨ w.heap.size ≤ k_) ∧ some k_ ≠ (u5 : Value).ownBlock ∧ k_ ≠ gb735) (.slice A734_1 ((rd_T47 l0 x15_1).f1).length c734_1) ((rd_T47 l0 x15_1).f1)) := ⟨(by rw [hw]; exact (by (with_reducible repeat (first | apply Kd.V_alloc | apply Kd.V_drewN | apply Kd.V_drew)); exact Kd.V_mono (Kd.V_far (p := ⟨gb735, 1, none⟩) (Kd.V_far (p := ⟨gb735, 0, none⟩) (Kd.V_mono HL734_1.out (fun k_ hk => (⟨hk, hk.2⟩ : _ ∧ k_ ≠ gb735))) (fun _ hk => hk.2) (.int .i64 ((rd_T47 l0 x15_1).f0))) (fun _ hk => hk.2) (.slice A734_1 ((rd_T47 l0 x15_1).f1).length c734_1)) (fun _ hk => ⟨hk.1.1.1, ⟨hk.1.1.2, hk.1.2⟩⟩)))⟩; have n3_ : Aside0 (w21.heap[gb735]? = some (.cells #[.int .i64 ((rd_T47 l0 x15_1).f0), .slice A734_1 ((rd_T47 l0 x15_1).f1).length c734_1] 47 (0, 0))) := ⟨(by rw [hw]; exact (by (with_reducible repeat first|refine zb1 ?_ _|refine zb2 ?_|refine zb3 ?_ _); refine blk_put (cs := #[.int .i64 ((rd_T47 l0 x15_1).f0), .slice none 0 0]) ?_ 1 _ rfl; (with_reducible repeat first|refine zb1 ?_ _|refine zb2 ?_|refine zb3 ?_ _); refine blk_put (cs := #[.int .i64 0, .slice none 0 0]) ?_ 0 _ rfl; (with_reducible repeat first|refine zb1 ?_ _|refine zb2 ?_|refine zb3 ?_ _); exact BK735.out))⟩; have n4_ : Aside0 (Below w.heap.size w w21) := ⟨(by rw [hw]; exact (by repeat (first | (with_reducible first | exact HB.out | apply below_alloc | apply pw_below_drewN | apply below_drew1 | refine below_set ?_ GE735.out) | exact HB.out)))⟩; clear hw; clear HO_5; clear HO_13; clear HL734_1; clear BK735; clear HB; have HO_5 := n0_; have HO_13 := n1_; have HL734_1 := n2_; have BK735 := n3_; have HB := n4_; clear n0_ n1_ n2_ n3_ n4_; have hcz22_0 : w21.cell? ⟨gb735, 0, none⟩ = some (.int .i64 ((rd_T47 l0 x15_1).f0)) := (blk_cell BK735.out 0).trans rfl; have hcz22_1 : w21.cell? ⟨gb735, 1, none⟩ = some (.slice A734_1 ((rd_T47 l0 x15_1).f1).length c734_1) := (blk_cell BK735.out 1).trans rfl; have hfz22_0 := blk_frozen BK735.out 0; have hfz22_1 := blk_frozen BK735.out 1) | ((with_reducible refine gate_store (t := 45) (p := 26) rfl ?_); refine store_event (t := 45) (p := 26) (v := ?vo_w23) (w1 := (w21.setCell ⟨gb735, 0, none⟩ (.int .i64 2))) ?hg ?ho ?hn ?hr ?_; (case ho => rfl); (case hg => rfl); (case hn => rfl); (case hr => first | (go_simp; done) | (go_simp; rfl)); intro w23 hw; have n0_ : Aside0 (Kd.N k47 47 w23 w.heap.size (fun k_ => (P0_ k_ ∨ w.heap.size ≤ k_) ∧ k_ ≠ gb735) u5 x5_1) := ⟨(by rw [hw]; exact (by (with_reducible repeat (first | apply Kd.N_alloc | apply Kd.N_drewN | apply Kd.N_drew)); exact Kd.N_mono (Kd.N_far (p := ⟨gb735, 0, none⟩) (Kd.N_mono HO_5.out (fun k_ hk => (⟨hk, hk.2⟩ : _ ∧ k_ ≠ gb735))) (fun _ hk => hk.2) (.int .i64 2)) (fun _ hk => ⟨hk.1.1, hk.1.2⟩)))⟩; have n1_ : Aside0 (Kd.V k47 47 w23 w.heap.size (fun k_ => (P0_ k_ ∨ w.heap.size ≤ k_) ∧ some k_ ≠ (u5 : Value).ownBlock ∧ k_ ≠ gb735) (.slice (some ad734) l0.length c0) l0) := ⟨(by rw [hw]; exact (by (with_reducible repeat (first | apply Kd.V_alloc | apply Kd.V_drewN | apply Kd.V_drew)); exact Kd.V_mono (Kd.V_far (p := ⟨gb735, 0, none⟩) (Kd.V_mono HO_13.out (fun k_ hk => (⟨hk, hk.2.2⟩ : _ ∧ k_ ≠ gb735))) (fun _ hk => hk.2) (.int .i64 2)) (fun _ hk => ⟨hk.1.1, ⟨hk.1.2.1, hk.1.2.2⟩⟩)))⟩; have n2_ : Aside0 (Kd.V k66 66 w23 w.heap.size (fun k_ => (P0_ k_ ∨ w.heap.size ≤ k_) ∧ some k_ ≠ (u5 : Value).ownBlock ∧ k_ ≠ gb735) (.slice A734_1 ((rd_T47 l0 x15_1).f1).length c734_1) ((rd_T47 l0 x15_1).f1)) := ⟨(by rw [hw]; exact (by (with_reducible repeat (first | apply Kd.V_alloc | apply Kd.V_drewN | apply Kd.V_drew)); exact Kd.V_mono (Kd.V_far (p := ⟨gb735, 0, none⟩) (Kd.V_mono HL734_1.out (fun k_ hk => (⟨hk, hk.2.2⟩ : _ ∧ k_ ≠ gb735))) (fun _ hk => hk.2) (.int .i64 2)) (fun _ hk => ⟨hk.1.1, ⟨hk.1.2.1, hk.1.2.2⟩⟩)))⟩; have n3_ : Aside0 (w23.heap[gb735]? = some (.cells #[.int .i64 2, .slice A734_1 ((rd_T47 l0 x15_1).f1).length c734_1] 47 (0, 0))) := ⟨(by rw [hw]; exact (by (with_reducible repeat first|refine zb1 ?_ _|refine zb2 ?_|refine zb3 ?_ _); refine blk_put (cs := #[.int .i64 ((rd_T47 l0 x15_1).f0), .slice A734_1 ((rd_T47 l0 x15_1).f1).length c734_1]) ?_ 0 _ rfl; (with_reducible repeat first|refine zb1 ?_ _|refine zb2 ?_|refine zb3 ?_ _); exact BK735.out))⟩; have n4_ : Aside0 (Below w.heap.size w w23) := ⟨(by rw [hw]; exact (by repeat (first | (with_reducible first | exact HB.out | apply below_alloc | apply pw_below_drewN | apply below_drew1 | refine below_set ?_ GE735.out) | exact HB.out)))⟩; clear hw; clear HO_5; clear HO_13; clear HL734_1; clear BK735; clear HB; have HO_5 := n0_; have HO_13 := n1_; have HL734_1 := n2_; have BK735 := n3_; have HB := n4_; clear n0_ n1_ n2_ n3_ n4_; have hcz24_0 : w23.cell? ⟨gb735, 0, none⟩ = some (.int .i64 2) := (blk_cell BK735.out 0).trans rfl; have hcz24_1 : w23.cell? ⟨gb735, 1, none⟩ = some (.slice A734_1 ((rd_T47 l0 x15_1).f1).length c734_1) := (blk_cell BK735.out 1).trans rfl; have hfz24_0 := blk_frozen BK735.out 0; have hfz24_1 := blk_frozen BK735.out 1) | ((with_reducible refine gate_builtin (b := .append) (xs := #[.tmp 27, .tmp 29]) rfl ?_); at_builtin; refine Kd.N_append k47 (w0 := w) w.heap.size rfl (.tmp 27) (.tmp 29) 22 47 (.agg #[(.int .i64 0), (.slice none 0 0)]) 32 rfl Try.underlying22 info47 rfl (by decide) (by omega) u5 x5_1 (⟨2, (rd_T47 l0 x15_1).f1⟩ : S47) [.int .i64 2, .slice A734_1 ((rd_T47 l0 x15_1).f1).length c734_1] (fun k_ => (P0_ k_ ∨ w.heap.size ≤ k_) ∧ k_ ≠ gb735) (fun k_ => ((fun k_ => (P0_ k_ ∨ w.heap.size ≤ k_) ∧ k_ ≠ gb735)) k_ ∧ some k_ ≠ (u5 : Value).ownBlock) rfl rfl ?aP (fun _ hk => hk) ?aF ?aO ?aB ?aS ?aL ?_; (case aP => exact (k47_mkF _ _ (⟨2, (rd_T47 l0 x15_1).f1⟩ : S47) (Kd.V_reads' (Kd.V_mono (ok' := (fun k_ => ((fun k_ => (P0_ k_ ∨ w.heap.size ≤ k_) ∧ k_ ≠ gb735)) k_ ∧ some k_ ≠ (u5 : Value).ownBlock)) (HL734_1.out) (fun k_ hk => ⟨⟨hk.1, hk.2.2⟩, hk.2.1⟩))).2.1 (Kd.V_F (Kd.V_mono (ok' := (fun k_ => ((fun k_ => (P0_ k_ ∨ w.heap.size ≤ k_) ∧ k_ ≠ gb735)) k_ ∧ some k_ ≠ (u5 : Value).ownBlock)) (HL734_1.out) (fun k_ hk => ⟨⟨hk.1, hk.2.2⟩, hk.2.1⟩))))); (case aB => exact (by repeat (first | (with_reducible first | exact HB.out | apply below_alloc | apply pw_below_drewN | apply below_drew1 | refine below_set ?_ GE735.out) | exact HB.out))); (case aF => exact (fun k_ hk => ⟨(.inr (Nat.le_trans (below_size (by repeat (first | (with_reducible first | exact HB.out | apply below_alloc | apply pw_below_drewN | apply below_drew1 | refine below_set ?_ GE735.out) | exact HB.out))) hk)), Kd.freshB (g := gb735) (o := .cells #[.int .i64 2, .slice A734_1 ((rd_T47 l0 x15_1).f1).length c734_1] 47 (0, 0)) (by (with_reducible repeat first|refine zb1 ?_ _|refine zb2 ?_|refine zb3 ?_ _); exact BK735.out) k_ hk⟩)); (case aO => exact (by (with_reducible repeat (first | apply Kd.N_alloc | apply Kd.N_drewN | apply Kd.N_drew)); exact HO_5.out)); (case aS => exact (below_size (by repeat (first | (with_reducible first | exact HB.out | apply below_alloc | apply pw_below_drewN | apply below_drew1 | refine below_set ?_ GE735.out) | exact HB.out)))); (case aL => have := LMc18.out; omega); intro v740 w25 ho hb hg hat; rw [← Ny739.out] at ho; have n0_ := Aside0.mk (Kd.V_afterv (ok := (fun k_ => (P0_ k_ ∨ w.heap.size ≤ k_) ∧ k_ ≠ gb735)) (by (with_reducible repeat (first | apply Kd.V_alloc | apply Kd.V_drewN | apply Kd.V_drew)); exact Kd.V_mono HO_13.out (fun _ hk => ⟨⟨hk.1, hk.2.2⟩, hk.2.1⟩)) hg hat); have n1_ := Aside0.mk (Kd.V_afterv (ok := (fun k_ => (P0_ k_ ∨ w.heap.size ≤ k_) ∧ k_ ≠ gb735)) (by (with_reducible repeat (first | apply Kd.V_alloc | apply Kd.V_drewN | apply Kd.V_drew)); exact Kd.V_mono HL734_1.out (fun _ hk => ⟨⟨hk.1, hk.2.2⟩, hk.2.1⟩)) hg hat); have n2_ := Aside0.mk (blk_grown (g := gb735) (o := .cells #[.int .i64 2, .slice A734_1 ((rd_T47 l0 x15_1).f1).length c734_1] 47 (0, 0)) (by (with_reducible repeat first|refine zb1 ?_ _|refine zb2 ?_|refine zb3 ?_ _); exact BK735.out) hg (Kd.N_away HO_5.out (fun _ hk => hk.2))); have n3_ := Aside0.mk (hb); have n4_ := Aside0.mk (ho); clear HO_13; clear HL734_1; clear BK735; clear HB; clear HO_5; have HO_13 := n0_; have HL734_1 := n1_; have BK735 := n2_; have HB := n3_; have HO741 := n4_; clear n0_ n1_ n2_ n3_ n4_; clear ho hb hg hat))
          go_roundg k1
          case measure => have := HK1.out; omega
          case rel => exact ⟨(y739), (wrap64 (x15_1 + 1)), (by first | rfl | (simp; done) | (simp [*]; done)), H', ⟨by have := HK1.out; omega⟩, ⟨by (with_reducible repeat (first | apply Kd.N_alloc | apply Kd.N_drewN | apply Kd.N_drew)); exact Kd.N_mono HO741.out (fun _ hk => hk.1)⟩, ⟨by (with_reducible repeat (first | apply Kd.V_alloc | apply Kd.V_drewN | apply Kd.V_drew)); exact Kd.V_mono HO_13.out (fun _ hk => ⟨hk.1.1, hk.2⟩)⟩, ⟨by repeat (first | (with_reducible first | exact HB.out | apply below_alloc | apply pw_below_drewN | apply below_drew1 | refine below_set ?_ GE735.out) | exact HB.out)⟩⟩
         ·rw [if_neg c18] at H
          exact absurd H (by simp)
        ·rw [if_neg c17] at H
         have c17b0 : (((rd_T47 l0 x15_1).f0) == 3) = false := beq_eq_false_iff_ne.mpr c17
         have c17b1 : (((rd_T47 l0 x15_1).f0) != 3) = true := bne_iff_ne.mpr c17
         by_cases c26 : x5_1.length < 4398046511104
         ·rw [if_pos c26] at H
          have LMc26 := Aside0.mk c26
          clear c26
          obtain ⟨y742, hy742⟩ : ∃ y_ : List (S47), y_ = (x5_1 ++ [(⟨(rd_T47 l0 x15_1).f0, (rd_T47 l0 x15_1).f1⟩ : S47)]) := ⟨_, rfl⟩
          replace H : (script_Invert.l0 k1 y742 l0 (l0.length : Int) (wrap64 (x15_1 + 1))) = some (r1, r2) := by first | (rw [hy742]; with_reducible exact H) | (have H2_ := (Option.bind_some _ _).symm.trans H; rw [hy742]; with_reducible exact H2_) | (have H2_ := (Option.bind_some _ _).symm.trans H; with_reducible exact H2_) | with_reducible exact H | (rw [hy742]; exact H) | exact H
          have Ny742 := Aside0.mk hy742
          clear hy742
          have H' := Aside0.mk H
          clear H
          have p734 : 0 ≤ (x15_1 : Int) := of_decide_eq_true (by first | (with_reducible assumption) | assumption)
          have q734 : x15_1 < (l0.length : Int) := of_decide_eq_true (by first | (with_reducible assumption) | assumption)
          obtain ⟨ad734, A734_1, c734_1, e734, hx734_0, hx734_1, hl734_1, hi734_1⟩ := at_T47 (Kd.V_reads' HO_13.out).2.2 x15_1 p734 q734
          cases e734
          obtain ⟨ce734, hce734, hMe734, hcc734⟩ := Kd.V_get HO_13.out z47 x15_1 p734 (by first | exact q734 | exact of_decide_eq_true (by first | (with_reducible assumption) | assumption) | (have e_ := (Kd.V_reads' HO_13.out).1; omega))
          obtain ⟨ua734_1, uc734_1, rfl, ul734_1, ge734_1⟩ := k47_openF hMe734
          have hv734_1 := hcc734 1 _ rfl
          rw [add_field _ _ 1 (by omega)] at hv734_1
          replace hv734_1 := Option.some.inj (hv734_1.symm.trans hx734_1)
          injection hv734_1 with hva_ hvn_ hvc_
          rw [hva_] at ge734_1
          rw [hvc_] at ul734_1
          have HL734_1 := Aside0.mk (show Kd.V k66 66 _ w.heap.size _ _ ((rd_T47 l0 x15_1).f1) from Kd.V_mk ul734_1 ge734_1)
          clear hva_ hvn_ hvc_ ge734_1 ul734_1
          clear hcc734 hce734
          have HR734_1 := Aside0.mk hi734_1
          have HC734_1 := Aside0.mk hl734_1
          clear hi734_1 hl734_1
          replace p734 := eq_true p734
          replace q734 := eq_true q734
          go_wp2_with (first | ((with_reducible refine gate_dst (N := 7) rfl ?_); refine box_event ?hg (N := 7) ?hd (cs := #[.int .i64 0, .slice none 0 0]) (t := 47) ?hr ?_; (case hd => rfl); (case hg => rfl); (case hr => first | (go_simp; done) | (go_simp; rfl)); intro gb735 hg w27 hbox hb; have n0_ := Aside0.mk (Kd.N_below (Kd.N_elderB (by (with_reducible repeat (first | apply Kd.N_alloc | apply Kd.N_drewN | apply Kd.N_drew)); exact HO_5.out) gb735 (Nat.le_of_eq hg.symm)) hb); have n1_ := Aside0.mk (Kd.V_below (Kd.V_elderB (by (with_reducible repeat (first | apply Kd.V_alloc | apply Kd.V_drewN | apply Kd.V_drew)); exact HO_13.out) gb735 (Nat.le_of_eq hg.symm)) hb); have n2_ := Aside0.mk (Kd.V_below (Kd.V_elderB (by (with_reducible repeat (first | apply Kd.V_alloc | apply Kd.V_drewN | apply Kd.V_drew)); exact HL734_1.out) gb735 (Nat.le_of_eq hg.symm)) hb); have n3_ := Aside0.mk (Kd.C_below (by repeat (first | (with_reducible exact HR734_1.out) | (with_reducible refine Kd.C_alloc ?_ _) | (with_reducible refine Kd.C_drewN ?_ _) | (with_reducible refine Kd.C_drew ?_) | exact HR734_1.out)) hb); have n4_ := Aside0.mk (below_step (by repeat (first | (with_reducible first | exact HB.out | apply below_alloc | apply pw_below_drewN | apply below_drew1) | exact HB.out)) hb); have n5_ := Aside0.mk (hbox); have n6_ := Aside0.mk ((by rw [hg]; exact (below_size (by repeat (first | (with_reducible first | exact HB.out | apply below_alloc | apply pw_below_drewN | apply below_drew1) | exact HB.out))) : w.heap.size ≤ gb735)); have n7_ := Aside0.mk ((by rw [hg]; exact (below_size (by repeat (first | (with_reducible first | exact HB.out | apply below_alloc | apply pw_below_drewN | apply below_drew1) | exact HB.out))) : w.heap.size ≤ gb735)); clear HO_5; clear HO_13; clear HL734_1; clear HR734_1; clear HB; have HO_5 := n0_; have HO_13 := n1_; have HL734_1 := n2_; have HR734_1 := n3_; have HB := n4_; have BK735 := n5_; have GW735 := n6_; have GE735 := n7_; clear n0_ n1_ n2_ n3_ n4_ n5_ n6_ n7_; clear hb hbox hg; have hcz28_0 : w27.cell? ⟨gb735, 0, none⟩ = some (.int .i64 0) := (blk_cell BK735.out 0).trans rfl; have hcz28_1 : w27.cell? ⟨gb735, 1, none⟩ = some (.slice none 0 0) := (blk_cell BK735.out 1).trans rfl; have hfz28_0 := blk_frozen BK735.out 0; have hfz28_1 := blk_frozen BK735.out 1) | ((with_reducible refine gate_store (t := 47) (p := 7) rfl ?_); refine store_event (t := 47) (p := 7) (v := ?vo_w29) (w1 := ((w27.setCell ⟨gb735, 0, none⟩ (.int .i64 ((rd_T47 l0 x15_1).f0))).setCell ⟨gb735, 1, none⟩ (.slice A734_1 ((rd_T47 l0 x15_1).f1).length c734_1))) ?hg ?ho ?hn ?hr ?_; (case ho => rfl); (case hg => rfl); (case hn => rfl); (case hr => first | (go_simp; done) | (go_simp; rfl)); intro w29 hw; have n0_ : Aside0 (Kd.N k47 47 w29 w.heap.size (fun k_ => (P0_ k_ ∨ w.heap.size ≤ k_) ∧ k_ ≠ gb735) u5 x5_1) := ⟨(by rw [hw]; exact (by (with_reducible repeat (first | apply Kd.N_alloc | apply Kd.N_drewN | apply Kd.N_drew)); exact Kd.N_mono (Kd.N_far (p := ⟨gb735, 1, none⟩) (Kd.N_far (p := ⟨gb735, 0, none⟩) (Kd.N_mono HO_5.out (fun k_ hk => (⟨hk, hk.2⟩ : _ ∧ k_ ≠ gb735))) (fun _ hk => hk.2) (.int .i64 ((rd_T47 l0 x15_1).f0))) (fun _ hk => hk.2) (.slice A734_1 ((rd_T47 l0 x15_1).f1).length c734_1)) (fun _ hk => ⟨hk.1.1, hk.1.2⟩)))⟩; have n1_ : Aside0 (Kd.V k47 47 w29 w.heap.size (fun k_ => (P0_ k_ ∨ w.heap.size ≤ k_) ∧ some k_ ≠ (u5 : Value).ownBlock ∧ k_ ≠ gb735) (.slice (some ad734) l0.length c0) l0) := ⟨(by rw [hw]; exact (by (with_reducible repeat (first | apply Kd.V_alloc | apply Kd.V_drewN | apply Kd.V_drew)); exact Kd.V_mono (Kd.V_far (p := ⟨gb735, 1, none⟩) (Kd.V_far (p := ⟨gb735, 0, none⟩) (Kd.V_mono HO_13.out (fun k_ hk => (⟨hk, hk.2⟩ : _ ∧ k_ ≠ gb735))) (fun _ hk => hk.2) (.int .i64 ((rd_T47 l0 x15_1).f0))) (fun _ hk => hk.2) (.slice A734_1 ((rd_T47 l0 x15_1).f1).length c734_1)) (fun _ hk => ⟨hk.1.1.1, ⟨hk.1.1.2, hk.1.2⟩⟩)))⟩; have n2_ : Aside0 (Kd.V k66 66 w29 w.heap.size (fun k_ => (P0_ k_ ∨ w.heap.size ≤ k_) ∧ some k_ ≠ (u5 : Value).ownBlock ∧ k_ ≠ gb735) (.slice A734_1 ((rd_T47 l0 x15_1).f1).length c734_1) ((rd_T47 l0 x15_1).f1)) := ⟨(by rw [hw]; exact (by (with_reducible repeat (first | apply Kd.V_alloc | apply Kd.V_drewN | apply Kd.V_drew)); exact Kd.V_mono (Kd.V_far (p := ⟨gb735, 1, none⟩) (Kd.V_far (p := ⟨gb735, 0, none⟩) (Kd.V_mono HL734_1.out (fun k_ hk => (⟨hk, hk.2⟩ : _ ∧ k_ ≠ gb735))) (fun _ hk => hk.2) (.int .i64 ((rd_T47 l0 x15_1).f0))) (fun _ hk => hk.2) (.slice A734_1 ((rd_T47 l0 x15_1).f1).length c734_1)) (fun _ hk => ⟨hk.1.1.1, ⟨hk.1.1.2, hk.1.2⟩⟩)))⟩; have n3_ : Aside0 (w29.heap[gb735]? = some (.cells #[.int .i64 ((rd_T47 l0 x15_1).f0), .slice A734_1 ((rd_T47 l0 x15_1).f1).length c734_1] 47 (0, 0))) := ⟨(by rw [hw]; exact (by (with_reducible repeat first|refine zb1 ?_ _|refine zb2 ?_|refine zb3 ?_ _); refine blk_put (cs := #[.int .i64 ((rd_T47 l0 x15_1).f0), .slice none 0 0]) ?_ 1 _ rfl; (with_reducible repeat first|refine zb1 ?_ _|refine zb2 ?_|refine zb3 ?_ _); refine blk_put (cs := #[.int .i64 0, .slice none 0 0]) ?_ 0 _ rfl; (with_reducible repeat first|refine zb1 ?_ _|refine zb2 ?_|refine zb3 ?_ _); exact BK735.out))⟩; have n4_ : Aside0 (Below w.heap.size w w29) := ⟨(by rw [hw]; exact (by repeat (first | (with_reducible first | exact HB.out | apply below_alloc | apply pw_below_drewN | apply below_drew1 | refine below_set ?_ GE735.out) | exact HB.out)))⟩; clear hw; clear HO_5; clear HO_13; clear HL734_1; clear BK735; clear HB; have HO_5 := n0_; have HO_13 := n1_; have HL734_1 := n2_; have BK735 := n3_; have HB := n4_; clear n0_ n1_ n2_ n3_ n4_; have hcz30_0 : w29.cell? ⟨gb735, 0, none⟩ = some (.int .i64 ((rd_T47 l0 x15_1).f0)) := (blk_cell BK735.out 0).trans rfl; have hcz30_1 : w29.cell? ⟨gb735, 1, none⟩ = some (.slice A734_1 ((rd_T47 l0 x15_1).f1).length c734_1) := (blk_cell BK735.out 1).trans rfl; have hfz30_0 := blk_frozen BK735.out 0; have hfz30_1 := blk_frozen BK735.out 1) | ((with_reducible refine gate_builtin (b := .append) (xs := #[.tmp 27, .tmp 29]) rfl ?_); at_builtin; refine Kd.N_append k47 (w0 := w) w.heap.size rfl (.tmp 27) (.tmp 29) 22 47 (.agg #[(.int .i64 0), (.slice none 0 0)]) 32 rfl Try.underlying22 info47 rfl (by decide) (by omega) u5 x5_1 (⟨(rd_T47 l0 x15_1).f0, (rd_T47 l0 x15_1).f1⟩ : S47) [.int .i64 ((rd_T47 l0 x15_1).f0), .slice A734_1 ((rd_T47 l0 x15_1).f1).length c734_1] (fun k_ => (P0_ k_ ∨ w.heap.size ≤ k_) ∧ k_ ≠ gb735) (fun k_ => ((fun k_ => (P0_ k_ ∨ w.heap.size ≤ k_) ∧ k_ ≠ gb735)) k_ ∧ some k_ ≠ (u5 : Value).ownBlock) rfl rfl ?aP (fun _ hk => hk) ?aF ?aO ?aB ?aS ?aL ?_; (case aP => exact (k47_mkF _ _ (⟨(rd_T47 l0 x15_1).f0, (rd_T47 l0 x15_1).f1⟩ : S47) (Kd.V_reads' (Kd.V_mono (ok' := (fun k_ => ((fun k_ => (P0_ k_ ∨ w.heap.size ≤ k_) ∧ k_ ≠ gb735)) k_ ∧ some k_ ≠ (u5 : Value).ownBlock)) (HL734_1.out) (fun k_ hk => ⟨⟨hk.1, hk.2.2⟩, hk.2.1⟩))).2.1 (Kd.V_F (Kd.V_mono (ok' := (fun k_ => ((fun k_ => (P0_ k_ ∨ w.heap.size ≤ k_) ∧ k_ ≠ gb735)) k_ ∧ some k_ ≠ (u5 : Value).ownBlock)) (HL734_1.out) (fun k_ hk => ⟨⟨hk.1, hk.2.2⟩, hk.2.1⟩))))); (case aB => exact (by repeat (first | (with_reducible first | exact HB.out | apply below_alloc | apply pw_below_drewN | apply below_drew1 | refine below_set ?_ GE735.out) | exact HB.out))); (case aF => exact (fun k_ hk => ⟨(.inr (Nat.le_trans (below_size (by repeat (first | (with_reducible first | exact HB.out | apply below_alloc | apply pw_below_drewN | apply below_drew1 | refine below_set ?_ GE735.out) | exact HB.out))) hk)), Kd.freshB (g := gb735) (o := .cells #[.int .i64 ((rd_T47 l0 x15_1).f0), .slice A734_1 ((rd_T47 l0 x15_1).f1).length c734_1] 47 (0, 0)) (by (with_reducible repeat first|refine zb1 ?_ _|refine zb2 ?_|refine zb3 ?_ _); exact BK735.out) k_ hk⟩)); (case aO => exact (by (with_reducible repeat (first | apply Kd.N_alloc | apply Kd.N_drewN | apply Kd.N_drew)); exact HO_5.out)); (case aS => exact (below_size (by repeat (first | (with_reducible first | exact HB.out | apply below_alloc | apply pw_below_drewN | apply below_drew1 | refine below_set ?_ GE735.out) | exact HB.out)))); (case aL => have := LMc26.out; omega); intro v743 w31 ho hb hg hat; rw [← Ny742.out] at ho; have n0_ := Aside0.mk (Kd.V_afterv (ok := (fun k_ => (P0_ k_ ∨ w.heap.size ≤ k_) ∧ k_ ≠ gb735)) (by (with_reducible repeat (first | apply Kd.V_alloc | apply Kd.V_drewN | apply Kd.V_drew)); exact Kd.V_mono HO_13.out (fun _ hk => ⟨⟨hk.1, hk.2.2⟩, hk.2.1⟩)) hg hat); have n1_ := Aside0.mk (Kd.V_afterv (ok := (fun k_ => (P0_ k_ ∨ w.heap.size ≤ k_) ∧ k_ ≠ gb735)) (by (with_reducible repeat (first | apply Kd.V_alloc | apply Kd.V_drewN | apply Kd.V_drew)); exact Kd.V_mono HL734_1.out (fun _ hk => ⟨⟨hk.1, hk.2.2⟩, hk.2.1⟩)) hg hat); have n2_ := Aside0.mk (blk_grown (g := gb735) (o := .cells #[.int .i64 ((rd_T47 l0 x15_1).f0), .slice A734_1 ((rd_T47 l0 x15_1).f1).length c734_1] 47 (0, 0)) (by (with_reducible repeat first|refine zb1 ?_ _|refine zb2 ?_|refine zb3 ?_ _); exact BK735.out) hg (Kd.N_away HO_5.out (fun _ hk => hk.2))); have n3_ := Aside0.mk (hb); have n4_ := Aside0.mk (ho); clear HO_13; clear HL734_1; clear BK735; clear HB; clear HO_5; have HO_13 := n0_; have HL734_1 := n1_; have BK735 := n2_; have HB := n3_; have HO744 := n4_; clear n0_ n1_ n2_ n3_ n4_; clear ho hb hg hat))
          go_roundg k1
          case measure => have := HK1.out; omega
          case rel => exact ⟨(y742), (wrap64 (x15_1 + 1)), (by first | rfl | (simp; done) | (simp [*]; done)), H', ⟨by have := HK1.out; omega⟩, ⟨by (with_reducible repeat (first | apply Kd.N_alloc | apply Kd.N_drewN | apply Kd.N_drew)); exact Kd.N_mono HO744.out (fun _ hk => hk.1)⟩, ⟨by (with_reducible repeat (first | apply Kd.V_alloc | apply Kd.V_drewN | apply Kd.V_drew)); exact Kd.V_mono HO_13.out (fun _ hk => ⟨hk.1.1, hk.2⟩)⟩, ⟨by repeat (first | (with_reducible first | exact HB.out | apply below_alloc | apply pw_below_drewN | apply below_drew1 | refine below_set ?_ GE735.out) | exact HB.out)⟩⟩
         ·rw [if_neg c26] at H
          exact absurd H (by simp)
      ·rw [if_neg c7] at H
       exact absurd H (by simp)
     ·rw [if_neg c6] at H
      exact absurd H (by simp)
    ·rw [if_neg c5] at H
     have c5b0 : decide (x15_1 < (l0.length : Int)) = false := decide_eq_false c5
     clear c5
     replace H := Option.bind_eq_some_iff.mp H
     obtain ⟨t731, A320, H⟩ := H
     replace H : (some (t731, 0)) = some (r1, r2) := H
     have A32 := Aside0.mk A320
     clear A320
     simp only [Option.some.injEq, Prod.mk.injEq] at H
     obtain ⟨rfl, rfl⟩ := H
     obtain ⟨Ao33, co33, eo33⟩ := Kd.N_slice HO_5.out
     subst eo33
     go_wp2_with (first | ((with_reducible refine gate_callee (f := 67) rfl ?_); refine goesL_ (some 33) rfl rfl Try.func67 (by kernel_rfl) rfl #[.slice Ao33 x5_1.length co33] rfl (by (try simp only [List.map_toArray, List.map_cons, List.map_nil]); first | done | rfl | (simp only [List.length_drop, List.length_take]; rfl)) ?_; (with_reducible refine (script_normal.calls _ _ x5_1 t731 _ ?side1 ?side2 A32.out).mono ?_); (case side1 => repeat (first | exact (Kd.N_reads' HO_5.out).2.2 | (with_reducible refine Kd.C_alloc ?_ _) | (with_reducible refine Kd.C_drewN ?_ _) | (with_reducible refine Kd.C_drew ?_))); (case side2 => exact (Kd.N_reads' HO_5.out).2.1); rintro e w34 ⟨v732, rfl, ho0, hb⟩; refine ⟨_, rfl, ?_⟩; have n0_ := Aside0.mk (Kd.N_elder' (by (with_reducible repeat (first | apply Kd.N_alloc | apply Kd.N_drewN | apply Kd.N_drew)); exact HO_5.out) (by first | exact Kd.S_base ho0 | exact Kd.R_base ho0 | exact Kd.N_base ho0) hb); have n1_ := Aside0.mk (Kd.V_elder' (by (with_reducible repeat (first | apply Kd.V_alloc | apply Kd.V_drewN | apply Kd.V_drew)); exact HO_13.out) (by first | exact Kd.S_base ho0 | exact Kd.R_base ho0 | exact Kd.N_base ho0) hb); have n2_ := Aside0.mk (Kd.N_lower (Kd.N_mono (ok' := fun k_ => (P0_ k_ ∨ w.heap.size ≤ k_) ∧ some k_ ≠ (.slice Ao33 x5_1.length co33 : Value).ownBlock) (Kd.S_N (Kd.S_bound ho0)) (fun k_ hk_ => ⟨(.inr (Nat.le_trans (below_size (by repeat (first | (with_reducible first | exact HB.out | apply below_alloc | apply pw_below_drewN | apply below_drew1) | exact HB.out))) hk_.2.1)), (Kd.fresh' (Kd.N_lt (by (with_reducible repeat (first | apply Kd.N_alloc | apply Kd.N_drewN | apply Kd.N_drew)); exact HO_5.out)) k_ hk_.2.1)⟩)) (below_size (by repeat (first | (with_reducible first | exact HB.out | apply below_alloc | apply pw_below_drewN | apply below_drew1) | exact HB.out)))); have n3_ := Aside0.mk (below_step (by repeat (first | (with_reducible first | exact HB.out | apply below_alloc | apply pw_below_drewN | apply below_drew1) | exact HB.out)) hb); clear HO_5; clear HO_13; clear HB; have HO_5 := n0_; have HO_13 := n1_; have HO733 := n2_; have HB := n3_; clear n0_ n1_ n2_ n3_; (try clear hb); (try clear hb2); (try clear hk); (try clear hi); (try clear ho0)))
     go_ret2
     exact ⟨_, by first | rfl | (simp [errW_none, errW_some] <;> rfl) | (simp [*, errW_none, errW_some] <;> rfl), by (with_reducible repeat (first | apply Kd.N_alloc | apply Kd.N_drewN | apply Kd.N_drew)); exact Kd.N_mono HO733.out (fun _ hk => hk.1), by repeat (first | (with_reducible first | exact HB.out | apply below_alloc | apply pw_below_drewN | apply below_drew1) | exact HB.out)⟩
 ·rw [if_neg c3] at H
  have c3b0 : (t730 == 0) = false := beq_eq_false_iff_ne.mpr c3
  have c3b1 : (t730 != 0) = true := bne_iff_ne.mpr c3
  simp only [Option.some.injEq, Prod.mk.injEq] at H
  obtain ⟨rfl, rfl⟩ := H
  go_enter Try.func65, Try.ntmps65
  go_wp2_with (first | ((with_reducible refine gate_callee (f := 49) rfl ?_); refine goesL_ (some 9) rfl rfl Try.func49 (by kernel_rfl) rfl #[.slice A0 l0.length c0] rfl (by (try simp only [List.map_toArray, List.map_cons, List.map_nil]); first | done | rfl | (simp only [List.length_drop, List.length_take]; rfl)) ?_; (with_reducible refine (script_Check.calls k _ _ l0 t730 _ ?side1 ?side2 A2.out).mono ?_); (case side1 => repeat (first | exact (Kd.V_reads' HO0.out).2.2 | (with_reducible refine Kd.C_alloc ?_ _) | (with_reducible refine Kd.C_drewN ?_ _) | (with_reducible refine Kd.C_drew ?_))); (case side2 => exact (Kd.V_reads' HO0.out).2.1); rintro e w35 ⟨rfl, hb⟩; refine ⟨_, rfl, ?_⟩; have n0_ := Aside0.mk (Kd.V_below (by (with_reducible repeat (first | apply Kd.V_alloc | apply Kd.V_drewN | apply Kd.V_drew)); exact HO0.out) hb); have n1_ := Aside0.mk (below_step (by repeat (first | (with_reducible first | exact HB.out | apply below_alloc | apply pw_below_drewN | apply below_drew1) | exact HB.out)) hb); clear HO0; clear HB; have HO0 := n0_; have HB := n1_; clear n0_ n1_; (try clear hb); (try clear hb2); (try clear hk); (try clear hi)))
  go_ret2
  exact ⟨_, by first | rfl | (simp [errW_none, errW_some] <;> rfl) | (simp [*, errW_none, errW_some] <;> rfl), by first | exact Kd.S_nil _ _ _ _ _ | exact Kd.N_nil _ _ _ _ _ | exact Kd.V_nil _ _ _ _ _ | exact Kd.Q_nil _ _ _ _ _ | exact Kd.R_nil _ _ _ _ _, by repeat (first | (with_reducible first | exact HB.out | apply below_alloc | apply pw_below_drewN | apply below_drew1) | exact HB.out)⟩

end Go.Proofs.Ytfnbodjmmkjlcaa.H
end
section
namespace Go.Proofs.Ytfnbodjmmkjlcaa.H
open Go.RowKit Go.Proofs.YtfnbodjmmkjlcaaW.PrintWords Go.Proofs.YtfnbodjmmkjlcaaW.PrintLast Go.Proofs.YtfnbodjmmkjlcaaW.PrintMore
attribute [local go_sem] max2_int min2_int max_two min_two max_three min_three max_four min_four   -- for this text's walks alone
set_option linter.unusedVariables false
set_option linter.unusedSimpArgs false

def patch_Reverse.l0 : Nat → List (S44) → List (S44) → Int → Int → Option ((List (S44)) × Int)
 | 0, _, _, _, _ => none
 | k + 1, x5, x15, x16, x17 => if x17 < x16 then (if 0 ≤ x17 then (if x17 < (x15.length : Int) then ((script_Invert.f k ((rd_T44 x15 x17).f4)).bind fun bt748 => (if x5.length < 2513169434916 then (patch_Reverse.l0 k (x5 ++ [(⟨(rd_T44 x15 x17).f2, (rd_T44 x15 x17).f3, (rd_T44 x15 x17).f0, (rd_T44 x15 x17).f1, bt748.1⟩ : S44)]) x15 x16 (wrap64 (x17 + 1))) else (none))) else (none)) else (none)) else (some (x5, 0))
def patch_Reverse.f (k : Nat) (l0 : List (S44)) : Option ((List (S44)) × Int) := (hunk_Check.f k l0).bind fun t745 => (if t745 = 0 then (patch_Reverse.l0 k ([] : List (S44)) l0 (l0.length : Int) 0) else (some (([] : List (S44)), t745)))
set_option maxHeartbeats 8000000 in
set_option maxRecDepth 100000 in
theorem patch_Reverse.calls (k : Nat) (P0_ : Nat → Prop) (A0 : Option Addr) (c0 : Nat) (l0 : List (S44)) (r1 : List (S44)) (r2 : Int) (w : World) (hs0 : Kd.V k44 44 w w.heap.size (fun k_ => P0_ k_) (.slice A0 l0.length c0) l0) (h : patch_Reverse.f k l0 = some (r1, r2)) :
  Calls Try.prog 38 #[.slice A0 l0.length c0] w fun e w' => ∃ v0_ : Value, e = .returned (.tuple #[v0_, .int .i64 r2]) ∧ Kd.N k44 44 w' w.heap.size (fun k_ => (P0_ k_ ∨ w.heap.size ≤ k_)) v0_ r1 ∧ Below w.heap.size w w' := by
 have hu44 := Try.underlying44
 have HO0 := Aside0.mk (show Kd.V k44 44 w w.heap.size (fun k_ => (P0_ k_ ∨ w.heap.size ≤ k_)) (.slice A0 l0.length c0) l0 from Kd.V_mono hs0 (fun k_ hk => .inl hk))
 have HB := Aside0.mk (Below.refl w.heap.size w)
 have H : ((hunk_Check.f k l0).bind fun t745 => (if t745 = 0 then (patch_Reverse.l0 k ([] : List (S44)) l0 (l0.length : Int) 0) else (some (([] : List (S44)), t745)))) = some (r1, r2) := h
 clear h
 replace H := Option.bind_eq_some_iff.mp H
 obtain ⟨t745, A20, H⟩ := H
 replace H : (if t745 = 0 then (patch_Reverse.l0 k ([] : List (S44)) l0 (l0.length : Int) 0) else (some (([] : List (S44)), t745))) = some (r1, r2) := H
 have A2 := Aside0.mk A20
 clear A20
 by_cases c3 : t745 = 0
 ·rw [if_pos c3] at H
  have c3b0 : (t745 == 0) = true := beq_iff_eq.mpr c3
  have c3b1 : (t745 != 0) = false := bne_eq_false_iff_eq.mpr c3
  clear c3
  have H' := Aside0.mk H
  clear H
  go_enter Try.func38, Try.ntmps38
  go_wp2_with (first | ((with_reducible refine gate_callee (f := 18) rfl ?_); refine goesL_ (some 11) rfl rfl Try.func18 (by kernel_rfl) rfl #[.slice A0 l0.length c0] rfl (by (try simp only [List.map_toArray, List.map_cons, List.map_nil]); first | done | rfl | (simp only [List.length_drop, List.length_take]; rfl)) ?_; (with_reducible refine (hunk_Check.calls k _ _ l0 t745 _ ?side1 ?side2 A2.out).mono ?_); (case side1 => repeat (first | exact (Kd.V_reads' HO0.out).2.2 | (with_reducible refine Kd.C_alloc ?_ _) | (with_reducible refine Kd.C_drewN ?_ _) | (with_reducible refine Kd.C_drew ?_))); (case side2 => exact (Kd.V_reads' HO0.out).2.1); rintro e w4 ⟨rfl, hb⟩; refine ⟨_, rfl, ?_⟩; have n0_ := Aside0.mk (Kd.V_below (by (with_reducible repeat (first | apply Kd.V_alloc | apply Kd.V_drewN | apply Kd.V_drew)); exact HO0.out) hb); have n1_ := Aside0.mk (below_step (by repeat (first | (with_reducible first | exact HB.out | apply below_alloc | apply pw_below_drewN | apply below_drew1) | exact HB.out)) hb); clear HO0; clear HB; have HO0 := n0_; have HB := n1_; clear n0_ n1_; (try clear hb); (try clear hb2); (try clear hk); (try clear hi)))
  go_loopg [5, 17] k (fun kq v5 v17 w' => ∃ (x5_1 : List (S44)) (x17_1 : Int), v17 = .int .i64 x17_1 ∧ Aside0 (patch_Reverse.l0 kq x5_1 l0 (l0.length : Int) x17_1 = some (r1, r2)) ∧ Aside0 (kq ≤ k) ∧ Aside0 (Kd.N k44 44 w' w.heap.size (fun k_ => (P0_ k_ ∨ w.heap.size ≤ k_)) v5 x5_1) ∧ Aside0 (Kd.V k44 44 w' w.heap.size (fun k_ => (P0_ k_ ∨ w.heap.size ≤ k_) ∧ some k_ ≠ (v5 : Value).ownBlock) (.slice A0 l0.length c0) l0) ∧ Aside0 (Below w.heap.size w w'))
  case atStart => exact ⟨(([] : List (S44))), (0), (by first | rfl | (simp; done) | (simp [*]; done)), H', ⟨Nat.le_refl _⟩, ⟨by first | exact Kd.R_nil _ _ _ _ _ | exact Kd.N_nil _ _ _ _ _ | exact Kd.V_nil _ _ _ _ _ | exact Kd.Q_nil _ _ _ _ _ | exact Kd.S_nil _ _ _ _ _⟩, ⟨by (with_reducible repeat (first | apply Kd.V_alloc | apply Kd.V_drewN | apply Kd.V_drew)); exact Kd.V_mono HO0.out (fun _ hk => ⟨hk, (by simp [Value.ownBlock])⟩)⟩, ⟨by repeat (first | (with_reducible first | exact HB.out | apply below_alloc | apply pw_below_drewN | apply below_drew1) | exact HB.out)⟩⟩
  case round =>
   clear H'
   try clear c1
   try clear p2
   try clear c3
   try clear c3b0
   try clear c3b1
   obtain ⟨x5_1, x17_1, rfl, HA, HK1, HO_5, HO_15, HB⟩ := hrel
   cases gk with
   | zero => exact absurd HA.out (by simp [patch_Reverse.l0])
   | succ k1 =>
    have H := HA.out
    clear HA
    simp only [patch_Reverse.l0] at H
    by_cases c5 : x17_1 < (l0.length : Int)
    ·rw [if_pos c5] at H
     have c5b0 : decide (x17_1 < (l0.length : Int)) = true := decide_eq_true c5
     clear c5
     by_cases c6 : 0 ≤ x17_1
     ·rw [if_pos c6] at H
      have c6b0 : decide (0 ≤ x17_1) = true := decide_eq_true c6
      clear c6
      by_cases c7 : x17_1 < (l0.length : Int)
      ·rw [if_pos c7] at H
       have c7b0 : decide (x17_1 < (l0.length : Int)) = true := decide_eq_true c7
       clear c7
       replace H := Option.bind_eq_some_iff.mp H
       obtain ⟨⟨t748, t751⟩, A80, H⟩ := H
       replace H : (if x5_1.length < 2513169434916 then (patch_Reverse.l0 k1 (x5_1 ++ [(⟨(rd_T44 l0 x17_1).f2, (rd_T44 l0 x17_1).f3, (rd_T44 l0 x17_1).f0, (rd_T44 l0 x17_1).f1, t748⟩ : S44)]) l0 (l0.length : Int) (wrap64 (x17_1 + 1))) else (none)) = some (r1, r2) := H
       have A8 := Aside0.mk A80
       clear A80
       by_cases c9 : x5_1.length < 2513169434916
       ·rw [if_pos c9] at H
        have LMc9 := Aside0.mk c9
        clear c9
        obtain ⟨y752, hy752⟩ : ∃ y_ : List (S44), y_ = (x5_1 ++ [(⟨(rd_T44 l0 x17_1).f2, (rd_T44 l0 x17_1).f3, (rd_T44 l0 x17_1).f0, (rd_T44 l0 x17_1).f1, t748⟩ : S44)]) := ⟨_, rfl⟩
        replace H : (patch_Reverse.l0 k1 y752 l0 (l0.length : Int) (wrap64 (x17_1 + 1))) = some (r1, r2) := by first | (rw [hy752]; with_reducible exact H) | (have H2_ := (Option.bind_some _ _).symm.trans H; rw [hy752]; with_reducible exact H2_) | (have H2_ := (Option.bind_some _ _).symm.trans H; with_reducible exact H2_) | with_reducible exact H | (rw [hy752]; exact H) | exact H
        have Ny752 := Aside0.mk hy752
        clear hy752
        have H' := Aside0.mk H
        clear H
        have p746 : 0 ≤ (x17_1 : Int) := of_decide_eq_true (by first | (with_reducible assumption) | assumption)
        have q746 : x17_1 < (l0.length : Int) := of_decide_eq_true (by first | (with_reducible assumption) | assumption)
        obtain ⟨ad746, A746_4, c746_4, e746, hx746_0, hx746_1, hx746_2, hx746_3, hx746_4, hl746_4, hi746_4⟩ := at_T44 (Kd.V_reads' HO_15.out).2.2 x17_1 p746 q746
        cases e746
        obtain ⟨ce746, hce746, hMe746, hcc746⟩ := Kd.V_get HO_15.out z44 x17_1 p746 (by first | exact q746 | exact of_decide_eq_true (by first | (with_reducible assumption) | assumption) | (have e_ := (Kd.V_reads' HO_15.out).1; omega))
        obtain ⟨ua746_4, uc746_4, rfl, ul746_4, ge746_4⟩ := k44_openF hMe746
        have hv746_4 := hcc746 4 _ rfl
        rw [add_field _ _ 4 (by omega)] at hv746_4
        replace hv746_4 := Option.some.inj (hv746_4.symm.trans hx746_4)
        injection hv746_4 with hva_ hvn_ hvc_
        rw [hva_] at ge746_4
        rw [hvc_] at ul746_4
        have HL746_4 := Aside0.mk (show Kd.V k47 47 _ w.heap.size _ _ ((rd_T44 l0 x17_1).f4) from Kd.V_mk ul746_4 ge746_4)
        clear hva_ hvn_ hvc_ ge746_4 ul746_4
        clear hcc746 hce746
        have HR746_4 := Aside0.mk hi746_4
        have HC746_4 := Aside0.mk hl746_4
        clear hi746_4 hl746_4
        replace p746 := eq_true p746
        replace q746 := eq_true q746
        go_wp2_with (first | ((with_reducible refine gate_dst (N := 7) rfl ?_); refine box_event ?hg (N := 7) ?hd (cs := #[.int .i64 0, .int .i64 0, .int .i64 0, .int .i64 0, .slice none 0 0]) (t := 44) ?hr ?_; (case hd => rfl); (case hg => rfl); (case hr => first | (go_simp; done) | (go_simp; rfl)); intro gb747 hg w10 hbox hb; have n0_ := Aside0.mk (Kd.N_below (Kd.N_elderB (by (with_reducible repeat (first | apply Kd.N_alloc | apply Kd.N_drewN | apply Kd.N_drew)); exact HO_5.out) gb747 (Nat.le_of_eq hg.symm)) hb); have n1_ := Aside0.mk (Kd.V_below (Kd.V_elderB (by (with_reducible repeat (first | apply Kd.V_alloc | apply Kd.V_drewN | apply Kd.V_drew)); exact HO_15.out) gb747 (Nat.le_of_eq hg.symm)) hb); have n2_ := Aside0.mk (Kd.V_below (Kd.V_elderB (by (with_reducible repeat (first | apply Kd.V_alloc | apply Kd.V_drewN | apply Kd.V_drew)); exact HL746_4.out) gb747 (Nat.le_of_eq hg.symm)) hb); have n3_ := Aside0.mk (Kd.C_below (Kd.V_reads' HL746_4.out).2.2 hb); have n4_ := Aside0.mk (below_step (by repeat (first | (with_reducible first | exact HB.out | apply below_alloc | apply pw_below_drewN | apply below_drew1) | exact HB.out)) hb); have n5_ := Aside0.mk (hbox); have n6_ := Aside0.mk ((by rw [hg]; exact (below_size (by repeat (first | (with_reducible first | exact HB.out | apply below_alloc | apply pw_below_drewN | apply below_drew1) | exact HB.out))) : w.heap.size ≤ gb747)); have n7_ := Aside0.mk ((by rw [hg]; exact (below_size (by repeat (first | (with_reducible first | exact HB.out | apply below_alloc | apply pw_below_drewN | apply below_drew1) | exact HB.out))) : w.heap.size ≤ gb747)); clear HO_5; clear HO_15; clear HL746_4; clear HR746_4; clear HB; have HO_5 := n0_; have HO_15 := n1_; have HL746_4 := n2_; have HR746_4 := n3_; have HB := n4_; have BK747 := n5_; have GW747 := n6_; have GE747 := n7_; clear n0_ n1_ n2_ n3_ n4_ n5_ n6_ n7_; clear hb hbox hg; have hcz11_0 : w10.cell? ⟨gb747, 0, none⟩ = some (.int .i64 0) := (blk_cell BK747.out 0).trans rfl; have hcz11_1 : w10.cell? ⟨gb747, 1, none⟩ = some (.int .i64 0) := (blk_cell BK747.out 1).trans rfl; have hcz11_2 : w10.cell? ⟨gb747, 2, none⟩ = some (.int .i64 0) := (blk_cell BK747.out 2).trans rfl; have hcz11_3 : w10.cell? ⟨gb747, 3, none⟩ = some (.int .i64 0) := (blk_cell BK747.out 3).trans rfl; have hcz11_4 : w10.cell? ⟨gb747, 4, none⟩ = some (.slice none 0 0) := (blk_cell BK747.out 4).trans rfl; have hfz11_0 := blk_frozen BK747.out 0; have hfz11_1 := blk_frozen BK747.out 1; have hfz11_2 := blk_frozen BK747.out 2; have hfz11_3 := blk_frozen BK747.out 3; have hfz11_4 := blk_frozen BK747.out 4) | ((with_reducible refine gate_store (t := 44) (p := 7) rfl ?_); refine store_event (t := 44) (p := 7) (v := ?vo_w12) (w1 := (((((w10.setCell ⟨gb747, 0, none⟩ (.int .i64 ((rd_T44 l0 x17_1).f0))).setCell ⟨gb747, 1, none⟩ (.int .i64 ((rd_T44 l0 x17_1).f1))).setCell ⟨gb747, 2, none⟩ (.int .i64 ((rd_T44 l0 x17_1).f2))).setCell ⟨gb747, 3, none⟩ (.int .i64 ((rd_T44 l0 x17_1).f3))).setCell ⟨gb747, 4, none⟩ (.slice A746_4 ((rd_T44 l0 x17_1).f4).length c746_4))) ?hg ?ho ?hn ?hr ?_; (case ho => rfl); (case hg => rfl); (case hn => rfl); (case hr => first | (go_simp; done) | (go_simp; rfl)); intro w12 hw; have n0_ : Aside0 (Kd.N k44 44 w12 w.heap.size (fun k_ => (P0_ k_ ∨ w.heap.size ≤ k_) ∧ k_ ≠ gb747) u5 x5_1) := ⟨(by rw [hw]; exact (by (with_reducible repeat (first | apply Kd.N_alloc | apply Kd.N_drewN | apply Kd.N_drew)); exact Kd.N_mono (Kd.N_far (p := ⟨gb747, 4, none⟩) (Kd.N_far (p := ⟨gb747, 3, none⟩) (Kd.N_far (p := ⟨gb747, 2, none⟩) (Kd.N_far (p := ⟨gb747, 1, none⟩) (Kd.N_far (p := ⟨gb747, 0, none⟩) (Kd.N_mono HO_5.out (fun k_ hk => (⟨hk, hk.2⟩ : _ ∧ k_ ≠ gb747))) (fun _ hk => hk.2) (.int .i64 ((rd_T44 l0 x17_1).f0))) (fun _ hk => hk.2) (.int .i64 ((rd_T44 l0 x17_1).f1))) (fun _ hk => hk.2) (.int .i64 ((rd_T44 l0 x17_1).f2))) (fun _ hk => hk.2) (.int .i64 ((rd_T44 l0 x17_1).f3))) (fun _ hk => hk.2) (.slice A746_4 ((rd_T44 l0 x17_1).f4).length c746_4)) (fun _ hk => ⟨hk.1.1, hk.1.2⟩)))⟩; have n1_ : Aside0 (Kd.V k44 44 w12 w.heap.size (fun k_ => (P0_ k_ ∨ w.heap.size ≤ k_) ∧ some k_ ≠ (u5 : Value).ownBlock ∧ k_ ≠ gb747) (.slice (some ad746) l0.length c0) l0) := ⟨(by rw [hw]; exact (by (with_reducible repeat (first | apply Kd.V_alloc | apply Kd.V_drewN | apply Kd.V_drew)); exact Kd.V_mono (Kd.V_far (p := ⟨gb747, 4, none⟩) (Kd.V_far (p := ⟨gb747, 3, none⟩) (Kd.V_far (p := ⟨gb747, 2, none⟩) (Kd.V_far (p := ⟨gb747, 1, none⟩) (Kd.V_far (p := ⟨gb747, 0, none⟩) (Kd.V_mono HO_15.out (fun k_ hk => (⟨hk, hk.2⟩ : _ ∧ k_ ≠ gb747))) (fun _ hk => hk.2) (.int .i64 ((rd_T44 l0 x17_1).f0))) (fun _ hk => hk.2) (.int .i64 ((rd_T44 l0 x17_1).f1))) (fun _ hk => hk.2) (.int .i64 ((rd_T44 l0 x17_1).f2))) (fun _ hk => hk.2) (.int .i64 ((rd_T44 l0 x17_1).f3))) (fun _ hk => hk.2) (.slice A746_4 ((rd_T44 l0 x17_1).f4).length c746_4)) (fun _ hk => ⟨hk.1.1.1, ⟨hk.1.1.2, hk.1.2⟩⟩)))⟩; have n2_ : Aside0 (Kd.V k47 47 w12 w.heap.size (fun k_ => (P0_ k_ ∨ w.heap.size ≤ k_) ∧ some k_ ≠ (u5 : Value).ownBlock ∧ k_ ≠ gb747) (.slice A746_4 ((rd_T44 l0 x17_1).f4).length c746_4) ((rd_T44 l0 x17_1).f4)) := ⟨(by rw [hw]; exact (by (with_reducible repeat (first | apply Kd.V_alloc | apply Kd.V_drewN | apply Kd.V_drew)); exact Kd.V_mono (Kd.V_far (p := ⟨gb747, 4, none⟩) (Kd.V_far (p := ⟨gb747, 3, none⟩) (Kd.V_far (p := ⟨gb747, 2, none⟩) (Kd.V_far (p := ⟨gb747, 1, none⟩) (Kd.V_far (p := ⟨gb747, 0, none⟩) (Kd.V_mono HL746_4.out (fun k_ hk => (⟨hk, hk.2⟩ : _ ∧ k_ ≠ gb747))) (fun _ hk => hk.2) (.int .i64 ((rd_T44 l0 x17_1).f0))) (fun _ hk => hk.2) (.int .i64 ((rd_T44 l0 x17_1).f1))) (fun _ hk => hk.2) (.int .i64 ((rd_T44 l0 x17_1).f2))) (fun _ hk => hk.2) (.int .i64 ((rd_T44 l0 x17_1).f3))) (fun _ hk => hk.2) (.slice A746_4 ((rd_T44 l0 x17_1).f4).length c746_4)) (fun _ hk => ⟨hk.1.1.1, ⟨hk.1.1.2, hk.1.2⟩⟩)))⟩; have n3_ : Aside0 (w12.heap[gb747]? = some (.cells #[.int .i64 ((rd_T44 l0 x17_1).f0), .int .i64 ((rd_T44 l0 x17_1).f1), .int .i64 ((rd_T44 l0 x17_1).f2), .int .i64 ((rd_T44 l0 x17_1).f3), .slice A746_4 ((rd_T44 l0 x17_1).f4).length c746_4] 44 (0, 0))) := ⟨(by rw [hw]; exact (by (with_reducible repeat first|refine zb1 ?_ _|refine zb2 ?_|refine zb3 ?_ _); refine blk_put (cs := #[.int .i64 ((rd_T44 l0 x17_1).f0), .int .i64 ((rd_T44 l0 x17_1).f1), .int .i64 ((rd_T44 l0 x17_1).f2), .int .i64 ((rd_T44 l0 x17_1).f3), .slice none 0 0]) ?_ 4 _ rfl; (with_reducible repeat first|refine zb1 ?_ _|refine zb2 ?_|refine zb3 ?_ _); refine blk_put (cs := #[.int .i64 ((rd_T44 l0 x17_1).f0), .int .i64 ((rd_T44 l0 x17_1).f1), .int .i64 ((rd_T44 l0 x17_1).f2), .int .i64 0, .slice none 0 0]) ?_ 3 _ rfl; (with_reducible repeat first|refine zb1 ?_ _|refine zb2 ?_|refine zb3 ?_ _); refine blk_put (cs := #[.int .i64 ((rd_T44 l0 x17_1).f0), .int .i64 ((rd_T44 l0 x17_1).f1), .int .i64 0, .int .i64 0, .slice none 0 0]) ?_ 2 _ rfl; (with_reducible repeat first|refine zb1 ?_ _|refine zb2 ?_|refine zb3 ?_ _); refine blk_put (cs := #[.int .i64 ((rd_T44 l0 x17_1).f0), .int .i64 0, .int .i64 0, .int .i64 0, .slice none 0 0]) ?_ 1 _ rfl; (with_reducible repeat first|refine zb1 ?_ _|refine zb2 ?_|refine zb3 ?_ _); refine blk_put (cs := #[.int .i64 0, .int .i64 0, .int .i64 0, .int .i64 0, .slice none 0 0]) ?_ 0 _ rfl; (with_reducible repeat first|refine zb1 ?_ _|refine zb2 ?_|refine zb3 ?_ _); exact BK747.out))⟩; have n4_ : Aside0 (Below w.heap.size w w12) := ⟨(by rw [hw]; exact (by repeat (first | (with_reducible first | exact HB.out | apply below_alloc | apply pw_below_drewN | apply below_drew1 | refine below_set ?_ GE747.out) | exact HB.out)))⟩; clear hw; clear HO_5; clear HO_15; clear HL746_4; clear BK747; clear HB; have HO_5 := n0_; have HO_15 := n1_; have HL746_4 := n2_; have BK747 := n3_; have HB := n4_; clear n0_ n1_ n2_ n3_ n4_; have hcz13_0 : w12.cell? ⟨gb747, 0, none⟩ = some (.int .i64 ((rd_T44 l0 x17_1).f0)) := (blk_cell BK747.out 0).trans rfl; have hcz13_1 : w12.cell? ⟨gb747, 1, none⟩ = some (.int .i64 ((rd_T44 l0 x17_1).f1)) := (blk_cell BK747.out 1).trans rfl; have hcz13_2 : w12.cell? ⟨gb747, 2, none⟩ = some (.int .i64 ((rd_T44 l0 x17_1).f2)) := (blk_cell BK747.out 2).trans rfl; have hcz13_3 : w12.cell? ⟨gb747, 3, none⟩ = some (.int .i64 ((rd_T44 l0 x17_1).f3)) := (blk_cell BK747.out 3).trans rfl; have hcz13_4 : w12.cell? ⟨gb747, 4, none⟩ = some (.slice A746_4 ((rd_T44 l0 x17_1).f4).length c746_4) := (blk_cell BK747.out 4).trans rfl; have hfz13_0 := blk_frozen BK747.out 0; have hfz13_1 := blk_frozen BK747.out 1; have hfz13_2 := blk_frozen BK747.out 2; have hfz13_3 := blk_frozen BK747.out 3; have hfz13_4 := blk_frozen BK747.out 4) | ((with_reducible refine gate_callee (f := 65) rfl ?_); refine goesL_ (some 24) rfl rfl Try.func65 (by kernel_rfl) rfl #[.slice A746_4 ((rd_T44 l0 x17_1).f4).length c746_4] rfl (by (try simp only [List.map_toArray, List.map_cons, List.map_nil]); first | done | rfl | (simp only [List.length_drop, List.length_take]; rfl)) ?_; (with_reducible refine (script_Invert.calls k1 (fun k_ => ((P0_ k_ ∨ w.heap.size ≤ k_) ∧ (some k_ ≠ (u5 : Value).ownBlock ∧ k_ ≠ gb747))) _ _ ((rd_T44 l0 x17_1).f4) t748 t751 _ ?side1 A8.out).mono ?_); (case side1 => exact HL746_4.out); rintro e w14 ⟨v749, rfl, ho0, hb⟩; refine ⟨_, rfl, ?_⟩; have n0_ := Aside0.mk (Kd.N_elder' (by (with_reducible repeat (first | apply Kd.N_alloc | apply Kd.N_drewN | apply Kd.N_drew)); exact HO_5.out) (by first | exact Kd.S_base ho0 | exact Kd.R_base ho0 | exact Kd.N_base ho0) hb); have n1_ := Aside0.mk (Kd.V_elder' (by (with_reducible repeat (first | apply Kd.V_alloc | apply Kd.V_drewN | apply Kd.V_drew)); exact HO_15.out) (by first | exact Kd.S_base ho0 | exact Kd.R_base ho0 | exact Kd.N_base ho0) hb); have n2_ := Aside0.mk (Kd.V_elder' (by (with_reducible repeat (first | apply Kd.V_alloc | apply Kd.V_drewN | apply Kd.V_drew)); exact HL746_4.out) (by first | exact Kd.S_base ho0 | exact Kd.R_base ho0 | exact Kd.N_base ho0) hb); have n3_ := Aside0.mk (Kd.N_lower (Kd.N_mono (ok' := fun k_ => (P0_ k_ ∨ w.heap.size ≤ k_) ∧ some k_ ≠ (u5 : Value).ownBlock ∧ k_ ≠ gb747) ho0 (fun k_ hk_ => ⟨Or.elim hk_ (fun hs_ => hs_.1) (fun hn_ => (.inr (Nat.le_trans (below_size (by repeat (first | (with_reducible first | exact HB.out | apply below_alloc | apply pw_below_drewN | apply below_drew1 | refine below_set ?_ GE747.out) | exact HB.out))) hn_))), Or.elim hk_ (fun hs_ => hs_.2.1) (fun hn_ => (Kd.fresh' (Kd.N_lt (by (with_reducible repeat (first | apply Kd.N_alloc | apply Kd.N_drewN | apply Kd.N_drew)); exact HO_5.out)) k_ hn_)), Or.elim hk_ (fun hs_ => hs_.2.2) (fun hn_ => (Kd.freshB (g := gb747) (o := .cells #[.int .i64 ((rd_T44 l0 x17_1).f0), .int .i64 ((rd_T44 l0 x17_1).f1), .int .i64 ((rd_T44 l0 x17_1).f2), .int .i64 ((rd_T44 l0 x17_1).f3), .slice A746_4 ((rd_T44 l0 x17_1).f4).length c746_4] 44 (0, 0)) (by (with_reducible repeat first|refine zb1 ?_ _|refine zb2 ?_|refine zb3 ?_ _); exact BK747.out) k_ hn_))⟩)) (below_size (by repeat (first | (with_reducible first | exact HB.out | apply below_alloc | apply pw_below_drewN | apply below_drew1 | refine below_set ?_ GE747.out) | exact HB.out)))); have n4_ := Aside0.mk (Kd.C_below (Kd.V_reads' HL746_4.out).2.2 hb); have n5_ := Aside0.mk (blk_below (g := gb747) (o := .cells #[.int .i64 ((rd_T44 l0 x17_1).f0), .int .i64 ((rd_T44 l0 x17_1).f1), .int .i64 ((rd_T44 l0 x17_1).f2), .int .i64 ((rd_T44 l0 x17_1).f3), .slice A746_4 ((rd_T44 l0 x17_1).f4).length c746_4] 44 (0, 0)) (by (with_reducible repeat first|refine zb1 ?_ _|refine zb2 ?_|refine zb3 ?_ _); exact BK747.out) hb); have n6_ := Aside0.mk (below_step (by repeat (first | (with_reducible first | exact HB.out | apply below_alloc | apply pw_below_drewN | apply below_drew1 | refine below_set ?_ GE747.out) | exact HB.out)) hb); clear HO_5; clear HO_15; clear HL746_4; clear HR746_4; clear BK747; clear HB; have HO_5 := n0_; have HO_15 := n1_; have HL746_4 := n2_; have HO750 := n3_; have HR746_4 := n4_; have BK747 := n5_; have HB := n6_; clear n0_ n1_ n2_ n3_ n4_ n5_ n6_; (try clear hb); (try clear hb2); (try clear hk); (try clear hi); (try clear ho0); have hcz15_0 : w14.cell? ⟨gb747, 0, none⟩ = some (.int .i64 ((rd_T44 l0 x17_1).f0)) := (blk_cell BK747.out 0).trans rfl; have hcz15_1 : w14.cell? ⟨gb747, 1, none⟩ = some (.int .i64 ((rd_T44 l0 x17_1).f1)) := (blk_cell BK747.out 1).trans rfl; have hcz15_2 : w14.cell? ⟨gb747, 2, none⟩ = some (.int .i64 ((rd_T44 l0 x17_1).f2)) := (blk_cell BK747.out 2).trans rfl; have hcz15_3 : w14.cell? ⟨gb747, 3, none⟩ = some (.int .i64 ((rd_T44 l0 x17_1).f3)) := (blk_cell BK747.out 3).trans rfl; have hcz15_4 : w14.cell? ⟨gb747, 4, none⟩ = some (.slice A746_4 ((rd_T44 l0 x17_1).f4).length c746_4) := (blk_cell BK747.out 4).trans rfl; have hfz15_0 := blk_frozen BK747.out 0; have hfz15_1 := blk_frozen BK747.out 1; have hfz15_2 := blk_frozen BK747.out 2; have hfz15_3 := blk_frozen BK747.out 3; have hfz15_4 := blk_frozen BK747.out 4; obtain ⟨Ao16, co16, eo16⟩ := Kd.N_slice HO750.out; subst eo16) | ((with_reducible refine gate_builtin (b := .append) (xs := #[.tmp 27, .tmp 38]) rfl ?_); at_builtin; refine Kd.N_append k44 (w0 := w) w.heap.size rfl (.tmp 27) (.tmp 38) 25 44 (.agg #[(.int .i64 0), (.int .i64 0), (.int .i64 0), (.int .i64 0), (.slice none 0 0)]) 56 rfl Try.underlying25 info44 rfl (by decide) (by omega) u5 x5_1 (⟨(rd_T44 l0 x17_1).f2, (rd_T44 l0 x17_1).f3, (rd_T44 l0 x17_1).f0, (rd_T44 l0 x17_1).f1, t748⟩ : S44) [.int .i64 ((rd_T44 l0 x17_1).f2), .int .i64 ((rd_T44 l0 x17_1).f3), .int .i64 ((rd_T44 l0 x17_1).f0), .int .i64 ((rd_T44 l0 x17_1).f1), .slice Ao16 t748.length co16] (fun k_ => (P0_ k_ ∨ w.heap.size ≤ k_) ∧ k_ ≠ gb747) (fun k_ => ((fun k_ => (P0_ k_ ∨ w.heap.size ≤ k_) ∧ k_ ≠ gb747)) k_ ∧ some k_ ≠ (u5 : Value).ownBlock) rfl rfl ?aP (fun _ hk => hk) ?aF ?aO ?aB ?aS ?aL ?_; (case aP => exact (k44_mkF _ _ (⟨(rd_T44 l0 x17_1).f2, (rd_T44 l0 x17_1).f3, (rd_T44 l0 x17_1).f0, (rd_T44 l0 x17_1).f1, t748⟩ : S44) (Kd.N_reads' (Kd.N_mono (ok' := (fun k_ => ((fun k_ => (P0_ k_ ∨ w.heap.size ≤ k_) ∧ k_ ≠ gb747)) k_ ∧ some k_ ≠ (u5 : Value).ownBlock)) (HO750.out) (fun k_ hk => ⟨⟨hk.1, hk.2.2⟩, hk.2.1⟩))).2.1 (Kd.N_F (Kd.N_mono (ok' := (fun k_ => ((fun k_ => (P0_ k_ ∨ w.heap.size ≤ k_) ∧ k_ ≠ gb747)) k_ ∧ some k_ ≠ (u5 : Value).ownBlock)) (HO750.out) (fun k_ hk => ⟨⟨hk.1, hk.2.2⟩, hk.2.1⟩))))); (case aB => exact (by repeat (first | (with_reducible first | exact HB.out | apply below_alloc | apply pw_below_drewN | apply below_drew1 | refine below_set ?_ GE747.out) | exact HB.out))); (case aF => exact (fun k_ hk => ⟨(.inr (Nat.le_trans (below_size (by repeat (first | (with_reducible first | exact HB.out | apply below_alloc | apply pw_below_drewN | apply below_drew1 | refine below_set ?_ GE747.out) | exact HB.out))) hk)), Kd.freshB (g := gb747) (o := .cells #[.int .i64 ((rd_T44 l0 x17_1).f0), .int .i64 ((rd_T44 l0 x17_1).f1), .int .i64 ((rd_T44 l0 x17_1).f2), .int .i64 ((rd_T44 l0 x17_1).f3), .slice A746_4 ((rd_T44 l0 x17_1).f4).length c746_4] 44 (0, 0)) (by (with_reducible repeat first|refine zb1 ?_ _|refine zb2 ?_|refine zb3 ?_ _); exact BK747.out) k_ hk⟩)); (case aO => exact (by (with_reducible repeat (first | apply Kd.N_alloc | apply Kd.N_drewN | apply Kd.N_drew)); exact Kd.N_mono HO_5.out (fun _ hk => ⟨hk.1.1, hk.1.2⟩))); (case aS => exact (below_size (by repeat (first | (with_reducible first | exact HB.out | apply below_alloc | apply pw_below_drewN | apply below_drew1 | refine below_set ?_ GE747.out) | exact HB.out)))); (case aL => have := LMc9.out; omega); intro v753 w17 ho hb hg hat; rw [← Ny752.out] at ho; have n0_ := Aside0.mk (Kd.V_afterv (ok := (fun k_ => (P0_ k_ ∨ w.heap.size ≤ k_) ∧ some k_ ≠ (.slice Ao16 t748.length co16 : Value).ownBlock ∧ k_ ≠ gb747)) (by (with_reducible repeat (first | apply Kd.V_alloc | apply Kd.V_drewN | apply Kd.V_drew)); exact Kd.V_mono HO_15.out (fun _ hk => ⟨⟨hk.1.1, ⟨hk.2, hk.1.2.2⟩⟩, hk.1.2.1⟩)) hg hat); have n1_ := Aside0.mk (Kd.V_afterv (ok := (fun k_ => (P0_ k_ ∨ w.heap.size ≤ k_) ∧ some k_ ≠ (.slice Ao16 t748.length co16 : Value).ownBlock ∧ k_ ≠ gb747)) (by (with_reducible repeat (first | apply Kd.V_alloc | apply Kd.V_drewN | apply Kd.V_drew)); exact Kd.V_mono HL746_4.out (fun _ hk => ⟨⟨hk.1.1, ⟨hk.2, hk.1.2.2⟩⟩, hk.1.2.1⟩)) hg hat); have n2_ := Aside0.mk (blk_grown (g := gb747) (o := .cells #[.int .i64 ((rd_T44 l0 x17_1).f0), .int .i64 ((rd_T44 l0 x17_1).f1), .int .i64 ((rd_T44 l0 x17_1).f2), .int .i64 ((rd_T44 l0 x17_1).f3), .slice A746_4 ((rd_T44 l0 x17_1).f4).length c746_4] 44 (0, 0)) (by (with_reducible repeat first|refine zb1 ?_ _|refine zb2 ?_|refine zb3 ?_ _); exact BK747.out) hg (Kd.N_away HO_5.out (fun _ hk => hk.1.2))); have n3_ := Aside0.mk (hb); have n4_ := Aside0.mk (ho); clear HO_15; clear HL746_4; clear BK747; clear HB; clear HO_5; clear HO750; have HO_15 := n0_; have HL746_4 := n1_; have BK747 := n2_; have HB := n3_; have HO754 := n4_; clear n0_ n1_ n2_ n3_ n4_; clear ho hb hg hat))
        go_roundg k1
        case measure => have := HK1.out; omega
        case rel => exact ⟨(y752), (wrap64 (x17_1 + 1)), (by first | rfl | (simp; done) | (simp [*]; done)), H', ⟨by have := HK1.out; omega⟩, ⟨by (with_reducible repeat (first | apply Kd.N_alloc | apply Kd.N_drewN | apply Kd.N_drew)); exact Kd.N_mono HO754.out (fun _ hk => hk.1)⟩, ⟨by (with_reducible repeat (first | apply Kd.V_alloc | apply Kd.V_drewN | apply Kd.V_drew)); exact Kd.V_mono HO_15.out (fun _ hk => ⟨hk.1.1, hk.2⟩)⟩, ⟨by repeat (first | (with_reducible first | exact HB.out | apply below_alloc | apply pw_below_drewN | apply below_drew1 | refine below_set ?_ GE747.out) | exact HB.out)⟩⟩
       ·rw [if_neg c9] at H
        exact absurd H (by simp)
      ·rw [if_neg c7] at H
       exact absurd H (by simp)
     ·rw [if_neg c6] at H
      exact absurd H (by simp)
    ·rw [if_neg c5] at H
     have c5b0 : decide (x17_1 < (l0.length : Int)) = false := decide_eq_false c5
     clear c5
     simp only [Option.some.injEq, Prod.mk.injEq] at H
     obtain ⟨rfl, rfl⟩ := H
     go_wp2
     go_ret2
     exact ⟨_, by first | rfl | (simp [errW_none, errW_some] <;> rfl) | (simp [*, errW_none, errW_some] <;> rfl), by (with_reducible repeat (first | apply Kd.N_alloc | apply Kd.N_drewN | apply Kd.N_drew)); exact HO_5.out, by repeat (first | (with_reducible first | exact HB.out | apply below_alloc | apply pw_below_drewN | apply below_drew1) | exact HB.out)⟩
 ·rw [if_neg c3] at H
  have c3b0 : (t745 == 0) = false := beq_eq_false_iff_ne.mpr c3
  have c3b1 : (t745 != 0) = true := bne_iff_ne.mpr c3
  simp only [Option.some.injEq, Prod.mk.injEq] at H
  obtain ⟨rfl, rfl⟩ := H
  go_enter Try.func38, Try.ntmps38
  go_wp2_with (first | ((with_reducible refine gate_callee (f := 18) rfl ?_); refine goesL_ (some 11) rfl rfl Try.func18 (by kernel_rfl) rfl #[.slice A0 l0.length c0] rfl (by (try simp only [List.map_toArray, List.map_cons, List.map_nil]); first | done | rfl | (simp only [List.length_drop, List.length_take]; rfl)) ?_; (with_reducible refine (hunk_Check.calls k _ _ l0 t745 _ ?side1 ?side2 A2.out).mono ?_); (case side1 => repeat (first | exact (Kd.V_reads' HO0.out).2.2 | (with_reducible refine Kd.C_alloc ?_ _) | (with_reducible refine Kd.C_drewN ?_ _) | (with_reducible refine Kd.C_drew ?_))); (case side2 => exact (Kd.V_reads' HO0.out).2.1); rintro e w18 ⟨rfl, hb⟩; refine ⟨_, rfl, ?_⟩; have n0_ := Aside0.mk (Kd.V_below (by (with_reducible repeat (first | apply Kd.V_alloc | apply Kd.V_drewN | apply Kd.V_drew)); exact HO0.out) hb); have n1_ := Aside0.mk (below_step (by repeat (first | (with_reducible first | exact HB.out | apply below_alloc | apply pw_below_drewN | apply below_drew1) | exact HB.out)) hb); clear HO0; clear HB; have HO0 := n0_; have HB := n1_; clear n0_ n1_; (try clear hb); (try clear hb2); (try clear hk); (try clear hi)))
  go_ret2
  exact ⟨_, by first | rfl | (simp [errW_none, errW_some] <;> rfl) | (simp [*, errW_none, errW_some] <;> rfl), by first | exact Kd.R_nil _ _ _ _ _ | exact Kd.N_nil _ _ _ _ _ | exact Kd.V_nil _ _ _ _ _ | exact Kd.Q_nil _ _ _ _ _ | exact Kd.S_nil _ _ _ _ _, by repeat (first | (with_reducible first | exact HB.out | apply below_alloc | apply pw_below_drewN | apply below_drew1) | exact HB.out)⟩

end Go.Proofs.Ytfnbodjmmkjlcaa.H
end
section
namespace Go.Proofs.Ytfnbodjmmkjlcaa.H
open Go.RowKit Go.Proofs.YtfnbodjmmkjlcaaW.PrintWords Go.Proofs.YtfnbodjmmkjlcaaW.PrintLast Go.Proofs.YtfnbodjmmkjlcaaW.PrintMore
attribute [local go_sem] max2_int min2_int max_two min_two max_three min_three max_four min_four   -- for this text's walks alone
set_option linter.unusedVariables false
set_option linter.unusedSimpArgs false

mutual
def jalousieref08_Check.l0 : Nat → List (S47) → Int → Int → Option (Int)
 | 0, _, _, _ => none
 | k + 1, x0, x3, x4 => if x4 < (x0.length : Int) then (if 0 ≤ x4 then (if (((rd_T47 x0 x4).f1).length : Int) > (wrap64 (800 - x3)) then (some 4) else (jalousieref08_Check.l0 k x0 (wrap64 (x3 + (((rd_T47 x0 x4).f1).length : Int))) (wrap64 (x4 + 1)))) else (none)) else (jalousieref08_Check.l1 k x0 0)
def jalousieref08_Check.l1 : Nat → List (S47) → Int → Option (Int)
 | 0, _, _ => none
 | k + 1, x0, x5 => if x5 < (x0.length : Int) then (if 0 ≤ x5 then (if ((rd_T47 x0 x5).f0) = 1 then (jalousieref08_Check.l1 k x0 (wrap64 (x5 + 1))) else (if ((rd_T47 x0 x5).f0) = 2 then (jalousieref08_Check.l1 k x0 (wrap64 (x5 + 1))) else (if ((rd_T47 x0 x5).f0) = 3 then (jalousieref08_Check.l1 k x0 (wrap64 (x5 + 1))) else (some 3)))) else (none)) else (some 0)
end
def jalousieref08_Check.f (k : Nat) (l0 : List (S47)) : Option (Int) := if (l0.length : Int) > 800 then (some 4) else (jalousieref08_Check.l0 k l0 0 0)
set_option maxHeartbeats 8000000 in
set_option maxRecDepth 100000 in
theorem jalousieref08_Check.calls (k : Nat) (A0 : Option Addr) (c0 : Nat) (l0 : List (S47)) (r : Int) (w : World) (hr0 : Kd.C k47 w A0 l0.length l0) (hc0 : l0.length ≤ c0) (h : jalousieref08_Check.f k l0 = some r) :
  Calls Try.prog 26 #[.slice A0 l0.length c0] w fun e w' => e = .returned (.int .i64 r) ∧ Drawn0 w w' := by
 have HR0 := Aside0.mk hr0
 have HC0 := Aside0.mk hc0
 clear hr0 hc0
 have H : (if (l0.length : Int) > 800 then (some 4) else (jalousieref08_Check.l0 k l0 0 0)) = some r := h
 clear h
 by_cases c2 : (l0.length : Int) > 800
 ·rw [if_pos c2] at H
  have c2b0 : decide (800 < (l0.length : Int)) = true := decide_eq_true c2
  have c2b1 : decide (800 < l0.length) = true := decide_eq_true (by omega)
  clear c2
  obtain rfl := Option.some.inj H
  go_enter Try.func26, Try.ntmps26
  go_wp2
  go_ret
  exact ⟨by first | rfl | (simp; done) | (simp [*]; done), by repeat (first | exact Drawn0.refl _ | apply Drawn0.step)⟩
 ·rw [if_neg c2] at H
  have c2b0 : decide (800 < (l0.length : Int)) = false := decide_eq_false c2
  have c2b1 : decide (800 < l0.length) = false := decide_eq_false (by omega)
  clear c2
  have H' := Aside0.mk H
  clear H
  go_enter Try.func26, Try.ntmps26
  go_wp2
  go_loopg [3, 4] k (fun kq v3 v4 w' => ∃ (x3_1 : Int) (x4_1 : Int), v3 = .int .i64 x3_1 ∧ v4 = .int .i64 x4_1 ∧ Aside0 (jalousieref08_Check.l0 kq l0 x3_1 x4_1 = some r) ∧ Aside0 (kq ≤ k) ∧ Drawn0 w w')
  case atStart => exact ⟨(0), (0), (by first | rfl | (simp; done) | (simp [*]; done)), (by first | rfl | (simp; done) | (simp [*]; done)), H', ⟨Nat.le_refl _⟩, by repeat (first | exact Drawn0.refl _ | apply Drawn0.step)⟩
  case round =>
   clear H'
   try clear c2
   try clear c2b0
   try clear c2b1
   try clear p2
   obtain ⟨x3_1, x4_1, rfl, rfl, HA, HK1, ⟨m1, rfl⟩⟩ := hrel
   cases gk with
   | zero => exact absurd HA.out (by simp [jalousieref08_Check.l0])
   | succ k1 =>
    have H := HA.out
    clear HA
    simp only [jalousieref08_Check.l0] at H
    by_cases c3 : x4_1 < (l0.length : Int)
    ·rw [if_pos c3] at H
     have c3b0 : decide (x4_1 < (l0.length : Int)) = true := decide_eq_true c3
     clear c3
     by_cases c4 : 0 ≤ x4_1
     ·rw [if_pos c4] at H
      have c4b0 : decide (0 ≤ x4_1) = true := decide_eq_true c4
      clear c4
      by_cases c5 : (((rd_T47 l0 x4_1).f1).length : Int) > (wrap64 (800 - x3_1))
      ·rw [if_pos c5] at H
       have c5b0 : decide ((wrap64 (800 - x3_1)) < (((rd_T47 l0 x4_1).f1).length : Int)) = true := decide_eq_true c5
       clear c5
       obtain rfl := Option.some.inj H
       have p229 : 0 ≤ (x4_1 : Int) := of_decide_eq_true (by first | (with_reducible assumption) | assumption)
       have q229 : x4_1 < (l0.length : Int) := of_decide_eq_true (by first | (with_reducible assumption) | assumption)
       obtain ⟨ad229, A229_1, c229_1, e229, hx229_0, hx229_1, hl229_1, hi229_1⟩ := at_T47 HR0.out x4_1 p229 q229
       cases e229
       have HR229_1 := Aside0.mk hi229_1
       have HC229_1 := Aside0.mk hl229_1
       clear hi229_1 hl229_1
       replace p229 := eq_true p229
       replace q229 := eq_true q229
       go_wp2
       go_ret
       exact ⟨by first | rfl | (simp; done) | (simp [*]; done), by repeat (first | exact Drawn0.refl _ | apply Drawn0.step)⟩
      ·rw [if_neg c5] at H
       have c5b0 : decide ((wrap64 (800 - x3_1)) < (((rd_T47 l0 x4_1).f1).length : Int)) = false := decide_eq_false c5
       clear c5
       have H' := Aside0.mk H
       clear H
       have p229 : 0 ≤ (x4_1 : Int) := of_decide_eq_true (by first | (with_reducible assumption) | assumption)
       have q229 : x4_1 < (l0.length : Int) := of_decide_eq_true (by first | (with_reducible assumption) | assumption)
       obtain ⟨ad229, A229_1, c229_1, e229, hx229_0, hx229_1, hl229_1, hi229_1⟩ := at_T47 HR0.out x4_1 p229 q229
       cases e229
       have HR229_1 := Aside0.mk hi229_1
       have HC229_1 := Aside0.mk hl229_1
       clear hi229_1 hl229_1
       replace p229 := eq_true p229
       replace q229 := eq_true q229
       have p230 : 0 ≤ (x4_1 : Int) := of_decide_eq_true (by first | (with_reducible assumption) | assumption)
       have q230 : x4_1 < (l0.length : Int) := of_decide_eq_true (by first | (with_reducible assumption) | assumption)
       obtain ⟨ad230, A230_1, c230_1, e230, hx230_0, hx230_1, hl230_1, hi230_1⟩ := at_T47 HR0.out x4_1 p230 q230
       obtain rfl : ad229 = ad230 := (by injection e230)
       have HR230_1 := Aside0.mk hi230_1
       have HC230_1 := Aside0.mk hl230_1
       clear hi230_1 hl230_1
       replace p230 := eq_true p230
       replace q230 := eq_true q230
       have ea_ := Option.some.inj (hx229_1.symm.trans hx230_1)
       injection ea_ with ea_ en_ ec_
       subst ea_
       subst ec_
       clear en_
       go_wp2
       go_roundg k1
       case measure => have := HK1.out; omega
       case rel => exact ⟨(wrap64 (x3_1 + (((rd_T47 l0 x4_1).f1).length : Int))), (wrap64 (x4_1 + 1)), (by first | rfl | (simp; done) | (simp [*]; done)), (by first | rfl | (simp; done) | (simp [*]; done)), H', ⟨by have := HK1.out; omega⟩, by repeat (first | exact Drawn0.refl _ | apply Drawn0.step)⟩
     ·rw [if_neg c4] at H
      exact absurd H (by simp)
    ·rw [if_neg c3] at H
     have c3b0 : decide (x4_1 < (l0.length : Int)) = false := decide_eq_false c3
     clear c3
     have H' := Aside0.mk H
     clear H
     go_wp2
     go_loopg [5] k1 (fun kq v5 w' => ∃ (x5_2 : Int), v5 = .int .i64 x5_2 ∧ Aside0 (jalousieref08_Check.l1 kq l0 x5_2 = some r) ∧ Aside0 (kq ≤ k1) ∧ Drawn0 w w')
     case atStart => exact ⟨(0), (by first | rfl | (simp; done) | (simp [*]; done)), H', ⟨Nat.le_refl _⟩, by repeat (first | exact Drawn0.refl _ | apply Drawn0.step)⟩
     case round =>
      clear H'
      try clear c2
      try clear c2b0
      try clear c2b1
      try clear p2
      try clear q2
      try clear hx2
      try clear c3
      try clear c3b0
      try clear c4
      try clear c4b0
      try clear c5
      try clear c5b0
      try clear hx229_0
      try clear hx229_1
      try clear hx230_0
      try clear hx230_1
      try clear p2
      try clear p229
      try clear p230
      try clear q229
      try clear q230
      obtain ⟨x5_2, rfl, HA, HK2, ⟨m2, rfl⟩⟩ := hrel
      cases gk with
      | zero => exact absurd HA.out (by simp [jalousieref08_Check.l1])
      | succ k2 =>
       have H := HA.out
       clear HA
       simp only [jalousieref08_Check.l1] at H
       by_cases c6 : x5_2 < (l0.length : Int)
       ·rw [if_pos c6] at H
        have c6b0 : decide (x5_2 < (l0.length : Int)) = true := decide_eq_true c6
        clear c6
        by_cases c7 : 0 ≤ x5_2
        ·rw [if_pos c7] at H
         have c7b0 : decide (0 ≤ x5_2) = true := decide_eq_true c7
         clear c7
         by_cases c8 : ((rd_T47 l0 x5_2).f0) = 1
         ·rw [if_pos c8] at H
          have c8b0 : (((rd_T47 l0 x5_2).f0) == 1) = true := beq_iff_eq.mpr c8
          have c8b1 : (((rd_T47 l0 x5_2).f0) != 1) = false := bne_eq_false_iff_eq.mpr c8
          clear c8
          have H' := Aside0.mk H
          clear H
          have p231 : 0 ≤ (x5_2 : Int) := of_decide_eq_true (by first | (with_reducible assumption) | assumption)
          have q231 : x5_2 < (l0.length : Int) := of_decide_eq_true (by first | (with_reducible assumption) | assumption)
          obtain ⟨ad231, A231_1, c231_1, e231, hx231_0, hx231_1, hl231_1, hi231_1⟩ := at_T47 HR0.out x5_2 p231 q231
          cases e231
          have HR231_1 := Aside0.mk hi231_1
          have HC231_1 := Aside0.mk hl231_1
          clear hi231_1 hl231_1
          replace p231 := eq_true p231
          replace q231 := eq_true q231
          go_wp2
          go_roundg k2
          case measure => have := HK1.out; have := HK2.out; omega
          case rel => exact ⟨(wrap64 (x5_2 + 1)), (by first | rfl | (simp; done) | (simp [*]; done)), H', ⟨by have := HK1.out; have := HK2.out; omega⟩, by repeat (first | exact Drawn0.refl _ | apply Drawn0.step)⟩
         ·rw [if_neg c8] at H
          have c8b0 : (((rd_T47 l0 x5_2).f0) == 1) = false := beq_eq_false_iff_ne.mpr c8
          have c8b1 : (((rd_T47 l0 x5_2).f0) != 1) = true := bne_iff_ne.mpr c8
          by_cases c9 : ((rd_T47 l0 x5_2).f0) = 2
          ·rw [if_pos c9] at H
           have c9b0 : (((rd_T47 l0 x5_2).f0) == 2) = true := beq_iff_eq.mpr c9
           have c9b1 : (((rd_T47 l0 x5_2).f0) != 2) = false := bne_eq_false_iff_eq.mpr c9
           clear c9
           have H' := Aside0.mk H
           clear H
           have p231 : 0 ≤ (x5_2 : Int) := of_decide_eq_true (by first | (with_reducible assumption) | assumption)
           have q231 : x5_2 < (l0.length : Int) := of_decide_eq_true (by first | (with_reducible assumption) | assumption)
           obtain ⟨ad231, A231_1, c231_1, e231, hx231_0, hx231_1, hl231_1, hi231_1⟩ := at_T47 HR0.out x5_2 p231 q231
           cases e231
           have HR231_1 := Aside0.mk hi231_1
           have HC231_1 := Aside0.mk hl231_1
           clear hi231_1 hl231_1
           replace p231 := eq_true p231
           replace q231 := eq_true q231
           have p232 : 0 ≤ (x5_2 : Int) := of_decide_eq_true (by first | (with_reducible assumption) | assumption)
           have q232 : x5_2 < (l0.length : Int) := of_decide_eq_true (by first | (with_reducible assumption) | assumption)
           obtain ⟨ad232, A232_1, c232_1, e232, hx232_0, hx232_1, hl232_1, hi232_1⟩ := at_T47 HR0.out x5_2 p232 q232
           obtain rfl : ad231 = ad232 := (by injection e232)
           have HR232_1 := Aside0.mk hi232_1
           have HC232_1 := Aside0.mk hl232_1
           clear hi232_1 hl232_1
           replace p232 := eq_true p232
           replace q232 := eq_true q232
           have ea_ := Option.some.inj (hx231_1.symm.trans hx232_1)
           injection ea_ with ea_ en_ ec_
           subst ea_
           subst ec_
           clear en_
           go_wp2
           go_roundg k2
           case measure => have := HK1.out; have := HK2.out; omega
           case rel => exact ⟨(wrap64 (x5_2 + 1)), (by first | rfl | (simp; done) | (simp [*]; done)), H', ⟨by have := HK1.out; have := HK2.out; omega⟩, by repeat (first | exact Drawn0.refl _ | apply Drawn0.step)⟩
          ·rw [if_neg c9] at H
           have c9b0 : (((rd_T47 l0 x5_2).f0) == 2) = false := beq_eq_false_iff_ne.mpr c9
           have c9b1 : (((rd_T47 l0 x5_2).f0) != 2) = true := bne_iff_ne.mpr c9
           by_cases c10 : ((rd_T47 l0 x5_2).f0) = 3
           ·rw [if_pos c10] at H
            have c10b0 : (((rd_T47 l0 x5_2).f0) == 3) = true := beq_iff_eq.mpr c10
            have c10b1 : (((rd_T47 l0 x5_2).f0) != 3) = false := bne_eq_false_iff_eq.mpr c10
            clear c10
            have H' := Aside0.mk H
            clear H
            have p231 : 0 ≤ (x5_2 : Int) := of_decide_eq_true (by first | (with_reducible assumption) | assumption)
            have q231 : x5_2 < (l0.length : Int) := of_decide_eq_true (by first | (with_reducible assumption) | assumption)
            obtain ⟨ad231, A231_1, c231_1, e231, hx231_0, hx231_1, hl231_1, hi231_1⟩ := at_T47 HR0.out x5_2 p231 q231
            cases e231
            have HR231_1 := Aside0.mk hi231_1
            have HC231_1 := Aside0.mk hl231_1
            clear hi231_1 hl231_1
            replace p231 := eq_true p231
            replace q231 := eq_true q231
            have p232 : 0 ≤ (x5_2 : Int) := of_decide_eq_true (by first | (with_reducible assumption) | assumption)
            have q232 : x5_2 < (l0.length : Int) := of_decide_eq_true (by first | (with_reducible assumption) | assumption)
            obtain ⟨ad232, A232_1, c232_1, e232, hx232_0, hx232_1, hl232_1, hi232_1⟩ := at_T47 HR0.out x5_2 p232 q232
            obtain rfl : ad231 = ad232 := (by injection e232)
            have HR232_1 := Aside0.mk hi232_1
            have HC232_1 := Aside0.mk hl232_1
            clear hi232_1 hl232_1
            replace p232 := eq_true p232
            replace q232 := eq_true q232
            have ea_ := Option.some.inj (hx231_1.symm.trans hx232_1)
            injection ea_ with ea_ en_ ec_
            subst ea_
            subst ec_
            clear en_
            have p233 : 0 ≤ (x5_2 : Int) := of_decide_eq_true (by first | (with_reducible assumption) | assumption)
            have q233 : x5_2 < (l0.length : Int) := of_decide_eq_true (by first | (with_reducible assumption) | assumption)
            obtain ⟨ad233, A233_1, c233_1, e233, hx233_0, hx233_1, hl233_1, hi233_1⟩ := at_T47 HR0.out x5_2 p233 q233
            obtain rfl : ad231 = ad233 := (by injection e233)
            have HR233_1 := Aside0.mk hi233_1
            have HC233_1 := Aside0.mk hl233_1
            clear hi233_1 hl233_1
            replace p233 := eq_true p233
            replace q233 := eq_true q233
            have ea_ := Option.some.inj (hx231_1.symm.trans hx233_1)
            injection ea_ with ea_ en_ ec_
            subst ea_
            subst ec_
            clear en_
            go_wp2
            go_roundg k2
            case measure => have := HK1.out; have := HK2.out; omega
            case rel => exact ⟨(wrap64 (x5_2 + 1)), (by first | rfl | (simp; done) | (simp [*]; done)), H', ⟨by have := HK1.out; have := HK2.out; omega⟩, by repeat (first | exact Drawn0.refl _ | apply Drawn0.step)⟩
           ·rw [if_neg c10] at H
            have c10b0 : (((rd_T47 l0 x5_2).f0) == 3) = false := beq_eq_false_iff_ne.mpr c10
            have c10b1 : (((rd_T47 l0 x5_2).f0) != 3) = true := bne_iff_ne.mpr c10
            obtain rfl := Option.some.inj H
            have p231 : 0 ≤ (x5_2 : Int) := of_decide_eq_true (by first | (with_reducible assumption) | assumption)
            have q231 : x5_2 < (l0.length : Int) := of_decide_eq_true (by first | (with_reducible assumption) | assumption)
            obtain ⟨ad231, A231_1, c231_1, e231, hx231_0, hx231_1, hl231_1, hi231_1⟩ := at_T47 HR0.out x5_2 p231 q231
            cases e231
            have HR231_1 := Aside0.mk hi231_1
            have HC231_1 := Aside0.mk hl231_1
            clear hi231_1 hl231_1
            replace p231 := eq_true p231
            replace q231 := eq_true q231
            have p232 : 0 ≤ (x5_2 : Int) := of_decide_eq_true (by first | (with_reducible assumption) | assumption)
            have q232 : x5_2 < (l0.length : Int) := of_decide_eq_true (by first | (with_reducible assumption) | assumption)
            obtain ⟨ad232, A232_1, c232_1, e232, hx232_0, hx232_1, hl232_1, hi232_1⟩ := at_T47 HR0.out x5_2 p232 q232
            obtain rfl : ad231 = ad232 := (by injection e232)
            have HR232_1 := Aside0.mk hi232_1
            have HC232_1 := Aside0.mk hl232_1
            clear hi232_1 hl232_1
            replace p232 := eq_true p232
            replace q232 := eq_true q232
            have ea_ := Option.some.inj (hx231_1.symm.trans hx232_1)
            injection ea_ with ea_ en_ ec_
            subst ea_
            subst ec_
            clear en_
            have p233 : 0 ≤ (x5_2 : Int) := of_decide_eq_true (by first | (with_reducible assumption) | assumption)
            have q233 : x5_2 < (l0.length : Int) := of_decide_eq_true (by first | (with_reducible assumption) | assumption)
            obtain ⟨ad233, A233_1, c233_1, e233, hx233_0, hx233_1, hl233_1, hi233_1⟩ := at_T47 HR0.out x5_2 p233 q233
            obtain rfl : ad231 = ad233 := (by injection e233)
            have HR233_1 := Aside0.mk hi233_1
            have HC233_1 := Aside0.mk hl233_1
            clear hi233_1 hl233_1
            replace p233 := eq_true p233
            replace q233 := eq_true q233
            have ea_ := Option.some.inj (hx231_1.symm.trans hx233_1)
            injection ea_ with ea_ en_ ec_
            subst ea_
            subst ec_
            clear en_
            go_wp2
            go_ret
            exact ⟨by first | rfl | (simp; done) | (simp [*]; done), by repeat (first | exact Drawn0.refl _ | apply Drawn0.step)⟩
        ·rw [if_neg c7] at H
         exact absurd H (by simp)
       ·rw [if_neg c6] at H
        have c6b0 : decide (x5_2 < (l0.length : Int)) = false := decide_eq_false c6
        clear c6
        obtain rfl := Option.some.inj H
        go_wp2
        go_ret
        exact ⟨by first | rfl | (simp; done) | (simp [*]; done), by repeat (first | exact Drawn0.refl _ | apply Drawn0.step)⟩

end Go.Proofs.Ytfnbodjmmkjlcaa.H
end
section
namespace Go.Proofs.Ytfnbodjmmkjlcaa.H
open Go.RowKit Go.Proofs.YtfnbodjmmkjlcaaW.PrintWords Go.Proofs.YtfnbodjmmkjlcaaW.PrintLast Go.Proofs.YtfnbodjmmkjlcaaW.PrintMore
attribute [local go_sem] max2_int min2_int max_two min_two max_three min_three max_four min_four   -- for this text's walks alone
set_option linter.unusedVariables false
set_option linter.unusedSimpArgs false

def jalousieref08_lay.p (s : List S47) (d : Int) (l : List S66) : List S47 := if l.length = 0 then s else s ++ [⟨d, l⟩]
set_option maxHeartbeats 4000000 in
set_option maxRecDepth 100000 in
theorem jalousieref08_lay.owned (B : Nat) (ok : Nat → Prop) (s : List S47) (d : Int) (l : List S66) (vs : Value) (A : Option Addr) (c : Nat) (w : World) (hs : Kd.S k47 47 w B ok vs s) (hfr : ∀ k, w.heap.size ≤ k → ok k)
  (hl : Kd.C k66 w A l.length l) (hc : l.length ≤ c) (h1 : s.length ≤ 1000000000) (h2 : l.length ≤ 1000000000) (hB : B ≤ w.heap.size) :
  Calls Try.prog 53 #[vs, .int .i64 d, .slice A l.length c] w fun e w' => ∃ v1 : Value, e = .returned v1 ∧ Kd.S k47 47 w' B ok v1 (jalousieref08_lay.p s d l) ∧ w.grownBy w' vs.ownBlock ∧ (v1.ownBlock = vs.ownBlock ∨ ∃ b, v1.ownBlock = some b ∧ w.heap.size ≤ b) ∧ Below B w w' := by
 obtain ⟨A1, c1, rfl⟩ := Kd.R_slice (Kd.S_R hs)
 have HS := Aside0.mk hs
 have HL := Aside0.mk hl
 have HC := Aside0.mk hc
 by_cases hl0 : l.length = 0
 ·have hl0' : (((l.length : Nat) : Int) == 0) = true := beq_iff_eq.mpr (by omega)
  have hr : jalousieref08_lay.p s d l = s := if_pos hl0
  rw [hr]
  clear hr hs hl hc
  go_enter Try.func53, Try.ntmps53
  go_wp2
  go_ret
  exact ⟨_, rfl, HS.out, grown_of_below (Below.refl _ _) _, .inl rfl, Below.refl _ _⟩
 ·have hl0' : (((l.length : Nat) : Int) == 0) = false := beq_eq_false_iff_ne.mpr (by omega)
  have hr : jalousieref08_lay.p s d l = s ++ [⟨d, l⟩] := if_neg hl0
  rw [hr]
  clear hr hs hl hc hl0
  go_enter Try.func53, Try.ntmps53
  go_wp2_with (first | ((with_reducible refine gate_dst (N := 13) rfl ?_); refine Kd.R_lit k66 w.heap.size 66 ?hg (N := 13) ?hd (xs := []) (inner := []) (ok := fun _ => True) (okp := fun _ => True) ?hr ?hp (fun _ hk => hk) trivial (Below.refl w.heap.size w) (Nat.le_refl _) (by simp) ?_; (case hd => rfl); (case hg => rfl); (case hr => first | (go_simp; done) | (go_simp; rfl)); (case hp => exact Reps.none _ _); intro v1 w1 ho hb hg_ hnew_; have HO := Aside0.mk ho; have HB1 := Aside0.mk hb; clear ho hb hg_ hnew_) | ((with_reducible refine gate_builtin (b := .append) (xs := #[.tmp 13, .tmp 14]) rfl ?_); at_builtin; refine Kd.R_append_rows k66 (w0 := w) w.heap.size rfl (.tmp 13) (.tmp 14) 37 66 (.agg #[(.string ⟨#[]⟩), (.bool false)]) 24 rfl Try.underlying37 info66 rfl (by decide) (by omega) v1 [] l _ _ _ (fun _ => True) (fun _ => False) rfl rfl HO.out (Kd.C_below HL.out HB1.out) (fun _ _ h => h) (fun _ h => h.elim) (fun _ _ => trivial) HB1.out HB1.out.size ?aL ?_; (case aL => simp only [List.length_nil]; omega); intro v2 w2 ho hb hg hat; obtain ⟨A2, c2, rfl⟩ := Kd.R_slice ho; have HO2 := Aside0.mk ho; have HB2 := Aside0.mk hb; clear ho hb hg hat) | ((with_reducible refine gate_builtin (b := .append) (xs := #[.tmp 11, .tmp 17]) rfl ?_); at_builtin; refine Kd.S_append k47 (w0 := w) B rfl (.tmp 11) (.tmp 17) 22 47 (.agg #[(.int .i64 0), (.slice none 0 0)]) 32 rfl Try.underlying22 info47 rfl (by decide) (by omega) (.slice A1 s.length c1) s (⟨d, l⟩ : S47) [.int .i64 d, .slice A2 l.length c2] ok (fun k => w.heap.size ≤ k ∧ k < w2.heap.size) rfl rfl ?aP ?aK ?aF ?aO ?aB ?aS ?aL ?_; (case aP => exact k47_mkM _ _ _ (⟨d, l⟩ : S47) (Kd.R_lower (Kd.R_mono (Kd.R_bound HO2.out) (fun k hk => ⟨hk.2.1, hk.2.2.1⟩)) hB)); (case aK => exact fun k hk => ⟨hfr k hk.1, fun e => by have := Kd.S_lt HS.out k e.symm; omega⟩); (case aF => exact fun k hk => hfr k (Nat.le_trans HB2.out.size hk)); (case aO => exact Kd.S_mono (Kd.S_below (Kd.S_bound HS.out) HB2.out) (fun k hk => ⟨hk.1, fun h => by have := hk.2.2.1; omega⟩)); (case aB => exact HB2.out.mono hB); (case aS => exact Nat.le_trans hB HB2.out.size); (case aL => omega); intro v4 w4 ho hb hg hat))
  go_ret
  refine ⟨_, rfl, ho, ?_, ?_, hb⟩
  ·exact World.grownBy.trans (grown_of_below HB2.out _) hg
  ·rcases hat with h | ⟨b, h, h'⟩
   ·exact .inl h
   ·exact .inr ⟨b, h, Nat.le_trans HB2.out.size h'⟩


end Go.Proofs.Ytfnbodjmmkjlcaa.H
end
section
namespace Go.Proofs.Ytfnbodjmmkjlcaa.H
open Go.RowKit Go.Proofs.YtfnbodjmmkjlcaaW.PrintWords Go.Proofs.YtfnbodjmmkjlcaaW.PrintLast Go.Proofs.YtfnbodjmmkjlcaaW.PrintMore
attribute [local go_sem] max2_int min2_int max_two min_two max_three min_three max_four min_four   -- for this text's walks alone
set_option linter.unusedVariables false
set_option linter.unusedSimpArgs false

structure jalousieref08_Normal.Q where
 out : List S47
 keep : List S66
 gone : List S66
 made : List S66
def jalousieref08_Normal.fin (q : jalousieref08_Normal.Q) : List S47 := jalousieref08_lay.p (jalousieref08_lay.p (jalousieref08_lay.p q.out 1 q.keep) 2 q.gone) 3 q.made
def jalousieref08_Normal.pre (q : jalousieref08_Normal.Q) (x : S47) : jalousieref08_Normal.Q :=
 if x.f0 = 1 ∧ 0 < x.f1.length ∧ 0 < q.gone.length + q.made.length then ⟨jalousieref08_Normal.fin q, [], [], []⟩ else q
def jalousieref08_Normal.add (q : jalousieref08_Normal.Q) (x : S47) : jalousieref08_Normal.Q :=
 if x.f0 = 1 then ⟨q.out, q.keep ++ x.f1, q.gone, q.made⟩ else if x.f0 = 2 then ⟨q.out, q.keep, q.gone ++ x.f1, q.made⟩ else if x.f0 = 3 then ⟨q.out, q.keep, q.gone, q.made ++ x.f1⟩ else q
def jalousieref08_Normal.all (l : List S47) : jalousieref08_Normal.Q := l.foldl (fun q x => jalousieref08_Normal.add (jalousieref08_Normal.pre q x) x) ⟨[], [], [], []⟩
def jalousieref08_Normal.f (k : Nat) (l0 : List S47) : Option (List S47 × Int) :=
 (jalousieref08_Check.f k l0).bind fun e => if e = 0 then (if l0.length ≤ 1000000 ∧ (l0.map (fun e => e.f1.length)).sum ≤ 1000000 then some (jalousieref08_Normal.fin (jalousieref08_Normal.all l0), 0) else none) else some ([], e)
theorem jalousieref08_Normal.fin_len (q : jalousieref08_Normal.Q) : (jalousieref08_Normal.fin q).length ≤ q.out.length + 3 := by
 unfold jalousieref08_Normal.fin jalousieref08_lay.p
 repeat' split
 all_goals simp <;> omega
theorem jalousieref08_Normal.all_len (l : List S47) : ∀ n : Nat, (jalousieref08_Normal.all (l.take n)).out.length ≤ 3 * n ∧ (jalousieref08_Normal.all (l.take n)).keep.length + (jalousieref08_Normal.all (l.take n)).gone.length + (jalousieref08_Normal.all (l.take n)).made.length ≤ ((l.take n).map (fun e => e.f1.length)).sum
 | 0 => by simp [jalousieref08_Normal.all]
 | n + 1 => by
  have ih := jalousieref08_Normal.all_len l n
  rcases Nat.lt_or_ge n l.length with h | h
  ·rw [List.take_succ_eq_append_getElem h]
   have e : jalousieref08_Normal.all (l.take n ++ [l[n]]) = jalousieref08_Normal.add (jalousieref08_Normal.pre (jalousieref08_Normal.all (l.take n)) l[n]) l[n] := by
    rw [jalousieref08_Normal.all, List.foldl_append]
    rfl
   rw [e, List.map_append, List.sum_append]
   generalize jalousieref08_Normal.all (l.take n) = q at ih ⊢
   generalize l[n] = x
   have hf := jalousieref08_Normal.fin_len q
   have hp : (jalousieref08_Normal.pre q x).out.length ≤ 3 * n + 3 ∧ (jalousieref08_Normal.pre q x).keep.length + (jalousieref08_Normal.pre q x).gone.length + (jalousieref08_Normal.pre q x).made.length ≤ ((l.take n).map (fun e => e.f1.length)).sum := by
    unfold jalousieref08_Normal.pre
    split
    ·exact ⟨by simp only; omega, by simp⟩
    ·exact ⟨by omega, ih.2⟩
   generalize jalousieref08_Normal.pre q x = p at hp ⊢
   unfold jalousieref08_Normal.add
   simp only [List.map_cons, List.map_nil, List.sum_cons, List.sum_nil]
   repeat' split
   all_goals first | (simp only [List.length_append]; omega) | omega
  ·rw [List.take_of_length_le (by omega)]
   rw [List.take_of_length_le h] at ih
   omega
def jalousieref08_Normal.N4 (B : Nat) (W : World) (vo vk vg vm : Value) (q : jalousieref08_Normal.Q) : Prop :=
 Kd.S k47 47 W B (fun k => (some k ≠ vk.ownBlock ∧ some k ≠ vg.ownBlock) ∧ some k ≠ vm.ownBlock) vo q.out ∧ Kd.R k66 66 W B (fun k => some k ≠ vg.ownBlock ∧ some k ≠ vm.ownBlock) vk q.keep ∧
 Kd.R k66 66 W B (fun k => some k ≠ vk.ownBlock ∧ some k ≠ vm.ownBlock) vg q.gone ∧ Kd.R k66 66 W B (fun k => some k ≠ vk.ownBlock ∧ some k ≠ vg.ownBlock) vm q.made
section
variable {B : Nat} {W W1 : World} {vo vk vg vm v1 : Value} {q : jalousieref08_Normal.Q} {ys : List S66} {out : List S47}
theorem jalousieref08_Normal.N4.putk (h : jalousieref08_Normal.N4 B W vo vk vg vm q) (hr : Kd.R k66 66 W1 B (fun k => some k ≠ vg.ownBlock ∧ some k ≠ vm.ownBlock) v1 ys) (hg : W.grownBy W1 vk.ownBlock) (hat : v1.ownBlock = vk.ownBlock ∨ ∃ b, v1.ownBlock = some b ∧ W.heap.size ≤ b) :
  jalousieref08_Normal.N4 B W1 vo v1 vg vm ⟨q.out, ys, q.gone, q.made⟩ :=
 ⟨Kd.S_mono (Kd.S_after (ok := fun k => some k ≠ vg.ownBlock ∧ some k ≠ vm.ownBlock) (Kd.S_mono h.1 (fun _ hk => ⟨⟨hk.1.2, hk.2⟩, hk.1.1⟩)) hg hat) (fun _ hk => ⟨⟨hk.2, hk.1.1⟩, hk.1.2⟩), hr,
  Kd.R_mono (Kd.R_after (ok := fun k => some k ≠ vm.ownBlock) (Kd.R_mono h.2.2.1 (fun _ hk => ⟨hk.2, hk.1⟩)) hg hat) (fun _ hk => ⟨hk.2, hk.1⟩),
  Kd.R_mono (Kd.R_after (ok := fun k => some k ≠ vg.ownBlock) (Kd.R_mono h.2.2.2 (fun _ hk => ⟨hk.2, hk.1⟩)) hg hat) (fun _ hk => ⟨hk.2, hk.1⟩)⟩
theorem jalousieref08_Normal.N4.putg (h : jalousieref08_Normal.N4 B W vo vk vg vm q) (hr : Kd.R k66 66 W1 B (fun k => some k ≠ vk.ownBlock ∧ some k ≠ vm.ownBlock) v1 ys) (hg : W.grownBy W1 vg.ownBlock) (hat : v1.ownBlock = vg.ownBlock ∨ ∃ b, v1.ownBlock = some b ∧ W.heap.size ≤ b) :
  jalousieref08_Normal.N4 B W1 vo vk v1 vm ⟨q.out, q.keep, ys, q.made⟩ :=
 ⟨Kd.S_mono (Kd.S_after (ok := fun k => some k ≠ vk.ownBlock ∧ some k ≠ vm.ownBlock) (Kd.S_mono h.1 (fun _ hk => ⟨⟨hk.1.1, hk.2⟩, hk.1.2⟩)) hg hat) (fun _ hk => ⟨⟨hk.1.1, hk.2⟩, hk.1.2⟩),
  Kd.R_mono (Kd.R_after (ok := fun k => some k ≠ vm.ownBlock) (Kd.R_mono h.2.1 (fun _ hk => ⟨hk.2, hk.1⟩)) hg hat) (fun _ hk => ⟨hk.2, hk.1⟩), hr,
  Kd.R_mono (Kd.R_after (ok := fun k => some k ≠ vk.ownBlock) (Kd.R_mono h.2.2.2 (fun _ hk => ⟨hk.1, hk.2⟩)) hg hat) (fun _ hk => ⟨hk.1, hk.2⟩)⟩
theorem jalousieref08_Normal.N4.putm (h : jalousieref08_Normal.N4 B W vo vk vg vm q) (hr : Kd.R k66 66 W1 B (fun k => some k ≠ vk.ownBlock ∧ some k ≠ vg.ownBlock) v1 ys) (hg : W.grownBy W1 vm.ownBlock) (hat : v1.ownBlock = vm.ownBlock ∨ ∃ b, v1.ownBlock = some b ∧ W.heap.size ≤ b) :
  jalousieref08_Normal.N4 B W1 vo vk vg v1 ⟨q.out, q.keep, q.gone, ys⟩ :=
 ⟨Kd.S_after (ok := fun k => some k ≠ vk.ownBlock ∧ some k ≠ vg.ownBlock) h.1 hg hat,
  Kd.R_after (ok := fun k => some k ≠ vg.ownBlock) h.2.1 hg hat, Kd.R_after (ok := fun k => some k ≠ vk.ownBlock) h.2.2.1 hg hat, hr⟩
theorem jalousieref08_Normal.N4.puto (h : jalousieref08_Normal.N4 B W vo vk vg vm q) (hr : Kd.S k47 47 W1 B (fun k => (some k ≠ vk.ownBlock ∧ some k ≠ vg.ownBlock) ∧ some k ≠ vm.ownBlock) v1 out) (hg : W.grownBy W1 vo.ownBlock) :
  jalousieref08_Normal.N4 B W1 v1 vk vg vm ⟨out, q.keep, q.gone, q.made⟩ :=
 ⟨hr, Kd.R_over' h.2.1 (Kd.S_typed h.1) (by decide) hg, Kd.R_over' h.2.2.1 (Kd.S_typed h.1) (by decide) hg, Kd.R_over' h.2.2.2 (Kd.S_typed h.1) (by decide) hg⟩
theorem jalousieref08_Normal.N4.fresh (h : jalousieref08_Normal.N4 B W vo vk vg vm q) : ∀ k, W.heap.size ≤ k → (some k ≠ vk.ownBlock ∧ some k ≠ vg.ownBlock) ∧ some k ≠ vm.ownBlock := fun k hk =>
 ⟨⟨fun e => by have := Kd.R_lt h.2.1 k e.symm; omega, fun e => by have := Kd.R_lt h.2.2.1 k e.symm; omega⟩, fun e => by have := Kd.R_lt h.2.2.2 k e.symm; omega⟩
theorem jalousieref08_Normal.N4.clear (h : jalousieref08_Normal.N4 B W vo vk vg vm q) : jalousieref08_Normal.N4 B W vo (.slice none 0 0) (.slice none 0 0) (.slice none 0 0) ⟨q.out, [], [], []⟩ :=
 ⟨Kd.S_mono h.1 (fun _ _ => by simp [Value.ownBlock]), Kd.R_nil _ _ _ _ _, Kd.R_nil _ _ _ _ _, Kd.R_nil _ _ _ _ _⟩
end
theorem jalousieref08_Normal.empty {α : Type} (d : Kd α) (W : World) (B g e : Nat) (ok : Nat → Prop) (h : W.heap[g]? = some (.cells #[] e (0, 0))) (hB : B ≤ g) (hok : ok g) (hs : 0 < d.sz) : d.R e W B ok (.slice (some ⟨g, 0, none⟩) 0 0) [] := by
 refine ⟨fun k hk => ?_, [], ⟨by simp, .inr ⟨g, 0, #[], rfl, hB, h, Nat.le_refl _, by omega, by simp, by simp⟩⟩, Reps.none _ _⟩
 have : g = k := by simpa [Value.ownBlock] using hk
 exact this ▸ hok
theorem jalousieref08_Normal.lay_len (s : List S47) (d : Int) (l : List S66) : (jalousieref08_lay.p s d l).length ≤ s.length + 1 := by
 unfold jalousieref08_lay.p
 split <;> simp
theorem jalousieref08_Normal.four (w1 : World) (a b c d : Obj) : ((((w1.alloc a).alloc b).alloc c).alloc d).heap[w1.heap.size]? = some a ∧ ((((w1.alloc a).alloc b).alloc c).alloc d).heap[w1.heap.size + 1]? = some b ∧ ((((w1.alloc a).alloc b).alloc c).alloc d).heap[w1.heap.size + 1 + 1]? = some c ∧ ((((w1.alloc a).alloc b).alloc c).alloc d).heap[w1.heap.size + 1 + 1 + 1]? = some d := by
 have h0 := World.alloc_heap_new w1 a
 have h1 := World.alloc_heap_new (w1.alloc a) b
 have h2 := World.alloc_heap_new ((w1.alloc a).alloc b) c
 have h3 := World.alloc_heap_new (((w1.alloc a).alloc b).alloc c) d
 simp only [World.size_alloc] at h1 h2 h3
 exact ⟨blk_alloc (blk_alloc (blk_alloc h0 _) _) _, blk_alloc (blk_alloc h1 _) _, blk_alloc h2 _, h3⟩
set_option maxHeartbeats 4000000 in
set_option maxRecDepth 100000 in
theorem jalousieref08_Normal.calls (k : Nat) (A0 : Option Addr) (c0 : Nat) (l0 : List S47) (r1 : List S47) (r2 : Int) (w : World) (hr0 : Kd.C k47 w A0 l0.length l0) (hc0 : l0.length ≤ c0) (h : jalousieref08_Normal.f k l0 = some (r1, r2)) :
  Calls Try.prog 23 #[.slice A0 l0.length c0] w fun e w' => ∃ v0_ : Value, e = .returned (.tuple #[v0_, .int .i64 r2]) ∧ Kd.S k47 47 w' w.heap.size (fun _ => True) v0_ r1 ∧ Below w.heap.size w w' := by
 unfold jalousieref08_Normal.f at h
 obtain ⟨e0, hE, h⟩ := Option.bind_eq_some_iff.1 h
 have HE := Aside0.mk (jalousieref08_Check.calls k A0 c0 l0 e0 w hr0 hc0 hE)
 have HC0 := Aside0.mk hr0
 have Hc0 := Aside0.mk hc0
 clear hE hr0 hc0
 by_cases he0 : e0 = 0
 ·subst he0
  rw [if_pos rfl] at h
  split at h
  case isFalse => cases h
  rename_i hsz
  obtain ⟨hs1, hs2⟩ := hsz
  have hr := Option.some.inj h
  simp only [Prod.mk.injEq] at hr
  obtain ⟨hr1, rfl⟩ := hr
  have HR1 := Aside0.mk hr1
  clear h hr1
  go_enter Try.func23, Try.ntmps23
  go_wp2_with (go_at_call 26; refine HE.out.mono ?_; rintro e w1 ⟨rfl, hD⟩; have HB := Aside0.mk hD.below; clear hD)
  go_loopw [5, 6, 7, 8, 9] (fun vo vk vg vm vi wr => ∃ n : Nat, n ≤ l0.length ∧ vi = .int .i64 (n : Int) ∧ jalousieref08_Normal.N4 w.heap.size wr vo vk vg vm (jalousieref08_Normal.all (l0.take n)) ∧ Below w.heap.size w wr)
   (fun _ _ _ _ vi _ => l0.length - (intOf vi).toNat)
  case atStart =>
   have hs := HB.out.size
   obtain ⟨q0, q1, q2, q3⟩ := jalousieref08_Normal.four w1 (.cells #[] 47) (.cells #[] 66) (.cells #[] 66) (.cells #[] 66)
   refine ⟨0, Nat.zero_le _, rfl, ⟨⟨fun _ => 0, jalousieref08_Normal.empty _ _ _ _ _ _ q0 hs ?_ (by decide)⟩, jalousieref08_Normal.empty _ _ _ _ _ _ q1 (by omega) ?_ (by decide), jalousieref08_Normal.empty _ _ _ _ _ _ q2 (by omega) ?_ (by decide), jalousieref08_Normal.empty _ _ _ _ _ _ q3 (by omega) ?_ (by decide)⟩, ?_⟩
   case refine_5 => exact (((HB.out.alloc hs _).alloc (by rw [World.size_alloc]; omega) _).alloc (by simp only [World.size_alloc]; omega) _).alloc (by simp only [World.size_alloc]; omega) _
   all_goals simp only [Value.ownBlock, ne_eq, Option.some.injEq]; omega
  case round =>
   obtain ⟨n, hn, rfl, hN, hBr⟩ := hrel
   by_cases hlt : n < l0.length
   ·have hx : rd_T47 l0 (n : Int) = l0[n] := by
     simp [rd_T47, hlt]
    have hlt' : decide ((n : Int) < (l0.length : Int)) = true := decide_eq_true (by omega)
    have hlt2 : ((n : Int) < (l0.length : Int)) = True := eq_true (by omega)
    have hlen := jalousieref08_Normal.all_len l0 n
    have hlen2 := jalousieref08_Normal.all_len l0 (n + 1)
    have hsum : ((l0.take n).map (fun e => e.f1.length)).sum + (rd_T47 l0 (n : Int)).f1.length ≤ 1000000 := by
     have e1 := congrArg (fun l => (l.map (fun e : S47 => e.f1.length)).sum) (List.take_append_drop n l0)
     simp only [List.map_append, List.sum_append] at e1
     rw [List.drop_eq_getElem_cons hlt, List.map_cons, List.sum_cons, ← hx] at e1
     omega
    have hall : jalousieref08_Normal.all (l0.take (n + 1)) = jalousieref08_Normal.add (jalousieref08_Normal.pre (jalousieref08_Normal.all (l0.take n)) (rd_T47 l0 (n : Int))) (rd_T47 l0 (n : Int)) := by
     rw [List.take_succ_eq_append_getElem hlt, jalousieref08_Normal.all, List.foldl_append, hx]
     rfl
    obtain ⟨ad, A1, c1, e, hx0, hx1, hl5, hC1⟩ := at_T47 HC0.out (n : Int) (by omega) (by omega)
    cases e
    simp only [Int.toNat_natCast] at hx0 hx1
    have HX0w := Aside0.mk hx0
    have HX1w := Aside0.mk hx1
    replace hx0 := (hBr.cell (World.block_lt_of_cell? w _ hx0)).trans hx0
    replace hx1 := (hBr.cell (World.block_lt_of_cell? w _ hx1)).trans hx1
    have hsl : l0.length ≤ 9223372036854775807 := HC0.out.2.1
    have HWn : Aside0 (wrap64 ((n : Int) + 1) = ((n + 1 : Nat) : Int)) := ⟨by unfold wrap64; omega⟩
    have HC1 := Aside0.mk hC1
    generalize hqq : jalousieref08_Normal.all (l0.take n) = q at hN hlen hall
    obtain ⟨out, keep, gone, made⟩ := q
    obtain ⟨Ak, ck, rfl⟩ := Kd.R_slice hN.2.1
    obtain ⟨Ag, cg, rfl⟩ := Kd.R_slice hN.2.2.1
    obtain ⟨Am, cm, rfl⟩ := Kd.R_slice hN.2.2.2
    obtain ⟨Ao, co, rfl⟩ := Kd.R_slice (Kd.S_R hN.1)
    simp only at hlen
    have Hall := Aside0.mk hall
    have HN := Aside0.mk hN
    have HB := Aside0.mk hBr
    have Hqq := Aside0.mk hqq
    clear hx hall hN hBr hC1 hl5 hqq
    have hg64 : wrap64 ((gone.length : Int) + (made.length : Int)) = ((gone.length + made.length : Nat) : Int) := by unfold wrap64; omega
    have Hg64 := Aside0.mk hg64
    clear hg64
    by_cases h1 : (rd_T47 l0 (n : Int)).f0 = 1
    ·have h1' : ((rd_T47 l0 (n : Int)).f0 == 1) = true := beq_iff_eq.mpr h1
     by_cases hl : 0 < (rd_T47 l0 (n : Int)).f1.length
     ·have hl' : decide (0 < (rd_T47 l0 (n : Int)).f1.length) = true := decide_eq_true hl
      by_cases hgm : 0 < gone.length + made.length
      ·have hgm' : decide (0 < gone.length + made.length) = true := decide_eq_true hgm
       have hgm2 : (0 < (gone.length : Int) + (made.length : Int)) = True := eq_true (by omega)
       have HA : Aside0 (jalousieref08_Normal.all (l0.take (n + 1)) = ⟨jalousieref08_Normal.fin ⟨out, keep, gone, made⟩, [] ++ (rd_T47 l0 (n : Int)).f1, [], []⟩) := ⟨by
        rw [Hall.out]
        unfold jalousieref08_Normal.pre
        rw [if_pos ⟨h1, hl, hgm⟩]
        unfold jalousieref08_Normal.add
        rw [if_pos h1]⟩
       clear h1 hl hgm
       go_wp2_with (first | (go_at_call 53; have hcl := jalousieref08_lay.owned w.heap.size _ out 1 keep (.slice Ao out.length co) _ _ wr HN.out.1 HN.out.fresh (Kd.R_reads' HN.out.2.1).2.2 (Kd.R_reads' HN.out.2.1).2.1 (by omega) (by omega) HB.out.size; with_reducible refine hcl.mono ?_; clear hcl; rintro e wa ⟨va, rfl, hsa, hga, _, hba⟩; obtain ⟨Aa, ca, rfl⟩ := Kd.R_slice (Kd.S_R hsa); have HNa := Aside0.mk (HN.out.puto hsa hga); have HBa := Aside0.mk (HB.out.trans (hba)); clear hsa hga hba) | (go_at_call 53; have hcl := jalousieref08_lay.owned w.heap.size _ (jalousieref08_lay.p out 1 keep) 2 gone (.slice Aa (jalousieref08_lay.p out 1 keep).length ca) _ _ wa HNa.out.1 HNa.out.fresh (Kd.R_reads' HNa.out.2.2.1).2.2 (Kd.R_reads' HNa.out.2.2.1).2.1 (by have := jalousieref08_Normal.lay_len out 1 keep; have := jalousieref08_Normal.lay_len (jalousieref08_lay.p out 1 keep) 2 gone; omega) (by omega) HBa.out.size; with_reducible refine hcl.mono ?_; clear hcl; rintro e wb ⟨vb, rfl, hsb, hgb, _, hbb⟩; obtain ⟨Ab, cb, rfl⟩ := Kd.R_slice (Kd.S_R hsb); have HNb := Aside0.mk (HNa.out.puto hsb hgb); have HBb := Aside0.mk (HBa.out.trans (hbb)); clear hsb hgb hbb) | (go_at_call 53; have hcl := jalousieref08_lay.owned w.heap.size _ (jalousieref08_lay.p (jalousieref08_lay.p out 1 keep) 2 gone) 3 made (.slice Ab (jalousieref08_lay.p (jalousieref08_lay.p out 1 keep) 2 gone).length cb) _ _ wb HNb.out.1 HNb.out.fresh (Kd.R_reads' HNb.out.2.2.2).2.2 (Kd.R_reads' HNb.out.2.2.2).2.1 (by have := jalousieref08_Normal.lay_len out 1 keep; have := jalousieref08_Normal.lay_len (jalousieref08_lay.p out 1 keep) 2 gone; omega) (by omega) HBb.out.size; with_reducible refine hcl.mono ?_; clear hcl; rintro e wd ⟨vd, rfl, hsd, hgd, _, hbd⟩; obtain ⟨Ad, cd, rfl⟩ := Kd.R_slice (Kd.S_R hsd); have HNd := Aside0.mk (HNb.out.puto hsd hgd); have HBd := Aside0.mk (HBb.out.trans (hbd)); clear hsd hgd hbd; have hx0d := (HBd.out.cell (World.block_lt_of_cell? w _ HX0w.out)).trans HX0w.out) | ((with_reducible refine gate_dst (N := 67) rfl ?_); refine Kd.event_run (w1 := wd) (v := .slice A1 (rd_T47 l0 (n : Int)).f1.length c1) ?hg ?hr ?_; (case hg => rfl); (case hr => have hx1d := (HBd.out.cell (World.block_lt_of_cell? w _ HX1w.out)).trans HX1w.out; first | (go_simp; done) | (go_simp; rfl)); obtain ⟨u6, hu6⟩ : ∃ u : Value, u = .slice none 0 0 := ⟨_, rfl⟩; rw [← hu6]; have U6 := Aside0.mk hu6; have HNe : Aside0 (jalousieref08_Normal.N4 w.heap.size wd (.slice Ad (jalousieref08_Normal.fin ⟨out, keep, gone, made⟩).length cd) u6 u6 u6 ⟨jalousieref08_Normal.fin ⟨out, keep, gone, made⟩, [], [], []⟩) := ⟨by rw [U6.out]; exact HNd.out.clear⟩; clear HNd hu6) | ((with_reducible refine gate_builtin (b := .append) (xs := #[.tmp 62, .tmp 67]) rfl ?_); at_builtin; refine Kd.R_append_rows k66 (w0 := w) w.heap.size rfl (.tmp 62) (.tmp 67) 37 66 (.agg #[(.string ⟨#[]⟩), (.bool false)]) 24 rfl Try.underlying37 info66 rfl (by decide) (by omega) u6 [] (rd_T47 l0 (n : Int)).f1 _ _ _ _ (fun _ => False) rfl rfl HNe.out.2.1 (Kd.C_below HC1.out HBd.out) (fun _ _ h => h) (fun _ h => h.elim) (fun k hk => ⟨(HNe.out.fresh k hk).1.2, (HNe.out.fresh k hk).2⟩) HBd.out HBd.out.size ?aL ?_; (case aL => (try simp only [List.length_nil]); omega); intro v9 w9 ho9 hb9 hg9 hat9; have HN9 := Aside0.mk (HNe.out.putk ho9 hg9 hat9); have HB9 := Aside0.mk hb9; clear ho9 hb9 hg9 hat9))
       go_roundw
       case rel => exact ⟨_, _, _, _, _, ⟨n + 1, by omega, by first | rfl | exact congrArg _ HWn.out, by rw [HA.out]; exact HN9.out, HB9.out⟩, U6.out, rfl, rfl, rfl, rfl, rfl⟩
       case measure =>
        try rw [HWn.out]
        simp only [intOf, Int.toNat_natCast]
        omega
      ·have hgm' : decide (0 < gone.length + made.length) = false := decide_eq_false hgm
       have hgm2 : (0 < (gone.length : Int) + (made.length : Int)) = False := eq_false (by omega)
       have HA : Aside0 (jalousieref08_Normal.all (l0.take (n + 1)) = ⟨out, keep ++ (rd_T47 l0 (n : Int)).f1, gone, made⟩) := ⟨by
        rw [Hall.out]
        unfold jalousieref08_Normal.pre
        rw [if_neg (fun h => hgm h.2.2)]
        unfold jalousieref08_Normal.add
        rw [if_pos h1]⟩
       clear h1 hl hgm
       go_wp2_with ((with_reducible refine gate_builtin (b := .append) (xs := #[.tmp 62, .tmp 67]) rfl ?_); at_builtin; refine Kd.R_append_rows k66 (w0 := w) w.heap.size rfl (.tmp 62) (.tmp 67) 37 66 (.agg #[(.string ⟨#[]⟩), (.bool false)]) 24 rfl Try.underlying37 info66 rfl (by decide) (by omega) (.slice Ak keep.length ck) keep (rd_T47 l0 (n : Int)).f1 _ _ _ _ (fun _ => False) rfl rfl HN.out.2.1 (Kd.C_below HC1.out HB.out) (fun _ _ h => h) (fun _ h => h.elim) (fun k hk => ⟨(HN.out.fresh k hk).1.2, (HN.out.fresh k hk).2⟩) HB.out HB.out.size ?aL ?_; (case aL => (try simp only [List.length_nil]); omega); intro v9 w9 ho9 hb9 hg9 hat9; have HN9 := Aside0.mk (HN.out.putk ho9 hg9 hat9); have HB9 := Aside0.mk hb9; clear ho9 hb9 hg9 hat9)
       go_roundw
       case rel => exact ⟨n + 1, by omega, by first | rfl | exact congrArg _ HWn.out, by rw [HA.out]; exact HN9.out, HB9.out⟩
       case measure =>
        try rw [HWn.out]
        simp only [intOf, Int.toNat_natCast]
        omega
     ·have hl' : decide (0 < (rd_T47 l0 (n : Int)).f1.length) = false := decide_eq_false hl
      have HA : Aside0 (jalousieref08_Normal.all (l0.take (n + 1)) = ⟨out, keep ++ (rd_T47 l0 (n : Int)).f1, gone, made⟩) := ⟨by
       rw [Hall.out]
       unfold jalousieref08_Normal.pre
       rw [if_neg (fun h => hl h.2.1)]
       unfold jalousieref08_Normal.add
       rw [if_pos h1]⟩
      clear h1 hl
      go_wp2_with ((with_reducible refine gate_builtin (b := .append) (xs := #[.tmp 62, .tmp 67]) rfl ?_); at_builtin; refine Kd.R_append_rows k66 (w0 := w) w.heap.size rfl (.tmp 62) (.tmp 67) 37 66 (.agg #[(.string ⟨#[]⟩), (.bool false)]) 24 rfl Try.underlying37 info66 rfl (by decide) (by omega) (.slice Ak keep.length ck) keep (rd_T47 l0 (n : Int)).f1 _ _ _ _ (fun _ => False) rfl rfl HN.out.2.1 (Kd.C_below HC1.out HB.out) (fun _ _ h => h) (fun _ h => h.elim) (fun k hk => ⟨(HN.out.fresh k hk).1.2, (HN.out.fresh k hk).2⟩) HB.out HB.out.size ?aL ?_; (case aL => (try simp only [List.length_nil]); omega); intro v9 w9 ho9 hb9 hg9 hat9; have HN9 := Aside0.mk (HN.out.putk ho9 hg9 hat9); have HB9 := Aside0.mk hb9; clear ho9 hb9 hg9 hat9)
      go_roundw
      case rel => exact ⟨n + 1, by omega, by first | rfl | exact congrArg _ HWn.out, by rw [HA.out]; exact HN9.out, HB9.out⟩
      case measure =>
       try rw [HWn.out]
       simp only [intOf, Int.toNat_natCast]
       omega
    ·have h1' : ((rd_T47 l0 (n : Int)).f0 == 1) = false := beq_eq_false_iff_ne.mpr h1
     by_cases h2 : (rd_T47 l0 (n : Int)).f0 = 2
     ·have h2' : ((rd_T47 l0 (n : Int)).f0 == 2) = true := beq_iff_eq.mpr h2
      have HA : Aside0 (jalousieref08_Normal.all (l0.take (n + 1)) = ⟨out, keep, gone ++ (rd_T47 l0 (n : Int)).f1, made⟩) := ⟨by
      rw [Hall.out]
      unfold jalousieref08_Normal.pre
      rw [if_neg (fun h => h1 h.1)]
      unfold jalousieref08_Normal.add
      rw [if_neg h1, if_pos h2]⟩
      clear h1 h2
      go_wp2_with ((with_reducible refine gate_builtin (b := .append) (xs := #[.tmp 71, .tmp 76]) rfl ?_); at_builtin; refine Kd.R_append_rows k66 (w0 := w) w.heap.size rfl (.tmp 71) (.tmp 76) 37 66 (.agg #[(.string ⟨#[]⟩), (.bool false)]) 24 rfl Try.underlying37 info66 rfl (by decide) (by omega) (.slice Ag gone.length cg) gone (rd_T47 l0 (n : Int)).f1 _ _ _ _ (fun _ => False) rfl rfl HN.out.2.2.1 (Kd.C_below HC1.out HB.out) (fun _ _ h => h) (fun _ h => h.elim) (fun k hk => ⟨(HN.out.fresh k hk).1.1, (HN.out.fresh k hk).2⟩) HB.out HB.out.size ?aL ?_; (case aL => (try simp only [List.length_nil]); omega); intro v9 w9 ho9 hb9 hg9 hat9; have HN9 := Aside0.mk (HN.out.putg ho9 hg9 hat9); have HB9 := Aside0.mk hb9; clear ho9 hb9 hg9 hat9)
      go_roundw
      case rel => exact ⟨n + 1, by omega, by first | rfl | exact congrArg _ HWn.out, by rw [HA.out]; exact HN9.out, HB9.out⟩
      case measure =>
       try rw [HWn.out]
       simp only [intOf, Int.toNat_natCast]
       omega
     ·have h2' : ((rd_T47 l0 (n : Int)).f0 == 2) = false := beq_eq_false_iff_ne.mpr h2
      by_cases h3 : (rd_T47 l0 (n : Int)).f0 = 3
      ·have h3' : ((rd_T47 l0 (n : Int)).f0 == 3) = true := beq_iff_eq.mpr h3
       have HA : Aside0 (jalousieref08_Normal.all (l0.take (n + 1)) = ⟨out, keep, gone, made ++ (rd_T47 l0 (n : Int)).f1⟩) := ⟨by
       rw [Hall.out]
       unfold jalousieref08_Normal.pre
       rw [if_neg (fun h => h1 h.1)]
       unfold jalousieref08_Normal.add
       rw [if_neg h1, if_neg h2, if_pos h3]⟩
       clear h1 h2 h3
       go_wp2_with ((with_reducible refine gate_builtin (b := .append) (xs := #[.tmp 80, .tmp 85]) rfl ?_); at_builtin; refine Kd.R_append_rows k66 (w0 := w) w.heap.size rfl (.tmp 80) (.tmp 85) 37 66 (.agg #[(.string ⟨#[]⟩), (.bool false)]) 24 rfl Try.underlying37 info66 rfl (by decide) (by omega) (.slice Am made.length cm) made (rd_T47 l0 (n : Int)).f1 _ _ _ _ (fun _ => False) rfl rfl HN.out.2.2.2 (Kd.C_below HC1.out HB.out) (fun _ _ h => h) (fun _ h => h.elim) (fun k hk => (HN.out.fresh k hk).1) HB.out HB.out.size ?aL ?_; (case aL => (try simp only [List.length_nil]); omega); intro v9 w9 ho9 hb9 hg9 hat9; have HN9 := Aside0.mk (HN.out.putm ho9 hg9 hat9); have HB9 := Aside0.mk hb9; clear ho9 hb9 hg9 hat9)
       go_roundw
       case rel => exact ⟨n + 1, by omega, by first | rfl | exact congrArg _ HWn.out, by rw [HA.out]; exact HN9.out, HB9.out⟩
       case measure =>
        try rw [HWn.out]
        simp only [intOf, Int.toNat_natCast]
        omega
      ·have h3' : ((rd_T47 l0 (n : Int)).f0 == 3) = false := beq_eq_false_iff_ne.mpr h3
       have HA : Aside0 (jalousieref08_Normal.all (l0.take (n + 1)) = ⟨out, keep, gone, made⟩) := ⟨by
       rw [Hall.out]
       unfold jalousieref08_Normal.pre
       rw [if_neg (fun h => h1 h.1)]
       unfold jalousieref08_Normal.add
       rw [if_neg h1, if_neg h2, if_neg h3]⟩
       clear h1 h2 h3
       go_wp2
       go_roundw
       case rel => exact ⟨n + 1, by omega, by first | rfl | exact congrArg _ HWn.out, by rw [HA.out]; exact HN.out, HB.out⟩
       case measure =>
        try rw [HWn.out]
        simp only [intOf, Int.toNat_natCast]
        omega
   ·obtain rfl : n = l0.length := by omega
    have hlt' : decide ((l0.length : Int) < (l0.length : Int)) = false := decide_eq_false (by omega)
    have hlen := jalousieref08_Normal.all_len l0 l0.length
    rw [List.take_length] at hN hlen
    unfold jalousieref08_Normal.all at hlen
    generalize hqq : jalousieref08_Normal.all l0 = q at hN
    have hqq' := hqq
    unfold jalousieref08_Normal.all at hqq'
    rw [hqq'] at hlen
    obtain ⟨out, keep, gone, made⟩ := q
    obtain ⟨Ak, ck, rfl⟩ := Kd.R_slice hN.2.1
    obtain ⟨Ag, cg, rfl⟩ := Kd.R_slice hN.2.2.1
    obtain ⟨Am, cm, rfl⟩ := Kd.R_slice hN.2.2.2
    obtain ⟨Ao, co, rfl⟩ := Kd.R_slice (Kd.S_R hN.1)
    simp only at hlen
    have HN := Aside0.mk hN
    have HB := Aside0.mk hBr
    have Hqq := Aside0.mk hqq
    clear hN hBr hqq hqq' hlt hn
    go_wp2_with (first | (go_at_call 53; have hcl := jalousieref08_lay.owned w.heap.size _ out 1 keep (.slice Ao out.length co) _ _ wr HN.out.1 HN.out.fresh (Kd.R_reads' HN.out.2.1).2.2 (Kd.R_reads' HN.out.2.1).2.1 (by omega) (by omega) HB.out.size; with_reducible refine hcl.mono ?_; clear hcl; rintro e wa ⟨va, rfl, hsa, hga, _, hba⟩; obtain ⟨Aa, ca, rfl⟩ := Kd.R_slice (Kd.S_R hsa); have HNa := Aside0.mk (HN.out.puto hsa hga); have HBa := Aside0.mk (HB.out.trans (hba)); clear hsa hga hba) | (go_at_call 53; have hcl := jalousieref08_lay.owned w.heap.size _ (jalousieref08_lay.p out 1 keep) 2 gone (.slice Aa (jalousieref08_lay.p out 1 keep).length ca) _ _ wa HNa.out.1 HNa.out.fresh (Kd.R_reads' HNa.out.2.2.1).2.2 (Kd.R_reads' HNa.out.2.2.1).2.1 (by have := jalousieref08_Normal.lay_len out 1 keep; have := jalousieref08_Normal.lay_len (jalousieref08_lay.p out 1 keep) 2 gone; omega) (by omega) HBa.out.size; with_reducible refine hcl.mono ?_; clear hcl; rintro e wb ⟨vb, rfl, hsb, hgb, _, hbb⟩; obtain ⟨Ab, cb, rfl⟩ := Kd.R_slice (Kd.S_R hsb); have HNb := Aside0.mk (HNa.out.puto hsb hgb); have HBb := Aside0.mk (HBa.out.trans (hbb)); clear hsb hgb hbb) | (go_at_call 53; have hcl := jalousieref08_lay.owned w.heap.size _ (jalousieref08_lay.p (jalousieref08_lay.p out 1 keep) 2 gone) 3 made (.slice Ab (jalousieref08_lay.p (jalousieref08_lay.p out 1 keep) 2 gone).length cb) _ _ wb HNb.out.1 HNb.out.fresh (Kd.R_reads' HNb.out.2.2.2).2.2 (Kd.R_reads' HNb.out.2.2.2).2.1 (by have := jalousieref08_Normal.lay_len out 1 keep; have := jalousieref08_Normal.lay_len (jalousieref08_lay.p out 1 keep) 2 gone; omega) (by omega) HBb.out.size; with_reducible refine hcl.mono ?_; clear hcl; rintro e wd ⟨vd, rfl, hsd, hgd, _, hbd⟩; obtain ⟨Ad, cd, rfl⟩ := Kd.R_slice (Kd.S_R hsd); have HNd := Aside0.mk (HNb.out.puto hsd hgd); have HBd := Aside0.mk (HBb.out.trans (hbd)); clear hsd hgd hbd))
    go_ret2
    have e2 : r1 = jalousieref08_Normal.fin ⟨out, keep, gone, made⟩ := by rw [← HR1.out, Hqq.out]
    rw [e2]
    exact ⟨_, rfl, Kd.S_mono HNd.out.1 (fun _ _ => trivial), HBd.out⟩
 ·rw [if_neg he0] at h
  have hr := Option.some.inj h
  simp only [Prod.mk.injEq] at hr
  obtain ⟨rfl, rfl⟩ := hr
  have hne : (e0 != 0) = true := bne_iff_ne.mpr he0
  clear h he0
  go_enter Try.func23, Try.ntmps23
  go_wp2_with (go_at_call 26; refine HE.out.mono ?_; rintro e w1 ⟨rfl, hD⟩)
  go_ret2
  exact ⟨_, rfl, Kd.S_nil _ _ _ _ _, hD.below⟩


end Go.Proofs.Ytfnbodjmmkjlcaa.H
end
section
namespace Go.Proofs.Ytfnbodjmmkjlcaa.H
open Go.RowKit Go.Proofs.YtfnbodjmmkjlcaaW.PrintWords Go.Proofs.YtfnbodjmmkjlcaaW.PrintLast Go.Proofs.YtfnbodjmmkjlcaaW.PrintMore
attribute [local go_sem] max2_int min2_int max_two min_two max_three min_three max_four min_four   -- for this text's walks alone
set_option linter.unusedVariables false
set_option linter.unusedSimpArgs false

def jalousieref08_side.l0 : Nat → List (S47) → Int → List (S66) → Int → Option ((List (S66)))
 | 0, _, _, _, _ => none
 | k + 1, x0, x1, x5, x6 => if x6 < (x0.length : Int) then (if 0 ≤ x6 then (if ((rd_T47 x0 x6).f0) = x1 then (jalousieref08_side.l0 k x0 x1 x5 (wrap64 (x6 + 1))) else (if x5.length + ((rd_T47 x0 x6).f1).length < 5864062014805 then (jalousieref08_side.l0 k x0 x1 (x5 ++ ((rd_T47 x0 x6).f1)) (wrap64 (x6 + 1))) else (none))) else (none)) else (some x5)
def jalousieref08_side.f (k : Nat) (l0 : List (S47)) (a1 : Int) : Option ((List (S66))) := jalousieref08_side.l0 k l0 a1 (([] : List (S66))) 0
set_option maxHeartbeats 8000000 in
set_option maxRecDepth 100000 in
theorem jalousieref08_side.calls (k : Nat) (A0 : Option Addr) (c0 : Nat) (l0 : List (S47)) (a1 : Int) (r : List (S66)) (w : World) (hr0 : Kd.C k47 w A0 l0.length l0) (hc0 : l0.length ≤ c0) (h : jalousieref08_side.f k l0 a1 = some r) :
  Calls Try.prog 54 #[.slice A0 l0.length c0, .int .i64 a1] w fun e w' => ∃ v0_ : Value, e = .returned (v0_) ∧ Kd.R k66 66 w' w.heap.size (fun _ => True) v0_ r ∧ Below w.heap.size w w' := by
 have HR0 := Aside0.mk hr0
 have HC0 := Aside0.mk hc0
 clear hr0 hc0
 have HB := Aside0.mk (Below.refl w.heap.size w)
 have H : (jalousieref08_side.l0 k l0 a1 (([] : List (S66))) 0) = some r := h
 clear h
 obtain ⟨y267, hy267⟩ : ∃ y_ : List (S66), y_ = (([] : List (S66))) := ⟨_, rfl⟩
 replace H : (jalousieref08_side.l0 k l0 a1 y267 0) = some r := by first | (rw [hy267]; with_reducible exact H) | (have H2_ := (Option.bind_some _ _).symm.trans H; rw [hy267]; with_reducible exact H2_) | (have H2_ := (Option.bind_some _ _).symm.trans H; with_reducible exact H2_) | with_reducible exact H | (rw [hy267]; exact H) | exact H
 have Ny267 := Aside0.mk hy267
 clear hy267
 have H' := Aside0.mk H
 clear H
 go_enter Try.func54, Try.ntmps54
 go_wp2_with (first | ((with_reducible refine gate_dst (N := 7) rfl ?_); refine Kd.R_lit k66 _ 66 ?hg (N := 7) ?hd (xs := ([] : List (S66))) (inner := []) (ok := fun _ => True) (okp := fun _ => True) ?hr ?hp (fun _ hk => hk) trivial (Below.refl _ _) (Nat.le_refl _) (by simp) ?_; (case hd => rfl); (case hg => rfl); (case hr => first | (go_simp; done) | (go_simp; rfl)); (case hp => exact (Reps.none _ _)); intro v268 w3 ho4 hb hg_ hnew_; clear hg_ hnew_; (first | rw [← Ny267.out] at ho4 | (simp only [Int.reduceToNat] at ho4; rw [← Ny267.out] at ho4)); have n0_ := Aside0.mk (Kd.R_lower ho4 (below_size (by repeat (first | (with_reducible first | exact HB.out | apply below_alloc | apply pw_below_drewN | apply below_drew1) | exact HB.out)))); have n1_ := Aside0.mk (below_step (by repeat (first | (with_reducible first | exact HB.out | apply below_alloc | apply pw_below_drewN | apply below_drew1) | exact HB.out)) hb); clear HB; have HO269 := n0_; have HB := n1_; clear n0_ n1_; clear hb ho4))
 go_loopg [5, 6] k (fun kq v5 v6 w' => ∃ (x5_1 : List (S66)) (x6_1 : Int), v6 = .int .i64 x6_1 ∧ Aside0 (jalousieref08_side.l0 kq l0 a1 x5_1 x6_1 = some r) ∧ Aside0 (kq ≤ k) ∧ Aside0 (Kd.R k66 66 w' w.heap.size (fun _ => True) v5 x5_1) ∧ Aside0 (Below w.heap.size w w'))
 case atStart => exact ⟨(y267), (0), (by first | rfl | (simp; done) | (simp [*]; done)), H', ⟨Nat.le_refl _⟩, ⟨by (with_reducible repeat first|apply zr1|apply zr2|apply zr3); exact HO269.out⟩, ⟨by repeat (first | (with_reducible first | exact HB.out | apply below_alloc | apply pw_below_drewN | apply below_drew1) | exact HB.out)⟩⟩
 case round =>
  clear H'
  try clear p2
  obtain ⟨x5_1, x6_1, rfl, HA, HK1, HO_5, HB⟩ := hrel
  cases gk with
  | zero => exact absurd HA.out (by simp [jalousieref08_side.l0])
  | succ k1 =>
   have H := HA.out
   clear HA
   simp only [jalousieref08_side.l0] at H
   by_cases c5 : x6_1 < (l0.length : Int)
   ·rw [if_pos c5] at H
    have c5b0 : decide (x6_1 < (l0.length : Int)) = true := decide_eq_true c5
    clear c5
    by_cases c6 : 0 ≤ x6_1
    ·rw [if_pos c6] at H
     have c6b0 : decide (0 ≤ x6_1) = true := decide_eq_true c6
     clear c6
     by_cases c7 : ((rd_T47 l0 x6_1).f0) = a1
     ·rw [if_pos c7] at H
      have c7b0 : (((rd_T47 l0 x6_1).f0) == a1) = true := beq_iff_eq.mpr c7
      have c7b1 : (((rd_T47 l0 x6_1).f0) != a1) = false := bne_eq_false_iff_eq.mpr c7
      clear c7
      have H' := Aside0.mk H
      clear H
      have p270 : 0 ≤ (x6_1 : Int) := of_decide_eq_true (by first | (with_reducible assumption) | assumption)
      have q270 : x6_1 < (l0.length : Int) := of_decide_eq_true (by first | (with_reducible assumption) | assumption)
      obtain ⟨ad270, A270_1, c270_1, e270, hx270_0, hx270_1, hl270_1, hi270_1⟩ := at_T47 HR0.out x6_1 p270 q270
      cases e270
      replace hx270_0 := (HB.out.cell (World.block_lt_of_cell? w _ hx270_0)).trans hx270_0
      replace hx270_1 := (HB.out.cell (World.block_lt_of_cell? w _ hx270_1)).trans hx270_1
      have HR270_1 := Aside0.mk hi270_1
      have HC270_1 := Aside0.mk hl270_1
      clear hi270_1 hl270_1
      replace p270 := eq_true p270
      replace q270 := eq_true q270
      go_wp2
      go_roundg k1
      case measure => have := HK1.out; omega
      case rel => exact ⟨(x5_1), (wrap64 (x6_1 + 1)), (by first | rfl | (simp; done) | (simp [*]; done)), H', ⟨by have := HK1.out; omega⟩, ⟨by (with_reducible repeat first|apply zr1|apply zr2|apply zr3); exact HO_5.out⟩, ⟨by repeat (first | (with_reducible first | exact HB.out | apply below_alloc | apply pw_below_drewN | apply below_drew1) | exact HB.out)⟩⟩
     ·rw [if_neg c7] at H
      have c7b0 : (((rd_T47 l0 x6_1).f0) == a1) = false := beq_eq_false_iff_ne.mpr c7
      have c7b1 : (((rd_T47 l0 x6_1).f0) != a1) = true := bne_iff_ne.mpr c7
      by_cases c8 : x5_1.length + ((rd_T47 l0 x6_1).f1).length < 5864062014805
      ·rw [if_pos c8] at H
       have LMc8 := Aside0.mk c8
       clear c8
       obtain ⟨y272, hy272⟩ : ∃ y_ : List (S66), y_ = (x5_1 ++ ((rd_T47 l0 x6_1).f1)) := ⟨_, rfl⟩
       replace H : (jalousieref08_side.l0 k1 l0 a1 y272 (wrap64 (x6_1 + 1))) = some r := by first | (rw [hy272]; with_reducible exact H) | (have H2_ := (Option.bind_some _ _).symm.trans H; rw [hy272]; with_reducible exact H2_) | (have H2_ := (Option.bind_some _ _).symm.trans H; with_reducible exact H2_) | with_reducible exact H | (rw [hy272]; exact H) | exact H
       have Ny272 := Aside0.mk hy272
       clear hy272
       have H' := Aside0.mk H
       clear H
       have p270 : 0 ≤ (x6_1 : Int) := of_decide_eq_true (by first | (with_reducible assumption) | assumption)
       have q270 : x6_1 < (l0.length : Int) := of_decide_eq_true (by first | (with_reducible assumption) | assumption)
       obtain ⟨ad270, A270_1, c270_1, e270, hx270_0, hx270_1, hl270_1, hi270_1⟩ := at_T47 HR0.out x6_1 p270 q270
       cases e270
       replace hx270_0 := (HB.out.cell (World.block_lt_of_cell? w _ hx270_0)).trans hx270_0
       replace hx270_1 := (HB.out.cell (World.block_lt_of_cell? w _ hx270_1)).trans hx270_1
       have HR270_1 := Aside0.mk hi270_1
       have HC270_1 := Aside0.mk hl270_1
       clear hi270_1 hl270_1
       replace p270 := eq_true p270
       replace q270 := eq_true q270
       have p271 : 0 ≤ (x6_1 : Int) := of_decide_eq_true (by first | (with_reducible assumption) | assumption)
       have q271 : x6_1 < (l0.length : Int) := of_decide_eq_true (by first | (with_reducible assumption) | assumption)
       obtain ⟨ad271, A271_1, c271_1, e271, hx271_0, hx271_1, hl271_1, hi271_1⟩ := at_T47 HR0.out x6_1 p271 q271
       obtain rfl : ad270 = ad271 := (by injection e271)
       replace hx271_0 := (HB.out.cell (World.block_lt_of_cell? w _ hx271_0)).trans hx271_0
       replace hx271_1 := (HB.out.cell (World.block_lt_of_cell? w _ hx271_1)).trans hx271_1
       have HR271_1 := Aside0.mk hi271_1
       have HC271_1 := Aside0.mk hl271_1
       clear hi271_1 hl271_1
       replace p271 := eq_true p271
       replace q271 := eq_true q271
       have ea_ := Option.some.inj (hx270_1.symm.trans hx271_1)
       injection ea_ with ea_ en_ ec_
       subst ea_
       subst ec_
       clear en_
       go_wp2_with (first | ((with_reducible refine gate_builtin (b := .append) (xs := #[.tmp 21, .tmp 26]) rfl ?_); at_builtin; refine Kd.R_append_rows k66 (w0 := w) w.heap.size rfl (.tmp 21) (.tmp 26) 37 66 (.agg #[(.string ⟨#[]⟩), (.bool false)]) 24 rfl Try.underlying37 info66 rfl (by decide) (by omega) u5 x5_1 ((rd_T47 l0 x6_1).f1) _ _ _ (fun _ => True) (fun _ => False) rfl rfl ?aO ?aR (fun _ _ h => h) (fun _ h => h.elim) ?aF ?aB ?aS ?aL ?_; (case aR => repeat (first | exact (Kd.C_below HR271_1.out HB.out) | (with_reducible refine Kd.C_alloc ?_ _) | (with_reducible refine Kd.C_drewN ?_ _) | (with_reducible refine Kd.C_drew ?_))); (case aB => exact (by repeat (first | (with_reducible first | exact HB.out | apply below_alloc | apply pw_below_drewN | apply below_drew1) | exact HB.out))); (case aF => exact (fun _ _ => trivial)); (case aO => exact (by (with_reducible repeat first|apply zr1|apply zr2|apply zr3); exact HO_5.out)); (case aS => exact (below_size (by repeat (first | (with_reducible first | exact HB.out | apply below_alloc | apply pw_below_drewN | apply below_drew1) | exact HB.out)))); (case aL => have := LMc8.out; omega); intro v273 w9 ho hb hg hat; rw [← Ny272.out] at ho; have n0_ := Aside0.mk (hb); have n1_ := Aside0.mk (ho); clear HB; clear HO_5; have HB := n0_; have HO274 := n1_; clear n0_ n1_; clear ho hb hg hat))
       go_roundg k1
       case measure => have := HK1.out; omega
       case rel => exact ⟨(y272), (wrap64 (x6_1 + 1)), (by first | rfl | (simp; done) | (simp [*]; done)), H', ⟨by have := HK1.out; omega⟩, ⟨by (with_reducible repeat first|apply zr1|apply zr2|apply zr3); exact HO274.out⟩, ⟨by repeat (first | (with_reducible first | exact HB.out | apply below_alloc | apply pw_below_drewN | apply below_drew1) | exact HB.out)⟩⟩
      ·rw [if_neg c8] at H
       exact absurd H (by simp)
    ·rw [if_neg c6] at H
     exact absurd H (by simp)
   ·rw [if_neg c5] at H
    have c5b0 : decide (x6_1 < (l0.length : Int)) = false := decide_eq_false c5
    clear c5
    obtain rfl := Option.some.inj H
    go_wp2
    go_ret
    exact ⟨_, by first | rfl | (simp [errW_none, errW_some] <;> rfl) | (simp [*, errW_none, errW_some] <;> rfl), by (with_reducible repeat first|apply zr1|apply zr2|apply zr3); exact HO_5.out, by repeat (first | (with_reducible first | exact HB.out | apply below_alloc | apply pw_below_drewN | apply below_drew1) | exact HB.out)⟩

end Go.Proofs.Ytfnbodjmmkjlcaa.H
end
section
namespace Go.Proofs.Ytfnbodjmmkjlcaa.H
open Go.RowKit Go.Proofs.YtfnbodjmmkjlcaaW.PrintWords Go.Proofs.YtfnbodjmmkjlcaaW.PrintLast Go.Proofs.YtfnbodjmmkjlcaaW.PrintMore
attribute [local go_sem] max2_int min2_int max_two min_two max_three min_three max_four min_four   -- for this text's walks alone
set_option linter.unusedVariables false
set_option linter.unusedSimpArgs false

def jalousieref08_Sides.f (k : Nat) (l0 : List (S47)) : Option ((List (S66)) × (List (S66)) × Int) := (jalousieref08_Check.f k l0).bind fun t275 => (if t275 = 0 then ((jalousieref08_side.f k l0 3).bind fun t276 => ((jalousieref08_side.f k l0 2).bind fun t279 => (some (t276, t279, 0)))) else (some (([] : List (S66)), ([] : List (S66)), t275)))
set_option maxHeartbeats 8000000 in
set_option maxRecDepth 100000 in
theorem jalousieref08_Sides.calls (k : Nat) (A0 : Option Addr) (c0 : Nat) (l0 : List (S47)) (r1 : List (S66)) (r2 : List (S66)) (r3 : Int) (w : World) (hr0 : Kd.C k47 w A0 l0.length l0) (hc0 : l0.length ≤ c0) (h : jalousieref08_Sides.f k l0 = some (r1, r2, r3)) :
  Calls Try.prog 24 #[.slice A0 l0.length c0] w fun e w' => ∃ v0_ v1_ : Value, e = .returned (.tuple #[v0_, v1_, .int .i64 r3]) ∧ Kd.R k66 66 w' w.heap.size (fun k_ => some k_ ≠ (v1_ : Value).ownBlock) v0_ r1 ∧ Kd.R k66 66 w' w.heap.size (fun k_ => some k_ ≠ (v0_ : Value).ownBlock) v1_ r2 ∧ Below w.heap.size w w' := by
 have HR0 := Aside0.mk hr0
 have HC0 := Aside0.mk hc0
 clear hr0 hc0
 have HB := Aside0.mk (Below.refl w.heap.size w)
 have H : ((jalousieref08_Check.f k l0).bind fun t275 => (if t275 = 0 then ((jalousieref08_side.f k l0 3).bind fun t276 => ((jalousieref08_side.f k l0 2).bind fun t279 => (some (t276, t279, 0)))) else (some (([] : List (S66)), ([] : List (S66)), t275)))) = some (r1, r2, r3) := h
 clear h
 replace H := Option.bind_eq_some_iff.mp H
 obtain ⟨t275, A20, H⟩ := H
 replace H : (if t275 = 0 then ((jalousieref08_side.f k l0 3).bind fun t276 => ((jalousieref08_side.f k l0 2).bind fun t279 => (some (t276, t279, 0)))) else (some (([] : List (S66)), ([] : List (S66)), t275))) = some (r1, r2, r3) := H
 have A2 := Aside0.mk A20
 clear A20
 by_cases c3 : t275 = 0
 ·rw [if_pos c3] at H
  have c3b0 : (t275 == 0) = true := beq_iff_eq.mpr c3
  have c3b1 : (t275 != 0) = false := bne_eq_false_iff_eq.mpr c3
  clear c3
  replace H := Option.bind_eq_some_iff.mp H
  obtain ⟨t276, A40, H⟩ := H
  replace H : ((jalousieref08_side.f k l0 2).bind fun t279 => (some (t276, t279, 0))) = some (r1, r2, r3) := H
  have A4 := Aside0.mk A40
  clear A40
  replace H := Option.bind_eq_some_iff.mp H
  obtain ⟨t279, A50, H⟩ := H
  replace H : (some (t276, t279, 0)) = some (r1, r2, r3) := H
  have A5 := Aside0.mk A50
  clear A50
  simp only [Option.some.injEq, Prod.mk.injEq] at H
  obtain ⟨rfl, rfl, rfl⟩ := H
  go_enter Try.func24, Try.ntmps24
  go_wp2_with (first | ((with_reducible refine gate_callee (f := 26) rfl ?_); refine goesL_ (some 7) rfl rfl Try.func26 (by kernel_rfl) rfl #[.slice A0 l0.length c0] rfl (by (try simp only [List.map_toArray, List.map_cons, List.map_nil]); first | done | rfl | (simp only [List.length_drop, List.length_take]; rfl)) ?_; (with_reducible refine (jalousieref08_Check.calls k _ _ l0 t275 _ ?side1 ?side2 A2.out).mono ?_); (case side1 => repeat (first | exact HR0.out | (with_reducible refine Kd.C_alloc ?_ _) | (with_reducible refine Kd.C_drewN ?_ _) | (with_reducible refine Kd.C_drew ?_))); (case side2 => exact HC0.out); rintro e w' ⟨rfl, ⟨nd, rfl⟩⟩; refine ⟨_, rfl, ?_⟩) | ((with_reducible refine gate_callee (f := 54) rfl ?_); refine goesL_ (some 12) rfl rfl Try.func54 (by kernel_rfl) rfl #[.slice A0 l0.length c0, .int .i64 3] rfl (by (try simp only [List.map_toArray, List.map_cons, List.map_nil]); first | done | rfl | (simp only [List.length_drop, List.length_take]; rfl)) ?_; (with_reducible refine (jalousieref08_side.calls k _ _ l0 3 t276 _ ?side1 ?side2 A4.out).mono ?_); (case side1 => repeat (first | exact HR0.out | (with_reducible refine Kd.C_alloc ?_ _) | (with_reducible refine Kd.C_drewN ?_ _) | (with_reducible refine Kd.C_drew ?_))); (case side2 => exact HC0.out); rintro e w6 ⟨v277, rfl, ho0, hb⟩; refine ⟨_, rfl, ?_⟩; have n0_ := Aside0.mk (Kd.R_lower ho0 (below_size (by repeat (first | (with_reducible first | exact HB.out | apply below_alloc | apply pw_below_drewN | apply below_drew1) | exact HB.out)))); have n1_ := Aside0.mk (below_step (by repeat (first | (with_reducible first | exact HB.out | apply below_alloc | apply pw_below_drewN | apply below_drew1) | exact HB.out)) hb); clear HB; have HO278 := n0_; have HB := n1_; clear n0_ n1_; (try clear hb); (try clear hb2); (try clear hk); (try clear hi); (try clear ho0)) | ((with_reducible refine gate_callee (f := 54) rfl ?_); refine goesL_ (some 14) rfl rfl Try.func54 (by kernel_rfl) rfl #[.slice A0 l0.length c0, .int .i64 2] rfl (by (try simp only [List.map_toArray, List.map_cons, List.map_nil]); first | done | rfl | (simp only [List.length_drop, List.length_take]; rfl)) ?_; (with_reducible refine (jalousieref08_side.calls k _ _ l0 2 t279 _ ?side1 ?side2 A5.out).mono ?_); (case side1 => repeat (first | exact (Kd.C_below HR0.out HB.out) | (with_reducible refine Kd.C_alloc ?_ _) | (with_reducible refine Kd.C_drewN ?_ _) | (with_reducible refine Kd.C_drew ?_))); (case side2 => exact HC0.out); rintro e w7 ⟨v280, rfl, ho0, hb⟩; refine ⟨_, rfl, ?_⟩; have n0_ := Aside0.mk (Kd.R_elder' (by (with_reducible repeat first|apply zr1|apply zr2|apply zr3); exact HO278.out) (Kd.R_base ho0) hb); have n1_ := Aside0.mk (Kd.R_lower (Kd.R_new' ho0 (Kd.R_lt (by (with_reducible repeat first|apply zr1|apply zr2|apply zr3); exact HO278.out))) (below_size (by repeat (first | (with_reducible first | exact HB.out | apply below_alloc | apply pw_below_drewN | apply below_drew1) | exact HB.out)))); have n2_ := Aside0.mk (below_step (by repeat (first | (with_reducible first | exact HB.out | apply below_alloc | apply pw_below_drewN | apply below_drew1) | exact HB.out)) hb); clear HO278; clear HB; have HO278 := n0_; have HO281 := n1_; have HB := n2_; clear n0_ n1_ n2_; (try clear hb); (try clear hb2); (try clear hk); (try clear hi); (try clear ho0)))
  go_ret3
  exact ⟨_, _, by first | rfl | (simp [errW_none, errW_some] <;> rfl) | (simp [*, errW_none, errW_some] <;> rfl), by (with_reducible repeat first|apply zr1|apply zr2|apply zr3); exact Kd.R_mono HO278.out (fun _ hk => hk.2), by (with_reducible repeat first|apply zr1|apply zr2|apply zr3); exact Kd.R_mono HO281.out (fun _ hk => hk.2), by repeat (first | (with_reducible first | exact HB.out | apply below_alloc | apply pw_below_drewN | apply below_drew1) | exact HB.out)⟩
 ·rw [if_neg c3] at H
  have c3b0 : (t275 == 0) = false := beq_eq_false_iff_ne.mpr c3
  have c3b1 : (t275 != 0) = true := bne_iff_ne.mpr c3
  simp only [Option.some.injEq, Prod.mk.injEq] at H
  obtain ⟨rfl, rfl, rfl⟩ := H
  go_enter Try.func24, Try.ntmps24
  go_wp2_with (first | ((with_reducible refine gate_callee (f := 26) rfl ?_); refine goesL_ (some 7) rfl rfl Try.func26 (by kernel_rfl) rfl #[.slice A0 l0.length c0] rfl (by (try simp only [List.map_toArray, List.map_cons, List.map_nil]); first | done | rfl | (simp only [List.length_drop, List.length_take]; rfl)) ?_; (with_reducible refine (jalousieref08_Check.calls k _ _ l0 t275 _ ?side1 ?side2 A2.out).mono ?_); (case side1 => repeat (first | exact HR0.out | (with_reducible refine Kd.C_alloc ?_ _) | (with_reducible refine Kd.C_drewN ?_ _) | (with_reducible refine Kd.C_drew ?_))); (case side2 => exact HC0.out); rintro e w' ⟨rfl, ⟨nd, rfl⟩⟩; refine ⟨_, rfl, ?_⟩))
  go_ret3
  exact ⟨_, _, by first | rfl | (simp [errW_none, errW_some] <;> rfl) | (simp [*, errW_none, errW_some] <;> rfl), by first | exact Kd.R_nil _ _ _ _ _ | exact Kd.N_nil _ _ _ _ _ | exact Kd.V_nil _ _ _ _ _ | exact Kd.Q_nil _ _ _ _ _ | exact Kd.S_nil _ _ _ _ _, by first | exact Kd.R_nil _ _ _ _ _ | exact Kd.N_nil _ _ _ _ _ | exact Kd.V_nil _ _ _ _ _ | exact Kd.Q_nil _ _ _ _ _ | exact Kd.S_nil _ _ _ _ _, by repeat (first | (with_reducible first | exact HB.out | apply below_alloc | apply pw_below_drewN | apply below_drew1) | exact HB.out)⟩

end Go.Proofs.Ytfnbodjmmkjlcaa.H
end
