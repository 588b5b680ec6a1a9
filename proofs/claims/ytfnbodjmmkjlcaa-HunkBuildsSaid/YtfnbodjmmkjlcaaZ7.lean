/-
  What the claim needs of the words, of the walks and of the plain proofs, in one row (7).
-/
import Derived.RangeFuncNested
import Derived.RangeFuncBound
import Derived.RangeFuncCalls
import Derived.RangeFuncLeaves
import Derived.RangeFuncBox
import Derived.RangeFuncMany
import Derived.OwnWalkIn
import Derived.Test.YtfnbodjmmkjlcaaZ0
import Derived.Test.YtfnbodjmmkjlcaaZ1
import Derived.Test.YtfnbodjmmkjlcaaZ2
import Derived.Test.YtfnbodjmmkjlcaaZ3
import Derived.Test.YtfnbodjmmkjlcaaZ4
import Derived.Test.YtfnbodjmmkjlcaaZ5
import Derived.Test.YtfnbodjmmkjlcaaZ6
section
namespace Go.Proofs.Ytfnbodjmmkjlcaa.H
open Go.RowKit Go.Proofs.YtfnbodjmmkjlcaaW.PrintWords Go.Proofs.YtfnbodjmmkjlcaaW.PrintLast Go.Proofs.YtfnbodjmmkjlcaaW.PrintMore
attribute [local go_sem] max2_int min2_int max_two min_two max_three min_three max_four min_four   -- for this text's walks alone
set_option linter.unusedVariables false
set_option linter.unusedSimpArgs false

def jalousielaw09_HunkBuilds.f (k : Nat) (l0 : List (S47)) (a1 : Int) : Option (Bool) := (jalousielaw09_few.f k l0).bind fun t255 => (if t255 = true then ((hunk_Build.f k l0 a1).bind fun bt257 => ((jalousieref09_Build.f k l0 a1).bind fun bt261 => ((jalousielaw09_live.f k).bind fun t265 => (if t265 = true then ((jalousieref09_Same.f k bt257.1 bt261.1).bind fun t266 => (if t266 = true then (some (bt257.2 == bt261.2)) else (some false))) else (some false))))) else ((jalousielaw09_live.f k).bind fun t256 => (some t256)))
set_option maxHeartbeats 8000000 in
set_option maxRecDepth 100000 in
theorem jalousielaw09_HunkBuilds.calls (k : Nat) (A0 : Option Addr) (c0 : Nat) (l0 : List (S47)) (a1 : Int) (r : Bool) (w : World) (hr0 : Kd.C k47 w A0 l0.length l0) (hc0 : l0.length ≤ c0) (h : jalousielaw09_HunkBuilds.f k l0 a1 = some r) (HRT : Aside0 (r = true) := by first | exact ⟨rfl⟩ | assumption) :
  Calls Try.prog 3 #[.slice A0 l0.length c0, .int .i64 a1] w fun e w' => e = .returned (.bool r) ∧ Below w.heap.size w w' := by
 have HR0 := Aside0.mk hr0
 have HC0 := Aside0.mk hc0
 clear hr0 hc0
 have HB := Aside0.mk (Below.refl w.heap.size w)
 have H : ((jalousielaw09_few.f k l0).bind fun t255 => (if t255 = true then ((hunk_Build.f k l0 a1).bind fun bt257 => ((jalousieref09_Build.f k l0 a1).bind fun bt261 => ((jalousielaw09_live.f k).bind fun t265 => (if t265 = true then ((jalousieref09_Same.f k bt257.1 bt261.1).bind fun t266 => (if t266 = true then (some (bt257.2 == bt261.2)) else (some false))) else (some false))))) else ((jalousielaw09_live.f k).bind fun t256 => (some t256)))) = some r := h
 clear h
 replace H := Option.bind_eq_some_iff.mp H
 obtain ⟨t255, A30, H⟩ := H
 replace H : (if t255 = true then ((hunk_Build.f k l0 a1).bind fun bt257 => ((jalousieref09_Build.f k l0 a1).bind fun bt261 => ((jalousielaw09_live.f k).bind fun t265 => (if t265 = true then ((jalousieref09_Same.f k bt257.1 bt261.1).bind fun t266 => (if t266 = true then (some (bt257.2 == bt261.2)) else (some false))) else (some false))))) else ((jalousielaw09_live.f k).bind fun t256 => (some t256))) = some r := H
 have A3 := Aside0.mk A30
 clear A30
 by_cases c4 : t255 = true
 ·subst c4
  have H1 : ((hunk_Build.f k l0 a1).bind fun bt257 => ((jalousieref09_Build.f k l0 a1).bind fun bt261 => ((jalousielaw09_live.f k).bind fun t265 => (if t265 = true then ((jalousieref09_Same.f k bt257.1 bt261.1).bind fun t266 => (if t266 = true then (some (bt257.2 == bt261.2)) else (some false))) else (some false))))) = some r := by rw [if_pos rfl] at H; exact H
  clear H
  have H := H1
  clear H1
  replace H := Option.bind_eq_some_iff.mp H
  obtain ⟨⟨t257, t258⟩, A50, H⟩ := H
  replace H : ((jalousieref09_Build.f k l0 a1).bind fun bt261 => ((jalousielaw09_live.f k).bind fun t265 => (if t265 = true then ((jalousieref09_Same.f k t257 bt261.1).bind fun t266 => (if t266 = true then (some (t258 == bt261.2)) else (some false))) else (some false)))) = some r := H
  have A5 := Aside0.mk A50
  clear A50
  replace H := Option.bind_eq_some_iff.mp H
  obtain ⟨⟨t261, t262⟩, A60, H⟩ := H
  replace H : ((jalousielaw09_live.f k).bind fun t265 => (if t265 = true then ((jalousieref09_Same.f k t257 t261).bind fun t266 => (if t266 = true then (some (t258 == t262)) else (some false))) else (some false))) = some r := H
  have A6 := Aside0.mk A60
  clear A60
  replace H := Option.bind_eq_some_iff.mp H
  obtain ⟨t265, A70, H⟩ := H
  replace H : (if t265 = true then ((jalousieref09_Same.f k t257 t261).bind fun t266 => (if t266 = true then (some (t258 == t262)) else (some false))) else (some false)) = some r := H
  have A7 := Aside0.mk A70
  clear A70
  by_cases c8 : t265 = true
  ·subst c8
   have H1 : ((jalousieref09_Same.f k t257 t261).bind fun t266 => (if t266 = true then (some (t258 == t262)) else (some false))) = some r := by rw [if_pos rfl] at H; exact H
   clear H
   have H := H1
   clear H1
   replace H := Option.bind_eq_some_iff.mp H
   obtain ⟨t266, A90, H⟩ := H
   replace H : (if t266 = true then (some (t258 == t262)) else (some false)) = some r := H
   have A9 := Aside0.mk A90
   clear A90
   by_cases c10 : t266 = true
   ·subst c10
    have H1 : (some (t258 == t262)) = some r := by rw [if_pos rfl] at H; exact H
    clear H
    have H := H1
    clear H1
    obtain rfl := Option.some.inj H
    go_enter Try.func3, Try.ntmps3
    go_wp2_with (first | ((with_reducible refine gate_callee (f := 13) rfl ?_); refine goesL_ (some 10) rfl rfl Try.func13 (by kernel_rfl) rfl #[.slice A0 l0.length c0] rfl (by (try simp only [List.map_toArray, List.map_cons, List.map_nil]); first | done | rfl | (simp only [List.length_drop, List.length_take]; rfl)) ?_; (with_reducible refine (jalousielaw09_few.calls k _ _ l0 true _ ?side1 ?side2 A3.out).mono ?_); (case side1 => repeat (first | exact HR0.out | (with_reducible refine Kd.C_alloc ?_ _) | (with_reducible refine Kd.C_drewN ?_ _) | (with_reducible refine Kd.C_drew ?_))); (case side2 => exact HC0.out); rintro e w11 ⟨rfl, hb⟩; refine ⟨_, rfl, ?_⟩; have n0_ := Aside0.mk (below_step (by repeat (first | (with_reducible first | exact HB.out | apply below_alloc | apply pw_below_drewN | apply below_drew1) | exact HB.out)) hb); clear HB; have HB := n0_; clear n0_; (try clear hb); (try clear hb2); (try clear hk); (try clear hi)) | ((with_reducible refine gate_callee (f := 15) rfl ?_); refine goesL_ (some 16) rfl rfl Try.func15 (by kernel_rfl) rfl #[.slice A0 l0.length c0, .int .i64 a1] rfl (by (try simp only [List.map_toArray, List.map_cons, List.map_nil]); first | done | rfl | (simp only [List.length_drop, List.length_take]; rfl)) ?_; (with_reducible refine (hunk_Build.calls k _ _ l0 a1 t257 t258 _ ?side1 ?side2 A5.out).mono ?_); (case side1 => repeat (first | exact (Kd.C_below HR0.out HB.out) | (with_reducible refine Kd.C_alloc ?_ _) | (with_reducible refine Kd.C_drewN ?_ _) | (with_reducible refine Kd.C_drew ?_))); (case side2 => exact HC0.out); rintro e w12 ⟨v259, rfl, ho0, hb⟩; refine ⟨_, rfl, ?_⟩; have n0_ := Aside0.mk (Kd.R_lower ho0 (below_size (by repeat (first | (with_reducible first | exact HB.out | apply below_alloc | apply pw_below_drewN | apply below_drew1) | exact HB.out)))); have n1_ := Aside0.mk (below_step (by repeat (first | (with_reducible first | exact HB.out | apply below_alloc | apply pw_below_drewN | apply below_drew1) | exact HB.out)) hb); clear HB; have HO260 := n0_; have HB := n1_; clear n0_ n1_; (try clear hb); (try clear hb2); (try clear hk); (try clear hi); (try clear ho0)) | ((with_reducible refine gate_callee (f := 16) rfl ?_); refine goesL_ (some 22) rfl rfl Try.func16 (by kernel_rfl) rfl #[.slice A0 l0.length c0, .int .i64 a1] rfl (by (try simp only [List.map_toArray, List.map_cons, List.map_nil]); first | done | rfl | (simp only [List.length_drop, List.length_take]; rfl)) ?_; (with_reducible refine (jalousieref09_Build.calls k _ _ l0 a1 t261 t262 _ ?side1 ?side2 A6.out).mono ?_); (case side1 => repeat (first | exact (Kd.C_below HR0.out HB.out) | (with_reducible refine Kd.C_alloc ?_ _) | (with_reducible refine Kd.C_drewN ?_ _) | (with_reducible refine Kd.C_drew ?_))); (case side2 => exact HC0.out); rintro e w13 ⟨v263, rfl, ho0, hb⟩; refine ⟨_, rfl, ?_⟩; have n0_ := Aside0.mk (Kd.R_elder' (by (with_reducible repeat first|apply zr1|apply zr2|apply zr3); exact HO260.out) (Kd.R_base ho0) hb); have n1_ := Aside0.mk (Kd.R_lower (Kd.R_new' ho0 (Kd.R_lt (by (with_reducible repeat first|apply zr1|apply zr2|apply zr3); exact HO260.out))) (below_size (by repeat (first | (with_reducible first | exact HB.out | apply below_alloc | apply pw_below_drewN | apply below_drew1) | exact HB.out)))); have n2_ := Aside0.mk (below_step (by repeat (first | (with_reducible first | exact HB.out | apply below_alloc | apply pw_below_drewN | apply below_drew1) | exact HB.out)) hb); clear HO260; clear HB; have HO260 := n0_; have HO264 := n1_; have HB := n2_; clear n0_ n1_ n2_; (try clear hb); (try clear hb2); (try clear hk); (try clear hi); (try clear ho0)) | ((with_reducible refine gate_callee (f := 14) rfl ?_); refine goesL_ (some 25) rfl rfl Try.func14 (by kernel_rfl) rfl #[] rfl (by (try simp only [List.map_toArray, List.map_cons, List.map_nil]); first | done | rfl | (simp only [List.length_drop, List.length_take]; rfl)) ?_; (with_reducible refine (jalousielaw09_live.calls k  true _ A7.out).mono ?_); rintro e w14 ⟨rfl, hb⟩; refine ⟨_, rfl, ?_⟩; have n0_ := Aside0.mk (Kd.R_below (by (with_reducible repeat first|apply zr1|apply zr2|apply zr3); exact HO260.out) hb); have n1_ := Aside0.mk (Kd.R_below (by (with_reducible repeat first|apply zr1|apply zr2|apply zr3); exact HO264.out) hb); have n2_ := Aside0.mk (below_step (by repeat (first | (with_reducible first | exact HB.out | apply below_alloc | apply pw_below_drewN | apply below_drew1) | exact HB.out)) hb); clear HO260; clear HO264; clear HB; have HO260 := n0_; have HO264 := n1_; have HB := n2_; clear n0_ n1_ n2_; (try clear hb); (try clear hb2); (try clear hk); (try clear hi); obtain ⟨Ao15, co15, eo15⟩ := Kd.R_slice HO260.out; subst eo15; obtain ⟨Ao16, co16, eo16⟩ := Kd.R_slice HO264.out; subst eo16) | (go_at_call 17; (with_reducible refine (jalousieref09_Same.calls k _ _ t257 _ _ t261 true _ ?side1 ?side2 ?side3 ?side4 A9.out).mono ?_); (case side1 => repeat (first | exact (Kd.R_reads' HO260.out).2.2 | (with_reducible refine Kd.C_alloc ?_ _) | (with_reducible refine Kd.C_drewN ?_ _) | (with_reducible refine Kd.C_drew ?_))); (case side2 => exact (Kd.R_reads' HO260.out).2.1); (case side3 => repeat (first | exact (Kd.R_reads' HO264.out).2.2 | (with_reducible refine Kd.C_alloc ?_ _) | (with_reducible refine Kd.C_drewN ?_ _) | (with_reducible refine Kd.C_drew ?_))); (case side4 => exact (Kd.R_reads' HO264.out).2.1); rintro e w' ⟨rfl, ⟨nd, rfl⟩⟩))
    go_ret
    exact ⟨by first | rfl | (simp [errW_none, errW_some] <;> rfl) | (simp [*, errW_none, errW_some] <;> rfl), by repeat (first | (with_reducible first | exact HB.out | apply below_alloc | apply pw_below_drewN | apply below_drew1) | exact HB.out)⟩
   ·replace c10 := Bool.eq_false_iff.mpr c10
    subst c10
    have H1 : (some false) = some r := by rw [if_neg (show ¬ (false = true) by decide)] at H; exact H
    clear H
    have H := H1
    clear H1
    exact absurd (Option.some.inj (H.trans (congrArg some HRT.out))) (by decide)
  ·replace c8 := Bool.eq_false_iff.mpr c8
   subst c8
   have H1 : (some false) = some r := by rw [if_neg (show ¬ (false = true) by decide)] at H; exact H
   clear H
   have H := H1
   clear H1
   exact absurd (Option.some.inj (H.trans (congrArg some HRT.out))) (by decide)
 ·replace c4 := Bool.eq_false_iff.mpr c4
  subst c4
  have H1 : ((jalousielaw09_live.f k).bind fun t256 => (some t256)) = some r := by rw [if_neg (show ¬ (false = true) by decide)] at H; exact H
  clear H
  have H := H1
  clear H1
  replace H := Option.bind_eq_some_iff.mp H
  obtain ⟨t256, A170, H⟩ := H
  replace H : (some t256) = some r := H
  have A17 := Aside0.mk A170
  clear A170
  obtain rfl := Option.some.inj H
  go_enter Try.func3, Try.ntmps3
  go_wp2_with (first | ((with_reducible refine gate_callee (f := 13) rfl ?_); refine goesL_ (some 10) rfl rfl Try.func13 (by kernel_rfl) rfl #[.slice A0 l0.length c0] rfl (by (try simp only [List.map_toArray, List.map_cons, List.map_nil]); first | done | rfl | (simp only [List.length_drop, List.length_take]; rfl)) ?_; (with_reducible refine (jalousielaw09_few.calls k _ _ l0 false _ ?side1 ?side2 A3.out).mono ?_); (case side1 => repeat (first | exact HR0.out | (with_reducible refine Kd.C_alloc ?_ _) | (with_reducible refine Kd.C_drewN ?_ _) | (with_reducible refine Kd.C_drew ?_))); (case side2 => exact HC0.out); rintro e w18 ⟨rfl, hb⟩; refine ⟨_, rfl, ?_⟩; have n0_ := Aside0.mk (below_step (by repeat (first | (with_reducible first | exact HB.out | apply below_alloc | apply pw_below_drewN | apply below_drew1) | exact HB.out)) hb); clear HB; have HB := n0_; clear n0_; (try clear hb); (try clear hb2); (try clear hk); (try clear hi)) | ((with_reducible refine gate_callee (f := 14) rfl ?_); refine goesL_ (some 12) rfl rfl Try.func14 (by kernel_rfl) rfl #[] rfl (by (try simp only [List.map_toArray, List.map_cons, List.map_nil]); first | done | rfl | (simp only [List.length_drop, List.length_take]; rfl)) ?_; (with_reducible refine (jalousielaw09_live.calls k  t256 _ A17.out).mono ?_); rintro e w19 ⟨rfl, hb⟩; refine ⟨_, rfl, ?_⟩; have n0_ := Aside0.mk (below_step (by repeat (first | (with_reducible first | exact HB.out | apply below_alloc | apply pw_below_drewN | apply below_drew1) | exact HB.out)) hb); clear HB; have HB := n0_; clear n0_; (try clear hb); (try clear hb2); (try clear hk); (try clear hi)))
  go_ret
  exact ⟨by first | rfl | (simp [errW_none, errW_some] <;> rfl) | (simp [*, errW_none, errW_some] <;> rfl), by repeat (first | (with_reducible first | exact HB.out | apply below_alloc | apply pw_below_drewN | apply below_drew1) | exact HB.out)⟩

end Go.Proofs.Ytfnbodjmmkjlcaa.H
end
section
namespace Go.Proofs.Ytfnbodjmmkjlcaa.H
open Go.RowKit Go.Proofs.YtfnbodjmmkjlcaaW.PrintWords Go.Proofs.YtfnbodjmmkjlcaaW.PrintLast Go.Proofs.YtfnbodjmmkjlcaaW.PrintMore
set_option linter.unusedVariables false
/-- THE PURE STATEMENT of HunkBuilds. -/
def jalousielaw09_HunkBuilds.Pure : Prop := ∀ (l0 : (List S47)) (a1 : Int), (∀ y_ ∈ l0, ok47 y_) → ((Lit.int .i64 a1).wf = true) → (l0.length * 32 ≤ 140737488351232 ∧ ∀ y_ ∈ l0, sz47 y_) → (True) → ∃ k, jalousielaw09_HunkBuilds.f k l0 a1 = some true
end Go.Proofs.Ytfnbodjmmkjlcaa.H
end
section
namespace Go.Proofs.Ytfnbodjmmkjlcaa
open Go.RowKit Go.Proofs.YtfnbodjmmkjlcaaW.PrintWords Go.Proofs.YtfnbodjmmkjlcaaW.PrintMore
theorem ev_succ {α : Type} {g : Nat → Option α} {r : α} (h : Ev (fun k => g (k + 1)) r) : Ev g r := Ev.step (fun _ => rfl) h
theorem ev_pos {α : Type} {c : Prop} [Decidable c] {f g : Nat → Option α} {r : α} (h : c) (k : Ev f r) : Ev (fun n => if c then f n else g n) r := by
  obtain ⟨K, k⟩ := k
  exact ⟨K, fun n hn => (if_pos h).trans (k n hn)⟩
theorem ev_neg {α : Type} {c : Prop} [Decidable c] {f g : Nat → Option α} {r : α} (h : ¬ c) (k : Ev g r) : Ev (fun n => if c then f n else g n) r := by
  obtain ⟨K, k⟩ := k
  exact ⟨K, fun n hn => (if_neg h).trans (k n hn)⟩
theorem ev_some {α : Type} {a r : α} (h : a = r) : Ev (fun _ => some a) r := ⟨0, fun _ _ => congrArg some h⟩
theorem ev_bind {α β : Type} {x : Option α} {f : Nat → α → Option β} {a : α} {r : β} (h : x = some a) (k : Ev (fun n => f n a) r) : Ev (fun n => x.bind (f n)) r := by
  subst h
  exact k
theorem ev_cast {α : Type} {g : Nat → Option α} {r q : α} (h : Ev g r) (e : r = q) : Ev g q := e ▸ h
theorem ev_as {α : Type} {g f : Nat → Option α} {r : α} (h : Ev g r) (e : g = f) : Ev f r := e ▸ h
theorem w64s (i : Nat) (h : i < 9223372036854775807) : wrap64 ((i : Int) + 1) = ((i + 1 : Nat) : Int) := by
  unfold wrap64
  omega
theorem w64i (x : Int) (h0 : -9223372036854775808 ≤ x) (h1 : x ≤ 9223372036854775807) : wrap64 x = x := by
  unfold wrap64
  omega
theorem getD_lt {α : Type} {l : List α} {i : Nat} (h : i < l.length) (d : α) : l.getD i d = l[i] := by
  rw [List.getD_eq_getElem?_getD, List.getElem?_eq_getElem h]
  rfl
theorem getD_some {α : Type} {l : List α} {i : Nat} {x : α} (h : l[i]? = some x) (d : α) : l.getD i d = x := by
  rw [List.getD_eq_getElem?_getD, h]
  rfl
theorem drop_cons {α : Type} (l : List α) (i : Nat) (h : i < l.length) (d : α) : l.drop i = l.getD i d :: l.drop (i + 1) := by
  rw [List.drop_eq_getElem_cons h, getD_lt h]
theorem ba_toList (s : ByteArray) : s.toList = s.data.toList := by
  obtain ⟨⟨l⟩⟩ := s
  exact ByteArray.toList_mk l
theorem ba_inj {a b : ByteArray} (h : a.toList = b.toList) : a = b := by
  rw [ba_toList, ba_toList] at h
  obtain ⟨⟨l⟩⟩ := a
  obtain ⟨⟨m⟩⟩ := b
  simp only at h
  subst h
  rfl
theorem ba_beq (a b : ByteArray) : (a.toList == b.toList) = decide (a = b) := by
  by_cases h : a = b
  · subst h
    simp
  · rw [decide_eq_false h]
    simp only [beq_eq_false_iff_ne, ne_eq]
    exact fun e => h (ba_inj e)
end Go.Proofs.Ytfnbodjmmkjlcaa
end
section
namespace Go.Proofs.Ytfnbodjmmkjlcaa.H
open Go.RowKit Go.Proofs.YtfnbodjmmkjlcaaW.PrintWords Go.Proofs.YtfnbodjmmkjlcaaW.PrintLast Go.Proofs.YtfnbodjmmkjlcaaW.PrintMore
set_option linter.unusedVariables false
set_option linter.unusedSimpArgs false
theorem rdE (l : List S47) (i : Nat) : rd_T47 l (i : Int) = l.getD i z47 := by simp [rd_T47]
theorem rdH (l : List S44) (i : Nat) : rd_T44 l (i : Int) = l.getD i z44 := by simp [rd_T44]
theorem rdL (l : List S66) (i : Nat) : rd_T66 l (i : Int) = l.getD i z66 := by simp [rd_T66]
theorem getD_mem {α : Type} {l : List α} {i : Nat} (h : i < l.length) (d : α) : l.getD i d ∈ l := by
  rw [getD_lt h]
  exact List.getElem_mem h
/-- How many lines. -/
def nl (s : List S47) : Nat := (s.map (fun e => e.f1.length)).sum
theorem nl_cons (x : S47) (s : List S47) : nl (x :: s) = x.f1.length + nl s := by simp [nl]
theorem nl_nil : nl [] = 0 := rfl
theorem nl_append (s t : List S47) : nl (s ++ t) = nl s + nl t := by simp [nl]
theorem nl_lines (s : List S47) : script_normal.lines s = nl s := rfl
/-- Each stays, goes, or is put in. -/
def allok (s : List S47) : Bool := s.all fun x => decide (1 ≤ x.f0 ∧ x.f0 ≤ 3)
theorem allok_cons (x : S47) (s : List S47) : allok (x :: s) = (decide (1 ≤ x.f0 ∧ x.f0 ≤ 3) && allok s) := by simp [allok]
/-- Sizes that a machine holds. -/
def Fit (s : List S47) : Prop := s.length ≤ 4398046511104 ∧ ∀ x ∈ s, x.f1.length ≤ 5864062014805
/-- What is wrong with a script. -/
def chk (s : List S47) : Int := if 800 < s.length then 4 else if 800 < nl s then 4 else if allok s = true then 0 else 3
theorem chk_zero {s : List S47} : chk s = 0 ↔ s.length ≤ 800 ∧ nl s ≤ 800 ∧ allok s = true := by
  unfold chk
  by_cases h1 : 800 < s.length
  · rw [if_pos h1]
    constructor
    · intro h
      cases h
    · omega
  · rw [if_neg h1]
    by_cases h2 : 800 < nl s
    · rw [if_pos h2]
      constructor
      · intro h
        cases h
      · omega
    · rw [if_neg h2]
      by_cases h3 : allok s = true
      · rw [if_pos h3]
        simp [h3]
        omega
      · rw [if_neg h3]
        simp [h3]
theorem chk_l0 (s : List S47) (hf : Fit s) : ∀ (d i n : Nat) (e : Int), i + d = s.length → n ≤ 800 → Ev (fun k => script_Check.l0 k (n : Int) e s (s.length : Int) (i : Int)) (if 800 < n + nl (s.drop i) then 4 else if allok (s.drop i) = true then e else 3)
  | 0, i, n, e, h, hn => by
    refine ev_succ ?_
    simp only [script_Check.l0]
    have := hf.1
    (repeat (first | refine ev_pos (by omega) ?_ | refine ev_neg (by omega) ?_))
    rw [List.drop_of_length_le (by omega)]
    exact ev_some (by rw [if_neg (by rw [nl_nil]; omega)]; rfl)
  | d + 1, i, n, e, h, hn => by
    have h1 := hf.1
    have hx := hf.2 _ (getD_mem (l := s) (i := i) (by omega) z47)
    rw [drop_cons s i (by omega) z47]
    refine ev_succ ?_
    simp only [script_Check.l0, rdE]
    rw [w64s i (by omega)]
    generalize s.getD i z47 = x at hx
    have hm : mn (wrap64 ((n : Int) + (x.f1.length : Int))) 801 = ((min (n + x.f1.length) 801 : Nat) : Int) := by
      unfold mn wrap64
      split <;> omega
    rw [hm, nl_cons, allok_cons]
    refine ev_pos (by omega) ?_
    refine ev_pos (by omega) ?_
    refine ev_pos (by omega) ?_
    by_cases hc : 800 < n + x.f1.length
    · refine ev_pos (by omega) ?_
      exact ev_some (by rw [if_pos (by omega)])
    · refine ev_neg (by omega) ?_
      rw [Nat.min_eq_left (by omega)]
      by_cases h3 : x.f0 < 1
      · refine ev_pos h3 ?_
        refine ev_cast (chk_l0 s hf d (i + 1) (n + x.f1.length) 3 (by omega) (by omega)) ?_
        rw [decide_eq_false (by omega), Bool.false_and, Nat.add_assoc]
        split
        · rfl
        · simp
      · refine ev_neg h3 ?_
        by_cases h4 : x.f0 > 3
        · refine ev_pos h4 ?_
          refine ev_cast (chk_l0 s hf d (i + 1) (n + x.f1.length) 3 (by omega) (by omega)) ?_
          rw [decide_eq_false (by omega), Bool.false_and, Nat.add_assoc]
          split
          · rfl
          · simp
        · refine ev_neg h4 ?_
          refine ev_cast (chk_l0 s hf d (i + 1) (n + x.f1.length) e (by omega) (by omega)) ?_
          rw [decide_eq_true (by omega), Bool.true_and, Nat.add_assoc]
theorem chk_ev (s : List S47) (hf : Fit s) : Ev (fun k => script_Check.f k s) (chk s) := by
  unfold script_Check.f chk
  by_cases h : 800 < s.length
  · refine ev_pos (by omega) ?_
    exact ev_some (by rw [if_pos h])
  · refine ev_neg (by omega) ?_
    refine ev_cast (chk_l0 s hf s.length 0 0 0 (by omega) (by omega)) ?_
    rw [if_neg h, List.drop_zero, Nat.zero_add]
theorem rchk_l1 (s : List S47) (hf : Fit s) : ∀ (d i : Nat), i + d = s.length → Ev (fun k => jalousieref08_Check.l1 k s (i : Int)) (if allok (s.drop i) = true then 0 else 3)
  | 0, i, h => by
    refine ev_succ ?_
    simp only [jalousieref08_Check.l1]
    have := hf.1
    (repeat (first | refine ev_pos (by omega) ?_ | refine ev_neg (by omega) ?_))
    rw [List.drop_of_length_le (by omega)]
    exact ev_some (by rfl)
  | d + 1, i, h => by
    have h1 := hf.1
    rw [drop_cons s i (by omega) z47]
    refine ev_succ ?_
    simp only [jalousieref08_Check.l1, rdE]
    rw [w64s i (by omega), allok_cons]
    generalize s.getD i z47 = x
    refine ev_pos (by omega) ?_
    refine ev_pos (by omega) ?_
    have ih := rchk_l1 s hf d (i + 1) (by omega)
    by_cases a1 : x.f0 = 1
    · refine ev_pos a1 (ev_cast ih ?_)
      rw [decide_eq_true (by omega), Bool.true_and]
    · refine ev_neg a1 ?_
      by_cases a2 : x.f0 = 2
      · refine ev_pos a2 (ev_cast ih ?_)
        rw [decide_eq_true (by omega), Bool.true_and]
      · refine ev_neg a2 ?_
        by_cases a3 : x.f0 = 3
        · refine ev_pos a3 (ev_cast ih ?_)
          rw [decide_eq_true (by omega), Bool.true_and]
        · refine ev_neg a3 (ev_some ?_)
          rw [decide_eq_false (by omega), Bool.false_and]
          rfl
theorem rchk_l0 (s : List S47) (hf : Fit s) : ∀ (d i n : Nat), i + d = s.length → n ≤ 800 → Ev (fun k => jalousieref08_Check.l0 k s (n : Int) (i : Int)) (if 800 < n + nl (s.drop i) then 4 else if allok s = true then 0 else 3)
  | 0, i, n, h, hn => by
    refine ev_succ ?_
    simp only [jalousieref08_Check.l0]
    have := hf.1
    (repeat (first | refine ev_pos (by omega) ?_ | refine ev_neg (by omega) ?_))
    rw [List.drop_of_length_le (by omega)]
    refine ev_cast (rchk_l1 s hf s.length 0 (by omega)) ?_
    rw [List.drop_zero, if_neg (show ¬ 800 < n + nl [] by rw [nl_nil]; omega)]
  | d + 1, i, n, h, hn => by
    have h1 := hf.1
    have hx := hf.2 _ (getD_mem (l := s) (i := i) (by omega) z47)
    rw [drop_cons s i (by omega) z47]
    refine ev_succ ?_
    simp only [jalousieref08_Check.l0, rdE]
    rw [w64s i (by omega)]
    generalize s.getD i z47 = x at hx
    rw [w64i (800 - (n : Int)) (by omega) (by omega), w64i ((n : Int) + (x.f1.length : Int)) (by omega) (by omega), nl_cons]
    refine ev_pos (by omega) ?_
    refine ev_pos (by omega) ?_
    by_cases hc : 800 < n + x.f1.length
    · refine ev_pos (by omega) ?_
      exact ev_some (by rw [if_pos (by omega)])
    · refine ev_neg (by omega) ?_
      refine ev_cast (rchk_l0 s hf d (i + 1) (n + x.f1.length) (by omega) (by omega)) ?_
      rw [Nat.add_assoc]
theorem rchk_ev (s : List S47) (hf : Fit s) : Ev (fun k => jalousieref08_Check.f k s) (chk s) := by
  unfold jalousieref08_Check.f chk
  by_cases h : 800 < s.length
  · refine ev_pos (by omega) ?_
    exact ev_some (by rw [if_pos h])
  · refine ev_neg (by omega) ?_
    refine ev_cast (rchk_l0 s hf s.length 0 0 (by omega) (by omega)) ?_
    rw [if_neg h, List.drop_zero, Nat.zero_add]
/-- A script's lines but those of one kind. -/
def side (s : List S47) (but : Int) : List S66 := s.flatMap fun x => if x.f0 = but then [] else x.f1
theorem side_cons (x : S47) (s : List S47) (b : Int) : side (x :: s) b = (if x.f0 = b then [] else x.f1) ++ side s b := by simp [side]
theorem side_append (s t : List S47) (b : Int) : side (s ++ t) b = side s b ++ side t b := by simp [side]
theorem sides_l0 (s : List S47) (hok : allok s = true) (hn : nl s ≤ 800) (hl : s.length ≤ 800) : ∀ (d i : Nat) (a b : List S66), i + d = s.length → a.length + nl (s.drop i) ≤ 800 → b.length + nl (s.drop i) ≤ 800 → Ev (fun k => script_sides.l0 k a b s (s.length : Int) (i : Int)) (a ++ side (s.drop i) 3, b ++ side (s.drop i) 2)
  | 0, i, a, b, h, ha, hb => by
    refine ev_succ ?_
    simp only [script_sides.l0]
    (repeat (first | refine ev_pos (by omega) ?_ | refine ev_neg (by omega) ?_))
    rw [List.drop_of_length_le (by omega)]
    exact ev_some (by simp [side])
  | d + 1, i, a, b, h, ha, hb => by
    have hx : 1 ≤ (s.getD i z47).f0 ∧ (s.getD i z47).f0 ≤ 3 := by
      have := List.all_eq_true.1 hok _ (getD_mem (l := s) (i := i) (by omega) z47)
      simpa using this
    rw [drop_cons s i (by omega) z47] at ha hb ⊢
    rw [nl_cons] at ha hb
    refine ev_succ ?_
    simp only [script_sides.l0, rdE]
    rw [w64s i (by omega)]
    generalize s.getD i z47 = x at hx ha hb
    rw [side_cons, side_cons]
    refine ev_pos (by omega) ?_
    refine ev_pos (by omega) ?_
    refine ev_pos (by omega) ?_
    by_cases a1 : x.f0 = 1
    · refine ev_pos a1 ?_
      (repeat (first | refine ev_pos (by omega) ?_ | refine ev_neg (by omega) ?_))
      refine ev_cast (sides_l0 s hok hn hl d (i + 1) _ _ (by omega) (by rw [List.length_append]; omega) (by rw [List.length_append]; omega)) ?_
      rw [if_neg (by omega), if_neg (by omega), List.append_assoc, List.append_assoc]
    · refine ev_neg a1 ?_
      by_cases a2 : x.f0 = 2
      · refine ev_pos a2 ?_
        (repeat (first | refine ev_pos (by omega) ?_ | refine ev_neg (by omega) ?_))
        refine ev_cast (sides_l0 s hok hn hl d (i + 1) _ _ (by omega) (by rw [List.length_append]; omega) (by omega)) ?_
        rw [if_neg (by omega), if_pos a2, List.append_assoc, List.nil_append]
      · refine ev_neg a2 ?_
        (repeat (first | refine ev_pos (by omega) ?_ | refine ev_neg (by omega) ?_))
        refine ev_cast (sides_l0 s hok hn hl d (i + 1) _ _ (by omega) (by omega) (by rw [List.length_append]; omega)) ?_
        rw [if_pos (by omega), if_neg a2, List.append_assoc, List.nil_append]
/-- Both sides, and what is wrong. -/
def sds (s : List S47) : List S66 × List S66 × Int := if chk s = 0 then (side s 3, side s 2, 0) else ([], [], chk s)
theorem sides_ev (s : List S47) (hf : Fit s) : Ev (fun k => script_Sides.f k s) (sds s) := by
  unfold script_Sides.f sds
  refine Ev.bind (chk_ev s hf) ?_
  by_cases h : chk s = 0
  · refine ev_pos h ?_
    rw [if_pos h]
    obtain ⟨h1, h2, h3⟩ := chk_zero.1 h
    refine Ev.bind (a := (side s 3, side s 2)) ?_ (ev_some rfl)
    unfold script_sides.f
    refine ev_cast (sides_l0 s h3 h2 h1 s.length 0 [] [] (by omega) (by simpa using h2) (by simpa using h2)) ?_
    simp
  · refine ev_neg h ?_
    rw [if_neg h]
    exact ev_some rfl
end Go.Proofs.Ytfnbodjmmkjlcaa.H
namespace Go.Proofs.Ytfnbodjmmkjlcaa.H
open Go.RowKit Go.Proofs.YtfnbodjmmkjlcaaW.PrintWords Go.Proofs.YtfnbodjmmkjlcaaW.PrintLast Go.Proofs.YtfnbodjmmkjlcaaW.PrintMore
set_option linter.unusedVariables false
set_option linter.unusedSimpArgs false
instance decL : DecidableEq S66 := fun a b => decidable_of_iff (a.f0 = b.f0 ∧ a.f1 = b.f1) ⟨fun h => by cases a; cases b; simp at h; simp [h], fun h => h ▸ ⟨rfl, rfl⟩⟩
instance decE : DecidableEq S47 := fun a b => decidable_of_iff (a.f0 = b.f0 ∧ a.f1 = b.f1) ⟨fun h => by cases a; cases b; simp at h; simp [h], fun h => h ▸ ⟨rfl, rfl⟩⟩
instance decH : DecidableEq S44 := fun a b => decidable_of_iff (a.f0 = b.f0 ∧ a.f1 = b.f1 ∧ a.f2 = b.f2 ∧ a.f3 = b.f3 ∧ a.f4 = b.f4) ⟨fun h => by cases a; cases b; simp at h; simp [h], fun h => h ▸ ⟨rfl, rfl, rfl, rfl, rfl⟩⟩
theorem line_ne (a b : S66) : (!((a.f0.toList) == (b.f0.toList)) || (!((a.f1) == (b.f1)))) = !decide (a = b) := by
  rw [ba_beq]
  by_cases h : a = b
  · subst h
    simp
  · rw [decide_eq_false h]
    by_cases h0 : a.f0 = b.f0
    · have h1 : a.f1 ≠ b.f1 := fun h1 => h (by cases a; cases b; simp at h0 h1; simp [h0, h1])
      simp [h0, h1]
    · simp [h0]
theorem decide_cons {α : Type} [DecidableEq α] (a b : α) (s t : List α) : decide (a :: s = b :: t) = (decide (a = b) && decide (s = t)) := by
  by_cases h : a = b
  · subst h
    by_cases h2 : s = t
    · simp [h2]
    · simp [h2]
  · simp [h]
theorem lsame_l0 (s t : List S66) (hl : s.length = t.length) (hs : s.length ≤ 9000000000000000000) : ∀ (d i : Nat), i + d = s.length → Ev (fun k => jalousieref01_Same.l0 k s t (i : Int)) (decide (s.drop i = t.drop i))
  | 0, i, h => by
    refine ev_succ ?_
    simp only [jalousieref01_Same.l0]
    (repeat (first | refine ev_pos (by omega) ?_ | refine ev_neg (by omega) ?_))
    rw [List.drop_of_length_le (by omega), List.drop_of_length_le (by omega)]
    exact ev_some (by simp)
  | d + 1, i, h => by
    refine ev_succ ?_
    simp only [jalousieref01_Same.l0, rdL]
    rw [w64s i (by omega), drop_cons s i (by omega) z66, drop_cons t i (by omega) z66, decide_cons, line_ne]
    refine ev_pos (by omega) ?_
    refine ev_pos (by omega) ?_
    refine ev_pos (by omega) ?_
    by_cases e : s.getD i z66 = t.getD i z66
    · refine ev_neg (by rw [decide_eq_true e]; simp) ?_
      refine ev_cast (lsame_l0 s t hl hs d (i + 1) (by omega)) ?_
      rw [decide_eq_true e, Bool.true_and]
    · refine ev_pos (by rw [decide_eq_false e]; simp) ?_
      exact ev_some (by rw [decide_eq_false e, Bool.false_and])
theorem lsame_ev (s t : List S66) (hs : s.length ≤ 9000000000000000000) : Ev (fun k => jalousieref01_Same.f k s t) (decide (s = t)) := by
  unfold jalousieref01_Same.f
  by_cases h : s.length = t.length
  · refine ev_pos (by omega) ?_
    exact ev_cast (lsame_l0 s t h hs s.length 0 (by omega)) (by simp)
  · refine ev_neg (by omega) ?_
    exact ev_some (by rw [decide_eq_false (fun e => h (by rw [e]))])
theorem edit_eq (a b : S47) : decide (a = b) = (decide (a.f0 = b.f0) && decide (a.f1 = b.f1)) := by
  by_cases h0 : a.f0 = b.f0
  · by_cases h1 : a.f1 = b.f1
    · have e : a = b := by cases a; cases b; simp at h0 h1; simp [h0, h1]
      simp [e]
    · have e : a ≠ b := fun e => h1 (by rw [e])
      simp [e, h1]
  · have e : a ≠ b := fun e => h0 (by rw [e])
    simp [e, h0]
theorem hunk_eq (a b : S44) : decide (a = b) = (decide (a.f0 = b.f0) && (decide (a.f1 = b.f1) && (decide (a.f2 = b.f2) && (decide (a.f3 = b.f3) && decide (a.f4 = b.f4))))) := by
  by_cases e : a = b
  · simp [e]
  · rw [decide_eq_false e]
    symm
    rw [Bool.eq_false_iff]
    intro h
    simp only [Bool.and_eq_true, decide_eq_true_eq] at h
    obtain ⟨h0, h1, h2, h3, h4⟩ := h
    exact e (by cases a; cases b; simp at h0 h1 h2 h3 h4; simp [h0, h1, h2, h3, h4])
theorem esame_l0 (s t : List S47) (hl : s.length = t.length) (hs : Fit s) : ∀ (d i : Nat), i + d = s.length → Ev (fun k => jalousieref08_Same.l0 k s t (i : Int)) (decide (s.drop i = t.drop i))
  | 0, i, h => by
    refine ev_succ ?_
    simp only [jalousieref08_Same.l0]
    (repeat (first | refine ev_pos (by omega) ?_ | refine ev_neg (by omega) ?_))
    rw [List.drop_of_length_le (by omega), List.drop_of_length_le (by omega)]
    exact ev_some (by simp)
  | d + 1, i, h => by
    have h1 := hs.1
    have hx := hs.2 _ (getD_mem (l := s) (i := i) (by omega) z47)
    refine ev_succ ?_
    simp only [jalousieref08_Same.l0, rdE]
    rw [w64s i (by omega), drop_cons s i (by omega) z47, drop_cons t i (by omega) z47, decide_cons, edit_eq]
    refine ev_pos (by omega) ?_
    refine ev_pos (by omega) ?_
    refine ev_pos (by omega) ?_
    by_cases e : (s.getD i z47).f0 = (t.getD i z47).f0
    · refine ev_pos e ?_
      refine Ev.bind (lsame_ev _ _ (by omega)) ?_
      by_cases e1 : (s.getD i z47).f1 = (t.getD i z47).f1
      · refine ev_pos (decide_eq_true e1) ?_
        refine ev_cast (esame_l0 s t hl hs d (i + 1) (by omega)) ?_
        rw [decide_eq_true e, decide_eq_true e1, Bool.true_and, Bool.true_and]
      · refine ev_neg (by rw [decide_eq_false e1]; simp) ?_
        exact ev_some (by rw [decide_eq_false e1, Bool.and_false, Bool.false_and])
    · refine ev_neg e ?_
      exact ev_some (by rw [decide_eq_false e, Bool.false_and, Bool.false_and])
theorem esame_ev (s t : List S47) (hs : Fit s) : Ev (fun k => jalousieref08_Same.f k s t) (decide (s = t)) := by
  unfold jalousieref08_Same.f
  by_cases h : s.length = t.length
  · refine ev_pos (by omega) ?_
    exact ev_cast (esame_l0 s t h hs s.length 0 (by omega)) (by simp)
  · refine ev_neg (by omega) ?_
    exact ev_some (by rw [decide_eq_false (fun e => h (by rw [e]))])
def FitH (s : List S44) : Prop := s.length ≤ 4398046511104 ∧ ∀ x ∈ s, Fit x.f4
theorem hsame_l0 (s t : List S44) (hl : s.length = t.length) (hs : FitH s) : ∀ (d i : Nat), i + d = s.length → Ev (fun k => jalousieref09_Same.l0 k s t (i : Int)) (decide (s.drop i = t.drop i))
  | 0, i, h => by
    refine ev_succ ?_
    simp only [jalousieref09_Same.l0]
    (repeat (first | refine ev_pos (by omega) ?_ | refine ev_neg (by omega) ?_))
    rw [List.drop_of_length_le (by omega), List.drop_of_length_le (by omega)]
    exact ev_some (by simp)
  | d + 1, i, h => by
    have h1 := hs.1
    have hx := hs.2 _ (getD_mem (l := s) (i := i) (by omega) z44)
    refine ev_succ ?_
    simp only [jalousieref09_Same.l0, rdH]
    rw [w64s i (by omega), drop_cons s i (by omega) z44, drop_cons t i (by omega) z44, decide_cons, hunk_eq]
    refine ev_pos (by omega) ?_
    refine ev_pos (by omega) ?_
    refine ev_pos (by omega) ?_
    generalize s.getD i z44 = x at hx ⊢
    generalize t.getD i z44 = y
    by_cases e0 : x.f0 = y.f0
    · refine ev_pos e0 ?_
      by_cases e1 : x.f1 = y.f1
      · refine ev_pos e1 ?_
        by_cases e2 : x.f2 = y.f2
        · refine ev_pos e2 ?_
          by_cases e3 : x.f3 = y.f3
          · refine ev_pos e3 ?_
            refine Ev.bind (esame_ev _ _ hx) ?_
            by_cases e4 : x.f4 = y.f4
            · refine ev_pos (decide_eq_true e4) ?_
              refine ev_cast (hsame_l0 s t hl hs d (i + 1) (by omega)) ?_
              rw [decide_eq_true e0, decide_eq_true e1, decide_eq_true e2, decide_eq_true e3, decide_eq_true e4]
              simp
            · refine ev_neg (by rw [decide_eq_false e4]; simp) ?_
              exact ev_some (by rw [decide_eq_false e4]; simp)
          · exact ev_neg e3 (ev_some (by rw [decide_eq_false e3]; simp))
        · exact ev_neg e2 (ev_some (by rw [decide_eq_false e2]; simp))
      · exact ev_neg e1 (ev_some (by rw [decide_eq_false e1]; simp))
    · exact ev_neg e0 (ev_some (by rw [decide_eq_false e0]; simp))
theorem hsame_ev (s t : List S44) (hs : FitH s) : Ev (fun k => jalousieref09_Same.f k s t) (decide (s = t)) := by
  unfold jalousieref09_Same.f
  by_cases h : s.length = t.length
  · refine ev_pos (by omega) ?_
    exact ev_cast (hsame_l0 s t h hs s.length 0 (by omega)) (by simp)
  · refine ev_neg (by omega) ?_
    exact ev_some (by rw [decide_eq_false (fun e => h (by rw [e]))])
/-- The lines of an edit, each one's own. -/
def one (x : S47) : List S47 := x.f1.map fun l => ⟨x.f0, [l]⟩
def single (s : List S47) : List S47 := s.flatMap one
theorem single_cons (x : S47) (s : List S47) : single (x :: s) = one x ++ single s := by simp [single]
theorem single_append (s t : List S47) : single (s ++ t) = single s ++ single t := by simp [single]
theorem single_len (s : List S47) : (single s).length = nl s := by
  induction s with
  | nil => rfl
  | cons x t ih =>
    rw [single_cons, nl_cons, List.length_append, ih]
    simp [one]
theorem single_l (s : List S47) (hn : nl s ≤ 1000000000000) (hs : s.length ≤ 4398046511104) : ∀ (d i : Nat) (a : List S47), i + d = s.length → a.length + nl (s.drop i) ≤ 1000000000000 → Ev (fun k => jalousieref09_Single.l0 k s a (i : Int)) (a ++ single (s.drop i))
  | 0, i, a, h, ha => by
    refine ev_succ ?_
    simp only [jalousieref09_Single.l0]
    (repeat (first | refine ev_pos (by omega) ?_ | refine ev_neg (by omega) ?_))
    rw [List.drop_of_length_le (by omega)]
    exact ev_some (by simp [single])
  | d + 1, i, a, h, ha => by
    rw [drop_cons s i (by omega) z47] at ha ⊢
    rw [nl_cons] at ha
    refine ev_succ ?_
    simp only [jalousieref09_Single.l0]
    refine ev_pos (by omega) ?_
    have inner : ∀ (e j : Nat) (b : List S47), j + e = (s.getD i z47).f1.length → b.length + e + nl (s.drop (i + 1)) ≤ 1000000000000 → Ev (fun k => jalousieref09_Single.l1 k s b (i : Int) (j : Int)) (b ++ (((s.getD i z47).f1.drop j).map fun l => (⟨(s.getD i z47).f0, [l]⟩ : S47)) ++ single (s.drop (i + 1))) := by
      intro e
      induction e with
      | zero =>
        intro j b hj hb
        refine ev_succ ?_
        simp only [jalousieref09_Single.l1, rdE]
        (repeat (first | refine ev_pos (by omega) ?_ | refine ev_neg (by omega) ?_))
        rw [w64s i (by omega), List.drop_of_length_le (l := (s.getD i z47).f1) (by omega)]
        refine ev_cast (single_l s hn hs d (i + 1) b (by omega) (by omega)) (by simp)
      | succ e ih =>
        intro j b hj hb
        refine ev_succ ?_
        simp only [jalousieref09_Single.l1, rdE, rdL]
        (repeat (first | refine ev_pos (by omega) ?_ | refine ev_neg (by omega) ?_))
        rw [w64s j (by omega), drop_cons (s.getD i z47).f1 j (by omega) z66]
        refine ev_cast (ih (j + 1) _ (by omega) (by rw [List.length_append]; simp; omega)) (by simp)
    refine ev_cast (inner (s.getD i z47).f1.length 0 a (by omega) (by omega)) ?_
    rw [List.drop_zero, single_cons, List.append_assoc]
    rfl
theorem single_ev (s : List S47) (hn : nl s ≤ 1000000000000) (hs : s.length ≤ 4398046511104) : Ev (fun k => jalousieref09_Single.f k s) (single s) := by
  unfold jalousieref09_Single.f
  exact ev_cast (single_l s hn hs s.length 0 [] (by omega) (by simpa using hn)) (by simp)
end Go.Proofs.Ytfnbodjmmkjlcaa.H
namespace Go.Proofs.Ytfnbodjmmkjlcaa.H
open Go.RowKit Go.Proofs.YtfnbodjmmkjlcaaW.PrintWords Go.Proofs.YtfnbodjmmkjlcaaW.PrintLast Go.Proofs.YtfnbodjmmkjlcaaW.PrintMore
set_option linter.unusedVariables false
set_option linter.unusedSimpArgs false
theorem last_rd (t : List S47) (y : S47) : rd_T47 (t ++ [y]) (((t ++ [y]).length : Int) - 1) = y := by
  have e : (((t ++ [y]).length : Int) - 1) = (t.length : Int) := by simp
  rw [e, rdE, List.getD_eq_getElem?_getD]
  simp
theorem add_nil (s : List S47) (d : Int) : script_normal.add s d [] = s := by simp [script_normal.add]
theorem add_empty (d : Int) (l : List S66) (hl : l ≠ []) : script_normal.add [] d l = [⟨d, l⟩] := by
  unfold script_normal.add
  rw [if_neg (by simpa using hl), if_neg (by simp), List.nil_append]
theorem add_ne (t : List S47) (y : S47) (d : Int) (l : List S66) (hl : l ≠ []) (h : y.f0 ≠ d) : script_normal.add (t ++ [y]) d l = t ++ [y] ++ [⟨d, l⟩] := by
  unfold script_normal.add
  rw [if_neg (by simpa using hl), last_rd, if_neg (by simp [h])]
theorem add_eq (t : List S47) (y : S47) (d : Int) (l : List S66) (hl : l ≠ []) (h : y.f0 = d) : script_normal.add (t ++ [y]) d l = t ++ [⟨d, y.f1 ++ l⟩] := by
  unfold script_normal.add
  rw [if_neg (by simpa using hl), last_rd, if_pos ⟨by simp, h⟩]
  have e : (t ++ [y]).length - 1 = t.length := by simp
  rw [e, List.set_append_right _ _ (Nat.le_refl _), Nat.sub_self]
  rfl
theorem snoc_cases {α : Type} (s : List α) : s = [] ∨ ∃ t y, s = t ++ [y] := by
  rcases List.eq_nil_or_concat s with h | ⟨t, y, h⟩
  · exact .inl h
  · exact .inr ⟨t, y, by simpa using h⟩
theorem add_add (s : List S47) (d : Int) (a b : List S66) : script_normal.add (script_normal.add s d a) d b = script_normal.add s d (a ++ b) := by
  by_cases ha : a = []
  · subst ha
    rw [add_nil, List.nil_append]
  by_cases hb : b = []
  · subst hb
    rw [add_nil, List.append_nil]
  have hab : a ++ b ≠ [] := by simp [ha]
  rcases snoc_cases s with rfl | ⟨t, y, rfl⟩
  · rw [add_empty d a ha, add_empty d _ hab]
    exact add_eq [] ⟨d, a⟩ d b hb rfl
  · by_cases h : y.f0 = d
    · rw [add_eq t y d a ha h, add_eq t _ d b hb rfl, add_eq t y d _ hab h, List.append_assoc]
    · rw [add_ne t y d a ha h, add_ne t y d _ hab h, add_eq (t ++ [y]) ⟨d, a⟩ d b hb rfl]
theorem nl_add (s : List S47) (d : Int) (l : List S66) : nl (script_normal.add s d l) = nl s + l.length := by
  by_cases hl : l = []
  · subst hl
    rw [add_nil]
    simp
  rcases snoc_cases s with rfl | ⟨t, y, rfl⟩
  · rw [add_empty d l hl]
    simp [nl]
  · by_cases h : y.f0 = d
    · rw [add_eq t y d l hl h, nl_append, nl_append, nl_cons, nl_cons]
      simp [nl]
      omega
    · rw [add_ne t y d l hl h, nl_append _ [_], nl_cons]
      simp [nl]
def adj (a b : Int) : Prop := (a = 1 ∧ (b = 2 ∨ b = 3)) ∨ (a = 2 ∧ (b = 1 ∨ b = 3)) ∨ (a = 3 ∧ b = 1)
def good (x : S47) : Prop := (x.f0 = 1 ∨ x.f0 = 2 ∨ x.f0 = 3) ∧ x.f1 ≠ []
def Nf : List S47 → Prop
  | [] => True
  | x :: t => good x ∧ (∀ y ∈ t.head?, adj x.f0 y.f0) ∧ Nf t
theorem nf_append (s t : List S47) : Nf (s ++ t) ↔ Nf s ∧ Nf t ∧ ∀ x ∈ s.getLast?, ∀ y ∈ t.head?, adj x.f0 y.f0 := by
  induction s with
  | nil => simp [Nf]
  | cons a s ih =>
    rw [List.cons_append, Nf, ih, Nf]
    cases s with
    | nil =>
      simp [Nf]
      intro _
      exact and_comm
    | cons b s =>
      rw [List.getLast?_cons_cons]
      simp only [List.cons_append, List.head?_cons]
      constructor
      · rintro ⟨h1, h2, h3, h4, h5⟩
        exact ⟨⟨h1, h2, h3⟩, h4, h5⟩
      · rintro ⟨⟨h1, h2, h3⟩, h4, h5⟩
        exact ⟨h1, h2, h3, h4, h5⟩
theorem nf_snoc (t : List S47) (y : S47) : Nf (t ++ [y]) ↔ Nf t ∧ good y ∧ ∀ x ∈ t.getLast?, adj x.f0 y.f0 := by
  rw [nf_append]
  simp [Nf]
/-- The kind of the last edit is none or one of which b may come behind. -/
theorem nf_add (s : List S47) (d : Int) (l : List S66) (hd : d = 1 ∨ d = 2 ∨ d = 3) (hs : Nf s) (ha : ∀ x ∈ s.getLast?, x.f0 = d ∨ adj x.f0 d) : Nf (script_normal.add s d l) := by
  by_cases hl : l = []
  · subst hl
    rw [add_nil]
    exact hs
  rcases snoc_cases s with rfl | ⟨t, y, rfl⟩
  · rw [add_empty d l hl]
    simp [Nf, good, hl, hd]
  · have hy := ha y (by simp)
    by_cases h : y.f0 = d
    · rw [add_eq t y d l hl h]
      rw [nf_snoc] at hs ⊢
      exact ⟨hs.1, ⟨hd, by simp [hl]⟩, fun x hx => by have := hs.2.2 x hx; rw [h] at this; exact this⟩
    · rw [add_ne t y d l hl h, nf_snoc]
      exact ⟨hs, ⟨hd, hl⟩, fun x hx => by
        simp at hx
        subst hx
        exact hy.resolve_left h⟩
theorem last_add (s : List S47) (d : Int) (l : List S66) : ∀ x ∈ (script_normal.add s d l).getLast?, (l ≠ [] ∧ x.f0 = d) ∨ (l = [] ∧ x ∈ s.getLast?) := by
  intro x hx
  by_cases hl : l = []
  · subst hl
    rw [add_nil] at hx
    exact .inr ⟨rfl, hx⟩
  refine .inl ⟨hl, ?_⟩
  rcases snoc_cases s with rfl | ⟨t, y, rfl⟩
  · rw [add_empty d l hl] at hx
    simp at hx
    rw [← hx]
  · by_cases h : y.f0 = d
    · rw [add_eq t y d l hl h] at hx
      simp at hx
      rw [← hx]
    · rw [add_ne t y d l hl h] at hx
      simp at hx
      rw [← hx]
theorem take_in {s : List S47} {w : List S66} {x : S47} (h : x.f0 = 3) : script_normal.take (s, w) x = (s, w ++ x.f1) := by
  unfold script_normal.take
  rw [if_pos h]
theorem take_out {s : List S47} {w : List S66} {x : S47} (h : x.f0 = 2) : script_normal.take (s, w) x = (script_normal.add s 2 x.f1, w) := by
  unfold script_normal.take
  rw [if_neg (by omega), if_neg (by omega), h]
theorem take_keep {s : List S47} {w : List S66} {x : S47} (h : x.f0 = 1) (hx : x.f1 ≠ []) : script_normal.take (s, w) x = (script_normal.add (script_normal.add s 3 w) 1 x.f1, []) := by
  unfold script_normal.take
  rw [if_neg (by omega), if_pos ⟨h, List.length_pos_iff.2 hx⟩, h]
theorem take_none {s : List S47} {w : List S66} {x : S47} (hx : x.f1 = []) : script_normal.take (s, w) x = (s, w) := by
  unfold script_normal.take
  split
  · rw [hx, List.append_nil]
  · rw [if_neg (by simp [hx]), hx, add_nil]
/-- A step line by line. -/
theorem take_one (q : List S47 × List S66) (x : S47) : (one x).foldl script_normal.take q = script_normal.take q x := by
  obtain ⟨s, w⟩ := q
  obtain ⟨d, l⟩ := x
  unfold one
  simp only
  rcases snoc_cases l with rfl | ⟨t, y, rfl⟩
  · rw [take_none rfl]
    rfl
  by_cases h3 : d = 3
  · subst h3
    have go : ∀ (l : List S66) (w : List S66), (l.map fun l => (⟨3, [l]⟩ : S47)).foldl script_normal.take (s, w) = (s, w ++ l) := by
      intro l
      induction l with
      | nil => intro w; simp
      | cons a l ih =>
        intro w
        rw [List.map_cons, List.foldl_cons, take_in rfl, ih]
        simp
    rw [go, take_in rfl]
  · by_cases h1 : d = 1
    · subst h1
      have go : ∀ (l : List S66) (s : List S47), (l.map fun l => (⟨1, [l]⟩ : S47)).foldl script_normal.take (s, []) = (script_normal.add s 1 l, []) := by
        intro l
        induction l with
        | nil => intro s; simp [add_nil]
        | cons a l ih =>
          intro s
          rw [List.map_cons, List.foldl_cons, take_keep rfl (by simp), add_nil, ih, add_add]
          rfl
      rw [take_keep rfl (by simp)]
      generalize hk : t ++ [y] = k
      have hk0 : k ≠ [] := by rw [← hk]; simp
      cases k with
      | nil => exact absurd rfl hk0
      | cons a k =>
        rw [List.map_cons, List.foldl_cons, take_keep rfl (by simp), go, add_add]
        rfl
    · have go : ∀ (l : List S66) (s : List S47), (l.map fun l => (⟨d, [l]⟩ : S47)).foldl script_normal.take (s, w) = (script_normal.add s d l, w) := by
        intro l
        induction l with
        | nil => intro s; simp [add_nil]
        | cons a l ih =>
          intro s
          have e : script_normal.take (s, w) (⟨d, [a]⟩ : S47) = (script_normal.add s d [a], w) := by
            unfold script_normal.take
            rw [if_neg h3, if_neg (by simp [h1])]
          rw [List.map_cons, List.foldl_cons, e, ih, add_add]
          rfl
      rw [go]
      unfold script_normal.take
      rw [if_neg h3, if_neg (by simp [h1])]
theorem fold_single (l : List S47) : ∀ q, (single l).foldl script_normal.take q = l.foldl script_normal.take q := by
  induction l with
  | nil => intro q; rfl
  | cons x t ih =>
    intro q
    rw [single_cons, List.foldl_append, take_one, ih, List.foldl_cons]
/-- THE NORMAL FORM is told by the lines. -/
theorem p_single (l : List S47) : script_normal.p (single l) = script_normal.p l := by
  unfold script_normal.p script_normal.all
  rw [fold_single]
theorem fold_nf (l : List S47) (hl : allok l = true) : ∀ (s : List S47) (w : List S66), Nf s → (∀ x ∈ s.getLast?, x.f0 ≠ 3) → Nf (l.foldl script_normal.take (s, w)).1 ∧ ∀ x ∈ (l.foldl script_normal.take (s, w)).1.getLast?, x.f0 ≠ 3 := by
  induction l with
  | nil => exact fun s w h1 h2 => ⟨h1, h2⟩
  | cons x t ih =>
    intro s w h1 h2
    rw [allok_cons, Bool.and_eq_true] at hl
    have hx := of_decide_eq_true hl.1
    have h12 : ∀ y ∈ s.getLast?, y.f0 = 1 ∨ y.f0 = 2 := by
      intro y hy
      have h3 := h2 y hy
      have hg : good y := by
        rcases snoc_cases s with rfl | ⟨u, v, rfl⟩
        · simp at hy
        · simp at hy
          subst hy
          exact ((nf_snoc u v).1 h1).2.1
      rcases hg.1 with h | h | h
      · exact .inl h
      · exact .inr h
      · exact absurd h h3
    rw [List.foldl_cons]
    by_cases hx0 : x.f1 = []
    · rw [take_none hx0]
      exact ih hl.2 s w h1 h2
    by_cases a3 : x.f0 = 3
    · rw [take_in a3]
      exact ih hl.2 s _ h1 h2
    by_cases a2 : x.f0 = 2
    · rw [take_out a2]
      refine ih hl.2 _ w (nf_add s 2 _ (by omega) h1 fun y hy => ?_) fun y hy => ?_
      · rcases h12 y hy with h | h
        · exact .inr (.inl ⟨h, by omega⟩)
        · exact .inl h
      · rcases last_add _ _ _ y hy with h | h
        · omega
        · exact absurd h.1 hx0
    · have a1 : x.f0 = 1 := by omega
      rw [take_keep a1 hx0]
      have hf : Nf (script_normal.add s 3 w) := nf_add s 3 w (by omega) h1 fun y hy => .inr (by
        rcases h12 y hy with h | h
        · exact .inl ⟨h, by omega⟩
        · exact .inr (.inl ⟨h, by omega⟩))
      refine ih hl.2 _ [] (nf_add _ 1 _ (by omega) hf fun y hy => ?_) fun y hy => ?_
      · rcases last_add _ _ _ y hy with h | h
        · exact .inr (.inr (.inr ⟨h.2, rfl⟩))
        · rcases h12 y h.2 with h | h
          · exact .inl h
          · exact .inr (.inr (.inl ⟨h, by omega⟩))
      · rcases last_add _ _ _ y hy with h | h
        · omega
        · exact absurd h.1 hx0
theorem p_nf (l : List S47) (hl : allok l = true) : Nf (script_normal.p l) := by
  unfold script_normal.p script_normal.all
  obtain ⟨h1, h2⟩ := fold_nf l hl [] [] trivial (by simp)
  refine nf_add _ 3 _ (by omega) h1 fun y hy => .inr ?_
  have h3 := h2 y hy
  have hg : good y := by
    generalize (l.foldl script_normal.take ([], [])).1 = s at hy h1
    rcases snoc_cases s with rfl | ⟨u, v, rfl⟩
    · simp at hy
    · simp at hy
      subst hy
      exact ((nf_snoc u v).1 h1).2.1
  rcases hg.1 with h | h | h
  · exact .inl ⟨h, by omega⟩
  · exact .inr (.inl ⟨h, by omega⟩)
  · exact absurd h h3
def wl (w : List S66) : List S47 := if w = [] then [] else [⟨3, w⟩]
theorem add_wl (s r : List S47) (w : List S66) (h : Nf (s ++ wl w ++ r)) : script_normal.add s 3 w = s ++ wl w := by
  unfold wl at h ⊢
  by_cases hw : w = []
  · subst hw
    rw [if_pos rfl, add_nil, List.append_nil]
  · rw [if_neg hw] at h ⊢
    rcases snoc_cases s with rfl | ⟨t, y, rfl⟩
    · rw [add_empty 3 w hw]
      rfl
    · have h1 := ((nf_append _ _).1 h).1
      have h2 := ((nf_append _ _).1 h1).2.2 y (by simp) ⟨3, w⟩ (by simp)
      rw [add_ne t y 3 w hw (by simp [adj] at h2; omega)]
theorem add_app (s r : List S47) (x : S47) (h : Nf (s ++ x :: r)) : script_normal.add s x.f0 x.f1 = s ++ [x] := by
  have hx : good x := ((nf_append _ _).1 h).2.1.1
  rcases snoc_cases s with rfl | ⟨t, y, rfl⟩
  · rw [add_empty _ _ hx.2]
    rfl
  · have h2 := ((nf_append _ _).1 h).2.2 y (by simp) x (by simp)
    rw [add_ne t y _ _ hx.2 (by simp [adj] at h2; omega)]
theorem fold_id (l : List S47) : ∀ (s : List S47) (w : List S66), Nf (s ++ wl w ++ l) → script_normal.add (l.foldl script_normal.take (s, w)).1 3 (l.foldl script_normal.take (s, w)).2 = s ++ wl w ++ l := by
  induction l with
  | nil =>
    intro s w h
    rw [List.append_nil]
    exact add_wl s [] w h
  | cons x t ih =>
    intro s w h
    have hx : good x := ((nf_append _ _).1 h).2.1.1
    have hlast : w ≠ [] → x.f0 = 1 := by
      intro hw
      unfold wl at h
      rw [if_neg hw] at h
      have h2 := ((nf_append _ _).1 h).2.2 ⟨3, w⟩ (by simp) x (by simp)
      simp [adj] at h2
      exact h2
    rw [List.foldl_cons]
    rcases hx.1 with a | a | a
    · rw [take_keep a hx.2, add_wl s _ w h]
      have e := add_app (s ++ wl w) t x h
      rw [a] at e
      rw [e]
      have h' : Nf (s ++ wl w ++ [x] ++ wl [] ++ t) := by simpa [wl] using h
      rw [ih _ [] h']
      simp [wl]
    · have hw : w = [] := Classical.byContradiction fun hw => by have := hlast hw; omega
      subst hw
      rw [take_out a]
      have h0 : Nf (s ++ x :: t) := by simpa [wl] using h
      have e := add_app s t x h0
      rw [a] at e
      rw [e]
      have h' : Nf (s ++ [x] ++ wl [] ++ t) := by simpa [wl] using h
      rw [ih _ [] h']
      simp [wl]
    · have hw : w = [] := Classical.byContradiction fun hw => by have := hlast hw; omega
      subst hw
      rw [take_in a, List.nil_append]
      have ex : wl x.f1 = [x] := by
        unfold wl
        rw [if_neg hx.2, ← a]
      have h' : Nf (s ++ wl x.f1 ++ t) := by
        rw [ex]
        simpa [wl] using h
      rw [ih _ _ h', ex]
      simp [wl]
/-- A normal form is its own. -/
theorem p_id (n : List S47) (h : Nf n) : script_normal.p n = n := by
  have := fold_id n [] [] (by simpa [wl] using h)
  unfold script_normal.p script_normal.all
  simpa [wl] using this
theorem nf_allok : ∀ (n : List S47), Nf n → allok n = true
  | [], _ => rfl
  | x :: t, h => by
    rw [allok_cons, nf_allok t h.2.2, decide_eq_true (by have := h.1.1; omega)]
    rfl
theorem fold_nl (l : List S47) : ∀ (s : List S47) (w : List S66), nl (l.foldl script_normal.take (s, w)).1 + (l.foldl script_normal.take (s, w)).2.length = nl s + w.length + nl l := by
  induction l with
  | nil => intro s w; simp [nl]
  | cons x t ih =>
    intro s w
    rw [List.foldl_cons, nl_cons]
    by_cases hx0 : x.f1 = []
    · rw [take_none hx0, hx0, ih]
      simp
    by_cases a3 : x.f0 = 3
    · rw [take_in a3, ih]
      simp
      omega
    by_cases a1 : x.f0 = 1
    · rw [take_keep a1 hx0, ih, nl_add, nl_add]
      simp
      omega
    · have e : script_normal.take (s, w) x = (script_normal.add s x.f0 x.f1, w) := by
        unfold script_normal.take
        rw [if_neg a3, if_neg (by simp [a1])]
      rw [e, ih, nl_add]
      omega
theorem p_nl (l : List S47) : nl (script_normal.p l) = nl l := by
  unfold script_normal.p script_normal.all
  have := fold_nl l [] []
  rw [nl_add, this]
  simp [nl]
theorem nf_len : ∀ (n : List S47), Nf n → n.length ≤ nl n
  | [], _ => Nat.le_refl _
  | x :: t, h => by
    have := nf_len t h.2.2
    have := List.length_pos_iff.2 h.1.2
    rw [nl_cons, List.length_cons]
    omega
theorem lay_add (s : List S47) (d : Int) (l : List S66) (h : ∀ x ∈ s.getLast?, x.f0 ≠ d) : script_normal.add s d l = jalousieref08_lay.p s d l := by
  unfold jalousieref08_lay.p
  by_cases hl : l = []
  · subst hl
    rw [add_nil]
    rfl
  rw [if_neg (by simpa using hl)]
  rcases snoc_cases s with rfl | ⟨t, y, rfl⟩
  · rw [add_empty d l hl]
    rfl
  · rw [add_ne t y d l hl (h y (by simp))]
theorem lay_nil (s : List S47) (d : Int) : jalousieref08_lay.p s d [] = s := rfl
theorem lay_last (s : List S47) (d : Int) (l : List S66) : ∀ x ∈ (jalousieref08_lay.p s d l).getLast?, (l ≠ [] ∧ x.f0 = d) ∨ (l = [] ∧ x ∈ s.getLast?) := by
  intro x hx
  unfold jalousieref08_lay.p at hx
  by_cases hl : l = []
  · subst hl
    exact .inr ⟨rfl, hx⟩
  · rw [if_neg (by simpa using hl)] at hx
    simp at hx
    exact .inl ⟨hl, by rw [← hx]⟩
theorem lay_more (s : List S47) (d : Int) (l m : List S66) (hl : l ≠ []) : script_normal.add (jalousieref08_lay.p s d l) d m = jalousieref08_lay.p s d (l ++ m) := by
  unfold jalousieref08_lay.p
  by_cases hm : m = []
  · subst hm
    rw [add_nil, List.append_nil]
  rw [if_neg (by simpa using hl), if_neg (by simp [hl])]
  exact add_eq s ⟨d, l⟩ d m hm rfl
/-- What the document's state says of the program's. -/
structure Rel (q : jalousieref08_Normal.Q) (s : List S47) (w : List S66) : Prop where
  hs : s = jalousieref08_lay.p (jalousieref08_lay.p q.out 1 q.keep) 2 q.gone
  hw : w = q.made
  hk : q.out ≠ [] → q.keep ≠ []
  ho : ∀ x ∈ q.out.getLast?, x.f0 = 2 ∨ x.f0 = 3
theorem rel_last {q : jalousieref08_Normal.Q} {s : List S47} {w : List S66} (h : Rel q s w) : ∀ x ∈ s.getLast?, (q.gone ≠ [] ∧ x.f0 = 2) ∨ (q.gone = [] ∧ q.keep ≠ [] ∧ x.f0 = 1) := by
  intro x hx
  rw [h.hs] at hx
  rcases lay_last _ _ _ x hx with h1 | ⟨h1, h2⟩
  · exact .inl h1
  · rcases lay_last _ _ _ x h2 with h3 | ⟨h3, h4⟩
    · exact .inr ⟨h1, h3⟩
    · have : q.out ≠ [] := by
        intro e
        rw [e] at h4
        simp at h4
      exact absurd h3 (h.hk this)
theorem rel_fin {q : jalousieref08_Normal.Q} {s : List S47} {w : List S66} (h : Rel q s w) : script_normal.add s 3 w = jalousieref08_Normal.fin q := by
  unfold jalousieref08_Normal.fin
  rw [lay_add s 3 w (fun x hx => by rcases rel_last h x hx with h1 | h1 <;> omega), h.hs, h.hw]
theorem rel_step {q : jalousieref08_Normal.Q} {s : List S47} {w : List S66} (x : S47) (hx : 1 ≤ x.f0 ∧ x.f0 ≤ 3) (h : Rel q s w) : Rel (jalousieref08_Normal.add (jalousieref08_Normal.pre q x) x) (script_normal.take (s, w) x).1 (script_normal.take (s, w) x).2 := by
  by_cases hx0 : x.f1 = []
  · rw [take_none hx0]
    unfold jalousieref08_Normal.pre
    rw [if_neg (by simp [hx0])]
    unfold jalousieref08_Normal.add
    rw [hx0]
    simp only [List.append_nil]
    repeat' split
    all_goals exact ⟨h.hs, h.hw, h.hk, h.ho⟩
  by_cases a3 : x.f0 = 3
  · rw [take_in a3]
    unfold jalousieref08_Normal.pre
    rw [if_neg (by omega)]
    unfold jalousieref08_Normal.add
    rw [if_neg (by omega), if_neg (by omega), if_pos a3]
    exact ⟨h.hs, by rw [h.hw], h.hk, h.ho⟩
  by_cases a2 : x.f0 = 2
  · rw [take_out a2]
    unfold jalousieref08_Normal.pre
    rw [if_neg (by omega)]
    unfold jalousieref08_Normal.add
    rw [if_neg (by omega), if_pos a2]
    refine ⟨?_, h.hw, h.hk, h.ho⟩
    show script_normal.add s 2 x.f1 = _
    by_cases hg : q.gone = []
    · rw [lay_add s 2 _ (fun y hy => by rcases rel_last h y hy with h1 | h1; exact absurd hg h1.1; omega), h.hs, hg]
      rfl
    · rw [h.hs, lay_more _ _ _ _ hg]
  · have a1 : x.f0 = 1 := by omega
    rw [take_keep a1 hx0]
    unfold jalousieref08_Normal.pre
    by_cases hgm : 0 < q.gone.length + q.made.length
    · rw [if_pos ⟨a1, List.length_pos_iff.2 hx0, hgm⟩]
      unfold jalousieref08_Normal.add
      rw [if_pos a1]
      have hlast : ∀ y ∈ (jalousieref08_Normal.fin q).getLast?, y.f0 = 2 ∨ y.f0 = 3 := by
        intro y hy
        unfold jalousieref08_Normal.fin at hy
        rcases lay_last _ _ _ y hy with h1 | ⟨h1, h2⟩
        · exact .inr h1.2
        · rcases lay_last _ _ _ y h2 with h3 | ⟨h3, h4⟩
          · exact .inl h3.2
          · rw [h1, h3] at hgm
            simp at hgm
      refine ⟨?_, rfl, fun _ => by simpa using hx0, hlast⟩
      show script_normal.add (script_normal.add s 3 w) 1 x.f1 = _
      rw [rel_fin h, lay_add _ 1 _ (fun y hy => by rcases hlast y hy with h1 | h1 <;> omega)]
      rfl
    · rw [if_neg (by omega)]
      unfold jalousieref08_Normal.add
      rw [if_pos a1]
      have hg : q.gone = [] := List.eq_nil_of_length_eq_zero (by omega)
      have hm : q.made = [] := List.eq_nil_of_length_eq_zero (by omega)
      refine ⟨?_, hm.symm, fun _ => by simp [hx0], h.ho⟩
      show script_normal.add (script_normal.add s 3 w) 1 x.f1 = _
      rw [h.hw, hm, add_nil, h.hs, hg, lay_nil, lay_nil]
      show script_normal.add (jalousieref08_lay.p q.out 1 q.keep) 1 x.f1 = jalousieref08_lay.p q.out 1 (q.keep ++ x.f1)
      by_cases hk : q.keep = []
      · have ho : q.out = [] := Classical.byContradiction fun e => h.hk e hk
        rw [hk, ho, lay_nil, List.nil_append, lay_add [] 1 _ (by simp)]
      · exact lay_more _ _ _ _ hk
theorem rel_fold (l : List S47) (hl : allok l = true) : ∀ (q : jalousieref08_Normal.Q) (s : List S47) (w : List S66), Rel q s w → Rel (l.foldl (fun q x => jalousieref08_Normal.add (jalousieref08_Normal.pre q x) x) q) (l.foldl script_normal.take (s, w)).1 (l.foldl script_normal.take (s, w)).2 := by
  induction l with
  | nil => exact fun _ _ _ h => h
  | cons x t ih =>
    intro q s w h
    rw [allok_cons, Bool.and_eq_true] at hl
    rw [List.foldl_cons, List.foldl_cons]
    exact ih hl.2 _ _ _ (rel_step x (of_decide_eq_true hl.1) h)
/-- THE PROGRAM'S NORMAL FORM IS THE DOCUMENT'S. -/
theorem fin_p (l : List S47) (hl : allok l = true) : jalousieref08_Normal.fin (jalousieref08_Normal.all l) = script_normal.p l := by
  unfold script_normal.p script_normal.all jalousieref08_Normal.all
  exact (rel_fin (rel_fold l hl ⟨[], [], [], []⟩ [] [] ⟨rfl, rfl, fun h => absurd rfl h, by simp⟩)).symm
/-- The normal form, and what is wrong. -/
def nrm (s : List S47) : List S47 × Int := if chk s = 0 then (script_normal.p s, 0) else ([], chk s)
theorem nrm_ev (s : List S47) (hf : Fit s) : Ev (fun k => script_Normal.f k s) (nrm s) := by
  unfold script_Normal.f nrm
  refine Ev.bind (chk_ev s hf) ?_
  by_cases h : chk s = 0
  · refine ev_pos h ?_
    rw [if_pos h]
    obtain ⟨h1, h2, h3⟩ := chk_zero.1 h
    exact ev_bind (a := script_normal.p s) (by unfold script_normal.f; rw [if_pos ⟨by omega, by rw [nl_lines]; omega⟩]) (ev_some rfl)
  · refine ev_neg h ?_
    rw [if_neg h]
    exact ev_some rfl
theorem rnrm_ev (s : List S47) (hf : Fit s) : Ev (fun k => jalousieref08_Normal.f k s) (nrm s) := by
  unfold jalousieref08_Normal.f nrm
  refine Ev.bind (rchk_ev s hf) ?_
  by_cases h : chk s = 0
  · refine ev_pos h ?_
    rw [if_pos h]
    obtain ⟨h1, h2, h3⟩ := chk_zero.1 h
    refine ev_pos ⟨by omega, ?_⟩ (ev_some ?_)
    · have : (s.map (fun e => e.f1.length)).sum = nl s := rfl
      omega
    · rw [fin_p s h3]
  · refine ev_neg h ?_
    rw [if_neg h]
    exact ev_some rfl
end Go.Proofs.Ytfnbodjmmkjlcaa.H
namespace Go.Proofs.Ytfnbodjmmkjlcaa.H
open Go.RowKit Go.Proofs.YtfnbodjmmkjlcaaW.PrintWords Go.Proofs.YtfnbodjmmkjlcaaW.PrintLast Go.Proofs.YtfnbodjmmkjlcaaW.PrintMore
set_option linter.unusedVariables false
set_option linter.unusedSimpArgs false
/-- A hunk of edits, by where it begins. -/
def mkH (a0 b0 : Nat) (now : List S47) : S44 := ⟨a0, ((side now 3).length : Int), b0, ((side now 2).length : Int), now⟩
/-- How many lines of each side an edit goes past. -/
def ad3 (x : S47) : Nat := if x.f0 = 3 then 0 else x.f1.length
def ad2 (x : S47) : Nat := if x.f0 = 2 then 0 else x.f1.length
/-- THE HUNKS of what is left of a normal form: the hunk that is open, the lines that stay ahead, and how many lines were gone past. -/
def bld (c : Nat) : List S47 → Nat → Nat → Option (Nat × Nat × List S47) → List S66 → List S44
  | [], _, _, none, _ => []
  | [], _, _, some (a0, b0, now), _ => [mkH a0 b0 now]
  | x :: xs, a, b, none, ah => if x.f0 = 1 then bld c xs (a + ad3 x) (b + ad2 x) none x.f1 else bld c xs (a + ad3 x) (b + ad2 x) (some (a - min c ah.length, b - min c ah.length, hunk_Build.lead c ah ++ [x])) []
  | x :: xs, a, b, some (a0, b0, now), ah =>
    if x.f0 = 1 then (if xs.isEmpty = true ∨ 2 * c < x.f1.length then mkH a0 b0 (now ++ hunk_Build.trail c x.f1) :: bld c xs (a + ad3 x) (b + ad2 x) none x.f1 else bld c xs (a + ad3 x) (b + ad2 x) (some (a0, b0, now ++ [x])) ah)
    else bld c xs (a + ad3 x) (b + ad2 x) (some (a0, b0, now ++ [x])) ah
/-- Without their places. -/
def zer (l : List S44) : List S44 := l.map fun h => ⟨0, h.f1, 0, h.f3, h.f4⟩
def tl1 (l : List S44) : List S44 := match l with
  | [] => []
  | h :: t => h :: zer t
theorem lead_nl (c : Nat) (ah : List S66) : nl (hunk_Build.lead c ah) = min c ah.length := by
  unfold hunk_Build.lead
  split
  · simp [nl]
    omega
  · simp [nl]
    omega
theorem lead_good (c : Nat) (ah : List S66) : ∀ x ∈ hunk_Build.lead c ah, good x := by
  intro x hx
  unfold hunk_Build.lead at hx
  split at hx
  · simp at hx
    subst hx
    refine ⟨.inl rfl, ?_⟩
    intro e
    have := congrArg List.length e
    simp at this
    omega
  · simp at hx
theorem trail_nl (c : Nat) (l : List S66) : nl (hunk_Build.trail c l) = min c l.length := by
  unfold hunk_Build.trail
  split
  · simp [nl]
  · rw [nl_nil]
    omega
theorem trail_good (c : Nat) (l : List S66) : ∀ x ∈ hunk_Build.trail c l, good x := by
  intro x hx
  unfold hunk_Build.trail at hx
  split at hx
  · simp at hx
    subst hx
    refine ⟨.inl rfl, ?_⟩
    intro e
    have h2 : (l.take c).length = 0 := by
      have e' : l.take c = [] := by simpa using e
      rw [e']
      rfl
    rw [List.length_take] at h2
    omega
  · simp at hx
theorem good_len : ∀ (s : List S47), (∀ x ∈ s, good x) → s.length ≤ nl s
  | [], _ => Nat.le_refl _
  | x :: t, h => by
    have := good_len t fun y hy => h y (List.mem_cons_of_mem _ hy)
    have := List.length_pos_iff.2 (h x (by simp)).2
    rw [nl_cons, List.length_cons]
    omega
theorem good_allok : ∀ (s : List S47), (∀ x ∈ s, good x) → allok s = true
  | [], _ => rfl
  | x :: t, h => by
    rw [allok_cons, good_allok t fun y hy => h y (List.mem_cons_of_mem _ hy), decide_eq_true (by have := (h x (by simp)).1; omega)]
    rfl
theorem good_fit (s : List S47) (h : nl s ≤ 1000000) (hg : ∀ x ∈ s, good x) : Fit s := by
  have hl := good_len s hg
  refine ⟨by omega, fun x hx => ?_⟩
  have : x.f1.length ≤ nl s := by
    clear h hg hl
    induction s with
    | nil => cases hx
    | cons y t ih =>
      rw [nl_cons]
      rcases List.mem_cons.1 hx with rfl | hx
      · omega
      · have := ih hx
        omega
  omega
theorem good_chk (s : List S47) (h : nl s ≤ 800) (hg : ∀ x ∈ s, good x) : chk s = 0 := chk_zero.2 ⟨Nat.le_trans (good_len s hg) h, h, good_allok s hg⟩
theorem nf_good : ∀ (n : List S47), Nf n → ∀ x ∈ n, good x
  | [], _, x, hx => by cases hx
  | y :: t, h, x, hx => by
    rcases List.mem_cons.1 hx with rfl | hx
    · exact h.1
    · exact nf_good t h.2.2 x hx
theorem hk_ev (now : List S47) (h : nl now ≤ 800) (hg : ∀ x ∈ now, good x) : Ev (fun k => hunk_Build.hk k now) ⟨0, ((side now 3).length : Int), 0, ((side now 2).length : Int), now⟩ := by
  unfold hunk_Build.hk
  refine Ev.bind (sides_ev now (good_fit now (by omega) hg)) (ev_some ?_)
  unfold sds
  rw [if_pos (good_chk now h hg)]
/-- What the builder's state is. -/
def curSt (out : List S44) (cur : Option (Nat × Nat × List S47)) (ah : List S66) : hunk_Build.St := match cur with
  | none => ⟨out, [], ah⟩
  | some (_, _, now) => ⟨out, now, ah⟩
def curOk (cur : Option (Nat × Nat × List S47)) (ah : List S66) (n : List S47) : Prop := match cur with
  | none => ah.length + nl n ≤ 800
  | some (_, _, now) => now ≠ [] ∧ nl now + nl n ≤ 800 ∧ ∀ x ∈ now, good x
theorem build_ev (c : Nat) : ∀ (n : List S47) (a b : Nat) (cur : Option (Nat × Nat × List S47)) (ah : List S66) (out : List S44), (∀ x ∈ n, good x) → curOk cur ah n → Ev (fun k => (hunk_Build.allp k c n (curSt out cur ah)).bind (hunk_Build.fin k)) (out ++ zer (bld c n a b cur ah))
  | [], a, b, none, ah, out, hg, hc => by
    simp only [hunk_Build.allp, Option.bind_some]
    unfold hunk_Build.fin curSt
    refine ev_neg (by simp) (ev_some ?_)
    simp [bld, zer]
  | [], a, b, some (a0, b0, now), ah, out, hg, hc => by
    obtain ⟨h0, h1, h2⟩ := hc
    simp only [hunk_Build.allp, Option.bind_some]
    unfold hunk_Build.fin curSt
    refine ev_pos (List.length_pos_iff.2 h0) ?_
    refine Ev.bind (hk_ev now (by rw [nl_nil] at h1; omega) h2) (ev_some ?_)
    simp [bld, zer, mkH]
  | x :: xs, a, b, none, ah, out, hg, hc => by
    have hc' : ah.length + nl (x :: xs) ≤ 800 := hc
    rw [nl_cons] at hc'
    have hgx := hg x (by simp)
    have hgs : ∀ y ∈ xs, good y := fun y hy => hg y (List.mem_cons_of_mem _ hy)
    simp only [hunk_Build.allp, Option.bind_assoc, bld]
    unfold hunk_Build.takep curSt
    by_cases h1 : x.f0 = 1
    · simp only [if_pos h1]
      simp only [List.length_nil, if_true, Option.bind_some]
      exact build_ev c xs _ _ none x.f1 out hgs (by show _ ≤ _; omega)
    · simp only [if_neg h1]
      simp only [List.length_nil, if_true, Option.bind_some, List.nil_append]
      refine build_ev c xs _ _ (some (a - min c ah.length, b - min c ah.length, hunk_Build.lead c ah ++ [x])) [] out hgs ⟨by simp, ?_, ?_⟩
      · rw [nl_append, lead_nl, nl_cons, nl_nil]
        omega
      · intro y hy
        rcases List.mem_append.1 hy with hy | hy
        · exact lead_good c ah y hy
        · simp at hy
          subst hy
          exact hgx
  | x :: xs, a, b, some (a0, b0, now), ah, out, hg, hc => by
    obtain ⟨h0, h1', h2⟩ := hc
    rw [nl_cons] at h1'
    have hgx := hg x (by simp)
    have hgs : ∀ y ∈ xs, good y := fun y hy => hg y (List.mem_cons_of_mem _ hy)
    have h0' : ¬ now.length = 0 := fun e => h0 (List.eq_nil_of_length_eq_zero e)
    have hgx' : ∀ y ∈ now ++ [x], good y := by
      intro y hy
      rcases List.mem_append.1 hy with hy | hy
      · exact h2 y hy
      · simp at hy
        subst hy
        exact hgx
    have hnx : nl (now ++ [x]) + nl xs ≤ 800 := by
      rw [nl_append, nl_cons, nl_nil]
      omega
    simp only [hunk_Build.allp, Option.bind_assoc, bld]
    unfold hunk_Build.takep curSt
    simp only
    by_cases h1 : x.f0 = 1
    · simp only [if_pos h1, if_neg h0']
      by_cases hl : xs.isEmpty = true ∨ 2 * c < x.f1.length
      · simp only [if_pos hl]
        simp only [Option.bind_assoc]
        have htg : ∀ y ∈ now ++ hunk_Build.trail c x.f1, good y := by
          intro y hy
          rcases List.mem_append.1 hy with hy | hy
          · exact h2 y hy
          · exact trail_good c _ y hy
        refine Ev.bind (hk_ev (now ++ hunk_Build.trail c x.f1) (by rw [nl_append, trail_nl]; omega) htg) ?_
        simp only [Option.bind_some]
        refine ev_cast (build_ev c xs (a + ad3 x) (b + ad2 x) none x.f1 _ hgs (by show _ ≤ _; omega)) ?_
        simp [zer, mkH]
      · simp only [if_neg hl]
        simp only [Option.bind_some]
        exact build_ev c xs _ _ (some (a0, b0, now ++ [x])) ah out hgs ⟨by simp, hnx, hgx'⟩
    · simp only [if_neg h1, if_neg h0']
      simp only [Option.bind_some]
      exact build_ev c xs _ _ (some (a0, b0, now ++ [x])) ah out hgs ⟨by simp, hnx, hgx'⟩
/-- The hunk that is open comes first. -/
theorem bld_head (c : Nat) : ∀ (n : List S47) (a b a0 b0 : Nat) (now : List S47) (ah : List S66), ∃ t rest, bld c n a b (some (a0, b0, now)) ah = mkH a0 b0 (now ++ t) :: rest
  | [], a, b, a0, b0, now, ah => ⟨[], [], by simp [bld]⟩
  | x :: xs, a, b, a0, b0, now, ah => by
    simp only [bld]
    split
    · split
      · exact ⟨_, _, rfl⟩
      · obtain ⟨t, r, e⟩ := bld_head c xs (a + ad3 x) (b + ad2 x) a0 b0 (now ++ [x]) ah
        exact ⟨[x] ++ t, r, by rw [e, List.append_assoc]⟩
    · obtain ⟨t, r, e⟩ := bld_head c xs (a + ad3 x) (b + ad2 x) a0 b0 (now ++ [x]) ah
      exact ⟨[x] ++ t, r, by rw [e, List.append_assoc]⟩
theorem ld_head (c : Nat) (ah : List S66) (x : S47) (h1 : x.f0 ≠ 1) (t : List S47) : ∃ e r, hunk_Build.lead c ah ++ [x] ++ t = e :: r ∧ hunk_place.ld e = min c ah.length := by
  unfold hunk_Build.lead
  by_cases h : 0 < min c ah.length
  · rw [if_pos h]
    refine ⟨_, _, rfl, ?_⟩
    unfold hunk_place.ld
    rw [if_pos rfl]
    simp
    omega
  · rw [if_neg h]
    refine ⟨_, _, rfl, ?_⟩
    unfold hunk_place.ld
    rw [if_neg h1]
    omega
def fresh (cur : Option (Nat × Nat × List S47)) : Bool := cur.isNone
def cut0 (cur : Option (Nat × Nat × List S47)) (l : List S44) : List S44 := match cur with
  | none => zer l
  | some _ => tl1 l
def nth (cur : Option (Nat × Nat × List S47)) (i : Nat) : Nat := match cur with
  | none => i
  | some _ => i + 1
theorem place_ev (c : Nat) : ∀ (n : List S47) (k a b : Nat) (cur : Option (Nat × Nat × List S47)) (ah : List S66) (pre : List S44), (∀ x ∈ n, good x) → (cur = none → ah.length ≤ a ∧ ah.length ≤ b) → (cur ≠ none → 0 < k) →
    ∃ q, hunk_place.p c n k ⟨a, b, nth cur pre.length, fresh cur, pre ++ cut0 cur (bld c n a b cur ah)⟩ = some q ∧ q.l = pre ++ bld c n a b cur ah
  | [], k, a, b, none, ah, pre, hg, h1, h2 => ⟨_, rfl, by simp [bld, cut0, zer]⟩
  | [], k, a, b, some (a0, b0, now), ah, pre, hg, h1, h2 => ⟨_, rfl, by simp [bld, cut0, tl1, zer]⟩
  | x :: xs, k, a, b, none, ah, pre, hg, h1, h2 => by
    have hgx := hg x (by simp)
    have hgs : ∀ y ∈ xs, good y := fun y hy => hg y (List.mem_cons_of_mem _ hy)
    obtain ⟨ha, hb⟩ := h1 rfl
    simp only [hunk_place.p]
    unfold hunk_place.step
    by_cases e1 : x.f0 = 1
    · rw [if_pos e1]
      simp only [Option.bind_some, bld]
      rw [if_pos e1]
      have hfr : (if 0 < k ∧ 2 * c < x.f1.length then true else fresh none) = fresh none := by
        split <;> rfl
      rw [hfr]
      have e3 : ad3 x = x.f1.length := by unfold ad3; rw [if_neg (by omega)]
      have e2 : ad2 x = x.f1.length := by unfold ad2; rw [if_neg (by omega)]
      rw [e3, e2]
      exact place_ev c xs (k + 1) _ _ none x.f1 pre hgs (fun _ => ⟨by omega, by omega⟩) (fun h => absurd rfl h)
    · rw [if_neg e1, if_pos (by have := hgx.1; omega)]
      simp only [bld]
      rw [if_neg e1, if_pos (show fresh none = true from rfl)]
      obtain ⟨t, r, e⟩ := bld_head c xs (a + ad3 x) (b + ad2 x) (a - min c ah.length) (b - min c ah.length) (hunk_Build.lead c ah ++ [x]) []
      obtain ⟨y, s, ey, el⟩ := ld_head c ah x e1 t
      have hset : hunk_place.setp ⟨a, b, nth none pre.length, fresh none, pre ++ cut0 none (bld c xs (a + ad3 x) (b + ad2 x) (some (a - min c ah.length, b - min c ah.length, hunk_Build.lead c ah ++ [x])) [])⟩ = some (pre ++ cut0 (some (a - min c ah.length, b - min c ah.length, hunk_Build.lead c ah ++ [x])) (bld c xs (a + ad3 x) (b + ad2 x) (some (a - min c ah.length, b - min c ah.length, hunk_Build.lead c ah ++ [x])) [])) := by
        rw [e]
        unfold hunk_place.setp cut0 nth zer tl1 zer
        simp only [List.map_cons]
        have hg : (pre ++ (⟨0, (mkH (a - min c ah.length) (b - min c ah.length) (hunk_Build.lead c ah ++ [x] ++ t)).f1, 0, (mkH (a - min c ah.length) (b - min c ah.length) (hunk_Build.lead c ah ++ [x] ++ t)).f3, (mkH (a - min c ah.length) (b - min c ah.length) (hunk_Build.lead c ah ++ [x] ++ t)).f4⟩ :: List.map (fun h => (⟨0, h.f1, 0, h.f3, h.f4⟩ : S44)) r)).getD pre.length z44 = ⟨0, ((side (hunk_Build.lead c ah ++ [x] ++ t) 3).length : Int), 0, ((side (hunk_Build.lead c ah ++ [x] ++ t) 2).length : Int), hunk_Build.lead c ah ++ [x] ++ t⟩ := by
          rw [List.getD_eq_getElem?_getD, List.getElem?_append_right (Nat.le_refl _), Nat.sub_self]
          rfl
        rw [if_pos (by simp), hg]
        simp only
        split
        · rename_i e0
          rw [ey] at e0
          cases e0
        · rename_i z0 zs e0
          rw [ey] at e0
          injection e0 with e1' e2'
          subst e1'
          rw [el]
          congr 1
          rw [List.set_append_right _ _ (Nat.le_refl _), Nat.sub_self, List.set_cons_zero]
          congr 2
          unfold mkH
          congr 1 <;> omega
      rw [hset]
      simp only [Option.bind_some]
      have ex3 : (if x.f0 = 2 then a + x.f1.length else a) = a + ad3 x := by
        unfold ad3
        have := hgx.1
        split <;> split <;> omega
      have ex2 : (if x.f0 = 2 then b else b + x.f1.length) = b + ad2 x := by
        unfold ad2
        split <;> omega
      rw [ex3, ex2]
      exact place_ev c xs (k + 1) _ _ (some (a - min c ah.length, b - min c ah.length, hunk_Build.lead c ah ++ [x])) [] pre hgs (fun h => by cases h) (fun _ => by omega)
  | x :: xs, k, a, b, some (a0, b0, now), ah, pre, hg, h1, h2 => by
    have hgx := hg x (by simp)
    have hgs : ∀ y ∈ xs, good y := fun y hy => hg y (List.mem_cons_of_mem _ hy)
    have hk := h2 (by simp)
    simp only [hunk_place.p]
    unfold hunk_place.step
    by_cases e1 : x.f0 = 1
    · rw [if_pos e1]
      simp only [Option.bind_some, bld]
      rw [if_pos e1]
      have e3 : ad3 x = x.f1.length := by unfold ad3; rw [if_neg (by omega)]
      have e2 : ad2 x = x.f1.length := by unfold ad2; rw [if_neg (by omega)]
      rw [e3, e2]
      by_cases hl : xs.isEmpty = true ∨ 2 * c < x.f1.length
      · rw [if_pos hl]
        by_cases hl2 : 2 * c < x.f1.length
        · rw [if_pos ⟨hk, hl2⟩]
          obtain ⟨q, h3, h4⟩ := place_ev c xs (k + 1) (a + x.f1.length) (b + x.f1.length) none x.f1 (pre ++ [mkH a0 b0 (now ++ hunk_Build.trail c x.f1)]) hgs (fun _ => ⟨by omega, by omega⟩) (fun h => absurd rfl h)
          refine ⟨q, ?_, by rw [h4]; simp⟩
          rw [← h3]
          simp [nth, fresh, cut0, tl1]
        · have hxs : xs = [] := by simpa using hl.resolve_right hl2
          subst hxs
          exact ⟨_, rfl, by simp [bld, cut0, tl1, zer]⟩
      · rw [if_neg hl, if_neg (fun h => hl (.inr h.2))]
        exact place_ev c xs (k + 1) _ _ (some (a0, b0, now ++ [x])) ah pre hgs (fun h => by cases h) (fun _ => by omega)
    · rw [if_neg e1, if_pos (by have := hgx.1; omega)]
      simp only [bld]
      rw [if_neg e1, if_neg (by simp [fresh])]
      simp only [Option.bind_some]
      have ex3 : (if x.f0 = 2 then a + x.f1.length else a) = a + ad3 x := by
        unfold ad3
        have := hgx.1
        split <;> split <;> omega
      have ex2 : (if x.f0 = 2 then b else b + x.f1.length) = b + ad2 x := by
        unfold ad2
        split <;> omega
      rw [ex3, ex2]
      exact place_ev c xs (k + 1) _ _ (some (a0, b0, now ++ [x])) ah pre hgs (fun h => by cases h) (fun _ => by omega)
/-- The hunks of a normal form. -/
def hnk (c : Nat) (n : List S47) : List S44 := bld c n 0 0 none []
theorem run_ev (c : Nat) (n : List S47) (hn : nl n ≤ 800) (hg : ∀ x ∈ n, good x) : Ev (fun k => hunk_Build.run k c n) (hnk c n) := by
  unfold hunk_Build.run
  have hl := good_len n hg
  refine ev_pos ⟨by omega, by rw [nl_lines]; omega⟩ ?_
  have h1 : Ev (fun k => (hunk_Build.allp k c n ⟨[], [], []⟩).bind (hunk_Build.fin k)) (zer (bld c n 0 0 none [])) := build_ev c n 0 0 none [] [] hg (by show _ ≤ _; simp; exact hn)
  obtain ⟨q, h2, h3⟩ := place_ev c n 0 0 0 none [] [] hg (fun _ => ⟨Nat.le_refl _, Nat.le_refl _⟩) (fun h => absurd rfl h)
  have h4 : Ev (fun k => ((hunk_Build.allp k c n ⟨[], [], []⟩).bind (hunk_Build.fin k)).bind fun o => (hunk_place.p c n 0 ⟨0, 0, 0, true, o⟩).bind fun q => some q.l) (hnk c n) := by
    refine Ev.bind h1 ?_
    refine ev_bind h2 (ev_some ?_)
    rw [h3]
    rfl
  refine ev_as h4 ?_
  funext k
  rw [Option.bind_assoc]
/-- What Build tells. -/
def hres (s : List S47) (c : Int) : List S44 × Int := if chk s = 0 then (if c < 0 ∨ 20 < c then ([], 2) else (hnk c.toNat (script_normal.p s), 0)) else ([], chk s)
theorem bld_ev (s : List S47) (c : Int) (hf : Fit s) : Ev (fun k => hunk_Build.f k s c) (hres s c) := by
  unfold hunk_Build.f hres
  refine Ev.bind (nrm_ev s hf) ?_
  unfold nrm
  by_cases h : chk s = 0
  · rw [if_pos h, if_pos h]
    refine ev_pos rfl ?_
    by_cases hc : c < 0 ∨ 20 < c
    · refine ev_pos hc (ev_some ?_)
      rw [if_pos hc]
    · refine ev_neg hc ?_
      rw [if_neg hc]
      obtain ⟨h1, h2, h3⟩ := chk_zero.1 h
      exact Ev.bind (run_ev _ _ (by rw [p_nl]; exact h2) (nf_good _ (p_nf s h3))) (ev_some rfl)
  · rw [if_neg h, if_neg h]
    exact ev_neg h (ev_some rfl)
end Go.Proofs.Ytfnbodjmmkjlcaa.H
namespace Go.Proofs.Ytfnbodjmmkjlcaa.H
open Go.RowKit Go.Proofs.YtfnbodjmmkjlcaaW.PrintWords Go.Proofs.YtfnbodjmmkjlcaaW.PrintLast Go.Proofs.YtfnbodjmmkjlcaaW.PrintMore
set_option linter.unusedVariables false
set_option linter.unusedSimpArgs false
def chgAt (l : List S47) (j : Nat) : Prop := j < l.length ∧ (l.getD j z47).f0 ≠ 1
def inB (l : List S47) (c i : Nat) : Prop := ∃ j, chgAt l j ∧ i ≤ j + c ∧ j ≤ i + c
theorem near_l0 (l : List S47) (i c : Nat) (hi : i ≤ 1000000000) (hc : c ≤ 1000000000) : ∀ (d : Nat) (x : Int), x + d = (i : Int) + c + 1 → -1000000000 ≤ x → ∃ r, Ev (fun k => jalousieref09_near.l0 k l (i : Int) (c : Int) x) r ∧ (r = true ↔ ∃ j : Nat, x ≤ j ∧ (j : Int) ≤ i + c ∧ chgAt l j)
  | 0, x, h, hx => by
    refine ⟨false, ev_succ ?_, ?_⟩
    · simp only [jalousieref09_near.l0]
      rw [w64i ((i : Int) + (c : Int)) (by omega) (by omega)]
      exact ev_neg (by omega) (ev_some rfl)
    · constructor
      · intro h
        cases h
      · rintro ⟨j, h1, h2, _⟩
        omega
  | d + 1, x, h, hx => by
    obtain ⟨r, hr, hr2⟩ := near_l0 l i c hi hc d (x + 1) (by omega) (by omega)
    have hw : wrap64 (x + 1) = x + 1 := w64i _ (by omega) (by omega)
    by_cases hch : 0 ≤ x ∧ chgAt l x.toNat
    · refine ⟨true, ev_succ ?_, ?_⟩
      · simp only [jalousieref09_near.l0]
        rw [w64i ((i : Int) + (c : Int)) (by omega) (by omega)]
        obtain ⟨h0, h1, h2⟩ := hch
        refine ev_pos (by omega) (ev_pos (by omega) (ev_pos (by omega) (ev_pos (by omega) (ev_neg ?_ (ev_some rfl)))))
        rw [show x = (x.toNat : Int) by omega, rdE]
        exact h2
      · exact ⟨fun _ => ⟨x.toNat, by omega, by omega, hch.2⟩, fun _ => rfl⟩
    · refine ⟨r, ev_succ ?_, ?_⟩
      · simp only [jalousieref09_near.l0]
        rw [w64i ((i : Int) + (c : Int)) (by omega) (by omega), hw]
        refine ev_pos (by omega) ?_
        by_cases h0 : 0 ≤ x
        · refine ev_pos (by omega) ?_
          by_cases h1 : x < (l.length : Int)
          · refine ev_pos h1 (ev_pos h0 (ev_pos ?_ hr))
            rw [show x = (x.toNat : Int) by omega, rdE]
            exact Classical.byContradiction fun e => hch ⟨h0, by omega, e⟩
          · exact ev_neg h1 hr
        · exact ev_neg (by omega) hr
      · rw [hr2]
        constructor
        · rintro ⟨j, h1, h2⟩
          exact ⟨j, by omega, h2⟩
        · rintro ⟨j, h1, h2, h3⟩
          refine ⟨j, ?_, h2, h3⟩
          rcases Int.lt_or_eq_of_le h1 with h4 | h4
          · omega
          · exfalso
            refine hch ⟨by omega, ?_⟩
            rw [h4]
            exact h3
theorem near_ev (l : List S47) (i c : Nat) (hi : i ≤ 1000000000) (hc : c ≤ 1000000000) : ∃ r, Ev (fun k => jalousieref09_near.f k l (i : Int) (c : Int)) r ∧ (r = true ↔ inB l c i) := by
  obtain ⟨r, h1, h2⟩ := near_l0 l i c hi hc (2 * c + 1) ((i : Int) - c) (by omega) (by omega)
  refine ⟨r, ?_, h2.trans ⟨?_, ?_⟩⟩
  · unfold jalousieref09_near.f
    rw [w64i ((i : Int) - (c : Int)) (by omega) (by omega)]
    exact h1
  · rintro ⟨j, h3, h4, h5⟩
    exact ⟨j, h5, by omega, by omega⟩
  · rintro ⟨j, h5, h3, h4⟩
    exact ⟨j, by omega, by omega, h5⟩
theorem isin_ev (l : List S47) (i c : Nat) (hi : i < l.length) (hl : l.length ≤ 1000000000) (hc : c ≤ 1000000000) (hk : allok l = true) : ∃ r, Ev (fun k => jalousieref09_Build.isin k c l i) r ∧ (r = true ↔ inB l c i) := by
  unfold jalousieref09_Build.isin
  have hx : 1 ≤ (l.getD i z47).f0 ∧ (l.getD i z47).f0 ≤ 3 := by
    have := List.all_eq_true.1 hk _ (getD_mem hi z47)
    simpa using this
  by_cases h1 : (l.getD i z47).f0 = 1
  · obtain ⟨r, h2, h3⟩ := near_ev l i c (by omega) hc
    exact ⟨r, ev_pos h1 h2, h3⟩
  · exact ⟨true, ev_neg h1 (ev_pos (by omega) (ev_some rfl)), fun _ => ⟨i, ⟨hi, h1⟩, by omega, by omega⟩, fun _ => rfl⟩
def stepAll : List S47 → Bool → jalousieref09_Build.Q → Option jalousieref09_Build.Q
  | [], _, q => some q
  | x :: t, b, q => (jalousieref09_Build.step x b q).bind (stepAll t b)
theorem drop_app {α : Type} {l s t : List α} {i : Nat} (h : l.drop i = s ++ t) : l.drop (i + s.length) = t := by
  rw [← List.drop_drop, h, List.drop_left]
theorem loop_run (l : List S47) (c : Nat) (b : Bool) (hl : l.length ≤ 1000000000) (hc : c ≤ 1000000000) (hk : allok l = true) (rest : List S47) (r : jalousieref09_Build.Q) : ∀ (ls : List S47) (i : Nat) (q q' : jalousieref09_Build.Q), i ≤ l.length → l.drop i = ls ++ rest → (∀ j, j < ls.length → (b = true ↔ inB l c (i + j))) → stepAll ls b q = some q' → Ev (fun k => jalousieref09_Build.loop k c l rest.length q') r → Ev (fun k => jalousieref09_Build.loop k c l (ls.length + rest.length) q) r
  | [], i, q, q', hi, hd, hb, hs, h => by
    obtain rfl := Option.some.inj hs
    rw [List.length_nil, Nat.zero_add]
    exact h
  | x :: t, i, q, q', hi, hd, hb, hs, h => by
    have hlen : i + ((x :: t).length + rest.length) = l.length := by
      have := congrArg List.length hd
      rw [List.length_drop, List.length_append] at this
      omega
    rw [List.length_cons] at hlen
    have hx : l.getD i z47 = x := by
      have h0 := congrArg (fun s => s[0]?) hd
      simp only [List.cons_append, List.getElem?_cons_zero, List.getElem?_drop, Nat.add_zero] at h0
      exact getD_some h0 _
    simp only [stepAll] at hs
    obtain ⟨q1, h1, h2⟩ := Option.bind_eq_some_iff.1 hs
    obtain ⟨f, hf, hf2⟩ := isin_ev l i c (by omega) hl hc hk
    have hfb : f = b := by
      have h3 := hb 0 (by simp)
      rw [Nat.add_zero] at h3
      cases f <;> cases b <;> simp_all
    have e : (x :: t).length + rest.length = t.length + rest.length + 1 := by rw [List.length_cons]; omega
    rw [e]
    simp only [jalousieref09_Build.loop]
    rw [show l.length - (t.length + rest.length + 1) = i by omega]
    refine Ev.bind hf ?_
    rw [hx, hfb]
    refine ev_bind h1 ?_
    refine loop_run l c b hl hc hk rest r t (i + 1) q1 q' (by omega) ?_ ?_ h2 h
    · have h5 := drop_app (s := [x]) (t := t ++ rest) (by simpa using hd)
      simpa using h5
    · intro j hj
      have := hb (j + 1) (by simp; omega)
      rw [show i + 1 + j = i + (j + 1) by omega]
      exact this
def lns (d : Int) (ls : List S66) : List S47 := ls.map fun l => ⟨d, [l]⟩
def mkR (a0 b0 : Nat) (now : List S47) : S44 := ⟨a0, ((side now 3).length : Int), b0, ((side now 2).length : Int), single now⟩
theorem side_one (now : List S47) (d : Int) (ls : List S66) (b : Int) : (side (now ++ [⟨d, ls⟩]) b).length = (side now b).length + (if d = b then 0 else ls.length) := by
  rw [side_append, side_cons]
  simp only [List.length_append]
  split <;> simp [side]
theorem single_one (now : List S47) (d : Int) (ls : List S66) : single (now ++ [⟨d, ls⟩]) = single now ++ lns d ls := by
  rw [single_append]
  simp [single, one, lns]
theorem step_true (o : List S44) (a b a0 b0 : Nat) (now : List S47) (d : Int) (l : S66) (ha : a = a0 + (side now 3).length) (hb : b = b0 + (side now 2).length) :
    jalousieref09_Build.step ⟨d, [l]⟩ true ⟨o ++ [mkR a0 b0 now], a, b, true⟩ = some ⟨o ++ [mkR a0 b0 (now ++ [⟨d, [l]⟩])], a + (if d = 3 then 0 else 1), b + (if d = 2 then 0 else 1), true⟩ := by
  unfold jalousieref09_Build.step
  simp only [if_true, List.reverse_append, List.reverse_singleton, List.singleton_append, List.reverse_reverse]
  have e3 : (if d = 3 then a else a + 1) = a + (if d = 3 then 0 else 1) := by split <;> rfl
  have e2 : (if d = 2 then b else b + 1) = b + (if d = 2 then 0 else 1) := by split <;> rfl
  rw [e3, e2]
  congr 1
  congr 1
  congr 1
  congr 1
  unfold mkR
  rw [side_one, side_one, single_one]
  congr 1
  · subst ha
    split <;> simp <;> omega
  · subst hb
    split <;> simp <;> omega
theorem all_true (o : List S44) (a0 b0 : Nat) (d : Int) : ∀ (ls : List S66) (a b : Nat) (now : List S47), a = a0 + (side now 3).length → b = b0 + (side now 2).length →
    stepAll (lns d ls) true ⟨o ++ [mkR a0 b0 now], a, b, true⟩ = some ⟨o ++ [mkR a0 b0 (now ++ [⟨d, ls⟩])], a + (if d = 3 then 0 else ls.length), b + (if d = 2 then 0 else ls.length), true⟩
  | [], a, b, now, ha, hb => by
    have e : mkR a0 b0 (now ++ [⟨d, []⟩]) = mkR a0 b0 now := by
      unfold mkR
      rw [side_one, side_one, single_one]
      simp [lns]
    rw [e]
    simp [lns, stepAll]
  | l :: ls, a, b, now, ha, hb => by
    simp only [lns, List.map_cons, stepAll]
    rw [step_true o a b a0 b0 now d l ha hb]
    simp only [Option.bind_some]
    have ih := all_true o a0 b0 d ls (a + (if d = 3 then 0 else 1)) (b + (if d = 2 then 0 else 1)) (now ++ [⟨d, [l]⟩]) (by rw [side_one]; subst ha; simp [Nat.add_assoc]) (by rw [side_one]; subst hb; simp [Nat.add_assoc])
    unfold lns at ih
    rw [ih]
    have e : mkR a0 b0 (now ++ [⟨d, [l]⟩] ++ [⟨d, ls⟩]) = mkR a0 b0 (now ++ [⟨d, l :: ls⟩]) := by
      unfold mkR
      rw [side_one, side_one, side_one, side_one, side_one, side_one, single_one, single_one, single_one]
      congr 1
      · split <;> simp <;> omega
      · split <;> simp <;> omega
      · simp [lns]
    rw [e]
    congr 1
    congr 1
    · split <;> simp <;> omega
    · split <;> simp <;> omega
theorem step_off (o : List S44) (a b : Nat) (x : S47) : jalousieref09_Build.step x true ⟨o, a, b, false⟩ = jalousieref09_Build.step x true ⟨o ++ [mkR a b []], a, b, true⟩ := by
  unfold jalousieref09_Build.step mkR
  simp [side, single]
theorem all_off (o : List S44) (a b : Nat) (d : Int) (ls : List S66) (h : ls ≠ []) : stepAll (lns d ls) true ⟨o, a, b, false⟩ = some ⟨o ++ [mkR a b [⟨d, ls⟩]], a + (if d = 3 then 0 else ls.length), b + (if d = 2 then 0 else ls.length), true⟩ := by
  cases ls with
  | nil => exact absurd rfl h
  | cons l ls =>
    have h1 := all_true o a b d (l :: ls) a b [] (by simp [side]) (by simp [side])
    have e : mkR a b [⟨d, l :: ls⟩] = mkR a b ([] ++ [⟨d, l :: ls⟩]) := rfl
    rw [e, ← h1]
    simp only [lns, List.map_cons, stepAll]
    rw [step_off]
theorem all_false : ∀ (ls : List S66) (q : jalousieref09_Build.Q), stepAll (lns 1 ls) false q = some ⟨q.out, q.a + ls.length, q.b + ls.length, if ls = [] then q.on else false⟩
  | [], q => rfl
  | l :: ls, q => by
    simp only [lns, List.map_cons, stepAll]
    have e : jalousieref09_Build.step (⟨1, [l]⟩ : S47) false q = some ⟨q.out, q.a + 1, q.b + 1, false⟩ := by
      unfold jalousieref09_Build.step
      simp
    rw [e]
    simp only [Option.bind_some]
    have ih := all_false ls ⟨q.out, q.a + 1, q.b + 1, false⟩
    unfold lns at ih
    rw [ih]
    simp
    omega
theorem single_get_one (x : S47) (j : Nat) (hj : j < x.f1.length) : ((one x).getD j z47).f0 = x.f0 := by
  unfold one
  rw [getD_lt (by simpa using hj)]
  simp
theorem one_len (x : S47) : (one x).length = x.f1.length := by simp [one]
theorem getD_left {α : Type} (s t : List α) (j : Nat) (d : α) (h : j < s.length) : (s ++ t).getD j d = s.getD j d := by
  rw [List.getD_eq_getElem?_getD, List.getElem?_append_left h, List.getD_eq_getElem?_getD]
theorem getD_right {α : Type} (s t : List α) (j : Nat) (d : α) : (s ++ t).getD (s.length + j) d = t.getD j d := by
  rw [List.getD_eq_getElem?_getD, List.getElem?_append_right (by omega), List.getD_eq_getElem?_getD]
  congr 2
  omega
theorem near_keep (pre xs : List S47) (x : S47) (hn : Nf (pre ++ x :: xs)) (hx : x.f0 = 1) (c j : Nat) (hj : j < x.f1.length) : inB (single (pre ++ x :: xs)) c (nl pre + j) ↔ (pre ≠ [] ∧ j + 1 ≤ c) ∨ (xs ≠ [] ∧ x.f1.length ≤ j + c) := by
  have hP := single_len pre
  have hS := single_len xs
  have h1 := one_len x
  have el : single (pre ++ x :: xs) = single pre ++ (one x ++ single xs) := by rw [single_append, single_cons]
  rw [el]
  constructor
  · rintro ⟨i, ⟨h2, h3⟩, h4, h5⟩
    rw [List.length_append, List.length_append, hP, h1, hS] at h2
    by_cases a1 : i < nl pre
    · refine .inl ⟨fun e => ?_, by omega⟩
      subst e
      rw [nl_nil] at a1
      omega
    · by_cases a2 : i < nl pre + x.f1.length
      · exfalso
        apply h3
        rw [show i = (single pre).length + (i - nl pre) by omega, getD_right, getD_left _ _ _ _ (by omega), single_get_one x _ (by omega), hx]
      · refine .inr ⟨fun e => ?_, by omega⟩
        subst e
        rw [nl_nil] at h2
        omega
  · rintro (⟨h2, h3⟩ | ⟨h2, h3⟩)
    · rcases snoc_cases pre with rfl | ⟨t, y, rfl⟩
      · exact absurd rfl h2
      have hadj := ((nf_append _ _).1 hn).2.2 y (by simp) x (by simp)
      have hg := ((nf_snoc t y).1 ((nf_append _ _).1 hn).1).2.1
      have hy : y.f0 ≠ 1 := by
        rw [hx] at hadj
        simp [adj] at hadj
        omega
      have hyl := List.length_pos_iff.2 hg.2
      have e2 : nl (t ++ [y]) = nl t + y.f1.length := by rw [nl_append, nl_cons, nl_nil, Nat.add_zero]
      refine ⟨nl t + (y.f1.length - 1), ⟨?_, ?_⟩, by omega, by omega⟩
      · rw [List.length_append, hP]
        omega
      · rw [getD_left _ _ _ _ (by omega), single_append, show single [y] = one y by simp [single], show nl t + (y.f1.length - 1) = (single t).length + (y.f1.length - 1) by rw [single_len], getD_right, single_get_one y _ (by omega)]
        exact hy
    · cases xs with
      | nil => exact absurd rfl h2
      | cons y t =>
        have hn2 := ((nf_append _ _).1 hn).2.1
        have hadj := hn2.2.1 y (by simp)
        have hg : good y := hn2.2.2.1
        have hy : y.f0 ≠ 1 := by
          rw [hx] at hadj
          simp [adj] at hadj
          omega
        have hyl := List.length_pos_iff.2 hg.2
        refine ⟨nl pre + x.f1.length, ⟨?_, ?_⟩, by omega, by omega⟩
        · rw [List.length_append, List.length_append, hP, h1, hS, nl_cons]
          omega
        · rw [show nl pre + x.f1.length = (single pre).length + ((one x).length + 0) by rw [hP, h1]; omega, getD_right, getD_right, single_cons, getD_left _ _ _ _ (by rw [one_len]; exact hyl), single_get_one y 0 hyl]
          exact hy
theorem near_change (pre xs : List S47) (x : S47) (hx : x.f0 ≠ 1) (c j : Nat) (hj : j < x.f1.length) : inB (single (pre ++ x :: xs)) c (nl pre + j) := by
  have hP := single_len pre
  have h1 := one_len x
  refine ⟨nl pre + j, ⟨?_, ?_⟩, by omega, by omega⟩
  · rw [single_append, single_cons, List.length_append, List.length_append, hP, h1]
    omega
  · rw [single_append, single_cons, ← hP, getD_right, getD_left _ _ _ _ (by omega), single_get_one x j hj]
    exact hx
theorem drop_single (pre xs : List S47) (x : S47) (u : Nat) (hu : u ≤ x.f1.length) : (single (pre ++ x :: xs)).drop (nl pre + u) = lns x.f0 (x.f1.drop u) ++ single xs := by
  rw [single_append, single_cons, ← single_len pre, ← List.drop_drop, List.drop_left, List.drop_append_of_le_length (by rw [one_len]; exact hu)]
  simp [one, lns]
theorem allok_single (s : List S47) (h : allok s = true) : allok (single s) = true := by
  unfold allok single
  rw [List.all_eq_true]
  intro y hy
  obtain ⟨x, hx, hy⟩ := List.mem_flatMap.1 hy
  unfold one at hy
  obtain ⟨l, _, rfl⟩ := List.mem_map.1 hy
  exact List.all_eq_true.1 h x hx
def toR (h : S44) : S44 := ⟨h.f0, h.f1, h.f2, h.f3, single h.f4⟩
theorem toR_mk (a0 b0 : Nat) (now : List S47) : toR (mkH a0 b0 now) = mkR a0 b0 now := rfl
theorem mkR_nil (a0 b0 : Nat) (now : List S47) (d : Int) : mkR a0 b0 (now ++ [⟨d, []⟩]) = mkR a0 b0 now := by
  unfold mkR
  rw [side_one, side_one, single_one]
  simp [lns]
theorem mkR_trail (c a0 b0 : Nat) (now : List S47) (l : List S66) : mkR a0 b0 (now ++ [⟨1, l.take (min c l.length)⟩]) = mkR a0 b0 (now ++ hunk_Build.trail c l) := by
  unfold hunk_Build.trail
  by_cases h : 0 < min c l.length
  · rw [if_pos h]
  · rw [if_neg h, show min c l.length = 0 by omega, List.take_zero, mkR_nil, List.append_nil]
/-- What the document's state is, where the rest is n. -/
def RelQ (c : Nat) (n : List S47) (a b : Nat) (cur : Option (Nat × Nat × List S47)) (ah : List S66) (o : List S44) (q : jalousieref09_Build.Q) : Prop := match cur with
  | none => q.out = (if n ≠ [] ∧ 0 < min c ah.length then o ++ [mkR (a - min c ah.length) (b - min c ah.length) (hunk_Build.lead c ah)] else o) ∧ q.a = a ∧ q.b = b ∧ (n ≠ [] → q.on = decide (0 < min c ah.length)) ∧ ah.length ≤ a ∧ ah.length ≤ b
  | some (a0, b0, now) => q = ⟨o ++ [mkR a0 b0 now], a, b, true⟩ ∧ a = a0 + (side now 3).length ∧ b = b0 + (side now 2).length
theorem lead_side (c : Nat) (ah : List S66) (b : Int) (hb : b ≠ 1) : (side (hunk_Build.lead c ah) b).length = min c ah.length := by
  unfold hunk_Build.lead
  split
  · rw [side_cons, if_neg (fun e => hb e.symm)]
    simp [side]
    omega
  · simp [side]
    omega
/-- A part of an edit's lines. -/
theorem seg_run (c : Nat) (hc : c ≤ 1000000000) (pre xs : List S47) (x : S47) (hN : Nf (pre ++ x :: xs)) (hl : nl (pre ++ x :: xs) ≤ 1000000000) (r : jalousieref09_Build.Q) (u v : Nat) (huv : u ≤ v) (hv : v ≤ x.f1.length) (f : Bool) (hb : ∀ j, u ≤ j → j < v → (f = true ↔ inB (single (pre ++ x :: xs)) c (nl pre + j))) (q q' : jalousieref09_Build.Q)
    (hs : stepAll (lns x.f0 ((x.f1.take v).drop u)) f q = some q') (h : Ev (fun k => jalousieref09_Build.loop k c (single (pre ++ x :: xs)) (x.f1.length - v + nl xs) q') r) : Ev (fun k => jalousieref09_Build.loop k c (single (pre ++ x :: xs)) (x.f1.length - u + nl xs) q) r := by
  have hlen : (single (pre ++ x :: xs)).length ≤ 1000000000 := by rw [single_len]; exact hl
  have hl1 : (lns x.f0 ((x.f1.take v).drop u)).length = v - u := by simp [lns]; omega
  have hl2 : (lns x.f0 (x.f1.drop v) ++ single xs).length = x.f1.length - v + nl xs := by rw [List.length_append, single_len]; simp [lns]
  have e : x.f1.length - u + nl xs = (lns x.f0 ((x.f1.take v).drop u)).length + (lns x.f0 (x.f1.drop v) ++ single xs).length := by omega
  rw [e]
  refine loop_run _ c f hlen hc (allok_single _ (nf_allok _ hN)) _ r _ (nl pre + u) q q' ?_ ?_ ?_ hs (by rw [hl2]; exact h)
  · rw [single_len, nl_append, nl_cons]
    omega
  · rw [drop_single pre xs x u (by omega), ← List.append_assoc]
    congr 1
    have e2 : x.f1.drop u = (x.f1.take v).drop u ++ x.f1.drop v := by
      rw [← List.drop_append_of_le_length (by rw [List.length_take]; omega), List.take_append_drop]
    rw [e2]
    simp [lns]
  · intro j hj
    rw [hl1] at hj
    rw [show nl pre + u + j = nl pre + (u + j) by omega]
    exact hb (u + j) (by omega) (by omega)
/-- The lines that stay behind a hunk's end, and the first of the next one. -/
theorem gap_run (c : Nat) (hc : c ≤ 1000000000) (pre xs : List S47) (x : S47) (hN : Nf (pre ++ x :: xs)) (hl : nl (pre ++ x :: xs) ≤ 1000000000) (e1 : x.f0 = 1) (w u a b : Nat) (hw : w = if xs = [] then 0 else min c x.f1.length) (huw : u + w ≤ x.f1.length)
    (hb0 : ∀ j, u ≤ j → j < x.f1.length - w → ¬ inB (single (pre ++ x :: xs)) c (nl pre + j)) (o : List S44) (q : jalousieref09_Build.Q) (ho : q.out = o) (ha : q.a = a + u) (hb : q.b = b + u) (hon : xs ≠ [] → q.on = false ∨ u + w < x.f1.length) :
    ∃ q'', RelQ c xs (a + x.f1.length) (b + x.f1.length) none x.f1 o q'' ∧ ∀ r, Ev (fun k => jalousieref09_Build.loop k c (single (pre ++ x :: xs)) (nl xs) q'') r → Ev (fun k => jalousieref09_Build.loop k c (single (pre ++ x :: xs)) (x.f1.length - u + nl xs) q) r := by
  have hb1 : ∀ j, x.f1.length - w ≤ j → j < x.f1.length → inB (single (pre ++ x :: xs)) c (nl pre + j) := by
    intro j h1 h2
    rw [near_keep pre xs x hN e1 c j h2]
    by_cases hxs : xs = []
    · rw [if_pos hxs] at hw
      omega
    · rw [if_neg hxs] at hw
      exact .inr ⟨hxs, by omega⟩
  have h1 := all_false ((x.f1.take (x.f1.length - w)).drop u) q
  have hl1 : ((x.f1.take (x.f1.length - w)).drop u).length = x.f1.length - w - u := by rw [List.length_drop, List.length_take]; omega
  rw [hl1, ho, ha, hb] at h1
  have s1 : ∀ q' r, stepAll (lns x.f0 ((x.f1.take (x.f1.length - w)).drop u)) false q = some q' → Ev (fun k => jalousieref09_Build.loop k c (single (pre ++ x :: xs)) (x.f1.length - (x.f1.length - w) + nl xs) q') r → Ev (fun k => jalousieref09_Build.loop k c (single (pre ++ x :: xs)) (x.f1.length - u + nl xs) q) r := fun q' r hs h => seg_run c hc pre xs x hN hl r u (x.f1.length - w) (by omega) (by omega) false (fun j h2 h3 => ⟨(fun h => by cases h), fun h => absurd h (hb0 j h2 h3)⟩) q q' hs h
  rw [e1] at s1
  by_cases hxs : xs = []
  · rw [if_pos hxs] at hw
    subst hw
    subst hxs
    refine ⟨_, ?_, fun r h => s1 _ r h1 (by simpa using h)⟩
    refine ⟨by simp, by simp; omega, by simp; omega, fun h => absurd rfl h, by omega, by omega⟩
  · rw [if_neg hxs] at hw
    have hoff : (if (x.f1.take (x.f1.length - w)).drop u = [] then q.on else false) = false := by
      split
      · rename_i hnil
        rcases hon hxs with h | h
        · exact h
        · rw [hnil] at hl1
          simp at hl1
          omega
      · rfl
    rw [hoff] at h1
    by_cases hw0 : w = 0
    · refine ⟨_, ?_, fun r h => s1 _ r h1 (by rw [hw0]; simpa using h)⟩
      have hm : ¬ 0 < min c x.f1.length := by omega
      refine ⟨?_, by simp; omega, by simp; omega, fun _ => (decide_eq_false hm).symm, by omega, by omega⟩
      rw [if_neg (fun h => hm h.2)]
    · have hm : 0 < min c x.f1.length := by omega
      have e2 : (x.f1.take x.f1.length).drop (x.f1.length - w) = x.f1.drop (x.f1.length - w) := by rw [List.take_length]
      have hne : x.f1.drop (x.f1.length - w) ≠ [] := by
        intro e
        have := congrArg List.length e
        rw [List.length_drop, List.length_nil] at this
        omega
      have hl2 : (x.f1.drop (x.f1.length - w)).length = w := by rw [List.length_drop]; omega
      have h2 := all_off o (a + u + (x.f1.length - w - u)) (b + u + (x.f1.length - w - u)) 1 _ hne
      rw [if_neg (by omega), if_neg (by omega), hl2] at h2
      refine ⟨_, ?_, fun r h => s1 _ r h1 (seg_run c hc pre xs x hN hl r (x.f1.length - w) x.f1.length (by omega) (Nat.le_refl _) true (fun j h3 h4 => ⟨fun _ => hb1 j h3 h4, fun _ => rfl⟩) _ _ (by rw [e1, e2]; exact h2) (by simpa using h))⟩
      refine ⟨?_, by simp only; omega, by simp only; omega, fun _ => (decide_eq_true hm).symm, by omega, by omega⟩
      rw [if_pos ⟨hxs, hm⟩]
      simp only
      unfold hunk_Build.lead
      rw [if_pos hm, ← hw]
      have ea : a + u + (x.f1.length - w - u) = a + x.f1.length - w := by omega
      have eb : b + u + (x.f1.length - w - u) = b + x.f1.length - w := by omega
      rw [ea, eb]
theorem ref_sim (c : Nat) (hc : c ≤ 1000000000) : ∀ (n pre : List S47) (a b : Nat) (cur : Option (Nat × Nat × List S47)) (ah : List S66) (o : List S44) (q : jalousieref09_Build.Q), Nf (pre ++ n) → nl (pre ++ n) ≤ 1000000000 → RelQ c n a b cur ah o q →
    (cur = none → (pre = [] ∧ ah = []) ∨ (pre ≠ [] ∧ ∀ y ∈ pre.getLast?, y.f0 = 1)) → (cur ≠ none → pre ≠ []) →
    ∃ qF, Ev (fun k => jalousieref09_Build.loop k c (single (pre ++ n)) (nl n) q) qF ∧ qF.out = o ++ (bld c n a b cur ah).map toR
  | [], pre, a, b, none, ah, o, q, hN, hl, hR, hp, hp2 => by
    refine ⟨q, ev_some rfl, ?_⟩
    rw [hR.1]
    simp [bld]
  | [], pre, a, b, some (a0, b0, now), ah, o, q, hN, hl, hR, hp, hp2 => by
    refine ⟨q, ev_some rfl, ?_⟩
    rw [hR.1]
    simp [bld, toR_mk]
  | x :: xs, pre, a, b, none, ah, o, q, hN, hl, hR, hp, hp2 => by
    obtain ⟨h1, h2, h3, h4, h5, h6⟩ := hR
    have hx0 : x.f1 ≠ [] := ((nf_append _ _).1 hN).2.1.1.2
    have hxl := List.length_pos_iff.2 hx0
    have happ : pre ++ x :: xs = (pre ++ [x]) ++ xs := by simp
    have hN' := hN
    have hl' := hl
    rw [happ] at hN' hl'
    simp only [bld]
    by_cases e1 : x.f0 = 1
    · rw [if_pos e1]
      have hpre : pre = [] ∧ ah = [] := by
        refine (hp rfl).resolve_right fun h => ?_
        rcases snoc_cases pre with rfl | ⟨t, y, rfl⟩
        · exact h.1 rfl
        · have hadj := ((nf_append _ _).1 hN).2.2 y (by simp) x (by simp)
          have := h.2 y (by simp)
          simp [adj, this, e1] at hadj
      obtain ⟨hpe, hah⟩ := hpre
      have e3 : ad3 x = x.f1.length := by unfold ad3; rw [if_neg (by omega)]
      have e2 : ad2 x = x.f1.length := by unfold ad2; rw [if_neg (by omega)]
      rw [e3, e2]
      obtain ⟨q', hq, hrun⟩ := gap_run c hc pre xs x hN hl e1 (if xs = [] then 0 else min c x.f1.length) 0 a b rfl (by split <;> omega) (by
        intro j h7 h8 h9
        rw [near_keep pre xs x hN e1 c j (by omega)] at h9
        rcases h9 with h9 | h9
        · exact h9.1 hpe
        · rw [if_neg h9.1] at h8
          omega) o q (by rw [h1, if_neg (by rw [hah]; simp)]) (by rw [h2]; rfl) (by rw [h3]; rfl) (fun _ => .inl (by rw [h4 (by simp), hah]; simp))
      obtain ⟨qF, h7, h8⟩ := ref_sim c hc xs (pre ++ [x]) (a + x.f1.length) (b + x.f1.length) none x.f1 o q' hN' hl' hq (fun _ => .inr ⟨by simp, fun y hy => by simp at hy; rw [← hy]; exact e1⟩) (fun h => absurd rfl h)
      rw [← happ] at h7
      refine ⟨qF, ?_, h8⟩
      have := hrun qF h7
      rw [Nat.sub_zero] at this
      rw [nl_cons]
      exact this
    · rw [if_neg e1]
      have hflag : ∀ j, 0 ≤ j → j < x.f1.length → (true = true ↔ inB (single (pre ++ x :: xs)) c (nl pre + j)) := fun j _ hj => ⟨fun _ => near_change pre xs x e1 c j hj, fun _ => rfl⟩
      have etk : (x.f1.take x.f1.length).drop 0 = x.f1 := by simp
      have fin : ∀ q', RelQ c xs (a + ad3 x) (b + ad2 x) (some (a - min c ah.length, b - min c ah.length, hunk_Build.lead c ah ++ [x])) [] o q' → stepAll (lns x.f0 x.f1) true q = some q' → ∃ qF, Ev (fun k => jalousieref09_Build.loop k c (single (pre ++ x :: xs)) (nl (x :: xs)) q) qF ∧ qF.out = o ++ (bld c xs (a + ad3 x) (b + ad2 x) (some (a - min c ah.length, b - min c ah.length, hunk_Build.lead c ah ++ [x])) []).map toR := by
        intro q' hq hs
        obtain ⟨qF, h7, h8⟩ := ref_sim c hc xs (pre ++ [x]) (a + ad3 x) (b + ad2 x) (some (a - min c ah.length, b - min c ah.length, hunk_Build.lead c ah ++ [x])) [] o q' hN' hl' hq (fun h => by cases h) (fun _ => by simp)
        rw [← happ] at h7
        refine ⟨qF, ?_, h8⟩
        have := seg_run c hc pre xs x hN hl qF 0 x.f1.length (by omega) (Nat.le_refl _) true hflag q q' (by rw [etk]; exact hs) (by simpa using h7)
        rw [Nat.sub_zero] at this
        rw [nl_cons]
        exact this
      have hs3 := lead_side c ah 3 (by omega)
      have hs2 := lead_side c ah 2 (by omega)
      obtain ⟨qo, qa, qb, qn⟩ := q
      simp only at h1 h2 h3 h4
      subst h2
      subst h3
      have h4' := h4 (by simp)
      by_cases hm : 0 < min c ah.length
      · rw [if_pos ⟨by simp, hm⟩] at h1
        rw [decide_eq_true hm] at h4'
        subst h1
        subst h4'
        refine fin _ ⟨rfl, ?_, ?_⟩ ?_
        · show _ = _ + (side (hunk_Build.lead c ah ++ [⟨x.f0, x.f1⟩]) 3).length
          rw [side_one, hs3]
          unfold ad3
          omega
        · show _ = _ + (side (hunk_Build.lead c ah ++ [⟨x.f0, x.f1⟩]) 2).length
          rw [side_one, hs2]
          unfold ad2
          omega
        · exact all_true o _ _ x.f0 x.f1 qa qb (hunk_Build.lead c ah) (by rw [hs3]; omega) (by rw [hs2]; omega)
      · rw [if_neg (fun h => hm h.2)] at h1
        rw [decide_eq_false hm] at h4'
        subst h1
        subst h4'
        have hlead : hunk_Build.lead c ah = [] := by
          unfold hunk_Build.lead
          rw [if_neg hm]
        refine fin _ ⟨rfl, ?_, ?_⟩ ?_
        · show _ = _ + (side (hunk_Build.lead c ah ++ [⟨x.f0, x.f1⟩]) 3).length
          rw [side_one, hs3]
          unfold ad3
          omega
        · show _ = _ + (side (hunk_Build.lead c ah ++ [⟨x.f0, x.f1⟩]) 2).length
          rw [side_one, hs2]
          unfold ad2
          omega
        · have := all_off qo qa qb x.f0 x.f1 hx0
          rw [this, hlead, List.nil_append, show min c ah.length = 0 by omega, Nat.sub_zero, Nat.sub_zero]
          rfl
  | x :: xs, pre, a, b, some (a0, b0, now), ah, o, q, hN, hl, hR, hp, hp2 => by
    obtain ⟨hq, ha, hb⟩ := hR
    subst hq
    have hpre := hp2 (by simp)
    have hx0 : x.f1 ≠ [] := ((nf_append _ _).1 hN).2.1.1.2
    have hxl := List.length_pos_iff.2 hx0
    have happ : pre ++ x :: xs = (pre ++ [x]) ++ xs := by simp
    have hN' := hN
    have hl' := hl
    rw [happ] at hN' hl'
    have etk : (x.f1.take x.f1.length).drop 0 = x.f1 := by simp
    have fin : (∀ j, 0 ≤ j → j < x.f1.length → (true = true ↔ inB (single (pre ++ x :: xs)) c (nl pre + j))) → ∃ qF, Ev (fun k => jalousieref09_Build.loop k c (single (pre ++ x :: xs)) (nl (x :: xs)) ⟨o ++ [mkR a0 b0 now], a, b, true⟩) qF ∧ qF.out = o ++ (bld c xs (a + ad3 x) (b + ad2 x) (some (a0, b0, now ++ [x])) ah).map toR := by
      intro hflag
      have hs := all_true o a0 b0 x.f0 x.f1 a b now ha hb
      obtain ⟨qF, h7, h8⟩ := ref_sim c hc xs (pre ++ [x]) (a + ad3 x) (b + ad2 x) (some (a0, b0, now ++ [x])) ah o ⟨o ++ [mkR a0 b0 (now ++ [x])], a + ad3 x, b + ad2 x, true⟩ hN' hl' ⟨rfl, by
        show _ = _ + (side (now ++ [⟨x.f0, x.f1⟩]) 3).length
        rw [side_one]
        unfold ad3
        omega, by
        show _ = _ + (side (now ++ [⟨x.f0, x.f1⟩]) 2).length
        rw [side_one]
        unfold ad2
        omega⟩ (fun h => by cases h) (fun _ => by simp)
      rw [← happ] at h7
      refine ⟨qF, ?_, h8⟩
      have := seg_run c hc pre xs x hN hl qF 0 x.f1.length (by omega) (Nat.le_refl _) true hflag _ _ (by rw [etk]; exact hs) (by rw [Nat.sub_self, Nat.zero_add]; exact h7)
      rw [Nat.sub_zero] at this
      rw [nl_cons]
      exact this
    simp only [bld]
    by_cases e1 : x.f0 = 1
    · rw [if_pos e1]
      by_cases hlast : xs.isEmpty = true ∨ 2 * c < x.f1.length
      · rw [if_pos hlast]
        have e3 : ad3 x = x.f1.length := by unfold ad3; rw [if_neg (by omega)]
        have e2 : ad2 x = x.f1.length := by unfold ad2; rw [if_neg (by omega)]
        rw [e3, e2]
        have hxs2 : xs ≠ [] → 2 * c < x.f1.length := fun h => hlast.resolve_left (by simpa using h)
        have hlt : (x.f1.take (min c x.f1.length)).length = min c x.f1.length := by rw [List.length_take]; omega
        have hs := all_true o a0 b0 1 (x.f1.take (min c x.f1.length)) a b now ha hb
        rw [if_neg (by omega), if_neg (by omega), hlt, mkR_trail] at hs
        obtain ⟨q', hq, hrun⟩ := gap_run c hc pre xs x hN hl e1 (if xs = [] then 0 else min c x.f1.length) (min c x.f1.length) a b rfl (by
          by_cases h : xs = []
          · rw [if_pos h]
            omega
          · rw [if_neg h]
            have := hxs2 h
            omega) (by
          intro j h7 h8 h9
          rw [near_keep pre xs x hN e1 c j (by omega)] at h9
          rcases h9 with h9 | h9
          · have := h9.2
            omega
          · rw [if_neg h9.1] at h8
            omega) (o ++ [mkR a0 b0 (now ++ hunk_Build.trail c x.f1)]) ⟨o ++ [mkR a0 b0 (now ++ hunk_Build.trail c x.f1)], a + min c x.f1.length, b + min c x.f1.length, true⟩ rfl rfl rfl (fun h => .inr (by
          have := hxs2 h
          rw [if_neg h]
          omega))
        obtain ⟨qF, h7, h8⟩ := ref_sim c hc xs (pre ++ [x]) (a + x.f1.length) (b + x.f1.length) none x.f1 _ q' hN' hl' hq (fun _ => .inr ⟨by simp, fun y hy => by simp at hy; rw [← hy]; exact e1⟩) (fun h => absurd rfl h)
        rw [← happ] at h7
        refine ⟨qF, ?_, by rw [h8]; simp [toR_mk]⟩
        have h9 := hrun qF h7
        have := seg_run c hc pre xs x hN hl qF 0 (min c x.f1.length) (by omega) (by omega) true (fun j h10 h11 => ⟨fun _ => by
          rw [near_keep pre xs x hN e1 c j (by omega)]
          exact .inl ⟨hpre, by omega⟩, fun _ => rfl⟩) _ _ (by rw [List.drop_zero, e1]; exact hs) h9
        rw [Nat.sub_zero] at this
        rw [nl_cons]
        exact this
      · rw [if_neg hlast]
        refine fin fun j _ hj => ⟨fun _ => ?_, fun _ => rfl⟩
        rw [near_keep pre xs x hN e1 c j hj]
        have hxs : xs ≠ [] := fun e => hlast (.inl (by rw [e]; rfl))
        have h2c : x.f1.length ≤ 2 * c := by
          have : ¬ 2 * c < x.f1.length := fun h => hlast (.inr h)
          omega
        by_cases hjc : j + 1 ≤ c
        · exact .inl ⟨hpre, hjc⟩
        · exact .inr ⟨hxs, by omega⟩
    · rw [if_neg e1]
      exact fin fun j _ hj => ⟨fun _ => near_change pre xs x e1 c j hj, fun _ => rfl⟩
theorem nf_same (s t : List S47) (x y : S47) (h : Nf (s ++ x :: t)) (hf : y.f0 = x.f0) (hy : y.f1 ≠ []) : Nf (s ++ y :: t) := by
  obtain ⟨h1, h2, h3⟩ := (nf_append _ _).1 h
  refine (nf_append _ _).2 ⟨h1, ⟨⟨by rw [hf]; exact h2.1.1, hy⟩, by rw [hf]; exact h2.2.1, h2.2.2⟩, fun z hz w hw => ?_⟩
  simp at hw
  subst hw
  rw [hf]
  exact h3 z hz x (by simp)
theorem nf_left (s t : List S47) (h : Nf (s ++ t)) : Nf s := ((nf_append _ _).1 h).1
theorem nf_trail (c : Nat) (now t : List S47) (x : S47) (h : Nf (now ++ x :: t)) (hx : x.f0 = 1) : Nf (now ++ hunk_Build.trail c x.f1) := by
  unfold hunk_Build.trail
  by_cases h0 : 0 < min c x.f1.length
  · rw [if_pos h0]
    refine nf_left _ t ?_
    rw [List.append_assoc]
    refine nf_same now t x _ h hx.symm ?_
    intro e
    have h2 : (x.f1.take c).length = 0 := by
      have e' : x.f1.take c = [] := by simpa using e
      rw [e']
      rfl
    rw [List.length_take] at h2
    omega
  · rw [if_neg h0, List.append_nil]
    exact nf_left _ _ h
theorem nf_lead (c : Nat) (t : List S47) (x : S47) (h : Nf (x :: t)) (hx : x.f0 = 1) : Nf (hunk_Build.lead c x.f1 ++ t) := by
  unfold hunk_Build.lead
  by_cases h0 : 0 < min c x.f1.length
  · rw [if_pos h0]
    refine nf_same [] t x _ h hx.symm ?_
    intro e
    have := congrArg List.length e
    rw [List.length_drop, List.length_nil] at this
    omega
  · rw [if_neg h0]
    exact h.2.2
theorem bld_nf (c : Nat) : ∀ (n : List S47) (a b : Nat) (cur : Option (Nat × Nat × List S47)) (ah : List S66), (match cur with | none => Nf (hunk_Build.lead c ah ++ n) ∧ ah.length + nl n ≤ 800 | some (_, _, now) => Nf (now ++ n) ∧ nl now + nl n ≤ 800) → Nf n → ∀ h ∈ bld c n a b cur ah, Nf h.f4 ∧ nl h.f4 ≤ 800
  | [], a, b, none, ah, hc, hn, h, hh => by simp [bld] at hh
  | [], a, b, some (a0, b0, now), ah, hc, hn, h, hh => by
    simp [bld] at hh
    subst hh
    have h1 : Nf (now ++ []) := hc.1
    have h2 : nl now + nl [] ≤ 800 := hc.2
    rw [List.append_nil] at h1
    exact ⟨h1, h2⟩
  | x :: xs, a, b, none, ah, hc, hn, h, hh => by
    obtain ⟨h1, h2⟩ := hc
    rw [nl_cons] at h2
    simp only [bld] at hh
    by_cases e1 : x.f0 = 1
    · rw [if_pos e1] at hh
      exact bld_nf c xs _ _ none x.f1 ⟨nf_lead c xs x hn e1, by omega⟩ hn.2.2 h hh
    · rw [if_neg e1] at hh
      refine bld_nf c xs _ _ (some (a - min c ah.length, b - min c ah.length, hunk_Build.lead c ah ++ [x])) [] ⟨?_, ?_⟩ hn.2.2 h hh
      · simpa using h1
      · rw [nl_append, lead_nl, nl_cons, nl_nil]
        omega
  | x :: xs, a, b, some (a0, b0, now), ah, hc, hn, h, hh => by
    obtain ⟨h1, h2⟩ := hc
    rw [nl_cons] at h2
    have hstep : Nf (now ++ [x] ++ xs) ∧ nl (now ++ [x]) + nl xs ≤ 800 := ⟨by simpa using h1, by rw [nl_append, nl_cons, nl_nil]; omega⟩
    simp only [bld] at hh
    by_cases e1 : x.f0 = 1
    · rw [if_pos e1] at hh
      split at hh
      · rcases List.mem_cons.1 hh with rfl | hh
        · exact ⟨nf_trail c now xs x h1 e1, by show nl (now ++ hunk_Build.trail c x.f1) ≤ _; rw [nl_append, trail_nl]; omega⟩
        · exact bld_nf c xs _ _ none x.f1 ⟨nf_lead c xs x hn e1, by omega⟩ hn.2.2 h hh
      · exact bld_nf c xs _ _ _ _ hstep hn.2.2 h hh
    · rw [if_neg e1] at hh
      exact bld_nf c xs _ _ _ _ hstep hn.2.2 h hh
theorem hnk_nf (c : Nat) (n : List S47) (hn : Nf n) (hl : nl n ≤ 800) : ∀ h ∈ hnk c n, Nf h.f4 ∧ nl h.f4 ≤ 800 := by
  refine bld_nf c n 0 0 none [] ⟨?_, by simpa using hl⟩ hn
  unfold hunk_Build.lead
  rw [if_neg (by simp)]
  exact hn
theorem single_good (s : List S47) (h : ∀ x ∈ s, good x) : ∀ x ∈ single s, good x := by
  intro y hy
  unfold single at hy
  obtain ⟨x, hx, hy⟩ := List.mem_flatMap.1 hy
  unfold one at hy
  obtain ⟨l, _, rfl⟩ := List.mem_map.1 hy
  exact ⟨(h x hx).1, by simp⟩
theorem nl_single (s : List S47) : nl (single s) = nl s := by
  induction s with
  | nil => rfl
  | cons x t ih =>
    rw [single_cons, nl_append, ih, nl_cons]
    congr 1
    unfold one
    generalize x.f0 = d
    induction x.f1 with
    | nil => rfl
    | cons l ls ih2 =>
      rw [List.map_cons, nl_cons, ih2]
      simp
      omega
theorem norm_ev : ∀ (l : List S44), (∀ h ∈ l, Nf h.f4 ∧ nl h.f4 ≤ 800) → Ev (fun k => jalousieref09_Build.norm k (l.map toR)) l
  | [], _ => ev_some rfl
  | h :: t, hh => by
    obtain ⟨h1, h2⟩ := hh h (by simp)
    simp only [List.map_cons, jalousieref09_Build.norm]
    have hg := single_good _ (nf_good _ h1)
    have hn : nl (single h.f4) ≤ 800 := by rw [nl_single]; exact h2
    refine Ev.bind (a := (h.f4, 0)) (ev_cast (rnrm_ev _ (good_fit _ (by show nl (single h.f4) ≤ _; omega) hg)) ?_) ?_
    · show nrm (single h.f4) = _
      unfold nrm
      rw [if_pos (good_chk _ hn hg), p_single, p_id _ h1]
    · refine Ev.bind (norm_ev t fun y hy => hh y (List.mem_cons_of_mem _ hy)) (ev_some ?_)
      rfl
theorem rrun_ev (c : Nat) (hc : c ≤ 1000000) (n : List S47) (hn : Nf n) (hl : nl n ≤ 800) : Ev (fun k => jalousieref09_Build.run k c n) (hnk c n) := by
  unfold jalousieref09_Build.run
  refine Ev.bind (single_ev n (by omega) (by have := nf_len n hn; omega)) ?_
  refine ev_pos (by rw [single_len]; omega) ?_
  obtain ⟨qF, h1, h2⟩ := ref_sim c (by omega) n [] 0 0 none [] [] ⟨[], 0, 0, false⟩ hn (by simpa using Nat.le_trans hl (by omega)) ⟨by simp, rfl, rfl, fun _ => by simp, Nat.le_refl _, Nat.le_refl _⟩ (fun _ => .inl ⟨rfl, rfl⟩) (fun h => absurd rfl h)
  rw [List.nil_append] at h1
  rw [single_len]
  refine Ev.bind h1 ?_
  rw [h2, List.nil_append]
  exact norm_ev _ (hnk_nf c n hn hl)
theorem rbld_ev (s : List S47) (c : Int) (hf : Fit s) : Ev (fun k => jalousieref09_Build.f k s c) (hres s c) := by
  unfold jalousieref09_Build.f hres
  refine Ev.bind (rnrm_ev s hf) ?_
  unfold nrm
  by_cases h : chk s = 0
  · rw [if_pos h, if_pos h]
    refine ev_pos rfl ?_
    by_cases hc : c < 0 ∨ 20 < c
    · refine ev_pos hc (ev_some ?_)
      rw [if_pos hc]
    · refine ev_neg hc ?_
      rw [if_neg hc]
      obtain ⟨h1, h2, h3⟩ := chk_zero.1 h
      exact Ev.bind (rrun_ev _ (by omega) _ (p_nf s h3) (by rw [p_nl]; exact h2)) (ev_some rfl)
  · rw [if_neg h, if_neg h]
    exact ev_neg h (ev_some rfl)
end Go.Proofs.Ytfnbodjmmkjlcaa.H
namespace Go.Proofs.Ytfnbodjmmkjlcaa.H
open Go.RowKit Go.Proofs.YtfnbodjmmkjlcaaW.PrintWords Go.Proofs.YtfnbodjmmkjlcaaW.PrintLast Go.Proofs.YtfnbodjmmkjlcaaW.PrintMore
set_option linter.unusedVariables false
set_option linter.unusedSimpArgs false
theorem live_ev : Ev (fun k => jalousielaw09_live.f k) true := by
  refine Ev.of (fun k => jalousielaw09_live.mono k) (k := 40) ?_
  decide +kernel
theorem few_l0 (s : List S47) (hf : Fit s) : ∀ (d i n : Nat), i + d = s.length → n ≤ 200 * i → ∃ r : Bool, Ev (fun k => jalousielaw09_few.l0 k s (n : Int) (i : Int)) r ∧ (r = true → s.length ≤ 120 ∧ (i ≤ 130 → n + nl (s.drop i) ≤ 120))
  | 0, i, n, h, hn => by
    have := hf.1
    by_cases h1 : n ≤ 120
    · refine ⟨decide ((s.length : Int) ≤ 120), ev_succ ?_, fun hr => ?_⟩
      · simp only [jalousielaw09_few.l0]
        (repeat (first | refine ev_pos (by omega) ?_ | refine ev_neg (by omega) ?_))
        exact ev_some rfl
      · have := of_decide_eq_true hr
        rw [List.drop_of_length_le (by omega), nl_nil]
        omega
    · refine ⟨false, ev_succ ?_, fun hr => by cases hr⟩
      simp only [jalousielaw09_few.l0]
      (repeat (first | refine ev_pos (by omega) ?_ | refine ev_neg (by omega) ?_))
      exact ev_some rfl
  | d + 1, i, n, h, hn => by
    have h0 := hf.1
    have hx := hf.2 _ (getD_mem (l := s) (i := i) (by omega) z47)
    by_cases hi : i < 130
    · obtain ⟨r, hr, hr2⟩ := few_l0 s hf d (i + 1) (n + min (s.getD i z47).f1.length 200) (by omega) (by omega)
      refine ⟨r, ev_succ ?_, fun e => ?_⟩
      · simp only [jalousielaw09_few.l0, rdE]
        have hm : wrap64 ((n : Int) + mn (((s.getD i z47).f1.length : Nat) : Int) 200) = ((n + min (s.getD i z47).f1.length 200 : Nat) : Int) := by
          unfold mn wrap64
          split <;> omega
        rw [w64s i (by omega), hm]
        (repeat (first | refine ev_pos (by omega) ?_ | refine ev_neg (by omega) ?_))
        exact hr
      · obtain ⟨h1, h2⟩ := hr2 e
        refine ⟨h1, fun _ => ?_⟩
        have h3 := h2 (by omega)
        rw [drop_cons s i (by omega) z47, nl_cons]
        omega
    · by_cases h1 : n ≤ 120
      · refine ⟨decide ((s.length : Int) ≤ 120), ev_succ ?_, fun hr => ?_⟩
        · simp only [jalousielaw09_few.l0]
          (repeat (first | refine ev_pos (by omega) ?_ | refine ev_neg (by omega) ?_))
          exact ev_some rfl
        · have := of_decide_eq_true hr
          omega
      · refine ⟨false, ev_succ ?_, fun hr => by cases hr⟩
        simp only [jalousielaw09_few.l0]
        (repeat (first | refine ev_pos (by omega) ?_ | refine ev_neg (by omega) ?_))
        exact ev_some rfl
theorem few_ev (s : List S47) (hf : Fit s) : ∃ r : Bool, Ev (fun k => jalousielaw09_few.f k s) r ∧ (r = true → s.length ≤ 120 ∧ nl s ≤ 120) := by
  obtain ⟨r, h1, h2⟩ := few_l0 s hf s.length 0 0 (by omega) (by omega)
  refine ⟨r, h1, fun e => ?_⟩
  obtain ⟨h3, h4⟩ := h2 e
  have := h4 (by omega)
  rw [List.drop_zero] at this
  exact ⟨h3, by omega⟩
theorem fit_of (s : List S47) (h : s.length * 32 ≤ 140737488351232 ∧ ∀ y_ ∈ s, sz47 y_) : Fit s := by
  refine ⟨by omega, fun x hx => ?_⟩
  have := (h.2 x hx).2.1
  omega
theorem bld_len (c : Nat) : ∀ (n : List S47) (a b : Nat) (cur : Option (Nat × Nat × List S47)) (ah : List S66), (bld c n a b cur ah).length ≤ n.length + (if cur.isSome = true then 1 else 0)
  | [], a, b, none, ah => by simp [bld]
  | [], a, b, some (a0, b0, now), ah => by simp [bld]
  | x :: xs, a, b, none, ah => by
    simp only [bld]
    split
    · have := bld_len c xs (a + ad3 x) (b + ad2 x) none x.f1
      simp at this ⊢
      omega
    · have := bld_len c xs (a + ad3 x) (b + ad2 x) (some (a - min c ah.length, b - min c ah.length, hunk_Build.lead c ah ++ [x])) []
      simp at this ⊢
      omega
  | x :: xs, a, b, some (a0, b0, now), ah => by
    have h1 := bld_len c xs (a + ad3 x) (b + ad2 x) none x.f1
    have h2 := bld_len c xs (a + ad3 x) (b + ad2 x) (some (a0, b0, now ++ [x])) ah
    simp only [bld]
    split
    · split
      · simp at h1 ⊢
        omega
      · simp at h2 ⊢
        omega
    · simp at h2 ⊢
      omega
theorem hnk_len (c : Nat) (n : List S47) : (hnk c n).length ≤ n.length := by
  have := bld_len c n 0 0 none []
  unfold hnk
  simpa using this
theorem hres_fit (s : List S47) (c : Int) : FitH (hres s c).1 := by
  unfold hres
  split
  · split
    · exact ⟨by simp, by simp⟩
    · rename_i h _
      obtain ⟨h1, h2, h3⟩ := chk_zero.1 h
      have hn := p_nf s h3
      have hl : nl (script_normal.p s) ≤ 800 := by rw [p_nl]; exact h2
      refine ⟨?_, fun x hx => ?_⟩
      · have h4 := hnk_len c.toNat (script_normal.p s)
        have := nf_len _ hn
        simp only
        omega
      · obtain ⟨h4, h5⟩ := hnk_nf _ _ hn hl x hx
        exact good_fit _ (by omega) (nf_good _ h4)
  · exact ⟨by simp, by simp⟩
end Go.Proofs.Ytfnbodjmmkjlcaa.H
end
section
namespace Go.Proofs.Ytfnbodjmmkjlcaa.Pure
open Go.RowKit Go.Proofs.Ytfnbodjmmkjlcaa Go.Proofs.Ytfnbodjmmkjlcaa.H Go.Proofs.YtfnbodjmmkjlcaaW.PrintWords Go.Proofs.YtfnbodjmmkjlcaaW.PrintLast Go.Proofs.YtfnbodjmmkjlcaaW.PrintMore
theorem HunkBuilds : jalousielaw09_HunkBuilds.Pure := by
  intro s c _ _ hs _
  have hf := fit_of s hs
  refine Ev.rounds ?_
  unfold jalousielaw09_HunkBuilds.f
  obtain ⟨r, hr, _⟩ := few_ev s hf
  refine Ev.bind hr ?_
  by_cases h : r = true
  · refine ev_pos h ?_
    refine Ev.bind (bld_ev s c hf) (Ev.bind (rbld_ev s c hf) (Ev.bind live_ev (ev_pos rfl ?_)))
    refine Ev.bind (hsame_ev _ _ (hres_fit s c)) ?_
    refine ev_pos (decide_eq_true rfl) (ev_some ?_)
    simp
  · exact ev_neg h (Ev.bind live_ev (ev_some rfl))
end Go.Proofs.Ytfnbodjmmkjlcaa.Pure
end
