-- PRINTED by print.py (a twelfth state) out of the translation. Not trusted: Lean checks it.
import Derived.Test.YtdbdfnkhbcgklaaSq
import Derived.Test.YtdbdfnkhbcgklaaRr
import Derived.RangeFuncNested
import Derived.RangeFuncBound
import Derived.RangeFuncCalls
import Derived.RangeFuncLeaves
import Derived.RangeFuncBox
import Derived.RangeFuncMany
import Derived.Shelf.Abstract
import Derived.OwnWalkIn
import Derived.TacticsInMore
import Derived.LoopNIn
import Derived.LoopIn
import Derived.Test.YtdbdfnkhbcgklaaV0
import Derived.Test.YtdbdfnkhbcgklaaV5
import Derived.Test.YtdbdfnkhbcgklaaV13
namespace Go.Proofs.Ytdbdfnkhbcgklaa.V
open Go.RowKit Go.Proofs.YtdbdfnkhbcgklaaW.PrintWords Go.Proofs.YtdbdfnkhbcgklaaW.PrintLast Go.Proofs.YtdbdfnkhbcgklaaW.PrintMore
attribute [local go_sem] max2_int min2_int max_two min_two max_three min_three max_four min_four   -- for this text's walks alone
set_option linter.unusedVariables false
set_option linter.unusedSimpArgs false

/-! ### view_Of: function 26 (by hand) -/
open Go.Shelf
attribute [local go_sem] Oper.semAt_some
/-- The line that one sees of an item. -/
def view_Of.ln (hidden : ByteArray) (x : S63) : S60 := ⟨if x.f2 = true then hidden else x.f3.f0, false⟩
def view_Of.lines (hidden : ByteArray) (xs : List S63) : List S60 := xs.map (view_Of.ln hidden)
/-- Behind the loop: the last one is Bare if its item is. -/
def view_Of.ended (hidden : ByteArray) (xs : List S63) : List S60 := match xs.getLast? with
  | none => []
  | some y => (view_Of.lines hidden xs).set (xs.length - 1) ⟨(view_Of.ln hidden y).f0, y.f3.f1⟩
def view_Of.f (l0 : List S63) (a1_0 a1_1 : Int) (a2 : ByteArray) : Option (List S60 × List Int) :=
  if l0.length ≤ 2513169434916 then some (view_Of.ended a2 ((view_seen.revs l0 ⟨a1_0, a1_1⟩ l0.length).map fun (j : Nat) => rd_T63 l0 (j : Int)), (view_seen.revs l0 ⟨a1_0, a1_1⟩ l0.length).map fun (j : Nat) => (j : Int)) else none
theorem view_Of.infoL : (Try.prog.info? 60).map (fun i => (i.zero, i.size, i.bytes)) = some (some (.agg #[.string (⟨#[]⟩ : ByteArray), .bool false]), 2, 24) := by kernel_rfl
theorem view_Of.infoI : (Try.prog.info? 3).map (fun i => (i.zero, i.size, i.bytes)) = some (some (.int .i64 0), 1, 8) := by kernel_rfl
def view_Of.lc (y : S60) : List Value := [.string y.f0, .bool y.f1]
def view_Of.bare (pre : List (Nat × S63)) : Bool := (pre.getLast?.map fun x => x.2.f3.f1).getD false
theorem view_Of.bare_snoc (pre : List (Nat × S63)) (x : Nat × S63) : view_Of.bare (pre ++ [x]) = x.2.f3.f1 := by simp [view_Of.bare]
def view_Of.lcs (hidden : ByteArray) (pre : List (Nat × S63)) : List Value := (view_Of.lines hidden (pre.map (·.2))).flatMap view_Of.lc
def view_Of.ics (pre : List (Nat × S63)) : List Value := (pre.map fun x => (x.1 : Int)).map (Value.int .i64)
theorem view_Of.lcs_snoc (hidden : ByteArray) (pre : List (Nat × S63)) (x : Nat × S63) : view_Of.lcs hidden (pre ++ [x]) = view_Of.lcs hidden pre ++ view_Of.lc (view_Of.ln hidden x.2) := by simp [view_Of.lcs, view_Of.lines]
theorem view_Of.ics_snoc (pre : List (Nat × S63)) (x : Nat × S63) : view_Of.ics (pre ++ [x]) = view_Of.ics pre ++ [.int .i64 (x.1 : Int)] := by simp [view_Of.ics]
theorem view_Of.ireps (w : World) (base : Nat) (ok : Nat → Prop) (pre : List (Nat × S63)) : Reps ((Kd.int .i64).M w base ok) 1 (pre.map fun x => (x.1 : Int)) (view_Of.ics pre) := by
  have : view_Of.ics pre = (pre.map fun x => (x.1 : Int)).flatMap fun i => [Value.int .i64 i] := by
    unfold view_Of.ics
    generalize (pre.map fun x => (x.1 : Int)) = ys
    induction ys with
    | nil => rfl
    | cons a b ih => rw [List.map_cons, List.flatMap_cons, ← ih]; rfl
  rw [this]
  exact Rr.reps (R := (Kd.int .i64).M w base ok) (c := fun i => [Value.int .i64 i]) (fun _ => rfl) (fun i => rfl) _
theorem view_Of.ended_snoc (hidden : ByteArray) (pre : List (Nat × S63)) (x : Nat × S63) : view_Of.ended hidden ((pre ++ [x]).map (·.2)) = view_Of.lines hidden (pre.map (·.2)) ++ [⟨(view_Of.ln hidden x.2).f0, x.2.f3.f1⟩] := by
  simp [view_Of.ended, view_Of.lines]
theorem view_Of.own_row {β : Type} {B base size n : Nat} {e : TypeId} {v : Value} {xs : List Value} : OwnFrom B (fun (_ : β) W => W.ownsRow base e size v n xs) := fun s X Y row hr hg hrow => by
  refine hr.kept hg ?_
  rcases hr.2 with ⟨rfl, _⟩ | ⟨g, cap, cur, rfl, _, hgb, _⟩
  · exact .inl rfl
  · refine .inr fun e' => ?_
    obtain ⟨_, o, ho, hc⟩ := hrow g (by simpa [Value.ownBlock] using e'.symm)
    rw [hgb] at ho; cases ho; cases hc
set_option maxRecDepth 100000 in
set_option maxHeartbeats 16000000 in
theorem view_Of.calls (A0 : Option Addr) (c0 : Nat) (l0 : List S63) (a1_0 a1_1 : Int) (a2 : ByteArray) (r1 : List S60) (r2 : List Int) (w : World) (hr0 : Kd.C k63 w A0 l0.length l0) (hc0 : l0.length ≤ c0) (h : view_Of.f l0 a1_0 a1_1 a2 = some (r1, r2)) :
    Calls Try.prog 26 #[.slice A0 l0.length c0, .agg #[.int .i64 a1_0, .int .u64 a1_1], .string a2] w fun e w' => ∃ v0_ v1_ : Value, e = .returned (.agg #[v0_, v1_]) ∧ Kd.R k60 60 w' w.heap.size (fun _ => True) v0_ r1 ∧ Kd.R (Kd.int .i64) 3 w' w.heap.size (fun _ => True) v1_ r2 ∧ Below w.heap.size w w' := by
  unfold view_Of.f at h
  split at h
  · rename_i hlen
    obtain ⟨rfl, rfl⟩ := Prod.mk.inj (Option.some.inj h)
    clear h
    have hxs : ((view_seen.revs l0 ⟨a1_0, a1_1⟩ l0.length).map fun (j : Nat) => rd_T63 l0 (j : Int)) = (view_seen.prs l0 ⟨a1_0, a1_1⟩ l0.length).map (·.2) := by simp [view_seen.prs]
    have his : ((view_seen.revs l0 ⟨a1_0, a1_1⟩ l0.length).map fun (j : Nat) => (j : Int)) = (view_seen.prs l0 ⟨a1_0, a1_1⟩ l0.length).map (fun x => (x.1 : Int)) := by simp [view_seen.prs]
    rw [hxs, his]
    obtain ⟨iL, hi, hz0, hz1, hz2⟩ := info_parts view_Of.infoL
    obtain ⟨iI, ji, jz0, jz1, jz2⟩ := info_parts view_Of.infoI
    have hu42 := Try.underlying42
    have hu60 := Try.underlying60
    have hu63 := Try.underlying63
    refine (callsIn_wide (n := 3)).1 ?_
    refine callsIn_of_wp_marks Try.func26 rfl trivial ?_ rfl
    simp only [Try.ntmps26, List.size_toArray, List.length_cons, List.length_nil, Nat.reduceAdd, Nat.reduceSub, Array.replicate_succ, Array.replicate_zero, List.push_toArray, List.append_toArray, List.nil_append, List.cons_append]
    gi_wp2_with (refine ⟨trivial, ?_⟩; gi_at_call 44; refine (view_seen.calls_in 2 A0 c0 l0.length ⟨a1_0, a1_1⟩ _).mono ?_; rintro e w' ⟨rfl, rfl⟩)
    -- THE LOOP
    have h1o := ((Below.heap_alloc ((((((w.alloc (.cells #[.int .i64 a1_0, .int .u64 a1_1] 25)).alloc (.cells #[.string a2] 9)).alloc (.cells #[.slice none 0 0, .slice none 0 0] 42)).alloc (.cells #[.slice none 0 0, .slice none 0 0] 42)).alloc (.cells #[.bool false] 4)).alloc (.cells #[.slice A0 l0.length c0] 39)) (.cells #[.int .i64 a1_0, .int .u64 a1_1] 25) _ (by simp)).trans ((Below.heap_alloc (((((w.alloc (.cells #[.int .i64 a1_0, .int .u64 a1_1] 25)).alloc (.cells #[.string a2] 9)).alloc (.cells #[.slice none 0 0, .slice none 0 0] 42)).alloc (.cells #[.slice none 0 0, .slice none 0 0] 42)).alloc (.cells #[.bool false] 4)) (.cells #[.slice A0 l0.length c0] 39) _ (by simp)).trans ((Below.heap_alloc ((((w.alloc (.cells #[.int .i64 a1_0, .int .u64 a1_1] 25)).alloc (.cells #[.string a2] 9)).alloc (.cells #[.slice none 0 0, .slice none 0 0] 42)).alloc (.cells #[.slice none 0 0, .slice none 0 0] 42)) (.cells #[.bool false] 4) _ (by simp)).trans ((Below.heap_alloc (((w.alloc (.cells #[.int .i64 a1_0, .int .u64 a1_1] 25)).alloc (.cells #[.string a2] 9)).alloc (.cells #[.slice none 0 0, .slice none 0 0] 42)) (.cells #[.slice none 0 0, .slice none 0 0] 42) _ (by simp)).trans ((Below.heap_alloc ((w.alloc (.cells #[.int .i64 a1_0, .int .u64 a1_1] 25)).alloc (.cells #[.string a2] 9)) (.cells #[.slice none 0 0, .slice none 0 0] 42) _ (by simp)).trans (World.alloc_heap_new (w.alloc (.cells #[.int .i64 a1_0, .int .u64 a1_1] 25)) (.cells #[.string a2] 9)))))))
    have h2o := ((Below.heap_alloc ((((((w.alloc (.cells #[.int .i64 a1_0, .int .u64 a1_1] 25)).alloc (.cells #[.string a2] 9)).alloc (.cells #[.slice none 0 0, .slice none 0 0] 42)).alloc (.cells #[.slice none 0 0, .slice none 0 0] 42)).alloc (.cells #[.bool false] 4)).alloc (.cells #[.slice A0 l0.length c0] 39)) (.cells #[.int .i64 a1_0, .int .u64 a1_1] 25) _ (by simp)).trans ((Below.heap_alloc (((((w.alloc (.cells #[.int .i64 a1_0, .int .u64 a1_1] 25)).alloc (.cells #[.string a2] 9)).alloc (.cells #[.slice none 0 0, .slice none 0 0] 42)).alloc (.cells #[.slice none 0 0, .slice none 0 0] 42)).alloc (.cells #[.bool false] 4)) (.cells #[.slice A0 l0.length c0] 39) _ (by simp)).trans ((Below.heap_alloc ((((w.alloc (.cells #[.int .i64 a1_0, .int .u64 a1_1] 25)).alloc (.cells #[.string a2] 9)).alloc (.cells #[.slice none 0 0, .slice none 0 0] 42)).alloc (.cells #[.slice none 0 0, .slice none 0 0] 42)) (.cells #[.bool false] 4) _ (by simp)).trans ((Below.heap_alloc (((w.alloc (.cells #[.int .i64 a1_0, .int .u64 a1_1] 25)).alloc (.cells #[.string a2] 9)).alloc (.cells #[.slice none 0 0, .slice none 0 0] 42)) (.cells #[.slice none 0 0, .slice none 0 0] 42) _ (by simp)).trans (World.alloc_heap_new ((w.alloc (.cells #[.int .i64 a1_0, .int .u64 a1_1] 25)).alloc (.cells #[.string a2] 9)) (.cells #[.slice none 0 0, .slice none 0 0] 42))))))
    have h3o := ((Below.heap_alloc ((((((w.alloc (.cells #[.int .i64 a1_0, .int .u64 a1_1] 25)).alloc (.cells #[.string a2] 9)).alloc (.cells #[.slice none 0 0, .slice none 0 0] 42)).alloc (.cells #[.slice none 0 0, .slice none 0 0] 42)).alloc (.cells #[.bool false] 4)).alloc (.cells #[.slice A0 l0.length c0] 39)) (.cells #[.int .i64 a1_0, .int .u64 a1_1] 25) _ (by simp)).trans ((Below.heap_alloc (((((w.alloc (.cells #[.int .i64 a1_0, .int .u64 a1_1] 25)).alloc (.cells #[.string a2] 9)).alloc (.cells #[.slice none 0 0, .slice none 0 0] 42)).alloc (.cells #[.slice none 0 0, .slice none 0 0] 42)).alloc (.cells #[.bool false] 4)) (.cells #[.slice A0 l0.length c0] 39) _ (by simp)).trans ((Below.heap_alloc ((((w.alloc (.cells #[.int .i64 a1_0, .int .u64 a1_1] 25)).alloc (.cells #[.string a2] 9)).alloc (.cells #[.slice none 0 0, .slice none 0 0] 42)).alloc (.cells #[.slice none 0 0, .slice none 0 0] 42)) (.cells #[.bool false] 4) _ (by simp)).trans (World.alloc_heap_new (((w.alloc (.cells #[.int .i64 a1_0, .int .u64 a1_1] 25)).alloc (.cells #[.string a2] 9)).alloc (.cells #[.slice none 0 0, .slice none 0 0] 42)) (.cells #[.slice none 0 0, .slice none 0 0] 42)))))
    have h4o := ((Below.heap_alloc ((((((w.alloc (.cells #[.int .i64 a1_0, .int .u64 a1_1] 25)).alloc (.cells #[.string a2] 9)).alloc (.cells #[.slice none 0 0, .slice none 0 0] 42)).alloc (.cells #[.slice none 0 0, .slice none 0 0] 42)).alloc (.cells #[.bool false] 4)).alloc (.cells #[.slice A0 l0.length c0] 39)) (.cells #[.int .i64 a1_0, .int .u64 a1_1] 25) _ (by simp)).trans ((Below.heap_alloc (((((w.alloc (.cells #[.int .i64 a1_0, .int .u64 a1_1] 25)).alloc (.cells #[.string a2] 9)).alloc (.cells #[.slice none 0 0, .slice none 0 0] 42)).alloc (.cells #[.slice none 0 0, .slice none 0 0] 42)).alloc (.cells #[.bool false] 4)) (.cells #[.slice A0 l0.length c0] 39) _ (by simp)).trans (World.alloc_heap_new ((((w.alloc (.cells #[.int .i64 a1_0, .int .u64 a1_1] 25)).alloc (.cells #[.string a2] 9)).alloc (.cells #[.slice none 0 0, .slice none 0 0] 42)).alloc (.cells #[.slice none 0 0, .slice none 0 0] 42)) (.cells #[.bool false] 4))))
    have h5o := ((Below.heap_alloc ((((((w.alloc (.cells #[.int .i64 a1_0, .int .u64 a1_1] 25)).alloc (.cells #[.string a2] 9)).alloc (.cells #[.slice none 0 0, .slice none 0 0] 42)).alloc (.cells #[.slice none 0 0, .slice none 0 0] 42)).alloc (.cells #[.bool false] 4)).alloc (.cells #[.slice A0 l0.length c0] 39)) (.cells #[.int .i64 a1_0, .int .u64 a1_1] 25) _ (by simp)).trans (World.alloc_heap_new (((((w.alloc (.cells #[.int .i64 a1_0, .int .u64 a1_1] 25)).alloc (.cells #[.string a2] 9)).alloc (.cells #[.slice none 0 0, .slice none 0 0] 42)).alloc (.cells #[.slice none 0 0, .slice none 0 0] 42)).alloc (.cells #[.bool false] 4)) (.cells #[.slice A0 l0.length c0] 39)))
    have h6o := (World.alloc_heap_new ((((((w.alloc (.cells #[.int .i64 a1_0, .int .u64 a1_1] 25)).alloc (.cells #[.string a2] 9)).alloc (.cells #[.slice none 0 0, .slice none 0 0] 42)).alloc (.cells #[.slice none 0 0, .slice none 0 0] 42)).alloc (.cells #[.bool false] 4)).alloc (.cells #[.slice A0 l0.length c0] 39)) (.cells #[.int .i64 a1_0, .int .u64 a1_1] 25))
    simp only [World.size_alloc, Nat.add_assoc, Nat.reduceAdd] at h1o h2o h3o h4o h5o h6o
    have hB0 : Below w.heap.size w (((((((w.alloc (.cells #[.int .i64 a1_0, .int .u64 a1_1] 25)).alloc (.cells #[.string a2] 9)).alloc (.cells #[.slice none 0 0, .slice none 0 0] 42)).alloc (.cells #[.slice none 0 0, .slice none 0 0] 42)).alloc (.cells #[.bool false] 4)).alloc (.cells #[.slice A0 l0.length c0] 39)).alloc (.cells #[.int .i64 a1_0, .int .u64 a1_1] 25)) := below_alloc (below_alloc (below_alloc (below_alloc (below_alloc (below_alloc (below_alloc (Below.refl _ _) _) _) _) _) _) _) _
    have hbl : (((((((w.alloc (.cells #[.int .i64 a1_0, .int .u64 a1_1] 25)).alloc (.cells #[.string a2] 9)).alloc (.cells #[.slice none 0 0, .slice none 0 0] 42)).alloc (.cells #[.slice none 0 0, .slice none 0 0] 42)).alloc (.cells #[.bool false] 4)).alloc (.cells #[.slice A0 l0.length c0] 39)).alloc (.cells #[.int .i64 a1_0, .int .u64 a1_1] 25)).cell? ⟨w.heap.size + 5, 0, none⟩ = some (.slice A0 l0.length c0) := (blk_cell h5o 0).trans rfl
    refine wpIn_rangeFunc_ownH rfl (by omega) (gf := 48) (lb := #[.pointer (some ⟨w.heap.size + 5, 0, none⟩), .pointer (some ⟨w.heap.size + 6, 0, none⟩)]) rfl trivial (enters_of Try.func48 (by kernel_rfl) rfl)
      (view_Cut.stops 2 (by omega) (w.heap.size + 5) (w.heap.size + 6) w _ A0 c0 l0 ⟨a1_0, a1_1⟩ hbl (by simp) h6o hr0 hc0 hB0) view_seen.Kp_t (view_seen.Kp_b (by simp; omega) (by simp)) (Below.refl _ _) (fun _ => rfl)
      (fun pre W => ∃ lv av, W.heap[w.heap.size + 3]? = some (.cells #[lv, av] 42 (0, 0)) ∧ W.ownsRow w.heap.size 60 2 lv pre.length (view_Of.lcs a2 pre) ∧ W.ownsRow w.heap.size 3 1 av pre.length (view_Of.ics pre) ∧ W.heap[w.heap.size + 4]? = some (.cells #[.bool (view_Of.bare pre)] 4 (0, 0)) ∧ W.heap[w.heap.size + 1]? = some (.cells #[.string a2] 9 (0, 0)) ∧ Below w.heap.size w W ∧ W.heap[w.heap.size + 6]? = some (.cells #[.int .i64 a1_0, .int .u64 a1_1] 25 (0, 0)) ∧ W.heap[w.heap.size + 2]? = some (.cells #[.slice none 0 0, .slice none 0 0] 42 (0, 0)))
      (fun _ _ _ => False)
      ?hI (fun _ _ _ _ _ hs _ _ => hs) ⟨_, _, h3o, World.ownsRow_nil _ _ _ _, World.ownsRow_nil _ _ _ _, h4o, h1o, hB0, h6o, h2o⟩
      (fun x a' W => ∃ Bx, w.heap.size + 6 < Bx ∧ W.heap[Bx]? = some (.cells #[.int .i64 x.2.f0, .int .i64 x.2.f1.f0, .int .u64 x.2.f1.f1, .bool x.2.f2, .string x.2.f3.f0, .bool x.2.f3.f1] 63 (0, 0)) ∧ a' = { tmps := #[.slice A0 l0.length c0, .agg #[.int .i64 a1_0, .int .u64 a1_1], .string a2, undef, .pointer (some ⟨w.heap.size, 0, none⟩), .pointer (some ⟨w.heap.size + 1, 0, none⟩), .pointer (some ⟨w.heap.size + 2, 0, none⟩), .pointer (some ⟨w.heap.size + 3, 0, none⟩), .pointer (some ⟨w.heap.size + 4, 0, none⟩), .int .i64 (x.1 : Int), .pointer (some ⟨Bx, 0, none⟩), undef, undef, .slice A0 l0.length c0, .agg #[.int .i64 a1_0, .int .u64 a1_1], .func (.func 48) #[] #[.pointer (some ⟨w.heap.size + 5, 0, none⟩), .pointer (some ⟨w.heap.size + 6, 0, none⟩)], .int .i64 (x.1 : Int), .agg #[.int .i64 x.2.f0, .int .i64 x.2.f1.f0, .int .u64 x.2.f1.f1, .bool x.2.f2, .string x.2.f3.f0, .bool x.2.f3.f1], undef, undef, undef, undef, undef, undef, undef, undef, undef, undef, undef, undef, undef, undef, undef, undef, undef, undef, undef, undef, undef, undef, undef, undef, undef, undef, undef, undef, undef, undef, undef, undef, undef, undef, undef], defers := [] })
      ?hAx ?assign ?body ?done ?stop
    case hI =>
      rintro s X Y row ⟨lv, av, h1, h2, h3, h4, h5, h6, h7, h8⟩ hg hr
      exact ⟨lv, av, view_Cut.own_blk s X Y row h1 hg hr, view_Of.own_row s X Y row h2 hg hr, view_Of.own_row s X Y row h3 hg hr, view_Cut.own_blk s X Y row h4 hg hr, view_Cut.own_blk s X Y row h5 hg hr, ownFrom_below (Nat.le_refl _) (by simp; omega) s X Y row h6 hg hr, view_Cut.own_blk s X Y row h7 hg hr, view_Cut.own_blk s X Y row h8 hg hr⟩
    case hAx =>
      intro x a' s X Y row hs hg hr
      obtain ⟨Bx, h1, h2, h3⟩ := hs
      exact ⟨Bx, h1, view_Cut.own_blk () X Y row h2 hg hr, h3⟩
    case assign =>
      rintro l pre x W K ⟨lv, av, h1, h2, h3, h4, h5, hB, hbo, hre⟩ hK
      gi_wp2
      have hlt := (Array.getElem?_eq_some_iff.1 hbo).1
      refine hK _ _ ((KeepsOthers.alloc _ _).from _) ⟨(Below.refl _ W).alloc hB.size _, Below.heap_alloc W _ _ hlt⟩ ⟨lv, av, (Below.heap_alloc W _ _ (by omega)).trans h1, h2.alloc _, h3.alloc _, (Below.heap_alloc W _ _ (by omega)).trans h4, (Below.heap_alloc W _ _ (by omega)).trans h5, hB.alloc hB.size _, (Below.heap_alloc W _ _ hlt).trans hbo, (Below.heap_alloc W _ _ (by omega)).trans hre⟩ ⟨W.heap.size, hlt, World.alloc_heap_new W _, rfl⟩
    case body =>
      rintro l pre x a' W hl ⟨r, hr⟩ ⟨lv, av, h1, h2, h3, h4, h5, hB, hbo, hre⟩ ⟨Bx, hBx, hX, rfl⟩ hlt
      have hc5 : W.cell? ⟨w.heap.size + 1, 0, none⟩ = some (.string a2) := (blk_cell h5 0).trans rfl
      have hv0 : W.cell? ⟨w.heap.size + 3, 0, none⟩ = some lv := (blk_cell h1 0).trans rfl
      have hv1 : W.cell? ⟨w.heap.size + 3, 1, none⟩ = some av := (blk_cell h1 1).trans rfl
      have hn0 : W.cell? ⟨Bx, 0, none⟩ = some (.int .i64 x.2.f0) := (blk_cell hX 0).trans rfl
      have hn1 : W.cell? ⟨Bx, 1, none⟩ = some (.int .i64 x.2.f1.f0) := (blk_cell hX 1).trans rfl
      have hn2 : W.cell? ⟨Bx, 2, none⟩ = some (.int .u64 x.2.f1.f1) := (blk_cell hX 2).trans rfl
      have hn3 : W.cell? ⟨Bx, 3, none⟩ = some (.bool x.2.f2) := (blk_cell hX 3).trans rfl
      have hn4 : W.cell? ⟨Bx, 4, none⟩ = some (.string x.2.f3.f0) := (blk_cell hX 4).trans rfl
      have hn5 : W.cell? ⟨Bx, 5, none⟩ = some (.bool x.2.f3.f1) := (blk_cell hX 5).trans rfl
      have ne1 : some (w.heap.size + 3) ≠ lv.ownBlock := Rr.blk_ne_row h1 h2 (by decide)
      have ne2 : some (w.heap.size + 3) ≠ av.ownBlock := Rr.blk_ne_row h1 h3 (by decide)
      have hlt3 : w.heap.size + 3 < W.heap.size := (Array.getElem?_eq_some_iff.1 h1).1
      have keep : ∀ X, Rr.Ag W X lv.ownBlock av.ownBlock → X.cell? ⟨w.heap.size + 3, 0, none⟩ = some lv ∧ X.cell? ⟨w.heap.size + 3, 1, none⟩ = some av := fun X ag => ⟨(blk_cell ((ag.block _ hlt3 ne1 ne2).trans h1) 0).trans rfl, (blk_cell ((ag.block _ hlt3 ne1 ne2).trans h1) 1).trans rfl⟩
      cases hf : x.2.f2
      · rw [hf] at hn3
        gi_wp2_with (fail)
        refine Rr.start (S := fun w' => w'.cell? ⟨w.heap.size + 3, 0, none⟩ = some lv ∧ w'.cell? ⟨w.heap.size + 3, 1, none⟩ = some av) (ds := [12, 14]) (Sq.bl 15 0) (by kernel_rfl) (by rintro ⟨_, _, h⟩; exact h) (by kernel_rfl) rfl (by rfl) ⟨hv0, hv1⟩ (fun hS => ?_)
        refine Sq.pu (v := ?_) (a' := ?_) 0 24 (Sq.bl 15 1) (by kernel_rfl) rfl rfl (fun _ _ _ h => h) (by rfl) ?_ ?_ ?_; rotate_left; (· intro w'; go_simp; with_reducible rfl); rotate_left; (· simp only [Act.put, List.setIfInBounds_toArray, List.set_cons_zero, List.set_cons_succ, i64_w, i32_w]; rfl)
        refine Sq.pu (v := ?_) (a' := ?_) 2 26 (Sq.bl 15 5) (by kernel_rfl) rfl rfl (fun _ _ _ h => h) (by rfl) ?_ ?_ ?_; rotate_left; (· intro w'; go_simp; with_reducible rfl); rotate_left; (· simp only [Act.put, List.setIfInBounds_toArray, List.set_cons_zero, List.set_cons_succ, i64_w, i32_w]; rfl)
        refine Sq.pu (v := ?_) (a' := ?_) 3 27 (Sq.bl 15 13) (by kernel_rfl) rfl rfl (fun _ _ _ h => h) (by rfl) ?_ ?_ ?_; rotate_left; (· intro w'; go_simp; with_reducible rfl); rotate_left; (· simp only [Act.put, List.setIfInBounds_toArray, List.set_cons_zero, List.set_cons_succ, i64_w, i32_w]; rfl)
        refine Sq.pu (v := ?_) (a' := ?_) 6 30 (Sq.bl 15 77) (by kernel_rfl) rfl rfl (fun _ _ _ h => h) (by rfl) ?_ ?_ ?_; rotate_left; (· intro w'; go_simp; with_reducible rfl); rotate_left; (· simp only [Act.put, List.setIfInBounds_toArray, List.set_cons_zero, List.set_cons_succ, i64_w, i32_w]; rfl)
        refine Sq.pu (v := ?_) (a' := ?_) 8 32 (Sq.bl 15 333) (by kernel_rfl) rfl rfl (fun _ _ _ h => h) (by rfl) ?_ ?_ ?_; rotate_left; (· intro w'; go_simp; with_reducible rfl); rotate_left; (· simp only [Act.put, List.setIfInBounds_toArray, List.set_cons_zero, List.set_cons_succ, i64_w, i32_w]; rfl)
        refine take_ (i := 1) (N := some 25) (v := ?_) (a' := ?_) (Sq.bl 15 335) rfl rfl (by kernel_rfl) (fun _ _ _ h => h) (Or.inl ⟨by rfl, ?_⟩) hS ?_ ?_; rotate_left; (· rintro w' ⟨s0, s1⟩; go_simp; with_reducible rfl); rotate_left; (· simp only [Act.put, List.setIfInBounds_toArray, List.set_cons_zero, List.set_cons_succ, i64_w, i32_w]; rfl)
        refine take_ (i := 7) (N := some 31) (v := ?_) (a' := ?_) (Sq.bl 15 463) rfl rfl (by kernel_rfl) (fun _ _ _ h => h) (Or.inl ⟨by rfl, ?_⟩) hS ?_ ?_; rotate_left; (· rintro w' ⟨s0, s1⟩; go_simp; with_reducible rfl); rotate_left; (· simp only [Act.put, List.setIfInBounds_toArray, List.set_cons_zero, List.set_cons_succ, i64_w, i32_w]; rfl)
        refine join_ 3 (Sq.bl 15 4095) (fun s : Value × Value × Value × Value => [(28, s.1), (29, s.2.1), (33, s.2.2.1), (34, s.2.2.2), (35, .pointer (some ⟨w.heap.size + 3, 0, none⟩))]) (fun s X => Rr.Ag W X lv.ownBlock av.ownBlock ∧ X.ownsRow w.heap.size 60 2 s.2.1 (pre.length + 1) (view_Of.lcs a2 pre ++ view_Of.lc (view_Of.ln a2 x.2)) ∧ X.ownsRow w.heap.size 3 1 s.2.2.2 (pre.length + 1) (view_Of.ics pre ++ [.int .i64 (x.1 : Int)])) ?tail (fun hcont => ?ord)
        case ord =>
          have hlc : view_Of.lc (view_Of.ln a2 x.2) = [.string x.2.f3.f0, .bool false] := by simp [view_Of.lc, view_Of.ln, hf]
          refine two_ (i := 4) (j := 9) (Ni := some 28) (Nj := some 33) (Sq.bl 15 479) (Sq.bl 15 975) rfl rfl rfl rfl (by kernel_rfl) (by decide) (by decide) (fun K hK => ?_) (fun K hK => ?_)
          · rw [if_pos (by rfl)]; unfold Oper.wp; go_simp
            have ag1 : Rr.Ag W ((W.alloc (.cells #[.string x.2.f3.f0, .bool false] 60)).drew) lv.ownBlock av.ownBlock := ((Rr.Ag.refl W _ _).alloc _).drew
            refine hK.out _ _ (keep _ ag1) (fun hS => ?_)
            refine two_ (i := 5) (j := 9) (Ni := some 29) (Nj := some 33) (Sq.bl 15 511) (Sq.bl 15 991) rfl rfl rfl rfl (by kernel_rfl) (by decide) (by decide) (fun K hK => ?_) (fun K hK => ?_)
            · refine Rr.app_step w.heap.size (by rfl) (.tmp 25) (.tmp 28) 40 60 _ 2 24 rfl Try.underlying40 view_Of.infoL rfl (by decide) (by decide) lv pre.length (view_Of.lcs a2 pre) (view_Of.lc (view_Of.ln a2 x.2)) _ (by rfl) (by rfl) rfl (fun j u hj => by rw [hlc] at hj; exact World.news_of_block (cs := #[.string x.2.f3.f0, .bool false]) (t := 60) (fr := (0, 0)) (World.alloc_heap_new W _) j u hj) (by simp [view_Of.lc, Value.oneCell']) (Rr.row_drew (h2.alloc _)) (Nat.le_trans hB.size ag1.size) (by omega) (fun v1 w1 hown hgr hat => ?_)
              have ag2 := ag1.grown hgr (.inl rfl)
              have Q2 := (Rr.row_drew (h3.alloc (.cells #[.string x.2.f3.f0, .bool false] 60))).kept hgr (Rr.rows_apart (Rr.row_drew (h3.alloc (.cells #[.string x.2.f3.f0, .bool false] 60))) (Rr.row_drew (h2.alloc (.cells #[.string x.2.f3.f0, .bool false] 60))) (by decide))
              refine hK.out _ _ (keep _ ag2) (fun hS => ?_)
              refine norm_ (a' := ?_) ?_ ?_; rotate_left; (· simp only [Act.put, List.setIfInBounds_toArray, List.set_cons_zero, List.set_cons_succ, i64_w, i32_w]; rfl)
              refine Sq.pu (v := ?_) (a' := ?_) 11 35 (Sq.bl 15 2559) (by kernel_rfl) rfl rfl (fun _ _ _ h => h) (by rfl) ?_ ?_ ?_; rotate_left; (· intro w'; go_simp; with_reducible rfl); rotate_left; (· simp only [Act.put, List.setIfInBounds_toArray, List.set_cons_zero, List.set_cons_succ, i64_w, i32_w]; rfl)
              refine one_ (i := 9) (N := some 33) (Sq.bl 15 3071) rfl rfl (by kernel_rfl) (by decide) (fun K hK => ?_)
              rw [if_pos (by rfl)]; unfold Oper.wp; go_simp
              have ag3 : Rr.Ag W (w1.alloc (.cells #[.int .i64 (x.1 : Int)] 3)) lv.ownBlock av.ownBlock := ag2.alloc _
              refine hK.out _ _ (keep _ ag3) (fun hS => ?_)
              refine one_ (i := 10) (N := some 34) (Sq.bl 15 4095) rfl rfl (by kernel_rfl) (by decide) (fun K hK => ?_)
              refine Rr.app_step w.heap.size (by rfl) (.tmp 31) (.tmp 33) 27 3 _ 1 8 rfl Try.underlying27 view_Of.infoI rfl (by decide) (by decide) av pre.length (view_Of.ics pre) [.int .i64 (x.1 : Int)] _ (by rfl) (by rfl) rfl (fun j u hj => World.news_of_block (cs := #[.int .i64 (x.1 : Int)]) (t := 3) (fr := (0, 0)) (World.alloc_heap_new w1 _) j u hj) (by simp [Value.oneCell']) (Q2.alloc _) (Nat.le_trans hB.size ag3.size) (by omega) (fun v2 w2 hown2 hgr2 hat2 => ?_)
              have ag4 := ag3.grown hgr2 (.inr (.inl rfl))
              refine hK.out _ _ (keep _ ag4) (fun hS => ?_)
              refine norm_ ?_ (hcont (.slice (some ⟨W.heap.size, 0, none⟩) 1 1, v1, .slice (some ⟨w1.heap.size, 0, none⟩) 1 1, v2) _ ⟨ag4, (hown.alloc (.cells #[.int .i64 (x.1 : Int)] 3)).kept hgr2 (Rr.rows_apart (hown.alloc (.cells #[.int .i64 (x.1 : Int)] 3)) (Q2.alloc (.cells #[.int .i64 (x.1 : Int)] 3)) (by decide)), hown2⟩); (simp only [putAll, Act.put, List.setIfInBounds_toArray, List.set_cons_zero, List.set_cons_succ]; rfl)
            · rw [if_pos (by rfl)]; unfold Oper.wp; go_simp
              have agY : Rr.Ag W (((W.alloc (.cells #[.string x.2.f3.f0, .bool false] 60)).alloc (.cells #[.int .i64 (x.1 : Int)] 3)).drew) lv.ownBlock av.ownBlock := (((Rr.Ag.refl W _ _).alloc _).alloc _).drew
              refine hK.out _ _ (keep _ agY) (fun hS => ?_)
              have Q1 := Rr.row_drew ((h2.alloc (.cells #[.string x.2.f3.f0, .bool false] 60)).alloc (.cells #[.int .i64 (x.1 : Int)] 3))
              have Q2 := Rr.row_drew ((h3.alloc (.cells #[.string x.2.f3.f0, .bool false] 60)).alloc (.cells #[.int .i64 (x.1 : Int)] 3))
              have bL : ((W.alloc (.cells #[.string x.2.f3.f0, .bool false] 60)).alloc (.cells #[.int .i64 (x.1 : Int)] 3)).drew.heap[W.heap.size]? = some (.cells #[.string x.2.f3.f0, .bool false] 60 (0, 0)) := (Below.heap_alloc (W.alloc (.cells #[.string x.2.f3.f0, .bool false] 60)) _ _ (by simp)).trans (World.alloc_heap_new W (.cells #[.string x.2.f3.f0, .bool false] 60))
              have bI : ((W.alloc (.cells #[.string x.2.f3.f0, .bool false] 60)).alloc (.cells #[.int .i64 (x.1 : Int)] 3)).drew.heap[W.heap.size + 1]? = some (.cells #[.int .i64 (x.1 : Int)] 3 (0, 0)) := by have := World.alloc_heap_new (W.alloc (.cells #[.string x.2.f3.f0, .bool false] 60)) (.cells #[.int .i64 (x.1 : Int)] 3); rwa [World.size_alloc] at this
              refine one_ (i := 5) (N := some 29) (Sq.bl 15 1023) rfl rfl (by kernel_rfl) (by decide) (fun K hK => ?_)
              refine Rr.app_step w.heap.size (by rfl) (.tmp 25) (.tmp 28) 40 60 _ 2 24 rfl Try.underlying40 view_Of.infoL rfl (by decide) (by decide) lv pre.length (view_Of.lcs a2 pre) (view_Of.lc (view_Of.ln a2 x.2)) _ (by rfl) (by rfl) rfl (fun j u hj => by rw [hlc] at hj; exact World.news_of_block (cs := #[.string x.2.f3.f0, .bool false]) (t := 60) (fr := (0, 0)) (bL) j u hj) (by simp [view_Of.lc, Value.oneCell']) Q1 (Nat.le_trans hB.size agY.size) (by omega) (fun v1 w1 hown hgr hat => ?_)
              have ag2 := agY.grown hgr (.inl rfl)
              refine hK.out _ _ (keep _ ag2) (fun hS => ?_)
              refine norm_ (a' := ?_) ?_ ?_; rotate_left; (· simp only [Act.put, List.setIfInBounds_toArray, List.set_cons_zero, List.set_cons_succ, i64_w, i32_w]; rfl)
              refine Sq.pu (v := ?_) (a' := ?_) 11 35 (Sq.bl 15 3071) (by kernel_rfl) rfl rfl (fun _ _ _ h => h) (by rfl) ?_ ?_ ?_; rotate_left; (· intro w'; go_simp; with_reducible rfl); rotate_left; (· simp only [Act.put, List.setIfInBounds_toArray, List.set_cons_zero, List.set_cons_succ, i64_w, i32_w]; rfl)
              have Q3 := Q2.kept hgr (Rr.rows_apart Q2 Q1 (by decide))
              have bI2 := (hgr.block _ (Array.getElem?_eq_some_iff.1 bI).1 (Rr.blk_ne_row bI Q1 (by decide))).trans bI
              refine one_ (i := 10) (N := some 34) (Sq.bl 15 4095) rfl rfl (by kernel_rfl) (by decide) (fun K hK => ?_)
              refine Rr.app_step w.heap.size (by rfl) (.tmp 31) (.tmp 33) 27 3 _ 1 8 rfl Try.underlying27 view_Of.infoI rfl (by decide) (by decide) av pre.length (view_Of.ics pre) [.int .i64 (x.1 : Int)] _ (by rfl) (by rfl) rfl (fun j u hj => World.news_of_block (cs := #[.int .i64 (x.1 : Int)]) (t := 3) (fr := (0, 0)) (bI2) j u hj) (by simp [Value.oneCell']) Q3 (Nat.le_trans hB.size ag2.size) (by omega) (fun v2 w2 hown2 hgr2 hat2 => ?_)
              have ag3 := ag2.grown hgr2 (.inr (.inl rfl))
              refine hK.out _ _ (keep _ ag3) (fun hS => ?_)
              refine norm_ ?_ (hcont (.slice (some ⟨W.heap.size, 0, none⟩) 1 1, v1, .slice (some ⟨W.heap.size + 1, 0, none⟩) 1 1, v2) _ ⟨ag3, hown.kept hgr2 (Rr.rows_apart hown Q3 (by decide)), hown2⟩); (simp only [putAll, Act.put, List.setIfInBounds_toArray, List.set_cons_zero, List.set_cons_succ]; rfl)
          · rw [if_pos (by rfl)]; unfold Oper.wp; go_simp
            have ag1 : Rr.Ag W ((W.alloc (.cells #[.int .i64 (x.1 : Int)] 3)).drew) lv.ownBlock av.ownBlock := ((Rr.Ag.refl W _ _).alloc _).drew
            refine hK.out _ _ (keep _ ag1) (fun hS => ?_)
            refine one_ (i := 4) (N := some 28) (Sq.bl 15 991) rfl rfl (by kernel_rfl) (by decide) (fun K hK => ?_)
            rw [if_pos (by rfl)]; unfold Oper.wp; go_simp
            have agY : Rr.Ag W (((W.alloc (.cells #[.int .i64 (x.1 : Int)] 3)).alloc (.cells #[.string x.2.f3.f0, .bool false] 60)).drew) lv.ownBlock av.ownBlock := (((Rr.Ag.refl W _ _).alloc _).alloc _).drew
            refine hK.out _ _ (keep _ agY) (fun hS => ?_)
            have Q1 := Rr.row_drew ((h2.alloc (.cells #[.int .i64 (x.1 : Int)] 3)).alloc (.cells #[.string x.2.f3.f0, .bool false] 60))
            have Q2 := Rr.row_drew ((h3.alloc (.cells #[.int .i64 (x.1 : Int)] 3)).alloc (.cells #[.string x.2.f3.f0, .bool false] 60))
            have bI : ((W.alloc (.cells #[.int .i64 (x.1 : Int)] 3)).alloc (.cells #[.string x.2.f3.f0, .bool false] 60)).drew.heap[W.heap.size]? = some (.cells #[.int .i64 (x.1 : Int)] 3 (0, 0)) := (Below.heap_alloc (W.alloc (.cells #[.int .i64 (x.1 : Int)] 3)) _ _ (by simp)).trans (World.alloc_heap_new W (.cells #[.int .i64 (x.1 : Int)] 3))
            have bL : ((W.alloc (.cells #[.int .i64 (x.1 : Int)] 3)).alloc (.cells #[.string x.2.f3.f0, .bool false] 60)).drew.heap[W.heap.size + 1]? = some (.cells #[.string x.2.f3.f0, .bool false] 60 (0, 0)) := by have := World.alloc_heap_new (W.alloc (.cells #[.int .i64 (x.1 : Int)] 3)) (.cells #[.string x.2.f3.f0, .bool false] 60); rwa [World.size_alloc] at this
            refine one_ (i := 5) (N := some 29) (Sq.bl 15 1023) rfl rfl (by kernel_rfl) (by decide) (fun K hK => ?_)
            refine Rr.app_step w.heap.size (by rfl) (.tmp 25) (.tmp 28) 40 60 _ 2 24 rfl Try.underlying40 view_Of.infoL rfl (by decide) (by decide) lv pre.length (view_Of.lcs a2 pre) (view_Of.lc (view_Of.ln a2 x.2)) _ (by rfl) (by rfl) rfl (fun j u hj => by rw [hlc] at hj; exact World.news_of_block (cs := #[.string x.2.f3.f0, .bool false]) (t := 60) (fr := (0, 0)) (bL) j u hj) (by simp [view_Of.lc, Value.oneCell']) Q1 (Nat.le_trans hB.size agY.size) (by omega) (fun v1 w1 hown hgr hat => ?_)
            have ag2 := agY.grown hgr (.inl rfl)
            refine hK.out _ _ (keep _ ag2) (fun hS => ?_)
            refine norm_ (a' := ?_) ?_ ?_; rotate_left; (· simp only [Act.put, List.setIfInBounds_toArray, List.set_cons_zero, List.set_cons_succ, i64_w, i32_w]; rfl)
            refine Sq.pu (v := ?_) (a' := ?_) 11 35 (Sq.bl 15 3071) (by kernel_rfl) rfl rfl (fun _ _ _ h => h) (by rfl) ?_ ?_ ?_; rotate_left; (· intro w'; go_simp; with_reducible rfl); rotate_left; (· simp only [Act.put, List.setIfInBounds_toArray, List.set_cons_zero, List.set_cons_succ, i64_w, i32_w]; rfl)
            have Q3 := Q2.kept hgr (Rr.rows_apart Q2 Q1 (by decide))
            have bI2 := (hgr.block _ (Array.getElem?_eq_some_iff.1 bI).1 (Rr.blk_ne_row bI Q1 (by decide))).trans bI
            refine one_ (i := 10) (N := some 34) (Sq.bl 15 4095) rfl rfl (by kernel_rfl) (by decide) (fun K hK => ?_)
            refine Rr.app_step w.heap.size (by rfl) (.tmp 31) (.tmp 33) 27 3 _ 1 8 rfl Try.underlying27 view_Of.infoI rfl (by decide) (by decide) av pre.length (view_Of.ics pre) [.int .i64 (x.1 : Int)] _ (by rfl) (by rfl) rfl (fun j u hj => World.news_of_block (cs := #[.int .i64 (x.1 : Int)]) (t := 3) (fr := (0, 0)) (bI2) j u hj) (by simp [Value.oneCell']) Q3 (Nat.le_trans hB.size ag2.size) (by omega) (fun v2 w2 hown2 hgr2 hat2 => ?_)
            have ag3 := ag2.grown hgr2 (.inr (.inl rfl))
            refine hK.out _ _ (keep _ ag3) (fun hS => ?_)
            refine norm_ ?_ (hcont (.slice (some ⟨W.heap.size + 1, 0, none⟩) 1 1, v1, .slice (some ⟨W.heap.size, 0, none⟩) 1 1, v2) _ ⟨ag3, hown.kept hgr2 (Rr.rows_apart hown Q3 (by decide)), hown2⟩); (simp only [putAll, Act.put, List.setIfInBounds_toArray, List.set_cons_zero, List.set_cons_succ]; rfl)
        case tail =>
          rintro ⟨p1, v1, p2, v2⟩ X ⟨ag, Q1, Q2⟩
          dsimp only at Q1 Q2
          refine norm_ (a' := ?_) ?_ ?_; rotate_left; (· simp only [putAll, Act.put, List.setIfInBounds_toArray, List.set_cons_zero, List.set_cons_succ, i64_w, i32_w]; rfl)
          obtain ⟨g1, cap1, rfl⟩ := ownsRow_succ Q1
          obtain ⟨g2, cap2, rfl⟩ := ownsRow_succ Q2
          have hX3 := (ag.block _ hlt3 ne1 ne2).trans h1
          have hX3c := blk_cell hX3 0
          have hX3f := blk_frozen hX3 0
          refine last_ (i := 12) (N := none) (Sq.bl 15 8191) rfl rfl (by kernel_rfl) (by decide) (fun K hK => ?_)
          rw [if_pos (by rfl)]; unfold Oper.wp; go_simp
          refine hK.out _ _ ?_
          refine Sq.pu (v := ?_) (a' := ?_) 13 36 (Sq.bl 15 16383) (by kernel_rfl) rfl rfl (fun _ _ _ h => h) (by rfl) ?_ ?_ ?_; rotate_left; (· intro w'; go_simp; with_reducible rfl); rotate_left; (· simp only [Act.put, List.setIfInBounds_toArray, List.set_cons_zero, List.set_cons_succ, i64_w, i32_w]; rfl)
          have hY3 := blk_put hX3 0 (.slice (some ⟨g1, 0, none⟩) (pre.length + 1) cap1) rfl
          have hY3c := blk_cell hY3 1
          have hY3f := blk_frozen hY3 1
          refine last_ (i := 14) (N := none) (Sq.bl 15 32767) rfl rfl (by kernel_rfl) (by decide) (fun K hK => ?_)
          rw [if_pos (by rfl)]; unfold Oper.wp; go_simp
          refine hK.out _ _ ?_
          refine done_ (by kernel_rfl) ?_
          have hZ3 := blk_put hY3 1 (.slice (some ⟨g2, 0, none⟩) (pre.length + 1) cap2) rfl
          have S1 := Rr.row_set (Rr.row_set Q1 hX3 (by decide) 0 (.slice (some ⟨g1, 0, none⟩) (pre.length + 1) cap1)) hY3 (by decide) 1 (.slice (some ⟨g2, 0, none⟩) (pre.length + 1) cap2)
          have S2 := Rr.row_set (Rr.row_set Q2 hX3 (by decide) 0 (.slice (some ⟨g1, 0, none⟩) (pre.length + 1) cap1)) hY3 (by decide) 1 (.slice (some ⟨g2, 0, none⟩) (pre.length + 1) cap2)
          have kk := (ag.keeps (Rr.row_cells h2) (Rr.row_cells h3)).trans ((KeepsOthers.setCell X ⟨w.heap.size + 3, 0, none⟩ (.slice (some ⟨g1, 0, none⟩) (pre.length + 1) cap1)).trans (KeepsOthers.setCell _ ⟨w.heap.size + 3, 1, none⟩ (.slice (some ⟨g2, 0, none⟩) (pre.length + 1) cap2)))
          have bw := ((ag.below hB.size (Rr.row_ge h2) (Rr.row_ge h3)).setCell (p := ⟨w.heap.size + 3, 0, none⟩) (by simp) (.slice (some ⟨g1, 0, none⟩) (pre.length + 1) cap1)).setCell (p := ⟨w.heap.size + 3, 1, none⟩) (by simp) (.slice (some ⟨g2, 0, none⟩) (pre.length + 1) cap2)
          have kz : ∀ k (o : Obj), W.heap[k]? = some o → some k ≠ lv.ownBlock → some k ≠ av.ownBlock → k ≠ w.heap.size + 3 → ((X.setCell ⟨w.heap.size + 3, 0, none⟩ (.slice (some ⟨g1, 0, none⟩) (pre.length + 1) cap1)).setCell ⟨w.heap.size + 3, 1, none⟩ (.slice (some ⟨g2, 0, none⟩) (pre.length + 1) cap2)).heap[k]? = some o := fun k o hk n1 n2 n3 => (Below.heap_setCell _ _ _ _ n3).trans ((Below.heap_setCell _ _ _ _ n3).trans ((ag.block _ (Array.getElem?_eq_some_iff.1 hk).1 n1 n2).trans hk))
          have zX := kz _ _ hX (Rr.blk_ne_row hX h2 (by decide)) (Rr.blk_ne_row hX h3 (by decide)) (by omega)
          have z4 := kz _ _ h4 (Rr.blk_ne_row h4 h2 (by decide)) (Rr.blk_ne_row h4 h3 (by decide)) (by omega)
          have z5 := kz _ _ h5 (Rr.blk_ne_row h5 h2 (by decide)) (Rr.blk_ne_row h5 h3 (by decide)) (by omega)
          have zbo := kz _ _ hbo (Rr.blk_ne_row hbo h2 (by decide)) (Rr.blk_ne_row hbo h3 (by decide)) (by omega)
          have zre := kz _ _ hre (Rr.blk_ne_row hre h2 (by decide)) (Rr.blk_ne_row hre h3 (by decide)) (by omega)
          have zX5 := blk_cell zX 5
          have z4c := blk_cell z4 0
          have z4f := blk_frozen z4 0
          clear hX3c hX3f hY3c hY3f keep
          generalize hZ : (X.setCell ⟨w.heap.size + 3, 0, none⟩ (.slice (some ⟨g1, 0, none⟩) (pre.length + 1) cap1)).setCell ⟨w.heap.size + 3, 1, none⟩ (.slice (some ⟨g2, 0, none⟩) (pre.length + 1) cap2) = Z at *
          gi_wp2
          have z4s := blk_put z4 0 (.bool x.2.f3.f1) rfl
          have b4 := bw.setCell (p := ⟨w.heap.size + 4, 0, none⟩) (by simp) (.bool x.2.f3.f1)
          have zs : ∀ k (o : Obj), Z.heap[k]? = some o → k ≠ w.heap.size + 4 → (Z.setCell ⟨w.heap.size + 4, 0, none⟩ (.bool x.2.f3.f1)).heap[k]? = some o := fun k o hk n => (Below.heap_setCell _ _ _ _ n).trans hk
          refine ⟨(kk.trans (KeepsOthers.setCell _ _ _)).from _, ⟨b4, (zs _ _ zbo (by omega)).trans hbo.symm⟩, ⟨_, _, zs _ _ hZ3 (by omega), ?_, ?_, ?_, zs _ _ z5 (by omega), hB.trans b4, zs _ _ zbo (by omega), zs _ _ zre (by omega)⟩⟩
          · rw [view_Of.lcs_snoc, List.length_append, List.length_singleton]; exact Rr.row_set S1 z4 (by decide) 0 _
          · rw [view_Of.ics_snoc, List.length_append, List.length_singleton]; exact Rr.row_set S2 z4 (by decide) 0 _
          · rw [view_Of.bare_snoc]; exact z4s
      · rw [hf] at hn3
        gi_wp2_with (fail)
        refine Rr.start (S := fun w' => w'.cell? ⟨w.heap.size + 3, 0, none⟩ = some lv ∧ w'.cell? ⟨w.heap.size + 3, 1, none⟩ = some av) (ds := [12, 14]) (Sq.bl 15 0) (by kernel_rfl) (by rintro ⟨_, _, h⟩; exact h) (by kernel_rfl) rfl (by rfl) ⟨hv0, hv1⟩ (fun hS => ?_)
        refine Sq.pu (v := ?_) (a' := ?_) 0 24 (Sq.bl 15 1) (by kernel_rfl) rfl rfl (fun _ _ _ h => h) (by rfl) ?_ ?_ ?_; rotate_left; (· intro w'; go_simp; with_reducible rfl); rotate_left; (· simp only [Act.put, List.setIfInBounds_toArray, List.set_cons_zero, List.set_cons_succ, i64_w, i32_w]; rfl)
        refine Sq.pu (v := ?_) (a' := ?_) 2 26 (Sq.bl 15 5) (by kernel_rfl) rfl rfl (fun _ _ _ h => h) (by rfl) ?_ ?_ ?_; rotate_left; (· intro w'; go_simp; with_reducible rfl); rotate_left; (· simp only [Act.put, List.setIfInBounds_toArray, List.set_cons_zero, List.set_cons_succ, i64_w, i32_w]; rfl)
        refine Sq.pu (v := ?_) (a' := ?_) 3 27 (Sq.bl 15 13) (by kernel_rfl) rfl rfl (fun _ _ _ h => h) (by rfl) ?_ ?_ ?_; rotate_left; (· intro w'; go_simp; with_reducible rfl); rotate_left; (· simp only [Act.put, List.setIfInBounds_toArray, List.set_cons_zero, List.set_cons_succ, i64_w, i32_w]; rfl)
        refine Sq.pu (v := ?_) (a' := ?_) 6 30 (Sq.bl 15 77) (by kernel_rfl) rfl rfl (fun _ _ _ h => h) (by rfl) ?_ ?_ ?_; rotate_left; (· intro w'; go_simp; with_reducible rfl); rotate_left; (· simp only [Act.put, List.setIfInBounds_toArray, List.set_cons_zero, List.set_cons_succ, i64_w, i32_w]; rfl)
        refine Sq.pu (v := ?_) (a' := ?_) 8 32 (Sq.bl 15 333) (by kernel_rfl) rfl rfl (fun _ _ _ h => h) (by rfl) ?_ ?_ ?_; rotate_left; (· intro w'; go_simp; with_reducible rfl); rotate_left; (· simp only [Act.put, List.setIfInBounds_toArray, List.set_cons_zero, List.set_cons_succ, i64_w, i32_w]; rfl)
        refine take_ (i := 1) (N := some 25) (v := ?_) (a' := ?_) (Sq.bl 15 335) rfl rfl (by kernel_rfl) (fun _ _ _ h => h) (Or.inl ⟨by rfl, ?_⟩) hS ?_ ?_; rotate_left; (· rintro w' ⟨s0, s1⟩; go_simp; with_reducible rfl); rotate_left; (· simp only [Act.put, List.setIfInBounds_toArray, List.set_cons_zero, List.set_cons_succ, i64_w, i32_w]; rfl)
        refine take_ (i := 7) (N := some 31) (v := ?_) (a' := ?_) (Sq.bl 15 463) rfl rfl (by kernel_rfl) (fun _ _ _ h => h) (Or.inl ⟨by rfl, ?_⟩) hS ?_ ?_; rotate_left; (· rintro w' ⟨s0, s1⟩; go_simp; with_reducible rfl); rotate_left; (· simp only [Act.put, List.setIfInBounds_toArray, List.set_cons_zero, List.set_cons_succ, i64_w, i32_w]; rfl)
        refine join_ 3 (Sq.bl 15 4095) (fun s : Value × Value × Value × Value => [(28, s.1), (29, s.2.1), (33, s.2.2.1), (34, s.2.2.2), (35, .pointer (some ⟨w.heap.size + 3, 0, none⟩))]) (fun s X => Rr.Ag W X lv.ownBlock av.ownBlock ∧ X.ownsRow w.heap.size 60 2 s.2.1 (pre.length + 1) (view_Of.lcs a2 pre ++ view_Of.lc (view_Of.ln a2 x.2)) ∧ X.ownsRow w.heap.size 3 1 s.2.2.2 (pre.length + 1) (view_Of.ics pre ++ [.int .i64 (x.1 : Int)])) ?tail (fun hcont => ?ord)
        case ord =>
          have hlc : view_Of.lc (view_Of.ln a2 x.2) = [.string a2, .bool false] := by simp [view_Of.lc, view_Of.ln, hf]
          refine two_ (i := 4) (j := 9) (Ni := some 28) (Nj := some 33) (Sq.bl 15 479) (Sq.bl 15 975) rfl rfl rfl rfl (by kernel_rfl) (by decide) (by decide) (fun K hK => ?_) (fun K hK => ?_)
          · rw [if_pos (by rfl)]; unfold Oper.wp; go_simp
            have ag1 : Rr.Ag W ((W.alloc (.cells #[.string a2, .bool false] 60)).drew) lv.ownBlock av.ownBlock := ((Rr.Ag.refl W _ _).alloc _).drew
            refine hK.out _ _ (keep _ ag1) (fun hS => ?_)
            refine two_ (i := 5) (j := 9) (Ni := some 29) (Nj := some 33) (Sq.bl 15 511) (Sq.bl 15 991) rfl rfl rfl rfl (by kernel_rfl) (by decide) (by decide) (fun K hK => ?_) (fun K hK => ?_)
            · refine Rr.app_step w.heap.size (by rfl) (.tmp 25) (.tmp 28) 40 60 _ 2 24 rfl Try.underlying40 view_Of.infoL rfl (by decide) (by decide) lv pre.length (view_Of.lcs a2 pre) (view_Of.lc (view_Of.ln a2 x.2)) _ (by rfl) (by rfl) rfl (fun j u hj => by rw [hlc] at hj; exact World.news_of_block (cs := #[.string a2, .bool false]) (t := 60) (fr := (0, 0)) (World.alloc_heap_new W _) j u hj) (by simp [view_Of.lc, Value.oneCell']) (Rr.row_drew (h2.alloc _)) (Nat.le_trans hB.size ag1.size) (by omega) (fun v1 w1 hown hgr hat => ?_)
              have ag2 := ag1.grown hgr (.inl rfl)
              have Q2 := (Rr.row_drew (h3.alloc (.cells #[.string a2, .bool false] 60))).kept hgr (Rr.rows_apart (Rr.row_drew (h3.alloc (.cells #[.string a2, .bool false] 60))) (Rr.row_drew (h2.alloc (.cells #[.string a2, .bool false] 60))) (by decide))
              refine hK.out _ _ (keep _ ag2) (fun hS => ?_)
              refine norm_ (a' := ?_) ?_ ?_; rotate_left; (· simp only [Act.put, List.setIfInBounds_toArray, List.set_cons_zero, List.set_cons_succ, i64_w, i32_w]; rfl)
              refine Sq.pu (v := ?_) (a' := ?_) 11 35 (Sq.bl 15 2559) (by kernel_rfl) rfl rfl (fun _ _ _ h => h) (by rfl) ?_ ?_ ?_; rotate_left; (· intro w'; go_simp; with_reducible rfl); rotate_left; (· simp only [Act.put, List.setIfInBounds_toArray, List.set_cons_zero, List.set_cons_succ, i64_w, i32_w]; rfl)
              refine one_ (i := 9) (N := some 33) (Sq.bl 15 3071) rfl rfl (by kernel_rfl) (by decide) (fun K hK => ?_)
              rw [if_pos (by rfl)]; unfold Oper.wp; go_simp
              have ag3 : Rr.Ag W (w1.alloc (.cells #[.int .i64 (x.1 : Int)] 3)) lv.ownBlock av.ownBlock := ag2.alloc _
              refine hK.out _ _ (keep _ ag3) (fun hS => ?_)
              refine one_ (i := 10) (N := some 34) (Sq.bl 15 4095) rfl rfl (by kernel_rfl) (by decide) (fun K hK => ?_)
              refine Rr.app_step w.heap.size (by rfl) (.tmp 31) (.tmp 33) 27 3 _ 1 8 rfl Try.underlying27 view_Of.infoI rfl (by decide) (by decide) av pre.length (view_Of.ics pre) [.int .i64 (x.1 : Int)] _ (by rfl) (by rfl) rfl (fun j u hj => World.news_of_block (cs := #[.int .i64 (x.1 : Int)]) (t := 3) (fr := (0, 0)) (World.alloc_heap_new w1 _) j u hj) (by simp [Value.oneCell']) (Q2.alloc _) (Nat.le_trans hB.size ag3.size) (by omega) (fun v2 w2 hown2 hgr2 hat2 => ?_)
              have ag4 := ag3.grown hgr2 (.inr (.inl rfl))
              refine hK.out _ _ (keep _ ag4) (fun hS => ?_)
              refine norm_ ?_ (hcont (.slice (some ⟨W.heap.size, 0, none⟩) 1 1, v1, .slice (some ⟨w1.heap.size, 0, none⟩) 1 1, v2) _ ⟨ag4, (hown.alloc (.cells #[.int .i64 (x.1 : Int)] 3)).kept hgr2 (Rr.rows_apart (hown.alloc (.cells #[.int .i64 (x.1 : Int)] 3)) (Q2.alloc (.cells #[.int .i64 (x.1 : Int)] 3)) (by decide)), hown2⟩); (simp only [putAll, Act.put, List.setIfInBounds_toArray, List.set_cons_zero, List.set_cons_succ]; rfl)
            · rw [if_pos (by rfl)]; unfold Oper.wp; go_simp
              have agY : Rr.Ag W (((W.alloc (.cells #[.string a2, .bool false] 60)).alloc (.cells #[.int .i64 (x.1 : Int)] 3)).drew) lv.ownBlock av.ownBlock := (((Rr.Ag.refl W _ _).alloc _).alloc _).drew
              refine hK.out _ _ (keep _ agY) (fun hS => ?_)
              have Q1 := Rr.row_drew ((h2.alloc (.cells #[.string a2, .bool false] 60)).alloc (.cells #[.int .i64 (x.1 : Int)] 3))
              have Q2 := Rr.row_drew ((h3.alloc (.cells #[.string a2, .bool false] 60)).alloc (.cells #[.int .i64 (x.1 : Int)] 3))
              have bL : ((W.alloc (.cells #[.string a2, .bool false] 60)).alloc (.cells #[.int .i64 (x.1 : Int)] 3)).drew.heap[W.heap.size]? = some (.cells #[.string a2, .bool false] 60 (0, 0)) := (Below.heap_alloc (W.alloc (.cells #[.string a2, .bool false] 60)) _ _ (by simp)).trans (World.alloc_heap_new W (.cells #[.string a2, .bool false] 60))
              have bI : ((W.alloc (.cells #[.string a2, .bool false] 60)).alloc (.cells #[.int .i64 (x.1 : Int)] 3)).drew.heap[W.heap.size + 1]? = some (.cells #[.int .i64 (x.1 : Int)] 3 (0, 0)) := by have := World.alloc_heap_new (W.alloc (.cells #[.string a2, .bool false] 60)) (.cells #[.int .i64 (x.1 : Int)] 3); rwa [World.size_alloc] at this
              refine one_ (i := 5) (N := some 29) (Sq.bl 15 1023) rfl rfl (by kernel_rfl) (by decide) (fun K hK => ?_)
              refine Rr.app_step w.heap.size (by rfl) (.tmp 25) (.tmp 28) 40 60 _ 2 24 rfl Try.underlying40 view_Of.infoL rfl (by decide) (by decide) lv pre.length (view_Of.lcs a2 pre) (view_Of.lc (view_Of.ln a2 x.2)) _ (by rfl) (by rfl) rfl (fun j u hj => by rw [hlc] at hj; exact World.news_of_block (cs := #[.string a2, .bool false]) (t := 60) (fr := (0, 0)) (bL) j u hj) (by simp [view_Of.lc, Value.oneCell']) Q1 (Nat.le_trans hB.size agY.size) (by omega) (fun v1 w1 hown hgr hat => ?_)
              have ag2 := agY.grown hgr (.inl rfl)
              refine hK.out _ _ (keep _ ag2) (fun hS => ?_)
              refine norm_ (a' := ?_) ?_ ?_; rotate_left; (· simp only [Act.put, List.setIfInBounds_toArray, List.set_cons_zero, List.set_cons_succ, i64_w, i32_w]; rfl)
              refine Sq.pu (v := ?_) (a' := ?_) 11 35 (Sq.bl 15 3071) (by kernel_rfl) rfl rfl (fun _ _ _ h => h) (by rfl) ?_ ?_ ?_; rotate_left; (· intro w'; go_simp; with_reducible rfl); rotate_left; (· simp only [Act.put, List.setIfInBounds_toArray, List.set_cons_zero, List.set_cons_succ, i64_w, i32_w]; rfl)
              have Q3 := Q2.kept hgr (Rr.rows_apart Q2 Q1 (by decide))
              have bI2 := (hgr.block _ (Array.getElem?_eq_some_iff.1 bI).1 (Rr.blk_ne_row bI Q1 (by decide))).trans bI
              refine one_ (i := 10) (N := some 34) (Sq.bl 15 4095) rfl rfl (by kernel_rfl) (by decide) (fun K hK => ?_)
              refine Rr.app_step w.heap.size (by rfl) (.tmp 31) (.tmp 33) 27 3 _ 1 8 rfl Try.underlying27 view_Of.infoI rfl (by decide) (by decide) av pre.length (view_Of.ics pre) [.int .i64 (x.1 : Int)] _ (by rfl) (by rfl) rfl (fun j u hj => World.news_of_block (cs := #[.int .i64 (x.1 : Int)]) (t := 3) (fr := (0, 0)) (bI2) j u hj) (by simp [Value.oneCell']) Q3 (Nat.le_trans hB.size ag2.size) (by omega) (fun v2 w2 hown2 hgr2 hat2 => ?_)
              have ag3 := ag2.grown hgr2 (.inr (.inl rfl))
              refine hK.out _ _ (keep _ ag3) (fun hS => ?_)
              refine norm_ ?_ (hcont (.slice (some ⟨W.heap.size, 0, none⟩) 1 1, v1, .slice (some ⟨W.heap.size + 1, 0, none⟩) 1 1, v2) _ ⟨ag3, hown.kept hgr2 (Rr.rows_apart hown Q3 (by decide)), hown2⟩); (simp only [putAll, Act.put, List.setIfInBounds_toArray, List.set_cons_zero, List.set_cons_succ]; rfl)
          · rw [if_pos (by rfl)]; unfold Oper.wp; go_simp
            have ag1 : Rr.Ag W ((W.alloc (.cells #[.int .i64 (x.1 : Int)] 3)).drew) lv.ownBlock av.ownBlock := ((Rr.Ag.refl W _ _).alloc _).drew
            refine hK.out _ _ (keep _ ag1) (fun hS => ?_)
            refine one_ (i := 4) (N := some 28) (Sq.bl 15 991) rfl rfl (by kernel_rfl) (by decide) (fun K hK => ?_)
            rw [if_pos (by rfl)]; unfold Oper.wp; go_simp
            have agY : Rr.Ag W (((W.alloc (.cells #[.int .i64 (x.1 : Int)] 3)).alloc (.cells #[.string a2, .bool false] 60)).drew) lv.ownBlock av.ownBlock := (((Rr.Ag.refl W _ _).alloc _).alloc _).drew
            refine hK.out _ _ (keep _ agY) (fun hS => ?_)
            have Q1 := Rr.row_drew ((h2.alloc (.cells #[.int .i64 (x.1 : Int)] 3)).alloc (.cells #[.string a2, .bool false] 60))
            have Q2 := Rr.row_drew ((h3.alloc (.cells #[.int .i64 (x.1 : Int)] 3)).alloc (.cells #[.string a2, .bool false] 60))
            have bI : ((W.alloc (.cells #[.int .i64 (x.1 : Int)] 3)).alloc (.cells #[.string a2, .bool false] 60)).drew.heap[W.heap.size]? = some (.cells #[.int .i64 (x.1 : Int)] 3 (0, 0)) := (Below.heap_alloc (W.alloc (.cells #[.int .i64 (x.1 : Int)] 3)) _ _ (by simp)).trans (World.alloc_heap_new W (.cells #[.int .i64 (x.1 : Int)] 3))
            have bL : ((W.alloc (.cells #[.int .i64 (x.1 : Int)] 3)).alloc (.cells #[.string a2, .bool false] 60)).drew.heap[W.heap.size + 1]? = some (.cells #[.string a2, .bool false] 60 (0, 0)) := by have := World.alloc_heap_new (W.alloc (.cells #[.int .i64 (x.1 : Int)] 3)) (.cells #[.string a2, .bool false] 60); rwa [World.size_alloc] at this
            refine one_ (i := 5) (N := some 29) (Sq.bl 15 1023) rfl rfl (by kernel_rfl) (by decide) (fun K hK => ?_)
            refine Rr.app_step w.heap.size (by rfl) (.tmp 25) (.tmp 28) 40 60 _ 2 24 rfl Try.underlying40 view_Of.infoL rfl (by decide) (by decide) lv pre.length (view_Of.lcs a2 pre) (view_Of.lc (view_Of.ln a2 x.2)) _ (by rfl) (by rfl) rfl (fun j u hj => by rw [hlc] at hj; exact World.news_of_block (cs := #[.string a2, .bool false]) (t := 60) (fr := (0, 0)) (bL) j u hj) (by simp [view_Of.lc, Value.oneCell']) Q1 (Nat.le_trans hB.size agY.size) (by omega) (fun v1 w1 hown hgr hat => ?_)
            have ag2 := agY.grown hgr (.inl rfl)
            refine hK.out _ _ (keep _ ag2) (fun hS => ?_)
            refine norm_ (a' := ?_) ?_ ?_; rotate_left; (· simp only [Act.put, List.setIfInBounds_toArray, List.set_cons_zero, List.set_cons_succ, i64_w, i32_w]; rfl)
            refine Sq.pu (v := ?_) (a' := ?_) 11 35 (Sq.bl 15 3071) (by kernel_rfl) rfl rfl (fun _ _ _ h => h) (by rfl) ?_ ?_ ?_; rotate_left; (· intro w'; go_simp; with_reducible rfl); rotate_left; (· simp only [Act.put, List.setIfInBounds_toArray, List.set_cons_zero, List.set_cons_succ, i64_w, i32_w]; rfl)
            have Q3 := Q2.kept hgr (Rr.rows_apart Q2 Q1 (by decide))
            have bI2 := (hgr.block _ (Array.getElem?_eq_some_iff.1 bI).1 (Rr.blk_ne_row bI Q1 (by decide))).trans bI
            refine one_ (i := 10) (N := some 34) (Sq.bl 15 4095) rfl rfl (by kernel_rfl) (by decide) (fun K hK => ?_)
            refine Rr.app_step w.heap.size (by rfl) (.tmp 31) (.tmp 33) 27 3 _ 1 8 rfl Try.underlying27 view_Of.infoI rfl (by decide) (by decide) av pre.length (view_Of.ics pre) [.int .i64 (x.1 : Int)] _ (by rfl) (by rfl) rfl (fun j u hj => World.news_of_block (cs := #[.int .i64 (x.1 : Int)]) (t := 3) (fr := (0, 0)) (bI2) j u hj) (by simp [Value.oneCell']) Q3 (Nat.le_trans hB.size ag2.size) (by omega) (fun v2 w2 hown2 hgr2 hat2 => ?_)
            have ag3 := ag2.grown hgr2 (.inr (.inl rfl))
            refine hK.out _ _ (keep _ ag3) (fun hS => ?_)
            refine norm_ ?_ (hcont (.slice (some ⟨W.heap.size + 1, 0, none⟩) 1 1, v1, .slice (some ⟨W.heap.size, 0, none⟩) 1 1, v2) _ ⟨ag3, hown.kept hgr2 (Rr.rows_apart hown Q3 (by decide)), hown2⟩); (simp only [putAll, Act.put, List.setIfInBounds_toArray, List.set_cons_zero, List.set_cons_succ]; rfl)
        case tail =>
          rintro ⟨p1, v1, p2, v2⟩ X ⟨ag, Q1, Q2⟩
          dsimp only at Q1 Q2
          refine norm_ (a' := ?_) ?_ ?_; rotate_left; (· simp only [putAll, Act.put, List.setIfInBounds_toArray, List.set_cons_zero, List.set_cons_succ, i64_w, i32_w]; rfl)
          obtain ⟨g1, cap1, rfl⟩ := ownsRow_succ Q1
          obtain ⟨g2, cap2, rfl⟩ := ownsRow_succ Q2
          have hX3 := (ag.block _ hlt3 ne1 ne2).trans h1
          have hX3c := blk_cell hX3 0
          have hX3f := blk_frozen hX3 0
          refine last_ (i := 12) (N := none) (Sq.bl 15 8191) rfl rfl (by kernel_rfl) (by decide) (fun K hK => ?_)
          rw [if_pos (by rfl)]; unfold Oper.wp; go_simp
          refine hK.out _ _ ?_
          refine Sq.pu (v := ?_) (a' := ?_) 13 36 (Sq.bl 15 16383) (by kernel_rfl) rfl rfl (fun _ _ _ h => h) (by rfl) ?_ ?_ ?_; rotate_left; (· intro w'; go_simp; with_reducible rfl); rotate_left; (· simp only [Act.put, List.setIfInBounds_toArray, List.set_cons_zero, List.set_cons_succ, i64_w, i32_w]; rfl)
          have hY3 := blk_put hX3 0 (.slice (some ⟨g1, 0, none⟩) (pre.length + 1) cap1) rfl
          have hY3c := blk_cell hY3 1
          have hY3f := blk_frozen hY3 1
          refine last_ (i := 14) (N := none) (Sq.bl 15 32767) rfl rfl (by kernel_rfl) (by decide) (fun K hK => ?_)
          rw [if_pos (by rfl)]; unfold Oper.wp; go_simp
          refine hK.out _ _ ?_
          refine done_ (by kernel_rfl) ?_
          have hZ3 := blk_put hY3 1 (.slice (some ⟨g2, 0, none⟩) (pre.length + 1) cap2) rfl
          have S1 := Rr.row_set (Rr.row_set Q1 hX3 (by decide) 0 (.slice (some ⟨g1, 0, none⟩) (pre.length + 1) cap1)) hY3 (by decide) 1 (.slice (some ⟨g2, 0, none⟩) (pre.length + 1) cap2)
          have S2 := Rr.row_set (Rr.row_set Q2 hX3 (by decide) 0 (.slice (some ⟨g1, 0, none⟩) (pre.length + 1) cap1)) hY3 (by decide) 1 (.slice (some ⟨g2, 0, none⟩) (pre.length + 1) cap2)
          have kk := (ag.keeps (Rr.row_cells h2) (Rr.row_cells h3)).trans ((KeepsOthers.setCell X ⟨w.heap.size + 3, 0, none⟩ (.slice (some ⟨g1, 0, none⟩) (pre.length + 1) cap1)).trans (KeepsOthers.setCell _ ⟨w.heap.size + 3, 1, none⟩ (.slice (some ⟨g2, 0, none⟩) (pre.length + 1) cap2)))
          have bw := ((ag.below hB.size (Rr.row_ge h2) (Rr.row_ge h3)).setCell (p := ⟨w.heap.size + 3, 0, none⟩) (by simp) (.slice (some ⟨g1, 0, none⟩) (pre.length + 1) cap1)).setCell (p := ⟨w.heap.size + 3, 1, none⟩) (by simp) (.slice (some ⟨g2, 0, none⟩) (pre.length + 1) cap2)
          have kz : ∀ k (o : Obj), W.heap[k]? = some o → some k ≠ lv.ownBlock → some k ≠ av.ownBlock → k ≠ w.heap.size + 3 → ((X.setCell ⟨w.heap.size + 3, 0, none⟩ (.slice (some ⟨g1, 0, none⟩) (pre.length + 1) cap1)).setCell ⟨w.heap.size + 3, 1, none⟩ (.slice (some ⟨g2, 0, none⟩) (pre.length + 1) cap2)).heap[k]? = some o := fun k o hk n1 n2 n3 => (Below.heap_setCell _ _ _ _ n3).trans ((Below.heap_setCell _ _ _ _ n3).trans ((ag.block _ (Array.getElem?_eq_some_iff.1 hk).1 n1 n2).trans hk))
          have zX := kz _ _ hX (Rr.blk_ne_row hX h2 (by decide)) (Rr.blk_ne_row hX h3 (by decide)) (by omega)
          have z4 := kz _ _ h4 (Rr.blk_ne_row h4 h2 (by decide)) (Rr.blk_ne_row h4 h3 (by decide)) (by omega)
          have z5 := kz _ _ h5 (Rr.blk_ne_row h5 h2 (by decide)) (Rr.blk_ne_row h5 h3 (by decide)) (by omega)
          have zbo := kz _ _ hbo (Rr.blk_ne_row hbo h2 (by decide)) (Rr.blk_ne_row hbo h3 (by decide)) (by omega)
          have zre := kz _ _ hre (Rr.blk_ne_row hre h2 (by decide)) (Rr.blk_ne_row hre h3 (by decide)) (by omega)
          have zX5 := blk_cell zX 5
          have z4c := blk_cell z4 0
          have z4f := blk_frozen z4 0
          clear hX3c hX3f hY3c hY3f keep
          generalize hZ : (X.setCell ⟨w.heap.size + 3, 0, none⟩ (.slice (some ⟨g1, 0, none⟩) (pre.length + 1) cap1)).setCell ⟨w.heap.size + 3, 1, none⟩ (.slice (some ⟨g2, 0, none⟩) (pre.length + 1) cap2) = Z at *
          gi_wp2
          have z4s := blk_put z4 0 (.bool x.2.f3.f1) rfl
          have b4 := bw.setCell (p := ⟨w.heap.size + 4, 0, none⟩) (by simp) (.bool x.2.f3.f1)
          have zs : ∀ k (o : Obj), Z.heap[k]? = some o → k ≠ w.heap.size + 4 → (Z.setCell ⟨w.heap.size + 4, 0, none⟩ (.bool x.2.f3.f1)).heap[k]? = some o := fun k o hk n => (Below.heap_setCell _ _ _ _ n).trans hk
          refine ⟨(kk.trans (KeepsOthers.setCell _ _ _)).from _, ⟨b4, (zs _ _ zbo (by omega)).trans hbo.symm⟩, ⟨_, _, zs _ _ hZ3 (by omega), ?_, ?_, ?_, zs _ _ z5 (by omega), hB.trans b4, zs _ _ zbo (by omega), zs _ _ zre (by omega)⟩⟩
          · rw [view_Of.lcs_snoc, List.length_append, List.length_singleton]; exact Rr.row_set S1 z4 (by decide) 0 _
          · rw [view_Of.ics_snoc, List.length_append, List.length_singleton]; exact Rr.row_set S2 z4 (by decide) 0 _
          · rw [view_Of.bare_snoc]; exact z4s
    case done =>
      rintro D ys W hD rfl ⟨lv, av, h1, h2, h3, h4, h5, hB, hbo, hre⟩ hK
      have hmm : (view_seen.prs l0 ⟨a1_0, a1_1⟩ l0.length).length ≤ l0.length := by rw [view_seen.prs_length]; exact view_seen.revs_le _ _ _
      have hc0 : W.cell? ⟨w.heap.size + 3, 0, none⟩ = some lv := (blk_cell h1 0).trans rfl
      have hc1 : W.cell? ⟨w.heap.size + 3, 1, none⟩ = some av := (blk_cell h1 1).trans rfl
      have hcr0 : W.cell? ⟨w.heap.size + 2, 0, none⟩ = some (.slice none 0 0) := (blk_cell hre 0).trans rfl
      have hcr1 : W.cell? ⟨w.heap.size + 2, 1, none⟩ = some (.slice none 0 0) := (blk_cell hre 1).trans rfl
      have hfr0 := blk_frozen hre 0
      have hfr1 := blk_frozen hre 1
      rcases List.eq_nil_or_concat (view_seen.prs l0 ⟨a1_0, a1_1⟩ l0.length) with hp | ⟨pre, x, hp⟩
      · have hre1 := blk_put hre 0 lv rfl
        have hcs1 : (W.setCell ⟨w.heap.size + 2, 0, none⟩ lv).cell? ⟨w.heap.size + 2, 1, none⟩ = some (.slice none 0 0) := (blk_cell hre1 1).trans rfl
        have hfs1 := blk_frozen hre1 1
        have hre2 := blk_put hre1 1 av rfl
        have hcs2 : ((W.setCell ⟨w.heap.size + 2, 0, none⟩ lv).setCell ⟨w.heap.size + 2, 1, none⟩ av).cell? ⟨w.heap.size + 2, 0, none⟩ = some lv := (blk_cell hre2 0).trans rfl
        have hcs3 : ((W.setCell ⟨w.heap.size + 2, 0, none⟩ lv).setCell ⟨w.heap.size + 2, 1, none⟩ av).cell? ⟨w.heap.size + 2, 1, none⟩ = some av := (blk_cell hre2 1).trans rfl
        rw [hp] at h2 h3 h4
        rw [List.length_nil] at h2 h3
        have hc4 := blk_cell h4 0
        have S1 := Rr.row_set (Rr.row_set h2 hre (by decide) 0 lv) hre1 (by decide) 1 av
        have S2 := Rr.row_set (Rr.row_set h3 hre (by decide) 0 lv) hre1 (by decide) 1 av
        have kk := (KeepsOthers.setCell W ⟨w.heap.size + 2, 0, none⟩ lv).trans (KeepsOthers.setCell _ ⟨w.heap.size + 2, 1, none⟩ av)
        have bz := (hB.setCell (p := ⟨w.heap.size + 2, 0, none⟩) (by simp) lv).setCell (p := ⟨w.heap.size + 2, 1, none⟩) (by simp) av
        have hKZ := kk.same D _ hK rfl
        have hblk := (grownBy_putObj' ((W.setCell ⟨w.heap.size + 2, 0, none⟩ lv).setCell ⟨w.heap.size + 2, 1, none⟩ av) D (.deferred none)).block _ (Array.getElem?_eq_some_iff.1 hre2).1 (fun e => by cases e; rw [hre2] at hKZ; cases hKZ)
        have hcp0 : (((W.setCell ⟨w.heap.size + 2, 0, none⟩ lv).setCell ⟨w.heap.size + 2, 1, none⟩ av).putObj D (.deferred none)).cell? ⟨w.heap.size + 2, 0, none⟩ = some (lv) := (blk_cell (hblk.trans hre2) 0).trans rfl
        have hcp1 : (((W.setCell ⟨w.heap.size + 2, 0, none⟩ lv).setCell ⟨w.heap.size + 2, 1, none⟩ av).putObj D (.deferred none)).cell? ⟨w.heap.size + 2, 1, none⟩ = some (av) := (blk_cell (hblk.trans hre2) 1).trans rfl
        have bq := bz.trans (belowK_b (w := w) (Nat.le_refl _) _ D _ (.deferred none) (by simp at hD; omega) hKZ rfl rfl)
        have T1 := ownsRow_putObj S1 (.deferred none) hKZ rfl
        have T2 := ownsRow_putObj S2 (.deferred none) hKZ rfl
        rcases h2.2 with ⟨rfl, _⟩ | ⟨g, cap, cur, rfl, hg0, hgb, _⟩
        all_goals rcases h3.2 with ⟨rfl, _⟩ | ⟨gi, capi, curi, rfl, hgi0, hgib, _⟩
        all_goals gi_wp2
        all_goals try rw [hp]
        all_goals refine ⟨by simp, .inl ⟨_, _, rfl, run_takeDeferred hKZ, ?_⟩⟩
        all_goals refine ⟨_, ?_, _, _, rfl, ⟨fun _ _ => trivial, _, T1, Rr.reps (c := view_Of.lc) (fun _ => rfl) (fun x => k60_mkM _ _ _ x) _⟩, ⟨fun _ _ => trivial, _, T2, view_Of.ireps _ _ _ _⟩, bq⟩
        all_goals simp only [Nat.add_assoc, Nat.reduceAdd]
        all_goals simp [results, Try.f26, go_sem, hcp0, hcp1]
      · rw [hp] at h2 h3 h4 hmm
        rw [List.concat_eq_append] at h2 h3 h4 hmm
        simp only [List.length_append, List.length_singleton] at h2 h3 hmm
        rw [view_Of.bare_snoc] at h4
        have hc4 : W.cell? ⟨w.heap.size + 4, 0, none⟩ = some (.bool x.2.f3.f1) := (blk_cell h4 0).trans rfl
        obtain ⟨g, cap, rfl⟩ := ownsRow_succ h2
        obtain ⟨gi, capi, rfl⟩ := ownsRow_succ h3
        have hpl : pre.length ≤ 2513169434916 := by omega
        have hll : (view_Of.lcs a2 pre).length = pre.length * 2 := by have := h2.1; rw [view_Of.lcs_snoc, List.length_append] at this; simp [view_Of.lc] at this; omega
        have hrow : view_Of.lcs a2 (pre ++ [x]) = view_Of.lcs a2 pre ++ [.string (view_Of.ln a2 x.2).f0, .bool false] := view_Of.lcs_snoc _ _ _
        rw [hrow] at h2
        obtain ⟨hga, hgf⟩ := Rr.row_cell h2 (pre.length * 2 + 1) (u := .bool false) (by rw [List.getElem?_append_right (by omega), hll, Nat.add_sub_cancel_left]; rfl)
        have h2' := Rr.row_own_set h2 (pre.length * 2 + 1) (.bool x.2.f3.f1)
        rw [List.set_append_right _ _ (by omega), hll, Nat.add_sub_cancel_left] at h2'
        have ng : ∀ k cs t, W.heap[k]? = some (.cells cs t (0, 0)) → t ≠ 60 → k ≠ g := fun k cs t hk ht e => Rr.blk_ne_row hk h2 ht (by rw [e]; rfl)
        have e3 := (Below.heap_setCell W ⟨g, pre.length * 2 + 1, none⟩ (.bool x.2.f3.f1) _ (ng _ _ _ h1 (by decide))).trans h1
        have ee := (Below.heap_setCell W ⟨g, pre.length * 2 + 1, none⟩ (.bool x.2.f3.f1) _ (ng _ _ _ hre (by decide))).trans hre
        have e3c0 : (W.setCell ⟨g, pre.length * 2 + 1, none⟩ (.bool x.2.f3.f1)).cell? ⟨w.heap.size + 3, 0, none⟩ = some (.slice (some ⟨g, 0, none⟩) (pre.length + 1) cap) := (blk_cell e3 0).trans rfl
        have e3c1 : (W.setCell ⟨g, pre.length * 2 + 1, none⟩ (.bool x.2.f3.f1)).cell? ⟨w.heap.size + 3, 1, none⟩ = some (.slice (some ⟨gi, 0, none⟩) (pre.length + 1) capi) := (blk_cell e3 1).trans rfl
        have eec0 : (W.setCell ⟨g, pre.length * 2 + 1, none⟩ (.bool x.2.f3.f1)).cell? ⟨w.heap.size + 2, 0, none⟩ = some (.slice none 0 0) := (blk_cell ee 0).trans rfl
        have eef := blk_frozen ee 0
        have hre1 := blk_put ee 0 (.slice (some ⟨g, 0, none⟩) (pre.length + 1) cap) rfl
        have hcs1 := (blk_cell hre1 1).trans rfl
        have hfs1 := blk_frozen hre1 1
        have hre2 := blk_put hre1 1 (.slice (some ⟨gi, 0, none⟩) (pre.length + 1) capi) rfl
        have hcs2 := (blk_cell hre2 0).trans rfl
        have hcs3 := (blk_cell hre2 1).trans rfl
        have R1 := h3.kept (Rr.grown_set W ⟨g, pre.length * 2 + 1, none⟩ (.bool x.2.f3.f1)) (Rr.rows_apart h3 h2 (by decide))
        have S1 := Rr.row_set (Rr.row_set h2' ee (by decide) 0 (.slice (some ⟨g, 0, none⟩) (pre.length + 1) cap)) hre1 (by decide) 1 (.slice (some ⟨gi, 0, none⟩) (pre.length + 1) capi)
        have S2 := Rr.row_set (Rr.row_set R1 ee (by decide) 0 (.slice (some ⟨g, 0, none⟩) (pre.length + 1) cap)) hre1 (by decide) 1 (.slice (some ⟨gi, 0, none⟩) (pre.length + 1) capi)
        have kk := (KeepsOthers.setCell W ⟨g, pre.length * 2 + 1, none⟩ (.bool x.2.f3.f1)).trans ((KeepsOthers.setCell _ ⟨w.heap.size + 2, 0, none⟩ (.slice (some ⟨g, 0, none⟩) (pre.length + 1) cap)).trans (KeepsOthers.setCell _ ⟨w.heap.size + 2, 1, none⟩ (.slice (some ⟨gi, 0, none⟩) (pre.length + 1) capi)))
        have bz := ((hB.setCell (p := ⟨g, pre.length * 2 + 1, none⟩) (Rr.row_ge h2 g rfl) (.bool x.2.f3.f1)).setCell (p := ⟨w.heap.size + 2, 0, none⟩) (by simp) (.slice (some ⟨g, 0, none⟩) (pre.length + 1) cap)).setCell (p := ⟨w.heap.size + 2, 1, none⟩) (by simp) (.slice (some ⟨gi, 0, none⟩) (pre.length + 1) capi)
        have hKZ := kk.same D _ hK rfl
        have hblk := (grownBy_putObj' (((W.setCell ⟨g, pre.length * 2 + 1, none⟩ (.bool x.2.f3.f1)).setCell ⟨w.heap.size + 2, 0, none⟩ (.slice (some ⟨g, 0, none⟩) (pre.length + 1) cap)).setCell ⟨w.heap.size + 2, 1, none⟩ (.slice (some ⟨gi, 0, none⟩) (pre.length + 1) capi)) D (.deferred none)).block _ (Array.getElem?_eq_some_iff.1 hre2).1 (fun e => by cases e; rw [hre2] at hKZ; cases hKZ)
        have hcp0 : ((((W.setCell ⟨g, pre.length * 2 + 1, none⟩ (.bool x.2.f3.f1)).setCell ⟨w.heap.size + 2, 0, none⟩ (.slice (some ⟨g, 0, none⟩) (pre.length + 1) cap)).setCell ⟨w.heap.size + 2, 1, none⟩ (.slice (some ⟨gi, 0, none⟩) (pre.length + 1) capi)).putObj D (.deferred none)).cell? ⟨w.heap.size + 2, 0, none⟩ = some (.slice (some ⟨g, 0, none⟩) (pre.length + 1) cap) := (blk_cell (hblk.trans hre2) 0).trans rfl
        have hcp1 : ((((W.setCell ⟨g, pre.length * 2 + 1, none⟩ (.bool x.2.f3.f1)).setCell ⟨w.heap.size + 2, 0, none⟩ (.slice (some ⟨g, 0, none⟩) (pre.length + 1) cap)).setCell ⟨w.heap.size + 2, 1, none⟩ (.slice (some ⟨gi, 0, none⟩) (pre.length + 1) capi)).putObj D (.deferred none)).cell? ⟨w.heap.size + 2, 1, none⟩ = some (.slice (some ⟨gi, 0, none⟩) (pre.length + 1) capi) := (blk_cell (hblk.trans hre2) 1).trans rfl
        have bq := bz.trans (belowK_b (w := w) (Nat.le_refl _) _ D _ (.deferred none) (by simp at hD; omega) hKZ rfl rfl)
        have T1 := ownsRow_putObj S1 (.deferred none) hKZ rfl
        have T2 := ownsRow_putObj S2 (.deferred none) hKZ rfl
        gi_wp2
        try rw [hp]
        rw [List.concat_eq_append, view_Of.ended_snoc]
        refine ⟨by simp, .inl ⟨_, _, rfl, run_takeDeferred hKZ, ?_⟩⟩
        refine ⟨.agg #[.slice (some ⟨g, 0, none⟩) (pre.length + 1) cap, .slice (some ⟨gi, 0, none⟩) (pre.length + 1) capi], ?_, (.slice (some ⟨g, 0, none⟩) (pre.length + 1) cap), (.slice (some ⟨gi, 0, none⟩) (pre.length + 1) capi), rfl, ⟨fun _ _ => trivial, _, ?_, Rr.reps (c := view_Of.lc) (fun _ => rfl) (fun x => k60_mkM _ _ _ x) _⟩, ⟨fun _ _ => trivial, _, ?_, view_Of.ireps _ _ _ _⟩, bq⟩
        · simp only [Nat.add_assoc, Nat.reduceAdd]
          simp [results, Try.f26, go_sem, hcp0, hcp1]
        · have hT : (view_Of.lines a2 (pre.map (·.2)) ++ [(⟨(view_Of.ln a2 x.2).f0, x.2.f3.f1⟩ : S60)]).flatMap view_Of.lc = view_Of.lcs a2 pre ++ [.string (view_Of.ln a2 x.2).f0, .bool x.2.f3.f1] := by simp [view_Of.lcs, view_Of.lc]
          have hL : (view_Of.lines a2 (pre.map (·.2)) ++ [(⟨(view_Of.ln a2 x.2).f0, x.2.f3.f1⟩ : S60)]).length = pre.length + 1 := by simp [view_Of.lines]
          rw [hT, hL]
          exact T1
        · have hL : ((pre ++ [x]).map fun x => (x.1 : Int)).length = pre.length + 1 := by simp
          rw [hL]
          exact T2
    case stop =>
      rintro D c pre W _ _ h _
      exact h.elim
  · cases h


end Go.Proofs.Ytdbdfnkhbcgklaa.V
