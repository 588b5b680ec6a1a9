/-
  What the claim needs of the words, of the walks and of the plain proofs, in one row (5).
-/
import Derived.Deep.RegionHeld3
import Derived.WalkLawsBesides
import Derived.WalkSpells
import Derived.RangeFuncNested
import Derived.RangeFuncBound
import Derived.RangeFuncCalls
import Derived.RangeFuncLeaves
import Derived.RangeFuncBox
import Derived.RangeFuncMany
import Derived.Shelf.Abstract
import Derived.OwnWalkIn
import Derived.TacticsInMore
import Derived.LoopNIn
import Derived.LoopIn
import Derived.Test.YtfnbodjmmkjlcaaZ0
import Derived.Test.YtfnbodjmmkjlcaaZ1
import Derived.Test.YtfnbodjmmkjlcaaZ4
section
namespace Go.Proofs.Ytfnbodjmmkjlcaa.H
open Go.RowKit Go.Proofs.YtfnbodjmmkjlcaaW.PrintWords Go.Proofs.YtfnbodjmmkjlcaaW.PrintLast Go.Proofs.YtfnbodjmmkjlcaaW.PrintMore
attribute [local go_sem] max2_int min2_int max_two min_two max_three min_three max_four min_four   -- for this text's walks alone
set_option linter.unusedVariables false
set_option linter.unusedSimpArgs false

structure jalousieref08_Normal.Q where
 out : List S47
 keep : List S66
 gone : List S66
 made : List S66
def jalousieref08_Normal.fin (q : jalousieref08_Normal.Q) : List S47 := jalousieref08_lay.p (jalousieref08_lay.p (jalousieref08_lay.p q.out 1 q.keep) 2 q.gone) 3 q.made
def jalousieref08_Normal.pre (q : jalousieref08_Normal.Q) (x : S47) : jalousieref08_Normal.Q :=
 if x.f0 = 1 ∧ 0 < x.f1.length ∧ 0 < q.gone.length + q.made.length then ⟨jalousieref08_Normal.fin q, [], [], []⟩ else q
def jalousieref08_Normal.add (q : jalousieref08_Normal.Q) (x : S47) : jalousieref08_Normal.Q :=
 if x.f0 = 1 then ⟨q.out, q.keep ++ x.f1, q.gone, q.made⟩ else if x.f0 = 2 then ⟨q.out, q.keep, q.gone ++ x.f1, q.made⟩ else if x.f0 = 3 then ⟨q.out, q.keep, q.gone, q.made ++ x.f1⟩ else q
def jalousieref08_Normal.all (l : List S47) : jalousieref08_Normal.Q := l.foldl (fun q x => jalousieref08_Normal.add (jalousieref08_Normal.pre q x) x) ⟨[], [], [], []⟩
def jalousieref08_Normal.f (k : Nat) (l0 : List S47) : Option (List S47 × Int) :=
 (jalousieref08_Check.f k l0).bind fun e => if e = 0 then (if l0.length ≤ 1000000 ∧ (l0.map (fun e => e.f1.length)).sum ≤ 1000000 then some (jalousieref08_Normal.fin (jalousieref08_Normal.all l0), 0) else none) else some ([], e)
theorem jalousieref08_Normal.fin_len (q : jalousieref08_Normal.Q) : (jalousieref08_Normal.fin q).length ≤ q.out.length + 3 := by
 unfold jalousieref08_Normal.fin jalousieref08_lay.p
 repeat' split
 all_goals simp <;> omega
theorem jalousieref08_Normal.all_len (l : List S47) : ∀ n : Nat, (jalousieref08_Normal.all (l.take n)).out.length ≤ 3 * n ∧ (jalousieref08_Normal.all (l.take n)).keep.length + (jalousieref08_Normal.all (l.take n)).gone.length + (jalousieref08_Normal.all (l.take n)).made.length ≤ ((l.take n).map (fun e => e.f1.length)).sum
 | 0 => by simp [jalousieref08_Normal.all]
 | n + 1 => by
  have ih := jalousieref08_Normal.all_len l n
  rcases Nat.lt_or_ge n l.length with h | h
  ·rw [List.take_succ_eq_append_getElem h]
   have e : jalousieref08_Normal.all (l.take n ++ [l[n]]) = jalousieref08_Normal.add (jalousieref08_Normal.pre (jalousieref08_Normal.all (l.take n)) l[n]) l[n] := by
    rw [jalousieref08_Normal.all, List.foldl_append]
    rfl
   rw [e, List.map_append, List.sum_append]
   generalize jalousieref08_Normal.all (l.take n) = q at ih ⊢
   generalize l[n] = x
   have hf := jalousieref08_Normal.fin_len q
   have hp : (jalousieref08_Normal.pre q x).out.length ≤ 3 * n + 3 ∧ (jalousieref08_Normal.pre q x).keep.length + (jalousieref08_Normal.pre q x).gone.length + (jalousieref08_Normal.pre q x).made.length ≤ ((l.take n).map (fun e => e.f1.length)).sum := by
    unfold jalousieref08_Normal.pre
    split
    ·exact ⟨by simp only; omega, by simp⟩
    ·exact ⟨by omega, ih.2⟩
   generalize jalousieref08_Normal.pre q x = p at hp ⊢
   unfold jalousieref08_Normal.add
   simp only [List.map_cons, List.map_nil, List.sum_cons, List.sum_nil]
   repeat' split
   all_goals first | (simp only [List.length_append]; omega) | omega
  ·rw [List.take_of_length_le (by omega)]
   rw [List.take_of_length_le h] at ih
   omega
def jalousieref08_Normal.N4 (B : Nat) (W : World) (vo vk vg vm : Value) (q : jalousieref08_Normal.Q) : Prop :=
 Kd.S k47 47 W B (fun k => (some k ≠ vk.ownBlock ∧ some k ≠ vg.ownBlock) ∧ some k ≠ vm.ownBlock) vo q.out ∧ Kd.R k66 66 W B (fun k => some k ≠ vg.ownBlock ∧ some k ≠ vm.ownBlock) vk q.keep ∧
 Kd.R k66 66 W B (fun k => some k ≠ vk.ownBlock ∧ some k ≠ vm.ownBlock) vg q.gone ∧ Kd.R k66 66 W B (fun k => some k ≠ vk.ownBlock ∧ some k ≠ vg.ownBlock) vm q.made
section
variable {B : Nat} {W W1 : World} {vo vk vg vm v1 : Value} {q : jalousieref08_Normal.Q} {ys : List S66} {out : List S47}
theorem jalousieref08_Normal.N4.putk (h : jalousieref08_Normal.N4 B W vo vk vg vm q) (hr : Kd.R k66 66 W1 B (fun k => some k ≠ vg.ownBlock ∧ some k ≠ vm.ownBlock) v1 ys) (hg : W.grownBy W1 vk.ownBlock) (hat : v1.ownBlock = vk.ownBlock ∨ ∃ b, v1.ownBlock = some b ∧ W.heap.size ≤ b) :
  jalousieref08_Normal.N4 B W1 vo v1 vg vm ⟨q.out, ys, q.gone, q.made⟩ :=
 ⟨Kd.S_mono (Kd.S_after (ok := fun k => some k ≠ vg.ownBlock ∧ some k ≠ vm.ownBlock) (Kd.S_mono h.1 (fun _ hk => ⟨⟨hk.1.2, hk.2⟩, hk.1.1⟩)) hg hat) (fun _ hk => ⟨⟨hk.2, hk.1.1⟩, hk.1.2⟩), hr,
  Kd.R_mono (Kd.R_after (ok := fun k => some k ≠ vm.ownBlock) (Kd.R_mono h.2.2.1 (fun _ hk => ⟨hk.2, hk.1⟩)) hg hat) (fun _ hk => ⟨hk.2, hk.1⟩),
  Kd.R_mono (Kd.R_after (ok := fun k => some k ≠ vg.ownBlock) (Kd.R_mono h.2.2.2 (fun _ hk => ⟨hk.2, hk.1⟩)) hg hat) (fun _ hk => ⟨hk.2, hk.1⟩)⟩
theorem jalousieref08_Normal.N4.putg (h : jalousieref08_Normal.N4 B W vo vk vg vm q) (hr : Kd.R k66 66 W1 B (fun k => some k ≠ vk.ownBlock ∧ some k ≠ vm.ownBlock) v1 ys) (hg : W.grownBy W1 vg.ownBlock) (hat : v1.ownBlock = vg.ownBlock ∨ ∃ b, v1.ownBlock = some b ∧ W.heap.size ≤ b) :
  jalousieref08_Normal.N4 B W1 vo vk v1 vm ⟨q.out, q.keep, ys, q.made⟩ :=
 ⟨Kd.S_mono (Kd.S_after (ok := fun k => some k ≠ vk.ownBlock ∧ some k ≠ vm.ownBlock) (Kd.S_mono h.1 (fun _ hk => ⟨⟨hk.1.1, hk.2⟩, hk.1.2⟩)) hg hat) (fun _ hk => ⟨⟨hk.1.1, hk.2⟩, hk.1.2⟩),
  Kd.R_mono (Kd.R_after (ok := fun k => some k ≠ vm.ownBlock) (Kd.R_mono h.2.1 (fun _ hk => ⟨hk.2, hk.1⟩)) hg hat) (fun _ hk => ⟨hk.2, hk.1⟩), hr,
  Kd.R_mono (Kd.R_after (ok := fun k => some k ≠ vk.ownBlock) (Kd.R_mono h.2.2.2 (fun _ hk => ⟨hk.1, hk.2⟩)) hg hat) (fun _ hk => ⟨hk.1, hk.2⟩)⟩
theorem jalousieref08_Normal.N4.putm (h : jalousieref08_Normal.N4 B W vo vk vg vm q) (hr : Kd.R k66 66 W1 B (fun k => some k ≠ vk.ownBlock ∧ some k ≠ vg.ownBlock) v1 ys) (hg : W.grownBy W1 vm.ownBlock) (hat : v1.ownBlock = vm.ownBlock ∨ ∃ b, v1.ownBlock = some b ∧ W.heap.size ≤ b) :
  jalousieref08_Normal.N4 B W1 vo vk vg v1 ⟨q.out, q.keep, q.gone, ys⟩ :=
 ⟨Kd.S_after (ok := fun k => some k ≠ vk.ownBlock ∧ some k ≠ vg.ownBlock) h.1 hg hat,
  Kd.R_after (ok := fun k => some k ≠ vg.ownBlock) h.2.1 hg hat, Kd.R_after (ok := fun k => some k ≠ vk.ownBlock) h.2.2.1 hg hat, hr⟩
theorem jalousieref08_Normal.N4.puto (h : jalousieref08_Normal.N4 B W vo vk vg vm q) (hr : Kd.S k47 47 W1 B (fun k => (some k ≠ vk.ownBlock ∧ some k ≠ vg.ownBlock) ∧ some k ≠ vm.ownBlock) v1 out) (hg : W.grownBy W1 vo.ownBlock) :
  jalousieref08_Normal.N4 B W1 v1 vk vg vm ⟨out, q.keep, q.gone, q.made⟩ :=
 ⟨hr, Kd.R_over' h.2.1 (Kd.S_typed h.1) (by decide) hg, Kd.R_over' h.2.2.1 (Kd.S_typed h.1) (by decide) hg, Kd.R_over' h.2.2.2 (Kd.S_typed h.1) (by decide) hg⟩
theorem jalousieref08_Normal.N4.fresh (h : jalousieref08_Normal.N4 B W vo vk vg vm q) : ∀ k, W.heap.size ≤ k → (some k ≠ vk.ownBlock ∧ some k ≠ vg.ownBlock) ∧ some k ≠ vm.ownBlock := fun k hk =>
 ⟨⟨fun e => by have := Kd.R_lt h.2.1 k e.symm; omega, fun e => by have := Kd.R_lt h.2.2.1 k e.symm; omega⟩, fun e => by have := Kd.R_lt h.2.2.2 k e.symm; omega⟩
theorem jalousieref08_Normal.N4.clear (h : jalousieref08_Normal.N4 B W vo vk vg vm q) : jalousieref08_Normal.N4 B W vo (.slice none 0 0) (.slice none 0 0) (.slice none 0 0) ⟨q.out, [], [], []⟩ :=
 ⟨Kd.S_mono h.1 (fun _ _ => by simp [Value.ownBlock]), Kd.R_nil _ _ _ _ _, Kd.R_nil _ _ _ _ _, Kd.R_nil _ _ _ _ _⟩
end
theorem jalousieref08_Normal.empty {α : Type} (d : Kd α) (W : World) (B g e : Nat) (ok : Nat → Prop) (h : W.heap[g]? = some (.cells #[] e (0, 0))) (hB : B ≤ g) (hok : ok g) (hs : 0 < d.sz) : d.R e W B ok (.slice (some ⟨g, 0, none⟩) 0 0) [] := by
 refine ⟨fun k hk => ?_, [], ⟨by simp, .inr ⟨g, 0, #[], rfl, hB, h, Nat.le_refl _, by omega, by simp, by simp⟩⟩, Reps.none _ _⟩
 have : g = k := by simpa [Value.ownBlock] using hk
 exact this ▸ hok
theorem jalousieref08_Normal.lay_len (s : List S47) (d : Int) (l : List S66) : (jalousieref08_lay.p s d l).length ≤ s.length + 1 := by
 unfold jalousieref08_lay.p
 split <;> simp
theorem jalousieref08_Normal.four (w1 : World) (a b c d : Obj) : ((((w1.alloc a).alloc b).alloc c).alloc d).heap[w1.heap.size]? = some a ∧ ((((w1.alloc a).alloc b).alloc c).alloc d).heap[w1.heap.size + 1]? = some b ∧ ((((w1.alloc a).alloc b).alloc c).alloc d).heap[w1.heap.size + 1 + 1]? = some c ∧ ((((w1.alloc a).alloc b).alloc c).alloc d).heap[w1.heap.size + 1 + 1 + 1]? = some d := by
 have h0 := World.alloc_heap_new w1 a
 have h1 := World.alloc_heap_new (w1.alloc a) b
 have h2 := World.alloc_heap_new ((w1.alloc a).alloc b) c
 have h3 := World.alloc_heap_new (((w1.alloc a).alloc b).alloc c) d
 simp only [World.size_alloc] at h1 h2 h3
 exact ⟨blk_alloc (blk_alloc (blk_alloc h0 _) _) _, blk_alloc (blk_alloc h1 _) _, blk_alloc h2 _, h3⟩
set_option maxHeartbeats 4000000 in
set_option maxRecDepth 100000 in
theorem jalousieref08_Normal.calls (k : Nat) (A0 : Option Addr) (c0 : Nat) (l0 : List S47) (r1 : List S47) (r2 : Int) (w : World) (hr0 : Kd.C k47 w A0 l0.length l0) (hc0 : l0.length ≤ c0) (h : jalousieref08_Normal.f k l0 = some (r1, r2)) :
  Calls Try.prog 23 #[.slice A0 l0.length c0] w fun e w' => ∃ v0_ : Value, e = .returned (.tuple #[v0_, .int .i64 r2]) ∧ Kd.S k47 47 w' w.heap.size (fun _ => True) v0_ r1 ∧ Below w.heap.size w w' := by
 unfold jalousieref08_Normal.f at h
 obtain ⟨e0, hE, h⟩ := Option.bind_eq_some_iff.1 h
 have HE := Aside0.mk (jalousieref08_Check.calls k A0 c0 l0 e0 w hr0 hc0 hE)
 have HC0 := Aside0.mk hr0
 have Hc0 := Aside0.mk hc0
 clear hE hr0 hc0
 by_cases he0 : e0 = 0
 ·subst he0
  rw [if_pos rfl] at h
  split at h
  case isFalse => cases h
  rename_i hsz
  obtain ⟨hs1, hs2⟩ := hsz
  have hr := Option.some.inj h
  simp only [Prod.mk.injEq] at hr
  obtain ⟨hr1, rfl⟩ := hr
  have HR1 := Aside0.mk hr1
  clear h hr1
  go_enter Try.func23, Try.ntmps23
  go_wp2_with (go_at_call 26; refine HE.out.mono ?_; rintro e w1 ⟨rfl, hD⟩; have HB := Aside0.mk hD.below; clear hD)
  go_loopw [5, 6, 7, 8, 9] (fun vo vk vg vm vi wr => ∃ n : Nat, n ≤ l0.length ∧ vi = .int .i64 (n : Int) ∧ jalousieref08_Normal.N4 w.heap.size wr vo vk vg vm (jalousieref08_Normal.all (l0.take n)) ∧ Below w.heap.size w wr)
   (fun _ _ _ _ vi _ => l0.length - (intOf vi).toNat)
  case atStart =>
   have hs := HB.out.size
   obtain ⟨q0, q1, q2, q3⟩ := jalousieref08_Normal.four w1 (.cells #[] 47) (.cells #[] 66) (.cells #[] 66) (.cells #[] 66)
   refine ⟨0, Nat.zero_le _, rfl, ⟨⟨fun _ => 0, jalousieref08_Normal.empty _ _ _ _ _ _ q0 hs ?_ (by decide)⟩, jalousieref08_Normal.empty _ _ _ _ _ _ q1 (by omega) ?_ (by decide), jalousieref08_Normal.empty _ _ _ _ _ _ q2 (by omega) ?_ (by decide), jalousieref08_Normal.empty _ _ _ _ _ _ q3 (by omega) ?_ (by decide)⟩, ?_⟩
   case refine_5 => exact (((HB.out.alloc hs _).alloc (by rw [World.size_alloc]; omega) _).alloc (by simp only [World.size_alloc]; omega) _).alloc (by simp only [World.size_alloc]; omega) _
   all_goals simp only [Value.ownBlock, ne_eq, Option.some.injEq]; omega
  case round =>
   obtain ⟨n, hn, rfl, hN, hBr⟩ := hrel
   by_cases hlt : n < l0.length
   ·have hx : rd_T47 l0 (n : Int) = l0[n] := by
     simp [rd_T47, hlt]
    have hlt' : decide ((n : Int) < (l0.length : Int)) = true := decide_eq_true (by omega)
    have hlt2 : ((n : Int) < (l0.length : Int)) = True := eq_true (by omega)
    have hlen := jalousieref08_Normal.all_len l0 n
    have hlen2 := jalousieref08_Normal.all_len l0 (n + 1)
    have hsum : ((l0.take n).map (fun e => e.f1.length)).sum + (rd_T47 l0 (n : Int)).f1.length ≤ 1000000 := by
     have e1 := congrArg (fun l => (l.map (fun e : S47 => e.f1.length)).sum) (List.take_append_drop n l0)
     simp only [List.map_append, List.sum_append] at e1
     rw [List.drop_eq_getElem_cons hlt, List.map_cons, List.sum_cons, ← hx] at e1
     omega
    have hall : jalousieref08_Normal.all (l0.take (n + 1)) = jalousieref08_Normal.add (jalousieref08_Normal.pre (jalousieref08_Normal.all (l0.take n)) (rd_T47 l0 (n : Int))) (rd_T47 l0 (n : Int)) := by
     rw [List.take_succ_eq_append_getElem hlt, jalousieref08_Normal.all, List.foldl_append, hx]
     rfl
    obtain ⟨ad, A1, c1, e, hx0, hx1, hl5, hC1⟩ := at_T47 HC0.out (n : Int) (by omega) (by omega)
    cases e
    simp only [Int.toNat_natCast] at hx0 hx1
    have HX0w := Aside0.mk hx0
    have HX1w := Aside0.mk hx1
    replace hx0 := (hBr.cell (World.block_lt_of_cell? w _ hx0)).trans hx0
    replace hx1 := (hBr.cell (World.block_lt_of_cell? w _ hx1)).trans hx1
    have hsl : l0.length ≤ 9223372036854775807 := HC0.out.2.1
    have HWn : Aside0 (wrap64 ((n : Int) + 1) = ((n + 1 : Nat) : Int)) := ⟨by unfold wrap64; omega⟩
    have HC1 := Aside0.mk hC1
    generalize hqq : jalousieref08_Normal.all (l0.take n) = q at hN hlen hall
    obtain ⟨out, keep, gone, made⟩ := q
    obtain ⟨Ak, ck, rfl⟩ := Kd.R_slice hN.2.1
    obtain ⟨Ag, cg, rfl⟩ := Kd.R_slice hN.2.2.1
    obtain ⟨Am, cm, rfl⟩ := Kd.R_slice hN.2.2.2
    obtain ⟨Ao, co, rfl⟩ := Kd.R_slice (Kd.S_R hN.1)
    simp only at hlen
    have Hall := Aside0.mk hall
    have HN := Aside0.mk hN
    have HB := Aside0.mk hBr
    have Hqq := Aside0.mk hqq
    clear hx hall hN hBr hC1 hl5 hqq
    have hg64 : wrap64 ((gone.length : Int) + (made.length : Int)) = ((gone.length + made.length : Nat) : Int) := by unfold wrap64; omega
    have Hg64 := Aside0.mk hg64
    clear hg64
    by_cases h1 : (rd_T47 l0 (n : Int)).f0 = 1
    ·have h1' : ((rd_T47 l0 (n : Int)).f0 == 1) = true := beq_iff_eq.mpr h1
     by_cases hl : 0 < (rd_T47 l0 (n : Int)).f1.length
     ·have hl' : decide (0 < (rd_T47 l0 (n : Int)).f1.length) = true := decide_eq_true hl
      by_cases hgm : 0 < gone.length + made.length
      ·have hgm' : decide (0 < gone.length + made.length) = true := decide_eq_true hgm
       have hgm2 : (0 < (gone.length : Int) + (made.length : Int)) = True := eq_true (by omega)
       have HA : Aside0 (jalousieref08_Normal.all (l0.take (n + 1)) = ⟨jalousieref08_Normal.fin ⟨out, keep, gone, made⟩, [] ++ (rd_T47 l0 (n : Int)).f1, [], []⟩) := ⟨by
        rw [Hall.out]
        unfold jalousieref08_Normal.pre
        rw [if_pos ⟨h1, hl, hgm⟩]
        unfold jalousieref08_Normal.add
        rw [if_pos h1]⟩
       clear h1 hl hgm
       go_wp2_with (first | (go_at_call 53; have hcl := jalousieref08_lay.owned w.heap.size _ out 1 keep (.slice Ao out.length co) _ _ wr HN.out.1 HN.out.fresh (Kd.R_reads' HN.out.2.1).2.2 (Kd.R_reads' HN.out.2.1).2.1 (by omega) (by omega) HB.out.size; with_reducible refine hcl.mono ?_; clear hcl; rintro e wa ⟨va, rfl, hsa, hga, _, hba⟩; obtain ⟨Aa, ca, rfl⟩ := Kd.R_slice (Kd.S_R hsa); have HNa := Aside0.mk (HN.out.puto hsa hga); have HBa := Aside0.mk (HB.out.trans (hba)); clear hsa hga hba) | (go_at_call 53; have hcl := jalousieref08_lay.owned w.heap.size _ (jalousieref08_lay.p out 1 keep) 2 gone (.slice Aa (jalousieref08_lay.p out 1 keep).length ca) _ _ wa HNa.out.1 HNa.out.fresh (Kd.R_reads' HNa.out.2.2.1).2.2 (Kd.R_reads' HNa.out.2.2.1).2.1 (by have := jalousieref08_Normal.lay_len out 1 keep; have := jalousieref08_Normal.lay_len (jalousieref08_lay.p out 1 keep) 2 gone; omega) (by omega) HBa.out.size; with_reducible refine hcl.mono ?_; clear hcl; rintro e wb ⟨vb, rfl, hsb, hgb, _, hbb⟩; obtain ⟨Ab, cb, rfl⟩ := Kd.R_slice (Kd.S_R hsb); have HNb := Aside0.mk (HNa.out.puto hsb hgb); have HBb := Aside0.mk (HBa.out.trans (hbb)); clear hsb hgb hbb) | (go_at_call 53; have hcl := jalousieref08_lay.owned w.heap.size _ (jalousieref08_lay.p (jalousieref08_lay.p out 1 keep) 2 gone) 3 made (.slice Ab (jalousieref08_lay.p (jalousieref08_lay.p out 1 keep) 2 gone).length cb) _ _ wb HNb.out.1 HNb.out.fresh (Kd.R_reads' HNb.out.2.2.2).2.2 (Kd.R_reads' HNb.out.2.2.2).2.1 (by have := jalousieref08_Normal.lay_len out 1 keep; have := jalousieref08_Normal.lay_len (jalousieref08_lay.p out 1 keep) 2 gone; omega) (by omega) HBb.out.size; with_reducible refine hcl.mono ?_; clear hcl; rintro e wd ⟨vd, rfl, hsd, hgd, _, hbd⟩; obtain ⟨Ad, cd, rfl⟩ := Kd.R_slice (Kd.S_R hsd); have HNd := Aside0.mk (HNb.out.puto hsd hgd); have HBd := Aside0.mk (HBb.out.trans (hbd)); clear hsd hgd hbd; have hx0d := (HBd.out.cell (World.block_lt_of_cell? w _ HX0w.out)).trans HX0w.out) | ((with_reducible refine gate_dst (N := 67) rfl ?_); refine Kd.event_run (w1 := wd) (v := .slice A1 (rd_T47 l0 (n : Int)).f1.length c1) ?hg ?hr ?_; (case hg => rfl); (case hr => have hx1d := (HBd.out.cell (World.block_lt_of_cell? w _ HX1w.out)).trans HX1w.out; first | (go_simp; done) | (go_simp; rfl)); obtain ⟨u6, hu6⟩ : ∃ u : Value, u = .slice none 0 0 := ⟨_, rfl⟩; rw [← hu6]; have U6 := Aside0.mk hu6; have HNe : Aside0 (jalousieref08_Normal.N4 w.heap.size wd (.slice Ad (jalousieref08_Normal.fin ⟨out, keep, gone, made⟩).length cd) u6 u6 u6 ⟨jalousieref08_Normal.fin ⟨out, keep, gone, made⟩, [], [], []⟩) := ⟨by rw [U6.out]; exact HNd.out.clear⟩; clear HNd hu6) | ((with_reducible refine gate_builtin (b := .append) (xs := #[.tmp 62, .tmp 67]) rfl ?_); at_builtin; refine Kd.R_append_rows k66 (w0 := w) w.heap.size rfl (.tmp 62) (.tmp 67) 37 66 (.agg #[(.string ⟨#[]⟩), (.bool false)]) 24 rfl Try.underlying37 info66 rfl (by decide) (by omega) u6 [] (rd_T47 l0 (n : Int)).f1 _ _ _ _ (fun _ => False) rfl rfl HNe.out.2.1 (Kd.C_below HC1.out HBd.out) (fun _ _ h => h) (fun _ h => h.elim) (fun k hk => ⟨(HNe.out.fresh k hk).1.2, (HNe.out.fresh k hk).2⟩) HBd.out HBd.out.size ?aL ?_; (case aL => (try simp only [List.length_nil]); omega); intro v9 w9 ho9 hb9 hg9 hat9; have HN9 := Aside0.mk (HNe.out.putk ho9 hg9 hat9); have HB9 := Aside0.mk hb9; clear ho9 hb9 hg9 hat9))
       go_roundw
       case rel => exact ⟨_, _, _, _, _, ⟨n + 1, by omega, by first | rfl | exact congrArg _ HWn.out, by rw [HA.out]; exact HN9.out, HB9.out⟩, U6.out, rfl, rfl, rfl, rfl, rfl⟩
       case measure =>
        try rw [HWn.out]
        simp only [intOf, Int.toNat_natCast]
        omega
      ·have hgm' : decide (0 < gone.length + made.length) = false := decide_eq_false hgm
       have hgm2 : (0 < (gone.length : Int) + (made.length : Int)) = False := eq_false (by omega)
       have HA : Aside0 (jalousieref08_Normal.all (l0.take (n + 1)) = ⟨out, keep ++ (rd_T47 l0 (n : Int)).f1, gone, made⟩) := ⟨by
        rw [Hall.out]
        unfold jalousieref08_Normal.pre
        rw [if_neg (fun h => hgm h.2.2)]
        unfold jalousieref08_Normal.add
        rw [if_pos h1]⟩
       clear h1 hl hgm
       go_wp2_with ((with_reducible refine gate_builtin (b := .append) (xs := #[.tmp 62, .tmp 67]) rfl ?_); at_builtin; refine Kd.R_append_rows k66 (w0 := w) w.heap.size rfl (.tmp 62) (.tmp 67) 37 66 (.agg #[(.string ⟨#[]⟩), (.bool false)]) 24 rfl Try.underlying37 info66 rfl (by decide) (by omega) (.slice Ak keep.length ck) keep (rd_T47 l0 (n : Int)).f1 _ _ _ _ (fun _ => False) rfl rfl HN.out.2.1 (Kd.C_below HC1.out HB.out) (fun _ _ h => h) (fun _ h => h.elim) (fun k hk => ⟨(HN.out.fresh k hk).1.2, (HN.out.fresh k hk).2⟩) HB.out HB.out.size ?aL ?_; (case aL => (try simp only [List.length_nil]); omega); intro v9 w9 ho9 hb9 hg9 hat9; have HN9 := Aside0.mk (HN.out.putk ho9 hg9 hat9); have HB9 := Aside0.mk hb9; clear ho9 hb9 hg9 hat9)
       go_roundw
       case rel => exact ⟨n + 1, by omega, by first | rfl | exact congrArg _ HWn.out, by rw [HA.out]; exact HN9.out, HB9.out⟩
       case measure =>
        try rw [HWn.out]
        simp only [intOf, Int.toNat_natCast]
        omega
     ·have hl' : decide (0 < (rd_T47 l0 (n : Int)).f1.length) = false := decide_eq_false hl
      have HA : Aside0 (jalousieref08_Normal.all (l0.take (n + 1)) = ⟨out, keep ++ (rd_T47 l0 (n : Int)).f1, gone, made⟩) := ⟨by
       rw [Hall.out]
       unfold jalousieref08_Normal.pre
       rw [if_neg (fun h => hl h.2.1)]
       unfold jalousieref08_Normal.add
       rw [if_pos h1]⟩
      clear h1 hl
      go_wp2_with ((with_reducible refine gate_builtin (b := .append) (xs := #[.tmp 62, .tmp 67]) rfl ?_); at_builtin; refine Kd.R_append_rows k66 (w0 := w) w.heap.size rfl (.tmp 62) (.tmp 67) 37 66 (.agg #[(.string ⟨#[]⟩), (.bool false)]) 24 rfl Try.underlying37 info66 rfl (by decide) (by omega) (.slice Ak keep.length ck) keep (rd_T47 l0 (n : Int)).f1 _ _ _ _ (fun _ => False) rfl rfl HN.out.2.1 (Kd.C_below HC1.out HB.out) (fun _ _ h => h) (fun _ h => h.elim) (fun k hk => ⟨(HN.out.fresh k hk).1.2, (HN.out.fresh k hk).2⟩) HB.out HB.out.size ?aL ?_; (case aL => (try simp only [List.length_nil]); omega); intro v9 w9 ho9 hb9 hg9 hat9; have HN9 := Aside0.mk (HN.out.putk ho9 hg9 hat9); have HB9 := Aside0.mk hb9; clear ho9 hb9 hg9 hat9)
      go_roundw
      case rel => exact ⟨n + 1, by omega, by first | rfl | exact congrArg _ HWn.out, by rw [HA.out]; exact HN9.out, HB9.out⟩
      case measure =>
       try rw [HWn.out]
       simp only [intOf, Int.toNat_natCast]
       omega
    ·have h1' : ((rd_T47 l0 (n : Int)).f0 == 1) = false := beq_eq_false_iff_ne.mpr h1
     by_cases h2 : (rd_T47 l0 (n : Int)).f0 = 2
     ·have h2' : ((rd_T47 l0 (n : Int)).f0 == 2) = true := beq_iff_eq.mpr h2
      have HA : Aside0 (jalousieref08_Normal.all (l0.take (n + 1)) = ⟨out, keep, gone ++ (rd_T47 l0 (n : Int)).f1, made⟩) := ⟨by
      rw [Hall.out]
      unfold jalousieref08_Normal.pre
      rw [if_neg (fun h => h1 h.1)]
      unfold jalousieref08_Normal.add
      rw [if_neg h1, if_pos h2]⟩
      clear h1 h2
      go_wp2_with ((with_reducible refine gate_builtin (b := .append) (xs := #[.tmp 71, .tmp 76]) rfl ?_); at_builtin; refine Kd.R_append_rows k66 (w0 := w) w.heap.size rfl (.tmp 71) (.tmp 76) 37 66 (.agg #[(.string ⟨#[]⟩), (.bool false)]) 24 rfl Try.underlying37 info66 rfl (by decide) (by omega) (.slice Ag gone.length cg) gone (rd_T47 l0 (n : Int)).f1 _ _ _ _ (fun _ => False) rfl rfl HN.out.2.2.1 (Kd.C_below HC1.out HB.out) (fun _ _ h => h) (fun _ h => h.elim) (fun k hk => ⟨(HN.out.fresh k hk).1.1, (HN.out.fresh k hk).2⟩) HB.out HB.out.size ?aL ?_; (case aL => (try simp only [List.length_nil]); omega); intro v9 w9 ho9 hb9 hg9 hat9; have HN9 := Aside0.mk (HN.out.putg ho9 hg9 hat9); have HB9 := Aside0.mk hb9; clear ho9 hb9 hg9 hat9)
      go_roundw
      case rel => exact ⟨n + 1, by omega, by first | rfl | exact congrArg _ HWn.out, by rw [HA.out]; exact HN9.out, HB9.out⟩
      case measure =>
       try rw [HWn.out]
       simp only [intOf, Int.toNat_natCast]
       omega
     ·have h2' : ((rd_T47 l0 (n : Int)).f0 == 2) = false := beq_eq_false_iff_ne.mpr h2
      by_cases h3 : (rd_T47 l0 (n : Int)).f0 = 3
      ·have h3' : ((rd_T47 l0 (n : Int)).f0 == 3) = true := beq_iff_eq.mpr h3
       have HA : Aside0 (jalousieref08_Normal.all (l0.take (n + 1)) = ⟨out, keep, gone, made ++ (rd_T47 l0 (n : Int)).f1⟩) := ⟨by
       rw [Hall.out]
       unfold jalousieref08_Normal.pre
       rw [if_neg (fun h => h1 h.1)]
       unfold jalousieref08_Normal.add
       rw [if_neg h1, if_neg h2, if_pos h3]⟩
       clear h1 h2 h3
       go_wp2_with ((with_reducible refine gate_builtin (b := .append) (xs := #[.tmp 80, .tmp 85]) rfl ?_); at_builtin; refine Kd.R_append_rows k66 (w0 := w) w.heap.size rfl (.tmp 80) (.tmp 85) 37 66 (.agg #[(.string ⟨#[]⟩), (.bool false)]) 24 rfl Try.underlying37 info66 rfl (by decide) (by omega) (.slice Am made.length cm) made (rd_T47 l0 (n : Int)).f1 _ _ _ _ (fun _ => False) rfl rfl HN.out.2.2.2 (Kd.C_below HC1.out HB.out) (fun _ _ h => h) (fun _ h => h.elim) (fun k hk => (HN.out.fresh k hk).1) HB.out HB.out.size ?aL ?_; (case aL => (try simp only [List.length_nil]); omega); intro v9 w9 ho9 hb9 hg9 hat9; have HN9 := Aside0.mk (HN.out.putm ho9 hg9 hat9); have HB9 := Aside0.mk hb9; clear ho9 hb9 hg9 hat9)
       go_roundw
       case rel => exact ⟨n + 1, by omega, by first | rfl | exact congrArg _ HWn.out, by rw [HA.out]; exact HN9.out, HB9.out⟩
       case measure =>
        try rw [HWn.out]
        simp only [intOf, Int.toNat_natCast]
        omega
      ·have h3' : ((rd_T47 l0 (n : Int)).f0 == 3) = false := beq_eq_false_iff_ne.mpr h3
       have HA : Aside0 (jalousieref08_Normal.all (l0.take (n + 1)) = ⟨out, keep, gone, made⟩) := ⟨by
       rw [Hall.out]
       unfold jalousieref08_Normal.pre
       rw [if_neg (fun h => h1 h.1)]
       unfold jalousieref08_Normal.add
       rw [if_neg h1, if_neg h2, if_neg h3]⟩
       clear h1 h2 h3
       go_wp2
       go_roundw
       case rel => exact ⟨n + 1, by omega, by first | rfl | exact congrArg _ HWn.out, by rw [HA.out]; exact HN.out, HB.out⟩
       case measure =>
        try rw [HWn.out]
        simp only [intOf, Int.toNat_natCast]
        omega
   ·obtain rfl : n = l0.length := by omega
    have hlt' : decide ((l0.length : Int) < (l0.length : Int)) = false := decide_eq_false (by omega)
    have hlen := jalousieref08_Normal.all_len l0 l0.length
    rw [List.take_length] at hN hlen
    unfold jalousieref08_Normal.all at hlen
    generalize hqq : jalousieref08_Normal.all l0 = q at hN
    have hqq' := hqq
    unfold jalousieref08_Normal.all at hqq'
    rw [hqq'] at hlen
    obtain ⟨out, keep, gone, made⟩ := q
    obtain ⟨Ak, ck, rfl⟩ := Kd.R_slice hN.2.1
    obtain ⟨Ag, cg, rfl⟩ := Kd.R_slice hN.2.2.1
    obtain ⟨Am, cm, rfl⟩ := Kd.R_slice hN.2.2.2
    obtain ⟨Ao, co, rfl⟩ := Kd.R_slice (Kd.S_R hN.1)
    simp only at hlen
    have HN := Aside0.mk hN
    have HB := Aside0.mk hBr
    have Hqq := Aside0.mk hqq
    clear hN hBr hqq hqq' hlt hn
    go_wp2_with (first | (go_at_call 53; have hcl := jalousieref08_lay.owned w.heap.size _ out 1 keep (.slice Ao out.length co) _ _ wr HN.out.1 HN.out.fresh (Kd.R_reads' HN.out.2.1).2.2 (Kd.R_reads' HN.out.2.1).2.1 (by omega) (by omega) HB.out.size; with_reducible refine hcl.mono ?_; clear hcl; rintro e wa ⟨va, rfl, hsa, hga, _, hba⟩; obtain ⟨Aa, ca, rfl⟩ := Kd.R_slice (Kd.S_R hsa); have HNa := Aside0.mk (HN.out.puto hsa hga); have HBa := Aside0.mk (HB.out.trans (hba)); clear hsa hga hba) | (go_at_call 53; have hcl := jalousieref08_lay.owned w.heap.size _ (jalousieref08_lay.p out 1 keep) 2 gone (.slice Aa (jalousieref08_lay.p out 1 keep).length ca) _ _ wa HNa.out.1 HNa.out.fresh (Kd.R_reads' HNa.out.2.2.1).2.2 (Kd.R_reads' HNa.out.2.2.1).2.1 (by have := jalousieref08_Normal.lay_len out 1 keep; have := jalousieref08_Normal.lay_len (jalousieref08_lay.p out 1 keep) 2 gone; omega) (by omega) HBa.out.size; with_reducible refine hcl.mono ?_; clear hcl; rintro e wb ⟨vb, rfl, hsb, hgb, _, hbb⟩; obtain ⟨Ab, cb, rfl⟩ := Kd.R_slice (Kd.S_R hsb); have HNb := Aside0.mk (HNa.out.puto hsb hgb); have HBb := Aside0.mk (HBa.out.trans (hbb)); clear hsb hgb hbb) | (go_at_call 53; have hcl := jalousieref08_lay.owned w.heap.size _ (jalousieref08_lay.p (jalousieref08_lay.p out 1 keep) 2 gone) 3 made (.slice Ab (jalousieref08_lay.p (jalousieref08_lay.p out 1 keep) 2 gone).length cb) _ _ wb HNb.out.1 HNb.out.fresh (Kd.R_reads' HNb.out.2.2.2).2.2 (Kd.R_reads' HNb.out.2.2.2).2.1 (by have := jalousieref08_Normal.lay_len out 1 keep; have := jalousieref08_Normal.lay_len (jalousieref08_lay.p out 1 keep) 2 gone; omega) (by omega) HBb.out.size; with_reducible refine hcl.mono ?_; clear hcl; rintro e wd ⟨vd, rfl, hsd, hgd, _, hbd⟩; obtain ⟨Ad, cd, rfl⟩ := Kd.R_slice (Kd.S_R hsd); have HNd := Aside0.mk (HNb.out.puto hsd hgd); have HBd := Aside0.mk (HBb.out.trans (hbd)); clear hsd hgd hbd))
    go_ret2
    have e2 : r1 = jalousieref08_Normal.fin ⟨out, keep, gone, made⟩ := by rw [← HR1.out, Hqq.out]
    rw [e2]
    exact ⟨_, rfl, Kd.S_mono HNd.out.1 (fun _ _ => trivial), HBd.out⟩
 ·rw [if_neg he0] at h
  have hr := Option.some.inj h
  simp only [Prod.mk.injEq] at hr
  obtain ⟨rfl, rfl⟩ := hr
  have hne : (e0 != 0) = true := bne_iff_ne.mpr he0
  clear h he0
  go_enter Try.func23, Try.ntmps23
  go_wp2_with (go_at_call 26; refine HE.out.mono ?_; rintro e w1 ⟨rfl, hD⟩)
  go_ret2
  exact ⟨_, rfl, Kd.S_nil _ _ _ _ _, hD.below⟩


end Go.Proofs.Ytfnbodjmmkjlcaa.H
end
section
namespace Go.Proofs.Ytfnbodjmmkjlcaa.H
open Go.RowKit Go.Proofs.YtfnbodjmmkjlcaaW.PrintWords Go.Proofs.YtfnbodjmmkjlcaaW.PrintLast Go.Proofs.YtfnbodjmmkjlcaaW.PrintMore
attribute [local go_sem] max2_int min2_int max_two min_two max_three min_three max_four min_four   -- for this text's walks alone
set_option linter.unusedVariables false
set_option linter.unusedSimpArgs false

mutual
def jalousieref09_Single.l0 : Nat → List (S47) → List (S47) → Int → Option ((List (S47)))
 | 0, _, _, _ => none
 | k + 1, x0, x3, x4 => if x4 < (x0.length : Int) then (jalousieref09_Single.l1 k x0 x3 x4 0) else (some x3)
def jalousieref09_Single.l1 : Nat → List (S47) → List (S47) → Int → Int → Option ((List (S47)))
 | 0, _, _, _, _ => none
 | k + 1, x0, x3, x4, x5 => if 0 ≤ x4 then (if x4 < (x0.length : Int) then (if x5 < (((rd_T47 x0 x4).f1).length : Int) then (if 0 ≤ x5 then (if x3.length < 4398046511104 then (jalousieref09_Single.l1 k x0 (x3 ++ [(⟨(rd_T47 x0 x4).f0, (([(⟨(rd_T66 ((rd_T47 x0 x4).f1) x5).f0, (rd_T66 ((rd_T47 x0 x4).f1) x5).f1⟩ : S66)] : List (S66)))⟩ : S47)]) x4 (wrap64 (x5 + 1))) else (none)) else (none)) else (jalousieref09_Single.l0 k x0 x3 (wrap64 (x4 + 1)))) else (none)) else (none)
end
def jalousieref09_Single.f (k : Nat) (l0 : List (S47)) : Option ((List (S47))) := jalousieref09_Single.l0 k l0 (([] : List (S47))) 0
def jalousieref09_Single.T8 : Bool × List (List Nat × List Nat) := (true, [([], []), ([], []), ([], []), ([1, 2], [1, 2]), ([3], [3]), ([4], [4]), ([], []), ([], []), ([6, 7], [6, 7]), ([8], [8]), ([9], [9]), ([], []), ([10, 11], [10, 11]), ([12], [12]), ([13], [13]), ([5, 14], [5, 14]), ([15], [15]), ([0, 16], [0, 16]), ([17, 17, 0, 1, 2, 3, 4, 5, 6, 7, 8, 9, 10, 11, 12, 13, 14, 15, 16, 17], [0, 17])])
def jalousieref09_Single.B8 : List Nat := [0, 0, 0, 6, 14, 30, 0, 0, 192, 448, 960, 0, 4032, 8128, 16320, 32766, 65534, 131071, 262143]
theorem jalousieref09_Single.tab8 : rtab .any (opsOf Try.f41 8) = jalousieref09_Single.T8 := by kernel_rfl
theorem jalousieref09_Single.bits8 : waitsOk jalousieref09_Single.T8.2 jalousieref09_Single.B8 = true := by kernel_rfl
set_option maxHeartbeats 8000000 in
set_option maxRecDepth 100000 in
theorem jalousieref09_Single.calls (k : Nat) (A0 : Option Addr) (c0 : Nat) (l0 : List (S47)) (r : List (S47)) (w : World) (hr0 : Kd.C k47 w A0 l0.length l0) (hc0 : l0.length ≤ c0) (h : jalousieref09_Single.f k l0 = some r) :
  Calls Try.prog 41 #[.slice A0 l0.length c0] w fun e w' => ∃ v0_ : Value, e = .returned (v0_) ∧ Kd.S k47 47 w' w.heap.size (fun _ => True) v0_ r ∧ Below w.heap.size w w' := by
 have hu66 := Try.underlying66
 have hu47 := Try.underlying47
 have HR0 := Aside0.mk hr0
 have HC0 := Aside0.mk hc0
 clear hr0 hc0
 have HB := Aside0.mk (Below.refl w.heap.size w)
 have H : (jalousieref09_Single.l0 k l0 (([] : List (S47))) 0) = some r := h
 clear h
 obtain ⟨y234, hy234⟩ : ∃ y_ : List (S47), y_ = (([] : List (S47))) := ⟨_, rfl⟩
 replace H : (jalousieref09_Single.l0 k l0 y234 0) = some r := by first | (rw [hy234]; with_reducible exact H) | (have H2_ := (Option.bind_some _ _).symm.trans H; rw [hy234]; with_reducible exact H2_) | (have H2_ := (Option.bind_some _ _).symm.trans H; with_reducible exact H2_) | with_reducible exact H | (rw [hy234]; exact H) | exact H
 have Ny234 := Aside0.mk hy234
 clear hy234
 have H' := Aside0.mk H
 clear H
 go_enter Try.func41, Try.ntmps41
 go_wp2_with (first | ((with_reducible refine gate_dst (N := 6) rfl ?_); refine Kd.S_lit k47 _ 47 ?hg (N := 6) ?hd (xs := ([] : List (S47))) (inner := []) (ok := fun _ => True) (okp := fun _ => True) ?hr ?hp (fun _ hk => hk) trivial (Below.refl _ _) (Nat.le_refl _) (by simp) ?_; (case hd => rfl); (case hg => rfl); (case hr => first | (go_simp; done) | (go_simp; rfl)); (case hp => exact (Reps.none _ _)); intro v235 w2 ho3 hb hg_ hnew_; clear hg_ hnew_; (first | rw [← Ny234.out] at ho3 | (simp only [Int.reduceToNat] at ho3; rw [← Ny234.out] at ho3)); have n0_ := Aside0.mk (Kd.S_lower ho3 (below_size (by repeat (first | (with_reducible first | exact HB.out | apply below_alloc | apply pw_below_drewN | apply below_drew1) | exact HB.out)))); have n1_ := Aside0.mk (below_step (by repeat (first | (with_reducible first | exact HB.out | apply below_alloc | apply pw_below_drewN | apply below_drew1) | exact HB.out)) hb); clear HB; have HO236 := n0_; have HB := n1_; clear n0_ n1_; clear hb ho3))
 go_loopg [3, 4] k (fun kq v3 v4 w' => ∃ (x3_1 : List (S47)) (x4_1 : Int), v4 = .int .i64 x4_1 ∧ Aside0 (jalousieref09_Single.l0 kq l0 x3_1 x4_1 = some r) ∧ Aside0 (kq ≤ k) ∧ Aside0 (Kd.S k47 47 w' w.heap.size (fun _ => True) v3 x3_1) ∧ Aside0 (Below w.heap.size w w'))
 case atStart => exact ⟨(y234), (0), (by first | rfl | (simp; done) | (simp [*]; done)), H', ⟨Nat.le_refl _⟩, ⟨by (with_reducible repeat (first | apply Kd.S_alloc | apply Kd.S_drewN | apply Kd.S_drew)); exact HO236.out⟩, ⟨by repeat (first | (with_reducible first | exact HB.out | apply below_alloc | apply pw_below_drewN | apply below_drew1) | exact HB.out)⟩⟩
 case round =>
  clear H'
  try clear p2
  obtain ⟨x3_1, x4_1, rfl, HA, HK1, HO_3, HB⟩ := hrel
  cases gk with
  | zero => exact absurd HA.out (by simp [jalousieref09_Single.l0])
  | succ k1 =>
   have H := HA.out
   clear HA
   simp only [jalousieref09_Single.l0] at H
   by_cases c4 : x4_1 < (l0.length : Int)
   ·rw [if_pos c4] at H
    have c4b0 : decide (x4_1 < (l0.length : Int)) = true := decide_eq_true c4
    clear c4
    have H' := Aside0.mk H
    clear H
    go_wp2
    go_loopg [3, 5] k1 (fun kq v3 v5 w' => ∃ (x3_2 : List (S47)) (x5_2 : Int), v5 = .int .i64 x5_2 ∧ Aside0 (jalousieref09_Single.l1 kq l0 x3_2 x4_1 x5_2 = some r) ∧ Aside0 (kq ≤ k1) ∧ Aside0 (Kd.S k47 47 w' w.heap.size (fun _ => True) v3 x3_2) ∧ Aside0 (Below w.heap.size w w'))
    case atStart => exact ⟨(x3_1), (0), (by first | rfl | (simp; done) | (simp [*]; done)), H', ⟨Nat.le_refl _⟩, ⟨by (with_reducible repeat (first | apply Kd.S_alloc | apply Kd.S_drewN | apply Kd.S_drew)); exact HO_3.out⟩, ⟨by repeat (first | (with_reducible first | exact HB.out | apply below_alloc | apply pw_below_drewN | apply below_drew1) | exact HB.out)⟩⟩
    case round =>
     clear H'
     try clear p2
     try clear c4
     try clear c4b0
     try clear p2
     obtain ⟨x3_2, x5_2, rfl, HA, HK2, HO_3, HB⟩ := hrel
     cases gk with
     | zero => exact absurd HA.out (by simp [jalousieref09_Single.l1])
     | succ k2 =>
      have H := HA.out
      clear HA
      simp only [jalousieref09_Single.l1] at H
      by_cases c5 : 0 ≤ x4_1
      ·rw [if_pos c5] at H
       have c5b0 : decide (0 ≤ x4_1) = true := decide_eq_true c5
       clear c5
       by_cases c6 : x4_1 < (l0.length : Int)
       ·rw [if_pos c6] at H
        have c6b0 : decide (x4_1 < (l0.length : Int)) = true := decide_eq_true c6
        clear c6
        by_cases c7 : x5_2 < (((rd_T47 l0 x4_1).f1).length : Int)
        ·rw [if_pos c7] at H
         have c7b0 : decide (x5_2 < (((rd_T47 l0 x4_1).f1).length : Int)) = true := decide_eq_true c7
         clear c7
         by_cases c8 : 0 ≤ x5_2
         ·rw [if_pos c8] at H
          have c8b0 : decide (0 ≤ x5_2) = true := decide_eq_true c8
          clear c8
          obtain ⟨y241, hy241⟩ : ∃ y_ : List (S66), y_ = (([(⟨(rd_T66 ((rd_T47 l0 x4_1).f1) x5_2).f0, (rd_T66 ((rd_T47 l0 x4_1).f1) x5_2).f1⟩ : S66)] : List (S66))) := ⟨_, rfl⟩
          replace H : (if x3_2.length < 4398046511104 then (jalousieref09_Single.l1 k2 l0 (x3_2 ++ [(⟨(rd_T47 l0 x4_1).f0, y241⟩ : S47)]) x4_1 (wrap64 (x5_2 + 1))) else (none)) = some r := by first | (rw [hy241]; with_reducible exact H) | (have H2_ := (Option.bind_some _ _).symm.trans H; rw [hy241]; with_reducible exact H2_) | (have H2_ := (Option.bind_some _ _).symm.trans H; with_reducible exact H2_) | with_reducible exact H | (rw [hy241]; exact H) | exact H
          have Ny241 := Aside0.mk hy241
          clear hy241
          by_cases c9 : x3_2.length < 4398046511104
          ·rw [if_pos c9] at H
           have LMc9 := Aside0.mk c9
           clear c9
           obtain ⟨y244, hy244⟩ : ∃ y_ : List (S47), y_ = (x3_2 ++ [(⟨(rd_T47 l0 x4_1).f0, y241⟩ : S47)]) := ⟨_, rfl⟩
           replace H : (jalousieref09_Single.l1 k2 l0 y244 x4_1 (wrap64 (x5_2 + 1))) = some r := by first | (rw [hy244]; with_reducible exact H) | (have H2_ := (Option.bind_some _ _).symm.trans H; rw [hy244]; with_reducible exact H2_) | (have H2_ := (Option.bind_some _ _).symm.trans H; with_reducible exact H2_) | with_reducible exact H | (rw [hy244]; exact H) | exact H
           have Ny244 := Aside0.mk hy244
           clear hy244
           have H' := Aside0.mk H
           clear H
           have p237 : 0 ≤ (x4_1 : Int) := of_decide_eq_true (by first | (with_reducible assumption) | assumption)
           have q237 : x4_1 < (l0.length : Int) := of_decide_eq_true (by first | (with_reducible assumption) | assumption)
           obtain ⟨ad237, A237_1, c237_1, e237, hx237_0, hx237_1, hl237_1, hi237_1⟩ := at_T47 HR0.out x4_1 p237 q237
           cases e237
           replace hx237_0 := (HB.out.cell (World.block_lt_of_cell? w _ hx237_0)).trans hx237_0
           replace hx237_1 := (HB.out.cell (World.block_lt_of_cell? w _ hx237_1)).trans hx237_1
           have HR237_1 := Aside0.mk hi237_1
           have HC237_1 := Aside0.mk hl237_1
           clear hi237_1 hl237_1
           replace p237 := eq_true p237
           replace q237 := eq_true q237
           try go_wp2
           have n0_ := Aside0.mk (Kd.S_drew HO_3.out)
           have n1_ := Aside0.mk (below_drew1 HB.out)
           clear HO_3
           clear HB
           have HO_3 := n0_
           have HB := n1_
           clear n0_ n1_
           have p238 : 0 ≤ (x4_1 : Int) := of_decide_eq_true (by first | (with_reducible assumption) | assumption)
           have q238 : x4_1 < (l0.length : Int) := of_decide_eq_true (by first | (with_reducible assumption) | assumption)
           obtain ⟨ad238, A238_1, c238_1, e238, hx238_0, hx238_1, hl238_1, hi238_1⟩ := at_T47 HR0.out x4_1 p238 q238
           have hw238_1 := hx238_1
           have hw238_0 := hx238_0
           obtain rfl : ad237 = ad238 := (by injection e238)
           replace hx238_0 := (HB.out.cell (World.block_lt_of_cell? w _ hx238_0)).trans hx238_0
           replace hx238_1 := (HB.out.cell (World.block_lt_of_cell? w _ hx238_1)).trans hx238_1
           have HR238_1 := Aside0.mk hi238_1
           have HC238_1 := Aside0.mk hl238_1
           clear hi238_1 hl238_1
           replace p238 := eq_true p238
           replace q238 := eq_true q238
           have p239 : 0 ≤ (x4_1 : Int) := of_decide_eq_true (by first | (with_reducible assumption) | assumption)
           have q239 : x4_1 < (l0.length : Int) := of_decide_eq_true (by first | (with_reducible assumption) | assumption)
           obtain ⟨ad239, A239_1, c239_1, e239, hx239_0, hx239_1, hl239_1, hi239_1⟩ := at_T47 HR0.out x4_1 p239 q239
           have hw239_1 := hx239_1
           have hw239_0 := hx239_0
           obtain rfl : ad237 = ad239 := (by injection e239)
           replace hx239_0 := (HB.out.cell (World.block_lt_of_cell? w _ hx239_0)).trans hx239_0
           replace hx239_1 := (HB.out.cell (World.block_lt_of_cell? w _ hx239_1)).trans hx239_1
           have HR239_1 := Aside0.mk hi239_1
           have HC239_1 := Aside0.mk hl239_1
           clear hi239_1 hl239_1
           replace p239 := eq_true p239
           replace q239 := eq_true q239
           have ea_ := Option.some.inj (hx238_1.symm.trans hx239_1)
           injection ea_ with ea_ en_ ec_
           subst ea_
           subst ec_
           clear en_
           have p240 : 0 ≤ (x5_2 : Int) := of_decide_eq_true (by first | (with_reducible assumption) | assumption)
           have q240 : x5_2 < (((rd_T47 l0 x4_1).f1).length : Int) := of_decide_eq_true (by first | (with_reducible assumption) | assumption)
           obtain ⟨ad240, e240, hx240_0, hx240_1⟩ := at_T66 HR239_1.out x5_2 p240 q240
           have hw240_1 := hx240_1
           have hw240_0 := hx240_0
           cases e240
           replace hx240_0 := (HB.out.cell (World.block_lt_of_cell? w _ hx240_0)).trans hx240_0
           replace hx240_1 := (HB.out.cell (World.block_lt_of_cell? w _ hx240_1)).trans hx240_1
           replace p240 := eq_true p240
           replace q240 := eq_true q240
           refine start_ (n := 19) (S := fun w' => w'.cell? (ad237.add ((x4_1).toNat * 2)) = some (.int .i64 ((rd_T47 l0 x4_1).f0)) ∧ w'.cell? ⟨(ad237.add ((x4_1).toNat * 2)).block, (ad237.add ((x4_1).toNat * 2)).off + 1, none⟩ = some (.slice (some ad240) ((rd_T47 l0 x4_1).f1).length c238_1) ∧ w'.cell? (ad237.add ((x4_1).toNat * 2)) = some (.int .i64 ((rd_T47 l0 x4_1).f0)) ∧ w'.cell? ⟨(ad237.add ((x4_1).toNat * 2)).block, (ad237.add ((x4_1).toNat * 2)).off + 1, none⟩ = some (.slice (some ad240) ((rd_T47 l0 x4_1).f1).length c238_1) ∧ w'.cell? (ad240.add ((x5_2).toNat * 2)) = some (.string ((rd_T66 ((rd_T47 l0 x4_1).f1) x5_2).f0)) ∧ w'.cell? ⟨(ad240.add ((x5_2).toNat * 2)).block, (ad240.add ((x5_2).toNat * 2)).off + 1, none⟩ = some (.bool ((rd_T66 ((rd_T47 l0 x4_1).f1) x5_2).f1))) (ds := []) (Sq.bl 19 0) (by kernel_rfl) rfl rfl ⟨((HB.out.cell (World.block_lt_of_cell? w _ hw238_0)).trans hw238_0), ((HB.out.cell (World.block_lt_of_cell? w _ hw238_1)).trans hw238_1), ((HB.out.cell (World.block_lt_of_cell? w _ hw239_0)).trans hw239_0), ((HB.out.cell (World.block_lt_of_cell? w _ hw239_1)).trans hw239_1), ((HB.out.cell (World.block_lt_of_cell? w _ hw240_0)).trans hw240_0), ((HB.out.cell (World.block_lt_of_cell? w _ hw240_1)).trans hw240_1)⟩ (fun hHeld => ?_); refine with_tabW jalousieref09_Single.tab8 jalousieref09_Single.bits8 (fun HT_ HW_ => ?_)
           generalize wr.drew = w10 at HO_3 HB HR238_1 HR239_1 hx238_0 hx238_1 hx239_0 hx239_1 hx240_0 hx240_1 hHeld ⊢
           refine Sq.pu (v := ?_) (a' := ?_) 0 23 (Sq.bl 19 1) (any_of HT_.out (by kernel_rfl)) rfl rfl (fun _ _ _ h => h) (by rfl) ?_ ?_ ?_; rotate_left; (· intro w'; go_simp; with_reducible rfl); rotate_left; (· simp only [Act.put,zp1,zp2,zp3,zp4,zp5]; rfl)
           refine Sq.pu (v := ?_) (a' := ?_) 1 24 (Sq.bl 19 3) (any_of HT_.out (by kernel_rfl)) rfl rfl (fun _ _ _ h => h) (by rfl) ?_ ?_ ?_; rotate_left; (· intro w'; go_simp; with_reducible rfl); rotate_left; (· simp only [Act.put,zp1,zp2,zp3,zp4,zp5]; rfl)
           refine Sq.pu (v := ?_) (a' := ?_) 2 25 (Sq.bl 19 7) (any_of HT_.out (by kernel_rfl)) rfl rfl (fun _ _ _ h => h) (by rfl) ?_ ?_ ?_; rotate_left; (· intro w'; go_simp; with_reducible rfl); rotate_left; (· simp only [Act.put,zp1,zp2,zp3,zp4,zp5]; rfl)
           refine Sq.pu (v := ?_) (a' := ?_) 3 26 (Sq.bl 19 15) (any_of HT_.out (by kernel_rfl)) rfl rfl (fun _ _ _ h => h) (by rfl) ?_ ?_ ?_; rotate_left; (· intro w'; go_simp; with_reducible rfl); rotate_left; (· simp only [Act.put,zp1,zp2,zp3,zp4,zp5]; rfl)
           refine Sq.pu (v := ?_) (a' := ?_) 4 27 (Sq.bl 19 31) (any_of HT_.out (by kernel_rfl)) rfl rfl (fun _ _ _ h => h) (by rfl) ?_ ?_ ?_; rotate_left; (· intro w'; go_simp; with_reducible rfl); rotate_left; (· simp only [Act.put,zp1,zp2,zp3,zp4,zp5]; rfl)
           refine Sq.pu (v := ?_) (a' := ?_) 6 29 (Sq.bl 19 95) (any_of HT_.out (by kernel_rfl)) rfl rfl (fun _ _ _ h => h) (by rfl) ?_ ?_ ?_; rotate_left; (· intro w'; go_simp; with_reducible rfl); rotate_left; (· simp only [Act.put,zp1,zp2,zp3,zp4,zp5]; rfl)
           refine Sq.pu (v := ?_) (a' := ?_) 7 30 (Sq.bl 19 223) (any_of HT_.out (by kernel_rfl)) rfl rfl (fun _ _ _ h => h) (by rfl) ?_ ?_ ?_; rotate_left; (· intro w'; go_simp; with_reducible rfl); rotate_left; (· simp only [Act.put,zp1,zp2,zp3,zp4,zp5]; rfl)
           refine Sq.pu (v := ?_) (a' := ?_) 8 31 (Sq.bl 19 479) (any_of HT_.out (by kernel_rfl)) rfl rfl (fun _ _ _ h => h) (by rfl) ?_ ?_ ?_; rotate_left; (· intro w'; go_simp; with_reducible rfl); rotate_left; (· simp only [Act.put,zp1,zp2,zp3,zp4,zp5]; rfl)
           refine Sq.pu (v := ?_) (a' := ?_) 9 32 (Sq.bl 19 991) (any_of HT_.out (by kernel_rfl)) rfl rfl (fun _ _ _ h => h) (by rfl) ?_ ?_ ?_; rotate_left; (· intro w'; go_simp; with_reducible rfl); rotate_left; (· simp only [Act.put,zp1,zp2,zp3,zp4,zp5]; rfl)
           refine Sq.pu (v := ?_) (a' := ?_) 11 34 (Sq.bl 19 3039) (any_of HT_.out (by kernel_rfl)) rfl rfl (fun _ _ _ h => h) (by rfl) ?_ ?_ ?_; rotate_left; (· intro w'; go_simp; with_reducible rfl); rotate_left; (· simp only [Act.put,zp1,zp2,zp3,zp4,zp5]; rfl)
           refine take_ (i := 5) (N := some 28) (v := ?_) (a' := ?_) (Sq.bl 19 3071) rfl rfl (take_ofW HT_.out HW_.out (by kernel_rfl)) (fun _ _ _ h => h) (Or.inl ⟨by rfl, ?_⟩) hHeld ?_ ?_
           rotate_left
           ·rintro w' ⟨s0, s1, s2, s3, s4, s5⟩
            go_simp
            with_reducible rfl
           rotate_left
           ·simp only [Act.put,zp1,zp2,zp3,zp4,zp5]
            rfl
           refine take_ (i := 10) (N := some 33) (v := ?_) (a' := ?_) (Sq.bl 19 4095) rfl rfl (take_ofW HT_.out HW_.out (by kernel_rfl)) (fun _ _ _ h => h) (Or.inl ⟨by rfl, ?_⟩) hHeld ?_ ?_
           rotate_left
           ·rintro w' ⟨s0, s1, s2, s3, s4, s5⟩
            go_simp
            with_reducible rfl
           rotate_left
           ·simp only [Act.put,zp1,zp2,zp3,zp4,zp5]
            rfl
           refine Sq.pu (v := ?_) (a' := ?_) 12 35 (Sq.bl 19 8191) (any_of HT_.out (by kernel_rfl)) rfl rfl (fun _ _ _ h => h) (by rfl) ?_ ?_ ?_; rotate_left; (· intro w'; go_simp; with_reducible rfl); rotate_left; (· simp only [Act.put,zp1,zp2,zp3,zp4,zp5]; rfl)
           refine take_ (i := 13) (N := some 36) (v := ?_) (a' := ?_) (Sq.bl 19 16383) rfl rfl (take_ofW HT_.out HW_.out (by kernel_rfl)) (fun _ _ _ h => h) (Or.inl ⟨by rfl, ?_⟩) hHeld ?_ ?_
           rotate_left
           ·rintro w' ⟨s0, s1, s2, s3, s4, s5⟩
            go_simp
            with_reducible rfl
           rotate_left
           ·simp only [Act.put,zp1,zp2,zp3,zp4,zp5]
            rfl
           refine one_ (i := 14) (N := some 37) (Sq.bl 19 32767) rfl rfl (one_of HT_.out (by kernel_rfl)) (by decide) (fun K hK => ?_)
           refine Kd.R_lit_step k66 _ 66 ?hg (N := 37) ?hd (xs := ([(⟨(rd_T66 ((rd_T47 l0 x4_1).f1) x5_2).f0, (rd_T66 ((rd_T47 l0 x4_1).f1) x5_2).f1⟩ : S66)] : List (S66))) (inner := [.string ((rd_T66 ((rd_T47 l0 x4_1).f1) x5_2).f0), .bool ((rd_T66 ((rd_T47 l0 x4_1).f1) x5_2).f1)]) (ok := fun _ => True) (okp := fun _ => True) ?hr ?hp (fun _ hk => hk) trivial (Below.refl _ _) (Nat.le_refl _) (by simp) ?_; (case hd => rfl); (case hg => rfl); (case hr => first | (go_simp; done) | (go_simp; rfl)); (case hp => exact (Reps.c2 (show Kd.M k66 _ _ _ (⟨(rd_T66 ((rd_T47 l0 x4_1).f1) x5_2).f0, (rd_T66 ((rd_T47 l0 x4_1).f1) x5_2).f1⟩ : S66) [.string ((rd_T66 ((rd_T47 l0 x4_1).f1) x5_2).f0), .bool ((rd_T66 ((rd_T47 l0 x4_1).f1) x5_2).f1)] from (k66_mkM _ _ _ (⟨(rd_T66 ((rd_T47 l0 x4_1).f1) x5_2).f0, (rd_T66 ((rd_T47 l0 x4_1).f1) x5_2).f1⟩ : S66) )) (Reps.none _ _)))
           intro v242 w11 ho12 hb hg_ hnew_
           clear hg_ hnew_
           (first | rw [← Ny241.out] at ho12 | (simp only [Int.reduceToNat] at ho12; rw [← Ny241.out] at ho12))
           have n0_ := Aside0.mk (Kd.S_elder' (by (with_reducible repeat (first | apply Kd.S_alloc | apply Kd.S_drewN | apply Kd.S_drew)); exact HO_3.out) (Kd.R_base ho12) hb)
           have n1_ := Aside0.mk (Kd.R_lower ho12 (below_size (by repeat (first | (with_reducible first | exact HB.out | apply below_alloc | apply pw_below_drewN | apply below_drew1) | exact HB.out))))
           have n2_ := Aside0.mk (below_step (by repeat (first | (with_reducible first | exact HB.out | apply below_alloc | apply pw_below_drewN | apply below_drew1) | exact HB.out)) hb)
           clear HO_3
           clear HB
           have HO_3 := n0_
           have HO243 := n1_
           have HB := n2_
           clear n0_ n1_ n2_
           clear hb ho12
           obtain ⟨Ao13, co13, eo13⟩ := Kd.R_slice HO243.out
           (first | subst eo13 | (injection eo13 with f1_ f2_ f3_; have f4_ := f1_.symm; have f5_ := f3_.symm; clear f1_ f2_ f3_; subst f4_; subst f5_))
           refine hK.out _ _ ⟨((HB.out.cell (World.block_lt_of_cell? w _ hw238_0)).trans hw238_0), ((HB.out.cell (World.block_lt_of_cell? w _ hw238_1)).trans hw238_1), ((HB.out.cell (World.block_lt_of_cell? w _ hw239_0)).trans hw239_0), ((HB.out.cell (World.block_lt_of_cell? w _ hw239_1)).trans hw239_1), ((HB.out.cell (World.block_lt_of_cell? w _ hw240_0)).trans hw240_0), ((HB.out.cell (World.block_lt_of_cell? w _ hw240_1)).trans hw240_1)⟩ (fun hHeld => ?_)
           clear hK K
           refine norm_ (a' := ?_) ?_ ?_
           rotate_left
           ·show Act.put _ (some 37) _ = _
            simp only [Act.put,zp1,zp2,zp3,zp4,zp5]
            rfl
           refine Sq.pu (v := ?_) (a' := ?_) 15 38 (Sq.bl 19 65535) (any_of HT_.out (by kernel_rfl)) rfl rfl (fun _ _ _ h => h) (by rfl) ?_ ?_ ?_; rotate_left; (· intro w'; go_simp; with_reducible rfl); rotate_left; (· simp only [Act.put,zp1,zp2,zp3,zp4,zp5]; rfl)
           refine one_ (i := 16) (N := some 39) (Sq.bl 19 131071) rfl rfl (one_of HT_.out (by kernel_rfl)) (by decide) (fun K hK => ?_)
           refine value_ (w1 := ?_) (v := ?_) (by rfl) rfl ?_ ?_
           rotate_left 2
           ·go_simp
            constructor
            ·rfl
            ·rfl
           refine hK.out _ _ ⟨(World.cell?_alloc_lt _ _ _ (World.block_lt_of_cell? _ _ (((HB.out.cell (World.block_lt_of_cell? w _ hw238_0)).trans hw238_0)))).trans (((HB.out.cell (World.block_lt_of_cell? w _ hw238_0)).trans hw238_0)), (World.cell?_alloc_lt _ _ _ (World.block_lt_of_cell? _ _ (((HB.out.cell (World.block_lt_of_cell? w _ hw238_1)).trans hw238_1)))).trans (((HB.out.cell (World.block_lt_of_cell? w _ hw238_1)).trans hw238_1)), (World.cell?_alloc_lt _ _ _ (World.block_lt_of_cell? _ _ (((HB.out.cell (World.block_lt_of_cell? w _ hw239_0)).trans hw239_0)))).trans (((HB.out.cell (World.block_lt_of_cell? w _ hw239_0)).trans hw239_0)), (World.cell?_alloc_lt _ _ _ (World.block_lt_of_cell? _ _ (((HB.out.cell (World.block_lt_of_cell? w _ hw239_1)).trans hw239_1)))).trans (((HB.out.cell (World.block_lt_of_cell? w _ hw239_1)).trans hw239_1)), (World.cell?_alloc_lt _ _ _ (World.block_lt_of_cell? _ _ (((HB.out.cell (World.block_lt_of_cell? w _ hw240_0)).trans hw240_0)))).trans (((HB.out.cell (World.block_lt_of_cell? w _ hw240_0)).trans hw240_0)), (World.cell?_alloc_lt _ _ _ (World.block_lt_of_cell? _ _ (((HB.out.cell (World.block_lt_of_cell? w _ hw240_1)).trans hw240_1)))).trans (((HB.out.cell (World.block_lt_of_cell? w _ hw240_1)).trans hw240_1))⟩ (fun hHeld => ?_)
           clear hK K
           refine norm_ (a' := ?_) ?_ ?_
           rotate_left
           ·show Act.put _ (some 39) _ = _
            simp only [Act.put,zp1,zp2,zp3,zp4,zp5]
            rfl
           refine one_ (i := 17) (N := some 40) (Sq.bl 19 262143) rfl rfl (one_of HT_.out (by kernel_rfl)) (by decide) (fun K hK => ?_)
           refine Kd.S_append_step k47 (w0 := w) w.heap.size (by rfl) (.tmp 23) (.tmp 39) 22 47 (.agg #[(.int .i64 0), (.slice none 0 0)]) 32 rfl Try.underlying22 info47 rfl (by decide) (by omega) u3 x3_2 (⟨(rd_T47 l0 x4_1).f0, y241⟩ : S47) [.int .i64 ((rd_T47 l0 x4_1).f0), .slice Ao13 y241.length co13] (fun _ => True) (fun k_ => some k_ = (.slice Ao13 y241.length co13 : Value).ownBlock) rfl rfl ?aP (fun k_ hk_ => ((Kd.R_mono (ok' := fun k_ => ((fun _ => True)) k_ ∧ some k_ ≠ (u3 : Value).ownBlock) (Kd.R_apart' (HO243.out) (Kd.S_typed HO_3.out) (by decide)) (fun k_ hk => ⟨trivial, hk.2⟩))).1 k_ hk_.symm) ?aF ?aO ?aB ?aS ?aL ?_
           (case aP => exact k47_mkM _ _ _ (⟨(rd_T47 l0 x4_1).f0, y241⟩ : S47) (Kd.R_mono (Kd.R_tight rfl (Kd.R_mono (ok' := fun k_ => ((fun _ => True)) k_ ∧ some k_ ≠ (u3 : Value).ownBlock) (Kd.R_apart' (HO243.out) (Kd.S_typed HO_3.out) (by decide)) (fun k_ hk => ⟨trivial, hk.2⟩))) (fun _ h_ => h_)))
           (case aB => exact (by repeat (first | (with_reducible first | exact HB.out | apply below_alloc | apply pw_below_drewN | apply below_drew1) | exact HB.out)))
           (case aF => exact (fun _ _ => trivial))
           (case aO => exact (by (with_reducible repeat (first | apply Kd.S_alloc | apply Kd.S_drewN | apply Kd.S_drew)); exact Kd.S_mono HO_3.out (fun k_ hk => ⟨trivial, fun e_ => hk.2 e_⟩)))
           (case aS => exact (below_size (by repeat (first | (with_reducible first | exact HB.out | apply below_alloc | apply pw_below_drewN | apply below_drew1) | exact HB.out))))
           (case aL => have := LMc9.out; omega)
           intro v245 w14 ho hb hg hat
           rw [← Ny244.out] at ho
           have n0_ := Aside0.mk (hb)
           have n1_ := Aside0.mk (ho)
           clear HB
           clear HO_3
           clear HO243
           have HB := n0_
           have HO246 := n1_
           clear n0_ n1_
           clear ho hb hg hat
           refine hK.out _ _ ⟨((HB.out.cell (World.block_lt_of_cell? w _ hw238_0)).trans hw238_0), ((HB.out.cell (World.block_lt_of_cell? w _ hw238_1)).trans hw238_1), ((HB.out.cell (World.block_lt_of_cell? w _ hw239_0)).trans hw239_0), ((HB.out.cell (World.block_lt_of_cell? w _ hw239_1)).trans hw239_1), ((HB.out.cell (World.block_lt_of_cell? w _ hw240_0)).trans hw240_0), ((HB.out.cell (World.block_lt_of_cell? w _ hw240_1)).trans hw240_1)⟩ (fun hHeld => ?_)
           clear hK K
           refine norm_ (a' := ?_) ?_ ?_
           rotate_left
           ·show Act.put _ (some 40) _ = _
            simp only [Act.put,zp1,zp2,zp3,zp4,zp5]
            rfl
           refine Sq.pu (v := ?_) (a' := ?_) 18 3 (Sq.bl 19 524287) (any_of HT_.out (by kernel_rfl)) rfl rfl (fun _ _ _ h => h) (by rfl) ?_ ?_ ?_; rotate_left; (· intro w'; go_simp; with_reducible rfl); rotate_left; (· simp only [Act.put,zp1,zp2,zp3,zp4,zp5]; rfl)
           refine done_ (done_of HT_.out (by kernel_rfl)) ?_
           try go_wp2
           go_roundg k2
           case measure => have := HK1.out; have := HK2.out; omega
           case rel => exact ⟨(y244), (wrap64 (x5_2 + 1)), (by first | rfl | (simp; done) | (simp [*]; done)), H', ⟨by have := HK1.out; have := HK2.out; omega⟩, ⟨by (with_reducible repeat (first | apply Kd.S_alloc | apply Kd.S_drewN | apply Kd.S_drew)); exact HO246.out⟩, ⟨by repeat (first | (with_reducible first | exact HB.out | apply below_alloc | apply pw_below_drewN | apply below_drew1) | exact HB.out)⟩⟩
          ·rw [if_neg c9] at H
           exact absurd H (by simp)
         ·rw [if_neg c8] at H
          exact absurd H (by simp)
        ·rw [if_neg c7] at H
         have c7b0 : decide (x5_2 < (((rd_T47 l0 x4_1).f1).length : Int)) = false := decide_eq_false c7
         clear c7
         have H' := Aside0.mk H
         clear H
         have p237 : 0 ≤ (x4_1 : Int) := of_decide_eq_true (by first | (with_reducible assumption) | assumption)
         have q237 : x4_1 < (l0.length : Int) := of_decide_eq_true (by first | (with_reducible assumption) | assumption)
         obtain ⟨ad237, A237_1, c237_1, e237, hx237_0, hx237_1, hl237_1, hi237_1⟩ := at_T47 HR0.out x4_1 p237 q237
         cases e237
         replace hx237_0 := (HB.out.cell (World.block_lt_of_cell? w _ hx237_0)).trans hx237_0
         replace hx237_1 := (HB.out.cell (World.block_lt_of_cell? w _ hx237_1)).trans hx237_1
         have HR237_1 := Aside0.mk hi237_1
         have HC237_1 := Aside0.mk hl237_1
         clear hi237_1 hl237_1
         replace p237 := eq_true p237
         replace q237 := eq_true q237
         go_wp2
         go_roundg k2
         case measure => have := HK1.out; have := HK2.out; omega
         case rel => exact ⟨(x3_2), (wrap64 (x4_1 + 1)), (by first | rfl | (simp; done) | (simp [*]; done)), H', ⟨by have := HK1.out; have := HK2.out; omega⟩, ⟨by (with_reducible repeat (first | apply Kd.S_alloc | apply Kd.S_drewN | apply Kd.S_drew)); exact HO_3.out⟩, ⟨by repeat (first | (with_reducible first | exact HB.out | apply below_alloc | apply pw_below_drewN | apply below_drew1) | exact HB.out)⟩⟩
       ·rw [if_neg c6] at H
        exact absurd H (by simp)
      ·rw [if_neg c5] at H
       exact absurd H (by simp)
   ·rw [if_neg c4] at H
    have c4b0 : decide (x4_1 < (l0.length : Int)) = false := decide_eq_false c4
    clear c4
    obtain rfl := Option.some.inj H
    go_wp2
    go_ret
    exact ⟨_, by first | rfl | (simp [errW_none, errW_some] <;> rfl) | (simp [*, errW_none, errW_some] <;> rfl), by (with_reducible repeat (first | apply Kd.S_alloc | apply Kd.S_drewN | apply Kd.S_drew)); exact HO_3.out, by repeat (first | (with_reducible first | exact HB.out | apply below_alloc | apply pw_below_drewN | apply below_drew1) | exact HB.out)⟩

end Go.Proofs.Ytfnbodjmmkjlcaa.H
end
section
namespace Go.Proofs.Ytfnbodjmmkjlcaa.H
open Go.RowKit Go.Proofs.YtfnbodjmmkjlcaaW.PrintWords Go.Proofs.YtfnbodjmmkjlcaaW.PrintLast Go.Proofs.YtfnbodjmmkjlcaaW.PrintMore
attribute [local go_sem] max2_int min2_int max_two min_two max_three min_three max_four min_four   -- for this text's walks alone
set_option linter.unusedVariables false
set_option linter.unusedSimpArgs false

def jalousieref09_near.l0 : Nat → List (S47) → Int → Int → Int → Option (Bool)
 | 0, _, _, _, _ => none
 | k + 1, x0, x1, x2, x7 => if x7 ≤ (wrap64 (x1 + x2)) then (if x7 ≥ 0 then (if x7 < (x0.length : Int) then (if 0 ≤ x7 then (if ((rd_T47 x0 x7).f0) = 1 then (jalousieref09_near.l0 k x0 x1 x2 (wrap64 (x7 + 1))) else (some true)) else (none)) else (jalousieref09_near.l0 k x0 x1 x2 (wrap64 (x7 + 1)))) else (jalousieref09_near.l0 k x0 x1 x2 (wrap64 (x7 + 1)))) else (some false)
def jalousieref09_near.f (k : Nat) (l0 : List (S47)) (a1 : Int) (a2 : Int) : Option (Bool) := jalousieref09_near.l0 k l0 a1 a2 (wrap64 (a1 - a2))
set_option maxHeartbeats 8000000 in
set_option maxRecDepth 100000 in
theorem jalousieref09_near.calls (k : Nat) (A0 : Option Addr) (c0 : Nat) (l0 : List (S47)) (a1 : Int) (a2 : Int) (r : Bool) (w : World) (hr0 : Kd.C k47 w A0 l0.length l0) (hc0 : l0.length ≤ c0) (h : jalousieref09_near.f k l0 a1 a2 = some r) :
  Calls Try.prog 46 #[.slice A0 l0.length c0, .int .i64 a1, .int .i64 a2] w fun e w' => e = .returned (.bool r) ∧ Drawn0 w w' := by
 have HR0 := Aside0.mk hr0
 have HC0 := Aside0.mk hc0
 clear hr0 hc0
 have H : (jalousieref09_near.l0 k l0 a1 a2 (wrap64 (a1 - a2))) = some r := h
 clear h
 have H' := Aside0.mk H
 clear H
 go_enter Try.func46, Try.ntmps46
 go_wp2
 go_loopg [7] k (fun kq v7 w' => ∃ (x7_1 : Int), v7 = .int .i64 x7_1 ∧ Aside0 (jalousieref09_near.l0 kq l0 a1 a2 x7_1 = some r) ∧ Aside0 (kq ≤ k) ∧ Drawn0 w w')
 case atStart => exact ⟨(wrap64 (a1 - a2)), (by first | rfl | (simp; done) | (simp [*]; done)), H', ⟨Nat.le_refl _⟩, by repeat (first | exact Drawn0.refl _ | apply Drawn0.step)⟩
 case round =>
  clear H'
  try clear p2
  obtain ⟨x7_1, rfl, HA, HK1, ⟨m1, rfl⟩⟩ := hrel
  cases gk with
  | zero => exact absurd HA.out (by simp [jalousieref09_near.l0])
  | succ k1 =>
   have H := HA.out
   clear HA
   simp only [jalousieref09_near.l0] at H
   by_cases c4 : x7_1 ≤ (wrap64 (a1 + a2))
   ·rw [if_pos c4] at H
    have c4b0 : decide (x7_1 ≤ (wrap64 (a1 + a2))) = true := decide_eq_true c4
    clear c4
    by_cases c5 : x7_1 ≥ 0
    ·rw [if_pos c5] at H
     have c5b0 : decide (0 ≤ x7_1) = true := decide_eq_true c5
     clear c5
     by_cases c6 : x7_1 < (l0.length : Int)
     ·rw [if_pos c6] at H
      have c6b0 : decide (x7_1 < (l0.length : Int)) = true := decide_eq_true c6
      clear c6
      by_cases c7 : 0 ≤ x7_1
      ·rw [if_pos c7] at H
       have c7b0 : decide (0 ≤ x7_1) = true := decide_eq_true c7
       clear c7
       by_cases c8 : ((rd_T47 l0 x7_1).f0) = 1
       ·rw [if_pos c8] at H
        have c8b0 : (((rd_T47 l0 x7_1).f0) == 1) = true := beq_iff_eq.mpr c8
        have c8b1 : (((rd_T47 l0 x7_1).f0) != 1) = false := bne_eq_false_iff_eq.mpr c8
        clear c8
        have H' := Aside0.mk H
        clear H
        have p247 : 0 ≤ (x7_1 : Int) := of_decide_eq_true (by first | (with_reducible assumption) | assumption)
        have q247 : x7_1 < (l0.length : Int) := of_decide_eq_true (by first | (with_reducible assumption) | assumption)
        obtain ⟨ad247, A247_1, c247_1, e247, hx247_0, hx247_1, hl247_1, hi247_1⟩ := at_T47 HR0.out x7_1 p247 q247
        cases e247
        have HR247_1 := Aside0.mk hi247_1
        have HC247_1 := Aside0.mk hl247_1
        clear hi247_1 hl247_1
        replace p247 := eq_true p247
        replace q247 := eq_true q247
        go_wp2
        go_roundg k1
        case measure => have := HK1.out; omega
        case rel => exact ⟨(wrap64 (x7_1 + 1)), (by first | rfl | (simp; done) | (simp [*]; done)), H', ⟨by have := HK1.out; omega⟩, by repeat (first | exact Drawn0.refl _ | apply Drawn0.step)⟩
       ·rw [if_neg c8] at H
        have c8b0 : (((rd_T47 l0 x7_1).f0) == 1) = false := beq_eq_false_iff_ne.mpr c8
        have c8b1 : (((rd_T47 l0 x7_1).f0) != 1) = true := bne_iff_ne.mpr c8
        obtain rfl := Option.some.inj H
        have p247 : 0 ≤ (x7_1 : Int) := of_decide_eq_true (by first | (with_reducible assumption) | assumption)
        have q247 : x7_1 < (l0.length : Int) := of_decide_eq_true (by first | (with_reducible assumption) | assumption)
        obtain ⟨ad247, A247_1, c247_1, e247, hx247_0, hx247_1, hl247_1, hi247_1⟩ := at_T47 HR0.out x7_1 p247 q247
        cases e247
        have HR247_1 := Aside0.mk hi247_1
        have HC247_1 := Aside0.mk hl247_1
        clear hi247_1 hl247_1
        replace p247 := eq_true p247
        replace q247 := eq_true q247
        go_wp2
        go_ret
        exact ⟨by first | rfl | (simp; done) | (simp [*]; done), by repeat (first | exact Drawn0.refl _ | apply Drawn0.step)⟩
      ·rw [if_neg c7] at H
       exact absurd H (by simp)
     ·rw [if_neg c6] at H
      have c6b0 : decide (x7_1 < (l0.length : Int)) = false := decide_eq_false c6
      clear c6
      have H' := Aside0.mk H
      clear H
      go_wp2
      go_roundg k1
      case measure => have := HK1.out; omega
      case rel => exact ⟨(wrap64 (x7_1 + 1)), (by first | rfl | (simp; done) | (simp [*]; done)), H', ⟨by have := HK1.out; omega⟩, by repeat (first | exact Drawn0.refl _ | apply Drawn0.step)⟩
    ·rw [if_neg c5] at H
     have c5b0 : decide (0 ≤ x7_1) = false := decide_eq_false c5
     clear c5
     have H' := Aside0.mk H
     clear H
     go_wp2
     go_roundg k1
     case measure => have := HK1.out; omega
     case rel => exact ⟨(wrap64 (x7_1 + 1)), (by first | rfl | (simp; done) | (simp [*]; done)), H', ⟨by have := HK1.out; omega⟩, by repeat (first | exact Drawn0.refl _ | apply Drawn0.step)⟩
   ·rw [if_neg c4] at H
    have c4b0 : decide (x7_1 ≤ (wrap64 (a1 + a2))) = false := decide_eq_false c4
    clear c4
    obtain rfl := Option.some.inj H
    go_wp2
    go_ret
    exact ⟨by first | rfl | (simp; done) | (simp [*]; done), by repeat (first | exact Drawn0.refl _ | apply Drawn0.step)⟩

end Go.Proofs.Ytfnbodjmmkjlcaa.H
end
