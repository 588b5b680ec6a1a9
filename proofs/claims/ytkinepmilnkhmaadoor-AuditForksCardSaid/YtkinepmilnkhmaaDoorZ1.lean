/-
  What the claim needs of the words, of the walks and of the plain proofs, in one row (1).
-/
import Derived.Test.YtkinepmilnkhmaaDoorRows
import Derived.SizedLaws
import Derived.ChangeSlices
import Derived.OpenShut
import Derived.ShutString
import Derived.Test.YtkinepmilnkhmaaDoorProg
import Derived.Below
import Derived.Deep.Draws
import Derived.Deep.AppendLies
import Derived.Maps.AppendAt
import Derived.OwnWalk
import Derived.Laws.BytesArg
import Derived.Laws.MakeOwn
import Derived.Laws.OwnMore
import Derived.Deep.OwnRows
import Derived.Tactics
import Derived.Lib.ConvBytes
import Derived.Laws.Slices
import Derived.WalkKit
import Derived.KernelRfl
import Derived.RowKit3
import Derived.Deep.LoopGhost
import Derived.Deep.QuietTactic
import Derived.BigQuiet
import Derived.WideLaws
import Derived.Deep.DeepCutAuto
import Derived.Deep.CutBlock
import Derived.Deep.RegionHeld3
import Derived.Laws.Rows
import Derived.Lib.AppendStr
import Derived.ArgAppend
import Derived.Laws.IdiomCopy
import Derived.OrdersHeld
import Derived.Laws.BitsLemmas
import Derived.RowKit
import Derived.WalkLawsBesides
import Derived.WalkSpells
import Derived.RangeFuncNested
import Derived.RangeFuncBound
import Derived.RangeFuncCalls
import Derived.RangeFuncLeaves
import Derived.RangeFuncBox
import Derived.RangeFuncMany
import Derived.Shelf.Abstract
import Derived.OwnWalkIn
import Derived.TacticsInMore
import Derived.LoopNIn
import Derived.LoopIn
import Derived.WideKeyEntry
import Derived.DeepKeys5
import Derived.Maps.OwnSet
import Derived.Maps.Views
import Derived.Maps.RangeWalk
import Derived.Test.YtkinepmilnkhmaaDoorZ0
section
namespace Go.Proofs.YtkinepmilnkhmaaDoor.Sq
open Go.RowKit Go.Proofs.YtkinepmilnkhmaaDoorW.PrintWords Go.Proofs.YtkinepmilnkhmaaDoorW.PrintLast
/-- n marks, by a number's bits. -/
def bl (n m : Nat) : Array Bool := ((List.range n).map fun i => m.testBit i).toArray
theorem pu {P : Program} {ops : Array Oper} {Q : Exit → Act → World → Prop} {md : Region.Mode} {S : World → Prop} {ds : List Nat} {oi : Oper} {v : Value} {fuel : Nat} {l : Array Bool} {a : Act} {w : World} (i N : Nat) (l' : Array Bool)
    (hc : anyB md ops l l' i = true) (hi : ops[i]? = some oi) (hN : oi.dst = some N)
    (hQ : ∀ c a w, Q (.panic c) (a.put oi.dst v) w → Q (.panic c) a w) (hw : Region.wanted oi (yielded ops a.tmps) = true) (hy : ∀ w, (execOp a.eval oi).run P w = .ok (.value v) w) {a' : Act} (ha : a.put (some N) v = a')
    (h : wpAnyLast P md ops Q S ds fuel l' a' w) : wpAnyLast P md ops Q S ds (fuel + 1) l a w :=
  pure_ (N := some N) l' hi hN hc hQ (Or.inl ⟨hw, hy⟩) ha h
end Go.Proofs.YtkinepmilnkhmaaDoor.Sq
namespace Go.Proofs.YtkinepmilnkhmaaDoor
open Go.RowKit Go.Proofs.YtkinepmilnkhmaaDoorW.PrintWords Go.Proofs.YtkinepmilnkhmaaDoorW.PrintLast
theorem zb1 {w : World} {g : Nat} {o : Obj} (h : w.heap[g]? = some o) (n : Nat) : (w.drewN n).heap[g]? = some o := blk_drewN h n
theorem zb2 {w : World} {g : Nat} {o : Obj} (h : w.heap[g]? = some o) : w.drew.heap[g]? = some o := blk_drew h
theorem zb3 {w : World} {g : Nat} {o : Obj} (h : w.heap[g]? = some o) (o' : Obj) : (w.alloc o').heap[g]? = some o := blk_alloc h o'
theorem zr1 {α : Type} {d : Kd α} {e : Nat} {w : World} {base : Nat} {ok : Nat → Prop} {v : Value} {xs : List α} (h : d.R e w base ok v xs) (o : Obj) : d.R e (w.alloc o) base ok v xs := Kd.R_alloc h o
theorem zr2 {α : Type} {d : Kd α} {e : Nat} {w : World} {base : Nat} {ok : Nat → Prop} {v : Value} {xs : List α} (h : d.R e w base ok v xs) (m : Nat) : d.R e (w.drewN m) base ok v xs := Kd.R_drewN h m
theorem zr3 {α : Type} {d : Kd α} {e : Nat} {w : World} {base : Nat} {ok : Nat → Prop} {v : Value} {xs : List α} (h : d.R e w base ok v xs) : d.R e w.drew base ok v xs := Kd.R_drew h
theorem zp1 {α : Type} (l : List α) (i : Nat) (a : α) : l.toArray.setIfInBounds i a = (l.set i a).toArray := List.setIfInBounds_toArray l i a
theorem zp2 {α : Type} {x : α} {xs : List α} {a : α} : (x :: xs).set 0 a = a :: xs := rfl
theorem zp3 {α : Type} {x : α} {xs : List α} {i : Nat} {a : α} : (x :: xs).set (i + 1) a = x :: xs.set i a := rfl
theorem zp4 (n : Int) : IntKind.i64.wrap n = wrap64 n := i64_w n
theorem zp5 (n : Int) : IntKind.i32.wrap n = wrap32 n := i32_w n
end Go.Proofs.YtkinepmilnkhmaaDoor
end
section
namespace Go.Proofs.YtkinepmilnkhmaaDoor.Opening
open Go.RowKit Go.ChangeShapes Go.WideShapes Go.Proofs.YtkinepmilnkhmaaDoorW.PrintWords
set_option linter.unusedVariables false
set_option linter.unusedSimpArgs false

theorem sum_le {H α : Type} (B : α → Nat) : ∀ (xs : List α) (ds : List (DataW H)), xs.length = ds.length → (∀ (i : Nat) (x : α) (d : DataW H), xs[i]? = some x → ds[i]? = some d → B x ≤ Rows.uptoBulk d) → (xs.map B).sum ≤ Rows.uptoBulkAll ds
  | [], _, _, _ => Nat.zero_le _
  | x :: xs, [], h, _ => by simp at h
  | x :: xs, d :: ds, h, hp => by
    have h0 := hp 0 x d rfl rfl
    have h1 := sum_le B xs ds (by simpa using h) (fun i y e hy he => hp (i + 1) y e (by simpa using hy) (by simpa using he))
    simp only [List.map_cons, List.sum_cons, Rows.uptoBulkAll]
    omega

/-- Every reading at type t is one of kind k: its numbers fit (S), what the reach bounds (Z), its bulk (B). -/
def Opn {α : Type} (P : Program) (t : TypeId) (k : Kd α) (S Z : α → Prop) (B : α → Nat) : Prop :=
  ∀ (H : Type) (enc : TypeId × Value → H) (W : World) (base fuel : Nat) (cs : List Value) (d : DataW H) (p : List MemPlace),
    DataW.trod enc P W base (fun _ => true) true fuel t cs = some (d, p) → ∃ x, k.K W x cs ∧ S x ∧ ((∀ n ∈ d.weights P t, n ≤ reachBytes) → Z x) ∧ B x ≤ Rows.uptoBulk d

theorem opn_int {P : Program} {t : TypeId} {k : IntKind} (hu : P.underlying t = some (.int k)) : Opn P t (Kd.int k) (fun x => (Lit.int k x).wf = true) (fun _ => True) (fun _ => 1) := by
  intro H enc W base fuel cs d p h
  obtain ⟨n, rfl, e, hw⟩ := DataW.trod_int hu h
  obtain ⟨rfl, rfl⟩ := Prod.mk.inj e
  exact ⟨n, rfl, hw, fun _ => trivial, by simp [Rows.uptoBulk]⟩
theorem opn_string {P : Program} {t : TypeId} (hu : P.underlying t = some .string) : Opn P t Kd.string (fun s => s.size ≤ 9223372036854775807) (fun s => s.size ≤ 140737488351232) (fun s => s.size + 1) := by
  intro H enc W base fuel cs d p h
  obtain ⟨s, rfl, e, hs⟩ := DataW.trod_string hu h
  obtain ⟨rfl, rfl⟩ := Prod.mk.inj e
  refine ⟨s, rfl, hs, fun hz => ?_, ?_⟩
  · have := hz s.data.toList.length (by simp [DataW.weights])
    rw [data_length] at this
    exact this
  · simp only [Rows.uptoBulk]
    rw [data_length]
    exact Nat.le_refl _

theorem choose_list {α : Type} (Q : Nat → α → Prop) : ∀ n, (∀ i, i < n → ∃ x, Q i x) → ∃ xs : List α, xs.length = n ∧ ∀ i x, xs[i]? = some x → Q i x
  | 0, _ => ⟨[], rfl, fun i x h => by simp at h⟩
  | n + 1, h => by
    obtain ⟨xs, hl, hx⟩ := choose_list Q n (fun i hi => h i (by omega))
    obtain ⟨y, hy⟩ := h n (by omega)
    refine ⟨xs ++ [y], by simp [hl], fun i x hi => ?_⟩
    rcases Nat.lt_or_ge i xs.length with h1 | h1
    · rw [List.getElem?_append_left h1] at hi
      exact hx i x hi
    · have h2 : i = n := by
        have := (List.getElem?_eq_some_iff.1 hi).1
        simp at this
        omega
      subst h2
      rw [List.getElem?_append_right (by omega), hl, Nat.sub_self] at hi
      have : y = x := by simpa using hi
      subst this
      exact hy

theorem weights_all {H : Type} {P : Program} {e : TypeId} : ∀ {l : List (DataW H)} {d : DataW H}, d ∈ l → ∀ n ∈ d.weights P e, n ∈ DataW.weightsAll P e l
  | x :: l, d, h, n, hn => by
    simp only [DataW.weightsAll, List.mem_append]
    rcases List.mem_cons.1 h with h | h
    · subst h
      exact .inl hn
    · exact .inr (weights_all h n hn)

theorem opn_slice {α : Type} {P : Program} {t e : TypeId} {k : Kd α} {S Z : α → Prop} {B : α → Nat} (bytes : Nat) (ht : P.underlying t = some (.slice e)) (hc : P.cellsOf e = k.sz) (hb : P.bytesOf e = bytes) (h : Opn P e k S Z B) :
    Opn P t (Kd.slice e k) (fun l => ∀ x ∈ l, S x) (fun l => l.length * bytes ≤ 140737488351232 ∧ ∀ x ∈ l, Z x) (fun l => (l.map B).sum + 1) := by
  intro H enc W base fuel cs d p hd
  rcases DataW.trod_slice ht hd with ⟨rfl, e0⟩ | ⟨a, len, cap, elems, rest, n, _, rfl, e0, hbs, hl, hm, hlen, hel, hsp, hns⟩
  · obtain ⟨rfl, rfl⟩ := Prod.mk.inj e0
    exact ⟨[], ⟨none, 0, rfl, Nat.le_refl _, rfl, by simp, fun h => absurd h (by simp)⟩, by simp, fun _ => ⟨by simp, by simp⟩, by simp [Rows.uptoBulk]⟩
  · obtain ⟨rfl, rfl⟩ := Prod.mk.inj e0
    have each : ∀ i, i < len → ∃ x, ∃ y c, elems[i]? = some y ∧ W.cells? base (a.add (i * k.sz)) k.sz = some c ∧ k.K W x c ∧ S x ∧ ((∀ n ∈ y.1.weights P e, n ≤ reachBytes) → Z x) ∧ B x ≤ Rows.uptoBulk y.1 := by
      intro i hi
      have h1 := hel i hi
      obtain ⟨y, hy⟩ : ∃ y, elems[i]? = some y := ⟨elems[i]'(by omega), List.getElem?_eq_getElem _⟩
      rw [hy, hc] at h1
      obtain ⟨c, hcs, hy'⟩ := Option.bind_eq_some_iff.1 h1
      obtain ⟨x, hK, hS, hZ, hB⟩ := h H enc W base n c y.1 y.2 hy'
      exact ⟨x, y, c, hy, hcs, hK, hS, hZ, hB⟩
    obtain ⟨xs, hxl, hx⟩ := choose_list _ len each
    subst hxl
    refine ⟨xs, ⟨some a, cap, rfl, hl, rfl, ?_, fun _ => ⟨a, rfl, fun j q hj => ?_⟩⟩, fun x hm => ?_, fun hz => ⟨?_, fun x hm => ?_⟩, ?_⟩
    · simp only [maxLen] at hm
      omega
    · obtain ⟨y, c, hy, hcs, hK, _⟩ := hx j q hj
      refine ⟨c, k.K_len hK, hK, fun i u hu => ?_⟩
      obtain ⟨hcl, hcell⟩ := World.cells?_some hcs
      have hi : i < k.sz := by
        have := (List.getElem?_eq_some_iff.1 hu).1
        rw [k.K_len hK] at this
        exact this
      have ha : (a.add (j * k.sz)).add i = a.add (j * k.sz + i) := by
        unfold Addr.add
        by_cases h1 : j * k.sz = 0 <;> by_cases h2 : i = 0 <;> simp [h1, h2, Nat.add_assoc]
      rw [← ha]
      first
      | exact (hcell.2 i hi).trans hu
      | exact (hcell i hi).trans hu
      | simpa [hu] using hcell i hi
    · obtain ⟨i, hi⟩ := List.getElem?_of_mem hm
      obtain ⟨_, _, _, _, _, hS, _⟩ := hx i x hi
      exact hS
    · have := hz ((elems.length + rest.length) * P.bytesOf e) (by simp [DataW.weights, ht])
      rw [hb] at this
      have h2 : xs.length * bytes ≤ (elems.length + rest.length) * bytes := Nat.mul_le_mul_right _ (by omega)
      have h3 : reachBytes = 140737488351232 := rfl
      omega
    · obtain ⟨i, hi⟩ := List.getElem?_of_mem hm
      obtain ⟨y, _, hy, _, _, _, hZ, _⟩ := hx i x hi
      refine hZ fun n hn => hz n ?_
      simp only [DataW.weights, ht, List.mem_cons, List.mem_append]
      exact .inr (.inl (weights_all (List.mem_map_of_mem (List.mem_of_getElem? hy)) n hn))
    · have := sum_le B xs (elems.map (·.1)) (by simp; omega) (fun i x d hxi hdi => by
        obtain ⟨y, _, hy, _, _, _, _, hB⟩ := hx i x hxi
        rw [List.getElem?_map, hy] at hdi
        have : y.1 = d := by simpa using hdi
        subst this
        exact hB)
      simp only [Rows.uptoBulk]
      omega

def OpnFs {α : Type} (P : Program) (fs : List Field) (off : Nat) (k : Kd α) (S Z : α → Prop) (B : α → Nat) : Prop :=
  ∀ (H : Type) (enc : TypeId × Value → H) (W : World) (base fuel : Nat) (cs : List Value) (xs : List (DataW H × List MemPlace)), cs.length = off + k.sz →
    (fs.mapM fun f => DataW.trod enc P W base (fun _ => true) true fuel f.type ((cs.drop f.offset).take (P.cellsOf f.type))) = some xs →
    ∃ x, k.K W x (cs.drop off) ∧ S x ∧ ((∀ n ∈ DataW.weightsEach P (fs.map (·.type)) (xs.map (·.1)), n ≤ reachBytes) → Z x) ∧ B x ≤ Rows.uptoBulkAll (xs.map (·.1))

theorem opnFs_last {α : Type} {P : Program} {f : Field} {off : Nat} {k : Kd α} {S Z : α → Prop} {B : α → Nat} (ho : f.offset = off) (hc : P.cellsOf f.type = k.sz) (h : Opn P f.type k S Z B) : OpnFs P [f] off k S Z B := by
  intro H enc W base fuel cs xs hl hm
  simp only [List.mapM_cons, List.mapM_nil, Option.pure_def, Option.bind_eq_bind, Option.bind_some] at hm
  obtain ⟨y, hy, e⟩ := Option.bind_eq_some_iff.1 hm
  obtain rfl : [y] = xs := by simpa using e
  rw [ho, hc, List.take_of_length_le (by rw [List.length_drop]; omega)] at hy
  obtain ⟨x, hK, hS, hZ, hB⟩ := h H enc W base fuel _ y.1 y.2 hy
  refine ⟨x, hK, hS, fun hz => hZ fun n hn => hz n ?_, ?_⟩
  · simp [DataW.weightsEach, hn]
  · simp only [List.map_cons, List.map_nil, Rows.uptoBulkAll]
    omega

theorem opnFs_cons {α β : Type} {P : Program} {f : Field} {fs : List Field} {off : Nat} {k0 : Kd α} {k1 : Kd β} {S0 Z0 : α → Prop} {B0 : α → Nat} {S1 Z1 : β → Prop} {B1 : β → Nat}
    (ho : f.offset = off) (hc : P.cellsOf f.type = k0.sz) (h0 : Opn P f.type k0 S0 Z0 B0) (h1 : OpnFs P fs (off + k0.sz) k1 S1 Z1 B1) :
    OpnFs P (f :: fs) off (Kd.pair k0 k1) (fun x => S0 x.1 ∧ S1 x.2) (fun x => Z0 x.1 ∧ Z1 x.2) (fun x => B0 x.1 + B1 x.2) := by
  intro H enc W base fuel cs xs hl hm
  have hl' : cs.length = off + (k0.sz + k1.sz) := hl
  simp only [List.mapM_cons, Option.pure_def, Option.bind_eq_bind] at hm
  obtain ⟨y, hy, e⟩ := Option.bind_eq_some_iff.1 hm
  obtain ⟨ys, hys, e⟩ := Option.bind_eq_some_iff.1 e
  obtain rfl : y :: ys = xs := by simpa using e
  rw [ho, hc] at hy
  obtain ⟨x, hK, hS, hZ, hB⟩ := h0 H enc W base fuel _ y.1 y.2 hy
  obtain ⟨z, hK1, hS1, hZ1, hB1⟩ := h1 H enc W base fuel cs ys (by omega) hys
  refine ⟨(x, z), ⟨_, _, ?_, hK, hK1⟩, ⟨hS, hS1⟩, fun hz => ⟨hZ fun n hn => hz n ?_, hZ1 fun n hn => hz n ?_⟩, ?_⟩
  · rw [← List.drop_drop]
    exact (List.take_append_drop _ _).symm
  · simp [DataW.weightsEach, hn]
  · simp only [List.map_cons, DataW.weightsEach, List.mem_append]
    exact .inr hn
  · simp only [List.map_cons, Rows.uptoBulkAll]
    omega

theorem opn_struct {α β : Type} {P : Program} {t : TypeId} {fs : Array Field} {k : Kd α} {S Z : α → Prop} {B : α → Nat} (f : β → α) (g : α → β) (hg : ∀ x, f (g x) = x) (ht : P.underlying t = some (.struct fs)) (hc : P.cellsOf t = k.sz) (h : OpnFs P fs.toList 0 k S Z B) :
    Opn P t (Kd.iso k f) (fun y => S (f y)) (fun y => Z (f y)) (fun y => B (f y) + 1) := by
  intro H enc W base fuel cs d p hd
  cases fuel with
  | zero => simp [DataW.trod] at hd
  | succ fuel =>
    have hd' : (if cs.length = P.cellsOf t then (fs.toList.mapM fun f => DataW.trod enc P W base (fun _ => true) true fuel f.type ((cs.drop f.offset).take (P.cellsOf f.type))).map fun xs => ((.agg (xs.map (·.1)) : DataW H), xs.flatMap (·.2)) else none) = some (d, p) := by
      unfold DataW.trod at hd
      simp only [ht] at hd
      exact hd
    by_cases hl : cs.length = P.cellsOf t
    · rw [if_pos hl] at hd'
      obtain ⟨xs, hxs, e⟩ := Option.map_eq_some_iff.1 hd'
      obtain ⟨rfl, rfl⟩ := Prod.mk.inj e
      obtain ⟨x, hK, hS, hZ, hB⟩ := h H enc W base fuel cs xs (by omega) hxs
      refine ⟨g x, ?_, ?_, ?_, ?_⟩
      · show k.K W (f (g x)) cs
        rw [hg]
        exact hK
      · show S (f (g x))
        rw [hg]
        exact hS
      · intro hz
        show Z (f (g x))
        rw [hg]
        refine hZ fun n hn => hz n ?_
        simp only [DataW.weights, ht]
        exact hn
      · show B (f (g x)) + 1 ≤ _
        rw [hg]
        simp only [Rows.uptoBulk]
        omega
    · rw [if_neg hl] at hd'
      cases hd'

variable {P : Program} {H : Type} {enc : TypeId × Value → H} {W : World} {r : Reach} {b0 base : Nat} {t : TypeId} {v : Value} {d : DataW H} {p : List MemPlace}
theorem open_sl {α : Type} {e : TypeId} {k : Kd α} {S Z : List α → Prop} {B : List α → Nat} (ho : Opn P t (Kd.slice e k) S Z B) (ht : P.underlying t = some (.slice e)) (hv : Value.okWide P W r b0 t v) (h : DataW.Trod enc P W base (fun _ => true) true t v d p) :
    ∃ (A : Option Addr) (c : Nat) (l : List α), v = .slice A l.length c ∧ l.length ≤ c ∧ Kd.C k W A l.length l ∧ S l ∧ ((∀ n ∈ d.weights P t, n ≤ reachBytes) → Z l) ∧ B l ≤ Rows.uptoBulk d := by
  obtain ⟨a, len, cap, rfl⟩ := okWide_slice ht hv
  obtain ⟨fuel, hf⟩ := h
  obtain ⟨x, ⟨A, c, hcs, hl, hC⟩, hS, hZ, hB⟩ := ho H enc W base fuel _ d p hf
  simp [Value.cells] at hcs
  obtain ⟨rfl, rfl, rfl⟩ := hcs
  exact ⟨_, _, x, rfl, hl, hC, hS, hZ, hB⟩
theorem open_st {α : Type} {fs : Array Field} {k : Kd α} {S Z : α → Prop} {B : α → Nat} (ho : Opn P t k S Z B) (ht : P.underlying t = some (.struct fs)) (hv : Value.okWide P W r b0 t v) (h : DataW.Trod enc P W base (fun _ => true) true t v d p) :
    ∃ (x : α) (cs : List Value), v = .agg cs.toArray ∧ k.K W x cs ∧ S x ∧ ((∀ n ∈ d.weights P t, n ≤ reachBytes) → Z x) ∧ B x ≤ Rows.uptoBulk d := by
  obtain ⟨cs, rfl, _⟩ := okWide_struct ht hv
  obtain ⟨fuel, hf⟩ := h
  obtain ⟨x, hK, hS, hZ, hB⟩ := ho H enc W base fuel _ d p hf
  exact ⟨x, cs.toList, by simp, hK, hS, hZ, hB⟩
end Go.Proofs.YtkinepmilnkhmaaDoor.Opening
end
section
namespace Go.Proofs.YtkinepmilnkhmaaDoor.A
open Go.RowKit Go.Proofs.YtkinepmilnkhmaaDoorW.PrintWords Go.Proofs.YtkinepmilnkhmaaDoorW.PrintLast Go.Proofs.YtkinepmilnkhmaaDoorW.PrintMore
attribute [local go_sem] max2_int min2_int max_two min_two max_three min_three max_four min_four   -- for this text's walks alone
set_option linter.unusedVariables false
set_option linter.unusedSimpArgs false



def errW : Option Int → Value
 | none => .nilIface
 | some c => .iface 0 (.int .i64 c)
theorem errW_none : errW none = .nilIface := rfl
theorem errW_some (c : Int) : errW (some c) = .iface 0 (.int .i64 c) := rfl

theorem info3 : (Tryd.prog.info? 3).map (fun i => (i.zero, i.size, i.bytes)) = some (some (.int .i64 0), 1, 8) := by kernel_rfl
theorem info40 : (Tryd.prog.info? 40).map (fun i => (i.zero, i.size, i.bytes)) = some (some (.agg #[(.string ⟨#[]⟩), (.int .i64 0), (.int .u64 0), (.string ⟨#[]⟩), (.string ⟨#[]⟩), (.string ⟨#[]⟩)]), 6, 80) := by kernel_rfl
structure S25 where
 f0 : Int
 f1 : Int
def z25 : S25 := ⟨(0 : Int), (0 : Int)⟩
def k25 : Kd S25 := Kd.iso (Kd.pair (Kd.int .i64) (Kd.int .u64)) (fun x : S25 => (x.f0, x.f1))
theorem k25_open {w : World} {x : S25} {cs : List Value} (h : k25.K w x cs) : cs = [.int .i64 x.f0, .int .u64 x.f1] := by
 obtain ⟨_, _, rfl, rfl, rfl⟩ := h
 exact rfl
theorem k25_openM {w : World} {base : Nat} {ok : Nat → Prop} {x : S25} {cs : List Value} (h : k25.M w base ok x cs) : cs = [.int .i64 x.f0, .int .u64 x.f1] := by
 obtain ⟨_, _, rfl, rfl, rfl⟩ := h
 exact rfl
theorem k25_mkM (w : World) (base : Nat) (ok : Nat → Prop) (x : S25)  : k25.M w base ok x [.int .i64 x.f0, .int .u64 x.f1] := ⟨[.int .i64 x.f0], [.int .u64 x.f1], rfl, rfl, rfl⟩
structure S40 where
 f0 : ByteArray
 f1 : S25
 f2 : ByteArray
 f3 : ByteArray
 f4 : ByteArray
def z40 : S40 := ⟨(⟨#[]⟩ : ByteArray), z25, (⟨#[]⟩ : ByteArray), (⟨#[]⟩ : ByteArray), (⟨#[]⟩ : ByteArray)⟩
def k40 : Kd S40 := Kd.iso (Kd.pair Kd.string (Kd.pair k25 (Kd.pair Kd.string (Kd.pair Kd.string Kd.string)))) (fun x : S40 => (x.f0, x.f1, x.f2, x.f3, x.f4))
theorem k40_open {w : World} {x : S40} {cs : List Value} (h : k40.K w x cs) : cs = [.string x.f0, .int .i64 x.f1.f0, .int .u64 x.f1.f1, .string x.f2, .string x.f3, .string x.f4] := by
 obtain ⟨_, _, rfl, rfl, ⟨_, _, rfl, s1, ⟨_, _, rfl, rfl, ⟨_, _, rfl, rfl, rfl⟩⟩⟩⟩ := h
 obtain rfl := k25_open s1
 exact rfl
theorem k40_openM {w : World} {base : Nat} {ok : Nat → Prop} {x : S40} {cs : List Value} (h : k40.M w base ok x cs) : cs = [.string x.f0, .int .i64 x.f1.f0, .int .u64 x.f1.f1, .string x.f2, .string x.f3, .string x.f4] := by
 obtain ⟨_, _, rfl, rfl, ⟨_, _, rfl, s1, ⟨_, _, rfl, rfl, ⟨_, _, rfl, rfl, rfl⟩⟩⟩⟩ := h
 obtain rfl := k25_openM s1
 exact rfl
theorem k40_mkM (w : World) (base : Nat) (ok : Nat → Prop) (x : S40)  : k40.M w base ok x [.string x.f0, .int .i64 x.f1.f0, .int .u64 x.f1.f1, .string x.f2, .string x.f3, .string x.f4] := ⟨[.string x.f0], [.int .i64 x.f1.f0, .int .u64 x.f1.f1, .string x.f2, .string x.f3, .string x.f4], rfl, rfl, ⟨[.int .i64 x.f1.f0, .int .u64 x.f1.f1], [.string x.f2, .string x.f3, .string x.f4], rfl, (k25_mkM w base ok x.f1 ), ⟨[.string x.f2], [.string x.f3, .string x.f4], rfl, rfl, ⟨[.string x.f3], [.string x.f4], rfl, rfl, rfl⟩⟩⟩⟩
def rd_T40 (xs : List S40) (i : Int) : S40 := xs.getD i.toNat z40
theorem at_T40 {w : World} {A : Option Addr} {n : Nat} {xs : List S40} (h : Kd.C k40 w A n xs) (i : Int) (h0 : 0 ≤ i) (h1 : i < n) : ∃ ad , A = some ad ∧ w.cell? (ad.add (i.toNat * 6)) = some (.string (rd_T40 xs i).f0) ∧ w.cell? ⟨(ad.add (i.toNat * 6)).block, (ad.add (i.toNat * 6)).off + 1, none⟩ = some (.int .i64 (rd_T40 xs i).f1.f0) ∧ w.cell? ⟨(ad.add (i.toNat * 6)).block, (ad.add (i.toNat * 6)).off + 2, none⟩ = some (.int .u64 (rd_T40 xs i).f1.f1) ∧ w.cell? ⟨(ad.add (i.toNat * 6)).block, (ad.add (i.toNat * 6)).off + 3, none⟩ = some (.string (rd_T40 xs i).f2) ∧ w.cell? ⟨(ad.add (i.toNat * 6)).block, (ad.add (i.toNat * 6)).off + 4, none⟩ = some (.string (rd_T40 xs i).f3) ∧ w.cell? ⟨(ad.add (i.toNat * 6)).block, (ad.add (i.toNat * 6)).off + 5, none⟩ = some (.string (rd_T40 xs i).f4) := by
 obtain ⟨ad, c, e, _, hK, hc0⟩ := Kd.C_get h z40 i h0 h1
 have hc : ∀ j u, c[j]? = some u → w.cell? (ad.add (i.toNat * 6 + j)) = some u := hc0
 obtain rfl := k40_open hK
 exact ⟨ad, e, hc 0 _ rfl, by rw [← add_field _ _ 1 (by omega)]; exact hc 1 _ rfl, by rw [← add_field _ _ 2 (by omega)]; exact hc 2 _ rfl, by rw [← add_field _ _ 3 (by omega)]; exact hc 3 _ rfl, by rw [← add_field _ _ 4 (by omega)]; exact hc 4 _ rfl, by rw [← add_field _ _ 5 (by omega)]; exact hc 5 _ rfl⟩

end Go.Proofs.YtkinepmilnkhmaaDoor.A
end
section
namespace Go.Proofs.YtkinepmilnkhmaaDoor.A
open Go.RowKit Go.Proofs.YtkinepmilnkhmaaDoorW.PrintWords Go.Proofs.YtkinepmilnkhmaaDoorW.PrintLast Go.Proofs.YtkinepmilnkhmaaDoorW.PrintMore
set_option linter.unusedVariables false
set_option linter.unusedSimpArgs false
def ok25 (x : S25) : Prop := ((Lit.int .i64 x.f0).wf = true) ∧ ((Lit.int .u64 x.f1).wf = true)
def sz25 (x : S25) : Prop := (True) ∧ (True)
def bk25 (x : S25) : Nat := ((fun _ => 1) x.f0 + (fun _ => 1) x.f1) + 1
theorem opn25 : Opening.Opn Tryd.prog 25 k25 ok25 sz25 bk25 := by
  have h := Opening.opn_struct (fun x : S25 => (x.f0, x.f1)) (fun p_ => (⟨p_.1, p_.2⟩ : S25)) (fun _ => rfl) Tryd.underlying25 (by kernel_rfl) (Opening.opnFs_cons rfl (by kernel_rfl) (Opening.opn_int Tryd.underlying3) (Opening.opnFs_last rfl (by kernel_rfl) (Opening.opn_int Tryd.underlying23)))
  exact h
def ok40 (x : S40) : Prop := (x.f0.size ≤ 9223372036854775807) ∧ (ok25 x.f1) ∧ (x.f2.size ≤ 9223372036854775807) ∧ (x.f3.size ≤ 9223372036854775807) ∧ (x.f4.size ≤ 9223372036854775807)
def sz40 (x : S40) : Prop := (x.f0.size ≤ 140737488351232) ∧ (sz25 x.f1) ∧ (x.f2.size ≤ 140737488351232) ∧ (x.f3.size ≤ 140737488351232) ∧ (x.f4.size ≤ 140737488351232)
def bk40 (x : S40) : Nat := ((fun s_ => s_.size + 1) x.f0 + (bk25 x.f1 + ((fun s_ => s_.size + 1) x.f2 + ((fun s_ => s_.size + 1) x.f3 + (fun s_ => s_.size + 1) x.f4)))) + 1
theorem opn40 : Opening.Opn Tryd.prog 40 k40 ok40 sz40 bk40 := by
  have h := Opening.opn_struct (fun x : S40 => (x.f0, (x.f1, (x.f2, (x.f3, x.f4))))) (fun p_ => (⟨p_.1, p_.2.1, p_.2.2.1, p_.2.2.2.1, p_.2.2.2.2⟩ : S40)) (fun _ => rfl) Tryd.underlying40 (by kernel_rfl) (Opening.opnFs_cons rfl (by kernel_rfl) (Opening.opn_string Tryd.underlying9) (Opening.opnFs_cons rfl (by kernel_rfl) opn25 (Opening.opnFs_cons rfl (by kernel_rfl) (Opening.opn_string Tryd.underlying9) (Opening.opnFs_cons rfl (by kernel_rfl) (Opening.opn_string Tryd.underlying9) (Opening.opnFs_last rfl (by kernel_rfl) (Opening.opn_string Tryd.underlying9))))))
  exact h
end Go.Proofs.YtkinepmilnkhmaaDoor.A
end
section
namespace Go.Proofs.YtkinepmilnkhmaaDoor.A
open Go.RowKit Go.Proofs.YtkinepmilnkhmaaDoorW.PrintWords Go.Proofs.YtkinepmilnkhmaaDoorW.PrintLast Go.Proofs.YtkinepmilnkhmaaDoorW.PrintMore
attribute [local go_sem] max2_int min2_int max_two min_two max_three min_three max_four min_four   -- for this text's walks alone
set_option linter.unusedVariables false
set_option linter.unusedSimpArgs false

def jalousieref02_Has.f (a0_0 : Int) (a0_1 : Int) (a1 : Int) : Option (Bool) := if a1 ≥ 0 then (if a1 ≤ 63 then (if 0 ≤ a1 then (some ((Int.tmod (shr .u64 a0_1 a1) 2) == 1)) else (none)) else (some false)) else (some false)
set_option maxHeartbeats 8000000 in
set_option maxRecDepth 100000 in
theorem jalousieref02_Has.calls (a0_0 : Int) (a0_1 : Int) (a1 : Int) (r : Bool) (w : World) (h : jalousieref02_Has.f a0_0 a0_1 a1 = some r) :
  Calls Tryd.prog 54 #[.agg #[.int .i64 a0_0, .int .u64 a0_1], .int .i64 a1] w fun e w' => e = .returned (.bool r) ∧ Below w.heap.size w w' := by
 have hu25 := Tryd.underlying25
 have HB := Aside0.mk (Below.refl w.heap.size w)
 have H : (if a1 ≥ 0 then (if a1 ≤ 63 then (if 0 ≤ a1 then (some ((Int.tmod (shr .u64 a0_1 a1) 2) == 1)) else (none)) else (some false)) else (some false)) = some r := h
 clear h
 by_cases c3 : a1 ≥ 0
 ·rw [if_pos c3] at H
  have c3b0 : decide (0 ≤ a1) = true := decide_eq_true c3
  clear c3
  by_cases c4 : a1 ≤ 63
  ·rw [if_pos c4] at H
   have c4b0 : decide (a1 ≤ 63) = true := decide_eq_true c4
   clear c4
   by_cases c5 : 0 ≤ a1
   ·rw [if_pos c5] at H
    have c5b0 := eq_true c5
    have c5b1 : decide (0 ≤ a1) = true := decide_eq_true c5
    clear c5
    obtain ⟨ji6, hji6⟩ : ∃ j_ : Int, (shr .u64 a0_1 a1) = j_ := ⟨_, rfl⟩
    replace H : (some ((Int.tmod (ji6) 2) == 1)) = some r := by first | (rw [hji6] at H; exact H) | (simp only [hji6] at H ⊢; exact H)
    have hji6_ : (a0_1 / 2 ^ min a1.toNat 64) = ji6 := hji6
    have hji6z : a1 ≤ 64 → (a0_1 / 2 ^ a1.toNat) = ji6 := shr_small hji6
    obtain rfl := Option.some.inj H
    go_enter Tryd.func54, Tryd.ntmps54
    go_wp2_with (first | ((with_reducible refine gate_dst (N := 2) rfl ?_); refine box_event ?hg (N := 2) ?hd (cs := #[.int .i64 a0_0, .int .u64 a0_1]) (t := 25) ?hr ?_; (case hd => rfl); (case hg => rfl); (case hr => first | (go_simp; done) | (go_simp; rfl)); intro gb114 hg w7 hbox hb; have n0_ := Aside0.mk (below_step (by repeat (first | (with_reducible first | exact HB.out | apply below_alloc | apply pw_below_drewN | apply below_drew1) | exact HB.out)) hb); have n1_ := Aside0.mk (hbox); have n2_ := Aside0.mk ((by rw [hg]; exact (below_size (by repeat (first | (with_reducible first | exact HB.out | apply below_alloc | apply pw_below_drewN | apply below_drew1) | exact HB.out))) : w.heap.size ≤ gb114)); have n3_ := Aside0.mk ((by rw [hg]; exact (below_size (by repeat (first | (with_reducible first | exact HB.out | apply below_alloc | apply pw_below_drewN | apply below_drew1) | exact HB.out))) : w.heap.size ≤ gb114)); clear HB; have HB := n0_; have BK114 := n1_; have GW114 := n2_; have GE114 := n3_; clear n0_ n1_ n2_ n3_; clear hb hbox hg; have hcz8_0 : w7.cell? ⟨gb114, 0, none⟩ = some (.int .i64 a0_0) := (blk_cell BK114.out 0).trans rfl; have hcz8_1 : w7.cell? ⟨gb114, 1, none⟩ = some (.int .u64 a0_1) := (blk_cell BK114.out 1).trans rfl; have hfz8_0 := blk_frozen BK114.out 0; have hfz8_1 := blk_frozen BK114.out 1))
    go_ret
    exact ⟨by first | rfl | (simp [errW_none, errW_some] <;> rfl) | (simp only [← hji6]; first | rfl | (simp [errW_none, errW_some] <;> rfl)) | (simp [*, errW_none, errW_some] <;> rfl), by repeat (first | (with_reducible first | exact HB.out | apply below_alloc | apply pw_below_drewN | apply below_drew1 | refine below_set ?_ GE114.out) | exact HB.out)⟩
   ·rw [if_neg c5] at H
    exact absurd H (by simp)
  ·rw [if_neg c4] at H
   have c4b0 : decide (a1 ≤ 63) = false := decide_eq_false c4
   clear c4
   obtain rfl := Option.some.inj H
   go_enter Tryd.func54, Tryd.ntmps54
   go_wp2_with (first | ((with_reducible refine gate_dst (N := 2) rfl ?_); refine box_event ?hg (N := 2) ?hd (cs := #[.int .i64 a0_0, .int .u64 a0_1]) (t := 25) ?hr ?_; (case hd => rfl); (case hg => rfl); (case hr => first | (go_simp; done) | (go_simp; rfl)); intro gb114 hg w9 hbox hb; have n0_ := Aside0.mk (below_step (by repeat (first | (with_reducible first | exact HB.out | apply below_alloc | apply pw_below_drewN | apply below_drew1) | exact HB.out)) hb); have n1_ := Aside0.mk (hbox); have n2_ := Aside0.mk ((by rw [hg]; exact (below_size (by repeat (first | (with_reducible first | exact HB.out | apply below_alloc | apply pw_below_drewN | apply below_drew1) | exact HB.out))) : w.heap.size ≤ gb114)); have n3_ := Aside0.mk ((by rw [hg]; exact (below_size (by repeat (first | (with_reducible first | exact HB.out | apply below_alloc | apply pw_below_drewN | apply below_drew1) | exact HB.out))) : w.heap.size ≤ gb114)); clear HB; have HB := n0_; have BK114 := n1_; have GW114 := n2_; have GE114 := n3_; clear n0_ n1_ n2_ n3_; clear hb hbox hg))
   go_ret
   exact ⟨by first | rfl | (simp [errW_none, errW_some] <;> rfl) | (simp [*, errW_none, errW_some] <;> rfl), by repeat (first | (with_reducible first | exact HB.out | apply below_alloc | apply pw_below_drewN | apply below_drew1 | refine below_set ?_ GE114.out) | exact HB.out)⟩
 ·rw [if_neg c3] at H
  have c3b0 : decide (0 ≤ a1) = false := decide_eq_false c3
  clear c3
  obtain rfl := Option.some.inj H
  go_enter Tryd.func54, Tryd.ntmps54
  go_wp2_with (first | ((with_reducible refine gate_dst (N := 2) rfl ?_); refine box_event ?hg (N := 2) ?hd (cs := #[.int .i64 a0_0, .int .u64 a0_1]) (t := 25) ?hr ?_; (case hd => rfl); (case hg => rfl); (case hr => first | (go_simp; done) | (go_simp; rfl)); intro gb114 hg w10 hbox hb; have n0_ := Aside0.mk (below_step (by repeat (first | (with_reducible first | exact HB.out | apply below_alloc | apply pw_below_drewN | apply below_drew1) | exact HB.out)) hb); have n1_ := Aside0.mk (hbox); have n2_ := Aside0.mk ((by rw [hg]; exact (below_size (by repeat (first | (with_reducible first | exact HB.out | apply below_alloc | apply pw_below_drewN | apply below_drew1) | exact HB.out))) : w.heap.size ≤ gb114)); have n3_ := Aside0.mk ((by rw [hg]; exact (below_size (by repeat (first | (with_reducible first | exact HB.out | apply below_alloc | apply pw_below_drewN | apply below_drew1) | exact HB.out))) : w.heap.size ≤ gb114)); clear HB; have HB := n0_; have BK114 := n1_; have GW114 := n2_; have GE114 := n3_; clear n0_ n1_ n2_ n3_; clear hb hbox hg))
  go_ret
  exact ⟨by first | rfl | (simp [errW_none, errW_some] <;> rfl) | (simp [*, errW_none, errW_some] <;> rfl), by repeat (first | (with_reducible first | exact HB.out | apply below_alloc | apply pw_below_drewN | apply below_drew1 | refine below_set ?_ GE114.out) | exact HB.out)⟩

end Go.Proofs.YtkinepmilnkhmaaDoor.A
end
section
namespace Go.Proofs.YtkinepmilnkhmaaDoor.A
open Go.RowKit Go.Proofs.YtkinepmilnkhmaaDoorW.PrintWords Go.Proofs.YtkinepmilnkhmaaDoorW.PrintLast Go.Proofs.YtkinepmilnkhmaaDoorW.PrintMore
attribute [local go_sem] max2_int min2_int max_two min_two max_three min_three max_four min_four   -- for this text's walks alone
set_option linter.unusedVariables false
set_option linter.unusedSimpArgs false

def jalousieref02_Below.l0 : Nat → Int → Int → Int → Int → Int → Option (Bool)
 | 0, _, _, _, _, _ => none
 | k + 1, x5, x116000, x116001, x117000, x117001 => if x5 < 64 then ((jalousieref02_Has.f x116000 x116001 x5).bind fun t117 => (if t117 = true then ((jalousieref02_Has.f x117000 x117001 x5).bind fun t118 => (if t118 = true then (jalousieref02_Below.l0 k (wrap64 (x5 + 1)) x116000 x116001 x117000 x117001) else (some false))) else (jalousieref02_Below.l0 k (wrap64 (x5 + 1)) x116000 x116001 x117000 x117001))) else (some true)
def jalousieref02_Below.f (k : Nat) (a0_0 : Int) (a0_1 : Int) (a1_0 : Int) (a1_1 : Int) : Option (Bool) := if a0_0 > a1_0 then (some false) else (jalousieref02_Below.l0 k 0 a0_0 a0_1 a1_0 a1_1)
set_option maxHeartbeats 8000000 in
set_option maxRecDepth 100000 in
theorem jalousieref02_Below.calls (k : Nat) (a0_0 : Int) (a0_1 : Int) (a1_0 : Int) (a1_1 : Int) (r : Bool) (w : World) (h : jalousieref02_Below.f k a0_0 a0_1 a1_0 a1_1 = some r) :
  Calls Tryd.prog 21 #[.agg #[.int .i64 a0_0, .int .u64 a0_1], .agg #[.int .i64 a1_0, .int .u64 a1_1]] w fun e w' => e = .returned (.bool r) ∧ Below w.heap.size w w' := by
 have hu25 := Tryd.underlying25
 have HB := Aside0.mk (Below.refl w.heap.size w)
 have H : (if a0_0 > a1_0 then (some false) else (jalousieref02_Below.l0 k 0 a0_0 a0_1 a1_0 a1_1)) = some r := h
 clear h
 by_cases c3 : a0_0 > a1_0
 ·rw [if_pos c3] at H
  have c3b0 : decide (a1_0 < a0_0) = true := decide_eq_true c3
  clear c3
  obtain rfl := Option.some.inj H
  go_enter Tryd.func21, Tryd.ntmps21
  go_wp2_with (first | ((with_reducible refine gate_dst (N := 2) rfl ?_); refine box_event ?hg (N := 2) ?hd (cs := #[.int .i64 a0_0, .int .u64 a0_1]) (t := 25) ?hr ?_; (case hd => rfl); (case hg => rfl); (case hr => first | (go_simp; done) | (go_simp; rfl)); intro gb115 hg w4 hbox hb; have n0_ := Aside0.mk (below_step (by repeat (first | (with_reducible first | exact HB.out | apply below_alloc | apply pw_below_drewN | apply below_drew1) | exact HB.out)) hb); have n1_ := Aside0.mk (hbox); have n2_ := Aside0.mk ((by rw [hg]; exact (below_size (by repeat (first | (with_reducible first | exact HB.out | apply below_alloc | apply pw_below_drewN | apply below_drew1) | exact HB.out))) : w.heap.size ≤ gb115)); have n3_ := Aside0.mk ((by rw [hg]; exact (below_size (by repeat (first | (with_reducible first | exact HB.out | apply below_alloc | apply pw_below_drewN | apply below_drew1) | exact HB.out))) : w.heap.size ≤ gb115)); clear HB; have HB := n0_; have BK115 := n1_; have GW115 := n2_; have GE115 := n3_; clear n0_ n1_ n2_ n3_; clear hb hbox hg) | ((with_reducible refine gate_dst (N := 3) rfl ?_); refine box_event ?hg (N := 3) ?hd (cs := #[.int .i64 a1_0, .int .u64 a1_1]) (t := 25) ?hr ?_; (case hd => rfl); (case hg => rfl); (case hr => first | (go_simp; done) | (go_simp; rfl)); intro gb116 hg w5 hbox hb; have n0_ := Aside0.mk (blk_below (g := gb115) (o := .cells #[.int .i64 a0_0, .int .u64 a0_1] 25 (0, 0)) (by (with_reducible repeat first|refine zb1 ?_ _|refine zb2 ?_|refine zb3 ?_ _); exact BK115.out) hb); have n1_ := Aside0.mk (below_step (by repeat (first | (with_reducible first | exact HB.out | apply below_alloc | apply pw_below_drewN | apply below_drew1 | refine below_set ?_ GE115.out) | exact HB.out)) hb); have n2_ := Aside0.mk (hbox); have n3_ := Aside0.mk ((by rw [hg]; exact (below_size (by repeat (first | (with_reducible first | exact HB.out | apply below_alloc | apply pw_below_drewN | apply below_drew1 | refine below_set ?_ GE115.out) | exact HB.out))) : w.heap.size ≤ gb116)); have n4_ := Aside0.mk ((by rw [hg]; exact (below_size (by repeat (first | (with_reducible first | exact HB.out | apply below_alloc | apply pw_below_drewN | apply below_drew1 | refine below_set ?_ GE115.out) | exact HB.out))) : w.heap.size ≤ gb116)); have n5_ := Aside0.mk ((by rw [hg]; exact Nat.ne_of_lt (blk_lt (g := gb115) (o := .cells #[.int .i64 a0_0, .int .u64 a0_1] 25 (0, 0)) (by (with_reducible repeat first|refine zb1 ?_ _|refine zb2 ?_|refine zb3 ?_ _); exact BK115.out)) : gb115 ≠ gb116)); have n6_ := Aside0.mk ((by rw [hg]; exact Nat.ne_of_gt (blk_lt (g := gb115) (o := .cells #[.int .i64 a0_0, .int .u64 a0_1] 25 (0, 0)) (by (with_reducible repeat first|refine zb1 ?_ _|refine zb2 ?_|refine zb3 ?_ _); exact BK115.out)) : gb116 ≠ gb115)); clear BK115; clear HB; have BK115 := n0_; have HB := n1_; have BK116 := n2_; have GW116 := n3_; have GE116 := n4_; have NB115_116 := n5_; have NB116_115 := n6_; clear n0_ n1_ n2_ n3_ n4_ n5_ n6_; clear hb hbox hg; have hnb6 := NB115_116.out; have hnc6 := NB116_115.out; have hcz7_0 : w5.cell? ⟨gb115, 0, none⟩ = some (.int .i64 a0_0) := (blk_cell BK115.out 0).trans rfl; have hcz7_1 : w5.cell? ⟨gb115, 1, none⟩ = some (.int .u64 a0_1) := (blk_cell BK115.out 1).trans rfl; have hfz7_0 := blk_frozen BK115.out 0; have hfz7_1 := blk_frozen BK115.out 1; have hcz8_0 : w5.cell? ⟨gb116, 0, none⟩ = some (.int .i64 a1_0) := (blk_cell BK116.out 0).trans rfl; have hcz8_1 : w5.cell? ⟨gb116, 1, none⟩ = some (.int .u64 a1_1) := (blk_cell BK116.out 1).trans rfl; have hfz8_0 := blk_frozen BK116.out 0; have hfz8_1 := blk_frozen BK116.out 1))
  go_ret
  exact ⟨by first | rfl | (simp [errW_none, errW_some] <;> rfl) | (simp [*, errW_none, errW_some] <;> rfl), by repeat (first | (with_reducible first | exact HB.out | apply below_alloc | apply pw_below_drewN | apply below_drew1 | refine below_set ?_ GE115.out | refine below_set ?_ GE116.out) | exact HB.out)⟩
 ·rw [if_neg c3] at H
  have c3b0 : decide (a1_0 < a0_0) = false := decide_eq_false c3
  clear c3
  have H' := Aside0.mk H
  clear H
  go_enter Tryd.func21, Tryd.ntmps21
  go_wp2_with (first | ((with_reducible refine gate_dst (N := 2) rfl ?_); refine box_event ?hg (N := 2) ?hd (cs := #[.int .i64 a0_0, .int .u64 a0_1]) (t := 25) ?hr ?_; (case hd => rfl); (case hg => rfl); (case hr => first | (go_simp; done) | (go_simp; rfl)); intro gb115 hg w9 hbox hb; have n0_ := Aside0.mk (below_step (by repeat (first | (with_reducible first | exact HB.out | apply below_alloc | apply pw_below_drewN | apply below_drew1) | exact HB.out)) hb); have n1_ := Aside0.mk (hbox); have n2_ := Aside0.mk ((by rw [hg]; exact (below_size (by repeat (first | (with_reducible first | exact HB.out | apply below_alloc | apply pw_below_drewN | apply below_drew1) | exact HB.out))) : w.heap.size ≤ gb115)); have n3_ := Aside0.mk ((by rw [hg]; exact (below_size (by repeat (first | (with_reducible first | exact HB.out | apply below_alloc | apply pw_below_drewN | apply below_drew1) | exact HB.out))) : w.heap.size ≤ gb115)); clear HB; have HB := n0_; have BK115 := n1_; have GW115 := n2_; have GE115 := n3_; clear n0_ n1_ n2_ n3_; clear hb hbox hg) | ((with_reducible refine gate_dst (N := 3) rfl ?_); refine box_event ?hg (N := 3) ?hd (cs := #[.int .i64 a1_0, .int .u64 a1_1]) (t := 25) ?hr ?_; (case hd => rfl); (case hg => rfl); (case hr => first | (go_simp; done) | (go_simp; rfl)); intro gb116 hg w10 hbox hb; have n0_ := Aside0.mk (blk_below (g := gb115) (o := .cells #[.int .i64 a0_0, .int .u64 a0_1] 25 (0, 0)) (by (with_reducible repeat first|refine zb1 ?_ _|refine zb2 ?_|refine zb3 ?_ _); exact BK115.out) hb); have n1_ := Aside0.mk (below_step (by repeat (first | (with_reducible first | exact HB.out | apply below_alloc | apply pw_below_drewN | apply below_drew1 | refine below_set ?_ GE115.out) | exact HB.out)) hb); have n2_ := Aside0.mk (hbox); have n3_ := Aside0.mk ((by rw [hg]; exact (below_size (by repeat (first | (with_reducible first | exact HB.out | apply below_alloc | apply pw_below_drewN | apply below_drew1 | refine below_set ?_ GE115.out) | exact HB.out))) : w.heap.size ≤ gb116)); have n4_ := Aside0.mk ((by rw [hg]; exact (below_size (by repeat (first | (with_reducible first | exact HB.out | apply below_alloc | apply pw_below_drewN | apply below_drew1 | refine below_set ?_ GE115.out) | exact HB.out))) : w.heap.size ≤ gb116)); have n5_ := Aside0.mk ((by rw [hg]; exact Nat.ne_of_lt (blk_lt (g := gb115) (o := .cells #[.int .i64 a0_0, .int .u64 a0_1] 25 (0, 0)) (by (with_reducible repeat first|refine zb1 ?_ _|refine zb2 ?_|refine zb3 ?_ _); exact BK115.out)) : gb115 ≠ gb116)); have n6_ := Aside0.mk ((by rw [hg]; exact Nat.ne_of_gt (blk_lt (g := gb115) (o := .cells #[.int .i64 a0_0, .int .u64 a0_1] 25 (0, 0)) (by (with_reducible repeat first|refine zb1 ?_ _|refine zb2 ?_|refine zb3 ?_ _); exact BK115.out)) : gb116 ≠ gb115)); clear BK115; clear HB; have BK115 := n0_; have HB := n1_; have BK116 := n2_; have GW116 := n3_; have GE116 := n4_; have NB115_116 := n5_; have NB116_115 := n6_; clear n0_ n1_ n2_ n3_ n4_ n5_ n6_; clear hb hbox hg; have hnb11 := NB115_116.out; have hnc11 := NB116_115.out; have hcz12_0 : w10.cell? ⟨gb115, 0, none⟩ = some (.int .i64 a0_0) := (blk_cell BK115.out 0).trans rfl; have hcz12_1 : w10.cell? ⟨gb115, 1, none⟩ = some (.int .u64 a0_1) := (blk_cell BK115.out 1).trans rfl; have hfz12_0 := blk_frozen BK115.out 0; have hfz12_1 := blk_frozen BK115.out 1; have hcz13_0 : w10.cell? ⟨gb116, 0, none⟩ = some (.int .i64 a1_0) := (blk_cell BK116.out 0).trans rfl; have hcz13_1 : w10.cell? ⟨gb116, 1, none⟩ = some (.int .u64 a1_1) := (blk_cell BK116.out 1).trans rfl; have hfz13_0 := blk_frozen BK116.out 0; have hfz13_1 := blk_frozen BK116.out 1))
  go_loopg [5] k (fun kq v5 w' => ∃ (x5_1 : Int), v5 = .int .i64 x5_1 ∧ Aside0 (jalousieref02_Below.l0 kq x5_1 a0_0 a0_1 a1_0 a1_1 = some r) ∧ Aside0 (kq ≤ k) ∧ Aside0 (w'.heap[gb115]? = some (.cells #[.int .i64 a0_0, .int .u64 a0_1] 25 (0, 0))) ∧ Aside0 (w'.heap[gb116]? = some (.cells #[.int .i64 a1_0, .int .u64 a1_1] 25 (0, 0))) ∧ Aside0 (Below w.heap.size w w'))
  case atStart => exact ⟨(0), (by first | rfl | (simp; done) | (simp [*]; done)), H', ⟨Nat.le_refl _⟩, ⟨by (with_reducible repeat first|refine zb1 ?_ _|refine zb2 ?_|refine zb3 ?_ _); exact BK115.out⟩, ⟨by (with_reducible repeat first|refine zb1 ?_ _|refine zb2 ?_|refine zb3 ?_ _); exact BK116.out⟩, ⟨by repeat (first | (with_reducible first | exact HB.out | apply below_alloc | apply pw_below_drewN | apply below_drew1 | refine below_set ?_ GE115.out | refine below_set ?_ GE116.out) | exact HB.out)⟩⟩
  case round =>
   clear H'
   try clear c1
   try clear c2
   try clear p2
   try clear c3
   try clear c3b0
   try clear c6
   try clear c11
   try clear hcz12_0
   try clear hcz12_1
   try clear hcz13_0
   try clear hcz13_1
   try clear hcz7_0
   try clear hcz7_1
   try clear hcz8_0
   try clear hcz8_1
   try clear hfz12_0
   try clear hfz12_1
   try clear hfz13_0
   try clear hfz13_1
   try clear hfz7_0
   try clear hfz7_1
   try clear hfz8_0
   try clear hfz8_1
   obtain ⟨x5_1, rfl, HA, HK1, BK115, BK116, HB⟩ := hrel
   cases gk with
   | zero => exact absurd HA.out (by simp [jalousieref02_Below.l0])
   | succ k1 =>
    have H := HA.out
    clear HA
    simp only [jalousieref02_Below.l0] at H
    by_cases c14 : x5_1 < 64
    ·rw [if_pos c14] at H
     have c14b0 : decide (x5_1 < 64) = true := decide_eq_true c14
     clear c14
     replace H := Option.bind_eq_some_iff.mp H
     obtain ⟨t117, A150, H⟩ := H
     replace H : (if t117 = true then ((jalousieref02_Has.f a1_0 a1_1 x5_1).bind fun t118 => (if t118 = true then (jalousieref02_Below.l0 k1 (wrap64 (x5_1 + 1)) a0_0 a0_1 a1_0 a1_1) else (some false))) else (jalousieref02_Below.l0 k1 (wrap64 (x5_1 + 1)) a0_0 a0_1 a1_0 a1_1)) = some r := H
     have A15 := Aside0.mk A150
     clear A150
     by_cases c16 : t117 = true
     ·subst c16
      have H1 : ((jalousieref02_Has.f a1_0 a1_1 x5_1).bind fun t118 => (if t118 = true then (jalousieref02_Below.l0 k1 (wrap64 (x5_1 + 1)) a0_0 a0_1 a1_0 a1_1) else (some false))) = some r := by rw [if_pos rfl] at H; exact H
      clear H
      have H := H1
      clear H1
      replace H := Option.bind_eq_some_iff.mp H
      obtain ⟨t118, A170, H⟩ := H
      replace H : (if t118 = true then (jalousieref02_Below.l0 k1 (wrap64 (x5_1 + 1)) a0_0 a0_1 a1_0 a1_1) else (some false)) = some r := H
      have A17 := Aside0.mk A170
      clear A170
      by_cases c18 : t118 = true
      ·subst c18
       have H1 : (jalousieref02_Below.l0 k1 (wrap64 (x5_1 + 1)) a0_0 a0_1 a1_0 a1_1) = some r := by rw [if_pos rfl] at H; exact H
       clear H
       have H := H1
       clear H1
       have H' := Aside0.mk H
       clear H
       have hnb19 := NB115_116.out
       have hnc19 := NB116_115.out
       have hcz20_0 : wr.cell? ⟨gb115, 0, none⟩ = some (.int .i64 a0_0) := (blk_cell BK115.out 0).trans rfl
       have hcz20_1 : wr.cell? ⟨gb115, 1, none⟩ = some (.int .u64 a0_1) := (blk_cell BK115.out 1).trans rfl
       have hfz20_0 := blk_frozen BK115.out 0
       have hfz20_1 := blk_frozen BK115.out 1
       go_wp2_with (first | ((with_reducible refine gate_callee (f := 54) rfl ?_); refine goesL_ (some 17) rfl rfl Tryd.func54 (by kernel_rfl) rfl #[.agg #[.int .i64 a0_0, .int .u64 a0_1], .int .i64 x5_1] rfl (by (try simp only [List.map_toArray, List.map_cons, List.map_nil]); first | done | rfl | (simp only [List.length_drop, List.length_take]; rfl)) ?_; (with_reducible refine (jalousieref02_Has.calls a0_0 a0_1 x5_1 true _ A15.out).mono ?_); rintro e w21 ⟨rfl, hb⟩; refine ⟨_, rfl, ?_⟩; have n0_ := Aside0.mk (blk_below (g := gb115) (o := .cells #[.int .i64 a0_0, .int .u64 a0_1] 25 (0, 0)) (by (with_reducible repeat first|refine zb1 ?_ _|refine zb2 ?_|refine zb3 ?_ _); exact BK115.out) hb); have n1_ := Aside0.mk (blk_below (g := gb116) (o := .cells #[.int .i64 a1_0, .int .u64 a1_1] 25 (0, 0)) (by (with_reducible repeat first|refine zb1 ?_ _|refine zb2 ?_|refine zb3 ?_ _); exact BK116.out) hb); have n2_ := Aside0.mk (below_step (by repeat (first | (with_reducible first | exact HB.out | apply below_alloc | apply pw_below_drewN | apply below_drew1 | refine below_set ?_ GE115.out | refine below_set ?_ GE116.out) | exact HB.out)) hb); clear BK115; clear BK116; clear HB; have BK115 := n0_; have BK116 := n1_; have HB := n2_; clear n0_ n1_ n2_; (try clear hb); (try clear hb2); (try clear hk); (try clear hi); have hcz22_0 : w21.cell? ⟨gb116, 0, none⟩ = some (.int .i64 a1_0) := (blk_cell BK116.out 0).trans rfl; have hcz22_1 : w21.cell? ⟨gb116, 1, none⟩ = some (.int .u64 a1_1) := (blk_cell BK116.out 1).trans rfl; have hfz22_0 := blk_frozen BK116.out 0; have hfz22_1 := blk_frozen BK116.out 1) | (go_at_call 54; (with_reducible refine (jalousieref02_Has.calls a1_0 a1_1 x5_1 true _ A17.out).mono ?_); rintro e w23 ⟨rfl, hb⟩; have n0_ := Aside0.mk (blk_below (g := gb115) (o := .cells #[.int .i64 a0_0, .int .u64 a0_1] 25 (0, 0)) (by (with_reducible repeat first|refine zb1 ?_ _|refine zb2 ?_|refine zb3 ?_ _); exact BK115.out) hb); have n1_ := Aside0.mk (blk_below (g := gb116) (o := .cells #[.int .i64 a1_0, .int .u64 a1_1] 25 (0, 0)) (by (with_reducible repeat first|refine zb1 ?_ _|refine zb2 ?_|refine zb3 ?_ _); exact BK116.out) hb); have n2_ := Aside0.mk (below_step (by repeat (first | (with_reducible first | exact HB.out | apply below_alloc | apply pw_below_drewN | apply below_drew1 | refine below_set ?_ GE115.out | refine below_set ?_ GE116.out) | exact HB.out)) hb); clear BK115; clear BK116; clear HB; have BK115 := n0_; have BK116 := n1_; have HB := n2_; clear n0_ n1_ n2_; (try clear hb); (try clear hb2); (try clear hk); (try clear hi)))
       go_roundg k1
       case measure => have := HK1.out; omega
       case rel => exact ⟨(wrap64 (x5_1 + 1)), (by first | rfl | (simp; done) | (simp [*]; done)), H', ⟨by have := HK1.out; omega⟩, ⟨by (with_reducible repeat first|refine zb1 ?_ _|refine zb2 ?_|refine zb3 ?_ _); exact BK115.out⟩, ⟨by (with_reducible repeat first|refine zb1 ?_ _|refine zb2 ?_|refine zb3 ?_ _); exact BK116.out⟩, ⟨by repeat (first | (with_reducible first | exact HB.out | apply below_alloc | apply pw_below_drewN | apply below_drew1 | refine below_set ?_ GE115.out | refine below_set ?_ GE116.out) | exact HB.out)⟩⟩
      ·replace c18 := Bool.eq_false_iff.mpr c18
       subst c18
       have H1 : (some false) = some r := by rw [if_neg (show ¬ (false = true) by decide)] at H; exact H
       clear H
       have H := H1
       clear H1
       obtain rfl := Option.some.inj H
       have hnb24 := NB115_116.out
       have hnc24 := NB116_115.out
       have hcz25_0 : wr.cell? ⟨gb115, 0, none⟩ = some (.int .i64 a0_0) := (blk_cell BK115.out 0).trans rfl
       have hcz25_1 : wr.cell? ⟨gb115, 1, none⟩ = some (.int .u64 a0_1) := (blk_cell BK115.out 1).trans rfl
       have hfz25_0 := blk_frozen BK115.out 0
       have hfz25_1 := blk_frozen BK115.out 1
       go_wp2_with (first | ((with_reducible refine gate_callee (f := 54) rfl ?_); refine goesL_ (some 17) rfl rfl Tryd.func54 (by kernel_rfl) rfl #[.agg #[.int .i64 a0_0, .int .u64 a0_1], .int .i64 x5_1] rfl (by (try simp only [List.map_toArray, List.map_cons, List.map_nil]); first | done | rfl | (simp only [List.length_drop, List.length_take]; rfl)) ?_; (with_reducible refine (jalousieref02_Has.calls a0_0 a0_1 x5_1 true _ A15.out).mono ?_); rintro e w26 ⟨rfl, hb⟩; refine ⟨_, rfl, ?_⟩; have n0_ := Aside0.mk (blk_below (g := gb115) (o := .cells #[.int .i64 a0_0, .int .u64 a0_1] 25 (0, 0)) (by (with_reducible repeat first|refine zb1 ?_ _|refine zb2 ?_|refine zb3 ?_ _); exact BK115.out) hb); have n1_ := Aside0.mk (blk_below (g := gb116) (o := .cells #[.int .i64 a1_0, .int .u64 a1_1] 25 (0, 0)) (by (with_reducible repeat first|refine zb1 ?_ _|refine zb2 ?_|refine zb3 ?_ _); exact BK116.out) hb); have n2_ := Aside0.mk (below_step (by repeat (first | (with_reducible first | exact HB.out | apply below_alloc | apply pw_below_drewN | apply below_drew1 | refine below_set ?_ GE115.out | refine below_set ?_ GE116.out) | exact HB.out)) hb); clear BK115; clear BK116; clear HB; have BK115 := n0_; have BK116 := n1_; have HB := n2_; clear n0_ n1_ n2_; (try clear hb); (try clear hb2); (try clear hk); (try clear hi); have hcz27_0 : w26.cell? ⟨gb116, 0, none⟩ = some (.int .i64 a1_0) := (blk_cell BK116.out 0).trans rfl; have hcz27_1 : w26.cell? ⟨gb116, 1, none⟩ = some (.int .u64 a1_1) := (blk_cell BK116.out 1).trans rfl; have hfz27_0 := blk_frozen BK116.out 0; have hfz27_1 := blk_frozen BK116.out 1) | (go_at_call 54; (with_reducible refine (jalousieref02_Has.calls a1_0 a1_1 x5_1 false _ A17.out).mono ?_); rintro e w28 ⟨rfl, hb⟩; have n0_ := Aside0.mk (blk_below (g := gb115) (o := .cells #[.int .i64 a0_0, .int .u64 a0_1] 25 (0, 0)) (by (with_reducible repeat first|refine zb1 ?_ _|refine zb2 ?_|refine zb3 ?_ _); exact BK115.out) hb); have n1_ := Aside0.mk (blk_below (g := gb116) (o := .cells #[.int .i64 a1_0, .int .u64 a1_1] 25 (0, 0)) (by (with_reducible repeat first|refine zb1 ?_ _|refine zb2 ?_|refine zb3 ?_ _); exact BK116.out) hb); have n2_ := Aside0.mk (below_step (by repeat (first | (with_reducible first | exact HB.out | apply below_alloc | apply pw_below_drewN | apply below_drew1 | refine below_set ?_ GE115.out | refine below_set ?_ GE116.out) | exact HB.out)) hb); clear BK115; clear BK116; clear HB; have BK115 := n0_; have BK116 := n1_; have HB := n2_; clear n0_ n1_ n2_; (try clear hb); (try clear hb2); (try clear hk); (try clear hi)))
       go_ret
       exact ⟨by first | rfl | (simp [errW_none, errW_some] <;> rfl) | (simp [*, errW_none, errW_some] <;> rfl), by repeat (first | (with_reducible first | exact HB.out | apply below_alloc | apply pw_below_drewN | apply below_drew1 | refine below_set ?_ GE115.out | refine below_set ?_ GE116.out) | exact HB.out)⟩
     ·replace c16 := Bool.eq_false_iff.mpr c16
      subst c16
      have H1 : (jalousieref02_Below.l0 k1 (wrap64 (x5_1 + 1)) a0_0 a0_1 a1_0 a1_1) = some r := by rw [if_neg (show ¬ (false = true) by decide)] at H; exact H
      clear H
      have H := H1
      clear H1
      have H' := Aside0.mk H
      clear H
      have hnb29 := NB115_116.out
      have hnc29 := NB116_115.out
      have hcz30_0 : wr.cell? ⟨gb115, 0, none⟩ = some (.int .i64 a0_0) := (blk_cell BK115.out 0).trans rfl
      have hcz30_1 : wr.cell? ⟨gb115, 1, none⟩ = some (.int .u64 a0_1) := (blk_cell BK115.out 1).trans rfl
      have hfz30_0 := blk_frozen BK115.out 0
      have hfz30_1 := blk_frozen BK115.out 1
      go_wp2_with (first | ((with_reducible refine gate_callee (f := 54) rfl ?_); refine goesL_ (some 17) rfl rfl Tryd.func54 (by kernel_rfl) rfl #[.agg #[.int .i64 a0_0, .int .u64 a0_1], .int .i64 x5_1] rfl (by (try simp only [List.map_toArray, List.map_cons, List.map_nil]); first | done | rfl | (simp only [List.length_drop, List.length_take]; rfl)) ?_; (with_reducible refine (jalousieref02_Has.calls a0_0 a0_1 x5_1 false _ A15.out).mono ?_); rintro e w31 ⟨rfl, hb⟩; refine ⟨_, rfl, ?_⟩; have n0_ := Aside0.mk (blk_below (g := gb115) (o := .cells #[.int .i64 a0_0, .int .u64 a0_1] 25 (0, 0)) (by (with_reducible repeat first|refine zb1 ?_ _|refine zb2 ?_|refine zb3 ?_ _); exact BK115.out) hb); have n1_ := Aside0.mk (blk_below (g := gb116) (o := .cells #[.int .i64 a1_0, .int .u64 a1_1] 25 (0, 0)) (by (with_reducible repeat first|refine zb1 ?_ _|refine zb2 ?_|refine zb3 ?_ _); exact BK116.out) hb); have n2_ := Aside0.mk (below_step (by repeat (first | (with_reducible first | exact HB.out | apply below_alloc | apply pw_below_drewN | apply below_drew1 | refine below_set ?_ GE115.out | refine below_set ?_ GE116.out) | exact HB.out)) hb); clear BK115; clear BK116; clear HB; have BK115 := n0_; have BK116 := n1_; have HB := n2_; clear n0_ n1_ n2_; (try clear hb); (try clear hb2); (try clear hk); (try clear hi)))
      go_roundg k1
      case measure => have := HK1.out; omega
      case rel => exact ⟨(wrap64 (x5_1 + 1)), (by first | rfl | (simp; done) | (simp [*]; done)), H', ⟨by have := HK1.out; omega⟩, ⟨by (with_reducible repeat first|refine zb1 ?_ _|refine zb2 ?_|refine zb3 ?_ _); exact BK115.out⟩, ⟨by (with_reducible repeat first|refine zb1 ?_ _|refine zb2 ?_|refine zb3 ?_ _); exact BK116.out⟩, ⟨by repeat (first | (with_reducible first | exact HB.out | apply below_alloc | apply pw_below_drewN | apply below_drew1 | refine below_set ?_ GE115.out | refine below_set ?_ GE116.out) | exact HB.out)⟩⟩
    ·rw [if_neg c14] at H
     have c14b0 : decide (x5_1 < 64) = false := decide_eq_false c14
     clear c14
     obtain rfl := Option.some.inj H
     go_wp2
     go_ret
     exact ⟨by first | rfl | (simp [errW_none, errW_some] <;> rfl) | (simp [*, errW_none, errW_some] <;> rfl), by repeat (first | (with_reducible first | exact HB.out | apply below_alloc | apply pw_below_drewN | apply below_drew1 | refine below_set ?_ GE115.out | refine below_set ?_ GE116.out) | exact HB.out)⟩

end Go.Proofs.YtkinepmilnkhmaaDoor.A
end
section
namespace Go.Proofs.YtkinepmilnkhmaaDoor.A
open Go.RowKit Go.Proofs.YtkinepmilnkhmaaDoorW.PrintWords Go.Proofs.YtkinepmilnkhmaaDoorW.PrintLast Go.Proofs.YtkinepmilnkhmaaDoorW.PrintMore
attribute [local go_sem] max2_int min2_int max_two min_two max_three min_three max_four min_four   -- for this text's walks alone
set_option linter.unusedVariables false
set_option linter.unusedSimpArgs false

def label_Below.f (a0_0 : Int) (a0_1 : Int) (a1_0 : Int) (a1_1 : Int) : Option (Bool) := if a0_0 ≤ a1_0 then (some ((Go.bits .andNot .u64 a0_1 a1_1) == 0)) else (some false)
set_option maxHeartbeats 8000000 in
set_option maxRecDepth 100000 in
theorem label_Below.calls (a0_0 : Int) (a0_1 : Int) (a1_0 : Int) (a1_1 : Int) (r : Bool) (w : World) (h : label_Below.f a0_0 a0_1 a1_0 a1_1 = some r) :
  Calls Tryd.prog 46 #[.agg #[.int .i64 a0_0, .int .u64 a0_1], .agg #[.int .i64 a1_0, .int .u64 a1_1]] w fun e w' => e = .returned (.bool r) ∧ Below w.heap.size w w' := by
 have hu25 := Tryd.underlying25
 have HB := Aside0.mk (Below.refl w.heap.size w)
 have H : (if a0_0 ≤ a1_0 then (some ((Go.bits .andNot .u64 a0_1 a1_1) == 0)) else (some false)) = some r := h
 clear h
 by_cases c3 : a0_0 ≤ a1_0
 ·rw [if_pos c3] at H
  have c3b0 : decide (a0_0 ≤ a1_0) = true := decide_eq_true c3
  clear c3
  obtain rfl := Option.some.inj H
  go_enter Tryd.func46, Tryd.ntmps46
  go_wp2_with (first | ((with_reducible refine gate_dst (N := 2) rfl ?_); refine box_event ?hg (N := 2) ?hd (cs := #[.int .i64 a0_0, .int .u64 a0_1]) (t := 25) ?hr ?_; (case hd => rfl); (case hg => rfl); (case hr => first | (go_simp; done) | (go_simp; rfl)); intro gb109 hg w4 hbox hb; have n0_ := Aside0.mk (below_step (by repeat (first | (with_reducible first | exact HB.out | apply below_alloc | apply pw_below_drewN | apply below_drew1) | exact HB.out)) hb); have n1_ := Aside0.mk (hbox); have n2_ := Aside0.mk ((by rw [hg]; exact (below_size (by repeat (first | (with_reducible first | exact HB.out | apply below_alloc | apply pw_below_drewN | apply below_drew1) | exact HB.out))) : w.heap.size ≤ gb109)); have n3_ := Aside0.mk ((by rw [hg]; exact (below_size (by repeat (first | (with_reducible first | exact HB.out | apply below_alloc | apply pw_below_drewN | apply below_drew1) | exact HB.out))) : w.heap.size ≤ gb109)); clear HB; have HB := n0_; have BK109 := n1_; have GW109 := n2_; have GE109 := n3_; clear n0_ n1_ n2_ n3_; clear hb hbox hg) | ((with_reducible refine gate_dst (N := 3) rfl ?_); refine box_event ?hg (N := 3) ?hd (cs := #[.int .i64 a1_0, .int .u64 a1_1]) (t := 25) ?hr ?_; (case hd => rfl); (case hg => rfl); (case hr => first | (go_simp; done) | (go_simp; rfl)); intro gb110 hg w5 hbox hb; have n0_ := Aside0.mk (blk_below (g := gb109) (o := .cells #[.int .i64 a0_0, .int .u64 a0_1] 25 (0, 0)) (by (with_reducible repeat first|refine zb1 ?_ _|refine zb2 ?_|refine zb3 ?_ _); exact BK109.out) hb); have n1_ := Aside0.mk (below_step (by repeat (first | (with_reducible first | exact HB.out | apply below_alloc | apply pw_below_drewN | apply below_drew1 | refine below_set ?_ GE109.out) | exact HB.out)) hb); have n2_ := Aside0.mk (hbox); have n3_ := Aside0.mk ((by rw [hg]; exact (below_size (by repeat (first | (with_reducible first | exact HB.out | apply below_alloc | apply pw_below_drewN | apply below_drew1 | refine below_set ?_ GE109.out) | exact HB.out))) : w.heap.size ≤ gb110)); have n4_ := Aside0.mk ((by rw [hg]; exact (below_size (by repeat (first | (with_reducible first | exact HB.out | apply below_alloc | apply pw_below_drewN | apply below_drew1 | refine below_set ?_ GE109.out) | exact HB.out))) : w.heap.size ≤ gb110)); have n5_ := Aside0.mk ((by rw [hg]; exact Nat.ne_of_lt (blk_lt (g := gb109) (o := .cells #[.int .i64 a0_0, .int .u64 a0_1] 25 (0, 0)) (by (with_reducible repeat first|refine zb1 ?_ _|refine zb2 ?_|refine zb3 ?_ _); exact BK109.out)) : gb109 ≠ gb110)); have n6_ := Aside0.mk ((by rw [hg]; exact Nat.ne_of_gt (blk_lt (g := gb109) (o := .cells #[.int .i64 a0_0, .int .u64 a0_1] 25 (0, 0)) (by (with_reducible repeat first|refine zb1 ?_ _|refine zb2 ?_|refine zb3 ?_ _); exact BK109.out)) : gb110 ≠ gb109)); clear BK109; clear HB; have BK109 := n0_; have HB := n1_; have BK110 := n2_; have GW110 := n3_; have GE110 := n4_; have NB109_110 := n5_; have NB110_109 := n6_; clear n0_ n1_ n2_ n3_ n4_ n5_ n6_; clear hb hbox hg; have hnb6 := NB109_110.out; have hnc6 := NB110_109.out; have hcz7_0 : w5.cell? ⟨gb109, 0, none⟩ = some (.int .i64 a0_0) := (blk_cell BK109.out 0).trans rfl; have hcz7_1 : w5.cell? ⟨gb109, 1, none⟩ = some (.int .u64 a0_1) := (blk_cell BK109.out 1).trans rfl; have hfz7_0 := blk_frozen BK109.out 0; have hfz7_1 := blk_frozen BK109.out 1; have hcz8_0 : w5.cell? ⟨gb110, 0, none⟩ = some (.int .i64 a1_0) := (blk_cell BK110.out 0).trans rfl; have hcz8_1 : w5.cell? ⟨gb110, 1, none⟩ = some (.int .u64 a1_1) := (blk_cell BK110.out 1).trans rfl; have hfz8_0 := blk_frozen BK110.out 0; have hfz8_1 := blk_frozen BK110.out 1))
  go_ret
  exact ⟨by first | rfl | (simp [errW_none, errW_some] <;> rfl) | (simp [*, errW_none, errW_some] <;> rfl), by repeat (first | (with_reducible first | exact HB.out | apply below_alloc | apply pw_below_drewN | apply below_drew1 | refine below_set ?_ GE109.out | refine below_set ?_ GE110.out) | exact HB.out)⟩
 ·rw [if_neg c3] at H
  have c3b0 : decide (a0_0 ≤ a1_0) = false := decide_eq_false c3
  clear c3
  obtain rfl := Option.some.inj H
  go_enter Tryd.func46, Tryd.ntmps46
  go_wp2_with (first | ((with_reducible refine gate_dst (N := 2) rfl ?_); refine box_event ?hg (N := 2) ?hd (cs := #[.int .i64 a0_0, .int .u64 a0_1]) (t := 25) ?hr ?_; (case hd => rfl); (case hg => rfl); (case hr => first | (go_simp; done) | (go_simp; rfl)); intro gb109 hg w9 hbox hb; have n0_ := Aside0.mk (below_step (by repeat (first | (with_reducible first | exact HB.out | apply below_alloc | apply pw_below_drewN | apply below_drew1) | exact HB.out)) hb); have n1_ := Aside0.mk (hbox); have n2_ := Aside0.mk ((by rw [hg]; exact (below_size (by repeat (first | (with_reducible first | exact HB.out | apply below_alloc | apply pw_below_drewN | apply below_drew1) | exact HB.out))) : w.heap.size ≤ gb109)); have n3_ := Aside0.mk ((by rw [hg]; exact (below_size (by repeat (first | (with_reducible first | exact HB.out | apply below_alloc | apply pw_below_drewN | apply below_drew1) | exact HB.out))) : w.heap.size ≤ gb109)); clear HB; have HB := n0_; have BK109 := n1_; have GW109 := n2_; have GE109 := n3_; clear n0_ n1_ n2_ n3_; clear hb hbox hg) | ((with_reducible refine gate_dst (N := 3) rfl ?_); refine box_event ?hg (N := 3) ?hd (cs := #[.int .i64 a1_0, .int .u64 a1_1]) (t := 25) ?hr ?_; (case hd => rfl); (case hg => rfl); (case hr => first | (go_simp; done) | (go_simp; rfl)); intro gb110 hg w10 hbox hb; have n0_ := Aside0.mk (blk_below (g := gb109) (o := .cells #[.int .i64 a0_0, .int .u64 a0_1] 25 (0, 0)) (by (with_reducible repeat first|refine zb1 ?_ _|refine zb2 ?_|refine zb3 ?_ _); exact BK109.out) hb); have n1_ := Aside0.mk (below_step (by repeat (first | (with_reducible first | exact HB.out | apply below_alloc | apply pw_below_drewN | apply below_drew1 | refine below_set ?_ GE109.out) | exact HB.out)) hb); have n2_ := Aside0.mk (hbox); have n3_ := Aside0.mk ((by rw [hg]; exact (below_size (by repeat (first | (with_reducible first | exact HB.out | apply below_alloc | apply pw_below_drewN | apply below_drew1 | refine below_set ?_ GE109.out) | exact HB.out))) : w.heap.size ≤ gb110)); have n4_ := Aside0.mk ((by rw [hg]; exact (below_size (by repeat (first | (with_reducible first | exact HB.out | apply below_alloc | apply pw_below_drewN | apply below_drew1 | refine below_set ?_ GE109.out) | exact HB.out))) : w.heap.size ≤ gb110)); have n5_ := Aside0.mk ((by rw [hg]; exact Nat.ne_of_lt (blk_lt (g := gb109) (o := .cells #[.int .i64 a0_0, .int .u64 a0_1] 25 (0, 0)) (by (with_reducible repeat first|refine zb1 ?_ _|refine zb2 ?_|refine zb3 ?_ _); exact BK109.out)) : gb109 ≠ gb110)); have n6_ := Aside0.mk ((by rw [hg]; exact Nat.ne_of_gt (blk_lt (g := gb109) (o := .cells #[.int .i64 a0_0, .int .u64 a0_1] 25 (0, 0)) (by (with_reducible repeat first|refine zb1 ?_ _|refine zb2 ?_|refine zb3 ?_ _); exact BK109.out)) : gb110 ≠ gb109)); clear BK109; clear HB; have BK109 := n0_; have HB := n1_; have BK110 := n2_; have GW110 := n3_; have GE110 := n4_; have NB109_110 := n5_; have NB110_109 := n6_; clear n0_ n1_ n2_ n3_ n4_ n5_ n6_; clear hb hbox hg; have hnb11 := NB109_110.out; have hnc11 := NB110_109.out; have hcz12_0 : w10.cell? ⟨gb109, 0, none⟩ = some (.int .i64 a0_0) := (blk_cell BK109.out 0).trans rfl; have hcz12_1 : w10.cell? ⟨gb109, 1, none⟩ = some (.int .u64 a0_1) := (blk_cell BK109.out 1).trans rfl; have hfz12_0 := blk_frozen BK109.out 0; have hfz12_1 := blk_frozen BK109.out 1; have hcz13_0 : w10.cell? ⟨gb110, 0, none⟩ = some (.int .i64 a1_0) := (blk_cell BK110.out 0).trans rfl; have hcz13_1 : w10.cell? ⟨gb110, 1, none⟩ = some (.int .u64 a1_1) := (blk_cell BK110.out 1).trans rfl; have hfz13_0 := blk_frozen BK110.out 0; have hfz13_1 := blk_frozen BK110.out 1))
  go_ret
  exact ⟨by first | rfl | (simp [errW_none, errW_some] <;> rfl) | (simp [*, errW_none, errW_some] <;> rfl), by repeat (first | (with_reducible first | exact HB.out | apply below_alloc | apply pw_below_drewN | apply below_drew1 | refine below_set ?_ GE109.out | refine below_set ?_ GE110.out) | exact HB.out)⟩

end Go.Proofs.YtkinepmilnkhmaaDoor.A
end
section
namespace Go.Proofs.YtkinepmilnkhmaaDoor.Bits
open Go.RowKit Go.Proofs.YtkinepmilnkhmaaDoorW.PrintWords Go.Proofs.YtkinepmilnkhmaaDoorW.PrintMore
set_option linter.unusedVariables false
set_option linter.unusedSimpArgs false

theorem nat_test (X i : Nat) : X.testBit i = decide (X / 2 ^ i % 2 = 1) := by
  rw [Nat.testBit_eq_decide_div_mod_eq]
theorem shr_nat (X : Nat) (c : Nat) (hc : c ≤ 64) : shr .u64 (X : Int) (c : Int) = ((X / 2 ^ c : Nat) : Int) := by
  unfold shr
  rw [Int.toNat_natCast, show IntKind.u64.bits = 64 from rfl, Nat.min_eq_left hc]
  simp
theorem shr_bit (X : Nat) (c : Nat) (hc : c ≤ 64) : (Int.tmod (shr .u64 (X : Int) (c : Int)) 2 == 1) = X.testBit c := by
  rw [shr_nat X c hc, nat_test, Int.tmod_eq_emod_of_nonneg (Int.natCast_nonneg _)]
  by_cases h : X / 2 ^ c % 2 = 1
  · rw [decide_eq_true h]
    simp only [beq_iff_eq]
    omega
  · rw [decide_eq_false h]
    simp only [beq_eq_false_iff_ne, ne_eq]
    omega
theorem andNot_zero (X Y : Nat) (hX : X < 2 ^ 64) (hY : Y < 2 ^ 64) : (Go.bits .andNot .u64 (X : Int) (Y : Int) == 0) = true ↔ ∀ c, c < 64 → X.testBit c = true → Y.testBit c = true := by
  have e : Go.bits .andNot .u64 (X : Int) (Y : Int) = ((BitVec.ofNat 64 X &&& ~~~ BitVec.ofNat 64 Y).toNat : Int) := by
    have hlt := (BitVec.ofNat 64 X &&& ~~~ BitVec.ofNat 64 Y).isLt
    have hw : ∀ q : Nat, q < 2 ^ 64 → IntKind.u64.wrap (q : Int) = q := by
      intro q hq
      have h2 : (2 : Nat) ^ 64 = 18446744073709551616 := by decide
      rw [h2] at hq
      simp [IntKind.wrap, IntKind.bits, IntKind.signed]
      omega
    exact hw _ hlt
  rw [e, beq_iff_eq]
  constructor
  · intro h c hc hx
    have h0 : (BitVec.ofNat 64 X &&& ~~~ BitVec.ofNat 64 Y) = 0#64 := by
      apply BitVec.eq_of_toNat_eq
      simpa using h
    have h1 := congrArg (fun b => b.getLsbD c) h0
    simp only [BitVec.getLsbD_and, BitVec.getLsbD_not, BitVec.getLsbD_ofNat, BitVec.getLsbD_zero, hc, decide_true, Bool.true_and, hx] at h1
    simpa using h1
  · intro h
    have h0 : (BitVec.ofNat 64 X &&& ~~~ BitVec.ofNat 64 Y) = 0#64 := by
      apply BitVec.eq_of_getLsbD_eq
      intro c hc
      simp only [BitVec.getLsbD_and, BitVec.getLsbD_not, BitVec.getLsbD_ofNat, BitVec.getLsbD_zero, hc, decide_true, Bool.true_and]
      cases hx : X.testBit c with
      | false => simp
      | true => simp [h c hc hx]
    rw [h0]
    rfl
end Go.Proofs.YtkinepmilnkhmaaDoor.Bits
end
section
namespace Go.Proofs.YtkinepmilnkhmaaDoor.A
open Go.RowKit Go.Proofs.YtkinepmilnkhmaaDoorW.PrintWords Go.Proofs.YtkinepmilnkhmaaDoorW.PrintLast Go.Proofs.YtkinepmilnkhmaaDoorW.PrintMore
set_option linter.unusedVariables false
set_option linter.unusedSimpArgs false
theorem w64_succ (i : Nat) (h : i < 9223372036854775807) : wrap64 ((i : Int) + 1) = ((i + 1 : Nat) : Int) := by
  unfold wrap64
  omega
/-- Rounds: one more. -/
theorem rounds_succ' {k K : Nat} (h : K + 1 ≤ k) : ∃ m, k = m + 1 ∧ K ≤ m := ⟨k - 1, by omega, by omega⟩
/-- May whoever reads o read x? -/
def bel (x o : S25) : Bool := (label_Below.f x.f0 x.f1 o.f0 o.f1).getD false
theorem bel_some (x o : S25) : label_Below.f x.f0 x.f1 o.f0 o.f1 = some (bel x o) := by
  unfold bel label_Below.f
  split <;> rfl
theorem u64_nat {x : Int} (h : (Lit.int .u64 x).wf = true) : ∃ X : Nat, x = X ∧ X < 2 ^ 64 := by
  have h1 : 0 ≤ x ∧ x ≤ 18446744073709551615 := by simpa [Lit.wf, IntKind.min, IntKind.max, IntKind.signed, IntKind.bits] using h
  have h2 : (2 : Nat) ^ 64 = 18446744073709551616 := by decide
  exact ⟨x.toNat, by omega, by omega⟩
theorem has_nat (a : Int) (X c : Nat) (hc : c < 64) : jalousieref02_Has.f a (X : Int) (c : Int) = some (X.testBit c) := by
  unfold jalousieref02_Has.f
  rw [if_pos (by omega), if_pos (by omega), if_pos (by omega), Bits.shr_bit X c (by omega)]
theorem below_l0 (a b : Int) (X Y : Nat) : ∀ (d c : Nat), c + d = 64 → ∃ r : Bool, Ev (fun k => jalousieref02_Below.l0 k (c : Int) a (X : Int) b (Y : Int)) r ∧ (r = true ↔ ∀ j, c ≤ j → j < 64 → X.testBit j = true → Y.testBit j = true)
  | 0, c, h => by
    refine ⟨true, ⟨1, fun k hk => ?_⟩, by simp; omega⟩
    obtain ⟨m, rfl, _⟩ := rounds_succ' hk
    simp only [jalousieref02_Below.l0]
    rw [if_neg (by omega)]
  | d + 1, c, h => by
    obtain ⟨r, ⟨K, hK⟩, hr⟩ := below_l0 a b X Y d (c + 1) (by omega)
    have go : ∀ k, K ≤ k → jalousieref02_Below.l0 k (wrap64 ((c : Int) + 1)) a (X : Int) b (Y : Int) = some r := fun k hk => by
      rw [w64_succ c (by omega)]
      exact hK k hk
    have hx := has_nat a X c (by omega)
    have hy := has_nat b Y c (by omega)
    cases hX : X.testBit c with
    | false =>
      refine ⟨r, ⟨K + 1, fun k hk => ?_⟩, hr.trans ⟨fun g j h1 h2 h3 => ?_, fun g j h1 h2 => g j (by omega) h2⟩⟩
      · obtain ⟨m, rfl, hm⟩ := rounds_succ' hk
        simp only [jalousieref02_Below.l0]
        rw [if_pos (by omega), hx, hX]
        simpa using go m hm
      · rcases Nat.lt_or_ge c j with h4 | h4
        · exact g j (by omega) h2 h3
        · obtain rfl : j = c := by omega
          rw [hX] at h3
          cases h3
    | true =>
      cases hY : Y.testBit c with
      | false =>
        refine ⟨false, ⟨K + 1, fun k hk => ?_⟩, ⟨(fun g => by cases g), (fun g => by rw [← hY]; exact g c (Nat.le_refl _) (by omega) hX)⟩⟩
        obtain ⟨m, rfl, hm⟩ := rounds_succ' hk
        simp only [jalousieref02_Below.l0]
        rw [if_pos (by omega), hx, hX, hy, hY]
        simp
      | true =>
        refine ⟨r, ⟨K + 1, fun k hk => ?_⟩, hr.trans ⟨fun g j h1 h2 h3 => ?_, fun g j h1 h2 => g j (by omega) h2⟩⟩
        · obtain ⟨m, rfl, hm⟩ := rounds_succ' hk
          simp only [jalousieref02_Below.l0]
          rw [if_pos (by omega), hx, hX, hy, hY]
          simpa using go m hm
        · rcases Nat.lt_or_ge c j with h4 | h4
          · exact g j (by omega) h2 h3
          · obtain rfl : j = c := by omega
            exact hY
theorem bel_iff (a b : Int) (X Y : Nat) (hX : X < 2 ^ 64) (hY : Y < 2 ^ 64) : bel ⟨a, X⟩ ⟨b, Y⟩ = true ↔ a ≤ b ∧ ∀ j, j < 64 → X.testBit j = true → Y.testBit j = true := by
  unfold bel label_Below.f
  by_cases h : a ≤ b
  · rw [if_pos h]
    simp only [Option.getD_some, Bits.andNot_zero X Y hX hY]
    exact ⟨fun g => ⟨h, g⟩, fun g => g.2⟩
  · rw [if_neg h]
    simp [h]
theorem below_ev {x o : S25} (hx : ok25 x) (ho : ok25 o) : Ev (fun k => jalousieref02_Below.f k x.f0 x.f1 o.f0 o.f1) (bel x o) := by
  obtain ⟨a, x1⟩ := x
  obtain ⟨b, o1⟩ := o
  obtain ⟨X, rfl, hX⟩ := u64_nat hx.2
  obtain ⟨Y, rfl, hY⟩ := u64_nat ho.2
  unfold jalousieref02_Below.f
  by_cases h : a > b
  · have e : bel ⟨a, X⟩ ⟨b, Y⟩ = false := by
      rw [Bool.eq_false_iff]
      intro g
      have := ((bel_iff a b X Y hX hY).1 g).1
      omega
    rw [e]
    refine ⟨0, fun k _ => ?_⟩
    show (if a > b then _ else _) = _
    rw [if_pos h]
  · obtain ⟨r, ⟨K, hK⟩, hr⟩ := below_l0 a b X Y 64 0 rfl
    have e : bel ⟨a, X⟩ ⟨b, Y⟩ = r := by
      rw [Bool.eq_iff_iff, bel_iff a b X Y hX hY, hr]
      exact ⟨fun g j _ => g.2 j, fun g => ⟨by omega, fun j => g j (Nat.zero_le _)⟩⟩
    rw [e]
    refine ⟨K, fun k hk => ?_⟩
    show (if a > b then _ else _) = _
    rw [if_neg h]
    exact hK k hk
end Go.Proofs.YtkinepmilnkhmaaDoor.A
end
section
namespace Go.Proofs.YtkinepmilnkhmaaDoor.A
open Go.RowKit Go.Proofs.YtkinepmilnkhmaaDoorW.PrintWords Go.Proofs.YtkinepmilnkhmaaDoorW.PrintLast Go.Proofs.YtkinepmilnkhmaaDoorW.PrintMore
attribute [local go_sem] max2_int min2_int max_two min_two max_three min_three max_four min_four   -- for this text's walks alone
set_option linter.unusedVariables false
set_option linter.unusedSimpArgs false

def label_Right.f (a0_0 : Int) (a0_1 : Int) : Option (Bool) := if a0_0 ≥ 0 then (some (decide (a0_0 ≤ 15))) else (some false)
set_option maxHeartbeats 8000000 in
set_option maxRecDepth 100000 in
theorem label_Right.calls (a0_0 : Int) (a0_1 : Int) (r : Bool) (w : World) (h : label_Right.f a0_0 a0_1 = some r) :
  Calls Tryd.prog 63 #[.agg #[.int .i64 a0_0, .int .u64 a0_1]] w fun e w' => e = .returned (.bool r) ∧ Below w.heap.size w w' := by
 have hu25 := Tryd.underlying25
 have HB := Aside0.mk (Below.refl w.heap.size w)
 have H : (if a0_0 ≥ 0 then (some (decide (a0_0 ≤ 15))) else (some false)) = some r := h
 clear h
 by_cases c2 : a0_0 ≥ 0
 ·rw [if_pos c2] at H
  have c2b0 : decide (0 ≤ a0_0) = true := decide_eq_true c2
  clear c2
  obtain rfl := Option.some.inj H
  go_enter Tryd.func63, Tryd.ntmps63
  go_wp2_with (first | ((with_reducible refine gate_dst (N := 1) rfl ?_); refine box_event ?hg (N := 1) ?hd (cs := #[.int .i64 a0_0, .int .u64 a0_1]) (t := 25) ?hr ?_; (case hd => rfl); (case hg => rfl); (case hr => first | (go_simp; done) | (go_simp; rfl)); intro gb101 hg w3 hbox hb; have n0_ := Aside0.mk (below_step (by repeat (first | (with_reducible first | exact HB.out | apply below_alloc | apply pw_below_drewN | apply below_drew1) | exact HB.out)) hb); have n1_ := Aside0.mk (hbox); have n2_ := Aside0.mk ((by rw [hg]; exact (below_size (by repeat (first | (with_reducible first | exact HB.out | apply below_alloc | apply pw_below_drewN | apply below_drew1) | exact HB.out))) : w.heap.size ≤ gb101)); have n3_ := Aside0.mk ((by rw [hg]; exact (below_size (by repeat (first | (with_reducible first | exact HB.out | apply below_alloc | apply pw_below_drewN | apply below_drew1) | exact HB.out))) : w.heap.size ≤ gb101)); clear HB; have HB := n0_; have BK101 := n1_; have GW101 := n2_; have GE101 := n3_; clear n0_ n1_ n2_ n3_; clear hb hbox hg; have hcz4_0 : w3.cell? ⟨gb101, 0, none⟩ = some (.int .i64 a0_0) := (blk_cell BK101.out 0).trans rfl; have hcz4_1 : w3.cell? ⟨gb101, 1, none⟩ = some (.int .u64 a0_1) := (blk_cell BK101.out 1).trans rfl; have hfz4_0 := blk_frozen BK101.out 0; have hfz4_1 := blk_frozen BK101.out 1))
  go_ret
  exact ⟨by first | rfl | (simp [errW_none, errW_some] <;> rfl) | (simp [*, errW_none, errW_some] <;> rfl), by repeat (first | (with_reducible first | exact HB.out | apply below_alloc | apply pw_below_drewN | apply below_drew1 | refine below_set ?_ GE101.out) | exact HB.out)⟩
 ·rw [if_neg c2] at H
  have c2b0 : decide (0 ≤ a0_0) = false := decide_eq_false c2
  clear c2
  obtain rfl := Option.some.inj H
  go_enter Tryd.func63, Tryd.ntmps63
  go_wp2_with (first | ((with_reducible refine gate_dst (N := 1) rfl ?_); refine box_event ?hg (N := 1) ?hd (cs := #[.int .i64 a0_0, .int .u64 a0_1]) (t := 25) ?hr ?_; (case hd => rfl); (case hg => rfl); (case hr => first | (go_simp; done) | (go_simp; rfl)); intro gb101 hg w5 hbox hb; have n0_ := Aside0.mk (below_step (by repeat (first | (with_reducible first | exact HB.out | apply below_alloc | apply pw_below_drewN | apply below_drew1) | exact HB.out)) hb); have n1_ := Aside0.mk (hbox); have n2_ := Aside0.mk ((by rw [hg]; exact (below_size (by repeat (first | (with_reducible first | exact HB.out | apply below_alloc | apply pw_below_drewN | apply below_drew1) | exact HB.out))) : w.heap.size ≤ gb101)); have n3_ := Aside0.mk ((by rw [hg]; exact (below_size (by repeat (first | (with_reducible first | exact HB.out | apply below_alloc | apply pw_below_drewN | apply below_drew1) | exact HB.out))) : w.heap.size ≤ gb101)); clear HB; have HB := n0_; have BK101 := n1_; have GW101 := n2_; have GE101 := n3_; clear n0_ n1_ n2_ n3_; clear hb hbox hg; have hcz6_0 : w5.cell? ⟨gb101, 0, none⟩ = some (.int .i64 a0_0) := (blk_cell BK101.out 0).trans rfl; have hcz6_1 : w5.cell? ⟨gb101, 1, none⟩ = some (.int .u64 a0_1) := (blk_cell BK101.out 1).trans rfl; have hfz6_0 := blk_frozen BK101.out 0; have hfz6_1 := blk_frozen BK101.out 1))
  go_ret
  exact ⟨by first | rfl | (simp [errW_none, errW_some] <;> rfl) | (simp [*, errW_none, errW_some] <;> rfl), by repeat (first | (with_reducible first | exact HB.out | apply below_alloc | apply pw_below_drewN | apply below_drew1 | refine below_set ?_ GE101.out) | exact HB.out)⟩

end Go.Proofs.YtkinepmilnkhmaaDoor.A
end
section
namespace Go.Proofs.YtkinepmilnkhmaaDoor.A
open Go.RowKit Go.Proofs.YtkinepmilnkhmaaDoorW.PrintWords Go.Proofs.YtkinepmilnkhmaaDoorW.PrintLast Go.Proofs.YtkinepmilnkhmaaDoorW.PrintMore
attribute [local go_sem] max2_int min2_int max_two min_two max_three min_three max_four min_four   -- for this text's walks alone
set_option linter.unusedVariables false
set_option linter.unusedSimpArgs false

def text_Name.l0 : Nat → ByteArray → Int → Int → Option (Bool)
 | 0, _, _, _ => none
 | k + 1, x0, x5, x6 => if x6 < x5 then (if 0 ≤ x6 then (if x6 < (x0.size : Int) then (if (bt x0 x6) ≤ 32 then (some false) else (if (bt x0 x6) > 126 then (some false) else (text_Name.l0 k x0 x5 (wrap64 (x6 + 1))))) else (none)) else (none)) else (if x0.toList = ([] : List UInt8) then (some false) else (some (decide ((x0.size : Int) ≤ 64))))
def text_Name.f (k : Nat) (a0 : ByteArray) : Option (Bool) := text_Name.l0 k a0 (a0.size : Int) 0
set_option maxHeartbeats 8000000 in
set_option maxRecDepth 100000 in
theorem text_Name.calls (k : Nat) (a0 : ByteArray) (r : Bool) (w : World) (h : text_Name.f k a0 = some r) :
  Calls Tryd.prog 66 #[.string a0] w fun e w' => e = .returned (.bool r) ∧ Drawn0 w w' := by
 have H : (text_Name.l0 k a0 (a0.size : Int) 0) = some r := h
 clear h
 have H' := Aside0.mk H
 clear H
 go_enter Tryd.func66, Tryd.ntmps66
 go_wp2
 go_loopg [6] k (fun kq v6 w' => ∃ (x6_1 : Int), v6 = .int .i64 x6_1 ∧ Aside0 (text_Name.l0 kq a0 (a0.size : Int) x6_1 = some r) ∧ Aside0 (kq ≤ k) ∧ Drawn0 w w')
 case atStart => exact ⟨(0), (by first | rfl | (simp; done) | (simp [*]; done)), H', ⟨Nat.le_refl _⟩, by repeat (first | exact Drawn0.refl _ | apply Drawn0.step)⟩
 case round =>
  clear H'
  obtain ⟨x6_1, rfl, HA, HK1, ⟨m1, rfl⟩⟩ := hrel
  cases gk with
  | zero => exact absurd HA.out (by simp [text_Name.l0])
  | succ k1 =>
   have H := HA.out
   clear HA
   simp only [text_Name.l0] at H
   by_cases c2 : x6_1 < (a0.size : Int)
   ·rw [if_pos c2] at H
    have c2b0 : decide (x6_1 < (a0.size : Int)) = true := decide_eq_true c2
    clear c2
    by_cases c3 : 0 ≤ x6_1
    ·rw [if_pos c3] at H
     have c3b0 : decide (0 ≤ x6_1) = true := decide_eq_true c3
     clear c3
     by_cases c4 : x6_1 < (a0.size : Int)
     ·rw [if_pos c4] at H
      have c4b0 : decide (x6_1 < (a0.size : Int)) = true := decide_eq_true c4
      clear c4
      by_cases c6 : (bt a0 x6_1) ≤ 32
      ·rw [if_pos c6] at H
       have c6b0 : decide ((bt a0 x6_1) ≤ 32) = true := decide_eq_true c6
       clear c6
       obtain rfl := Option.some.inj H
       have p5 : 0 ≤ (x6_1 : Int) := of_decide_eq_true (by first | (with_reducible assumption) | assumption)
       have q5 : x6_1 < (a0.size : Int) := of_decide_eq_true (by first | (with_reducible assumption) | assumption)
       have hx5 := bt_at a0 x6_1
       replace p5 := eq_true p5
       replace q5 := eq_true q5
       go_wp2
       go_ret
       exact ⟨by first | rfl | (simp; done) | (simp [*]; done), by repeat (first | exact Drawn0.refl _ | apply Drawn0.step)⟩
      ·rw [if_neg c6] at H
       have c6b0 : decide ((bt a0 x6_1) ≤ 32) = false := decide_eq_false c6
       clear c6
       by_cases c8 : (bt a0 x6_1) > 126
       ·rw [if_pos c8] at H
        have c8b0 : decide (126 < (bt a0 x6_1)) = true := decide_eq_true c8
        clear c8
        obtain rfl := Option.some.inj H
        have p5 : 0 ≤ (x6_1 : Int) := of_decide_eq_true (by first | (with_reducible assumption) | assumption)
        have q5 : x6_1 < (a0.size : Int) := of_decide_eq_true (by first | (with_reducible assumption) | assumption)
        have hx5 := bt_at a0 x6_1
        replace p5 := eq_true p5
        replace q5 := eq_true q5
        have p7 : 0 ≤ (x6_1 : Int) := of_decide_eq_true (by first | (with_reducible assumption) | assumption)
        have q7 : x6_1 < (a0.size : Int) := of_decide_eq_true (by first | (with_reducible assumption) | assumption)
        have hx7 := bt_at a0 x6_1
        replace p7 := eq_true p7
        replace q7 := eq_true q7
        go_wp2
        go_ret
        exact ⟨by first | rfl | (simp; done) | (simp [*]; done), by repeat (first | exact Drawn0.refl _ | apply Drawn0.step)⟩
       ·rw [if_neg c8] at H
        have c8b0 : decide (126 < (bt a0 x6_1)) = false := decide_eq_false c8
        clear c8
        have H' := Aside0.mk H
        clear H
        have p5 : 0 ≤ (x6_1 : Int) := of_decide_eq_true (by first | (with_reducible assumption) | assumption)
        have q5 : x6_1 < (a0.size : Int) := of_decide_eq_true (by first | (with_reducible assumption) | assumption)
        have hx5 := bt_at a0 x6_1
        replace p5 := eq_true p5
        replace q5 := eq_true q5
        have p7 : 0 ≤ (x6_1 : Int) := of_decide_eq_true (by first | (with_reducible assumption) | assumption)
        have q7 : x6_1 < (a0.size : Int) := of_decide_eq_true (by first | (with_reducible assumption) | assumption)
        have hx7 := bt_at a0 x6_1
        replace p7 := eq_true p7
        replace q7 := eq_true q7
        go_wp2
        go_roundg k1
        case measure => have := HK1.out; omega
        case rel => exact ⟨(wrap64 (x6_1 + 1)), (by first | rfl | (simp; done) | (simp [*]; done)), H', ⟨by have := HK1.out; omega⟩, by repeat (first | exact Drawn0.refl _ | apply Drawn0.step)⟩
     ·rw [if_neg c4] at H
      exact absurd H (by simp)
    ·rw [if_neg c3] at H
     exact absurd H (by simp)
   ·rw [if_neg c2] at H
    have c2b0 : decide (x6_1 < (a0.size : Int)) = false := decide_eq_false c2
    clear c2
    by_cases c9 : a0.toList = ([] : List UInt8)
    ·rw [if_pos c9] at H
     have c9b0 : (a0.toList == ([] : List UInt8)) = true := beq_iff_eq.mpr c9
     have c9b1 : (a0.toList != ([] : List UInt8)) = false := bne_eq_false_iff_eq.mpr c9
     clear c9
     obtain rfl := Option.some.inj H
     go_wp2
     go_ret
     exact ⟨by first | rfl | (simp; done) | (simp [*]; done), by repeat (first | exact Drawn0.refl _ | apply Drawn0.step)⟩
    ·rw [if_neg c9] at H
     have c9b0 : (a0.toList == ([] : List UInt8)) = false := beq_eq_false_iff_ne.mpr c9
     have c9b1 : (a0.toList != ([] : List UInt8)) = true := bne_iff_ne.mpr c9
     obtain rfl := Option.some.inj H
     go_wp2
     go_ret
     exact ⟨by first | rfl | (simp; done) | (simp [*]; done), by repeat (first | exact Drawn0.refl _ | apply Drawn0.step)⟩

end Go.Proofs.YtkinepmilnkhmaaDoor.A
end
section
namespace Go.Proofs.YtkinepmilnkhmaaDoor.A
open Go.RowKit Go.Proofs.YtkinepmilnkhmaaDoorW.PrintWords Go.Proofs.YtkinepmilnkhmaaDoorW.PrintLast Go.Proofs.YtkinepmilnkhmaaDoorW.PrintMore
attribute [local go_sem] max2_int min2_int max_two min_two max_three min_three max_four min_four   -- for this text's walks alone
set_option linter.unusedVariables false
set_option linter.unusedSimpArgs false

/-- One call of Check$1: is it no name? -/
theorem audit_Check.one (k : Nat) (s : ByteArray) (b : Bool) (w : World) (h : text_Name.f k s = some b) :
  Calls Tryd.prog 65 #[.string s] w fun e w' => e = .returned (.bool (!b)) ∧ Drawn0 w w' := by
 have HC := Aside0.mk (text_Name.calls k s b w h)
 clear h
 go_enter Tryd.func65, Tryd.ntmps65
 go_wp2_with (go_at_call 66; (refine HC.out.mono ?_); rintro e_ w1 ⟨rfl, hd⟩; have HD := Aside0.mk hd; clear hd)
 go_ret
 exact ⟨rfl, HD.out⟩
def audit_Check.idx (k : Nat) : List ByteArray → Nat → Option Int
 | [], _ => some (-1)
 | s :: t, i => (text_Name.f k s).bind fun b => if b = true then audit_Check.idx k t (i + 1) else some (i : Int)
set_option maxHeartbeats 4000000 in
set_option maxRecDepth 100000 in
theorem audit_Check.index (k : Nat) (g c : Nat) (ss : List ByteArray) (r : Int) (w : World) (hc : ∀ (j : Nat) (s : ByteArray), ss[j]? = some s → w.cell? ⟨g, j, none⟩ = some (.string s)) (hcap : ss.length ≤ c) (hl : ss.length ≤ 1000) (h : audit_Check.idx k ss 0 = some r) :
  Calls Tryd.prog 76 #[.slice (some ⟨g, 0, none⟩) ss.length c, .func (.func 65) #[] #[]] w fun e w' => e = .returned (.int .i64 r) ∧ Drawn0 w w' := by
 have HC := Aside0.mk hc
 have HH := Aside0.mk h
 clear hc h
 go_enter Tryd.func76, Tryd.ntmps76
 go_wp2
 go_loopw [8] (fun vi wr => ∃ i : Nat, i ≤ ss.length ∧ vi = .int .i64 (i : Int) ∧ audit_Check.idx k (ss.drop i) i = some r ∧ Drawn0 w wr) (fun vi _ => ss.length - (intOf vi).toNat)
 case atStart => exact ⟨0, Nat.zero_le _, rfl, by rw [List.drop_zero]; exact HH.out, Drawn0.refl _⟩
 case round =>
  obtain ⟨i, hi, rfl, hx, hd⟩ := hrel
  by_cases hlt : i < ss.length
  ·have hlt2 : ((i : Int) < (ss.length : Int)) = True := eq_true (by omega)
   have hlt3 : decide ((i : Int) < (ss.length : Int)) = true := decide_eq_true (by omega)
   have hi0 : (0 ≤ (i : Int)) = True := eq_true (by omega)
   have HW : Aside0 (wrap64 ((i : Int) + 1) = ((i + 1 : Nat) : Int)) := ⟨by unfold wrap64; omega⟩
   rw [List.drop_eq_getElem_cons hlt] at hx
   obtain ⟨b, hb, hx⟩ := Option.bind_eq_some_iff.mp hx
   have hcl := HC.out i (ss[i]) (List.getElem?_eq_getElem hlt)
   obtain ⟨n, rfl⟩ := hd
   have hcl2 : (w.drewN n).cell? ⟨g, i, none⟩ = some (.string ss[i]) := hcl
   have HD : Aside0 (Drawn0 w (w.drewN n)) := ⟨⟨n, rfl⟩⟩
   have HON := Aside0.mk (audit_Check.one k ss[i] b)
   have HB := Aside0.mk hb
   clear hcl hb
   cases b with
   | true =>
    rw [if_pos rfl] at hx
    have HX := Aside0.mk hx
    clear hx
    go_wp2_with (go_at_call 65; (refine (HON.out _ HB.out).mono ?_); rintro e_ w1 ⟨rfl, hd⟩; have HD1 := Aside0.mk hd; clear hd)
    go_roundw
    case rel => exact ⟨i + 1, by omega, by first | rfl | exact congrArg _ HW.out, HX.out, by obtain ⟨m, hm⟩ := HD1.out; exact ⟨⟨n + m, by rw [hm, World.drewN_drewN]⟩⟩⟩
    case measure => first | (rw [HW.out]; simp only [intOf, Int.toNat_natCast]; omega) | (simp only [intOf, Int.toNat_natCast]; omega)
   | false =>
    rw [if_neg (by simp)] at hx
    obtain rfl := Option.some.inj hx
    clear hx
    go_wp2_with (go_at_call 65; (refine (HON.out _ HB.out).mono ?_); rintro e_ w1 ⟨rfl, hd⟩; have HD1 := Aside0.mk hd; clear hd)
    go_ret
    exact ⟨rfl, by obtain ⟨m, hm⟩ := HD1.out; exact ⟨⟨n + m, by rw [hm, World.drewN_drewN]⟩⟩⟩
  ·obtain rfl : i = ss.length := by omega
   have hlt2 : ((ss.length : Int) < (ss.length : Int)) = False := eq_false (by omega)
   have hlt3 : decide ((ss.length : Int) < (ss.length : Int)) = false := decide_eq_false (by omega)
   rw [List.drop_length] at hx
   obtain rfl := Option.some.inj hx
   have HD := Aside0.mk hd
   clear hx hd
   go_wp2
   go_ret
   exact ⟨rfl, HD.out⟩
set_option maxHeartbeats 4000000 in
set_option maxRecDepth 100000 in
theorem audit_Check.contains (k : Nat) (g c : Nat) (ss : List ByteArray) (r : Int) (w : World) (hc : ∀ (j : Nat) (s : ByteArray), ss[j]? = some s → w.cell? ⟨g, j, none⟩ = some (.string s)) (hcap : ss.length ≤ c) (hl : ss.length ≤ 1000) (h : audit_Check.idx k ss 0 = some r) :
  Calls Tryd.prog 64 #[.slice (some ⟨g, 0, none⟩) ss.length c, .func (.func 65) #[] #[]] w fun e w' => e = .returned (.bool (decide (r ≥ 0))) ∧ Drawn0 w w' := by
 have HC := Aside0.mk (audit_Check.index k g c ss r w hc hcap hl h)
 clear hc h
 go_enter Tryd.func64, Tryd.ntmps64
 go_wp2_with (go_at_call 76; (refine HC.out.mono ?_); rintro e_ w1 ⟨rfl, hd⟩; have HD := Aside0.mk hd; clear hd)
 go_ret
 exact ⟨rfl, HD.out⟩
def audit_Check.names (x : S40) : List ByteArray := [x.f0, x.f2, x.f3, x.f4]
theorem audit_Check.contains4 (k g : Nat) (x : S40) (r : Int) (w : World) (hb : w.heap[g]? = some (.cells #[.string x.f0, .string x.f2, .string x.f3, .string x.f4] 101 (0, 0))) (h : audit_Check.idx k (audit_Check.names x) 0 = some r) :
  Calls Tryd.prog 64 #[.slice (some ⟨g, 0, none⟩) 4 4, .func (.func 65) #[] #[]] w fun e w' => e = .returned (.bool (decide (r ≥ 0))) ∧ Drawn0 w w' := by
 refine audit_Check.contains k g 4 (audit_Check.names x) r w (fun j s hs => ?_) (Nat.le_refl _) (by show 4 ≤ 1000; decide) h
 match j, hs with
 | 0, hs => cases hs; exact (blk_cell hb 0).trans rfl
 | 1, hs => cases hs; exact (blk_cell hb 1).trans rfl
 | 2, hs => cases hs; exact (blk_cell hb 2).trans rfl
 | 3, hs => cases hs; exact (blk_cell hb 3).trans rfl
 | j + 4, hs => simp [audit_Check.names] at hs
def audit_Check.f (k : Nat) (x : S40) : Option Int := (label_Right.f x.f1.f0 x.f1.f1).bind fun t => if t = true then (audit_Check.idx k (audit_Check.names x) 0).bind fun r => some (if r ≥ 0 then 2 else 0) else some 2
set_option maxHeartbeats 4000000 in
set_option maxRecDepth 100000 in
theorem audit_Check.calls (k : Nat) (x : S40) (r : Int) (w : World) (h : audit_Check.f k x = some r) :
  Calls Tryd.prog 44 #[.agg #[.string x.f0, .int .i64 x.f1.f0, .int .u64 x.f1.f1, .string x.f2, .string x.f3, .string x.f4]] w fun e w' => e = .returned (.int .i64 r) ∧ Below w.heap.size w w' := by
 unfold audit_Check.f at h
 obtain ⟨t, ht, h⟩ := Option.bind_eq_some_iff.mp h
 have HT := Aside0.mk ht
 have hbox := World.alloc_heap_new w (.cells #[.string x.f0, .int .i64 x.f1.f0, .int .u64 x.f1.f1, .string x.f2, .string x.f3, .string x.f4] 40 (0, 0))
 have hx0 := (blk_cell hbox 0).trans rfl
 have hx1 := (blk_cell hbox 1).trans rfl
 have hx2 := (blk_cell hbox 2).trans rfl
 have hx3 := (blk_cell hbox 3).trans rfl
 have hx4 := (blk_cell hbox 4).trans rfl
 have hx5 := (blk_cell hbox 5).trans rfl
 clear ht hbox
 obtain ⟨w2, hw2⟩ : ∃ w2 : World, w2 = (w.alloc (.cells #[.string x.f0, .int .i64 x.f1.f0, .int .u64 x.f1.f1, .string x.f2, .string x.f3, .string x.f4] 40 (0, 0))).alloc (.cells #[.string x.f0, .string x.f2, .string x.f3, .string x.f4] 101 (0, 0)) := ⟨_, rfl⟩
 have HB2 : Aside0 (Below w.heap.size w w2) := ⟨by rw [hw2]; exact ((Below.refl w.heap.size w).alloc (Nat.le_refl _) _).alloc (by rw [World.size_alloc]; omega) _⟩
 have HN2 : Aside0 (w2.heap[w.heap.size + 1]? = some (.cells #[.string x.f0, .string x.f2, .string x.f3, .string x.f4] 101 (0, 0))) := ⟨by
  have := World.alloc_heap_new (w.alloc (.cells #[.string x.f0, .int .i64 x.f1.f0, .int .u64 x.f1.f1, .string x.f2, .string x.f3, .string x.f4] 40 (0, 0))) (.cells #[.string x.f0, .string x.f2, .string x.f3, .string x.f4] 101 (0, 0))
  rw [World.size_alloc] at this
  rw [hw2]
  exact this⟩
 have HW2 := Aside0.mk hw2
 clear hw2
 cases t with
 | false =>
  rw [if_neg (by simp)] at h
  obtain rfl := Option.some.inj h
  clear h
  go_enter Tryd.func44, Tryd.ntmps44
  go_wp2_with (go_at_call 63; rw [← HW2.out]; (refine (label_Right.calls _ _ false _ HT.out).mono ?_); rintro e_ w1 ⟨rfl, hd⟩; have HD := Aside0.mk hd; clear hd)
  go_ret
  exact ⟨rfl, HB2.out.trans (HD.out.mono HB2.out.size)⟩
 | true =>
  rw [if_pos rfl] at h
  obtain ⟨q, hq, h⟩ := Option.bind_eq_some_iff.mp h
  obtain rfl := Option.some.inj h
  have HQ := Aside0.mk hq
  clear h hq
  go_enter Tryd.func44, Tryd.ntmps44
  go_wp2_with (first | (go_at_call 63; rw [← HW2.out]; (refine (label_Right.calls _ _ true _ HT.out).mono ?_); rintro e_ w1 ⟨rfl, hd⟩; have HN1 := Aside0.mk ((hd.block _ (Array.getElem?_eq_some_iff.1 HN2.out).1).trans HN2.out); have HD := Aside0.mk (HB2.out.trans (hd.mono HB2.out.size)); clear hd) | (go_at_call 64; (refine (audit_Check.contains4 k (w.heap.size + 1) x q _ HN1.out HQ.out).mono ?_); rintro e_ w3 ⟨rfl, hd⟩; have HD3 := Aside0.mk (HD.out.trans (hd.below.mono HD.out.size)); clear hd))
  all_goals
   go_ret
   exact ⟨rfl, HD3.out⟩


end Go.Proofs.YtkinepmilnkhmaaDoor.A
end
section
namespace Go.Proofs.YtkinepmilnkhmaaDoor.A
open Go.RowKit Go.Proofs.YtkinepmilnkhmaaDoorW.PrintWords Go.Proofs.YtkinepmilnkhmaaDoorW.PrintLast Go.Proofs.YtkinepmilnkhmaaDoorW.PrintMore
attribute [local go_sem] max2_int min2_int max_two min_two max_three min_three max_four min_four   -- for this text's walks alone
set_option linter.unusedVariables false
set_option linter.unusedSimpArgs false

def jalousieref02_Right.f (a0_0 : Int) (a0_1 : Int) : Option (Bool) := if a0_0 ≥ 0 then (some (decide (a0_0 < 16))) else (some false)
set_option maxHeartbeats 8000000 in
set_option maxRecDepth 100000 in
theorem jalousieref02_Right.calls (a0_0 : Int) (a0_1 : Int) (r : Bool) (w : World) (h : jalousieref02_Right.f a0_0 a0_1 = some r) :
  Calls Tryd.prog 67 #[.agg #[.int .i64 a0_0, .int .u64 a0_1]] w fun e w' => e = .returned (.bool r) ∧ Below w.heap.size w w' := by
 have hu25 := Tryd.underlying25
 have HB := Aside0.mk (Below.refl w.heap.size w)
 have H : (if a0_0 ≥ 0 then (some (decide (a0_0 < 16))) else (some false)) = some r := h
 clear h
 by_cases c2 : a0_0 ≥ 0
 ·rw [if_pos c2] at H
  have c2b0 : decide (0 ≤ a0_0) = true := decide_eq_true c2
  clear c2
  obtain rfl := Option.some.inj H
  go_enter Tryd.func67, Tryd.ntmps67
  go_wp2_with (first | ((with_reducible refine gate_dst (N := 1) rfl ?_); refine box_event ?hg (N := 1) ?hd (cs := #[.int .i64 a0_0, .int .u64 a0_1]) (t := 25) ?hr ?_; (case hd => rfl); (case hg => rfl); (case hr => first | (go_simp; done) | (go_simp; rfl)); intro gb102 hg w3 hbox hb; have n0_ := Aside0.mk (below_step (by repeat (first | (with_reducible first | exact HB.out | apply below_alloc | apply pw_below_drewN | apply below_drew1) | exact HB.out)) hb); have n1_ := Aside0.mk (hbox); have n2_ := Aside0.mk ((by rw [hg]; exact (below_size (by repeat (first | (with_reducible first | exact HB.out | apply below_alloc | apply pw_below_drewN | apply below_drew1) | exact HB.out))) : w.heap.size ≤ gb102)); have n3_ := Aside0.mk ((by rw [hg]; exact (below_size (by repeat (first | (with_reducible first | exact HB.out | apply below_alloc | apply pw_below_drewN | apply below_drew1) | exact HB.out))) : w.heap.size ≤ gb102)); clear HB; have HB := n0_; have BK102 := n1_; have GW102 := n2_; have GE102 := n3_; clear n0_ n1_ n2_ n3_; clear hb hbox hg; have hcz4_0 : w3.cell? ⟨gb102, 0, none⟩ = some (.int .i64 a0_0) := (blk_cell BK102.out 0).trans rfl; have hcz4_1 : w3.cell? ⟨gb102, 1, none⟩ = some (.int .u64 a0_1) := (blk_cell BK102.out 1).trans rfl; have hfz4_0 := blk_frozen BK102.out 0; have hfz4_1 := blk_frozen BK102.out 1))
  go_ret
  exact ⟨by first | rfl | (simp [errW_none, errW_some] <;> rfl) | (simp [*, errW_none, errW_some] <;> rfl), by repeat (first | (with_reducible first | exact HB.out | apply below_alloc | apply pw_below_drewN | apply below_drew1 | refine below_set ?_ GE102.out) | exact HB.out)⟩
 ·rw [if_neg c2] at H
  have c2b0 : decide (0 ≤ a0_0) = false := decide_eq_false c2
  clear c2
  obtain rfl := Option.some.inj H
  go_enter Tryd.func67, Tryd.ntmps67
  go_wp2_with (first | ((with_reducible refine gate_dst (N := 1) rfl ?_); refine box_event ?hg (N := 1) ?hd (cs := #[.int .i64 a0_0, .int .u64 a0_1]) (t := 25) ?hr ?_; (case hd => rfl); (case hg => rfl); (case hr => first | (go_simp; done) | (go_simp; rfl)); intro gb102 hg w5 hbox hb; have n0_ := Aside0.mk (below_step (by repeat (first | (with_reducible first | exact HB.out | apply below_alloc | apply pw_below_drewN | apply below_drew1) | exact HB.out)) hb); have n1_ := Aside0.mk (hbox); have n2_ := Aside0.mk ((by rw [hg]; exact (below_size (by repeat (first | (with_reducible first | exact HB.out | apply below_alloc | apply pw_below_drewN | apply below_drew1) | exact HB.out))) : w.heap.size ≤ gb102)); have n3_ := Aside0.mk ((by rw [hg]; exact (below_size (by repeat (first | (with_reducible first | exact HB.out | apply below_alloc | apply pw_below_drewN | apply below_drew1) | exact HB.out))) : w.heap.size ≤ gb102)); clear HB; have HB := n0_; have BK102 := n1_; have GW102 := n2_; have GE102 := n3_; clear n0_ n1_ n2_ n3_; clear hb hbox hg; have hcz6_0 : w5.cell? ⟨gb102, 0, none⟩ = some (.int .i64 a0_0) := (blk_cell BK102.out 0).trans rfl; have hcz6_1 : w5.cell? ⟨gb102, 1, none⟩ = some (.int .u64 a0_1) := (blk_cell BK102.out 1).trans rfl; have hfz6_0 := blk_frozen BK102.out 0; have hfz6_1 := blk_frozen BK102.out 1))
  go_ret
  exact ⟨by first | rfl | (simp [errW_none, errW_some] <;> rfl) | (simp [*, errW_none, errW_some] <;> rfl), by repeat (first | (with_reducible first | exact HB.out | apply below_alloc | apply pw_below_drewN | apply below_drew1 | refine below_set ?_ GE102.out) | exact HB.out)⟩

end Go.Proofs.YtkinepmilnkhmaaDoor.A
end
section
namespace Go.Proofs.YtkinepmilnkhmaaDoor.A
open Go.RowKit Go.Proofs.YtkinepmilnkhmaaDoorW.PrintWords Go.Proofs.YtkinepmilnkhmaaDoorW.PrintLast Go.Proofs.YtkinepmilnkhmaaDoorW.PrintMore
attribute [local go_sem] max2_int min2_int max_two min_two max_three min_three max_four min_four   -- for this text's walks alone
set_option linter.unusedVariables false
set_option linter.unusedSimpArgs false

mutual
def jalousieref01_Name.j0 : Nat → ByteArray → Bool → Option (Bool)
 | 0, _, _ => none
 | k + 1, x0, x11 => if x11 = true then (some false) else (jalousieref01_Name.l0 k x0 0)
def jalousieref01_Name.l0 : Nat → ByteArray → Int → Option (Bool)
 | 0, _, _ => none
 | k + 1, x0, x3 => if x3 < (x0.size : Int) then (if 0 ≤ x3 then (if (bt x0 x3) < 33 then (some false) else (if (bt x0 x3) > 126 then (some false) else (jalousieref01_Name.l0 k x0 (wrap64 (x3 + 1))))) else (none)) else (some true)
end
def jalousieref01_Name.f (k : Nat) (a0 : ByteArray) : Option (Bool) := if (a0.size : Int) < 1 then (jalousieref01_Name.j0 k a0 true) else (jalousieref01_Name.j0 k a0 (decide ((a0.size : Int) > 64)))
set_option maxHeartbeats 8000000 in
set_option maxRecDepth 100000 in
theorem jalousieref01_Name.calls (k : Nat) (a0 : ByteArray) (r : Bool) (w : World) (h : jalousieref01_Name.f k a0 = some r) :
  Calls Tryd.prog 68 #[.string a0] w fun e w' => e = .returned (.bool r) ∧ Drawn0 w w' := by
 have H : (if (a0.size : Int) < 1 then (jalousieref01_Name.j0 k a0 true) else (jalousieref01_Name.j0 k a0 (decide ((a0.size : Int) > 64)))) = some r := h
 clear h
 have HC2 := Aside0.mk H
 clear H
 go_enter Tryd.func68, Tryd.ntmps68
 go_upto_region 1 with (fail)
 go_cut [11] (fun v11 wc => ∃ (kq : Nat) (x11_1 : Bool), v11 = .bool x11_1 ∧ Aside0 (jalousieref01_Name.j0 kq a0 x11_1 = some r) ∧ Aside0 (kq ≤ k) ∧ Drawn0 w wc)
 case first =>
  have H := HC2.out
  clear HC2
  by_cases c3 : (a0.size : Int) < 1
  ·rw [if_pos c3] at H
   have c3b0 : decide ((a0.size : Int) < 1) = true := decide_eq_true c3
   have c3b1 : decide (a0.size < 1) = true := decide_eq_true (by omega)
   clear c3
   (first | rw [c3b0] | (simp only [i64_w, i32_w]; rw [c3b0]) | skip)
   have H' := Aside0.mk H
   clear H
   go_wp2
   go_meet
   case rel => exact ⟨_, (true), (by first | rfl | (simp; done) | (simp [*]; done)), H', ⟨by first | omega | exact Nat.le_refl _⟩, by repeat (first | exact Drawn0.refl _ | apply Drawn0.step)⟩
  ·rw [if_neg c3] at H
   have c3b0 : decide ((a0.size : Int) < 1) = false := decide_eq_false c3
   have c3b1 : decide (a0.size < 1) = false := decide_eq_false (by omega)
   clear c3
   (first | rw [c3b0] | (simp only [i64_w, i32_w]; rw [c3b0]) | skip)
   have H' := Aside0.mk H
   clear H
   go_wp2
   go_meet
   case rel => exact ⟨_, (decide ((a0.size : Int) > 64)), (by first | rfl | (simp; done) | (simp [*]; done)), H', ⟨by first | omega | exact Nat.le_refl _⟩, by repeat (first | exact Drawn0.refl _ | apply Drawn0.step)⟩
 case rest =>
  clear HC2
  try clear p2
  try clear c3
  try clear c3b0
  try clear c3b1
  obtain ⟨kq, x11_1, rfl, HA, HJ1, ⟨mc1, rfl⟩⟩ := hcut
  cases kq with
  | zero => exact absurd HA.out (by simp [jalousieref01_Name.j0])
  | succ kj1 =>
   have H := HA.out
   clear HA
   simp only [jalousieref01_Name.j0] at H
   by_cases c4 : x11_1 = true
   ·subst c4
    have H1 : (some false) = some r := by rw [if_pos rfl] at H; exact H
    clear H
    have H := H1
    clear H1
    obtain rfl := Option.some.inj H
    go_wp2
    go_ret
    exact ⟨by first | rfl | (simp; done) | (simp [*]; done), by repeat (first | exact Drawn0.refl _ | apply Drawn0.step)⟩
   ·replace c4 := Bool.eq_false_iff.mpr c4
    subst c4
    have H1 : (jalousieref01_Name.l0 kj1 a0 0) = some r := by rw [if_neg (show ¬ (false = true) by decide)] at H; exact H
    clear H
    have H := H1
    clear H1
    have H' := Aside0.mk H
    clear H
    go_wp2
    go_loopg [3] kj1 (fun kq v3 w' => ∃ (x3_2 : Int), v3 = .int .i64 x3_2 ∧ Aside0 (jalousieref01_Name.l0 kq a0 x3_2 = some r) ∧ Aside0 (kq ≤ kj1) ∧ Drawn0 w w')
    case atStart => exact ⟨(0), (by first | rfl | (simp; done) | (simp [*]; done)), H', ⟨Nat.le_refl _⟩, by repeat (first | exact Drawn0.refl _ | apply Drawn0.step)⟩
    case round =>
     clear H'
     try clear c1
     try clear p2
     try clear c3
     try clear c3b0
     try clear c3b1
     try clear c4
     try clear p2
     obtain ⟨x3_2, rfl, HA, HK2, ⟨m2, rfl⟩⟩ := hrel
     cases gk with
     | zero => exact absurd HA.out (by simp [jalousieref01_Name.l0])
     | succ k2 =>
      have H := HA.out
      clear HA
      simp only [jalousieref01_Name.l0] at H
      by_cases c5 : x3_2 < (a0.size : Int)
      ·rw [if_pos c5] at H
       have c5b0 : decide (x3_2 < (a0.size : Int)) = true := decide_eq_true c5
       clear c5
       by_cases c6 : 0 ≤ x3_2
       ·rw [if_pos c6] at H
        have c6b0 : decide (0 ≤ x3_2) = true := decide_eq_true c6
        clear c6
        by_cases c8 : (bt a0 x3_2) < 33
        ·rw [if_pos c8] at H
         have c8b0 : decide ((bt a0 x3_2) < 33) = true := decide_eq_true c8
         clear c8
         obtain rfl := Option.some.inj H
         have p7 : 0 ≤ (x3_2 : Int) := of_decide_eq_true (by first | (with_reducible assumption) | assumption)
         have q7 : x3_2 < (a0.size : Int) := of_decide_eq_true (by first | (with_reducible assumption) | assumption)
         have hx7 := bt_at a0 x3_2
         replace p7 := eq_true p7
         replace q7 := eq_true q7
         go_wp2
         go_ret
         exact ⟨by first | rfl | (simp; done) | (simp [*]; done), by repeat (first | exact Drawn0.refl _ | apply Drawn0.step)⟩
        ·rw [if_neg c8] at H
         have c8b0 : decide ((bt a0 x3_2) < 33) = false := decide_eq_false c8
         clear c8
         by_cases c10 : (bt a0 x3_2) > 126
         ·rw [if_pos c10] at H
          have c10b0 : decide (126 < (bt a0 x3_2)) = true := decide_eq_true c10
          clear c10
          obtain rfl := Option.some.inj H
          have p7 : 0 ≤ (x3_2 : Int) := of_decide_eq_true (by first | (with_reducible assumption) | assumption)
          have q7 : x3_2 < (a0.size : Int) := of_decide_eq_true (by first | (with_reducible assumption) | assumption)
          have hx7 := bt_at a0 x3_2
          replace p7 := eq_true p7
          replace q7 := eq_true q7
          have p9 : 0 ≤ (x3_2 : Int) := of_decide_eq_true (by first | (with_reducible assumption) | assumption)
          have q9 : x3_2 < (a0.size : Int) := of_decide_eq_true (by first | (with_reducible assumption) | assumption)
          have hx9 := bt_at a0 x3_2
          replace p9 := eq_true p9
          replace q9 := eq_true q9
          go_wp2
          go_ret
          exact ⟨by first | rfl | (simp; done) | (simp [*]; done), by repeat (first | exact Drawn0.refl _ | apply Drawn0.step)⟩
         ·rw [if_neg c10] at H
          have c10b0 : decide (126 < (bt a0 x3_2)) = false := decide_eq_false c10
          clear c10
          have H' := Aside0.mk H
          clear H
          have p7 : 0 ≤ (x3_2 : Int) := of_decide_eq_true (by first | (with_reducible assumption) | assumption)
          have q7 : x3_2 < (a0.size : Int) := of_decide_eq_true (by first | (with_reducible assumption) | assumption)
          have hx7 := bt_at a0 x3_2
          replace p7 := eq_true p7
          replace q7 := eq_true q7
          have p9 : 0 ≤ (x3_2 : Int) := of_decide_eq_true (by first | (with_reducible assumption) | assumption)
          have q9 : x3_2 < (a0.size : Int) := of_decide_eq_true (by first | (with_reducible assumption) | assumption)
          have hx9 := bt_at a0 x3_2
          replace p9 := eq_true p9
          replace q9 := eq_true q9
          go_wp2
          go_roundg k2
          case measure => have := HJ1.out; have := HK2.out; omega
          case rel => exact ⟨(wrap64 (x3_2 + 1)), (by first | rfl | (simp; done) | (simp [*]; done)), H', ⟨by have := HJ1.out; have := HK2.out; omega⟩, by repeat (first | exact Drawn0.refl _ | apply Drawn0.step)⟩
       ·rw [if_neg c6] at H
        exact absurd H (by simp)
      ·rw [if_neg c5] at H
       have c5b0 : decide (x3_2 < (a0.size : Int)) = false := decide_eq_false c5
       clear c5
       obtain rfl := Option.some.inj H
       go_wp2
       go_ret
       exact ⟨by first | rfl | (simp; done) | (simp [*]; done), by repeat (first | exact Drawn0.refl _ | apply Drawn0.step)⟩

end Go.Proofs.YtkinepmilnkhmaaDoor.A
end
section
namespace Go.Proofs.YtkinepmilnkhmaaDoor.A
open Go.RowKit Go.Proofs.YtkinepmilnkhmaaDoorW.PrintWords Go.Proofs.YtkinepmilnkhmaaDoorW.PrintLast Go.Proofs.YtkinepmilnkhmaaDoorW.PrintMore
attribute [local go_sem] max2_int min2_int max_two min_two max_three min_three max_four min_four   -- for this text's walks alone
set_option linter.unusedVariables false
set_option linter.unusedSimpArgs false

def jalousieref20_Check.f (k : Nat) (a0_0 : ByteArray) (a0_1 : Int) (a0_2 : Int) (a0_3 : ByteArray) (a0_4 : ByteArray) (a0_5 : ByteArray) : Option (Int) := (jalousieref02_Right.f a0_1 a0_2).bind fun t104 => (if t104 = true then ((jalousieref01_Name.f k a0_0).bind fun t105 => (if t105 = true then ((jalousieref01_Name.f k a0_3).bind fun t106 => (if t106 = true then ((jalousieref01_Name.f k a0_4).bind fun t107 => (if t107 = true then ((jalousieref01_Name.f k a0_5).bind fun t108 => (if t108 = true then (some 0) else (some 2))) else (some 2))) else (some 2))) else (some 2))) else (some 2))
set_option maxHeartbeats 8000000 in
set_option maxRecDepth 100000 in
theorem jalousieref20_Check.calls (k : Nat) (a0_0 : ByteArray) (a0_1 : Int) (a0_2 : Int) (a0_3 : ByteArray) (a0_4 : ByteArray) (a0_5 : ByteArray) (r : Int) (w : World) (h : jalousieref20_Check.f k a0_0 a0_1 a0_2 a0_3 a0_4 a0_5 = some r) :
  Calls Tryd.prog 45 #[.agg #[.string a0_0, .int .i64 a0_1, .int .u64 a0_2, .string a0_3, .string a0_4, .string a0_5]] w fun e w' => e = .returned (.int .i64 r) ∧ Below w.heap.size w w' := by
 have hu40 := Tryd.underlying40
 have hu25 := Tryd.underlying25
 have HB := Aside0.mk (Below.refl w.heap.size w)
 have H : ((jalousieref02_Right.f a0_1 a0_2).bind fun t104 => (if t104 = true then ((jalousieref01_Name.f k a0_0).bind fun t105 => (if t105 = true then ((jalousieref01_Name.f k a0_3).bind fun t106 => (if t106 = true then ((jalousieref01_Name.f k a0_4).bind fun t107 => (if t107 = true then ((jalousieref01_Name.f k a0_5).bind fun t108 => (if t108 = true then (some 0) else (some 2))) else (some 2))) else (some 2))) else (some 2))) else (some 2))) = some r := h
 clear h
 replace H := Option.bind_eq_some_iff.mp H
 obtain ⟨t104, A20, H⟩ := H
 replace H : (if t104 = true then ((jalousieref01_Name.f k a0_0).bind fun t105 => (if t105 = true then ((jalousieref01_Name.f k a0_3).bind fun t106 => (if t106 = true then ((jalousieref01_Name.f k a0_4).bind fun t107 => (if t107 = true then ((jalousieref01_Name.f k a0_5).bind fun t108 => (if t108 = true then (some 0) else (some 2))) else (some 2))) else (some 2))) else (some 2))) else (some 2)) = some r := H
 have A2 := Aside0.mk A20
 clear A20
 by_cases c3 : t104 = true
 ·subst c3
  have H1 : ((jalousieref01_Name.f k a0_0).bind fun t105 => (if t105 = true then ((jalousieref01_Name.f k a0_3).bind fun t106 => (if t106 = true then ((jalousieref01_Name.f k a0_4).bind fun t107 => (if t107 = true then ((jalousieref01_Name.f k a0_5).bind fun t108 => (if t108 = true then (some 0) else (some 2))) else (some 2))) else (some 2))) else (some 2))) = some r := by rw [if_pos rfl] at H; exact H
  clear H
  have H := H1
  clear H1
  replace H := Option.bind_eq_some_iff.mp H
  obtain ⟨t105, A40, H⟩ := H
  replace H : (if t105 = true then ((jalousieref01_Name.f k a0_3).bind fun t106 => (if t106 = true then ((jalousieref01_Name.f k a0_4).bind fun t107 => (if t107 = true then ((jalousieref01_Name.f k a0_5).bind fun t108 => (if t108 = true then (some 0) else (some 2))) else (some 2))) else (some 2))) else (some 2)) = some r := H
  have A4 := Aside0.mk A40
  clear A40
  by_cases c5 : t105 = true
  ·subst c5
   have H1 : ((jalousieref01_Name.f k a0_3).bind fun t106 => (if t106 = true then ((jalousieref01_Name.f k a0_4).bind fun t107 => (if t107 = true then ((jalousieref01_Name.f k a0_5).bind fun t108 => (if t108 = true then (some 0) else (some 2))) else (some 2))) else (some 2))) = some r := by rw [if_pos rfl] at H; exact H
   clear H
   have H := H1
   clear H1
   replace H := Option.bind_eq_some_iff.mp H
   obtain ⟨t106, A60, H⟩ := H
   replace H : (if t106 = true then ((jalousieref01_Name.f k a0_4).bind fun t107 => (if t107 = true then ((jalousieref01_Name.f k a0_5).bind fun t108 => (if t108 = true then (some 0) else (some 2))) else (some 2))) else (some 2)) = some r := H
   have A6 := Aside0.mk A60
   clear A60
   by_cases c7 : t106 = true
   ·subst c7
    have H1 : ((jalousieref01_Name.f k a0_4).bind fun t107 => (if t107 = true then ((jalousieref01_Name.f k a0_5).bind fun t108 => (if t108 = true then (some 0) else (some 2))) else (some 2))) = some r := by rw [if_pos rfl] at H; exact H
    clear H
    have H := H1
    clear H1
    replace H := Option.bind_eq_some_iff.mp H
    obtain ⟨t107, A80, H⟩ := H
    replace H : (if t107 = true then ((jalousieref01_Name.f k a0_5).bind fun t108 => (if t108 = true then (some 0) else (some 2))) else (some 2)) = some r := H
    have A8 := Aside0.mk A80
    clear A80
    by_cases c9 : t107 = true
    ·subst c9
     have H1 : ((jalousieref01_Name.f k a0_5).bind fun t108 => (if t108 = true then (some 0) else (some 2))) = some r := by rw [if_pos rfl] at H; exact H
     clear H
     have H := H1
     clear H1
     replace H := Option.bind_eq_some_iff.mp H
     obtain ⟨t108, A100, H⟩ := H
     replace H : (if t108 = true then (some 0) else (some 2)) = some r := H
     have A10 := Aside0.mk A100
     clear A100
     by_cases c11 : t108 = true
     ·subst c11
      have H1 : (some 0) = some r := by rw [if_pos rfl] at H; exact H
      clear H
      have H := H1
      clear H1
      obtain rfl := Option.some.inj H
      go_enter Tryd.func45, Tryd.ntmps45
      go_wp2_with (first | ((with_reducible refine gate_dst (N := 1) rfl ?_); refine box_event ?hg (N := 1) ?hd (cs := #[.string a0_0, .int .i64 a0_1, .int .u64 a0_2, .string a0_3, .string a0_4, .string a0_5]) (t := 40) ?hr ?_; (case hd => rfl); (case hg => rfl); (case hr => first | (go_simp; done) | (go_simp; rfl)); intro gb103 hg w12 hbox hb; have n0_ := Aside0.mk (below_step (by repeat (first | (with_reducible first | exact HB.out | apply below_alloc | apply pw_below_drewN | apply below_drew1) | exact HB.out)) hb); have n1_ := Aside0.mk (hbox); have n2_ := Aside0.mk ((by rw [hg]; exact (below_size (by repeat (first | (with_reducible first | exact HB.out | apply below_alloc | apply pw_below_drewN | apply below_drew1) | exact HB.out))) : w.heap.size ≤ gb103)); have n3_ := Aside0.mk ((by rw [hg]; exact (below_size (by repeat (first | (with_reducible first | exact HB.out | apply below_alloc | apply pw_below_drewN | apply below_drew1) | exact HB.out))) : w.heap.size ≤ gb103)); clear HB; have HB := n0_; have BK103 := n1_; have GW103 := n2_; have GE103 := n3_; clear n0_ n1_ n2_ n3_; clear hb hbox hg; have hcz13_0 : w12.cell? ⟨gb103, 0, none⟩ = some (.string a0_0) := (blk_cell BK103.out 0).trans rfl; have hcz13_1 : w12.cell? ⟨gb103, 1, none⟩ = some (.int .i64 a0_1) := (blk_cell BK103.out 1).trans rfl; have hcz13_2 : w12.cell? ⟨gb103, 2, none⟩ = some (.int .u64 a0_2) := (blk_cell BK103.out 2).trans rfl; have hcz13_3 : w12.cell? ⟨gb103, 3, none⟩ = some (.string a0_3) := (blk_cell BK103.out 3).trans rfl; have hcz13_4 : w12.cell? ⟨gb103, 4, none⟩ = some (.string a0_4) := (blk_cell BK103.out 4).trans rfl; have hcz13_5 : w12.cell? ⟨gb103, 5, none⟩ = some (.string a0_5) := (blk_cell BK103.out 5).trans rfl; have hfz13_0 := blk_frozen BK103.out 0; have hfz13_1 := blk_frozen BK103.out 1; have hfz13_2 := blk_frozen BK103.out 2; have hfz13_3 := blk_frozen BK103.out 3; have hfz13_4 := blk_frozen BK103.out 4; have hfz13_5 := blk_frozen BK103.out 5) | ((with_reducible refine gate_callee (f := 67) rfl ?_); refine goesL_ (some 5) rfl rfl Tryd.func67 (by kernel_rfl) rfl #[.agg #[.int .i64 a0_1, .int .u64 a0_2]] rfl (by (try simp only [List.map_toArray, List.map_cons, List.map_nil]); first | done | rfl | (simp only [List.length_drop, List.length_take]; rfl)) ?_; (with_reducible refine (jalousieref02_Right.calls a0_1 a0_2 true _ A2.out).mono ?_); rintro e w14 ⟨rfl, hb⟩; refine ⟨_, rfl, ?_⟩; have n0_ := Aside0.mk (blk_below (g := gb103) (o := .cells #[.string a0_0, .int .i64 a0_1, .int .u64 a0_2, .string a0_3, .string a0_4, .string a0_5] 40 (0, 0)) (by (with_reducible repeat first|refine zb1 ?_ _|refine zb2 ?_|refine zb3 ?_ _); exact BK103.out) hb); have n1_ := Aside0.mk (below_step (by repeat (first | (with_reducible first | exact HB.out | apply below_alloc | apply pw_below_drewN | apply below_drew1 | refine below_set ?_ GE103.out) | exact HB.out)) hb); clear BK103; clear HB; have BK103 := n0_; have HB := n1_; clear n0_ n1_; (try clear hb); (try clear hb2); (try clear hk); (try clear hi); have hcz15_0 : w14.cell? ⟨gb103, 0, none⟩ = some (.string a0_0) := (blk_cell BK103.out 0).trans rfl; have hcz15_1 : w14.cell? ⟨gb103, 1, none⟩ = some (.int .i64 a0_1) := (blk_cell BK103.out 1).trans rfl; have hcz15_2 : w14.cell? ⟨gb103, 2, none⟩ = some (.int .u64 a0_2) := (blk_cell BK103.out 2).trans rfl; have hcz15_3 : w14.cell? ⟨gb103, 3, none⟩ = some (.string a0_3) := (blk_cell BK103.out 3).trans rfl; have hcz15_4 : w14.cell? ⟨gb103, 4, none⟩ = some (.string a0_4) := (blk_cell BK103.out 4).trans rfl; have hcz15_5 : w14.cell? ⟨gb103, 5, none⟩ = some (.string a0_5) := (blk_cell BK103.out 5).trans rfl; have hfz15_0 := blk_frozen BK103.out 0; have hfz15_1 := blk_frozen BK103.out 1; have hfz15_2 := blk_frozen BK103.out 2; have hfz15_3 := blk_frozen BK103.out 3; have hfz15_4 := blk_frozen BK103.out 4; have hfz15_5 := blk_frozen BK103.out 5) | (go_at_call 68; (with_reducible refine (jalousieref01_Name.calls k a0_0 true _ A4.out).mono ?_); rintro e w' ⟨rfl, ⟨nd, rfl⟩⟩) | (go_at_call 68; (with_reducible refine (jalousieref01_Name.calls k a0_3 true _ A6.out).mono ?_); rintro e w' ⟨rfl, ⟨nd, rfl⟩⟩) | (go_at_call 68; (with_reducible refine (jalousieref01_Name.calls k a0_4 true _ A8.out).mono ?_); rintro e w' ⟨rfl, ⟨nd, rfl⟩⟩) | (go_at_call 68; (with_reducible refine (jalousieref01_Name.calls k a0_5 true _ A10.out).mono ?_); rintro e w' ⟨rfl, ⟨nd, rfl⟩⟩))
      go_ret
      exact ⟨by first | rfl | (simp [errW_none, errW_some] <;> rfl) | (simp [*, errW_none, errW_some] <;> rfl), by repeat (first | (with_reducible first | exact HB.out | apply below_alloc | apply pw_below_drewN | apply below_drew1 | refine below_set ?_ GE103.out) | exact HB.out)⟩
     ·replace c11 := Bool.eq_false_iff.mpr c11
      subst c11
      have H1 : (some 2) = some r := by rw [if_neg (show ¬ (false = true) by decide)] at H; exact H
      clear H
      have H := H1
      clear H1
      obtain rfl := Option.some.inj H
      go_enter Tryd.func45, Tryd.ntmps45
      go_wp2_with (first | ((with_reducible refine gate_dst (N := 1) rfl ?_); refine box_event ?hg (N := 1) ?hd (cs := #[.string a0_0, .int .i64 a0_1, .int .u64 a0_2, .string a0_3, .string a0_4, .string a0_5]) (t := 40) ?hr ?_; (case hd => rfl); (case hg => rfl); (case hr => first | (go_simp; done) | (go_simp; rfl)); intro gb103 hg w16 hbox hb; have n0_ := Aside0.mk (below_step (by repeat (first | (with_reducible first | exact HB.out | apply below_alloc | apply pw_below_drewN | apply below_drew1) | exact HB.out)) hb); have n1_ := Aside0.mk (hbox); have n2_ := Aside0.mk ((by rw [hg]; exact (below_size (by repeat (first | (with_reducible first | exact HB.out | apply below_alloc | apply pw_below_drewN | apply below_drew1) | exact HB.out))) : w.heap.size ≤ gb103)); have n3_ := Aside0.mk ((by rw [hg]; exact (below_size (by repeat (first | (with_reducible first | exact HB.out | apply below_alloc | apply pw_below_drewN | apply below_drew1) | exact HB.out))) : w.heap.size ≤ gb103)); clear HB; have HB := n0_; have BK103 := n1_; have GW103 := n2_; have GE103 := n3_; clear n0_ n1_ n2_ n3_; clear hb hbox hg; have hcz17_0 : w16.cell? ⟨gb103, 0, none⟩ = some (.string a0_0) := (blk_cell BK103.out 0).trans rfl; have hcz17_1 : w16.cell? ⟨gb103, 1, none⟩ = some (.int .i64 a0_1) := (blk_cell BK103.out 1).trans rfl; have hcz17_2 : w16.cell? ⟨gb103, 2, none⟩ = some (.int .u64 a0_2) := (blk_cell BK103.out 2).trans rfl; have hcz17_3 : w16.cell? ⟨gb103, 3, none⟩ = some (.string a0_3) := (blk_cell BK103.out 3).trans rfl; have hcz17_4 : w16.cell? ⟨gb103, 4, none⟩ = some (.string a0_4) := (blk_cell BK103.out 4).trans rfl; have hcz17_5 : w16.cell? ⟨gb103, 5, none⟩ = some (.string a0_5) := (blk_cell BK103.out 5).trans rfl; have hfz17_0 := blk_frozen BK103.out 0; have hfz17_1 := blk_frozen BK103.out 1; have hfz17_2 := blk_frozen BK103.out 2; have hfz17_3 := blk_frozen BK103.out 3; have hfz17_4 := blk_frozen BK103.out 4; have hfz17_5 := blk_frozen BK103.out 5) | ((with_reducible refine gate_callee (f := 67) rfl ?_); refine goesL_ (some 5) rfl rfl Tryd.func67 (by kernel_rfl) rfl #[.agg #[.int .i64 a0_1, .int .u64 a0_2]] rfl (by (try simp only [List.map_toArray, List.map_cons, List.map_nil]); first | done | rfl | (simp only [List.length_drop, List.length_take]; rfl)) ?_; (with_reducible refine (jalousieref02_Right.calls a0_1 a0_2 true _ A2.out).mono ?_); rintro e w18 ⟨rfl, hb⟩; refine ⟨_, rfl, ?_⟩; have n0_ := Aside0.mk (blk_below (g := gb103) (o := .cells #[.string a0_0, .int .i64 a0_1, .int .u64 a0_2, .string a0_3, .string a0_4, .string a0_5] 40 (0, 0)) (by (with_reducible repeat first|refine zb1 ?_ _|refine zb2 ?_|refine zb3 ?_ _); exact BK103.out) hb); have n1_ := Aside0.mk (below_step (by repeat (first | (with_reducible first | exact HB.out | apply below_alloc | apply pw_below_drewN | apply below_drew1 | refine below_set ?_ GE103.out) | exact HB.out)) hb); clear BK103; clear HB; have BK103 := n0_; have HB := n1_; clear n0_ n1_; (try clear hb); (try clear hb2); (try clear hk); (try clear hi); have hcz19_0 : w18.cell? ⟨gb103, 0, none⟩ = some (.string a0_0) := (blk_cell BK103.out 0).trans rfl; have hcz19_1 : w18.cell? ⟨gb103, 1, none⟩ = some (.int .i64 a0_1) := (blk_cell BK103.out 1).trans rfl; have hcz19_2 : w18.cell? ⟨gb103, 2, none⟩ = some (.int .u64 a0_2) := (blk_cell BK103.out 2).trans rfl; have hcz19_3 : w18.cell? ⟨gb103, 3, none⟩ = some (.string a0_3) := (blk_cell BK103.out 3).trans rfl; have hcz19_4 : w18.cell? ⟨gb103, 4, none⟩ = some (.string a0_4) := (blk_cell BK103.out 4).trans rfl; have hcz19_5 : w18.cell? ⟨gb103, 5, none⟩ = some (.string a0_5) := (blk_cell BK103.out 5).trans rfl; have hfz19_0 := blk_frozen BK103.out 0; have hfz19_1 := blk_frozen BK103.out 1; have hfz19_2 := blk_frozen BK103.out 2; have hfz19_3 := blk_frozen BK103.out 3; have hfz19_4 := blk_frozen BK103.out 4; have hfz19_5 := blk_frozen BK103.out 5) | (go_at_call 68; (with_reducible refine (jalousieref01_Name.calls k a0_0 true _ A4.out).mono ?_); rintro e w' ⟨rfl, ⟨nd, rfl⟩⟩) | (go_at_call 68; (with_reducible refine (jalousieref01_Name.calls k a0_3 true _ A6.out).mono ?_); rintro e w' ⟨rfl, ⟨nd, rfl⟩⟩) | (go_at_call 68; (with_reducible refine (jalousieref01_Name.calls k a0_4 true _ A8.out).mono ?_); rintro e w' ⟨rfl, ⟨nd, rfl⟩⟩) | (go_at_call 68; (with_reducible refine (jalousieref01_Name.calls k a0_5 false _ A10.out).mono ?_); rintro e w' ⟨rfl, ⟨nd, rfl⟩⟩))
      go_ret
      exact ⟨by first | rfl | (simp [errW_none, errW_some] <;> rfl) | (simp [*, errW_none, errW_some] <;> rfl), by repeat (first | (with_reducible first | exact HB.out | apply below_alloc | apply pw_below_drewN | apply below_drew1 | refine below_set ?_ GE103.out) | exact HB.out)⟩
    ·replace c9 := Bool.eq_false_iff.mpr c9
     subst c9
     have H1 : (some 2) = some r := by rw [if_neg (show ¬ (false = true) by decide)] at H; exact H
     clear H
     have H := H1
     clear H1
     obtain rfl := Option.some.inj H
     go_enter Tryd.func45, Tryd.ntmps45
     go_wp2_with (first | ((with_reducible refine gate_dst (N := 1) rfl ?_); refine box_event ?hg (N := 1) ?hd (cs := #[.string a0_0, .int .i64 a0_1, .int .u64 a0_2, .string a0_3, .string a0_4, .string a0_5]) (t := 40) ?hr ?_; (case hd => rfl); (case hg => rfl); (case hr => first | (go_simp; done) | (go_simp; rfl)); intro gb103 hg w20 hbox hb; have n0_ := Aside0.mk (below_step (by repeat (first | (with_reducible first | exact HB.out | apply below_alloc | apply pw_below_drewN | apply below_drew1) | exact HB.out)) hb); have n1_ := Aside0.mk (hbox); have n2_ := Aside0.mk ((by rw [hg]; exact (below_size (by repeat (first | (with_reducible first | exact HB.out | apply below_alloc | apply pw_below_drewN | apply below_drew1) | exact HB.out))) : w.heap.size ≤ gb103)); have n3_ := Aside0.mk ((by rw [hg]; exact (below_size (by repeat (first | (with_reducible first | exact HB.out | apply below_alloc | apply pw_below_drewN | apply below_drew1) | exact HB.out))) : w.heap.size ≤ gb103)); clear HB; have HB := n0_; have BK103 := n1_; have GW103 := n2_; have GE103 := n3_; clear n0_ n1_ n2_ n3_; clear hb hbox hg; have hcz21_0 : w20.cell? ⟨gb103, 0, none⟩ = some (.string a0_0) := (blk_cell BK103.out 0).trans rfl; have hcz21_1 : w20.cell? ⟨gb103, 1, none⟩ = some (.int .i64 a0_1) := (blk_cell BK103.out 1).trans rfl; have hcz21_2 : w20.cell? ⟨gb103, 2, none⟩ = some (.int .u64 a0_2) := (blk_cell BK103.out 2).trans rfl; have hcz21_3 : w20.cell? ⟨gb103, 3, none⟩ = some (.string a0_3) := (blk_cell BK103.out 3).trans rfl; have hcz21_4 : w20.cell? ⟨gb103, 4, none⟩ = some (.string a0_4) := (blk_cell BK103.out 4).trans rfl; have hcz21_5 : w20.cell? ⟨gb103, 5, none⟩ = some (.string a0_5) := (blk_cell BK103.out 5).trans rfl; have hfz21_0 := blk_frozen BK103.out 0; have hfz21_1 := blk_frozen BK103.out 1; have hfz21_2 := blk_frozen BK103.out 2; have hfz21_3 := blk_frozen BK103.out 3; have hfz21_4 := blk_frozen BK103.out 4; have hfz21_5 := blk_frozen BK103.out 5) | ((with_reducible refine gate_callee (f := 67) rfl ?_); refine goesL_ (some 5) rfl rfl Tryd.func67 (by kernel_rfl) rfl #[.agg #[.int .i64 a0_1, .int .u64 a0_2]] rfl (by (try simp only [List.map_toArray, List.map_cons, List.map_nil]); first | done | rfl | (simp only [List.length_drop, List.length_take]; rfl)) ?_; (with_reducible refine (jalousieref02_Right.calls a0_1 a0_2 true _ A2.out).mono ?_); rintro e w22 ⟨rfl, hb⟩; refine ⟨_, rfl, ?_⟩; have n0_ := Aside0.mk (blk_below (g := gb103) (o := .cells #[.string a0_0, .int .i64 a0_1, .int .u64 a0_2, .string a0_3, .string a0_4, .string a0_5] 40 (0, 0)) (by (with_reducible repeat first|refine zb1 ?_ _|refine zb2 ?_|refine zb3 ?_ _); exact BK103.out) hb); have n1_ := Aside0.mk (below_step (by repeat (first | (with_reducible first | exact HB.out | apply below_alloc | apply pw_below_drewN | apply below_drew1 | refine below_set ?_ GE103.out) | exact HB.out)) hb); clear BK103; clear HB; have BK103 := n0_; have HB := n1_; clear n0_ n1_; (try clear hb); (try clear hb2); (try clear hk); (try clear hi); have hcz23_0 : w22.cell? ⟨gb103, 0, none⟩ = some (.string a0_0) := (blk_cell BK103.out 0).trans rfl; have hcz23_1 : w22.cell? ⟨gb103, 1, none⟩ = some (.int .i64 a0_1) := (blk_cell BK103.out 1).trans rfl; have hcz23_2 : w22.cell? ⟨gb103, 2, none⟩ = some (.int .u64 a0_2) := (blk_cell BK103.out 2).trans rfl; have hcz23_3 : w22.cell? ⟨gb103, 3, none⟩ = some (.string a0_3) := (blk_cell BK103.out 3).trans rfl; have hcz23_4 : w22.cell? ⟨gb103, 4, none⟩ = some (.string a0_4) := (blk_cell BK103.out 4).trans rfl; have hcz23_5 : w22.cell? ⟨gb103, 5, none⟩ = some (.string a0_5) := (blk_cell BK103.out 5).trans rfl; have hfz23_0 := blk_frozen BK103.out 0; have hfz23_1 := blk_frozen BK103.out 1; have hfz23_2 := blk_frozen BK103.out 2; have hfz23_3 := blk_frozen BK103.out 3; have hfz23_4 := blk_frozen BK103.out 4; have hfz23_5 := blk_frozen BK103.out 5) | (go_at_call 68; (with_reducible refine (jalousieref01_Name.calls k a0_0 true _ A4.out).mono ?_); rintro e w' ⟨rfl, ⟨nd, rfl⟩⟩) | (go_at_call 68; (with_reducible refine (jalousieref01_Name.calls k a0_3 true _ A6.out).mono ?_); rintro e w' ⟨rfl, ⟨nd, rfl⟩⟩) | (go_at_call 68; (with_reducible refine (jalousieref01_Name.calls k a0_4 false _ A8.out).mono ?_); rintro e w' ⟨rfl, ⟨nd, rfl⟩⟩))
     go_ret
     exact ⟨by first | rfl | (simp [errW_none, errW_some] <;> rfl) | (simp [*, errW_none, errW_some] <;> rfl), by repeat (first | (with_reducible first | exact HB.out | apply below_alloc | apply pw_below_drewN | apply below_drew1 | refine below_set ?_ GE103.out) | exact HB.out)⟩
   ·replace c7 := Bool.eq_false_iff.mpr c7
    subst c7
    have H1 : (some 2) = some r := by rw [if_neg (show ¬ (false = true) by decide)] at H; exact H
    clear H
    have H := H1
    clear H1
    obtain rfl := Option.some.inj H
    go_enter Tryd.func45, Tryd.ntmps45
    go_wp2_with (first | ((with_reducible refine gate_dst (N := 1) rfl ?_); refine box_event ?hg (N := 1) ?hd (cs := #[.string a0_0, .int .i64 a0_1, .int .u64 a0_2, .string a0_3, .string a0_4, .string a0_5]) (t := 40) ?hr ?_; (case hd => rfl); (case hg => rfl); (case hr => first | (go_simp; done) | (go_simp; rfl)); intro gb103 hg w24 hbox hb; have n0_ := Aside0.mk (below_step (by repeat (first | (with_reducible first | exact HB.out | apply below_alloc | apply pw_below_drewN | apply below_drew1) | exact HB.out)) hb); have n1_ := Aside0.mk (hbox); have n2_ := Aside0.mk ((by rw [hg]; exact (below_size (by repeat (first | (with_reducible first | exact HB.out | apply below_alloc | apply pw_below_drewN | apply below_drew1) | exact HB.out))) : w.heap.size ≤ gb103)); have n3_ := Aside0.mk ((by rw [hg]; exact (below_size (by repeat (first | (with_reducible first | exact HB.out | apply below_alloc | apply pw_below_drewN | apply below_drew1) | exact HB.out))) : w.heap.size ≤ gb103)); clear HB; have HB := n0_; have BK103 := n1_; have GW103 := n2_; have GE103 := n3_; clear n0_ n1_ n2_ n3_; clear hb hbox hg; have hcz25_0 : w24.cell? ⟨gb103, 0, none⟩ = some (.string a0_0) := (blk_cell BK103.out 0).trans rfl; have hcz25_1 : w24.cell? ⟨gb103, 1, none⟩ = some (.int .i64 a0_1) := (blk_cell BK103.out 1).trans rfl; have hcz25_2 : w24.cell? ⟨gb103, 2, none⟩ = some (.int .u64 a0_2) := (blk_cell BK103.out 2).trans rfl; have hcz25_3 : w24.cell? ⟨gb103, 3, none⟩ = some (.string a0_3) := (blk_cell BK103.out 3).trans rfl; have hcz25_4 : w24.cell? ⟨gb103, 4, none⟩ = some (.string a0_4) := (blk_cell BK103.out 4).trans rfl; have hcz25_5 : w24.cell? ⟨gb103, 5, none⟩ = some (.string a0_5) := (blk_cell BK103.out 5).trans rfl; have hfz25_0 := blk_frozen BK103.out 0; have hfz25_1 := blk_frozen BK103.out 1; have hfz25_2 := blk_frozen BK103.out 2; have hfz25_3 := blk_frozen BK103.out 3; have hfz25_4 := blk_frozen BK103.out 4; have hfz25_5 := blk_frozen BK103.out 5) | ((with_reducible refine gate_callee (f := 67) rfl ?_); refine goesL_ (some 5) rfl rfl Tryd.func67 (by kernel_rfl) rfl #[.agg #[.int .i64 a0_1, .int .u64 a0_2]] rfl (by (try simp only [List.map_toArray, List.map_cons, List.map_nil]); first | done | rfl | (simp only [List.length_drop, List.length_take]; rfl)) ?_; (with_reducible refine (jalousieref02_Right.calls a0_1 a0_2 true _ A2.out).mono ?_); rintro e w26 ⟨rfl, hb⟩; refine ⟨_, rfl, ?_⟩; have n0_ := Aside0.mk (blk_below (g := gb103) (o := .cells #[.string a0_0, .int .i64 a0_1, .int .u64 a0_2, .string a0_3, .string a0_4, .string a0_5] 40 (0, 0)) (by (with_reducible repeat first|refine zb1 ?_ _|refine zb2 ?_|refine zb3 ?_ _); exact BK103.out) hb); have n1_ := Aside0.mk (below_step (by repeat (first | (with_reducible first | exact HB.out | apply below_alloc | apply pw_below_drewN | apply below_drew1 | refine below_set ?_ GE103.out) | exact HB.out)) hb); clear BK103; clear HB; have BK103 := n0_; have HB := n1_; clear n0_ n1_; (try clear hb); (try clear hb2); (try clear hk); (try clear hi); have hcz27_0 : w26.cell? ⟨gb103, 0, none⟩ = some (.string a0_0) := (blk_cell BK103.out 0).trans rfl; have hcz27_1 : w26.cell? ⟨gb103, 1, none⟩ = some (.int .i64 a0_1) := (blk_cell BK103.out 1).trans rfl; have hcz27_2 : w26.cell? ⟨gb103, 2, none⟩ = some (.int .u64 a0_2) := (blk_cell BK103.out 2).trans rfl; have hcz27_3 : w26.cell? ⟨gb103, 3, none⟩ = some (.string a0_3) := (blk_cell BK103.out 3).trans rfl; have hcz27_4 : w26.cell? ⟨gb103, 4, none⟩ = some (.string a0_4) := (blk_cell BK103.out 4).trans rfl; have hcz27_5 : w26.cell? ⟨gb103, 5, none⟩ = some (.string a0_5) := (blk_cell BK103.out 5).trans rfl; have hfz27_0 := blk_frozen BK103.out 0; have hfz27_1 := blk_frozen BK103.out 1; have hfz27_2 := blk_frozen BK103.out 2; have hfz27_3 := blk_frozen BK103.out 3; have hfz27_4 := blk_frozen BK103.out 4; have hfz27_5 := blk_frozen BK103.out 5) | (go_at_call 68; (with_reducible refine (jalousieref01_Name.calls k a0_0 true _ A4.out).mono ?_); rintro e w' ⟨rfl, ⟨nd, rfl⟩⟩) | (go_at_call 68; (with_reducible refine (jalousieref01_Name.calls k a0_3 false _ A6.out).mono ?_); rintro e w' ⟨rfl, ⟨nd, rfl⟩⟩))
    go_ret
    exact ⟨by first | rfl | (simp [errW_none, errW_some] <;> rfl) | (simp [*, errW_none, errW_some] <;> rfl), by repeat (first | (with_reducible first | exact HB.out | apply below_alloc | apply pw_below_drewN | apply below_drew1 | refine below_set ?_ GE103.out) | exact HB.out)⟩
  ·replace c5 := Bool.eq_false_iff.mpr c5
   subst c5
   have H1 : (some 2) = some r := by rw [if_neg (show ¬ (false = true) by decide)] at H; exact H
   clear H
   have H := H1
   clear H1
   obtain rfl := Option.some.inj H
   go_enter Tryd.func45, Tryd.ntmps45
   go_wp2_with (first | ((with_reducible refine gate_dst (N := 1) rfl ?_); refine box_event ?hg (N := 1) ?hd (cs := #[.string a0_0, .int .i64 a0_1, .int .u64 a0_2, .string a0_3, .string a0_4, .string a0_5]) (t := 40) ?hr ?_; (case hd => rfl); (case hg => rfl); (case hr => first | (go_simp; done) | (go_simp; rfl)); intro gb103 hg w28 hbox hb; have n0_ := Aside0.mk (below_step (by repeat (first | (with_reducible first | exact HB.out | apply below_alloc | apply pw_below_drewN | apply below_drew1) | exact HB.out)) hb); have n1_ := Aside0.mk (hbox); have n2_ := Aside0.mk ((by rw [hg]; exact (below_size (by repeat (first | (with_reducible first | exact HB.out | apply below_alloc | apply pw_below_drewN | apply below_drew1) | exact HB.out))) : w.heap.size ≤ gb103)); have n3_ := Aside0.mk ((by rw [hg]; exact (below_size (by repeat (first | (with_reducible first | exact HB.out | apply below_alloc | apply pw_below_drewN | apply below_drew1) | exact HB.out))) : w.heap.size ≤ gb103)); clear HB; have HB := n0_; have BK103 := n1_; have GW103 := n2_; have GE103 := n3_; clear n0_ n1_ n2_ n3_; clear hb hbox hg; have hcz29_0 : w28.cell? ⟨gb103, 0, none⟩ = some (.string a0_0) := (blk_cell BK103.out 0).trans rfl; have hcz29_1 : w28.cell? ⟨gb103, 1, none⟩ = some (.int .i64 a0_1) := (blk_cell BK103.out 1).trans rfl; have hcz29_2 : w28.cell? ⟨gb103, 2, none⟩ = some (.int .u64 a0_2) := (blk_cell BK103.out 2).trans rfl; have hcz29_3 : w28.cell? ⟨gb103, 3, none⟩ = some (.string a0_3) := (blk_cell BK103.out 3).trans rfl; have hcz29_4 : w28.cell? ⟨gb103, 4, none⟩ = some (.string a0_4) := (blk_cell BK103.out 4).trans rfl; have hcz29_5 : w28.cell? ⟨gb103, 5, none⟩ = some (.string a0_5) := (blk_cell BK103.out 5).trans rfl; have hfz29_0 := blk_frozen BK103.out 0; have hfz29_1 := blk_frozen BK103.out 1; have hfz29_2 := blk_frozen BK103.out 2; have hfz29_3 := blk_frozen BK103.out 3; have hfz29_4 := blk_frozen BK103.out 4; have hfz29_5 := blk_frozen BK103.out 5) | ((with_reducible refine gate_callee (f := 67) rfl ?_); refine goesL_ (some 5) rfl rfl Tryd.func67 (by kernel_rfl) rfl #[.agg #[.int .i64 a0_1, .int .u64 a0_2]] rfl (by (try simp only [List.map_toArray, List.map_cons, List.map_nil]); first | done | rfl | (simp only [List.length_drop, List.length_take]; rfl)) ?_; (with_reducible refine (jalousieref02_Right.calls a0_1 a0_2 true _ A2.out).mono ?_); rintro e w30 ⟨rfl, hb⟩; refine ⟨_, rfl, ?_⟩; have n0_ := Aside0.mk (blk_below (g := gb103) (o := .cells #[.string a0_0, .int .i64 a0_1, .int .u64 a0_2, .string a0_3, .string a0_4, .string a0_5] 40 (0, 0)) (by (with_reducible repeat first|refine zb1 ?_ _|refine zb2 ?_|refine zb3 ?_ _); exact BK103.out) hb); have n1_ := Aside0.mk (below_step (by repeat (first | (with_reducible first | exact HB.out | apply below_alloc | apply pw_below_drewN | apply below_drew1 | refine below_set ?_ GE103.out) | exact HB.out)) hb); clear BK103; clear HB; have BK103 := n0_; have HB := n1_; clear n0_ n1_; (try clear hb); (try clear hb2); (try clear hk); (try clear hi); have hcz31_0 : w30.cell? ⟨gb103, 0, none⟩ = some (.string a0_0) := (blk_cell BK103.out 0).trans rfl; have hcz31_1 : w30.cell? ⟨gb103, 1, none⟩ = some (.int .i64 a0_1) := (blk_cell BK103.out 1).trans rfl; have hcz31_2 : w30.cell? ⟨gb103, 2, none⟩ = some (.int .u64 a0_2) := (blk_cell BK103.out 2).trans rfl; have hcz31_3 : w30.cell? ⟨gb103, 3, none⟩ = some (.string a0_3) := (blk_cell BK103.out 3).trans rfl; have hcz31_4 : w30.cell? ⟨gb103, 4, none⟩ = some (.string a0_4) := (blk_cell BK103.out 4).trans rfl; have hcz31_5 : w30.cell? ⟨gb103, 5, none⟩ = some (.string a0_5) := (blk_cell BK103.out 5).trans rfl; have hfz31_0 := blk_frozen BK103.out 0; have hfz31_1 := blk_frozen BK103.out 1; have hfz31_2 := blk_frozen BK103.out 2; have hfz31_3 := blk_frozen BK103.out 3; have hfz31_4 := blk_frozen BK103.out 4; have hfz31_5 := blk_frozen BK103.out 5) | (go_at_call 68; (with_reducible refine (jalousieref01_Name.calls k a0_0 false _ A4.out).mono ?_); rintro e w' ⟨rfl, ⟨nd, rfl⟩⟩))
   go_ret
   exact ⟨by first | rfl | (simp [errW_none, errW_some] <;> rfl) | (simp [*, errW_none, errW_some] <;> rfl), by repeat (first | (with_reducible first | exact HB.out | apply below_alloc | apply pw_below_drewN | apply below_drew1 | refine below_set ?_ GE103.out) | exact HB.out)⟩
 ·replace c3 := Bool.eq_false_iff.mpr c3
  subst c3
  have H1 : (some 2) = some r := by rw [if_neg (show ¬ (false = true) by decide)] at H; exact H
  clear H
  have H := H1
  clear H1
  obtain rfl := Option.some.inj H
  go_enter Tryd.func45, Tryd.ntmps45
  go_wp2_with (first | ((with_reducible refine gate_dst (N := 1) rfl ?_); refine box_event ?hg (N := 1) ?hd (cs := #[.string a0_0, .int .i64 a0_1, .int .u64 a0_2, .string a0_3, .string a0_4, .string a0_5]) (t := 40) ?hr ?_; (case hd => rfl); (case hg => rfl); (case hr => first | (go_simp; done) | (go_simp; rfl)); intro gb103 hg w32 hbox hb; have n0_ := Aside0.mk (below_step (by repeat (first | (with_reducible first | exact HB.out | apply below_alloc | apply pw_below_drewN | apply below_drew1) | exact HB.out)) hb); have n1_ := Aside0.mk (hbox); have n2_ := Aside0.mk ((by rw [hg]; exact (below_size (by repeat (first | (with_reducible first | exact HB.out | apply below_alloc | apply pw_below_drewN | apply below_drew1) | exact HB.out))) : w.heap.size ≤ gb103)); have n3_ := Aside0.mk ((by rw [hg]; exact (below_size (by repeat (first | (with_reducible first | exact HB.out | apply below_alloc | apply pw_below_drewN | apply below_drew1) | exact HB.out))) : w.heap.size ≤ gb103)); clear HB; have HB := n0_; have BK103 := n1_; have GW103 := n2_; have GE103 := n3_; clear n0_ n1_ n2_ n3_; clear hb hbox hg; have hcz33_0 : w32.cell? ⟨gb103, 0, none⟩ = some (.string a0_0) := (blk_cell BK103.out 0).trans rfl; have hcz33_1 : w32.cell? ⟨gb103, 1, none⟩ = some (.int .i64 a0_1) := (blk_cell BK103.out 1).trans rfl; have hcz33_2 : w32.cell? ⟨gb103, 2, none⟩ = some (.int .u64 a0_2) := (blk_cell BK103.out 2).trans rfl; have hcz33_3 : w32.cell? ⟨gb103, 3, none⟩ = some (.string a0_3) := (blk_cell BK103.out 3).trans rfl; have hcz33_4 : w32.cell? ⟨gb103, 4, none⟩ = some (.string a0_4) := (blk_cell BK103.out 4).trans rfl; have hcz33_5 : w32.cell? ⟨gb103, 5, none⟩ = some (.string a0_5) := (blk_cell BK103.out 5).trans rfl; have hfz33_0 := blk_frozen BK103.out 0; have hfz33_1 := blk_frozen BK103.out 1; have hfz33_2 := blk_frozen BK103.out 2; have hfz33_3 := blk_frozen BK103.out 3; have hfz33_4 := blk_frozen BK103.out 4; have hfz33_5 := blk_frozen BK103.out 5) | ((with_reducible refine gate_callee (f := 67) rfl ?_); refine goesL_ (some 5) rfl rfl Tryd.func67 (by kernel_rfl) rfl #[.agg #[.int .i64 a0_1, .int .u64 a0_2]] rfl (by (try simp only [List.map_toArray, List.map_cons, List.map_nil]); first | done | rfl | (simp only [List.length_drop, List.length_take]; rfl)) ?_; (with_reducible refine (jalousieref02_Right.calls a0_1 a0_2 false _ A2.out).mono ?_); rintro e w34 ⟨rfl, hb⟩; refine ⟨_, rfl, ?_⟩; have n0_ := Aside0.mk (blk_below (g := gb103) (o := .cells #[.string a0_0, .int .i64 a0_1, .int .u64 a0_2, .string a0_3, .string a0_4, .string a0_5] 40 (0, 0)) (by (with_reducible repeat first|refine zb1 ?_ _|refine zb2 ?_|refine zb3 ?_ _); exact BK103.out) hb); have n1_ := Aside0.mk (below_step (by repeat (first | (with_reducible first | exact HB.out | apply below_alloc | apply pw_below_drewN | apply below_drew1 | refine below_set ?_ GE103.out) | exact HB.out)) hb); clear BK103; clear HB; have BK103 := n0_; have HB := n1_; clear n0_ n1_; (try clear hb); (try clear hb2); (try clear hk); (try clear hi)))
  go_ret
  exact ⟨by first | rfl | (simp [errW_none, errW_some] <;> rfl) | (simp [*, errW_none, errW_some] <;> rfl), by repeat (first | (with_reducible first | exact HB.out | apply below_alloc | apply pw_below_drewN | apply below_drew1 | refine below_set ?_ GE103.out) | exact HB.out)⟩

end Go.Proofs.YtkinepmilnkhmaaDoor.A
end
section
namespace Go.Proofs.YtkinepmilnkhmaaDoor
open Go.RowKit Go.Proofs.YtkinepmilnkhmaaDoorW.PrintWords Go.Proofs.YtkinepmilnkhmaaDoorW.PrintMore
theorem w64s (i : Nat) (h : i < 9223372036854775807) : wrap64 ((i : Int) + 1) = ((i + 1 : Nat) : Int) := by
  unfold wrap64
  omega
theorem getD_some {α : Type} {l : List α} {i : Nat} {x : α} (h : l[i]? = some x) (d : α) : l.getD i d = x := by
  rw [List.getD_eq_getElem?_getD, h]
  rfl
theorem ba_toList (s : ByteArray) : s.toList = s.data.toList := by
  obtain ⟨⟨l⟩⟩ := s
  exact ByteArray.toList_mk l
end Go.Proofs.YtkinepmilnkhmaaDoor
end
section
namespace Go.Proofs.YtkinepmilnkhmaaDoor.A
open Go.RowKit Go.Proofs.YtkinepmilnkhmaaDoorW.PrintWords Go.Proofs.YtkinepmilnkhmaaDoorW.PrintLast Go.Proofs.YtkinepmilnkhmaaDoorW.PrintMore
set_option linter.unusedVariables false
set_option linter.unusedSimpArgs false
/-- From sign i on (d signs): are all seen signs? -/
def sgnE (s : ByteArray) : Nat → Nat → Bool
  | 0, _ => true
  | d + 1, i => decide (32 < bt s (i : Int)) && (decide (bt s (i : Int) ≤ 126) && sgnE s d (i + 1))
/-- Is it a name? -/
def nmE (s : ByteArray) : Bool := sgnE s s.size 0 && (decide (s.size ≠ 0) && decide (s.size ≤ 64))
/-- What is wrong with an entry. -/
def chkE (x : S40) : Int := if (decide (0 ≤ x.f1.f0) && decide (x.f1.f0 ≤ 15)) && (nmE x.f0 && (nmE x.f2 && (nmE x.f3 && nmE x.f4))) then 0 else 2
theorem name_t (s : ByteArray) (hs : s.size ≤ 9223372036854775807) : ∀ (d i : Nat), i + d = s.size → Ev (fun k => text_Name.l0 k s (s.size : Int) (i : Int)) (sgnE s d i && (decide (s.size ≠ 0) && decide (s.size ≤ 64)))
  | 0, i, h => by
    refine ⟨1, fun k hk => ?_⟩
    obtain ⟨m, rfl⟩ : ∃ m, k = m + 1 := ⟨k - 1, by omega⟩
    simp only [text_Name.l0]
    rw [if_neg (by omega)]
    by_cases h0 : s.size = 0
    · rw [if_pos (by rw [ba_toList]; exact List.eq_nil_of_length_eq_zero (by rw [data_length]; exact h0))]
      simp [h0]
    · rw [if_neg (by rw [ba_toList]; intro e; have := congrArg List.length e; rw [data_length] at this; exact h0 this)]
      have e : decide ((s.size : Int) ≤ 64) = decide (s.size ≤ 64) := by
        by_cases h4 : s.size ≤ 64
        · rw [decide_eq_true h4, decide_eq_true (by omega)]
        · rw [decide_eq_false h4, decide_eq_false (by omega)]
      simp [sgnE, h0, e]
  | d + 1, i, h => by
    obtain ⟨K, hK⟩ := name_t s hs d (i + 1) (by omega)
    refine ⟨K + 1, fun k hk => ?_⟩
    obtain ⟨m, rfl⟩ : ∃ m, k = m + 1 := ⟨k - 1, by omega⟩
    simp only [text_Name.l0]
    rw [if_pos (by omega), if_pos (by omega), if_pos (by omega)]
    have hn := hK m (by omega)
    rw [← w64s i (by omega)] at hn
    unfold sgnE
    by_cases h1 : bt s (i : Int) ≤ 32
    · rw [if_pos h1, decide_eq_false (by omega)]
      simp
    · rw [if_neg h1, decide_eq_true (show 32 < bt s (i : Int) by omega)]
      by_cases h2 : bt s (i : Int) > 126
      · rw [if_pos h2, decide_eq_false (by omega)]
        simp
      · rw [if_neg h2, decide_eq_true (show bt s (i : Int) ≤ 126 by omega), Bool.true_and, Bool.true_and]
        exact hn
theorem name_r0 (s : ByteArray) (hs : s.size ≤ 9223372036854775807) : ∀ (d i : Nat), i + d = s.size → Ev (fun k => jalousieref01_Name.l0 k s (i : Int)) (sgnE s d i)
  | 0, i, h => by
    refine ⟨1, fun k hk => ?_⟩
    obtain ⟨m, rfl⟩ : ∃ m, k = m + 1 := ⟨k - 1, by omega⟩
    simp only [jalousieref01_Name.l0]
    rw [if_neg (by omega)]
    rfl
  | d + 1, i, h => by
    obtain ⟨K, hK⟩ := name_r0 s hs d (i + 1) (by omega)
    refine ⟨K + 1, fun k hk => ?_⟩
    obtain ⟨m, rfl⟩ : ∃ m, k = m + 1 := ⟨k - 1, by omega⟩
    simp only [jalousieref01_Name.l0]
    rw [if_pos (by omega), if_pos (by omega)]
    have hn := hK m (by omega)
    rw [← w64s i (by omega)] at hn
    unfold sgnE
    by_cases h1 : bt s (i : Int) < 33
    · rw [if_pos h1, decide_eq_false (by omega)]
      simp
    · rw [if_neg h1, decide_eq_true (show 32 < bt s (i : Int) by omega)]
      by_cases h2 : bt s (i : Int) > 126
      · rw [if_pos h2, decide_eq_false (by omega)]
        simp
      · rw [if_neg h2, decide_eq_true (show bt s (i : Int) ≤ 126 by omega), Bool.true_and, Bool.true_and]
        exact hn
theorem name_ev (s : ByteArray) (hs : s.size ≤ 9223372036854775807) : Ev (fun k => text_Name.f k s) (nmE s) := name_t s hs s.size 0 (by omega)
theorem name_rev (s : ByteArray) (hs : s.size ≤ 9223372036854775807) : Ev (fun k => jalousieref01_Name.f k s) (nmE s) := by
  obtain ⟨K, hK⟩ := name_r0 s hs s.size 0 (by omega)
  refine ⟨K + 1, fun k hk => ?_⟩
  obtain ⟨m, rfl⟩ : ∃ m, k = m + 1 := ⟨k - 1, by omega⟩
  show (if (s.size : Int) < 1 then _ else _) = _
  unfold nmE
  by_cases h0 : s.size = 0
  · rw [if_pos (by omega)]
    simp [jalousieref01_Name.j0, h0]
  · rw [if_neg (by omega)]
    by_cases h1 : s.size ≤ 64
    · rw [decide_eq_false (by omega : ¬ (s.size : Int) > 64), decide_eq_true h1, decide_eq_true h0]
      simp only [jalousieref01_Name.j0]
      rw [if_neg (by decide)]
      simpa using hK m (by omega)
    · rw [decide_eq_true (by omega : (s.size : Int) > 64), decide_eq_false h1]
      simp [jalousieref01_Name.j0]
theorem chk_ev (x : S40) (h0 : x.f0.size ≤ 9223372036854775807) (h2 : x.f2.size ≤ 9223372036854775807) (h3 : x.f3.size ≤ 9223372036854775807) (h4 : x.f4.size ≤ 9223372036854775807) :
    ∃ K, ∀ k, K ≤ k → audit_Check.f k x = some (chkE x) ∧ jalousieref20_Check.f k x.f0 x.f1.f0 x.f1.f1 x.f2 x.f3 x.f4 = some (chkE x) := by
  obtain ⟨a0, p0⟩ := name_ev x.f0 h0
  obtain ⟨a2, p2⟩ := name_ev x.f2 h2
  obtain ⟨a3, p3⟩ := name_ev x.f3 h3
  obtain ⟨a4, p4⟩ := name_ev x.f4 h4
  obtain ⟨b0, q0⟩ := name_rev x.f0 h0
  obtain ⟨b2, q2⟩ := name_rev x.f2 h2
  obtain ⟨b3, q3⟩ := name_rev x.f3 h3
  obtain ⟨b4, q4⟩ := name_rev x.f4 h4
  refine ⟨a0 + a2 + a3 + a4 + b0 + b2 + b3 + b4, fun k hk => ?_⟩
  have p0 := p0 k (by omega)
  have p2 := p2 k (by omega)
  have p3 := p3 k (by omega)
  have p4 := p4 k (by omega)
  have q0 := q0 k (by omega)
  have q2 := q2 k (by omega)
  have q3 := q3 k (by omega)
  have q4 := q4 k (by omega)
  have hR : label_Right.f x.f1.f0 x.f1.f1 = some (decide (0 ≤ x.f1.f0) && decide (x.f1.f0 ≤ 15)) := by
    unfold label_Right.f
    by_cases h : x.f1.f0 ≥ 0
    · rw [if_pos h, decide_eq_true (show 0 ≤ x.f1.f0 from h), Bool.true_and]
    · rw [if_neg h, decide_eq_false (show ¬ 0 ≤ x.f1.f0 from h), Bool.false_and]
  have hS : jalousieref02_Right.f x.f1.f0 x.f1.f1 = some (decide (0 ≤ x.f1.f0) && decide (x.f1.f0 ≤ 15)) := by
    unfold jalousieref02_Right.f
    have e : decide (x.f1.f0 < 16) = decide (x.f1.f0 ≤ 15) := by
      by_cases h : x.f1.f0 ≤ 15
      · rw [decide_eq_true h, decide_eq_true (by omega)]
      · rw [decide_eq_false h, decide_eq_false (by omega)]
    by_cases h : x.f1.f0 ≥ 0
    · rw [if_pos h, decide_eq_true (show 0 ≤ x.f1.f0 from h), Bool.true_and, e]
    · rw [if_neg h, decide_eq_false (show ¬ 0 ≤ x.f1.f0 from h), Bool.false_and]
  unfold audit_Check.f jalousieref20_Check.f chkE
  simp only at p0 p2 p3 p4 q0 q2 q3 q4
  rw [hR, hS]
  constructor
  · cases hb : (decide (0 ≤ x.f1.f0) && decide (x.f1.f0 ≤ 15)) <;> cases n0 : nmE x.f0 <;> cases n2 : nmE x.f2 <;> cases n3 : nmE x.f3 <;> cases n4 : nmE x.f4 <;> simp [audit_Check.names, audit_Check.idx, p0, p2, p3, p4, n0, n2, n3, n4]
  · cases hb : (decide (0 ≤ x.f1.f0) && decide (x.f1.f0 ≤ 15)) <;> cases n0 : nmE x.f0 <;> cases n2 : nmE x.f2 <;> cases n3 : nmE x.f3 <;> cases n4 : nmE x.f4 <;> simp [q0, q2, q3, q4, n0, n2, n3, n4]
/-- Some number of rounds does for a whole list. -/
theorem all_rounds {α : Type} (P : Nat → α → Prop) : ∀ l : List α, (∀ x ∈ l, ∃ K, ∀ k, K ≤ k → P k x) → ∃ K, ∀ k, K ≤ k → ∀ x ∈ l, P k x
  | [], _ => ⟨0, fun _ _ x hx => by cases hx⟩
  | a :: t, h => by
    obtain ⟨K1, h1⟩ := h a (List.mem_cons_self ..)
    obtain ⟨K2, h2⟩ := all_rounds P t fun x hx => h x (List.mem_cons_of_mem _ hx)
    refine ⟨K1 + K2, fun k hk x hx => ?_⟩
    rcases List.mem_cons.1 hx with rfl | hx
    · exact h1 k (by omega)
    · exact h2 k (by omega) x hx
end Go.Proofs.YtkinepmilnkhmaaDoor.A
end
section
namespace Go.Proofs.YtkinepmilnkhmaaDoor.A
open Go.RowKit Go.Proofs.YtkinepmilnkhmaaDoorW.PrintWords Go.Proofs.YtkinepmilnkhmaaDoorW.PrintLast Go.Proofs.YtkinepmilnkhmaaDoorW.PrintMore
attribute [local go_sem] max2_int min2_int max_two min_two max_three min_three max_four min_four   -- for this text's walks alone
set_option linter.unusedVariables false
set_option linter.unusedSimpArgs false

open Go.Maps Go.WideElems Go.MapKept
theorem lbl_law : WideMaps.KeyLaw Tryd.prog 25 := deep_law_gate (by kernel_rfl) (of_decide_eq_true (by kernel_rfl)) (of_decide_eq_true (by kernel_rfl)) (by kernel_rfl) (by kernel_rfl)
theorem lbl_keyed : Keyed Tryd.prog 25 := Keyed.of_law lbl_law
/-- How a label reads as a map's key. -/
def lbl (a : S25) : Lit := .string (keyBytes [.int .i64 a.f0, .int .u64 a.f1])
def lblWf (a : S25) : Prop := (Lit.int .i64 a.f0).wf = true ∧ (Lit.int .u64 a.f1).wf = true
theorem lbl_key (a : S25) (h : lblWf a) : keyOf Tryd.prog 25 (.agg #[.int .i64 a.f0, .int .u64 a.f1]) = some (lbl a) := by
 have h1 : Tryd.prog.keyType 25 = true := by kernel_rfl
 have hu := Tryd.underlying25
 have hu1 := Tryd.underlying3
 have hu2 := Tryd.underlying23
 have hc : Tryd.prog.cellsOf 25 = 2 := by kernel_rfl
 have hc1 : Tryd.prog.cellsOf 3 = 1 := by kernel_rfl
 have hc2 : Tryd.prog.cellsOf 23 = 1 := by kernel_rfl
 have hs0 : decide (2 ≤ Tryd.prog.types.size) = true := by kernel_rfl
 have hs1 := of_decide_eq_true hs0
 have hsz : ∃ m, Tryd.prog.types.size = m + 2 := ⟨Tryd.prog.types.size - 2, by omega⟩
 obtain ⟨m, hm⟩ := hsz
 obtain ⟨w1, w2⟩ := h
 unfold keyOf
 simp only [hu]
 rw [if_pos (by simp [h1, Value.formed, hu, hc]), hm]
 unfold Program.keyLits
 simp only [hu, Value.cells]
 rw [if_pos (by rw [hc]; exact ⟨rfl, by simp⟩)]
 simp [Program.keyLits, hu1, hu2, hc1, hc2, w1, w2, lbl]
theorem lbl_inj {a b : S25} (ha : lblWf a) (hb : lblWf b) (h : lbl a = lbl b) : a = b := by
 have := lbl_law.inj (lbl_key a ha) (by rw [h]; exact lbl_key b hb)
 cases a
 cases b
 simp at this
 simp [this]
theorem lbl_isKey (a : S25) : WideAt.IsKeyLit (lbl a) := by
 unfold lbl WideAt.IsKeyLit
 simp
/-- How many entries a label has. -/
def logCnt (a : S25) (xs : List S40) : Nat := (xs.filter fun x => x.f1.f0 == a.f0 && x.f1.f1 == a.f1).length
def cntOk (D : DataW Unit) (xs : List S40) : Prop := ∀ a : S25, lblWf a → D.atKey (lbl a) (.lit (.int .i64 0)) = .lit (.int .i64 (logCnt a xs : Int))
/-- THE LOG AT p: its entries, and how many each label has. -/
def LogX (W : World) (base p m : Nat) (xs : List S40) : Prop := ∃ (v : Value) (D : DataW Unit), W.heap[p]? = some (Obj.cells #[v, .map (some m)] 76 (0, 0)) ∧ Kd.R k40 40 W base (fun _ => True) v xs ∧ W.ownsMap Tryd.prog 25 (plainElem Tryd.prog 3) m xs.length D ∧ cntOk D xs
theorem LogX.stay {W W' : World} {base p m : Nat} {xs : List S40} (h : LogX W base p m xs) (hp : W'.heap[p]? = W.heap[p]?) (hm : W'.heap[m]? = W.heap[m]?) (hE : ∀ (k : Nat) (cs : Array Value) (fz : Nat × Nat), W.heap[k]? = some (Obj.cells cs 40 fz) → W'.heap[k]? = W.heap[k]?) : LogX W' base p m xs := by
 obtain ⟨v, D, h1, h2, h3, h4⟩ := h
 refine ⟨v, D, hp.trans h1, ?_, ?_, h4⟩
 ·refine Kd.R_mono (Kd.R_step (Kd.R_bound h2) fun k hk _ => ?_) (fun _ _ => trivial)
  obtain ⟨_, _, _, q, hq, cs, hc⟩ := hk
  have hq' : q = 40 := by
   rcases List.mem_cons.1 hq with h | h
   ·exact h
   ·rw [show k40.E = [] from by decide] at h
    cases h
  subst hq'
  exact hE k cs _ hc
 ·obtain ⟨es, clock, hb, r⟩ := h3
  exact ⟨es, clock, hm.trans hb, r⟩
theorem LogX.below {W W' : World} {base p m : Nat} {xs : List S40} (h : LogX W base p m xs) (hb : Below W.heap.size W W') : LogX W' base p m xs := by
 have hp : p < W.heap.size := by
  obtain ⟨v, D, h1, _⟩ := h
  exact (Array.getElem?_eq_some_iff.1 h1).1
 have hm : m < W.heap.size := by
  obtain ⟨v, D, _, _, h3, _⟩ := h
  exact h3.lt
 exact LogX.stay h (hb.block _ hp) (hb.block _ hm) (fun k cs fz hk => hb.block _ (Array.getElem?_eq_some_iff.1 hk).1)
theorem audit_Len.calls (base p m : Nat) (xs : List S40) (w : World) (h : LogX w base p m xs) :
  Calls Tryd.prog 26 #[.pointer (some ⟨p, 0, none⟩)] w fun e w' => e = .returned (.int .i64 (xs.length : Int)) ∧ w' = w := by
 obtain ⟨v, D, h1, h2, h3, h4⟩ := h
 obtain ⟨Ax, cx, e⟩ := Kd.R_slice h2
 subst e
 have hc := (blk_cell h1 0).trans rfl
 clear h1 h2 h3 h4
 go_enter Tryd.func26, Tryd.ntmps26
 go_wp2
 go_ret
 exact ⟨rfl, rfl⟩
theorem audit_Len.calls_nil (w : World) :
  Calls Tryd.prog 26 #[.pointer none] w fun e w' => e = .returned (.int .i64 0) ∧ w' = w := by
 go_enter Tryd.func26, Tryd.ntmps26
 go_wp2
 go_ret
 exact ⟨rfl, rfl⟩


end Go.Proofs.YtkinepmilnkhmaaDoor.A
end
section
namespace Go.Proofs.YtkinepmilnkhmaaDoor.A
open Go.RowKit Go.Proofs.YtkinepmilnkhmaaDoorW.PrintWords Go.Proofs.YtkinepmilnkhmaaDoorW.PrintLast Go.Proofs.YtkinepmilnkhmaaDoorW.PrintMore
attribute [local go_sem] max2_int min2_int max_two min_two max_three min_three max_four min_four   -- for this text's walks alone
set_option linter.unusedVariables false
set_option linter.unusedSimpArgs false

open Go.Maps Go.WideElems Go.MapKept
def eCells (x : S40) : List Value := [.string x.f0, .int .i64 x.f1.f0, .int .u64 x.f1.f1, .string x.f2, .string x.f3, .string x.f4]
/-- 'append(xs[:n:n], y)': a new row. -/
theorem app_full {W : World} {base : Nat} {ok : Nat → Prop} {A : Option Addr} {n c : Nat} {xs : List S40} (h : Kd.R k40 40 W base ok (.slice A n c) xs) (hn : n = xs.length) (g : Nat) (y : S40) (hg : W.heap[g]? = some (.cells #[.string y.f0, .int .i64 y.f1.f0, .int .u64 y.f1.f1, .string y.f2, .string y.f3, .string y.f4] 40 (0, 0))) (hl : xs.length ≤ 1000001) (ty : TypeId) :
  ∃ v1 w1, (Builtin.append_ #[22, 22] ty #[.slice A n n, .slice (some ⟨g, 0, none⟩) 1 1]).run Tryd.prog W = .ok v1 w1 ∧ Kd.R k40 40 w1 W.heap.size (fun _ => True) v1 (xs ++ [y]) ∧ W.grownBy w1 none := by
 obtain ⟨i0, hi, hzz⟩ := Option.map_eq_some_iff.1 info40
 simp only [Prod.mk.injEq] at hzz
 obtain ⟨hz0, hz1, hz2⟩ := hzz
 subst hn
 obtain ⟨hok, inner, hown, hr⟩ := h
 have hil : inner.length = xs.length * 6 := hown.1
 have hnews : ∀ (j : Nat) (u : Value), (eCells y)[j]? = some u → W.cell? ((⟨g, 0, none⟩ : Addr).add j) = some u := by
  intro j u hu
  have := blk_cell hg j
  rw [Addr.add_lit, Nat.zero_add, this]
  show (eCells y).toArray[j]? = some u
  rw [List.getElem?_toArray]
  exact hu
 have hfin : ∀ (v1 : Value) (w1 : World), w1.ownsRow W.heap.size 40 6 v1 (xs.length + 1) (inner ++ eCells y) → Kd.R k40 40 w1 W.heap.size (fun _ => True) v1 (xs ++ [y]) := by
  intro v1 w1 h1
  refine ⟨fun _ _ => trivial, inner ++ eCells y, by rw [List.length_append]; exact h1, Kd.reps_append (hr.imp_ (fun q cs hq => ?_)) ?_⟩
  ·rw [k40_openM hq]
   exact k40_mkM _ _ _ q
  ·refine ⟨rfl, fun j p hp => ?_⟩
   match j, hp with
   | 0, hp =>
    cases hp
    exact k40_mkM _ _ _ y
   | j + 1, hp => simp at hp
 cases A with
 | some b =>
  obtain ⟨v1, w1, hrun, h1, h2⟩ := run_append_arg_grows (P := Tryd.prog) W 22 ty 40 i0 _ 6 _ Tryd.underlying22 hi hz0 hz1 hz2 rfl (by decide) b xs.length xs.length inner hil (by
   intro j u hu
   rcases hown.2 with ⟨e, _⟩ | ⟨g', cap, cur, e, _, hb, _, _, _, ht⟩
   ·cases e
   ·cases e
    have hj : j < xs.length * 6 := by rw [← hil]; exact (List.getElem?_eq_some_iff.1 hu).1
    have hbc := blk_cell hb j
    rw [Addr.add_lit, Nat.zero_add]
    rw [hbc]
    rw [← ht, List.getElem?_take, if_pos (show j < xs.length * k40.sz from hj), Array.getElem?_toList] at hu
    exact hu) ⟨g, 0, none⟩ 1 1 (eCells y) rfl hnews (by omega) (by simp only [maxLen]; omega) (by omega)
  exact ⟨v1, w1, hrun, hfin v1 w1 h1, h2⟩
 | none =>
  have hx0 : xs.length = 0 := by
   rcases hown.2 with ⟨_, e⟩ | ⟨g', cap, cur, e, _⟩
   ·exact e
   ·cases e
  obtain ⟨v1, w1, hrun, h1, h2, _⟩ := run_append_own (P := Tryd.prog) W W.heap.size 22 ty 40 i0 _ 6 _ Tryd.underlying22 hi hz0 hz1 hz2 rfl (by decide) (.slice none 0 0) 0 [] (World.ownsRow_nil W _ 40 6) ⟨g, 0, none⟩ 1 1 (eCells y) rfl hnews (by intro u hu; simp [eCells] at hu; rcases hu with rfl | rfl | rfl | rfl | rfl | rfl <;> rfl) (by decide) (by decide) (Nat.le_refl _)
  have hin : inner = [] := List.eq_nil_of_length_eq_zero (by omega)
  refine ⟨v1, w1, by rw [hx0]; exact hrun, hfin v1 w1 (by rw [hx0, hin]; exact h1), h2⟩
theorem app_full_step {ops : Array Oper} {Kc : Act → World → Prop} {Q : Exit → Act → World → Prop} {o : Oper} {a : Act} {W : World} (hw : Region.wanted o (yielded ops a.tmps) = true) (s x : Operand) (ho : o.op = .call { callee := .builtin .append, args := #[s, x], argTypes := #[22, 22] })
  {base : Nat} {ok : Nat → Prop} {A : Option Addr} {n c : Nat} {xs : List S40} (g : Nat) (y : S40) (hs : a.eval s = .slice A n n) (hx : a.eval x = .slice (some ⟨g, 0, none⟩) 1 1) (hR : Kd.R k40 40 W base ok (.slice A n c) xs) (hn : n = xs.length) (hg : W.heap[g]? = some (.cells #[.string y.f0, .int .i64 y.f1.f0, .int .u64 y.f1.f1, .string y.f2, .string y.f3, .string y.f4] 40 (0, 0))) (hl : xs.length ≤ 1000001)
  (h : ∀ v1 w1, Kd.R k40 40 w1 W.heap.size (fun _ => True) v1 (xs ++ [y]) → W.grownBy w1 none → Kc (a.put o.dst v1) w1) :
  if Region.wanted o (yielded ops a.tmps) = true then Oper.wp Tryd.prog o a W Kc Q else Kc (a.put o.dst undef) W := by
 obtain ⟨v1, w1, hr1, h1, h2⟩ := app_full hR hn g y hg hl o.type
 rw [if_pos hw]
 unfold Oper.wp execOp
 simp only [ho, resolve, invoke, builtin, Sem.run_bind, Sem.run_pure, Result.andThen_ok, List.map_toArray, List.map_cons, List.map_nil, hs, hx, hr1]
 exact h v1 w1 h1 h2
/-- What a map's block tells hangs on the block alone. -/
theorem owns_of {W W' : World} {m n : Nat} {D : DataW Unit} (h : W.ownsMap Tryd.prog 25 (plainElem Tryd.prog 3) m n D) (e : W'.heap[m]? = W.heap[m]?) : W'.ownsMap Tryd.prog 25 (plainElem Tryd.prog 3) m n D := by
 obtain ⟨es, clock, hb, r⟩ := h
 exact ⟨es, clock, e.trans hb, r⟩
/-- 'm[k]++' of a label: the entry is fetched, and stored; what was there is read ahead of it or behind. -/
theorem map_up (a : S25) (ha : lblWf a) (m n : Nat) (D : DataW Unit) (W : World) (h : W.ownsMap Tryd.prog 25 (plainElem Tryd.prog 3) m n D) (hn : n < maxLen) (c : Int) (hc : D.atKey (lbl a) (.lit (.int .i64 0)) = .lit (.int .i64 c)) :
  ∃ (st : Nat) (es1 : Array MapEntry) (clock1 : Nat) (v0 : Value), (Instr.mapEntry 74 (.map (some m)) (.agg #[.int .i64 a.f0, .int .u64 a.f1])).run Tryd.prog W = .ok (.tuple #[v0, goInt st]) (Go.ChangeMaps.setBlock W m (.map es1 clock1)) ∧
   (∀ W', W'.heap[m]? = W.heap[m]? ∨ W'.heap[m]? = some (.map es1 clock1) → (Instr.lookup 74 (.map (some m)) (.agg #[.int .i64 a.f0, .int .u64 a.f1]) false).run Tryd.prog W' = .ok (.int .i64 c) W') ∧
   ∀ (W2 : World) (x : Int), (Lit.int .i64 x).wf = true → W2.heap[m]? = some (.map es1 clock1) → ∃ es' clock', (Instr.entryStore 74 (.map (some m)) (goInt st) (.int .i64 x)).run Tryd.prog W2 = .ok () (Go.ChangeMaps.setBlock W2 m (.map es' clock')) ∧ (Go.ChangeMaps.setBlock W2 m (.map es' clock')).ownsMap Tryd.prog 25 (plainElem Tryd.prog 3) m (n + 1) (D.put (lbl a) (.lit (.int .i64 x))) := by
 have hlook : ∀ (W' : World) (n' : Nat) (D' : DataW Unit), W'.ownsMap Tryd.prog 25 (plainElem Tryd.prog 3) m n' D' → D'.atKey (lbl a) (.lit (.int .i64 0)) = .lit (.int .i64 c) → (Instr.lookup 74 (.map (some m)) (.agg #[.int .i64 a.f0, .int .u64 a.f1]) false).run Tryd.prog W' = .ok (.int .i64 c) W' := by
  intro W' n' D' h' hc'
  obtain ⟨c', h1, h2, _⟩ := h'.lookup_int lbl_keyed Tryd.underlying74 Tryd.underlying3 (Tryd.zeroValue3 W') (lbl_key a ha)
  rw [hc'] at h2
  simp at h2
  subst h2
  exact h1
 have hm : m < W.heap.size := h.lt
 have h0 := h
 obtain ⟨es, clock, hb, F, hs, hD⟩ := h
 have K := lbl_law
 have ht := Tryd.underlying74
 have hkey := lbl_key a ha
 obtain ⟨s1, s2, _⟩ := F.stamped
 rcases K.find W hkey es.toList F.keys with ⟨h1, h2⟩ | ⟨j, e0, h1, h2, h3⟩
 ·have hup : ∀ x : Int, (Instr.mapUpdate 74 (.map (some m)) (.agg #[.int .i64 a.f0, .int .u64 a.f1]) (.int .i64 x)).run Tryd.prog W = .ok () (Go.ChangeMaps.setBlock W m (.map (es.push ⟨.agg #[.int .i64 a.f0, .int .u64 a.f1], .int .i64 x, clock⟩) (clock + 1))) := fun x => by
   simp [Instr.mapUpdate, run_underlying ht, MapKept.run_getObj_map hb, K.check W false hkey, h1, MapKept.run_setObj_map _ hb, Result.andThen, Go.ChangeMaps.setBlock]
  have hown : ∀ (x : Int) (W' : World), (Lit.int .i64 x).wf = true → W'.heap[m]? = some (.map (es.push ⟨.agg #[.int .i64 a.f0, .int .u64 a.f1], .int .i64 x, clock⟩) (clock + 1)) → W'.ownsMap Tryd.prog 25 (plainElem Tryd.prog 3) m (n + 1) (D.put (lbl a) (.lit (.int .i64 x))) := fun x W' hx hW' => by
   obtain ⟨w', k1, k2, _⟩ := h0.update lbl_keyed ht hn hkey (plainElem_int Tryd.underlying3 hx)
   rw [hup x] at k1
   simp only [Result.ok.injEq, true_and] at k1
   rw [← k1] at k2
   refine owns_of k2 ?_
   rw [hW']
   exact (Go.ChangeMaps.heap_setBlock_same hb _).symm
  have hnone := atKey_none K F hkey h2 (.lit (.int .i64 0))
  rw [hD, hnone] at hc
  simp at hc
  subst hc
  refine ⟨clock, es.push ⟨.agg #[.int .i64 a.f0, .int .u64 a.f1], .int .i64 0, clock⟩, clock + 1, .int .i64 0, ?_, ?_, ?_⟩
  ·simp [Instr.mapEntry, run_underlying ht, MapKept.run_getObj_map hb, K.check W false hkey, h1, Tryd.zeroValue3, MapKept.run_setObj_map _ hb, Result.andThen, Go.ChangeMaps.setBlock]
  ·rintro W' (e | e)
   ·exact hlook W' n D (owns_of h0 e) (by rw [hD]; exact hnone)
   ·exact hlook W' (n + 1) _ (hown 0 W' (by decide) e) (atKey_put_same h0.isMap (lbl_isKey a) _ _)
  ·intro W2 x hx hW2
   refine ⟨es.push ⟨.agg #[.int .i64 a.f0, .int .u64 a.f1], .int .i64 x, clock⟩, clock + 1, ?_, hown x _ hx (Go.ChangeMaps.heap_setBlock_same hW2 _)⟩
   have hidx : (es.push ⟨.agg #[.int .i64 a.f0, .int .u64 a.f1], .int .i64 0, clock⟩).findIdx? (fun e => ((e.born : Nat) : Int) == ((clock : Nat) : Int)) = some es.size := by
    rw [findIdx_arr]
    exact findIdx_born (l := (es.push ⟨.agg #[.int .i64 a.f0, .int .u64 a.f1], .int .i64 0, clock⟩).toList) (j := es.size) (e0 := ⟨.agg #[.int .i64 a.f0, .int .u64 a.f1], .int .i64 0, clock⟩) (by
     simp only [Array.toList_push, List.map_append, List.map_cons, List.map_nil]
     refine List.nodup_append.2 ⟨s2, by simp, fun a ha c hc e1 => ?_⟩
     simp only [List.mem_singleton] at hc
     obtain ⟨x, hx, rfl⟩ := List.mem_map.1 ha
     have := s1 x hx
     omega) (by simp)
   have hmod : (es.push ⟨.agg #[.int .i64 a.f0, .int .u64 a.f1], .int .i64 0, clock⟩).modify es.size (fun e => { e with val := .int .i64 x }) = es.push ⟨.agg #[.int .i64 a.f0, .int .u64 a.f1], .int .i64 x, clock⟩ := by
    apply Array.ext'
    rw [Array.toList_modify, Array.toList_push, Array.toList_push, ← Array.length_toList, modify_last]
   simp [Instr.entryStore, MapKept.run_getObj_map hW2, asInt, asIntOf, goInt, hidx, hmod, MapKept.run_setObj_map _ hW2, Result.andThen, Go.ChangeMaps.setBlock]
 ·have hj : es[j]? = some e0 := by simpa using h2
  have hsame : es.modify j (fun e => { e with key := .agg #[.int .i64 a.f0, .int .u64 a.f1] }) = es := by
   apply Array.ext'
   rw [Array.toList_modify, Go.ChangeMaps.modify_eq_set _ _ _ _ h2]
   have : ({ e0 with key := .agg #[.int .i64 a.f0, .int .u64 a.f1] } : MapEntry) = e0 := by rw [← h3]
   rw [this]
   exact set_self _ _ _ h2
  have hup : ∀ x : Int, (Instr.mapUpdate 74 (.map (some m)) (.agg #[.int .i64 a.f0, .int .u64 a.f1]) (.int .i64 x)).run Tryd.prog W = .ok () (Go.ChangeMaps.setBlock W m (.map (es.modify j (fun e' => { e' with key := .agg #[.int .i64 a.f0, .int .u64 a.f1], val := .int .i64 x })) clock)) := fun x => by
   simp [Instr.mapUpdate, run_underlying ht, MapKept.run_getObj_map hb, K.check W false hkey, h1, hj, h3, K.stays W hkey, MapKept.run_setObj_map _ hb, Result.andThen, Go.ChangeMaps.setBlock]
  have hown : ∀ (x : Int) (W' : World), (Lit.int .i64 x).wf = true → W'.heap[m]? = some (.map (es.modify j (fun e' => { e' with key := .agg #[.int .i64 a.f0, .int .u64 a.f1], val := .int .i64 x })) clock) → W'.ownsMap Tryd.prog 25 (plainElem Tryd.prog 3) m (n + 1) (D.put (lbl a) (.lit (.int .i64 x))) := fun x W' hx hW' => by
   obtain ⟨w', k1, k2, _⟩ := h0.update lbl_keyed ht hn hkey (plainElem_int Tryd.underlying3 hx)
   rw [hup x] at k1
   simp only [Result.ok.injEq, true_and] at k1
   rw [← k1] at k2
   refine owns_of k2 ?_
   rw [hW']
   exact (Go.ChangeMaps.heap_setBlock_same hb _).symm
  refine ⟨e0.born, es, clock, e0.val, ?_, ?_, ?_⟩
  ·simp [Instr.mapEntry, run_underlying ht, MapKept.run_getObj_map hb, K.check W false hkey, h1, hj, h3, K.stays W hkey, hsame, MapKept.run_setObj_map _ hb, Result.andThen, Go.ChangeMaps.setBlock]
  ·intro W' e
   have e' : W'.heap[m]? = W.heap[m]? := by
    rcases e with e | e
    ·exact e
    ·rw [e, hb]
   exact hlook W' n D (owns_of h0 e') hc
  ·intro W2 x hx hW2
   refine ⟨es.modify j (fun e' => { e' with key := .agg #[.int .i64 a.f0, .int .u64 a.f1], val := .int .i64 x }), clock, ?_, hown x _ hx (Go.ChangeMaps.heap_setBlock_same hW2 _)⟩
   have hidx : es.findIdx? (fun e => ((e.born : Nat) : Int) == ((e0.born : Nat) : Int)) = some j := by
    rw [findIdx_arr]
    exact findIdx_born s2 h2
   have hmod : es.modify j (fun e => { e with val := .int .i64 x }) = es.modify j (fun e' => { e' with key := .agg #[.int .i64 a.f0, .int .u64 a.f1], val := .int .i64 x }) := by
    apply Array.ext'
    rw [Array.toList_modify, Array.toList_modify, Go.ChangeMaps.modify_eq_set _ _ _ _ h2, Go.ChangeMaps.modify_eq_set _ _ _ _ h2, ← h3]
   simp [Instr.entryStore, MapKept.run_getObj_map hW2, asInt, asIntOf, goInt, hidx, hmod, MapKept.run_setObj_map _ hW2, Result.andThen, Go.ChangeMaps.setBlock]
theorem logCnt_le (a : S25) (xs : List S40) : logCnt a xs ≤ xs.length := List.length_filter_le _ _
theorem logCnt_same (xs : List S40) (y : S40) : logCnt y.f1 (xs ++ [y]) = logCnt y.f1 xs + 1 := by
 unfold logCnt
 rw [List.filter_append, List.length_append]
 simp
theorem logCnt_other {a : S25} (xs : List S40) {y : S40} (h : y.f1 ≠ a) : logCnt a (xs ++ [y]) = logCnt a xs := by
 unfold logCnt
 rw [List.filter_append, List.length_append]
 have : (y.f1.f0 == a.f0 && y.f1.f1 == a.f1) = false := by
  rw [Bool.eq_false_iff]
  intro e
  rw [Bool.and_eq_true, beq_iff_eq, beq_iff_eq] at e
  apply h
  have h1 := e.1
  have h2 := e.2
  cases hy : y.f1
  cases a
  rw [hy] at h1 h2
  simp only at h1 h2
  rw [h1, h2]
 simp [this]
theorem cnt_put (D : DataW Unit) (hD : IsMap D) (xs : List S40) (y : S40) (hy : lblWf y.f1) (h : cntOk D xs) : cntOk (D.put (lbl y.f1) (.lit (.int .i64 ((logCnt y.f1 xs : Int) + 1)))) (xs ++ [y]) := by
 intro a ha
 by_cases e : y.f1 = a
 ·subst e
  rw [atKey_put_same hD (lbl_isKey _), logCnt_same]
  rfl
 ·rw [atKey_put_other (fun e' => e (lbl_inj hy ha e'.symm)), h a ha, logCnt_other xs e]
theorem R_keep {W W' : World} {base : Nat} {v : Value} {xs : List S40} (h2 : Kd.R k40 40 W base (fun _ => True) v xs) (hE : ∀ (k : Nat) (cs : Array Value) (fz : Nat × Nat), W.heap[k]? = some (Obj.cells cs 40 fz) → W'.heap[k]? = W.heap[k]?) : Kd.R k40 40 W' base (fun _ => True) v xs := by
 refine Kd.R_mono (Kd.R_step (Kd.R_bound h2) fun k hk _ => ?_) (fun _ _ => trivial)
 obtain ⟨_, _, _, q, hq, cs, hc⟩ := hk
 have hq' : q = 40 := by
  rcases List.mem_cons.1 hq with h | h
  ·exact h
  ·rw [show k40.E = [] from by decide] at h
   cases h
 subst hq'
 exact hE k cs _ hc
theorem block_far {W : World} {m k : Nat} {es : Array MapEntry} {clock : Nat} (h : W.heap[m]? = some (.map es clock)) (o : Obj) (hk : k ≠ m) : (Go.ChangeMaps.setBlock W m o).heap[k]? = W.heap[k]? := Go.ChangeMaps.heap_setBlock_other h o hk
theorem block_below {W w0 : World} {base m : Nat} {es : Array MapEntry} {clock : Nat} (hB : Below base w0 W) (h : W.heap[m]? = some (.map es clock)) (es' : Array MapEntry) (clock' : Nat) (hm : base ≤ m) : Below base w0 (Go.ChangeMaps.setBlock W m (.map es' clock')) := by
 have hg : W.grownBy (Go.ChangeMaps.setBlock W m (.map es' clock')) (some m) := World.mapTurned.grown ⟨es, clock, es', clock', h, rfl⟩
 exact hB.grown hg (Nat.le_trans hm (Nat.le_of_lt (blk_lt h))) (fun k e => by injection e with e; omega)
/-- Where Add ends. -/
theorem add_done {w0 w w2 w10 : World} {base p m : Nat} {xs : List S40} {y : S40} {D : DataW Unit} {v v10 : Value} {lit : Array Value} (hy : lblWf y.f1) (hB : Below base w0 w) (hpb : base ≤ p) (hmb : base ≤ m) (hp : p < w.heap.size) (hm : m < w.heap.size) (hD : Below w.heap.size w w2)
  (hL : w2.heap[p]? = some (.cells #[v, .map (some m)] 76 (0, 0))) (hO : w2.ownsMap Tryd.prog 25 (plainElem Tryd.prog 3) m xs.length D) (hC : cntOk D xs)
  (hr : Kd.R k40 40 w10 (w2.drew.alloc (.cells lit 40 (0, 0))).heap.size (fun _ => True) v10 (xs ++ [y])) (hg : (w2.drew.alloc (.cells lit 40 (0, 0))).grownBy w10 none) :
  (w10.setCell ⟨p, 0, none⟩ v10).drew.ownsMap Tryd.prog 25 (plainElem Tryd.prog 3) m xs.length D ∧ (w10.setCell ⟨p, 0, none⟩ v10).heap[p]? = some (.cells #[v10, .map (some m)] 76 (0, 0)) ∧
  ∀ (es1 es2 : Array MapEntry) (c1 c2 : Nat), (Go.ChangeMaps.setBlock (Go.ChangeMaps.setBlock (w10.setCell ⟨p, 0, none⟩ v10).drew m (.map es1 c1)) m (.map es2 c2)).ownsMap Tryd.prog 25 (plainElem Tryd.prog 3) m (xs.length + 1) (D.put (lbl y.f1) (.lit (.int .i64 ((logCnt y.f1 xs : Int) + 1)))) →
   LogX (Go.ChangeMaps.setBlock (Go.ChangeMaps.setBlock (w10.setCell ⟨p, 0, none⟩ v10).drew m (.map es1 c1)) m (.map es2 c2)) base p m (xs ++ [y]) ∧ Below base w0 (Go.ChangeMaps.setBlock (Go.ChangeMaps.setBlock (w10.setCell ⟨p, 0, none⟩ v10).drew m (.map es1 c1)) m (.map es2 c2)) ∧ w.heap.size ≤ (Go.ChangeMaps.setBlock (Go.ChangeMaps.setBlock (w10.setCell ⟨p, 0, none⟩ v10).drew m (.map es1 c1)) m (.map es2 c2)).heap.size ∧ ∀ q, q < w.heap.size → q ≠ p → q ≠ m → (Go.ChangeMaps.setBlock (Go.ChangeMaps.setBlock (w10.setCell ⟨p, 0, none⟩ v10).drew m (.map es1 c1)) m (.map es2 c2)).heap[q]? = w.heap[q]? := by
 have hDm := hO.isMap
 obtain ⟨es, clock, hmb2, hrest⟩ := hO
 have hpm : p ≠ m := by
  rintro rfl
  rw [hL] at hmb2
  cases hmb2
 have h2 : p < w2.heap.size := blk_lt hL
 have hm2 : m < w2.heap.size := blk_lt hmb2
 have hb1 : ∀ q, q < w2.heap.size → (w2.drew.alloc (.cells lit 40 (0, 0))).heap[q]? = w2.heap[q]? := fun q hq => Below.heap_alloc w2.drew _ q hq
 have hs1 : (w2.drew.alloc (.cells lit 40 (0, 0))).heap.size = w2.heap.size + 1 := World.size_alloc ..
 have hb2 : ∀ q, q < w2.heap.size → w10.heap[q]? = w2.heap[q]? := fun q hq => (hg.block q (by omega) (by simp)).trans (hb1 q hq)
 have hL10 := (hb2 p h2).trans hL
 have hL11 : (w10.setCell ⟨p, 0, none⟩ v10).heap[p]? = some (.cells #[v10, .map (some m)] 76 (0, 0)) := blk_put (cs := #[v, .map (some m)]) hL10 0 v10 rfl
 have hM11 : (w10.setCell ⟨p, 0, none⟩ v10).heap[m]? = some (.map es clock) := (Below.heap_setCell w10 ⟨p, 0, none⟩ v10 m (fun e => hpm e.symm)).trans ((hb2 m hm2).trans hmb2)
 refine ⟨⟨es, clock, hM11, hrest⟩, hL11, fun es1 es2 c1 c2 hown => ?_⟩
 have hM12 : (Go.ChangeMaps.setBlock (w10.setCell ⟨p, 0, none⟩ v10).drew m (.map es1 c1)).heap[m]? = some (.map es1 c1) := Go.ChangeMaps.heap_setBlock_same (w := (w10.setCell ⟨p, 0, none⟩ v10).drew) hM11 _
 have hfar : ∀ q, q ≠ m → (Go.ChangeMaps.setBlock (Go.ChangeMaps.setBlock (w10.setCell ⟨p, 0, none⟩ v10).drew m (.map es1 c1)) m (.map es2 c2)).heap[q]? = (w10.setCell ⟨p, 0, none⟩ v10).heap[q]? := fun q hq => (block_far hM12 _ hq).trans (block_far (W := (w10.setCell ⟨p, 0, none⟩ v10).drew) hM11 _ hq)
 have hsz : w2.heap.size + 1 ≤ w10.heap.size := by have := hg.size; omega
 have hbase : base ≤ w.heap.size := by omega
 have hBel : Below base w0 (w10.setCell ⟨p, 0, none⟩ v10).drew := ((((hB.trans (hD.mono hbase)).drew.alloc (by have := hD.size; show base ≤ w2.heap.size; omega) _).grown hg (by omega) (fun k e => by cases e)).setCell hpb v10).drew
 refine ⟨⟨v10, _, (hfar p hpm).trans hL11, R_keep (Kd.R_lower hr (by have := hD.size; omega)) (fun k cs fz hk => ?_), by rw [List.length_append]; exact hown, cnt_put D hDm xs y hy hC⟩, block_below (block_below hBel hM11 es1 c1 hmb) hM12 es2 c2 hmb, ?_, fun q hq h1 h3 => ?_⟩
 ·have hkm : k ≠ m := by
   rintro rfl
   rw [(hb2 k hm2).trans hmb2] at hk
   cases hk
  have hkp : k ≠ p := by
   rintro rfl
   rw [hL10] at hk
   injection hk with hk
   injection hk with _ hk
   exact absurd hk (by decide)
  exact (hfar k hkm).trans (Below.heap_setCell w10 ⟨p, 0, none⟩ v10 k hkp)
 ·simp only [Go.ChangeMaps.setBlock, Array.size_setIfInBounds]
  have := hD.size
  show w.heap.size ≤ (w10.setCell ⟨p, 0, none⟩ v10).heap.size
  have e : (w10.setCell ⟨p, 0, none⟩ v10).heap.size = w10.heap.size := by simp [World.setCell]
  omega
 ·exact (hfar q h3).trans ((Below.heap_setCell w10 ⟨p, 0, none⟩ v10 q h1).trans ((hb2 q (by have := hD.size; omega)).trans (hD.block q hq)))
def addX (r : Int) (xs : List S40) (y : S40) : List S40 := if r = 0 then xs ++ [y] else xs
set_option maxHeartbeats 8000000 in
set_option maxRecDepth 100000 in
/-- An entry is taken, or refused. -/
theorem audit_Add.calls (k base p m : Nat) (w0 : World) (xs : List S40) (y : S40) (hy : lblWf y.f1) (w : World) (hX : LogX w base p m xs) (hB : Below base w0 w) (hpb : base ≤ p) (hmb : base ≤ m) (hl : xs.length ≤ 1000) (r : Int) (hr : audit_Check.f k y = some r) :
  Calls Tryd.prog 22 #[.pointer (some ⟨p, 0, none⟩), .agg #[.string y.f0, .int .i64 y.f1.f0, .int .u64 y.f1.f1, .string y.f2, .string y.f3, .string y.f4]] w fun e w' => e = .returned (.int .i64 r) ∧ LogX w' base p m (addX r xs y) ∧ Below base w0 w' ∧ w.heap.size ≤ w'.heap.size ∧ ∀ q, q < w.heap.size → q ≠ p → q ≠ m → w'.heap[q]? = w.heap[q]? := by
 have hpm : p < w.heap.size ∧ m < w.heap.size := by
  obtain ⟨v, D, h1, _, h3, _⟩ := hX
  exact ⟨(Array.getElem?_eq_some_iff.1 h1).1, h3.lt⟩
 have hbw : base ≤ w.heap.size := by omega
 have hlim : decide ((xs.length : Int) ≥ 1000000) = false := decide_eq_false (by omega)
 obtain ⟨W1, hW1⟩ : ∃ W1 : World, W1 = w.alloc (.cells #[.string y.f0, .int .i64 y.f1.f0, .int .u64 y.f1.f1, .string y.f2, .string y.f3, .string y.f4] 40 (0, 0)) := ⟨_, rfl⟩
 have hbox : W1.heap[w.heap.size]? = some (.cells #[.string y.f0, .int .i64 y.f1.f0, .int .u64 y.f1.f1, .string y.f2, .string y.f3, .string y.f4] 40 (0, 0)) := by
  rw [hW1]
  exact World.alloc_heap_new w _
 have hbox0 := World.alloc_heap_new w (.cells #[.string y.f0, .int .i64 y.f1.f0, .int .u64 y.f1.f1, .string y.f2, .string y.f3, .string y.f4] 40 (0, 0))
 have hx0 := (blk_cell hbox0 0).trans rfl
 have hx1 := (blk_cell hbox0 1).trans rfl
 have hx2 := (blk_cell hbox0 2).trans rfl
 have hx3 := (blk_cell hbox0 3).trans rfl
 have hx4 := (blk_cell hbox0 4).trans rfl
 have hx5 := (blk_cell hbox0 5).trans rfl
 have HBX := Aside0.mk hbox
 have HB1 : Aside0 (Below w.heap.size w W1) := ⟨by rw [hW1]; exact (Below.refl w.heap.size w).alloc (Nat.le_refl _) _⟩
 have HX := Aside0.mk hX
 have HB := Aside0.mk hB
 have HR := Aside0.mk hr
 have HW1 := Aside0.mk hW1
 clear hX hB hr hbox hbox0 hW1
 by_cases hr0 : r = 0
 ·have hne : (r != 0) = false := by simp [hr0]
  subst hr0
  go_enter Tryd.func22, Tryd.ntmps22
  go_wp2_with (go_at_call 44; rw [← HW1.out]; (refine (audit_Check.calls k y 0 _ HR.out).mono ?_); rintro e_ w2 ⟨rfl, hd⟩; have HBX2 := Aside0.mk ((hd.block _ (Array.getElem?_eq_some_iff.1 HBX.out).1).trans HBX.out); have HD := Aside0.mk (HB1.out.trans (hd.mono HB1.out.size)); obtain ⟨v, D, hx, hv, ho, hcn⟩ := LogX.below HX.out HD.out; obtain ⟨Av, cv, ev⟩ := Kd.R_slice hv; subst ev; have HL := Aside0.mk hx; have HV := Aside0.mk hv; have HO := Aside0.mk ho; have HC := Aside0.mk hcn; have hc0 := (blk_cell hx 0).trans rfl; have hc1 := (blk_cell hx 1).trans rfl; clear hd hx hv ho hcn)
  have hn2 : p < w2.heap.size ∧ w.heap.size < w2.heap.size := ⟨(Array.getElem?_eq_some_iff.1 HL.out).1, (Array.getElem?_eq_some_iff.1 HBX2.out).1⟩
  have hcap : xs.length ≤ cv := (Kd.R_reads' HV.out).2.1
  have hLd := blk_drew HL.out
  have hBd := blk_drew HBX2.out
  have hVd := Kd.R_drew HV.out
  clear hc0 hc1
  refine start_ (n := 14) (S := fun w' => w'.cell? ⟨p, 0, none⟩ = some (.slice Av xs.length cv) ∧ w'.cell? ⟨w.heap.size, 0, none⟩ = some (.string y.f0) ∧ w'.cell? ⟨w.heap.size, 1, none⟩ = some (.int .i64 y.f1.f0) ∧ w'.cell? ⟨w.heap.size, 2, none⟩ = some (.int .u64 y.f1.f1) ∧ w'.cell? ⟨w.heap.size, 3, none⟩ = some (.string y.f2) ∧ w'.cell? ⟨w.heap.size, 4, none⟩ = some (.string y.f3) ∧ w'.cell? ⟨w.heap.size, 5, none⟩ = some (.string y.f4) ∧ w'.frozen? ⟨p, 0, none⟩ = false) (ds := [13]) (Sq.bl 14 0) (by kernel_rfl) rfl (by rfl) ⟨(blk_cell hLd 0).trans rfl, (blk_cell hBd 0).trans rfl, (blk_cell hBd 1).trans rfl, (blk_cell hBd 2).trans rfl, (blk_cell hBd 3).trans rfl, (blk_cell hBd 4).trans rfl, (blk_cell hBd 5).trans rfl, blk_frozen hLd 0⟩ (fun hS => ?_)
  refine Sq.pu (v := ?_) (a' := ?_) 0 21 (Sq.bl 14 1) (by kernel_rfl) rfl rfl (fun _ _ _ h => h) (by rfl) ?_ ?_ ?_; rotate_left; (· intro w'; go_simp; with_reducible rfl); rotate_left; (· simp only [Act.put,zp1,zp2,zp3,zp4,zp5]; rfl)
  refine Sq.pu (v := ?_) (a' := ?_) 1 22 (Sq.bl 14 3) (by kernel_rfl) rfl rfl (fun _ _ _ h => h) (by rfl) ?_ ?_ ?_; rotate_left; (· intro w'; go_simp; with_reducible rfl); rotate_left; (· simp only [Act.put,zp1,zp2,zp3,zp4,zp5]; rfl)
  refine Sq.pu (v := ?_) (a' := ?_) 2 23 (Sq.bl 14 7) (by kernel_rfl) rfl rfl (fun _ _ _ h => h) (by rfl) ?_ ?_ ?_; rotate_left; (· intro w'; go_simp; with_reducible rfl); rotate_left; (· simp only [Act.put,zp1,zp2,zp3,zp4,zp5]; rfl)
  refine Sq.pu (v := ?_) (a' := ?_) 3 24 (Sq.bl 14 15) (by kernel_rfl) rfl rfl (fun _ _ _ h => h) (by rfl) ?_ ?_ ?_; rotate_left; (· intro w'; go_simp; with_reducible rfl); rotate_left; (· simp only [Act.put,zp1,zp2,zp3,zp4,zp5]; rfl)
  refine Sq.pu (v := ?_) (a' := ?_) 5 26 (Sq.bl 14 47) (by kernel_rfl) rfl rfl (fun _ _ _ h => h) (by rfl) ?_ ?_ ?_; rotate_left; (· intro w'; go_simp; with_reducible rfl); rotate_left; (· simp only [Act.put,zp1,zp2,zp3,zp4,zp5]; rfl)
  refine Sq.pu (v := ?_) (a' := ?_) 6 27 (Sq.bl 14 111) (by kernel_rfl) rfl rfl (fun _ _ _ h => h) (by rfl) ?_ ?_ ?_; rotate_left; (· intro w'; go_simp; with_reducible rfl); rotate_left; (· simp only [Act.put,zp1,zp2,zp3,zp4,zp5]; rfl)
  refine take_ (i := 4) (N := some 25) (v := ?_) (a' := ?_) (Sq.bl 14 127) rfl rfl (by kernel_rfl) (fun _ _ _ h => h) (Or.inl ⟨by rfl, ?_⟩) hS ?_ ?_; rotate_left; (· rintro w' ⟨s0, s1, s2, s3, s4, s5, s6, s7⟩; go_simp; with_reducible rfl); rotate_left; (· simp only [Act.put,zp1,zp2,zp3,zp4,zp5]; rfl)
  refine Sq.pu (v := ?_) (a' := ?_) 7 28 (Sq.bl 14 255) (by kernel_rfl) rfl rfl (fun _ _ _ h => h) (by rfl) ?_ ?_ ?_; rotate_left; (· intro w'; go_simp; with_reducible rfl); rotate_left; (· simp only [Act.put,zp1,zp2,zp3,zp4,zp5]; rfl)
  refine take_ (i := 8) (N := some 29) (v := ?_) (a' := ?_) (Sq.bl 14 511) rfl rfl (by kernel_rfl) (fun _ _ _ h => h) (Or.inl ⟨by rfl, ?_⟩) hS ?_ ?_; rotate_left; (· rintro w' ⟨s0, s1, s2, s3, s4, s5, s6, s7⟩; go_simp; with_reducible rfl); rotate_left; (· simp only [Act.put,zp1,zp2,zp3,zp4,zp5]; rfl)
  refine one_ (i := 9) (N := some 30) (Sq.bl 14 1023) rfl rfl (by kernel_rfl) (by decide) (fun K hK => ?_)
  refine value_ (w1 := ?_) (v := ?_) (by rfl) rfl ?_ ?_
  rotate_left 2
  ·go_simp
   constructor
   ·rfl
   ·rfl
  have hlit := World.alloc_heap_new w2.drew (.cells #[.string y.f0, .int .i64 y.f1.f0, .int .u64 y.f1.f1, .string y.f2, .string y.f3, .string y.f4] 40 (0, 0))
  have hLe := blk_alloc hLd (.cells #[.string y.f0, .int .i64 y.f1.f0, .int .u64 y.f1.f1, .string y.f2, .string y.f3, .string y.f4] 40 (0, 0))
  have hBe := blk_alloc hBd (.cells #[.string y.f0, .int .i64 y.f1.f0, .int .u64 y.f1.f1, .string y.f2, .string y.f3, .string y.f4] 40 (0, 0))
  have hVe := Kd.R_alloc hVd (.cells #[.string y.f0, .int .i64 y.f1.f0, .int .u64 y.f1.f1, .string y.f2, .string y.f3, .string y.f4] 40 (0, 0))
  refine hK.out _ _ ⟨(blk_cell hLe 0).trans rfl, (blk_cell hBe 0).trans rfl, (blk_cell hBe 1).trans rfl, (blk_cell hBe 2).trans rfl, (blk_cell hBe 3).trans rfl, (blk_cell hBe 4).trans rfl, (blk_cell hBe 5).trans rfl, blk_frozen hLe 0⟩ (fun hS => ?_)
  clear hK K
  refine norm_ (a' := ?_) ?_ ?_
  rotate_left
  ·show Act.put _ (some 30) _ = _
   simp only [Act.put,zp1,zp2,zp3,zp4,zp5]
   rfl
  refine one_ (i := 10) (N := some 31) (Sq.bl 14 2047) rfl rfl (by kernel_rfl) (by decide) (fun K hK => ?_)
  refine app_full_step (by rfl) (.tmp 28) (.tmp 30) rfl w2.drew.heap.size y rfl rfl hVe rfl hlit (by omega) ?_
  intro v10 w10 hr10 hg10
  obtain ⟨A10, c10, rfl⟩ := Kd.R_slice hr10
  have hLf := (hg10.block _ (Array.getElem?_eq_some_iff.1 hLe).1 (by simp)).trans hLe
  have hBf := (hg10.block _ (Array.getElem?_eq_some_iff.1 hBe).1 (by simp)).trans hBe
  refine hK.out _ _ ⟨(blk_cell hLf 0).trans rfl, (blk_cell hBf 0).trans rfl, (blk_cell hBf 1).trans rfl, (blk_cell hBf 2).trans rfl, (blk_cell hBf 3).trans rfl, (blk_cell hBf 4).trans rfl, (blk_cell hBf 5).trans rfl, blk_frozen hLf 0⟩ (fun hS => ?_)
  clear hK K
  refine norm_ (a' := ?_) ?_ ?_
  rotate_left
  ·show Act.put _ (some 31) _ = _
   simp only [Act.put,zp1,zp2,zp3,zp4,zp5]
   rfl
  refine Sq.pu (v := ?_) (a' := ?_) 11 32 (Sq.bl 14 4095) (by kernel_rfl) rfl rfl (fun _ _ _ h => h) (by rfl) ?_ ?_ ?_; rotate_left; (· intro w'; go_simp; with_reducible rfl); rotate_left; (· simp only [Act.put,zp1,zp2,zp3,zp4,zp5]; rfl)
  refine Sq.pu (v := ?_) (a' := ?_) 12 33 (Sq.bl 14 8191) (by kernel_rfl) rfl rfl (fun _ _ _ h => h) (by rfl) ?_ ?_ ?_; rotate_left; (· intro w'; go_simp; with_reducible rfl); rotate_left; (· simp only [Act.put,zp1,zp2,zp3,zp4,zp5]; rfl)
  refine last_ (i := 13) (N := none) (Sq.bl 14 16383) rfl rfl (by kernel_rfl) (by decide) (fun K hK => ?_)
  refine skip_ (w1 := ?_) (by rfl) rfl ?_ ?_
  rotate_left
  ·go_simp
   rfl
  refine hK.out _ _ ?_
  clear hK K
  refine done_ (by kernel_rfl) ?_
  have hdone := add_done hy HB.out hpb hmb hpm.1 hpm.2 HD.out HL.out HO.out HC.out hr10 hg10
  rw [show (xs ++ [y]).length = xs.length + 1 by simp] at hdone
  obtain ⟨hown11, hL11, hfin⟩ := hdone
  have hbp : w.heap.size ≠ p := by omega
  have hB11 : (w10.setCell ⟨p, 0, none⟩ (.slice A10 (xs.length + 1) c10)).heap[w.heap.size]? = some (.cells #[.string y.f0, .int .i64 y.f1.f0, .int .u64 y.f1.f1, .string y.f2, .string y.f3, .string y.f4] 40 (0, 0)) := blk_far hBf hbp _
  have hc2 := logCnt_le y.f1 xs
  have hxw : (Lit.int .i64 ((logCnt y.f1 xs : Int) + 1)).wf = true := by simp [Lit.wf, IntKind.min, IntKind.max, IntKind.signed, IntKind.bits]; omega
  have HWW : Aside0 (wrap64 ((logCnt y.f1 xs : Int) + 1) = (logCnt y.f1 xs : Int) + 1) := ⟨by unfold wrap64; omega⟩
  obtain ⟨st, es1, clock1, v0, hme, hlk, hst⟩ := map_up y.f1 hy m xs.length D _ hown11 (by simp only [maxLen]; omega) (logCnt y.f1 xs : Int) (HC.out y.f1 hy)
  have HME := Aside0.mk hme
  have HLK := Aside0.mk hlk
  have HST := Aside0.mk hst
  have HFIN := Aside0.mk hfin
  have hmp : p ≠ m := by
   rintro rfl
   obtain ⟨es, clock, hq, _⟩ := HO.out
   rw [HL.out] at hq
   cases hq
  have hmb1 : w.heap.size ≠ m := by omega
  obtain ⟨es0, clock0, hM11, _⟩ := hown11
  clear hme hlk hst hfin hc2
  go_wp2
  refine start_ (n := 11) (S := fun w' => w'.cell? ⟨p, 1, none⟩ = some (.map (some m)) ∧ w'.cell? ⟨w.heap.size, 1, none⟩ = some (.int .i64 y.f1.f0) ∧ w'.cell? ⟨w.heap.size, 2, none⟩ = some (.int .u64 y.f1.f1) ∧ (Instr.lookup 74 (.map (some m)) (.agg #[.int .i64 y.f1.f0, .int .u64 y.f1.f1]) false).run Tryd.prog w' = .ok (.int .i64 (logCnt y.f1 xs : Int)) w') (ds := [10]) (Sq.bl 11 0) (by kernel_rfl) rfl (by rfl) ⟨(blk_cell hL11 1).trans rfl, (blk_cell hB11 1).trans rfl, (blk_cell hB11 2).trans rfl, HLK.out _ (.inl rfl)⟩ (fun hS => ?_)
  refine Sq.pu (v := ?_) (a' := ?_) 0 34 (Sq.bl 11 1) (by kernel_rfl) rfl rfl (fun _ _ _ h => h) (by rfl) ?_ ?_ ?_; rotate_left; (· intro w'; go_simp; with_reducible rfl); rotate_left; (· simp only [Act.put, List.setIfInBounds_toArray, List.set_cons_zero, List.set_cons_succ, i64_w, i32_w, HWW.out]; rfl)
  refine Sq.pu (v := ?_) (a' := ?_) 1 35 (Sq.bl 11 3) (by kernel_rfl) rfl rfl (fun _ _ _ h => h) (by rfl) ?_ ?_ ?_; rotate_left; (· intro w'; go_simp; with_reducible rfl); rotate_left; (· simp only [Act.put, List.setIfInBounds_toArray, List.set_cons_zero, List.set_cons_succ, i64_w, i32_w, HWW.out]; rfl)
  refine Sq.pu (v := ?_) (a' := ?_) 2 36 (Sq.bl 11 7) (by kernel_rfl) rfl rfl (fun _ _ _ h => h) (by rfl) ?_ ?_ ?_; rotate_left; (· intro w'; go_simp; with_reducible rfl); rotate_left; (· simp only [Act.put, List.setIfInBounds_toArray, List.set_cons_zero, List.set_cons_succ, i64_w, i32_w, HWW.out]; rfl)
  refine Sq.pu (v := ?_) (a' := ?_) 4 38 (Sq.bl 11 23) (by kernel_rfl) rfl rfl (fun _ _ _ h => h) (by rfl) ?_ ?_ ?_; rotate_left; (· intro w'; go_simp; with_reducible rfl); rotate_left; (· simp only [Act.put, List.setIfInBounds_toArray, List.set_cons_zero, List.set_cons_succ, i64_w, i32_w, HWW.out]; rfl)
  refine take_ (i := 3) (N := some 37) (v := ?_) (a' := ?_) (Sq.bl 11 31) rfl rfl (by kernel_rfl) (fun _ _ _ h => h) (Or.inl ⟨by rfl, ?_⟩) hS ?_ ?_; rotate_left; (· rintro w' ⟨s0, s1, s2, s3⟩; go_simp; with_reducible rfl); rotate_left; (· simp only [Act.put, List.setIfInBounds_toArray, List.set_cons_zero, List.set_cons_succ, i64_w, i32_w, HWW.out]; rfl)
  refine take_ (i := 5) (N := some 39) (v := ?_) (a' := ?_) (Sq.bl 11 63) rfl rfl (by kernel_rfl) (fun _ _ _ h => h) (Or.inl ⟨by rfl, ?_⟩) hS ?_ ?_; rotate_left; (· rintro w' ⟨s0, s1, s2, s3⟩; go_simp; with_reducible rfl); rotate_left; (· simp only [Act.put, List.setIfInBounds_toArray, List.set_cons_zero, List.set_cons_succ, i64_w, i32_w, HWW.out]; rfl)
  refine take_ (i := 6) (N := some 40) (v := ?_) (a' := ?_) (Sq.bl 11 127) rfl rfl (by kernel_rfl) (fun _ _ _ h => h) (Or.inl ⟨by rfl, ?_⟩) hS ?_ ?_; rotate_left; (· rintro w' ⟨s0, s1, s2, s3⟩; go_simp; with_reducible rfl); rotate_left; (· simp only [Act.put, List.setIfInBounds_toArray, List.set_cons_zero, List.set_cons_succ, i64_w, i32_w, HWW.out]; rfl)
  refine Sq.pu (v := ?_) (a' := ?_) 7 41 (Sq.bl 11 255) (by kernel_rfl) rfl rfl (fun _ _ _ h => h) (by rfl) ?_ ?_ ?_; rotate_left; (· intro w'; go_simp; with_reducible rfl); rotate_left; (· simp only [Act.put, List.setIfInBounds_toArray, List.set_cons_zero, List.set_cons_succ, i64_w, i32_w, HWW.out]; rfl)
  refine one_ (i := 8) (N := some 42) (Sq.bl 11 511) rfl rfl (by kernel_rfl) (by decide) (fun K hK => ?_)
  refine value_ (w1 := ?_) (v := ?_) (by rfl) rfl ?_ ?_
  rotate_left 2
  ·go_simp
   rw [HME.out]
   rfl
  have hL12 := (block_far (W := (w10.setCell ⟨p, 0, none⟩ (.slice A10 (xs.length + 1) c10)).drew) hM11 (.map es1 clock1) hmp).trans hL11
  have hB12 := (block_far (W := (w10.setCell ⟨p, 0, none⟩ (.slice A10 (xs.length + 1) c10)).drew) hM11 (.map es1 clock1) hmb1).trans hB11
  refine hK.out _ _ ⟨(blk_cell hL12 1).trans rfl, (blk_cell hB12 1).trans rfl, (blk_cell hB12 2).trans rfl, HLK.out _ (.inr (Go.ChangeMaps.heap_setBlock_same (w := (w10.setCell ⟨p, 0, none⟩ (.slice A10 (xs.length + 1) c10)).drew) hM11 _))⟩ (fun hS => ?_)
  clear hK K
  refine norm_ (a' := ?_) ?_ ?_
  rotate_left
  ·show Act.put _ (some 42) _ = _
   simp only [Act.put, List.setIfInBounds_toArray, List.set_cons_zero, List.set_cons_succ, i64_w, i32_w, HWW.out]
   rfl
  refine Sq.pu (v := ?_) (a' := ?_) 9 43 (Sq.bl 11 1023) (by kernel_rfl) rfl rfl (fun _ _ _ h => h) (by rfl) ?_ ?_ ?_; rotate_left; (· intro w'; go_simp; with_reducible rfl); rotate_left; (· simp only [Act.put, List.setIfInBounds_toArray, List.set_cons_zero, List.set_cons_succ, i64_w, i32_w, HWW.out]; rfl)
  refine last_ (i := 10) (N := none) (Sq.bl 11 2047) rfl rfl (by kernel_rfl) (by decide) (fun K hK => ?_)
  obtain ⟨es2, clock2, hrun, hown2⟩ := HST.out _ _ hxw (Go.ChangeMaps.heap_setBlock_same (w := (w10.setCell ⟨p, 0, none⟩ (.slice A10 (xs.length + 1) c10)).drew) hM11 (.map es1 clock1))
  refine skip_ (w1 := ?_) (by rfl) rfl ?_ ?_
  rotate_left
  ·go_simp
   rw [show (Instr.entryStore 74 (.map (some m)) (.int .i64 (st : Int)) (.int .i64 ((logCnt y.f1 xs : Int) + 1))).run Tryd.prog _ = _ from hrun]
   rfl
  refine hK.out _ _ ?_
  clear hK K
  refine done_ (by kernel_rfl) ?_
  obtain ⟨f1, f2, f3, f4⟩ := HFIN.out es1 es2 clock1 clock2 hown2
  have HF := Aside0.mk (And.intro f1 (And.intro f2 (And.intro f3 f4)))
  clear f1 f2 f3 f4
  go_wp2
  go_ret
  refine ⟨rfl, ?_, HF.out.2.1, HF.out.2.2.1, HF.out.2.2.2⟩
  rw [addX, if_pos rfl]
  exact HF.out.1
 ·have hne : (r != 0) = true := bne_iff_ne.mpr hr0
  have HR0 := Aside0.mk hr0
  clear hr0
  go_enter Tryd.func22, Tryd.ntmps22
  go_wp2_with (go_at_call 44; rw [← HW1.out]; (refine (audit_Check.calls k y r _ HR.out).mono ?_); rintro e_ w2 ⟨rfl, hd⟩; have HD := Aside0.mk (HB1.out.trans (hd.mono HB1.out.size)); clear hd)
  go_ret
  refine ⟨rfl, ?_, HB.out.trans (HD.out.mono hbw), HD.out.size, fun q hq _ _ => HD.out.block q hq⟩
  rw [addX, if_neg HR0.out]
  exact LogX.below HX.out HD.out


end Go.Proofs.YtkinepmilnkhmaaDoor.A
end
section
namespace Go.Proofs.YtkinepmilnkhmaaDoor.A
open Go.RowKit Go.Proofs.YtkinepmilnkhmaaDoorW.PrintWords Go.Proofs.YtkinepmilnkhmaaDoorW.PrintLast Go.Proofs.YtkinepmilnkhmaaDoorW.PrintMore
attribute [local go_sem] max2_int min2_int max_two min_two max_three min_three max_four min_four   -- for this text's walks alone
set_option linter.unusedVariables false
set_option linter.unusedSimpArgs false

open Go.Maps Go.WideElems Go.MapKept
theorem audit_New.calls (w : World) :
    Calls Tryd.prog 43 #[] w fun e w' => ∃ p m : Nat, e = .returned (.pointer (some ⟨p, 0, none⟩)) ∧ w.heap.size ≤ p ∧ w.heap.size ≤ m ∧ LogX w' w.heap.size p m [] ∧ Below w.heap.size w w' := by
  have hmm := @run_makeMap Tryd.prog
  go_enter Tryd.func43, Tryd.ntmps43
  go_wp2
  go_ret
  have hn0 := World.alloc_heap_new w (.map #[] 0)
  have hn1 := World.alloc_heap_new (w.alloc (.map #[] 0)) (.cells #[.slice none 0 0, .map (some w.heap.size)] 76 (0, 0))
  rw [World.size_alloc] at hn1
  refine ⟨w.heap.size + 1, w.heap.size, rfl, Nat.le_succ _, Nat.le_refl _, ⟨.slice none 0 0, .map [], hn1, Kd.R_nil _ _ _ _ _, ?_, ?_⟩, ((Below.refl w.heap.size w).alloc (Nat.le_refl _) _).alloc (by rw [World.size_alloc]; omega) _⟩
  · exact (World.ownsMap_made w Tryd.prog 25 (plainElem Tryd.prog 3)).alloc _
  · intro a _
    rfl


end Go.Proofs.YtkinepmilnkhmaaDoor.A
end
section
namespace Go.Proofs.YtkinepmilnkhmaaDoor.A
open Go.RowKit Go.Proofs.YtkinepmilnkhmaaDoorW.PrintWords Go.Proofs.YtkinepmilnkhmaaDoorW.PrintLast Go.Proofs.YtkinepmilnkhmaaDoorW.PrintMore
attribute [local go_sem] max2_int min2_int max_two min_two max_three min_three max_four min_four   -- for this text's walks alone
set_option linter.unusedVariables false
set_option linter.unusedSimpArgs false

open Go.Maps Go.WideElems Go.MapKept
/-- What the map tells of a label. -/
theorem LogX.look {W : World} {base p m : Nat} {xs : List S40} (h : LogX W base p m xs) (a : S25) (ha : lblWf a) : ∃ v : Value, W.heap[p]? = some (Obj.cells #[v, .map (some m)] 76 (0, 0)) ∧ (Instr.lookup 74 (.map (some m)) (.agg #[.int .i64 a.f0, .int .u64 a.f1]) false).run Tryd.prog W = .ok (.int .i64 (logCnt a xs : Int)) W := by
 obtain ⟨v, D, h1, h2, h3, h4⟩ := h
 obtain ⟨c, hc, hd, _⟩ := h3.lookup_int lbl_keyed Tryd.underlying74 Tryd.underlying3 (Tryd.zeroValue3 W) (lbl_key a ha)
 rw [h4 a ha] at hd
 simp at hd
 subst hd
 exact ⟨v, h1, hc⟩
theorem audit_Of.calls (base p m : Nat) (xs : List S40) (a : S25) (ha : lblWf a) (w : World) (h : LogX w base p m xs) :
  Calls Tryd.prog 13 #[.pointer (some ⟨p, 0, none⟩), .agg #[.int .i64 a.f0, .int .u64 a.f1]] w fun e w' => e = .returned (.int .i64 (logCnt a xs : Int)) ∧ Below w.heap.size w w' := by
 have hX2 := LogX.below h (((Below.refl w.heap.size w).alloc (Nat.le_refl _) (.cells #[.int .i64 a.f0, .int .u64 a.f1] 25 (0, 0))).drew)
 obtain ⟨v, hb, hlk⟩ := LogX.look hX2 a ha
 have hbox := blk_drew (World.alloc_heap_new w (.cells #[.int .i64 a.f0, .int .u64 a.f1] 25 (0, 0)))
 have H0 := Aside0.mk (And.intro ((blk_cell hb 1).trans rfl) (And.intro ((blk_cell hbox 0).trans rfl) (And.intro ((blk_cell hbox 1).trans rfl) hlk)))
 have HB := Aside0.mk (((Below.refl w.heap.size w).alloc (Nat.le_refl _) (.cells #[.int .i64 a.f0, .int .u64 a.f1] 25 (0, 0))).drew)
 clear hb hbox hlk hX2 h
 go_enter Tryd.func13, Tryd.ntmps13
 go_wp2
 refine start_ (n := 7) (S := fun w' => w'.cell? ⟨p, 1, none⟩ = some (.map (some m)) ∧ w'.cell? ⟨w.heap.size, 0, none⟩ = some (.int .i64 a.f0) ∧ w'.cell? ⟨w.heap.size, 1, none⟩ = some (.int .u64 a.f1) ∧ (Instr.lookup 74 (.map (some m)) (.agg #[.int .i64 a.f0, .int .u64 a.f1]) false).run Tryd.prog w' = .ok (.int .i64 (logCnt a xs : Int)) w') (ds := []) (Sq.bl 7 0) (by kernel_rfl) rfl (by rfl) H0.out (fun hS => ?_)
 refine Sq.pu (v := ?_) (a' := ?_) 0 7 (Sq.bl 7 1) (by kernel_rfl) rfl rfl (fun _ _ _ h => h) (by rfl) ?_ ?_ ?_; rotate_left; (· intro w'; go_simp; with_reducible rfl); rotate_left; (· simp only [Act.put,zp1,zp2,zp3,zp4,zp5]; rfl)
 refine Sq.pu (v := ?_) (a' := ?_) 1 8 (Sq.bl 7 3) (by kernel_rfl) rfl rfl (fun _ _ _ h => h) (by rfl) ?_ ?_ ?_; rotate_left; (· intro w'; go_simp; with_reducible rfl); rotate_left; (· simp only [Act.put,zp1,zp2,zp3,zp4,zp5]; rfl)
 refine Sq.pu (v := ?_) (a' := ?_) 2 9 (Sq.bl 7 7) (by kernel_rfl) rfl rfl (fun _ _ _ h => h) (by rfl) ?_ ?_ ?_; rotate_left; (· intro w'; go_simp; with_reducible rfl); rotate_left; (· simp only [Act.put,zp1,zp2,zp3,zp4,zp5]; rfl)
 refine take_ (i := 3) (N := some 10) (v := ?_) (a' := ?_) (Sq.bl 7 15) rfl rfl (by kernel_rfl) (fun _ _ _ h => h) (Or.inl ⟨by rfl, ?_⟩) hS ?_ ?_; rotate_left; (· rintro w' ⟨s0, s1, s2, s3⟩; go_simp; with_reducible rfl); rotate_left; (· simp only [Act.put,zp1,zp2,zp3,zp4,zp5]; rfl)
 refine take_ (i := 4) (N := some 11) (v := ?_) (a' := ?_) (Sq.bl 7 31) rfl rfl (by kernel_rfl) (fun _ _ _ h => h) (Or.inl ⟨by rfl, ?_⟩) hS ?_ ?_; rotate_left; (· rintro w' ⟨s0, s1, s2, s3⟩; go_simp; with_reducible rfl); rotate_left; (· simp only [Act.put,zp1,zp2,zp3,zp4,zp5]; rfl)
 refine take_ (i := 5) (N := some 12) (v := ?_) (a' := ?_) (Sq.bl 7 63) rfl rfl (by kernel_rfl) (fun _ _ _ h => h) (Or.inl ⟨by rfl, ?_⟩) hS ?_ ?_; rotate_left; (· rintro w' ⟨s0, s1, s2, s3⟩; go_simp; with_reducible rfl); rotate_left; (· simp only [Act.put,zp1,zp2,zp3,zp4,zp5]; rfl)
 refine Sq.pu (v := ?_) (a' := ?_) 6 4 (Sq.bl 7 127) (by kernel_rfl) rfl rfl (fun _ _ _ h => h) (by rfl) ?_ ?_ ?_; rotate_left; (· intro w'; go_simp; with_reducible rfl); rotate_left; (· simp only [Act.put,zp1,zp2,zp3,zp4,zp5]; rfl)
 refine done_ (by kernel_rfl) ?_
 go_wp2
 go_ret
 exact ⟨rfl, HB.out⟩
theorem audit_Of.calls_nil (a : S25) (w : World) :
  Calls Tryd.prog 13 #[.pointer none, .agg #[.int .i64 a.f0, .int .u64 a.f1]] w fun e w' => e = .returned (.int .i64 0) ∧ Below w.heap.size w w' := by
 go_enter Tryd.func13, Tryd.ntmps13
 go_wp2
 go_ret
 exact ⟨rfl, (Below.refl w.heap.size w).alloc (Nat.le_refl _) _⟩


end Go.Proofs.YtkinepmilnkhmaaDoor.A
end
