/-
  OPENING: out of the form's reading of an argument (any type of whole numbers, bools, strings, slices and structs of these) the printed kinds ('Kd'): what the values are, that numbers fit their kinds, what the form's own reach bounds, and the bulk. Once for every type, by the type's shape.
-/
import Derived.Test.YtcmnofbpcmnnhaaDoorRows
import Derived.Test.YtcmnofbpcmnnhaaDoorWWords
import Derived.SizedLaws
import Derived.ChangeSlices
import Derived.OpenShut
import Derived.ShutString
namespace Go.Proofs.YtcmnofbpcmnnhaaDoor.Opening
open Go.RowKit Go.ChangeShapes Go.WideShapes Go.Proofs.YtcmnofbpcmnnhaaDoorW.PrintWords
set_option linter.unusedVariables false
set_option linter.unusedSimpArgs false

/-! ### bulk -/
theorem one_le {H : Type} (d : DataW H) : 1 ≤ Rows.uptoBulk d := by
  cases d with
  | lit l => cases l <;> simp [Rows.uptoBulk]
  | nil => simp [Rows.uptoBulk]
  | ptr d => simp [Rows.uptoBulk]
  | slice elems spare => simp [Rows.uptoBulk]
  | agg parts => simp [Rows.uptoBulk]
  | iface t d => simp [Rows.uptoBulk]
  | map entries => simp [Rows.uptoBulk]
  | held h => simp [Rows.uptoBulk]
theorem sum_le {H α : Type} (B : α → Nat) : ∀ (xs : List α) (ds : List (DataW H)), xs.length = ds.length → (∀ (i : Nat) (x : α) (d : DataW H), xs[i]? = some x → ds[i]? = some d → B x ≤ Rows.uptoBulk d) → (xs.map B).sum ≤ Rows.uptoBulkAll ds
  | [], _, _, _ => Nat.zero_le _
  | x :: xs, [], h, _ => by simp at h
  | x :: xs, d :: ds, h, hp => by
    have h0 := hp 0 x d rfl rfl
    have h1 := sum_le B xs ds (by simpa using h) (fun i y e hy he => hp (i + 1) y e (by simpa using hy) (by simpa using he))
    simp only [List.map_cons, List.sum_cons, Rows.uptoBulkAll]
    omega

/-! ### the notion -/
/-- Every reading at type t is one of kind k: its numbers fit (S), what the reach bounds (Z), its bulk (B). -/
def Opn {α : Type} (P : Program) (t : TypeId) (k : Kd α) (S Z : α → Prop) (B : α → Nat) : Prop :=
  ∀ (H : Type) (enc : TypeId × Value → H) (W : World) (base fuel : Nat) (cs : List Value) (d : DataW H) (p : List MemPlace),
    DataW.trod enc P W base (fun _ => true) true fuel t cs = some (d, p) → ∃ x, k.K W x cs ∧ S x ∧ ((∀ n ∈ d.weights P t, n ≤ reachBytes) → Z x) ∧ B x ≤ Rows.uptoBulk d

theorem opn_int {P : Program} {t : TypeId} {k : IntKind} (hu : P.underlying t = some (.int k)) : Opn P t (Kd.int k) (fun x => (Lit.int k x).wf = true) (fun _ => True) (fun _ => 1) := by
  intro H enc W base fuel cs d p h
  obtain ⟨n, rfl, e, hw⟩ := DataW.trod_int hu h
  obtain ⟨rfl, rfl⟩ := Prod.mk.inj e
  exact ⟨n, rfl, hw, fun _ => trivial, by simp [Rows.uptoBulk]⟩
theorem opn_bool {P : Program} {t : TypeId} (hu : P.underlying t = some .bool) : Opn P t Kd.bool (fun _ => True) (fun _ => True) (fun _ => 1) := by
  intro H enc W base fuel cs d p h
  obtain ⟨n, rfl, e⟩ := DataW.trod_bool hu h
  obtain ⟨rfl, rfl⟩ := Prod.mk.inj e
  exact ⟨n, rfl, trivial, fun _ => trivial, by simp [Rows.uptoBulk]⟩
theorem opn_string {P : Program} {t : TypeId} (hu : P.underlying t = some .string) : Opn P t Kd.string (fun s => s.size ≤ 9223372036854775807) (fun s => s.size ≤ 140737488351232) (fun s => s.size + 1) := by
  intro H enc W base fuel cs d p h
  obtain ⟨s, rfl, e, hs⟩ := DataW.trod_string hu h
  obtain ⟨rfl, rfl⟩ := Prod.mk.inj e
  refine ⟨s, rfl, hs, fun hz => ?_, ?_⟩
  · have := hz s.data.toList.length (by simp [DataW.weights])
    rw [data_length] at this
    exact this
  · simp only [Rows.uptoBulk]
    rw [data_length]
    exact Nat.le_refl _

theorem choose_list {α : Type} (Q : Nat → α → Prop) : ∀ n, (∀ i, i < n → ∃ x, Q i x) → ∃ xs : List α, xs.length = n ∧ ∀ i x, xs[i]? = some x → Q i x
  | 0, _ => ⟨[], rfl, fun i x h => by simp at h⟩
  | n + 1, h => by
    obtain ⟨xs, hl, hx⟩ := choose_list Q n (fun i hi => h i (by omega))
    obtain ⟨y, hy⟩ := h n (by omega)
    refine ⟨xs ++ [y], by simp [hl], fun i x hi => ?_⟩
    rcases Nat.lt_or_ge i xs.length with h1 | h1
    · rw [List.getElem?_append_left h1] at hi
      exact hx i x hi
    · have h2 : i = n := by
        have := (List.getElem?_eq_some_iff.1 hi).1
        simp at this
        omega
      subst h2
      rw [List.getElem?_append_right (by omega), hl, Nat.sub_self] at hi
      have : y = x := by simpa using hi
      subst this
      exact hy

theorem weights_all {H : Type} {P : Program} {e : TypeId} : ∀ {l : List (DataW H)} {d : DataW H}, d ∈ l → ∀ n ∈ d.weights P e, n ∈ DataW.weightsAll P e l
  | x :: l, d, h, n, hn => by
    simp only [DataW.weightsAll, List.mem_append]
    rcases List.mem_cons.1 h with h | h
    · subst h
      exact .inl hn
    · exact .inr (weights_all h n hn)

theorem opn_slice {α : Type} {P : Program} {t e : TypeId} {k : Kd α} {S Z : α → Prop} {B : α → Nat} (bytes : Nat) (ht : P.underlying t = some (.slice e)) (hc : P.cellsOf e = k.sz) (hb : P.bytesOf e = bytes) (h : Opn P e k S Z B) :
    Opn P t (Kd.slice e k) (fun l => ∀ x ∈ l, S x) (fun l => l.length * bytes ≤ 140737488351232 ∧ ∀ x ∈ l, Z x) (fun l => (l.map B).sum + 1) := by
  intro H enc W base fuel cs d p hd
  rcases DataW.trod_slice ht hd with ⟨rfl, e0⟩ | ⟨a, len, cap, elems, rest, n, _, rfl, e0, hbs, hl, hm, hlen, hel, hsp, hns⟩
  · obtain ⟨rfl, rfl⟩ := Prod.mk.inj e0
    exact ⟨[], ⟨none, 0, rfl, Nat.le_refl _, rfl, by simp, fun h => absurd h (by simp)⟩, by simp, fun _ => ⟨by simp, by simp⟩, by simp [Rows.uptoBulk]⟩
  · obtain ⟨rfl, rfl⟩ := Prod.mk.inj e0
    have each : ∀ i, i < len → ∃ x, ∃ y c, elems[i]? = some y ∧ W.cells? base (a.add (i * k.sz)) k.sz = some c ∧ k.K W x c ∧ S x ∧ ((∀ n ∈ y.1.weights P e, n ≤ reachBytes) → Z x) ∧ B x ≤ Rows.uptoBulk y.1 := by
      intro i hi
      have h1 := hel i hi
      obtain ⟨y, hy⟩ : ∃ y, elems[i]? = some y := ⟨elems[i]'(by omega), List.getElem?_eq_getElem _⟩
      rw [hy, hc] at h1
      obtain ⟨c, hcs, hy'⟩ := Option.bind_eq_some_iff.1 h1
      obtain ⟨x, hK, hS, hZ, hB⟩ := h H enc W base n c y.1 y.2 hy'
      exact ⟨x, y, c, hy, hcs, hK, hS, hZ, hB⟩
    obtain ⟨xs, hxl, hx⟩ := choose_list _ len each
    subst hxl
    refine ⟨xs, ⟨some a, cap, rfl, hl, rfl, ?_, fun _ => ⟨a, rfl, fun j q hj => ?_⟩⟩, fun x hm => ?_, fun hz => ⟨?_, fun x hm => ?_⟩, ?_⟩
    · simp only [maxLen] at hm
      omega
    · obtain ⟨y, c, hy, hcs, hK, _⟩ := hx j q hj
      refine ⟨c, k.K_len hK, hK, fun i u hu => ?_⟩
      obtain ⟨hcl, hcell⟩ := World.cells?_some hcs
      have hi : i < k.sz := by
        have := (List.getElem?_eq_some_iff.1 hu).1
        rw [k.K_len hK] at this
        exact this
      have ha : (a.add (j * k.sz)).add i = a.add (j * k.sz + i) := by
        unfold Addr.add
        by_cases h1 : j * k.sz = 0 <;> by_cases h2 : i = 0 <;> simp [h1, h2, Nat.add_assoc]
      rw [← ha]
      first
      | exact (hcell.2 i hi).trans hu
      | exact (hcell i hi).trans hu
      | simpa [hu] using hcell i hi
    · obtain ⟨i, hi⟩ := List.getElem?_of_mem hm
      obtain ⟨_, _, _, _, _, hS, _⟩ := hx i x hi
      exact hS
    · have := hz ((elems.length + rest.length) * P.bytesOf e) (by simp [DataW.weights, ht])
      rw [hb] at this
      have h2 : xs.length * bytes ≤ (elems.length + rest.length) * bytes := Nat.mul_le_mul_right _ (by omega)
      have h3 : reachBytes = 140737488351232 := rfl
      omega
    · obtain ⟨i, hi⟩ := List.getElem?_of_mem hm
      obtain ⟨y, _, hy, _, _, _, hZ, _⟩ := hx i x hi
      refine hZ fun n hn => hz n ?_
      simp only [DataW.weights, ht, List.mem_cons, List.mem_append]
      exact .inr (.inl (weights_all (List.mem_map_of_mem (List.mem_of_getElem? hy)) n hn))
    · have := sum_le B xs (elems.map (·.1)) (by simp; omega) (fun i x d hxi hdi => by
        obtain ⟨y, _, hy, _, _, _, _, hB⟩ := hx i x hxi
        rw [List.getElem?_map, hy] at hdi
        have : y.1 = d := by simpa using hdi
        subst this
        exact hB)
      simp only [Rows.uptoBulk]
      omega

/-! ### structs: field by field -/
def OpnFs {α : Type} (P : Program) (fs : List Field) (off : Nat) (k : Kd α) (S Z : α → Prop) (B : α → Nat) : Prop :=
  ∀ (H : Type) (enc : TypeId × Value → H) (W : World) (base fuel : Nat) (cs : List Value) (xs : List (DataW H × List MemPlace)), cs.length = off + k.sz →
    (fs.mapM fun f => DataW.trod enc P W base (fun _ => true) true fuel f.type ((cs.drop f.offset).take (P.cellsOf f.type))) = some xs →
    ∃ x, k.K W x (cs.drop off) ∧ S x ∧ ((∀ n ∈ DataW.weightsEach P (fs.map (·.type)) (xs.map (·.1)), n ≤ reachBytes) → Z x) ∧ B x ≤ Rows.uptoBulkAll (xs.map (·.1))

theorem opnFs_last {α : Type} {P : Program} {f : Field} {off : Nat} {k : Kd α} {S Z : α → Prop} {B : α → Nat} (ho : f.offset = off) (hc : P.cellsOf f.type = k.sz) (h : Opn P f.type k S Z B) : OpnFs P [f] off k S Z B := by
  intro H enc W base fuel cs xs hl hm
  simp only [List.mapM_cons, List.mapM_nil, Option.pure_def, Option.bind_eq_bind, Option.bind_some] at hm
  obtain ⟨y, hy, e⟩ := Option.bind_eq_some_iff.1 hm
  obtain rfl : [y] = xs := by simpa using e
  rw [ho, hc, List.take_of_length_le (by rw [List.length_drop]; omega)] at hy
  obtain ⟨x, hK, hS, hZ, hB⟩ := h H enc W base fuel _ y.1 y.2 hy
  refine ⟨x, hK, hS, fun hz => hZ fun n hn => hz n ?_, ?_⟩
  · simp [DataW.weightsEach, hn]
  · simp only [List.map_cons, List.map_nil, Rows.uptoBulkAll]
    omega

theorem opnFs_cons {α β : Type} {P : Program} {f : Field} {fs : List Field} {off : Nat} {k0 : Kd α} {k1 : Kd β} {S0 Z0 : α → Prop} {B0 : α → Nat} {S1 Z1 : β → Prop} {B1 : β → Nat}
    (ho : f.offset = off) (hc : P.cellsOf f.type = k0.sz) (h0 : Opn P f.type k0 S0 Z0 B0) (h1 : OpnFs P fs (off + k0.sz) k1 S1 Z1 B1) :
    OpnFs P (f :: fs) off (Kd.pair k0 k1) (fun x => S0 x.1 ∧ S1 x.2) (fun x => Z0 x.1 ∧ Z1 x.2) (fun x => B0 x.1 + B1 x.2) := by
  intro H enc W base fuel cs xs hl hm
  have hl' : cs.length = off + (k0.sz + k1.sz) := hl
  simp only [List.mapM_cons, Option.pure_def, Option.bind_eq_bind] at hm
  obtain ⟨y, hy, e⟩ := Option.bind_eq_some_iff.1 hm
  obtain ⟨ys, hys, e⟩ := Option.bind_eq_some_iff.1 e
  obtain rfl : y :: ys = xs := by simpa using e
  rw [ho, hc] at hy
  obtain ⟨x, hK, hS, hZ, hB⟩ := h0 H enc W base fuel _ y.1 y.2 hy
  obtain ⟨z, hK1, hS1, hZ1, hB1⟩ := h1 H enc W base fuel cs ys (by omega) hys
  refine ⟨(x, z), ⟨_, _, ?_, hK, hK1⟩, ⟨hS, hS1⟩, fun hz => ⟨hZ fun n hn => hz n ?_, hZ1 fun n hn => hz n ?_⟩, ?_⟩
  · rw [← List.drop_drop]
    exact (List.take_append_drop _ _).symm
  · simp [DataW.weightsEach, hn]
  · simp only [List.map_cons, DataW.weightsEach, List.mem_append]
    exact .inr hn
  · simp only [List.map_cons, Rows.uptoBulkAll]
    omega

theorem opn_struct {α β : Type} {P : Program} {t : TypeId} {fs : Array Field} {k : Kd α} {S Z : α → Prop} {B : α → Nat} (f : β → α) (g : α → β) (hg : ∀ x, f (g x) = x) (ht : P.underlying t = some (.struct fs)) (hc : P.cellsOf t = k.sz) (h : OpnFs P fs.toList 0 k S Z B) :
    Opn P t (Kd.iso k f) (fun y => S (f y)) (fun y => Z (f y)) (fun y => B (f y) + 1) := by
  intro H enc W base fuel cs d p hd
  cases fuel with
  | zero => simp [DataW.trod] at hd
  | succ fuel =>
    have hd' : (if cs.length = P.cellsOf t then (fs.toList.mapM fun f => DataW.trod enc P W base (fun _ => true) true fuel f.type ((cs.drop f.offset).take (P.cellsOf f.type))).map fun xs => ((.agg (xs.map (·.1)) : DataW H), xs.flatMap (·.2)) else none) = some (d, p) := by
      unfold DataW.trod at hd
      simp only [ht] at hd
      exact hd
    by_cases hl : cs.length = P.cellsOf t
    · rw [if_pos hl] at hd'
      obtain ⟨xs, hxs, e⟩ := Option.map_eq_some_iff.1 hd'
      obtain ⟨rfl, rfl⟩ := Prod.mk.inj e
      obtain ⟨x, hK, hS, hZ, hB⟩ := h H enc W base fuel cs xs (by omega) hxs
      refine ⟨g x, ?_, ?_, ?_, ?_⟩
      · show k.K W (f (g x)) cs
        rw [hg]
        exact hK
      · show S (f (g x))
        rw [hg]
        exact hS
      · intro hz
        show Z (f (g x))
        rw [hg]
        refine hZ fun n hn => hz n ?_
        simp only [DataW.weights, ht]
        exact hn
      · show B (f (g x)) + 1 ≤ _
        rw [hg]
        simp only [Rows.uptoBulk]
        omega
    · rw [if_neg hl] at hd'
      cases hd'

/-! ### an argument -/
variable {P : Program} {H : Type} {enc : TypeId × Value → H} {W : World} {r : Reach} {b0 base : Nat} {t : TypeId} {v : Value} {d : DataW H} {p : List MemPlace}
theorem open_sl {α : Type} {e : TypeId} {k : Kd α} {S Z : List α → Prop} {B : List α → Nat} (ho : Opn P t (Kd.slice e k) S Z B) (ht : P.underlying t = some (.slice e)) (hv : Value.okWide P W r b0 t v) (h : DataW.Trod enc P W base (fun _ => true) true t v d p) :
    ∃ (A : Option Addr) (c : Nat) (l : List α), v = .slice A l.length c ∧ l.length ≤ c ∧ Kd.C k W A l.length l ∧ S l ∧ ((∀ n ∈ d.weights P t, n ≤ reachBytes) → Z l) ∧ B l ≤ Rows.uptoBulk d := by
  obtain ⟨a, len, cap, rfl⟩ := okWide_slice ht hv
  obtain ⟨fuel, hf⟩ := h
  obtain ⟨x, ⟨A, c, hcs, hl, hC⟩, hS, hZ, hB⟩ := ho H enc W base fuel _ d p hf
  simp [Value.cells] at hcs
  obtain ⟨rfl, rfl, rfl⟩ := hcs
  exact ⟨_, _, x, rfl, hl, hC, hS, hZ, hB⟩
theorem open_st {α : Type} {fs : Array Field} {k : Kd α} {S Z : α → Prop} {B : α → Nat} (ho : Opn P t k S Z B) (ht : P.underlying t = some (.struct fs)) (hv : Value.okWide P W r b0 t v) (h : DataW.Trod enc P W base (fun _ => true) true t v d p) :
    ∃ (x : α) (cs : List Value), v = .agg cs.toArray ∧ k.K W x cs ∧ S x ∧ ((∀ n ∈ d.weights P t, n ≤ reachBytes) → Z x) ∧ B x ≤ Rows.uptoBulk d := by
  obtain ⟨cs, rfl, _⟩ := okWide_struct ht hv
  obtain ⟨fuel, hf⟩ := h
  obtain ⟨x, hK, hS, hZ, hB⟩ := ho H enc W base fuel _ d p hf
  exact ⟨x, cs.toList, by simp, hK, hS, hZ, hB⟩
end Go.Proofs.YtcmnofbpcmnnhaaDoor.Opening
