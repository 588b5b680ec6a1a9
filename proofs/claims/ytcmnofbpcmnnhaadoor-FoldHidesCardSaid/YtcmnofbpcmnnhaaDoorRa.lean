/-
  APPEND ON A CUT WITH ITS CAPACITY ('append(xs[:k:k], v)'): the row moves into a block of its own, whatever it had.
-/
import Derived.Test.YtcmnofbpcmnnhaaDoorWLast
import Derived.Test.YtcmnofbpcmnnhaaDoorWTab
import Derived.ArgAppend
namespace Go.Proofs.YtcmnofbpcmnnhaaDoor.Ra
open Go.RowKit Go.Proofs.YtcmnofbpcmnnhaaDoorW.PrintWords Go.Proofs.YtcmnofbpcmnnhaaDoorW.PrintLast
section
variable {P : Program}
theorem cut_cap (t e : TypeId) (kh km : IntKind) {i : TypeInfo} (ht : P.underlying t = some (.slice e)) (hi : P.info? e = some i) (A : Option Addr) (n c : Nat) (j : Int) (h0 : 0 ≤ j) (hm : j ≤ n) (hc : n ≤ c) :
    ∀ W : World, (Instr.slice t (.slice A n c) none (some (.int kh j)) (some (.int km j))).run P W = .ok (.slice A j.toNat j.toNat) W := by
  intro W
  have hel : P.elem t = e := by simp [Program.elem, ht]
  have hu : P.underlying t = some (.slice (P.elem t)) := by rw [hel]; exact ht
  have ha : (A.map fun x => x.add 0) = A := by cases A <;> simp [Addr.add]
  rw [run_slice_hm W t A n c hu kh km j j h0 (by omega) (by omega), hel]
  simp [sizeOf, typeInfo, hi, sliced, Result.andThen, ha]
end
theorem own_len {A : Option Addr} {n m c : Nat} : (Value.slice A n c).ownBlock = (Value.slice A m c).ownBlock := by cases A <;> rfl
variable {P : Program} {ops : Array Oper} {rest : List Oper} {o : Oper} {a : Act} {Q : Exit → Act → World → Prop} {α : Type}
theorem R_append3 (d : Kd α) {w0 W : World} (base : Nat) (hgd : o.guard = none) (s x : Operand) (t e : TypeId) (z : Value) (bytes : Nat)
    (ho : o.op = .call { callee := .builtin .append, args := #[s, x], argTypes := #[t, t] })
    (ht : P.underlying t = some (.slice e)) (hinfo : (P.info? e).map (fun i => (i.zero, i.size, i.bytes)) = some (some z, d.sz, bytes)) (hz : z.cells.size = d.sz) (hs0 : 0 < d.sz) (hb0 : 0 < bytes)
    (A : Option Addr) (c : Nat) (xs : List α) (p : α) (cs : List Value) (ok okp : Nat → Prop) (hs : a.eval s = .slice A xs.length xs.length) (hx : a.eval x = .slice (some ⟨W.heap.size, 0, none⟩) 1 1) (hp : d.M W base okp p cs) (hokp : ∀ k, okp k → ok k ∧ some k ≠ (Value.slice A xs.length c).ownBlock) (hfresh : ∀ k, W.heap.size ≤ k → ok k)
    (HO : d.R e W base ok (.slice A xs.length c) xs) (HB : Below base w0 W) (hbase : base ≤ W.heap.size) (hl : (xs.length + 1) * bytes ≤ 140737488355328)
    (h : ∀ v1 w1, d.R e w1 base ok v1 (xs ++ [p]) → Below base w0 w1 → W.grownBy w1 (Value.slice A xs.length c).ownBlock → (v1.ownBlock = (Value.slice A xs.length c).ownBlock ∨ ∃ b, v1.ownBlock = some b ∧ W.heap.size ≤ b) → wpList P ops Q rest (a.put o.dst v1) w1) :
    wpList P ops Q (o :: rest) a (W.alloc (.cells cs.toArray e)) := by
  have HO' := HO
  obtain ⟨h0, inner, hown, hr⟩ := HO
  cases A with
  | none =>
    rcases hown.2 with ⟨he, hn⟩ | ⟨g, cap, cur, he, _⟩
    · injection he with _ hxl hc
      subst hc
      rw [hxl] at hs
      have h' := h
      simp only [hxl] at h' HO'
      refine Kd.R_append d base hgd s x t e z bytes ho ht hinfo hz hs0 hb0 (.slice none 0 0) xs p cs ok okp hs hx hp (by simpa [hxl] using hokp) hfresh HO' HB hbase hl ?_
      exact h'
    · cases he
  | some ad =>
    obtain ⟨i0, hi, hzz⟩ := Option.map_eq_some_iff.1 hinfo
    simp only [Prod.mk.injEq] at hzz
    obtain ⟨hz0, hz1, hz2⟩ := hzz
    have hlen : xs.length + 1 ≤ 140737488355328 := Nat.le_trans (Nat.le_mul_of_pos_right _ hb0) hl
    have hownA := hown.alloc (.cells cs.toArray e)
    have hcells : ∀ j u, inner[j]? = some u → (W.alloc (.cells cs.toArray e)).cell? (ad.add j) = some u := by
      intro j u hj
      rcases hownA.2 with ⟨he, _⟩ | ⟨g, cap, cur, he, hb, hg, hn, hcap, hsz, hcur⟩
      · cases he
      · injection he with he _ _
        injection he with he
        subst he
        rw [add_plain, cell_of_row _ g j cur e (0, 0) hg]
        rw [← hcur] at hj
        rw [List.getElem?_take] at hj
        split at hj
        · rw [← Array.getElem?_toList]
          exact hj
        · cases hj
    have hnews : ∀ j u, cs[j]? = some u → (W.alloc (.cells cs.toArray e)).cell? ((⟨W.heap.size, 0, none⟩ : Addr).add j) = some u := by
      simpa using World.news_of_block (cs := cs.toArray) (t := e) (fr := (0, 0)) (heap_alloc_new W (.cells cs.toArray e))
    obtain ⟨v1, w1, hrun, hown1, hgr⟩ := run_append_arg_grows (P := P) (w := W.alloc (.cells cs.toArray e)) t o.type e i0 z d.sz bytes ht hi hz0 hz1 hz2 hz hs0 ad xs.length xs.length inner hown.1 hcells ⟨W.heap.size, 0, none⟩ 1 1 cs (by rw [d.K_len (d.K_of_M hp)]; simp) hnews (by omega) (by simp only [maxLen]; omega) hl
    have hown2 : w1.ownsRow base e d.sz v1 (xs.length + 1) (inner ++ cs) := own_weaken hown1 (by simp; omega)
    have hg1 : W.grownBy w1 (Value.slice (some ad) xs.length c).ownBlock := by
      have g := World.grownBy.trans (World.grownBy_alloc W (.cells cs.toArray e) none) hgr
      exact ⟨g.os, g.tape, g.output, g.size, fun k hk _ => g.block k hk (by simp)⟩
    have hat : v1.ownBlock = (Value.slice (some ad) xs.length c).ownBlock ∨ ∃ b, v1.ownBlock = some b ∧ W.heap.size ≤ b := by
      refine .inr ?_
      rcases hown1.2 with ⟨_, hn⟩ | ⟨g, cap, cur, rfl, hb, _⟩
      · omega
      · exact ⟨g, by simp [Value.ownBlock], by simp at hb; omega⟩
    have hbel : Below base w0 w1 := (HB.alloc hbase _).grown hgr (by simp; omega) (fun k e => by cases e)
    refine Kd.event_run (v := v1) (w1 := w1) hgd ?_ (h v1 w1 (Kd.R_appended h0 hr hp hokp hfresh hown2 hg1 hat) hbel hg1 hat)
    unfold execOp
    simp only [ho, resolve, invoke, builtin, Sem.run_bind, Sem.run_pure, Result.andThen_ok, List.map_toArray, List.map_cons, List.map_nil, hs, hx, hrun]
/-- A string appended, as one step of a region that draws its order. -/
theorem step_append_str {K : Act → World → Prop} {w0 W : World} (base : Nat) (hw : Region.wanted o (yielded ops a.tmps) = true) (s x : Operand) (t u e : TypeId)
    (ho : o.op = .call { callee := .builtin .append, args := #[s, x], argTypes := #[t, u] })
    (ht : P.underlying t = some (.slice e)) (hu : P.underlying u = some .string) (hinfo : (P.info? e).map (fun i => (i.zero, i.size, i.bytes)) = some (some (.int .u8 0), 1, 1))
    (v : Value) (xs : List Int) (y : ByteArray) (hs : a.eval s = v) (hx : a.eval x = .string y)
    (HO : W.ownsRow base e 1 v xs.length (nums .u8 xs)) (HB : Below base w0 W) (hbase : base ≤ W.heap.size) (hl : xs.length + y.size ≤ 140737488355328)
    (h : ∀ v1 w1, w1.ownsRow base e 1 v1 (xs ++ bytesOf y).length (nums .u8 (xs ++ bytesOf y)) → Below base w0 w1 → W.grownBy w1 v.ownBlock → K (a.put o.dst v1) w1) :
    if Region.wanted o (yielded ops a.tmps) = true then Oper.wp P o a W K Q else K (a.put o.dst undef) W := by
  obtain ⟨i0, hi, hzz⟩ := Option.map_eq_some_iff.1 hinfo
  simp only [Prod.mk.injEq] at hzz
  obtain ⟨hz0, hz1, hz2⟩ := hzz
  rw [if_pos hw]
  obtain ⟨v1, w1, hr, hown, hg, _⟩ := Lib.run_append_own_string (P := P) W base t u o.type e i0 ht hu hi hz0 hz1 hz2 v xs.length (nums .u8 xs) HO y (by simp only [maxLen]; omega) hl hbase
  unfold Oper.wp execOp
  simp only [ho, resolve, invoke, builtin, Sem.run_bind, Sem.run_pure, Result.andThen_ok, List.map_toArray, List.map_cons, List.map_nil, hs, hx, hr]
  have hl2 : (xs ++ bytesOf y).length = xs.length + y.size := by rw [List.length_append, bytesOf_length]
  have hc : nums .u8 (xs ++ bytesOf y) = nums .u8 xs ++ Lib.strCells y := by
    rw [nums_append]
    congr 1
    simp [nums, bytesOf, Lib.strCells]
  exact h v1 w1 (by rw [hl2, hc]; exact hown) (HB.grown hg hbase (own_base HO)) hg
end Go.Proofs.YtcmnofbpcmnnhaaDoor.Ra
