-- PRINTED by print.py (a twelfth state) out of the translation. Not trusted: Lean checks it.
import Derived.RangeFuncNested
import Derived.RangeFuncBound
import Derived.RangeFuncCalls
import Derived.RangeFuncLeaves
import Derived.RangeFuncBox
import Derived.RangeFuncMany
import Derived.Shelf.Abstract
import Derived.OwnWalkIn
import Derived.TacticsInMore
import Derived.LoopNIn
import Derived.LoopIn
import Derived.Test.YtcmnofbpcmnnhaaDoorF0
namespace Go.Proofs.YtcmnofbpcmnnhaaDoor.F
open Go.RowKit Go.Proofs.YtcmnofbpcmnnhaaDoorW.PrintWords Go.Proofs.YtcmnofbpcmnnhaaDoorW.PrintLast Go.Proofs.YtcmnofbpcmnnhaaDoorW.PrintMore
attribute [local go_sem] max2_int min2_int max_two min_two max_three min_three max_four min_four   -- for this text's walks alone
set_option linter.unusedVariables false
set_option linter.unusedSimpArgs false

/-! ### text_Decimal: function 46 (by hand) -/
open Go.Shelf
/-- The digits of m ahead of what is there. -/
def text_Decimal.ds : Nat → Nat → List Int → List Int
  | 0, _, acc => acc
  | f + 1, m, acc => if m / 10 = 0 then (48 + ((m % 10 : Nat) : Int)) :: acc else text_Decimal.ds f (m / 10) ((48 + ((m % 10 : Nat) : Int)) :: acc)
def text_Decimal.f (a0 : Int) : Option ByteArray := some (if a0 < 0 ∨ 2147483647 < a0 then ⟨#[63]⟩ else strOfNums (text_Decimal.ds 10 a0.toNat []))
def text_Decimal.cs (d : Nat) (acc : List Int) : Array Value := (List.replicate d (Value.int .u8 0) ++ acc.map (Value.int .u8)).toArray
set_option maxHeartbeats 4000000 in
set_option maxRecDepth 100000 in
theorem text_Decimal.calls (a0 : Int) (r : ByteArray) (w : World) (h : text_Decimal.f a0 = some r) :
    Calls Tryd.prog 46 #[.int .i64 a0] w fun e w' => e = .returned (.string r) ∧ Below w.heap.size w w' := by
  unfold text_Decimal.f at h
  have hr := Option.some.inj h
  clear h
  by_cases h0 : a0 < 0
  · rw [if_pos (.inl h0)] at hr
    subst hr
    have hb : decide (a0 < 0) = true := decide_eq_true h0
    go_enter Tryd.func46, Tryd.ntmps46
    go_wp2
    go_ret
    exact ⟨rfl, Below.refl _ _⟩
  · by_cases h1 : 2147483647 < a0
    · rw [if_pos (.inr h1)] at hr
      subst hr
      have hb : decide (a0 < 0) = false := decide_eq_false h0
      have hc : decide (a0 > 2147483647) = true := decide_eq_true h1
      go_enter Tryd.func46, Tryd.ntmps46
      go_wp2
      go_ret
      exact ⟨rfl, Below.refl _ _⟩
    · rw [if_neg (by omega)] at hr
      obtain ⟨n, rfl⟩ : ∃ n : Nat, a0 = n := ⟨a0.toNat, by omega⟩
      rw [Int.toNat_natCast] at hr
      have HR := Aside0.mk hr
      clear hr
      have hn : n < 10 ^ 10 := by omega
      have hb : decide ((n : Int) < 0) = false := decide_eq_false h0
      have hc : decide ((n : Int) > 2147483647) = false := decide_eq_false (by omega)
      go_enter Tryd.func46, Tryd.ntmps46
      go_wp2
      go_loopw [0, 4] (fun x i wr => ∃ (m d : Nat) (acc : List Int), x = .int .i64 (m : Int) ∧ i = .int .i64 ((d : Int) + 1) ∧ acc.length = 9 - d ∧ d ≤ 9 ∧ m < 10 ^ (d + 1) ∧ text_Decimal.ds (d + 1) m acc = text_Decimal.ds 10 n [] ∧ wr.heap[w.heap.size]? = some (.cells (text_Decimal.cs (d + 1) acc) 104 (0, 0)) ∧ Below w.heap.size w wr)
        (fun _ i _ => (intOf i).toNat)
      case atStart =>
        exact ⟨n, 9, [], rfl, rfl, rfl, Nat.le_refl _, hn, rfl, World.alloc_heap_new w _, below_alloc (Below.refl _ _) _⟩
      case round =>
        obtain ⟨m, d, acc, rfl, rfl, hal, hd, hm, hds, hB, hbel⟩ := hrel
        have hc0 : wr.cell? ⟨w.heap.size, d, none⟩ = some (.int .u8 0) := by
          rw [blk_cell hB d]
          simp [text_Decimal.cs, List.getElem?_append_left]
        have hf0 := blk_frozen hB d
        have hmd : m ≤ 9999999999 := by
          have : 10 ^ (d + 1) ≤ 10 ^ 10 := Nat.pow_le_pow_right (by omega) (by omega)
          omega
        have hset : (text_Decimal.cs (d + 1) acc).setIfInBounds d (.int .u8 (48 + ((m % 10 : Nat) : Int))) = text_Decimal.cs d ((48 + ((m % 10 : Nat) : Int)) :: acc) := by
          simp [text_Decimal.cs, List.replicate_succ', List.set_append_right]
        have hB2 := blk_put hB d (.int .u8 (48 + ((m % 10 : Nat) : Int))) hset
        have em : (48 : Int) + ((m % 10 : Nat) : Int) = 48 + (m : Int) % 10 := by omega
        by_cases hz : m / 10 = 0
        · have hq : ((m : Int) / 10 == 0) = true := beq_iff_eq.mpr (by omega)
          have hq2 : (m : Int) / 10 = 0 := by omega
          have hres : strOfNums ((48 + (m : Int) % 10) :: acc) = r := by
            rw [← HR.out, ← hds, ← em]
            simp only [text_Decimal.ds]
            rw [if_pos hz]
          have hsl : ∀ W : World, (Instr.sliceAt 104 (.pointer (some ⟨w.heap.size, 0, none⟩)) (some (.int .i64 (d : Int))) none none).run Tryd.prog W = .ok (.slice (some ⟨w.heap.size, d, none⟩) (10 - d) (10 - d)) W := by
            intro W
            have hal : Tryd.prog.arrayLen 104 = 10 := by kernel_rfl
            have hel : Tryd.prog.elem 104 = 5 := by kernel_rfl
            have hz8 : (sizeOf 5).run Tryd.prog W = .ok 1 W := Tryd.sizeOf5 W
            have h := run_sliceAt_array_l (P := Tryd.prog) W 104 ⟨w.heap.size, 0, none⟩ (by rw [hal, hel]; exact Tryd.underlying104) .i64 (d : Int) (by omega) (by rw [hal]; omega)
            rw [h, hel, hz8, hal, Int.toNat_natCast]
            simp only [Result.andThen, slicedAt, Nat.mul_one, add_plain]
            rw [if_neg (by omega)]
          have hcv : (convert 37 9 (.slice (some ⟨w.heap.size, d, none⟩) (10 - d) (10 - d))).run Tryd.prog (wr.setCell ⟨w.heap.size, d, none⟩ (.int .u8 (48 + (m : Int) % 10))) = .ok (.string r) (wr.setCell ⟨w.heap.size, d, none⟩ (.int .u8 (48 + (m : Int) % 10))) := by
            rw [← hres]
            rw [em] at hB2
            refine string_of_reads Tryd.underlying37 Tryd.underlying5 Tryd.underlying9 ⟨by simp [hal]; omega, by omega, fun _ => ⟨_, rfl, fun j hj => ?_⟩⟩
            rw [show (⟨w.heap.size, d, none⟩ : Addr).add j = ⟨w.heap.size, d + j, none⟩ by unfold Addr.add; split <;> simp_all, blk_cell hB2 (d + j)]
            have hj' : j < ((48 + (m : Int) % 10) :: acc).length := by simp [hal]; omega
            have hm2 : (Value.int .u8 (48 + (m : Int) % 10) :: acc.map (Value.int .u8))[j]? = some (Value.int .u8 (((48 + (m : Int) % 10) :: acc)[j])) := by
              rw [← List.map_cons, List.getElem?_map, List.getElem?_eq_getElem hj']
              rfl
            simp [text_Decimal.cs, List.getElem?_append_right, List.getD_eq_getElem?_getD, List.getElem?_eq_getElem hj', hm2]
          have HS := Aside0.mk hset
          clear hset hds hm hal em hq2 hres
          go_wp2
          go_ret
          exact ⟨rfl, hbel.setCell (Nat.le_refl _) _⟩
        · have hq : ((m : Int) / 10 == 0) = false := beq_eq_false_iff_ne.mpr (by omega)
          have Hds := Aside0.mk hds
          have Hal := Aside0.mk hal
          have Hm := Aside0.mk hm
          have HB2 := Aside0.mk hB2
          have Hem := Aside0.mk em
          clear hset hds hal hm hB2 em
          go_wp2
          go_roundw
          case rel =>
            have e1 : 1 ≤ d := by
              rcases Nat.eq_zero_or_pos d with h | h
              · subst h
                have := Hm.out
                omega
              · exact h
            refine ⟨m / 10, d - 1, (48 + ((m % 10 : Nat) : Int)) :: acc, by simp, ?_, ?_, by omega, ?_, ?_, ?_, hbel.setCell (Nat.le_refl _) _⟩
            · congr 1
              omega
            · have := Hal.out
              simp only [List.length_cons]
              omega
            · rw [show d - 1 + 1 = d by omega]
              have := Hm.out
              rw [Nat.pow_succ] at this
              omega
            · rw [← Hds.out, show d - 1 + 1 = d by omega]
              show _ = (if m / 10 = 0 then _ else text_Decimal.ds d (m / 10) _)
              rw [if_neg hz]
            · rw [show d - 1 + 1 = d by omega, ← Hem.out]
              exact HB2.out
          case measure => simp [intOf]


end Go.Proofs.YtcmnofbpcmnnhaaDoor.F
