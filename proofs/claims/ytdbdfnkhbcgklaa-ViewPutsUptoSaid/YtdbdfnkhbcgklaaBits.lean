/-
  BITS: 'x &^ y == 0' holds just where each bit of x is one of y; the bits of a number that is made bit by bit. Plain numbers.
-/
import Derived.Laws.BitsLemmas
import Derived.Test.YtdbdfnkhbcgklaaWMore
namespace Go.Proofs.Ytdbdfnkhbcgklaa.Bits
open Go.RowKit Go.Proofs.YtdbdfnkhbcgklaaW.PrintWords Go.Proofs.YtdbdfnkhbcgklaaW.PrintMore
set_option linter.unusedVariables false
set_option linter.unusedSimpArgs false

theorem nat_test (X i : Nat) : X.testBit i = decide (X / 2 ^ i % 2 = 1) := by
  rw [Nat.testBit_eq_decide_div_mod_eq]
theorem shr_nat (X : Nat) (c : Nat) (hc : c ≤ 64) : shr .u64 (X : Int) (c : Int) = ((X / 2 ^ c : Nat) : Int) := by
  unfold shr
  rw [Int.toNat_natCast, show IntKind.u64.bits = 64 from rfl, Nat.min_eq_left hc]
  simp
theorem shr_bit (X : Nat) (c : Nat) (hc : c ≤ 64) : (Int.tmod (shr .u64 (X : Int) (c : Int)) 2 == 1) = X.testBit c := by
  rw [shr_nat X c hc, nat_test, Int.tmod_eq_emod_of_nonneg (Int.natCast_nonneg _)]
  by_cases h : X / 2 ^ c % 2 = 1
  · rw [decide_eq_true h]
    simp only [beq_iff_eq]
    omega
  · rw [decide_eq_false h]
    simp only [beq_eq_false_iff_ne, ne_eq]
    omega
theorem andNot_zero (X Y : Nat) (hX : X < 2 ^ 64) (hY : Y < 2 ^ 64) : (Go.bits .andNot .u64 (X : Int) (Y : Int) == 0) = true ↔ ∀ c, c < 64 → X.testBit c = true → Y.testBit c = true := by
  have e : Go.bits .andNot .u64 (X : Int) (Y : Int) = ((BitVec.ofNat 64 X &&& ~~~ BitVec.ofNat 64 Y).toNat : Int) := by
    have hlt := (BitVec.ofNat 64 X &&& ~~~ BitVec.ofNat 64 Y).isLt
    have hw : ∀ q : Nat, q < 2 ^ 64 → IntKind.u64.wrap (q : Int) = q := by
      intro q hq
      have h2 : (2 : Nat) ^ 64 = 18446744073709551616 := by decide
      rw [h2] at hq
      simp [IntKind.wrap, IntKind.bits, IntKind.signed]
      omega
    exact hw _ hlt
  rw [e, beq_iff_eq]
  constructor
  · intro h c hc hx
    have h0 : (BitVec.ofNat 64 X &&& ~~~ BitVec.ofNat 64 Y) = 0#64 := by
      apply BitVec.eq_of_toNat_eq
      simpa using h
    have h1 := congrArg (fun b => b.getLsbD c) h0
    simp only [BitVec.getLsbD_and, BitVec.getLsbD_not, BitVec.getLsbD_ofNat, BitVec.getLsbD_zero, hc, decide_true, Bool.true_and, hx] at h1
    simpa using h1
  · intro h
    have h0 : (BitVec.ofNat 64 X &&& ~~~ BitVec.ofNat 64 Y) = 0#64 := by
      apply BitVec.eq_of_getLsbD_eq
      intro c hc
      simp only [BitVec.getLsbD_and, BitVec.getLsbD_not, BitVec.getLsbD_ofNat, BitVec.getLsbD_zero, hc, decide_true, Bool.true_and]
      cases hx : X.testBit c with
      | false => simp
      | true => simp [h c hc hx]
    rw [h0]
    rfl
end Go.Proofs.Ytdbdfnkhbcgklaa.Bits
