/-
  PLAIN: the document's 'Join' of two labels is the greater level and the categories of both.
-/
import Derived.Test.YtdbdfnkhbcgklaaVPAll
import Derived.Test.YtdbdfnkhbcgklaaV28
namespace Go.Proofs.Ytdbdfnkhbcgklaa.V
open Go.RowKit Go.Proofs.YtdbdfnkhbcgklaaW.PrintWords Go.Proofs.YtdbdfnkhbcgklaaW.PrintLast Go.Proofs.YtdbdfnkhbcgklaaW.PrintMore
set_option linter.unusedVariables false
set_option linter.unusedSimpArgs false
theorem shift_step (Z c : Nat) : Z >>> c = 2 * (Z >>> (c + 1)) + (Z.testBit c).toNat := by
  rw [Nat.shiftRight_succ, Nat.testBit_eq_decide_div_mod_eq, Nat.shiftRight_eq_div_pow]
  have := Nat.div_add_mod (Z / 2 ^ c) 2
  have h2 := Nat.mod_lt (Z / 2 ^ c) (show 0 < 2 by omega)
  by_cases h : Z / 2 ^ c % 2 = 1
  · rw [decide_eq_true h]
    simp only [Bool.toNat_true]
    omega
  · rw [decide_eq_false h]
    simp only [Bool.toNat_false]
    omega
theorem shift_lt (Z c : Nat) (hZ : Z < 2 ^ 64) (hc : c < 64) : Z >>> (c + 1) < 9223372036854775808 := by
  rw [Nat.shiftRight_eq_div_pow]
  have h1 : Z / 2 ^ (c + 1) ≤ Z / 2 := Nat.div_le_div_left (by rw [Nat.pow_succ]; have := Nat.one_le_two_pow (n := c); omega) (by omega)
  have h2 : (2 : Nat) ^ 64 = 18446744073709551616 := by decide
  omega
theorem u64_small (n : Nat) (h : n < 18446744073709551616) : IntKind.u64.wrap (n : Int) = n := by
  simp [IntKind.wrap, IntKind.bits, IntKind.signed]
  omega
theorem pick_l0 (a b : Int) (X Y : Nat) (hZ : X ||| Y < 2 ^ 64) : ∀ (c : Nat), c ≤ 64 → Ev (fun k => jalousieref02_pick.l0 k false (((X ||| Y) >>> c : Nat) : Int) ((c : Int) - 1) a (X : Int) b (Y : Int)) (((X ||| Y : Nat)) : Int)
  | 0, _ => by
    refine ⟨1, fun k hk => ?_⟩
    obtain ⟨m, rfl, _⟩ := rounds_succ' hk
    simp only [jalousieref02_pick.l0]
    rw [if_neg (by omega)]
    simp
  | c + 1, h => by
    obtain ⟨K, hK⟩ := pick_l0 a b X Y hZ c (by omega)
    refine ⟨K + 1, fun k hk => ?_⟩
    obtain ⟨m, rfl, hm⟩ := rounds_succ' hk
    have go := hK m hm
    have hlt := shift_lt (X ||| Y) c hZ (by omega)
    have hst := shift_step (X ||| Y) c
    rw [Nat.testBit_or] at hst
    have hx := has_nat a X c (by omega)
    have hy := has_nat b Y c (by omega)
    have e1 : (((c + 1 : Nat) : Int) - 1) = (c : Int) := by omega
    have e2 : wrap64 ((c : Int) - 1) = (c : Int) - 1 := w64_id _ (by omega) (by omega)
    have e3 : IntKind.u64.wrap (2 * (((X ||| Y) >>> (c + 1) : Nat) : Int)) = ((2 * ((X ||| Y) >>> (c + 1)) : Nat) : Int) := by
      rw [show 2 * (((X ||| Y) >>> (c + 1) : Nat) : Int) = ((2 * ((X ||| Y) >>> (c + 1)) : Nat) : Int) by omega]
      exact u64_small _ (by omega)
    have e4 : IntKind.u64.wrap (((2 * ((X ||| Y) >>> (c + 1)) : Nat) : Int) + 1) = ((2 * ((X ||| Y) >>> (c + 1)) + 1 : Nat) : Int) := by
      rw [show ((2 * ((X ||| Y) >>> (c + 1)) : Nat) : Int) + 1 = ((2 * ((X ||| Y) >>> (c + 1)) + 1 : Nat) : Int) by omega]
      exact u64_small _ (by omega)
    simp only [jalousieref02_pick.l0]
    rw [e1, if_pos (by omega), e2, e3, e4, hx, hy]
    cases hX : X.testBit c <;> cases hY : Y.testBit c <;> simp only [hX, hY, Bool.or_false, Bool.or_true, Bool.toNat_true, Bool.toNat_false, Nat.add_zero] at hst <;> rw [hst] at go <;> simpa using go
theorem join_ev (a b : Int) (X Y : Nat) (hX : X < 2 ^ 64) (hY : Y < 2 ^ 64) : Ev (fun k => jalousieref02_Join.f k a (X : Int) b (Y : Int)) (if b > a then b else a, ((X ||| Y : Nat) : Int)) := by
  have hZ : X ||| Y < 2 ^ 64 := Nat.or_lt_two_pow hX hY
  obtain ⟨K, hK⟩ := pick_l0 a b X Y hZ 64 (by omega)
  refine ⟨K, fun k hk => ?_⟩
  have h0 : (X ||| Y) >>> 64 = 0 := by rw [Nat.shiftRight_eq_div_pow]; exact Nat.div_eq_of_lt hZ
  have go := hK k hk
  simp only [h0] at go
  show (jalousieref02_pick.f k a X b Y false).bind _ = _
  unfold jalousieref02_pick.f
  rw [show ((0 : Nat) : Int) = 0 from rfl, show ((64 : Nat) : Int) - 1 = 63 from rfl] at go
  rw [go]
  simp only [Option.bind_some]
  split <;> rfl
/-- Who reads o reads at their Join what one reads at o. -/
theorem join_reads {o p : S25} (ho : ok25 o) (hp : ok25 p) : ∃ q : S25, ok25 q ∧ Ev (fun k => jalousieref02_Join.f k o.f0 o.f1 p.f0 p.f1) (q.f0, q.f1) ∧ ∀ x, ok25 x → (bel x o = true ∨ bel x p = true) → bel x q = true := by
  obtain ⟨a, o1⟩ := o
  obtain ⟨b, p1⟩ := p
  obtain ⟨X, rfl, hX⟩ := u64_nat ho.2
  obtain ⟨Y, rfl, hY⟩ := u64_nat hp.2
  have hZ : X ||| Y < 2 ^ 64 := Nat.or_lt_two_pow hX hY
  refine ⟨⟨if b > a then b else a, ((X ||| Y : Nat) : Int)⟩, ⟨?_, ?_⟩, join_ev a b X Y hX hY, ?_⟩
  · show (Lit.int .i64 (if b > a then b else a)).wf = true
    split
    · exact hp.1
    · exact ho.1
  · have h2 : (2 : Nat) ^ 64 = 18446744073709551616 := by decide
    rw [h2] at hZ
    show (Lit.int .u64 ((X ||| Y : Nat) : Int)).wf = true
    generalize X ||| Y = z at hZ ⊢
    simp [Lit.wf, IntKind.min, IntKind.max, IntKind.signed, IntKind.bits]
    omega
  · rintro ⟨c, x1⟩ hx h
    obtain ⟨V, rfl, hV⟩ := u64_nat hx.2
    rw [bel_iff _ _ V _ hV hZ]
    rcases h with h | h
    · rw [bel_iff _ _ V _ hV hX] at h
      refine ⟨by split <;> omega, fun j hj hb => ?_⟩
      rw [Nat.testBit_or, h.2 j hj hb, Bool.true_or]
    · rw [bel_iff _ _ V _ hV hY] at h
      refine ⟨by split <;> omega, fun j hj hb => ?_⟩
      rw [Nat.testBit_or, h.2 j hj hb, Bool.or_true]
end Go.Proofs.Ytdbdfnkhbcgklaa.V
