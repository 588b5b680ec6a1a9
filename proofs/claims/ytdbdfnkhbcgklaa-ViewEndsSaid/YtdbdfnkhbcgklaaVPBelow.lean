/-
  PLAIN: the document's 'below' answers as the program's: on labels whose numbers fit. Small words on rounds.
-/
import Derived.Test.YtdbdfnkhbcgklaaV8
import Derived.Test.YtdbdfnkhbcgklaaV4
import Derived.Test.YtdbdfnkhbcgklaaBits
import Derived.Test.YtdbdfnkhbcgklaaVSt
namespace Go.Proofs.Ytdbdfnkhbcgklaa.V
open Go.RowKit Go.Proofs.YtdbdfnkhbcgklaaW.PrintWords Go.Proofs.YtdbdfnkhbcgklaaW.PrintLast Go.Proofs.YtdbdfnkhbcgklaaW.PrintMore
set_option linter.unusedVariables false
set_option linter.unusedSimpArgs false
theorem w64_succ (i : Nat) (h : i < 9223372036854775807) : wrap64 ((i : Int) + 1) = ((i + 1 : Nat) : Int) := by
  unfold wrap64
  omega
theorem w64_id (x : Int) (h0 : -9223372036854775808 ≤ x) (h1 : x ≤ 9223372036854775807) : wrap64 x = x := by
  unfold wrap64
  omega
/-- Rounds: one more. -/
theorem rounds_succ' {k K : Nat} (h : K + 1 ≤ k) : ∃ m, k = m + 1 ∧ K ≤ m := ⟨k - 1, by omega, by omega⟩
/-- May whoever reads o read x? -/
def bel (x o : S25) : Bool := (label_Below.f x.f0 x.f1 o.f0 o.f1).getD false
theorem bel_some (x o : S25) : label_Below.f x.f0 x.f1 o.f0 o.f1 = some (bel x o) := by
  unfold bel label_Below.f
  split <;> rfl
theorem u64_nat {x : Int} (h : (Lit.int .u64 x).wf = true) : ∃ X : Nat, x = X ∧ X < 2 ^ 64 := by
  have h1 : 0 ≤ x ∧ x ≤ 18446744073709551615 := by simpa [Lit.wf, IntKind.min, IntKind.max, IntKind.signed, IntKind.bits] using h
  have h2 : (2 : Nat) ^ 64 = 18446744073709551616 := by decide
  exact ⟨x.toNat, by omega, by omega⟩
theorem i64_rng {x : Int} (h : (Lit.int .i64 x).wf = true) : -9223372036854775808 ≤ x ∧ x ≤ 9223372036854775807 := by
  simpa [Lit.wf, IntKind.min, IntKind.max, IntKind.signed, IntKind.bits] using h
theorem has_nat (a : Int) (X c : Nat) (hc : c < 64) : jalousieref02_Has.f a (X : Int) (c : Int) = some (X.testBit c) := by
  unfold jalousieref02_Has.f
  rw [if_pos (by omega), if_pos (by omega), if_pos (by omega), Bits.shr_bit X c (by omega)]
theorem below_l0 (a b : Int) (X Y : Nat) : ∀ (d c : Nat), c + d = 64 → ∃ r : Bool, Ev (fun k => jalousieref02_Below.l0 k (c : Int) a (X : Int) b (Y : Int)) r ∧ (r = true ↔ ∀ j, c ≤ j → j < 64 → X.testBit j = true → Y.testBit j = true)
  | 0, c, h => by
    refine ⟨true, ⟨1, fun k hk => ?_⟩, by simp; omega⟩
    obtain ⟨m, rfl, _⟩ := rounds_succ' hk
    simp only [jalousieref02_Below.l0]
    rw [if_neg (by omega)]
  | d + 1, c, h => by
    obtain ⟨r, ⟨K, hK⟩, hr⟩ := below_l0 a b X Y d (c + 1) (by omega)
    have go : ∀ k, K ≤ k → jalousieref02_Below.l0 k (wrap64 ((c : Int) + 1)) a (X : Int) b (Y : Int) = some r := fun k hk => by
      rw [w64_succ c (by omega)]
      exact hK k hk
    have hx := has_nat a X c (by omega)
    have hy := has_nat b Y c (by omega)
    cases hX : X.testBit c with
    | false =>
      refine ⟨r, ⟨K + 1, fun k hk => ?_⟩, hr.trans ⟨fun g j h1 h2 h3 => ?_, fun g j h1 h2 => g j (by omega) h2⟩⟩
      · obtain ⟨m, rfl, hm⟩ := rounds_succ' hk
        simp only [jalousieref02_Below.l0]
        rw [if_pos (by omega), hx, hX]
        simpa using go m hm
      · rcases Nat.lt_or_ge c j with h4 | h4
        · exact g j (by omega) h2 h3
        · obtain rfl : j = c := by omega
          rw [hX] at h3
          cases h3
    | true =>
      cases hY : Y.testBit c with
      | false =>
        refine ⟨false, ⟨K + 1, fun k hk => ?_⟩, ⟨(fun g => by cases g), (fun g => by rw [← hY]; exact g c (Nat.le_refl _) (by omega) hX)⟩⟩
        obtain ⟨m, rfl, hm⟩ := rounds_succ' hk
        simp only [jalousieref02_Below.l0]
        rw [if_pos (by omega), hx, hX, hy, hY]
        simp
      | true =>
        refine ⟨r, ⟨K + 1, fun k hk => ?_⟩, hr.trans ⟨fun g j h1 h2 h3 => ?_, fun g j h1 h2 => g j (by omega) h2⟩⟩
        · obtain ⟨m, rfl, hm⟩ := rounds_succ' hk
          simp only [jalousieref02_Below.l0]
          rw [if_pos (by omega), hx, hX, hy, hY]
          simpa using go m hm
        · rcases Nat.lt_or_ge c j with h4 | h4
          · exact g j (by omega) h2 h3
          · obtain rfl : j = c := by omega
            exact hY
theorem bel_iff (a b : Int) (X Y : Nat) (hX : X < 2 ^ 64) (hY : Y < 2 ^ 64) : bel ⟨a, X⟩ ⟨b, Y⟩ = true ↔ a ≤ b ∧ ∀ j, j < 64 → X.testBit j = true → Y.testBit j = true := by
  unfold bel label_Below.f
  by_cases h : a ≤ b
  · rw [if_pos h]
    simp only [Option.getD_some, Bits.andNot_zero X Y hX hY]
    exact ⟨fun g => ⟨h, g⟩, fun g => g.2⟩
  · rw [if_neg h]
    simp [h]
theorem below_ev {x o : S25} (hx : ok25 x) (ho : ok25 o) : Ev (fun k => jalousieref02_Below.f k x.f0 x.f1 o.f0 o.f1) (bel x o) := by
  obtain ⟨a, x1⟩ := x
  obtain ⟨b, o1⟩ := o
  obtain ⟨X, rfl, hX⟩ := u64_nat hx.2
  obtain ⟨Y, rfl, hY⟩ := u64_nat ho.2
  unfold jalousieref02_Below.f
  by_cases h : a > b
  · have e : bel ⟨a, X⟩ ⟨b, Y⟩ = false := by
      rw [Bool.eq_false_iff]
      intro g
      have := ((bel_iff a b X Y hX hY).1 g).1
      omega
    rw [e]
    refine ⟨0, fun k _ => ?_⟩
    show (if a > b then _ else _) = _
    rw [if_pos h]
  · obtain ⟨r, ⟨K, hK⟩, hr⟩ := below_l0 a b X Y 64 0 rfl
    have e : bel ⟨a, X⟩ ⟨b, Y⟩ = r := by
      rw [Bool.eq_iff_iff, bel_iff a b X Y hX hY, hr]
      exact ⟨fun g j _ => g.2 j, fun g => ⟨by omega, fun j => g j (Nat.zero_le _)⟩⟩
    rw [e]
    refine ⟨K, fun k hk => ?_⟩
    show (if a > b then _ else _) = _
    rw [if_neg h]
    exact hK k hk
end Go.Proofs.Ytdbdfnkhbcgklaa.V
