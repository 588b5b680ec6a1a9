/-
  What the claim needs of the words, of the walks and of the plain proofs, in one row (5).
-/
import Derived.Deep.RegionHeld3
import Derived.WalkLawsBesides
import Derived.WalkSpells
import Derived.RangeFuncNested
import Derived.RangeFuncBound
import Derived.RangeFuncCalls
import Derived.RangeFuncLeaves
import Derived.RangeFuncBox
import Derived.RangeFuncMany
import Derived.Shelf.Abstract
import Derived.OwnWalkIn
import Derived.TacticsInMore
import Derived.LoopNIn
import Derived.LoopIn
import Derived.Test.YtfnbodjmmkjlcaaZ0
import Derived.Test.YtfnbodjmmkjlcaaZ1
import Derived.Test.YtfnbodjmmkjlcaaZ2
import Derived.Test.YtfnbodjmmkjlcaaZ3
import Derived.Test.YtfnbodjmmkjlcaaZ4
section
namespace Go.Proofs.Ytfnbodjmmkjlcaa.H
open Go.RowKit Go.Proofs.YtfnbodjmmkjlcaaW.PrintWords Go.Proofs.YtfnbodjmmkjlcaaW.PrintLast Go.Proofs.YtfnbodjmmkjlcaaW.PrintMore
attribute [local go_sem] max2_int min2_int max_two min_two max_three min_three max_four min_four   -- for this text's walks alone
set_option linter.unusedVariables false
set_option linter.unusedSimpArgs false

/-- How many lines stay, at most, in a hunk's edits. -/
def jalousielaw09_HunkAround.lims (c : Nat) (s : List S47) : Bool := (List.range s.length).all fun k => decide ((s.getD k z47).f0 = 1 → (s.getD k z47).f1.length ≤ 2 * c ∧ (k = 0 ∨ k + 1 = s.length → (s.getD k z47).f1.length ≤ c))
def jalousielaw09_HunkAround.ok (c : Nat) (l : List S44) : Bool := (List.range l.length).all fun i => decide (0 < (l.getD i z44).f4.length ∧ (l.getD i z44).f4.length ≤ 1000000) && jalousielaw09_HunkAround.lims c (l.getD i z44).f4 && decide (0 ≤ (l.getD i z44).f0 ∧ (l.getD i z44).f0 ≤ 1000000 ∧ 0 ≤ (l.getD i z44).f1 ∧ (l.getD i z44).f1 ≤ 1000000) && decide (0 < i → (l.getD (i - 1) z44).f0 + (l.getD (i - 1) z44).f1 < (l.getD i z44).f0)
def jalousielaw09_HunkAround.f (k : Nat) (l0 : List S47) (a1 : Int) : Option Bool :=
 (jalousielaw09_few.f k l0).bind fun b => if b = true then
  (if 0 ≤ Int.tmod (wrap64 a1) 21 ∧ Int.tmod (wrap64 a1) 21 ≤ 20 then
   ((hunk_Build.f k l0 (Int.tmod (wrap64 a1) 21)).bind fun t => if t.2 = 0 then
    (if t.1.length ≤ 1000000 ∧ jalousielaw09_HunkAround.ok (Int.tmod (wrap64 a1) 21).toNat t.1 = true then
     ((jalousielaw09_live.f k).bind fun v => if v = true then ((hunk_Join.f k t.1).bind fun j => (jalousieref08_Changed.f k j).bind fun x => (jalousieref08_Changed.f k l0).bind fun y => some (x == y)) else some false)
    else none)
   else ((jalousielaw09_live.f k).bind fun v => if v = true then ((jalousieref08_Check.f k l0).bind fun e => some (t.2 == e)) else some false))
  else none)
 else (jalousielaw09_live.f k).bind fun v => some v
set_option maxHeartbeats 8000000 in
set_option maxRecDepth 100000 in
theorem jalousielaw09_HunkAround.calls (k : Nat) (A0 : Option Addr) (c0 : Nat) (l0 : List S47) (a1 : Int) (r : Bool) (w : World) (hr0 : Kd.C k47 w A0 l0.length l0) (hc0 : l0.length ≤ c0) (h : jalousielaw09_HunkAround.f k l0 a1 = some r) (HRT : Aside0 (r = true) := by first | exact ⟨rfl⟩ | assumption) :
  Calls Try.prog 6 #[.slice A0 l0.length c0, .int .u8 a1] w fun e w' => e = .returned (.bool r) ∧ Below w.heap.size w w' := by
 obtain rfl := HRT.out
 have HR0 := Aside0.mk hr0
 have HC0 := Aside0.mk hc0
 clear HRT hr0 hc0
 unfold jalousielaw09_HunkAround.f at h
 obtain ⟨b, hb, h⟩ := Option.bind_eq_some_iff.1 h
 have HF := Aside0.mk hb
 clear hb
 by_cases hbt : b = true
 ·subst hbt
  rw [if_pos rfl] at h
  split at h
  case isFalse => cases h
  rename_i hc
  obtain ⟨hcl, hcu⟩ := hc
  obtain ⟨⟨l, e⟩, hB, h⟩ := Option.bind_eq_some_iff.1 h
  have HBD := Aside0.mk hB
  clear hB
  simp only at h
  by_cases he : e = 0
  ·subst he
   rw [if_pos rfl] at h
   split at h
   case isFalse => cases h
   rename_i hok
   obtain ⟨hll, hok⟩ := hok
   obtain ⟨v, hv, h⟩ := Option.bind_eq_some_iff.1 h
   by_cases hvt : v = true
   ·subst hvt
    rw [if_pos rfl] at h
    obtain ⟨j, hj, h⟩ := Option.bind_eq_some_iff.1 h
    obtain ⟨x, hx, h⟩ := Option.bind_eq_some_iff.1 h
    obtain ⟨y, hy, h⟩ := Option.bind_eq_some_iff.1 h
    have HV := Aside0.mk hv
    have HJ := Aside0.mk hj
    have HX := Aside0.mk hx
    have HY := Aside0.mk hy
    have hxy : (x == y) = true := Option.some.inj h
    have HOK := Aside0.mk hok
    clear hv hj hx hy h hok
    go_enter Try.func6, Try.ntmps6
    go_wp2_with (first | (go_at_call 13; refine (jalousielaw09_few.calls k A0 c0 l0 true _ HR0.out HC0.out HF.out).mono ?_; rintro e_ w1 ⟨rfl, hb1⟩; have HB1 := Aside0.mk hb1; clear hb1) | (go_at_call 15; refine (hunk_Build.calls k A0 c0 l0 _ l 0 _ (Kd.C_below HR0.out HB1.out) HC0.out HBD.out).mono ?_; rintro e_ w2 ⟨v0, rfl, ho2, hb2⟩; have HB2 := Aside0.mk (below_step HB1.out hb2); obtain ⟨Al, cl, rfl, hlc, hC⟩ := Kd.R_reads ho2; have HLC := Aside0.mk hlc; have HCL := Aside0.mk hC; clear ho2 hb2 hlc hC))
    go_loopw [8] (fun vi wr => ∃ i : Nat, i ≤ l.length ∧ vi = .int .i64 (i : Int) ∧ Below w2.heap.size w2 wr) (fun vi _ => l.length - (intOf vi).toNat)
    case atStart => exact ⟨0, Nat.zero_le _, rfl, Below.refl _ _⟩
    case round =>
     obtain ⟨i, hi, rfl, hBi⟩ := hrel
     have HBI := Aside0.mk hBi
     clear hBi
     by_cases hlt : i < l.length
     ·have hlt2 : ((i : Int) < (l.length : Int)) = True := eq_true (by omega)
      have hlt3 : decide ((i : Int) < (l.length : Int)) = true := decide_eq_true (by omega)
      have hi0 : (0 ≤ (i : Int)) = True := eq_true (by omega)
      have HWi : Aside0 (wrap64 ((i : Int) + 1) = ((i + 1 : Nat) : Int)) := ⟨by unfold wrap64; omega⟩
      have hoki := List.all_eq_true.1 HOK.out i (List.mem_range.2 hlt)
      simp only [Bool.and_eq_true, decide_eq_true_eq] at hoki
      obtain ⟨⟨⟨⟨hn0, hn1⟩, hlim⟩, hf0, hf1, hf2, hf3⟩, hprev⟩ := hoki
      have HLIM := Aside0.mk hlim
      have HPREV := Aside0.mk hprev
      have HIL := Aside0.mk hi
      clear hlim hprev hi
      obtain ⟨ad, A4, c4, hAl, hx0, hx1, hx2, hx3, hx4, hl4, hC4⟩ := at_T44 (Kd.C_below HCL.out HBI.out) (i : Int) (by omega) (by omega)
      subst hAl
      have hrd : rd_T44 l (i : Int) = l.getD i z44 := by simp [rd_T44]
      rw [hrd] at hx0 hx1 hx2 hx3 hx4 hl4 hC4
      rw [Int.toNat_natCast] at hx0 hx1 hx2 hx3 hx4
      clear hrd hx1 hx2 hx3
      have HX0 := Aside0.mk hx0
      have HL4 := Aside0.mk hl4
      have HC4 := Aside0.mk hC4
      clear hl4 hC4 hx0
      generalize hh : l.getD i z44 = h at hn0 hn1 HLIM hf0 hf1 hf2 hf3 hx4 HPREV HX0 HL4 HC4
      have hn00 : (((h.f4.length : Nat) : Int) == 0) = false := beq_eq_false_iff_ne.mpr (by omega)
      have hn01 : decide ((h.f4.length : Nat) = 0) = false := decide_eq_false (by omega)
      have hn02 : h.f4.isEmpty = false := by cases hs_ : h.f4 <;> simp_all
      have HHH := Aside0.mk hh
      clear hh
      go_wp2
      clear hx4
      obtain ⟨wo, rfl⟩ : ∃ wo : World, wo = wr := ⟨_, rfl⟩
      clear HC4 HL4 HX0
      go_loopw [10] (fun vj wr => ∃ j : Nat, j ≤ h.f4.length ∧ vj = .int .i64 (j : Int) ∧ Below w2.heap.size w2 wr) (fun vj _ => h.f4.length - (intOf vj).toNat)
      case atStart => exact ⟨0, Nat.zero_le _, rfl, HBI.out⟩
      case round =>
       obtain ⟨j, hj, rfl, hBj⟩ := hrel
       have HBJ := Aside0.mk hBj
       clear hBj
       by_cases hjt : j < h.f4.length
       ·have hjt2 : ((j : Int) < (h.f4.length : Int)) = True := eq_true (by omega)
        have hjt3 : decide ((j : Int) < (h.f4.length : Int)) = true := decide_eq_true (by omega)
        have hj0 : (0 ≤ (j : Int)) = True := eq_true (by omega)
        have HWj : Aside0 (wrap64 ((j : Int) + 1) = ((j + 1 : Nat) : Int)) := ⟨by unfold wrap64; omega⟩
        have hlj := of_decide_eq_true (List.all_eq_true.1 HLIM.out j (List.mem_range.2 hjt))
        obtain ⟨ae, B4, d4, hAe, hy0, hy1, hy2, hy3, hy4, hm4, hD4⟩ := at_T44 (Kd.C_below HCL.out HBJ.out) (i : Int) (by have := HIL.out; omega) (by omega)
        obtain rfl : ad = ae := Option.some.inj hAe
        have hrd : rd_T44 l (i : Int) = h := by rw [← HHH.out]; simp [rd_T44]
        rw [hrd] at hy4 hm4 hD4
        rw [Int.toNat_natCast] at hy4
        obtain ⟨af, A1, c1, hAf, hz0, hz1, hl1, hC1⟩ := at_T47 hD4 (j : Int) (by omega) (by omega)
        subst hAf
        have hrd2 : rd_T47 h.f4 (j : Int) = h.f4.getD j z47 := by simp [rd_T47]
        rw [hrd2] at hz0 hz1
        rw [Int.toNat_natCast] at hz0 hz1
        clear hrd hrd2 hy0 hy1 hy2 hy3 hm4 hD4 hl1 hC1 hAe
        generalize h.f4.getD j z47 = x9 at hz0 hz1 hlj
        by_cases hk1 : x9.f0 = 1
        ·obtain ⟨hq1, hq2⟩ := hlj hk1
         have hk2 : (x9.f0 == 1) = true := beq_iff_eq.mpr hk1
         have hq3 : decide ((x9.f1.length : Int) > 2 * Int.tmod (wrap64 a1) 21) = false := decide_eq_false (by omega)
         by_cases hj1 : j = 0
         ·have hj2 : ((j : Int) == 0) = true := beq_iff_eq.mpr (by omega)
          have hq4 := hq2 (.inl hj1)
          have hq5 : decide ((x9.f1.length : Int) > Int.tmod (wrap64 a1) 21) = false := decide_eq_false (by omega)
          clear hlj hk1 hq1 hq2 hj1 hq4
          go_wp2
          go_roundw
          case rel => exact ⟨j + 1, by omega, by first | rfl | exact congrArg _ HWj.out, HBJ.out.alloc HBJ.out.size _⟩
          case measure =>
           try rw [HWj.out]
           simp only [intOf, Int.toNat_natCast]
           omega
         ·have hj2 : ((j : Int) == 0) = false := beq_eq_false_iff_ne.mpr (by omega)
          by_cases hj3 : j + 1 = h.f4.length
          ·have hj4 : ((j : Int) == (h.f4.length : Int) - 1) = true := beq_iff_eq.mpr (by omega)
           have hq4 := hq2 (.inr hj3)
           have hq5 : decide ((x9.f1.length : Int) > Int.tmod (wrap64 a1) 21) = false := decide_eq_false (by omega)
           clear hlj hk1 hq1 hq2 hj1 hj3 hq4
           go_wp2
           go_roundw
           case rel => exact ⟨j + 1, by omega, by first | rfl | exact congrArg _ HWj.out, HBJ.out.alloc HBJ.out.size _⟩
           case measure =>
            try rw [HWj.out]
            simp only [intOf, Int.toNat_natCast]
            omega
          ·have hj4 : ((j : Int) == (h.f4.length : Int) - 1) = false := beq_eq_false_iff_ne.mpr (by omega)
           clear hlj hk1 hq1 hq2 hj1 hj3
           go_wp2
           go_roundw
           case rel => exact ⟨j + 1, by omega, by first | rfl | exact congrArg _ HWj.out, HBJ.out.alloc HBJ.out.size _⟩
           case measure =>
            try rw [HWj.out]
            simp only [intOf, Int.toNat_natCast]
            omega
        ·have hk2 : (x9.f0 == 1) = false := beq_eq_false_iff_ne.mpr hk1
         clear hlj hk1
         go_wp2
         go_roundw
         case rel => exact ⟨j + 1, by omega, by first | rfl | exact congrArg _ HWj.out, HBJ.out.alloc HBJ.out.size _⟩
         case measure =>
          try rw [HWj.out]
          simp only [intOf, Int.toNat_natCast]
          omega
       ·obtain rfl : j = h.f4.length := by omega
        have hge : decide ((h.f4.length : Int) < (h.f4.length : Int)) = false := by simp
        clear hj hjt
        by_cases hi1 : 0 < i
        ·have hi2 : decide ((i : Int) > 0) = true := decide_eq_true (by omega)
         have hi3 : decide (0 < i) = true := decide_eq_true hi1
         have hi6 : (0 < i) = True := eq_true hi1
         have hpv := HPREV.out hi1
         obtain ⟨ae, B4, d4, hAe, hy0, hy1, hy2, hy3, hy4, hm4, hD4⟩ := at_T44 (Kd.C_below HCL.out HBJ.out) (i : Int) (by have := HIL.out; omega) (by omega)
         obtain rfl : ad = ae := Option.some.inj hAe
         obtain ⟨ag, C4, e4, hAg, hw0, hw1, hw2, hw3, hw4, ho4, hE4⟩ := at_T44 (Kd.C_below HCL.out HBJ.out) ((i : Int) - 1) (by omega) (by omega)
         obtain rfl : ad = ag := Option.some.inj hAg
         have hrd : rd_T44 l (i : Int) = h := by rw [← HHH.out]; simp [rd_T44]
         rw [hrd] at hy0
         rw [Int.toNat_natCast] at hy0
         have him : ((i : Int) - 1) = ((i - 1 : Nat) : Int) := by omega
         have hrd2 : rd_T44 l ((i : Int) - 1) = l.getD (i - 1) z44 := by rw [him]; simp [rd_T44]
         rw [hrd2] at hw0 hw1
         have hokp := List.all_eq_true.1 HOK.out (i - 1) (List.mem_range.2 (by omega))
         simp only [Bool.and_eq_true, decide_eq_true_eq] at hokp
         obtain ⟨⟨⟨_, _⟩, hg0, hg1, hg2, hg3⟩, _⟩ := hokp
         clear hrd hrd2 hy1 hy2 hy3 hy4 hm4 hD4 hw2 hw3 hw4 ho4 hE4 hAe hAg
         generalize l.getD (i - 1) z44 = g at hw0 hw1 hpv hg0 hg1 hg2 hg3
         have hle : decide (h.f0 ≤ g.f0 + g.f1) = false := decide_eq_false (by omega)
         have hi4 : (0 ≤ (i : Int) - 1) = True := eq_true (by omega)
         have hi5 : ((i : Int) - 1 < (l.length : Int)) = True := eq_true (by omega)
         have hi7 : (1 ≤ (i : Int)) = True := eq_true (by omega)
         have hi8 : (1 ≤ i) = True := eq_true (by omega)
         have hi9 : ((i : Int) < (l.length : Int) + 1) = True := eq_true (by omega)
         have hiA : ((i : Int) - 1).toNat = i - 1 := by omega
         rw [hiA] at hw0 hw1
         have hws : IntKind.i64.wrap ((i : Int) - 1) = (i : Int) - 1 := (i64_w _).trans (by unfold wrap64; omega)
         have hwt : IntKind.i64.wrap (g.f0 + g.f1) = g.f0 + g.f1 := (i64_w _).trans (by unfold wrap64; omega)
         clear hpv hi1 him
         go_wp2
         go_quiet (fail)
         go_wp2
         go_roundw
         case rel => exact ⟨i + 1, by omega, by first | rfl | exact congrArg _ HWi.out, pw_below_drewN HBJ.out _⟩
         case measure =>
          try rw [HWi.out]
          simp only [intOf, Int.toNat_natCast]
          omega
        ·have hi2 : decide ((i : Int) > 0) = false := decide_eq_false (by omega)
         go_wp2
         go_quiet (fail)
         go_wp2
         go_roundw
         case rel => exact ⟨i + 1, by omega, by first | rfl | exact congrArg _ HWi.out, pw_below_drewN HBJ.out _⟩
         case measure =>
          try rw [HWi.out]
          simp only [intOf, Int.toNat_natCast]
          omega
     ·obtain rfl : i = l.length := by omega
      have hge : decide ((l.length : Int) < (l.length : Int)) = false := by simp
      have HBL := Aside0.mk (HB2.out.trans (HBI.out.mono HB2.out.size))
      clear hi hlt
      go_wp2_with (first | (go_at_call 14; refine (jalousielaw09_live.calls k true _ HV.out).mono ?_; rintro e_ w3 ⟨rfl, hb3⟩; have HB3 := Aside0.mk (HBI.out.trans (hb3.mono HBI.out.size)); clear hb3) | (go_at_call 21; refine (hunk_Join.calls k Al cl l j _ (Kd.C_below HCL.out HB3.out) HLC.out HJ.out).mono ?_; rintro e_ w4 ⟨v4, rfl, ho4, hb4⟩; have HB4 := Aside0.mk (HB3.out.trans (hb4.mono HB3.out.size)); obtain ⟨Aj, cj, rfl, hlj, hCj⟩ := Kd.R_reads (Kd.S_R ho4); have HLJ := Aside0.mk hlj; have HCJ := Aside0.mk hCj; clear ho4 hb4 hlj hCj) | (go_at_call 27; with_reducible refine (jalousieref08_Changed.calls k Aj cj j x _ HCJ.out HLJ.out HX.out).mono ?_; rintro e_ w5 ⟨rfl, hd5⟩; have HB5 := Aside0.mk (HB4.out.trans (hd5.below.mono HB4.out.size)); clear hd5) | (go_at_call 27; with_reducible refine (jalousieref08_Changed.calls k A0 c0 l0 y _ (Kd.C_below HR0.out (HB2.out.trans (HB5.out.mono HB2.out.size))) HC0.out HY.out).mono ?_; rintro e_ w6 ⟨rfl, hd6⟩; have HB6 := Aside0.mk (below_step (HB2.out.trans (HB5.out.mono HB2.out.size)) hd6.below); clear hd6))
      go_ret
      exact ⟨rfl, HB6.out⟩
   ·rw [if_neg hvt] at h
    cases h
  ·rw [if_neg he] at h
   obtain ⟨v, hv, h⟩ := Option.bind_eq_some_iff.1 h
   by_cases hvt : v = true
   ·subst hvt
    rw [if_pos rfl] at h
    obtain ⟨y, hy, h⟩ := Option.bind_eq_some_iff.1 h
    have HV := Aside0.mk hv
    have HY := Aside0.mk hy
    have hxy : (e == y) = true := Option.some.inj h
    have hne : (e != 0) = true := bne_iff_ne.mpr he
    clear hv hy h he
    go_enter Try.func6, Try.ntmps6
    go_wp2_with (first | (go_at_call 13; refine (jalousielaw09_few.calls k A0 c0 l0 true _ HR0.out HC0.out HF.out).mono ?_; rintro e_ w1 ⟨rfl, hb1⟩; have HB1 := Aside0.mk hb1; clear hb1) | (go_at_call 15; refine (hunk_Build.calls k A0 c0 l0 _ l e _ (Kd.C_below HR0.out HB1.out) HC0.out HBD.out).mono ?_; rintro e_ w2 ⟨v0, rfl, ho2, hb2⟩; have HB2 := Aside0.mk (below_step HB1.out hb2); clear ho2 hb2) | (go_at_call 14; refine (jalousielaw09_live.calls k true _ HV.out).mono ?_; rintro e_ w3 ⟨rfl, hb3⟩; have HB3 := Aside0.mk (below_step HB2.out hb3); clear hb3) | (go_at_call 26; refine (jalousieref08_Check.calls k A0 c0 l0 y _ (Kd.C_below HR0.out HB3.out) HC0.out HY.out).mono ?_; rintro e_ w4 ⟨rfl, hd4⟩; have HB4 := Aside0.mk (below_step HB3.out hd4.below); clear hd4))
    go_ret
    exact ⟨rfl, HB4.out⟩
   ·rw [if_neg hvt] at h
    cases h
 ·rw [if_neg hbt] at h
  obtain rfl : b = false := by simpa using hbt
  obtain ⟨v, hv, h⟩ := Option.bind_eq_some_iff.1 h
  obtain rfl := Option.some.inj h
  have HV := Aside0.mk hv
  clear hv h hbt
  go_enter Try.func6, Try.ntmps6
  go_wp2_with (first | (go_at_call 13; refine (jalousielaw09_few.calls k A0 c0 l0 false _ HR0.out HC0.out HF.out).mono ?_; rintro e_ w1 ⟨rfl, hb1⟩; have HB1 := Aside0.mk hb1; clear hb1) | (go_at_call 14; refine (jalousielaw09_live.calls k true _ HV.out).mono ?_; rintro e_ w3 ⟨rfl, hb3⟩; have HB3 := Aside0.mk (below_step HB1.out hb3); clear hb3))
  go_ret
  exact ⟨rfl, HB3.out⟩


end Go.Proofs.Ytfnbodjmmkjlcaa.H
end
section
namespace Go.Proofs.Ytfnbodjmmkjlcaa.H
open Go.RowKit Go.Proofs.YtfnbodjmmkjlcaaW.PrintWords Go.Proofs.YtfnbodjmmkjlcaaW.PrintLast Go.Proofs.YtfnbodjmmkjlcaaW.PrintMore
set_option linter.unusedVariables false
/-- THE PURE STATEMENT of HunkAround. -/
def jalousielaw09_HunkAround.Pure : Prop := ∀ (l0 : (List S47)) (a1 : Int), (∀ y_ ∈ l0, ok47 y_) → ((Lit.int .u8 a1).wf = true) → (l0.length * 32 ≤ 140737488351232 ∧ ∀ y_ ∈ l0, sz47 y_) → (True) → ∃ k, jalousielaw09_HunkAround.f k l0 a1 = some true
end Go.Proofs.Ytfnbodjmmkjlcaa.H
end
section
namespace Go.Proofs.Ytfnbodjmmkjlcaa
open Go.RowKit Go.Proofs.YtfnbodjmmkjlcaaW.PrintWords Go.Proofs.YtfnbodjmmkjlcaaW.PrintMore
theorem ev_succ {α : Type} {g : Nat → Option α} {r : α} (h : Ev (fun k => g (k + 1)) r) : Ev g r := Ev.step (fun _ => rfl) h
theorem ev_pos {α : Type} {c : Prop} [Decidable c] {f g : Nat → Option α} {r : α} (h : c) (k : Ev f r) : Ev (fun n => if c then f n else g n) r := by
  obtain ⟨K, k⟩ := k
  exact ⟨K, fun n hn => (if_pos h).trans (k n hn)⟩
theorem ev_neg {α : Type} {c : Prop} [Decidable c] {f g : Nat → Option α} {r : α} (h : ¬ c) (k : Ev g r) : Ev (fun n => if c then f n else g n) r := by
  obtain ⟨K, k⟩ := k
  exact ⟨K, fun n hn => (if_neg h).trans (k n hn)⟩
theorem ev_some {α : Type} {a r : α} (h : a = r) : Ev (fun _ => some a) r := ⟨0, fun _ _ => congrArg some h⟩
theorem ev_bind {α β : Type} {x : Option α} {f : Nat → α → Option β} {a : α} {r : β} (h : x = some a) (k : Ev (fun n => f n a) r) : Ev (fun n => x.bind (f n)) r := by
  subst h
  exact k
theorem ev_cast {α : Type} {g : Nat → Option α} {r q : α} (h : Ev g r) (e : r = q) : Ev g q := e ▸ h
theorem ev_as {α : Type} {g f : Nat → Option α} {r : α} (h : Ev g r) (e : g = f) : Ev f r := e ▸ h
theorem w64s (i : Nat) (h : i < 9223372036854775807) : wrap64 ((i : Int) + 1) = ((i + 1 : Nat) : Int) := by
  unfold wrap64
  omega
theorem w64i (x : Int) (h0 : -9223372036854775808 ≤ x) (h1 : x ≤ 9223372036854775807) : wrap64 x = x := by
  unfold wrap64
  omega
theorem getD_lt {α : Type} {l : List α} {i : Nat} (h : i < l.length) (d : α) : l.getD i d = l[i] := by
  rw [List.getD_eq_getElem?_getD, List.getElem?_eq_getElem h]
  rfl
theorem getD_some {α : Type} {l : List α} {i : Nat} {x : α} (h : l[i]? = some x) (d : α) : l.getD i d = x := by
  rw [List.getD_eq_getElem?_getD, h]
  rfl
theorem drop_cons {α : Type} (l : List α) (i : Nat) (h : i < l.length) (d : α) : l.drop i = l.getD i d :: l.drop (i + 1) := by
  rw [List.drop_eq_getElem_cons h, getD_lt h]
end Go.Proofs.Ytfnbodjmmkjlcaa
end
section
namespace Go.Proofs.Ytfnbodjmmkjlcaa.H
open Go.RowKit Go.Proofs.YtfnbodjmmkjlcaaW.PrintWords Go.Proofs.YtfnbodjmmkjlcaaW.PrintLast Go.Proofs.YtfnbodjmmkjlcaaW.PrintMore
set_option linter.unusedVariables false
set_option linter.unusedSimpArgs false
theorem rdE (l : List S47) (i : Nat) : rd_T47 l (i : Int) = l.getD i z47 := by simp [rd_T47]
theorem rdH (l : List S44) (i : Nat) : rd_T44 l (i : Int) = l.getD i z44 := by simp [rd_T44]
theorem getD_mem {α : Type} {l : List α} {i : Nat} (h : i < l.length) (d : α) : l.getD i d ∈ l := by
  rw [getD_lt h]
  exact List.getElem_mem h
/-- How many lines. -/
def nl (s : List S47) : Nat := (s.map (fun e => e.f1.length)).sum
theorem nl_cons (x : S47) (s : List S47) : nl (x :: s) = x.f1.length + nl s := by simp [nl]
theorem nl_nil : nl [] = 0 := rfl
theorem nl_append (s t : List S47) : nl (s ++ t) = nl s + nl t := by simp [nl]
theorem nl_lines (s : List S47) : script_normal.lines s = nl s := rfl
/-- Each stays, goes, or is put in. -/
def allok (s : List S47) : Bool := s.all fun x => decide (1 ≤ x.f0 ∧ x.f0 ≤ 3)
theorem allok_cons (x : S47) (s : List S47) : allok (x :: s) = (decide (1 ≤ x.f0 ∧ x.f0 ≤ 3) && allok s) := by simp [allok]
/-- Sizes that a machine holds. -/
def Fit (s : List S47) : Prop := s.length ≤ 4398046511104 ∧ ∀ x ∈ s, x.f1.length ≤ 5864062014805
/-- What is wrong with a script. -/
def chk (s : List S47) : Int := if 800 < s.length then 4 else if 800 < nl s then 4 else if allok s = true then 0 else 3
theorem chk_zero {s : List S47} : chk s = 0 ↔ s.length ≤ 800 ∧ nl s ≤ 800 ∧ allok s = true := by
  unfold chk
  by_cases h1 : 800 < s.length
  · rw [if_pos h1]
    constructor
    · intro h
      cases h
    · omega
  · rw [if_neg h1]
    by_cases h2 : 800 < nl s
    · rw [if_pos h2]
      constructor
      · intro h
        cases h
      · omega
    · rw [if_neg h2]
      by_cases h3 : allok s = true
      · rw [if_pos h3]
        simp [h3]
        omega
      · rw [if_neg h3]
        simp [h3]
theorem chk_l0 (s : List S47) (hf : Fit s) : ∀ (d i n : Nat) (e : Int), i + d = s.length → n ≤ 800 → Ev (fun k => script_Check.l0 k (n : Int) e s (s.length : Int) (i : Int)) (if 800 < n + nl (s.drop i) then 4 else if allok (s.drop i) = true then e else 3)
  | 0, i, n, e, h, hn => by
    refine ev_succ ?_
    simp only [script_Check.l0]
    have := hf.1
    (repeat (first | refine ev_pos (by omega) ?_ | refine ev_neg (by omega) ?_))
    rw [List.drop_of_length_le (by omega)]
    exact ev_some (by rw [if_neg (by rw [nl_nil]; omega)]; rfl)
  | d + 1, i, n, e, h, hn => by
    have h1 := hf.1
    have hx := hf.2 _ (getD_mem (l := s) (i := i) (by omega) z47)
    rw [drop_cons s i (by omega) z47]
    refine ev_succ ?_
    simp only [script_Check.l0, rdE]
    rw [w64s i (by omega)]
    generalize s.getD i z47 = x at hx
    have hm : mn (wrap64 ((n : Int) + (x.f1.length : Int))) 801 = ((min (n + x.f1.length) 801 : Nat) : Int) := by
      unfold mn wrap64
      split <;> omega
    rw [hm, nl_cons, allok_cons]
    refine ev_pos (by omega) ?_
    refine ev_pos (by omega) ?_
    refine ev_pos (by omega) ?_
    by_cases hc : 800 < n + x.f1.length
    · refine ev_pos (by omega) ?_
      exact ev_some (by rw [if_pos (by omega)])
    · refine ev_neg (by omega) ?_
      rw [Nat.min_eq_left (by omega)]
      by_cases h3 : x.f0 < 1
      · refine ev_pos h3 ?_
        refine ev_cast (chk_l0 s hf d (i + 1) (n + x.f1.length) 3 (by omega) (by omega)) ?_
        rw [decide_eq_false (by omega), Bool.false_and, Nat.add_assoc]
        split
        · rfl
        · simp
      · refine ev_neg h3 ?_
        by_cases h4 : x.f0 > 3
        · refine ev_pos h4 ?_
          refine ev_cast (chk_l0 s hf d (i + 1) (n + x.f1.length) 3 (by omega) (by omega)) ?_
          rw [decide_eq_false (by omega), Bool.false_and, Nat.add_assoc]
          split
          · rfl
          · simp
        · refine ev_neg h4 ?_
          refine ev_cast (chk_l0 s hf d (i + 1) (n + x.f1.length) e (by omega) (by omega)) ?_
          rw [decide_eq_true (by omega), Bool.true_and, Nat.add_assoc]
theorem chk_ev (s : List S47) (hf : Fit s) : Ev (fun k => script_Check.f k s) (chk s) := by
  unfold script_Check.f chk
  by_cases h : 800 < s.length
  · refine ev_pos (by omega) ?_
    exact ev_some (by rw [if_pos h])
  · refine ev_neg (by omega) ?_
    refine ev_cast (chk_l0 s hf s.length 0 0 0 (by omega) (by omega)) ?_
    rw [if_neg h, List.drop_zero, Nat.zero_add]
theorem rchk_l1 (s : List S47) (hf : Fit s) : ∀ (d i : Nat), i + d = s.length → Ev (fun k => jalousieref08_Check.l1 k s (i : Int)) (if allok (s.drop i) = true then 0 else 3)
  | 0, i, h => by
    refine ev_succ ?_
    simp only [jalousieref08_Check.l1]
    have := hf.1
    (repeat (first | refine ev_pos (by omega) ?_ | refine ev_neg (by omega) ?_))
    rw [List.drop_of_length_le (by omega)]
    exact ev_some (by rfl)
  | d + 1, i, h => by
    have h1 := hf.1
    rw [drop_cons s i (by omega) z47]
    refine ev_succ ?_
    simp only [jalousieref08_Check.l1, rdE]
    rw [w64s i (by omega), allok_cons]
    generalize s.getD i z47 = x
    refine ev_pos (by omega) ?_
    refine ev_pos (by omega) ?_
    have ih := rchk_l1 s hf d (i + 1) (by omega)
    by_cases a1 : x.f0 = 1
    · refine ev_pos a1 (ev_cast ih ?_)
      rw [decide_eq_true (by omega), Bool.true_and]
    · refine ev_neg a1 ?_
      by_cases a2 : x.f0 = 2
      · refine ev_pos a2 (ev_cast ih ?_)
        rw [decide_eq_true (by omega), Bool.true_and]
      · refine ev_neg a2 ?_
        by_cases a3 : x.f0 = 3
        · refine ev_pos a3 (ev_cast ih ?_)
          rw [decide_eq_true (by omega), Bool.true_and]
        · refine ev_neg a3 (ev_some ?_)
          rw [decide_eq_false (by omega), Bool.false_and]
          rfl
theorem rchk_l0 (s : List S47) (hf : Fit s) : ∀ (d i n : Nat), i + d = s.length → n ≤ 800 → Ev (fun k => jalousieref08_Check.l0 k s (n : Int) (i : Int)) (if 800 < n + nl (s.drop i) then 4 else if allok s = true then 0 else 3)
  | 0, i, n, h, hn => by
    refine ev_succ ?_
    simp only [jalousieref08_Check.l0]
    have := hf.1
    (repeat (first | refine ev_pos (by omega) ?_ | refine ev_neg (by omega) ?_))
    rw [List.drop_of_length_le (by omega)]
    refine ev_cast (rchk_l1 s hf s.length 0 (by omega)) ?_
    rw [List.drop_zero, if_neg (show ¬ 800 < n + nl [] by rw [nl_nil]; omega)]
  | d + 1, i, n, h, hn => by
    have h1 := hf.1
    have hx := hf.2 _ (getD_mem (l := s) (i := i) (by omega) z47)
    rw [drop_cons s i (by omega) z47]
    refine ev_succ ?_
    simp only [jalousieref08_Check.l0, rdE]
    rw [w64s i (by omega)]
    generalize s.getD i z47 = x at hx
    rw [w64i (800 - (n : Int)) (by omega) (by omega), w64i ((n : Int) + (x.f1.length : Int)) (by omega) (by omega), nl_cons]
    refine ev_pos (by omega) ?_
    refine ev_pos (by omega) ?_
    by_cases hc : 800 < n + x.f1.length
    · refine ev_pos (by omega) ?_
      exact ev_some (by rw [if_pos (by omega)])
    · refine ev_neg (by omega) ?_
      refine ev_cast (rchk_l0 s hf d (i + 1) (n + x.f1.length) (by omega) (by omega)) ?_
      rw [Nat.add_assoc]
theorem rchk_ev (s : List S47) (hf : Fit s) : Ev (fun k => jalousieref08_Check.f k s) (chk s) := by
  unfold jalousieref08_Check.f chk
  by_cases h : 800 < s.length
  · refine ev_pos (by omega) ?_
    exact ev_some (by rw [if_pos h])
  · refine ev_neg (by omega) ?_
    refine ev_cast (rchk_l0 s hf s.length 0 0 (by omega) (by omega)) ?_
    rw [if_neg h, List.drop_zero, Nat.zero_add]
/-- A script's lines but those of one kind. -/
def side (s : List S47) (but : Int) : List S66 := s.flatMap fun x => if x.f0 = but then [] else x.f1
theorem side_cons (x : S47) (s : List S47) (b : Int) : side (x :: s) b = (if x.f0 = b then [] else x.f1) ++ side s b := by simp [side]
theorem side_append (s t : List S47) (b : Int) : side (s ++ t) b = side s b ++ side t b := by simp [side]
theorem sides_l0 (s : List S47) (hok : allok s = true) (hn : nl s ≤ 800) (hl : s.length ≤ 800) : ∀ (d i : Nat) (a b : List S66), i + d = s.length → a.length + nl (s.drop i) ≤ 800 → b.length + nl (s.drop i) ≤ 800 → Ev (fun k => script_sides.l0 k a b s (s.length : Int) (i : Int)) (a ++ side (s.drop i) 3, b ++ side (s.drop i) 2)
  | 0, i, a, b, h, ha, hb => by
    refine ev_succ ?_
    simp only [script_sides.l0]
    (repeat (first | refine ev_pos (by omega) ?_ | refine ev_neg (by omega) ?_))
    rw [List.drop_of_length_le (by omega)]
    exact ev_some (by simp [side])
  | d + 1, i, a, b, h, ha, hb => by
    have hx : 1 ≤ (s.getD i z47).f0 ∧ (s.getD i z47).f0 ≤ 3 := by
      have := List.all_eq_true.1 hok _ (getD_mem (l := s) (i := i) (by omega) z47)
      simpa using this
    rw [drop_cons s i (by omega) z47] at ha hb ⊢
    rw [nl_cons] at ha hb
    refine ev_succ ?_
    simp only [script_sides.l0, rdE]
    rw [w64s i (by omega)]
    generalize s.getD i z47 = x at hx ha hb
    rw [side_cons, side_cons]
    refine ev_pos (by omega) ?_
    refine ev_pos (by omega) ?_
    refine ev_pos (by omega) ?_
    by_cases a1 : x.f0 = 1
    · refine ev_pos a1 ?_
      (repeat (first | refine ev_pos (by omega) ?_ | refine ev_neg (by omega) ?_))
      refine ev_cast (sides_l0 s hok hn hl d (i + 1) _ _ (by omega) (by rw [List.length_append]; omega) (by rw [List.length_append]; omega)) ?_
      rw [if_neg (by omega), if_neg (by omega), List.append_assoc, List.append_assoc]
    · refine ev_neg a1 ?_
      by_cases a2 : x.f0 = 2
      · refine ev_pos a2 ?_
        (repeat (first | refine ev_pos (by omega) ?_ | refine ev_neg (by omega) ?_))
        refine ev_cast (sides_l0 s hok hn hl d (i + 1) _ _ (by omega) (by rw [List.length_append]; omega) (by omega)) ?_
        rw [if_neg (by omega), if_pos a2, List.append_assoc, List.nil_append]
      · refine ev_neg a2 ?_
        (repeat (first | refine ev_pos (by omega) ?_ | refine ev_neg (by omega) ?_))
        refine ev_cast (sides_l0 s hok hn hl d (i + 1) _ _ (by omega) (by omega) (by rw [List.length_append]; omega)) ?_
        rw [if_pos (by omega), if_neg a2, List.append_assoc, List.nil_append]
/-- Both sides, and what is wrong. -/
def sds (s : List S47) : List S66 × List S66 × Int := if chk s = 0 then (side s 3, side s 2, 0) else ([], [], chk s)
theorem sides_ev (s : List S47) (hf : Fit s) : Ev (fun k => script_Sides.f k s) (sds s) := by
  unfold script_Sides.f sds
  refine Ev.bind (chk_ev s hf) ?_
  by_cases h : chk s = 0
  · refine ev_pos h ?_
    rw [if_pos h]
    obtain ⟨h1, h2, h3⟩ := chk_zero.1 h
    refine Ev.bind (a := (side s 3, side s 2)) ?_ (ev_some rfl)
    unfold script_sides.f
    refine ev_cast (sides_l0 s h3 h2 h1 s.length 0 [] [] (by omega) (by simpa using h2) (by simpa using h2)) ?_
    simp
  · refine ev_neg h ?_
    rw [if_neg h]
    exact ev_some rfl
def chg (s : List S47) : Nat := (s.map fun x => if x.f0 = 2 ∨ x.f0 = 3 then x.f1.length else 0).sum
theorem chg_cons (x : S47) (s : List S47) : chg (x :: s) = (if x.f0 = 2 ∨ x.f0 = 3 then x.f1.length else 0) + chg s := by simp [chg]
theorem chg_append (s t : List S47) : chg (s ++ t) = chg s + chg t := by simp [chg]
theorem chg_l0 (s : List S47) (hn : nl s ≤ 1000000000000000000) (hl : s.length ≤ 1000000000000000000) : ∀ (d i n : Nat), i + d = s.length → n + nl (s.drop i) ≤ 1000000000000000000 → Ev (fun k => script_Changed.l0 k (n : Int) s (s.length : Int) (i : Int)) ((n + chg (s.drop i) : Nat) : Int)
  | 0, i, n, h, ha => by
    refine ev_succ ?_
    simp only [script_Changed.l0]
    (repeat (first | refine ev_pos (by omega) ?_ | refine ev_neg (by omega) ?_))
    rw [List.drop_of_length_le (by omega)]
    exact ev_some (by simp [chg])
  | d + 1, i, n, h, ha => by
    rw [drop_cons s i (by omega) z47] at ha ⊢
    rw [nl_cons] at ha
    refine ev_succ ?_
    simp only [script_Changed.l0, rdE]
    rw [w64s i (by omega)]
    generalize s.getD i z47 = x at ha
    rw [chg_cons]
    refine ev_pos (by omega) ?_
    refine ev_pos (by omega) ?_
    refine ev_pos (by omega) ?_
    have hw : wrap64 ((n : Int) + (x.f1.length : Int)) = ((n + x.f1.length : Nat) : Int) := by
      unfold wrap64
      omega
    by_cases a1 : x.f0 = 2
    · refine ev_pos a1 ?_
      rw [hw]
      refine ev_cast (chg_l0 s hn hl d (i + 1) _ (by omega) (by omega)) ?_
      rw [if_pos (Or.inl a1), Nat.add_assoc]
    · refine ev_neg a1 ?_
      by_cases a2 : x.f0 = 3
      · refine ev_pos a2 ?_
        rw [hw]
        refine ev_cast (chg_l0 s hn hl d (i + 1) _ (by omega) (by omega)) ?_
        rw [if_pos (Or.inr a2), Nat.add_assoc]
      · refine ev_neg a2 ?_
        refine ev_cast (chg_l0 s hn hl d (i + 1) _ (by omega) (by omega)) ?_
        rw [if_neg (by omega), Nat.zero_add]
theorem rchg_l0 (s : List S47) (hn : nl s ≤ 1000000000000000000) (hl : s.length ≤ 1000000000000000000) : ∀ (d i n : Nat), i + d = s.length → n + nl (s.drop i) ≤ 1000000000000000000 → Ev (fun k => jalousieref08_Changed.l0 k s (n : Int) (i : Int)) ((n + chg (s.drop i) : Nat) : Int)
  | 0, i, n, h, ha => by
    refine ev_succ ?_
    simp only [jalousieref08_Changed.l0]
    (repeat (first | refine ev_pos (by omega) ?_ | refine ev_neg (by omega) ?_))
    rw [List.drop_of_length_le (by omega)]
    exact ev_some (by simp [chg])
  | d + 1, i, n, h, ha => by
    rw [drop_cons s i (by omega) z47] at ha ⊢
    rw [nl_cons] at ha
    refine ev_succ ?_
    simp only [jalousieref08_Changed.l0, rdE]
    rw [w64s i (by omega)]
    generalize s.getD i z47 = x at ha
    rw [chg_cons]
    refine ev_pos (by omega) ?_
    refine ev_pos (by omega) ?_
    have hw : wrap64 ((n : Int) + (x.f1.length : Int)) = ((n + x.f1.length : Nat) : Int) := by
      unfold wrap64
      omega
    by_cases a1 : x.f0 = 2
    · refine ev_pos a1 ?_
      rw [hw]
      refine ev_cast (rchg_l0 s hn hl d (i + 1) _ (by omega) (by omega)) ?_
      rw [if_pos (Or.inl a1), Nat.add_assoc]
    · refine ev_neg a1 ?_
      by_cases a2 : x.f0 = 3
      · refine ev_pos a2 ?_
        rw [hw]
        refine ev_cast (rchg_l0 s hn hl d (i + 1) _ (by omega) (by omega)) ?_
        rw [if_pos (Or.inr a2), Nat.add_assoc]
      · refine ev_neg a2 ?_
        refine ev_cast (rchg_l0 s hn hl d (i + 1) _ (by omega) (by omega)) ?_
        rw [if_neg (by omega), Nat.zero_add]
theorem rchg_ev (s : List S47) (hn : nl s ≤ 1000000000000000000) (hl : s.length ≤ 1000000000000000000) : Ev (fun k => jalousieref08_Changed.f k s) (chg s : Int) := by
  unfold jalousieref08_Changed.f
  refine ev_cast (rchg_l0 s hn hl s.length 0 0 (by omega) (by simpa using hn)) ?_
  simp
end Go.Proofs.Ytfnbodjmmkjlcaa.H
namespace Go.Proofs.Ytfnbodjmmkjlcaa.H
open Go.RowKit Go.Proofs.YtfnbodjmmkjlcaaW.PrintWords Go.Proofs.YtfnbodjmmkjlcaaW.PrintLast Go.Proofs.YtfnbodjmmkjlcaaW.PrintMore
set_option linter.unusedVariables false
set_option linter.unusedSimpArgs false
instance decL : DecidableEq S66 := fun a b => decidable_of_iff (a.f0 = b.f0 ∧ a.f1 = b.f1) ⟨fun h => by cases a; cases b; simp at h; simp [h], fun h => h ▸ ⟨rfl, rfl⟩⟩
instance decE : DecidableEq S47 := fun a b => decidable_of_iff (a.f0 = b.f0 ∧ a.f1 = b.f1) ⟨fun h => by cases a; cases b; simp at h; simp [h], fun h => h ▸ ⟨rfl, rfl⟩⟩
def joins (l : List S44) : List S47 := l.flatMap (·.f4)
theorem joins_cons (h : S44) (t : List S44) : joins (h :: t) = h.f4 ++ joins t := by simp [joins]
theorem join_l (l : List S44) (hl : l.length ≤ 4398046511104) (hf : ∀ h ∈ l, ∀ x ∈ h.f4, x.f1.length < 5864062014805) : ∀ (d i : Nat) (a : List S47), i + d = l.length → a.length + (joins (l.drop i)).length ≤ 4398046511104 → Ev (fun k => hunk_Join.l0 k a l (l.length : Int) (i : Int)) (a ++ joins (l.drop i))
  | 0, i, a, h, ha => by
    refine ev_succ ?_
    simp only [hunk_Join.l0]
    (repeat (first | refine ev_pos (by omega) ?_ | refine ev_neg (by omega) ?_))
    rw [List.drop_of_length_le (by omega)]
    exact ev_some (by simp [joins])
  | d + 1, i, a, h, ha => by
    rw [drop_cons l i (by omega) z44] at ha ⊢
    rw [joins_cons, List.length_append] at ha
    have hfx := hf _ (getD_mem (l := l) (i := i) (by omega) z44)
    refine ev_succ ?_
    simp only [hunk_Join.l0, rdH]
    (repeat (first | refine ev_pos (by omega) ?_ | refine ev_neg (by omega) ?_))
    rw [joins_cons]
    generalize l.getD i z44 = x at ha hfx ⊢
    have inner : ∀ (e j : Nat) (b : List S47), j + e = x.f4.length → b.length + e + (joins (l.drop (i + 1))).length ≤ 4398046511104 → Ev (fun k => hunk_Join.l1 k b l (l.length : Int) (i : Int) x.f4 (x.f4.length : Int) (j : Int)) (b ++ (x.f4.drop j) ++ joins (l.drop (i + 1))) := by
      intro e
      induction e with
      | zero =>
        intro j b hj hb
        refine ev_succ ?_
        simp only [hunk_Join.l1]
        (repeat (first | refine ev_pos (by omega) ?_ | refine ev_neg (by omega) ?_))
        rw [w64s i (by omega), List.drop_of_length_le (l := x.f4) (by omega)]
        refine ev_cast (join_l l hl hf d (i + 1) b (by omega) (by omega)) (by simp)
      | succ e ih =>
        intro j b hj hb
        have hc := hfx _ (getD_mem (l := x.f4) (i := j) (by omega) z47)
        refine ev_succ ?_
        simp only [hunk_Join.l1, rdE]
        (repeat (first | refine ev_pos (by omega) ?_ | refine ev_neg (by omega) ?_))
        rw [w64s j (by omega), drop_cons x.f4 j (by omega) z47]
        refine ev_bind (a := (x.f4.getD j z47).f1) (by unfold api_Line_52.f; rw [if_pos hc]) ?_
        (repeat (first | refine ev_pos (by omega) ?_ | refine ev_neg (by omega) ?_))
        refine ev_cast (ih (j + 1) _ (by omega) (by rw [List.length_append]; simp; omega)) (by simp)
    refine ev_cast (inner x.f4.length 0 a (by omega) (by omega)) ?_
    rw [List.drop_zero, List.append_assoc]
theorem join_ev (l : List S44) (hl : l.length ≤ 4398046511104) (hf : ∀ h ∈ l, ∀ x ∈ h.f4, x.f1.length < 5864062014805) (hj : (joins l).length ≤ 4398046511104) : Ev (fun k => hunk_Join.f k l) (joins l) := by
  unfold hunk_Join.f
  exact ev_cast (join_l l hl hf l.length 0 [] (by omega) (by simpa using hj)) (by simp)
end Go.Proofs.Ytfnbodjmmkjlcaa.H
namespace Go.Proofs.Ytfnbodjmmkjlcaa.H
open Go.RowKit Go.Proofs.YtfnbodjmmkjlcaaW.PrintWords Go.Proofs.YtfnbodjmmkjlcaaW.PrintLast Go.Proofs.YtfnbodjmmkjlcaaW.PrintMore
set_option linter.unusedVariables false
set_option linter.unusedSimpArgs false
theorem last_rd (t : List S47) (y : S47) : rd_T47 (t ++ [y]) (((t ++ [y]).length : Int) - 1) = y := by
  have e : (((t ++ [y]).length : Int) - 1) = (t.length : Int) := by simp
  rw [e, rdE, List.getD_eq_getElem?_getD]
  simp
theorem add_nil (s : List S47) (d : Int) : script_normal.add s d [] = s := by simp [script_normal.add]
theorem add_empty (d : Int) (l : List S66) (hl : l ≠ []) : script_normal.add [] d l = [⟨d, l⟩] := by
  unfold script_normal.add
  rw [if_neg (by simpa using hl), if_neg (by simp), List.nil_append]
theorem add_ne (t : List S47) (y : S47) (d : Int) (l : List S66) (hl : l ≠ []) (h : y.f0 ≠ d) : script_normal.add (t ++ [y]) d l = t ++ [y] ++ [⟨d, l⟩] := by
  unfold script_normal.add
  rw [if_neg (by simpa using hl), last_rd, if_neg (by simp [h])]
theorem add_eq (t : List S47) (y : S47) (d : Int) (l : List S66) (hl : l ≠ []) (h : y.f0 = d) : script_normal.add (t ++ [y]) d l = t ++ [⟨d, y.f1 ++ l⟩] := by
  unfold script_normal.add
  rw [if_neg (by simpa using hl), last_rd, if_pos ⟨by simp, h⟩]
  have e : (t ++ [y]).length - 1 = t.length := by simp
  rw [e, List.set_append_right _ _ (Nat.le_refl _), Nat.sub_self]
  rfl
theorem snoc_cases {α : Type} (s : List α) : s = [] ∨ ∃ t y, s = t ++ [y] := by
  rcases List.eq_nil_or_concat s with h | ⟨t, y, h⟩
  · exact .inl h
  · exact .inr ⟨t, y, by simpa using h⟩
theorem add_add (s : List S47) (d : Int) (a b : List S66) : script_normal.add (script_normal.add s d a) d b = script_normal.add s d (a ++ b) := by
  by_cases ha : a = []
  · subst ha
    rw [add_nil, List.nil_append]
  by_cases hb : b = []
  · subst hb
    rw [add_nil, List.append_nil]
  have hab : a ++ b ≠ [] := by simp [ha]
  rcases snoc_cases s with rfl | ⟨t, y, rfl⟩
  · rw [add_empty d a ha, add_empty d _ hab]
    exact add_eq [] ⟨d, a⟩ d b hb rfl
  · by_cases h : y.f0 = d
    · rw [add_eq t y d a ha h, add_eq t _ d b hb rfl, add_eq t y d _ hab h, List.append_assoc]
    · rw [add_ne t y d a ha h, add_ne t y d _ hab h, add_eq (t ++ [y]) ⟨d, a⟩ d b hb rfl]
theorem chg_add (s : List S47) (d : Int) (l : List S66) : chg (script_normal.add s d l) = chg s + (if d = 2 ∨ d = 3 then l.length else 0) := by
  by_cases hl : l = []
  · subst hl
    rw [add_nil]
    simp
  rcases snoc_cases s with rfl | ⟨t, y, rfl⟩
  · rw [add_empty d l hl]
    simp [chg]
  · by_cases h : y.f0 = d
    · rw [add_eq t y d l hl h, chg_append, chg_append, chg_cons, chg_cons]
      by_cases hb : d = 2 ∨ d = 3
      · simp [chg, hb, h]
        omega
      · simp [chg, hb, h]
    · rw [add_ne t y d l hl h, chg_append _ [_], chg_cons]
      simp [chg]
theorem nl_add (s : List S47) (d : Int) (l : List S66) : nl (script_normal.add s d l) = nl s + l.length := by
  by_cases hl : l = []
  · subst hl
    rw [add_nil]
    simp
  rcases snoc_cases s with rfl | ⟨t, y, rfl⟩
  · rw [add_empty d l hl]
    simp [nl]
  · by_cases h : y.f0 = d
    · rw [add_eq t y d l hl h, nl_append, nl_append, nl_cons, nl_cons]
      simp [nl]
      omega
    · rw [add_ne t y d l hl h, nl_append _ [_], nl_cons]
      simp [nl]
def adj (a b : Int) : Prop := (a = 1 ∧ (b = 2 ∨ b = 3)) ∨ (a = 2 ∧ (b = 1 ∨ b = 3)) ∨ (a = 3 ∧ b = 1)
def good (x : S47) : Prop := (x.f0 = 1 ∨ x.f0 = 2 ∨ x.f0 = 3) ∧ x.f1 ≠ []
def Nf : List S47 → Prop
  | [] => True
  | x :: t => good x ∧ (∀ y ∈ t.head?, adj x.f0 y.f0) ∧ Nf t
theorem nf_append (s t : List S47) : Nf (s ++ t) ↔ Nf s ∧ Nf t ∧ ∀ x ∈ s.getLast?, ∀ y ∈ t.head?, adj x.f0 y.f0 := by
  induction s with
  | nil => simp [Nf]
  | cons a s ih =>
    rw [List.cons_append, Nf, ih, Nf]
    cases s with
    | nil =>
      simp [Nf]
      intro _
      exact and_comm
    | cons b s =>
      rw [List.getLast?_cons_cons]
      simp only [List.cons_append, List.head?_cons]
      constructor
      · rintro ⟨h1, h2, h3, h4, h5⟩
        exact ⟨⟨h1, h2, h3⟩, h4, h5⟩
      · rintro ⟨⟨h1, h2, h3⟩, h4, h5⟩
        exact ⟨h1, h2, h3, h4, h5⟩
theorem nf_snoc (t : List S47) (y : S47) : Nf (t ++ [y]) ↔ Nf t ∧ good y ∧ ∀ x ∈ t.getLast?, adj x.f0 y.f0 := by
  rw [nf_append]
  simp [Nf]
/-- The kind of the last edit is none or one of which b may come behind. -/
theorem nf_add (s : List S47) (d : Int) (l : List S66) (hd : d = 1 ∨ d = 2 ∨ d = 3) (hs : Nf s) (ha : ∀ x ∈ s.getLast?, x.f0 = d ∨ adj x.f0 d) : Nf (script_normal.add s d l) := by
  by_cases hl : l = []
  · subst hl
    rw [add_nil]
    exact hs
  rcases snoc_cases s with rfl | ⟨t, y, rfl⟩
  · rw [add_empty d l hl]
    simp [Nf, good, hl, hd]
  · have hy := ha y (by simp)
    by_cases h : y.f0 = d
    · rw [add_eq t y d l hl h]
      rw [nf_snoc] at hs ⊢
      exact ⟨hs.1, ⟨hd, by simp [hl]⟩, fun x hx => by have := hs.2.2 x hx; rw [h] at this; exact this⟩
    · rw [add_ne t y d l hl h, nf_snoc]
      exact ⟨hs, ⟨hd, hl⟩, fun x hx => by
        simp at hx
        subst hx
        exact hy.resolve_left h⟩
theorem last_add (s : List S47) (d : Int) (l : List S66) : ∀ x ∈ (script_normal.add s d l).getLast?, (l ≠ [] ∧ x.f0 = d) ∨ (l = [] ∧ x ∈ s.getLast?) := by
  intro x hx
  by_cases hl : l = []
  · subst hl
    rw [add_nil] at hx
    exact .inr ⟨rfl, hx⟩
  refine .inl ⟨hl, ?_⟩
  rcases snoc_cases s with rfl | ⟨t, y, rfl⟩
  · rw [add_empty d l hl] at hx
    simp at hx
    rw [← hx]
  · by_cases h : y.f0 = d
    · rw [add_eq t y d l hl h] at hx
      simp at hx
      rw [← hx]
    · rw [add_ne t y d l hl h] at hx
      simp at hx
      rw [← hx]
theorem take_in {s : List S47} {w : List S66} {x : S47} (h : x.f0 = 3) : script_normal.take (s, w) x = (s, w ++ x.f1) := by
  unfold script_normal.take
  rw [if_pos h]
theorem take_out {s : List S47} {w : List S66} {x : S47} (h : x.f0 = 2) : script_normal.take (s, w) x = (script_normal.add s 2 x.f1, w) := by
  unfold script_normal.take
  rw [if_neg (by omega), if_neg (by omega), h]
theorem take_keep {s : List S47} {w : List S66} {x : S47} (h : x.f0 = 1) (hx : x.f1 ≠ []) : script_normal.take (s, w) x = (script_normal.add (script_normal.add s 3 w) 1 x.f1, []) := by
  unfold script_normal.take
  rw [if_neg (by omega), if_pos ⟨h, List.length_pos_iff.2 hx⟩, h]
theorem take_none {s : List S47} {w : List S66} {x : S47} (hx : x.f1 = []) : script_normal.take (s, w) x = (s, w) := by
  unfold script_normal.take
  split
  · rw [hx, List.append_nil]
  · rw [if_neg (by simp [hx]), hx, add_nil]
theorem fold_nf (l : List S47) (hl : allok l = true) : ∀ (s : List S47) (w : List S66), Nf s → (∀ x ∈ s.getLast?, x.f0 ≠ 3) → Nf (l.foldl script_normal.take (s, w)).1 ∧ ∀ x ∈ (l.foldl script_normal.take (s, w)).1.getLast?, x.f0 ≠ 3 := by
  induction l with
  | nil => exact fun s w h1 h2 => ⟨h1, h2⟩
  | cons x t ih =>
    intro s w h1 h2
    rw [allok_cons, Bool.and_eq_true] at hl
    have hx := of_decide_eq_true hl.1
    have h12 : ∀ y ∈ s.getLast?, y.f0 = 1 ∨ y.f0 = 2 := by
      intro y hy
      have h3 := h2 y hy
      have hg : good y := by
        rcases snoc_cases s with rfl | ⟨u, v, rfl⟩
        · simp at hy
        · simp at hy
          subst hy
          exact ((nf_snoc u v).1 h1).2.1
      rcases hg.1 with h | h | h
      · exact .inl h
      · exact .inr h
      · exact absurd h h3
    rw [List.foldl_cons]
    by_cases hx0 : x.f1 = []
    · rw [take_none hx0]
      exact ih hl.2 s w h1 h2
    by_cases a3 : x.f0 = 3
    · rw [take_in a3]
      exact ih hl.2 s _ h1 h2
    by_cases a2 : x.f0 = 2
    · rw [take_out a2]
      refine ih hl.2 _ w (nf_add s 2 _ (by omega) h1 fun y hy => ?_) fun y hy => ?_
      · rcases h12 y hy with h | h
        · exact .inr (.inl ⟨h, by omega⟩)
        · exact .inl h
      · rcases last_add _ _ _ y hy with h | h
        · omega
        · exact absurd h.1 hx0
    · have a1 : x.f0 = 1 := by omega
      rw [take_keep a1 hx0]
      have hf : Nf (script_normal.add s 3 w) := nf_add s 3 w (by omega) h1 fun y hy => .inr (by
        rcases h12 y hy with h | h
        · exact .inl ⟨h, by omega⟩
        · exact .inr (.inl ⟨h, by omega⟩))
      refine ih hl.2 _ [] (nf_add _ 1 _ (by omega) hf fun y hy => ?_) fun y hy => ?_
      · rcases last_add _ _ _ y hy with h | h
        · exact .inr (.inr (.inr ⟨h.2, rfl⟩))
        · rcases h12 y h.2 with h | h
          · exact .inl h
          · exact .inr (.inr (.inl ⟨h, by omega⟩))
      · rcases last_add _ _ _ y hy with h | h
        · omega
        · exact absurd h.1 hx0
theorem p_nf (l : List S47) (hl : allok l = true) : Nf (script_normal.p l) := by
  unfold script_normal.p script_normal.all
  obtain ⟨h1, h2⟩ := fold_nf l hl [] [] trivial (by simp)
  refine nf_add _ 3 _ (by omega) h1 fun y hy => .inr ?_
  have h3 := h2 y hy
  have hg : good y := by
    generalize (l.foldl script_normal.take ([], [])).1 = s at hy h1
    rcases snoc_cases s with rfl | ⟨u, v, rfl⟩
    · simp at hy
    · simp at hy
      subst hy
      exact ((nf_snoc u v).1 h1).2.1
  rcases hg.1 with h | h | h
  · exact .inl ⟨h, by omega⟩
  · exact .inr (.inl ⟨h, by omega⟩)
  · exact absurd h h3
def wl (w : List S66) : List S47 := if w = [] then [] else [⟨3, w⟩]
theorem add_wl (s r : List S47) (w : List S66) (h : Nf (s ++ wl w ++ r)) : script_normal.add s 3 w = s ++ wl w := by
  unfold wl at h ⊢
  by_cases hw : w = []
  · subst hw
    rw [if_pos rfl, add_nil, List.append_nil]
  · rw [if_neg hw] at h ⊢
    rcases snoc_cases s with rfl | ⟨t, y, rfl⟩
    · rw [add_empty 3 w hw]
      rfl
    · have h1 := ((nf_append _ _).1 h).1
      have h2 := ((nf_append _ _).1 h1).2.2 y (by simp) ⟨3, w⟩ (by simp)
      rw [add_ne t y 3 w hw (by simp [adj] at h2; omega)]
theorem add_app (s r : List S47) (x : S47) (h : Nf (s ++ x :: r)) : script_normal.add s x.f0 x.f1 = s ++ [x] := by
  have hx : good x := ((nf_append _ _).1 h).2.1.1
  rcases snoc_cases s with rfl | ⟨t, y, rfl⟩
  · rw [add_empty _ _ hx.2]
    rfl
  · have h2 := ((nf_append _ _).1 h).2.2 y (by simp) x (by simp)
    rw [add_ne t y _ _ hx.2 (by simp [adj] at h2; omega)]
theorem fold_id (l : List S47) : ∀ (s : List S47) (w : List S66), Nf (s ++ wl w ++ l) → script_normal.add (l.foldl script_normal.take (s, w)).1 3 (l.foldl script_normal.take (s, w)).2 = s ++ wl w ++ l := by
  induction l with
  | nil =>
    intro s w h
    rw [List.append_nil]
    exact add_wl s [] w h
  | cons x t ih =>
    intro s w h
    have hx : good x := ((nf_append _ _).1 h).2.1.1
    have hlast : w ≠ [] → x.f0 = 1 := by
      intro hw
      unfold wl at h
      rw [if_neg hw] at h
      have h2 := ((nf_append _ _).1 h).2.2 ⟨3, w⟩ (by simp) x (by simp)
      simp [adj] at h2
      exact h2
    rw [List.foldl_cons]
    rcases hx.1 with a | a | a
    · rw [take_keep a hx.2, add_wl s _ w h]
      have e := add_app (s ++ wl w) t x h
      rw [a] at e
      rw [e]
      have h' : Nf (s ++ wl w ++ [x] ++ wl [] ++ t) := by simpa [wl] using h
      rw [ih _ [] h']
      simp [wl]
    · have hw : w = [] := Classical.byContradiction fun hw => by have := hlast hw; omega
      subst hw
      rw [take_out a]
      have h0 : Nf (s ++ x :: t) := by simpa [wl] using h
      have e := add_app s t x h0
      rw [a] at e
      rw [e]
      have h' : Nf (s ++ [x] ++ wl [] ++ t) := by simpa [wl] using h
      rw [ih _ [] h']
      simp [wl]
    · have hw : w = [] := Classical.byContradiction fun hw => by have := hlast hw; omega
      subst hw
      rw [take_in a, List.nil_append]
      have ex : wl x.f1 = [x] := by
        unfold wl
        rw [if_neg hx.2, ← a]
      have h' : Nf (s ++ wl x.f1 ++ t) := by
        rw [ex]
        simpa [wl] using h
      rw [ih _ _ h', ex]
      simp [wl]
/-- A normal form is its own. -/
theorem p_id (n : List S47) (h : Nf n) : script_normal.p n = n := by
  have := fold_id n [] [] (by simpa [wl] using h)
  unfold script_normal.p script_normal.all
  simpa [wl] using this
theorem nf_allok : ∀ (n : List S47), Nf n → allok n = true
  | [], _ => rfl
  | x :: t, h => by
    rw [allok_cons, nf_allok t h.2.2, decide_eq_true (by have := h.1.1; omega)]
    rfl
theorem fold_chg (l : List S47) : ∀ (s : List S47) (w : List S66), chg (l.foldl script_normal.take (s, w)).1 + (l.foldl script_normal.take (s, w)).2.length = chg s + w.length + chg l := by
  induction l with
  | nil => intro s w; simp [chg]
  | cons x t ih =>
    intro s w
    rw [List.foldl_cons, chg_cons]
    by_cases hx0 : x.f1 = []
    · rw [take_none hx0, hx0, ih]
      simp
    by_cases a3 : x.f0 = 3
    · rw [take_in a3, ih, a3]
      simp
      omega
    by_cases a1 : x.f0 = 1
    · rw [take_keep a1 hx0, ih, chg_add, chg_add, a1]
      simp
    · have e : script_normal.take (s, w) x = (script_normal.add s x.f0 x.f1, w) := by
        unfold script_normal.take
        rw [if_neg a3, if_neg (by simp [a1])]
      rw [e, ih, chg_add]
      omega
theorem p_chg (l : List S47) : chg (script_normal.p l) = chg l := by
  unfold script_normal.p script_normal.all
  have := fold_chg l [] []
  rw [chg_add, if_pos (.inr rfl), this]
  simp [chg]
theorem fold_nl (l : List S47) : ∀ (s : List S47) (w : List S66), nl (l.foldl script_normal.take (s, w)).1 + (l.foldl script_normal.take (s, w)).2.length = nl s + w.length + nl l := by
  induction l with
  | nil => intro s w; simp [nl]
  | cons x t ih =>
    intro s w
    rw [List.foldl_cons, nl_cons]
    by_cases hx0 : x.f1 = []
    · rw [take_none hx0, hx0, ih]
      simp
    by_cases a3 : x.f0 = 3
    · rw [take_in a3, ih]
      simp
      omega
    by_cases a1 : x.f0 = 1
    · rw [take_keep a1 hx0, ih, nl_add, nl_add]
      simp
      omega
    · have e : script_normal.take (s, w) x = (script_normal.add s x.f0 x.f1, w) := by
        unfold script_normal.take
        rw [if_neg a3, if_neg (by simp [a1])]
      rw [e, ih, nl_add]
      omega
theorem p_nl (l : List S47) : nl (script_normal.p l) = nl l := by
  unfold script_normal.p script_normal.all
  have := fold_nl l [] []
  rw [nl_add, this]
  simp [nl]
theorem nf_len : ∀ (n : List S47), Nf n → n.length ≤ nl n
  | [], _ => Nat.le_refl _
  | x :: t, h => by
    have := nf_len t h.2.2
    have := List.length_pos_iff.2 h.1.2
    rw [nl_cons, List.length_cons]
    omega
/-- The normal form, and what is wrong. -/
def nrm (s : List S47) : List S47 × Int := if chk s = 0 then (script_normal.p s, 0) else ([], chk s)
theorem nrm_ev (s : List S47) (hf : Fit s) : Ev (fun k => script_Normal.f k s) (nrm s) := by
  unfold script_Normal.f nrm
  refine Ev.bind (chk_ev s hf) ?_
  by_cases h : chk s = 0
  · refine ev_pos h ?_
    rw [if_pos h]
    obtain ⟨h1, h2, h3⟩ := chk_zero.1 h
    exact ev_bind (a := script_normal.p s) (by unfold script_normal.f; rw [if_pos ⟨by omega, by rw [nl_lines]; omega⟩]) (ev_some rfl)
  · refine ev_neg h ?_
    rw [if_neg h]
    exact ev_some rfl
end Go.Proofs.Ytfnbodjmmkjlcaa.H
namespace Go.Proofs.Ytfnbodjmmkjlcaa.H
open Go.RowKit Go.Proofs.YtfnbodjmmkjlcaaW.PrintWords Go.Proofs.YtfnbodjmmkjlcaaW.PrintLast Go.Proofs.YtfnbodjmmkjlcaaW.PrintMore
set_option linter.unusedVariables false
set_option linter.unusedSimpArgs false
/-- A hunk of edits, by where it begins. -/
def mkH (a0 b0 : Nat) (now : List S47) : S44 := ⟨a0, ((side now 3).length : Int), b0, ((side now 2).length : Int), now⟩
/-- How many lines of each side an edit goes past. -/
def ad3 (x : S47) : Nat := if x.f0 = 3 then 0 else x.f1.length
def ad2 (x : S47) : Nat := if x.f0 = 2 then 0 else x.f1.length
/-- THE HUNKS of what is left of a normal form: the hunk that is open, the lines that stay ahead, and how many lines were gone past. -/
def bld (c : Nat) : List S47 → Nat → Nat → Option (Nat × Nat × List S47) → List S66 → List S44
  | [], _, _, none, _ => []
  | [], _, _, some (a0, b0, now), _ => [mkH a0 b0 now]
  | x :: xs, a, b, none, ah => if x.f0 = 1 then bld c xs (a + ad3 x) (b + ad2 x) none x.f1 else bld c xs (a + ad3 x) (b + ad2 x) (some (a - min c ah.length, b - min c ah.length, hunk_Build.lead c ah ++ [x])) []
  | x :: xs, a, b, some (a0, b0, now), ah =>
    if x.f0 = 1 then (if xs.isEmpty = true ∨ 2 * c < x.f1.length then mkH a0 b0 (now ++ hunk_Build.trail c x.f1) :: bld c xs (a + ad3 x) (b + ad2 x) none x.f1 else bld c xs (a + ad3 x) (b + ad2 x) (some (a0, b0, now ++ [x])) ah)
    else bld c xs (a + ad3 x) (b + ad2 x) (some (a0, b0, now ++ [x])) ah
/-- Without their places. -/
def zer (l : List S44) : List S44 := l.map fun h => ⟨0, h.f1, 0, h.f3, h.f4⟩
def tl1 (l : List S44) : List S44 := match l with
  | [] => []
  | h :: t => h :: zer t
theorem lead_nl (c : Nat) (ah : List S66) : nl (hunk_Build.lead c ah) = min c ah.length := by
  unfold hunk_Build.lead
  split
  · simp [nl]
    omega
  · simp [nl]
    omega
theorem lead_good (c : Nat) (ah : List S66) : ∀ x ∈ hunk_Build.lead c ah, good x := by
  intro x hx
  unfold hunk_Build.lead at hx
  split at hx
  · simp at hx
    subst hx
    refine ⟨.inl rfl, ?_⟩
    intro e
    have := congrArg List.length e
    simp at this
    omega
  · simp at hx
theorem trail_nl (c : Nat) (l : List S66) : nl (hunk_Build.trail c l) = min c l.length := by
  unfold hunk_Build.trail
  split
  · simp [nl]
  · rw [nl_nil]
    omega
theorem trail_good (c : Nat) (l : List S66) : ∀ x ∈ hunk_Build.trail c l, good x := by
  intro x hx
  unfold hunk_Build.trail at hx
  split at hx
  · simp at hx
    subst hx
    refine ⟨.inl rfl, ?_⟩
    intro e
    have h2 : (l.take c).length = 0 := by
      have e' : l.take c = [] := by simpa using e
      rw [e']
      rfl
    rw [List.length_take] at h2
    omega
  · simp at hx
theorem good_len : ∀ (s : List S47), (∀ x ∈ s, good x) → s.length ≤ nl s
  | [], _ => Nat.le_refl _
  | x :: t, h => by
    have := good_len t fun y hy => h y (List.mem_cons_of_mem _ hy)
    have := List.length_pos_iff.2 (h x (by simp)).2
    rw [nl_cons, List.length_cons]
    omega
theorem good_allok : ∀ (s : List S47), (∀ x ∈ s, good x) → allok s = true
  | [], _ => rfl
  | x :: t, h => by
    rw [allok_cons, good_allok t fun y hy => h y (List.mem_cons_of_mem _ hy), decide_eq_true (by have := (h x (by simp)).1; omega)]
    rfl
theorem good_fit (s : List S47) (h : nl s ≤ 1000000) (hg : ∀ x ∈ s, good x) : Fit s := by
  have hl := good_len s hg
  refine ⟨by omega, fun x hx => ?_⟩
  have : x.f1.length ≤ nl s := by
    clear h hg hl
    induction s with
    | nil => cases hx
    | cons y t ih =>
      rw [nl_cons]
      rcases List.mem_cons.1 hx with rfl | hx
      · omega
      · have := ih hx
        omega
  omega
theorem good_chk (s : List S47) (h : nl s ≤ 800) (hg : ∀ x ∈ s, good x) : chk s = 0 := chk_zero.2 ⟨Nat.le_trans (good_len s hg) h, h, good_allok s hg⟩
theorem nf_good : ∀ (n : List S47), Nf n → ∀ x ∈ n, good x
  | [], _, x, hx => by cases hx
  | y :: t, h, x, hx => by
    rcases List.mem_cons.1 hx with rfl | hx
    · exact h.1
    · exact nf_good t h.2.2 x hx
theorem hk_ev (now : List S47) (h : nl now ≤ 800) (hg : ∀ x ∈ now, good x) : Ev (fun k => hunk_Build.hk k now) ⟨0, ((side now 3).length : Int), 0, ((side now 2).length : Int), now⟩ := by
  unfold hunk_Build.hk
  refine Ev.bind (sides_ev now (good_fit now (by omega) hg)) (ev_some ?_)
  unfold sds
  rw [if_pos (good_chk now h hg)]
/-- What the builder's state is. -/
def curSt (out : List S44) (cur : Option (Nat × Nat × List S47)) (ah : List S66) : hunk_Build.St := match cur with
  | none => ⟨out, [], ah⟩
  | some (_, _, now) => ⟨out, now, ah⟩
def curOk (cur : Option (Nat × Nat × List S47)) (ah : List S66) (n : List S47) : Prop := match cur with
  | none => ah.length + nl n ≤ 800
  | some (_, _, now) => now ≠ [] ∧ nl now + nl n ≤ 800 ∧ ∀ x ∈ now, good x
theorem build_ev (c : Nat) : ∀ (n : List S47) (a b : Nat) (cur : Option (Nat × Nat × List S47)) (ah : List S66) (out : List S44), (∀ x ∈ n, good x) → curOk cur ah n → Ev (fun k => (hunk_Build.allp k c n (curSt out cur ah)).bind (hunk_Build.fin k)) (out ++ zer (bld c n a b cur ah))
  | [], a, b, none, ah, out, hg, hc => by
    simp only [hunk_Build.allp, Option.bind_some]
    unfold hunk_Build.fin curSt
    refine ev_neg (by simp) (ev_some ?_)
    simp [bld, zer]
  | [], a, b, some (a0, b0, now), ah, out, hg, hc => by
    obtain ⟨h0, h1, h2⟩ := hc
    simp only [hunk_Build.allp, Option.bind_some]
    unfold hunk_Build.fin curSt
    refine ev_pos (List.length_pos_iff.2 h0) ?_
    refine Ev.bind (hk_ev now (by rw [nl_nil] at h1; omega) h2) (ev_some ?_)
    simp [bld, zer, mkH]
  | x :: xs, a, b, none, ah, out, hg, hc => by
    have hc' : ah.length + nl (x :: xs) ≤ 800 := hc
    rw [nl_cons] at hc'
    have hgx := hg x (by simp)
    have hgs : ∀ y ∈ xs, good y := fun y hy => hg y (List.mem_cons_of_mem _ hy)
    simp only [hunk_Build.allp, Option.bind_assoc, bld]
    unfold hunk_Build.takep curSt
    by_cases h1 : x.f0 = 1
    · simp only [if_pos h1]
      simp only [List.length_nil, if_true, Option.bind_some]
      exact build_ev c xs _ _ none x.f1 out hgs (by show _ ≤ _; omega)
    · simp only [if_neg h1]
      simp only [List.length_nil, if_true, Option.bind_some, List.nil_append]
      refine build_ev c xs _ _ (some (a - min c ah.length, b - min c ah.length, hunk_Build.lead c ah ++ [x])) [] out hgs ⟨by simp, ?_, ?_⟩
      · rw [nl_append, lead_nl, nl_cons, nl_nil]
        omega
      · intro y hy
        rcases List.mem_append.1 hy with hy | hy
        · exact lead_good c ah y hy
        · simp at hy
          subst hy
          exact hgx
  | x :: xs, a, b, some (a0, b0, now), ah, out, hg, hc => by
    obtain ⟨h0, h1', h2⟩ := hc
    rw [nl_cons] at h1'
    have hgx := hg x (by simp)
    have hgs : ∀ y ∈ xs, good y := fun y hy => hg y (List.mem_cons_of_mem _ hy)
    have h0' : ¬ now.length = 0 := fun e => h0 (List.eq_nil_of_length_eq_zero e)
    have hgx' : ∀ y ∈ now ++ [x], good y := by
      intro y hy
      rcases List.mem_append.1 hy with hy | hy
      · exact h2 y hy
      · simp at hy
        subst hy
        exact hgx
    have hnx : nl (now ++ [x]) + nl xs ≤ 800 := by
      rw [nl_append, nl_cons, nl_nil]
      omega
    simp only [hunk_Build.allp, Option.bind_assoc, bld]
    unfold hunk_Build.takep curSt
    simp only
    by_cases h1 : x.f0 = 1
    · simp only [if_pos h1, if_neg h0']
      by_cases hl : xs.isEmpty = true ∨ 2 * c < x.f1.length
      · simp only [if_pos hl]
        simp only [Option.bind_assoc]
        have htg : ∀ y ∈ now ++ hunk_Build.trail c x.f1, good y := by
          intro y hy
          rcases List.mem_append.1 hy with hy | hy
          · exact h2 y hy
          · exact trail_good c _ y hy
        refine Ev.bind (hk_ev (now ++ hunk_Build.trail c x.f1) (by rw [nl_append, trail_nl]; omega) htg) ?_
        simp only [Option.bind_some]
        refine ev_cast (build_ev c xs (a + ad3 x) (b + ad2 x) none x.f1 _ hgs (by show _ ≤ _; omega)) ?_
        simp [zer, mkH]
      · simp only [if_neg hl]
        simp only [Option.bind_some]
        exact build_ev c xs _ _ (some (a0, b0, now ++ [x])) ah out hgs ⟨by simp, hnx, hgx'⟩
    · simp only [if_neg h1, if_neg h0']
      simp only [Option.bind_some]
      exact build_ev c xs _ _ (some (a0, b0, now ++ [x])) ah out hgs ⟨by simp, hnx, hgx'⟩
/-- The hunk that is open comes first. -/
theorem bld_head (c : Nat) : ∀ (n : List S47) (a b a0 b0 : Nat) (now : List S47) (ah : List S66), ∃ t rest, bld c n a b (some (a0, b0, now)) ah = mkH a0 b0 (now ++ t) :: rest
  | [], a, b, a0, b0, now, ah => ⟨[], [], by simp [bld]⟩
  | x :: xs, a, b, a0, b0, now, ah => by
    simp only [bld]
    split
    · split
      · exact ⟨_, _, rfl⟩
      · obtain ⟨t, r, e⟩ := bld_head c xs (a + ad3 x) (b + ad2 x) a0 b0 (now ++ [x]) ah
        exact ⟨[x] ++ t, r, by rw [e, List.append_assoc]⟩
    · obtain ⟨t, r, e⟩ := bld_head c xs (a + ad3 x) (b + ad2 x) a0 b0 (now ++ [x]) ah
      exact ⟨[x] ++ t, r, by rw [e, List.append_assoc]⟩
theorem ld_head (c : Nat) (ah : List S66) (x : S47) (h1 : x.f0 ≠ 1) (t : List S47) : ∃ e r, hunk_Build.lead c ah ++ [x] ++ t = e :: r ∧ hunk_place.ld e = min c ah.length := by
  unfold hunk_Build.lead
  by_cases h : 0 < min c ah.length
  · rw [if_pos h]
    refine ⟨_, _, rfl, ?_⟩
    unfold hunk_place.ld
    rw [if_pos rfl]
    simp
    omega
  · rw [if_neg h]
    refine ⟨_, _, rfl, ?_⟩
    unfold hunk_place.ld
    rw [if_neg h1]
    omega
def fresh (cur : Option (Nat × Nat × List S47)) : Bool := cur.isNone
def cut0 (cur : Option (Nat × Nat × List S47)) (l : List S44) : List S44 := match cur with
  | none => zer l
  | some _ => tl1 l
def nth (cur : Option (Nat × Nat × List S47)) (i : Nat) : Nat := match cur with
  | none => i
  | some _ => i + 1
theorem place_ev (c : Nat) : ∀ (n : List S47) (k a b : Nat) (cur : Option (Nat × Nat × List S47)) (ah : List S66) (pre : List S44), (∀ x ∈ n, good x) → (cur = none → ah.length ≤ a ∧ ah.length ≤ b) → (cur ≠ none → 0 < k) →
    ∃ q, hunk_place.p c n k ⟨a, b, nth cur pre.length, fresh cur, pre ++ cut0 cur (bld c n a b cur ah)⟩ = some q ∧ q.l = pre ++ bld c n a b cur ah
  | [], k, a, b, none, ah, pre, hg, h1, h2 => ⟨_, rfl, by simp [bld, cut0, zer]⟩
  | [], k, a, b, some (a0, b0, now), ah, pre, hg, h1, h2 => ⟨_, rfl, by simp [bld, cut0, tl1, zer]⟩
  | x :: xs, k, a, b, none, ah, pre, hg, h1, h2 => by
    have hgx := hg x (by simp)
    have hgs : ∀ y ∈ xs, good y := fun y hy => hg y (List.mem_cons_of_mem _ hy)
    obtain ⟨ha, hb⟩ := h1 rfl
    simp only [hunk_place.p]
    unfold hunk_place.step
    by_cases e1 : x.f0 = 1
    · rw [if_pos e1]
      simp only [Option.bind_some, bld]
      rw [if_pos e1]
      have hfr : (if 0 < k ∧ 2 * c < x.f1.length then true else fresh none) = fresh none := by
        split <;> rfl
      rw [hfr]
      have e3 : ad3 x = x.f1.length := by unfold ad3; rw [if_neg (by omega)]
      have e2 : ad2 x = x.f1.length := by unfold ad2; rw [if_neg (by omega)]
      rw [e3, e2]
      exact place_ev c xs (k + 1) _ _ none x.f1 pre hgs (fun _ => ⟨by omega, by omega⟩) (fun h => absurd rfl h)
    · rw [if_neg e1, if_pos (by have := hgx.1; omega)]
      simp only [bld]
      rw [if_neg e1, if_pos (show fresh none = true from rfl)]
      obtain ⟨t, r, e⟩ := bld_head c xs (a + ad3 x) (b + ad2 x) (a - min c ah.length) (b - min c ah.length) (hunk_Build.lead c ah ++ [x]) []
      obtain ⟨y, s, ey, el⟩ := ld_head c ah x e1 t
      have hset : hunk_place.setp ⟨a, b, nth none pre.length, fresh none, pre ++ cut0 none (bld c xs (a + ad3 x) (b + ad2 x) (some (a - min c ah.length, b - min c ah.length, hunk_Build.lead c ah ++ [x])) [])⟩ = some (pre ++ cut0 (some (a - min c ah.length, b - min c ah.length, hunk_Build.lead c ah ++ [x])) (bld c xs (a + ad3 x) (b + ad2 x) (some (a - min c ah.length, b - min c ah.length, hunk_Build.lead c ah ++ [x])) [])) := by
        rw [e]
        unfold hunk_place.setp cut0 nth zer tl1 zer
        simp only [List.map_cons]
        have hg : (pre ++ (⟨0, (mkH (a - min c ah.length) (b - min c ah.length) (hunk_Build.lead c ah ++ [x] ++ t)).f1, 0, (mkH (a - min c ah.length) (b - min c ah.length) (hunk_Build.lead c ah ++ [x] ++ t)).f3, (mkH (a - min c ah.length) (b - min c ah.length) (hunk_Build.lead c ah ++ [x] ++ t)).f4⟩ :: List.map (fun h => (⟨0, h.f1, 0, h.f3, h.f4⟩ : S44)) r)).getD pre.length z44 = ⟨0, ((side (hunk_Build.lead c ah ++ [x] ++ t) 3).length : Int), 0, ((side (hunk_Build.lead c ah ++ [x] ++ t) 2).length : Int), hunk_Build.lead c ah ++ [x] ++ t⟩ := by
          rw [List.getD_eq_getElem?_getD, List.getElem?_append_right (Nat.le_refl _), Nat.sub_self]
          rfl
        rw [if_pos (by simp), hg]
        simp only
        split
        · rename_i e0
          rw [ey] at e0
          cases e0
        · rename_i z0 zs e0
          rw [ey] at e0
          injection e0 with e1' e2'
          subst e1'
          rw [el]
          congr 1
          rw [List.set_append_right _ _ (Nat.le_refl _), Nat.sub_self, List.set_cons_zero]
          congr 2
          unfold mkH
          congr 1 <;> omega
      rw [hset]
      simp only [Option.bind_some]
      have ex3 : (if x.f0 = 2 then a + x.f1.length else a) = a + ad3 x := by
        unfold ad3
        have := hgx.1
        split <;> split <;> omega
      have ex2 : (if x.f0 = 2 then b else b + x.f1.length) = b + ad2 x := by
        unfold ad2
        split <;> omega
      rw [ex3, ex2]
      exact place_ev c xs (k + 1) _ _ (some (a - min c ah.length, b - min c ah.length, hunk_Build.lead c ah ++ [x])) [] pre hgs (fun h => by cases h) (fun _ => by omega)
  | x :: xs, k, a, b, some (a0, b0, now), ah, pre, hg, h1, h2 => by
    have hgx := hg x (by simp)
    have hgs : ∀ y ∈ xs, good y := fun y hy => hg y (List.mem_cons_of_mem _ hy)
    have hk := h2 (by simp)
    simp only [hunk_place.p]
    unfold hunk_place.step
    by_cases e1 : x.f0 = 1
    · rw [if_pos e1]
      simp only [Option.bind_some, bld]
      rw [if_pos e1]
      have e3 : ad3 x = x.f1.length := by unfold ad3; rw [if_neg (by omega)]
      have e2 : ad2 x = x.f1.length := by unfold ad2; rw [if_neg (by omega)]
      rw [e3, e2]
      by_cases hl : xs.isEmpty = true ∨ 2 * c < x.f1.length
      · rw [if_pos hl]
        by_cases hl2 : 2 * c < x.f1.length
        · rw [if_pos ⟨hk, hl2⟩]
          obtain ⟨q, h3, h4⟩ := place_ev c xs (k + 1) (a + x.f1.length) (b + x.f1.length) none x.f1 (pre ++ [mkH a0 b0 (now ++ hunk_Build.trail c x.f1)]) hgs (fun _ => ⟨by omega, by omega⟩) (fun h => absurd rfl h)
          refine ⟨q, ?_, by rw [h4]; simp⟩
          rw [← h3]
          simp [nth, fresh, cut0, tl1]
        · have hxs : xs = [] := by simpa using hl.resolve_right hl2
          subst hxs
          exact ⟨_, rfl, by simp [bld, cut0, tl1, zer]⟩
      · rw [if_neg hl, if_neg (fun h => hl (.inr h.2))]
        exact place_ev c xs (k + 1) _ _ (some (a0, b0, now ++ [x])) ah pre hgs (fun h => by cases h) (fun _ => by omega)
    · rw [if_neg e1, if_pos (by have := hgx.1; omega)]
      simp only [bld]
      rw [if_neg e1, if_neg (by simp [fresh])]
      simp only [Option.bind_some]
      have ex3 : (if x.f0 = 2 then a + x.f1.length else a) = a + ad3 x := by
        unfold ad3
        have := hgx.1
        split <;> split <;> omega
      have ex2 : (if x.f0 = 2 then b else b + x.f1.length) = b + ad2 x := by
        unfold ad2
        split <;> omega
      rw [ex3, ex2]
      exact place_ev c xs (k + 1) _ _ (some (a0, b0, now ++ [x])) ah pre hgs (fun h => by cases h) (fun _ => by omega)
/-- The hunks of a normal form. -/
def hnk (c : Nat) (n : List S47) : List S44 := bld c n 0 0 none []
theorem run_ev (c : Nat) (n : List S47) (hn : nl n ≤ 800) (hg : ∀ x ∈ n, good x) : Ev (fun k => hunk_Build.run k c n) (hnk c n) := by
  unfold hunk_Build.run
  have hl := good_len n hg
  refine ev_pos ⟨by omega, by rw [nl_lines]; omega⟩ ?_
  have h1 : Ev (fun k => (hunk_Build.allp k c n ⟨[], [], []⟩).bind (hunk_Build.fin k)) (zer (bld c n 0 0 none [])) := build_ev c n 0 0 none [] [] hg (by show _ ≤ _; simp; exact hn)
  obtain ⟨q, h2, h3⟩ := place_ev c n 0 0 0 none [] [] hg (fun _ => ⟨Nat.le_refl _, Nat.le_refl _⟩) (fun h => absurd rfl h)
  have h4 : Ev (fun k => ((hunk_Build.allp k c n ⟨[], [], []⟩).bind (hunk_Build.fin k)).bind fun o => (hunk_place.p c n 0 ⟨0, 0, 0, true, o⟩).bind fun q => some q.l) (hnk c n) := by
    refine Ev.bind h1 ?_
    refine ev_bind h2 (ev_some ?_)
    rw [h3]
    rfl
  refine ev_as h4 ?_
  funext k
  rw [Option.bind_assoc]
/-- What Build tells. -/
def hres (s : List S47) (c : Int) : List S44 × Int := if chk s = 0 then (if c < 0 ∨ 20 < c then ([], 2) else (hnk c.toNat (script_normal.p s), 0)) else ([], chk s)
theorem bld_ev (s : List S47) (c : Int) (hf : Fit s) : Ev (fun k => hunk_Build.f k s c) (hres s c) := by
  unfold hunk_Build.f hres
  refine Ev.bind (nrm_ev s hf) ?_
  unfold nrm
  by_cases h : chk s = 0
  · rw [if_pos h, if_pos h]
    refine ev_pos rfl ?_
    by_cases hc : c < 0 ∨ 20 < c
    · refine ev_pos hc (ev_some ?_)
      rw [if_pos hc]
    · refine ev_neg hc ?_
      rw [if_neg hc]
      obtain ⟨h1, h2, h3⟩ := chk_zero.1 h
      exact Ev.bind (run_ev _ _ (by rw [p_nl]; exact h2) (nf_good _ (p_nf s h3))) (ev_some rfl)
  · rw [if_neg h, if_neg h]
    exact ev_neg h (ev_some rfl)
theorem bld_len (c : Nat) : ∀ (n : List S47) (a b : Nat) (cur : Option (Nat × Nat × List S47)) (ah : List S66), (bld c n a b cur ah).length ≤ n.length + (if cur.isSome = true then 1 else 0)
  | [], a, b, none, ah => by simp [bld]
  | [], a, b, some (a0, b0, now), ah => by simp [bld]
  | x :: xs, a, b, none, ah => by
    simp only [bld]
    split
    · have := bld_len c xs (a + ad3 x) (b + ad2 x) none x.f1
      simp at this ⊢
      omega
    · have := bld_len c xs (a + ad3 x) (b + ad2 x) (some (a - min c ah.length, b - min c ah.length, hunk_Build.lead c ah ++ [x])) []
      simp at this ⊢
      omega
  | x :: xs, a, b, some (a0, b0, now), ah => by
    have h1 := bld_len c xs (a + ad3 x) (b + ad2 x) none x.f1
    have h2 := bld_len c xs (a + ad3 x) (b + ad2 x) (some (a0, b0, now ++ [x])) ah
    simp only [bld]
    split
    · split
      · simp at h1 ⊢
        omega
      · simp at h2 ⊢
        omega
    · simp at h2 ⊢
      omega
theorem hnk_len (c : Nat) (n : List S47) : (hnk c n).length ≤ n.length := by
  have := bld_len c n 0 0 none []
  unfold hnk
  simpa using this
end Go.Proofs.Ytfnbodjmmkjlcaa.H
namespace Go.Proofs.Ytfnbodjmmkjlcaa.H
open Go.RowKit Go.Proofs.YtfnbodjmmkjlcaaW.PrintWords Go.Proofs.YtfnbodjmmkjlcaaW.PrintLast Go.Proofs.YtfnbodjmmkjlcaaW.PrintMore
set_option linter.unusedVariables false
set_option linter.unusedSimpArgs false
theorem side_one (now : List S47) (d : Int) (ls : List S66) (b : Int) : (side (now ++ [⟨d, ls⟩]) b).length = (side now b).length + (if d = b then 0 else ls.length) := by
  rw [side_append, side_cons]
  simp only [List.length_append]
  split <;> simp [side]
theorem lead_side (c : Nat) (ah : List S66) (b : Int) (hb : b ≠ 1) : (side (hunk_Build.lead c ah) b).length = min c ah.length := by
  unfold hunk_Build.lead
  split
  · rw [side_cons, if_neg (fun e => hb e.symm)]
    simp [side]
    omega
  · simp [side]
    omega
theorem nf_same (s t : List S47) (x y : S47) (h : Nf (s ++ x :: t)) (hf : y.f0 = x.f0) (hy : y.f1 ≠ []) : Nf (s ++ y :: t) := by
  obtain ⟨h1, h2, h3⟩ := (nf_append _ _).1 h
  refine (nf_append _ _).2 ⟨h1, ⟨⟨by rw [hf]; exact h2.1.1, hy⟩, by rw [hf]; exact h2.2.1, h2.2.2⟩, fun z hz w hw => ?_⟩
  simp at hw
  subst hw
  rw [hf]
  exact h3 z hz x (by simp)
theorem nf_left (s t : List S47) (h : Nf (s ++ t)) : Nf s := ((nf_append _ _).1 h).1
theorem nf_trail (c : Nat) (now t : List S47) (x : S47) (h : Nf (now ++ x :: t)) (hx : x.f0 = 1) : Nf (now ++ hunk_Build.trail c x.f1) := by
  unfold hunk_Build.trail
  by_cases h0 : 0 < min c x.f1.length
  · rw [if_pos h0]
    refine nf_left _ t ?_
    rw [List.append_assoc]
    refine nf_same now t x _ h hx.symm ?_
    intro e
    have h2 : (x.f1.take c).length = 0 := by
      have e' : x.f1.take c = [] := by simpa using e
      rw [e']
      rfl
    rw [List.length_take] at h2
    omega
  · rw [if_neg h0, List.append_nil]
    exact nf_left _ _ h
theorem nf_lead (c : Nat) (t : List S47) (x : S47) (h : Nf (x :: t)) (hx : x.f0 = 1) : Nf (hunk_Build.lead c x.f1 ++ t) := by
  unfold hunk_Build.lead
  by_cases h0 : 0 < min c x.f1.length
  · rw [if_pos h0]
    refine nf_same [] t x _ h hx.symm ?_
    intro e
    have := congrArg List.length e
    rw [List.length_drop, List.length_nil] at this
    omega
  · rw [if_neg h0]
    exact h.2.2
theorem bld_nf (c : Nat) : ∀ (n : List S47) (a b : Nat) (cur : Option (Nat × Nat × List S47)) (ah : List S66), (match cur with | none => Nf (hunk_Build.lead c ah ++ n) ∧ ah.length + nl n ≤ 800 | some (_, _, now) => Nf (now ++ n) ∧ nl now + nl n ≤ 800) → Nf n → ∀ h ∈ bld c n a b cur ah, Nf h.f4 ∧ nl h.f4 ≤ 800
  | [], a, b, none, ah, hc, hn, h, hh => by simp [bld] at hh
  | [], a, b, some (a0, b0, now), ah, hc, hn, h, hh => by
    simp [bld] at hh
    subst hh
    have h1 : Nf (now ++ []) := hc.1
    have h2 : nl now + nl [] ≤ 800 := hc.2
    rw [List.append_nil] at h1
    exact ⟨h1, h2⟩
  | x :: xs, a, b, none, ah, hc, hn, h, hh => by
    obtain ⟨h1, h2⟩ := hc
    rw [nl_cons] at h2
    simp only [bld] at hh
    by_cases e1 : x.f0 = 1
    · rw [if_pos e1] at hh
      exact bld_nf c xs _ _ none x.f1 ⟨nf_lead c xs x hn e1, by omega⟩ hn.2.2 h hh
    · rw [if_neg e1] at hh
      refine bld_nf c xs _ _ (some (a - min c ah.length, b - min c ah.length, hunk_Build.lead c ah ++ [x])) [] ⟨?_, ?_⟩ hn.2.2 h hh
      · simpa using h1
      · rw [nl_append, lead_nl, nl_cons, nl_nil]
        omega
  | x :: xs, a, b, some (a0, b0, now), ah, hc, hn, h, hh => by
    obtain ⟨h1, h2⟩ := hc
    rw [nl_cons] at h2
    have hstep : Nf (now ++ [x] ++ xs) ∧ nl (now ++ [x]) + nl xs ≤ 800 := ⟨by simpa using h1, by rw [nl_append, nl_cons, nl_nil]; omega⟩
    simp only [bld] at hh
    by_cases e1 : x.f0 = 1
    · rw [if_pos e1] at hh
      split at hh
      · rcases List.mem_cons.1 hh with rfl | hh
        · exact ⟨nf_trail c now xs x h1 e1, by show nl (now ++ hunk_Build.trail c x.f1) ≤ _; rw [nl_append, trail_nl]; omega⟩
        · exact bld_nf c xs _ _ none x.f1 ⟨nf_lead c xs x hn e1, by omega⟩ hn.2.2 h hh
      · exact bld_nf c xs _ _ _ _ hstep hn.2.2 h hh
    · rw [if_neg e1] at hh
      exact bld_nf c xs _ _ _ _ hstep hn.2.2 h hh
theorem hnk_nf (c : Nat) (n : List S47) (hn : Nf n) (hl : nl n ≤ 800) : ∀ h ∈ hnk c n, Nf h.f4 ∧ nl h.f4 ≤ 800 := by
  refine bld_nf c n 0 0 none [] ⟨?_, by simpa using hl⟩ hn
  unfold hunk_Build.lead
  rw [if_neg (by simp)]
  exact hn
end Go.Proofs.Ytfnbodjmmkjlcaa.H
namespace Go.Proofs.Ytfnbodjmmkjlcaa.H
open Go.RowKit Go.Proofs.YtfnbodjmmkjlcaaW.PrintWords Go.Proofs.YtfnbodjmmkjlcaaW.PrintLast Go.Proofs.YtfnbodjmmkjlcaaW.PrintMore
set_option linter.unusedVariables false
set_option linter.unusedSimpArgs false
theorem live_ev : Ev (fun k => jalousielaw09_live.f k) true := by
  refine Ev.of (fun k => jalousielaw09_live.mono k) (k := 40) ?_
  decide +kernel
theorem few_l0 (s : List S47) (hf : Fit s) : ∀ (d i n : Nat), i + d = s.length → n ≤ 200 * i → ∃ r : Bool, Ev (fun k => jalousielaw09_few.l0 k s (n : Int) (i : Int)) r ∧ (r = true → s.length ≤ 120 ∧ (i ≤ 130 → n + nl (s.drop i) ≤ 120))
  | 0, i, n, h, hn => by
    have := hf.1
    by_cases h1 : n ≤ 120
    · refine ⟨decide ((s.length : Int) ≤ 120), ev_succ ?_, fun hr => ?_⟩
      · simp only [jalousielaw09_few.l0]
        (repeat (first | refine ev_pos (by omega) ?_ | refine ev_neg (by omega) ?_))
        exact ev_some rfl
      · have := of_decide_eq_true hr
        rw [List.drop_of_length_le (by omega), nl_nil]
        omega
    · refine ⟨false, ev_succ ?_, fun hr => by cases hr⟩
      simp only [jalousielaw09_few.l0]
      (repeat (first | refine ev_pos (by omega) ?_ | refine ev_neg (by omega) ?_))
      exact ev_some rfl
  | d + 1, i, n, h, hn => by
    have h0 := hf.1
    have hx := hf.2 _ (getD_mem (l := s) (i := i) (by omega) z47)
    by_cases hi : i < 130
    · obtain ⟨r, hr, hr2⟩ := few_l0 s hf d (i + 1) (n + min (s.getD i z47).f1.length 200) (by omega) (by omega)
      refine ⟨r, ev_succ ?_, fun e => ?_⟩
      · simp only [jalousielaw09_few.l0, rdE]
        have hm : wrap64 ((n : Int) + mn (((s.getD i z47).f1.length : Nat) : Int) 200) = ((n + min (s.getD i z47).f1.length 200 : Nat) : Int) := by
          unfold mn wrap64
          split <;> omega
        rw [w64s i (by omega), hm]
        (repeat (first | refine ev_pos (by omega) ?_ | refine ev_neg (by omega) ?_))
        exact hr
      · obtain ⟨h1, h2⟩ := hr2 e
        refine ⟨h1, fun _ => ?_⟩
        have h3 := h2 (by omega)
        rw [drop_cons s i (by omega) z47, nl_cons]
        omega
    · by_cases h1 : n ≤ 120
      · refine ⟨decide ((s.length : Int) ≤ 120), ev_succ ?_, fun hr => ?_⟩
        · simp only [jalousielaw09_few.l0]
          (repeat (first | refine ev_pos (by omega) ?_ | refine ev_neg (by omega) ?_))
          exact ev_some rfl
        · have := of_decide_eq_true hr
          omega
      · refine ⟨false, ev_succ ?_, fun hr => by cases hr⟩
        simp only [jalousielaw09_few.l0]
        (repeat (first | refine ev_pos (by omega) ?_ | refine ev_neg (by omega) ?_))
        exact ev_some rfl
theorem few_ev (s : List S47) (hf : Fit s) : ∃ r : Bool, Ev (fun k => jalousielaw09_few.f k s) r ∧ (r = true → s.length ≤ 120 ∧ nl s ≤ 120) := by
  obtain ⟨r, h1, h2⟩ := few_l0 s hf s.length 0 0 (by omega) (by omega)
  refine ⟨r, h1, fun e => ?_⟩
  obtain ⟨h3, h4⟩ := h2 e
  have := h4 (by omega)
  rw [List.drop_zero] at this
  exact ⟨h3, by omega⟩
theorem fit_of (s : List S47) (h : s.length * 32 ≤ 140737488351232 ∧ ∀ y_ ∈ s, sz47 y_) : Fit s := by
  refine ⟨by omega, fun x hx => ?_⟩
  have := (h.2 x hx).2.1
  omega
end Go.Proofs.Ytfnbodjmmkjlcaa.H
namespace Go.Proofs.Ytfnbodjmmkjlcaa.H
open Go.RowKit Go.Proofs.YtfnbodjmmkjlcaaW.PrintWords Go.Proofs.YtfnbodjmmkjlcaaW.PrintLast Go.Proofs.YtfnbodjmmkjlcaaW.PrintMore
set_option linter.unusedVariables false
set_option linter.unusedSimpArgs false
/-- Is a hunk right, but for where it stands? -/
def rightB (h : S44) : Bool := decide (chk h.f4 = 0) && decide (script_normal.p h.f4 = h.f4) && decide (0 < chg h.f4) && decide (((side h.f4 3).length : Int) = h.f1) && decide (((side h.f4 2).length : Int) = h.f3) && decide (h.f1 ≤ 400) && decide (h.f3 ≤ 400)
theorem right_iff (h : S44) : rightB h = true ↔ chk h.f4 = 0 ∧ script_normal.p h.f4 = h.f4 ∧ 0 < chg h.f4 ∧ ((side h.f4 3).length : Int) = h.f1 ∧ ((side h.f4 2).length : Int) = h.f3 ∧ h.f1 ≤ 400 ∧ h.f3 ≤ 400 := by
  unfold rightB
  simp only [Bool.and_eq_true, decide_eq_true_eq, and_assoc]
/-- Where it stands, behind what came ahead. -/
def posB (a b : Int) (h : S44) : Bool := decide (0 ≤ h.f0 ∧ h.f0 ≤ 400) && decide (0 ≤ h.f2 ∧ h.f2 ≤ 400) && decide (a ≤ h.f0) && decide (h.f0 - a = h.f2 - b)
theorem pos_iff (a b : Int) (h : S44) : posB a b h = true ↔ (0 ≤ h.f0 ∧ h.f0 ≤ 400) ∧ (0 ≤ h.f2 ∧ h.f2 ≤ 400) ∧ a ≤ h.f0 ∧ h.f0 - a = h.f2 - b := by
  unfold posB
  simp only [Bool.and_eq_true, decide_eq_true_eq, and_assoc]
def chkA : List S44 → Int → Int → Int
  | [], _, _ => 0
  | h :: t, a, b => if (rightB h && posB a b h) = true then chkA t (h.f0 + h.f1) (h.f2 + h.f3) else 3
/-- All that is asked of a hunk. -/
def okH (a b : Int) (h : S44) : Prop := (chk h.f4 = 0 ∧ script_normal.p h.f4 = h.f4 ∧ 0 < chg h.f4 ∧ ((side h.f4 3).length : Int) = h.f1 ∧ ((side h.f4 2).length : Int) = h.f3 ∧ h.f1 ≤ 400 ∧ h.f3 ≤ 400) ∧ (0 ≤ h.f0 ∧ h.f0 ≤ 400) ∧ (0 ≤ h.f2 ∧ h.f2 ≤ 400) ∧ a ≤ h.f0 ∧ h.f0 - a = h.f2 - b
theorem okH_iff (a b : Int) (h : S44) : (rightB h && posB a b h) = true ↔ okH a b h := by
  rw [Bool.and_eq_true, right_iff, pos_iff]
  rfl
theorem chkA_ok {a b : Int} {h : S44} {t : List S44} (hn : okH a b h) : chkA t (h.f0 + h.f1) (h.f2 + h.f3) = chkA (h :: t) a b := by
  rw [chkA, if_pos ((okH_iff a b h).2 hn)]
end Go.Proofs.Ytfnbodjmmkjlcaa.H
namespace Go.Proofs.Ytfnbodjmmkjlcaa.H
open Go.RowKit Go.Proofs.YtfnbodjmmkjlcaaW.PrintWords Go.Proofs.YtfnbodjmmkjlcaaW.PrintLast Go.Proofs.YtfnbodjmmkjlcaaW.PrintMore
set_option linter.unusedVariables false
set_option linter.unusedSimpArgs false
theorem chk_elem (s : List S47) (h : nl s ≤ 800) : ∀ x ∈ s, x.f1.length ≤ 800 := by
  induction s with
  | nil => intro x hx; cases hx
  | cons y t ih =>
    intro x hx
    rw [nl_cons] at h
    rcases List.mem_cons.1 hx with rfl | hx
    · omega
    · exact ih (by omega) x hx
end Go.Proofs.Ytfnbodjmmkjlcaa.H
namespace Go.Proofs.Ytfnbodjmmkjlcaa.H
open Go.RowKit Go.Proofs.YtfnbodjmmkjlcaaW.PrintWords Go.Proofs.YtfnbodjmmkjlcaaW.PrintLast Go.Proofs.YtfnbodjmmkjlcaaW.PrintMore
set_option linter.unusedVariables false
set_option linter.unusedSimpArgs false
theorem chg_good {x : S47} (h : good x) (h1 : x.f0 ≠ 1) : 0 < chg [x] := by
  have := List.length_pos_iff.2 h.2
  rw [chg_cons, if_pos (by have := h.1; omega)]
  omega
theorem nl_sides (s : List S47) : nl s ≤ (side s 3).length + (side s 2).length := by
  induction s with
  | nil => simp [nl]
  | cons x t ih =>
    rw [nl_cons, side_cons, side_cons, List.length_append, List.length_append]
    by_cases h3 : x.f0 = 3
    · rw [if_pos h3, if_neg (by omega)]
      simp
      omega
    · rw [if_neg h3]
      omega
/-- A hunk of a normal form that changes something is right. -/
theorem mk_right (a0 b0 : Nat) (now : List S47) (hn : Nf now) (h3 : (side now 3).length ≤ 400) (h2 : (side now 2).length ≤ 400) (hc : 0 < chg now) : rightB (mkH a0 b0 now) = true := by
  rw [right_iff]
  have h := nl_sides now
  exact ⟨good_chk now (by omega) (nf_good _ hn), p_id _ hn, hc, rfl, rfl, by show ((side now 3).length : Int) ≤ 400; omega, by show ((side now 2).length : Int) ≤ 400; omega⟩
/-- What is known where the rest is n: x and y are where the last hunk ended. -/
def bOk (c : Nat) (n : List S47) (a b : Nat) (cur : Option (Nat × Nat × List S47)) (ah : List S66) (x y : Nat) : Prop := match cur with
  | none => Nf (hunk_Build.lead c ah ++ n) ∧ (n ≠ [] → x + min c ah.length ≤ a ∧ y + min c ah.length ≤ b ∧ (a : Int) - x = b - y) ∧ ah.length ≤ a ∧ ah.length ≤ b ∧ (∀ z ∈ n.head?, z.f0 = 1 → a = 0 ∧ b = 0 ∧ x = 0 ∧ y = 0 ∧ ah = [])
  | some (a0, b0, now) => Nf (now ++ n) ∧ 0 < chg now ∧ a = a0 + (side now 3).length ∧ b = b0 + (side now 2).length ∧ x ≤ a0 ∧ y ≤ b0 ∧ (a0 : Int) - x = b0 - y
theorem ad_sum (x : S47) : ad3 x + nl [] ≤ x.f1.length ∧ ad2 x ≤ x.f1.length := by
  unfold ad3 ad2
  rw [nl_nil]
  constructor <;> split <;> omega
theorem side_now (now : List S47) (x : S47) : (side (now ++ [x]) 3).length = (side now 3).length + ad3 x ∧ (side (now ++ [x]) 2).length = (side now 2).length + ad2 x := ⟨side_one now x.f0 x.f1 3, side_one now x.f0 x.f1 2⟩
theorem trail_side (c : Nat) (l : List S66) (b : Int) (hb : b ≠ 1) : (side (hunk_Build.trail c l) b).length = min c l.length := by
  unfold hunk_Build.trail
  split
  · rw [side_cons, if_neg (fun e => hb e.symm)]
    simp [side]
  · simp [side]
    omega
theorem chg_trail (c : Nat) (l : List S66) : chg (hunk_Build.trail c l) = 0 := by
  unfold hunk_Build.trail
  split <;> simp [chg]
theorem chg_lead (c : Nat) (l : List S66) : chg (hunk_Build.lead c l) = 0 := by
  unfold hunk_Build.lead
  split <;> simp [chg]
theorem bld_chk (c : Nat) : ∀ (n : List S47) (a b : Nat) (cur : Option (Nat × Nat × List S47)) (ah : List S66) (x y : Nat), Nf n → bOk c n a b cur ah x y → a + nl n ≤ 400 → b + nl n ≤ 400 → chkA (bld c n a b cur ah) x y = 0
  | [], a, b, none, ah, x, y, hn, hk, ha, hb => rfl
  | [], a, b, some (a0, b0, now), ah, x, y, hn, hk, ha, hb => by
    obtain ⟨h1, h2, h3, h4, h5, h6, h7⟩ := hk
    rw [List.append_nil] at h1
    simp only [bld]
    rw [chkA, if_pos]
    · rfl
    · rw [mk_right a0 b0 now h1 (by omega) (by omega) h2, Bool.true_and, pos_iff]
      simp only [mkH]
      omega
  | z :: xs, a, b, none, ah, x, y, hn, hk, ha, hb => by
    obtain ⟨h1, h2, h3, h4, h5⟩ := hk
    obtain ⟨h6, h7, h8⟩ := h2 (by simp)
    rw [nl_cons] at ha hb
    simp only [bld]
    have had := ad_sum z
    by_cases e1 : z.f0 = 1
    · rw [if_pos e1]
      obtain ⟨rfl, rfl, rfl, rfl, rfl⟩ := h5 z (by simp) e1
      have e3 : ad3 z = z.f1.length := by unfold ad3; rw [if_neg (by omega)]
      have e2 : ad2 z = z.f1.length := by unfold ad2; rw [if_neg (by omega)]
      rw [e3, e2]
      refine bld_chk c xs _ _ none z.f1 0 0 hn.2.2 ⟨nf_lead c xs z hn e1, fun _ => ⟨by omega, by omega, by omega⟩, by omega, by omega, fun w hw hw1 => ?_⟩ (by omega) (by omega)
      have := hn.2.1 w hw
      simp [adj, e1, hw1] at this
    · rw [if_neg e1]
      have hs := side_now (hunk_Build.lead c ah) z
      have hs3 := lead_side c ah 3 (by omega)
      have hs2 := lead_side c ah 2 (by omega)
      refine bld_chk c xs _ _ (some (a - min c ah.length, b - min c ah.length, hunk_Build.lead c ah ++ [z])) [] x y hn.2.2 ⟨by simpa using h1, ?_, by rw [hs.1, hs3]; omega, by rw [hs.2, hs2]; omega, by omega, by omega, by omega⟩ (by omega) (by omega)
      rw [chg_append]
      have := chg_good hn.1 e1
      omega
  | z :: xs, a, b, some (a0, b0, now), ah, x, y, hn, hk, ha, hb => by
    obtain ⟨h1, h2, h3, h4, h5, h6, h7⟩ := hk
    rw [nl_cons] at ha hb
    simp only [bld]
    have had := ad_sum z
    have hgo : chkA (bld c xs (a + ad3 z) (b + ad2 z) (some (a0, b0, now ++ [z])) ah) x y = 0 := by
      have hs := side_now now z
      refine bld_chk c xs _ _ (some (a0, b0, now ++ [z])) ah x y hn.2.2 ⟨by simpa using h1, by rw [chg_append]; omega, by rw [hs.1]; omega, by rw [hs.2]; omega, h5, h6, h7⟩ (by omega) (by omega)
    by_cases e1 : z.f0 = 1
    · rw [if_pos e1]
      have e3 : ad3 z = z.f1.length := by unfold ad3; rw [if_neg (by omega)]
      have e2 : ad2 z = z.f1.length := by unfold ad2; rw [if_neg (by omega)]
      by_cases hl : xs.isEmpty = true ∨ 2 * c < z.f1.length
      · rw [if_pos hl]
        have ht3 := trail_side c z.f1 3 (by omega)
        have ht2 := trail_side c z.f1 2 (by omega)
        have hl3 : (side (now ++ hunk_Build.trail c z.f1) 3).length = (side now 3).length + min c z.f1.length := by rw [side_append, List.length_append, ht3]
        have hl2 : (side (now ++ hunk_Build.trail c z.f1) 2).length = (side now 2).length + min c z.f1.length := by rw [side_append, List.length_append, ht2]
        rw [chkA, if_pos]
        · have f1 : (mkH a0 b0 (now ++ hunk_Build.trail c z.f1)).f0 + (mkH a0 b0 (now ++ hunk_Build.trail c z.f1)).f1 = ((a + min c z.f1.length : Nat) : Int) := by
            simp only [mkH]
            omega
          have f2 : (mkH a0 b0 (now ++ hunk_Build.trail c z.f1)).f2 + (mkH a0 b0 (now ++ hunk_Build.trail c z.f1)).f3 = ((b + min c z.f1.length : Nat) : Int) := by
            simp only [mkH]
            omega
          rw [f1, f2, e3, e2]
          refine bld_chk c xs _ _ none z.f1 _ _ hn.2.2 ⟨nf_lead c xs z hn e1, fun hxs => ?_, by omega, by omega, fun w hw hw1 => ?_⟩ (by omega) (by omega)
          · have : 2 * c < z.f1.length := hl.resolve_left (by simpa using hxs)
            exact ⟨by omega, by omega, by omega⟩
          · have := hn.2.1 w hw
            simp [adj, e1, hw1] at this
        · rw [mk_right a0 b0 _ (nf_trail c now xs z h1 e1) (by omega) (by omega) (by rw [chg_append]; omega), Bool.true_and, pos_iff]
          simp only [mkH]
          omega
      · rw [if_neg hl]
        exact hgo
    · rw [if_neg e1]
      exact hgo
theorem hnk_ok (c : Nat) (n : List S47) (hn : Nf n) : bOk c n 0 0 none [] 0 0 := by
  refine ⟨?_, fun _ => ⟨by simp, by simp, rfl⟩, by simp, by simp, fun _ _ _ => ⟨rfl, rfl, rfl, rfl, rfl⟩⟩
  unfold hunk_Build.lead
  rw [if_neg (by simp)]
  exact hn
end Go.Proofs.Ytfnbodjmmkjlcaa.H
namespace Go.Proofs.Ytfnbodjmmkjlcaa.H
open Go.RowKit Go.Proofs.YtfnbodjmmkjlcaaW.PrintWords Go.Proofs.YtfnbodjmmkjlcaaW.PrintLast Go.Proofs.YtfnbodjmmkjlcaaW.PrintMore
set_option linter.unusedVariables false
set_option linter.unusedSimpArgs false
theorem joins_chg (c : Nat) : ∀ (n : List S47) (a b : Nat) (cur : Option (Nat × Nat × List S47)) (ah : List S66), chg (joins (bld c n a b cur ah)) = (match cur with | none => 0 | some (_, _, now) => chg now) + chg n
  | [], a, b, none, ah => rfl
  | [], a, b, some (a0, b0, now), ah => by simp [bld, joins, mkH, chg]
  | x :: xs, a, b, none, ah => by
    simp only [bld]
    by_cases e1 : x.f0 = 1
    · rw [if_pos e1, joins_chg c xs _ _ none x.f1, chg_cons, if_neg (by omega)]
      simp only [Nat.zero_add]
    · rw [if_neg e1, joins_chg c xs _ _ (some (a - min c ah.length, b - min c ah.length, hunk_Build.lead c ah ++ [x])) [], chg_cons]
      simp only
      rw [chg_append, chg_lead, chg_cons]
      simp [chg]
  | x :: xs, a, b, some (a0, b0, now), ah => by
    have hgo : chg (joins (bld c xs (a + ad3 x) (b + ad2 x) (some (a0, b0, now ++ [x])) ah)) = chg now + chg (x :: xs) := by
      rw [joins_chg c xs _ _ (some (a0, b0, now ++ [x])) ah, chg_cons]
      simp only
      rw [chg_append, chg_cons]
      simp [chg]
      omega
    simp only [bld]
    by_cases e1 : x.f0 = 1
    · rw [if_pos e1]
      split
      · rw [joins_cons, chg_append, joins_chg c xs _ _ none x.f1, chg_cons, if_neg (by omega)]
        simp only [mkH]
        rw [chg_append, chg_trail]
        omega
      · exact hgo
    · rw [if_neg e1]
      exact hgo
theorem hnk_chg (c : Nat) (n : List S47) : chg (joins (hnk c n)) = chg n := by
  unfold hnk
  rw [joins_chg]
  simp
theorem joins_size : ∀ (l : List S44), (∀ h ∈ l, h.f4.length ≤ 800 ∧ nl h.f4 ≤ 800) → (joins l).length ≤ 800 * l.length ∧ nl (joins l) ≤ 800 * l.length
  | [], _ => ⟨Nat.le_refl _, Nat.le_refl _⟩
  | h :: t, hh => by
    obtain ⟨h1, h2⟩ := joins_size t fun x hx => hh x (List.mem_cons_of_mem _ hx)
    obtain ⟨h3, h4⟩ := hh h (by simp)
    rw [joins_cons, List.length_append, nl_append, List.length_cons]
    omega
theorem hnk_join_ev (c : Nat) (n : List S47) (hn : Nf n) (hl : nl n ≤ 800) : Ev (fun k => hunk_Join.f k (hnk c n)) (joins (hnk c n)) ∧ (joins (hnk c n)).length ≤ 640000 ∧ nl (joins (hnk c n)) ≤ 640000 := by
  have h1 := hnk_nf c n hn hl
  have h2 := hnk_len c n
  have h3 := nf_len n hn
  obtain ⟨h4, h5⟩ := joins_size (hnk c n) fun h hh => ⟨Nat.le_trans (nf_len _ (h1 h hh).1) (h1 h hh).2, (h1 h hh).2⟩
  have h6 : 800 * (hnk c n).length ≤ 640000 := by omega
  exact ⟨join_ev _ (by omega) (fun h hh x hx => by have := chk_elem _ (h1 h hh).2 x hx; omega) (by omega), by omega, by omega⟩
end Go.Proofs.Ytfnbodjmmkjlcaa.H
namespace Go.Proofs.Ytfnbodjmmkjlcaa.H
open Go.RowKit Go.Proofs.YtfnbodjmmkjlcaaW.PrintWords Go.Proofs.YtfnbodjmmkjlcaaW.PrintLast Go.Proofs.YtfnbodjmmkjlcaaW.PrintMore
set_option linter.unusedVariables false
set_option linter.unusedSimpArgs false
theorem lims_of (c : Nat) (s : List S47) (h1 : ∀ x ∈ s, x.f0 = 1 → x.f1.length ≤ 2 * c) (h2 : ∀ x ∈ s.head?, x.f0 = 1 → x.f1.length ≤ c) (h3 : ∀ x ∈ s.getLast?, x.f0 = 1 → x.f1.length ≤ c) : jalousielaw09_HunkAround.lims c s = true := by
  unfold jalousielaw09_HunkAround.lims
  rw [List.all_eq_true]
  intro k hk
  rw [List.mem_range] at hk
  refine decide_eq_true fun hf => ⟨h1 _ (getD_mem hk _) hf, ?_⟩
  rintro (h0 | h0)
  · subst h0
    refine h2 _ ?_ hf
    rw [List.head?_eq_getElem?, List.getD_eq_getElem?_getD, List.getElem?_eq_getElem hk]
    rfl
  · refine h3 _ ?_ hf
    rw [List.getLast?_eq_getElem?, show s.length - 1 = k by omega, List.getD_eq_getElem?_getD, List.getElem?_eq_getElem hk]
    rfl
theorem lead_le (c : Nat) (ah : List S66) : ∀ x ∈ hunk_Build.lead c ah, x.f1.length ≤ c := by
  intro x hx
  unfold hunk_Build.lead at hx
  split at hx
  · simp at hx
    subst hx
    simp
    omega
  · simp at hx
theorem trail_le (c : Nat) (ah : List S66) : ∀ x ∈ hunk_Build.trail c ah, x.f1.length ≤ c := by
  intro x hx
  unfold hunk_Build.trail at hx
  split at hx
  · simp at hx
    subst hx
    simp
    omega
  · simp at hx
theorem head_app {α : Type} (s t : List α) (h : s ≠ []) : (s ++ t).head? = s.head? := by
  cases s with
  | nil => exact absurd rfl h
  | cons a s => rfl
theorem last_app {α : Type} (s t : List α) (h : t ≠ []) : (s ++ t).getLast? = t.getLast? := by
  rcases List.eq_nil_or_concat t with e | ⟨u, y, e⟩
  · exact absurd e h
  · have e' : t = u ++ [y] := by simpa using e
    subst e'
    rw [← List.append_assoc]
    simp
def lOk (c : Nat) (n : List S47) (cur : Option (Nat × Nat × List S47)) : Prop := match cur with
  | none => True
  | some (_, _, now) => Nf (now ++ n) ∧ now ≠ [] ∧ (∀ x ∈ now, x.f0 = 1 → x.f1.length ≤ 2 * c) ∧ (∀ x ∈ now.head?, x.f0 = 1 → x.f1.length ≤ c) ∧ (∀ x ∈ now.getLast?, x.f0 = 1 → n ≠ [])
theorem bld_lims (c : Nat) : ∀ (n : List S47) (a b : Nat) (cur : Option (Nat × Nat × List S47)) (ah : List S66), Nf n → (cur = none → Nf (hunk_Build.lead c ah ++ n)) → lOk c n cur → ∀ h ∈ bld c n a b cur ah, jalousielaw09_HunkAround.lims c h.f4 = true
  | [], a, b, none, ah, hn, hl, hk, h, hh => by simp [bld] at hh
  | [], a, b, some (a0, b0, now), ah, hn, hl, hk, h, hh => by
    simp [bld] at hh
    subst hh
    obtain ⟨h1, h2, h3, h4, h5⟩ := hk
    exact lims_of c now h3 h4 fun x hx hf => absurd rfl (h5 x hx hf)
  | x :: xs, a, b, none, ah, hn, hl, hk, h, hh => by
    simp only [bld] at hh
    by_cases e1 : x.f0 = 1
    · rw [if_pos e1] at hh
      exact bld_lims c xs _ _ none x.f1 hn.2.2 (fun _ => nf_lead c xs x hn e1) trivial h hh
    · rw [if_neg e1] at hh
      refine bld_lims c xs _ _ (some (a - min c ah.length, b - min c ah.length, hunk_Build.lead c ah ++ [x])) [] hn.2.2 (fun h => by cases h) ⟨by simpa using hl rfl, by simp, ?_, ?_, ?_⟩ h hh
      · intro y hy hf
        rcases List.mem_append.1 hy with hy | hy
        · have := lead_le c ah y hy
          omega
        · simp at hy
          subst hy
          exact absurd hf e1
      · intro y hy hf
        have hy2 : y ∈ hunk_Build.lead c ah ++ [x] := List.mem_of_mem_head? hy
        rcases List.mem_append.1 hy2 with hy2 | hy2
        · exact lead_le c ah y hy2
        · simp at hy2
          subst hy2
          exact absurd hf e1
      · intro y hy hf
        simp at hy
        subst hy
        exact absurd hf e1
  | x :: xs, a, b, some (a0, b0, now), ah, hn, hl, hk, h, hh => by
    obtain ⟨h1, h2, h3, h4, h5⟩ := hk
    have hgo : x.f1.length ≤ 2 * c ∧ xs ≠ [] ∨ x.f0 ≠ 1 → lOk c xs (some (a0, b0, now ++ [x])) := by
      intro hx
      refine ⟨by simpa using h1, by simp, ?_, by rw [head_app _ _ h2]; exact h4, ?_⟩
      · intro y hy hf
        rcases List.mem_append.1 hy with hy | hy
        · exact h3 y hy hf
        · simp at hy
          subst hy
          rcases hx with hx | hx
          · exact hx.1
          · exact absurd hf hx
      · intro y hy hf
        simp at hy
        subst hy
        rcases hx with hx | hx
        · exact hx.2
        · exact absurd hf hx
    simp only [bld] at hh
    by_cases e1 : x.f0 = 1
    · rw [if_pos e1] at hh
      by_cases hlast : xs.isEmpty = true ∨ 2 * c < x.f1.length
      · rw [if_pos hlast] at hh
        rcases List.mem_cons.1 hh with rfl | hh
        · refine lims_of c _ ?_ ?_ ?_
          · intro y hy hf
            rcases List.mem_append.1 hy with hy | hy
            · exact h3 y hy hf
            · have := trail_le c x.f1 y hy
              omega
          · show ∀ y ∈ (now ++ hunk_Build.trail c x.f1).head?, _
            rw [head_app _ _ h2]
            exact h4
          · intro y hy hf
            have hy2 : y ∈ (now ++ hunk_Build.trail c x.f1).getLast? := hy
            by_cases ht : hunk_Build.trail c x.f1 = []
            · rw [ht, List.append_nil] at hy2
              have := ((nf_append _ _).1 h1).2.2 y hy2 x (by simp)
              simp [adj, hf, e1] at this
            · rw [last_app _ _ ht] at hy2
              exact trail_le c x.f1 y (List.mem_of_getLast? hy2)
        · exact bld_lims c xs _ _ none x.f1 hn.2.2 (fun _ => nf_lead c xs x hn e1) trivial h hh
      · rw [if_neg hlast] at hh
        refine bld_lims c xs _ _ (some (a0, b0, now ++ [x])) ah hn.2.2 (fun h => by cases h) (hgo (.inl ⟨?_, fun e => hlast (.inl (by rw [e]; rfl))⟩)) h hh
        have : ¬ 2 * c < x.f1.length := fun h => hlast (.inr h)
        omega
    · rw [if_neg e1] at hh
      exact bld_lims c xs _ _ (some (a0, b0, now ++ [x])) ah hn.2.2 (fun h => by cases h) (hgo (.inr e1)) h hh
/-- Each hunk begins behind the end of the last one, and not at it. -/
def strict : List S44 → Int → Prop
  | [], _ => True
  | h :: t, e => e < h.f0 ∧ strict t (h.f0 + h.f1)
def sOk (c : Nat) (n : List S47) (a : Nat) (cur : Option (Nat × Nat × List S47)) (ah : List S66) (e : Int) : Prop := match cur with
  | none => (n ≠ [] → e + (min c ah.length : Nat) < a) ∧ ah.length ≤ a
  | some (a0, _, now) => e < a0 ∧ a = a0 + (side now 3).length
theorem bld_strict (c : Nat) : ∀ (n : List S47) (a b : Nat) (cur : Option (Nat × Nat × List S47)) (ah : List S66) (e : Int), (∀ x ∈ n, good x) → sOk c n a cur ah e → strict (bld c n a b cur ah) e
  | [], a, b, none, ah, e, hg, hk => trivial
  | [], a, b, some (a0, b0, now), ah, e, hg, hk => ⟨hk.1, trivial⟩
  | x :: xs, a, b, none, ah, e, hg, hk => by
    obtain ⟨h1, h2⟩ := hk
    have h1' := h1 (by simp)
    have hgs : ∀ y ∈ xs, good y := fun y hy => hg y (List.mem_cons_of_mem _ hy)
    have hxl := List.length_pos_iff.2 (hg x (by simp)).2
    simp only [bld]
    by_cases e1 : x.f0 = 1
    · rw [if_pos e1]
      have e3 : ad3 x = x.f1.length := by unfold ad3; rw [if_neg (by omega)]
      rw [e3]
      exact bld_strict c xs _ _ none x.f1 e hgs ⟨fun _ => by omega, by omega⟩
    · rw [if_neg e1]
      have hs3 := lead_side c ah 3 (by omega)
      have hs := side_now (hunk_Build.lead c ah) x
      exact bld_strict c xs _ _ (some (a - min c ah.length, b - min c ah.length, hunk_Build.lead c ah ++ [x])) [] e hgs ⟨by omega, by rw [hs.1, hs3]; omega⟩
  | x :: xs, a, b, some (a0, b0, now), ah, e, hg, hk => by
    obtain ⟨h1, h2⟩ := hk
    have hgs : ∀ y ∈ xs, good y := fun y hy => hg y (List.mem_cons_of_mem _ hy)
    have hgo : strict (bld c xs (a + ad3 x) (b + ad2 x) (some (a0, b0, now ++ [x])) ah) e := bld_strict c xs _ _ (some (a0, b0, now ++ [x])) ah e hgs ⟨h1, by rw [(side_now now x).1]; omega⟩
    simp only [bld]
    by_cases e1 : x.f0 = 1
    · rw [if_pos e1]
      by_cases hlast : xs.isEmpty = true ∨ 2 * c < x.f1.length
      · rw [if_pos hlast]
        have e3 : ad3 x = x.f1.length := by unfold ad3; rw [if_neg (by omega)]
        have ht3 := trail_side c x.f1 3 (by omega)
        have hl3 : (side (now ++ hunk_Build.trail c x.f1) 3).length = (side now 3).length + min c x.f1.length := by rw [side_append, List.length_append, ht3]
        rw [e3]
        refine ⟨h1, bld_strict c xs _ _ none x.f1 _ hgs ⟨fun hxs => ?_, by omega⟩⟩
        have : 2 * c < x.f1.length := hlast.resolve_left (by simpa using hxs)
        simp only [mkH]
        omega
      · rw [if_neg hlast]
        exact hgo
    · rw [if_neg e1]
      exact hgo
theorem strict_at : ∀ (l : List S44) (e : Int), strict l e → ∀ i, 0 < i → i < l.length → (l.getD (i - 1) z44).f0 + (l.getD (i - 1) z44).f1 < (l.getD i z44).f0
  | h :: t, e, hs, i, h0, hi => by
    obtain ⟨h1, h2⟩ := hs
    obtain ⟨m, rfl⟩ : ∃ m, i = m + 1 := ⟨i - 1, by omega⟩
    cases m with
    | zero =>
      cases t with
      | nil => simp at hi
      | cons g t => exact h2.1
    | succ m => exact strict_at t _ h2 (m + 1) (by omega) (by simpa using hi)
theorem chkA_all : ∀ (l : List S44) (a b : Int), chkA l a b = 0 → ∀ h ∈ l, ∃ x y, okH x y h
  | g :: t, a, b, hc, h, hh => by
    have hok : okH a b g := by
      rw [← okH_iff]
      refine Classical.byContradiction fun e => ?_
      rw [chkA, if_neg e] at hc
      cases hc
    rcases List.mem_cons.1 hh with rfl | hh
    · exact ⟨a, b, hok⟩
    · rw [← chkA_ok hok] at hc
      exact chkA_all t _ _ hc h hh
/-- HUNKS THAT ARE BUILT have no more lines around than they may, and do not touch. -/
theorem hnk_around (c : Nat) (n : List S47) (hn : Nf n) (hl : nl n ≤ 400) : jalousielaw09_HunkAround.ok c (hnk c n) = true := by
  unfold jalousielaw09_HunkAround.ok
  rw [List.all_eq_true]
  intro i hi
  rw [List.mem_range] at hi
  have hm := getD_mem hi z44
  have hlead : hunk_Build.lead c [] = [] := by
    unfold hunk_Build.lead
    rw [if_neg (by simp)]
  have h1 := bld_lims c n 0 0 none [] hn (fun _ => by rw [hlead]; exact hn) trivial _ hm
  have h2 := strict_at _ _ (bld_strict c n 0 0 none [] (-1) (nf_good n hn) ⟨fun _ => by simp, by simp⟩) i
  obtain ⟨x, y, h3⟩ := chkA_all _ _ _ (bld_chk c n 0 0 none [] 0 0 hn (hnk_ok c n hn) (by omega) (by omega)) _ hm
  obtain ⟨⟨o1, o2, o3, o4, o5, o6, o7⟩, ⟨o8, o9⟩, _⟩ := h3
  have h4 := hnk_nf c n hn (by omega) _ hm
  have h5 := nf_len _ h4.1
  have h6 : 0 < ((hnk c n).getD i z44).f4.length := by
    rw [List.length_pos_iff]
    intro e
    rw [e] at o3
    simp [chg] at o3
  simp only [Bool.and_eq_true, decide_eq_true_eq]
  exact ⟨⟨⟨⟨h6, by omega⟩, h1⟩, o8, by omega, by omega, by omega⟩, fun h0 => h2 h0 hi⟩
end Go.Proofs.Ytfnbodjmmkjlcaa.H
end
section
namespace Go.Proofs.Ytfnbodjmmkjlcaa.Pure
open Go.RowKit Go.Proofs.Ytfnbodjmmkjlcaa Go.Proofs.Ytfnbodjmmkjlcaa.H Go.Proofs.YtfnbodjmmkjlcaaW.PrintWords Go.Proofs.YtfnbodjmmkjlcaaW.PrintLast Go.Proofs.YtfnbodjmmkjlcaaW.PrintMore
theorem u8_rng {x : Int} (h : (Lit.int .u8 x).wf = true) : 0 ≤ x ∧ x ≤ 255 := by
  simpa [Lit.wf, IntKind.min, IntKind.max, IntKind.signed, IntKind.bits] using h
theorem ctx_rng {x : Int} (h : (Lit.int .u8 x).wf = true) : 0 ≤ Int.tmod (wrap64 x) 21 ∧ Int.tmod (wrap64 x) 21 ≤ 20 := by
  have := u8_rng h
  rw [w64i x (by omega) (by omega), Int.tmod_eq_emod_of_nonneg (by omega)]
  omega
theorem HunkAround : jalousielaw09_HunkAround.Pure := by
  intro s a _ ha hs _
  have hf := fit_of s hs
  have hc := ctx_rng ha
  refine Ev.rounds ?_
  unfold jalousielaw09_HunkAround.f
  generalize Int.tmod (wrap64 a) 21 = c at hc
  obtain ⟨r, hr, hr2⟩ := few_ev s hf
  refine Ev.bind hr ?_
  by_cases h : r = true
  · refine ev_pos h (ev_pos hc (Ev.bind (bld_ev s c hf) ?_))
    obtain ⟨hc1, hc2⟩ := hc
    obtain ⟨_, h2⟩ := hr2 h
    unfold hres
    by_cases hk : chk s = 0
    · rw [if_pos hk, if_neg (by omega)]
      obtain ⟨k1, k2, k3⟩ := chk_zero.1 hk
      have hn := p_nf s k3
      have hl : nl (script_normal.p s) ≤ 120 := by rw [p_nl]; exact h2
      have h4 := hnk_len c.toNat (script_normal.p s)
      have h5 := nf_len _ hn
      obtain ⟨j1, j2, j3⟩ := hnk_join_ev c.toNat _ hn (by omega)
      refine ev_pos rfl (ev_pos ⟨by simp only; omega, hnk_around _ _ hn (by omega)⟩ (Ev.bind live_ev (ev_pos rfl ?_)))
      refine Ev.bind j1 (Ev.bind (rchg_ev _ (by omega) (by omega)) (Ev.bind (rchg_ev s (by omega) (by omega)) (ev_some ?_)))
      rw [hnk_chg, p_chg]
      simp
    · rw [if_neg hk]
      refine ev_neg hk (Ev.bind live_ev (ev_pos rfl (Ev.bind (rchk_ev s hf) (ev_some ?_))))
      simp
  · exact ev_neg h (Ev.bind live_ev (ev_some rfl))
end Go.Proofs.Ytfnbodjmmkjlcaa.Pure
end
