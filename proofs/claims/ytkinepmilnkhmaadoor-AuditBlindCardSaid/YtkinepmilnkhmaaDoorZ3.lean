/-
  What the claim needs of the words, of the walks and of the plain proofs, in one row (3).
-/
import Derived.Deep.RegionHeld3
import Derived.WalkLawsBesides
import Derived.WalkSpells
import Derived.RangeFuncNested
import Derived.RangeFuncBound
import Derived.RangeFuncCalls
import Derived.RangeFuncLeaves
import Derived.RangeFuncBox
import Derived.RangeFuncMany
import Derived.Shelf.Abstract
import Derived.OwnWalkIn
import Derived.TacticsInMore
import Derived.LoopNIn
import Derived.LoopIn
import Derived.ArgAppend
import Derived.Laws.StructEq
import Derived.Test.YtkinepmilnkhmaaDoorZ0
import Derived.Test.YtkinepmilnkhmaaDoorZ1
import Derived.Test.YtkinepmilnkhmaaDoorZ2
section
namespace Go.Proofs.YtkinepmilnkhmaaDoor.A
open Go.RowKit Go.Proofs.YtkinepmilnkhmaaDoorW.PrintWords Go.Proofs.YtkinepmilnkhmaaDoorW.PrintLast Go.Proofs.YtkinepmilnkhmaaDoorW.PrintMore
attribute [local go_sem] max2_int min2_int max_two min_two max_three min_three max_four min_four   -- for this text's walks alone
set_option linter.unusedVariables false
set_option linter.unusedSimpArgs false
open Go.Maps Go.WideElems Go.MapKept
theorem kept_cell {base : Nat} {W Y : World} {g : Nat} {cs : Array Value} {t : Nat} {fz : Nat × Nat} (h : W.heap[g]? = some (.cells cs t fz)) (hB : Below W.heap.size W Y) : Y.heap[g]? = some (.cells cs t fz) := (hB.block _ (blk_lt h)).trans h
theorem cvt {w Y : World} {A : Option Addr} {n c : Nat} {L : List UInt8} (r : ReadsInt w .u8 A n (bytesOf ⟨L.toArray⟩)) (h : Below w.heap.size w Y) : (convert 35 9 (.slice A n c)).run Tryd.prog Y = .ok (.string ⟨L.toArray⟩) Y := by
  have := string_of_reads (P := Tryd.prog) (c := c) Tryd.underlying35 Tryd.underlying5 Tryd.underlying9 (r.below h)
  rw [nums_back] at this
  exact this
set_option maxHeartbeats 8000000 in
set_option maxRecDepth 100000 in
theorem blind.calls (k : Nat) (ck : S40 → Int) (A0 : Option Addr) (c0 : Nat) (l : List S40) (o a : S25) (w : World) (hr0 : Kd.C k40 w A0 l.length l) (hc0 : l.length ≤ c0) (hwf : ∀ x ∈ l, lblWf x.f1) (ha : lblWf a) (hka : ∀ x ∈ l, audit_Check.f k x = some (ck x)) (hkr : ∀ x ∈ l, jalousieref20_Check.f k x.f0 x.f1.f0 x.f1.f1 x.f2 x.f3 x.f4 = some (ck x)) (hA : audit_Check.f k eAnn = some 0) (hB : audit_Check.f k eBob = some 0) (hT : TabOk w) (hsz : ∀ x ∈ l, ck x = 0 → szE x)
    (hlow : ∀ x ∈ l, jalousieref02_Below.f k x.f1.f0 x.f1.f1 o.f0 o.f1 = some (lowB x.f1 o)) (hlao : jalousieref02_Below.f k a.f0 a.f1 o.f0 o.f1 = some (lowB a o)) (hcnt : lowB a o = true → logCnt a (playL ck (l.take 60)) = logCnt a (playL ck ((seenL o (l.take 60)).take 60))) (hseen : seenL o (playL ck (l.take 60)) = seenL o (playL ck ((seenL o (l.take 60)).take 60))) :
    Calls Tryd.prog 4 #[.slice A0 l.length c0, .agg #[.int .i64 o.f0, .int .u64 o.f1], .agg #[.int .i64 a.f0, .int .u64 a.f1]] w fun e w' => e = .returned (.bool true) ∧ Below w.heap.size w w' := by
  obtain ⟨W2, hW2, hbo, hba, hBW, hsW⟩ := boxes_label o a (w := w)
  have HC := Aside0.mk hr0
  have HKA := Aside0.mk hka
  have HKR := Aside0.mk hkr
  have HWF := Aside0.mk hwf
  have HA := Aside0.mk (And.intro hA hB)
  have HT := Aside0.mk hT
  have HSZ := Aside0.mk hsz
  have HLW := Aside0.mk hlow
  have HLA := Aside0.mk hlao
  have HCNT := Aside0.mk hcnt
  have HSEEN := Aside0.mk hseen
  have HW2 := Aside0.mk hW2
  have HBO := Aside0.mk hbo
  have HBA := Aside0.mk hba
  have HBW := Aside0.mk hBW
  clear hr0 hka hkr hwf hA hB hT hsz hlow hlao hcnt hseen hW2 hbo hba hBW
  obtain ⟨xs, hxs⟩ : ∃ xs, xs = playL ck (l.take 60) := ⟨_, rfl⟩
  have HXS := Aside0.mk hxs
  clear hxs
  go_enter Tryd.func4, Tryd.ntmps4
  go_wp2_with (go_at_call 11; rw [← HW2.out]; (refine (play.calls k ck A0 c0 l HKA.out HKR.out _ (Kd.C_below HC.out HBW.out) hc0 HWF.out).mono ?_); rintro e_ w3 ⟨p, m, q, rfl, hp, hm, hq, hX, hY, hb⟩; rw [← HXS.out] at hX hY; have HX := Aside0.mk hX; have HB3 := Aside0.mk (HBW.out.trans (hb.mono HBW.out.size)); have HO3 := Aside0.mk (kept_cell (base := 0) HBO.out hb); have HA3 := Aside0.mk (kept_cell (base := 0) HBA.out hb); have hs3 := hb.size; clear hX hY hb)
  go_loopw [11, 10] (fun vi vo wr => ∃ (i : Nat), i ≤ l.length ∧ i ≤ 60 ∧ vi = .int .i64 (i : Int) ∧ Kd.R k40 40 wr w3.heap.size (fun _ => True) vo (seenL o (l.take i)) ∧ Below w3.heap.size w3 wr) (fun vi _ _ => 60 - (intOf vi).toNat)
  case atStart => exact ⟨0, Nat.zero_le _, Nat.zero_le _, rfl, Kd.R_nil _ _ _ _ _, Below.refl _ _⟩
  case round =>
    obtain ⟨i, hi, hi6, rfl, hR, hB⟩ := hrel
    have hsl : (seenL o (l.take i)).length ≤ 60 := Nat.le_trans (List.length_filter_le _ _) (by rw [List.length_take]; omega)
    have HR := Aside0.mk hR
    have HB := Aside0.mk hB
    clear hR hB
    by_cases hlt : i < l.length ∧ i < 60
    · obtain ⟨hlt, h60⟩ := hlt
      have hlt3 : decide ((i : Int) < (l.length : Int)) = true := decide_eq_true (by omega)
      have h603 : decide ((i : Int) < 60) = true := decide_eq_true (by omega)
      have hlt2 : ((i : Int) < (l.length : Int)) = True := eq_true (by omega)
      have hi0 : (0 ≤ (i : Int)) = True := eq_true (by omega)
      have HW : Aside0 (wrap64 ((i : Int) + 1) = ((i + 1 : Nat) : Int)) := ⟨by unfold wrap64; omega⟩
      have HBr := Aside0.mk (HB3.out.trans (HB.out.mono HB3.out.size))
      obtain ⟨ad, hA, hx0, hx1, hx2, hx3, hx4, hx5⟩ := at_T40 (Kd.C_below HC.out HBr.out) (i : Int) (by omega) (by omega)
      subst hA
      have hget : l[i]? = some (rd_T40 l (i : Int)) := by
        unfold rd_T40
        rw [Int.toNat_natCast, List.getD_eq_getElem?_getD, List.getElem?_eq_getElem hlt]
        rfl
      rw [Int.toNat_natCast] at hx0 hx1 hx2 hx3 hx4 hx5
      have HST := Aside0.mk (seen_take o l i hlt _ hget)
      have hlw := HLW.out _ (List.mem_of_getElem? hget)
      clear hget
      generalize rd_T40 l (i : Int) = x at hx0 hx1 hx2 hx3 hx4 hx5 HST hlw
      have HLW2 := Aside0.mk hlw
      have HXS6 := Aside0.mk (And.intro hx0 (And.intro hx1 (And.intro hx2 (And.intro hx3 (And.intro hx4 hx5)))))
      have hor := kept_cell (base := 0) HO3.out HB.out
      have HE : Aside0 (∀ Y : World, Below wr.heap.size wr Y → Y.cell? ⟨(ad.add (i * 6)).block, (ad.add (i * 6)).off + 1, none⟩ = some (.int .i64 x.f1.f0) ∧ Y.cell? ⟨(ad.add (i * 6)).block, (ad.add (i * 6)).off + 2, none⟩ = some (.int .u64 x.f1.f1) ∧ Y.cell? ⟨w.heap.size, 0, none⟩ = some (.int .i64 o.f0) ∧ Y.cell? ⟨w.heap.size, 1, none⟩ = some (.int .u64 o.f1)) := ⟨fun Y hY => ⟨(hY.cell (World.block_lt_of_cell? _ _ hx1)).trans hx1, (hY.cell (World.block_lt_of_cell? _ _ hx2)).trans hx2, (blk_cell (kept_cell (base := 0) hor hY) 0).trans rfl, (blk_cell (kept_cell (base := 0) hor hY) 1).trans rfl⟩⟩
      clear hx0 hx1 hx2 hx3 hx4 hx5 hlw hor
      cases hlo : lowB x.f1 o with
      | false =>
        have HF := Aside0.mk (HLW2.out.trans (congrArg some hlo))
        have HST2 := Aside0.mk (HST.out.trans (by rw [hlo]; simp : _ = seenL o (l.take i)))
        clear hlo
        go_wp2
        refine start_ (n := 7) (S := fun w' => w'.cell? ⟨(ad.add (i * 6)).block, (ad.add (i * 6)).off + 1, none⟩ = some (.int .i64 x.f1.f0) ∧ w'.cell? ⟨(ad.add (i * 6)).block, (ad.add (i * 6)).off + 2, none⟩ = some (.int .u64 x.f1.f1) ∧ w'.cell? ⟨w.heap.size, 0, none⟩ = some (.int .i64 o.f0) ∧ w'.cell? ⟨w.heap.size, 1, none⟩ = some (.int .u64 o.f1)) (ds := []) (Sq.bl 7 0) (by kernel_rfl) rfl (by rfl) (HE.out _ (Below.refl _ _).drew) (fun hS => ?_)
        refine Sq.pu (v := ?_) (a' := ?_) 0 31 (Sq.bl 7 1) (by kernel_rfl) rfl rfl (fun _ _ _ h => h) (by rfl) ?_ ?_ ?_; rotate_left; (· intro w'; go_simp; with_reducible rfl); rotate_left; (· simp only [Act.put, List.setIfInBounds_toArray, List.set_cons_zero, List.set_cons_succ, i64_w, i32_w]; rfl)
        refine Sq.pu (v := ?_) (a' := ?_) 1 32 (Sq.bl 7 3) (by kernel_rfl) rfl rfl (fun _ _ _ h => h) (by rfl) ?_ ?_ ?_; rotate_left; (· intro w'; go_simp; with_reducible rfl); rotate_left; (· simp only [Act.put, List.setIfInBounds_toArray, List.set_cons_zero, List.set_cons_succ, i64_w, i32_w]; rfl)
        refine Sq.pu (v := ?_) (a' := ?_) 2 33 (Sq.bl 7 7) (by kernel_rfl) rfl rfl (fun _ _ _ h => h) (by rfl) ?_ ?_ ?_; rotate_left; (· intro w'; go_simp; with_reducible rfl); rotate_left; (· simp only [Act.put, List.setIfInBounds_toArray, List.set_cons_zero, List.set_cons_succ, i64_w, i32_w]; rfl)
        refine Sq.pu (v := ?_) (a' := ?_) 3 34 (Sq.bl 7 15) (by kernel_rfl) rfl rfl (fun _ _ _ h => h) (by rfl) ?_ ?_ ?_; rotate_left; (· intro w'; go_simp; with_reducible rfl); rotate_left; (· simp only [Act.put, List.setIfInBounds_toArray, List.set_cons_zero, List.set_cons_succ, i64_w, i32_w]; rfl)
        refine take_ (i := 4) (N := some 35) (v := ?_) (a' := ?_) (Sq.bl 7 31) rfl rfl (by kernel_rfl) (fun _ _ _ h => h) (Or.inl ⟨by rfl, ?_⟩) hS ?_ ?_; rotate_left; (· rintro w' ⟨s0, s1, s2, s3⟩; go_simp; with_reducible rfl); rotate_left; (· simp only [Act.put, List.setIfInBounds_toArray, List.set_cons_zero, List.set_cons_succ, i64_w, i32_w]; rfl)
        refine take_ (i := 5) (N := some 36) (v := ?_) (a' := ?_) (Sq.bl 7 63) rfl rfl (by kernel_rfl) (fun _ _ _ h => h) (Or.inl ⟨by rfl, ?_⟩) hS ?_ ?_; rotate_left; (· rintro w' ⟨s0, s1, s2, s3⟩; go_simp; with_reducible rfl); rotate_left; (· simp only [Act.put, List.setIfInBounds_toArray, List.set_cons_zero, List.set_cons_succ, i64_w, i32_w]; rfl)
        refine one_ (i := 6) (N := some 37) (Sq.bl 7 127) rfl rfl (by kernel_rfl) (by decide) (fun K hK => ?_)
        refine goes_ Tryd.func21 (by kernel_rfl) rfl #[.agg #[.int .i64 x.f1.f0, .int .u64 x.f1.f1], .agg #[.int .i64 o.f0, .int .u64 o.f1]] (by rfl) rfl rfl (by (try simp only [List.map_toArray, List.map_cons, List.map_nil]); first | done | rfl | skip) ?_
        refine (jalousieref02_Below.calls k _ _ _ _ false _ HF.out).mono ?_
        rintro e_ w4 ⟨rfl, hb4⟩
        have g4 := below_step (Below.refl _ wr).drew hb4
        refine ⟨_, rfl, hK.out _ _ (HE.out _ g4) (fun hS => ?_)⟩
        clear hK K
        refine norm_ (a' := ?_) ?_ ?_
        rotate_left
        · show Act.put _ (some 37) _ = _
          simp only [Act.put, List.setIfInBounds_toArray, List.set_cons_zero, List.set_cons_succ, i64_w, i32_w]
          rfl
        refine done_ (by kernel_rfl) ?_
        have HR4 := Aside0.mk (Kd.R_below HR.out g4)
        have HB4 := Aside0.mk (HB.out.trans (g4.mono HB.out.size))
        clear hb4 g4 hS
        go_wp2
        go_roundw
        case rel => exact ⟨i + 1, by omega, by omega, by first | rfl | exact congrArg _ HW.out, by rw [HST2.out]; exact HR4.out, HB4.out⟩
        case measure => first | (rw [HW.out]; simp only [intOf, Int.toNat_natCast]; omega) | (simp only [intOf, Int.toNat_natCast]; omega)
      | true =>
        have HF := Aside0.mk (HLW2.out.trans (congrArg some hlo))
        have HST2 := Aside0.mk (HST.out.trans (by rw [hlo]; simp : _ = seenL o (l.take i) ++ [x]))
        clear hlo
        go_wp2
        refine start_ (n := 7) (S := fun w' => w'.cell? ⟨(ad.add (i * 6)).block, (ad.add (i * 6)).off + 1, none⟩ = some (.int .i64 x.f1.f0) ∧ w'.cell? ⟨(ad.add (i * 6)).block, (ad.add (i * 6)).off + 2, none⟩ = some (.int .u64 x.f1.f1) ∧ w'.cell? ⟨w.heap.size, 0, none⟩ = some (.int .i64 o.f0) ∧ w'.cell? ⟨w.heap.size, 1, none⟩ = some (.int .u64 o.f1)) (ds := []) (Sq.bl 7 0) (by kernel_rfl) rfl (by rfl) (HE.out _ (Below.refl _ _).drew) (fun hS => ?_)
        refine Sq.pu (v := ?_) (a' := ?_) 0 31 (Sq.bl 7 1) (by kernel_rfl) rfl rfl (fun _ _ _ h => h) (by rfl) ?_ ?_ ?_; rotate_left; (· intro w'; go_simp; with_reducible rfl); rotate_left; (· simp only [Act.put, List.setIfInBounds_toArray, List.set_cons_zero, List.set_cons_succ, i64_w, i32_w]; rfl)
        refine Sq.pu (v := ?_) (a' := ?_) 1 32 (Sq.bl 7 3) (by kernel_rfl) rfl rfl (fun _ _ _ h => h) (by rfl) ?_ ?_ ?_; rotate_left; (· intro w'; go_simp; with_reducible rfl); rotate_left; (· simp only [Act.put, List.setIfInBounds_toArray, List.set_cons_zero, List.set_cons_succ, i64_w, i32_w]; rfl)
        refine Sq.pu (v := ?_) (a' := ?_) 2 33 (Sq.bl 7 7) (by kernel_rfl) rfl rfl (fun _ _ _ h => h) (by rfl) ?_ ?_ ?_; rotate_left; (· intro w'; go_simp; with_reducible rfl); rotate_left; (· simp only [Act.put, List.setIfInBounds_toArray, List.set_cons_zero, List.set_cons_succ, i64_w, i32_w]; rfl)
        refine Sq.pu (v := ?_) (a' := ?_) 3 34 (Sq.bl 7 15) (by kernel_rfl) rfl rfl (fun _ _ _ h => h) (by rfl) ?_ ?_ ?_; rotate_left; (· intro w'; go_simp; with_reducible rfl); rotate_left; (· simp only [Act.put, List.setIfInBounds_toArray, List.set_cons_zero, List.set_cons_succ, i64_w, i32_w]; rfl)
        refine take_ (i := 4) (N := some 35) (v := ?_) (a' := ?_) (Sq.bl 7 31) rfl rfl (by kernel_rfl) (fun _ _ _ h => h) (Or.inl ⟨by rfl, ?_⟩) hS ?_ ?_; rotate_left; (· rintro w' ⟨s0, s1, s2, s3⟩; go_simp; with_reducible rfl); rotate_left; (· simp only [Act.put, List.setIfInBounds_toArray, List.set_cons_zero, List.set_cons_succ, i64_w, i32_w]; rfl)
        refine take_ (i := 5) (N := some 36) (v := ?_) (a' := ?_) (Sq.bl 7 63) rfl rfl (by kernel_rfl) (fun _ _ _ h => h) (Or.inl ⟨by rfl, ?_⟩) hS ?_ ?_; rotate_left; (· rintro w' ⟨s0, s1, s2, s3⟩; go_simp; with_reducible rfl); rotate_left; (· simp only [Act.put, List.setIfInBounds_toArray, List.set_cons_zero, List.set_cons_succ, i64_w, i32_w]; rfl)
        refine one_ (i := 6) (N := some 37) (Sq.bl 7 127) rfl rfl (by kernel_rfl) (by decide) (fun K hK => ?_)
        refine goes_ Tryd.func21 (by kernel_rfl) rfl #[.agg #[.int .i64 x.f1.f0, .int .u64 x.f1.f1], .agg #[.int .i64 o.f0, .int .u64 o.f1]] (by rfl) rfl rfl (by (try simp only [List.map_toArray, List.map_cons, List.map_nil]); first | done | rfl | skip) ?_
        refine (jalousieref02_Below.calls k _ _ _ _ true _ HF.out).mono ?_
        rintro e_ w4 ⟨rfl, hb4⟩
        have g4 := below_step (Below.refl _ wr).drew hb4
        refine ⟨_, rfl, hK.out _ _ (HE.out _ g4) (fun hS => ?_)⟩
        clear hK K
        refine norm_ (a' := ?_) ?_ ?_
        rotate_left
        · show Act.put _ (some 37) _ = _
          simp only [Act.put, List.setIfInBounds_toArray, List.set_cons_zero, List.set_cons_succ, i64_w, i32_w]
          rfl
        refine done_ (by kernel_rfl) ?_
        obtain ⟨hx0, hx1, hx2, hx3, hx4, hx5⟩ := HXS6.out
        have hk0 := (g4.cell (World.block_lt_of_cell? _ _ hx0)).trans hx0
        have hk1 := (g4.cell (World.block_lt_of_cell? _ _ hx1)).trans hx1
        have hk2 := (g4.cell (World.block_lt_of_cell? _ _ hx2)).trans hx2
        have hk3 := (g4.cell (World.block_lt_of_cell? _ _ hx3)).trans hx3
        have hk4 := (g4.cell (World.block_lt_of_cell? _ _ hx4)).trans hx4
        have hk5 := (g4.cell (World.block_lt_of_cell? _ _ hx5)).trans hx5
        have HR4 := Aside0.mk (Kd.R_below HR.out g4)
        have HB4 := Aside0.mk (HB.out.trans (g4.mono HB.out.size))
        clear hb4 g4 hS hx0 hx1 hx2 hx3 hx4 hx5
        go_wp2_with ((with_reducible refine gate_builtin (b := .append) (xs := #[.tmp 38, .tmp 43]) rfl ?_); at_builtin; refine Kd.R_append k40 (w0 := w3) w3.heap.size rfl (.tmp 38) (.tmp 43) 22 40 (.agg #[(.string ⟨#[]⟩), (.int .i64 0), (.int .u64 0), (.string ⟨#[]⟩), (.string ⟨#[]⟩), (.string ⟨#[]⟩)]) 80 rfl Tryd.underlying22 info40 rfl (by decide) (by omega) _ (seenL o (l.take i)) x [.string x.f0, .int .i64 x.f1.f0, .int .u64 x.f1.f1, .string x.f2, .string x.f3, .string x.f4] (fun _ => True) (fun _ => False) rfl rfl ?aP (fun _ hk => hk.elim) ?aF ?aO ?aB ?aS ?aL ?_; (case aP => exact k40_mkM _ _ _ x); (case aB => exact HB4.out); (case aF => exact (fun _ _ => trivial)); (case aO => exact HR4.out); (case aS => exact HB4.out.size); (case aL => omega); intro v1 w1 ho hbl hgr hat; have HO1 := Aside0.mk ho; have HBB1 := Aside0.mk hbl; clear ho hbl hgr hat)
        go_roundw
        case rel => exact ⟨i + 1, by omega, by omega, by first | rfl | exact congrArg _ HW.out, by rw [HST2.out]; exact HO1.out, HBB1.out⟩
        case measure => first | (rw [HW.out]; simp only [intOf, Int.toNat_natCast]; omega) | (simp only [intOf, Int.toNat_natCast]; omega)
    · have hdone : seenL o (l.take i) = seenL o (l.take 60) := by
        by_cases h6 : i = 60
        · rw [h6]
        · rw [List.take_of_length_le (by omega), List.take_of_length_le (by omega)]
      rw [hdone] at HR hsl
      obtain ⟨few, hfew⟩ : ∃ few, few = seenL o (l.take 60) := ⟨_, rfl⟩
      have hin : ∀ x ∈ few, x ∈ l := fun x hx => by
        rw [hfew] at hx
        exact List.mem_of_mem_take (List.mem_filter.1 hx).1
      rw [← hfew] at HR hsl HCNT HSEEN
      obtain ⟨Af, cf, ef⟩ := Kd.R_slice HR.out
      subst ef
      have hrd := Kd.R_reads' HR.out
      obtain ⟨zs, hzs⟩ : ∃ zs, zs = playL ck (few.take 60) := ⟨_, rfl⟩
      rw [← hzs, ← HXS.out] at HCNT HSEEN
      have HZS := Aside0.mk hzs
      have HCF := Aside0.mk hrd.2.2
      have hcf := hrd.2.1
      have HIN := Aside0.mk hin
      have hzl : zs.length ≤ 60 := by
        have := playL_len ck (few.take 60)
        rw [List.length_take] at this
        rw [hzs]
        omega
      have hxl : xs.length ≤ 60 := by
        have := playL_len ck (l.take 60)
        rw [List.length_take] at this
        rw [HXS.out]
        omega
      clear hdone hfew hin hrd hzs
      have HPLAY := Aside0.mk (play.calls k ck Af cf few (fun x hx => HKA.out x (HIN.out x hx)) (fun x hx => HKR.out x (HIN.out x hx)) wr HCF.out hcf (fun x hx => HWF.out x (HIN.out x hx)))
      rw [← HZS.out] at HPLAY
      have hcase : (¬ i < l.length ∧ decide ((i : Int) < (l.length : Int)) = false) ∨ (i < l.length ∧ ((i : Int) < (l.length : Int)) = True ∧ decide ((i : Int) < (l.length : Int)) = true ∧ decide ((i : Int) < 60) = false) := by
        by_cases h : i < l.length
        · exact .inr ⟨h, eq_true (by omega), decide_eq_true (by omega), decide_eq_false (by omega)⟩
        · exact .inl ⟨h, decide_eq_false (by omega)⟩
      clear hlt
      rcases hcase with ⟨hlt, hd1⟩ | ⟨hlt, hlt2, hd1, hd2⟩
      · go_wp2_with (go_at_call 11; (refine HPLAY.out.mono ?_); rintro e_ w5 ⟨p2, m2, q2, rfl, hp2, hm2, hq2, hX5, hY5, hb5⟩; have HZ := Aside0.mk hX5; have HB5 := Aside0.mk (HB.out.trans (hb5.mono HB.out.size)); clear hX5 hY5 hb5)
        obtain ⟨W4, hW4⟩ : ∃ W4 : World, W4 = w5.drew := ⟨_, rfl⟩
        have HW4 := Aside0.mk hW4
        have HB34 : Aside0 (Below w3.heap.size w3 W4) := ⟨by rw [hW4]; exact HB5.out.drew⟩
        have HXd : Aside0 (LogX W4 _ p m xs) := ⟨LogX.below HX.out HB34.out⟩
        have HZd : Aside0 (LogX W4 _ p2 m2 zs) := ⟨by rw [hW4]; exact LogX.below HZ.out (Below.refl _ _).drew⟩
        have HB4 := Aside0.mk (HB3.out.trans (HB34.out.mono HB3.out.size))
        have hO4 := kept_cell (base := 0) HO3.out HB34.out
        have hA4 := kept_cell (base := 0) HA3.out HB34.out
        have HS : Aside0 (∀ Y : World, Below W4.heap.size W4 Y → Y.cell? ⟨w.heap.size, 0, none⟩ = some (.int .i64 o.f0) ∧ Y.cell? ⟨w.heap.size, 1, none⟩ = some (.int .u64 o.f1) ∧ Y.cell? ⟨w.heap.size + 1, 0, none⟩ = some (.int .i64 a.f0) ∧ Y.cell? ⟨w.heap.size + 1, 1, none⟩ = some (.int .u64 a.f1)) := ⟨fun Y hY => ⟨(blk_cell (kept_cell (base := 0) hO4 hY) 0).trans rfl, (blk_cell (kept_cell (base := 0) hO4 hY) 1).trans rfl, (blk_cell (kept_cell (base := 0) hA4 hY) 0).trans rfl, (blk_cell (kept_cell (base := 0) hA4 hY) 1).trans rfl⟩⟩
        have hxsz : ∀ x ∈ xs, szE x ∧ lblWf x.f1 := fun x hx => by
          rw [HXS.out] at hx
          have h1 := List.mem_filter.1 hx
          exact ⟨HSZ.out x (List.mem_of_mem_take h1.1) (by simpa using h1.2), HWF.out x (List.mem_of_mem_take h1.1)⟩
        have hzsz : ∀ x ∈ zs, szE x ∧ lblWf x.f1 := fun x hx => by
          rw [HZS.out] at hx
          have h1 := List.mem_filter.1 hx
          have h2 := HIN.out x (List.mem_of_mem_take h1.1)
          exact ⟨HSZ.out x h2 (by simpa using h1.2), HWF.out x h2⟩
        obtain ⟨sx, hsx⟩ : ∃ sx, sx = printB (seenL o xs) 0 := ⟨_, rfl⟩
        have HPX := Aside0.mk (fun (Y : World) (hY : Below W4.heap.size W4 Y) => audit_Print.calls _ p m xs o Y (LogX.below HXd.out hY) (by omega) hxsz (TabOk.below HT.out (HB4.out.trans (hY.mono HB4.out.size))))
        have HPZ := Aside0.mk (fun (Y : World) (hY : Below W4.heap.size W4 Y) => audit_Print.calls _ p2 m2 zs o Y (LogX.below HZd.out hY) (by omega) hzsz (TabOk.below HT.out (HB4.out.trans (hY.mono HB4.out.size))))
        simp only [← HSEEN.out, ← hsx] at HPX HPZ
        clear hW4 hO4 hA4 hxsz hzsz hsx
        cases hlo : lowB a o with
        | false =>
          have HLA2 := Aside0.mk (HLA.out.trans (congrArg some hlo))
          clear hlo
          go_wp2
          refine start_ (n := 28) (S := fun w' => w'.cell? ⟨w.heap.size, 0, none⟩ = some (.int .i64 o.f0) ∧ w'.cell? ⟨w.heap.size, 1, none⟩ = some (.int .u64 o.f1) ∧ w'.cell? ⟨w.heap.size + 1, 0, none⟩ = some (.int .i64 a.f0) ∧ w'.cell? ⟨w.heap.size + 1, 1, none⟩ = some (.int .u64 a.f1)) (ds := []) (Sq.bl 28 0) (by kernel_rfl) rfl (by rfl) (by rw [← HW4.out]; exact HS.out _ (Below.refl _ _)) (fun hS => ?_)
          rw [← HW4.out] at hS ⊢
          refine one_ (i := 0) (N := some 57) (Sq.bl 28 1) rfl rfl (by kernel_rfl) (by decide) (fun K hK => ?_)
          refine goes_ Tryd.func12 (by kernel_rfl) rfl #[] (by rfl) rfl rfl (by simp) ?_
          refine (live.calls k HA.out.1 HA.out.2 _ (TabOk.below HT.out HB4.out)).mono ?_
          rintro e_ v0 ⟨rfl, g0⟩
          refine ⟨_, rfl, hK.out _ _ (HS.out _ g0) (fun hS => ?_)⟩
          clear hK K
          refine norm_ (a' := ?_) ?_ ?_
          rotate_left
          · show Act.put _ (some 57) _ = _
            simp only [Act.put, List.setIfInBounds_toArray, List.set_cons_zero, List.set_cons_succ, i64_w, i32_w]
            rfl
          refine Sq.pu (v := ?_) (a' := ?_) 1 58 (Sq.bl 28 3) (by kernel_rfl) rfl rfl (fun _ _ _ h => h) (by rfl) ?_ ?_ ?_; rotate_left; (· intro w'; go_simp; with_reducible rfl); rotate_left; (· simp only [Act.put, List.setIfInBounds_toArray, List.set_cons_zero, List.set_cons_succ, i64_w, i32_w]; rfl)
          refine Sq.pu (v := ?_) (a' := ?_) 2 59 (Sq.bl 28 7) (by kernel_rfl) rfl rfl (fun _ _ _ h => h) (by rfl) ?_ ?_ ?_; rotate_left; (· intro w'; go_simp; with_reducible rfl); rotate_left; (· simp only [Act.put, List.setIfInBounds_toArray, List.set_cons_zero, List.set_cons_succ, i64_w, i32_w]; rfl)
          refine Sq.pu (v := ?_) (a' := ?_) 6 63 (Sq.bl 28 71) (by kernel_rfl) rfl rfl (fun _ _ _ h => h) (by rfl) ?_ ?_ ?_; rotate_left; (· intro w'; go_simp; with_reducible rfl); rotate_left; (· simp only [Act.put, List.setIfInBounds_toArray, List.set_cons_zero, List.set_cons_succ, i64_w, i32_w]; rfl)
          refine take_ (i := 3) (N := some 60) (v := ?_) (a' := ?_) (Sq.bl 28 79) rfl rfl (by kernel_rfl) (fun _ _ _ h => h) (Or.inl ⟨by rfl, ?_⟩) hS ?_ ?_; rotate_left; (· rintro w' ⟨s0, s1, s2, s3⟩; go_simp; with_reducible rfl); rotate_left; (· simp only [Act.put, List.setIfInBounds_toArray, List.set_cons_zero, List.set_cons_succ, i64_w, i32_w]; rfl)
          refine take_ (i := 7) (N := some 64) (v := ?_) (a' := ?_) (Sq.bl 28 207) rfl rfl (by kernel_rfl) (fun _ _ _ h => h) (Or.inl ⟨by rfl, ?_⟩) hS ?_ ?_; rotate_left; (· rintro w' ⟨s0, s1, s2, s3⟩; go_simp; with_reducible rfl); rotate_left; (· simp only [Act.put, List.setIfInBounds_toArray, List.set_cons_zero, List.set_cons_succ, i64_w, i32_w]; rfl)
          refine one_ (i := 4) (N := some 61) (Sq.bl 28 223) rfl rfl (by kernel_rfl) (by decide) (fun K hK => ?_)
          refine goes_ Tryd.func19 (by kernel_rfl) rfl #[.pointer (some ⟨p, 0, none⟩), .agg #[.int .i64 o.f0, .int .u64 o.f1]] (by rfl) rfl rfl (by (try simp only [List.map_toArray, List.map_cons, List.map_nil]); first | done | rfl | skip) ?_
          refine (HPX.out _ g0).mono ?_
          rintro e_ v4 ⟨A4, c4, rfl, r4, g4⟩
          have g04 := below_step g0 g4
          refine ⟨_, rfl, hK.out _ _ (HS.out _ g04) (fun hS => ?_)⟩
          clear hK K
          refine norm_ (a' := ?_) ?_ ?_
          rotate_left
          · show Act.put _ (some 61) _ = _
            simp only [Act.put, List.setIfInBounds_toArray, List.set_cons_zero, List.set_cons_succ, i64_w, i32_w]
            rfl
          refine more_ (S' := fun w' => (convert 35 9 (.slice A4 sx.length c4)).run Tryd.prog w' = .ok (.string ⟨sx.toArray⟩) w' ∧ w'.cell? ⟨w.heap.size, 0, none⟩ = some (.int .i64 o.f0) ∧ w'.cell? ⟨w.heap.size, 1, none⟩ = some (.int .u64 o.f1) ∧ w'.cell? ⟨w.heap.size + 1, 0, none⟩ = some (.int .i64 a.f0) ∧ w'.cell? ⟨w.heap.size + 1, 1, none⟩ = some (.int .u64 a.f1)) (fun _ h => h.2) _ ⟨cvt r4 (Below.refl _ _), hS⟩ (fun hS => ?_)
          refine take_ (i := 5) (N := some 62) (v := ?_) (a' := ?_) (Sq.bl 28 255) rfl rfl (by kernel_rfl) (fun _ _ _ h => h) (Or.inl ⟨by rfl, ?_⟩) hS ?_ ?_; rotate_left; (· rintro w' ⟨t4, s0, s1, s2, s3⟩; go_simp; with_reducible rfl); rotate_left; (· simp only [Act.put, List.setIfInBounds_toArray, List.set_cons_zero, List.set_cons_succ, i64_w, i32_w]; rfl)
          refine one_ (i := 8) (N := some 65) (Sq.bl 28 511) rfl rfl (by kernel_rfl) (by decide) (fun K hK => ?_)
          refine goes_ Tryd.func19 (by kernel_rfl) rfl #[.pointer (some ⟨p2, 0, none⟩), .agg #[.int .i64 o.f0, .int .u64 o.f1]] (by rfl) rfl rfl (by (try simp only [List.map_toArray, List.map_cons, List.map_nil]); first | done | rfl | skip) ?_
          refine (HPZ.out _ g04).mono ?_
          rintro e_ v8 ⟨A8, c8, rfl, r8, g8⟩
          have g08 := below_step g04 g8
          refine ⟨_, rfl, hK.out _ _ ⟨cvt r4 g8, HS.out _ g08⟩ (fun hS => ?_)⟩
          clear hK K
          refine norm_ (a' := ?_) ?_ ?_
          rotate_left
          · show Act.put _ (some 65) _ = _
            simp only [Act.put, List.setIfInBounds_toArray, List.set_cons_zero, List.set_cons_succ, i64_w, i32_w]
            rfl
          refine more_ (S' := fun w' => (convert 35 9 (.slice A8 sx.length c8)).run Tryd.prog w' = .ok (.string ⟨sx.toArray⟩) w' ∧ (convert 35 9 (.slice A4 sx.length c4)).run Tryd.prog w' = .ok (.string ⟨sx.toArray⟩) w' ∧ w'.cell? ⟨w.heap.size, 0, none⟩ = some (.int .i64 o.f0) ∧ w'.cell? ⟨w.heap.size, 1, none⟩ = some (.int .u64 o.f1) ∧ w'.cell? ⟨w.heap.size + 1, 0, none⟩ = some (.int .i64 a.f0) ∧ w'.cell? ⟨w.heap.size + 1, 1, none⟩ = some (.int .u64 a.f1)) (fun _ h => h.2) _ ⟨cvt r8 (Below.refl _ _), hS⟩ (fun hS => ?_)
          refine take_ (i := 9) (N := some 66) (v := ?_) (a' := ?_) (Sq.bl 28 1023) rfl rfl (by kernel_rfl) (fun _ _ _ h => h) (Or.inl ⟨by rfl, ?_⟩) hS ?_ ?_; rotate_left; (· rintro w' ⟨t8, t4, s0, s1, s2, s3⟩; go_simp; with_reducible rfl); rotate_left; (· simp only [Act.put, List.setIfInBounds_toArray, List.set_cons_zero, List.set_cons_succ, i64_w, i32_w]; rfl)
          refine Sq.pu (v := ?_) (a' := ?_) 10 67 (Sq.bl 28 2047) (by kernel_rfl) rfl rfl (fun _ _ _ h => h) (by rfl) ?_ ?_ ?_; rotate_left; (· intro w'; go_simp; with_reducible rfl); rotate_left; (· simp only [Act.put, List.setIfInBounds_toArray, List.set_cons_zero, List.set_cons_succ, i64_w, i32_w]; rfl)
          refine Sq.pu (v := ?_) (a' := ?_) 11 68 (Sq.bl 28 4095) (by kernel_rfl) rfl rfl (fun _ _ _ h => h) (by rfl) ?_ ?_ ?_; rotate_left; (· intro w'; go_simp; with_reducible rfl); rotate_left; (· simp only [Act.put, List.setIfInBounds_toArray, List.set_cons_zero, List.set_cons_succ, i64_w, i32_w]; rfl)
          refine Sq.pu (v := ?_) (a' := ?_) 12 69 (Sq.bl 28 8191) (by kernel_rfl) rfl rfl (fun _ _ _ h => h) (by rfl) ?_ ?_ ?_; rotate_left; (· intro w'; go_simp; with_reducible rfl); rotate_left; (· simp only [Act.put, List.setIfInBounds_toArray, List.set_cons_zero, List.set_cons_succ, i64_w, i32_w]; rfl)
          refine take_ (i := 13) (N := some 70) (v := ?_) (a' := ?_) (Sq.bl 28 16383) rfl rfl (by kernel_rfl) (fun _ _ _ h => h) (Or.inl ⟨by rfl, ?_⟩) hS ?_ ?_; rotate_left; (· rintro w' ⟨t8, t4, s0, s1, s2, s3⟩; go_simp; with_reducible rfl); rotate_left; (· simp only [Act.put, List.setIfInBounds_toArray, List.set_cons_zero, List.set_cons_succ, i64_w, i32_w]; rfl)
          refine take_ (i := 14) (N := some 71) (v := ?_) (a' := ?_) (Sq.bl 28 32767) rfl rfl (by kernel_rfl) (fun _ _ _ h => h) (Or.inl ⟨by rfl, ?_⟩) hS ?_ ?_; rotate_left; (· rintro w' ⟨t8, t4, s0, s1, s2, s3⟩; go_simp; with_reducible rfl); rotate_left; (· simp only [Act.put, List.setIfInBounds_toArray, List.set_cons_zero, List.set_cons_succ, i64_w, i32_w]; rfl)
          refine one_ (i := 15) (N := some 72) (Sq.bl 28 65535) rfl rfl (by kernel_rfl) (by decide) (fun K hK => ?_)
          refine goes_ Tryd.func21 (by kernel_rfl) rfl #[.agg #[.int .i64 a.f0, .int .u64 a.f1], .agg #[.int .i64 o.f0, .int .u64 o.f1]] (by rfl) rfl rfl (by (try simp only [List.map_toArray, List.map_cons, List.map_nil]); first | done | rfl | skip) ?_
          refine (jalousieref02_Below.calls k _ _ _ _ false _ HLA2.out).mono ?_
          rintro e_ v15 ⟨rfl, g15⟩
          have g015 := below_step g08 g15
          refine ⟨_, rfl, hK.out _ _ ⟨cvt r8 g15, cvt r4 (below_step g8 g15), HS.out _ g015⟩ (fun hS => ?_)⟩
          clear hK K
          refine norm_ (a' := ?_) ?_ ?_
          rotate_left
          · show Act.put _ (some 72) _ = _
            simp only [Act.put, List.setIfInBounds_toArray, List.set_cons_zero, List.set_cons_succ, i64_w, i32_w]
            rfl
          refine Sq.pu (v := ?_) (a' := ?_) 16 73 (Sq.bl 28 131071) (by kernel_rfl) rfl rfl (fun _ _ _ h => h) (by rfl) ?_ ?_ ?_; rotate_left; (· intro w'; go_simp; with_reducible rfl); rotate_left; (· simp only [Act.put, List.setIfInBounds_toArray, List.set_cons_zero, List.set_cons_succ, i64_w, i32_w]; rfl)
          refine Sq.pu (v := ?_) (a' := ?_) 17 74 (Sq.bl 28 262143) (by kernel_rfl) rfl rfl (fun _ _ _ h => h) (by rfl) ?_ ?_ ?_; rotate_left; (· intro w'; go_simp; with_reducible rfl); rotate_left; (· simp only [Act.put, List.setIfInBounds_toArray, List.set_cons_zero, List.set_cons_succ, i64_w, i32_w]; rfl)
          refine pure_ (i := 18) (N := some 75) (v := undef) (a' := ?_) (Sq.bl 28 524287) rfl rfl (by kernel_rfl) (fun _ _ _ h => h) (Or.inr ⟨by rfl, rfl⟩) ?_ ?_
          rotate_left
          · simp only [Act.put, List.setIfInBounds_toArray, List.set_cons_zero, List.set_cons_succ, i64_w, i32_w]
            rfl
          refine pure_ (i := 19) (N := some 76) (v := undef) (a' := ?_) (Sq.bl 28 1048575) rfl rfl (by kernel_rfl) (fun _ _ _ h => h) (Or.inr ⟨by rfl, rfl⟩) ?_ ?_
          rotate_left
          · simp only [Act.put, List.setIfInBounds_toArray, List.set_cons_zero, List.set_cons_succ, i64_w, i32_w]
            rfl
          refine pure_ (i := 20) (N := some 77) (v := undef) (a' := ?_) (Sq.bl 28 2097151) rfl rfl (by kernel_rfl) (fun _ _ _ h => h) (Or.inr ⟨by rfl, rfl⟩) ?_ ?_
          rotate_left
          · simp only [Act.put, List.setIfInBounds_toArray, List.set_cons_zero, List.set_cons_succ, i64_w, i32_w]
            rfl
          refine pure_ (i := 21) (N := some 78) (v := undef) (a' := ?_) (Sq.bl 28 4194303) rfl rfl (by kernel_rfl) (fun _ _ _ h => h) (Or.inr ⟨by rfl, rfl⟩) ?_ ?_
          rotate_left
          · simp only [Act.put, List.setIfInBounds_toArray, List.set_cons_zero, List.set_cons_succ, i64_w, i32_w]
            rfl
          refine pure_ (i := 22) (N := some 79) (v := undef) (a' := ?_) (Sq.bl 28 8388607) rfl rfl (by kernel_rfl) (fun _ _ _ h => h) (Or.inr ⟨by rfl, rfl⟩) ?_ ?_
          rotate_left
          · simp only [Act.put, List.setIfInBounds_toArray, List.set_cons_zero, List.set_cons_succ, i64_w, i32_w]
            rfl
          refine pure_ (i := 23) (N := some 80) (v := undef) (a' := ?_) (Sq.bl 28 16777215) rfl rfl (by kernel_rfl) (fun _ _ _ h => h) (Or.inr ⟨by rfl, rfl⟩) ?_ ?_
          rotate_left
          · simp only [Act.put, List.setIfInBounds_toArray, List.set_cons_zero, List.set_cons_succ, i64_w, i32_w]
            rfl
          refine pure_ (i := 24) (N := some 81) (v := undef) (a' := ?_) (Sq.bl 28 33554431) rfl rfl (by kernel_rfl) (fun _ _ _ h => h) (Or.inr ⟨by rfl, rfl⟩) ?_ ?_
          rotate_left
          · simp only [Act.put, List.setIfInBounds_toArray, List.set_cons_zero, List.set_cons_succ, i64_w, i32_w]
            rfl
          refine Sq.pu (v := ?_) (a' := ?_) 25 82 (Sq.bl 28 67108863) (by kernel_rfl) rfl rfl (fun _ _ _ h => h) (by rfl) ?_ ?_ ?_; rotate_left; (· intro w'; go_simp; with_reducible rfl); rotate_left; (· simp only [Act.put, List.setIfInBounds_toArray, List.set_cons_zero, List.set_cons_succ, i64_w, i32_w]; rfl)
          refine Sq.pu (v := ?_) (a' := ?_) 26 83 (Sq.bl 28 134217727) (by kernel_rfl) rfl rfl (fun _ _ _ h => h) (by rfl) ?_ ?_ ?_; rotate_left; (· intro w'; go_simp; with_reducible rfl); rotate_left; (· simp only [Act.put, List.setIfInBounds_toArray, List.set_cons_zero, List.set_cons_succ, i64_w, i32_w]; rfl)
          refine Sq.pu (v := ?_) (a' := ?_) 27 6 (Sq.bl 28 268435455) (by kernel_rfl) rfl rfl (fun _ _ _ h => h) (by rfl) ?_ ?_ ?_; rotate_left; (· intro w'; go_simp; with_reducible rfl); rotate_left; (· simp only [Act.put, List.setIfInBounds_toArray, List.set_cons_zero, List.set_cons_succ, i64_w, i32_w]; rfl)
          refine done_ (by kernel_rfl) ?_
          have HE := Aside0.mk (HB4.out.trans (g015.mono HB4.out.size))
          clear hS r4 r8
          go_wp2
          go_ret
          exact ⟨rfl, HE.out⟩
        | true =>
          have HLA2 := Aside0.mk (HLA.out.trans (congrArg some hlo))
          have HCN2 := Aside0.mk (HCNT.out hlo)
          clear hlo
          go_wp2
          refine start_ (n := 28) (S := fun w' => w'.cell? ⟨w.heap.size, 0, none⟩ = some (.int .i64 o.f0) ∧ w'.cell? ⟨w.heap.size, 1, none⟩ = some (.int .u64 o.f1) ∧ w'.cell? ⟨w.heap.size + 1, 0, none⟩ = some (.int .i64 a.f0) ∧ w'.cell? ⟨w.heap.size + 1, 1, none⟩ = some (.int .u64 a.f1)) (ds := []) (Sq.bl 28 0) (by kernel_rfl) rfl (by rfl) (by rw [← HW4.out]; exact HS.out _ (Below.refl _ _)) (fun hS => ?_)
          rw [← HW4.out] at hS ⊢
          refine one_ (i := 0) (N := some 57) (Sq.bl 28 1) rfl rfl (by kernel_rfl) (by decide) (fun K hK => ?_)
          refine goes_ Tryd.func12 (by kernel_rfl) rfl #[] (by rfl) rfl rfl (by simp) ?_
          refine (live.calls k HA.out.1 HA.out.2 _ (TabOk.below HT.out HB4.out)).mono ?_
          rintro e_ v0 ⟨rfl, g0⟩
          refine ⟨_, rfl, hK.out _ _ (HS.out _ g0) (fun hS => ?_)⟩
          clear hK K
          refine norm_ (a' := ?_) ?_ ?_
          rotate_left
          · show Act.put _ (some 57) _ = _
            simp only [Act.put, List.setIfInBounds_toArray, List.set_cons_zero, List.set_cons_succ, i64_w, i32_w]
            rfl
          refine Sq.pu (v := ?_) (a' := ?_) 1 58 (Sq.bl 28 3) (by kernel_rfl) rfl rfl (fun _ _ _ h => h) (by rfl) ?_ ?_ ?_; rotate_left; (· intro w'; go_simp; with_reducible rfl); rotate_left; (· simp only [Act.put, List.setIfInBounds_toArray, List.set_cons_zero, List.set_cons_succ, i64_w, i32_w]; rfl)
          refine Sq.pu (v := ?_) (a' := ?_) 2 59 (Sq.bl 28 7) (by kernel_rfl) rfl rfl (fun _ _ _ h => h) (by rfl) ?_ ?_ ?_; rotate_left; (· intro w'; go_simp; with_reducible rfl); rotate_left; (· simp only [Act.put, List.setIfInBounds_toArray, List.set_cons_zero, List.set_cons_succ, i64_w, i32_w]; rfl)
          refine Sq.pu (v := ?_) (a' := ?_) 6 63 (Sq.bl 28 71) (by kernel_rfl) rfl rfl (fun _ _ _ h => h) (by rfl) ?_ ?_ ?_; rotate_left; (· intro w'; go_simp; with_reducible rfl); rotate_left; (· simp only [Act.put, List.setIfInBounds_toArray, List.set_cons_zero, List.set_cons_succ, i64_w, i32_w]; rfl)
          refine take_ (i := 3) (N := some 60) (v := ?_) (a' := ?_) (Sq.bl 28 79) rfl rfl (by kernel_rfl) (fun _ _ _ h => h) (Or.inl ⟨by rfl, ?_⟩) hS ?_ ?_; rotate_left; (· rintro w' ⟨s0, s1, s2, s3⟩; go_simp; with_reducible rfl); rotate_left; (· simp only [Act.put, List.setIfInBounds_toArray, List.set_cons_zero, List.set_cons_succ, i64_w, i32_w]; rfl)
          refine take_ (i := 7) (N := some 64) (v := ?_) (a' := ?_) (Sq.bl 28 207) rfl rfl (by kernel_rfl) (fun _ _ _ h => h) (Or.inl ⟨by rfl, ?_⟩) hS ?_ ?_; rotate_left; (· rintro w' ⟨s0, s1, s2, s3⟩; go_simp; with_reducible rfl); rotate_left; (· simp only [Act.put, List.setIfInBounds_toArray, List.set_cons_zero, List.set_cons_succ, i64_w, i32_w]; rfl)
          refine one_ (i := 4) (N := some 61) (Sq.bl 28 223) rfl rfl (by kernel_rfl) (by decide) (fun K hK => ?_)
          refine goes_ Tryd.func19 (by kernel_rfl) rfl #[.pointer (some ⟨p, 0, none⟩), .agg #[.int .i64 o.f0, .int .u64 o.f1]] (by rfl) rfl rfl (by (try simp only [List.map_toArray, List.map_cons, List.map_nil]); first | done | rfl | skip) ?_
          refine (HPX.out _ g0).mono ?_
          rintro e_ v4 ⟨A4, c4, rfl, r4, g4⟩
          have g04 := below_step g0 g4
          refine ⟨_, rfl, hK.out _ _ (HS.out _ g04) (fun hS => ?_)⟩
          clear hK K
          refine norm_ (a' := ?_) ?_ ?_
          rotate_left
          · show Act.put _ (some 61) _ = _
            simp only [Act.put, List.setIfInBounds_toArray, List.set_cons_zero, List.set_cons_succ, i64_w, i32_w]
            rfl
          refine more_ (S' := fun w' => (convert 35 9 (.slice A4 sx.length c4)).run Tryd.prog w' = .ok (.string ⟨sx.toArray⟩) w' ∧ w'.cell? ⟨w.heap.size, 0, none⟩ = some (.int .i64 o.f0) ∧ w'.cell? ⟨w.heap.size, 1, none⟩ = some (.int .u64 o.f1) ∧ w'.cell? ⟨w.heap.size + 1, 0, none⟩ = some (.int .i64 a.f0) ∧ w'.cell? ⟨w.heap.size + 1, 1, none⟩ = some (.int .u64 a.f1)) (fun _ h => h.2) _ ⟨cvt r4 (Below.refl _ _), hS⟩ (fun hS => ?_)
          refine take_ (i := 5) (N := some 62) (v := ?_) (a' := ?_) (Sq.bl 28 255) rfl rfl (by kernel_rfl) (fun _ _ _ h => h) (Or.inl ⟨by rfl, ?_⟩) hS ?_ ?_; rotate_left; (· rintro w' ⟨t4, s0, s1, s2, s3⟩; go_simp; with_reducible rfl); rotate_left; (· simp only [Act.put, List.setIfInBounds_toArray, List.set_cons_zero, List.set_cons_succ, i64_w, i32_w]; rfl)
          refine one_ (i := 8) (N := some 65) (Sq.bl 28 511) rfl rfl (by kernel_rfl) (by decide) (fun K hK => ?_)
          refine goes_ Tryd.func19 (by kernel_rfl) rfl #[.pointer (some ⟨p2, 0, none⟩), .agg #[.int .i64 o.f0, .int .u64 o.f1]] (by rfl) rfl rfl (by (try simp only [List.map_toArray, List.map_cons, List.map_nil]); first | done | rfl | skip) ?_
          refine (HPZ.out _ g04).mono ?_
          rintro e_ v8 ⟨A8, c8, rfl, r8, g8⟩
          have g08 := below_step g04 g8
          refine ⟨_, rfl, hK.out _ _ ⟨cvt r4 g8, HS.out _ g08⟩ (fun hS => ?_)⟩
          clear hK K
          refine norm_ (a' := ?_) ?_ ?_
          rotate_left
          · show Act.put _ (some 65) _ = _
            simp only [Act.put, List.setIfInBounds_toArray, List.set_cons_zero, List.set_cons_succ, i64_w, i32_w]
            rfl
          refine more_ (S' := fun w' => (convert 35 9 (.slice A8 sx.length c8)).run Tryd.prog w' = .ok (.string ⟨sx.toArray⟩) w' ∧ (convert 35 9 (.slice A4 sx.length c4)).run Tryd.prog w' = .ok (.string ⟨sx.toArray⟩) w' ∧ w'.cell? ⟨w.heap.size, 0, none⟩ = some (.int .i64 o.f0) ∧ w'.cell? ⟨w.heap.size, 1, none⟩ = some (.int .u64 o.f1) ∧ w'.cell? ⟨w.heap.size + 1, 0, none⟩ = some (.int .i64 a.f0) ∧ w'.cell? ⟨w.heap.size + 1, 1, none⟩ = some (.int .u64 a.f1)) (fun _ h => h.2) _ ⟨cvt r8 (Below.refl _ _), hS⟩ (fun hS => ?_)
          refine take_ (i := 9) (N := some 66) (v := ?_) (a' := ?_) (Sq.bl 28 1023) rfl rfl (by kernel_rfl) (fun _ _ _ h => h) (Or.inl ⟨by rfl, ?_⟩) hS ?_ ?_; rotate_left; (· rintro w' ⟨t8, t4, s0, s1, s2, s3⟩; go_simp; with_reducible rfl); rotate_left; (· simp only [Act.put, List.setIfInBounds_toArray, List.set_cons_zero, List.set_cons_succ, i64_w, i32_w]; rfl)
          refine Sq.pu (v := ?_) (a' := ?_) 10 67 (Sq.bl 28 2047) (by kernel_rfl) rfl rfl (fun _ _ _ h => h) (by rfl) ?_ ?_ ?_; rotate_left; (· intro w'; go_simp; with_reducible rfl); rotate_left; (· simp only [Act.put, List.setIfInBounds_toArray, List.set_cons_zero, List.set_cons_succ, i64_w, i32_w]; rfl)
          refine Sq.pu (v := ?_) (a' := ?_) 11 68 (Sq.bl 28 4095) (by kernel_rfl) rfl rfl (fun _ _ _ h => h) (by rfl) ?_ ?_ ?_; rotate_left; (· intro w'; go_simp; with_reducible rfl); rotate_left; (· simp only [Act.put, List.setIfInBounds_toArray, List.set_cons_zero, List.set_cons_succ, i64_w, i32_w]; rfl)
          refine Sq.pu (v := ?_) (a' := ?_) 12 69 (Sq.bl 28 8191) (by kernel_rfl) rfl rfl (fun _ _ _ h => h) (by rfl) ?_ ?_ ?_; rotate_left; (· intro w'; go_simp; with_reducible rfl); rotate_left; (· simp only [Act.put, List.setIfInBounds_toArray, List.set_cons_zero, List.set_cons_succ, i64_w, i32_w]; rfl)
          refine take_ (i := 13) (N := some 70) (v := ?_) (a' := ?_) (Sq.bl 28 16383) rfl rfl (by kernel_rfl) (fun _ _ _ h => h) (Or.inl ⟨by rfl, ?_⟩) hS ?_ ?_; rotate_left; (· rintro w' ⟨t8, t4, s0, s1, s2, s3⟩; go_simp; with_reducible rfl); rotate_left; (· simp only [Act.put, List.setIfInBounds_toArray, List.set_cons_zero, List.set_cons_succ, i64_w, i32_w]; rfl)
          refine take_ (i := 14) (N := some 71) (v := ?_) (a' := ?_) (Sq.bl 28 32767) rfl rfl (by kernel_rfl) (fun _ _ _ h => h) (Or.inl ⟨by rfl, ?_⟩) hS ?_ ?_; rotate_left; (· rintro w' ⟨t8, t4, s0, s1, s2, s3⟩; go_simp; with_reducible rfl); rotate_left; (· simp only [Act.put, List.setIfInBounds_toArray, List.set_cons_zero, List.set_cons_succ, i64_w, i32_w]; rfl)
          refine one_ (i := 15) (N := some 72) (Sq.bl 28 65535) rfl rfl (by kernel_rfl) (by decide) (fun K hK => ?_)
          refine goes_ Tryd.func21 (by kernel_rfl) rfl #[.agg #[.int .i64 a.f0, .int .u64 a.f1], .agg #[.int .i64 o.f0, .int .u64 o.f1]] (by rfl) rfl rfl (by (try simp only [List.map_toArray, List.map_cons, List.map_nil]); first | done | rfl | skip) ?_
          refine (jalousieref02_Below.calls k _ _ _ _ true _ HLA2.out).mono ?_
          rintro e_ v15 ⟨rfl, g15⟩
          have g015 := below_step g08 g15
          refine ⟨_, rfl, hK.out _ _ ⟨cvt r8 g15, cvt r4 (below_step g8 g15), HS.out _ g015⟩ (fun hS => ?_)⟩
          clear hK K
          refine norm_ (a' := ?_) ?_ ?_
          rotate_left
          · show Act.put _ (some 72) _ = _
            simp only [Act.put, List.setIfInBounds_toArray, List.set_cons_zero, List.set_cons_succ, i64_w, i32_w]
            rfl
          refine Sq.pu (v := ?_) (a' := ?_) 16 73 (Sq.bl 28 131071) (by kernel_rfl) rfl rfl (fun _ _ _ h => h) (by rfl) ?_ ?_ ?_; rotate_left; (· intro w'; go_simp; with_reducible rfl); rotate_left; (· simp only [Act.put, List.setIfInBounds_toArray, List.set_cons_zero, List.set_cons_succ, i64_w, i32_w]; rfl)
          refine Sq.pu (v := ?_) (a' := ?_) 17 74 (Sq.bl 28 262143) (by kernel_rfl) rfl rfl (fun _ _ _ h => h) (by rfl) ?_ ?_ ?_; rotate_left; (· intro w'; go_simp; with_reducible rfl); rotate_left; (· simp only [Act.put, List.setIfInBounds_toArray, List.set_cons_zero, List.set_cons_succ, i64_w, i32_w]; rfl)
          refine Sq.pu (v := ?_) (a' := ?_) 18 75 (Sq.bl 28 524287) (by kernel_rfl) rfl rfl (fun _ _ _ h => h) (by rfl) ?_ ?_ ?_; rotate_left; (· intro w'; go_simp; with_reducible rfl); rotate_left; (· simp only [Act.put, List.setIfInBounds_toArray, List.set_cons_zero, List.set_cons_succ, i64_w, i32_w]; rfl)
          refine Sq.pu (v := ?_) (a' := ?_) 21 78 (Sq.bl 28 2621439) (by kernel_rfl) rfl rfl (fun _ _ _ h => h) (by rfl) ?_ ?_ ?_; rotate_left; (· intro w'; go_simp; with_reducible rfl); rotate_left; (· simp only [Act.put, List.setIfInBounds_toArray, List.set_cons_zero, List.set_cons_succ, i64_w, i32_w]; rfl)
          refine take_ (i := 19) (N := some 76) (v := ?_) (a' := ?_) (Sq.bl 28 3145727) rfl rfl (by kernel_rfl) (fun _ _ _ h => h) (Or.inl ⟨by rfl, ?_⟩) hS ?_ ?_; rotate_left; (· rintro w' ⟨t8, t4, s0, s1, s2, s3⟩; go_simp; with_reducible rfl); rotate_left; (· simp only [Act.put, List.setIfInBounds_toArray, List.set_cons_zero, List.set_cons_succ, i64_w, i32_w]; rfl)
          refine take_ (i := 22) (N := some 79) (v := ?_) (a' := ?_) (Sq.bl 28 7340031) rfl rfl (by kernel_rfl) (fun _ _ _ h => h) (Or.inl ⟨by rfl, ?_⟩) hS ?_ ?_; rotate_left; (· rintro w' ⟨t8, t4, s0, s1, s2, s3⟩; go_simp; with_reducible rfl); rotate_left; (· simp only [Act.put, List.setIfInBounds_toArray, List.set_cons_zero, List.set_cons_succ, i64_w, i32_w]; rfl)
          refine one_ (i := 20) (N := some 77) (Sq.bl 28 8388607) rfl rfl (by kernel_rfl) (by decide) (fun K hK => ?_)
          refine goes_ Tryd.func13 (by kernel_rfl) rfl #[.pointer (some ⟨p, 0, none⟩), .agg #[.int .i64 a.f0, .int .u64 a.f1]] (by rfl) rfl rfl (by (try simp only [List.map_toArray, List.map_cons, List.map_nil]); first | done | rfl | skip) ?_
          refine (audit_Of.calls _ p m xs a ha _ (LogX.below HXd.out g015)).mono ?_
          rintro e_ v20 ⟨rfl, g20⟩
          have g020 := below_step g015 g20
          refine ⟨_, rfl, hK.out _ _ ⟨cvt r8 (below_step g15 g20), cvt r4 (below_step (below_step g8 g15) g20), HS.out _ g020⟩ (fun hS => ?_)⟩
          clear hK K
          refine norm_ (a' := ?_) ?_ ?_
          rotate_left
          · show Act.put _ (some 77) _ = _
            simp only [Act.put, List.setIfInBounds_toArray, List.set_cons_zero, List.set_cons_succ, i64_w, i32_w]
            rfl
          refine one_ (i := 23) (N := some 80) (Sq.bl 28 16777215) rfl rfl (by kernel_rfl) (by decide) (fun K hK => ?_)
          refine goes_ Tryd.func13 (by kernel_rfl) rfl #[.pointer (some ⟨p2, 0, none⟩), .agg #[.int .i64 a.f0, .int .u64 a.f1]] (by rfl) rfl rfl (by (try simp only [List.map_toArray, List.map_cons, List.map_nil]); first | done | rfl | skip) ?_
          refine (audit_Of.calls _ p2 m2 zs a ha _ (LogX.below HZd.out g020)).mono ?_
          rintro e_ v23 ⟨rfl, g23⟩
          rw [← HCN2.out]
          have g023 := below_step g020 g23
          refine ⟨_, rfl, hK.out _ _ ⟨cvt r8 (below_step (below_step g15 g20) g23), cvt r4 (below_step (below_step (below_step g8 g15) g20) g23), HS.out _ g023⟩ (fun hS => ?_)⟩
          clear hK K
          refine norm_ (a' := ?_) ?_ ?_
          rotate_left
          · show Act.put _ (some 80) _ = _
            simp only [Act.put, List.setIfInBounds_toArray, List.set_cons_zero, List.set_cons_succ, i64_w, i32_w]
            rfl
          refine Sq.pu (v := ?_) (a' := ?_) 24 81 (Sq.bl 28 33554431) (by kernel_rfl) rfl rfl (fun _ _ _ h => h) (by rfl) ?_ ?_ ?_; rotate_left; (· intro w'; go_simp; with_reducible rfl); rotate_left; (· simp only [Act.put, List.setIfInBounds_toArray, List.set_cons_zero, List.set_cons_succ, i64_w, i32_w]; rfl)
          refine Sq.pu (v := ?_) (a' := ?_) 25 82 (Sq.bl 28 67108863) (by kernel_rfl) rfl rfl (fun _ _ _ h => h) (by rfl) ?_ ?_ ?_; rotate_left; (· intro w'; go_simp; with_reducible rfl); rotate_left; (· simp only [Act.put, List.setIfInBounds_toArray, List.set_cons_zero, List.set_cons_succ, i64_w, i32_w]; rfl)
          refine Sq.pu (v := ?_) (a' := ?_) 26 83 (Sq.bl 28 134217727) (by kernel_rfl) rfl rfl (fun _ _ _ h => h) (by rfl) ?_ ?_ ?_; rotate_left; (· intro w'; go_simp; with_reducible rfl); rotate_left; (· simp only [Act.put, List.setIfInBounds_toArray, List.set_cons_zero, List.set_cons_succ, i64_w, i32_w]; rfl)
          refine Sq.pu (v := ?_) (a' := ?_) 27 6 (Sq.bl 28 268435455) (by kernel_rfl) rfl rfl (fun _ _ _ h => h) (by rfl) ?_ ?_ ?_; rotate_left; (· intro w'; go_simp; with_reducible rfl); rotate_left; (· simp only [Act.put, List.setIfInBounds_toArray, List.set_cons_zero, List.set_cons_succ, i64_w, i32_w]; rfl)
          refine done_ (by kernel_rfl) ?_
          have HE := Aside0.mk (HB4.out.trans (g023.mono HB4.out.size))
          clear hS r4 r8
          go_wp2
          go_ret
          exact ⟨rfl, HE.out⟩
      · go_wp2_with (go_at_call 11; (refine HPLAY.out.mono ?_); rintro e_ w5 ⟨p2, m2, q2, rfl, hp2, hm2, hq2, hX5, hY5, hb5⟩; have HZ := Aside0.mk hX5; have HB5 := Aside0.mk (HB.out.trans (hb5.mono HB.out.size)); clear hX5 hY5 hb5)
        obtain ⟨W4, hW4⟩ : ∃ W4 : World, W4 = w5.drew := ⟨_, rfl⟩
        have HW4 := Aside0.mk hW4
        have HB34 : Aside0 (Below w3.heap.size w3 W4) := ⟨by rw [hW4]; exact HB5.out.drew⟩
        have HXd : Aside0 (LogX W4 _ p m xs) := ⟨LogX.below HX.out HB34.out⟩
        have HZd : Aside0 (LogX W4 _ p2 m2 zs) := ⟨by rw [hW4]; exact LogX.below HZ.out (Below.refl _ _).drew⟩
        have HB4 := Aside0.mk (HB3.out.trans (HB34.out.mono HB3.out.size))
        have hO4 := kept_cell (base := 0) HO3.out HB34.out
        have hA4 := kept_cell (base := 0) HA3.out HB34.out
        have HS : Aside0 (∀ Y : World, Below W4.heap.size W4 Y → Y.cell? ⟨w.heap.size, 0, none⟩ = some (.int .i64 o.f0) ∧ Y.cell? ⟨w.heap.size, 1, none⟩ = some (.int .u64 o.f1) ∧ Y.cell? ⟨w.heap.size + 1, 0, none⟩ = some (.int .i64 a.f0) ∧ Y.cell? ⟨w.heap.size + 1, 1, none⟩ = some (.int .u64 a.f1)) := ⟨fun Y hY => ⟨(blk_cell (kept_cell (base := 0) hO4 hY) 0).trans rfl, (blk_cell (kept_cell (base := 0) hO4 hY) 1).trans rfl, (blk_cell (kept_cell (base := 0) hA4 hY) 0).trans rfl, (blk_cell (kept_cell (base := 0) hA4 hY) 1).trans rfl⟩⟩
        have hxsz : ∀ x ∈ xs, szE x ∧ lblWf x.f1 := fun x hx => by
          rw [HXS.out] at hx
          have h1 := List.mem_filter.1 hx
          exact ⟨HSZ.out x (List.mem_of_mem_take h1.1) (by simpa using h1.2), HWF.out x (List.mem_of_mem_take h1.1)⟩
        have hzsz : ∀ x ∈ zs, szE x ∧ lblWf x.f1 := fun x hx => by
          rw [HZS.out] at hx
          have h1 := List.mem_filter.1 hx
          have h2 := HIN.out x (List.mem_of_mem_take h1.1)
          exact ⟨HSZ.out x h2 (by simpa using h1.2), HWF.out x h2⟩
        obtain ⟨sx, hsx⟩ : ∃ sx, sx = printB (seenL o xs) 0 := ⟨_, rfl⟩
        have HPX := Aside0.mk (fun (Y : World) (hY : Below W4.heap.size W4 Y) => audit_Print.calls _ p m xs o Y (LogX.below HXd.out hY) (by omega) hxsz (TabOk.below HT.out (HB4.out.trans (hY.mono HB4.out.size))))
        have HPZ := Aside0.mk (fun (Y : World) (hY : Below W4.heap.size W4 Y) => audit_Print.calls _ p2 m2 zs o Y (LogX.below HZd.out hY) (by omega) hzsz (TabOk.below HT.out (HB4.out.trans (hY.mono HB4.out.size))))
        simp only [← HSEEN.out, ← hsx] at HPX HPZ
        clear hW4 hO4 hA4 hxsz hzsz hsx
        cases hlo : lowB a o with
        | false =>
          have HLA2 := Aside0.mk (HLA.out.trans (congrArg some hlo))
          clear hlo
          go_wp2
          refine start_ (n := 28) (S := fun w' => w'.cell? ⟨w.heap.size, 0, none⟩ = some (.int .i64 o.f0) ∧ w'.cell? ⟨w.heap.size, 1, none⟩ = some (.int .u64 o.f1) ∧ w'.cell? ⟨w.heap.size + 1, 0, none⟩ = some (.int .i64 a.f0) ∧ w'.cell? ⟨w.heap.size + 1, 1, none⟩ = some (.int .u64 a.f1)) (ds := []) (Sq.bl 28 0) (by kernel_rfl) rfl (by rfl) (by rw [← HW4.out]; exact HS.out _ (Below.refl _ _)) (fun hS => ?_)
          rw [← HW4.out] at hS ⊢
          refine one_ (i := 0) (N := some 57) (Sq.bl 28 1) rfl rfl (by kernel_rfl) (by decide) (fun K hK => ?_)
          refine goes_ Tryd.func12 (by kernel_rfl) rfl #[] (by rfl) rfl rfl (by simp) ?_
          refine (live.calls k HA.out.1 HA.out.2 _ (TabOk.below HT.out HB4.out)).mono ?_
          rintro e_ v0 ⟨rfl, g0⟩
          refine ⟨_, rfl, hK.out _ _ (HS.out _ g0) (fun hS => ?_)⟩
          clear hK K
          refine norm_ (a' := ?_) ?_ ?_
          rotate_left
          · show Act.put _ (some 57) _ = _
            simp only [Act.put, List.setIfInBounds_toArray, List.set_cons_zero, List.set_cons_succ, i64_w, i32_w]
            rfl
          refine Sq.pu (v := ?_) (a' := ?_) 1 58 (Sq.bl 28 3) (by kernel_rfl) rfl rfl (fun _ _ _ h => h) (by rfl) ?_ ?_ ?_; rotate_left; (· intro w'; go_simp; with_reducible rfl); rotate_left; (· simp only [Act.put, List.setIfInBounds_toArray, List.set_cons_zero, List.set_cons_succ, i64_w, i32_w]; rfl)
          refine Sq.pu (v := ?_) (a' := ?_) 2 59 (Sq.bl 28 7) (by kernel_rfl) rfl rfl (fun _ _ _ h => h) (by rfl) ?_ ?_ ?_; rotate_left; (· intro w'; go_simp; with_reducible rfl); rotate_left; (· simp only [Act.put, List.setIfInBounds_toArray, List.set_cons_zero, List.set_cons_succ, i64_w, i32_w]; rfl)
          refine Sq.pu (v := ?_) (a' := ?_) 6 63 (Sq.bl 28 71) (by kernel_rfl) rfl rfl (fun _ _ _ h => h) (by rfl) ?_ ?_ ?_; rotate_left; (· intro w'; go_simp; with_reducible rfl); rotate_left; (· simp only [Act.put, List.setIfInBounds_toArray, List.set_cons_zero, List.set_cons_succ, i64_w, i32_w]; rfl)
          refine take_ (i := 3) (N := some 60) (v := ?_) (a' := ?_) (Sq.bl 28 79) rfl rfl (by kernel_rfl) (fun _ _ _ h => h) (Or.inl ⟨by rfl, ?_⟩) hS ?_ ?_; rotate_left; (· rintro w' ⟨s0, s1, s2, s3⟩; go_simp; with_reducible rfl); rotate_left; (· simp only [Act.put, List.setIfInBounds_toArray, List.set_cons_zero, List.set_cons_succ, i64_w, i32_w]; rfl)
          refine take_ (i := 7) (N := some 64) (v := ?_) (a' := ?_) (Sq.bl 28 207) rfl rfl (by kernel_rfl) (fun _ _ _ h => h) (Or.inl ⟨by rfl, ?_⟩) hS ?_ ?_; rotate_left; (· rintro w' ⟨s0, s1, s2, s3⟩; go_simp; with_reducible rfl); rotate_left; (· simp only [Act.put, List.setIfInBounds_toArray, List.set_cons_zero, List.set_cons_succ, i64_w, i32_w]; rfl)
          refine one_ (i := 4) (N := some 61) (Sq.bl 28 223) rfl rfl (by kernel_rfl) (by decide) (fun K hK => ?_)
          refine goes_ Tryd.func19 (by kernel_rfl) rfl #[.pointer (some ⟨p, 0, none⟩), .agg #[.int .i64 o.f0, .int .u64 o.f1]] (by rfl) rfl rfl (by (try simp only [List.map_toArray, List.map_cons, List.map_nil]); first | done | rfl | skip) ?_
          refine (HPX.out _ g0).mono ?_
          rintro e_ v4 ⟨A4, c4, rfl, r4, g4⟩
          have g04 := below_step g0 g4
          refine ⟨_, rfl, hK.out _ _ (HS.out _ g04) (fun hS => ?_)⟩
          clear hK K
          refine norm_ (a' := ?_) ?_ ?_
          rotate_left
          · show Act.put _ (some 61) _ = _
            simp only [Act.put, List.setIfInBounds_toArray, List.set_cons_zero, List.set_cons_succ, i64_w, i32_w]
            rfl
          refine more_ (S' := fun w' => (convert 35 9 (.slice A4 sx.length c4)).run Tryd.prog w' = .ok (.string ⟨sx.toArray⟩) w' ∧ w'.cell? ⟨w.heap.size, 0, none⟩ = some (.int .i64 o.f0) ∧ w'.cell? ⟨w.heap.size, 1, none⟩ = some (.int .u64 o.f1) ∧ w'.cell? ⟨w.heap.size + 1, 0, none⟩ = some (.int .i64 a.f0) ∧ w'.cell? ⟨w.heap.size + 1, 1, none⟩ = some (.int .u64 a.f1)) (fun _ h => h.2) _ ⟨cvt r4 (Below.refl _ _), hS⟩ (fun hS => ?_)
          refine take_ (i := 5) (N := some 62) (v := ?_) (a' := ?_) (Sq.bl 28 255) rfl rfl (by kernel_rfl) (fun _ _ _ h => h) (Or.inl ⟨by rfl, ?_⟩) hS ?_ ?_; rotate_left; (· rintro w' ⟨t4, s0, s1, s2, s3⟩; go_simp; with_reducible rfl); rotate_left; (· simp only [Act.put, List.setIfInBounds_toArray, List.set_cons_zero, List.set_cons_succ, i64_w, i32_w]; rfl)
          refine one_ (i := 8) (N := some 65) (Sq.bl 28 511) rfl rfl (by kernel_rfl) (by decide) (fun K hK => ?_)
          refine goes_ Tryd.func19 (by kernel_rfl) rfl #[.pointer (some ⟨p2, 0, none⟩), .agg #[.int .i64 o.f0, .int .u64 o.f1]] (by rfl) rfl rfl (by (try simp only [List.map_toArray, List.map_cons, List.map_nil]); first | done | rfl | skip) ?_
          refine (HPZ.out _ g04).mono ?_
          rintro e_ v8 ⟨A8, c8, rfl, r8, g8⟩
          have g08 := below_step g04 g8
          refine ⟨_, rfl, hK.out _ _ ⟨cvt r4 g8, HS.out _ g08⟩ (fun hS => ?_)⟩
          clear hK K
          refine norm_ (a' := ?_) ?_ ?_
          rotate_left
          · show Act.put _ (some 65) _ = _
            simp only [Act.put, List.setIfInBounds_toArray, List.set_cons_zero, List.set_cons_succ, i64_w, i32_w]
            rfl
          refine more_ (S' := fun w' => (convert 35 9 (.slice A8 sx.length c8)).run Tryd.prog w' = .ok (.string ⟨sx.toArray⟩) w' ∧ (convert 35 9 (.slice A4 sx.length c4)).run Tryd.prog w' = .ok (.string ⟨sx.toArray⟩) w' ∧ w'.cell? ⟨w.heap.size, 0, none⟩ = some (.int .i64 o.f0) ∧ w'.cell? ⟨w.heap.size, 1, none⟩ = some (.int .u64 o.f1) ∧ w'.cell? ⟨w.heap.size + 1, 0, none⟩ = some (.int .i64 a.f0) ∧ w'.cell? ⟨w.heap.size + 1, 1, none⟩ = some (.int .u64 a.f1)) (fun _ h => h.2) _ ⟨cvt r8 (Below.refl _ _), hS⟩ (fun hS => ?_)
          refine take_ (i := 9) (N := some 66) (v := ?_) (a' := ?_) (Sq.bl 28 1023) rfl rfl (by kernel_rfl) (fun _ _ _ h => h) (Or.inl ⟨by rfl, ?_⟩) hS ?_ ?_; rotate_left; (· rintro w' ⟨t8, t4, s0, s1, s2, s3⟩; go_simp; with_reducible rfl); rotate_left; (· simp only [Act.put, List.setIfInBounds_toArray, List.set_cons_zero, List.set_cons_succ, i64_w, i32_w]; rfl)
          refine Sq.pu (v := ?_) (a' := ?_) 10 67 (Sq.bl 28 2047) (by kernel_rfl) rfl rfl (fun _ _ _ h => h) (by rfl) ?_ ?_ ?_; rotate_left; (· intro w'; go_simp; with_reducible rfl); rotate_left; (· simp only [Act.put, List.setIfInBounds_toArray, List.set_cons_zero, List.set_cons_succ, i64_w, i32_w]; rfl)
          refine Sq.pu (v := ?_) (a' := ?_) 11 68 (Sq.bl 28 4095) (by kernel_rfl) rfl rfl (fun _ _ _ h => h) (by rfl) ?_ ?_ ?_; rotate_left; (· intro w'; go_simp; with_reducible rfl); rotate_left; (· simp only [Act.put, List.setIfInBounds_toArray, List.set_cons_zero, List.set_cons_succ, i64_w, i32_w]; rfl)
          refine Sq.pu (v := ?_) (a' := ?_) 12 69 (Sq.bl 28 8191) (by kernel_rfl) rfl rfl (fun _ _ _ h => h) (by rfl) ?_ ?_ ?_; rotate_left; (· intro w'; go_simp; with_reducible rfl); rotate_left; (· simp only [Act.put, List.setIfInBounds_toArray, List.set_cons_zero, List.set_cons_succ, i64_w, i32_w]; rfl)
          refine take_ (i := 13) (N := some 70) (v := ?_) (a' := ?_) (Sq.bl 28 16383) rfl rfl (by kernel_rfl) (fun _ _ _ h => h) (Or.inl ⟨by rfl, ?_⟩) hS ?_ ?_; rotate_left; (· rintro w' ⟨t8, t4, s0, s1, s2, s3⟩; go_simp; with_reducible rfl); rotate_left; (· simp only [Act.put, List.setIfInBounds_toArray, List.set_cons_zero, List.set_cons_succ, i64_w, i32_w]; rfl)
          refine take_ (i := 14) (N := some 71) (v := ?_) (a' := ?_) (Sq.bl 28 32767) rfl rfl (by kernel_rfl) (fun _ _ _ h => h) (Or.inl ⟨by rfl, ?_⟩) hS ?_ ?_; rotate_left; (· rintro w' ⟨t8, t4, s0, s1, s2, s3⟩; go_simp; with_reducible rfl); rotate_left; (· simp only [Act.put, List.setIfInBounds_toArray, List.set_cons_zero, List.set_cons_succ, i64_w, i32_w]; rfl)
          refine one_ (i := 15) (N := some 72) (Sq.bl 28 65535) rfl rfl (by kernel_rfl) (by decide) (fun K hK => ?_)
          refine goes_ Tryd.func21 (by kernel_rfl) rfl #[.agg #[.int .i64 a.f0, .int .u64 a.f1], .agg #[.int .i64 o.f0, .int .u64 o.f1]] (by rfl) rfl rfl (by (try simp only [List.map_toArray, List.map_cons, List.map_nil]); first | done | rfl | skip) ?_
          refine (jalousieref02_Below.calls k _ _ _ _ false _ HLA2.out).mono ?_
          rintro e_ v15 ⟨rfl, g15⟩
          have g015 := below_step g08 g15
          refine ⟨_, rfl, hK.out _ _ ⟨cvt r8 g15, cvt r4 (below_step g8 g15), HS.out _ g015⟩ (fun hS => ?_)⟩
          clear hK K
          refine norm_ (a' := ?_) ?_ ?_
          rotate_left
          · show Act.put _ (some 72) _ = _
            simp only [Act.put, List.setIfInBounds_toArray, List.set_cons_zero, List.set_cons_succ, i64_w, i32_w]
            rfl
          refine Sq.pu (v := ?_) (a' := ?_) 16 73 (Sq.bl 28 131071) (by kernel_rfl) rfl rfl (fun _ _ _ h => h) (by rfl) ?_ ?_ ?_; rotate_left; (· intro w'; go_simp; with_reducible rfl); rotate_left; (· simp only [Act.put, List.setIfInBounds_toArray, List.set_cons_zero, List.set_cons_succ, i64_w, i32_w]; rfl)
          refine Sq.pu (v := ?_) (a' := ?_) 17 74 (Sq.bl 28 262143) (by kernel_rfl) rfl rfl (fun _ _ _ h => h) (by rfl) ?_ ?_ ?_; rotate_left; (· intro w'; go_simp; with_reducible rfl); rotate_left; (· simp only [Act.put, List.setIfInBounds_toArray, List.set_cons_zero, List.set_cons_succ, i64_w, i32_w]; rfl)
          refine pure_ (i := 18) (N := some 75) (v := undef) (a' := ?_) (Sq.bl 28 524287) rfl rfl (by kernel_rfl) (fun _ _ _ h => h) (Or.inr ⟨by rfl, rfl⟩) ?_ ?_
          rotate_left
          · simp only [Act.put, List.setIfInBounds_toArray, List.set_cons_zero, List.set_cons_succ, i64_w, i32_w]
            rfl
          refine pure_ (i := 19) (N := some 76) (v := undef) (a' := ?_) (Sq.bl 28 1048575) rfl rfl (by kernel_rfl) (fun _ _ _ h => h) (Or.inr ⟨by rfl, rfl⟩) ?_ ?_
          rotate_left
          · simp only [Act.put, List.setIfInBounds_toArray, List.set_cons_zero, List.set_cons_succ, i64_w, i32_w]
            rfl
          refine pure_ (i := 20) (N := some 77) (v := undef) (a' := ?_) (Sq.bl 28 2097151) rfl rfl (by kernel_rfl) (fun _ _ _ h => h) (Or.inr ⟨by rfl, rfl⟩) ?_ ?_
          rotate_left
          · simp only [Act.put, List.setIfInBounds_toArray, List.set_cons_zero, List.set_cons_succ, i64_w, i32_w]
            rfl
          refine pure_ (i := 21) (N := some 78) (v := undef) (a' := ?_) (Sq.bl 28 4194303) rfl rfl (by kernel_rfl) (fun _ _ _ h => h) (Or.inr ⟨by rfl, rfl⟩) ?_ ?_
          rotate_left
          · simp only [Act.put, List.setIfInBounds_toArray, List.set_cons_zero, List.set_cons_succ, i64_w, i32_w]
            rfl
          refine pure_ (i := 22) (N := some 79) (v := undef) (a' := ?_) (Sq.bl 28 8388607) rfl rfl (by kernel_rfl) (fun _ _ _ h => h) (Or.inr ⟨by rfl, rfl⟩) ?_ ?_
          rotate_left
          · simp only [Act.put, List.setIfInBounds_toArray, List.set_cons_zero, List.set_cons_succ, i64_w, i32_w]
            rfl
          refine pure_ (i := 23) (N := some 80) (v := undef) (a' := ?_) (Sq.bl 28 16777215) rfl rfl (by kernel_rfl) (fun _ _ _ h => h) (Or.inr ⟨by rfl, rfl⟩) ?_ ?_
          rotate_left
          · simp only [Act.put, List.setIfInBounds_toArray, List.set_cons_zero, List.set_cons_succ, i64_w, i32_w]
            rfl
          refine pure_ (i := 24) (N := some 81) (v := undef) (a' := ?_) (Sq.bl 28 33554431) rfl rfl (by kernel_rfl) (fun _ _ _ h => h) (Or.inr ⟨by rfl, rfl⟩) ?_ ?_
          rotate_left
          · simp only [Act.put, List.setIfInBounds_toArray, List.set_cons_zero, List.set_cons_succ, i64_w, i32_w]
            rfl
          refine Sq.pu (v := ?_) (a' := ?_) 25 82 (Sq.bl 28 67108863) (by kernel_rfl) rfl rfl (fun _ _ _ h => h) (by rfl) ?_ ?_ ?_; rotate_left; (· intro w'; go_simp; with_reducible rfl); rotate_left; (· simp only [Act.put, List.setIfInBounds_toArray, List.set_cons_zero, List.set_cons_succ, i64_w, i32_w]; rfl)
          refine Sq.pu (v := ?_) (a' := ?_) 26 83 (Sq.bl 28 134217727) (by kernel_rfl) rfl rfl (fun _ _ _ h => h) (by rfl) ?_ ?_ ?_; rotate_left; (· intro w'; go_simp; with_reducible rfl); rotate_left; (· simp only [Act.put, List.setIfInBounds_toArray, List.set_cons_zero, List.set_cons_succ, i64_w, i32_w]; rfl)
          refine Sq.pu (v := ?_) (a' := ?_) 27 6 (Sq.bl 28 268435455) (by kernel_rfl) rfl rfl (fun _ _ _ h => h) (by rfl) ?_ ?_ ?_; rotate_left; (· intro w'; go_simp; with_reducible rfl); rotate_left; (· simp only [Act.put, List.setIfInBounds_toArray, List.set_cons_zero, List.set_cons_succ, i64_w, i32_w]; rfl)
          refine done_ (by kernel_rfl) ?_
          have HE := Aside0.mk (HB4.out.trans (g015.mono HB4.out.size))
          clear hS r4 r8
          go_wp2
          go_ret
          exact ⟨rfl, HE.out⟩
        | true =>
          have HLA2 := Aside0.mk (HLA.out.trans (congrArg some hlo))
          have HCN2 := Aside0.mk (HCNT.out hlo)
          clear hlo
          go_wp2
          refine start_ (n := 28) (S := fun w' => w'.cell? ⟨w.heap.size, 0, none⟩ = some (.int .i64 o.f0) ∧ w'.cell? ⟨w.heap.size, 1, none⟩ = some (.int .u64 o.f1) ∧ w'.cell? ⟨w.heap.size + 1, 0, none⟩ = some (.int .i64 a.f0) ∧ w'.cell? ⟨w.heap.size + 1, 1, none⟩ = some (.int .u64 a.f1)) (ds := []) (Sq.bl 28 0) (by kernel_rfl) rfl (by rfl) (by rw [← HW4.out]; exact HS.out _ (Below.refl _ _)) (fun hS => ?_)
          rw [← HW4.out] at hS ⊢
          refine one_ (i := 0) (N := some 57) (Sq.bl 28 1) rfl rfl (by kernel_rfl) (by decide) (fun K hK => ?_)
          refine goes_ Tryd.func12 (by kernel_rfl) rfl #[] (by rfl) rfl rfl (by simp) ?_
          refine (live.calls k HA.out.1 HA.out.2 _ (TabOk.below HT.out HB4.out)).mono ?_
          rintro e_ v0 ⟨rfl, g0⟩
          refine ⟨_, rfl, hK.out _ _ (HS.out _ g0) (fun hS => ?_)⟩
          clear hK K
          refine norm_ (a' := ?_) ?_ ?_
          rotate_left
          · show Act.put _ (some 57) _ = _
            simp only [Act.put, List.setIfInBounds_toArray, List.set_cons_zero, List.set_cons_succ, i64_w, i32_w]
            rfl
          refine Sq.pu (v := ?_) (a' := ?_) 1 58 (Sq.bl 28 3) (by kernel_rfl) rfl rfl (fun _ _ _ h => h) (by rfl) ?_ ?_ ?_; rotate_left; (· intro w'; go_simp; with_reducible rfl); rotate_left; (· simp only [Act.put, List.setIfInBounds_toArray, List.set_cons_zero, List.set_cons_succ, i64_w, i32_w]; rfl)
          refine Sq.pu (v := ?_) (a' := ?_) 2 59 (Sq.bl 28 7) (by kernel_rfl) rfl rfl (fun _ _ _ h => h) (by rfl) ?_ ?_ ?_; rotate_left; (· intro w'; go_simp; with_reducible rfl); rotate_left; (· simp only [Act.put, List.setIfInBounds_toArray, List.set_cons_zero, List.set_cons_succ, i64_w, i32_w]; rfl)
          refine Sq.pu (v := ?_) (a' := ?_) 6 63 (Sq.bl 28 71) (by kernel_rfl) rfl rfl (fun _ _ _ h => h) (by rfl) ?_ ?_ ?_; rotate_left; (· intro w'; go_simp; with_reducible rfl); rotate_left; (· simp only [Act.put, List.setIfInBounds_toArray, List.set_cons_zero, List.set_cons_succ, i64_w, i32_w]; rfl)
          refine take_ (i := 3) (N := some 60) (v := ?_) (a' := ?_) (Sq.bl 28 79) rfl rfl (by kernel_rfl) (fun _ _ _ h => h) (Or.inl ⟨by rfl, ?_⟩) hS ?_ ?_; rotate_left; (· rintro w' ⟨s0, s1, s2, s3⟩; go_simp; with_reducible rfl); rotate_left; (· simp only [Act.put, List.setIfInBounds_toArray, List.set_cons_zero, List.set_cons_succ, i64_w, i32_w]; rfl)
          refine take_ (i := 7) (N := some 64) (v := ?_) (a' := ?_) (Sq.bl 28 207) rfl rfl (by kernel_rfl) (fun _ _ _ h => h) (Or.inl ⟨by rfl, ?_⟩) hS ?_ ?_; rotate_left; (· rintro w' ⟨s0, s1, s2, s3⟩; go_simp; with_reducible rfl); rotate_left; (· simp only [Act.put, List.setIfInBounds_toArray, List.set_cons_zero, List.set_cons_succ, i64_w, i32_w]; rfl)
          refine one_ (i := 4) (N := some 61) (Sq.bl 28 223) rfl rfl (by kernel_rfl) (by decide) (fun K hK => ?_)
          refine goes_ Tryd.func19 (by kernel_rfl) rfl #[.pointer (some ⟨p, 0, none⟩), .agg #[.int .i64 o.f0, .int .u64 o.f1]] (by rfl) rfl rfl (by (try simp only [List.map_toArray, List.map_cons, List.map_nil]); first | done | rfl | skip) ?_
          refine (HPX.out _ g0).mono ?_
          rintro e_ v4 ⟨A4, c4, rfl, r4, g4⟩
          have g04 := below_step g0 g4
          refine ⟨_, rfl, hK.out _ _ (HS.out _ g04) (fun hS => ?_)⟩
          clear hK K
          refine norm_ (a' := ?_) ?_ ?_
          rotate_left
          · show Act.put _ (some 61) _ = _
            simp only [Act.put, List.setIfInBounds_toArray, List.set_cons_zero, List.set_cons_succ, i64_w, i32_w]
            rfl
          refine more_ (S' := fun w' => (convert 35 9 (.slice A4 sx.length c4)).run Tryd.prog w' = .ok (.string ⟨sx.toArray⟩) w' ∧ w'.cell? ⟨w.heap.size, 0, none⟩ = some (.int .i64 o.f0) ∧ w'.cell? ⟨w.heap.size, 1, none⟩ = some (.int .u64 o.f1) ∧ w'.cell? ⟨w.heap.size + 1, 0, none⟩ = some (.int .i64 a.f0) ∧ w'.cell? ⟨w.heap.size + 1, 1, none⟩ = some (.int .u64 a.f1)) (fun _ h => h.2) _ ⟨cvt r4 (Below.refl _ _), hS⟩ (fun hS => ?_)
          refine take_ (i := 5) (N := some 62) (v := ?_) (a' := ?_) (Sq.bl 28 255) rfl rfl (by kernel_rfl) (fun _ _ _ h => h) (Or.inl ⟨by rfl, ?_⟩) hS ?_ ?_; rotate_left; (· rintro w' ⟨t4, s0, s1, s2, s3⟩; go_simp; with_reducible rfl); rotate_left; (· simp only [Act.put, List.setIfInBounds_toArray, List.set_cons_zero, List.set_cons_succ, i64_w, i32_w]; rfl)
          refine one_ (i := 8) (N := some 65) (Sq.bl 28 511) rfl rfl (by kernel_rfl) (by decide) (fun K hK => ?_)
          refine goes_ Tryd.func19 (by kernel_rfl) rfl #[.pointer (some ⟨p2, 0, none⟩), .agg #[.int .i64 o.f0, .int .u64 o.f1]] (by rfl) rfl rfl (by (try simp only [List.map_toArray, List.map_cons, List.map_nil]); first | done | rfl | skip) ?_
          refine (HPZ.out _ g04).mono ?_
          rintro e_ v8 ⟨A8, c8, rfl, r8, g8⟩
          have g08 := below_step g04 g8
          refine ⟨_, rfl, hK.out _ _ ⟨cvt r4 g8, HS.out _ g08⟩ (fun hS => ?_)⟩
          clear hK K
          refine norm_ (a' := ?_) ?_ ?_
          rotate_left
          · show Act.put _ (some 65) _ = _
            simp only [Act.put, List.setIfInBounds_toArray, List.set_cons_zero, List.set_cons_succ, i64_w, i32_w]
            rfl
          refine more_ (S' := fun w' => (convert 35 9 (.slice A8 sx.length c8)).run Tryd.prog w' = .ok (.string ⟨sx.toArray⟩) w' ∧ (convert 35 9 (.slice A4 sx.length c4)).run Tryd.prog w' = .ok (.string ⟨sx.toArray⟩) w' ∧ w'.cell? ⟨w.heap.size, 0, none⟩ = some (.int .i64 o.f0) ∧ w'.cell? ⟨w.heap.size, 1, none⟩ = some (.int .u64 o.f1) ∧ w'.cell? ⟨w.heap.size + 1, 0, none⟩ = some (.int .i64 a.f0) ∧ w'.cell? ⟨w.heap.size + 1, 1, none⟩ = some (.int .u64 a.f1)) (fun _ h => h.2) _ ⟨cvt r8 (Below.refl _ _), hS⟩ (fun hS => ?_)
          refine take_ (i := 9) (N := some 66) (v := ?_) (a' := ?_) (Sq.bl 28 1023) rfl rfl (by kernel_rfl) (fun _ _ _ h => h) (Or.inl ⟨by rfl, ?_⟩) hS ?_ ?_; rotate_left; (· rintro w' ⟨t8, t4, s0, s1, s2, s3⟩; go_simp; with_reducible rfl); rotate_left; (· simp only [Act.put, List.setIfInBounds_toArray, List.set_cons_zero, List.set_cons_succ, i64_w, i32_w]; rfl)
          refine Sq.pu (v := ?_) (a' := ?_) 10 67 (Sq.bl 28 2047) (by kernel_rfl) rfl rfl (fun _ _ _ h => h) (by rfl) ?_ ?_ ?_; rotate_left; (· intro w'; go_simp; with_reducible rfl); rotate_left; (· simp only [Act.put, List.setIfInBounds_toArray, List.set_cons_zero, List.set_cons_succ, i64_w, i32_w]; rfl)
          refine Sq.pu (v := ?_) (a' := ?_) 11 68 (Sq.bl 28 4095) (by kernel_rfl) rfl rfl (fun _ _ _ h => h) (by rfl) ?_ ?_ ?_; rotate_left; (· intro w'; go_simp; with_reducible rfl); rotate_left; (· simp only [Act.put, List.setIfInBounds_toArray, List.set_cons_zero, List.set_cons_succ, i64_w, i32_w]; rfl)
          refine Sq.pu (v := ?_) (a' := ?_) 12 69 (Sq.bl 28 8191) (by kernel_rfl) rfl rfl (fun _ _ _ h => h) (by rfl) ?_ ?_ ?_; rotate_left; (· intro w'; go_simp; with_reducible rfl); rotate_left; (· simp only [Act.put, List.setIfInBounds_toArray, List.set_cons_zero, List.set_cons_succ, i64_w, i32_w]; rfl)
          refine take_ (i := 13) (N := some 70) (v := ?_) (a' := ?_) (Sq.bl 28 16383) rfl rfl (by kernel_rfl) (fun _ _ _ h => h) (Or.inl ⟨by rfl, ?_⟩) hS ?_ ?_; rotate_left; (· rintro w' ⟨t8, t4, s0, s1, s2, s3⟩; go_simp; with_reducible rfl); rotate_left; (· simp only [Act.put, List.setIfInBounds_toArray, List.set_cons_zero, List.set_cons_succ, i64_w, i32_w]; rfl)
          refine take_ (i := 14) (N := some 71) (v := ?_) (a' := ?_) (Sq.bl 28 32767) rfl rfl (by kernel_rfl) (fun _ _ _ h => h) (Or.inl ⟨by rfl, ?_⟩) hS ?_ ?_; rotate_left; (· rintro w' ⟨t8, t4, s0, s1, s2, s3⟩; go_simp; with_reducible rfl); rotate_left; (· simp only [Act.put, List.setIfInBounds_toArray, List.set_cons_zero, List.set_cons_succ, i64_w, i32_w]; rfl)
          refine one_ (i := 15) (N := some 72) (Sq.bl 28 65535) rfl rfl (by kernel_rfl) (by decide) (fun K hK => ?_)
          refine goes_ Tryd.func21 (by kernel_rfl) rfl #[.agg #[.int .i64 a.f0, .int .u64 a.f1], .agg #[.int .i64 o.f0, .int .u64 o.f1]] (by rfl) rfl rfl (by (try simp only [List.map_toArray, List.map_cons, List.map_nil]); first | done | rfl | skip) ?_
          refine (jalousieref02_Below.calls k _ _ _ _ true _ HLA2.out).mono ?_
          rintro e_ v15 ⟨rfl, g15⟩
          have g015 := below_step g08 g15
          refine ⟨_, rfl, hK.out _ _ ⟨cvt r8 g15, cvt r4 (below_step g8 g15), HS.out _ g015⟩ (fun hS => ?_)⟩
          clear hK K
          refine norm_ (a' := ?_) ?_ ?_
          rotate_left
          · show Act.put _ (some 72) _ = _
            simp only [Act.put, List.setIfInBounds_toArray, List.set_cons_zero, List.set_cons_succ, i64_w, i32_w]
            rfl
          refine Sq.pu (v := ?_) (a' := ?_) 16 73 (Sq.bl 28 131071) (by kernel_rfl) rfl rfl (fun _ _ _ h => h) (by rfl) ?_ ?_ ?_; rotate_left; (· intro w'; go_simp; with_reducible rfl); rotate_left; (· simp only [Act.put, List.setIfInBounds_toArray, List.set_cons_zero, List.set_cons_succ, i64_w, i32_w]; rfl)
          refine Sq.pu (v := ?_) (a' := ?_) 17 74 (Sq.bl 28 262143) (by kernel_rfl) rfl rfl (fun _ _ _ h => h) (by rfl) ?_ ?_ ?_; rotate_left; (· intro w'; go_simp; with_reducible rfl); rotate_left; (· simp only [Act.put, List.setIfInBounds_toArray, List.set_cons_zero, List.set_cons_succ, i64_w, i32_w]; rfl)
          refine Sq.pu (v := ?_) (a' := ?_) 18 75 (Sq.bl 28 524287) (by kernel_rfl) rfl rfl (fun _ _ _ h => h) (by rfl) ?_ ?_ ?_; rotate_left; (· intro w'; go_simp; with_reducible rfl); rotate_left; (· simp only [Act.put, List.setIfInBounds_toArray, List.set_cons_zero, List.set_cons_succ, i64_w, i32_w]; rfl)
          refine Sq.pu (v := ?_) (a' := ?_) 21 78 (Sq.bl 28 2621439) (by kernel_rfl) rfl rfl (fun _ _ _ h => h) (by rfl) ?_ ?_ ?_; rotate_left; (· intro w'; go_simp; with_reducible rfl); rotate_left; (· simp only [Act.put, List.setIfInBounds_toArray, List.set_cons_zero, List.set_cons_succ, i64_w, i32_w]; rfl)
          refine take_ (i := 19) (N := some 76) (v := ?_) (a' := ?_) (Sq.bl 28 3145727) rfl rfl (by kernel_rfl) (fun _ _ _ h => h) (Or.inl ⟨by rfl, ?_⟩) hS ?_ ?_; rotate_left; (· rintro w' ⟨t8, t4, s0, s1, s2, s3⟩; go_simp; with_reducible rfl); rotate_left; (· simp only [Act.put, List.setIfInBounds_toArray, List.set_cons_zero, List.set_cons_succ, i64_w, i32_w]; rfl)
          refine take_ (i := 22) (N := some 79) (v := ?_) (a' := ?_) (Sq.bl 28 7340031) rfl rfl (by kernel_rfl) (fun _ _ _ h => h) (Or.inl ⟨by rfl, ?_⟩) hS ?_ ?_; rotate_left; (· rintro w' ⟨t8, t4, s0, s1, s2, s3⟩; go_simp; with_reducible rfl); rotate_left; (· simp only [Act.put, List.setIfInBounds_toArray, List.set_cons_zero, List.set_cons_succ, i64_w, i32_w]; rfl)
          refine one_ (i := 20) (N := some 77) (Sq.bl 28 8388607) rfl rfl (by kernel_rfl) (by decide) (fun K hK => ?_)
          refine goes_ Tryd.func13 (by kernel_rfl) rfl #[.pointer (some ⟨p, 0, none⟩), .agg #[.int .i64 a.f0, .int .u64 a.f1]] (by rfl) rfl rfl (by (try simp only [List.map_toArray, List.map_cons, List.map_nil]); first | done | rfl | skip) ?_
          refine (audit_Of.calls _ p m xs a ha _ (LogX.below HXd.out g015)).mono ?_
          rintro e_ v20 ⟨rfl, g20⟩
          have g020 := below_step g015 g20
          refine ⟨_, rfl, hK.out _ _ ⟨cvt r8 (below_step g15 g20), cvt r4 (below_step (below_step g8 g15) g20), HS.out _ g020⟩ (fun hS => ?_)⟩
          clear hK K
          refine norm_ (a' := ?_) ?_ ?_
          rotate_left
          · show Act.put _ (some 77) _ = _
            simp only [Act.put, List.setIfInBounds_toArray, List.set_cons_zero, List.set_cons_succ, i64_w, i32_w]
            rfl
          refine one_ (i := 23) (N := some 80) (Sq.bl 28 16777215) rfl rfl (by kernel_rfl) (by decide) (fun K hK => ?_)
          refine goes_ Tryd.func13 (by kernel_rfl) rfl #[.pointer (some ⟨p2, 0, none⟩), .agg #[.int .i64 a.f0, .int .u64 a.f1]] (by rfl) rfl rfl (by (try simp only [List.map_toArray, List.map_cons, List.map_nil]); first | done | rfl | skip) ?_
          refine (audit_Of.calls _ p2 m2 zs a ha _ (LogX.below HZd.out g020)).mono ?_
          rintro e_ v23 ⟨rfl, g23⟩
          rw [← HCN2.out]
          have g023 := below_step g020 g23
          refine ⟨_, rfl, hK.out _ _ ⟨cvt r8 (below_step (below_step g15 g20) g23), cvt r4 (below_step (below_step (below_step g8 g15) g20) g23), HS.out _ g023⟩ (fun hS => ?_)⟩
          clear hK K
          refine norm_ (a' := ?_) ?_ ?_
          rotate_left
          · show Act.put _ (some 80) _ = _
            simp only [Act.put, List.setIfInBounds_toArray, List.set_cons_zero, List.set_cons_succ, i64_w, i32_w]
            rfl
          refine Sq.pu (v := ?_) (a' := ?_) 24 81 (Sq.bl 28 33554431) (by kernel_rfl) rfl rfl (fun _ _ _ h => h) (by rfl) ?_ ?_ ?_; rotate_left; (· intro w'; go_simp; with_reducible rfl); rotate_left; (· simp only [Act.put, List.setIfInBounds_toArray, List.set_cons_zero, List.set_cons_succ, i64_w, i32_w]; rfl)
          refine Sq.pu (v := ?_) (a' := ?_) 25 82 (Sq.bl 28 67108863) (by kernel_rfl) rfl rfl (fun _ _ _ h => h) (by rfl) ?_ ?_ ?_; rotate_left; (· intro w'; go_simp; with_reducible rfl); rotate_left; (· simp only [Act.put, List.setIfInBounds_toArray, List.set_cons_zero, List.set_cons_succ, i64_w, i32_w]; rfl)
          refine Sq.pu (v := ?_) (a' := ?_) 26 83 (Sq.bl 28 134217727) (by kernel_rfl) rfl rfl (fun _ _ _ h => h) (by rfl) ?_ ?_ ?_; rotate_left; (· intro w'; go_simp; with_reducible rfl); rotate_left; (· simp only [Act.put, List.setIfInBounds_toArray, List.set_cons_zero, List.set_cons_succ, i64_w, i32_w]; rfl)
          refine Sq.pu (v := ?_) (a' := ?_) 27 6 (Sq.bl 28 268435455) (by kernel_rfl) rfl rfl (fun _ _ _ h => h) (by rfl) ?_ ?_ ?_; rotate_left; (· intro w'; go_simp; with_reducible rfl); rotate_left; (· simp only [Act.put, List.setIfInBounds_toArray, List.set_cons_zero, List.set_cons_succ, i64_w, i32_w]; rfl)
          refine done_ (by kernel_rfl) ?_
          have HE := Aside0.mk (HB4.out.trans (g023.mono HB4.out.size))
          clear hS r4 r8
          go_wp2
          go_ret
          exact ⟨rfl, HE.out⟩
end Go.Proofs.YtkinepmilnkhmaaDoor.A
end
section
namespace Go.Proofs.YtkinepmilnkhmaaDoor.A
open Go.RowKit Go.Proofs.YtkinepmilnkhmaaDoorW.PrintWords Go.Proofs.YtkinepmilnkhmaaDoorW.PrintLast Go.Proofs.YtkinepmilnkhmaaDoorW.PrintMore
set_option linter.unusedVariables false
set_option linter.unusedSimpArgs false
theorem law_blind (A0 : Option Addr) (c0 : Nat) (l : List S40) (o a : S25) (w : World) (hr0 : Kd.C k40 w A0 l.length l) (hc0 : l.length ≤ c0) (s0 : ∀ x ∈ l, ok40 x) (s1 : ok25 o) (s2 : ok25 a) (hT : TabOk w) :
    Calls Tryd.prog 4 #[.slice A0 l.length c0, .agg #[.int .i64 o.f0, .int .u64 o.f1], .agg #[.int .i64 a.f0, .int .u64 a.f1]] w fun e w' => e = .returned (.bool true) ∧ Below w.heap.size w w' := by
  obtain ⟨K1, h1⟩ := chk_all l s0
  obtain ⟨K2, h2⟩ := live_rounds
  obtain ⟨K3, h3⟩ := low_all l o s1 s0
  obtain ⟨K4, h4⟩ := low_ev s2 s1
  have g1 := h1 (K1 + K2 + K3 + K4) (by omega)
  have g2 := h2 (K1 + K2 + K3 + K4) (by omega)
  refine blind.calls (K1 + K2 + K3 + K4) chkE A0 c0 l o a w hr0 hc0 (fun x hx => (s0 x hx).2.1) s2 (fun x hx => (g1 x hx).1) (fun x hx => (g1 x hx).2) g2.1 g2.2 hT (fun x _ h => small_sz x h) (h3 _ (by omega)) (h4 _ (by omega)) (fun hlo => ?_) ?_
  · rw [play_seen, cnt_seen a o hlo]
  · rw [play_seen, seen_seen]
end Go.Proofs.YtkinepmilnkhmaaDoor.A
end
