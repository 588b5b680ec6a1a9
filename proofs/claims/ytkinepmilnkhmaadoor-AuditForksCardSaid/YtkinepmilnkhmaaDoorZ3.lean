/-
  What the claim needs of the words, of the walks and of the plain proofs, in one row (3).
-/
import Derived.Deep.RegionHeld3
import Derived.WalkLawsBesides
import Derived.WalkSpells
import Derived.RangeFuncNested
import Derived.RangeFuncBound
import Derived.RangeFuncCalls
import Derived.RangeFuncLeaves
import Derived.RangeFuncBox
import Derived.RangeFuncMany
import Derived.Shelf.Abstract
import Derived.OwnWalkIn
import Derived.TacticsInMore
import Derived.LoopNIn
import Derived.LoopIn
import Derived.ArgAppend
import Derived.Test.YtkinepmilnkhmaaDoorZ0
import Derived.Test.YtkinepmilnkhmaaDoorZ1
import Derived.Test.YtkinepmilnkhmaaDoorZ2
section
namespace Go.Proofs.YtkinepmilnkhmaaDoor.A
open Go.RowKit Go.Proofs.YtkinepmilnkhmaaDoorW.PrintWords Go.Proofs.YtkinepmilnkhmaaDoorW.PrintLast Go.Proofs.YtkinepmilnkhmaaDoorW.PrintMore
attribute [local go_sem] max2_int min2_int max_two min_two max_three min_three max_four min_four   -- for this text's walks alone
set_option linter.unusedVariables false
set_option linter.unusedSimpArgs false
open Go.Maps Go.WideElems Go.MapKept
theorem LogX.aside2 {W W' : World} {base p m p2 m2 : Nat} {xs ys : List S40} (hX : LogX W base p m xs) (hZ : LogX W base p2 m2 ys) (hf : ∀ z, z < W.heap.size → z ≠ p2 → z ≠ m2 → W'.heap[z]? = W.heap[z]?) (hp : p ≠ p2) (hm : m ≠ m2) : LogX W' base p m xs := by
  obtain ⟨v2, D2, g1, _, ⟨es2, clock2, g3, _⟩, _⟩ := hZ
  have hX' := hX
  obtain ⟨v, D, h1, _, ⟨es, clock, h3, _⟩, _⟩ := hX'
  refine hX.stay (hf p (blk_lt h1) hp ?_) (hf m (blk_lt h3) ?_ hm) (fun k cs fz hk => hf k (blk_lt hk) ?_ ?_)
  · rintro rfl
    rw [h1] at g3
    cases g3
  · rintro rfl
    rw [h3] at g1
    cases g1
  · rintro rfl
    rw [g1] at hk
    injection hk with hk
    injection hk with _ hk
    exact absurd hk (by decide)
  · rintro rfl
    rw [g3] at hk
    cases hk
theorem LogY.aside2 {W W' : World} {base q q2 : Nat} {xs ys : List S40} (hY : LogY W base q xs) (hZ : LogY W base q2 ys) (hf : ∀ z, z < W.heap.size → z ≠ q2 → W'.heap[z]? = W.heap[z]?) (hq : q ≠ q2) : LogY W' base q xs := by
  obtain ⟨v2, g1, _⟩ := hZ
  have hY' := hY
  obtain ⟨v, h1, _⟩ := hY'
  refine hY.stay (hf q (blk_lt h1) hq) (fun k cs fz hk => hf k (blk_lt hk) ?_)
  rintro rfl
  rw [g1] at hk
  injection hk with hk
  injection hk with _ hk
  exact absurd hk (by decide)
theorem box1_label {w : World} (o : S25) : ∃ W2 : World, W2 = w.alloc (.cells #[.int .i64 o.f0, .int .u64 o.f1] 25 (0, 0)) ∧ W2.heap[w.heap.size]? = some (.cells #[.int .i64 o.f0, .int .u64 o.f1] 25 (0, 0)) ∧ Below w.heap.size w W2 :=
  ⟨_, rfl, World.alloc_heap_new w _, (Below.refl w.heap.size w).alloc (Nat.le_refl _) _⟩
def forks_T : Bool × List (List Nat × List Nat) := (true, [([], []), ([0, 0], [0]), ([1], [1]), ([1], [1]), ([2, 3, 1, 1], [1, 2, 3]), ([1], [1]), ([1], [1]), ([5, 6, 4, 1], [1, 5, 6]), ([4, 7, 7, 1], [1, 4, 7]), ([1, 8], [1, 8]), ([9, 8], [9]), ([10], [10]), ([10], [10]), ([11, 12, 10, 10], [10, 11, 12]), ([10], [10]), ([10], [10]), ([14, 15, 13, 10], [10, 14, 15]), ([13, 16, 16, 10], [10, 13, 16]), ([10, 17], [10, 17]), ([18, 17], [18]), ([19], [19]), ([19], [19]), ([20, 21, 19, 19], [19, 20, 21]), ([19], [19]), ([19], [19]), ([23, 24, 22, 19], [19, 23, 24]), ([22, 25, 19], [19, 22, 25]), ([19, 26], [19, 26]), ([27, 25], [27]), ([28], [28]), ([28], [28]), ([29, 30, 28, 28], [28, 29, 30]), ([28], [28]), ([28], [28]), ([32, 33, 31, 28], [28, 32, 33]), ([31, 34, 28], [28, 31, 34]), ([28, 35], [28, 35]), ([36, 34], [36]), ([37], [37]), ([37], [37]), ([38, 39, 37, 37], [37, 38, 39]), ([40, 37], [37, 40]), ([37, 41], [37, 41]), ([42, 40], [42]), ([43], [43]), ([44, 43, 43], [43, 44]), ([43], [43]), ([43], [43]), ([46, 47, 45, 43], [43, 46, 47]), ([45, 48, 43], [43, 45, 48]), ([43], [43]), ([43], [43]), ([50, 51, 48, 43], [43, 50, 51]), ([52, 43], [43, 52]), ([49, 53, 43], [43, 49, 53]), ([43], [43]), ([43], [43]), ([55, 56, 52, 43], [43, 55, 56]), ([57, 43], [43, 57]), ([54, 58, 43], [43, 54, 58]), ([59, 43], [43, 59]), ([43, 60], [43, 60]), ([61, 57], [61]), ([62], [62]), ([62], [62]), ([63, 64, 62, 62], [62, 63, 64]), ([65, 62], [62, 65]), ([62, 66], [62, 66]), ([67, 65], [67]), ([68], [68]), ([69, 68, 68], [68, 69]), ([70, 68], [68, 70]), ([68, 71], [68, 71]), ([72, 70, 0, 1, 2, 3, 4, 5, 6, 7, 8, 9, 10, 11, 12, 13, 14, 15, 16, 17, 18, 19, 20, 21, 22, 23, 24, 25, 26, 27, 28, 29, 30, 31, 32, 33, 34, 35, 36, 37, 38, 39, 40, 41, 42, 43, 44, 45, 46, 47, 48, 49, 50, 51, 52, 53, 54, 55, 56, 57, 58, 59, 60, 61, 62, 63, 64, 65, 66, 67, 68, 69, 70, 71, 72], [72])])
def forks_B : List Nat := [0, 1, 3, 3, 15, 3, 3, 127, 255, 511, 1023, 2047, 2047, 8191, 2047, 2047, 65535, 131071, 262143, 524287, 1048575, 1048575, 4194303, 1048575, 1048575, 33554431, 67108863, 134217727, 268435455, 536870911, 536870911, 2147483647, 536870911, 536870911, 17179869183, 34359738367, 68719476735, 137438953471, 274877906943, 274877906943, 1099511627775, 2199023255551, 4398046511103, 8796093022207, 17592186044415, 35184372088831, 17592186044415, 17592186044415, 281474976710655, 562949953421311, 17592186044415, 17592186044415, 3940649673949183, 8444249301319679, 18014398509481983, 17592186044415, 17592186044415, 116530640358211583, 260645828434067455, 576460752303423487, 1152921504606846975, 2305843009213693951, 4611686018427387903, 9223372036854775807, 9223372036854775807, 36893488147419103231, 73786976294838206463, 147573952589676412927, 295147905179352825855, 590295810358705651711, 1180591620717411303423, 2361183241434822606847, 4722366482869645213695, 9444732965739290427391]
theorem forks_tab : rtab .any (opsOf Tryd.f6 16) = forks_T := by kernel_rfl
theorem forks_bits : waitsOk forks_T.2 forks_B = true := by kernel_rfl
/-- What becomes of a log's entries: those that are taken of the further ones lie behind. -/
def moreL (ck : S40 → Int) (xs more : List S40) : List S40 := xs ++ playL ck more
theorem more_take (ck : S40 → Int) (xs more : List S40) (i : Nat) (h : i < more.length) (x : S40) (hx : more[i]? = some x) : moreL ck xs (more.take (i + 1)) = addX (ck x) (moreL ck xs (more.take i)) x := by
  unfold moreL
  rw [play_take ck more i h x hx]
  unfold addX
  split
  · rw [List.append_assoc]
  · rfl
set_option maxHeartbeats 8000000 in
set_option maxRecDepth 100000 in
theorem forks.calls1 (k : Nat) (ck : S40 → Int) (A0 : Option Addr) (c0 : Nat) (l : List S40) (A1 : Option Addr) (c1 : Nat) (more : List S40) (o : S25) (w : World) (hr0 : Kd.C k40 w A0 l.length l) (hc0 : l.length ≤ c0) (hr1 : Kd.C k40 w A1 more.length more) (hc1 : more.length ≤ c1) (hwf : ∀ x ∈ l, lblWf x.f1) (hwf1 : ∀ x ∈ more, lblWf x.f1) (ho : lblWf o)
    (hka : ∀ x ∈ l, audit_Check.f k x = some (ck x)) (hkr : ∀ x ∈ l, jalousieref20_Check.f k x.f0 x.f1.f0 x.f1.f1 x.f2 x.f3 x.f4 = some (ck x)) (hka1 : ∀ x ∈ more, audit_Check.f k x = some (ck x)) (hkr1 : ∀ x ∈ more, jalousieref20_Check.f k x.f0 x.f1.f0 x.f1.f1 x.f2 x.f3 x.f4 = some (ck x)) (hA : audit_Check.f k eAnn = some 0) (hB : audit_Check.f k eBob = some 0) (hT : TabOk w)
    (hlow : ∀ x ∈ l, jalousieref02_Below.f k x.f1.f0 x.f1.f1 o.f0 o.f1 = some (lowB x.f1 o)) (hlow1 : ∀ x ∈ more, jalousieref02_Below.f k x.f1.f0 x.f1.f1 o.f0 o.f1 = some (lowB x.f1 o)) (hsame : jalousieref20_Same.f k (seenL o (playL ck (l.take 60))) (seenL o (playL ck (l.take 60))) = some true) (hsame1 : jalousieref20_Same.f k (seenL o (moreL ck (playL ck (l.take 60)) (more.take 30))) (seenL o (moreL ck (playL ck (l.take 60)) (more.take 30))) = some true) (h30 : more.length ≤ 30) :
    Calls Tryd.prog 6 #[.slice A0 l.length c0, .slice A1 more.length c1, .agg #[.int .i64 o.f0, .int .u64 o.f1]] w fun e w' => e = .returned (.bool true) ∧ Below w.heap.size w w' := by
  obtain ⟨W2, hW2, hbo, hBW⟩ := box1_label o (w := w)
  have hsW : w.heap.size < W2.heap.size := blk_lt hbo
  have HC := Aside0.mk hr0
  have HC1 := Aside0.mk hr1
  have HKA := Aside0.mk hka
  have HKR := Aside0.mk hkr
  have HKA1 := Aside0.mk hka1
  have HKR1 := Aside0.mk hkr1
  have HWF := Aside0.mk hwf
  have HWF1 := Aside0.mk hwf1
  have HA := Aside0.mk (And.intro hA hB)
  have HT := Aside0.mk hT
  have HLW := Aside0.mk hlow
  have HLW1 := Aside0.mk hlow1
  have HSAME := Aside0.mk hsame
  have HSAME1 := Aside0.mk hsame1
  have HW2 := Aside0.mk hW2
  have HBO := Aside0.mk hbo
  have HBW := Aside0.mk hBW
  have HOWF := Aside0.mk ho
  clear hr0 hr1 hka hkr hka1 hkr1 hwf hwf1 hA hB hT hlow hlow1 hsame hsame1 hW2 hbo hBW ho
  obtain ⟨xs, hxs⟩ : ∃ xs, xs = playL ck (l.take 60) := ⟨_, rfl⟩
  rw [← hxs] at HSAME HSAME1
  have hxl : xs.length ≤ 60 := by
    have := playL_len ck (l.take 60)
    rw [List.length_take] at this
    rw [hxs]
    omega
  have HIN : Aside0 (∀ x ∈ xs, x ∈ l) := ⟨fun x hx => by
    rw [hxs] at hx
    exact List.mem_of_mem_take (List.mem_filter.1 hx).1⟩
  have HXS := Aside0.mk hxs
  clear hxs
  have hml : ∀ i, i ≤ 30 → (moreL ck xs (more.take i)).length ≤ 90 := fun i hi => by
    have := playL_len ck (more.take i)
    rw [List.length_take] at this
    unfold moreL
    rw [List.length_append]
    omega
  have HML := Aside0.mk hml
  clear hml
  go_enter Tryd.func6, Tryd.ntmps6
  go_wp2_with (fail)
  rw [← HW2.out]
  refine (play.calls k ck A0 c0 l HKA.out HKR.out _ (Kd.C_below HC.out HBW.out) hc0 HWF.out).mono ?_
  rintro e_ w3 ⟨p, m, q, rfl, hp, hm, hq, hX, hY, hb⟩
  rw [← HXS.out] at hX hY
  have HX3 := Aside0.mk hX
  have HY3 := Aside0.mk hY
  have HB3 := Aside0.mk (HBW.out.trans (hb.mono HBW.out.size))
  have HO3 := Aside0.mk (kept_cell (base := 0) HBO.out hb)
  have hs3 := hb.size
  clear hX hY hb
  go_wp2_with (fail)
  refine (audit_Fork.calls _ p m xs _ HX3.out (by omega) (by omega)).mono ?_
  rintro e_ w4 ⟨p2, m2, rfl, hp2, hm2, hX, hb⟩
  have hpl : p < w3.heap.size ∧ m < w3.heap.size ∧ q < w3.heap.size := by
    obtain ⟨_, _, t1, _, t3, _⟩ := HX3.out
    obtain ⟨_, t2, _⟩ := HY3.out
    exact ⟨blk_lt t1, t3.lt, blk_lt t2⟩
  have HZ4 := Aside0.mk hX
  have HX4 := Aside0.mk (LogX.below HX3.out hb)
  have HY4 := Aside0.mk (LogY.below HY3.out hb)
  have HB4 := Aside0.mk (HB3.out.trans (hb.mono HB3.out.size))
  have HO4 := kept_cell (base := 0) HO3.out hb
  have hs4 := hb.size
  clear hX hb
  go_wp2_with (fail)
  refine (ref20_Fork.calls _ q xs _ HY4.out).mono ?_
  rintro e_ w5 ⟨q2, rfl, hq2, hY, hb⟩
  have HV5 := Aside0.mk hY
  have HO5 := kept_cell (base := 0) HO4 hb
  have HZ5 := Aside0.mk (LogX.below HZ4.out hb)
  have HX5 := Aside0.mk (LogX.below HX4.out hb)
  have HY5 := Aside0.mk (LogY.below HY4.out hb)
  have HB5 := Aside0.mk (HB4.out.trans (hb.mono HB4.out.size))
  have hs5 := hb.size
  have hne : p ≠ p2 ∧ m ≠ m2 ∧ q ≠ q2 := ⟨by omega, by omega, by omega⟩
  obtain ⟨base, hbase⟩ : ∃ base, base = W2.heap.size := ⟨_, rfl⟩
  rw [← hbase] at HX5 HY5 HZ5 HV5
  have hbp : base ≤ p2 ∧ base ≤ m2 ∧ base ≤ q2 ∧ w.heap.size ≤ base := ⟨by omega, by omega, by omega, by omega⟩
  have hbl : w.heap.size < base := by omega
  have HBASE := Aside0.mk hbase
  clear hY hb hbase HO4
  go_wp2_with (fail)

  have HO5 := Aside0.mk HO5
  go_loopw [12] (fun vi wr => ∃ (i : Nat), i ≤ more.length ∧ i ≤ 30 ∧ vi = .int .i64 (i : Int) ∧ LogX wr base p m xs ∧ LogY wr base q xs ∧ LogX wr base p2 m2 (moreL ck xs (more.take i)) ∧ LogY wr base q2 (moreL ck xs (more.take i)) ∧ Below base w5 wr) (fun vi _ => 30 - (intOf vi).toNat)
  case atStart => exact ⟨0, Nat.zero_le _, Nat.zero_le _, rfl, HX5.out, HY5.out, by simpa [moreL, playL] using HZ5.out, by simpa [moreL, playL] using HV5.out, Below.refl _ _⟩
  case round =>
    obtain ⟨i, hi, hi30, rfl, hX, hY, hZ, hV, hB⟩ := hrel
    have hzl := HML.out i hi30
    have HXr := Aside0.mk hX
    have HYr := Aside0.mk hY
    have HZr := Aside0.mk hZ
    have HVr := Aside0.mk hV
    have HBr := Aside0.mk hB
    clear hX hY hZ hV hB
    by_cases hlt : i < more.length ∧ i < 30
    · obtain ⟨hlt, h30⟩ := hlt
      have hlt3 : decide ((i : Int) < (more.length : Int)) = true := decide_eq_true (by omega)
      have h303 : decide ((i : Int) < 30) = true := decide_eq_true (by omega)
      have hlt2 : ((i : Int) < (more.length : Int)) = True := eq_true (by omega)
      have hi0 : (0 ≤ (i : Int)) = True := eq_true (by omega)
      have HW : Aside0 (wrap64 ((i : Int) + 1) = ((i + 1 : Nat) : Int)) := ⟨by unfold wrap64; omega⟩
      obtain ⟨ad, hA, hx0, hx1, hx2, hx3, hx4, hx5⟩ := at_T40 HC1.out (i : Int) (by omega) (by omega)
      subst hA
      have hget : more[i]? = some (rd_T40 more (i : Int)) := by
        unfold rd_T40
        rw [Int.toNat_natCast, List.getD_eq_getElem?_getD, List.getElem?_eq_getElem hlt]
        rfl
      rw [Int.toNat_natCast] at hx0 hx1 hx2 hx3 hx4 hx5
      have HST := Aside0.mk (more_take ck xs more i hlt _ hget)
      have hwx := HWF1.out _ (List.mem_of_getElem? hget)
      have hck := HKA1.out _ (List.mem_of_getElem? hget)
      have hcr := HKR1.out _ (List.mem_of_getElem? hget)
      clear hget
      generalize rd_T40 more (i : Int) = x at hx0 hx1 hx2 hx3 hx4 hx5 HST hwx hck hcr
      obtain ⟨r, hr⟩ : ∃ r, r = ck x := ⟨_, rfl⟩
      rw [← hr] at hck hcr HST
      have HCA := Aside0.mk hck
      have HCR := Aside0.mk hcr
      have HWX := Aside0.mk hwx
      obtain ⟨zs, hzs⟩ : ∃ zs, zs = moreL ck xs (more.take i) := ⟨_, rfl⟩
      rw [← hzs] at HZr HVr hzl HST
      obtain ⟨Wd, hWd⟩ : ∃ Wd : World, Wd = wr.drew := ⟨_, rfl⟩
      have hdr : Below wr.heap.size wr Wd := by rw [hWd]; exact (Below.refl _ _).drew
      have HBd := Aside0.mk (HBr.out.drew)
      rw [← hWd] at HBd
      have HXd := Aside0.mk (LogX.below HXr.out hdr)
      have HYd := Aside0.mk (LogY.below HYr.out hdr)
      have HZd := Aside0.mk (LogX.below HZr.out hdr)
      have HVd := Aside0.mk (LogY.below HVr.out hdr)
      have HWD := Aside0.mk hWd
      have HE : Aside0 (∀ Y : World, Below base w5 Y → Y.cell? (ad.add (i * 6)) = some (.string x.f0) ∧ Y.cell? ⟨(ad.add (i * 6)).block, (ad.add (i * 6)).off + 1, none⟩ = some (.int .i64 x.f1.f0) ∧ Y.cell? ⟨(ad.add (i * 6)).block, (ad.add (i * 6)).off + 2, none⟩ = some (.int .u64 x.f1.f1) ∧ Y.cell? ⟨(ad.add (i * 6)).block, (ad.add (i * 6)).off + 3, none⟩ = some (.string x.f2) ∧ Y.cell? ⟨(ad.add (i * 6)).block, (ad.add (i * 6)).off + 4, none⟩ = some (.string x.f3) ∧ Y.cell? ⟨(ad.add (i * 6)).block, (ad.add (i * 6)).off + 5, none⟩ = some (.string x.f4)) := ⟨fun Y hY => by
        have hb := HB5.out.trans (hY.mono hbp.2.2.2)
        exact ⟨(hb.cell (World.block_lt_of_cell? _ _ hx0)).trans hx0, (hb.cell (World.block_lt_of_cell? _ _ hx1)).trans hx1, (hb.cell (World.block_lt_of_cell? _ _ hx2)).trans hx2, (hb.cell (World.block_lt_of_cell? _ _ hx3)).trans hx3, (hb.cell (World.block_lt_of_cell? _ _ hx4)).trans hx4, (hb.cell (World.block_lt_of_cell? _ _ hx5)).trans hx5⟩⟩
      clear hck hcr hwx hr hx0 hx1 hx2 hx3 hx4 hx5 hzs hdr hWd
      go_wp2
      refine start_ (n := 13) (S := fun w' => w'.cell? (ad.add (i * 6)) = some (.string x.f0) ∧ w'.cell? ⟨(ad.add (i * 6)).block, (ad.add (i * 6)).off + 1, none⟩ = some (.int .i64 x.f1.f0) ∧ w'.cell? ⟨(ad.add (i * 6)).block, (ad.add (i * 6)).off + 2, none⟩ = some (.int .u64 x.f1.f1) ∧ w'.cell? ⟨(ad.add (i * 6)).block, (ad.add (i * 6)).off + 3, none⟩ = some (.string x.f2) ∧ w'.cell? ⟨(ad.add (i * 6)).block, (ad.add (i * 6)).off + 4, none⟩ = some (.string x.f3) ∧ w'.cell? ⟨(ad.add (i * 6)).block, (ad.add (i * 6)).off + 5, none⟩ = some (.string x.f4)) (ds := []) (Sq.bl 13 0) (by kernel_rfl) rfl (by rfl) (by rw [← HWD.out]; exact HE.out _ HBd.out) (fun hS => ?_)
      rw [← HWD.out] at hS ⊢
      refine Sq.pu (v := ?_) (a' := ?_) 0 38 (Sq.bl 13 1) (by kernel_rfl) rfl rfl (fun _ _ _ h => h) (by rfl) ?_ ?_ ?_; rotate_left; (· intro w'; go_simp; with_reducible rfl); rotate_left; (· simp only [Act.put, List.setIfInBounds_toArray, List.set_cons_zero, List.set_cons_succ, i64_w, i32_w]; rfl)
      refine Sq.pu (v := ?_) (a' := ?_) 1 39 (Sq.bl 13 3) (by kernel_rfl) rfl rfl (fun _ _ _ h => h) (by rfl) ?_ ?_ ?_; rotate_left; (· intro w'; go_simp; with_reducible rfl); rotate_left; (· simp only [Act.put, List.setIfInBounds_toArray, List.set_cons_zero, List.set_cons_succ, i64_w, i32_w]; rfl)
      refine Sq.pu (v := ?_) (a' := ?_) 2 40 (Sq.bl 13 7) (by kernel_rfl) rfl rfl (fun _ _ _ h => h) (by rfl) ?_ ?_ ?_; rotate_left; (· intro w'; go_simp; with_reducible rfl); rotate_left; (· simp only [Act.put, List.setIfInBounds_toArray, List.set_cons_zero, List.set_cons_succ, i64_w, i32_w]; rfl)
      refine Sq.pu (v := ?_) (a' := ?_) 3 41 (Sq.bl 13 15) (by kernel_rfl) rfl rfl (fun _ _ _ h => h) (by rfl) ?_ ?_ ?_; rotate_left; (· intro w'; go_simp; with_reducible rfl); rotate_left; (· simp only [Act.put, List.setIfInBounds_toArray, List.set_cons_zero, List.set_cons_succ, i64_w, i32_w]; rfl)
      refine Sq.pu (v := ?_) (a' := ?_) 6 44 (Sq.bl 13 79) (by kernel_rfl) rfl rfl (fun _ _ _ h => h) (by rfl) ?_ ?_ ?_; rotate_left; (· intro w'; go_simp; with_reducible rfl); rotate_left; (· simp only [Act.put, List.setIfInBounds_toArray, List.set_cons_zero, List.set_cons_succ, i64_w, i32_w]; rfl)
      refine Sq.pu (v := ?_) (a' := ?_) 7 45 (Sq.bl 13 207) (by kernel_rfl) rfl rfl (fun _ _ _ h => h) (by rfl) ?_ ?_ ?_; rotate_left; (· intro w'; go_simp; with_reducible rfl); rotate_left; (· simp only [Act.put, List.setIfInBounds_toArray, List.set_cons_zero, List.set_cons_succ, i64_w, i32_w]; rfl)
      refine Sq.pu (v := ?_) (a' := ?_) 8 46 (Sq.bl 13 463) (by kernel_rfl) rfl rfl (fun _ _ _ h => h) (by rfl) ?_ ?_ ?_; rotate_left; (· intro w'; go_simp; with_reducible rfl); rotate_left; (· simp only [Act.put, List.setIfInBounds_toArray, List.set_cons_zero, List.set_cons_succ, i64_w, i32_w]; rfl)
      refine Sq.pu (v := ?_) (a' := ?_) 9 47 (Sq.bl 13 975) (by kernel_rfl) rfl rfl (fun _ _ _ h => h) (by rfl) ?_ ?_ ?_; rotate_left; (· intro w'; go_simp; with_reducible rfl); rotate_left; (· simp only [Act.put, List.setIfInBounds_toArray, List.set_cons_zero, List.set_cons_succ, i64_w, i32_w]; rfl)
      refine take_ (i := 4) (N := some 42) (v := ?_) (a' := ?_) (Sq.bl 13 991) rfl rfl (by kernel_rfl) (fun _ _ _ h => h) (Or.inl ⟨by rfl, ?_⟩) hS ?_ ?_; rotate_left; (· rintro w' ⟨s0, s1, s2, s3, s4, s5⟩; go_simp; with_reducible rfl); rotate_left; (· simp only [Act.put, List.setIfInBounds_toArray, List.set_cons_zero, List.set_cons_succ, i64_w, i32_w]; rfl)
      refine take_ (i := 10) (N := some 48) (v := ?_) (a' := ?_) (Sq.bl 13 2015) rfl rfl (by kernel_rfl) (fun _ _ _ h => h) (Or.inl ⟨by rfl, ?_⟩) hS ?_ ?_; rotate_left; (· rintro w' ⟨s0, s1, s2, s3, s4, s5⟩; go_simp; with_reducible rfl); rotate_left; (· simp only [Act.put, List.setIfInBounds_toArray, List.set_cons_zero, List.set_cons_succ, i64_w, i32_w]; rfl)
      refine one_ (i := 5) (N := some 43) (Sq.bl 13 2047) rfl rfl (by kernel_rfl) (by decide) (fun K hK => ?_)
      refine goes_ Tryd.func22 (by kernel_rfl) rfl #[.pointer (some ⟨p2, 0, none⟩), .agg #[.string x.f0, .int .i64 x.f1.f0, .int .u64 x.f1.f1, .string x.f2, .string x.f3, .string x.f4]] (by rfl) rfl rfl (by (try simp only [List.map_toArray, List.map_cons, List.map_nil]); first | done | rfl | skip) ?_
      refine (audit_Add.calls k base p2 m2 w5 zs x HWX.out _ HZd.out HBd.out hbp.1 hbp.2.1 (by omega) r HCA.out).mono ?_
      rintro e_ w8 ⟨rfl, hZ8, hB8, hs8, hf8⟩
      have hX8 := LogX.aside2 HXd.out HZd.out hf8 hne.1 hne.2.1
      have hY8 := LogY.aside HYd.out HZd.out hf8
      have hV8 := LogY.aside HVd.out HZd.out hf8
      refine ⟨_, rfl, hK.out _ _ (HE.out _ hB8) (fun hS => ?_)⟩
      clear hK K
      refine norm_ (a' := ?_) ?_ ?_
      rotate_left
      · show Act.put _ (some 43) _ = _
        simp only [Act.put, List.setIfInBounds_toArray, List.set_cons_zero, List.set_cons_succ, i64_w, i32_w]
        rfl
      refine one_ (i := 11) (N := some 49) (Sq.bl 13 4095) rfl rfl (by kernel_rfl) (by decide) (fun K hK => ?_)
      refine goes_ Tryd.func25 (by kernel_rfl) rfl #[.pointer (some ⟨q2, 0, none⟩), .agg #[.string x.f0, .int .i64 x.f1.f0, .int .u64 x.f1.f1, .string x.f2, .string x.f3, .string x.f4]] (by rfl) rfl rfl (by (try simp only [List.map_toArray, List.map_cons, List.map_nil]); first | done | rfl | skip) ?_
      refine (ref20_Add.calls k base q2 w5 zs x _ hV8 hB8 hbp.2.2.1 (by omega) r HCR.out).mono ?_
      rintro e_ w9 ⟨rfl, hV9, hB9, hs9, hf9⟩
      have hX9 := LogX.aside hX8 hV8 hf9
      have hZ9 := LogX.aside hZ8 hV8 hf9
      have hY9 := LogY.aside2 hY8 hV8 hf9 hne.2.2
      refine ⟨_, rfl, hK.out _ _ (HE.out _ hB9) (fun hS => ?_)⟩
      clear hK K
      refine norm_ (a' := ?_) ?_ ?_
      rotate_left
      · show Act.put _ (some 49) _ = _
        simp only [Act.put, List.setIfInBounds_toArray, List.set_cons_zero, List.set_cons_succ, i64_w, i32_w]
        rfl
      refine Sq.pu (v := ?_) (a' := ?_) 12 50 (Sq.bl 13 8191) (by kernel_rfl) rfl rfl (fun _ _ _ h => h) (by rfl) ?_ ?_ ?_; rotate_left; (· intro w'; go_simp; with_reducible rfl); rotate_left; (· simp only [Act.put, List.setIfInBounds_toArray, List.set_cons_zero, List.set_cons_succ, i64_w, i32_w]; rfl)
      refine done_ (by kernel_rfl) ?_
      have HF := Aside0.mk (And.intro hX9 (And.intro hY9 (And.intro hZ9 (And.intro hV9 hB9))))
      clear hX9 hY9 hZ9 hV9 hB9 hf9 hs9 hX8 hY8 hZ8 hV8 hB8 hf8 hs8 hS
      go_wp2
      go_roundw
      case rel => exact ⟨i + 1, by omega, by omega, by first | rfl | exact congrArg _ HW.out, HF.out.1, HF.out.2.1, by rw [HST.out]; exact HF.out.2.2.1, by rw [HST.out]; exact HF.out.2.2.2.1, HF.out.2.2.2.2⟩
      case measure => first | (rw [HW.out]; simp only [intOf, Int.toNat_natCast]; omega) | (simp only [intOf, Int.toNat_natCast]; omega)

    · have hin : i = more.length := by omega
      have hlt3 : decide ((i : Int) < (more.length : Int)) = false := decide_eq_false (by omega)
      have hdone : moreL ck xs (more.take i) = moreL ck xs (more.take 30) := by rw [List.take_of_length_le (by omega), List.take_of_length_le (by omega)]
      rename World => wo
      obtain ⟨zs, hzs⟩ : ∃ zs, zs = moreL ck xs (more.take 30) := ⟨_, rfl⟩
      rw [hdone] at HZr HVr hzl
      rw [← hzs] at HZr HVr hzl HSAME1
      have HLZ : Aside0 (∀ x ∈ zs, jalousieref02_Below.f k x.f1.f0 x.f1.f1 o.f0 o.f1 = some (lowB x.f1 o)) := ⟨fun x hx => by
        rw [hzs] at hx
        unfold moreL at hx
        rcases List.mem_append.1 hx with h | h
        · exact HLW.out x (HIN.out x h)
        · exact HLW1.out x (List.mem_of_mem_take (List.mem_filter.1 h).1)⟩
      have HOr := Aside0.mk ((HBr.out.block _ (by omega)).trans HO5.out)
      have HBW6 := Aside0.mk (HB5.out.trans (HBr.out.mono hbp.2.2.2))
      have hpo : p < wo.heap.size := by
        obtain ⟨_, _, t1, _⟩ := HXr.out
        exact blk_lt t1
      have hko0 := (blk_cell HOr.out 0).trans rfl
      have hko1 := (blk_cell HOr.out 1).trans rfl
      clear hzs hdone
      go_wp2_with (fail)
      refine (audit_Seen.calls _ p m xs o _ HXr.out (by omega)).mono ?_
      rintro e_ w7 ⟨vs, rfl, hR7, hb7⟩
      obtain ⟨ys, hys⟩ : ∃ ys, ys = seenL o xs := ⟨_, rfl⟩
      have hyl : ys.length ≤ 60 := by rw [hys]; exact Nat.le_trans (List.length_filter_le _ _) hxl
      rw [← hys] at hR7
      have HYS := Aside0.mk hys
      obtain ⟨A7, c7, ev⟩ := Kd.R_slice hR7
      subst ev
      have hg7 : ∃ g, 0 < ys.length → A7 = some ⟨g, 0, none⟩ ∧ wo.heap.size ≤ g ∧ ∃ cs, w7.heap[g]? = some (.cells cs 40 (0, 0)) ∧ ys.length * 6 ≤ cs.size := by
        by_cases h0 : 0 < ys.length
        · obtain ⟨g, cap, e1, e2, e3, cs, e4⟩ := Kd.R_form hR7 h0
          refine ⟨g, fun _ => ⟨by injection e1, e2, cs, e4, ?_⟩⟩
          obtain ⟨ad, hA, hx0, hx1, hx2, hx3, hx4, hx5⟩ := at_T40 (Kd.R_reads' hR7).2.2 ((ys.length - 1 : Nat) : Int) (by omega) (by omega)
          obtain rfl : ad = ⟨g, 0, none⟩ := by
            rw [hA] at e1
            injection e1 with e1
            injection e1
          rw [Int.toNat_natCast, Addr.add_lit, Nat.zero_add] at hx5
          have h5 := (blk_cell e4 _).symm.trans hx5
          have h6 : (ys.length - 1) * 6 + 5 < cs.size := (Array.getElem?_eq_some_iff.1 h5).1
          omega
        · exact ⟨0, fun h => absurd h h0⟩
      obtain ⟨g, hg7⟩ := hg7
      have HG7 := Aside0.mk hg7
      have HB7 := Aside0.mk hb7
      have hs7 := hb7.size
      clear hys hR7 hg7 hb7 hko0 hko1
      go_wp2_with (fail)
      go_loopw [14] (fun vi wq => ∃ (j : Nat), j ≤ ys.length ∧ vi = .int .i64 (j : Int) ∧ (0 < ys.length → ∃ cs, wq.heap[g]? = some (.cells cs 40 (0, 0)) ∧ ys.length * 6 ≤ cs.size) ∧ Below wo.heap.size wo wq) (fun vi _ => ys.length - (intOf vi).toNat)
      case atStart => exact ⟨0, Nat.zero_le _, rfl, fun h => (HG7.out h).2.2, HB7.out⟩
      case round =>
        obtain ⟨j, hj, rfl, hcs, hBq⟩ := hrel
        have HBq := Aside0.mk hBq
        clear hBq
        by_cases hlt : j < ys.length
        · have hlt3 : decide ((j : Int) < (ys.length : Int)) = true := decide_eq_true (by omega)
          have hlt2 : ((j : Int) < (ys.length : Int)) = True := eq_true (by omega)
          have hi0 : (0 ≤ (j : Int)) = True := eq_true (by omega)
          have HW : Aside0 (wrap64 ((j : Int) + 1) = ((j + 1 : Nat) : Int)) := ⟨by unfold wrap64; omega⟩
          obtain ⟨cs, hcb, hcz⟩ := hcs (by omega)
          obtain ⟨hA7, hg2, _⟩ := HG7.out (by omega)
          subst hA7
          have hcell : wr.cell? ⟨g, j * 6, none⟩ = some (cs[j * 6]'(by omega)) := (blk_cell hcb _).trans (Array.getElem?_eq_getElem _)
          have hfrz := blk_frozen hcb (j * 6)
          have HCB := Aside0.mk hcb
          clear hcs hcb
          go_wp2
          go_roundw
          case rel =>
            refine ⟨j + 1, by omega, by first | rfl | exact congrArg _ HW.out, fun _ => ⟨_, blk_put HCB.out (j * 6) _ rfl, by rw [Array.size_setIfInBounds]; exact hcz⟩, HBq.out.setCell (by exact hg2) _⟩
          case measure => first | (rw [HW.out]; simp only [intOf, Int.toNat_natCast]; omega) | (simp only [intOf, Int.toNat_natCast]; omega)
        · obtain rfl : j = ys.length := by omega
          have hlt2 : ((ys.length : Int) < (ys.length : Int)) = False := eq_false (by omega)
          have hlt3 : decide ((ys.length : Int) < (ys.length : Int)) = false := decide_eq_false (by omega)
          clear hcs
          obtain ⟨W8, hW8⟩ : ∃ W8 : World, W8 = wr.drew := ⟨_, rfl⟩
          have HW8 := Aside0.mk hW8
          have HB8 : Aside0 (Below wo.heap.size wo W8) := ⟨by rw [hW8]; exact HBq.out.drew⟩
          have HX8 := Aside0.mk (LogX.below HXr.out HB8.out)
          have HY8 := Aside0.mk (LogY.below HYr.out HB8.out)
          have HZ8 := Aside0.mk (LogX.below HZr.out HB8.out)
          have HV8 := Aside0.mk (LogY.below HVr.out HB8.out)
          have hO8 := kept_cell (base := 0) HOr.out HB8.out
          have HBW8 := Aside0.mk (HBW6.out.trans (HB8.out.mono HBW6.out.size))
          have HS : Aside0 (∀ Y : World, Below W8.heap.size W8 Y → Y.cell? ⟨w.heap.size, 0, none⟩ = some (.int .i64 o.f0) ∧ Y.cell? ⟨w.heap.size, 1, none⟩ = some (.int .u64 o.f1)) := ⟨fun Y hY => ⟨(blk_cell (kept_cell (base := 0) hO8 hY) 0).trans rfl, (blk_cell (kept_cell (base := 0) hO8 hY) 1).trans rfl⟩⟩
          have HLX : Aside0 (∀ x ∈ xs, jalousieref02_Below.f k x.f1.f0 x.f1.f1 o.f0 o.f1 = some (lowB x.f1 o)) := ⟨fun x hx => HLW.out x (HIN.out x hx)⟩
          obtain ⟨n1, hn1⟩ : ∃ n, n = logCnt o xs := ⟨_, rfl⟩
          obtain ⟨n2, hn2⟩ : ∃ n, n = logCnt o zs := ⟨_, rfl⟩
          obtain ⟨us, hus⟩ : ∃ us, us = seenL o zs := ⟨_, rfl⟩
          have HOX := Aside0.mk (fun (Y : World) (hY : Below W8.heap.size W8 Y) => audit_Of.calls _ p m xs o HOWF.out Y (LogX.below HX8.out hY))
          have HOY := Aside0.mk (fun (Y : World) (hY : Below W8.heap.size W8 Y) => ref20_Of.calls _ q xs o Y (LogY.below HY8.out hY) (by omega))
          have HOZ := Aside0.mk (fun (Y : World) (hY : Below W8.heap.size W8 Y) => audit_Of.calls _ p2 m2 zs o HOWF.out Y (LogX.below HZ8.out hY))
          have HOV := Aside0.mk (fun (Y : World) (hY : Below W8.heap.size W8 Y) => ref20_Of.calls _ q2 zs o Y (LogY.below HV8.out hY) (by omega))
          have HSX := Aside0.mk (fun (Y : World) (hY : Below W8.heap.size W8 Y) => audit_Seen.calls _ p m xs o Y (LogX.below HX8.out hY) (by omega))
          have HSY := Aside0.mk (fun (Y : World) (hY : Below W8.heap.size W8 Y) => ref20_Seen.calls k _ q xs o Y (LogY.below HY8.out hY) (by omega) HLX.out)
          have HSZ := Aside0.mk (fun (Y : World) (hY : Below W8.heap.size W8 Y) => audit_Seen.calls _ p2 m2 zs o Y (LogX.below HZ8.out hY) (by omega))
          have HSV := Aside0.mk (fun (Y : World) (hY : Below W8.heap.size W8 Y) => ref20_Seen.calls k _ q2 zs o Y (LogY.below HV8.out hY) (by omega) HLZ.out)
          simp only [← hn1, ← hn2] at HOX HOY HOZ HOV
          rw [← HYS.out] at HSAME
          rw [← hus] at HSAME1
          simp only [← hus, ← HYS.out] at HSX HSY HSZ HSV
          have hw0 : wrap64 0 = 0 := by unfold wrap64; omega
          clear hW8 hO8 hn1 hn2 hus
          go_wp2
          refine start_ (n := 74) (S := fun w' => w'.cell? ⟨w.heap.size, 0, none⟩ = some (.int .i64 o.f0) ∧ w'.cell? ⟨w.heap.size, 1, none⟩ = some (.int .u64 o.f1)) (ds := []) (Sq.bl 74 0) (by kernel_rfl) rfl (by rfl) (by rw [← HW8.out]; exact HS.out _ (Below.refl _ _)) (fun hS => ?_)
          refine with_tabW forks_tab forks_bits (fun HT_ HW_ => ?_)
          rw [← HW8.out] at hS ⊢
          refine one_ (i := 0) (N := some 64) (Sq.bl 74 1) rfl rfl (one_of HT_.out (by kernel_rfl)) (by decide) (fun K hK => ?_)
          refine goes_ Tryd.func12 (by kernel_rfl) rfl #[] (by rfl) rfl rfl (by (try simp only [List.map_toArray, List.map_cons, List.map_nil]); first | done | rfl | skip) ?_
          refine (live.calls k HA.out.1 HA.out.2 _ (TabOk.below HT.out HBW8.out)).mono ?_
          rintro e_ v0 ⟨rfl, h0⟩
          have g0 := below_step (Below.refl _ _) h0
          refine ⟨_, rfl, hK.out _ _ (HS.out _ g0) (fun hS => ?_)⟩
          clear hK K
          refine norm_ (a' := ?_) ?_ ?_
          rotate_left
          · show Act.put _ (some 64) _ = _
            simp only [Act.put, List.setIfInBounds_toArray, List.set_cons_zero, List.set_cons_succ, i64_w, i32_w, hw0, Int.add_zero, Int.ofNat_zero, beq_self_eq_true]
            rfl
          refine Sq.pu (v := ?_) (a' := ?_) 1 65 (Sq.bl 74 3) (any_of HT_.out (by kernel_rfl)) rfl rfl (fun _ _ _ h => h) (by rfl) ?_ ?_ ?_; rotate_left; (· intro w'; go_simp; with_reducible rfl); rotate_left; (· simp only [Act.put, List.setIfInBounds_toArray, List.set_cons_zero, List.set_cons_succ, i64_w, i32_w, hw0, Int.add_zero, Int.ofNat_zero, beq_self_eq_true]; rfl)
          refine Sq.pu (v := ?_) (a' := ?_) 2 66 (Sq.bl 74 7) (any_of HT_.out (by kernel_rfl)) rfl rfl (fun _ _ _ h => h) (by rfl) ?_ ?_ ?_; rotate_left; (· intro w'; go_simp; with_reducible rfl); rotate_left; (· simp only [Act.put, List.setIfInBounds_toArray, List.set_cons_zero, List.set_cons_succ, i64_w, i32_w, hw0, Int.add_zero, Int.ofNat_zero, beq_self_eq_true]; rfl)
          refine Sq.pu (v := ?_) (a' := ?_) 5 69 (Sq.bl 74 39) (any_of HT_.out (by kernel_rfl)) rfl rfl (fun _ _ _ h => h) (by rfl) ?_ ?_ ?_; rotate_left; (· intro w'; go_simp; with_reducible rfl); rotate_left; (· simp only [Act.put, List.setIfInBounds_toArray, List.set_cons_zero, List.set_cons_succ, i64_w, i32_w, hw0, Int.add_zero, Int.ofNat_zero, beq_self_eq_true]; rfl)
          refine take_ (i := 3) (N := some 67) (v := ?_) (a' := ?_) (Sq.bl 74 47) rfl rfl (take_ofW HT_.out HW_.out (by kernel_rfl)) (fun _ _ _ h => h) (Or.inl ⟨by rfl, ?_⟩) hS ?_ ?_; rotate_left; (· rintro w' ⟨s0, s1⟩; go_simp; with_reducible rfl); rotate_left; (· simp only [Act.put, List.setIfInBounds_toArray, List.set_cons_zero, List.set_cons_succ, i64_w, i32_w, hw0, Int.add_zero, Int.ofNat_zero, beq_self_eq_true]; rfl)
          refine take_ (i := 6) (N := some 70) (v := ?_) (a' := ?_) (Sq.bl 74 111) rfl rfl (take_ofW HT_.out HW_.out (by kernel_rfl)) (fun _ _ _ h => h) (Or.inl ⟨by rfl, ?_⟩) hS ?_ ?_; rotate_left; (· rintro w' ⟨s0, s1⟩; go_simp; with_reducible rfl); rotate_left; (· simp only [Act.put, List.setIfInBounds_toArray, List.set_cons_zero, List.set_cons_succ, i64_w, i32_w, hw0, Int.add_zero, Int.ofNat_zero, beq_self_eq_true]; rfl)
          refine one_ (i := 4) (N := some 68) (Sq.bl 74 127) rfl rfl (one_of HT_.out (by kernel_rfl)) (by decide) (fun K hK => ?_)
          refine goes_ Tryd.func17 (by kernel_rfl) rfl #[.pointer (some ⟨p, 0, none⟩), .agg #[.int .i64 o.f0, .int .u64 o.f1]] (by rfl) rfl rfl (by (try simp only [List.map_toArray, List.map_cons, List.map_nil]); first | done | rfl | skip) ?_
          refine (HSX.out _ g0).mono ?_
          rintro e_ v4 ⟨vs, rfl, hR4, h4⟩
          obtain ⟨A4, c4, ev⟩ := Kd.R_slice hR4
          subst ev
          have g4 := below_step g0 h4
          refine ⟨_, rfl, hK.out _ _ (HS.out _ g4) (fun hS => ?_)⟩
          clear hK K
          refine norm_ (a' := ?_) ?_ ?_
          rotate_left
          · show Act.put _ (some 68) _ = _
            simp only [Act.put, List.setIfInBounds_toArray, List.set_cons_zero, List.set_cons_succ, i64_w, i32_w, hw0, Int.add_zero, Int.ofNat_zero, beq_self_eq_true]
            rfl
          refine one_ (i := 7) (N := some 71) (Sq.bl 74 255) rfl rfl (one_of HT_.out (by kernel_rfl)) (by decide) (fun K hK => ?_)
          refine goes_ Tryd.func18 (by kernel_rfl) rfl #[.pointer (some ⟨q, 0, none⟩), .agg #[.int .i64 o.f0, .int .u64 o.f1]] (by rfl) rfl rfl (by (try simp only [List.map_toArray, List.map_cons, List.map_nil]); first | done | rfl | skip) ?_
          refine (HSY.out _ g4).mono ?_
          rintro e_ v7 ⟨vs, rfl, hR7, h7⟩
          obtain ⟨A7, c7, ev⟩ := Kd.R_slice hR7
          subst ev
          have g7 := below_step g4 h7
          refine ⟨_, rfl, hK.out _ _ (HS.out _ g7) (fun hS => ?_)⟩
          clear hK K
          refine norm_ (a' := ?_) ?_ ?_
          rotate_left
          · show Act.put _ (some 71) _ = _
            simp only [Act.put, List.setIfInBounds_toArray, List.set_cons_zero, List.set_cons_succ, i64_w, i32_w, hw0, Int.add_zero, Int.ofNat_zero, beq_self_eq_true]
            rfl
          refine one_ (i := 8) (N := some 72) (Sq.bl 74 511) rfl rfl (one_of HT_.out (by kernel_rfl)) (by decide) (fun K hK => ?_)
          refine goes_ Tryd.func16 (by kernel_rfl) rfl #[.slice A4 ys.length c4, .slice A7 ys.length c7] (by rfl) rfl rfl (by (try simp only [List.map_toArray, List.map_cons, List.map_nil]); first | done | rfl | skip) ?_
          have HRa8 := Aside0.mk (Kd.R_reads' (Kd.R_below hR4 h7))
          have HRb8 := Aside0.mk (Kd.R_reads' hR7)
          clear hR4 hR7
          refine (jalousieref20_Same.calls k A4 c4 ys A7 c7 ys true _ HRa8.out.2.2 HRa8.out.2.1 HRb8.out.2.2 HRb8.out.2.1 HSAME.out).mono ?_
          rintro e_ v8 ⟨rfl, h8⟩
          have g8 := below_step g7 h8.below
          refine ⟨_, rfl, hK.out _ _ (HS.out _ g8) (fun hS => ?_)⟩
          clear hK K
          refine norm_ (a' := ?_) ?_ ?_
          rotate_left
          · show Act.put _ (some 72) _ = _
            simp only [Act.put, List.setIfInBounds_toArray, List.set_cons_zero, List.set_cons_succ, i64_w, i32_w, hw0, Int.add_zero, Int.ofNat_zero, beq_self_eq_true]
            rfl
          refine Sq.pu (v := ?_) (a' := ?_) 9 73 (Sq.bl 74 1023) (any_of HT_.out (by kernel_rfl)) rfl rfl (fun _ _ _ h => h) (by rfl) ?_ ?_ ?_; rotate_left; (· intro w'; go_simp; with_reducible rfl); rotate_left; (· simp only [Act.put, List.setIfInBounds_toArray, List.set_cons_zero, List.set_cons_succ, i64_w, i32_w, hw0, Int.add_zero, Int.ofNat_zero, beq_self_eq_true]; rfl)
          refine Sq.pu (v := ?_) (a' := ?_) 10 74 (Sq.bl 74 2047) (any_of HT_.out (by kernel_rfl)) rfl rfl (fun _ _ _ h => h) (by rfl) ?_ ?_ ?_; rotate_left; (· intro w'; go_simp; with_reducible rfl); rotate_left; (· simp only [Act.put, List.setIfInBounds_toArray, List.set_cons_zero, List.set_cons_succ, i64_w, i32_w, hw0, Int.add_zero, Int.ofNat_zero, beq_self_eq_true]; rfl)
          refine Sq.pu (v := ?_) (a' := ?_) 11 75 (Sq.bl 74 4095) (any_of HT_.out (by kernel_rfl)) rfl rfl (fun _ _ _ h => h) (by rfl) ?_ ?_ ?_; rotate_left; (· intro w'; go_simp; with_reducible rfl); rotate_left; (· simp only [Act.put, List.setIfInBounds_toArray, List.set_cons_zero, List.set_cons_succ, i64_w, i32_w, hw0, Int.add_zero, Int.ofNat_zero, beq_self_eq_true]; rfl)
          refine Sq.pu (v := ?_) (a' := ?_) 14 78 (Sq.bl 74 20479) (any_of HT_.out (by kernel_rfl)) rfl rfl (fun _ _ _ h => h) (by rfl) ?_ ?_ ?_; rotate_left; (· intro w'; go_simp; with_reducible rfl); rotate_left; (· simp only [Act.put, List.setIfInBounds_toArray, List.set_cons_zero, List.set_cons_succ, i64_w, i32_w, hw0, Int.add_zero, Int.ofNat_zero, beq_self_eq_true]; rfl)
          refine take_ (i := 12) (N := some 76) (v := ?_) (a' := ?_) (Sq.bl 74 24575) rfl rfl (take_ofW HT_.out HW_.out (by kernel_rfl)) (fun _ _ _ h => h) (Or.inl ⟨by rfl, ?_⟩) hS ?_ ?_; rotate_left; (· rintro w' ⟨s0, s1⟩; go_simp; with_reducible rfl); rotate_left; (· simp only [Act.put, List.setIfInBounds_toArray, List.set_cons_zero, List.set_cons_succ, i64_w, i32_w, hw0, Int.add_zero, Int.ofNat_zero, beq_self_eq_true]; rfl)
          refine take_ (i := 15) (N := some 79) (v := ?_) (a' := ?_) (Sq.bl 74 57343) rfl rfl (take_ofW HT_.out HW_.out (by kernel_rfl)) (fun _ _ _ h => h) (Or.inl ⟨by rfl, ?_⟩) hS ?_ ?_; rotate_left; (· rintro w' ⟨s0, s1⟩; go_simp; with_reducible rfl); rotate_left; (· simp only [Act.put, List.setIfInBounds_toArray, List.set_cons_zero, List.set_cons_succ, i64_w, i32_w, hw0, Int.add_zero, Int.ofNat_zero, beq_self_eq_true]; rfl)
          refine one_ (i := 13) (N := some 77) (Sq.bl 74 65535) rfl rfl (one_of HT_.out (by kernel_rfl)) (by decide) (fun K hK => ?_)
          refine goes_ Tryd.func17 (by kernel_rfl) rfl #[.pointer (some ⟨p2, 0, none⟩), .agg #[.int .i64 o.f0, .int .u64 o.f1]] (by rfl) rfl rfl (by (try simp only [List.map_toArray, List.map_cons, List.map_nil]); first | done | rfl | skip) ?_
          refine (HSZ.out _ g8).mono ?_
          rintro e_ v13 ⟨vs, rfl, hR13, h13⟩
          obtain ⟨A13, c13, ev⟩ := Kd.R_slice hR13
          subst ev
          have g13 := below_step g8 h13
          refine ⟨_, rfl, hK.out _ _ (HS.out _ g13) (fun hS => ?_)⟩
          clear hK K
          refine norm_ (a' := ?_) ?_ ?_
          rotate_left
          · show Act.put _ (some 77) _ = _
            simp only [Act.put, List.setIfInBounds_toArray, List.set_cons_zero, List.set_cons_succ, i64_w, i32_w, hw0, Int.add_zero, Int.ofNat_zero, beq_self_eq_true]
            rfl
          refine one_ (i := 16) (N := some 80) (Sq.bl 74 131071) rfl rfl (one_of HT_.out (by kernel_rfl)) (by decide) (fun K hK => ?_)
          refine goes_ Tryd.func18 (by kernel_rfl) rfl #[.pointer (some ⟨q2, 0, none⟩), .agg #[.int .i64 o.f0, .int .u64 o.f1]] (by rfl) rfl rfl (by (try simp only [List.map_toArray, List.map_cons, List.map_nil]); first | done | rfl | skip) ?_
          refine (HSV.out _ g13).mono ?_
          rintro e_ v16 ⟨vs, rfl, hR16, h16⟩
          obtain ⟨A16, c16, ev⟩ := Kd.R_slice hR16
          subst ev
          have g16 := below_step g13 h16
          refine ⟨_, rfl, hK.out _ _ (HS.out _ g16) (fun hS => ?_)⟩
          clear hK K
          refine norm_ (a' := ?_) ?_ ?_
          rotate_left
          · show Act.put _ (some 80) _ = _
            simp only [Act.put, List.setIfInBounds_toArray, List.set_cons_zero, List.set_cons_succ, i64_w, i32_w, hw0, Int.add_zero, Int.ofNat_zero, beq_self_eq_true]
            rfl
          refine one_ (i := 17) (N := some 81) (Sq.bl 74 262143) rfl rfl (one_of HT_.out (by kernel_rfl)) (by decide) (fun K hK => ?_)
          refine goes_ Tryd.func16 (by kernel_rfl) rfl #[.slice A13 us.length c13, .slice A16 us.length c16] (by rfl) rfl rfl (by (try simp only [List.map_toArray, List.map_cons, List.map_nil]); first | done | rfl | skip) ?_
          have HRa17 := Aside0.mk (Kd.R_reads' (Kd.R_below hR13 h16))
          have HRb17 := Aside0.mk (Kd.R_reads' hR16)
          clear hR13 hR16
          refine (jalousieref20_Same.calls k A13 c13 us A16 c16 us true _ HRa17.out.2.2 HRa17.out.2.1 HRb17.out.2.2 HRb17.out.2.1 HSAME1.out).mono ?_
          rintro e_ v17 ⟨rfl, h17⟩
          have g17 := below_step g16 h17.below
          refine ⟨_, rfl, hK.out _ _ (HS.out _ g17) (fun hS => ?_)⟩
          clear hK K
          refine norm_ (a' := ?_) ?_ ?_
          rotate_left
          · show Act.put _ (some 81) _ = _
            simp only [Act.put, List.setIfInBounds_toArray, List.set_cons_zero, List.set_cons_succ, i64_w, i32_w, hw0, Int.add_zero, Int.ofNat_zero, beq_self_eq_true]
            rfl
          refine Sq.pu (v := ?_) (a' := ?_) 18 82 (Sq.bl 74 524287) (any_of HT_.out (by kernel_rfl)) rfl rfl (fun _ _ _ h => h) (by rfl) ?_ ?_ ?_; rotate_left; (· intro w'; go_simp; with_reducible rfl); rotate_left; (· simp only [Act.put, List.setIfInBounds_toArray, List.set_cons_zero, List.set_cons_succ, i64_w, i32_w, hw0, Int.add_zero, Int.ofNat_zero, beq_self_eq_true]; rfl)
          refine Sq.pu (v := ?_) (a' := ?_) 19 83 (Sq.bl 74 1048575) (any_of HT_.out (by kernel_rfl)) rfl rfl (fun _ _ _ h => h) (by rfl) ?_ ?_ ?_; rotate_left; (· intro w'; go_simp; with_reducible rfl); rotate_left; (· simp only [Act.put, List.setIfInBounds_toArray, List.set_cons_zero, List.set_cons_succ, i64_w, i32_w, hw0, Int.add_zero, Int.ofNat_zero, beq_self_eq_true]; rfl)
          refine Sq.pu (v := ?_) (a' := ?_) 20 84 (Sq.bl 74 2097151) (any_of HT_.out (by kernel_rfl)) rfl rfl (fun _ _ _ h => h) (by rfl) ?_ ?_ ?_; rotate_left; (· intro w'; go_simp; with_reducible rfl); rotate_left; (· simp only [Act.put, List.setIfInBounds_toArray, List.set_cons_zero, List.set_cons_succ, i64_w, i32_w, hw0, Int.add_zero, Int.ofNat_zero, beq_self_eq_true]; rfl)
          refine Sq.pu (v := ?_) (a' := ?_) 23 87 (Sq.bl 74 10485759) (any_of HT_.out (by kernel_rfl)) rfl rfl (fun _ _ _ h => h) (by rfl) ?_ ?_ ?_; rotate_left; (· intro w'; go_simp; with_reducible rfl); rotate_left; (· simp only [Act.put, List.setIfInBounds_toArray, List.set_cons_zero, List.set_cons_succ, i64_w, i32_w, hw0, Int.add_zero, Int.ofNat_zero, beq_self_eq_true]; rfl)
          refine take_ (i := 21) (N := some 85) (v := ?_) (a' := ?_) (Sq.bl 74 12582911) rfl rfl (take_ofW HT_.out HW_.out (by kernel_rfl)) (fun _ _ _ h => h) (Or.inl ⟨by rfl, ?_⟩) hS ?_ ?_; rotate_left; (· rintro w' ⟨s0, s1⟩; go_simp; with_reducible rfl); rotate_left; (· simp only [Act.put, List.setIfInBounds_toArray, List.set_cons_zero, List.set_cons_succ, i64_w, i32_w, hw0, Int.add_zero, Int.ofNat_zero, beq_self_eq_true]; rfl)
          refine take_ (i := 24) (N := some 88) (v := ?_) (a' := ?_) (Sq.bl 74 29360127) rfl rfl (take_ofW HT_.out HW_.out (by kernel_rfl)) (fun _ _ _ h => h) (Or.inl ⟨by rfl, ?_⟩) hS ?_ ?_; rotate_left; (· rintro w' ⟨s0, s1⟩; go_simp; with_reducible rfl); rotate_left; (· simp only [Act.put, List.setIfInBounds_toArray, List.set_cons_zero, List.set_cons_succ, i64_w, i32_w, hw0, Int.add_zero, Int.ofNat_zero, beq_self_eq_true]; rfl)
          refine one_ (i := 22) (N := some 86) (Sq.bl 74 33554431) rfl rfl (one_of HT_.out (by kernel_rfl)) (by decide) (fun K hK => ?_)
          refine goes_ Tryd.func13 (by kernel_rfl) rfl #[.pointer (some ⟨p, 0, none⟩), .agg #[.int .i64 o.f0, .int .u64 o.f1]] (by rfl) rfl rfl (by (try simp only [List.map_toArray, List.map_cons, List.map_nil]); first | done | rfl | skip) ?_
          refine (HOX.out _ g17).mono ?_
          rintro e_ v22 ⟨rfl, h22⟩
          have g22 := below_step g17 h22
          refine ⟨_, rfl, hK.out _ _ (HS.out _ g22) (fun hS => ?_)⟩
          clear hK K
          refine norm_ (a' := ?_) ?_ ?_
          rotate_left
          · show Act.put _ (some 86) _ = _
            simp only [Act.put, List.setIfInBounds_toArray, List.set_cons_zero, List.set_cons_succ, i64_w, i32_w, hw0, Int.add_zero, Int.ofNat_zero, beq_self_eq_true]
            rfl
          refine one_ (i := 25) (N := some 89) (Sq.bl 74 67108863) rfl rfl (one_of HT_.out (by kernel_rfl)) (by decide) (fun K hK => ?_)
          refine goes_ Tryd.func14 (by kernel_rfl) rfl #[.pointer (some ⟨q, 0, none⟩), .agg #[.int .i64 o.f0, .int .u64 o.f1]] (by rfl) rfl rfl (by (try simp only [List.map_toArray, List.map_cons, List.map_nil]); first | done | rfl | skip) ?_
          refine (HOY.out _ g22).mono ?_
          rintro e_ v25 ⟨rfl, h25⟩
          have g25 := below_step g22 h25
          refine ⟨_, rfl, hK.out _ _ (HS.out _ g25) (fun hS => ?_)⟩
          clear hK K
          refine norm_ (a' := ?_) ?_ ?_
          rotate_left
          · show Act.put _ (some 89) _ = _
            simp only [Act.put, List.setIfInBounds_toArray, List.set_cons_zero, List.set_cons_succ, i64_w, i32_w, hw0, Int.add_zero, Int.ofNat_zero, beq_self_eq_true]
            rfl
          refine Sq.pu (v := ?_) (a' := ?_) 26 90 (Sq.bl 74 134217727) (any_of HT_.out (by kernel_rfl)) rfl rfl (fun _ _ _ h => h) (by rfl) ?_ ?_ ?_; rotate_left; (· intro w'; go_simp; with_reducible rfl); rotate_left; (· simp only [Act.put, List.setIfInBounds_toArray, List.set_cons_zero, List.set_cons_succ, i64_w, i32_w, hw0, Int.add_zero, Int.ofNat_zero, beq_self_eq_true]; rfl)
          refine Sq.pu (v := ?_) (a' := ?_) 27 91 (Sq.bl 74 268435455) (any_of HT_.out (by kernel_rfl)) rfl rfl (fun _ _ _ h => h) (by rfl) ?_ ?_ ?_; rotate_left; (· intro w'; go_simp; with_reducible rfl); rotate_left; (· simp only [Act.put, List.setIfInBounds_toArray, List.set_cons_zero, List.set_cons_succ, i64_w, i32_w, hw0, Int.add_zero, Int.ofNat_zero, beq_self_eq_true]; rfl)
          refine Sq.pu (v := ?_) (a' := ?_) 28 92 (Sq.bl 74 536870911) (any_of HT_.out (by kernel_rfl)) rfl rfl (fun _ _ _ h => h) (by rfl) ?_ ?_ ?_; rotate_left; (· intro w'; go_simp; with_reducible rfl); rotate_left; (· simp only [Act.put, List.setIfInBounds_toArray, List.set_cons_zero, List.set_cons_succ, i64_w, i32_w, hw0, Int.add_zero, Int.ofNat_zero, beq_self_eq_true]; rfl)
          refine Sq.pu (v := ?_) (a' := ?_) 29 93 (Sq.bl 74 1073741823) (any_of HT_.out (by kernel_rfl)) rfl rfl (fun _ _ _ h => h) (by rfl) ?_ ?_ ?_; rotate_left; (· intro w'; go_simp; with_reducible rfl); rotate_left; (· simp only [Act.put, List.setIfInBounds_toArray, List.set_cons_zero, List.set_cons_succ, i64_w, i32_w, hw0, Int.add_zero, Int.ofNat_zero, beq_self_eq_true]; rfl)
          refine Sq.pu (v := ?_) (a' := ?_) 32 96 (Sq.bl 74 5368709119) (any_of HT_.out (by kernel_rfl)) rfl rfl (fun _ _ _ h => h) (by rfl) ?_ ?_ ?_; rotate_left; (· intro w'; go_simp; with_reducible rfl); rotate_left; (· simp only [Act.put, List.setIfInBounds_toArray, List.set_cons_zero, List.set_cons_succ, i64_w, i32_w, hw0, Int.add_zero, Int.ofNat_zero, beq_self_eq_true]; rfl)
          refine take_ (i := 30) (N := some 94) (v := ?_) (a' := ?_) (Sq.bl 74 6442450943) rfl rfl (take_ofW HT_.out HW_.out (by kernel_rfl)) (fun _ _ _ h => h) (Or.inl ⟨by rfl, ?_⟩) hS ?_ ?_; rotate_left; (· rintro w' ⟨s0, s1⟩; go_simp; with_reducible rfl); rotate_left; (· simp only [Act.put, List.setIfInBounds_toArray, List.set_cons_zero, List.set_cons_succ, i64_w, i32_w, hw0, Int.add_zero, Int.ofNat_zero, beq_self_eq_true]; rfl)
          refine take_ (i := 33) (N := some 97) (v := ?_) (a' := ?_) (Sq.bl 74 15032385535) rfl rfl (take_ofW HT_.out HW_.out (by kernel_rfl)) (fun _ _ _ h => h) (Or.inl ⟨by rfl, ?_⟩) hS ?_ ?_; rotate_left; (· rintro w' ⟨s0, s1⟩; go_simp; with_reducible rfl); rotate_left; (· simp only [Act.put, List.setIfInBounds_toArray, List.set_cons_zero, List.set_cons_succ, i64_w, i32_w, hw0, Int.add_zero, Int.ofNat_zero, beq_self_eq_true]; rfl)
          refine one_ (i := 31) (N := some 95) (Sq.bl 74 17179869183) rfl rfl (one_of HT_.out (by kernel_rfl)) (by decide) (fun K hK => ?_)
          refine goes_ Tryd.func13 (by kernel_rfl) rfl #[.pointer (some ⟨p2, 0, none⟩), .agg #[.int .i64 o.f0, .int .u64 o.f1]] (by rfl) rfl rfl (by (try simp only [List.map_toArray, List.map_cons, List.map_nil]); first | done | rfl | skip) ?_
          refine (HOZ.out _ g25).mono ?_
          rintro e_ v31 ⟨rfl, h31⟩
          have g31 := below_step g25 h31
          refine ⟨_, rfl, hK.out _ _ (HS.out _ g31) (fun hS => ?_)⟩
          clear hK K
          refine norm_ (a' := ?_) ?_ ?_
          rotate_left
          · show Act.put _ (some 95) _ = _
            simp only [Act.put, List.setIfInBounds_toArray, List.set_cons_zero, List.set_cons_succ, i64_w, i32_w, hw0, Int.add_zero, Int.ofNat_zero, beq_self_eq_true]
            rfl
          refine one_ (i := 34) (N := some 98) (Sq.bl 74 34359738367) rfl rfl (one_of HT_.out (by kernel_rfl)) (by decide) (fun K hK => ?_)
          refine goes_ Tryd.func14 (by kernel_rfl) rfl #[.pointer (some ⟨q2, 0, none⟩), .agg #[.int .i64 o.f0, .int .u64 o.f1]] (by rfl) rfl rfl (by (try simp only [List.map_toArray, List.map_cons, List.map_nil]); first | done | rfl | skip) ?_
          refine (HOV.out _ g31).mono ?_
          rintro e_ v34 ⟨rfl, h34⟩
          have g34 := below_step g31 h34
          refine ⟨_, rfl, hK.out _ _ (HS.out _ g34) (fun hS => ?_)⟩
          clear hK K
          refine norm_ (a' := ?_) ?_ ?_
          rotate_left
          · show Act.put _ (some 98) _ = _
            simp only [Act.put, List.setIfInBounds_toArray, List.set_cons_zero, List.set_cons_succ, i64_w, i32_w, hw0, Int.add_zero, Int.ofNat_zero, beq_self_eq_true]
            rfl
          refine Sq.pu (v := ?_) (a' := ?_) 35 99 (Sq.bl 74 68719476735) (any_of HT_.out (by kernel_rfl)) rfl rfl (fun _ _ _ h => h) (by rfl) ?_ ?_ ?_; rotate_left; (· intro w'; go_simp; with_reducible rfl); rotate_left; (· simp only [Act.put, List.setIfInBounds_toArray, List.set_cons_zero, List.set_cons_succ, i64_w, i32_w, hw0, Int.add_zero, Int.ofNat_zero, beq_self_eq_true]; rfl)
          refine Sq.pu (v := ?_) (a' := ?_) 36 100 (Sq.bl 74 137438953471) (any_of HT_.out (by kernel_rfl)) rfl rfl (fun _ _ _ h => h) (by rfl) ?_ ?_ ?_; rotate_left; (· intro w'; go_simp; with_reducible rfl); rotate_left; (· simp only [Act.put, List.setIfInBounds_toArray, List.set_cons_zero, List.set_cons_succ, i64_w, i32_w, hw0, Int.add_zero, Int.ofNat_zero, beq_self_eq_true]; rfl)
          refine Sq.pu (v := ?_) (a' := ?_) 37 101 (Sq.bl 74 274877906943) (any_of HT_.out (by kernel_rfl)) rfl rfl (fun _ _ _ h => h) (by rfl) ?_ ?_ ?_; rotate_left; (· intro w'; go_simp; with_reducible rfl); rotate_left; (· simp only [Act.put, List.setIfInBounds_toArray, List.set_cons_zero, List.set_cons_succ, i64_w, i32_w, hw0, Int.add_zero, Int.ofNat_zero, beq_self_eq_true]; rfl)
          refine Sq.pu (v := ?_) (a' := ?_) 38 102 (Sq.bl 74 549755813887) (any_of HT_.out (by kernel_rfl)) rfl rfl (fun _ _ _ h => h) (by rfl) ?_ ?_ ?_; rotate_left; (· intro w'; go_simp; with_reducible rfl); rotate_left; (· simp only [Act.put, List.setIfInBounds_toArray, List.set_cons_zero, List.set_cons_succ, i64_w, i32_w, hw0, Int.add_zero, Int.ofNat_zero, beq_self_eq_true]; rfl)
          refine Sq.pu (v := ?_) (a' := ?_) 39 103 (Sq.bl 74 1099511627775) (any_of HT_.out (by kernel_rfl)) rfl rfl (fun _ _ _ h => h) (by rfl) ?_ ?_ ?_; rotate_left; (· intro w'; go_simp; with_reducible rfl); rotate_left; (· simp only [Act.put, List.setIfInBounds_toArray, List.set_cons_zero, List.set_cons_succ, i64_w, i32_w, hw0, Int.add_zero, Int.ofNat_zero, beq_self_eq_true]; rfl)
          refine one_ (i := 40) (N := some 104) (Sq.bl 74 2199023255551) rfl rfl (one_of HT_.out (by kernel_rfl)) (by decide) (fun K hK => ?_)
          refine goes_ Tryd.func22 (by kernel_rfl) rfl #[.pointer none, .agg #[.string ⟨#[]⟩, .int .i64 0, .int .u64 0, .string ⟨#[]⟩, .string ⟨#[]⟩, .string ⟨#[]⟩]] (by rfl) rfl rfl (by (try simp only [List.map_toArray, List.map_cons, List.map_nil]); first | done | rfl | skip) ?_
          refine (audit_Add.calls_nil (⟨⟨#[]⟩, ⟨0, 0⟩, ⟨#[]⟩, ⟨#[]⟩, ⟨#[]⟩⟩ : S40) _).mono ?_
          rintro e_ v40 ⟨rfl, h40⟩
          have g40 := below_step g34 h40
          refine ⟨_, rfl, hK.out _ _ (HS.out _ g40) (fun hS => ?_)⟩
          clear hK K
          refine norm_ (a' := ?_) ?_ ?_
          rotate_left
          · show Act.put _ (some 104) _ = _
            simp only [Act.put, List.setIfInBounds_toArray, List.set_cons_zero, List.set_cons_succ, i64_w, i32_w, hw0, Int.add_zero, Int.ofNat_zero, beq_self_eq_true]
            rfl
          refine Sq.pu (v := ?_) (a' := ?_) 41 105 (Sq.bl 74 4398046511103) (any_of HT_.out (by kernel_rfl)) rfl rfl (fun _ _ _ h => h) (by rfl) ?_ ?_ ?_; rotate_left; (· intro w'; go_simp; with_reducible rfl); rotate_left; (· simp only [Act.put, List.setIfInBounds_toArray, List.set_cons_zero, List.set_cons_succ, i64_w, i32_w, hw0, Int.add_zero, Int.ofNat_zero, beq_self_eq_true]; rfl)
          refine Sq.pu (v := ?_) (a' := ?_) 42 106 (Sq.bl 74 8796093022207) (any_of HT_.out (by kernel_rfl)) rfl rfl (fun _ _ _ h => h) (by rfl) ?_ ?_ ?_; rotate_left; (· intro w'; go_simp; with_reducible rfl); rotate_left; (· simp only [Act.put, List.setIfInBounds_toArray, List.set_cons_zero, List.set_cons_succ, i64_w, i32_w, hw0, Int.add_zero, Int.ofNat_zero, beq_self_eq_true]; rfl)
          refine Sq.pu (v := ?_) (a' := ?_) 43 107 (Sq.bl 74 17592186044415) (any_of HT_.out (by kernel_rfl)) rfl rfl (fun _ _ _ h => h) (by rfl) ?_ ?_ ?_; rotate_left; (· intro w'; go_simp; with_reducible rfl); rotate_left; (· simp only [Act.put, List.setIfInBounds_toArray, List.set_cons_zero, List.set_cons_succ, i64_w, i32_w, hw0, Int.add_zero, Int.ofNat_zero, beq_self_eq_true]; rfl)
          refine Sq.pu (v := ?_) (a' := ?_) 44 108 (Sq.bl 74 35184372088831) (any_of HT_.out (by kernel_rfl)) rfl rfl (fun _ _ _ h => h) (by rfl) ?_ ?_ ?_; rotate_left; (· intro w'; go_simp; with_reducible rfl); rotate_left; (· simp only [Act.put, List.setIfInBounds_toArray, List.set_cons_zero, List.set_cons_succ, i64_w, i32_w, hw0, Int.add_zero, Int.ofNat_zero, beq_self_eq_true]; rfl)
          refine Sq.pu (v := ?_) (a' := ?_) 46 110 (Sq.bl 74 105553116266495) (any_of HT_.out (by kernel_rfl)) rfl rfl (fun _ _ _ h => h) (by rfl) ?_ ?_ ?_; rotate_left; (· intro w'; go_simp; with_reducible rfl); rotate_left; (· simp only [Act.put, List.setIfInBounds_toArray, List.set_cons_zero, List.set_cons_succ, i64_w, i32_w, hw0, Int.add_zero, Int.ofNat_zero, beq_self_eq_true]; rfl)
          refine Sq.pu (v := ?_) (a' := ?_) 50 114 (Sq.bl 74 1231453023109119) (any_of HT_.out (by kernel_rfl)) rfl rfl (fun _ _ _ h => h) (by rfl) ?_ ?_ ?_; rotate_left; (· intro w'; go_simp; with_reducible rfl); rotate_left; (· simp only [Act.put, List.setIfInBounds_toArray, List.set_cons_zero, List.set_cons_succ, i64_w, i32_w, hw0, Int.add_zero, Int.ofNat_zero, beq_self_eq_true]; rfl)
          refine Sq.pu (v := ?_) (a' := ?_) 55 119 (Sq.bl 74 37260250042073087) (any_of HT_.out (by kernel_rfl)) rfl rfl (fun _ _ _ h => h) (by rfl) ?_ ?_ ?_; rotate_left; (· intro w'; go_simp; with_reducible rfl); rotate_left; (· simp only [Act.put, List.setIfInBounds_toArray, List.set_cons_zero, List.set_cons_succ, i64_w, i32_w, hw0, Int.add_zero, Int.ofNat_zero, beq_self_eq_true]; rfl)
          refine take_ (i := 47) (N := some 111) (v := ?_) (a' := ?_) (Sq.bl 74 37400987530428415) rfl rfl (take_ofW HT_.out HW_.out (by kernel_rfl)) (fun _ _ _ h => h) (Or.inl ⟨by rfl, ?_⟩) hS ?_ ?_; rotate_left; (· rintro w' ⟨s0, s1⟩; go_simp; with_reducible rfl); rotate_left; (· simp only [Act.put, List.setIfInBounds_toArray, List.set_cons_zero, List.set_cons_succ, i64_w, i32_w, hw0, Int.add_zero, Int.ofNat_zero, beq_self_eq_true]; rfl)
          refine take_ (i := 51) (N := some 115) (v := ?_) (a' := ?_) (Sq.bl 74 39652787344113663) rfl rfl (take_ofW HT_.out HW_.out (by kernel_rfl)) (fun _ _ _ h => h) (Or.inl ⟨by rfl, ?_⟩) hS ?_ ?_; rotate_left; (· rintro w' ⟨s0, s1⟩; go_simp; with_reducible rfl); rotate_left; (· simp only [Act.put, List.setIfInBounds_toArray, List.set_cons_zero, List.set_cons_succ, i64_w, i32_w, hw0, Int.add_zero, Int.ofNat_zero, beq_self_eq_true]; rfl)
          refine take_ (i := 56) (N := some 120) (v := ?_) (a' := ?_) (Sq.bl 74 111710381382041599) rfl rfl (take_ofW HT_.out HW_.out (by kernel_rfl)) (fun _ _ _ h => h) (Or.inl ⟨by rfl, ?_⟩) hS ?_ ?_; rotate_left; (· rintro w' ⟨s0, s1⟩; go_simp; with_reducible rfl); rotate_left; (· simp only [Act.put, List.setIfInBounds_toArray, List.set_cons_zero, List.set_cons_succ, i64_w, i32_w, hw0, Int.add_zero, Int.ofNat_zero, beq_self_eq_true]; rfl)
          refine one_ (i := 45) (N := some 109) (Sq.bl 74 111745565754130431) rfl rfl (one_of HT_.out (by kernel_rfl)) (by decide) (fun K hK => ?_)
          refine goes_ Tryd.func26 (by kernel_rfl) rfl #[.pointer none] (by rfl) rfl rfl (by (try simp only [List.map_toArray, List.map_cons, List.map_nil]); first | done | rfl | skip) ?_
          refine (audit_Len.calls_nil _).mono ?_
          rintro e_ v45 ⟨rfl, rfl⟩
          refine ⟨_, rfl, hK.out _ _ (HS.out _ g40) (fun hS => ?_)⟩
          clear hK K
          refine norm_ (a' := ?_) ?_ ?_
          rotate_left
          · show Act.put _ (some 109) _ = _
            simp only [Act.put, List.setIfInBounds_toArray, List.set_cons_zero, List.set_cons_succ, i64_w, i32_w, hw0, Int.add_zero, Int.ofNat_zero, beq_self_eq_true]
            rfl
          refine one_ (i := 48) (N := some 112) (Sq.bl 74 112027040730841087) rfl rfl (one_of HT_.out (by kernel_rfl)) (by decide) (fun K hK => ?_)
          refine goes_ Tryd.func13 (by kernel_rfl) rfl #[.pointer none, .agg #[.int .i64 o.f0, .int .u64 o.f1]] (by rfl) rfl rfl (by (try simp only [List.map_toArray, List.map_cons, List.map_nil]); first | done | rfl | skip) ?_
          refine (audit_Of.calls_nil o _).mono ?_
          rintro e_ v48 ⟨rfl, h48⟩
          have g48 := below_step g40 h48
          refine ⟨_, rfl, hK.out _ _ (HS.out _ g48) (fun hS => ?_)⟩
          clear hK K
          refine norm_ (a' := ?_) ?_ ?_
          rotate_left
          · show Act.put _ (some 112) _ = _
            simp only [Act.put, List.setIfInBounds_toArray, List.set_cons_zero, List.set_cons_succ, i64_w, i32_w, hw0, Int.add_zero, Int.ofNat_zero, beq_self_eq_true]
            rfl
          refine Sq.pu (v := ?_) (a' := ?_) 49 113 (Sq.bl 74 112589990684262399) (any_of HT_.out (by kernel_rfl)) rfl rfl (fun _ _ _ h => h) (by rfl) ?_ ?_ ?_; rotate_left; (· intro w'; go_simp; with_reducible rfl); rotate_left; (· simp only [Act.put, List.setIfInBounds_toArray, List.set_cons_zero, List.set_cons_succ, i64_w, i32_w, hw0, Int.add_zero, Int.ofNat_zero, beq_self_eq_true]; rfl)
          refine one_ (i := 52) (N := some 116) (Sq.bl 74 117093590311632895) rfl rfl (one_of HT_.out (by kernel_rfl)) (by decide) (fun K hK => ?_)
          refine goes_ Tryd.func17 (by kernel_rfl) rfl #[.pointer none, .agg #[.int .i64 o.f0, .int .u64 o.f1]] (by rfl) rfl rfl (by (try simp only [List.map_toArray, List.map_cons, List.map_nil]); first | done | rfl | skip) ?_
          refine (audit_Seen.calls_nil o _).mono ?_
          rintro e_ v52 ⟨rfl, h52⟩
          have g52 := below_step g48 h52
          refine ⟨_, rfl, hK.out _ _ (HS.out _ g52) (fun hS => ?_)⟩
          clear hK K
          refine norm_ (a' := ?_) ?_ ?_
          rotate_left
          · show Act.put _ (some 116) _ = _
            simp only [Act.put, List.setIfInBounds_toArray, List.set_cons_zero, List.set_cons_succ, i64_w, i32_w, hw0, Int.add_zero, Int.ofNat_zero, beq_self_eq_true]
            rfl
          refine Sq.pu (v := ?_) (a' := ?_) 53 117 (Sq.bl 74 126100789566373887) (any_of HT_.out (by kernel_rfl)) rfl rfl (fun _ _ _ h => h) (by rfl) ?_ ?_ ?_; rotate_left; (· intro w'; go_simp; with_reducible rfl); rotate_left; (· simp only [Act.put, List.setIfInBounds_toArray, List.set_cons_zero, List.set_cons_succ, i64_w, i32_w, hw0, Int.add_zero, Int.ofNat_zero, beq_self_eq_true]; rfl)
          refine Sq.pu (v := ?_) (a' := ?_) 54 118 (Sq.bl 74 144115188075855871) (any_of HT_.out (by kernel_rfl)) rfl rfl (fun _ _ _ h => h) (by rfl) ?_ ?_ ?_; rotate_left; (· intro w'; go_simp; with_reducible rfl); rotate_left; (· simp only [Act.put, List.setIfInBounds_toArray, List.set_cons_zero, List.set_cons_succ, i64_w, i32_w, hw0, Int.add_zero, Int.ofNat_zero, beq_self_eq_true]; rfl)
          refine one_ (i := 57) (N := some 121) (Sq.bl 74 288230376151711743) rfl rfl (one_of HT_.out (by kernel_rfl)) (by decide) (fun K hK => ?_)
          refine goes_ Tryd.func19 (by kernel_rfl) rfl #[.pointer none, .agg #[.int .i64 o.f0, .int .u64 o.f1]] (by rfl) rfl rfl (by (try simp only [List.map_toArray, List.map_cons, List.map_nil]); first | done | rfl | skip) ?_
          refine (audit_Print.calls_nil o _).mono ?_
          rintro e_ v57 ⟨A57, c57, rfl, h57⟩
          have g57 := below_step g52 h57
          refine ⟨_, rfl, hK.out _ _ (HS.out _ g57) (fun hS => ?_)⟩
          clear hK K
          refine norm_ (a' := ?_) ?_ ?_
          rotate_left
          · show Act.put _ (some 121) _ = _
            simp only [Act.put, List.setIfInBounds_toArray, List.set_cons_zero, List.set_cons_succ, i64_w, i32_w, hw0, Int.add_zero, Int.ofNat_zero, beq_self_eq_true]
            rfl
          refine Sq.pu (v := ?_) (a' := ?_) 58 122 (Sq.bl 74 576460752303423487) (any_of HT_.out (by kernel_rfl)) rfl rfl (fun _ _ _ h => h) (by rfl) ?_ ?_ ?_; rotate_left; (· intro w'; go_simp; with_reducible rfl); rotate_left; (· simp only [Act.put, List.setIfInBounds_toArray, List.set_cons_zero, List.set_cons_succ, i64_w, i32_w, hw0, Int.add_zero, Int.ofNat_zero, beq_self_eq_true]; rfl)
          refine Sq.pu (v := ?_) (a' := ?_) 59 123 (Sq.bl 74 1152921504606846975) (any_of HT_.out (by kernel_rfl)) rfl rfl (fun _ _ _ h => h) (by rfl) ?_ ?_ ?_; rotate_left; (· intro w'; go_simp; with_reducible rfl); rotate_left; (· simp only [Act.put, List.setIfInBounds_toArray, List.set_cons_zero, List.set_cons_succ, i64_w, i32_w, hw0, Int.add_zero, Int.ofNat_zero, beq_self_eq_true]; rfl)
          refine Sq.pu (v := ?_) (a' := ?_) 60 124 (Sq.bl 74 2305843009213693951) (any_of HT_.out (by kernel_rfl)) rfl rfl (fun _ _ _ h => h) (by rfl) ?_ ?_ ?_; rotate_left; (· intro w'; go_simp; with_reducible rfl); rotate_left; (· simp only [Act.put, List.setIfInBounds_toArray, List.set_cons_zero, List.set_cons_succ, i64_w, i32_w, hw0, Int.add_zero, Int.ofNat_zero, beq_self_eq_true]; rfl)
          refine Sq.pu (v := ?_) (a' := ?_) 61 125 (Sq.bl 74 4611686018427387903) (any_of HT_.out (by kernel_rfl)) rfl rfl (fun _ _ _ h => h) (by rfl) ?_ ?_ ?_; rotate_left; (· intro w'; go_simp; with_reducible rfl); rotate_left; (· simp only [Act.put, List.setIfInBounds_toArray, List.set_cons_zero, List.set_cons_succ, i64_w, i32_w, hw0, Int.add_zero, Int.ofNat_zero, beq_self_eq_true]; rfl)
          refine Sq.pu (v := ?_) (a' := ?_) 62 126 (Sq.bl 74 9223372036854775807) (any_of HT_.out (by kernel_rfl)) rfl rfl (fun _ _ _ h => h) (by rfl) ?_ ?_ ?_; rotate_left; (· intro w'; go_simp; with_reducible rfl); rotate_left; (· simp only [Act.put, List.setIfInBounds_toArray, List.set_cons_zero, List.set_cons_succ, i64_w, i32_w, hw0, Int.add_zero, Int.ofNat_zero, beq_self_eq_true]; rfl)
          refine Sq.pu (v := ?_) (a' := ?_) 63 127 (Sq.bl 74 18446744073709551615) (any_of HT_.out (by kernel_rfl)) rfl rfl (fun _ _ _ h => h) (by rfl) ?_ ?_ ?_; rotate_left; (· intro w'; go_simp; with_reducible rfl); rotate_left; (· simp only [Act.put, List.setIfInBounds_toArray, List.set_cons_zero, List.set_cons_succ, i64_w, i32_w, hw0, Int.add_zero, Int.ofNat_zero, beq_self_eq_true]; rfl)
          refine take_ (i := 64) (N := some 128) (v := ?_) (a' := ?_) (Sq.bl 74 36893488147419103231) rfl rfl (take_ofW HT_.out HW_.out (by kernel_rfl)) (fun _ _ _ h => h) (Or.inl ⟨by rfl, ?_⟩) hS ?_ ?_; rotate_left; (· rintro w' ⟨s0, s1⟩; go_simp; with_reducible rfl); rotate_left; (· simp only [Act.put, List.setIfInBounds_toArray, List.set_cons_zero, List.set_cons_succ, i64_w, i32_w, hw0, Int.add_zero, Int.ofNat_zero, beq_self_eq_true]; rfl)
          refine one_ (i := 65) (N := some 129) (Sq.bl 74 73786976294838206463) rfl rfl (one_of HT_.out (by kernel_rfl)) (by decide) (fun K hK => ?_)
          refine goes_ Tryd.func15 (by kernel_rfl) rfl #[.pointer none, .agg #[.int .i64 o.f0, .int .u64 o.f1], .int .i64 0] (by rfl) rfl rfl (by (try simp only [List.map_toArray, List.map_cons, List.map_nil]); first | done | rfl | skip) ?_
          refine (audit_Full.calls_nil o 0 _).mono ?_
          rintro e_ v65 ⟨rfl, h65⟩
          have g65 := below_step g57 h65
          refine ⟨_, rfl, hK.out _ _ (HS.out _ g65) (fun hS => ?_)⟩
          clear hK K
          refine norm_ (a' := ?_) ?_ ?_
          rotate_left
          · show Act.put _ (some 129) _ = _
            simp only [Act.put, List.setIfInBounds_toArray, List.set_cons_zero, List.set_cons_succ, i64_w, i32_w, hw0, Int.add_zero, Int.ofNat_zero, beq_self_eq_true]
            rfl
          refine Sq.pu (v := ?_) (a' := ?_) 66 130 (Sq.bl 74 147573952589676412927) (any_of HT_.out (by kernel_rfl)) rfl rfl (fun _ _ _ h => h) (by rfl) ?_ ?_ ?_; rotate_left; (· intro w'; go_simp; with_reducible rfl); rotate_left; (· simp only [Act.put, List.setIfInBounds_toArray, List.set_cons_zero, List.set_cons_succ, i64_w, i32_w, hw0, Int.add_zero, Int.ofNat_zero, beq_self_eq_true]; rfl)
          refine Sq.pu (v := ?_) (a' := ?_) 67 131 (Sq.bl 74 295147905179352825855) (any_of HT_.out (by kernel_rfl)) rfl rfl (fun _ _ _ h => h) (by rfl) ?_ ?_ ?_; rotate_left; (· intro w'; go_simp; with_reducible rfl); rotate_left; (· simp only [Act.put, List.setIfInBounds_toArray, List.set_cons_zero, List.set_cons_succ, i64_w, i32_w, hw0, Int.add_zero, Int.ofNat_zero, beq_self_eq_true]; rfl)
          refine Sq.pu (v := ?_) (a' := ?_) 68 132 (Sq.bl 74 590295810358705651711) (any_of HT_.out (by kernel_rfl)) rfl rfl (fun _ _ _ h => h) (by rfl) ?_ ?_ ?_; rotate_left; (· intro w'; go_simp; with_reducible rfl); rotate_left; (· simp only [Act.put, List.setIfInBounds_toArray, List.set_cons_zero, List.set_cons_succ, i64_w, i32_w, hw0, Int.add_zero, Int.ofNat_zero, beq_self_eq_true]; rfl)
          refine Sq.pu (v := ?_) (a' := ?_) 69 133 (Sq.bl 74 1180591620717411303423) (any_of HT_.out (by kernel_rfl)) rfl rfl (fun _ _ _ h => h) (by rfl) ?_ ?_ ?_; rotate_left; (· intro w'; go_simp; with_reducible rfl); rotate_left; (· simp only [Act.put, List.setIfInBounds_toArray, List.set_cons_zero, List.set_cons_succ, i64_w, i32_w, hw0, Int.add_zero, Int.ofNat_zero, beq_self_eq_true]; rfl)
          refine one_ (i := 70) (N := some 134) (Sq.bl 74 2361183241434822606847) rfl rfl (one_of HT_.out (by kernel_rfl)) (by decide) (fun K hK => ?_)
          refine goes_ Tryd.func23 (by kernel_rfl) rfl #[.pointer none] (by rfl) rfl rfl (by (try simp only [List.map_toArray, List.map_cons, List.map_nil]); first | done | rfl | skip) ?_
          refine (audit_Fork.calls_nil _).mono ?_
          rintro e_ v70 ⟨rfl, h70⟩
          have g70 := below_step g65 h70
          refine ⟨_, rfl, hK.out _ _ (HS.out _ g70) (fun hS => ?_)⟩
          clear hK K
          refine norm_ (a' := ?_) ?_ ?_
          rotate_left
          · show Act.put _ (some 134) _ = _
            simp only [Act.put, List.setIfInBounds_toArray, List.set_cons_zero, List.set_cons_succ, i64_w, i32_w, hw0, Int.add_zero, Int.ofNat_zero, beq_self_eq_true]
            rfl
          refine Sq.pu (v := ?_) (a' := ?_) 71 135 (Sq.bl 74 4722366482869645213695) (any_of HT_.out (by kernel_rfl)) rfl rfl (fun _ _ _ h => h) (by rfl) ?_ ?_ ?_; rotate_left; (· intro w'; go_simp; with_reducible rfl); rotate_left; (· simp only [Act.put, List.setIfInBounds_toArray, List.set_cons_zero, List.set_cons_succ, i64_w, i32_w, hw0, Int.add_zero, Int.ofNat_zero, beq_self_eq_true]; rfl)
          refine Sq.pu (v := ?_) (a' := ?_) 72 136 (Sq.bl 74 9444732965739290427391) (any_of HT_.out (by kernel_rfl)) rfl rfl (fun _ _ _ h => h) (by rfl) ?_ ?_ ?_; rotate_left; (· intro w'; go_simp; with_reducible rfl); rotate_left; (· simp only [Act.put, List.setIfInBounds_toArray, List.set_cons_zero, List.set_cons_succ, i64_w, i32_w, hw0, Int.add_zero, Int.ofNat_zero, beq_self_eq_true]; rfl)
          refine Sq.pu (v := ?_) (a' := ?_) 73 6 (Sq.bl 74 18889465931478580854783) (any_of HT_.out (by kernel_rfl)) rfl rfl (fun _ _ _ h => h) (by rfl) ?_ ?_ ?_; rotate_left; (· intro w'; go_simp; with_reducible rfl); rotate_left; (· simp only [Act.put, List.setIfInBounds_toArray, List.set_cons_zero, List.set_cons_succ, i64_w, i32_w, hw0, Int.add_zero, Int.ofNat_zero, beq_self_eq_true]; rfl)
          refine done_ (done_of HT_.out (by kernel_rfl)) ?_
          have HE := Aside0.mk (HBW8.out.trans (g70.mono HBW8.out.size))
          clear hS
          go_wp2
          go_ret
          exact ⟨rfl, HE.out⟩
set_option maxHeartbeats 8000000 in
set_option maxRecDepth 100000 in
theorem forks.calls2 (k : Nat) (ck : S40 → Int) (A0 : Option Addr) (c0 : Nat) (l : List S40) (A1 : Option Addr) (c1 : Nat) (more : List S40) (o : S25) (w : World) (hr0 : Kd.C k40 w A0 l.length l) (hc0 : l.length ≤ c0) (hr1 : Kd.C k40 w A1 more.length more) (hc1 : more.length ≤ c1) (hwf : ∀ x ∈ l, lblWf x.f1) (hwf1 : ∀ x ∈ more, lblWf x.f1) (ho : lblWf o)
    (hka : ∀ x ∈ l, audit_Check.f k x = some (ck x)) (hkr : ∀ x ∈ l, jalousieref20_Check.f k x.f0 x.f1.f0 x.f1.f1 x.f2 x.f3 x.f4 = some (ck x)) (hka1 : ∀ x ∈ more, audit_Check.f k x = some (ck x)) (hkr1 : ∀ x ∈ more, jalousieref20_Check.f k x.f0 x.f1.f0 x.f1.f1 x.f2 x.f3 x.f4 = some (ck x)) (hA : audit_Check.f k eAnn = some 0) (hB : audit_Check.f k eBob = some 0) (hT : TabOk w)
    (hlow : ∀ x ∈ l, jalousieref02_Below.f k x.f1.f0 x.f1.f1 o.f0 o.f1 = some (lowB x.f1 o)) (hlow1 : ∀ x ∈ more, jalousieref02_Below.f k x.f1.f0 x.f1.f1 o.f0 o.f1 = some (lowB x.f1 o)) (hsame : jalousieref20_Same.f k (seenL o (playL ck (l.take 60))) (seenL o (playL ck (l.take 60))) = some true) (hsame1 : jalousieref20_Same.f k (seenL o (moreL ck (playL ck (l.take 60)) (more.take 30))) (seenL o (moreL ck (playL ck (l.take 60)) (more.take 30))) = some true) (h30 : 30 < more.length) :
    Calls Tryd.prog 6 #[.slice A0 l.length c0, .slice A1 more.length c1, .agg #[.int .i64 o.f0, .int .u64 o.f1]] w fun e w' => e = .returned (.bool true) ∧ Below w.heap.size w w' := by
  obtain ⟨W2, hW2, hbo, hBW⟩ := box1_label o (w := w)
  have hsW : w.heap.size < W2.heap.size := blk_lt hbo
  have HC := Aside0.mk hr0
  have HC1 := Aside0.mk hr1
  have HKA := Aside0.mk hka
  have HKR := Aside0.mk hkr
  have HKA1 := Aside0.mk hka1
  have HKR1 := Aside0.mk hkr1
  have HWF := Aside0.mk hwf
  have HWF1 := Aside0.mk hwf1
  have HA := Aside0.mk (And.intro hA hB)
  have HT := Aside0.mk hT
  have HLW := Aside0.mk hlow
  have HLW1 := Aside0.mk hlow1
  have HSAME := Aside0.mk hsame
  have HSAME1 := Aside0.mk hsame1
  have HW2 := Aside0.mk hW2
  have HBO := Aside0.mk hbo
  have HBW := Aside0.mk hBW
  have HOWF := Aside0.mk ho
  clear hr0 hr1 hka hkr hka1 hkr1 hwf hwf1 hA hB hT hlow hlow1 hsame hsame1 hW2 hbo hBW ho
  obtain ⟨xs, hxs⟩ : ∃ xs, xs = playL ck (l.take 60) := ⟨_, rfl⟩
  rw [← hxs] at HSAME HSAME1
  have hxl : xs.length ≤ 60 := by
    have := playL_len ck (l.take 60)
    rw [List.length_take] at this
    rw [hxs]
    omega
  have HIN : Aside0 (∀ x ∈ xs, x ∈ l) := ⟨fun x hx => by
    rw [hxs] at hx
    exact List.mem_of_mem_take (List.mem_filter.1 hx).1⟩
  have HXS := Aside0.mk hxs
  clear hxs
  have hml : ∀ i, i ≤ 30 → (moreL ck xs (more.take i)).length ≤ 90 := fun i hi => by
    have := playL_len ck (more.take i)
    rw [List.length_take] at this
    unfold moreL
    rw [List.length_append]
    omega
  have HML := Aside0.mk hml
  clear hml
  go_enter Tryd.func6, Tryd.ntmps6
  go_wp2_with (fail)
  rw [← HW2.out]
  refine (play.calls k ck A0 c0 l HKA.out HKR.out _ (Kd.C_below HC.out HBW.out) hc0 HWF.out).mono ?_
  rintro e_ w3 ⟨p, m, q, rfl, hp, hm, hq, hX, hY, hb⟩
  rw [← HXS.out] at hX hY
  have HX3 := Aside0.mk hX
  have HY3 := Aside0.mk hY
  have HB3 := Aside0.mk (HBW.out.trans (hb.mono HBW.out.size))
  have HO3 := Aside0.mk (kept_cell (base := 0) HBO.out hb)
  have hs3 := hb.size
  clear hX hY hb
  go_wp2_with (fail)
  refine (audit_Fork.calls _ p m xs _ HX3.out (by omega) (by omega)).mono ?_
  rintro e_ w4 ⟨p2, m2, rfl, hp2, hm2, hX, hb⟩
  have hpl : p < w3.heap.size ∧ m < w3.heap.size ∧ q < w3.heap.size := by
    obtain ⟨_, _, t1, _, t3, _⟩ := HX3.out
    obtain ⟨_, t2, _⟩ := HY3.out
    exact ⟨blk_lt t1, t3.lt, blk_lt t2⟩
  have HZ4 := Aside0.mk hX
  have HX4 := Aside0.mk (LogX.below HX3.out hb)
  have HY4 := Aside0.mk (LogY.below HY3.out hb)
  have HB4 := Aside0.mk (HB3.out.trans (hb.mono HB3.out.size))
  have HO4 := kept_cell (base := 0) HO3.out hb
  have hs4 := hb.size
  clear hX hb
  go_wp2_with (fail)
  refine (ref20_Fork.calls _ q xs _ HY4.out).mono ?_
  rintro e_ w5 ⟨q2, rfl, hq2, hY, hb⟩
  have HV5 := Aside0.mk hY
  have HO5 := kept_cell (base := 0) HO4 hb
  have HZ5 := Aside0.mk (LogX.below HZ4.out hb)
  have HX5 := Aside0.mk (LogX.below HX4.out hb)
  have HY5 := Aside0.mk (LogY.below HY4.out hb)
  have HB5 := Aside0.mk (HB4.out.trans (hb.mono HB4.out.size))
  have hs5 := hb.size
  have hne : p ≠ p2 ∧ m ≠ m2 ∧ q ≠ q2 := ⟨by omega, by omega, by omega⟩
  obtain ⟨base, hbase⟩ : ∃ base, base = W2.heap.size := ⟨_, rfl⟩
  rw [← hbase] at HX5 HY5 HZ5 HV5
  have hbp : base ≤ p2 ∧ base ≤ m2 ∧ base ≤ q2 ∧ w.heap.size ≤ base := ⟨by omega, by omega, by omega, by omega⟩
  have hbl : w.heap.size < base := by omega
  have HBASE := Aside0.mk hbase
  clear hY hb hbase HO4
  go_wp2_with (fail)

  have HO5 := Aside0.mk HO5
  go_loopw [12] (fun vi wr => ∃ (i : Nat), i ≤ more.length ∧ i ≤ 30 ∧ vi = .int .i64 (i : Int) ∧ LogX wr base p m xs ∧ LogY wr base q xs ∧ LogX wr base p2 m2 (moreL ck xs (more.take i)) ∧ LogY wr base q2 (moreL ck xs (more.take i)) ∧ Below base w5 wr) (fun vi _ => 30 - (intOf vi).toNat)
  case atStart => exact ⟨0, Nat.zero_le _, Nat.zero_le _, rfl, HX5.out, HY5.out, by simpa [moreL, playL] using HZ5.out, by simpa [moreL, playL] using HV5.out, Below.refl _ _⟩
  case round =>
    obtain ⟨i, hi, hi30, rfl, hX, hY, hZ, hV, hB⟩ := hrel
    have hzl := HML.out i hi30
    have HXr := Aside0.mk hX
    have HYr := Aside0.mk hY
    have HZr := Aside0.mk hZ
    have HVr := Aside0.mk hV
    have HBr := Aside0.mk hB
    clear hX hY hZ hV hB
    by_cases hlt : i < more.length ∧ i < 30
    · obtain ⟨hlt, h30⟩ := hlt
      have hlt3 : decide ((i : Int) < (more.length : Int)) = true := decide_eq_true (by omega)
      have h303 : decide ((i : Int) < 30) = true := decide_eq_true (by omega)
      have hlt2 : ((i : Int) < (more.length : Int)) = True := eq_true (by omega)
      have hi0 : (0 ≤ (i : Int)) = True := eq_true (by omega)
      have HW : Aside0 (wrap64 ((i : Int) + 1) = ((i + 1 : Nat) : Int)) := ⟨by unfold wrap64; omega⟩
      obtain ⟨ad, hA, hx0, hx1, hx2, hx3, hx4, hx5⟩ := at_T40 HC1.out (i : Int) (by omega) (by omega)
      subst hA
      have hget : more[i]? = some (rd_T40 more (i : Int)) := by
        unfold rd_T40
        rw [Int.toNat_natCast, List.getD_eq_getElem?_getD, List.getElem?_eq_getElem hlt]
        rfl
      rw [Int.toNat_natCast] at hx0 hx1 hx2 hx3 hx4 hx5
      have HST := Aside0.mk (more_take ck xs more i hlt _ hget)
      have hwx := HWF1.out _ (List.mem_of_getElem? hget)
      have hck := HKA1.out _ (List.mem_of_getElem? hget)
      have hcr := HKR1.out _ (List.mem_of_getElem? hget)
      clear hget
      generalize rd_T40 more (i : Int) = x at hx0 hx1 hx2 hx3 hx4 hx5 HST hwx hck hcr
      obtain ⟨r, hr⟩ : ∃ r, r = ck x := ⟨_, rfl⟩
      rw [← hr] at hck hcr HST
      have HCA := Aside0.mk hck
      have HCR := Aside0.mk hcr
      have HWX := Aside0.mk hwx
      obtain ⟨zs, hzs⟩ : ∃ zs, zs = moreL ck xs (more.take i) := ⟨_, rfl⟩
      rw [← hzs] at HZr HVr hzl HST
      obtain ⟨Wd, hWd⟩ : ∃ Wd : World, Wd = wr.drew := ⟨_, rfl⟩
      have hdr : Below wr.heap.size wr Wd := by rw [hWd]; exact (Below.refl _ _).drew
      have HBd := Aside0.mk (HBr.out.drew)
      rw [← hWd] at HBd
      have HXd := Aside0.mk (LogX.below HXr.out hdr)
      have HYd := Aside0.mk (LogY.below HYr.out hdr)
      have HZd := Aside0.mk (LogX.below HZr.out hdr)
      have HVd := Aside0.mk (LogY.below HVr.out hdr)
      have HWD := Aside0.mk hWd
      have HE : Aside0 (∀ Y : World, Below base w5 Y → Y.cell? (ad.add (i * 6)) = some (.string x.f0) ∧ Y.cell? ⟨(ad.add (i * 6)).block, (ad.add (i * 6)).off + 1, none⟩ = some (.int .i64 x.f1.f0) ∧ Y.cell? ⟨(ad.add (i * 6)).block, (ad.add (i * 6)).off + 2, none⟩ = some (.int .u64 x.f1.f1) ∧ Y.cell? ⟨(ad.add (i * 6)).block, (ad.add (i * 6)).off + 3, none⟩ = some (.string x.f2) ∧ Y.cell? ⟨(ad.add (i * 6)).block, (ad.add (i * 6)).off + 4, none⟩ = some (.string x.f3) ∧ Y.cell? ⟨(ad.add (i * 6)).block, (ad.add (i * 6)).off + 5, none⟩ = some (.string x.f4)) := ⟨fun Y hY => by
        have hb := HB5.out.trans (hY.mono hbp.2.2.2)
        exact ⟨(hb.cell (World.block_lt_of_cell? _ _ hx0)).trans hx0, (hb.cell (World.block_lt_of_cell? _ _ hx1)).trans hx1, (hb.cell (World.block_lt_of_cell? _ _ hx2)).trans hx2, (hb.cell (World.block_lt_of_cell? _ _ hx3)).trans hx3, (hb.cell (World.block_lt_of_cell? _ _ hx4)).trans hx4, (hb.cell (World.block_lt_of_cell? _ _ hx5)).trans hx5⟩⟩
      clear hck hcr hwx hr hx0 hx1 hx2 hx3 hx4 hx5 hzs hdr hWd
      go_wp2
      refine start_ (n := 13) (S := fun w' => w'.cell? (ad.add (i * 6)) = some (.string x.f0) ∧ w'.cell? ⟨(ad.add (i * 6)).block, (ad.add (i * 6)).off + 1, none⟩ = some (.int .i64 x.f1.f0) ∧ w'.cell? ⟨(ad.add (i * 6)).block, (ad.add (i * 6)).off + 2, none⟩ = some (.int .u64 x.f1.f1) ∧ w'.cell? ⟨(ad.add (i * 6)).block, (ad.add (i * 6)).off + 3, none⟩ = some (.string x.f2) ∧ w'.cell? ⟨(ad.add (i * 6)).block, (ad.add (i * 6)).off + 4, none⟩ = some (.string x.f3) ∧ w'.cell? ⟨(ad.add (i * 6)).block, (ad.add (i * 6)).off + 5, none⟩ = some (.string x.f4)) (ds := []) (Sq.bl 13 0) (by kernel_rfl) rfl (by rfl) (by rw [← HWD.out]; exact HE.out _ HBd.out) (fun hS => ?_)
      rw [← HWD.out] at hS ⊢
      refine Sq.pu (v := ?_) (a' := ?_) 0 38 (Sq.bl 13 1) (by kernel_rfl) rfl rfl (fun _ _ _ h => h) (by rfl) ?_ ?_ ?_; rotate_left; (· intro w'; go_simp; with_reducible rfl); rotate_left; (· simp only [Act.put, List.setIfInBounds_toArray, List.set_cons_zero, List.set_cons_succ, i64_w, i32_w]; rfl)
      refine Sq.pu (v := ?_) (a' := ?_) 1 39 (Sq.bl 13 3) (by kernel_rfl) rfl rfl (fun _ _ _ h => h) (by rfl) ?_ ?_ ?_; rotate_left; (· intro w'; go_simp; with_reducible rfl); rotate_left; (· simp only [Act.put, List.setIfInBounds_toArray, List.set_cons_zero, List.set_cons_succ, i64_w, i32_w]; rfl)
      refine Sq.pu (v := ?_) (a' := ?_) 2 40 (Sq.bl 13 7) (by kernel_rfl) rfl rfl (fun _ _ _ h => h) (by rfl) ?_ ?_ ?_; rotate_left; (· intro w'; go_simp; with_reducible rfl); rotate_left; (· simp only [Act.put, List.setIfInBounds_toArray, List.set_cons_zero, List.set_cons_succ, i64_w, i32_w]; rfl)
      refine Sq.pu (v := ?_) (a' := ?_) 3 41 (Sq.bl 13 15) (by kernel_rfl) rfl rfl (fun _ _ _ h => h) (by rfl) ?_ ?_ ?_; rotate_left; (· intro w'; go_simp; with_reducible rfl); rotate_left; (· simp only [Act.put, List.setIfInBounds_toArray, List.set_cons_zero, List.set_cons_succ, i64_w, i32_w]; rfl)
      refine Sq.pu (v := ?_) (a' := ?_) 6 44 (Sq.bl 13 79) (by kernel_rfl) rfl rfl (fun _ _ _ h => h) (by rfl) ?_ ?_ ?_; rotate_left; (· intro w'; go_simp; with_reducible rfl); rotate_left; (· simp only [Act.put, List.setIfInBounds_toArray, List.set_cons_zero, List.set_cons_succ, i64_w, i32_w]; rfl)
      refine Sq.pu (v := ?_) (a' := ?_) 7 45 (Sq.bl 13 207) (by kernel_rfl) rfl rfl (fun _ _ _ h => h) (by rfl) ?_ ?_ ?_; rotate_left; (· intro w'; go_simp; with_reducible rfl); rotate_left; (· simp only [Act.put, List.setIfInBounds_toArray, List.set_cons_zero, List.set_cons_succ, i64_w, i32_w]; rfl)
      refine Sq.pu (v := ?_) (a' := ?_) 8 46 (Sq.bl 13 463) (by kernel_rfl) rfl rfl (fun _ _ _ h => h) (by rfl) ?_ ?_ ?_; rotate_left; (· intro w'; go_simp; with_reducible rfl); rotate_left; (· simp only [Act.put, List.setIfInBounds_toArray, List.set_cons_zero, List.set_cons_succ, i64_w, i32_w]; rfl)
      refine Sq.pu (v := ?_) (a' := ?_) 9 47 (Sq.bl 13 975) (by kernel_rfl) rfl rfl (fun _ _ _ h => h) (by rfl) ?_ ?_ ?_; rotate_left; (· intro w'; go_simp; with_reducible rfl); rotate_left; (· simp only [Act.put, List.setIfInBounds_toArray, List.set_cons_zero, List.set_cons_succ, i64_w, i32_w]; rfl)
      refine take_ (i := 4) (N := some 42) (v := ?_) (a' := ?_) (Sq.bl 13 991) rfl rfl (by kernel_rfl) (fun _ _ _ h => h) (Or.inl ⟨by rfl, ?_⟩) hS ?_ ?_; rotate_left; (· rintro w' ⟨s0, s1, s2, s3, s4, s5⟩; go_simp; with_reducible rfl); rotate_left; (· simp only [Act.put, List.setIfInBounds_toArray, List.set_cons_zero, List.set_cons_succ, i64_w, i32_w]; rfl)
      refine take_ (i := 10) (N := some 48) (v := ?_) (a' := ?_) (Sq.bl 13 2015) rfl rfl (by kernel_rfl) (fun _ _ _ h => h) (Or.inl ⟨by rfl, ?_⟩) hS ?_ ?_; rotate_left; (· rintro w' ⟨s0, s1, s2, s3, s4, s5⟩; go_simp; with_reducible rfl); rotate_left; (· simp only [Act.put, List.setIfInBounds_toArray, List.set_cons_zero, List.set_cons_succ, i64_w, i32_w]; rfl)
      refine one_ (i := 5) (N := some 43) (Sq.bl 13 2047) rfl rfl (by kernel_rfl) (by decide) (fun K hK => ?_)
      refine goes_ Tryd.func22 (by kernel_rfl) rfl #[.pointer (some ⟨p2, 0, none⟩), .agg #[.string x.f0, .int .i64 x.f1.f0, .int .u64 x.f1.f1, .string x.f2, .string x.f3, .string x.f4]] (by rfl) rfl rfl (by (try simp only [List.map_toArray, List.map_cons, List.map_nil]); first | done | rfl | skip) ?_
      refine (audit_Add.calls k base p2 m2 w5 zs x HWX.out _ HZd.out HBd.out hbp.1 hbp.2.1 (by omega) r HCA.out).mono ?_
      rintro e_ w8 ⟨rfl, hZ8, hB8, hs8, hf8⟩
      have hX8 := LogX.aside2 HXd.out HZd.out hf8 hne.1 hne.2.1
      have hY8 := LogY.aside HYd.out HZd.out hf8
      have hV8 := LogY.aside HVd.out HZd.out hf8
      refine ⟨_, rfl, hK.out _ _ (HE.out _ hB8) (fun hS => ?_)⟩
      clear hK K
      refine norm_ (a' := ?_) ?_ ?_
      rotate_left
      · show Act.put _ (some 43) _ = _
        simp only [Act.put, List.setIfInBounds_toArray, List.set_cons_zero, List.set_cons_succ, i64_w, i32_w]
        rfl
      refine one_ (i := 11) (N := some 49) (Sq.bl 13 4095) rfl rfl (by kernel_rfl) (by decide) (fun K hK => ?_)
      refine goes_ Tryd.func25 (by kernel_rfl) rfl #[.pointer (some ⟨q2, 0, none⟩), .agg #[.string x.f0, .int .i64 x.f1.f0, .int .u64 x.f1.f1, .string x.f2, .string x.f3, .string x.f4]] (by rfl) rfl rfl (by (try simp only [List.map_toArray, List.map_cons, List.map_nil]); first | done | rfl | skip) ?_
      refine (ref20_Add.calls k base q2 w5 zs x _ hV8 hB8 hbp.2.2.1 (by omega) r HCR.out).mono ?_
      rintro e_ w9 ⟨rfl, hV9, hB9, hs9, hf9⟩
      have hX9 := LogX.aside hX8 hV8 hf9
      have hZ9 := LogX.aside hZ8 hV8 hf9
      have hY9 := LogY.aside2 hY8 hV8 hf9 hne.2.2
      refine ⟨_, rfl, hK.out _ _ (HE.out _ hB9) (fun hS => ?_)⟩
      clear hK K
      refine norm_ (a' := ?_) ?_ ?_
      rotate_left
      · show Act.put _ (some 49) _ = _
        simp only [Act.put, List.setIfInBounds_toArray, List.set_cons_zero, List.set_cons_succ, i64_w, i32_w]
        rfl
      refine Sq.pu (v := ?_) (a' := ?_) 12 50 (Sq.bl 13 8191) (by kernel_rfl) rfl rfl (fun _ _ _ h => h) (by rfl) ?_ ?_ ?_; rotate_left; (· intro w'; go_simp; with_reducible rfl); rotate_left; (· simp only [Act.put, List.setIfInBounds_toArray, List.set_cons_zero, List.set_cons_succ, i64_w, i32_w]; rfl)
      refine done_ (by kernel_rfl) ?_
      have HF := Aside0.mk (And.intro hX9 (And.intro hY9 (And.intro hZ9 (And.intro hV9 hB9))))
      clear hX9 hY9 hZ9 hV9 hB9 hf9 hs9 hX8 hY8 hZ8 hV8 hB8 hf8 hs8 hS
      go_wp2
      go_roundw
      case rel => exact ⟨i + 1, by omega, by omega, by first | rfl | exact congrArg _ HW.out, HF.out.1, HF.out.2.1, by rw [HST.out]; exact HF.out.2.2.1, by rw [HST.out]; exact HF.out.2.2.2.1, HF.out.2.2.2.2⟩
      case measure => first | (rw [HW.out]; simp only [intOf, Int.toNat_natCast]; omega) | (simp only [intOf, Int.toNat_natCast]; omega)

    · have hin : i = 30 := by omega
      have hlt3 : decide ((i : Int) < (more.length : Int)) = true := decide_eq_true (by omega)
      have hlt2 : ((i : Int) < (more.length : Int)) = True := eq_true (by omega)
      have h303 : decide ((i : Int) < 30) = false := decide_eq_false (by omega)
      have hdone : moreL ck xs (more.take i) = moreL ck xs (more.take 30) := by rw [hin]
      rename World => wo
      obtain ⟨zs, hzs⟩ : ∃ zs, zs = moreL ck xs (more.take 30) := ⟨_, rfl⟩
      rw [hdone] at HZr HVr hzl
      rw [← hzs] at HZr HVr hzl HSAME1
      have HLZ : Aside0 (∀ x ∈ zs, jalousieref02_Below.f k x.f1.f0 x.f1.f1 o.f0 o.f1 = some (lowB x.f1 o)) := ⟨fun x hx => by
        rw [hzs] at hx
        unfold moreL at hx
        rcases List.mem_append.1 hx with h | h
        · exact HLW.out x (HIN.out x h)
        · exact HLW1.out x (List.mem_of_mem_take (List.mem_filter.1 h).1)⟩
      have HOr := Aside0.mk ((HBr.out.block _ (by omega)).trans HO5.out)
      have HBW6 := Aside0.mk (HB5.out.trans (HBr.out.mono hbp.2.2.2))
      have hpo : p < wo.heap.size := by
        obtain ⟨_, _, t1, _⟩ := HXr.out
        exact blk_lt t1
      have hko0 := (blk_cell HOr.out 0).trans rfl
      have hko1 := (blk_cell HOr.out 1).trans rfl
      clear hzs hdone
      go_wp2_with (fail)
      refine (audit_Seen.calls _ p m xs o _ HXr.out (by omega)).mono ?_
      rintro e_ w7 ⟨vs, rfl, hR7, hb7⟩
      obtain ⟨ys, hys⟩ : ∃ ys, ys = seenL o xs := ⟨_, rfl⟩
      have hyl : ys.length ≤ 60 := by rw [hys]; exact Nat.le_trans (List.length_filter_le _ _) hxl
      rw [← hys] at hR7
      have HYS := Aside0.mk hys
      obtain ⟨A7, c7, ev⟩ := Kd.R_slice hR7
      subst ev
      have hg7 : ∃ g, 0 < ys.length → A7 = some ⟨g, 0, none⟩ ∧ wo.heap.size ≤ g ∧ ∃ cs, w7.heap[g]? = some (.cells cs 40 (0, 0)) ∧ ys.length * 6 ≤ cs.size := by
        by_cases h0 : 0 < ys.length
        · obtain ⟨g, cap, e1, e2, e3, cs, e4⟩ := Kd.R_form hR7 h0
          refine ⟨g, fun _ => ⟨by injection e1, e2, cs, e4, ?_⟩⟩
          obtain ⟨ad, hA, hx0, hx1, hx2, hx3, hx4, hx5⟩ := at_T40 (Kd.R_reads' hR7).2.2 ((ys.length - 1 : Nat) : Int) (by omega) (by omega)
          obtain rfl : ad = ⟨g, 0, none⟩ := by
            rw [hA] at e1
            injection e1 with e1
            injection e1
          rw [Int.toNat_natCast, Addr.add_lit, Nat.zero_add] at hx5
          have h5 := (blk_cell e4 _).symm.trans hx5
          have h6 : (ys.length - 1) * 6 + 5 < cs.size := (Array.getElem?_eq_some_iff.1 h5).1
          omega
        · exact ⟨0, fun h => absurd h h0⟩
      obtain ⟨g, hg7⟩ := hg7
      have HG7 := Aside0.mk hg7
      have HB7 := Aside0.mk hb7
      have hs7 := hb7.size
      clear hys hR7 hg7 hb7 hko0 hko1
      go_wp2_with (fail)
      go_loopw [14] (fun vi wq => ∃ (j : Nat), j ≤ ys.length ∧ vi = .int .i64 (j : Int) ∧ (0 < ys.length → ∃ cs, wq.heap[g]? = some (.cells cs 40 (0, 0)) ∧ ys.length * 6 ≤ cs.size) ∧ Below wo.heap.size wo wq) (fun vi _ => ys.length - (intOf vi).toNat)
      case atStart => exact ⟨0, Nat.zero_le _, rfl, fun h => (HG7.out h).2.2, HB7.out⟩
      case round =>
        obtain ⟨j, hj, rfl, hcs, hBq⟩ := hrel
        have HBq := Aside0.mk hBq
        clear hBq
        by_cases hlt : j < ys.length
        · have hlt3 : decide ((j : Int) < (ys.length : Int)) = true := decide_eq_true (by omega)
          have hlt2 : ((j : Int) < (ys.length : Int)) = True := eq_true (by omega)
          have hi0 : (0 ≤ (j : Int)) = True := eq_true (by omega)
          have HW : Aside0 (wrap64 ((j : Int) + 1) = ((j + 1 : Nat) : Int)) := ⟨by unfold wrap64; omega⟩
          obtain ⟨cs, hcb, hcz⟩ := hcs (by omega)
          obtain ⟨hA7, hg2, _⟩ := HG7.out (by omega)
          subst hA7
          have hcell : wr.cell? ⟨g, j * 6, none⟩ = some (cs[j * 6]'(by omega)) := (blk_cell hcb _).trans (Array.getElem?_eq_getElem _)
          have hfrz := blk_frozen hcb (j * 6)
          have HCB := Aside0.mk hcb
          clear hcs hcb
          go_wp2
          go_roundw
          case rel =>
            refine ⟨j + 1, by omega, by first | rfl | exact congrArg _ HW.out, fun _ => ⟨_, blk_put HCB.out (j * 6) _ rfl, by rw [Array.size_setIfInBounds]; exact hcz⟩, HBq.out.setCell (by exact hg2) _⟩
          case measure => first | (rw [HW.out]; simp only [intOf, Int.toNat_natCast]; omega) | (simp only [intOf, Int.toNat_natCast]; omega)
        · obtain rfl : j = ys.length := by omega
          have hlt2 : ((ys.length : Int) < (ys.length : Int)) = False := eq_false (by omega)
          have hlt3 : decide ((ys.length : Int) < (ys.length : Int)) = false := decide_eq_false (by omega)
          clear hcs
          obtain ⟨W8, hW8⟩ : ∃ W8 : World, W8 = wr.drew := ⟨_, rfl⟩
          have HW8 := Aside0.mk hW8
          have HB8 : Aside0 (Below wo.heap.size wo W8) := ⟨by rw [hW8]; exact HBq.out.drew⟩
          have HX8 := Aside0.mk (LogX.below HXr.out HB8.out)
          have HY8 := Aside0.mk (LogY.below HYr.out HB8.out)
          have HZ8 := Aside0.mk (LogX.below HZr.out HB8.out)
          have HV8 := Aside0.mk (LogY.below HVr.out HB8.out)
          have hO8 := kept_cell (base := 0) HOr.out HB8.out
          have HBW8 := Aside0.mk (HBW6.out.trans (HB8.out.mono HBW6.out.size))
          have HS : Aside0 (∀ Y : World, Below W8.heap.size W8 Y → Y.cell? ⟨w.heap.size, 0, none⟩ = some (.int .i64 o.f0) ∧ Y.cell? ⟨w.heap.size, 1, none⟩ = some (.int .u64 o.f1)) := ⟨fun Y hY => ⟨(blk_cell (kept_cell (base := 0) hO8 hY) 0).trans rfl, (blk_cell (kept_cell (base := 0) hO8 hY) 1).trans rfl⟩⟩
          have HLX : Aside0 (∀ x ∈ xs, jalousieref02_Below.f k x.f1.f0 x.f1.f1 o.f0 o.f1 = some (lowB x.f1 o)) := ⟨fun x hx => HLW.out x (HIN.out x hx)⟩
          obtain ⟨n1, hn1⟩ : ∃ n, n = logCnt o xs := ⟨_, rfl⟩
          obtain ⟨n2, hn2⟩ : ∃ n, n = logCnt o zs := ⟨_, rfl⟩
          obtain ⟨us, hus⟩ : ∃ us, us = seenL o zs := ⟨_, rfl⟩
          have HOX := Aside0.mk (fun (Y : World) (hY : Below W8.heap.size W8 Y) => audit_Of.calls _ p m xs o HOWF.out Y (LogX.below HX8.out hY))
          have HOY := Aside0.mk (fun (Y : World) (hY : Below W8.heap.size W8 Y) => ref20_Of.calls _ q xs o Y (LogY.below HY8.out hY) (by omega))
          have HOZ := Aside0.mk (fun (Y : World) (hY : Below W8.heap.size W8 Y) => audit_Of.calls _ p2 m2 zs o HOWF.out Y (LogX.below HZ8.out hY))
          have HOV := Aside0.mk (fun (Y : World) (hY : Below W8.heap.size W8 Y) => ref20_Of.calls _ q2 zs o Y (LogY.below HV8.out hY) (by omega))
          have HSX := Aside0.mk (fun (Y : World) (hY : Below W8.heap.size W8 Y) => audit_Seen.calls _ p m xs o Y (LogX.below HX8.out hY) (by omega))
          have HSY := Aside0.mk (fun (Y : World) (hY : Below W8.heap.size W8 Y) => ref20_Seen.calls k _ q xs o Y (LogY.below HY8.out hY) (by omega) HLX.out)
          have HSZ := Aside0.mk (fun (Y : World) (hY : Below W8.heap.size W8 Y) => audit_Seen.calls _ p2 m2 zs o Y (LogX.below HZ8.out hY) (by omega))
          have HSV := Aside0.mk (fun (Y : World) (hY : Below W8.heap.size W8 Y) => ref20_Seen.calls k _ q2 zs o Y (LogY.below HV8.out hY) (by omega) HLZ.out)
          simp only [← hn1, ← hn2] at HOX HOY HOZ HOV
          rw [← HYS.out] at HSAME
          rw [← hus] at HSAME1
          simp only [← hus, ← HYS.out] at HSX HSY HSZ HSV
          have hw0 : wrap64 0 = 0 := by unfold wrap64; omega
          clear hW8 hO8 hn1 hn2 hus
          go_wp2
          refine start_ (n := 74) (S := fun w' => w'.cell? ⟨w.heap.size, 0, none⟩ = some (.int .i64 o.f0) ∧ w'.cell? ⟨w.heap.size, 1, none⟩ = some (.int .u64 o.f1)) (ds := []) (Sq.bl 74 0) (by kernel_rfl) rfl (by rfl) (by rw [← HW8.out]; exact HS.out _ (Below.refl _ _)) (fun hS => ?_)
          refine with_tabW forks_tab forks_bits (fun HT_ HW_ => ?_)
          rw [← HW8.out] at hS ⊢
          refine one_ (i := 0) (N := some 64) (Sq.bl 74 1) rfl rfl (one_of HT_.out (by kernel_rfl)) (by decide) (fun K hK => ?_)
          refine goes_ Tryd.func12 (by kernel_rfl) rfl #[] (by rfl) rfl rfl (by (try simp only [List.map_toArray, List.map_cons, List.map_nil]); first | done | rfl | skip) ?_
          refine (live.calls k HA.out.1 HA.out.2 _ (TabOk.below HT.out HBW8.out)).mono ?_
          rintro e_ v0 ⟨rfl, h0⟩
          have g0 := below_step (Below.refl _ _) h0
          refine ⟨_, rfl, hK.out _ _ (HS.out _ g0) (fun hS => ?_)⟩
          clear hK K
          refine norm_ (a' := ?_) ?_ ?_
          rotate_left
          · show Act.put _ (some 64) _ = _
            simp only [Act.put, List.setIfInBounds_toArray, List.set_cons_zero, List.set_cons_succ, i64_w, i32_w, hw0, Int.add_zero, Int.ofNat_zero, beq_self_eq_true]
            rfl
          refine Sq.pu (v := ?_) (a' := ?_) 1 65 (Sq.bl 74 3) (any_of HT_.out (by kernel_rfl)) rfl rfl (fun _ _ _ h => h) (by rfl) ?_ ?_ ?_; rotate_left; (· intro w'; go_simp; with_reducible rfl); rotate_left; (· simp only [Act.put, List.setIfInBounds_toArray, List.set_cons_zero, List.set_cons_succ, i64_w, i32_w, hw0, Int.add_zero, Int.ofNat_zero, beq_self_eq_true]; rfl)
          refine Sq.pu (v := ?_) (a' := ?_) 2 66 (Sq.bl 74 7) (any_of HT_.out (by kernel_rfl)) rfl rfl (fun _ _ _ h => h) (by rfl) ?_ ?_ ?_; rotate_left; (· intro w'; go_simp; with_reducible rfl); rotate_left; (· simp only [Act.put, List.setIfInBounds_toArray, List.set_cons_zero, List.set_cons_succ, i64_w, i32_w, hw0, Int.add_zero, Int.ofNat_zero, beq_self_eq_true]; rfl)
          refine Sq.pu (v := ?_) (a' := ?_) 5 69 (Sq.bl 74 39) (any_of HT_.out (by kernel_rfl)) rfl rfl (fun _ _ _ h => h) (by rfl) ?_ ?_ ?_; rotate_left; (· intro w'; go_simp; with_reducible rfl); rotate_left; (· simp only [Act.put, List.setIfInBounds_toArray, List.set_cons_zero, List.set_cons_succ, i64_w, i32_w, hw0, Int.add_zero, Int.ofNat_zero, beq_self_eq_true]; rfl)
          refine take_ (i := 3) (N := some 67) (v := ?_) (a' := ?_) (Sq.bl 74 47) rfl rfl (take_ofW HT_.out HW_.out (by kernel_rfl)) (fun _ _ _ h => h) (Or.inl ⟨by rfl, ?_⟩) hS ?_ ?_; rotate_left; (· rintro w' ⟨s0, s1⟩; go_simp; with_reducible rfl); rotate_left; (· simp only [Act.put, List.setIfInBounds_toArray, List.set_cons_zero, List.set_cons_succ, i64_w, i32_w, hw0, Int.add_zero, Int.ofNat_zero, beq_self_eq_true]; rfl)
          refine take_ (i := 6) (N := some 70) (v := ?_) (a' := ?_) (Sq.bl 74 111) rfl rfl (take_ofW HT_.out HW_.out (by kernel_rfl)) (fun _ _ _ h => h) (Or.inl ⟨by rfl, ?_⟩) hS ?_ ?_; rotate_left; (· rintro w' ⟨s0, s1⟩; go_simp; with_reducible rfl); rotate_left; (· simp only [Act.put, List.setIfInBounds_toArray, List.set_cons_zero, List.set_cons_succ, i64_w, i32_w, hw0, Int.add_zero, Int.ofNat_zero, beq_self_eq_true]; rfl)
          refine one_ (i := 4) (N := some 68) (Sq.bl 74 127) rfl rfl (one_of HT_.out (by kernel_rfl)) (by decide) (fun K hK => ?_)
          refine goes_ Tryd.func17 (by kernel_rfl) rfl #[.pointer (some ⟨p, 0, none⟩), .agg #[.int .i64 o.f0, .int .u64 o.f1]] (by rfl) rfl rfl (by (try simp only [List.map_toArray, List.map_cons, List.map_nil]); first | done | rfl | skip) ?_
          refine (HSX.out _ g0).mono ?_
          rintro e_ v4 ⟨vs, rfl, hR4, h4⟩
          obtain ⟨A4, c4, ev⟩ := Kd.R_slice hR4
          subst ev
          have g4 := below_step g0 h4
          refine ⟨_, rfl, hK.out _ _ (HS.out _ g4) (fun hS => ?_)⟩
          clear hK K
          refine norm_ (a' := ?_) ?_ ?_
          rotate_left
          · show Act.put _ (some 68) _ = _
            simp only [Act.put, List.setIfInBounds_toArray, List.set_cons_zero, List.set_cons_succ, i64_w, i32_w, hw0, Int.add_zero, Int.ofNat_zero, beq_self_eq_true]
            rfl
          refine one_ (i := 7) (N := some 71) (Sq.bl 74 255) rfl rfl (one_of HT_.out (by kernel_rfl)) (by decide) (fun K hK => ?_)
          refine goes_ Tryd.func18 (by kernel_rfl) rfl #[.pointer (some ⟨q, 0, none⟩), .agg #[.int .i64 o.f0, .int .u64 o.f1]] (by rfl) rfl rfl (by (try simp only [List.map_toArray, List.map_cons, List.map_nil]); first | done | rfl | skip) ?_
          refine (HSY.out _ g4).mono ?_
          rintro e_ v7 ⟨vs, rfl, hR7, h7⟩
          obtain ⟨A7, c7, ev⟩ := Kd.R_slice hR7
          subst ev
          have g7 := below_step g4 h7
          refine ⟨_, rfl, hK.out _ _ (HS.out _ g7) (fun hS => ?_)⟩
          clear hK K
          refine norm_ (a' := ?_) ?_ ?_
          rotate_left
          · show Act.put _ (some 71) _ = _
            simp only [Act.put, List.setIfInBounds_toArray, List.set_cons_zero, List.set_cons_succ, i64_w, i32_w, hw0, Int.add_zero, Int.ofNat_zero, beq_self_eq_true]
            rfl
          refine one_ (i := 8) (N := some 72) (Sq.bl 74 511) rfl rfl (one_of HT_.out (by kernel_rfl)) (by decide) (fun K hK => ?_)
          refine goes_ Tryd.func16 (by kernel_rfl) rfl #[.slice A4 ys.length c4, .slice A7 ys.length c7] (by rfl) rfl rfl (by (try simp only [List.map_toArray, List.map_cons, List.map_nil]); first | done | rfl | skip) ?_
          have HRa8 := Aside0.mk (Kd.R_reads' (Kd.R_below hR4 h7))
          have HRb8 := Aside0.mk (Kd.R_reads' hR7)
          clear hR4 hR7
          refine (jalousieref20_Same.calls k A4 c4 ys A7 c7 ys true _ HRa8.out.2.2 HRa8.out.2.1 HRb8.out.2.2 HRb8.out.2.1 HSAME.out).mono ?_
          rintro e_ v8 ⟨rfl, h8⟩
          have g8 := below_step g7 h8.below
          refine ⟨_, rfl, hK.out _ _ (HS.out _ g8) (fun hS => ?_)⟩
          clear hK K
          refine norm_ (a' := ?_) ?_ ?_
          rotate_left
          · show Act.put _ (some 72) _ = _
            simp only [Act.put, List.setIfInBounds_toArray, List.set_cons_zero, List.set_cons_succ, i64_w, i32_w, hw0, Int.add_zero, Int.ofNat_zero, beq_self_eq_true]
            rfl
          refine Sq.pu (v := ?_) (a' := ?_) 9 73 (Sq.bl 74 1023) (any_of HT_.out (by kernel_rfl)) rfl rfl (fun _ _ _ h => h) (by rfl) ?_ ?_ ?_; rotate_left; (· intro w'; go_simp; with_reducible rfl); rotate_left; (· simp only [Act.put, List.setIfInBounds_toArray, List.set_cons_zero, List.set_cons_succ, i64_w, i32_w, hw0, Int.add_zero, Int.ofNat_zero, beq_self_eq_true]; rfl)
          refine Sq.pu (v := ?_) (a' := ?_) 10 74 (Sq.bl 74 2047) (any_of HT_.out (by kernel_rfl)) rfl rfl (fun _ _ _ h => h) (by rfl) ?_ ?_ ?_; rotate_left; (· intro w'; go_simp; with_reducible rfl); rotate_left; (· simp only [Act.put, List.setIfInBounds_toArray, List.set_cons_zero, List.set_cons_succ, i64_w, i32_w, hw0, Int.add_zero, Int.ofNat_zero, beq_self_eq_true]; rfl)
          refine Sq.pu (v := ?_) (a' := ?_) 11 75 (Sq.bl 74 4095) (any_of HT_.out (by kernel_rfl)) rfl rfl (fun _ _ _ h => h) (by rfl) ?_ ?_ ?_; rotate_left; (· intro w'; go_simp; with_reducible rfl); rotate_left; (· simp only [Act.put, List.setIfInBounds_toArray, List.set_cons_zero, List.set_cons_succ, i64_w, i32_w, hw0, Int.add_zero, Int.ofNat_zero, beq_self_eq_true]; rfl)
          refine Sq.pu (v := ?_) (a' := ?_) 14 78 (Sq.bl 74 20479) (any_of HT_.out (by kernel_rfl)) rfl rfl (fun _ _ _ h => h) (by rfl) ?_ ?_ ?_; rotate_left; (· intro w'; go_simp; with_reducible rfl); rotate_left; (· simp only [Act.put, List.setIfInBounds_toArray, List.set_cons_zero, List.set_cons_succ, i64_w, i32_w, hw0, Int.add_zero, Int.ofNat_zero, beq_self_eq_true]; rfl)
          refine take_ (i := 12) (N := some 76) (v := ?_) (a' := ?_) (Sq.bl 74 24575) rfl rfl (take_ofW HT_.out HW_.out (by kernel_rfl)) (fun _ _ _ h => h) (Or.inl ⟨by rfl, ?_⟩) hS ?_ ?_; rotate_left; (· rintro w' ⟨s0, s1⟩; go_simp; with_reducible rfl); rotate_left; (· simp only [Act.put, List.setIfInBounds_toArray, List.set_cons_zero, List.set_cons_succ, i64_w, i32_w, hw0, Int.add_zero, Int.ofNat_zero, beq_self_eq_true]; rfl)
          refine take_ (i := 15) (N := some 79) (v := ?_) (a' := ?_) (Sq.bl 74 57343) rfl rfl (take_ofW HT_.out HW_.out (by kernel_rfl)) (fun _ _ _ h => h) (Or.inl ⟨by rfl, ?_⟩) hS ?_ ?_; rotate_left; (· rintro w' ⟨s0, s1⟩; go_simp; with_reducible rfl); rotate_left; (· simp only [Act.put, List.setIfInBounds_toArray, List.set_cons_zero, List.set_cons_succ, i64_w, i32_w, hw0, Int.add_zero, Int.ofNat_zero, beq_self_eq_true]; rfl)
          refine one_ (i := 13) (N := some 77) (Sq.bl 74 65535) rfl rfl (one_of HT_.out (by kernel_rfl)) (by decide) (fun K hK => ?_)
          refine goes_ Tryd.func17 (by kernel_rfl) rfl #[.pointer (some ⟨p2, 0, none⟩), .agg #[.int .i64 o.f0, .int .u64 o.f1]] (by rfl) rfl rfl (by (try simp only [List.map_toArray, List.map_cons, List.map_nil]); first | done | rfl | skip) ?_
          refine (HSZ.out _ g8).mono ?_
          rintro e_ v13 ⟨vs, rfl, hR13, h13⟩
          obtain ⟨A13, c13, ev⟩ := Kd.R_slice hR13
          subst ev
          have g13 := below_step g8 h13
          refine ⟨_, rfl, hK.out _ _ (HS.out _ g13) (fun hS => ?_)⟩
          clear hK K
          refine norm_ (a' := ?_) ?_ ?_
          rotate_left
          · show Act.put _ (some 77) _ = _
            simp only [Act.put, List.setIfInBounds_toArray, List.set_cons_zero, List.set_cons_succ, i64_w, i32_w, hw0, Int.add_zero, Int.ofNat_zero, beq_self_eq_true]
            rfl
          refine one_ (i := 16) (N := some 80) (Sq.bl 74 131071) rfl rfl (one_of HT_.out (by kernel_rfl)) (by decide) (fun K hK => ?_)
          refine goes_ Tryd.func18 (by kernel_rfl) rfl #[.pointer (some ⟨q2, 0, none⟩), .agg #[.int .i64 o.f0, .int .u64 o.f1]] (by rfl) rfl rfl (by (try simp only [List.map_toArray, List.map_cons, List.map_nil]); first | done | rfl | skip) ?_
          refine (HSV.out _ g13).mono ?_
          rintro e_ v16 ⟨vs, rfl, hR16, h16⟩
          obtain ⟨A16, c16, ev⟩ := Kd.R_slice hR16
          subst ev
          have g16 := below_step g13 h16
          refine ⟨_, rfl, hK.out _ _ (HS.out _ g16) (fun hS => ?_)⟩
          clear hK K
          refine norm_ (a' := ?_) ?_ ?_
          rotate_left
          · show Act.put _ (some 80) _ = _
            simp only [Act.put, List.setIfInBounds_toArray, List.set_cons_zero, List.set_cons_succ, i64_w, i32_w, hw0, Int.add_zero, Int.ofNat_zero, beq_self_eq_true]
            rfl
          refine one_ (i := 17) (N := some 81) (Sq.bl 74 262143) rfl rfl (one_of HT_.out (by kernel_rfl)) (by decide) (fun K hK => ?_)
          refine goes_ Tryd.func16 (by kernel_rfl) rfl #[.slice A13 us.length c13, .slice A16 us.length c16] (by rfl) rfl rfl (by (try simp only [List.map_toArray, List.map_cons, List.map_nil]); first | done | rfl | skip) ?_
          have HRa17 := Aside0.mk (Kd.R_reads' (Kd.R_below hR13 h16))
          have HRb17 := Aside0.mk (Kd.R_reads' hR16)
          clear hR13 hR16
          refine (jalousieref20_Same.calls k A13 c13 us A16 c16 us true _ HRa17.out.2.2 HRa17.out.2.1 HRb17.out.2.2 HRb17.out.2.1 HSAME1.out).mono ?_
          rintro e_ v17 ⟨rfl, h17⟩
          have g17 := below_step g16 h17.below
          refine ⟨_, rfl, hK.out _ _ (HS.out _ g17) (fun hS => ?_)⟩
          clear hK K
          refine norm_ (a' := ?_) ?_ ?_
          rotate_left
          · show Act.put _ (some 81) _ = _
            simp only [Act.put, List.setIfInBounds_toArray, List.set_cons_zero, List.set_cons_succ, i64_w, i32_w, hw0, Int.add_zero, Int.ofNat_zero, beq_self_eq_true]
            rfl
          refine Sq.pu (v := ?_) (a' := ?_) 18 82 (Sq.bl 74 524287) (any_of HT_.out (by kernel_rfl)) rfl rfl (fun _ _ _ h => h) (by rfl) ?_ ?_ ?_; rotate_left; (· intro w'; go_simp; with_reducible rfl); rotate_left; (· simp only [Act.put, List.setIfInBounds_toArray, List.set_cons_zero, List.set_cons_succ, i64_w, i32_w, hw0, Int.add_zero, Int.ofNat_zero, beq_self_eq_true]; rfl)
          refine Sq.pu (v := ?_) (a' := ?_) 19 83 (Sq.bl 74 1048575) (any_of HT_.out (by kernel_rfl)) rfl rfl (fun _ _ _ h => h) (by rfl) ?_ ?_ ?_; rotate_left; (· intro w'; go_simp; with_reducible rfl); rotate_left; (· simp only [Act.put, List.setIfInBounds_toArray, List.set_cons_zero, List.set_cons_succ, i64_w, i32_w, hw0, Int.add_zero, Int.ofNat_zero, beq_self_eq_true]; rfl)
          refine Sq.pu (v := ?_) (a' := ?_) 20 84 (Sq.bl 74 2097151) (any_of HT_.out (by kernel_rfl)) rfl rfl (fun _ _ _ h => h) (by rfl) ?_ ?_ ?_; rotate_left; (· intro w'; go_simp; with_reducible rfl); rotate_left; (· simp only [Act.put, List.setIfInBounds_toArray, List.set_cons_zero, List.set_cons_succ, i64_w, i32_w, hw0, Int.add_zero, Int.ofNat_zero, beq_self_eq_true]; rfl)
          refine Sq.pu (v := ?_) (a' := ?_) 23 87 (Sq.bl 74 10485759) (any_of HT_.out (by kernel_rfl)) rfl rfl (fun _ _ _ h => h) (by rfl) ?_ ?_ ?_; rotate_left; (· intro w'; go_simp; with_reducible rfl); rotate_left; (· simp only [Act.put, List.setIfInBounds_toArray, List.set_cons_zero, List.set_cons_succ, i64_w, i32_w, hw0, Int.add_zero, Int.ofNat_zero, beq_self_eq_true]; rfl)
          refine take_ (i := 21) (N := some 85) (v := ?_) (a' := ?_) (Sq.bl 74 12582911) rfl rfl (take_ofW HT_.out HW_.out (by kernel_rfl)) (fun _ _ _ h => h) (Or.inl ⟨by rfl, ?_⟩) hS ?_ ?_; rotate_left; (· rintro w' ⟨s0, s1⟩; go_simp; with_reducible rfl); rotate_left; (· simp only [Act.put, List.setIfInBounds_toArray, List.set_cons_zero, List.set_cons_succ, i64_w, i32_w, hw0, Int.add_zero, Int.ofNat_zero, beq_self_eq_true]; rfl)
          refine take_ (i := 24) (N := some 88) (v := ?_) (a' := ?_) (Sq.bl 74 29360127) rfl rfl (take_ofW HT_.out HW_.out (by kernel_rfl)) (fun _ _ _ h => h) (Or.inl ⟨by rfl, ?_⟩) hS ?_ ?_; rotate_left; (· rintro w' ⟨s0, s1⟩; go_simp; with_reducible rfl); rotate_left; (· simp only [Act.put, List.setIfInBounds_toArray, List.set_cons_zero, List.set_cons_succ, i64_w, i32_w, hw0, Int.add_zero, Int.ofNat_zero, beq_self_eq_true]; rfl)
          refine one_ (i := 22) (N := some 86) (Sq.bl 74 33554431) rfl rfl (one_of HT_.out (by kernel_rfl)) (by decide) (fun K hK => ?_)
          refine goes_ Tryd.func13 (by kernel_rfl) rfl #[.pointer (some ⟨p, 0, none⟩), .agg #[.int .i64 o.f0, .int .u64 o.f1]] (by rfl) rfl rfl (by (try simp only [List.map_toArray, List.map_cons, List.map_nil]); first | done | rfl | skip) ?_
          refine (HOX.out _ g17).mono ?_
          rintro e_ v22 ⟨rfl, h22⟩
          have g22 := below_step g17 h22
          refine ⟨_, rfl, hK.out _ _ (HS.out _ g22) (fun hS => ?_)⟩
          clear hK K
          refine norm_ (a' := ?_) ?_ ?_
          rotate_left
          · show Act.put _ (some 86) _ = _
            simp only [Act.put, List.setIfInBounds_toArray, List.set_cons_zero, List.set_cons_succ, i64_w, i32_w, hw0, Int.add_zero, Int.ofNat_zero, beq_self_eq_true]
            rfl
          refine one_ (i := 25) (N := some 89) (Sq.bl 74 67108863) rfl rfl (one_of HT_.out (by kernel_rfl)) (by decide) (fun K hK => ?_)
          refine goes_ Tryd.func14 (by kernel_rfl) rfl #[.pointer (some ⟨q, 0, none⟩), .agg #[.int .i64 o.f0, .int .u64 o.f1]] (by rfl) rfl rfl (by (try simp only [List.map_toArray, List.map_cons, List.map_nil]); first | done | rfl | skip) ?_
          refine (HOY.out _ g22).mono ?_
          rintro e_ v25 ⟨rfl, h25⟩
          have g25 := below_step g22 h25
          refine ⟨_, rfl, hK.out _ _ (HS.out _ g25) (fun hS => ?_)⟩
          clear hK K
          refine norm_ (a' := ?_) ?_ ?_
          rotate_left
          · show Act.put _ (some 89) _ = _
            simp only [Act.put, List.setIfInBounds_toArray, List.set_cons_zero, List.set_cons_succ, i64_w, i32_w, hw0, Int.add_zero, Int.ofNat_zero, beq_self_eq_true]
            rfl
          refine Sq.pu (v := ?_) (a' := ?_) 26 90 (Sq.bl 74 134217727) (any_of HT_.out (by kernel_rfl)) rfl rfl (fun _ _ _ h => h) (by rfl) ?_ ?_ ?_; rotate_left; (· intro w'; go_simp; with_reducible rfl); rotate_left; (· simp only [Act.put, List.setIfInBounds_toArray, List.set_cons_zero, List.set_cons_succ, i64_w, i32_w, hw0, Int.add_zero, Int.ofNat_zero, beq_self_eq_true]; rfl)
          refine Sq.pu (v := ?_) (a' := ?_) 27 91 (Sq.bl 74 268435455) (any_of HT_.out (by kernel_rfl)) rfl rfl (fun _ _ _ h => h) (by rfl) ?_ ?_ ?_; rotate_left; (· intro w'; go_simp; with_reducible rfl); rotate_left; (· simp only [Act.put, List.setIfInBounds_toArray, List.set_cons_zero, List.set_cons_succ, i64_w, i32_w, hw0, Int.add_zero, Int.ofNat_zero, beq_self_eq_true]; rfl)
          refine Sq.pu (v := ?_) (a' := ?_) 28 92 (Sq.bl 74 536870911) (any_of HT_.out (by kernel_rfl)) rfl rfl (fun _ _ _ h => h) (by rfl) ?_ ?_ ?_; rotate_left; (· intro w'; go_simp; with_reducible rfl); rotate_left; (· simp only [Act.put, List.setIfInBounds_toArray, List.set_cons_zero, List.set_cons_succ, i64_w, i32_w, hw0, Int.add_zero, Int.ofNat_zero, beq_self_eq_true]; rfl)
          refine Sq.pu (v := ?_) (a' := ?_) 29 93 (Sq.bl 74 1073741823) (any_of HT_.out (by kernel_rfl)) rfl rfl (fun _ _ _ h => h) (by rfl) ?_ ?_ ?_; rotate_left; (· intro w'; go_simp; with_reducible rfl); rotate_left; (· simp only [Act.put, List.setIfInBounds_toArray, List.set_cons_zero, List.set_cons_succ, i64_w, i32_w, hw0, Int.add_zero, Int.ofNat_zero, beq_self_eq_true]; rfl)
          refine Sq.pu (v := ?_) (a' := ?_) 32 96 (Sq.bl 74 5368709119) (any_of HT_.out (by kernel_rfl)) rfl rfl (fun _ _ _ h => h) (by rfl) ?_ ?_ ?_; rotate_left; (· intro w'; go_simp; with_reducible rfl); rotate_left; (· simp only [Act.put, List.setIfInBounds_toArray, List.set_cons_zero, List.set_cons_succ, i64_w, i32_w, hw0, Int.add_zero, Int.ofNat_zero, beq_self_eq_true]; rfl)
          refine take_ (i := 30) (N := some 94) (v := ?_) (a' := ?_) (Sq.bl 74 6442450943) rfl rfl (take_ofW HT_.out HW_.out (by kernel_rfl)) (fun _ _ _ h => h) (Or.inl ⟨by rfl, ?_⟩) hS ?_ ?_; rotate_left; (· rintro w' ⟨s0, s1⟩; go_simp; with_reducible rfl); rotate_left; (· simp only [Act.put, List.setIfInBounds_toArray, List.set_cons_zero, List.set_cons_succ, i64_w, i32_w, hw0, Int.add_zero, Int.ofNat_zero, beq_self_eq_true]; rfl)
          refine take_ (i := 33) (N := some 97) (v := ?_) (a' := ?_) (Sq.bl 74 15032385535) rfl rfl (take_ofW HT_.out HW_.out (by kernel_rfl)) (fun _ _ _ h => h) (Or.inl ⟨by rfl, ?_⟩) hS ?_ ?_; rotate_left; (· rintro w' ⟨s0, s1⟩; go_simp; with_reducible rfl); rotate_left; (· simp only [Act.put, List.setIfInBounds_toArray, List.set_cons_zero, List.set_cons_succ, i64_w, i32_w, hw0, Int.add_zero, Int.ofNat_zero, beq_self_eq_true]; rfl)
          refine one_ (i := 31) (N := some 95) (Sq.bl 74 17179869183) rfl rfl (one_of HT_.out (by kernel_rfl)) (by decide) (fun K hK => ?_)
          refine goes_ Tryd.func13 (by kernel_rfl) rfl #[.pointer (some ⟨p2, 0, none⟩), .agg #[.int .i64 o.f0, .int .u64 o.f1]] (by rfl) rfl rfl (by (try simp only [List.map_toArray, List.map_cons, List.map_nil]); first | done | rfl | skip) ?_
          refine (HOZ.out _ g25).mono ?_
          rintro e_ v31 ⟨rfl, h31⟩
          have g31 := below_step g25 h31
          refine ⟨_, rfl, hK.out _ _ (HS.out _ g31) (fun hS => ?_)⟩
          clear hK K
          refine norm_ (a' := ?_) ?_ ?_
          rotate_left
          · show Act.put _ (some 95) _ = _
            simp only [Act.put, List.setIfInBounds_toArray, List.set_cons_zero, List.set_cons_succ, i64_w, i32_w, hw0, Int.add_zero, Int.ofNat_zero, beq_self_eq_true]
            rfl
          refine one_ (i := 34) (N := some 98) (Sq.bl 74 34359738367) rfl rfl (one_of HT_.out (by kernel_rfl)) (by decide) (fun K hK => ?_)
          refine goes_ Tryd.func14 (by kernel_rfl) rfl #[.pointer (some ⟨q2, 0, none⟩), .agg #[.int .i64 o.f0, .int .u64 o.f1]] (by rfl) rfl rfl (by (try simp only [List.map_toArray, List.map_cons, List.map_nil]); first | done | rfl | skip) ?_
          refine (HOV.out _ g31).mono ?_
          rintro e_ v34 ⟨rfl, h34⟩
          have g34 := below_step g31 h34
          refine ⟨_, rfl, hK.out _ _ (HS.out _ g34) (fun hS => ?_)⟩
          clear hK K
          refine norm_ (a' := ?_) ?_ ?_
          rotate_left
          · show Act.put _ (some 98) _ = _
            simp only [Act.put, List.setIfInBounds_toArray, List.set_cons_zero, List.set_cons_succ, i64_w, i32_w, hw0, Int.add_zero, Int.ofNat_zero, beq_self_eq_true]
            rfl
          refine Sq.pu (v := ?_) (a' := ?_) 35 99 (Sq.bl 74 68719476735) (any_of HT_.out (by kernel_rfl)) rfl rfl (fun _ _ _ h => h) (by rfl) ?_ ?_ ?_; rotate_left; (· intro w'; go_simp; with_reducible rfl); rotate_left; (· simp only [Act.put, List.setIfInBounds_toArray, List.set_cons_zero, List.set_cons_succ, i64_w, i32_w, hw0, Int.add_zero, Int.ofNat_zero, beq_self_eq_true]; rfl)
          refine Sq.pu (v := ?_) (a' := ?_) 36 100 (Sq.bl 74 137438953471) (any_of HT_.out (by kernel_rfl)) rfl rfl (fun _ _ _ h => h) (by rfl) ?_ ?_ ?_; rotate_left; (· intro w'; go_simp; with_reducible rfl); rotate_left; (· simp only [Act.put, List.setIfInBounds_toArray, List.set_cons_zero, List.set_cons_succ, i64_w, i32_w, hw0, Int.add_zero, Int.ofNat_zero, beq_self_eq_true]; rfl)
          refine Sq.pu (v := ?_) (a' := ?_) 37 101 (Sq.bl 74 274877906943) (any_of HT_.out (by kernel_rfl)) rfl rfl (fun _ _ _ h => h) (by rfl) ?_ ?_ ?_; rotate_left; (· intro w'; go_simp; with_reducible rfl); rotate_left; (· simp only [Act.put, List.setIfInBounds_toArray, List.set_cons_zero, List.set_cons_succ, i64_w, i32_w, hw0, Int.add_zero, Int.ofNat_zero, beq_self_eq_true]; rfl)
          refine Sq.pu (v := ?_) (a' := ?_) 38 102 (Sq.bl 74 549755813887) (any_of HT_.out (by kernel_rfl)) rfl rfl (fun _ _ _ h => h) (by rfl) ?_ ?_ ?_; rotate_left; (· intro w'; go_simp; with_reducible rfl); rotate_left; (· simp only [Act.put, List.setIfInBounds_toArray, List.set_cons_zero, List.set_cons_succ, i64_w, i32_w, hw0, Int.add_zero, Int.ofNat_zero, beq_self_eq_true]; rfl)
          refine Sq.pu (v := ?_) (a' := ?_) 39 103 (Sq.bl 74 1099511627775) (any_of HT_.out (by kernel_rfl)) rfl rfl (fun _ _ _ h => h) (by rfl) ?_ ?_ ?_; rotate_left; (· intro w'; go_simp; with_reducible rfl); rotate_left; (· simp only [Act.put, List.setIfInBounds_toArray, List.set_cons_zero, List.set_cons_succ, i64_w, i32_w, hw0, Int.add_zero, Int.ofNat_zero, beq_self_eq_true]; rfl)
          refine one_ (i := 40) (N := some 104) (Sq.bl 74 2199023255551) rfl rfl (one_of HT_.out (by kernel_rfl)) (by decide) (fun K hK => ?_)
          refine goes_ Tryd.func22 (by kernel_rfl) rfl #[.pointer none, .agg #[.string ⟨#[]⟩, .int .i64 0, .int .u64 0, .string ⟨#[]⟩, .string ⟨#[]⟩, .string ⟨#[]⟩]] (by rfl) rfl rfl (by (try simp only [List.map_toArray, List.map_cons, List.map_nil]); first | done | rfl | skip) ?_
          refine (audit_Add.calls_nil (⟨⟨#[]⟩, ⟨0, 0⟩, ⟨#[]⟩, ⟨#[]⟩, ⟨#[]⟩⟩ : S40) _).mono ?_
          rintro e_ v40 ⟨rfl, h40⟩
          have g40 := below_step g34 h40
          refine ⟨_, rfl, hK.out _ _ (HS.out _ g40) (fun hS => ?_)⟩
          clear hK K
          refine norm_ (a' := ?_) ?_ ?_
          rotate_left
          · show Act.put _ (some 104) _ = _
            simp only [Act.put, List.setIfInBounds_toArray, List.set_cons_zero, List.set_cons_succ, i64_w, i32_w, hw0, Int.add_zero, Int.ofNat_zero, beq_self_eq_true]
            rfl
          refine Sq.pu (v := ?_) (a' := ?_) 41 105 (Sq.bl 74 4398046511103) (any_of HT_.out (by kernel_rfl)) rfl rfl (fun _ _ _ h => h) (by rfl) ?_ ?_ ?_; rotate_left; (· intro w'; go_simp; with_reducible rfl); rotate_left; (· simp only [Act.put, List.setIfInBounds_toArray, List.set_cons_zero, List.set_cons_succ, i64_w, i32_w, hw0, Int.add_zero, Int.ofNat_zero, beq_self_eq_true]; rfl)
          refine Sq.pu (v := ?_) (a' := ?_) 42 106 (Sq.bl 74 8796093022207) (any_of HT_.out (by kernel_rfl)) rfl rfl (fun _ _ _ h => h) (by rfl) ?_ ?_ ?_; rotate_left; (· intro w'; go_simp; with_reducible rfl); rotate_left; (· simp only [Act.put, List.setIfInBounds_toArray, List.set_cons_zero, List.set_cons_succ, i64_w, i32_w, hw0, Int.add_zero, Int.ofNat_zero, beq_self_eq_true]; rfl)
          refine Sq.pu (v := ?_) (a' := ?_) 43 107 (Sq.bl 74 17592186044415) (any_of HT_.out (by kernel_rfl)) rfl rfl (fun _ _ _ h => h) (by rfl) ?_ ?_ ?_; rotate_left; (· intro w'; go_simp; with_reducible rfl); rotate_left; (· simp only [Act.put, List.setIfInBounds_toArray, List.set_cons_zero, List.set_cons_succ, i64_w, i32_w, hw0, Int.add_zero, Int.ofNat_zero, beq_self_eq_true]; rfl)
          refine Sq.pu (v := ?_) (a' := ?_) 44 108 (Sq.bl 74 35184372088831) (any_of HT_.out (by kernel_rfl)) rfl rfl (fun _ _ _ h => h) (by rfl) ?_ ?_ ?_; rotate_left; (· intro w'; go_simp; with_reducible rfl); rotate_left; (· simp only [Act.put, List.setIfInBounds_toArray, List.set_cons_zero, List.set_cons_succ, i64_w, i32_w, hw0, Int.add_zero, Int.ofNat_zero, beq_self_eq_true]; rfl)
          refine Sq.pu (v := ?_) (a' := ?_) 46 110 (Sq.bl 74 105553116266495) (any_of HT_.out (by kernel_rfl)) rfl rfl (fun _ _ _ h => h) (by rfl) ?_ ?_ ?_; rotate_left; (· intro w'; go_simp; with_reducible rfl); rotate_left; (· simp only [Act.put, List.setIfInBounds_toArray, List.set_cons_zero, List.set_cons_succ, i64_w, i32_w, hw0, Int.add_zero, Int.ofNat_zero, beq_self_eq_true]; rfl)
          refine Sq.pu (v := ?_) (a' := ?_) 50 114 (Sq.bl 74 1231453023109119) (any_of HT_.out (by kernel_rfl)) rfl rfl (fun _ _ _ h => h) (by rfl) ?_ ?_ ?_; rotate_left; (· intro w'; go_simp; with_reducible rfl); rotate_left; (· simp only [Act.put, List.setIfInBounds_toArray, List.set_cons_zero, List.set_cons_succ, i64_w, i32_w, hw0, Int.add_zero, Int.ofNat_zero, beq_self_eq_true]; rfl)
          refine Sq.pu (v := ?_) (a' := ?_) 55 119 (Sq.bl 74 37260250042073087) (any_of HT_.out (by kernel_rfl)) rfl rfl (fun _ _ _ h => h) (by rfl) ?_ ?_ ?_; rotate_left; (· intro w'; go_simp; with_reducible rfl); rotate_left; (· simp only [Act.put, List.setIfInBounds_toArray, List.set_cons_zero, List.set_cons_succ, i64_w, i32_w, hw0, Int.add_zero, Int.ofNat_zero, beq_self_eq_true]; rfl)
          refine take_ (i := 47) (N := some 111) (v := ?_) (a' := ?_) (Sq.bl 74 37400987530428415) rfl rfl (take_ofW HT_.out HW_.out (by kernel_rfl)) (fun _ _ _ h => h) (Or.inl ⟨by rfl, ?_⟩) hS ?_ ?_; rotate_left; (· rintro w' ⟨s0, s1⟩; go_simp; with_reducible rfl); rotate_left; (· simp only [Act.put, List.setIfInBounds_toArray, List.set_cons_zero, List.set_cons_succ, i64_w, i32_w, hw0, Int.add_zero, Int.ofNat_zero, beq_self_eq_true]; rfl)
          refine take_ (i := 51) (N := some 115) (v := ?_) (a' := ?_) (Sq.bl 74 39652787344113663) rfl rfl (take_ofW HT_.out HW_.out (by kernel_rfl)) (fun _ _ _ h => h) (Or.inl ⟨by rfl, ?_⟩) hS ?_ ?_; rotate_left; (· rintro w' ⟨s0, s1⟩; go_simp; with_reducible rfl); rotate_left; (· simp only [Act.put, List.setIfInBounds_toArray, List.set_cons_zero, List.set_cons_succ, i64_w, i32_w, hw0, Int.add_zero, Int.ofNat_zero, beq_self_eq_true]; rfl)
          refine take_ (i := 56) (N := some 120) (v := ?_) (a' := ?_) (Sq.bl 74 111710381382041599) rfl rfl (take_ofW HT_.out HW_.out (by kernel_rfl)) (fun _ _ _ h => h) (Or.inl ⟨by rfl, ?_⟩) hS ?_ ?_; rotate_left; (· rintro w' ⟨s0, s1⟩; go_simp; with_reducible rfl); rotate_left; (· simp only [Act.put, List.setIfInBounds_toArray, List.set_cons_zero, List.set_cons_succ, i64_w, i32_w, hw0, Int.add_zero, Int.ofNat_zero, beq_self_eq_true]; rfl)
          refine one_ (i := 45) (N := some 109) (Sq.bl 74 111745565754130431) rfl rfl (one_of HT_.out (by kernel_rfl)) (by decide) (fun K hK => ?_)
          refine goes_ Tryd.func26 (by kernel_rfl) rfl #[.pointer none] (by rfl) rfl rfl (by (try simp only [List.map_toArray, List.map_cons, List.map_nil]); first | done | rfl | skip) ?_
          refine (audit_Len.calls_nil _).mono ?_
          rintro e_ v45 ⟨rfl, rfl⟩
          refine ⟨_, rfl, hK.out _ _ (HS.out _ g40) (fun hS => ?_)⟩
          clear hK K
          refine norm_ (a' := ?_) ?_ ?_
          rotate_left
          · show Act.put _ (some 109) _ = _
            simp only [Act.put, List.setIfInBounds_toArray, List.set_cons_zero, List.set_cons_succ, i64_w, i32_w, hw0, Int.add_zero, Int.ofNat_zero, beq_self_eq_true]
            rfl
          refine one_ (i := 48) (N := some 112) (Sq.bl 74 112027040730841087) rfl rfl (one_of HT_.out (by kernel_rfl)) (by decide) (fun K hK => ?_)
          refine goes_ Tryd.func13 (by kernel_rfl) rfl #[.pointer none, .agg #[.int .i64 o.f0, .int .u64 o.f1]] (by rfl) rfl rfl (by (try simp only [List.map_toArray, List.map_cons, List.map_nil]); first | done | rfl | skip) ?_
          refine (audit_Of.calls_nil o _).mono ?_
          rintro e_ v48 ⟨rfl, h48⟩
          have g48 := below_step g40 h48
          refine ⟨_, rfl, hK.out _ _ (HS.out _ g48) (fun hS => ?_)⟩
          clear hK K
          refine norm_ (a' := ?_) ?_ ?_
          rotate_left
          · show Act.put _ (some 112) _ = _
            simp only [Act.put, List.setIfInBounds_toArray, List.set_cons_zero, List.set_cons_succ, i64_w, i32_w, hw0, Int.add_zero, Int.ofNat_zero, beq_self_eq_true]
            rfl
          refine Sq.pu (v := ?_) (a' := ?_) 49 113 (Sq.bl 74 112589990684262399) (any_of HT_.out (by kernel_rfl)) rfl rfl (fun _ _ _ h => h) (by rfl) ?_ ?_ ?_; rotate_left; (· intro w'; go_simp; with_reducible rfl); rotate_left; (· simp only [Act.put, List.setIfInBounds_toArray, List.set_cons_zero, List.set_cons_succ, i64_w, i32_w, hw0, Int.add_zero, Int.ofNat_zero, beq_self_eq_true]; rfl)
          refine one_ (i := 52) (N := some 116) (Sq.bl 74 117093590311632895) rfl rfl (one_of HT_.out (by kernel_rfl)) (by decide) (fun K hK => ?_)
          refine goes_ Tryd.func17 (by kernel_rfl) rfl #[.pointer none, .agg #[.int .i64 o.f0, .int .u64 o.f1]] (by rfl) rfl rfl (by (try simp only [List.map_toArray, List.map_cons, List.map_nil]); first | done | rfl | skip) ?_
          refine (audit_Seen.calls_nil o _).mono ?_
          rintro e_ v52 ⟨rfl, h52⟩
          have g52 := below_step g48 h52
          refine ⟨_, rfl, hK.out _ _ (HS.out _ g52) (fun hS => ?_)⟩
          clear hK K
          refine norm_ (a' := ?_) ?_ ?_
          rotate_left
          · show Act.put _ (some 116) _ = _
            simp only [Act.put, List.setIfInBounds_toArray, List.set_cons_zero, List.set_cons_succ, i64_w, i32_w, hw0, Int.add_zero, Int.ofNat_zero, beq_self_eq_true]
            rfl
          refine Sq.pu (v := ?_) (a' := ?_) 53 117 (Sq.bl 74 126100789566373887) (any_of HT_.out (by kernel_rfl)) rfl rfl (fun _ _ _ h => h) (by rfl) ?_ ?_ ?_; rotate_left; (· intro w'; go_simp; with_reducible rfl); rotate_left; (· simp only [Act.put, List.setIfInBounds_toArray, List.set_cons_zero, List.set_cons_succ, i64_w, i32_w, hw0, Int.add_zero, Int.ofNat_zero, beq_self_eq_true]; rfl)
          refine Sq.pu (v := ?_) (a' := ?_) 54 118 (Sq.bl 74 144115188075855871) (any_of HT_.out (by kernel_rfl)) rfl rfl (fun _ _ _ h => h) (by rfl) ?_ ?_ ?_; rotate_left; (· intro w'; go_simp; with_reducible rfl); rotate_left; (· simp only [Act.put, List.setIfInBounds_toArray, List.set_cons_zero, List.set_cons_succ, i64_w, i32_w, hw0, Int.add_zero, Int.ofNat_zero, beq_self_eq_true]; rfl)
          refine one_ (i := 57) (N := some 121) (Sq.bl 74 288230376151711743) rfl rfl (one_of HT_.out (by kernel_rfl)) (by decide) (fun K hK => ?_)
          refine goes_ Tryd.func19 (by kernel_rfl) rfl #[.pointer none, .agg #[.int .i64 o.f0, .int .u64 o.f1]] (by rfl) rfl rfl (by (try simp only [List.map_toArray, List.map_cons, List.map_nil]); first | done | rfl | skip) ?_
          refine (audit_Print.calls_nil o _).mono ?_
          rintro e_ v57 ⟨A57, c57, rfl, h57⟩
          have g57 := below_step g52 h57
          refine ⟨_, rfl, hK.out _ _ (HS.out _ g57) (fun hS => ?_)⟩
          clear hK K
          refine norm_ (a' := ?_) ?_ ?_
          rotate_left
          · show Act.put _ (some 121) _ = _
            simp only [Act.put, List.setIfInBounds_toArray, List.set_cons_zero, List.set_cons_succ, i64_w, i32_w, hw0, Int.add_zero, Int.ofNat_zero, beq_self_eq_true]
            rfl
          refine Sq.pu (v := ?_) (a' := ?_) 58 122 (Sq.bl 74 576460752303423487) (any_of HT_.out (by kernel_rfl)) rfl rfl (fun _ _ _ h => h) (by rfl) ?_ ?_ ?_; rotate_left; (· intro w'; go_simp; with_reducible rfl); rotate_left; (· simp only [Act.put, List.setIfInBounds_toArray, List.set_cons_zero, List.set_cons_succ, i64_w, i32_w, hw0, Int.add_zero, Int.ofNat_zero, beq_self_eq_true]; rfl)
          refine Sq.pu (v := ?_) (a' := ?_) 59 123 (Sq.bl 74 1152921504606846975) (any_of HT_.out (by kernel_rfl)) rfl rfl (fun _ _ _ h => h) (by rfl) ?_ ?_ ?_; rotate_left; (· intro w'; go_simp; with_reducible rfl); rotate_left; (· simp only [Act.put, List.setIfInBounds_toArray, List.set_cons_zero, List.set_cons_succ, i64_w, i32_w, hw0, Int.add_zero, Int.ofNat_zero, beq_self_eq_true]; rfl)
          refine Sq.pu (v := ?_) (a' := ?_) 60 124 (Sq.bl 74 2305843009213693951) (any_of HT_.out (by kernel_rfl)) rfl rfl (fun _ _ _ h => h) (by rfl) ?_ ?_ ?_; rotate_left; (· intro w'; go_simp; with_reducible rfl); rotate_left; (· simp only [Act.put, List.setIfInBounds_toArray, List.set_cons_zero, List.set_cons_succ, i64_w, i32_w, hw0, Int.add_zero, Int.ofNat_zero, beq_self_eq_true]; rfl)
          refine Sq.pu (v := ?_) (a' := ?_) 61 125 (Sq.bl 74 4611686018427387903) (any_of HT_.out (by kernel_rfl)) rfl rfl (fun _ _ _ h => h) (by rfl) ?_ ?_ ?_; rotate_left; (· intro w'; go_simp; with_reducible rfl); rotate_left; (· simp only [Act.put, List.setIfInBounds_toArray, List.set_cons_zero, List.set_cons_succ, i64_w, i32_w, hw0, Int.add_zero, Int.ofNat_zero, beq_self_eq_true]; rfl)
          refine Sq.pu (v := ?_) (a' := ?_) 62 126 (Sq.bl 74 9223372036854775807) (any_of HT_.out (by kernel_rfl)) rfl rfl (fun _ _ _ h => h) (by rfl) ?_ ?_ ?_; rotate_left; (· intro w'; go_simp; with_reducible rfl); rotate_left; (· simp only [Act.put, List.setIfInBounds_toArray, List.set_cons_zero, List.set_cons_succ, i64_w, i32_w, hw0, Int.add_zero, Int.ofNat_zero, beq_self_eq_true]; rfl)
          refine Sq.pu (v := ?_) (a' := ?_) 63 127 (Sq.bl 74 18446744073709551615) (any_of HT_.out (by kernel_rfl)) rfl rfl (fun _ _ _ h => h) (by rfl) ?_ ?_ ?_; rotate_left; (· intro w'; go_simp; with_reducible rfl); rotate_left; (· simp only [Act.put, List.setIfInBounds_toArray, List.set_cons_zero, List.set_cons_succ, i64_w, i32_w, hw0, Int.add_zero, Int.ofNat_zero, beq_self_eq_true]; rfl)
          refine take_ (i := 64) (N := some 128) (v := ?_) (a' := ?_) (Sq.bl 74 36893488147419103231) rfl rfl (take_ofW HT_.out HW_.out (by kernel_rfl)) (fun _ _ _ h => h) (Or.inl ⟨by rfl, ?_⟩) hS ?_ ?_; rotate_left; (· rintro w' ⟨s0, s1⟩; go_simp; with_reducible rfl); rotate_left; (· simp only [Act.put, List.setIfInBounds_toArray, List.set_cons_zero, List.set_cons_succ, i64_w, i32_w, hw0, Int.add_zero, Int.ofNat_zero, beq_self_eq_true]; rfl)
          refine one_ (i := 65) (N := some 129) (Sq.bl 74 73786976294838206463) rfl rfl (one_of HT_.out (by kernel_rfl)) (by decide) (fun K hK => ?_)
          refine goes_ Tryd.func15 (by kernel_rfl) rfl #[.pointer none, .agg #[.int .i64 o.f0, .int .u64 o.f1], .int .i64 0] (by rfl) rfl rfl (by (try simp only [List.map_toArray, List.map_cons, List.map_nil]); first | done | rfl | skip) ?_
          refine (audit_Full.calls_nil o 0 _).mono ?_
          rintro e_ v65 ⟨rfl, h65⟩
          have g65 := below_step g57 h65
          refine ⟨_, rfl, hK.out _ _ (HS.out _ g65) (fun hS => ?_)⟩
          clear hK K
          refine norm_ (a' := ?_) ?_ ?_
          rotate_left
          · show Act.put _ (some 129) _ = _
            simp only [Act.put, List.setIfInBounds_toArray, List.set_cons_zero, List.set_cons_succ, i64_w, i32_w, hw0, Int.add_zero, Int.ofNat_zero, beq_self_eq_true]
            rfl
          refine Sq.pu (v := ?_) (a' := ?_) 66 130 (Sq.bl 74 147573952589676412927) (any_of HT_.out (by kernel_rfl)) rfl rfl (fun _ _ _ h => h) (by rfl) ?_ ?_ ?_; rotate_left; (· intro w'; go_simp; with_reducible rfl); rotate_left; (· simp only [Act.put, List.setIfInBounds_toArray, List.set_cons_zero, List.set_cons_succ, i64_w, i32_w, hw0, Int.add_zero, Int.ofNat_zero, beq_self_eq_true]; rfl)
          refine Sq.pu (v := ?_) (a' := ?_) 67 131 (Sq.bl 74 295147905179352825855) (any_of HT_.out (by kernel_rfl)) rfl rfl (fun _ _ _ h => h) (by rfl) ?_ ?_ ?_; rotate_left; (· intro w'; go_simp; with_reducible rfl); rotate_left; (· simp only [Act.put, List.setIfInBounds_toArray, List.set_cons_zero, List.set_cons_succ, i64_w, i32_w, hw0, Int.add_zero, Int.ofNat_zero, beq_self_eq_true]; rfl)
          refine Sq.pu (v := ?_) (a' := ?_) 68 132 (Sq.bl 74 590295810358705651711) (any_of HT_.out (by kernel_rfl)) rfl rfl (fun _ _ _ h => h) (by rfl) ?_ ?_ ?_; rotate_left; (· intro w'; go_simp; with_reducible rfl); rotate_left; (· simp only [Act.put, List.setIfInBounds_toArray, List.set_cons_zero, List.set_cons_succ, i64_w, i32_w, hw0, Int.add_zero, Int.ofNat_zero, beq_self_eq_true]; rfl)
          refine Sq.pu (v := ?_) (a' := ?_) 69 133 (Sq.bl 74 1180591620717411303423) (any_of HT_.out (by kernel_rfl)) rfl rfl (fun _ _ _ h => h) (by rfl) ?_ ?_ ?_; rotate_left; (· intro w'; go_simp; with_reducible rfl); rotate_left; (· simp only [Act.put, List.setIfInBounds_toArray, List.set_cons_zero, List.set_cons_succ, i64_w, i32_w, hw0, Int.add_zero, Int.ofNat_zero, beq_self_eq_true]; rfl)
          refine one_ (i := 70) (N := some 134) (Sq.bl 74 2361183241434822606847) rfl rfl (one_of HT_.out (by kernel_rfl)) (by decide) (fun K hK => ?_)
          refine goes_ Tryd.func23 (by kernel_rfl) rfl #[.pointer none] (by rfl) rfl rfl (by (try simp only [List.map_toArray, List.map_cons, List.map_nil]); first | done | rfl | skip) ?_
          refine (audit_Fork.calls_nil _).mono ?_
          rintro e_ v70 ⟨rfl, h70⟩
          have g70 := below_step g65 h70
          refine ⟨_, rfl, hK.out _ _ (HS.out _ g70) (fun hS => ?_)⟩
          clear hK K
          refine norm_ (a' := ?_) ?_ ?_
          rotate_left
          · show Act.put _ (some 134) _ = _
            simp only [Act.put, List.setIfInBounds_toArray, List.set_cons_zero, List.set_cons_succ, i64_w, i32_w, hw0, Int.add_zero, Int.ofNat_zero, beq_self_eq_true]
            rfl
          refine Sq.pu (v := ?_) (a' := ?_) 71 135 (Sq.bl 74 4722366482869645213695) (any_of HT_.out (by kernel_rfl)) rfl rfl (fun _ _ _ h => h) (by rfl) ?_ ?_ ?_; rotate_left; (· intro w'; go_simp; with_reducible rfl); rotate_left; (· simp only [Act.put, List.setIfInBounds_toArray, List.set_cons_zero, List.set_cons_succ, i64_w, i32_w, hw0, Int.add_zero, Int.ofNat_zero, beq_self_eq_true]; rfl)
          refine Sq.pu (v := ?_) (a' := ?_) 72 136 (Sq.bl 74 9444732965739290427391) (any_of HT_.out (by kernel_rfl)) rfl rfl (fun _ _ _ h => h) (by rfl) ?_ ?_ ?_; rotate_left; (· intro w'; go_simp; with_reducible rfl); rotate_left; (· simp only [Act.put, List.setIfInBounds_toArray, List.set_cons_zero, List.set_cons_succ, i64_w, i32_w, hw0, Int.add_zero, Int.ofNat_zero, beq_self_eq_true]; rfl)
          refine Sq.pu (v := ?_) (a' := ?_) 73 6 (Sq.bl 74 18889465931478580854783) (any_of HT_.out (by kernel_rfl)) rfl rfl (fun _ _ _ h => h) (by rfl) ?_ ?_ ?_; rotate_left; (· intro w'; go_simp; with_reducible rfl); rotate_left; (· simp only [Act.put, List.setIfInBounds_toArray, List.set_cons_zero, List.set_cons_succ, i64_w, i32_w, hw0, Int.add_zero, Int.ofNat_zero, beq_self_eq_true]; rfl)
          refine done_ (done_of HT_.out (by kernel_rfl)) ?_
          have HE := Aside0.mk (HBW8.out.trans (g70.mono HBW8.out.size))
          clear hS
          go_wp2
          go_ret
          exact ⟨rfl, HE.out⟩
end Go.Proofs.YtkinepmilnkhmaaDoor.A
end
section
namespace Go.Proofs.YtkinepmilnkhmaaDoor.A
open Go.RowKit Go.Proofs.YtkinepmilnkhmaaDoorW.PrintWords Go.Proofs.YtkinepmilnkhmaaDoorW.PrintLast Go.Proofs.YtkinepmilnkhmaaDoorW.PrintMore
set_option linter.unusedVariables false
set_option linter.unusedSimpArgs false
theorem law_forks (A0 : Option Addr) (c0 : Nat) (A1 : Option Addr) (c1 : Nat) (l more : List S40) (o : S25) (w : World) (hr0 : Kd.C k40 w A0 l.length l) (hc0 : l.length ≤ c0) (hr1 : Kd.C k40 w A1 more.length more) (hc1 : more.length ≤ c1) (s0 : ∀ x ∈ l, ok40 x) (s1 : ∀ x ∈ more, ok40 x) (s2 : ok25 o) (hT : TabOk w) :
    Calls Tryd.prog 6 #[.slice A0 l.length c0, .slice A1 more.length c1, .agg #[.int .i64 o.f0, .int .u64 o.f1]] w fun e w' => e = .returned (.bool true) ∧ Below w.heap.size w w' := by
  obtain ⟨K1, h1⟩ := chk_all l s0
  obtain ⟨K2, h2⟩ := live_rounds
  obtain ⟨K3, h3⟩ := low_all l o s2 s0
  have hp : (playL chkE (l.take 60)).length ≤ 60 := Nat.le_trans (playL_len _ _) (by rw [List.length_take]; omega)
  obtain ⟨K4, h4⟩ := same_ev (seenL o (playL chkE (l.take 60))) (Nat.le_trans (List.length_filter_le _ _) (by omega))
  obtain ⟨K5, h5⟩ := chk_all more s1
  obtain ⟨K6, h6⟩ := low_all more o s2 s1
  obtain ⟨K7, h7⟩ := same_ev (seenL o (moreL chkE (playL chkE (l.take 60)) (more.take 30))) (Nat.le_trans (List.length_filter_le _ _) (by
    unfold moreL
    rw [List.length_append]
    have := playL_len chkE (more.take 30)
    rw [List.length_take] at this
    omega))
  have g1 := h1 (K1 + K2 + K3 + K4 + K5 + K6 + K7) (by omega)
  have g2 := h2 (K1 + K2 + K3 + K4 + K5 + K6 + K7) (by omega)
  have g5 := h5 (K1 + K2 + K3 + K4 + K5 + K6 + K7) (by omega)
  by_cases hm : more.length ≤ 30
  · exact forks.calls1 (K1 + K2 + K3 + K4 + K5 + K6 + K7) chkE A0 c0 l A1 c1 more o w hr0 hc0 hr1 hc1 (fun x hx => (s0 x hx).2.1) (fun x hx => (s1 x hx).2.1) s2 (fun x hx => (g1 x hx).1) (fun x hx => (g1 x hx).2) (fun x hx => (g5 x hx).1) (fun x hx => (g5 x hx).2) g2.1 g2.2 hT (h3 _ (by omega)) (h6 _ (by omega)) (h4 _ (by omega)) (h7 _ (by omega)) hm
  · exact forks.calls2 (K1 + K2 + K3 + K4 + K5 + K6 + K7) chkE A0 c0 l A1 c1 more o w hr0 hc0 hr1 hc1 (fun x hx => (s0 x hx).2.1) (fun x hx => (s1 x hx).2.1) s2 (fun x hx => (g1 x hx).1) (fun x hx => (g1 x hx).2) (fun x hx => (g5 x hx).1) (fun x hx => (g5 x hx).2) g2.1 g2.2 hT (h3 _ (by omega)) (h6 _ (by omega)) (h4 _ (by omega)) (h7 _ (by omega)) (by omega)
end Go.Proofs.YtkinepmilnkhmaaDoor.A
end
