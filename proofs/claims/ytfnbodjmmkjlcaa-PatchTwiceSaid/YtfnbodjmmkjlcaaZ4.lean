/-
  What the claim needs of the words, of the walks and of the plain proofs, in one row (4).
-/
import Derived.ChangeKeysEq
import Derived.ArgAppend
import Derived.Deep.RegionHeld3
import Derived.WalkLawsBesides
import Derived.WalkSpells
import Derived.RangeFuncNested
import Derived.RangeFuncBound
import Derived.RangeFuncCalls
import Derived.RangeFuncLeaves
import Derived.RangeFuncBox
import Derived.RangeFuncMany
import Derived.Shelf.Abstract
import Derived.OwnWalkIn
import Derived.TacticsInMore
import Derived.LoopNIn
import Derived.LoopIn
import Derived.Test.YtfnbodjmmkjlcaaZ0
import Derived.Test.YtfnbodjmmkjlcaaZ1
import Derived.Test.YtfnbodjmmkjlcaaZ2
import Derived.Test.YtfnbodjmmkjlcaaZ3
section
namespace Go.Proofs.Ytfnbodjmmkjlcaa.H
open Go.RowKit Go.Proofs.YtfnbodjmmkjlcaaW.PrintWords Go.Proofs.YtfnbodjmmkjlcaaW.PrintLast Go.Proofs.YtfnbodjmmkjlcaaW.PrintMore
attribute [local go_sem] max2_int min2_int max_two min_two max_three min_three max_four min_four
set_option linter.unusedVariables false
set_option linter.unusedSimpArgs false
mutual
def patch_Size.l0:Nat→Int→Int→List (S44)→Int→Int→Option (Int×Int)
 | 0,_,_,_,_,_=>none
 | k+1,x4,x5,x10,x11,x12=>if x12<x11 then (if 0≤x12 then (if x12<(x10.length:Int) then (patch_Size.l1 k x4 x5 x10 x11 x12 ((rd_T44 x10 x12).f4) (((rd_T44 x10 x12).f4).length:Int) 0) else (none)) else (none)) else (some (x4,x5))
def patch_Size.l1:Nat→Int→Int→List (S44)→Int→Int→List (S47)→Int→Int→Option (Int×Int)
 | 0,_,_,_,_,_,_,_,_=>none
 | k+1,x4,x5,x10,x11,x12,x17,x18,x19=>if x19<x18 then (if 0≤x19 then (if x19<(x17.length:Int) then (if ((rd_T47 x17 x19).f0)=3 then (patch_Size.l1 k (wrap64 (x4+(((rd_T47 x17 x19).f1).length:Int))) x5 x10 x11 x12 x17 x18 (wrap64 (x19+1))) else (if ((rd_T47 x17 x19).f0)=2 then (patch_Size.l1 k x4 (wrap64 (x5+(((rd_T47 x17 x19).f1).length:Int))) x10 x11 x12 x17 x18 (wrap64 (x19+1))) else (patch_Size.l1 k x4 x5 x10 x11 x12 x17 x18 (wrap64 (x19+1))))) else (none)) else (none)) else (patch_Size.l0 k x4 x5 x10 x11 (wrap64 (x12+1)))
end
def patch_Size.f (k:Nat) (l0:List (S44)):Option (Int×Int):=patch_Size.l0 k 0 0 l0 (l0.length:Int) 0
theorem patch_Size.mono_l: ∀k,(∀y0 y1 y2 y3 y4,LeO (patch_Size.l0 k y0 y1 y2 y3 y4) (patch_Size.l0 (k+1) y0 y1 y2 y3 y4))∧(∀y0 y1 y2 y3 y4 y5 y6 y7,LeO (patch_Size.l1 k y0 y1 y2 y3 y4 y5 y6 y7) (patch_Size.l1 (k+1) y0 y1 y2 y3 y4 y5 y6 y7))
 | 0=>⟨fun _ _ _ _ _ r h=>by simp [patch_Size.l0] at h,fun _ _ _ _ _ _ _ _ r h=>by simp [patch_Size.l1] at h⟩
 | k+1=>by
  obtain⟨ih0,ih1⟩:=patch_Size.mono_l k
  refine⟨?_,?_⟩
  ·intro y0 y1 y2 y3 y4
   unfold patch_Size.l0
   repeat' first
   | (with_reducible exact ih0 _ _ _ _ _)
   | (with_reducible exact ih1 _ _ _ _ _ _ _ _)
   | (with_reducible exact LeO.refl _)
   | (with_reducible exact LeO.none _)
   | (with_reducible refine LeO.ite ?_ ?_)
   | (with_reducible refine LeO.bind ?_ (fun _=>?_))
   | exact ih0 _ _ _ _ _
   | exact ih1 _ _ _ _ _ _ _ _
   | exact LeO.none _
   | refine LeO.ite ?_ ?_
   | refine LeO.bind ?_ (fun _=>?_)
  ·intro y0 y1 y2 y3 y4 y5 y6 y7
   unfold patch_Size.l1
   repeat' first
   | (with_reducible exact ih0 _ _ _ _ _)
   | (with_reducible exact ih1 _ _ _ _ _ _ _ _)
   | (with_reducible exact LeO.refl _)
   | (with_reducible exact LeO.none _)
   | (with_reducible refine LeO.ite ?_ ?_)
   | (with_reducible refine LeO.bind ?_ (fun _=>?_))
   | exact ih0 _ _ _ _ _
   | exact ih1 _ _ _ _ _ _ _ _
   | exact LeO.none _
   | refine LeO.ite ?_ ?_
   | refine LeO.bind ?_ (fun _=>?_)
theorem patch_Size.mono: ∀a0 k,LeO (patch_Size.f k a0) (patch_Size.f (k+1) a0):=by
 intro a0 k
 obtain⟨ih0,ih1⟩:=patch_Size.mono_l k
 unfold patch_Size.f
 repeat' first
   | (with_reducible exact ih0 _ _ _ _ _)
   | (with_reducible exact ih1 _ _ _ _ _ _ _ _)
   | (with_reducible exact LeO.refl _)
   | (with_reducible exact LeO.none _)
   | (with_reducible refine LeO.ite ?_ ?_)
   | (with_reducible refine LeO.bind ?_ (fun _=>?_))
   | exact ih0 _ _ _ _ _
   | exact ih1 _ _ _ _ _ _ _ _
   | exact LeO.none _
   | refine LeO.ite ?_ ?_
   | refine LeO.bind ?_ (fun _=>?_)
set_option maxHeartbeats 8000000 in
set_option maxRecDepth 100000 in
theorem patch_Size.calls (k:Nat) (A0:Option Addr) (c0:Nat) (l0:List (S44)) (r1:Int) (r2:Int) (w:World) (hr0:Kd.C k44 w A0 l0.length l0) (hc0:l0.length≤c0) (h:patch_Size.f k l0=some (r1,r2)):
  Calls Try.prog 40 #[.slice A0 l0.length c0] w fun e w'=>e= .returned (.tuple #[.int .i64 r1, .int .i64 r2])∧Below w.heap.size w w':=by
 have hu44:=Try.underlying44
 have hu47:=Try.underlying47
 have HR0:=Aside0.mk hr0
 have HC0:=Aside0.mk hc0
 clear hr0 hc0
 have HB:=Aside0.mk (Below.refl w.heap.size w)
 have H:(patch_Size.l0 k 0 0 l0 (l0.length:Int) 0)=some (r1,r2):=h
 clear h
 have H':=Aside0.mk H
 clear H
 go_enter Try.func40,Try.ntmps40
 go_wp2
 go_loopg [4,5,12] k (fun kq v4 v5 v12 w'=> ∃(x4_1:Int) (x5_1:Int) (x12_1:Int),v4= .int .i64 x4_1∧v5= .int .i64 x5_1∧v12= .int .i64 x12_1∧Aside0 (patch_Size.l0 kq x4_1 x5_1 l0 (l0.length:Int) x12_1=some (r1,r2))∧Aside0 (kq≤k)∧Aside0 (Below w.heap.size w w'))
 case atStart=>exact⟨(0),(0),(0),(by rfl),(by rfl),(by rfl),H',⟨Nat.le_refl _⟩,⟨by repeat((with_reducible exact HB.out))⟩⟩
 case round=>
  clear H'
  obtain⟨x4_1,x5_1,x12_1,rfl,rfl,rfl,HA,HK1,HB⟩:=hrel
  cases gk with
  | zero=>exact absurd HA.out (by simp [patch_Size.l0])
  | succ k1=>
   have H:=HA.out
   clear HA
   simp only [patch_Size.l0] at H
   by_cases c2:x12_1<(l0.length:Int)
   ·rw [if_pos c2] at H
    have c2b0:decide (x12_1<(l0.length:Int))=true:=decide_eq_true c2
    clear c2
    by_cases c3:0≤x12_1
    ·rw [if_pos c3] at H
     have c3b0:decide (0≤x12_1)=true:=decide_eq_true c3
     clear c3
     by_cases c4:x12_1<(l0.length:Int)
     ·rw [if_pos c4] at H
      have c4b0:decide (x12_1<(l0.length:Int))=true:=decide_eq_true c4
      clear c4
      have H':=Aside0.mk H
      clear H
      have p471:0≤(x12_1:Int):=of_decide_eq_true (by(with_reducible assumption))
      have q471:x12_1<(l0.length:Int):=of_decide_eq_true (by(with_reducible assumption))
      obtain⟨ad471,A471_4,c471_4,e471,hx471_0,hx471_1,hx471_2,hx471_3,hx471_4,hl471_4,hi471_4⟩:=at_T44 HR0.out x12_1 p471 q471
      cases e471
      replace hx471_0:=(HB.out.cell (World.block_lt_of_cell? w _ hx471_0)).trans hx471_0
      replace hx471_1:=(HB.out.cell (World.block_lt_of_cell? w _ hx471_1)).trans hx471_1
      replace hx471_2:=(HB.out.cell (World.block_lt_of_cell? w _ hx471_2)).trans hx471_2
      replace hx471_3:=(HB.out.cell (World.block_lt_of_cell? w _ hx471_3)).trans hx471_3
      replace hx471_4:=(HB.out.cell (World.block_lt_of_cell? w _ hx471_4)).trans hx471_4
      have HR471_4:=Aside0.mk hi471_4
      have HC471_4:=Aside0.mk hl471_4
      clear hi471_4 hl471_4
      replace p471:=eq_true p471
      replace q471:=eq_true q471
      go_wp2_with(((with_reducible refine gate_dst (N:=7) rfl ?_);refine box_event ?hg (N:=7) ?hd (cs:= #[.int .i64 0, .int .i64 0, .int .i64 0, .int .i64 0, .slice none 0 0]) (t:=44) ?hr ?_;(case hd=>rfl);(case hg=>rfl);(case hr=>(go_simp;done));intro gb472 hg w5 hbox hb;have n0_:=Aside0.mk (below_step (by repeat((with_reducible exact HB.out))) hb);have n1_:=Aside0.mk (hbox);have n2_:=Aside0.mk ((by rw [hg];exact(below_size (by repeat((with_reducible exact HB.out)))):w.heap.size≤gb472));have n3_:=Aside0.mk ((by rw [hg];exact(below_size (by repeat((with_reducible exact HB.out)))):w.heap.size≤gb472));clear HB;have HB:=n0_;have BK472:=n1_;have GW472:=n2_;have GE472:=n3_;clear n0_ n1_ n2_ n3_;clear hb hbox hg;have hcz6_0:w5.cell? ⟨gb472,0,none⟩=some (.int .i64 0):=(blk_cell BK472.out 0).trans rfl;have hcz6_1:w5.cell? ⟨gb472,1,none⟩=some (.int .i64 0):=(blk_cell BK472.out 1).trans rfl;have hcz6_2:w5.cell? ⟨gb472,2,none⟩=some (.int .i64 0):=(blk_cell BK472.out 2).trans rfl;have hcz6_3:w5.cell? ⟨gb472,3,none⟩=some (.int .i64 0):=(blk_cell BK472.out 3).trans rfl;have hcz6_4:w5.cell? ⟨gb472,4,none⟩=some (.slice none 0 0):=(blk_cell BK472.out 4).trans rfl;have hfz6_0:=blk_frozen BK472.out 0;have hfz6_1:=blk_frozen BK472.out 1;have hfz6_2:=blk_frozen BK472.out 2;have hfz6_3:=blk_frozen BK472.out 3;have hfz6_4:=blk_frozen BK472.out 4))
      go_loopg [4,5,19] k1 (fun kq v4 v5 v19 w'=> ∃(x4_2:Int) (x5_2:Int) (x19_2:Int),v4= .int .i64 x4_2∧v5= .int .i64 x5_2∧v19= .int .i64 x19_2∧Aside0 (patch_Size.l1 kq x4_2 x5_2 l0 (l0.length:Int) x12_1 ((rd_T44 l0 x12_1).f4) (((rd_T44 l0 x12_1).f4).length:Int) x19_2=some (r1,r2))∧Aside0 (kq≤k1)∧Aside0 (w'.heap[gb472]? =some (.cells #[.int .i64 ((rd_T44 l0 x12_1).f0), .int .i64 ((rd_T44 l0 x12_1).f1), .int .i64 ((rd_T44 l0 x12_1).f2), .int .i64 ((rd_T44 l0 x12_1).f3),(.slice A471_4 ((rd_T44 l0 x12_1).f4).length c471_4)] 44 (0,0)))∧Aside0 (Below w.heap.size w w'))
      case atStart=>exact⟨(x4_1),(x5_1),(0),(by rfl),(by rfl),(by rfl),H',⟨Nat.le_refl _⟩,⟨by refine blk_put (cs:= #[.int .i64 ((rd_T44 l0 x12_1).f0), .int .i64 ((rd_T44 l0 x12_1).f1), .int .i64 ((rd_T44 l0 x12_1).f2), .int .i64 ((rd_T44 l0 x12_1).f3), .slice none 0 0]) ?_ 4 _ rfl;refine blk_put (cs:= #[.int .i64 ((rd_T44 l0 x12_1).f0), .int .i64 ((rd_T44 l0 x12_1).f1), .int .i64 ((rd_T44 l0 x12_1).f2), .int .i64 0, .slice none 0 0]) ?_ 3 _ rfl;refine blk_put (cs:= #[.int .i64 ((rd_T44 l0 x12_1).f0), .int .i64 ((rd_T44 l0 x12_1).f1), .int .i64 0, .int .i64 0, .slice none 0 0]) ?_ 2 _ rfl;refine blk_put (cs:= #[.int .i64 ((rd_T44 l0 x12_1).f0), .int .i64 0, .int .i64 0, .int .i64 0, .slice none 0 0]) ?_ 1 _ rfl;refine blk_put (cs:= #[.int .i64 0, .int .i64 0, .int .i64 0, .int .i64 0, .slice none 0 0]) ?_ 0 _ rfl;exact BK472.out⟩,⟨by repeat((with_reducible first|exact HB.out|refine below_set ?_ GE472.out))⟩⟩
      case round=>
       clear H'
       try clear c2b0
       try clear c3b0
       try clear c4b0
       try clear hcz6_0
       try clear hcz6_1
       try clear hcz6_2
       try clear hcz6_3
       try clear hcz6_4
       try clear hfz6_0
       try clear hfz6_1
       try clear hfz6_2
       try clear hfz6_3
       try clear hfz6_4
       try clear hx471_0
       try clear hx471_1
       try clear hx471_2
       try clear hx471_3
       try clear hx471_4
       try clear p471
       try clear q471
       obtain⟨x4_2,x5_2,x19_2,rfl,rfl,rfl,HA,HK2,BK472,HB⟩:=hrel
       cases gk with
       | zero=>exact absurd HA.out (by simp [patch_Size.l1])
       | succ k2=>
        have H:=HA.out
        clear HA
        simp only [patch_Size.l1] at H
        by_cases c7:x19_2<(((rd_T44 l0 x12_1).f4).length:Int)
        ·rw [if_pos c7] at H
         have c7b0:decide (x19_2<(((rd_T44 l0 x12_1).f4).length:Int))=true:=decide_eq_true c7
         clear c7
         by_cases c8:0≤x19_2
         ·rw [if_pos c8] at H
          have c8b0:decide (0≤x19_2)=true:=decide_eq_true c8
          clear c8
          by_cases c9:x19_2<(((rd_T44 l0 x12_1).f4).length:Int)
          ·rw [if_pos c9] at H
           have c9b0:decide (x19_2<(((rd_T44 l0 x12_1).f4).length:Int))=true:=decide_eq_true c9
           clear c9
           by_cases c10:((rd_T47 ((rd_T44 l0 x12_1).f4) x19_2).f0)=3
           ·rw [if_pos c10] at H
            have c10b0:(((rd_T47 ((rd_T44 l0 x12_1).f4) x19_2).f0)==3)=true:=beq_iff_eq.mpr c10
            have c10b1:(((rd_T47 ((rd_T44 l0 x12_1).f4) x19_2).f0) != 3)=false:=bne_eq_false_iff_eq.mpr c10
            clear c10
            have H':=Aside0.mk H
            clear H
            have p473:0≤(x19_2:Int):=of_decide_eq_true (by(with_reducible assumption))
            have q473:x19_2<(((rd_T44 l0 x12_1).f4).length:Int):=of_decide_eq_true (by(with_reducible assumption))
            obtain⟨ad473,A473_1,c473_1,e473,hx473_0,hx473_1,hl473_1,hi473_1⟩:=at_T47 HR471_4.out x19_2 p473 q473
            cases e473
            replace hx473_0:=(HB.out.cell (World.block_lt_of_cell? w _ hx473_0)).trans hx473_0
            replace hx473_1:=(HB.out.cell (World.block_lt_of_cell? w _ hx473_1)).trans hx473_1
            have HR473_1:=Aside0.mk hi473_1
            have HC473_1:=Aside0.mk hl473_1
            clear hi473_1 hl473_1
            replace p473:=eq_true p473
            replace q473:=eq_true q473
            go_wp2_with(((with_reducible refine gate_dst (N:=9) rfl ?_);refine box_event ?hg (N:=9) ?hd (cs:= #[.int .i64 0, .slice none 0 0]) (t:=47) ?hr ?_;(case hd=>rfl);(case hg=>rfl);(case hr=>(go_simp;done));intro gb474 hg w11 hbox hb;have n0_:=Aside0.mk (blk_below (g:=gb472) (o:= .cells #[.int .i64 ((rd_T44 l0 x12_1).f0), .int .i64 ((rd_T44 l0 x12_1).f1), .int .i64 ((rd_T44 l0 x12_1).f2), .int .i64 ((rd_T44 l0 x12_1).f3), .slice (some ad473) ((rd_T44 l0 x12_1).f4).length c471_4] 44 (0,0)) (by exact BK472.out) hb);have n1_:=Aside0.mk (below_step (by repeat((with_reducible exact HB.out))) hb);have n2_:=Aside0.mk (hbox);have n3_:=Aside0.mk ((by rw [hg];exact(below_size (by repeat((with_reducible exact HB.out)))):w.heap.size≤gb474));have n4_:=Aside0.mk ((by rw [hg];exact(below_size (by repeat((with_reducible exact HB.out)))):w.heap.size≤gb474));have n5_:=Aside0.mk ((by rw [hg];exact Nat.ne_of_lt (blk_lt (g:=gb472) (o:= .cells #[.int .i64 ((rd_T44 l0 x12_1).f0), .int .i64 ((rd_T44 l0 x12_1).f1), .int .i64 ((rd_T44 l0 x12_1).f2), .int .i64 ((rd_T44 l0 x12_1).f3), .slice (some ad473) ((rd_T44 l0 x12_1).f4).length c471_4] 44 (0,0)) (by exact BK472.out)):gb472≠gb474));have n6_:=Aside0.mk ((by rw [hg];exact Nat.ne_of_gt (blk_lt (g:=gb472) (o:= .cells #[.int .i64 ((rd_T44 l0 x12_1).f0), .int .i64 ((rd_T44 l0 x12_1).f1), .int .i64 ((rd_T44 l0 x12_1).f2), .int .i64 ((rd_T44 l0 x12_1).f3), .slice (some ad473) ((rd_T44 l0 x12_1).f4).length c471_4] 44 (0,0)) (by exact BK472.out)):gb474≠gb472));clear BK472;clear HB;have BK472:=n0_;have HB:=n1_;have BK474:=n2_;have GW474:=n3_;have GE474:=n4_;have NB472_474:=n5_;have NB474_472:=n6_;clear n0_ n1_ n2_ n3_ n4_ n5_ n6_;clear hb hbox hg;have hnb12:=NB474_472.out;have hnc12:=NB472_474.out;have hcz13_0:w11.cell? ⟨gb474,0,none⟩=some (.int .i64 0):=(blk_cell BK474.out 0).trans rfl;have hcz13_1:w11.cell? ⟨gb474,1,none⟩=some (.slice none 0 0):=(blk_cell BK474.out 1).trans rfl;have hfz13_0:=blk_frozen BK474.out 0;have hfz13_1:=blk_frozen BK474.out 1))
            go_roundg k2
            case measure=>have:=HK1.out;have:=HK2.out;omega
            case rel=>exact⟨(wrap64 (x4_2+(((rd_T47 ((rd_T44 l0 x12_1).f4) x19_2).f1).length:Int))),(x5_2),(wrap64 (x19_2+1)),(by rfl),(by rfl),(by rfl),H',⟨by have:=HK1.out;have:=HK2.out;omega⟩,⟨by refine blk_far ?_ NB472_474.out _;refine blk_far ?_ NB472_474.out _;exact BK472.out⟩,⟨by repeat((with_reducible first|exact HB.out|refine below_set ?_ GE474.out))⟩⟩
           ·rw [if_neg c10] at H
            have c10b0:(((rd_T47 ((rd_T44 l0 x12_1).f4) x19_2).f0)==3)=false:=beq_eq_false_iff_ne.mpr c10
            have c10b1:(((rd_T47 ((rd_T44 l0 x12_1).f4) x19_2).f0) != 3)=true:=bne_iff_ne.mpr c10
            by_cases c14:((rd_T47 ((rd_T44 l0 x12_1).f4) x19_2).f0)=2
            ·rw [if_pos c14] at H
             have c14b0:(((rd_T47 ((rd_T44 l0 x12_1).f4) x19_2).f0)==2)=true:=beq_iff_eq.mpr c14
             have c14b1:(((rd_T47 ((rd_T44 l0 x12_1).f4) x19_2).f0) != 2)=false:=bne_eq_false_iff_eq.mpr c14
             clear c14
             have H':=Aside0.mk H
             clear H
             have p473:0≤(x19_2:Int):=of_decide_eq_true (by(with_reducible assumption))
             have q473:x19_2<(((rd_T44 l0 x12_1).f4).length:Int):=of_decide_eq_true (by(with_reducible assumption))
             obtain⟨ad473,A473_1,c473_1,e473,hx473_0,hx473_1,hl473_1,hi473_1⟩:=at_T47 HR471_4.out x19_2 p473 q473
             cases e473
             replace hx473_0:=(HB.out.cell (World.block_lt_of_cell? w _ hx473_0)).trans hx473_0
             replace hx473_1:=(HB.out.cell (World.block_lt_of_cell? w _ hx473_1)).trans hx473_1
             have HR473_1:=Aside0.mk hi473_1
             have HC473_1:=Aside0.mk hl473_1
             clear hi473_1 hl473_1
             replace p473:=eq_true p473
             replace q473:=eq_true q473
             go_wp2_with(((with_reducible refine gate_dst (N:=9) rfl ?_);refine box_event ?hg (N:=9) ?hd (cs:= #[.int .i64 0, .slice none 0 0]) (t:=47) ?hr ?_;(case hd=>rfl);(case hg=>rfl);(case hr=>(go_simp;done));intro gb474 hg w15 hbox hb;have n0_:=Aside0.mk (blk_below (g:=gb472) (o:= .cells #[.int .i64 ((rd_T44 l0 x12_1).f0), .int .i64 ((rd_T44 l0 x12_1).f1), .int .i64 ((rd_T44 l0 x12_1).f2), .int .i64 ((rd_T44 l0 x12_1).f3), .slice (some ad473) ((rd_T44 l0 x12_1).f4).length c471_4] 44 (0,0)) (by exact BK472.out) hb);have n1_:=Aside0.mk (below_step (by repeat((with_reducible exact HB.out))) hb);have n2_:=Aside0.mk (hbox);have n3_:=Aside0.mk ((by rw [hg];exact(below_size (by repeat((with_reducible exact HB.out)))):w.heap.size≤gb474));have n4_:=Aside0.mk ((by rw [hg];exact(below_size (by repeat((with_reducible exact HB.out)))):w.heap.size≤gb474));have n5_:=Aside0.mk ((by rw [hg];exact Nat.ne_of_lt (blk_lt (g:=gb472) (o:= .cells #[.int .i64 ((rd_T44 l0 x12_1).f0), .int .i64 ((rd_T44 l0 x12_1).f1), .int .i64 ((rd_T44 l0 x12_1).f2), .int .i64 ((rd_T44 l0 x12_1).f3), .slice (some ad473) ((rd_T44 l0 x12_1).f4).length c471_4] 44 (0,0)) (by exact BK472.out)):gb472≠gb474));have n6_:=Aside0.mk ((by rw [hg];exact Nat.ne_of_gt (blk_lt (g:=gb472) (o:= .cells #[.int .i64 ((rd_T44 l0 x12_1).f0), .int .i64 ((rd_T44 l0 x12_1).f1), .int .i64 ((rd_T44 l0 x12_1).f2), .int .i64 ((rd_T44 l0 x12_1).f3), .slice (some ad473) ((rd_T44 l0 x12_1).f4).length c471_4] 44 (0,0)) (by exact BK472.out)):gb474≠gb472));clear BK472;clear HB;have BK472:=n0_;have HB:=n1_;have BK474:=n2_;have GW474:=n3_;have GE474:=n4_;have NB472_474:=n5_;have NB474_472:=n6_;clear n0_ n1_ n2_ n3_ n4_ n5_ n6_;clear hb hbox hg;have hnb16:=NB474_472.out;have hnc16:=NB472_474.out;have hcz17_0:w15.cell? ⟨gb474,0,none⟩=some (.int .i64 0):=(blk_cell BK474.out 0).trans rfl;have hcz17_1:w15.cell? ⟨gb474,1,none⟩=some (.slice none 0 0):=(blk_cell BK474.out 1).trans rfl;have hfz17_0:=blk_frozen BK474.out 0;have hfz17_1:=blk_frozen BK474.out 1))
             go_roundg k2
             case measure=>have:=HK1.out;have:=HK2.out;omega
             case rel=>exact⟨(x4_2),(wrap64 (x5_2+(((rd_T47 ((rd_T44 l0 x12_1).f4) x19_2).f1).length:Int))),(wrap64 (x19_2+1)),(by rfl),(by rfl),(by rfl),H',⟨by have:=HK1.out;have:=HK2.out;omega⟩,⟨by refine blk_far ?_ NB472_474.out _;refine blk_far ?_ NB472_474.out _;exact BK472.out⟩,⟨by repeat((with_reducible first|exact HB.out|refine below_set ?_ GE474.out))⟩⟩
            ·rw [if_neg c14] at H
             have c14b0:(((rd_T47 ((rd_T44 l0 x12_1).f4) x19_2).f0)==2)=false:=beq_eq_false_iff_ne.mpr c14
             have c14b1:(((rd_T47 ((rd_T44 l0 x12_1).f4) x19_2).f0) != 2)=true:=bne_iff_ne.mpr c14
             have H':=Aside0.mk H
             clear H
             have p473:0≤(x19_2:Int):=of_decide_eq_true (by(with_reducible assumption))
             have q473:x19_2<(((rd_T44 l0 x12_1).f4).length:Int):=of_decide_eq_true (by(with_reducible assumption))
             obtain⟨ad473,A473_1,c473_1,e473,hx473_0,hx473_1,hl473_1,hi473_1⟩:=at_T47 HR471_4.out x19_2 p473 q473
             cases e473
             replace hx473_0:=(HB.out.cell (World.block_lt_of_cell? w _ hx473_0)).trans hx473_0
             replace hx473_1:=(HB.out.cell (World.block_lt_of_cell? w _ hx473_1)).trans hx473_1
             have HR473_1:=Aside0.mk hi473_1
             have HC473_1:=Aside0.mk hl473_1
             clear hi473_1 hl473_1
             replace p473:=eq_true p473
             replace q473:=eq_true q473
             go_wp2_with(((with_reducible refine gate_dst (N:=9) rfl ?_);refine box_event ?hg (N:=9) ?hd (cs:= #[.int .i64 0, .slice none 0 0]) (t:=47) ?hr ?_;(case hd=>rfl);(case hg=>rfl);(case hr=>(go_simp;done));intro gb474 hg w18 hbox hb;have n0_:=Aside0.mk (blk_below (g:=gb472) (o:= .cells #[.int .i64 ((rd_T44 l0 x12_1).f0), .int .i64 ((rd_T44 l0 x12_1).f1), .int .i64 ((rd_T44 l0 x12_1).f2), .int .i64 ((rd_T44 l0 x12_1).f3), .slice (some ad473) ((rd_T44 l0 x12_1).f4).length c471_4] 44 (0,0)) (by exact BK472.out) hb);have n1_:=Aside0.mk (below_step (by repeat((with_reducible exact HB.out))) hb);have n2_:=Aside0.mk (hbox);have n3_:=Aside0.mk ((by rw [hg];exact(below_size (by repeat((with_reducible exact HB.out)))):w.heap.size≤gb474));have n4_:=Aside0.mk ((by rw [hg];exact(below_size (by repeat((with_reducible exact HB.out)))):w.heap.size≤gb474));have n5_:=Aside0.mk ((by rw [hg];exact Nat.ne_of_lt (blk_lt (g:=gb472) (o:= .cells #[.int .i64 ((rd_T44 l0 x12_1).f0), .int .i64 ((rd_T44 l0 x12_1).f1), .int .i64 ((rd_T44 l0 x12_1).f2), .int .i64 ((rd_T44 l0 x12_1).f3), .slice (some ad473) ((rd_T44 l0 x12_1).f4).length c471_4] 44 (0,0)) (by exact BK472.out)):gb472≠gb474));have n6_:=Aside0.mk ((by rw [hg];exact Nat.ne_of_gt (blk_lt (g:=gb472) (o:= .cells #[.int .i64 ((rd_T44 l0 x12_1).f0), .int .i64 ((rd_T44 l0 x12_1).f1), .int .i64 ((rd_T44 l0 x12_1).f2), .int .i64 ((rd_T44 l0 x12_1).f3), .slice (some ad473) ((rd_T44 l0 x12_1).f4).length c471_4] 44 (0,0)) (by exact BK472.out)):gb474≠gb472));clear BK472;clear HB;have BK472:=n0_;have HB:=n1_;have BK474:=n2_;have GW474:=n3_;have GE474:=n4_;have NB472_474:=n5_;have NB474_472:=n6_;clear n0_ n1_ n2_ n3_ n4_ n5_ n6_;clear hb hbox hg;have hnb19:=NB474_472.out;have hnc19:=NB472_474.out;have hcz20_0:w18.cell? ⟨gb474,0,none⟩=some (.int .i64 0):=(blk_cell BK474.out 0).trans rfl;have hcz20_1:w18.cell? ⟨gb474,1,none⟩=some (.slice none 0 0):=(blk_cell BK474.out 1).trans rfl;have hfz20_0:=blk_frozen BK474.out 0;have hfz20_1:=blk_frozen BK474.out 1))
             go_roundg k2
             case measure=>have:=HK1.out;have:=HK2.out;omega
             case rel=>exact⟨(x4_2),(x5_2),(wrap64 (x19_2+1)),(by rfl),(by rfl),(by rfl),H',⟨by have:=HK1.out;have:=HK2.out;omega⟩,⟨by refine blk_far ?_ NB472_474.out _;refine blk_far ?_ NB472_474.out _;exact BK472.out⟩,⟨by repeat((with_reducible first|exact HB.out|refine below_set ?_ GE474.out))⟩⟩
          ·rw [if_neg c9] at H
           exact absurd H (by simp)
         ·rw [if_neg c8] at H
          exact absurd H (by simp)
        ·rw [if_neg c7] at H
         have c7b0:decide (x19_2<(((rd_T44 l0 x12_1).f4).length:Int))=false:=decide_eq_false c7
         clear c7
         have H':=Aside0.mk H
         clear H
         go_wp2
         go_roundg k2
         case measure=>have:=HK1.out;have:=HK2.out;omega
         case rel=>exact⟨(x4_2),(x5_2),(wrap64 (x12_1+1)),(by rfl),(by rfl),(by rfl),H',⟨by have:=HK1.out;have:=HK2.out;omega⟩,⟨by repeat((with_reducible exact HB.out))⟩⟩
     ·rw [if_neg c4] at H
      exact absurd H (by simp)
    ·rw [if_neg c3] at H
     exact absurd H (by simp)
   ·rw [if_neg c2] at H
    have c2b0:decide (x12_1<(l0.length:Int))=false:=decide_eq_false c2
    clear c2
    simp only [Option.some.injEq,Prod.mk.injEq] at H
    obtain⟨rfl,rfl⟩:=H
    go_wp2
    go_ret2
    exact⟨by rfl,by repeat((with_reducible exact HB.out))⟩
end Go.Proofs.Ytfnbodjmmkjlcaa.H
end
section
namespace Go.Proofs.Ytfnbodjmmkjlcaa.H
open Go.RowKit Go.Proofs.YtfnbodjmmkjlcaaW.PrintWords Go.Proofs.YtfnbodjmmkjlcaaW.PrintLast Go.Proofs.YtfnbodjmmkjlcaaW.PrintMore
attribute [local go_sem] max2_int min2_int max_two min_two max_three min_three max_four min_four
set_option linter.unusedVariables false
set_option linter.unusedSimpArgs false
theorem eqi_cons {P:Program} {d e n:Nat} {xs ys:Array Value} {i:Nat} {is:List Nat} {a b:Value} {r s:Bool} {w:World} (ha:(part e xs (i*n)).run P w= .ok a w) (hb:(part e ys (i*n)).run P w= .ok b w) (he:(Op.equalIn d e a b).run P w= .ok r w) (hr:(Op.eqItems d e n xs ys is).run P w= .ok s w):(Op.eqItems d e n xs ys (i::is)).run P w= .ok (r&&s) w:=by
  simp only [Op.eqItems,Sem.run_bind,ha,hb,he,Result.andThen_ok]
  cases r
  · simp
  · simpa using hr
theorem eqi_last {P:Program} {d e n:Nat} {xs ys:Array Value} {i:Nat} {a b:Value} {r:Bool} {w:World} (ha:(part e xs (i*n)).run P w= .ok a w) (hb:(part e ys (i*n)).run P w= .ok b w) (he:(Op.equalIn d e a b).run P w= .ok r w):(Op.eqItems d e n xs ys [i]).run P w= .ok r w:=by
  have h:=eqi_cons ha hb he (s:=true) (is:= []) (by simp [Op.eqItems])
  rwa [Bool.and_true] at h
theorem eqA64 (d:Nat) (w:World) (x0 y0 x1 y1:Int):
    (Op.equalIn (d+2) 64 (.agg #[.int .i64 x0, .int .i64 x1]) (.agg #[.int .i64 y0, .int .i64 y1])).run Try.prog w= .ok (x0==y0&&(x1==y1)) w:=by
  obtain⟨i,hi⟩:=Go.info_of_underlying (P:=Try.prog) Try.underlying3
  rw [Go.run_equalIn_array (P:=Try.prog) w (d+1) _ _ Try.underlying64 hi,show Try.prog.cellsOf 3=1 by kernel_rfl,show List.range 2= [0,1] by rfl]
  refine eqi_cons (by go_simp;rfl) (by go_simp;rfl) (by go_simp) ?_
  exact eqi_last (by go_simp;rfl) (by go_simp;rfl) (by go_simp)
end Go.Proofs.Ytfnbodjmmkjlcaa.H
end
section
namespace Go.Proofs.Ytfnbodjmmkjlcaa.Ra
open Go.RowKit Go.Proofs.YtfnbodjmmkjlcaaW.PrintWords Go.Proofs.YtfnbodjmmkjlcaaW.PrintLast
section
variable {P:Program}
theorem cut_mid3 (t e:TypeId) (kl kh km:IntKind) {i:TypeInfo} (ht:P.underlying t=some (.slice e)) (hi:P.info? e=some i) (size:Nat) (hsz:i.size=size) (A:Option Addr) (n c:Nat) (lo hi':Int) (h0:0≤lo) (h1:lo≤hi') (h2:hi'≤n) (hc:n≤c):
    ∀W:World,(Instr.slice t (.slice A n c) (some (.int kl lo)) (some (.int kh hi')) (some (.int km hi'))).run P W= .ok (.slice (if hi'.toNat=lo.toNat then A else A.map (·.add (lo.toNat*size))) (hi'.toNat-lo.toNat) (hi'.toNat-lo.toNat)) W:=by
  intro W
  have hel:P.elem t=e:=by simp [Program.elem,ht]
  have hu:P.underlying t=some (.slice (P.elem t)):=by rw [hel];exact ht
  rw [run_slice_lhm W t A n c hu kl kh km lo hi' hi' h0 h1 (Int.le_refl _) (by omega),hel]
  simp [sizeOf,typeInfo,hi,hsz,sliced,Result.andThen]
end
variable {P:Program} {ops:Array Oper} {rest:List Oper} {o:Oper} {a:Act} {Q:Exit→Act→World→Prop} {α:Type}
end Go.Proofs.Ytfnbodjmmkjlcaa.Ra
end
section
namespace Go.Proofs.Ytfnbodjmmkjlcaa.H
open Go.RowKit Go.Proofs.YtfnbodjmmkjlcaaW.PrintWords Go.Proofs.YtfnbodjmmkjlcaaW.PrintLast Go.Proofs.YtfnbodjmmkjlcaaW.PrintMore
attribute [local go_sem] max2_int min2_int max_two min_two max_three min_three max_four min_four
set_option linter.unusedVariables false
set_option linter.unusedSimpArgs false
def script_normal.add (s:List S47) (d:Int) (l:List S66):List S47:=
 if l.length=0 then s
 else if 0<s.length∧(rd_T47 s ((s.length:Int)-1)).f0=d then s.set (s.length-1) ⟨d,(rd_T47 s ((s.length:Int)-1)).f1++l⟩
 else s++ [⟨d,l⟩]
def script_normal.take (q:List S47×List S66) (x:S47):List S47×List S66:=
 if x.f0=3 then (q.1,q.2++x.f1)
 else if x.f0=1∧0<x.f1.length then (script_normal.add (script_normal.add q.1 3 q.2) x.f0 x.f1,[])
 else (script_normal.add q.1 x.f0 x.f1,q.2)
def script_normal.all (l:List S47):List S47×List S66:=l.foldl script_normal.take ([],[])
def script_normal.p (l:List S47):List S47:=script_normal.add (script_normal.all l).1 3 (script_normal.all l).2
def script_normal.lines (l:List S47):Nat:=(l.map (fun e=>e.f1.length)).sum
def script_normal.f (l0:List S47):Option (List S47):=if l0.length≤1000000∧script_normal.lines l0≤1000000 then some (script_normal.p l0) else none
theorem script_normal.lines_le: ∀ {l:List S47} {e:S47},e∈l→e.f1.length≤script_normal.lines l
 | x::xs,e,h=>by
  unfold script_normal.lines
  rw [List.map_cons,List.sum_cons]
  rcases List.mem_cons.1 h with rfl|h
  ·omega
  ·have:=script_normal.lines_le h
   unfold script_normal.lines at this
   omega
theorem script_normal.lines_append (a b:List S47):script_normal.lines (a++b)=script_normal.lines a+script_normal.lines b:=by
 simp [script_normal.lines]
theorem script_normal.lines_add (s:List S47) (d:Int) (l:List S66):script_normal.lines (script_normal.add s d l)=script_normal.lines s+l.length:=by
 unfold script_normal.add
 split
 ·omega
 ·split
  ·rename_i h
   obtain⟨h,_⟩:=h
   have e:s=s.dropLast++ [rd_T47 s ((s.length:Int)-1)]:=by
    have hne:s≠ []:=by rintro rfl;simp at h
    have:rd_T47 s ((s.length:Int)-1)=s.getLast hne:=by
     unfold rd_T47
     rw [show((s.length:Int)-1).toNat=s.length-1 by omega,List.getLast_eq_getElem,List.getD_eq_getElem?_getD,List.getElem?_eq_getElem (by omega)]
     rfl
    rw [this,List.dropLast_concat_getLast]
   generalize rd_T47 s ((s.length:Int)-1)=y at e ⊢
   have hl:s.length-1=s.dropLast.length:=by simp
   rw [hl]
   generalize s.dropLast=t at e ⊢
   subst e
   rw [List.set_append_right _ _ (Nat.le_refl _),Nat.sub_self]
   simp [script_normal.lines]
   omega
  ·simp [script_normal.lines]
theorem script_normal.len_add (s:List S47) (d:Int) (l:List S66):(script_normal.add s d l).length≤s.length+1:=by
 unfold script_normal.add
 split
 ·omega
 ·split
  ·simp
  ·simp
def script_normal.At (B b:Nat) (kp:Nat→Prop) (w:World) (s:List S47) (wt:List S66):Prop:=
 ∃vs vw:Value,w.heap[b]? =some (.cells #[vs,vw] 105 (0,0))∧Kd.S k47 47 w B (fun k=> ¬kp k∧some k≠vw.ownBlock) vs s∧Kd.R k66 66 w B (fun k=> ¬kp k) vw wt
set_option maxHeartbeats 4000000 in
set_option maxRecDepth 100000 in
theorem script_normal.add_calls (B b:Nat) (kp:Nat→Prop) (s:List S47) (wt:List S66) (d:Int) (A:Option Addr) (c:Nat) (l:List S66) (vs vw:Value) (w:World) (hBb:B≤b) (hkb: ¬kp b) (hkl: ∀k,kp k→k<w.heap.size)
  (hb:w.heap[b]? =some (.cells #[vs,vw] 105 (0,0))) (hs:Kd.S k47 47 w B (fun k=> ¬kp k∧some k≠vw.ownBlock) vs s) (hw:Kd.R k66 66 w B (fun k=> ¬kp k) vw wt)
  (hl:Kd.C k66 w A l.length l) (hc:l.length≤c) (h1:s.length≤1000000000) (h2:script_normal.lines s≤1000000000) (h3:l.length≤1000000000):
  Calls Try.prog 82 #[.pointer (some ⟨b,0,none⟩), .int .i64 d, .slice A l.length c] w fun e w'=>e= .returned (.tuple #[])∧ ∃vs':Value,w'.heap[b]? =some (.cells #[vs',vw] 105 (0,0))∧
   Kd.S k47 47 w' B (fun k=> ¬kp k∧some k≠vw.ownBlock) vs' (script_normal.add s d l)∧Kd.R k66 66 w' B (fun k=> ¬kp k) vw wt∧Below B w w'∧(∀k,kp k→w'.heap[k]? =w.heap[k]?):=by
 obtain⟨A1,c1,rfl,hc1,hC1⟩:=Kd.R_reads (Kd.S_R hs)
 have hx0:w.cell? ⟨b,0,none⟩=some (.slice A1 s.length c1):=(blk_cell hb 0).trans rfl
 have hx1:w.cell? ⟨b,1,none⟩=some vw:=(blk_cell hb 1).trans rfl
 have hf0:=blk_frozen hb 0
 have hf1:=blk_frozen hb 1
 have HS:=Aside0.mk hs
 have HW:=Aside0.mk hw
 have HL:=Aside0.mk hl
 have HC:=Aside0.mk hc
 have HC1:=Aside0.mk hC1
 have Hb:=Aside0.mk hb
 clear hs hw hl hc hC1 hb
 by_cases hl0:l.length=0
 ·have hl0':(((l.length:Nat):Int)==0)=true:=beq_iff_eq.mpr (by omega)
  have hr:script_normal.add s d l=s:=if_pos hl0
  rw [hr]
  clear hr
  go_enter Try.func82,Try.ntmps82
  go_wp2
  go_end0
  exact⟨rfl,_,Hb.out,HS.out,HW.out,Below.refl _ _,fun _ _=>rfl⟩
 ·have hl0':(((l.length:Nat):Int)==0)=false:=beq_eq_false_iff_ne.mpr (by omega)
  by_cases hn:0<s.length
  ·have hn':decide (((s.length:Nat):Int)>0)=true:=decide_eq_true (by omega)
   obtain⟨inner,hown⟩:=Kd.R_own (Kd.S_R HS.out)
   obtain⟨ad,rfl⟩: ∃ad,A1=some ad:=by
    obtain⟨ad,_,_,e,_⟩:=at_T47 HC1.out 0 (by omega) (by omega)
    exact⟨ad,e⟩
   obtain⟨g,rfl⟩:=Kd.R_head (Kd.S_R HS.out)
   obtain⟨oki,c,hcl,hM,hcc,hcf,hoki,hH⟩:=Kd.S_elem HS.out (z47:S47) ((s.length:Int)-1) (by omega) (by omega)
   obtain⟨v1,rfl,hv1⟩:=k47_openM hM
   obtain⟨A2,c2,rfl,hc2,hC2⟩:=Kd.R_reads hv1
   have hc0:w.cell? ⟨g,((s.length:Int)-1).toNat*2,none⟩=some (.int .i64 (s.getD ((s.length:Int)-1).toNat z47).f0):=hcc 0 _ rfl
   have hc1:w.cell? ⟨g,((s.length:Int)-1).toNat*2+1,none⟩=_:=hcc 1 _ rfl
   have hcf0:=hcf 0
   have hcf1:=hcf 1
   obtain⟨j,hj⟩: ∃j:Nat,s.length=j+1:=⟨s.length-1,by omega⟩
   have e1:((s.length:Int)-1).toNat=j:=by omega
   have hd:rd_T47 s ((s.length:Int)-1)=s.getD j z47:=by
    unfold rd_T47
    rw [e1]
   rw [e1] at hc0 hc1 hv1
   generalize hy:s.getD j z47=y at hc0 hc1 hv1 hd
   by_cases hyd:y.f0=d
   ·have hyd':(y.f0==d)=true:=beq_iff_eq.mpr hyd
    have hr:script_normal.add s d l=s.set j ⟨d,y.f1++l⟩:=by
     unfold script_normal.add
     rw [if_neg hl0,if_pos ⟨hn,by rw [hd,hyd]⟩,hd,show s.length-1=j by omega]
    rw [hr]
    have HH:=Aside0.mk hH
    have hjlt:((j:Int)<(j:Int)+1)=True:=eq_true (by omega)
    have HJ:Aside0 (wrap64 (j:Int)=(j:Int)):=⟨by unfold wrap64;omega⟩
    have Hv1:=Aside0.mk hv1
    have hyl:y.f1.length≤1000000000:=Nat.le_trans (script_normal.lines_le (e:=y) (by rw [← hy,List.getD_eq_getElem?_getD,List.getElem?_eq_getElem (by omega)];exact List.getElem_mem _)) h2
    obtain⟨cg,hgb⟩:=Kd.S_typed HS.out g (by simp [Value.ownBlock])
    have hgB:B≤g:=Kd.S_base HS.out g (by simp [Value.ownBlock])
    have HG:=Aside0.mk hgb
    have hbg:b≠g:=blk_ne Hb.out hgb (by decide)
    have HBG:=Aside0.mk hbg
    have HGB:=Aside0.mk hgB
    clear hr hd hcc hcf hM hown hH hv1 hl0 hgb hbg hgB hcl
    rw [hj] at hx0 hn'
    have Hb2:Aside0 (w.heap[b]? =some (.cells #[.slice (some ⟨g,0,none⟩) (j+1) c1,vw] 105 (0,0))):=by rw [← hj];exact Hb
    go_enter Try.func82,Try.ntmps82
    go_wp2
    refine start_ (n:=20) (S:=fun w'=>w'.cell? ⟨b,0,none⟩=some (.slice (some ⟨g,0,none⟩) (j+1) c1)∧w'.cell? ⟨g,j*2+1,none⟩=some (.slice A2 y.f1.length c2)) (ds:= [19]) (Sq.bl 20 0) (by kernel_rfl) rfl (by rfl) ⟨hx0,hc1⟩ (fun hS=>?_)
    refine Sq.pu (v:=?_) (a':=?_) 0 45 (Sq.bl 20 1) (by kernel_rfl) rfl rfl (fun _ _ _ h=>h) (by rfl) ?_ ?_ ?_;rotate_left;(· intro w';go_simp;with_reducible rfl);rotate_left;(· simp only [Act.put,List.setIfInBounds_toArray,List.set_cons_zero,List.set_cons_succ,i64_w,i32_w,HJ.out];rfl)
    refine Sq.pu (v:=?_) (a':=?_) 1 46 (Sq.bl 20 3) (by kernel_rfl) rfl rfl (fun _ _ _ h=>h) (by rfl) ?_ ?_ ?_;rotate_left;(· intro w';go_simp;with_reducible rfl);rotate_left;(· simp only [Act.put,List.setIfInBounds_toArray,List.set_cons_zero,List.set_cons_succ,i64_w,i32_w,HJ.out];rfl)
    refine Sq.pu (v:=?_) (a':=?_) 2 47 (Sq.bl 20 7) (by kernel_rfl) rfl rfl (fun _ _ _ h=>h) (by rfl) ?_ ?_ ?_;rotate_left;(· intro w';go_simp;with_reducible rfl);rotate_left;(· simp only [Act.put,List.setIfInBounds_toArray,List.set_cons_zero,List.set_cons_succ,i64_w,i32_w,HJ.out];rfl)
    refine Sq.pu (v:=?_) (a':=?_) 4 49 (Sq.bl 20 23) (by kernel_rfl) rfl rfl (fun _ _ _ h=>h) (by rfl) ?_ ?_ ?_;rotate_left;(· intro w';go_simp;with_reducible rfl);rotate_left;(· simp only [Act.put,List.setIfInBounds_toArray,List.set_cons_zero,List.set_cons_succ,i64_w,i32_w,HJ.out];rfl)
    refine Sq.pu (v:=?_) (a':=?_) 5 50 (Sq.bl 20 55) (by kernel_rfl) rfl rfl (fun _ _ _ h=>h) (by rfl) ?_ ?_ ?_;rotate_left;(· intro w';go_simp;with_reducible rfl);rotate_left;(· simp only [Act.put,List.setIfInBounds_toArray,List.set_cons_zero,List.set_cons_succ,i64_w,i32_w,HJ.out];rfl)
    refine Sq.pu (v:=?_) (a':=?_) 6 51 (Sq.bl 20 119) (by kernel_rfl) rfl rfl (fun _ _ _ h=>h) (by rfl) ?_ ?_ ?_;rotate_left;(· intro w';go_simp;with_reducible rfl);rotate_left;(· simp only [Act.put,List.setIfInBounds_toArray,List.set_cons_zero,List.set_cons_succ,i64_w,i32_w,HJ.out];rfl)
    refine Sq.pu (v:=?_) (a':=?_) 7 52 (Sq.bl 20 247) (by kernel_rfl) rfl rfl (fun _ _ _ h=>h) (by rfl) ?_ ?_ ?_;rotate_left;(· intro w';go_simp;with_reducible rfl);rotate_left;(· simp only [Act.put,List.setIfInBounds_toArray,List.set_cons_zero,List.set_cons_succ,i64_w,i32_w,HJ.out];rfl)
    refine Sq.pu (v:=?_) (a':=?_) 8 53 (Sq.bl 20 503) (by kernel_rfl) rfl rfl (fun _ _ _ h=>h) (by rfl) ?_ ?_ ?_;rotate_left;(· intro w';go_simp;with_reducible rfl);rotate_left;(· simp only [Act.put,List.setIfInBounds_toArray,List.set_cons_zero,List.set_cons_succ,i64_w,i32_w,HJ.out];rfl)
    refine Sq.pu (v:=?_) (a':=?_) 10 55 (Sq.bl 20 1527) (by kernel_rfl) rfl rfl (fun _ _ _ h=>h) (by rfl) ?_ ?_ ?_;rotate_left;(· intro w';go_simp;with_reducible rfl);rotate_left;(· simp only [Act.put,List.setIfInBounds_toArray,List.set_cons_zero,List.set_cons_succ,i64_w,i32_w,HJ.out];rfl)
    refine Sq.pu (v:=?_) (a':=?_) 11 56 (Sq.bl 20 3575) (by kernel_rfl) rfl rfl (fun _ _ _ h=>h) (by rfl) ?_ ?_ ?_;rotate_left;(· intro w';go_simp;with_reducible rfl);rotate_left;(· simp only [Act.put,List.setIfInBounds_toArray,List.set_cons_zero,List.set_cons_succ,i64_w,i32_w,HJ.out];rfl)
    refine Sq.pu (v:=?_) (a':=?_) 15 60 (Sq.bl 20 36343) (by kernel_rfl) rfl rfl (fun _ _ _ h=>h) (by rfl) ?_ ?_ ?_;rotate_left;(· intro w';go_simp;with_reducible rfl);rotate_left;(· simp only [Act.put,List.setIfInBounds_toArray,List.set_cons_zero,List.set_cons_succ,i64_w,i32_w,HJ.out];rfl)
    refine take_ (i:=3) (N:=some 48) (v:=?_) (a':=?_) (Sq.bl 20 36351) rfl rfl (by kernel_rfl) (fun _ _ _ h=>h) (Or.inl ⟨by rfl,?_⟩) hS ?_ ?_;rotate_left;(· rintro w' ⟨s0,s1⟩;go_simp;with_reducible rfl);rotate_left;(· simp only [Act.put,List.setIfInBounds_toArray,List.set_cons_zero,List.set_cons_succ,i64_w,i32_w,HJ.out];rfl)
    refine take_ (i:=9) (N:=some 54) (v:=?_) (a':=?_) (Sq.bl 20 36863) rfl rfl (by kernel_rfl) (fun _ _ _ h=>h) (Or.inl ⟨by rfl,?_⟩) hS ?_ ?_;rotate_left;(· rintro w' ⟨s0,s1⟩;go_simp;with_reducible rfl);rotate_left;(· simp only [Act.put,List.setIfInBounds_toArray,List.set_cons_zero,List.set_cons_succ,i64_w,i32_w,HJ.out];rfl)
    refine Sq.pu (v:=?_) (a':=?_) 12 57 (Sq.bl 20 40959) (by kernel_rfl) rfl rfl (fun _ _ _ h=>h) (by rfl) ?_ ?_ ?_;rotate_left;(· intro w';go_simp;with_reducible rfl);rotate_left;(· simp only [Act.put,List.setIfInBounds_toArray,List.set_cons_zero,List.set_cons_succ,i64_w,i32_w,HJ.out];rfl)
    refine Sq.pu (v:=?_) (a':=?_) 13 58 (Sq.bl 20 49151) (by kernel_rfl) rfl rfl (fun _ _ _ h=>h) (by rfl) ?_ ?_ ?_;rotate_left;(· intro w';go_simp;with_reducible rfl);rotate_left;(· simp only [Act.put,List.setIfInBounds_toArray,List.set_cons_zero,List.set_cons_succ,i64_w,i32_w,HJ.out];rfl)
    refine take_ (i:=14) (N:=some 59) (v:=?_) (a':=?_) (Sq.bl 20 65535) rfl rfl (by kernel_rfl) (fun _ _ _ h=>h) (Or.inl ⟨by rfl,?_⟩) hS ?_ ?_;rotate_left;(· rintro w' ⟨s0,s1⟩;go_simp;with_reducible rfl);rotate_left;(· simp only [Act.put,List.setIfInBounds_toArray,List.set_cons_zero,List.set_cons_succ,i64_w,i32_w,HJ.out];rfl)
    refine one_ (i:=16) (N:=some 61) (Sq.bl 20 131071) rfl rfl (by kernel_rfl) (by decide) (fun K hK=>?_)
    refine Kd.R_append_rows_step k66 (w0:=w) B (by rfl) (.tmp 59) (.tmp 60) 37 66 (.agg #[(.string ⟨#[]⟩),(.bool false)]) 24 rfl Try.underlying37 info66 rfl (by decide) (by omega) (.slice A2 y.f1.length c2) y.f1 l _ _ _ (fun k=>oki k∨((¬kp k∧some k≠vw.ownBlock)∧w.heap.size≤k)) (fun _=>False) rfl rfl ?aO (Kd.C_below HL.out (below_drew (Below.refl _ _))) (fun _ _ h=>h) (fun _ h=>h.elim) ?aF ?aB ?aS ?aL ?_
    (case aO=>exact Kd.R_mono (Kd.R_drew Hv1.out) (fun _ hk=> .inl hk))
    (case aF=>exact fun k hk=> .inr ⟨⟨fun e=>by have:=hkl k e;have:w.drew.heap.size=w.heap.size:=rfl;omega,fun e=>by have:=Kd.R_lt HW.out k e.symm;have:w.drew.heap.size=w.heap.size:=rfl;omega⟩,hk⟩)
    (case aB=>exact below_drew (Below.refl B w))
    (case aS=>exact(by have:=blk_lt Hb.out;have:w.drew.heap.size=w.heap.size:=rfl;omega))
    (case aL=>omega)
    intro v2 w2 ho hbel hg hat
    obtain⟨A3,c3,rfl⟩:=Kd.R_slice ho
    have hneb:some b≠(Value.slice A2 y.f1.length c2).ownBlock:=Kd.R_ne Hv1.out Hb.out (by decide)
    have hneg:some g≠(Value.slice A2 y.f1.length c2).ownBlock:=Kd.R_ne Hv1.out HG.out (by decide)
    have hb2:w2.heap[b]? =some (.cells #[.slice (some ⟨g,0,none⟩) (j+1) c1,vw] 105 (0,0)):=(hg.block b (blk_lt Hb.out) hneb).trans Hb2.out
    have hg2:w2.heap[g]? =some (.cells cg 47 (0,0)):=(hg.block g (blk_lt HG.out) hneg).trans HG.out
    have hk1:w2.cell? ⟨g,j*2+1,none⟩=some (.slice A2 y.f1.length c2):=(blk_cell hg2 _).trans ((blk_cell HG.out _).symm.trans hc1)
    have hkf:w2.frozen? ⟨g,j*2+1,none⟩=false:=blk_frozen hg2 _
    refine hK.out _ _ ⟨(blk_cell hb2 0).trans rfl,hk1⟩ (fun hS=>?_)
    have HO2:=Aside0.mk ho
    have HBl2:=Aside0.mk hbel
    have HG2:=Aside0.mk hg
    have Hb2':=Aside0.mk hb2
    have Hg2':=Aside0.mk hg2
    clear ho hbel hg hat hb2 hg2 hneb hneg
    clear hK K
    refine norm_ (a':=?_) ?_ ?_
    rotate_left
    ·show Act.put _ (some 61) _=_
     simp only [Act.put,List.setIfInBounds_toArray,List.set_cons_zero,List.set_cons_succ,i64_w,i32_w,HJ.out]
     rfl
    refine Sq.pu (v:=?_) (a':=?_) 17 62 (Sq.bl 20 262143) (by kernel_rfl) rfl rfl (fun _ _ _ h=>h) (by rfl) ?_ ?_ ?_;rotate_left;(· intro w';go_simp;with_reducible rfl);rotate_left;(· simp only [Act.put,List.setIfInBounds_toArray,List.set_cons_zero,List.set_cons_succ,i64_w,i32_w,HJ.out];rfl)
    refine Sq.pu (v:=?_) (a':=?_) 18 63 (Sq.bl 20 524287) (by kernel_rfl) rfl rfl (fun _ _ _ h=>h) (by rfl) ?_ ?_ ?_;rotate_left;(· intro w';go_simp;with_reducible rfl);rotate_left;(· simp only [Act.put,List.setIfInBounds_toArray,List.set_cons_zero,List.set_cons_succ,i64_w,i32_w,HJ.out];rfl)
    refine last_ (i:=19) (N:=none) (Sq.bl 20 1048575) rfl rfl (by kernel_rfl) (by decide) (fun K hK=>?_)
    refine skip_ (w1:=?_) (by rfl) rfl ?_ ?_
    rotate_left
    ·go_simp
     rfl
    refine hK.out _ _ ?_
    clear hK K
    refine done_ (by kernel_rfl) ?_
    go_end0
    refine⟨rfl, .slice (some ⟨g,0,none⟩) (j+1) c1,blk_far Hb2'.out (p:=⟨g,j*2+1,none⟩) HBG.out _,?_,?_,HBl2.out.setCell HGB.out _,fun k hk=>(Below.heap_setCell w2 ⟨g,j*2+1,none⟩ _ k (fun e=>((Kd.S_R HS.out).1 g (by simp [Value.ownBlock])).1 ((show k=g from e)▸hk))).trans (HG2.out.block k (hkl k hk) (fun e=>(hoki k (Hv1.out.1 k e.symm)).1.1 hk))⟩
    ·have h3:=Kd.H_grown (Kd.H_drew (Kd.H_widen HH.out)) HG2.out (fun k hk=> .inl (Hv1.out.1 k hk))
     rw [hj] at h3
     obtain⟨h4,h5⟩:=Kd.H_seg h3 (by omega) (by omega) (seg:= [.slice A3 (y.f1++l).length c3]) (j:=1) (show 1+1≤2 by decide) (by intro q hq;rw [List.mem_singleton.1 hq];rfl)
     have e2:(((j+1:Nat):Int)-1).toNat=j:=by omega
     rw [e2,hy] at h4
     rw [show w2.setCells g (j*k47.sz+1) [.slice A3 (y.f1++l).length c3]=w2.setCell ⟨g,j*2+1,none⟩ (.slice A3 (y.f1++l).length c3) from rfl] at h4
     have h6:Kd.R k66 66 (w2.setCell ⟨g,j*2+1,none⟩ (.slice A3 (y.f1++l).length c3)) B (fun k=>oki k∨((¬kp k∧some k≠vw.ownBlock)∧w.heap.size≤k)) (.slice A3 (y.f1++l).length c3) (y.f1++l):=
      Kd.R_far (p:=⟨g,j*2+1,none⟩) HO2.out (fun k hk=>by
       rcases hk with hk|⟨_,hk⟩
       ·exact(hoki k hk).2
       ·have:=blk_lt HG.out
        show k≠g
        omega) _
     have h7:=Kd.H_back h4 (x':=(⟨d,y.f1++l⟩:S47)) (okp:=fun k=>oki k∨((¬kp k∧some k≠vw.ownBlock)∧w.heap.size≤k)) (by
      rw [← hyd]
      exact k47_mkM _ _ _ (⟨y.f0,y.f1++l⟩:S47) h6) (fun _ hk=>hk)
     rw [e2] at h7
     rw [List.length_append] at h7
     exact h7
    ·have h8:=Kd.R_tight rfl HW.out
     have h9:=Kd.R_grown (Kd.R_drew h8) HG2.out (fun k hk he=>by
      exact(hoki k (Hv1.out.1 k he.symm)).1.2 hk)
     exact Kd.R_mono (Kd.R_set h9 Hg2'.out (by decide) _ _) (fun k hk=>HW.out.1 k hk.symm)
   ·have hyd':(y.f0==d)=false:=beq_eq_false_iff_ne.mpr hyd
    have hr:script_normal.add s d l=s++ [⟨d,l⟩]:=by
     unfold script_normal.add
     rw [if_neg hl0,if_neg (by rw [hd];exact fun h=>hyd h.2)]
    rw [hr]
    have hjlt:((j:Int)<(j:Int)+1)=True:=eq_true (by omega)
    clear hr hd hcc hcf hM hown hH hv1 hl0 hcl
    rw [hj] at hx0 hn'
    have Hb2:Aside0 (w.heap[b]? =some (.cells #[.slice (some ⟨g,0,none⟩) (j+1) c1,vw] 105 (0,0))):=by rw [← hj];exact Hb
    have HS2:Aside0 (Kd.S k47 47 w B (fun k=> ¬kp k∧some k≠vw.ownBlock) (.slice (some ⟨g,0,none⟩) (j+1) c1) s):=by rw [← hj];exact HS
    clear Hb HS
    go_enter Try.func82,Try.ntmps82
    go_wp2
    refine start_ (n:=14) (S:=fun w'=>w'.cell? ⟨b,0,none⟩=some (.slice (some ⟨g,0,none⟩) (j+1) c1)∧w'.frozen? ⟨b,0,none⟩=false) (ds:= [13]) (Sq.bl 14 0) (by kernel_rfl) rfl (by rfl) ⟨hx0,hf0⟩ (fun hS=>?_)
    refine Sq.pu (v:=?_) (a':=?_) 0 12 (Sq.bl 14 1) (by kernel_rfl) rfl rfl (fun _ _ _ h=>h) (by rfl) ?_ ?_ ?_;rotate_left;(· intro w';go_simp;with_reducible rfl);rotate_left;(· simp only [Act.put,zp1,zp2,zp3,zp4,zp5];rfl)
    refine Sq.pu (v:=?_) (a':=?_) 1 13 (Sq.bl 14 3) (by kernel_rfl) rfl rfl (fun _ _ _ h=>h) (by rfl) ?_ ?_ ?_;rotate_left;(· intro w';go_simp;with_reducible rfl);rotate_left;(· simp only [Act.put,zp1,zp2,zp3,zp4,zp5];rfl)
    refine Sq.pu (v:=?_) (a':=?_) 2 14 (Sq.bl 14 7) (by kernel_rfl) rfl rfl (fun _ _ _ h=>h) (by rfl) ?_ ?_ ?_;rotate_left;(· intro w';go_simp;with_reducible rfl);rotate_left;(· simp only [Act.put,zp1,zp2,zp3,zp4,zp5];rfl)
    refine Sq.pu (v:=?_) (a':=?_) 3 15 (Sq.bl 14 15) (by kernel_rfl) rfl rfl (fun _ _ _ h=>h) (by rfl) ?_ ?_ ?_;rotate_left;(· intro w';go_simp;with_reducible rfl);rotate_left;(· simp only [Act.put,zp1,zp2,zp3,zp4,zp5];rfl)
    refine Sq.pu (v:=?_) (a':=?_) 5 17 (Sq.bl 14 47) (by kernel_rfl) rfl rfl (fun _ _ _ h=>h) (by rfl) ?_ ?_ ?_;rotate_left;(· intro w';go_simp;with_reducible rfl);rotate_left;(· simp only [Act.put,zp1,zp2,zp3,zp4,zp5];rfl)
    refine Sq.pu (v:=?_) (a':=?_) 6 18 (Sq.bl 14 111) (by kernel_rfl) rfl rfl (fun _ _ _ h=>h) (by rfl) ?_ ?_ ?_;rotate_left;(· intro w';go_simp;with_reducible rfl);rotate_left;(· simp only [Act.put,zp1,zp2,zp3,zp4,zp5];rfl)
    refine take_ (i:=4) (N:=some 16) (v:=?_) (a':=?_) (Sq.bl 14 127) rfl rfl (by kernel_rfl) (fun _ _ _ h=>h) (Or.inl ⟨by rfl,?_⟩) hS ?_ ?_;rotate_left;(· rintro w' ⟨s0,s1⟩;go_simp;with_reducible rfl);rotate_left;(· simp only [Act.put,zp1,zp2,zp3,zp4,zp5];rfl)
    refine one_ (i:=7) (N:=some 19) (Sq.bl 14 255) rfl rfl (by kernel_rfl) (by decide) (fun K hK=>?_)
    refine goes_ Try.func52 (by kernel_rfl) rfl #[.slice A l.length c] (by rfl) rfl rfl (by(try simp only [List.map_toArray,List.map_cons,List.map_nil]);rfl) ?_
    refine(api_Line_52.made A c l _ (Kd.C_below HL.out (below_drew (Below.refl _ _))) HC.out (by omega)).mono ?_
    rintro e w2 ⟨v0,rfl,ho,hbel⟩
    obtain⟨A3,c3,rfl⟩:=Kd.R_slice ho
    have hs2:w.heap.size≤w2.heap.size:=hbel.size
    have hb2:w2.heap[b]? =some (.cells #[.slice (some ⟨g,0,none⟩) (j+1) c1,vw] 105 (0,0)):=(hbel.block b (blk_lt Hb2.out)).trans Hb2.out
    refine⟨_,rfl,hK.out _ _ ⟨(blk_cell hb2 0).trans rfl,blk_frozen hb2 _⟩ (fun hS=>?_)⟩
    have hbel':Below w.heap.size w w2:=below_then (below_drew (Below.refl _ _)) (Nat.le_refl _) hbel
    have HO2:=Aside0.mk ho
    have HBl2:=Aside0.mk hbel'
    have Hb3:=Aside0.mk hb2
    clear ho hbel hb2 hbel'
    clear hK K
    refine norm_ (a':=?_) ?_ ?_
    rotate_left
    ·show Act.put _ (some 19) _=_
     simp only [Act.put,zp1,zp2,zp3,zp4,zp5]
     rfl
    refine Sq.pu (v:=?_) (a':=?_) 8 20 (Sq.bl 14 511) (by kernel_rfl) rfl rfl (fun _ _ _ h=>h) (by rfl) ?_ ?_ ?_;rotate_left;(· intro w';go_simp;with_reducible rfl);rotate_left;(· simp only [Act.put,zp1,zp2,zp3,zp4,zp5];rfl)
    refine one_ (i:=9) (N:=some 21) (Sq.bl 14 1023) rfl rfl (by kernel_rfl) (by decide) (fun K hK=>?_)
    refine value_ (w1:=?_) (v:=?_) (by rfl) rfl ?_ ?_
    rotate_left 2
    ·go_simp
     constructor
     ·rfl
     ·rfl
    have hb4:=blk_alloc Hb3.out (.cells #[.int .i64 d, .slice A3 l.length c3] 47)
    refine hK.out _ _ ⟨(blk_cell hb4 0).trans rfl,blk_frozen hb4 _⟩ (fun hS=>?_)
    clear hb4
    clear hK K
    refine norm_ (a':=?_) ?_ ?_
    rotate_left
    ·show Act.put _ (some 21) _=_
     simp only [Act.put,zp1,zp2,zp3,zp4,zp5]
     rfl
    refine one_ (i:=10) (N:=some 22) (Sq.bl 14 2047) rfl rfl (by kernel_rfl) (by decide) (fun K hK=>?_)
    refine Kd.S_append_step k47 (w0:=w) B (by rfl) (.tmp 16) (.tmp 21) 22 47 (.agg #[(.int .i64 0),(.slice none 0 0)]) 32 rfl Try.underlying22 info47 rfl (by decide) (by omega) (.slice (some ⟨g,0,none⟩) (j+1) c1) s (⟨d,l⟩:S47) [.int .i64 d, .slice A3 l.length c3] (fun k=> ¬kp k∧some k≠vw.ownBlock) (fun k=>w.heap.size≤k∧k<w2.heap.size) rfl rfl ?aP ?aK ?aF ?aO ?aB ?aS ?aL ?_
    (case aP=>exact k47_mkM _ _ _ (⟨d,l⟩:S47) (Kd.R_lower (Kd.R_mono (Kd.R_bound HO2.out) (fun k hk=>⟨hk.2.1,hk.2.2.1⟩)) (by have:=blk_lt Hb2.out;have:w.drew.heap.size=w.heap.size:=rfl;omega)))
    (case aK=>exact fun k hk=>⟨⟨fun e=>by have:=hkl k e;omega,fun e=>by have:=Kd.R_lt HW.out k e.symm;omega⟩,fun e=>by have:=Kd.S_lt HS2.out k e.symm;omega⟩)
    (case aF=>exact fun k hk=>⟨fun e=>by have:=hkl k e;omega,fun e=>by have:=Kd.R_lt HW.out k e.symm;omega⟩)
    (case aO=>exact Kd.S_mono (Kd.S_below (Kd.S_bound HS2.out) HBl2.out) (fun k hk=>⟨hk.1,fun h=>by have:=hk.2.2.1;omega⟩))
    (case aB=>exact HBl2.out.mono (by have:=blk_lt Hb2.out;omega))
    (case aS=>exact(by have:=blk_lt Hb2.out;omega))
    (case aL=>omega)
    intro v4 w4 ho hbel hg hat
    obtain⟨A4,c4,rfl⟩:=Kd.R_slice (Kd.S_R ho)
    have hneb:some b≠(Value.slice (some ⟨g,0,none⟩) (j+1) c1).ownBlock:=Kd.R_ne (Kd.S_R HS2.out) Hb2.out (by decide)
    have hb4:=(hg.block b (blk_lt Hb3.out) hneb).trans Hb3.out
    refine hK.out _ _ ⟨(blk_cell hb4 0).trans rfl,blk_frozen hb4 _⟩ (fun hS=>?_)
    have HO4:=Aside0.mk ho
    have HBl4:=Aside0.mk hbel
    have HG4:=Aside0.mk hg
    have Hb4:=Aside0.mk hb4
    clear ho hbel hg hat hneb hb4
    clear hK K
    refine norm_ (a':=?_) ?_ ?_
    rotate_left
    ·show Act.put _ (some 22) _=_
     simp only [Act.put,zp1,zp2,zp3,zp4,zp5]
     rfl
    refine Sq.pu (v:=?_) (a':=?_) 11 23 (Sq.bl 14 4095) (by kernel_rfl) rfl rfl (fun _ _ _ h=>h) (by rfl) ?_ ?_ ?_;rotate_left;(· intro w';go_simp;with_reducible rfl);rotate_left;(· simp only [Act.put,zp1,zp2,zp3,zp4,zp5];rfl)
    refine Sq.pu (v:=?_) (a':=?_) 12 24 (Sq.bl 14 8191) (by kernel_rfl) rfl rfl (fun _ _ _ h=>h) (by rfl) ?_ ?_ ?_;rotate_left;(· intro w';go_simp;with_reducible rfl);rotate_left;(· simp only [Act.put,zp1,zp2,zp3,zp4,zp5];rfl)
    refine last_ (i:=13) (N:=none) (Sq.bl 14 16383) rfl rfl (by kernel_rfl) (by decide) (fun K hK=>?_)
    refine skip_ (w1:=?_) (by rfl) rfl ?_ ?_
    rotate_left
    ·go_simp
     rfl
    refine hK.out _ _ ?_
    clear hK K
    refine done_ (by kernel_rfl) ?_
    go_end0
    rw [show(s++ [(⟨d,l⟩:S47)]).length=(j+1)+1 by simp<;>omega] at HO4
    refine⟨rfl, .slice A4 ((j+1)+1) c4,(blk_set Hb4.out 0 _).trans rfl,Kd.S_set HO4.out Hb4.out (by decide) 0 _,?_,HBl4.out.setCell hBb _,fun k hk=>(Below.heap_setCell w4 ⟨b,0,none⟩ _ k (fun e=>hkb ((show k=b from e)▸hk))).trans ((HG4.out.block k (Nat.lt_of_lt_of_le (hkl k hk) HBl2.out.size) (fun e=>((Kd.S_R HS2.out).1 k e.symm).1 hk)).trans (HBl2.out.block k (hkl k hk)))⟩
    have h8:=Kd.R_below (Kd.R_tight rfl HW.out) HBl2.out
    have h9:=Kd.R_grown h8 HG4.out (fun k hk he=>((Kd.S_R HS2.out).1 k he.symm).2 hk)
    exact Kd.R_mono (Kd.R_set h9 Hb4.out (by decide) _ _) (fun k hk=>HW.out.1 k hk.symm)
  ·have hs0:s= []:=List.length_eq_zero_iff.1 (by omega)
   subst hs0
   have hr:script_normal.add [] d l= []++ [⟨d,l⟩]:=by
    unfold script_normal.add
    rw [if_neg hl0,if_neg (fun h=>absurd h.1 (by simp))]
   rw [hr]
   have Hb2:Aside0 (w.heap[b]? =some (.cells #[.slice A1 0 c1,vw] 105 (0,0))):=Hb
   have HS2:Aside0 (Kd.S k47 47 w B (fun k=> ¬kp k∧some k≠vw.ownBlock) (.slice A1 0 c1) []):=HS
   rw [List.length_nil] at hx0
   clear hr hl0 hn Hb HS
   go_enter Try.func82,Try.ntmps82
   go_wp2
   refine start_ (n:=14) (S:=fun w'=>w'.cell? ⟨b,0,none⟩=some (.slice A1 0 c1)∧w'.frozen? ⟨b,0,none⟩=false) (ds:= [13]) (Sq.bl 14 0) (by kernel_rfl) rfl (by rfl) ⟨hx0,hf0⟩ (fun hS=>?_)
   refine Sq.pu (v:=?_) (a':=?_) 0 12 (Sq.bl 14 1) (by kernel_rfl) rfl rfl (fun _ _ _ h=>h) (by rfl) ?_ ?_ ?_;rotate_left;(· intro w';go_simp;with_reducible rfl);rotate_left;(· simp only [Act.put,zp1,zp2,zp3,zp4,zp5];rfl)
   refine Sq.pu (v:=?_) (a':=?_) 1 13 (Sq.bl 14 3) (by kernel_rfl) rfl rfl (fun _ _ _ h=>h) (by rfl) ?_ ?_ ?_;rotate_left;(· intro w';go_simp;with_reducible rfl);rotate_left;(· simp only [Act.put,zp1,zp2,zp3,zp4,zp5];rfl)
   refine Sq.pu (v:=?_) (a':=?_) 2 14 (Sq.bl 14 7) (by kernel_rfl) rfl rfl (fun _ _ _ h=>h) (by rfl) ?_ ?_ ?_;rotate_left;(· intro w';go_simp;with_reducible rfl);rotate_left;(· simp only [Act.put,zp1,zp2,zp3,zp4,zp5];rfl)
   refine Sq.pu (v:=?_) (a':=?_) 3 15 (Sq.bl 14 15) (by kernel_rfl) rfl rfl (fun _ _ _ h=>h) (by rfl) ?_ ?_ ?_;rotate_left;(· intro w';go_simp;with_reducible rfl);rotate_left;(· simp only [Act.put,zp1,zp2,zp3,zp4,zp5];rfl)
   refine Sq.pu (v:=?_) (a':=?_) 5 17 (Sq.bl 14 47) (by kernel_rfl) rfl rfl (fun _ _ _ h=>h) (by rfl) ?_ ?_ ?_;rotate_left;(· intro w';go_simp;with_reducible rfl);rotate_left;(· simp only [Act.put,zp1,zp2,zp3,zp4,zp5];rfl)
   refine Sq.pu (v:=?_) (a':=?_) 6 18 (Sq.bl 14 111) (by kernel_rfl) rfl rfl (fun _ _ _ h=>h) (by rfl) ?_ ?_ ?_;rotate_left;(· intro w';go_simp;with_reducible rfl);rotate_left;(· simp only [Act.put,zp1,zp2,zp3,zp4,zp5];rfl)
   refine take_ (i:=4) (N:=some 16) (v:=?_) (a':=?_) (Sq.bl 14 127) rfl rfl (by kernel_rfl) (fun _ _ _ h=>h) (Or.inl ⟨by rfl,?_⟩) hS ?_ ?_;rotate_left;(· rintro w' ⟨s0,s1⟩;go_simp;with_reducible rfl);rotate_left;(· simp only [Act.put,zp1,zp2,zp3,zp4,zp5];rfl)
   refine one_ (i:=7) (N:=some 19) (Sq.bl 14 255) rfl rfl (by kernel_rfl) (by decide) (fun K hK=>?_)
   refine goes_ Try.func52 (by kernel_rfl) rfl #[.slice A l.length c] (by rfl) rfl rfl (by(try simp only [List.map_toArray,List.map_cons,List.map_nil]);rfl) ?_
   refine(api_Line_52.made A c l _ (Kd.C_below HL.out (below_drew (Below.refl _ _))) HC.out (by omega)).mono ?_
   rintro e w2 ⟨v0,rfl,ho,hbel⟩
   obtain⟨A3,c3,rfl⟩:=Kd.R_slice ho
   have hs2:w.heap.size≤w2.heap.size:=hbel.size
   have hb2:w2.heap[b]? =some (.cells #[.slice A1 0 c1,vw] 105 (0,0)):=(hbel.block b (blk_lt Hb2.out)).trans Hb2.out
   refine⟨_,rfl,hK.out _ _ ⟨(blk_cell hb2 0).trans rfl,blk_frozen hb2 _⟩ (fun hS=>?_)⟩
   have hbel':Below w.heap.size w w2:=below_then (below_drew (Below.refl _ _)) (Nat.le_refl _) hbel
   have HO2:=Aside0.mk ho
   have HBl2:=Aside0.mk hbel'
   have Hb3:=Aside0.mk hb2
   clear ho hbel hb2 hbel'
   clear hK K
   refine norm_ (a':=?_) ?_ ?_
   rotate_left
   ·show Act.put _ (some 19) _=_
    simp only [Act.put,zp1,zp2,zp3,zp4,zp5]
    rfl
   refine Sq.pu (v:=?_) (a':=?_) 8 20 (Sq.bl 14 511) (by kernel_rfl) rfl rfl (fun _ _ _ h=>h) (by rfl) ?_ ?_ ?_;rotate_left;(· intro w';go_simp;with_reducible rfl);rotate_left;(· simp only [Act.put,zp1,zp2,zp3,zp4,zp5];rfl)
   refine one_ (i:=9) (N:=some 21) (Sq.bl 14 1023) rfl rfl (by kernel_rfl) (by decide) (fun K hK=>?_)
   refine value_ (w1:=?_) (v:=?_) (by rfl) rfl ?_ ?_
   rotate_left 2
   ·go_simp
    constructor
    ·rfl
    ·rfl
   have hb4:=blk_alloc Hb3.out (.cells #[.int .i64 d, .slice A3 l.length c3] 47)
   refine hK.out _ _ ⟨(blk_cell hb4 0).trans rfl,blk_frozen hb4 _⟩ (fun hS=>?_)
   clear hb4
   clear hK K
   refine norm_ (a':=?_) ?_ ?_
   rotate_left
   ·show Act.put _ (some 21) _=_
    simp only [Act.put,zp1,zp2,zp3,zp4,zp5]
    rfl
   refine one_ (i:=10) (N:=some 22) (Sq.bl 14 2047) rfl rfl (by kernel_rfl) (by decide) (fun K hK=>?_)
   refine Kd.S_append_step k47 (w0:=w) B (by rfl) (.tmp 16) (.tmp 21) 22 47 (.agg #[(.int .i64 0),(.slice none 0 0)]) 32 rfl Try.underlying22 info47 rfl (by decide) (by omega) (.slice A1 0 c1) ([]:List S47) (⟨d,l⟩:S47) [.int .i64 d, .slice A3 l.length c3] (fun k=> ¬kp k∧some k≠vw.ownBlock) (fun k=>w.heap.size≤k∧k<w2.heap.size) rfl rfl ?aP ?aK ?aF ?aO ?aB ?aS ?aL ?_
   (case aP=>exact k47_mkM _ _ _ (⟨d,l⟩:S47) (Kd.R_lower (Kd.R_mono (Kd.R_bound HO2.out) (fun k hk=>⟨hk.2.1,hk.2.2.1⟩)) (by have:=blk_lt Hb2.out;have:w.drew.heap.size=w.heap.size:=rfl;omega)))
   (case aK=>exact fun k hk=>⟨⟨fun e=>by have:=hkl k e;omega,fun e=>by have:=Kd.R_lt HW.out k e.symm;omega⟩,fun e=>by have:=Kd.S_lt HS2.out k e.symm;omega⟩)
   (case aF=>exact fun k hk=>⟨fun e=>by have:=hkl k e;omega,fun e=>by have:=Kd.R_lt HW.out k e.symm;omega⟩)
   (case aO=>exact Kd.S_mono (Kd.S_below (Kd.S_bound HS2.out) HBl2.out) (fun k hk=>⟨hk.1,fun h=>by have:=hk.2.2.1;omega⟩))
   (case aB=>exact HBl2.out.mono (by have:=blk_lt Hb2.out;omega))
   (case aS=>exact(by have:=blk_lt Hb2.out;omega))
   (case aL=>omega)
   intro v4 w4 ho hbel hg hat
   obtain⟨A4,c4,rfl⟩:=Kd.R_slice (Kd.S_R ho)
   have hneb:some b≠(Value.slice A1 0 c1).ownBlock:=Kd.R_ne (Kd.S_R HS2.out) Hb2.out (by decide)
   have hb4:=(hg.block b (blk_lt Hb3.out) hneb).trans Hb3.out
   refine hK.out _ _ ⟨(blk_cell hb4 0).trans rfl,blk_frozen hb4 _⟩ (fun hS=>?_)
   have HO4:=Aside0.mk ho
   have HBl4:=Aside0.mk hbel
   have HG4:=Aside0.mk hg
   have Hb4:=Aside0.mk hb4
   clear ho hbel hg hat hneb hb4
   clear hK K
   refine norm_ (a':=?_) ?_ ?_
   rotate_left
   ·show Act.put _ (some 22) _=_
    simp only [Act.put,zp1,zp2,zp3,zp4,zp5]
    rfl
   refine Sq.pu (v:=?_) (a':=?_) 11 23 (Sq.bl 14 4095) (by kernel_rfl) rfl rfl (fun _ _ _ h=>h) (by rfl) ?_ ?_ ?_;rotate_left;(· intro w';go_simp;with_reducible rfl);rotate_left;(· simp only [Act.put,zp1,zp2,zp3,zp4,zp5];rfl)
   refine Sq.pu (v:=?_) (a':=?_) 12 24 (Sq.bl 14 8191) (by kernel_rfl) rfl rfl (fun _ _ _ h=>h) (by rfl) ?_ ?_ ?_;rotate_left;(· intro w';go_simp;with_reducible rfl);rotate_left;(· simp only [Act.put,zp1,zp2,zp3,zp4,zp5];rfl)
   refine last_ (i:=13) (N:=none) (Sq.bl 14 16383) rfl rfl (by kernel_rfl) (by decide) (fun K hK=>?_)
   refine skip_ (w1:=?_) (by rfl) rfl ?_ ?_
   rotate_left
   ·go_simp
    rfl
   refine hK.out _ _ ?_
   clear hK K
   refine done_ (by kernel_rfl) ?_
   go_end0
   rw [show(([]:List S47)++ [(⟨d,l⟩:S47)]).length=0+1 by simp<;>omega] at HO4
   refine⟨rfl, .slice A4 (0+1) c4,(blk_set Hb4.out 0 _).trans rfl,Kd.S_set HO4.out Hb4.out (by decide) 0 _,?_,HBl4.out.setCell hBb _,fun k hk=>(Below.heap_setCell w4 ⟨b,0,none⟩ _ k (fun e=>hkb ((show k=b from e)▸hk))).trans ((HG4.out.block k (Nat.lt_of_lt_of_le (hkl k hk) HBl2.out.size) (fun e=>((Kd.S_R HS2.out).1 k e.symm).1 hk)).trans (HBl2.out.block k (hkl k hk)))⟩
   have h8:=Kd.R_below (Kd.R_tight rfl HW.out) HBl2.out
   have h9:=Kd.R_grown h8 HG4.out (fun k hk he=>((Kd.S_R HS2.out).1 k he.symm).2 hk)
   exact Kd.R_mono (Kd.R_set h9 Hb4.out (by decide) _ _) (fun k hk=>HW.out.1 k hk.symm)
set_option maxHeartbeats 4000000 in
set_option maxRecDepth 100000 in
theorem script_normal.flush_calls (B b:Nat) (kp:Nat→Prop) (s:List S47) (wt:List S66) (w:World) (hBb:B≤b) (hkb: ¬kp b) (hkl: ∀k,kp k→k<w.heap.size) (ha:script_normal.At B b kp w s wt) (h1:s.length≤1000000000) (h2:script_normal.lines s≤1000000000) (h3:wt.length≤1000000000):
  Calls Try.prog 78 #[.pointer (some ⟨b,0,none⟩)] w fun e w'=>e= .returned (.tuple #[])∧script_normal.At B b kp w' (script_normal.add s 3 wt) []∧Below B w w'∧(∀k,kp k→w'.heap[k]? =w.heap[k]?):=by
 obtain⟨vs,vw,hb,hs,hw⟩:=ha
 obtain⟨A1,c1,rfl,hc1,hC1⟩:=Kd.R_reads hw
 have hx1:w.cell? ⟨b,1,none⟩=some (.slice A1 wt.length c1):=(blk_cell hb 1).trans rfl
 have Hb:=Aside0.mk hb
 have HC:=Aside0.mk (script_normal.add_calls B b kp s wt 3 A1 c1 wt vs _ w hBb hkb hkl hb hs hw hC1 hc1 h1 h2 h3)
 clear hb hs hw hC1 hc1
 go_enter Try.func78,Try.ntmps78
 go_wp2_with(go_at_call 82;refine HC.out.mono ?_;rintro e w2 ⟨rfl,vs2,hb2,hs2,hw2,hB2,hk2⟩;have hf2:=blk_frozen hb2 1;have hc2:w2.cell? ⟨b,1,none⟩=some (.slice A1 wt.length c1):=(blk_cell hb2 1).trans rfl;have Hb2:=Aside0.mk hb2;have Hs2:=Aside0.mk hs2;have HB2:=Aside0.mk hB2;have Hk2:=Aside0.mk hk2;clear hb2 hs2 hw2 hB2 hk2)
 go_end0
 refine⟨rfl,⟨vs2, .slice none 0 0,(blk_set Hb2.out 1 _).trans rfl,Kd.S_mono (Kd.S_set Hs2.out Hb2.out (by decide) 1 _) (fun k hk=>⟨hk.1,by simp [Value.ownBlock]⟩),Kd.R_nil _ _ _ _ _⟩,HB2.out.setCell hBb _,fun k hk=>(Below.heap_setCell w2 ⟨b,1,none⟩ _ k (fun e=>hkb ((show k=b from e)▸hk))).trans (Hk2.out k hk)⟩
set_option maxHeartbeats 4000000 in
set_option maxRecDepth 100000 in
theorem script_normal.take_calls (w0:World) (B b:Nat) (hB0:B=w0.heap.size) (s:List S47) (wt:List S66) (x:S47) (A:Option Addr) (c:Nat) (w:World) (hBb:B≤b) (ha:script_normal.At B b (fun _=>False) w s wt) (hl0:Kd.C k66 w0 A x.f1.length x.f1) (hw0:Below B w0 w) (hc:x.f1.length≤c)
  (h1:s.length≤100000000) (h2:script_normal.lines s≤100000000) (h3:wt.length≤100000000) (h4:x.f1.length≤100000000):
  Calls Try.prog 77 #[.pointer (some ⟨b,0,none⟩), .agg #[.int .i64 x.f0, .slice A x.f1.length c]] w fun e w'=>e= .returned (.tuple #[])∧script_normal.At B b (fun _=>False) w' (script_normal.take (s,wt) x).1 (script_normal.take (s,wt) x).2∧Below B w w':=by
 subst hB0
 have hl:=Kd.C_below hl0 hw0
 obtain⟨vs,vw,hb,hs,hw⟩:=ha
 obtain⟨A1,c1,rfl⟩:=Kd.R_slice hw
 have hlt:=blk_lt hb
 have hx1:w.cell? ⟨b,1,none⟩=some (.slice A1 wt.length c1):=(blk_cell hb 1).trans rfl
 have HL:=Aside0.mk hl
 have HC:=Aside0.mk hc
 obtain⟨o,ho⟩: ∃o:Obj,o= .cells #[.int .i64 x.f0, .slice A x.f1.length c] 47 (0,0):=⟨_,rfl⟩
 by_cases hi:x.f0=3
 ·have hi':(x.f0==3)=true:=beq_iff_eq.mpr hi
  have hr:script_normal.take (s,wt) x=(s,wt++x.f1):=by
   unfold script_normal.take
   rw [if_pos hi]
  rw [hr]
  have Hb:=Aside0.mk hb
  have Hs:=Aside0.mk hs
  have Hw:=Aside0.mk hw
  clear hr hb hs hw hl hc hi
  go_enter Try.func77,Try.ntmps77
  go_wp2
  rw [← ho]
  have hb1:=blk_alloc Hb.out o
  have hs1:=Kd.S_alloc Hs.out o
  have hw1:=Kd.R_alloc Hw.out o
  have hbel1:Below w.heap.size w (w.alloc o):=below_alloc (Below.refl _ _) o
  have hX:(w.alloc o).heap[w.heap.size]? =some (.cells #[.int .i64 x.f0, .slice A x.f1.length c] 47 (0,0)):=by rw [World.alloc_heap_new,ho]
  generalize w.alloc o=W at hb1 hs1 hw1 hbel1 hX ⊢
  have hf1:=blk_frozen hb1 1
  have hc1:W.cell? ⟨b,1,none⟩=some (.slice A1 wt.length c1):=(blk_cell hb1 1).trans rfl
  have hcX:W.cell? ⟨w.heap.size,1,none⟩=some (.slice A x.f1.length c):=(blk_cell hX 1).trans rfl
  refine start_ (n:=11) (S:=fun w'=>w'.cell? ⟨b,1,none⟩=some (.slice A1 wt.length c1)∧w'.cell? ⟨w.heap.size,1,none⟩=some (.slice A x.f1.length c)∧w'.frozen? ⟨b,1,none⟩=false) (ds:= [10]) (Sq.bl 11 0) (by kernel_rfl) rfl (by rfl) ⟨hc1,hcX,hf1⟩ (fun hS=>?_)
  refine Sq.pu (v:=?_) (a':=?_) 0 10 (Sq.bl 11 1) (by kernel_rfl) rfl rfl (fun _ _ _ h=>h) (by rfl) ?_ ?_ ?_;rotate_left;(· intro w';go_simp;with_reducible rfl);rotate_left;(· simp only [Act.put,zp1,zp2,zp3,zp4,zp5];rfl)
  refine Sq.pu (v:=?_) (a':=?_) 1 11 (Sq.bl 11 3) (by kernel_rfl) rfl rfl (fun _ _ _ h=>h) (by rfl) ?_ ?_ ?_;rotate_left;(· intro w';go_simp;with_reducible rfl);rotate_left;(· simp only [Act.put,zp1,zp2,zp3,zp4,zp5];rfl)
  refine Sq.pu (v:=?_) (a':=?_) 2 12 (Sq.bl 11 7) (by kernel_rfl) rfl rfl (fun _ _ _ h=>h) (by rfl) ?_ ?_ ?_;rotate_left;(· intro w';go_simp;with_reducible rfl);rotate_left;(· simp only [Act.put,zp1,zp2,zp3,zp4,zp5];rfl)
  refine Sq.pu (v:=?_) (a':=?_) 3 13 (Sq.bl 11 15) (by kernel_rfl) rfl rfl (fun _ _ _ h=>h) (by rfl) ?_ ?_ ?_;rotate_left;(· intro w';go_simp;with_reducible rfl);rotate_left;(· simp only [Act.put,zp1,zp2,zp3,zp4,zp5];rfl)
  refine Sq.pu (v:=?_) (a':=?_) 5 15 (Sq.bl 11 47) (by kernel_rfl) rfl rfl (fun _ _ _ h=>h) (by rfl) ?_ ?_ ?_;rotate_left;(· intro w';go_simp;with_reducible rfl);rotate_left;(· simp only [Act.put,zp1,zp2,zp3,zp4,zp5];rfl)
  refine take_ (i:=4) (N:=some 14) (v:=?_) (a':=?_) (Sq.bl 11 63) rfl rfl (by kernel_rfl) (fun _ _ _ h=>h) (Or.inl ⟨by rfl,?_⟩) hS ?_ ?_;rotate_left;(· rintro w' ⟨s0,s1,s2⟩;go_simp;with_reducible rfl);rotate_left;(· simp only [Act.put,zp1,zp2,zp3,zp4,zp5];rfl)
  refine take_ (i:=6) (N:=some 16) (v:=?_) (a':=?_) (Sq.bl 11 127) rfl rfl (by kernel_rfl) (fun _ _ _ h=>h) (Or.inl ⟨by rfl,?_⟩) hS ?_ ?_;rotate_left;(· rintro w' ⟨s0,s1,s2⟩;go_simp;with_reducible rfl);rotate_left;(· simp only [Act.put,zp1,zp2,zp3,zp4,zp5];rfl)
  refine one_ (i:=7) (N:=some 17) (Sq.bl 11 255) rfl rfl (by kernel_rfl) (by decide) (fun K hK=>?_)
  refine Kd.R_append_rows_step k66 (w0:=w) w0.heap.size (by rfl) (.tmp 14) (.tmp 16) 37 66 (.agg #[(.string ⟨#[]⟩),(.bool false)]) 24 rfl Try.underlying37 info66 rfl (by decide) (by omega) (.slice A1 wt.length c1) wt x.f1 _ _ _ (fun _=>True) (fun _=>False) rfl rfl ?aO (Kd.C_below HL.out (below_drew hbel1)) (fun _ _ h=>h) (fun _ h=>h.elim) (fun _ _=>trivial) ?aB ?aS ?aL ?_
  (case aO=>exact Kd.R_mono (Kd.R_drew hw1) (fun _ _=>trivial))
  (case aB=>exact(below_drew hbel1).mono (by omega))
  (case aS=>exact(by have:=hbel1.size;have:W.drew.heap.size=W.heap.size:=rfl;omega))
  (case aL=>omega)
  intro v2 w2 ho2 hbel hg hat
  obtain⟨A2,c2,rfl⟩:=Kd.R_slice ho2
  have hb2:=(hg.block b (blk_lt hb1) (Kd.R_ne hw1 hb1 (by decide))).trans hb1
  have hX2:=(hg.block _ (blk_lt hX) (Kd.R_ne hw1 hX (by decide))).trans hX
  refine hK.out _ _ ⟨(blk_cell hb2 1).trans rfl,(blk_cell hX2 1).trans rfl,blk_frozen hb2 1⟩ (fun hS=>?_)
  clear hK K
  refine norm_ (a':=?_) ?_ ?_
  rotate_left
  ·show Act.put _ (some 17) _=_
   simp only [Act.put,zp1,zp2,zp3,zp4,zp5]
   rfl
  refine Sq.pu (v:=?_) (a':=?_) 8 18 (Sq.bl 11 511) (by kernel_rfl) rfl rfl (fun _ _ _ h=>h) (by rfl) ?_ ?_ ?_;rotate_left;(· intro w';go_simp;with_reducible rfl);rotate_left;(· simp only [Act.put,zp1,zp2,zp3,zp4,zp5];rfl)
  refine Sq.pu (v:=?_) (a':=?_) 9 19 (Sq.bl 11 1023) (by kernel_rfl) rfl rfl (fun _ _ _ h=>h) (by rfl) ?_ ?_ ?_;rotate_left;(· intro w';go_simp;with_reducible rfl);rotate_left;(· simp only [Act.put,zp1,zp2,zp3,zp4,zp5];rfl)
  refine last_ (i:=10) (N:=none) (Sq.bl 11 2047) rfl rfl (by kernel_rfl) (by decide) (fun K hK=>?_)
  refine skip_ (w1:=?_) (by rfl) rfl ?_ ?_
  rotate_left
  ·go_simp
   rfl
  refine hK.out _ _ ?_
  clear hK K
  refine done_ (by kernel_rfl) ?_
  go_wp2
  go_end0
  refine⟨rfl,⟨vs, .slice A2 (wt++x.f1).length c2,?_,?_,?_⟩,(hbel.setCell hBb _)⟩
  ·rw [List.length_append]
   exact(blk_set hb2 1 _).trans rfl
  ·rw [← List.length_append]
   have h5:=Kd.S_after (ok:=fun k=> ¬False) (Kd.S_drew hs1) hg hat
   exact Kd.S_set h5 hb2 (by decide) 1 _
  ·rw [← List.length_append]
   exact Kd.R_mono (Kd.R_set ho2 hb2 (by decide) 1 _) (fun _ _ h=>h)
 ·have hi':(x.f0==3)=false:=beq_eq_false_iff_ne.mpr hi
  have hb1:=blk_alloc hb o
  have hs1:Kd.S k47 47 (w.alloc o) w0.heap.size (fun k=> ¬k=w.heap.size∧some k≠(Value.slice A1 wt.length c1).ownBlock) vs s:=Kd.S_alloc (Kd.S_mono (Kd.S_bound hs) (fun k hk=>⟨by have:=hk.2.2.1;omega,hk.1.2⟩)) o
  have hw1:Kd.R k66 66 (w.alloc o) w0.heap.size (fun k=> ¬k=w.heap.size) (.slice A1 wt.length c1) wt:=Kd.R_alloc (Kd.R_mono (Kd.R_bound hw) (fun k hk=>by have:=hk.2.2.1;omega)) o
  have hX:(w.alloc o).heap[w.heap.size]? =some o:=World.alloc_heap_new w o
  have hbel1:Below w0.heap.size w (w.alloc o):=(below_alloc (Below.refl _ _) o).mono (by omega)
  have hsz:(w.alloc o).heap.size=w.heap.size+1:=by simp
  have HL0:=Aside0.mk hl0
  have HW0:=Aside0.mk hw0
  by_cases hk:x.f0=1
  ·have hk':(x.f0==1)=true:=beq_iff_eq.mpr hk
   by_cases hn:0<x.f1.length
   ·have hn':decide (0<x.f1.length)=true:=decide_eq_true hn
    have hr:script_normal.take (s,wt) x=(script_normal.add (script_normal.add s 3 wt) x.f0 x.f1,[]):=by
     unfold script_normal.take
     rw [if_neg hi,if_pos ⟨hk,hn⟩]
    rw [hr]
    have hl2:=script_normal.lines_add s 3 wt
    have hl3:=script_normal.len_add s 3 wt
    have HF:=Aside0.mk (script_normal.flush_calls w0.heap.size b (fun k=>k=w.heap.size) s wt (w.alloc o) hBb (by omega) (fun k hk=>by omega) ⟨_,_,hb1,hs1,hw1⟩ (by omega) (by omega) (by omega))
    have HX:=Aside0.mk hX
    have HB1:=Aside0.mk hbel1
    clear hr hb hs hw hl hc hi hk hb1 hs1 hw1 hX hbel1 hn hl0 hw0
    subst ho
    go_enter Try.func77,Try.ntmps77
    go_wp2_with(first|(go_at_call 78;refine HF.out.mono ?_;rintro e w2 ⟨rfl,ha2,hB2,hk2⟩;have hX2:=(hk2 _ rfl).trans HX.out;have hd0:w2.cell? ⟨w.heap.size,0,none⟩=some (.int .i64 x.f0):=(blk_cell hX2 0).trans rfl;have hd1:w2.cell? ⟨w.heap.size,1,none⟩=some (.slice A x.f1.length c):=(blk_cell hX2 1).trans rfl;have Ha2:=Aside0.mk ha2;have HB2:=Aside0.mk hB2;clear hX2 ha2 hB2 hk2)|(go_at_call 82;obtain⟨vs2,vw2,hb2,hs2,hw2⟩:=Ha2.out;refine(script_normal.add_calls w0.heap.size b (fun _=>False) (script_normal.add s 3 wt) [] x.f0 A c x.f1 vs2 vw2 w2 hBb (fun h=>h) (fun _ h=>h.elim) hb2 (Kd.S_mono hs2 (fun k hk=>⟨fun h=>h,hk.2⟩)) (Kd.R_mono hw2 (fun _ _ h=>h)) (Kd.C_below HL0.out ((HW0.out.trans HB1.out).trans HB2.out)) HC.out (by omega) (by omega) (by omega)).mono ?_;rintro e w3 ⟨rfl,vs3,hb3,hs3,hw3,hB3,_⟩))
    go_end0
    exact⟨rfl,⟨vs3,vw2,hb3,hs3,hw3⟩,(HB1.out.trans HB2.out).trans hB3⟩
   ·have hn':decide (0<x.f1.length)=false:=decide_eq_false hn
    have hr:script_normal.take (s,wt) x=(script_normal.add s x.f0 x.f1,wt):=by
     unfold script_normal.take
     rw [if_neg hi,if_neg (fun h=>hn h.2)]
    rw [hr]
    have HF:=Aside0.mk (script_normal.add_calls w0.heap.size b (fun k=>k=w.heap.size) s wt x.f0 A c x.f1 vs _ (w.alloc o) hBb (by omega) (fun k hk=>by omega) hb1 hs1 hw1 (Kd.C_below HL0.out (HW0.out.trans hbel1)) HC.out (by omega) (by omega) (by omega))
    have HB1:=Aside0.mk hbel1
    clear hr hb hs hw hl hc hi hk hb1 hs1 hw1 hX hbel1 hl0 hw0
    subst ho
    go_enter Try.func77,Try.ntmps77
    go_wp2_with(go_at_call 82;refine HF.out.mono ?_;rintro e w3 ⟨rfl,vs3,hb3,hs3,hw3,hB3,_⟩)
    go_end0
    exact⟨rfl,⟨vs3,_,hb3,Kd.S_mono hs3 (fun k hk=>⟨fun h=>h,hk.2⟩),Kd.R_mono hw3 (fun _ _ h=>h)⟩,HB1.out.trans hB3⟩
  ·have hk':(x.f0==1)=false:=beq_eq_false_iff_ne.mpr hk
   have hr:script_normal.take (s,wt) x=(script_normal.add s x.f0 x.f1,wt):=by
    unfold script_normal.take
    rw [if_neg hi,if_neg (fun h=>hk h.1)]
   rw [hr]
   have HF:=Aside0.mk (script_normal.add_calls w0.heap.size b (fun k=>k=w.heap.size) s wt x.f0 A c x.f1 vs _ (w.alloc o) hBb (by omega) (fun k hk=>by omega) hb1 hs1 hw1 (Kd.C_below HL0.out (HW0.out.trans hbel1)) HC.out (by omega) (by omega) (by omega))
   have HB1:=Aside0.mk hbel1
   clear hr hb hs hw hl hc hi hk hb1 hs1 hw1 hX hbel1 hl0 hw0
   subst ho
   go_enter Try.func77,Try.ntmps77
   go_wp2_with(go_at_call 82;refine HF.out.mono ?_;rintro e w3 ⟨rfl,vs3,hb3,hs3,hw3,hB3,_⟩)
   go_end0
   exact⟨rfl,⟨vs3,_,hb3,Kd.S_mono hs3 (fun k hk=>⟨fun h=>h,hk.2⟩),Kd.R_mono hw3 (fun _ _ h=>h)⟩,HB1.out.trans hB3⟩
theorem script_normal.At.alloc {B b:Nat} {kp:Nat→Prop} {w:World} {s:List S47} {wt:List S66} (h:script_normal.At B b kp w s wt) (o:Obj):script_normal.At B b kp (w.alloc o) s wt:=by
 obtain⟨vs,vw,hb,hs,hw⟩:=h
 exact⟨vs,vw,blk_alloc hb o,Kd.S_alloc hs o,Kd.R_alloc hw o⟩
theorem script_normal.all_len (l:List S47): ∀(n:Nat),(script_normal.all (l.take n)).1.length≤2*n∧script_normal.lines (script_normal.all (l.take n)).1+(script_normal.all (l.take n)).2.length=script_normal.lines (l.take n)
 | 0=>by simp [script_normal.all,script_normal.lines]
 | n+1=>by
  have ih:=script_normal.all_len l n
  rcases Nat.lt_or_ge n l.length with h|h
  ·rw [List.take_succ_eq_append_getElem h]
   have e:script_normal.all (l.take n++ [l[n]])=script_normal.take (script_normal.all (l.take n)) l[n]:=by
    rw [script_normal.all,List.foldl_append]
    rfl
   rw [e,script_normal.lines_append]
   generalize script_normal.all (l.take n)=q at ih ⊢
   generalize l[n]=x
   have e2:script_normal.lines [x]=x.f1.length:=by simp [script_normal.lines]
   rw [e2]
   unfold script_normal.take
   split
   ·simp only [List.length_append]
    omega
   ·split
    ·simp only [script_normal.lines_add,List.length_nil]
     have:=script_normal.len_add q.1 3 q.2
     have:=script_normal.len_add (script_normal.add q.1 3 q.2) x.f0 x.f1
     omega
    ·simp only [script_normal.lines_add]
     have:=script_normal.len_add q.1 x.f0 x.f1
     omega
  ·rw [List.take_of_length_le (by omega)]
   rw [List.take_of_length_le h] at ih
   omega
theorem script_normal.lines_take (l:List S47) (n:Nat):script_normal.lines (l.take n)≤script_normal.lines l:=by
 have e:=script_normal.lines_append (l.take n) (l.drop n)
 rw [List.take_append_drop] at e
 omega
set_option maxHeartbeats 4000000 in
set_option maxRecDepth 100000 in
theorem script_normal.calls (A0:Option Addr) (c0:Nat) (l0:List S47) (r:List S47) (w:World) (hr0:Kd.C k47 w A0 l0.length l0) (hc0:l0.length≤c0) (h:script_normal.f l0=some r):
  Calls Try.prog 67 #[.slice A0 l0.length c0] w fun e w'=> ∃v0_:Value,e= .returned (v0_)∧Kd.S k47 47 w' w.heap.size (fun _=>True) v0_ r∧Below w.heap.size w w':=by
 unfold script_normal.f at h
 split at h
 case isFalse=>cases h
 rename_i hsz
 obtain⟨hs1,hs2⟩:=hsz
 have hr:=Option.some.inj h
 clear h
 have HR:=Aside0.mk hr
 have HR0:=Aside0.mk hr0
 have HC0:=Aside0.mk hc0
 clear hr hr0 hc0
 go_enter Try.func67,Try.ntmps67
 go_wp2
 go_loopw [10] (fun i wr=> ∃n:Nat,n≤l0.length∧i= .int .i64 (n:Int)∧script_normal.At w.heap.size w.heap.size (fun _=>False) wr (script_normal.all (l0.take n)).1 (script_normal.all (l0.take n)).2∧Below w.heap.size w wr)
  (fun i _=>l0.length-(intOf i).toNat)
 case atStart=>
  refine⟨0,Nat.zero_le _,rfl,⟨_,_,World.alloc_heap_new w _,Kd.S_nil _ _ _ _ _,Kd.R_nil _ _ _ _ _⟩,below_alloc (Below.refl _ _) _⟩
 case round=>
  obtain⟨n,hn,rfl,ha,hB⟩:=hrel
  by_cases hlt:n<l0.length
  ·obtain⟨ad,A1,c1,e,hx0,hx1,hl1,hC1⟩:=at_T47 HR0.out (n:Int) (by omega) (by omega)
   cases e
   have hlt':decide ((n:Int)<(l0.length:Int))=true:=decide_eq_true (by omega)
   replace hx0:=(hB.cell (World.block_lt_of_cell? w _ hx0)).trans hx0
   replace hx1:=(hB.cell (World.block_lt_of_cell? w _ hx1)).trans hx1
   simp only [Int.toNat_natCast] at hx0 hx1
   have hlen:=script_normal.all_len l0 n
   have hlt2:=script_normal.lines_take l0 n
   have hx:rd_T47 l0 (n:Int)=l0[n]:=by
    simp [rd_T47,hlt]
   have hall:script_normal.all (l0.take (n+1))=script_normal.take ((script_normal.all (l0.take n)).1,(script_normal.all (l0.take n)).2) (rd_T47 l0 (n:Int)):=by
    rw [List.take_succ_eq_append_getElem hlt,script_normal.all,List.foldl_append,hx]
    rfl
   have hx4:(rd_T47 l0 (n:Int)).f1.length≤1000000:=Nat.le_trans (script_normal.lines_le (by rw [hx];exact List.getElem_mem _)) hs2
   have HA:=Aside0.mk ha
   have HBw:=Aside0.mk hB
   have Hall:=Aside0.mk hall
   have HC1:=Aside0.mk hC1
   have Hl1:=Aside0.mk hl1
   clear hall hx ha hB hC1 hl1
   go_wp2_with(go_at_call 77;refine(script_normal.take_calls w w.heap.size w.heap.size rfl (script_normal.all (l0.take n)).1 (script_normal.all (l0.take n)).2 (rd_T47 l0 (n:Int)) A1 c1 _ (Nat.le_refl _) (HA.out.alloc _) HC1.out (HBw.out.alloc HBw.out.size _) Hl1.out (by omega) (by omega) (by omega) (by omega)).mono ?_;rintro e w2 ⟨rfl,ha2,hB2⟩;rw [← Hall.out] at ha2)
   go_roundw
   case rel=>exact⟨n+1,by omega,by simp,ha2,(HBw.out.alloc HBw.out.size _).trans hB2⟩
   case measure=>simp [intOf];omega
  ·obtain rfl:n=l0.length:=by omega
   have hlt':decide ((l0.length:Int)<(l0.length:Int))=false:=decide_eq_false (by omega)
   have hlen:=script_normal.all_len l0 l0.length
   have hlt2:=script_normal.lines_take l0 l0.length
   rw [List.take_length] at ha hlen hlt2
   have HBw:=Aside0.mk hB
   have HF:=Aside0.mk (script_normal.flush_calls w.heap.size w.heap.size (fun _=>False) (script_normal.all l0).1 (script_normal.all l0).2 wr (Nat.le_refl _) (fun h=>h) (fun _ h=>h.elim) ha (by omega) (by omega) (by omega))
   clear ha hB hn hlt
   go_wp2_with(go_at_call 78;refine HF.out.mono ?_;rintro e w2 ⟨rfl,⟨vs,vw,hb,hs,hw⟩,hB2,_⟩;obtain⟨A1,c1,rfl⟩:=Kd.R_slice (Kd.S_R hs);have hd0:w2.cell? ⟨w.heap.size,0,none⟩=some _:=(blk_cell hb 0).trans rfl)
   go_ret
   refine⟨_,rfl,?_,HBw.out.trans hB2⟩
   have e2:r=script_normal.add (script_normal.all l0).1 3 (script_normal.all l0).2:=HR.out.symm
   rw [e2]
   exact Kd.S_mono hs (fun _ _=>trivial)
end Go.Proofs.Ytfnbodjmmkjlcaa.H
end
section
namespace Go.Proofs.Ytfnbodjmmkjlcaa.H
open Go.RowKit Go.Proofs.YtfnbodjmmkjlcaaW.PrintWords Go.Proofs.YtfnbodjmmkjlcaaW.PrintLast Go.Proofs.YtfnbodjmmkjlcaaW.PrintMore
attribute [local go_sem] max2_int min2_int max_two min_two max_three min_three max_four min_four
set_option linter.unusedVariables false
set_option linter.unusedSimpArgs false
def script_Normal.f (k:Nat) (l0:List (S47)):Option ((List (S47))×Int):=(script_Check.f k l0).bind fun t107=>(if t107=0 then ((script_normal.f l0).bind fun t108=>(some (t108,0))) else (some (([]:List (S47)),t107)))
theorem script_Normal.mono: ∀a0 k,LeO (script_Normal.f k a0) (script_Normal.f (k+1) a0):=by
 intro a0 k
 unfold script_Normal.f
 repeat' first
   | (with_reducible exact script_Check.mono _ _)
   | (with_reducible exact LeO.refl _)
   | (with_reducible exact LeO.none _)
   | (with_reducible refine LeO.ite ?_ ?_)
   | (with_reducible refine LeO.bind ?_ (fun _=>?_))
   | exact script_Check.mono _ _
   | exact LeO.none _
   | refine LeO.ite ?_ ?_
   | refine LeO.bind ?_ (fun _=>?_)
set_option maxHeartbeats 8000000 in
set_option maxRecDepth 100000 in
theorem script_Normal.calls (k:Nat) (A0:Option Addr) (c0:Nat) (l0:List (S47)) (r1:List (S47)) (r2:Int) (w:World) (hr0:Kd.C k47 w A0 l0.length l0) (hc0:l0.length≤c0) (h:script_Normal.f k l0=some (r1,r2)):
  Calls Try.prog 42 #[.slice A0 l0.length c0] w fun e w'=> ∃v0_:Value,e= .returned (.tuple #[v0_, .int .i64 r2])∧Kd.S k47 47 w' w.heap.size (fun _=>True) v0_ r1∧Below w.heap.size w w':=by
 have HR0:=Aside0.mk hr0
 have HC0:=Aside0.mk hc0
 clear hr0 hc0
 have HB:=Aside0.mk (Below.refl w.heap.size w)
 have H:((script_Check.f k l0).bind fun t107=>(if t107=0 then ((script_normal.f l0).bind fun t108=>(some (t108,0))) else (some (([]:List (S47)),t107))))=some (r1,r2):=h
 clear h
 replace H:=Option.bind_eq_some_iff.mp H
 obtain⟨t107,A20,H⟩:=H
 replace H:(if t107=0 then ((script_normal.f l0).bind fun t108=>(some (t108,0))) else (some (([]:List (S47)),t107)))=some (r1,r2):=H
 have A2:=Aside0.mk A20
 clear A20
 by_cases c3:t107=0
 ·rw [if_pos c3] at H
  have c3b0:(t107==0)=true:=beq_iff_eq.mpr c3
  have c3b1:(t107 != 0)=false:=bne_eq_false_iff_eq.mpr c3
  clear c3
  replace H:=Option.bind_eq_some_iff.mp H
  obtain⟨t108,A40,H⟩:=H
  replace H:(some (t108,0))=some (r1,r2):=H
  have A4:=Aside0.mk A40
  clear A40
  simp only [Option.some.injEq,Prod.mk.injEq] at H
  obtain⟨rfl,rfl⟩:=H
  go_enter Try.func42,Try.ntmps42
  go_wp2_with(first|((with_reducible refine gate_callee (f:=49) rfl ?_);refine goesL_ (some 6) rfl rfl Try.func49 (by kernel_rfl) rfl #[.slice A0 l0.length c0] rfl (by(try simp only [List.map_toArray,List.map_cons,List.map_nil]);rfl) ?_;(with_reducible refine(script_Check.calls k _ _ l0 t107 _ ?side1 ?side2 A2.out).mono ?_);(case side1=>repeat(exact HR0.out));(case side2=>exact HC0.out);rintro e w5 ⟨rfl,hb⟩;refine⟨_,rfl,?_⟩;have n0_:=Aside0.mk (below_step (by repeat((with_reducible exact HB.out))) hb);clear HB;have HB:=n0_;clear n0_;(try clear hb))|((with_reducible refine gate_callee (f:=67) rfl ?_);refine goesL_ (some 11) rfl rfl Try.func67 (by kernel_rfl) rfl #[.slice A0 l0.length c0] rfl (by(try simp only [List.map_toArray,List.map_cons,List.map_nil]);rfl) ?_;(with_reducible refine(script_normal.calls _ _ l0 t108 _ ?side1 ?side2 A4.out).mono ?_);(case side1=>repeat(exact(Kd.C_below HR0.out HB.out)));(case side2=>exact HC0.out);rintro e w6 ⟨v109,rfl,ho0,hb⟩;refine⟨_,rfl,?_⟩;have n0_:=Aside0.mk (Kd.S_lower ho0 (below_size (by repeat((with_reducible exact HB.out)))));have n1_:=Aside0.mk (below_step (by repeat((with_reducible exact HB.out))) hb);clear HB;have HO110:=n0_;have HB:=n1_;clear n0_ n1_;(try clear hb);(try clear ho0)))
  go_ret2
  exact⟨_,by rfl,by exact HO110.out,by repeat((with_reducible exact HB.out))⟩
 ·rw [if_neg c3] at H
  have c3b0:(t107==0)=false:=beq_eq_false_iff_ne.mpr c3
  have c3b1:(t107 != 0)=true:=bne_iff_ne.mpr c3
  simp only [Option.some.injEq,Prod.mk.injEq] at H
  obtain⟨rfl,rfl⟩:=H
  go_enter Try.func42,Try.ntmps42
  go_wp2_with(((with_reducible refine gate_callee (f:=49) rfl ?_);refine goesL_ (some 6) rfl rfl Try.func49 (by kernel_rfl) rfl #[.slice A0 l0.length c0] rfl (by(try simp only [List.map_toArray,List.map_cons,List.map_nil]);rfl) ?_;(with_reducible refine(script_Check.calls k _ _ l0 t107 _ ?side1 ?side2 A2.out).mono ?_);(case side1=>repeat(exact HR0.out));(case side2=>exact HC0.out);rintro e w7 ⟨rfl,hb⟩;refine⟨_,rfl,?_⟩;have n0_:=Aside0.mk (below_step (by repeat((with_reducible exact HB.out))) hb);clear HB;have HB:=n0_;clear n0_;(try clear hb)))
  go_ret2
  exact⟨_,by rfl,by exact Kd.S_nil _ _ _ _ _,by repeat((with_reducible exact HB.out))⟩
end Go.Proofs.Ytfnbodjmmkjlcaa.H
end
section
namespace Go.Proofs.Ytfnbodjmmkjlcaa.H
open Go.RowKit Go.Proofs.YtfnbodjmmkjlcaaW.PrintWords Go.Proofs.YtfnbodjmmkjlcaaW.PrintLast Go.Proofs.YtfnbodjmmkjlcaaW.PrintMore
attribute [local go_sem] max2_int min2_int max_two min_two max_three min_three max_four min_four
set_option linter.unusedVariables false
set_option linter.unusedSimpArgs false
def hunk_within.f (a0:Int):Option (Bool):=if a0≥0 then (some (decide (a0≤400))) else (some false)
set_option maxHeartbeats 8000000 in
set_option maxRecDepth 100000 in
theorem hunk_within.calls (a0:Int) (r:Bool) (w:World) (h:hunk_within.f a0=some r):
    Calls Try.prog 51 #[.int .i64 a0] w fun e w'=>e= .returned (.bool r)∧Drawn0 w w':=by
  have H:(if a0≥0 then (some (decide (a0≤400))) else (some false))=some r:=h
  clear h
  by_cases c2:a0≥0
  · rw [if_pos c2] at H
    have c2b0:decide (0≤a0)=true:=decide_eq_true c2
    clear c2
    obtain rfl:=Option.some.inj H
    go_enter Try.func51,Try.ntmps51
    go_wp2
    go_ret
    exact⟨by rfl,by repeat(exact Drawn0.refl _)⟩
  · rw [if_neg c2] at H
    have c2b0:decide (0≤a0)=false:=decide_eq_false c2
    clear c2
    obtain rfl:=Option.some.inj H
    go_enter Try.func51,Try.ntmps51
    go_wp2
    go_ret
    exact⟨by rfl,by repeat(exact Drawn0.refl _)⟩
end Go.Proofs.Ytfnbodjmmkjlcaa.H
end
section
namespace Go.Proofs.Ytfnbodjmmkjlcaa.H
open Go.RowKit Go.Proofs.YtfnbodjmmkjlcaaW.PrintWords Go.Proofs.YtfnbodjmmkjlcaaW.PrintLast Go.Proofs.YtfnbodjmmkjlcaaW.PrintMore
attribute [local go_sem] max2_int min2_int max_two min_two max_three min_three max_four min_four
set_option linter.unusedVariables false
set_option linter.unusedSimpArgs false
attribute [local go_sem high] eqA66
def api_Line_56.l0:Nat→List (S66)→List (S66)→Int→Int→Option (Bool)
 | 0,_,_,_,_=>none
 | k+1,x0,x1,x12,x13=>if x13<x12 then (if 0≤x13 then (if x13<(x0.length:Int) then (if x13<(x1.length:Int) then (if (!((((rd_T66 x0 x13).f0).toList)==(((rd_T66 x1 x13).f0).toList))||(!(((rd_T66 x0 x13).f1)==((rd_T66 x1 x13).f1))))=true then (some false) else (api_Line_56.l0 k x0 x1 x12 (wrap64 (x13+1)))) else (none)) else (none)) else (none)) else (some true)
def api_Line_56.f (k:Nat) (l0:List (S66)) (l1:List (S66)):Option (Bool):=if (l0.length:Int)=(l1.length:Int) then (api_Line_56.l0 k l0 l1 (l0.length:Int) 0) else (some false)
theorem api_Line_56.mono_l: ∀k,(∀y0 y1 y2 y3,LeO (api_Line_56.l0 k y0 y1 y2 y3) (api_Line_56.l0 (k+1) y0 y1 y2 y3))
 | 0=>fun _ _ _ _ r h=>by simp [api_Line_56.l0] at h
 | k+1=>by
  have ih0:=api_Line_56.mono_l k
  ·intro y0 y1 y2 y3
   unfold api_Line_56.l0
   repeat' first
   | (with_reducible exact ih0 _ _ _ _)
   | (with_reducible exact LeO.refl _)
   | (with_reducible exact LeO.none _)
   | (with_reducible refine LeO.ite ?_ ?_)
   | (with_reducible refine LeO.bind ?_ (fun _=>?_))
   | exact ih0 _ _ _ _
   | exact LeO.none _
   | refine LeO.ite ?_ ?_
   | refine LeO.bind ?_ (fun _=>?_)
theorem api_Line_56.mono: ∀a0 a1 k,LeO (api_Line_56.f k a0 a1) (api_Line_56.f (k+1) a0 a1):=by
 intro a0 a1 k
 have ih0:=api_Line_56.mono_l k
 unfold api_Line_56.f
 repeat' first
   | (with_reducible exact ih0 _ _ _ _)
   | (with_reducible exact LeO.refl _)
   | (with_reducible exact LeO.none _)
   | (with_reducible refine LeO.ite ?_ ?_)
   | (with_reducible refine LeO.bind ?_ (fun _=>?_))
   | exact ih0 _ _ _ _
   | exact LeO.none _
   | refine LeO.ite ?_ ?_
   | refine LeO.bind ?_ (fun _=>?_)
set_option maxHeartbeats 8000000 in
set_option maxRecDepth 100000 in
theorem api_Line_56.calls (k:Nat) (A0:Option Addr) (c0:Nat) (l0:List (S66)) (A1:Option Addr) (c1:Nat) (l1:List (S66)) (r:Bool) (w:World) (hr0:Kd.C k66 w A0 l0.length l0) (hc0:l0.length≤c0) (hr1:Kd.C k66 w A1 l1.length l1) (hc1:l1.length≤c1) (h:api_Line_56.f k l0 l1=some r):
  Calls Try.prog 56 #[.slice A0 l0.length c0, .slice A1 l1.length c1] w fun e w'=>e= .returned (.bool r)∧Drawn0 w w':=by
 have hu66:=Try.underlying66
 have HR0:=Aside0.mk hr0
 have HC0:=Aside0.mk hc0
 clear hr0 hc0
 have HR1:=Aside0.mk hr1
 have HC1:=Aside0.mk hc1
 clear hr1 hc1
 have H:(if (l0.length:Int)=(l1.length:Int) then (api_Line_56.l0 k l0 l1 (l0.length:Int) 0) else (some false))=some r:=h
 clear h
 by_cases c3:(l0.length:Int)=(l1.length:Int)
 ·rw [if_pos c3] at H
  have c3b0:((l0.length:Int)==(l1.length:Int))=true:=beq_iff_eq.mpr c3
  have c3b1:((l0.length:Int) != (l1.length:Int))=false:=bne_eq_false_iff_eq.mpr c3
  have c3b2:(l0.length==l1.length)=true:=by(simp at c3 ⊢;omega)
  clear c3
  have H':=Aside0.mk H
  clear H
  go_enter Try.func56,Try.ntmps56
  go_wp2
  go_loopg [13] k (fun kq v13 w'=> ∃(x13_1:Int),v13= .int .i64 x13_1∧Aside0 (api_Line_56.l0 kq l0 l1 (l0.length:Int) x13_1=some r)∧Aside0 (kq≤k)∧Drawn0 w w')
  case atStart=>exact⟨(0),(by rfl),H',⟨Nat.le_refl _⟩,by repeat(exact Drawn0.refl _)⟩
  case round=>
   clear H'
   try clear c3b0
   try clear c3b1
   try clear c3b2
   obtain⟨x13_1,rfl,HA,HK1,⟨m1,rfl⟩⟩:=hrel
   cases gk with
   | zero=>exact absurd HA.out (by simp [api_Line_56.l0])
   | succ k1=>
    have H:=HA.out
    clear HA
    simp only [api_Line_56.l0] at H
    by_cases c4:x13_1<(l0.length:Int)
    ·rw [if_pos c4] at H
     have c4b0:decide (x13_1<(l0.length:Int))=true:=decide_eq_true c4
     clear c4
     by_cases c5:0≤x13_1
     ·rw [if_pos c5] at H
      have c5b0:decide (0≤x13_1)=true:=decide_eq_true c5
      clear c5
      by_cases c6:x13_1<(l0.length:Int)
      ·rw [if_pos c6] at H
       have c6b0:decide (x13_1<(l0.length:Int))=true:=decide_eq_true c6
       clear c6
       by_cases c7:x13_1<(l1.length:Int)
       ·rw [if_pos c7] at H
        have c7b0:decide (x13_1<(l1.length:Int))=true:=decide_eq_true c7
        clear c7
        by_cases c8:(!((((rd_T66 l0 x13_1).f0).toList)==(((rd_T66 l1 x13_1).f0).toList))||(!(((rd_T66 l0 x13_1).f1)==((rd_T66 l1 x13_1).f1))))=true
        ·rw [if_pos c8] at H
         have c8b0:(!((((rd_T66 l0 x13_1).f0).toList)==(((rd_T66 l1 x13_1).f0).toList))||(!(((rd_T66 l0 x13_1).f1)==((rd_T66 l1 x13_1).f1))))=true:=c8
         clear c8
         obtain rfl:=Option.some.inj H
         have p161:0≤(x13_1:Int):=of_decide_eq_true (by(with_reducible assumption))
         have q161:x13_1<(l0.length:Int):=of_decide_eq_true (by(with_reducible assumption))
         obtain⟨ad161,e161,hx161_0,hx161_1⟩:=at_T66 HR0.out x13_1 p161 q161
         cases e161
         replace p161:=eq_true p161
         replace q161:=eq_true q161
         have p162:0≤(x13_1:Int):=of_decide_eq_true (by(with_reducible assumption))
         have q162:x13_1<(l1.length:Int):=of_decide_eq_true (by(with_reducible assumption))
         obtain⟨ad162,e162,hx162_0,hx162_1⟩:=at_T66 HR1.out x13_1 p162 q162
         cases e162
         replace p162:=eq_true p162
         replace q162:=eq_true q162
         go_wp2
         repeat(go_quiet (fail);try go_wp2)
         go_ret
         exact⟨by rfl,by repeat(first|exact Drawn0.refl _|apply Drawn0.step)⟩
        ·rw [if_neg c8] at H
         have c8b0:(!((((rd_T66 l0 x13_1).f0).toList)==(((rd_T66 l1 x13_1).f0).toList))||(!(((rd_T66 l0 x13_1).f1)==((rd_T66 l1 x13_1).f1))))=false:=by simpa using c8
         clear c8
         have H':=Aside0.mk H
         clear H
         have p161:0≤(x13_1:Int):=of_decide_eq_true (by(with_reducible assumption))
         have q161:x13_1<(l0.length:Int):=of_decide_eq_true (by(with_reducible assumption))
         obtain⟨ad161,e161,hx161_0,hx161_1⟩:=at_T66 HR0.out x13_1 p161 q161
         cases e161
         replace p161:=eq_true p161
         replace q161:=eq_true q161
         have p162:0≤(x13_1:Int):=of_decide_eq_true (by(with_reducible assumption))
         have q162:x13_1<(l1.length:Int):=of_decide_eq_true (by(with_reducible assumption))
         obtain⟨ad162,e162,hx162_0,hx162_1⟩:=at_T66 HR1.out x13_1 p162 q162
         cases e162
         replace p162:=eq_true p162
         replace q162:=eq_true q162
         go_wp2
         repeat(go_quiet (fail);try go_wp2)
         go_roundg k1
         case measure=>have:=HK1.out;omega
         case rel=>exact⟨(wrap64 (x13_1+1)),(by rfl),H',⟨by have:=HK1.out;omega⟩,by repeat(first|exact Drawn0.refl _|apply Drawn0.step)⟩
       ·rw [if_neg c7] at H
        exact absurd H (by simp)
      ·rw [if_neg c6] at H
       exact absurd H (by simp)
     ·rw [if_neg c5] at H
      exact absurd H (by simp)
    ·rw [if_neg c4] at H
     have c4b0:decide (x13_1<(l0.length:Int))=false:=decide_eq_false c4
     clear c4
     obtain rfl:=Option.some.inj H
     go_wp2
     go_ret
     exact⟨by rfl,by repeat(first|exact Drawn0.refl _|apply Drawn0.step)⟩
 ·rw [if_neg c3] at H
  have c3b0:((l0.length:Int)==(l1.length:Int))=false:=beq_eq_false_iff_ne.mpr c3
  have c3b1:((l0.length:Int) != (l1.length:Int))=true:=bne_iff_ne.mpr c3
  have c3b2:(l0.length==l1.length)=false:=by(simp at c3 ⊢;omega)
  obtain rfl:=Option.some.inj H
  go_enter Try.func56,Try.ntmps56
  go_wp2
  go_ret
  exact⟨by rfl,by repeat(exact Drawn0.refl _)⟩
end Go.Proofs.Ytfnbodjmmkjlcaa.H
end
section
namespace Go.Proofs.Ytfnbodjmmkjlcaa.H
open Go.RowKit Go.Proofs.YtfnbodjmmkjlcaaW.PrintWords Go.Proofs.YtfnbodjmmkjlcaaW.PrintLast Go.Proofs.YtfnbodjmmkjlcaaW.PrintMore
attribute [local go_sem] max2_int min2_int max_two min_two max_three min_three max_four min_four
set_option linter.unusedVariables false
set_option linter.unusedSimpArgs false
def hunk_same.one (k:Nat) (x y:S47):Option Bool:=if x.f0=y.f0 then api_Line_56.f k x.f1 y.f1 else some false
def hunk_same.all (k:Nat):List S47→List S47→Option Bool
 | x::xs,y::ys=>(hunk_same.one k x y).bind fun r=>if r=true then hunk_same.all k xs ys else some false
 | _,_=>some true
def hunk_same.f (k:Nat) (l0 l1:List S47):Option Bool:=if l0.length=l1.length then hunk_same.all k l0 l1 else some false
theorem hunk_same.one_mono (k:Nat) (x y:S47):LeO (hunk_same.one k x y) (hunk_same.one (k+1) x y):=LeO.ite (api_Line_56.mono _ _ k) (LeO.refl _)
theorem hunk_same.all_mono (k:Nat): ∀(xs ys:List S47),LeO (hunk_same.all k xs ys) (hunk_same.all (k+1) xs ys)
 | x::xs,y::ys=>LeO.bind (hunk_same.one_mono k x y) (fun r=>LeO.ite (hunk_same.all_mono k xs ys) (LeO.refl _))
 | [],_=>LeO.refl _
 | _::_,[]=>LeO.refl _
theorem hunk_same.mono: ∀a0 a1 k,LeO (hunk_same.f k a0 a1) (hunk_same.f (k+1) a0 a1):=fun a0 a1 k=>LeO.ite (hunk_same.all_mono k a0 a1) (LeO.refl _)
set_option maxHeartbeats 4000000 in
set_option maxRecDepth 100000 in
theorem hunk_same.one_calls (k:Nat) (x y:S47) (A B:Option Addr) (ca cb:Nat) (r:Bool) (w:World) (hx:Kd.C k66 w A x.f1.length x.f1) (hca:x.f1.length≤ca) (hy:Kd.C k66 w B y.f1.length y.f1) (hcb:y.f1.length≤cb) (h:hunk_same.one k x y=some r):
  Calls Try.prog 80 #[.agg #[.int .i64 x.f0, .slice A x.f1.length ca], .agg #[.int .i64 y.f0, .slice B y.f1.length cb]] w fun e w'=>e= .returned (.bool r)∧Below w.heap.size w w':=by
 unfold hunk_same.one at h
 have HX:=Aside0.mk hx
 have HY:=Aside0.mk hy
 have HCA:=Aside0.mk hca
 have HCB:=Aside0.mk hcb
 clear hx hy hca hcb
 by_cases he:x.f0=y.f0
 ·rw [if_pos he] at h
  have he':(x.f0==y.f0)=true:=beq_iff_eq.mpr he
  have H:=Aside0.mk h
  clear h he
  go_enter Try.func80,Try.ntmps80
  go_wp2_with(go_at_call 56;refine(api_Line_56.calls k A ca x.f1 B cb y.f1 r _ (Kd.C_below HX.out (below_alloc (below_alloc (Below.refl _ _) _) _)) HCA.out (Kd.C_below HY.out (below_alloc (below_alloc (Below.refl _ _) _) _)) HCB.out H.out).mono ?_;rintro e w1 ⟨rfl,hD⟩)
  go_ret
  exact⟨rfl,below_step (below_alloc (below_alloc (Below.refl _ _) _) _) hD.below⟩
 ·rw [if_neg he] at h
  obtain rfl:=Option.some.inj h
  have he':(x.f0==y.f0)=false:=beq_eq_false_iff_ne.mpr he
  clear h he
  go_enter Try.func80,Try.ntmps80
  go_wp2
  go_ret
  exact⟨rfl,below_alloc (below_alloc (Below.refl _ _) _) _⟩
set_option maxHeartbeats 4000000 in
set_option maxRecDepth 100000 in
theorem hunk_same.calls (k:Nat) (A0:Option Addr) (c0:Nat) (l0:List S47) (A1:Option Addr) (c1:Nat) (l1:List S47) (r:Bool) (w:World) (hr0:Kd.C k47 w A0 l0.length l0) (hc0:l0.length≤c0) (hr1:Kd.C k47 w A1 l1.length l1) (hc1:l1.length≤c1) (h:hunk_same.f k l0 l1=some r):
  Calls Try.prog 71 #[.slice A0 l0.length c0, .slice A1 l1.length c1] w fun e w'=>e= .returned (.bool r)∧Below w.heap.size w w':=by
 unfold hunk_same.f at h
 have HR0:=Aside0.mk hr0
 have HC0:=Aside0.mk hc0
 have HR1:=Aside0.mk hr1
 have HC1:=Aside0.mk hc1
 clear hr0 hc0 hr1 hc1
 by_cases hl:l0.length=l1.length
 ·rw [if_pos hl] at h
  have hl':(((l0.length:Nat):Int) != ((l1.length:Nat):Int))=false:=bne_eq_false_iff_eq.mpr (by omega)
  have H:=Aside0.mk h
  have HL:=Aside0.mk hl
  clear h hl
  go_enter Try.func71,Try.ntmps71
  go_wp2
  go_loopw [17] (fun v wr=> ∃n:Nat,n≤l0.length∧v= .int .i64 (n:Int)∧hunk_same.all k (l0.drop n) (l1.drop n)=some r∧Below w.heap.size w wr)
   (fun v _=>l0.length-(intOf v).toNat)
  case atStart=>exact⟨0,Nat.zero_le _,rfl,H.out,Below.refl _ _⟩
  case round=>
   obtain⟨n,hn,rfl,ha,hB⟩:=hrel
   by_cases hlt:n<l0.length
   ·have hlt1:n<l1.length:=by
     have:=HL.out
     omega
    have hx:rd_T47 l0 (n:Int)=l0[n]:=by
     simp [rd_T47,hlt]
    have hy:rd_T47 l1 (n:Int)=l1[n]:=by
     simp [rd_T47,hlt1]
    have hlt':decide ((n:Int)<(l0.length:Int))=true:=decide_eq_true (by omega)
    have hlt2:((n:Int)<(l1.length:Int))=True:=eq_true (by omega)
    rw [List.drop_eq_getElem_cons hlt,List.drop_eq_getElem_cons hlt1, ← hx, ← hy] at ha
    unfold hunk_same.all at ha
    obtain⟨q,hq,ha⟩:=Option.bind_eq_some_iff.1 ha
    obtain⟨ad,A2,c2,e,hx0,hx1,hl2,hC2⟩:=at_T47 HR0.out (n:Int) (by omega) (by omega)
    cases e
    obtain⟨bd,A3,c3,e,hy0,hy1,hl3,hC3⟩:=at_T47 HR1.out (n:Int) (by omega) (by omega)
    cases e
    have hsl:l0.length≤9223372036854775807:=HR0.out.2.1
    have hadx:=World.block_lt_of_cell? w _ hx0
    have hady:=World.block_lt_of_cell? w _ hy0
    have hadx1:=World.block_lt_of_cell? w _ hx1
    have hady1:=World.block_lt_of_cell? w _ hy1
    have hy0w: ∀o:Obj,(wr.alloc o).cell? (bd.add ((n:Int).toNat*2))=some _:=fun o=>((hB.alloc hB.size o).cell hady).trans hy0
    have hy1w: ∀o:Obj,(wr.alloc o).cell? ⟨(bd.add ((n:Int).toNat*2)).block,(bd.add ((n:Int).toNat*2)).off+1,none⟩=some _:=fun o=>((hB.alloc hB.size o).cell hady1).trans hy1
    replace hx0:=(hB.cell hadx).trans hx0
    replace hx1:=(hB.cell hadx1).trans hx1
    simp only [Int.toNat_natCast] at hx0 hx1 hy0w hy1w
    have HC2:=Aside0.mk hC2
    have Hl2:=Aside0.mk hl2
    have HC3:=Aside0.mk hC3
    have Hl3:=Aside0.mk hl3
    have HB:=Aside0.mk hB
    have Hq:=Aside0.mk hq
    have HWn:Aside0 (wrap64 ((n:Int)+1)=((n+1:Nat):Int)):=⟨by unfold wrap64;omega⟩
    clear hadx hady hadx1 hady1 hy0 hy1 hx hy hC2 hl2 hC3 hl3 hB hq
    cases q with
    | true=>
     rw [if_pos rfl] at ha
     have Ha:=Aside0.mk ha
     clear ha
     go_wp2_with(go_at_call 80;refine(hunk_same.one_calls k (rd_T47 l0 (n:Int)) (rd_T47 l1 (n:Int)) A2 A3 c2 c3 true _ (Kd.C_below HC2.out ((HB.out.alloc HB.out.size _).alloc (by rw [World.size_alloc];have:=HB.out.size;omega) _)) Hl2.out (Kd.C_below HC3.out ((HB.out.alloc HB.out.size _).alloc (by rw [World.size_alloc];have:=HB.out.size;omega) _)) Hl3.out Hq.out).mono ?_;rintro e w2 ⟨rfl,hb2⟩)
     go_roundw
     case rel=>exact⟨n+1,by omega,by rfl,Ha.out,below_step ((HB.out.alloc HB.out.size _).alloc (by rw [World.size_alloc];have:=HB.out.size;omega) _) hb2⟩
     case measure=>
      simp only [intOf,Int.toNat_natCast]
      omega
    | false=>
     rw [if_neg (by decide)] at ha
     obtain rfl:=Option.some.inj ha
     clear ha
     go_wp2_with(go_at_call 80;refine(hunk_same.one_calls k (rd_T47 l0 (n:Int)) (rd_T47 l1 (n:Int)) A2 A3 c2 c3 false _ (Kd.C_below HC2.out ((HB.out.alloc HB.out.size _).alloc (by rw [World.size_alloc];have:=HB.out.size;omega) _)) Hl2.out (Kd.C_below HC3.out ((HB.out.alloc HB.out.size _).alloc (by rw [World.size_alloc];have:=HB.out.size;omega) _)) Hl3.out Hq.out).mono ?_;rintro e w2 ⟨rfl,hb2⟩)
     go_ret
     exact⟨rfl,below_step ((HB.out.alloc HB.out.size _).alloc (by rw [World.size_alloc];have:=HB.out.size;omega) _) hb2⟩
   ·obtain rfl:n=l0.length:=by omega
    have hlt':decide ((l0.length:Int)<(l0.length:Int))=false:=decide_eq_false (by omega)
    rw [List.drop_length] at ha
    unfold hunk_same.all at ha
    obtain rfl:=Option.some.inj ha
    clear ha
    go_wp2
    go_ret
    exact⟨rfl,hB⟩
 ·rw [if_neg hl] at h
  obtain rfl:=Option.some.inj h
  have hl':(((l0.length:Nat):Int) != ((l1.length:Nat):Int))=true:=bne_iff_ne.mpr (by omega)
  clear h hl
  go_enter Try.func71,Try.ntmps71
  go_wp2
  go_ret
  exact⟨rfl,Below.refl _ _⟩
end Go.Proofs.Ytfnbodjmmkjlcaa.H
end
section
namespace Go.Proofs.Ytfnbodjmmkjlcaa.H
open Go.RowKit Go.Proofs.YtfnbodjmmkjlcaaW.PrintWords Go.Proofs.YtfnbodjmmkjlcaaW.PrintLast Go.Proofs.YtfnbodjmmkjlcaaW.PrintMore
attribute [local go_sem] max2_int min2_int max_two min_two max_three min_three max_four min_four
set_option linter.unusedVariables false
set_option linter.unusedSimpArgs false
def script_Changed.l0:Nat→Int→List (S47)→Int→Int→Option (Int)
 | 0,_,_,_,_=>none
 | k+1,x3,x6,x7,x8=>if x8<x7 then (if 0≤x8 then (if x8<(x6.length:Int) then (if ((rd_T47 x6 x8).f0)=2 then (script_Changed.l0 k (wrap64 (x3+(((rd_T47 x6 x8).f1).length:Int))) x6 x7 (wrap64 (x8+1))) else (if ((rd_T47 x6 x8).f0)=3 then (script_Changed.l0 k (wrap64 (x3+(((rd_T47 x6 x8).f1).length:Int))) x6 x7 (wrap64 (x8+1))) else (script_Changed.l0 k x3 x6 x7 (wrap64 (x8+1))))) else (none)) else (none)) else (some x3)
def script_Changed.f (k:Nat) (l0:List (S47)):Option (Int):=script_Changed.l0 k 0 l0 (l0.length:Int) 0
theorem script_Changed.mono_l: ∀k,(∀y0 y1 y2 y3,LeO (script_Changed.l0 k y0 y1 y2 y3) (script_Changed.l0 (k+1) y0 y1 y2 y3))
 | 0=>fun _ _ _ _ r h=>by simp [script_Changed.l0] at h
 | k+1=>by
  have ih0:=script_Changed.mono_l k
  ·intro y0 y1 y2 y3
   unfold script_Changed.l0
   repeat' first
   | (with_reducible exact ih0 _ _ _ _)
   | (with_reducible exact LeO.refl _)
   | (with_reducible exact LeO.none _)
   | (with_reducible refine LeO.ite ?_ ?_)
   | (with_reducible refine LeO.bind ?_ (fun _=>?_))
   | exact ih0 _ _ _ _
   | exact LeO.none _
   | refine LeO.ite ?_ ?_
   | refine LeO.bind ?_ (fun _=>?_)
theorem script_Changed.mono: ∀a0 k,LeO (script_Changed.f k a0) (script_Changed.f (k+1) a0):=by
 intro a0 k
 have ih0:=script_Changed.mono_l k
 unfold script_Changed.f
 repeat' first
   | (with_reducible exact ih0 _ _ _ _)
   | (with_reducible exact LeO.refl _)
   | (with_reducible exact LeO.none _)
   | (with_reducible refine LeO.ite ?_ ?_)
   | (with_reducible refine LeO.bind ?_ (fun _=>?_))
   | exact ih0 _ _ _ _
   | exact LeO.none _
   | refine LeO.ite ?_ ?_
   | refine LeO.bind ?_ (fun _=>?_)
set_option maxHeartbeats 8000000 in
set_option maxRecDepth 100000 in
theorem script_Changed.calls (k:Nat) (A0:Option Addr) (c0:Nat) (l0:List (S47)) (r:Int) (w:World) (hr0:Kd.C k47 w A0 l0.length l0) (hc0:l0.length≤c0) (h:script_Changed.f k l0=some r):
  Calls Try.prog 72 #[.slice A0 l0.length c0] w fun e w'=>e= .returned (.int .i64 r)∧Below w.heap.size w w':=by
 have hu47:=Try.underlying47
 have HR0:=Aside0.mk hr0
 have HC0:=Aside0.mk hc0
 clear hr0 hc0
 have HB:=Aside0.mk (Below.refl w.heap.size w)
 have H:(script_Changed.l0 k 0 l0 (l0.length:Int) 0)=some r:=h
 clear h
 have H':=Aside0.mk H
 clear H
 go_enter Try.func72,Try.ntmps72
 go_wp2
 go_loopg [3,8] k (fun kq v3 v8 w'=> ∃(x3_1:Int) (x8_1:Int),v3= .int .i64 x3_1∧v8= .int .i64 x8_1∧Aside0 (script_Changed.l0 kq x3_1 l0 (l0.length:Int) x8_1=some r)∧Aside0 (kq≤k)∧Aside0 (Below w.heap.size w w'))
 case atStart=>exact⟨(0),(0),(by rfl),(by rfl),H',⟨Nat.le_refl _⟩,⟨by repeat((with_reducible exact HB.out))⟩⟩
 case round=>
  clear H'
  obtain⟨x3_1,x8_1,rfl,rfl,HA,HK1,HB⟩:=hrel
  cases gk with
  | zero=>exact absurd HA.out (by simp [script_Changed.l0])
  | succ k1=>
   have H:=HA.out
   clear HA
   simp only [script_Changed.l0] at H
   by_cases c2:x8_1<(l0.length:Int)
   ·rw [if_pos c2] at H
    have c2b0:decide (x8_1<(l0.length:Int))=true:=decide_eq_true c2
    clear c2
    by_cases c3:0≤x8_1
    ·rw [if_pos c3] at H
     have c3b0:decide (0≤x8_1)=true:=decide_eq_true c3
     clear c3
     by_cases c4:x8_1<(l0.length:Int)
     ·rw [if_pos c4] at H
      have c4b0:decide (x8_1<(l0.length:Int))=true:=decide_eq_true c4
      clear c4
      by_cases c5:((rd_T47 l0 x8_1).f0)=2
      ·rw [if_pos c5] at H
       have c5b0:(((rd_T47 l0 x8_1).f0)==2)=true:=beq_iff_eq.mpr c5
       have c5b1:(((rd_T47 l0 x8_1).f0) != 2)=false:=bne_eq_false_iff_eq.mpr c5
       clear c5
       have H':=Aside0.mk H
       clear H
       have p133:0≤(x8_1:Int):=of_decide_eq_true (by(with_reducible assumption))
       have q133:x8_1<(l0.length:Int):=of_decide_eq_true (by(with_reducible assumption))
       obtain⟨ad133,A133_1,c133_1,e133,hx133_0,hx133_1,hl133_1,hi133_1⟩:=at_T47 HR0.out x8_1 p133 q133
       cases e133
       replace hx133_0:=(HB.out.cell (World.block_lt_of_cell? w _ hx133_0)).trans hx133_0
       replace hx133_1:=(HB.out.cell (World.block_lt_of_cell? w _ hx133_1)).trans hx133_1
       have HR133_1:=Aside0.mk hi133_1
       have HC133_1:=Aside0.mk hl133_1
       clear hi133_1 hl133_1
       replace p133:=eq_true p133
       replace q133:=eq_true q133
       go_wp2_with(((with_reducible refine gate_dst (N:=5) rfl ?_);refine box_event ?hg (N:=5) ?hd (cs:= #[.int .i64 0, .slice none 0 0]) (t:=47) ?hr ?_;(case hd=>rfl);(case hg=>rfl);(case hr=>(go_simp;done));intro gb134 hg w6 hbox hb;have n0_:=Aside0.mk (below_step (by repeat((with_reducible exact HB.out))) hb);have n1_:=Aside0.mk (hbox);have n2_:=Aside0.mk ((by rw [hg];exact(below_size (by repeat((with_reducible exact HB.out)))):w.heap.size≤gb134));have n3_:=Aside0.mk ((by rw [hg];exact(below_size (by repeat((with_reducible exact HB.out)))):w.heap.size≤gb134));clear HB;have HB:=n0_;have BK134:=n1_;have GW134:=n2_;have GE134:=n3_;clear n0_ n1_ n2_ n3_;clear hb hbox hg;have hcz7_0:w6.cell? ⟨gb134,0,none⟩=some (.int .i64 0):=(blk_cell BK134.out 0).trans rfl;have hcz7_1:w6.cell? ⟨gb134,1,none⟩=some (.slice none 0 0):=(blk_cell BK134.out 1).trans rfl;have hfz7_0:=blk_frozen BK134.out 0;have hfz7_1:=blk_frozen BK134.out 1))
       go_roundg k1
       case measure=>have:=HK1.out;omega
       case rel=>exact⟨(wrap64 (x3_1+(((rd_T47 l0 x8_1).f1).length:Int))),(wrap64 (x8_1+1)),(by rfl),(by rfl),H',⟨by have:=HK1.out;omega⟩,⟨by repeat((with_reducible first|exact HB.out|refine below_set ?_ GE134.out))⟩⟩
      ·rw [if_neg c5] at H
       have c5b0:(((rd_T47 l0 x8_1).f0)==2)=false:=beq_eq_false_iff_ne.mpr c5
       have c5b1:(((rd_T47 l0 x8_1).f0) != 2)=true:=bne_iff_ne.mpr c5
       by_cases c8:((rd_T47 l0 x8_1).f0)=3
       ·rw [if_pos c8] at H
        have c8b0:(((rd_T47 l0 x8_1).f0)==3)=true:=beq_iff_eq.mpr c8
        have c8b1:(((rd_T47 l0 x8_1).f0) != 3)=false:=bne_eq_false_iff_eq.mpr c8
        clear c8
        have H':=Aside0.mk H
        clear H
        have p133:0≤(x8_1:Int):=of_decide_eq_true (by(with_reducible assumption))
        have q133:x8_1<(l0.length:Int):=of_decide_eq_true (by(with_reducible assumption))
        obtain⟨ad133,A133_1,c133_1,e133,hx133_0,hx133_1,hl133_1,hi133_1⟩:=at_T47 HR0.out x8_1 p133 q133
        cases e133
        replace hx133_0:=(HB.out.cell (World.block_lt_of_cell? w _ hx133_0)).trans hx133_0
        replace hx133_1:=(HB.out.cell (World.block_lt_of_cell? w _ hx133_1)).trans hx133_1
        have HR133_1:=Aside0.mk hi133_1
        have HC133_1:=Aside0.mk hl133_1
        clear hi133_1 hl133_1
        replace p133:=eq_true p133
        replace q133:=eq_true q133
        go_wp2_with(((with_reducible refine gate_dst (N:=5) rfl ?_);refine box_event ?hg (N:=5) ?hd (cs:= #[.int .i64 0, .slice none 0 0]) (t:=47) ?hr ?_;(case hd=>rfl);(case hg=>rfl);(case hr=>(go_simp;done));intro gb134 hg w9 hbox hb;have n0_:=Aside0.mk (below_step (by repeat((with_reducible exact HB.out))) hb);have n1_:=Aside0.mk (hbox);have n2_:=Aside0.mk ((by rw [hg];exact(below_size (by repeat((with_reducible exact HB.out)))):w.heap.size≤gb134));have n3_:=Aside0.mk ((by rw [hg];exact(below_size (by repeat((with_reducible exact HB.out)))):w.heap.size≤gb134));clear HB;have HB:=n0_;have BK134:=n1_;have GW134:=n2_;have GE134:=n3_;clear n0_ n1_ n2_ n3_;clear hb hbox hg;have hcz10_0:w9.cell? ⟨gb134,0,none⟩=some (.int .i64 0):=(blk_cell BK134.out 0).trans rfl;have hcz10_1:w9.cell? ⟨gb134,1,none⟩=some (.slice none 0 0):=(blk_cell BK134.out 1).trans rfl;have hfz10_0:=blk_frozen BK134.out 0;have hfz10_1:=blk_frozen BK134.out 1))
        go_roundg k1
        case measure=>have:=HK1.out;omega
        case rel=>exact⟨(wrap64 (x3_1+(((rd_T47 l0 x8_1).f1).length:Int))),(wrap64 (x8_1+1)),(by rfl),(by rfl),H',⟨by have:=HK1.out;omega⟩,⟨by repeat((with_reducible first|exact HB.out|refine below_set ?_ GE134.out))⟩⟩
       ·rw [if_neg c8] at H
        have c8b0:(((rd_T47 l0 x8_1).f0)==3)=false:=beq_eq_false_iff_ne.mpr c8
        have c8b1:(((rd_T47 l0 x8_1).f0) != 3)=true:=bne_iff_ne.mpr c8
        have H':=Aside0.mk H
        clear H
        have p133:0≤(x8_1:Int):=of_decide_eq_true (by(with_reducible assumption))
        have q133:x8_1<(l0.length:Int):=of_decide_eq_true (by(with_reducible assumption))
        obtain⟨ad133,A133_1,c133_1,e133,hx133_0,hx133_1,hl133_1,hi133_1⟩:=at_T47 HR0.out x8_1 p133 q133
        cases e133
        replace hx133_0:=(HB.out.cell (World.block_lt_of_cell? w _ hx133_0)).trans hx133_0
        replace hx133_1:=(HB.out.cell (World.block_lt_of_cell? w _ hx133_1)).trans hx133_1
        have HR133_1:=Aside0.mk hi133_1
        have HC133_1:=Aside0.mk hl133_1
        clear hi133_1 hl133_1
        replace p133:=eq_true p133
        replace q133:=eq_true q133
        go_wp2_with(((with_reducible refine gate_dst (N:=5) rfl ?_);refine box_event ?hg (N:=5) ?hd (cs:= #[.int .i64 0, .slice none 0 0]) (t:=47) ?hr ?_;(case hd=>rfl);(case hg=>rfl);(case hr=>(go_simp;done));intro gb134 hg w11 hbox hb;have n0_:=Aside0.mk (below_step (by repeat((with_reducible exact HB.out))) hb);have n1_:=Aside0.mk (hbox);have n2_:=Aside0.mk ((by rw [hg];exact(below_size (by repeat((with_reducible exact HB.out)))):w.heap.size≤gb134));have n3_:=Aside0.mk ((by rw [hg];exact(below_size (by repeat((with_reducible exact HB.out)))):w.heap.size≤gb134));clear HB;have HB:=n0_;have BK134:=n1_;have GW134:=n2_;have GE134:=n3_;clear n0_ n1_ n2_ n3_;clear hb hbox hg;have hcz12_0:w11.cell? ⟨gb134,0,none⟩=some (.int .i64 0):=(blk_cell BK134.out 0).trans rfl;have hcz12_1:w11.cell? ⟨gb134,1,none⟩=some (.slice none 0 0):=(blk_cell BK134.out 1).trans rfl;have hfz12_0:=blk_frozen BK134.out 0;have hfz12_1:=blk_frozen BK134.out 1))
        go_roundg k1
        case measure=>have:=HK1.out;omega
        case rel=>exact⟨(x3_1),(wrap64 (x8_1+1)),(by rfl),(by rfl),H',⟨by have:=HK1.out;omega⟩,⟨by repeat((with_reducible first|exact HB.out|refine below_set ?_ GE134.out))⟩⟩
     ·rw [if_neg c4] at H
      exact absurd H (by simp)
    ·rw [if_neg c3] at H
     exact absurd H (by simp)
   ·rw [if_neg c2] at H
    have c2b0:decide (x8_1<(l0.length:Int))=false:=decide_eq_false c2
    clear c2
    obtain rfl:=Option.some.inj H
    go_wp2
    go_ret
    exact⟨by rfl,by repeat((with_reducible exact HB.out))⟩
end Go.Proofs.Ytfnbodjmmkjlcaa.H
end
