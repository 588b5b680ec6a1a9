/-
  What the claim needs of the words, of the walks and of the plain proofs, in one row (10).
-/
import Derived.RangeFuncNested
import Derived.RangeFuncBound
import Derived.RangeFuncCalls
import Derived.RangeFuncLeaves
import Derived.RangeFuncBox
import Derived.RangeFuncMany
import Derived.OwnWalkIn
import Derived.Deep.RegionHeld3
import Derived.WalkLawsBesides
import Derived.WalkSpells
import Derived.Shelf.Abstract
import Derived.TacticsInMore
import Derived.LoopNIn
import Derived.LoopIn
import Derived.Test.YtfnbodjmmkjlcaaZ0
import Derived.Test.YtfnbodjmmkjlcaaZ1
import Derived.Test.YtfnbodjmmkjlcaaZ2
import Derived.Test.YtfnbodjmmkjlcaaZ3
import Derived.Test.YtfnbodjmmkjlcaaZ4
import Derived.Test.YtfnbodjmmkjlcaaZ5
import Derived.Test.YtfnbodjmmkjlcaaZ6
import Derived.Test.YtfnbodjmmkjlcaaZ7
import Derived.Test.YtfnbodjmmkjlcaaZ8
import Derived.Test.YtfnbodjmmkjlcaaZ9
section
namespace Go.Proofs.Ytfnbodjmmkjlcaa.H
open Go.RowKit Go.Proofs.YtfnbodjmmkjlcaaW.PrintWords Go.Proofs.YtfnbodjmmkjlcaaW.PrintLast Go.Proofs.YtfnbodjmmkjlcaaW.PrintMore
attribute [local go_sem] max2_int min2_int max_two min_two max_three min_three max_four min_four
set_option linter.unusedVariables false
set_option linter.unusedSimpArgs false
def script_Invert.l0:Nat→List (S47)→List (S47)→Int→Int→Option ((List (S47))×Int)
 | 0,_,_,_,_=>none
 | k+1,x5,x13,x14,x15=>if x15<x14 then (if 0≤x15 then (if x15<(x13.length:Int) then (if ((rd_T47 x13 x15).f0)=2 then (if x5.length<4398046511104 then (script_Invert.l0 k (x5++ [(⟨3,(rd_T47 x13 x15).f1⟩:S47)]) x13 x14 (wrap64 (x15+1))) else (none)) else (if ((rd_T47 x13 x15).f0)=3 then (if x5.length<4398046511104 then (script_Invert.l0 k (x5++ [(⟨2,(rd_T47 x13 x15).f1⟩:S47)]) x13 x14 (wrap64 (x15+1))) else (none)) else (if x5.length<4398046511104 then (script_Invert.l0 k (x5++ [(⟨(rd_T47 x13 x15).f0,(rd_T47 x13 x15).f1⟩:S47)]) x13 x14 (wrap64 (x15+1))) else (none)))) else (none)) else (none)) else ((script_normal.f x5).bind fun t731=>(some (t731,0)))
def script_Invert.f (k:Nat) (l0:List (S47)):Option ((List (S47))×Int):=(script_Check.f k l0).bind fun t730=>(if t730=0 then (script_Invert.l0 k ([]:List (S47)) l0 (l0.length:Int) 0) else (some (([]:List (S47)),t730)))
set_option maxHeartbeats 8000000 in
set_option maxRecDepth 100000 in
theorem script_Invert.calls (k:Nat) (P0_:Nat→Prop) (A0:Option Addr) (c0:Nat) (l0:List (S47)) (r1:List (S47)) (r2:Int) (w:World) (hs0:Kd.V k47 47 w w.heap.size (fun k_=>P0_ k_) (.slice A0 l0.length c0) l0) (h:script_Invert.f k l0=some (r1,r2)):
  Calls Try.prog 65 #[.slice A0 l0.length c0] w fun e w'=> ∃v0_:Value,e= .returned (.tuple #[v0_, .int .i64 r2])∧Kd.N k47 47 w' w.heap.size (fun k_=>(P0_ k_∨w.heap.size≤k_)) v0_ r1∧Below w.heap.size w w':=by
 have hu47:=Try.underlying47
 have HO0:=Aside0.mk (show Kd.V k47 47 w w.heap.size (fun k_=>(P0_ k_∨w.heap.size≤k_)) (.slice A0 l0.length c0) l0 from Kd.V_mono hs0 (fun k_ hk=> .inl hk))
 have HB:=Aside0.mk (Below.refl w.heap.size w)
 have H:((script_Check.f k l0).bind fun t730=>(if t730=0 then (script_Invert.l0 k ([]:List (S47)) l0 (l0.length:Int) 0) else (some (([]:List (S47)),t730))))=some (r1,r2):=h
 clear h
 replace H:=Option.bind_eq_some_iff.mp H
 obtain⟨t730,A20,H⟩:=H
 replace H:(if t730=0 then (script_Invert.l0 k ([]:List (S47)) l0 (l0.length:Int) 0) else (some (([]:List (S47)),t730)))=some (r1,r2):=H
 have A2:=Aside0.mk A20
 clear A20
 by_cases c3:t730=0
 ·rw [if_pos c3] at H
  have c3b0:(t730==0)=true:=beq_iff_eq.mpr c3
  have c3b1:(t730 != 0)=false:=bne_eq_false_iff_eq.mpr c3
  clear c3
  have H':=Aside0.mk H
  clear H
  go_enter Try.func65,Try.ntmps65
  go_wp2_with(((with_reducible refine gate_callee (f:=49) rfl ?_);refine goesL_ (some 9) rfl rfl Try.func49 (by kernel_rfl) rfl #[.slice A0 l0.length c0] rfl (by(try simp only [List.map_toArray,List.map_cons,List.map_nil]);rfl) ?_;(with_reducible refine(script_Check.calls k _ _ l0 t730 _ ?side1 ?side2 A2.out).mono ?_);(case side1=>repeat(exact(Kd.V_reads' HO0.out).2.2));(case side2=>exact(Kd.V_reads' HO0.out).2.1);rintro e w4 ⟨rfl,hb⟩;refine⟨_,rfl,?_⟩;have n0_:=Aside0.mk (Kd.V_below (by exact HO0.out) hb);have n1_:=Aside0.mk (below_step (by repeat((with_reducible exact HB.out))) hb);clear HO0;clear HB;have HO0:=n0_;have HB:=n1_;clear n0_ n1_;(try clear hb)))
  go_loopg [5,15] k (fun kq v5 v15 w'=> ∃(x5_1:List (S47)) (x15_1:Int),v15= .int .i64 x15_1∧Aside0 (script_Invert.l0 kq x5_1 l0 (l0.length:Int) x15_1=some (r1,r2))∧Aside0 (kq≤k)∧Aside0 (Kd.N k47 47 w' w.heap.size (fun k_=>(P0_ k_∨w.heap.size≤k_)) v5 x5_1)∧Aside0 (Kd.V k47 47 w' w.heap.size (fun k_=>(P0_ k_∨w.heap.size≤k_)∧some k_≠(v5:Value).ownBlock) (.slice A0 l0.length c0) l0)∧Aside0 (Below w.heap.size w w'))
  case atStart=>exact⟨(([]:List (S47))),(0),(by rfl),H',⟨Nat.le_refl _⟩,⟨by exact Kd.N_nil _ _ _ _ _⟩,⟨by exact Kd.V_mono HO0.out (fun _ hk=>⟨hk,(by simp [Value.ownBlock])⟩)⟩,⟨by repeat((with_reducible exact HB.out))⟩⟩
  case round=>
   clear H'
   try clear c3b0
   try clear c3b1
   obtain⟨x5_1,x15_1,rfl,HA,HK1,HO_5,HO_13,HB⟩:=hrel
   cases gk with
   | zero=>exact absurd HA.out (by simp [script_Invert.l0])
   | succ k1=>
    have H:=HA.out
    clear HA
    simp only [script_Invert.l0] at H
    by_cases c5:x15_1<(l0.length:Int)
    ·rw [if_pos c5] at H
     have c5b0:decide (x15_1<(l0.length:Int))=true:=decide_eq_true c5
     clear c5
     by_cases c6:0≤x15_1
     ·rw [if_pos c6] at H
      have c6b0:decide (0≤x15_1)=true:=decide_eq_true c6
      clear c6
      by_cases c7:x15_1<(l0.length:Int)
      ·rw [if_pos c7] at H
       have c7b0:decide (x15_1<(l0.length:Int))=true:=decide_eq_true c7
       clear c7
       by_cases c8:((rd_T47 l0 x15_1).f0)=2
       ·rw [if_pos c8] at H
        have c8b0:(((rd_T47 l0 x15_1).f0)==2)=true:=beq_iff_eq.mpr c8
        have c8b1:(((rd_T47 l0 x15_1).f0) != 2)=false:=bne_eq_false_iff_eq.mpr c8
        clear c8
        by_cases c9:x5_1.length<4398046511104
        ·rw [if_pos c9] at H
         have LMc9:=Aside0.mk c9
         clear c9
         obtain⟨y736,hy736⟩: ∃y_:List (S47),y_=(x5_1++ [(⟨3,(rd_T47 l0 x15_1).f1⟩:S47)]):=⟨_,rfl⟩
         replace H:(script_Invert.l0 k1 y736 l0 (l0.length:Int) (wrap64 (x15_1+1)))=some (r1,r2):=by(rw [hy736];with_reducible exact H)
         have Ny736:=Aside0.mk hy736
         clear hy736
         have H':=Aside0.mk H
         clear H
         have p734:0≤(x15_1:Int):=of_decide_eq_true (by(with_reducible assumption))
         have q734:x15_1<(l0.length:Int):=of_decide_eq_true (by(with_reducible assumption))
         obtain⟨ad734,A734_1,c734_1,e734,hx734_0,hx734_1,hl734_1,hi734_1⟩:=at_T47 (Kd.V_reads' HO_13.out).2.2 x15_1 p734 q734
         cases e734
         obtain⟨ce734,hce734,hMe734,hcc734⟩:=Kd.V_get HO_13.out z47 x15_1 p734 (by exact q734)
         obtain⟨ua734_1,uc734_1,rfl,ul734_1,ge734_1⟩:=k47_openF hMe734
         have hv734_1:=hcc734 1 _ rfl
         rw [add_field _ _ 1 (by omega)] at hv734_1
         replace hv734_1:=Option.some.inj (hv734_1.symm.trans hx734_1)
         injection hv734_1 with hva_ hvn_ hvc_
         rw [hva_] at ge734_1
         rw [hvc_] at ul734_1
         have HL734_1:=Aside0.mk (show Kd.V k66 66 _ w.heap.size _ _ ((rd_T47 l0 x15_1).f1) from Kd.V_mk ul734_1 ge734_1)
         clear hva_ hvn_ hvc_ ge734_1 ul734_1
         clear hcc734 hce734
         have HR734_1:=Aside0.mk hi734_1
         have HC734_1:=Aside0.mk hl734_1
         clear hi734_1 hl734_1
         replace p734:=eq_true p734
         replace q734:=eq_true q734
         go_wp2_with(first|((with_reducible refine gate_dst (N:=7) rfl ?_);refine box_event ?hg (N:=7) ?hd (cs:= #[.int .i64 0, .slice none 0 0]) (t:=47) ?hr ?_;(case hd=>rfl);(case hg=>rfl);(case hr=>(go_simp;done));intro gb735 hg w10 hbox hb;have n0_:=Aside0.mk (Kd.N_below (Kd.N_elderB (by exact HO_5.out) gb735 (Nat.le_of_eq hg.symm)) hb);have n1_:=Aside0.mk (Kd.V_below (Kd.V_elderB (by exact HO_13.out) gb735 (Nat.le_of_eq hg.symm)) hb);have n2_:=Aside0.mk (Kd.V_below (Kd.V_elderB (by exact HL734_1.out) gb735 (Nat.le_of_eq hg.symm)) hb);have n3_:=Aside0.mk (Kd.C_below (by repeat((with_reducible exact HR734_1.out))) hb);have n4_:=Aside0.mk (below_step (by repeat((with_reducible exact HB.out))) hb);have n5_:=Aside0.mk (hbox);have n6_:=Aside0.mk ((by rw [hg];exact(below_size (by repeat((with_reducible exact HB.out)))):w.heap.size≤gb735));have n7_:=Aside0.mk ((by rw [hg];exact(below_size (by repeat((with_reducible exact HB.out)))):w.heap.size≤gb735));clear HO_5;clear HO_13;clear HL734_1;clear HR734_1;clear HB;have HO_5:=n0_;have HO_13:=n1_;have HL734_1:=n2_;have HR734_1:=n3_;have HB:=n4_;have BK735:=n5_;have GW735:=n6_;have GE735:=n7_;clear n0_ n1_ n2_ n3_ n4_ n5_ n6_ n7_;clear hb hbox hg;have hcz11_0:w10.cell? ⟨gb735,0,none⟩=some (.int .i64 0):=(blk_cell BK735.out 0).trans rfl;have hcz11_1:w10.cell? ⟨gb735,1,none⟩=some (.slice none 0 0):=(blk_cell BK735.out 1).trans rfl;have hfz11_0:=blk_frozen BK735.out 0;have hfz11_1:=blk_frozen BK735.out 1)|((with_reducible refine gate_store (t:=47) (p:=7) rfl ?_);refine store_event (t:=47) (p:=7) (v:= ?vo_w12) (w1:=((w10.setCell ⟨gb735,0,none⟩ (.int .i64 ((rd_T47 l0 x15_1).f0))).setCell ⟨gb735,1,none⟩ (.slice A734_1 ((rd_T47 l0 x15_1).f1).length c734_1))) ?hg ?ho ?hn ?hr ?_;(case ho=>rfl);(case hg=>rfl);(case hn=>rfl);(case hr=>(go_simp;done));intro w12 hw;have n0_:Aside0 (Kd.N k47 47 w12 w.heap.size (fun k_=>(P0_ k_∨w.heap.size≤k_)∧k_≠gb735) u5 x5_1):=⟨(by rw [hw];exact(by exact Kd.N_mono (Kd.N_far (p:=⟨gb735,1,none⟩) (Kd.N_far (p:=⟨gb735,0,none⟩) (Kd.N_mono HO_5.out (fun k_ hk=>(⟨hk,hk.2⟩:_∧k_≠gb735))) (fun _ hk=>hk.2) (.int .i64 ((rd_T47 l0 x15_1).f0))) (fun _ hk=>hk.2) (.slice A734_1 ((rd_T47 l0 x15_1).f1).length c734_1)) (fun _ hk=>⟨hk.1.1,hk.1.2⟩)))⟩;have n1_:Aside0 (Kd.V k47 47 w12 w.heap.size (fun k_=>(P0_ k_∨w.heap.size≤k_)∧some k_≠(u5:Value).ownBlock∧k_≠gb735) (.slice (some ad734) l0.length c0) l0):=⟨(by rw [hw];exact(by exact Kd.V_mono (Kd.V_far (p:=⟨gb735,1,none⟩) (Kd.V_far (p:=⟨gb735,0,none⟩) (Kd.V_mono HO_13.out (fun k_ hk=>(⟨hk,hk.2⟩:_∧k_≠gb735))) (fun _ hk=>hk.2) (.int .i64 ((rd_T47 l0 x15_1).f0))) (fun _ hk=>hk.2) (.slice A734_1 ((rd_T47 l0 x15_1).f1).length c734_1)) (fun _ hk=>⟨hk.1.1.1,⟨hk.1.1.2,hk.1.2⟩⟩)))⟩;have n2_:Aside0 (Kd.V k66 66 w12 w.heap.size (fun k_=>(P0_ k_∨w.heap.size≤k_)∧some k_≠(u5:Value).ownBlock∧k_≠gb735) (.slice A734_1 ((rd_T47 l0 x15_1).f1).length c734_1) ((rd_T47 l0 x15_1).f1)):=⟨(by rw [hw];exact(by exact Kd.V_mono (Kd.V_far (p:=⟨gb735,1,none⟩) (Kd.V_far (p:=⟨gb735,0,none⟩) (Kd.V_mono HL734_1.out (fun k_ hk=>(⟨hk,hk.2⟩:_∧k_≠gb735))) (fun _ hk=>hk.2) (.int .i64 ((rd_T47 l0 x15_1).f0))) (fun _ hk=>hk.2) (.slice A734_1 ((rd_T47 l0 x15_1).f1).length c734_1)) (fun _ hk=>⟨hk.1.1.1,⟨hk.1.1.2,hk.1.2⟩⟩)))⟩;have n3_:Aside0 (w12.heap[gb735]? =some (.cells #[.int .i64 ((rd_T47 l0 x15_1).f0), .slice A734_1 ((rd_T47 l0 x15_1).f1).length c734_1] 47 (0,0))):=⟨(by rw [hw];exact(by refine blk_put (cs:= #[.int .i64 ((rd_T47 l0 x15_1).f0), .slice none 0 0]) ?_ 1 _ rfl;refine blk_put (cs:= #[.int .i64 0, .slice none 0 0]) ?_ 0 _ rfl;exact BK735.out))⟩;have n4_:Aside0 (Below w.heap.size w w12):=⟨(by rw [hw];exact(by repeat((with_reducible first|exact HB.out|refine below_set ?_ GE735.out))))⟩;clear hw;clear HO_5;clear HO_13;clear HL734_1;clear BK735;clear HB;have HO_5:=n0_;have HO_13:=n1_;have HL734_1:=n2_;have BK735:=n3_;have HB:=n4_;clear n0_ n1_ n2_ n3_ n4_;have hcz13_0:w12.cell? ⟨gb735,0,none⟩=some (.int .i64 ((rd_T47 l0 x15_1).f0)):=(blk_cell BK735.out 0).trans rfl;have hcz13_1:w12.cell? ⟨gb735,1,none⟩=some (.slice A734_1 ((rd_T47 l0 x15_1).f1).length c734_1):=(blk_cell BK735.out 1).trans rfl;have hfz13_0:=blk_frozen BK735.out 0;have hfz13_1:=blk_frozen BK735.out 1)|((with_reducible refine gate_store (t:=45) (p:=23) rfl ?_);refine store_event (t:=45) (p:=23) (v:= ?vo_w14) (w1:=(w12.setCell ⟨gb735,0,none⟩ (.int .i64 3))) ?hg ?ho ?hn ?hr ?_;(case ho=>rfl);(case hg=>rfl);(case hn=>rfl);(case hr=>(go_simp;done));intro w14 hw;have n0_:Aside0 (Kd.N k47 47 w14 w.heap.size (fun k_=>(P0_ k_∨w.heap.size≤k_)∧k_≠gb735) u5 x5_1):=⟨(by rw [hw];exact(by exact Kd.N_mono (Kd.N_far (p:=⟨gb735,0,none⟩) (Kd.N_mono HO_5.out (fun k_ hk=>(⟨hk,hk.2⟩:_∧k_≠gb735))) (fun _ hk=>hk.2) (.int .i64 3)) (fun _ hk=>⟨hk.1.1,hk.1.2⟩)))⟩;have n1_:Aside0 (Kd.V k47 47 w14 w.heap.size (fun k_=>(P0_ k_∨w.heap.size≤k_)∧some k_≠(u5:Value).ownBlock∧k_≠gb735) (.slice (some ad734) l0.length c0) l0):=⟨(by rw [hw];exact(by exact Kd.V_mono (Kd.V_far (p:=⟨gb735,0,none⟩) (Kd.V_mono HO_13.out (fun k_ hk=>(⟨hk,hk.2.2⟩:_∧k_≠gb735))) (fun _ hk=>hk.2) (.int .i64 3)) (fun _ hk=>⟨hk.1.1,⟨hk.1.2.1,hk.1.2.2⟩⟩)))⟩;have n2_:Aside0 (Kd.V k66 66 w14 w.heap.size (fun k_=>(P0_ k_∨w.heap.size≤k_)∧some k_≠(u5:Value).ownBlock∧k_≠gb735) (.slice A734_1 ((rd_T47 l0 x15_1).f1).length c734_1) ((rd_T47 l0 x15_1).f1)):=⟨(by rw [hw];exact(by exact Kd.V_mono (Kd.V_far (p:=⟨gb735,0,none⟩) (Kd.V_mono HL734_1.out (fun k_ hk=>(⟨hk,hk.2.2⟩:_∧k_≠gb735))) (fun _ hk=>hk.2) (.int .i64 3)) (fun _ hk=>⟨hk.1.1,⟨hk.1.2.1,hk.1.2.2⟩⟩)))⟩;have n3_:Aside0 (w14.heap[gb735]? =some (.cells #[.int .i64 3, .slice A734_1 ((rd_T47 l0 x15_1).f1).length c734_1] 47 (0,0))):=⟨(by rw [hw];exact(by refine blk_put (cs:= #[.int .i64 ((rd_T47 l0 x15_1).f0), .slice A734_1 ((rd_T47 l0 x15_1).f1).length c734_1]) ?_ 0 _ rfl;exact BK735.out))⟩;have n4_:Aside0 (Below w.heap.size w w14):=⟨(by rw [hw];exact(by repeat((with_reducible first|exact HB.out|refine below_set ?_ GE735.out))))⟩;clear hw;clear HO_5;clear HO_13;clear HL734_1;clear BK735;clear HB;have HO_5:=n0_;have HO_13:=n1_;have HL734_1:=n2_;have BK735:=n3_;have HB:=n4_;clear n0_ n1_ n2_ n3_ n4_;have hcz15_0:w14.cell? ⟨gb735,0,none⟩=some (.int .i64 3):=(blk_cell BK735.out 0).trans rfl;have hcz15_1:w14.cell? ⟨gb735,1,none⟩=some (.slice A734_1 ((rd_T47 l0 x15_1).f1).length c734_1):=(blk_cell BK735.out 1).trans rfl;have hfz15_0:=blk_frozen BK735.out 0;have hfz15_1:=blk_frozen BK735.out 1)|((with_reducible refine gate_builtin (b:= .append) (xs:= #[.tmp 27, .tmp 29]) rfl ?_);at_builtin;refine Kd.N_append k47 (w0:=w) w.heap.size rfl (.tmp 27) (.tmp 29) 22 47 (.agg #[(.int .i64 0),(.slice none 0 0)]) 32 rfl Try.underlying22 info47 rfl (by decide) (by omega) u5 x5_1 (⟨3,(rd_T47 l0 x15_1).f1⟩:S47) [.int .i64 3, .slice A734_1 ((rd_T47 l0 x15_1).f1).length c734_1] (fun k_=>(P0_ k_∨w.heap.size≤k_)∧k_≠gb735) (fun k_=>((fun k_=>(P0_ k_∨w.heap.size≤k_)∧k_≠gb735)) k_∧some k_≠(u5:Value).ownBlock) rfl rfl ?aP (fun _ hk=>hk) ?aF ?aO ?aB ?aS ?aL ?_;(case aP=>exact(k47_mkF _ _ (⟨3,(rd_T47 l0 x15_1).f1⟩:S47) (Kd.V_reads' (Kd.V_mono (ok':=(fun k_=>((fun k_=>(P0_ k_∨w.heap.size≤k_)∧k_≠gb735)) k_∧some k_≠(u5:Value).ownBlock)) (HL734_1.out) (fun k_ hk=>⟨⟨hk.1,hk.2.2⟩,hk.2.1⟩))).2.1 (Kd.V_F (Kd.V_mono (ok':=(fun k_=>((fun k_=>(P0_ k_∨w.heap.size≤k_)∧k_≠gb735)) k_∧some k_≠(u5:Value).ownBlock)) (HL734_1.out) (fun k_ hk=>⟨⟨hk.1,hk.2.2⟩,hk.2.1⟩)))));(case aB=>exact(by repeat((with_reducible exact HB.out))));(case aF=>exact(fun k_ hk=>⟨(.inr (Nat.le_trans (below_size (by repeat((with_reducible exact HB.out)))) hk)),Kd.freshB (g:=gb735) (o:= .cells #[.int .i64 3, .slice A734_1 ((rd_T47 l0 x15_1).f1).length c734_1] 47 (0,0)) (by exact BK735.out) k_ hk⟩));(case aO=>exact(by exact HO_5.out));(case aS=>exact(below_size (by repeat((with_reducible exact HB.out)))));(case aL=>have:=LMc9.out;omega);intro v737 w16 ho hb hg hat;rw [← Ny736.out] at ho;have n0_:=Aside0.mk (Kd.V_afterv (ok:=(fun k_=>(P0_ k_∨w.heap.size≤k_)∧k_≠gb735)) (by exact Kd.V_mono HO_13.out (fun _ hk=>⟨⟨hk.1,hk.2.2⟩,hk.2.1⟩)) hg hat);have n1_:=Aside0.mk (Kd.V_afterv (ok:=(fun k_=>(P0_ k_∨w.heap.size≤k_)∧k_≠gb735)) (by exact Kd.V_mono HL734_1.out (fun _ hk=>⟨⟨hk.1,hk.2.2⟩,hk.2.1⟩)) hg hat);have n2_:=Aside0.mk (blk_grown (g:=gb735) (o:= .cells #[.int .i64 3, .slice A734_1 ((rd_T47 l0 x15_1).f1).length c734_1] 47 (0,0)) (by exact BK735.out) hg (Kd.N_away HO_5.out (fun _ hk=>hk.2)));have n3_:=Aside0.mk (hb);have n4_:=Aside0.mk (ho);clear HO_13;clear HL734_1;clear BK735;clear HB;clear HO_5;have HO_13:=n0_;have HL734_1:=n1_;have BK735:=n2_;have HB:=n3_;have HO738:=n4_;clear n0_ n1_ n2_ n3_ n4_;clear ho hb hg hat))
         go_roundg k1
         case measure=>have:=HK1.out;omega
         case rel=>exact⟨(y736),(wrap64 (x15_1+1)),(by rfl),H',⟨by have:=HK1.out;omega⟩,⟨by exact Kd.N_mono HO738.out (fun _ hk=>hk.1)⟩,⟨by exact Kd.V_mono HO_13.out (fun _ hk=>⟨hk.1.1,hk.2⟩)⟩,⟨by repeat((with_reducible exact HB.out))⟩⟩
        ·rw [if_neg c9] at H
         exact absurd H (by simp)
       ·rw [if_neg c8] at H
        have c8b0:(((rd_T47 l0 x15_1).f0)==2)=false:=beq_eq_false_iff_ne.mpr c8
        have c8b1:(((rd_T47 l0 x15_1).f0) != 2)=true:=bne_iff_ne.mpr c8
        by_cases c17:((rd_T47 l0 x15_1).f0)=3
        ·rw [if_pos c17] at H
         have c17b0:(((rd_T47 l0 x15_1).f0)==3)=true:=beq_iff_eq.mpr c17
         have c17b1:(((rd_T47 l0 x15_1).f0) != 3)=false:=bne_eq_false_iff_eq.mpr c17
         clear c17
         by_cases c18:x5_1.length<4398046511104
         ·rw [if_pos c18] at H
          have LMc18:=Aside0.mk c18
          clear c18
          obtain⟨y739,hy739⟩: ∃y_:List (S47),y_=(x5_1++ [(⟨2,(rd_T47 l0 x15_1).f1⟩:S47)]):=⟨_,rfl⟩
          replace H:(script_Invert.l0 k1 y739 l0 (l0.length:Int) (wrap64 (x15_1+1)))=some (r1,r2):=by(rw [hy739];with_reducible exact H)
          have Ny739:=Aside0.mk hy739
          clear hy739
          have H':=Aside0.mk H
          clear H
          have p734:0≤(x15_1:Int):=of_decide_eq_true (by(with_reducible assumption))
          have q734:x15_1<(l0.length:Int):=of_decide_eq_true (by(with_reducible assumption))
          obtain⟨ad734,A734_1,c734_1,e734,hx734_0,hx734_1,hl734_1,hi734_1⟩:=at_T47 (Kd.V_reads' HO_13.out).2.2 x15_1 p734 q734
          cases e734
          obtain⟨ce734,hce734,hMe734,hcc734⟩:=Kd.V_get HO_13.out z47 x15_1 p734 (by exact q734)
          obtain⟨ua734_1,uc734_1,rfl,ul734_1,ge734_1⟩:=k47_openF hMe734
          have hv734_1:=hcc734 1 _ rfl
          rw [add_field _ _ 1 (by omega)] at hv734_1
          replace hv734_1:=Option.some.inj (hv734_1.symm.trans hx734_1)
          injection hv734_1 with hva_ hvn_ hvc_
          rw [hva_] at ge734_1
          rw [hvc_] at ul734_1
          have HL734_1:=Aside0.mk (show Kd.V k66 66 _ w.heap.size _ _ ((rd_T47 l0 x15_1).f1) from Kd.V_mk ul734_1 ge734_1)
          clear hva_ hvn_ hvc_ ge734_1 ul734_1
          clear hcc734 hce734
          have HR734_1:=Aside0.mk hi734_1
          have HC734_1:=Aside0.mk hl734_1
          clear hi734_1 hl734_1
          replace p734:=eq_true p734
          replace q734:=eq_true q734
          go_wp2_with(first|((with_reducible refine gate_dst (N:=7) rfl ?_);refine box_event ?hg (N:=7) ?hd (cs:= #[.int .i64 0, .slice none 0 0]) (t:=47) ?hr ?_;(case hd=>rfl);(case hg=>rfl);(case hr=>(go_simp;done));intro gb735 hg w19 hbox hb;have n0_:=Aside0.mk (Kd.N_below (Kd.N_elderB (by exact HO_5.out) gb735 (Nat.le_of_eq hg.symm)) hb);have n1_:=Aside0.mk (Kd.V_below (Kd.V_elderB (by exact HO_13.out) gb735 (Nat.le_of_eq hg.symm)) hb);have n2_:=Aside0.mk (Kd.V_below (Kd.V_elderB (by exact HL734_1.out) gb735 (Nat.le_of_eq hg.symm)) hb);have n3_:=Aside0.mk (Kd.C_below (by repeat((with_reducible exact HR734_1.out))) hb);have n4_:=Aside0.mk (below_step (by repeat((with_reducible exact HB.out))) hb);have n5_:=Aside0.mk (hbox);have n6_:=Aside0.mk ((by rw [hg];exact(below_size (by repeat((with_reducible exact HB.out)))):w.heap.size≤gb735));have n7_:=Aside0.mk ((by rw [hg];exact(below_size (by repeat((with_reducible exact HB.out)))):w.heap.size≤gb735));clear HO_5;clear HO_13;clear HL734_1;clear HR734_1;clear HB;have HO_5:=n0_;have HO_13:=n1_;have HL734_1:=n2_;have HR734_1:=n3_;have HB:=n4_;have BK735:=n5_;have GW735:=n6_;have GE735:=n7_;clear n0_ n1_ n2_ n3_ n4_ n5_ n6_ n7_;clear hb hbox hg;have hcz20_0:w19.cell? ⟨gb735,0,none⟩=some (.int .i64 0):=(blk_cell BK735.out 0).trans rfl;have hcz20_1:w19.cell? ⟨gb735,1,none⟩=some (.slice none 0 0):=(blk_cell BK735.out 1).trans rfl;have hfz20_0:=blk_frozen BK735.out 0;have hfz20_1:=blk_frozen BK735.out 1)|((with_reducible refine gate_store (t:=47) (p:=7) rfl ?_);refine store_event (t:=47) (p:=7) (v:= ?vo_w21) (w1:=((w19.setCell ⟨gb735,0,none⟩ (.int .i64 ((rd_T47 l0 x15_1).f0))).setCell ⟨gb735,1,none⟩ (.slice A734_1 ((rd_T47 l0 x15_1).f1).length c734_1))) ?hg ?ho ?hn ?hr ?_;(case ho=>rfl);(case hg=>rfl);(case hn=>rfl);(case hr=>(go_simp;done));intro w21 hw;have n0_:Aside0 (Kd.N k47 47 w21 w.heap.size (fun k_=>(P0_ k_∨w.heap.size≤k_)∧k_≠gb735) u5 x5_1):=⟨(by rw [hw];exact(by exact Kd.N_mono (Kd.N_far (p:=⟨gb735,1,none⟩) (Kd.N_far (p:=⟨gb735,0,none⟩) (Kd.N_mono HO_5.out (fun k_ hk=>(⟨hk,hk.2⟩:_∧k_≠gb735))) (fun _ hk=>hk.2) (.int .i64 ((rd_T47 l0 x15_1).f0))) (fun _ hk=>hk.2) (.slice A734_1 ((rd_T47 l0 x15_1).f1).length c734_1)) (fun _ hk=>⟨hk.1.1,hk.1.2⟩)))⟩;have n1_:Aside0 (Kd.V k47 47 w21 w.heap.size (fun k_=>(P0_ k_∨w.heap.size≤k_)∧some k_≠(u5:Value).ownBlock∧k_≠gb735) (.slice (some ad734) l0.length c0) l0):=⟨(by rw [hw];exact(by exact Kd.V_mono (Kd.V_far (p:=⟨gb735,1,none⟩) (Kd.V_far (p:=⟨gb735,0,none⟩) (Kd.V_mono HO_13.out (fun k_ hk=>(⟨hk,hk.2⟩:_∧k_≠gb735))) (fun _ hk=>hk.2) (.int .i64 ((rd_T47 l0 x15_1).f0))) (fun _ hk=>hk.2) (.slice A734_1 ((rd_T47 l0 x15_1).f1).length c734_1)) (fun _ hk=>⟨hk.1.1.1,⟨hk.1.1.2,hk.1.2⟩⟩)))⟩;have n2_:Aside0 (Kd.V k66 66 w21 w.heap.size (fun k_=>(P0_ k_∨w.heap.size≤k_)∧some k_≠(u5:Value).ownBlock∧k_≠gb735) (.slice A734_1 ((rd_T47 l0 x15_1).f1).length c734_1) ((rd_T47 l0 x15_1).f1)):=⟨(by rw [hw];exact(by exact Kd.V_mono (Kd.V_far (p:=⟨gb735,1,none⟩) (Kd.V_far (p:=⟨gb735,0,none⟩) (Kd.V_mono HL734_1.out (fun k_ hk=>(⟨hk,hk.2⟩:_∧k_≠gb735))) (fun _ hk=>hk.2) (.int .i64 ((rd_T47 l0 x15_1).f0))) (fun _ hk=>hk.2) (.slice A734_1 ((rd_T47 l0 x15_1).f1).length c734_1)) (fun _ hk=>⟨hk.1.1.1,⟨hk.1.1.2,hk.1.2⟩⟩)))⟩;have n3_:Aside0 (w21.heap[gb735]? =some (.cells #[.int .i64 ((rd_T47 l0 x15_1).f0), .slice A734_1 ((rd_T47 l0 x15_1).f1).length c734_1] 47 (0,0))):=⟨(by rw [hw];exact(by refine blk_put (cs:= #[.int .i64 ((rd_T47 l0 x15_1).f0), .slice none 0 0]) ?_ 1 _ rfl;refine blk_put (cs:= #[.int .i64 0, .slice none 0 0]) ?_ 0 _ rfl;exact BK735.out))⟩;have n4_:Aside0 (Below w.heap.size w w21):=⟨(by rw [hw];exact(by repeat((with_reducible first|exact HB.out|refine below_set ?_ GE735.out))))⟩;clear hw;clear HO_5;clear HO_13;clear HL734_1;clear BK735;clear HB;have HO_5:=n0_;have HO_13:=n1_;have HL734_1:=n2_;have BK735:=n3_;have HB:=n4_;clear n0_ n1_ n2_ n3_ n4_;have hcz22_0:w21.cell? ⟨gb735,0,none⟩=some (.int .i64 ((rd_T47 l0 x15_1).f0)):=(blk_cell BK735.out 0).trans rfl;have hcz22_1:w21.cell? ⟨gb735,1,none⟩=some (.slice A734_1 ((rd_T47 l0 x15_1).f1).length c734_1):=(blk_cell BK735.out 1).trans rfl;have hfz22_0:=blk_frozen BK735.out 0;have hfz22_1:=blk_frozen BK735.out 1)|((with_reducible refine gate_store (t:=45) (p:=26) rfl ?_);refine store_event (t:=45) (p:=26) (v:= ?vo_w23) (w1:=(w21.setCell ⟨gb735,0,none⟩ (.int .i64 2))) ?hg ?ho ?hn ?hr ?_;(case ho=>rfl);(case hg=>rfl);(case hn=>rfl);(case hr=>(go_simp;done));intro w23 hw;have n0_:Aside0 (Kd.N k47 47 w23 w.heap.size (fun k_=>(P0_ k_∨w.heap.size≤k_)∧k_≠gb735) u5 x5_1):=⟨(by rw [hw];exact(by exact Kd.N_mono (Kd.N_far (p:=⟨gb735,0,none⟩) (Kd.N_mono HO_5.out (fun k_ hk=>(⟨hk,hk.2⟩:_∧k_≠gb735))) (fun _ hk=>hk.2) (.int .i64 2)) (fun _ hk=>⟨hk.1.1,hk.1.2⟩)))⟩;have n1_:Aside0 (Kd.V k47 47 w23 w.heap.size (fun k_=>(P0_ k_∨w.heap.size≤k_)∧some k_≠(u5:Value).ownBlock∧k_≠gb735) (.slice (some ad734) l0.length c0) l0):=⟨(by rw [hw];exact(by exact Kd.V_mono (Kd.V_far (p:=⟨gb735,0,none⟩) (Kd.V_mono HO_13.out (fun k_ hk=>(⟨hk,hk.2.2⟩:_∧k_≠gb735))) (fun _ hk=>hk.2) (.int .i64 2)) (fun _ hk=>⟨hk.1.1,⟨hk.1.2.1,hk.1.2.2⟩⟩)))⟩;have n2_:Aside0 (Kd.V k66 66 w23 w.heap.size (fun k_=>(P0_ k_∨w.heap.size≤k_)∧some k_≠(u5:Value).ownBlock∧k_≠gb735) (.slice A734_1 ((rd_T47 l0 x15_1).f1).length c734_1) ((rd_T47 l0 x15_1).f1)):=⟨(by rw [hw];exact(by exact Kd.V_mono (Kd.V_far (p:=⟨gb735,0,none⟩) (Kd.V_mono HL734_1.out (fun k_ hk=>(⟨hk,hk.2.2⟩:_∧k_≠gb735))) (fun _ hk=>hk.2) (.int .i64 2)) (fun _ hk=>⟨hk.1.1,⟨hk.1.2.1,hk.1.2.2⟩⟩)))⟩;have n3_:Aside0 (w23.heap[gb735]? =some (.cells #[.int .i64 2, .slice A734_1 ((rd_T47 l0 x15_1).f1).length c734_1] 47 (0,0))):=⟨(by rw [hw];exact(by refine blk_put (cs:= #[.int .i64 ((rd_T47 l0 x15_1).f0), .slice A734_1 ((rd_T47 l0 x15_1).f1).length c734_1]) ?_ 0 _ rfl;exact BK735.out))⟩;have n4_:Aside0 (Below w.heap.size w w23):=⟨(by rw [hw];exact(by repeat((with_reducible first|exact HB.out|refine below_set ?_ GE735.out))))⟩;clear hw;clear HO_5;clear HO_13;clear HL734_1;clear BK735;clear HB;have HO_5:=n0_;have HO_13:=n1_;have HL734_1:=n2_;have BK735:=n3_;have HB:=n4_;clear n0_ n1_ n2_ n3_ n4_;have hcz24_0:w23.cell? ⟨gb735,0,none⟩=some (.int .i64 2):=(blk_cell BK735.out 0).trans rfl;have hcz24_1:w23.cell? ⟨gb735,1,none⟩=some (.slice A734_1 ((rd_T47 l0 x15_1).f1).length c734_1):=(blk_cell BK735.out 1).trans rfl;have hfz24_0:=blk_frozen BK735.out 0;have hfz24_1:=blk_frozen BK735.out 1)|((with_reducible refine gate_builtin (b:= .append) (xs:= #[.tmp 27, .tmp 29]) rfl ?_);at_builtin;refine Kd.N_append k47 (w0:=w) w.heap.size rfl (.tmp 27) (.tmp 29) 22 47 (.agg #[(.int .i64 0),(.slice none 0 0)]) 32 rfl Try.underlying22 info47 rfl (by decide) (by omega) u5 x5_1 (⟨2,(rd_T47 l0 x15_1).f1⟩:S47) [.int .i64 2, .slice A734_1 ((rd_T47 l0 x15_1).f1).length c734_1] (fun k_=>(P0_ k_∨w.heap.size≤k_)∧k_≠gb735) (fun k_=>((fun k_=>(P0_ k_∨w.heap.size≤k_)∧k_≠gb735)) k_∧some k_≠(u5:Value).ownBlock) rfl rfl ?aP (fun _ hk=>hk) ?aF ?aO ?aB ?aS ?aL ?_;(case aP=>exact(k47_mkF _ _ (⟨2,(rd_T47 l0 x15_1).f1⟩:S47) (Kd.V_reads' (Kd.V_mono (ok':=(fun k_=>((fun k_=>(P0_ k_∨w.heap.size≤k_)∧k_≠gb735)) k_∧some k_≠(u5:Value).ownBlock)) (HL734_1.out) (fun k_ hk=>⟨⟨hk.1,hk.2.2⟩,hk.2.1⟩))).2.1 (Kd.V_F (Kd.V_mono (ok':=(fun k_=>((fun k_=>(P0_ k_∨w.heap.size≤k_)∧k_≠gb735)) k_∧some k_≠(u5:Value).ownBlock)) (HL734_1.out) (fun k_ hk=>⟨⟨hk.1,hk.2.2⟩,hk.2.1⟩)))));(case aB=>exact(by repeat((with_reducible exact HB.out))));(case aF=>exact(fun k_ hk=>⟨(.inr (Nat.le_trans (below_size (by repeat((with_reducible exact HB.out)))) hk)),Kd.freshB (g:=gb735) (o:= .cells #[.int .i64 2, .slice A734_1 ((rd_T47 l0 x15_1).f1).length c734_1] 47 (0,0)) (by exact BK735.out) k_ hk⟩));(case aO=>exact(by exact HO_5.out));(case aS=>exact(below_size (by repeat((with_reducible exact HB.out)))));(case aL=>have:=LMc18.out;omega);intro v740 w25 ho hb hg hat;rw [← Ny739.out] at ho;have n0_:=Aside0.mk (Kd.V_afterv (ok:=(fun k_=>(P0_ k_∨w.heap.size≤k_)∧k_≠gb735)) (by exact Kd.V_mono HO_13.out (fun _ hk=>⟨⟨hk.1,hk.2.2⟩,hk.2.1⟩)) hg hat);have n1_:=Aside0.mk (Kd.V_afterv (ok:=(fun k_=>(P0_ k_∨w.heap.size≤k_)∧k_≠gb735)) (by exact Kd.V_mono HL734_1.out (fun _ hk=>⟨⟨hk.1,hk.2.2⟩,hk.2.1⟩)) hg hat);have n2_:=Aside0.mk (blk_grown (g:=gb735) (o:= .cells #[.int .i64 2, .slice A734_1 ((rd_T47 l0 x15_1).f1).length c734_1] 47 (0,0)) (by exact BK735.out) hg (Kd.N_away HO_5.out (fun _ hk=>hk.2)));have n3_:=Aside0.mk (hb);have n4_:=Aside0.mk (ho);clear HO_13;clear HL734_1;clear BK735;clear HB;clear HO_5;have HO_13:=n0_;have HL734_1:=n1_;have BK735:=n2_;have HB:=n3_;have HO741:=n4_;clear n0_ n1_ n2_ n3_ n4_;clear ho hb hg hat))
          go_roundg k1
          case measure=>have:=HK1.out;omega
          case rel=>exact⟨(y739),(wrap64 (x15_1+1)),(by rfl),H',⟨by have:=HK1.out;omega⟩,⟨by exact Kd.N_mono HO741.out (fun _ hk=>hk.1)⟩,⟨by exact Kd.V_mono HO_13.out (fun _ hk=>⟨hk.1.1,hk.2⟩)⟩,⟨by repeat((with_reducible exact HB.out))⟩⟩
         ·rw [if_neg c18] at H
          exact absurd H (by simp)
        ·rw [if_neg c17] at H
         have c17b0:(((rd_T47 l0 x15_1).f0)==3)=false:=beq_eq_false_iff_ne.mpr c17
         have c17b1:(((rd_T47 l0 x15_1).f0) != 3)=true:=bne_iff_ne.mpr c17
         by_cases c26:x5_1.length<4398046511104
         ·rw [if_pos c26] at H
          have LMc26:=Aside0.mk c26
          clear c26
          obtain⟨y742,hy742⟩: ∃y_:List (S47),y_=(x5_1++ [(⟨(rd_T47 l0 x15_1).f0,(rd_T47 l0 x15_1).f1⟩:S47)]):=⟨_,rfl⟩
          replace H:(script_Invert.l0 k1 y742 l0 (l0.length:Int) (wrap64 (x15_1+1)))=some (r1,r2):=by(rw [hy742];with_reducible exact H)
          have Ny742:=Aside0.mk hy742
          clear hy742
          have H':=Aside0.mk H
          clear H
          have p734:0≤(x15_1:Int):=of_decide_eq_true (by(with_reducible assumption))
          have q734:x15_1<(l0.length:Int):=of_decide_eq_true (by(with_reducible assumption))
          obtain⟨ad734,A734_1,c734_1,e734,hx734_0,hx734_1,hl734_1,hi734_1⟩:=at_T47 (Kd.V_reads' HO_13.out).2.2 x15_1 p734 q734
          cases e734
          obtain⟨ce734,hce734,hMe734,hcc734⟩:=Kd.V_get HO_13.out z47 x15_1 p734 (by exact q734)
          obtain⟨ua734_1,uc734_1,rfl,ul734_1,ge734_1⟩:=k47_openF hMe734
          have hv734_1:=hcc734 1 _ rfl
          rw [add_field _ _ 1 (by omega)] at hv734_1
          replace hv734_1:=Option.some.inj (hv734_1.symm.trans hx734_1)
          injection hv734_1 with hva_ hvn_ hvc_
          rw [hva_] at ge734_1
          rw [hvc_] at ul734_1
          have HL734_1:=Aside0.mk (show Kd.V k66 66 _ w.heap.size _ _ ((rd_T47 l0 x15_1).f1) from Kd.V_mk ul734_1 ge734_1)
          clear hva_ hvn_ hvc_ ge734_1 ul734_1
          clear hcc734 hce734
          have HR734_1:=Aside0.mk hi734_1
          have HC734_1:=Aside0.mk hl734_1
          clear hi734_1 hl734_1
          replace p734:=eq_true p734
          replace q734:=eq_true q734
          go_wp2_with(first|((with_reducible refine gate_dst (N:=7) rfl ?_);refine box_event ?hg (N:=7) ?hd (cs:= #[.int .i64 0, .slice none 0 0]) (t:=47) ?hr ?_;(case hd=>rfl);(case hg=>rfl);(case hr=>(go_simp;done));intro gb735 hg w27 hbox hb;have n0_:=Aside0.mk (Kd.N_below (Kd.N_elderB (by exact HO_5.out) gb735 (Nat.le_of_eq hg.symm)) hb);have n1_:=Aside0.mk (Kd.V_below (Kd.V_elderB (by exact HO_13.out) gb735 (Nat.le_of_eq hg.symm)) hb);have n2_:=Aside0.mk (Kd.V_below (Kd.V_elderB (by exact HL734_1.out) gb735 (Nat.le_of_eq hg.symm)) hb);have n3_:=Aside0.mk (Kd.C_below (by repeat((with_reducible exact HR734_1.out))) hb);have n4_:=Aside0.mk (below_step (by repeat((with_reducible exact HB.out))) hb);have n5_:=Aside0.mk (hbox);have n6_:=Aside0.mk ((by rw [hg];exact(below_size (by repeat((with_reducible exact HB.out)))):w.heap.size≤gb735));have n7_:=Aside0.mk ((by rw [hg];exact(below_size (by repeat((with_reducible exact HB.out)))):w.heap.size≤gb735));clear HO_5;clear HO_13;clear HL734_1;clear HR734_1;clear HB;have HO_5:=n0_;have HO_13:=n1_;have HL734_1:=n2_;have HR734_1:=n3_;have HB:=n4_;have BK735:=n5_;have GW735:=n6_;have GE735:=n7_;clear n0_ n1_ n2_ n3_ n4_ n5_ n6_ n7_;clear hb hbox hg;have hcz28_0:w27.cell? ⟨gb735,0,none⟩=some (.int .i64 0):=(blk_cell BK735.out 0).trans rfl;have hcz28_1:w27.cell? ⟨gb735,1,none⟩=some (.slice none 0 0):=(blk_cell BK735.out 1).trans rfl;have hfz28_0:=blk_frozen BK735.out 0;have hfz28_1:=blk_frozen BK735.out 1)|((with_reducible refine gate_store (t:=47) (p:=7) rfl ?_);refine store_event (t:=47) (p:=7) (v:= ?vo_w29) (w1:=((w27.setCell ⟨gb735,0,none⟩ (.int .i64 ((rd_T47 l0 x15_1).f0))).setCell ⟨gb735,1,none⟩ (.slice A734_1 ((rd_T47 l0 x15_1).f1).length c734_1))) ?hg ?ho ?hn ?hr ?_;(case ho=>rfl);(case hg=>rfl);(case hn=>rfl);(case hr=>(go_simp;done));intro w29 hw;have n0_:Aside0 (Kd.N k47 47 w29 w.heap.size (fun k_=>(P0_ k_∨w.heap.size≤k_)∧k_≠gb735) u5 x5_1):=⟨(by rw [hw];exact(by exact Kd.N_mono (Kd.N_far (p:=⟨gb735,1,none⟩) (Kd.N_far (p:=⟨gb735,0,none⟩) (Kd.N_mono HO_5.out (fun k_ hk=>(⟨hk,hk.2⟩:_∧k_≠gb735))) (fun _ hk=>hk.2) (.int .i64 ((rd_T47 l0 x15_1).f0))) (fun _ hk=>hk.2) (.slice A734_1 ((rd_T47 l0 x15_1).f1).length c734_1)) (fun _ hk=>⟨hk.1.1,hk.1.2⟩)))⟩;have n1_:Aside0 (Kd.V k47 47 w29 w.heap.size (fun k_=>(P0_ k_∨w.heap.size≤k_)∧some k_≠(u5:Value).ownBlock∧k_≠gb735) (.slice (some ad734) l0.length c0) l0):=⟨(by rw [hw];exact(by exact Kd.V_mono (Kd.V_far (p:=⟨gb735,1,none⟩) (Kd.V_far (p:=⟨gb735,0,none⟩) (Kd.V_mono HO_13.out (fun k_ hk=>(⟨hk,hk.2⟩:_∧k_≠gb735))) (fun _ hk=>hk.2) (.int .i64 ((rd_T47 l0 x15_1).f0))) (fun _ hk=>hk.2) (.slice A734_1 ((rd_T47 l0 x15_1).f1).length c734_1)) (fun _ hk=>⟨hk.1.1.1,⟨hk.1.1.2,hk.1.2⟩⟩)))⟩;have n2_:Aside0 (Kd.V k66 66 w29 w.heap.size (fun k_=>(P0_ k_∨w.heap.size≤k_)∧some k_≠(u5:Value).ownBlock∧k_≠gb735) (.slice A734_1 ((rd_T47 l0 x15_1).f1).length c734_1) ((rd_T47 l0 x15_1).f1)):=⟨(by rw [hw];exact(by exact Kd.V_mono (Kd.V_far (p:=⟨gb735,1,none⟩) (Kd.V_far (p:=⟨gb735,0,none⟩) (Kd.V_mono HL734_1.out (fun k_ hk=>(⟨hk,hk.2⟩:_∧k_≠gb735))) (fun _ hk=>hk.2) (.int .i64 ((rd_T47 l0 x15_1).f0))) (fun _ hk=>hk.2) (.slice A734_1 ((rd_T47 l0 x15_1).f1).length c734_1)) (fun _ hk=>⟨hk.1.1.1,⟨hk.1.1.2,hk.1.2⟩⟩)))⟩;have n3_:Aside0 (w29.heap[gb735]? =some (.cells #[.int .i64 ((rd_T47 l0 x15_1).f0), .slice A734_1 ((rd_T47 l0 x15_1).f1).length c734_1] 47 (0,0))):=⟨(by rw [hw];exact(by refine blk_put (cs:= #[.int .i64 ((rd_T47 l0 x15_1).f0), .slice none 0 0]) ?_ 1 _ rfl;refine blk_put (cs:= #[.int .i64 0, .slice none 0 0]) ?_ 0 _ rfl;exact BK735.out))⟩;have n4_:Aside0 (Below w.heap.size w w29):=⟨(by rw [hw];exact(by repeat((with_reducible first|exact HB.out|refine below_set ?_ GE735.out))))⟩;clear hw;clear HO_5;clear HO_13;clear HL734_1;clear BK735;clear HB;have HO_5:=n0_;have HO_13:=n1_;have HL734_1:=n2_;have BK735:=n3_;have HB:=n4_;clear n0_ n1_ n2_ n3_ n4_;have hcz30_0:w29.cell? ⟨gb735,0,none⟩=some (.int .i64 ((rd_T47 l0 x15_1).f0)):=(blk_cell BK735.out 0).trans rfl;have hcz30_1:w29.cell? ⟨gb735,1,none⟩=some (.slice A734_1 ((rd_T47 l0 x15_1).f1).length c734_1):=(blk_cell BK735.out 1).trans rfl;have hfz30_0:=blk_frozen BK735.out 0;have hfz30_1:=blk_frozen BK735.out 1)|((with_reducible refine gate_builtin (b:= .append) (xs:= #[.tmp 27, .tmp 29]) rfl ?_);at_builtin;refine Kd.N_append k47 (w0:=w) w.heap.size rfl (.tmp 27) (.tmp 29) 22 47 (.agg #[(.int .i64 0),(.slice none 0 0)]) 32 rfl Try.underlying22 info47 rfl (by decide) (by omega) u5 x5_1 (⟨(rd_T47 l0 x15_1).f0,(rd_T47 l0 x15_1).f1⟩:S47) [.int .i64 ((rd_T47 l0 x15_1).f0), .slice A734_1 ((rd_T47 l0 x15_1).f1).length c734_1] (fun k_=>(P0_ k_∨w.heap.size≤k_)∧k_≠gb735) (fun k_=>((fun k_=>(P0_ k_∨w.heap.size≤k_)∧k_≠gb735)) k_∧some k_≠(u5:Value).ownBlock) rfl rfl ?aP (fun _ hk=>hk) ?aF ?aO ?aB ?aS ?aL ?_;(case aP=>exact(k47_mkF _ _ (⟨(rd_T47 l0 x15_1).f0,(rd_T47 l0 x15_1).f1⟩:S47) (Kd.V_reads' (Kd.V_mono (ok':=(fun k_=>((fun k_=>(P0_ k_∨w.heap.size≤k_)∧k_≠gb735)) k_∧some k_≠(u5:Value).ownBlock)) (HL734_1.out) (fun k_ hk=>⟨⟨hk.1,hk.2.2⟩,hk.2.1⟩))).2.1 (Kd.V_F (Kd.V_mono (ok':=(fun k_=>((fun k_=>(P0_ k_∨w.heap.size≤k_)∧k_≠gb735)) k_∧some k_≠(u5:Value).ownBlock)) (HL734_1.out) (fun k_ hk=>⟨⟨hk.1,hk.2.2⟩,hk.2.1⟩)))));(case aB=>exact(by repeat((with_reducible exact HB.out))));(case aF=>exact(fun k_ hk=>⟨(.inr (Nat.le_trans (below_size (by repeat((with_reducible exact HB.out)))) hk)),Kd.freshB (g:=gb735) (o:= .cells #[.int .i64 ((rd_T47 l0 x15_1).f0), .slice A734_1 ((rd_T47 l0 x15_1).f1).length c734_1] 47 (0,0)) (by exact BK735.out) k_ hk⟩));(case aO=>exact(by exact HO_5.out));(case aS=>exact(below_size (by repeat((with_reducible exact HB.out)))));(case aL=>have:=LMc26.out;omega);intro v743 w31 ho hb hg hat;rw [← Ny742.out] at ho;have n0_:=Aside0.mk (Kd.V_afterv (ok:=(fun k_=>(P0_ k_∨w.heap.size≤k_)∧k_≠gb735)) (by exact Kd.V_mono HO_13.out (fun _ hk=>⟨⟨hk.1,hk.2.2⟩,hk.2.1⟩)) hg hat);have n1_:=Aside0.mk (Kd.V_afterv (ok:=(fun k_=>(P0_ k_∨w.heap.size≤k_)∧k_≠gb735)) (by exact Kd.V_mono HL734_1.out (fun _ hk=>⟨⟨hk.1,hk.2.2⟩,hk.2.1⟩)) hg hat);have n2_:=Aside0.mk (blk_grown (g:=gb735) (o:= .cells #[.int .i64 ((rd_T47 l0 x15_1).f0), .slice A734_1 ((rd_T47 l0 x15_1).f1).length c734_1] 47 (0,0)) (by exact BK735.out) hg (Kd.N_away HO_5.out (fun _ hk=>hk.2)));have n3_:=Aside0.mk (hb);have n4_:=Aside0.mk (ho);clear HO_13;clear HL734_1;clear BK735;clear HB;clear HO_5;have HO_13:=n0_;have HL734_1:=n1_;have BK735:=n2_;have HB:=n3_;have HO744:=n4_;clear n0_ n1_ n2_ n3_ n4_;clear ho hb hg hat))
          go_roundg k1
          case measure=>have:=HK1.out;omega
          case rel=>exact⟨(y742),(wrap64 (x15_1+1)),(by rfl),H',⟨by have:=HK1.out;omega⟩,⟨by exact Kd.N_mono HO744.out (fun _ hk=>hk.1)⟩,⟨by exact Kd.V_mono HO_13.out (fun _ hk=>⟨hk.1.1,hk.2⟩)⟩,⟨by repeat((with_reducible exact HB.out))⟩⟩
         ·rw [if_neg c26] at H
          exact absurd H (by simp)
      ·rw [if_neg c7] at H
       exact absurd H (by simp)
     ·rw [if_neg c6] at H
      exact absurd H (by simp)
    ·rw [if_neg c5] at H
     have c5b0:decide (x15_1<(l0.length:Int))=false:=decide_eq_false c5
     clear c5
     replace H:=Option.bind_eq_some_iff.mp H
     obtain⟨t731,A320,H⟩:=H
     replace H:(some (t731,0))=some (r1,r2):=H
     have A32:=Aside0.mk A320
     clear A320
     simp only [Option.some.injEq,Prod.mk.injEq] at H
     obtain⟨rfl,rfl⟩:=H
     obtain⟨Ao33,co33,eo33⟩:=Kd.N_slice HO_5.out
     subst eo33
     go_wp2_with(((with_reducible refine gate_callee (f:=67) rfl ?_);refine goesL_ (some 33) rfl rfl Try.func67 (by kernel_rfl) rfl #[.slice Ao33 x5_1.length co33] rfl (by(try simp only [List.map_toArray,List.map_cons,List.map_nil]);rfl) ?_;(with_reducible refine(script_normal.calls _ _ x5_1 t731 _ ?side1 ?side2 A32.out).mono ?_);(case side1=>repeat(exact(Kd.N_reads' HO_5.out).2.2));(case side2=>exact(Kd.N_reads' HO_5.out).2.1);rintro e w34 ⟨v732,rfl,ho0,hb⟩;refine⟨_,rfl,?_⟩;have n0_:=Aside0.mk (Kd.N_elder' (by exact HO_5.out) (by exact Kd.S_base ho0) hb);have n1_:=Aside0.mk (Kd.V_elder' (by exact HO_13.out) (by exact Kd.S_base ho0) hb);have n2_:=Aside0.mk (Kd.N_lower (Kd.N_mono (ok':=fun k_=>(P0_ k_∨w.heap.size≤k_)∧some k_≠(.slice Ao33 x5_1.length co33:Value).ownBlock) (Kd.S_N (Kd.S_bound ho0)) (fun k_ hk_=>⟨(.inr (Nat.le_trans (below_size (by repeat((with_reducible exact HB.out)))) hk_.2.1)),(Kd.fresh' (Kd.N_lt (by exact HO_5.out)) k_ hk_.2.1)⟩)) (below_size (by repeat((with_reducible exact HB.out)))));have n3_:=Aside0.mk (below_step (by repeat((with_reducible exact HB.out))) hb);clear HO_5;clear HO_13;clear HB;have HO_5:=n0_;have HO_13:=n1_;have HO733:=n2_;have HB:=n3_;clear n0_ n1_ n2_ n3_;(try clear hb);(try clear ho0)))
     go_ret2
     exact⟨_,by rfl,by exact Kd.N_mono HO733.out (fun _ hk=>hk.1),by repeat((with_reducible exact HB.out))⟩
 ·rw [if_neg c3] at H
  have c3b0:(t730==0)=false:=beq_eq_false_iff_ne.mpr c3
  have c3b1:(t730 != 0)=true:=bne_iff_ne.mpr c3
  simp only [Option.some.injEq,Prod.mk.injEq] at H
  obtain⟨rfl,rfl⟩:=H
  go_enter Try.func65,Try.ntmps65
  go_wp2_with(((with_reducible refine gate_callee (f:=49) rfl ?_);refine goesL_ (some 9) rfl rfl Try.func49 (by kernel_rfl) rfl #[.slice A0 l0.length c0] rfl (by(try simp only [List.map_toArray,List.map_cons,List.map_nil]);rfl) ?_;(with_reducible refine(script_Check.calls k _ _ l0 t730 _ ?side1 ?side2 A2.out).mono ?_);(case side1=>repeat(exact(Kd.V_reads' HO0.out).2.2));(case side2=>exact(Kd.V_reads' HO0.out).2.1);rintro e w35 ⟨rfl,hb⟩;refine⟨_,rfl,?_⟩;have n0_:=Aside0.mk (Kd.V_below (by exact HO0.out) hb);have n1_:=Aside0.mk (below_step (by repeat((with_reducible exact HB.out))) hb);clear HO0;clear HB;have HO0:=n0_;have HB:=n1_;clear n0_ n1_;(try clear hb)))
  go_ret2
  exact⟨_,by rfl,by exact Kd.N_nil _ _ _ _ _,by repeat((with_reducible exact HB.out))⟩
end Go.Proofs.Ytfnbodjmmkjlcaa.H
end
section
namespace Go.Proofs.Ytfnbodjmmkjlcaa.H
open Go.RowKit Go.Proofs.YtfnbodjmmkjlcaaW.PrintWords Go.Proofs.YtfnbodjmmkjlcaaW.PrintLast Go.Proofs.YtfnbodjmmkjlcaaW.PrintMore
attribute [local go_sem] max2_int min2_int max_two min_two max_three min_three max_four min_four
set_option linter.unusedVariables false
set_option linter.unusedSimpArgs false
def patch_Reverse.l0:Nat→List (S44)→List (S44)→Int→Int→Option ((List (S44))×Int)
 | 0,_,_,_,_=>none
 | k+1,x5,x15,x16,x17=>if x17<x16 then (if 0≤x17 then (if x17<(x15.length:Int) then ((script_Invert.f k ((rd_T44 x15 x17).f4)).bind fun bt748=>(if x5.length<2513169434916 then (patch_Reverse.l0 k (x5++ [(⟨(rd_T44 x15 x17).f2,(rd_T44 x15 x17).f3,(rd_T44 x15 x17).f0,(rd_T44 x15 x17).f1,bt748.1⟩:S44)]) x15 x16 (wrap64 (x17+1))) else (none))) else (none)) else (none)) else (some (x5,0))
def patch_Reverse.f (k:Nat) (l0:List (S44)):Option ((List (S44))×Int):=(hunk_Check.f k l0).bind fun t745=>(if t745=0 then (patch_Reverse.l0 k ([]:List (S44)) l0 (l0.length:Int) 0) else (some (([]:List (S44)),t745)))
set_option maxHeartbeats 8000000 in
set_option maxRecDepth 100000 in
theorem patch_Reverse.calls (k:Nat) (P0_:Nat→Prop) (A0:Option Addr) (c0:Nat) (l0:List (S44)) (r1:List (S44)) (r2:Int) (w:World) (hs0:Kd.V k44 44 w w.heap.size (fun k_=>P0_ k_) (.slice A0 l0.length c0) l0) (h:patch_Reverse.f k l0=some (r1,r2)):
  Calls Try.prog 38 #[.slice A0 l0.length c0] w fun e w'=> ∃v0_:Value,e= .returned (.tuple #[v0_, .int .i64 r2])∧Kd.N k44 44 w' w.heap.size (fun k_=>(P0_ k_∨w.heap.size≤k_)) v0_ r1∧Below w.heap.size w w':=by
 have hu44:=Try.underlying44
 have HO0:=Aside0.mk (show Kd.V k44 44 w w.heap.size (fun k_=>(P0_ k_∨w.heap.size≤k_)) (.slice A0 l0.length c0) l0 from Kd.V_mono hs0 (fun k_ hk=> .inl hk))
 have HB:=Aside0.mk (Below.refl w.heap.size w)
 have H:((hunk_Check.f k l0).bind fun t745=>(if t745=0 then (patch_Reverse.l0 k ([]:List (S44)) l0 (l0.length:Int) 0) else (some (([]:List (S44)),t745))))=some (r1,r2):=h
 clear h
 replace H:=Option.bind_eq_some_iff.mp H
 obtain⟨t745,A20,H⟩:=H
 replace H:(if t745=0 then (patch_Reverse.l0 k ([]:List (S44)) l0 (l0.length:Int) 0) else (some (([]:List (S44)),t745)))=some (r1,r2):=H
 have A2:=Aside0.mk A20
 clear A20
 by_cases c3:t745=0
 ·rw [if_pos c3] at H
  have c3b0:(t745==0)=true:=beq_iff_eq.mpr c3
  have c3b1:(t745 != 0)=false:=bne_eq_false_iff_eq.mpr c3
  clear c3
  have H':=Aside0.mk H
  clear H
  go_enter Try.func38,Try.ntmps38
  go_wp2_with(((with_reducible refine gate_callee (f:=18) rfl ?_);refine goesL_ (some 11) rfl rfl Try.func18 (by kernel_rfl) rfl #[.slice A0 l0.length c0] rfl (by(try simp only [List.map_toArray,List.map_cons,List.map_nil]);rfl) ?_;(with_reducible refine(hunk_Check.calls k _ _ l0 t745 _ ?side1 ?side2 A2.out).mono ?_);(case side1=>repeat(exact(Kd.V_reads' HO0.out).2.2));(case side2=>exact(Kd.V_reads' HO0.out).2.1);rintro e w4 ⟨rfl,hb⟩;refine⟨_,rfl,?_⟩;have n0_:=Aside0.mk (Kd.V_below (by exact HO0.out) hb);have n1_:=Aside0.mk (below_step (by repeat((with_reducible exact HB.out))) hb);clear HO0;clear HB;have HO0:=n0_;have HB:=n1_;clear n0_ n1_;(try clear hb)))
  go_loopg [5,17] k (fun kq v5 v17 w'=> ∃(x5_1:List (S44)) (x17_1:Int),v17= .int .i64 x17_1∧Aside0 (patch_Reverse.l0 kq x5_1 l0 (l0.length:Int) x17_1=some (r1,r2))∧Aside0 (kq≤k)∧Aside0 (Kd.N k44 44 w' w.heap.size (fun k_=>(P0_ k_∨w.heap.size≤k_)) v5 x5_1)∧Aside0 (Kd.V k44 44 w' w.heap.size (fun k_=>(P0_ k_∨w.heap.size≤k_)∧some k_≠(v5:Value).ownBlock) (.slice A0 l0.length c0) l0)∧Aside0 (Below w.heap.size w w'))
  case atStart=>exact⟨(([]:List (S44))),(0),(by rfl),H',⟨Nat.le_refl _⟩,⟨by exact Kd.N_nil _ _ _ _ _⟩,⟨by exact Kd.V_mono HO0.out (fun _ hk=>⟨hk,(by simp [Value.ownBlock])⟩)⟩,⟨by repeat((with_reducible exact HB.out))⟩⟩
  case round=>
   clear H'
   try clear c3b0
   try clear c3b1
   obtain⟨x5_1,x17_1,rfl,HA,HK1,HO_5,HO_15,HB⟩:=hrel
   cases gk with
   | zero=>exact absurd HA.out (by simp [patch_Reverse.l0])
   | succ k1=>
    have H:=HA.out
    clear HA
    simp only [patch_Reverse.l0] at H
    by_cases c5:x17_1<(l0.length:Int)
    ·rw [if_pos c5] at H
     have c5b0:decide (x17_1<(l0.length:Int))=true:=decide_eq_true c5
     clear c5
     by_cases c6:0≤x17_1
     ·rw [if_pos c6] at H
      have c6b0:decide (0≤x17_1)=true:=decide_eq_true c6
      clear c6
      by_cases c7:x17_1<(l0.length:Int)
      ·rw [if_pos c7] at H
       have c7b0:decide (x17_1<(l0.length:Int))=true:=decide_eq_true c7
       clear c7
       replace H:=Option.bind_eq_some_iff.mp H
       obtain⟨⟨t748,t751⟩,A80,H⟩:=H
       replace H:(if x5_1.length<2513169434916 then (patch_Reverse.l0 k1 (x5_1++ [(⟨(rd_T44 l0 x17_1).f2,(rd_T44 l0 x17_1).f3,(rd_T44 l0 x17_1).f0,(rd_T44 l0 x17_1).f1,t748⟩:S44)]) l0 (l0.length:Int) (wrap64 (x17_1+1))) else (none))=some (r1,r2):=H
       have A8:=Aside0.mk A80
       clear A80
       by_cases c9:x5_1.length<2513169434916
       ·rw [if_pos c9] at H
        have LMc9:=Aside0.mk c9
        clear c9
        obtain⟨y752,hy752⟩: ∃y_:List (S44),y_=(x5_1++ [(⟨(rd_T44 l0 x17_1).f2,(rd_T44 l0 x17_1).f3,(rd_T44 l0 x17_1).f0,(rd_T44 l0 x17_1).f1,t748⟩:S44)]):=⟨_,rfl⟩
        replace H:(patch_Reverse.l0 k1 y752 l0 (l0.length:Int) (wrap64 (x17_1+1)))=some (r1,r2):=by(rw [hy752];with_reducible exact H)
        have Ny752:=Aside0.mk hy752
        clear hy752
        have H':=Aside0.mk H
        clear H
        have p746:0≤(x17_1:Int):=of_decide_eq_true (by(with_reducible assumption))
        have q746:x17_1<(l0.length:Int):=of_decide_eq_true (by(with_reducible assumption))
        obtain⟨ad746,A746_4,c746_4,e746,hx746_0,hx746_1,hx746_2,hx746_3,hx746_4,hl746_4,hi746_4⟩:=at_T44 (Kd.V_reads' HO_15.out).2.2 x17_1 p746 q746
        cases e746
        obtain⟨ce746,hce746,hMe746,hcc746⟩:=Kd.V_get HO_15.out z44 x17_1 p746 (by exact q746)
        obtain⟨ua746_4,uc746_4,rfl,ul746_4,ge746_4⟩:=k44_openF hMe746
        have hv746_4:=hcc746 4 _ rfl
        rw [add_field _ _ 4 (by omega)] at hv746_4
        replace hv746_4:=Option.some.inj (hv746_4.symm.trans hx746_4)
        injection hv746_4 with hva_ hvn_ hvc_
        rw [hva_] at ge746_4
        rw [hvc_] at ul746_4
        have HL746_4:=Aside0.mk (show Kd.V k47 47 _ w.heap.size _ _ ((rd_T44 l0 x17_1).f4) from Kd.V_mk ul746_4 ge746_4)
        clear hva_ hvn_ hvc_ ge746_4 ul746_4
        clear hcc746 hce746
        have HR746_4:=Aside0.mk hi746_4
        have HC746_4:=Aside0.mk hl746_4
        clear hi746_4 hl746_4
        replace p746:=eq_true p746
        replace q746:=eq_true q746
        go_wp2_with(first|((with_reducible refine gate_dst (N:=7) rfl ?_);refine box_event ?hg (N:=7) ?hd (cs:= #[.int .i64 0, .int .i64 0, .int .i64 0, .int .i64 0, .slice none 0 0]) (t:=44) ?hr ?_;(case hd=>rfl);(case hg=>rfl);(case hr=>(go_simp;done));intro gb747 hg w10 hbox hb;have n0_:=Aside0.mk (Kd.N_below (Kd.N_elderB (by exact HO_5.out) gb747 (Nat.le_of_eq hg.symm)) hb);have n1_:=Aside0.mk (Kd.V_below (Kd.V_elderB (by exact HO_15.out) gb747 (Nat.le_of_eq hg.symm)) hb);have n2_:=Aside0.mk (Kd.V_below (Kd.V_elderB (by exact HL746_4.out) gb747 (Nat.le_of_eq hg.symm)) hb);have n3_:=Aside0.mk (Kd.C_below (Kd.V_reads' HL746_4.out).2.2 hb);have n4_:=Aside0.mk (below_step (by repeat((with_reducible exact HB.out))) hb);have n5_:=Aside0.mk (hbox);have n6_:=Aside0.mk ((by rw [hg];exact(below_size (by repeat((with_reducible exact HB.out)))):w.heap.size≤gb747));have n7_:=Aside0.mk ((by rw [hg];exact(below_size (by repeat((with_reducible exact HB.out)))):w.heap.size≤gb747));clear HO_5;clear HO_15;clear HL746_4;clear HR746_4;clear HB;have HO_5:=n0_;have HO_15:=n1_;have HL746_4:=n2_;have HR746_4:=n3_;have HB:=n4_;have BK747:=n5_;have GW747:=n6_;have GE747:=n7_;clear n0_ n1_ n2_ n3_ n4_ n5_ n6_ n7_;clear hb hbox hg;have hcz11_0:w10.cell? ⟨gb747,0,none⟩=some (.int .i64 0):=(blk_cell BK747.out 0).trans rfl;have hcz11_1:w10.cell? ⟨gb747,1,none⟩=some (.int .i64 0):=(blk_cell BK747.out 1).trans rfl;have hcz11_2:w10.cell? ⟨gb747,2,none⟩=some (.int .i64 0):=(blk_cell BK747.out 2).trans rfl;have hcz11_3:w10.cell? ⟨gb747,3,none⟩=some (.int .i64 0):=(blk_cell BK747.out 3).trans rfl;have hcz11_4:w10.cell? ⟨gb747,4,none⟩=some (.slice none 0 0):=(blk_cell BK747.out 4).trans rfl;have hfz11_0:=blk_frozen BK747.out 0;have hfz11_1:=blk_frozen BK747.out 1;have hfz11_2:=blk_frozen BK747.out 2;have hfz11_3:=blk_frozen BK747.out 3;have hfz11_4:=blk_frozen BK747.out 4)|((with_reducible refine gate_store (t:=44) (p:=7) rfl ?_);refine store_event (t:=44) (p:=7) (v:= ?vo_w12) (w1:=(((((w10.setCell ⟨gb747,0,none⟩ (.int .i64 ((rd_T44 l0 x17_1).f0))).setCell ⟨gb747,1,none⟩ (.int .i64 ((rd_T44 l0 x17_1).f1))).setCell ⟨gb747,2,none⟩ (.int .i64 ((rd_T44 l0 x17_1).f2))).setCell ⟨gb747,3,none⟩ (.int .i64 ((rd_T44 l0 x17_1).f3))).setCell ⟨gb747,4,none⟩ (.slice A746_4 ((rd_T44 l0 x17_1).f4).length c746_4))) ?hg ?ho ?hn ?hr ?_;(case ho=>rfl);(case hg=>rfl);(case hn=>rfl);(case hr=>(go_simp;done));intro w12 hw;have n0_:Aside0 (Kd.N k44 44 w12 w.heap.size (fun k_=>(P0_ k_∨w.heap.size≤k_)∧k_≠gb747) u5 x5_1):=⟨(by rw [hw];exact(by exact Kd.N_mono (Kd.N_far (p:=⟨gb747,4,none⟩) (Kd.N_far (p:=⟨gb747,3,none⟩) (Kd.N_far (p:=⟨gb747,2,none⟩) (Kd.N_far (p:=⟨gb747,1,none⟩) (Kd.N_far (p:=⟨gb747,0,none⟩) (Kd.N_mono HO_5.out (fun k_ hk=>(⟨hk,hk.2⟩:_∧k_≠gb747))) (fun _ hk=>hk.2) (.int .i64 ((rd_T44 l0 x17_1).f0))) (fun _ hk=>hk.2) (.int .i64 ((rd_T44 l0 x17_1).f1))) (fun _ hk=>hk.2) (.int .i64 ((rd_T44 l0 x17_1).f2))) (fun _ hk=>hk.2) (.int .i64 ((rd_T44 l0 x17_1).f3))) (fun _ hk=>hk.2) (.slice A746_4 ((rd_T44 l0 x17_1).f4).length c746_4)) (fun _ hk=>⟨hk.1.1,hk.1.2⟩)))⟩;have n1_:Aside0 (Kd.V k44 44 w12 w.heap.size (fun k_=>(P0_ k_∨w.heap.size≤k_)∧some k_≠(u5:Value).ownBlock∧k_≠gb747) (.slice (some ad746) l0.length c0) l0):=⟨(by rw [hw];exact(by exact Kd.V_mono (Kd.V_far (p:=⟨gb747,4,none⟩) (Kd.V_far (p:=⟨gb747,3,none⟩) (Kd.V_far (p:=⟨gb747,2,none⟩) (Kd.V_far (p:=⟨gb747,1,none⟩) (Kd.V_far (p:=⟨gb747,0,none⟩) (Kd.V_mono HO_15.out (fun k_ hk=>(⟨hk,hk.2⟩:_∧k_≠gb747))) (fun _ hk=>hk.2) (.int .i64 ((rd_T44 l0 x17_1).f0))) (fun _ hk=>hk.2) (.int .i64 ((rd_T44 l0 x17_1).f1))) (fun _ hk=>hk.2) (.int .i64 ((rd_T44 l0 x17_1).f2))) (fun _ hk=>hk.2) (.int .i64 ((rd_T44 l0 x17_1).f3))) (fun _ hk=>hk.2) (.slice A746_4 ((rd_T44 l0 x17_1).f4).length c746_4)) (fun _ hk=>⟨hk.1.1.1,⟨hk.1.1.2,hk.1.2⟩⟩)))⟩;have n2_:Aside0 (Kd.V k47 47 w12 w.heap.size (fun k_=>(P0_ k_∨w.heap.size≤k_)∧some k_≠(u5:Value).ownBlock∧k_≠gb747) (.slice A746_4 ((rd_T44 l0 x17_1).f4).length c746_4) ((rd_T44 l0 x17_1).f4)):=⟨(by rw [hw];exact(by exact Kd.V_mono (Kd.V_far (p:=⟨gb747,4,none⟩) (Kd.V_far (p:=⟨gb747,3,none⟩) (Kd.V_far (p:=⟨gb747,2,none⟩) (Kd.V_far (p:=⟨gb747,1,none⟩) (Kd.V_far (p:=⟨gb747,0,none⟩) (Kd.V_mono HL746_4.out (fun k_ hk=>(⟨hk,hk.2⟩:_∧k_≠gb747))) (fun _ hk=>hk.2) (.int .i64 ((rd_T44 l0 x17_1).f0))) (fun _ hk=>hk.2) (.int .i64 ((rd_T44 l0 x17_1).f1))) (fun _ hk=>hk.2) (.int .i64 ((rd_T44 l0 x17_1).f2))) (fun _ hk=>hk.2) (.int .i64 ((rd_T44 l0 x17_1).f3))) (fun _ hk=>hk.2) (.slice A746_4 ((rd_T44 l0 x17_1).f4).length c746_4)) (fun _ hk=>⟨hk.1.1.1,⟨hk.1.1.2,hk.1.2⟩⟩)))⟩;have n3_:Aside0 (w12.heap[gb747]? =some (.cells #[.int .i64 ((rd_T44 l0 x17_1).f0), .int .i64 ((rd_T44 l0 x17_1).f1), .int .i64 ((rd_T44 l0 x17_1).f2), .int .i64 ((rd_T44 l0 x17_1).f3), .slice A746_4 ((rd_T44 l0 x17_1).f4).length c746_4] 44 (0,0))):=⟨(by rw [hw];exact(by refine blk_put (cs:= #[.int .i64 ((rd_T44 l0 x17_1).f0), .int .i64 ((rd_T44 l0 x17_1).f1), .int .i64 ((rd_T44 l0 x17_1).f2), .int .i64 ((rd_T44 l0 x17_1).f3), .slice none 0 0]) ?_ 4 _ rfl;refine blk_put (cs:= #[.int .i64 ((rd_T44 l0 x17_1).f0), .int .i64 ((rd_T44 l0 x17_1).f1), .int .i64 ((rd_T44 l0 x17_1).f2), .int .i64 0, .slice none 0 0]) ?_ 3 _ rfl;refine blk_put (cs:= #[.int .i64 ((rd_T44 l0 x17_1).f0), .int .i64 ((rd_T44 l0 x17_1).f1), .int .i64 0, .int .i64 0, .slice none 0 0]) ?_ 2 _ rfl;refine blk_put (cs:= #[.int .i64 ((rd_T44 l0 x17_1).f0), .int .i64 0, .int .i64 0, .int .i64 0, .slice none 0 0]) ?_ 1 _ rfl;refine blk_put (cs:= #[.int .i64 0, .int .i64 0, .int .i64 0, .int .i64 0, .slice none 0 0]) ?_ 0 _ rfl;exact BK747.out))⟩;have n4_:Aside0 (Below w.heap.size w w12):=⟨(by rw [hw];exact(by repeat((with_reducible first|exact HB.out|refine below_set ?_ GE747.out))))⟩;clear hw;clear HO_5;clear HO_15;clear HL746_4;clear BK747;clear HB;have HO_5:=n0_;have HO_15:=n1_;have HL746_4:=n2_;have BK747:=n3_;have HB:=n4_;clear n0_ n1_ n2_ n3_ n4_;have hcz13_0:w12.cell? ⟨gb747,0,none⟩=some (.int .i64 ((rd_T44 l0 x17_1).f0)):=(blk_cell BK747.out 0).trans rfl;have hcz13_1:w12.cell? ⟨gb747,1,none⟩=some (.int .i64 ((rd_T44 l0 x17_1).f1)):=(blk_cell BK747.out 1).trans rfl;have hcz13_2:w12.cell? ⟨gb747,2,none⟩=some (.int .i64 ((rd_T44 l0 x17_1).f2)):=(blk_cell BK747.out 2).trans rfl;have hcz13_3:w12.cell? ⟨gb747,3,none⟩=some (.int .i64 ((rd_T44 l0 x17_1).f3)):=(blk_cell BK747.out 3).trans rfl;have hcz13_4:w12.cell? ⟨gb747,4,none⟩=some (.slice A746_4 ((rd_T44 l0 x17_1).f4).length c746_4):=(blk_cell BK747.out 4).trans rfl;have hfz13_0:=blk_frozen BK747.out 0;have hfz13_1:=blk_frozen BK747.out 1;have hfz13_2:=blk_frozen BK747.out 2;have hfz13_3:=blk_frozen BK747.out 3;have hfz13_4:=blk_frozen BK747.out 4)|((with_reducible refine gate_callee (f:=65) rfl ?_);refine goesL_ (some 24) rfl rfl Try.func65 (by kernel_rfl) rfl #[.slice A746_4 ((rd_T44 l0 x17_1).f4).length c746_4] rfl (by(try simp only [List.map_toArray,List.map_cons,List.map_nil]);rfl) ?_;(with_reducible refine(script_Invert.calls k1 (fun k_=>((P0_ k_∨w.heap.size≤k_)∧(some k_≠(u5:Value).ownBlock∧k_≠gb747))) _ _ ((rd_T44 l0 x17_1).f4) t748 t751 _ ?side1 A8.out).mono ?_);(case side1=>exact HL746_4.out);rintro e w14 ⟨v749,rfl,ho0,hb⟩;refine⟨_,rfl,?_⟩;have n0_:=Aside0.mk (Kd.N_elder' (by exact HO_5.out) (by exact Kd.N_base ho0) hb);have n1_:=Aside0.mk (Kd.V_elder' (by exact HO_15.out) (by exact Kd.N_base ho0) hb);have n2_:=Aside0.mk (Kd.V_elder' (by exact HL746_4.out) (by exact Kd.N_base ho0) hb);have n3_:=Aside0.mk (Kd.N_lower (Kd.N_mono (ok':=fun k_=>(P0_ k_∨w.heap.size≤k_)∧some k_≠(u5:Value).ownBlock∧k_≠gb747) ho0 (fun k_ hk_=>⟨Or.elim hk_ (fun hs_=>hs_.1) (fun hn_=>(.inr (Nat.le_trans (below_size (by repeat((with_reducible exact HB.out)))) hn_))),Or.elim hk_ (fun hs_=>hs_.2.1) (fun hn_=>(Kd.fresh' (Kd.N_lt (by exact HO_5.out)) k_ hn_)),Or.elim hk_ (fun hs_=>hs_.2.2) (fun hn_=>(Kd.freshB (g:=gb747) (o:= .cells #[.int .i64 ((rd_T44 l0 x17_1).f0), .int .i64 ((rd_T44 l0 x17_1).f1), .int .i64 ((rd_T44 l0 x17_1).f2), .int .i64 ((rd_T44 l0 x17_1).f3), .slice A746_4 ((rd_T44 l0 x17_1).f4).length c746_4] 44 (0,0)) (by exact BK747.out) k_ hn_))⟩)) (below_size (by repeat((with_reducible exact HB.out)))));have n4_:=Aside0.mk (Kd.C_below (Kd.V_reads' HL746_4.out).2.2 hb);have n5_:=Aside0.mk (blk_below (g:=gb747) (o:= .cells #[.int .i64 ((rd_T44 l0 x17_1).f0), .int .i64 ((rd_T44 l0 x17_1).f1), .int .i64 ((rd_T44 l0 x17_1).f2), .int .i64 ((rd_T44 l0 x17_1).f3), .slice A746_4 ((rd_T44 l0 x17_1).f4).length c746_4] 44 (0,0)) (by exact BK747.out) hb);have n6_:=Aside0.mk (below_step (by repeat((with_reducible exact HB.out))) hb);clear HO_5;clear HO_15;clear HL746_4;clear HR746_4;clear BK747;clear HB;have HO_5:=n0_;have HO_15:=n1_;have HL746_4:=n2_;have HO750:=n3_;have HR746_4:=n4_;have BK747:=n5_;have HB:=n6_;clear n0_ n1_ n2_ n3_ n4_ n5_ n6_;(try clear hb);(try clear ho0);have hcz15_0:w14.cell? ⟨gb747,0,none⟩=some (.int .i64 ((rd_T44 l0 x17_1).f0)):=(blk_cell BK747.out 0).trans rfl;have hcz15_1:w14.cell? ⟨gb747,1,none⟩=some (.int .i64 ((rd_T44 l0 x17_1).f1)):=(blk_cell BK747.out 1).trans rfl;have hcz15_2:w14.cell? ⟨gb747,2,none⟩=some (.int .i64 ((rd_T44 l0 x17_1).f2)):=(blk_cell BK747.out 2).trans rfl;have hcz15_3:w14.cell? ⟨gb747,3,none⟩=some (.int .i64 ((rd_T44 l0 x17_1).f3)):=(blk_cell BK747.out 3).trans rfl;have hcz15_4:w14.cell? ⟨gb747,4,none⟩=some (.slice A746_4 ((rd_T44 l0 x17_1).f4).length c746_4):=(blk_cell BK747.out 4).trans rfl;have hfz15_0:=blk_frozen BK747.out 0;have hfz15_1:=blk_frozen BK747.out 1;have hfz15_2:=blk_frozen BK747.out 2;have hfz15_3:=blk_frozen BK747.out 3;have hfz15_4:=blk_frozen BK747.out 4;obtain⟨Ao16,co16,eo16⟩:=Kd.N_slice HO750.out;subst eo16)|((with_reducible refine gate_builtin (b:= .append) (xs:= #[.tmp 27, .tmp 38]) rfl ?_);at_builtin;refine Kd.N_append k44 (w0:=w) w.heap.size rfl (.tmp 27) (.tmp 38) 25 44 (.agg #[(.int .i64 0),(.int .i64 0),(.int .i64 0),(.int .i64 0),(.slice none 0 0)]) 56 rfl Try.underlying25 info44 rfl (by decide) (by omega) u5 x5_1 (⟨(rd_T44 l0 x17_1).f2,(rd_T44 l0 x17_1).f3,(rd_T44 l0 x17_1).f0,(rd_T44 l0 x17_1).f1,t748⟩:S44) [.int .i64 ((rd_T44 l0 x17_1).f2), .int .i64 ((rd_T44 l0 x17_1).f3), .int .i64 ((rd_T44 l0 x17_1).f0), .int .i64 ((rd_T44 l0 x17_1).f1), .slice Ao16 t748.length co16] (fun k_=>(P0_ k_∨w.heap.size≤k_)∧k_≠gb747) (fun k_=>((fun k_=>(P0_ k_∨w.heap.size≤k_)∧k_≠gb747)) k_∧some k_≠(u5:Value).ownBlock) rfl rfl ?aP (fun _ hk=>hk) ?aF ?aO ?aB ?aS ?aL ?_;(case aP=>exact(k44_mkF _ _ (⟨(rd_T44 l0 x17_1).f2,(rd_T44 l0 x17_1).f3,(rd_T44 l0 x17_1).f0,(rd_T44 l0 x17_1).f1,t748⟩:S44) (Kd.N_reads' (Kd.N_mono (ok':=(fun k_=>((fun k_=>(P0_ k_∨w.heap.size≤k_)∧k_≠gb747)) k_∧some k_≠(u5:Value).ownBlock)) (HO750.out) (fun k_ hk=>⟨⟨hk.1,hk.2.2⟩,hk.2.1⟩))).2.1 (Kd.N_F (Kd.N_mono (ok':=(fun k_=>((fun k_=>(P0_ k_∨w.heap.size≤k_)∧k_≠gb747)) k_∧some k_≠(u5:Value).ownBlock)) (HO750.out) (fun k_ hk=>⟨⟨hk.1,hk.2.2⟩,hk.2.1⟩)))));(case aB=>exact(by repeat((with_reducible exact HB.out))));(case aF=>exact(fun k_ hk=>⟨(.inr (Nat.le_trans (below_size (by repeat((with_reducible exact HB.out)))) hk)),Kd.freshB (g:=gb747) (o:= .cells #[.int .i64 ((rd_T44 l0 x17_1).f0), .int .i64 ((rd_T44 l0 x17_1).f1), .int .i64 ((rd_T44 l0 x17_1).f2), .int .i64 ((rd_T44 l0 x17_1).f3), .slice A746_4 ((rd_T44 l0 x17_1).f4).length c746_4] 44 (0,0)) (by exact BK747.out) k_ hk⟩));(case aO=>exact(by exact Kd.N_mono HO_5.out (fun _ hk=>⟨hk.1.1,hk.1.2⟩)));(case aS=>exact(below_size (by repeat((with_reducible exact HB.out)))));(case aL=>have:=LMc9.out;omega);intro v753 w17 ho hb hg hat;rw [← Ny752.out] at ho;have n0_:=Aside0.mk (Kd.V_afterv (ok:=(fun k_=>(P0_ k_∨w.heap.size≤k_)∧some k_≠(.slice Ao16 t748.length co16:Value).ownBlock∧k_≠gb747)) (by exact Kd.V_mono HO_15.out (fun _ hk=>⟨⟨hk.1.1,⟨hk.2,hk.1.2.2⟩⟩,hk.1.2.1⟩)) hg hat);have n1_:=Aside0.mk (Kd.V_afterv (ok:=(fun k_=>(P0_ k_∨w.heap.size≤k_)∧some k_≠(.slice Ao16 t748.length co16:Value).ownBlock∧k_≠gb747)) (by exact Kd.V_mono HL746_4.out (fun _ hk=>⟨⟨hk.1.1,⟨hk.2,hk.1.2.2⟩⟩,hk.1.2.1⟩)) hg hat);have n2_:=Aside0.mk (blk_grown (g:=gb747) (o:= .cells #[.int .i64 ((rd_T44 l0 x17_1).f0), .int .i64 ((rd_T44 l0 x17_1).f1), .int .i64 ((rd_T44 l0 x17_1).f2), .int .i64 ((rd_T44 l0 x17_1).f3), .slice A746_4 ((rd_T44 l0 x17_1).f4).length c746_4] 44 (0,0)) (by exact BK747.out) hg (Kd.N_away HO_5.out (fun _ hk=>hk.1.2)));have n3_:=Aside0.mk (hb);have n4_:=Aside0.mk (ho);clear HO_15;clear HL746_4;clear BK747;clear HB;clear HO_5;clear HO750;have HO_15:=n0_;have HL746_4:=n1_;have BK747:=n2_;have HB:=n3_;have HO754:=n4_;clear n0_ n1_ n2_ n3_ n4_;clear ho hb hg hat))
        go_roundg k1
        case measure=>have:=HK1.out;omega
        case rel=>exact⟨(y752),(wrap64 (x17_1+1)),(by rfl),H',⟨by have:=HK1.out;omega⟩,⟨by exact Kd.N_mono HO754.out (fun _ hk=>hk.1)⟩,⟨by exact Kd.V_mono HO_15.out (fun _ hk=>⟨hk.1.1,hk.2⟩)⟩,⟨by repeat((with_reducible exact HB.out))⟩⟩
       ·rw [if_neg c9] at H
        exact absurd H (by simp)
      ·rw [if_neg c7] at H
       exact absurd H (by simp)
     ·rw [if_neg c6] at H
      exact absurd H (by simp)
    ·rw [if_neg c5] at H
     have c5b0:decide (x17_1<(l0.length:Int))=false:=decide_eq_false c5
     clear c5
     simp only [Option.some.injEq,Prod.mk.injEq] at H
     obtain⟨rfl,rfl⟩:=H
     go_wp2
     go_ret2
     exact⟨_,by rfl,by exact HO_5.out,by repeat((with_reducible exact HB.out))⟩
 ·rw [if_neg c3] at H
  have c3b0:(t745==0)=false:=beq_eq_false_iff_ne.mpr c3
  have c3b1:(t745 != 0)=true:=bne_iff_ne.mpr c3
  simp only [Option.some.injEq,Prod.mk.injEq] at H
  obtain⟨rfl,rfl⟩:=H
  go_enter Try.func38,Try.ntmps38
  go_wp2_with(((with_reducible refine gate_callee (f:=18) rfl ?_);refine goesL_ (some 11) rfl rfl Try.func18 (by kernel_rfl) rfl #[.slice A0 l0.length c0] rfl (by(try simp only [List.map_toArray,List.map_cons,List.map_nil]);rfl) ?_;(with_reducible refine(hunk_Check.calls k _ _ l0 t745 _ ?side1 ?side2 A2.out).mono ?_);(case side1=>repeat(exact(Kd.V_reads' HO0.out).2.2));(case side2=>exact(Kd.V_reads' HO0.out).2.1);rintro e w18 ⟨rfl,hb⟩;refine⟨_,rfl,?_⟩;have n0_:=Aside0.mk (Kd.V_below (by exact HO0.out) hb);have n1_:=Aside0.mk (below_step (by repeat((with_reducible exact HB.out))) hb);clear HO0;clear HB;have HO0:=n0_;have HB:=n1_;clear n0_ n1_;(try clear hb)))
  go_ret2
  exact⟨_,by rfl,by exact Kd.N_nil _ _ _ _ _,by repeat((with_reducible exact HB.out))⟩
end Go.Proofs.Ytfnbodjmmkjlcaa.H
end
section
namespace Go.Proofs.Ytfnbodjmmkjlcaa.H
open Go.RowKit Go.Proofs.YtfnbodjmmkjlcaaW.PrintWords Go.Proofs.YtfnbodjmmkjlcaaW.PrintLast Go.Proofs.YtfnbodjmmkjlcaaW.PrintMore
attribute [local go_sem] max2_int min2_int max_two min_two max_three min_three max_four min_four
set_option linter.unusedVariables false
set_option linter.unusedSimpArgs false
def jalousielaw11_PatchTwice.f (k:Nat) (l0:List (S66)) (l1:List (S66)) (a2:Int):Option (Bool):=if 0≤(mn (l0.length:Int) 40) then (if (mn (l0.length:Int) 40)≤(l0.length:Int) then ((some (l0.take ((mn (l0.length:Int) 40):Int).toNat:List (S66))).bind fun y861=>(if 0≤(mn (l1.length:Int) 40) then (if (mn (l1.length:Int) 40)≤(l1.length:Int) then ((some (l1.take ((mn (l1.length:Int) 40):Int).toNat:List (S66))).bind fun y865=>((jalousieref08_Make.f k y861 y865).bind fun bt869=>((jalousieref09_Build.f k bt869.1 (Int.tmod (wrap64 (a2)) 21)).bind fun bt873=>((patch_Reverse.f k bt873.1).bind fun bt877=>((patch_Reverse.f k bt877.1).bind fun bt881=>((patch_Size.f k bt873.1).bind fun bt885=>((patch_Size.f k bt877.1).bind fun bt887=>((jalousielaw11_live.f k).bind fun t889=>(if t889=true then (if bt873.2=0 then (if bt877.2=0 then (if bt881.2=0 then ((jalousieref09_Same.f k bt881.1 bt873.1).bind fun t890=>(if t890=true then (if bt885.1=bt887.2 then (if bt885.2=bt887.1 then (some ((wrap64 (bt885.1-bt885.2))==(wrap64 ((y865.length:Int)-(y861.length:Int))))) else (some false)) else (some false)) else (some false))) else (some false)) else (some false)) else (some false)) else (some false)))))))))) else (none)) else (none))) else (none)) else (none)
set_option maxHeartbeats 8000000 in
set_option maxRecDepth 100000 in
theorem jalousielaw11_PatchTwice.calls (k:Nat) (A0:Option Addr) (c0:Nat) (l0:List (S66)) (A1:Option Addr) (c1:Nat) (l1:List (S66)) (a2:Int) (r:Bool) (w:World) (hr0:Kd.C k66 w A0 l0.length l0) (hc0:l0.length≤c0) (hr1:Kd.C k66 w A1 l1.length l1) (hc1:l1.length≤c1) (h:jalousielaw11_PatchTwice.f k l0 l1 a2=some r) (HRT:Aside0 (r=true):=by first|exact⟨rfl⟩|assumption):
  Calls Try.prog 12 #[.slice A0 l0.length c0, .slice A1 l1.length c1, .int .u8 a2] w fun e w'=>e= .returned (.bool r)∧Below w.heap.size w w':=by
 have HR0:=Aside0.mk hr0
 have HC0:=Aside0.mk hc0
 clear hr0 hc0
 have HR1:=Aside0.mk hr1
 have HC1:=Aside0.mk hc1
 clear hr1 hc1
 have HB:=Aside0.mk (Below.refl w.heap.size w)
 have H:(if 0≤(mn (l0.length:Int) 40) then (if (mn (l0.length:Int) 40)≤(l0.length:Int) then ((some (l0.take ((mn (l0.length:Int) 40):Int).toNat:List (S66))).bind fun y861=>(if 0≤(mn (l1.length:Int) 40) then (if (mn (l1.length:Int) 40)≤(l1.length:Int) then ((some (l1.take ((mn (l1.length:Int) 40):Int).toNat:List (S66))).bind fun y865=>((jalousieref08_Make.f k y861 y865).bind fun bt869=>((jalousieref09_Build.f k bt869.1 (Int.tmod (wrap64 (a2)) 21)).bind fun bt873=>((patch_Reverse.f k bt873.1).bind fun bt877=>((patch_Reverse.f k bt877.1).bind fun bt881=>((patch_Size.f k bt873.1).bind fun bt885=>((patch_Size.f k bt877.1).bind fun bt887=>((jalousielaw11_live.f k).bind fun t889=>(if t889=true then (if bt873.2=0 then (if bt877.2=0 then (if bt881.2=0 then ((jalousieref09_Same.f k bt881.1 bt873.1).bind fun t890=>(if t890=true then (if bt885.1=bt887.2 then (if bt885.2=bt887.1 then (some ((wrap64 (bt885.1-bt885.2))==(wrap64 ((y865.length:Int)-(y861.length:Int))))) else (some false)) else (some false)) else (some false))) else (some false)) else (some false)) else (some false)) else (some false)))))))))) else (none)) else (none))) else (none)) else (none))=some r:=h
 clear h
 obtain⟨ji4,hji4⟩: ∃j_:Int,(mn (l0.length:Int) 40)=j_:=⟨_,rfl⟩
 replace H:(if 0≤(ji4) then (if (ji4)≤(l0.length:Int) then ((some (l0.take ((ji4):Int).toNat:List (S66))).bind fun y861=>(if 0≤(mn (l1.length:Int) 40) then (if (mn (l1.length:Int) 40)≤(l1.length:Int) then ((some (l1.take ((mn (l1.length:Int) 40):Int).toNat:List (S66))).bind fun y865=>((jalousieref08_Make.f k y861 y865).bind fun bt869=>((jalousieref09_Build.f k bt869.1 (Int.tmod (wrap64 (a2)) 21)).bind fun bt873=>((patch_Reverse.f k bt873.1).bind fun bt877=>((patch_Reverse.f k bt877.1).bind fun bt881=>((patch_Size.f k bt873.1).bind fun bt885=>((patch_Size.f k bt877.1).bind fun bt887=>((jalousielaw11_live.f k).bind fun t889=>(if t889=true then (if bt873.2=0 then (if bt877.2=0 then (if bt881.2=0 then ((jalousieref09_Same.f k bt881.1 bt873.1).bind fun t890=>(if t890=true then (if bt885.1=bt887.2 then (if bt885.2=bt887.1 then (some ((wrap64 (bt885.1-bt885.2))==(wrap64 ((y865.length:Int)-(y861.length:Int))))) else (some false)) else (some false)) else (some false))) else (some false)) else (some false)) else (some false)) else (some false)))))))))) else (none)) else (none))) else (none)) else (none))=some r:=by(rw [hji4] at H;exact H)
 (try(have hji4h:ji4≤40:=by(rw [← hji4];unfold mn;(repeat' split)<;>omega)))
 (try(have hji4g:ji4≤64:=by omega))
 (try(have hji4l:0≤ji4:=by(rw [← hji4];unfold mn;(repeat' split)<;>omega)))
 (try(have hji4m:0≤ji4:=by omega))
 have hji4_:(if 40<(l0.length:Int) then 40 else (l0.length:Int))=ji4:=hji4
 by_cases c5:0≤(ji4)
 ·rw [if_pos c5] at H
  have c5b0:=eq_true c5
  have c5b1:decide (0≤(ji4))=true:=decide_eq_true c5
  clear c5
  by_cases c6:(ji4)≤(l0.length:Int)
  ·rw [if_pos c6] at H
   have c6b0:=eq_true c6
   have c6b1:decide ((ji4)≤(l0.length:Int))=true:=decide_eq_true c6
   clear c6
   obtain⟨y861,hy861⟩: ∃y_:List (S66),y_=(l0.take ((ji4):Int).toNat):=⟨_,rfl⟩
   replace H:(if 0≤(mn (l1.length:Int) 40) then (if (mn (l1.length:Int) 40)≤(l1.length:Int) then ((some (l1.take ((mn (l1.length:Int) 40):Int).toNat:List (S66))).bind fun y865=>((jalousieref08_Make.f k y861 y865).bind fun bt869=>((jalousieref09_Build.f k bt869.1 (Int.tmod (wrap64 (a2)) 21)).bind fun bt873=>((patch_Reverse.f k bt873.1).bind fun bt877=>((patch_Reverse.f k bt877.1).bind fun bt881=>((patch_Size.f k bt873.1).bind fun bt885=>((patch_Size.f k bt877.1).bind fun bt887=>((jalousielaw11_live.f k).bind fun t889=>(if t889=true then (if bt873.2=0 then (if bt877.2=0 then (if bt881.2=0 then ((jalousieref09_Same.f k bt881.1 bt873.1).bind fun t890=>(if t890=true then (if bt885.1=bt887.2 then (if bt885.2=bt887.1 then (some ((wrap64 (bt885.1-bt885.2))==(wrap64 ((y865.length:Int)-(y861.length:Int))))) else (some false)) else (some false)) else (some false))) else (some false)) else (some false)) else (some false)) else (some false)))))))))) else (none)) else (none))=some r:=by(have H2_:=(Option.bind_some _ _).symm.trans H;rw [hy861];with_reducible exact H2_)
   have Ny861:=Aside0.mk hy861
   clear hy861
   obtain⟨ji7,hji7⟩: ∃j_:Int,(mn (l1.length:Int) 40)=j_:=⟨_,rfl⟩
   replace H:(if 0≤(ji7) then (if (ji7)≤(l1.length:Int) then ((some (l1.take ((ji7):Int).toNat:List (S66))).bind fun y865=>((jalousieref08_Make.f k y861 y865).bind fun bt869=>((jalousieref09_Build.f k bt869.1 (Int.tmod (wrap64 (a2)) 21)).bind fun bt873=>((patch_Reverse.f k bt873.1).bind fun bt877=>((patch_Reverse.f k bt877.1).bind fun bt881=>((patch_Size.f k bt873.1).bind fun bt885=>((patch_Size.f k bt877.1).bind fun bt887=>((jalousielaw11_live.f k).bind fun t889=>(if t889=true then (if bt873.2=0 then (if bt877.2=0 then (if bt881.2=0 then ((jalousieref09_Same.f k bt881.1 bt873.1).bind fun t890=>(if t890=true then (if bt885.1=bt887.2 then (if bt885.2=bt887.1 then (some ((wrap64 (bt885.1-bt885.2))==(wrap64 ((y865.length:Int)-(y861.length:Int))))) else (some false)) else (some false)) else (some false))) else (some false)) else (some false)) else (some false)) else (some false)))))))))) else (none)) else (none))=some r:=by(rw [hji7] at H;exact H)
   (try(have hji7h:ji7≤40:=by(rw [← hji7];unfold mn;(repeat' split)<;>omega)))
   (try(have hji7g:ji7≤64:=by omega))
   (try(have hji7l:0≤ji7:=by(rw [← hji7];unfold mn;(repeat' split)<;>omega)))
   (try(have hji7m:0≤ji7:=by omega))
   have hji7_:(if 40<(l1.length:Int) then 40 else (l1.length:Int))=ji7:=hji7
   by_cases c8:0≤(ji7)
   ·rw [if_pos c8] at H
    have c8b0:=eq_true c8
    have c8b1:decide (0≤(ji7))=true:=decide_eq_true c8
    clear c8
    by_cases c9:(ji7)≤(l1.length:Int)
    ·rw [if_pos c9] at H
     have c9b0:=eq_true c9
     have c9b1:decide ((ji7)≤(l1.length:Int))=true:=decide_eq_true c9
     clear c9
     obtain⟨y865,hy865⟩: ∃y_:List (S66),y_=(l1.take ((ji7):Int).toNat):=⟨_,rfl⟩
     replace H:((jalousieref08_Make.f k y861 y865).bind fun bt869=>((jalousieref09_Build.f k bt869.1 (Int.tmod (wrap64 (a2)) 21)).bind fun bt873=>((patch_Reverse.f k bt873.1).bind fun bt877=>((patch_Reverse.f k bt877.1).bind fun bt881=>((patch_Size.f k bt873.1).bind fun bt885=>((patch_Size.f k bt877.1).bind fun bt887=>((jalousielaw11_live.f k).bind fun t889=>(if t889=true then (if bt873.2=0 then (if bt877.2=0 then (if bt881.2=0 then ((jalousieref09_Same.f k bt881.1 bt873.1).bind fun t890=>(if t890=true then (if bt885.1=bt887.2 then (if bt885.2=bt887.1 then (some ((wrap64 (bt885.1-bt885.2))==(wrap64 ((y865.length:Int)-(y861.length:Int))))) else (some false)) else (some false)) else (some false))) else (some false)) else (some false)) else (some false)) else (some false)))))))))=some r:=by(have H2_:=(Option.bind_some _ _).symm.trans H;rw [hy865];with_reducible exact H2_)
     have Ny865:=Aside0.mk hy865
     clear hy865
     replace H:=Option.bind_eq_some_iff.mp H
     obtain⟨⟨t869,t872⟩,A100,H⟩:=H
     replace H:((jalousieref09_Build.f k t869 (Int.tmod (wrap64 (a2)) 21)).bind fun bt873=>((patch_Reverse.f k bt873.1).bind fun bt877=>((patch_Reverse.f k bt877.1).bind fun bt881=>((patch_Size.f k bt873.1).bind fun bt885=>((patch_Size.f k bt877.1).bind fun bt887=>((jalousielaw11_live.f k).bind fun t889=>(if t889=true then (if bt873.2=0 then (if bt877.2=0 then (if bt881.2=0 then ((jalousieref09_Same.f k bt881.1 bt873.1).bind fun t890=>(if t890=true then (if bt885.1=bt887.2 then (if bt885.2=bt887.1 then (some ((wrap64 (bt885.1-bt885.2))==(wrap64 ((y865.length:Int)-(y861.length:Int))))) else (some false)) else (some false)) else (some false))) else (some false)) else (some false)) else (some false)) else (some false))))))))=some r:=H
     have A10:=Aside0.mk A100
     clear A100
     replace H:=Option.bind_eq_some_iff.mp H
     obtain⟨⟨t873,t874⟩,A110,H⟩:=H
     replace H:((patch_Reverse.f k t873).bind fun bt877=>((patch_Reverse.f k bt877.1).bind fun bt881=>((patch_Size.f k t873).bind fun bt885=>((patch_Size.f k bt877.1).bind fun bt887=>((jalousielaw11_live.f k).bind fun t889=>(if t889=true then (if t874=0 then (if bt877.2=0 then (if bt881.2=0 then ((jalousieref09_Same.f k bt881.1 t873).bind fun t890=>(if t890=true then (if bt885.1=bt887.2 then (if bt885.2=bt887.1 then (some ((wrap64 (bt885.1-bt885.2))==(wrap64 ((y865.length:Int)-(y861.length:Int))))) else (some false)) else (some false)) else (some false))) else (some false)) else (some false)) else (some false)) else (some false)))))))=some r:=H
     have A11:=Aside0.mk A110
     clear A110
     replace H:=Option.bind_eq_some_iff.mp H
     obtain⟨⟨t877,t880⟩,A120,H⟩:=H
     replace H:((patch_Reverse.f k t877).bind fun bt881=>((patch_Size.f k t873).bind fun bt885=>((patch_Size.f k t877).bind fun bt887=>((jalousielaw11_live.f k).bind fun t889=>(if t889=true then (if t874=0 then (if t880=0 then (if bt881.2=0 then ((jalousieref09_Same.f k bt881.1 t873).bind fun t890=>(if t890=true then (if bt885.1=bt887.2 then (if bt885.2=bt887.1 then (some ((wrap64 (bt885.1-bt885.2))==(wrap64 ((y865.length:Int)-(y861.length:Int))))) else (some false)) else (some false)) else (some false))) else (some false)) else (some false)) else (some false)) else (some false))))))=some r:=H
     have A12:=Aside0.mk A120
     clear A120
     replace H:=Option.bind_eq_some_iff.mp H
     obtain⟨⟨t881,t884⟩,A130,H⟩:=H
     replace H:((patch_Size.f k t873).bind fun bt885=>((patch_Size.f k t877).bind fun bt887=>((jalousielaw11_live.f k).bind fun t889=>(if t889=true then (if t874=0 then (if t880=0 then (if t884=0 then ((jalousieref09_Same.f k t881 t873).bind fun t890=>(if t890=true then (if bt885.1=bt887.2 then (if bt885.2=bt887.1 then (some ((wrap64 (bt885.1-bt885.2))==(wrap64 ((y865.length:Int)-(y861.length:Int))))) else (some false)) else (some false)) else (some false))) else (some false)) else (some false)) else (some false)) else (some false)))))=some r:=H
     have A13:=Aside0.mk A130
     clear A130
     replace H:=Option.bind_eq_some_iff.mp H
     obtain⟨⟨t885,t886⟩,A140,H⟩:=H
     replace H:((patch_Size.f k t877).bind fun bt887=>((jalousielaw11_live.f k).bind fun t889=>(if t889=true then (if t874=0 then (if t880=0 then (if t884=0 then ((jalousieref09_Same.f k t881 t873).bind fun t890=>(if t890=true then (if t885=bt887.2 then (if t886=bt887.1 then (some ((wrap64 (t885-t886))==(wrap64 ((y865.length:Int)-(y861.length:Int))))) else (some false)) else (some false)) else (some false))) else (some false)) else (some false)) else (some false)) else (some false))))=some r:=H
     have A14:=Aside0.mk A140
     clear A140
     replace H:=Option.bind_eq_some_iff.mp H
     obtain⟨⟨t887,t888⟩,A150,H⟩:=H
     replace H:((jalousielaw11_live.f k).bind fun t889=>(if t889=true then (if t874=0 then (if t880=0 then (if t884=0 then ((jalousieref09_Same.f k t881 t873).bind fun t890=>(if t890=true then (if t885=t888 then (if t886=t887 then (some ((wrap64 (t885-t886))==(wrap64 ((y865.length:Int)-(y861.length:Int))))) else (some false)) else (some false)) else (some false))) else (some false)) else (some false)) else (some false)) else (some false)))=some r:=H
     have A15:=Aside0.mk A150
     clear A150
     replace H:=Option.bind_eq_some_iff.mp H
     obtain⟨t889,A160,H⟩:=H
     replace H:(if t889=true then (if t874=0 then (if t880=0 then (if t884=0 then ((jalousieref09_Same.f k t881 t873).bind fun t890=>(if t890=true then (if t885=t888 then (if t886=t887 then (some ((wrap64 (t885-t886))==(wrap64 ((y865.length:Int)-(y861.length:Int))))) else (some false)) else (some false)) else (some false))) else (some false)) else (some false)) else (some false)) else (some false))=some r:=H
     have A16:=Aside0.mk A160
     clear A160
     by_cases c17:t889=true
     ·subst c17
      have H1:(if t874=0 then (if t880=0 then (if t884=0 then ((jalousieref09_Same.f k t881 t873).bind fun t890=>(if t890=true then (if t885=t888 then (if t886=t887 then (some ((wrap64 (t885-t886))==(wrap64 ((y865.length:Int)-(y861.length:Int))))) else (some false)) else (some false)) else (some false))) else (some false)) else (some false)) else (some false))=some r:=by rw [if_pos rfl] at H;exact H
      clear H
      have H:=H1
      clear H1
      by_cases c18:t874=0
      ·rw [if_pos c18] at H
       have c18b0:(t874==0)=true:=beq_iff_eq.mpr c18
       have c18b1:(t874 != 0)=false:=bne_eq_false_iff_eq.mpr c18
       clear c18
       by_cases c19:t880=0
       ·rw [if_pos c19] at H
        have c19b0:(t880==0)=true:=beq_iff_eq.mpr c19
        have c19b1:(t880 != 0)=false:=bne_eq_false_iff_eq.mpr c19
        clear c19
        by_cases c20:t884=0
        ·rw [if_pos c20] at H
         have c20b0:(t884==0)=true:=beq_iff_eq.mpr c20
         have c20b1:(t884 != 0)=false:=bne_eq_false_iff_eq.mpr c20
         clear c20
         replace H:=Option.bind_eq_some_iff.mp H
         obtain⟨t890,A210,H⟩:=H
         replace H:(if t890=true then (if t885=t888 then (if t886=t887 then (some ((wrap64 (t885-t886))==(wrap64 ((y865.length:Int)-(y861.length:Int))))) else (some false)) else (some false)) else (some false))=some r:=H
         have A21:=Aside0.mk A210
         clear A210
         by_cases c22:t890=true
         ·subst c22
          have H1:(if t885=t888 then (if t886=t887 then (some ((wrap64 (t885-t886))==(wrap64 ((y865.length:Int)-(y861.length:Int))))) else (some false)) else (some false))=some r:=by rw [if_pos rfl] at H;exact H
          clear H
          have H:=H1
          clear H1
          by_cases c23:t885=t888
          ·rw [if_pos c23] at H
           have c23b0:(t885==t888)=true:=beq_iff_eq.mpr c23
           have c23b1:(t885 != t888)=false:=bne_eq_false_iff_eq.mpr c23
           clear c23
           by_cases c24:t886=t887
           ·rw [if_pos c24] at H
            have c24b0:(t886==t887)=true:=beq_iff_eq.mpr c24
            have c24b1:(t886 != t887)=false:=bne_eq_false_iff_eq.mpr c24
            clear c24
            obtain rfl:=Option.some.inj H
            have q25:((ji4):Int)≤((l0.length:Int):Int):=of_decide_eq_true (by(with_reducible assumption))
            obtain⟨i025,hi025,_,hsz25,_⟩:=info_parts info66
            have hroom25:l0.length≤c0:=HC0.out
            have hC25:Kd.C k66 _ A0 l0.length l0:=HR0.out
            have hcut25:=cut_to (P:=Try.prog) 37 66 .i64 Try.underlying37 hi025 A0 l0.length c0 (ji4) (of_decide_eq_true (by(with_reducible assumption))) q25 hroom25
            have hr25:=Kd.C_take (m:=((ji4):Int).toNat) hC25 (by omega)
            have hy25:y861.length=((ji4):Int).toNat:=(by rw [Ny861.out,List.length_take];omega)
            rw [← Ny861.out] at hr25
            rw [← hy25] at hcut25
            have HR864:=Aside0.mk hr25
            have HC864:=Aside0.mk (show y861.length≤c0 from by omega)
            clear hr25 hC25 hroom25 hi025 hsz25
            have KY25:=Aside0.mk hy25
            clear hy25
            replace q25:=eq_true q25
            have q26:((ji7):Int)≤((l1.length:Int):Int):=of_decide_eq_true (by(with_reducible assumption))
            obtain⟨i026,hi026,_,hsz26,_⟩:=info_parts info66
            have hroom26:l1.length≤c1:=HC1.out
            have hC26:Kd.C k66 _ A1 l1.length l1:=HR1.out
            have hcut26:=cut_to (P:=Try.prog) 37 66 .i64 Try.underlying37 hi026 A1 l1.length c1 (ji7) (of_decide_eq_true (by(with_reducible assumption))) q26 hroom26
            have hr26:=Kd.C_take (m:=((ji7):Int).toNat) hC26 (by omega)
            have hy26:y865.length=((ji7):Int).toNat:=(by rw [Ny865.out,List.length_take];omega)
            rw [← Ny865.out] at hr26
            rw [← hy26] at hcut26
            have HR868:=Aside0.mk hr26
            have HC868:=Aside0.mk (show y865.length≤c1 from by omega)
            clear hr26 hC26 hroom26 hi026 hsz26
            have KY26:=Aside0.mk hy26
            clear hy26
            replace q26:=eq_true q26
            go_enter Try.func12,Try.ntmps12
            go_wp2_with(fail)
            repeat(go_quiet (fail);try go_wp2_with(first|(go_at_call 36;(with_reducible refine(jalousieref08_Make.calls k (fun k_=>k_<w.heap.size) _ _ y861 (fun k_=>k_<w.heap.size) _ _ y865 t869 t872 _ ?side1 ?side2 A10.out).mono ?_);(case side1=>exact Kd.V_mk HC864.out (Kd.F_below (Kd.C_F k66_heap HR864.out) (by repeat((with_reducible first|exact HB.out|apply pw_below_drewN)))));(case side2=>exact Kd.V_mk HC868.out (Kd.F_below (Kd.C_F k66_heap HR868.out) (by repeat((with_reducible first|exact HB.out|apply pw_below_drewN)))));rintro e w27 ⟨v870,rfl,ho0,hb⟩;have n0_:=Aside0.mk (Kd.N_lower (Kd.N_mono (ok':=fun k_=>True) ho0 (fun k_ hk_=>trivial)) (below_size (by repeat((with_reducible first|exact HB.out|apply pw_below_drewN)))));have n1_:=Aside0.mk (below_step (by repeat((with_reducible first|exact HB.out|apply pw_below_drewN))) hb);clear HB;have HO871:=n0_;have HB:=n1_;clear n0_ n1_;(try clear hb);(try clear ho0);obtain⟨Ao28,co28,eo28⟩:=Kd.N_slice HO871.out;subst eo28)|(go_at_call 16;(with_reducible refine(jalousieref09_Build.calls k _ _ t869 (Int.tmod (wrap64 (a2)) 21) t873 t874 _ ?side1 ?side2 A11.out).mono ?_);(case side1=>repeat(exact(Kd.N_reads' HO871.out).2.2));(case side2=>exact(Kd.N_reads' HO871.out).2.1);rintro e w29 ⟨v875,rfl,ho0,hb⟩;have n0_:=Aside0.mk (Kd.N_elder' (by exact HO871.out) (by exact Kd.R_base ho0) hb);have n1_:=Aside0.mk (Kd.N_lower (Kd.N_mono (ok':=fun k_=>some k_≠(.slice Ao28 t869.length co28:Value).ownBlock) (Kd.R_N (Kd.R_bound ho0)) (fun k_ hk_=>(Kd.fresh' (Kd.N_lt (by exact HO871.out)) k_ hk_.2.1))) (below_size (by repeat((with_reducible exact HB.out)))));have n2_:=Aside0.mk (below_step (by repeat((with_reducible exact HB.out))) hb);clear HO871;clear HB;have HO871:=n0_;have HO876:=n1_;have HB:=n2_;clear n0_ n1_ n2_;(try clear hb);(try clear ho0);obtain⟨Ao30,co30,eo30⟩:=Kd.N_slice HO876.out;subst eo30)|(go_at_call 38;(with_reducible refine(patch_Reverse.calls k (fun k_=>some k_≠(.slice Ao28 t869.length co28:Value).ownBlock) _ _ t873 t877 t880 _ ?side1 A12.out).mono ?_);(case side1=>exact Kd.N_V (HO876.out));rintro e w31 ⟨v878,rfl,ho0,hb⟩;have n0_:=Aside0.mk (Kd.N_elder' (by exact HO871.out) (by exact Kd.N_base ho0) hb);have n1_:=Aside0.mk (Kd.N_elder' (by exact HO876.out) (by exact Kd.N_base ho0) hb);have n2_:=Aside0.mk (Kd.N_lower (Kd.N_mono (ok':=fun k_=>some k_≠(.slice Ao28 t869.length co28:Value).ownBlock) ho0 (fun k_ hk_=>Or.elim hk_ (fun hs_=>hs_) (fun hn_=>(Kd.fresh' (Kd.N_lt (by exact HO871.out)) k_ hn_)))) (below_size (by repeat((with_reducible exact HB.out)))));have n3_:=Aside0.mk (below_step (by repeat((with_reducible exact HB.out))) hb);clear HO871;clear HO876;clear HB;have HO871:=n0_;have HO876:=n1_;have HO879:=n2_;have HB:=n3_;clear n0_ n1_ n2_ n3_;(try clear hb);(try clear ho0);obtain⟨Ao32,co32,eo32⟩:=Kd.N_slice HO879.out;subst eo32)|(go_at_call 38;(with_reducible refine(patch_Reverse.calls k (fun k_=>some k_≠(.slice Ao28 t869.length co28:Value).ownBlock) _ _ t877 t881 t884 _ ?side1 A13.out).mono ?_);(case side1=>exact Kd.N_V (HO879.out));rintro e w33 ⟨v882,rfl,ho0,hb⟩;have n0_:=Aside0.mk (Kd.N_elder' (by exact HO871.out) (by exact Kd.N_base ho0) hb);have n1_:=Aside0.mk (Kd.N_elder' (by exact HO876.out) (by exact Kd.N_base ho0) hb);have n2_:=Aside0.mk (Kd.N_elder' (by exact HO879.out) (by exact Kd.N_base ho0) hb);have n3_:=Aside0.mk (Kd.N_lower (Kd.N_mono (ok':=fun k_=>some k_≠(.slice Ao28 t869.length co28:Value).ownBlock) ho0 (fun k_ hk_=>Or.elim hk_ (fun hs_=>hs_) (fun hn_=>(Kd.fresh' (Kd.N_lt (by exact HO871.out)) k_ hn_)))) (below_size (by repeat((with_reducible exact HB.out)))));have n4_:=Aside0.mk (below_step (by repeat((with_reducible exact HB.out))) hb);clear HO871;clear HO876;clear HO879;clear HB;have HO871:=n0_;have HO876:=n1_;have HO879:=n2_;have HO883:=n3_;have HB:=n4_;clear n0_ n1_ n2_ n3_ n4_;(try clear hb);(try clear ho0))|(go_at_call 40;(with_reducible refine(patch_Size.calls k _ _ t873 t885 t886 _ ?side1 ?side2 A14.out).mono ?_);(case side1=>repeat(exact(Kd.N_reads' HO876.out).2.2));(case side2=>exact(Kd.N_reads' HO876.out).2.1);rintro e w34 ⟨rfl,hb⟩;have n0_:=Aside0.mk (Kd.N_below (by exact HO871.out) hb);have n1_:=Aside0.mk (Kd.N_below (by exact HO876.out) hb);have n2_:=Aside0.mk (Kd.N_below (by exact HO879.out) hb);have n3_:=Aside0.mk (Kd.N_below (by exact HO883.out) hb);have n4_:=Aside0.mk (below_step (by repeat((with_reducible exact HB.out))) hb);clear HO871;clear HO876;clear HO879;clear HO883;clear HB;have HO871:=n0_;have HO876:=n1_;have HO879:=n2_;have HO883:=n3_;have HB:=n4_;clear n0_ n1_ n2_ n3_ n4_;(try clear hb))|(go_at_call 40;(with_reducible refine(patch_Size.calls k _ _ t877 t887 t888 _ ?side1 ?side2 A15.out).mono ?_);(case side1=>repeat(exact(Kd.N_reads' HO879.out).2.2));(case side2=>exact(Kd.N_reads' HO879.out).2.1);rintro e w35 ⟨rfl,hb⟩;have n0_:=Aside0.mk (Kd.N_below (by exact HO871.out) hb);have n1_:=Aside0.mk (Kd.N_below (by exact HO876.out) hb);have n2_:=Aside0.mk (Kd.N_below (by exact HO879.out) hb);have n3_:=Aside0.mk (Kd.N_below (by exact HO883.out) hb);have n4_:=Aside0.mk (below_step (by repeat((with_reducible exact HB.out))) hb);clear HO871;clear HO876;clear HO879;clear HO883;clear HB;have HO871:=n0_;have HO876:=n1_;have HO879:=n2_;have HO883:=n3_;have HB:=n4_;clear n0_ n1_ n2_ n3_ n4_;(try clear hb))|(go_at_call 32;(with_reducible refine(jalousielaw11_live.calls k  true _ A16.out).mono ?_);rintro e w36 ⟨rfl,hb⟩;have n0_:=Aside0.mk (Kd.N_below (by exact HO871.out) hb);have n1_:=Aside0.mk (Kd.N_below (by exact HO876.out) hb);have n2_:=Aside0.mk (Kd.N_below (by exact HO879.out) hb);have n3_:=Aside0.mk (Kd.N_below (by exact HO883.out) hb);have n4_:=Aside0.mk (below_step (by repeat((with_reducible exact HB.out))) hb);clear HO871;clear HO876;clear HO879;clear HO883;clear HB;have HO871:=n0_;have HO876:=n1_;have HO879:=n2_;have HO883:=n3_;have HB:=n4_;clear n0_ n1_ n2_ n3_ n4_;(try clear hb);obtain⟨Ao37,co37,eo37⟩:=Kd.N_slice HO883.out;subst eo37)|(go_at_call 17;(with_reducible refine(jalousieref09_Same.calls k _ _ t881 _ _ t873 true _ ?side1 ?side2 ?side3 ?side4 A21.out).mono ?_);(case side1=>repeat(exact(Kd.N_reads' HO883.out).2.2));(case side2=>exact(Kd.N_reads' HO883.out).2.1);(case side3=>repeat(exact(Kd.N_reads' HO876.out).2.2));(case side4=>exact(Kd.N_reads' HO876.out).2.1);rintro e w' ⟨rfl,⟨nd,rfl⟩⟩)))
            go_ret
            exact⟨by rfl,by repeat((with_reducible first|exact HB.out|apply pw_below_drewN))⟩
           ·rw [if_neg c24] at H
            have c24b0:(t886==t887)=false:=beq_eq_false_iff_ne.mpr c24
            have c24b1:(t886 != t887)=true:=bne_iff_ne.mpr c24
            exact absurd (Option.some.inj (H.trans (congrArg some HRT.out))) (by decide)
          ·rw [if_neg c23] at H
           have c23b0:(t885==t888)=false:=beq_eq_false_iff_ne.mpr c23
           have c23b1:(t885 != t888)=true:=bne_iff_ne.mpr c23
           exact absurd (Option.some.inj (H.trans (congrArg some HRT.out))) (by decide)
         ·replace c22:=Bool.eq_false_iff.mpr c22
          subst c22
          have H1:(some false)=some r:=by rw [if_neg (show ¬(false=true) by decide)] at H;exact H
          clear H
          have H:=H1
          clear H1
          exact absurd (Option.some.inj (H.trans (congrArg some HRT.out))) (by decide)
        ·rw [if_neg c20] at H
         have c20b0:(t884==0)=false:=beq_eq_false_iff_ne.mpr c20
         have c20b1:(t884 != 0)=true:=bne_iff_ne.mpr c20
         exact absurd (Option.some.inj (H.trans (congrArg some HRT.out))) (by decide)
       ·rw [if_neg c19] at H
        have c19b0:(t880==0)=false:=beq_eq_false_iff_ne.mpr c19
        have c19b1:(t880 != 0)=true:=bne_iff_ne.mpr c19
        exact absurd (Option.some.inj (H.trans (congrArg some HRT.out))) (by decide)
      ·rw [if_neg c18] at H
       have c18b0:(t874==0)=false:=beq_eq_false_iff_ne.mpr c18
       have c18b1:(t874 != 0)=true:=bne_iff_ne.mpr c18
       exact absurd (Option.some.inj (H.trans (congrArg some HRT.out))) (by decide)
     ·replace c17:=Bool.eq_false_iff.mpr c17
      subst c17
      have H1:(some false)=some r:=by rw [if_neg (show ¬(false=true) by decide)] at H;exact H
      clear H
      have H:=H1
      clear H1
      exact absurd (Option.some.inj (H.trans (congrArg some HRT.out))) (by decide)
    ·rw [if_neg c9] at H
     exact absurd H (by simp)
   ·rw [if_neg c8] at H
    exact absurd H (by simp)
  ·rw [if_neg c6] at H
   exact absurd H (by simp)
 ·rw [if_neg c5] at H
  exact absurd H (by simp)
end Go.Proofs.Ytfnbodjmmkjlcaa.H
end
section
namespace Go.Proofs.Ytfnbodjmmkjlcaa.H
open Go.RowKit Go.Proofs.YtfnbodjmmkjlcaaW.PrintWords Go.Proofs.YtfnbodjmmkjlcaaW.PrintLast Go.Proofs.YtfnbodjmmkjlcaaW.PrintMore
set_option linter.unusedVariables false
def jalousielaw11_PatchTwice.Pure:Prop:= ∀(l0:(List S66)) (l1:(List S66)) (a2:Int),(∀y_∈l0,ok66 y_)→(∀y_∈l1,ok66 y_)→((Lit.int .u8 a2).wf=true)→(l0.length*24≤140737488351232∧ ∀y_∈l0,sz66 y_)→(l1.length*24≤140737488351232∧ ∀y_∈l1,sz66 y_)→(True)→ ∃k,jalousielaw11_PatchTwice.f k l0 l1 a2=some true
end Go.Proofs.Ytfnbodjmmkjlcaa.H
end
section
namespace Go.Proofs.Ytfnbodjmmkjlcaa
open Go.RowKit Go.Proofs.YtfnbodjmmkjlcaaW.PrintWords Go.Proofs.YtfnbodjmmkjlcaaW.PrintMore
theorem ev_succ {α:Type} {g:Nat→Option α} {r:α} (h:Ev (fun k=>g (k+1)) r):Ev g r:=Ev.step (fun _=>rfl) h
theorem ev_pos {α:Type} {c:Prop} [Decidable c] {f g:Nat→Option α} {r:α} (h:c) (k:Ev f r):Ev (fun n=>if c then f n else g n) r:=by
  obtain⟨K,k⟩:=k
  exact⟨K,fun n hn=>(if_pos h).trans (k n hn)⟩
theorem ev_neg {α:Type} {c:Prop} [Decidable c] {f g:Nat→Option α} {r:α} (h: ¬c) (k:Ev g r):Ev (fun n=>if c then f n else g n) r:=by
  obtain⟨K,k⟩:=k
  exact⟨K,fun n hn=>(if_neg h).trans (k n hn)⟩
theorem ev_some {α:Type} {a r:α} (h:a=r):Ev (fun _=>some a) r:=⟨0,fun _ _=>congrArg some h⟩
theorem ev_bind {α β:Type} {x:Option α} {f:Nat→α→Option β} {a:α} {r:β} (h:x=some a) (k:Ev (fun n=>f n a) r):Ev (fun n=>x.bind (f n)) r:=by
  subst h
  exact k
theorem ev_cast {α:Type} {g:Nat→Option α} {r q:α} (h:Ev g r) (e:r=q):Ev g q:=e▸h
theorem w64s (i:Nat) (h:i<9223372036854775807):wrap64 ((i:Int)+1)=((i+1:Nat):Int):=by
  unfold wrap64
  omega
theorem w64i (x:Int) (h0: -9223372036854775808≤x) (h1:x≤9223372036854775807):wrap64 x=x:=by
  unfold wrap64
  omega
theorem getD_lt {α:Type} {l:List α} {i:Nat} (h:i<l.length) (d:α):l.getD i d=l[i]:=by
  rw [List.getD_eq_getElem?_getD,List.getElem?_eq_getElem h]
  rfl
theorem getD_some {α:Type} {l:List α} {i:Nat} {x:α} (h:l[i]? =some x) (d:α):l.getD i d=x:=by
  rw [List.getD_eq_getElem?_getD,h]
  rfl
theorem rdn (l:List Int) (i:Nat):rd l (i:Int)=l.getD i 0:=by simp [rd]
theorem drop_cons {α:Type} (l:List α) (i:Nat) (h:i<l.length) (d:α):l.drop i=l.getD i d::l.drop (i+1):=by
  rw [List.drop_eq_getElem_cons h,getD_lt h]
theorem take_snoc {α:Type} (l:List α) (i:Nat) (h:i<l.length) (d:α):l.take (i+1)=l.take i++ [l.getD i d]:=by
  rw [List.take_succ_eq_append_getElem h,getD_lt h]
theorem ba_toList (s:ByteArray):s.toList=s.data.toList:=by
  obtain⟨⟨l⟩⟩:=s
  exact ByteArray.toList_mk l
theorem ba_inj {a b:ByteArray} (h:a.toList=b.toList):a=b:=by
  rw [ba_toList,ba_toList] at h
  obtain⟨⟨l⟩⟩:=a
  obtain⟨⟨m⟩⟩:=b
  simp only at h
  subst h
  rfl
theorem ba_beq (a b:ByteArray):(a.toList==b.toList)=decide (a=b):=by
  by_cases h:a=b
  · subst h
    simp
  · rw [decide_eq_false h]
    simp only [beq_eq_false_iff_ne,ne_eq]
    exact fun e=>h (ba_inj e)
end Go.Proofs.Ytfnbodjmmkjlcaa
end
section
namespace Go.Proofs.Ytfnbodjmmkjlcaa.H
open Go.RowKit Go.Proofs.YtfnbodjmmkjlcaaW.PrintWords Go.Proofs.YtfnbodjmmkjlcaaW.PrintLast Go.Proofs.YtfnbodjmmkjlcaaW.PrintMore
attribute [local go_sem] max2_int min2_int max_two min_two max_three min_three max_four min_four
set_option linter.unusedVariables false
set_option linter.unusedSimpArgs false
def jalousieref08_side.l0:Nat→List (S47)→Int→List (S66)→Int→Option ((List (S66)))
  | 0,_,_,_,_=>none
  | k+1,x0,x1,x5,x6=>if x6<(x0.length:Int) then (if 0≤x6 then (if ((rd_T47 x0 x6).f0)=x1 then (jalousieref08_side.l0 k x0 x1 x5 (wrap64 (x6+1))) else (if x5.length+((rd_T47 x0 x6).f1).length<5864062014805 then (jalousieref08_side.l0 k x0 x1 (x5++((rd_T47 x0 x6).f1)) (wrap64 (x6+1))) else (none))) else (none)) else (some x5)
def jalousieref08_side.f (k:Nat) (l0:List (S47)) (a1:Int):Option ((List (S66))):=jalousieref08_side.l0 k l0 a1 (([]:List (S66))) 0
end Go.Proofs.Ytfnbodjmmkjlcaa.H
end
section
namespace Go.Proofs.Ytfnbodjmmkjlcaa.H
open Go.RowKit Go.Proofs.YtfnbodjmmkjlcaaW.PrintWords Go.Proofs.YtfnbodjmmkjlcaaW.PrintLast Go.Proofs.YtfnbodjmmkjlcaaW.PrintMore
attribute [local go_sem] max2_int min2_int max_two min_two max_three min_three max_four min_four
set_option linter.unusedVariables false
set_option linter.unusedSimpArgs false
def jalousieref08_Sides.f (k:Nat) (l0:List (S47)):Option ((List (S66))×(List (S66))×Int):=(jalousieref08_Check.f k l0).bind fun t275=>(if t275=0 then ((jalousieref08_side.f k l0 3).bind fun t276=>((jalousieref08_side.f k l0 2).bind fun t279=>(some (t276,t279,0)))) else (some (([]:List (S66)),([]:List (S66)),t275)))
end Go.Proofs.Ytfnbodjmmkjlcaa.H
end
section
namespace Go.Proofs.Ytfnbodjmmkjlcaa.H
open Go.RowKit Go.Proofs.YtfnbodjmmkjlcaaW.PrintWords Go.Proofs.YtfnbodjmmkjlcaaW.PrintLast Go.Proofs.YtfnbodjmmkjlcaaW.PrintMore
attribute [local go_sem] max2_int min2_int max_two min_two max_three min_three max_four min_four
set_option linter.unusedVariables false
set_option linter.unusedSimpArgs false
def jalousieref08_Changed.l0:Nat→List (S47)→Int→Int→Option (Int)
  | 0,_,_,_=>none
  | k+1,x0,x3,x4=>if x4<(x0.length:Int) then (if 0≤x4 then (if ((rd_T47 x0 x4).f0)=2 then (jalousieref08_Changed.l0 k x0 (wrap64 (x3+(((rd_T47 x0 x4).f1).length:Int))) (wrap64 (x4+1))) else (if ((rd_T47 x0 x4).f0)=3 then (jalousieref08_Changed.l0 k x0 (wrap64 (x3+(((rd_T47 x0 x4).f1).length:Int))) (wrap64 (x4+1))) else (jalousieref08_Changed.l0 k x0 x3 (wrap64 (x4+1))))) else (none)) else (some x3)
def jalousieref08_Changed.f (k:Nat) (l0:List (S47)):Option (Int):=jalousieref08_Changed.l0 k l0 0 0
end Go.Proofs.Ytfnbodjmmkjlcaa.H
end
section
namespace Go.Proofs.Ytfnbodjmmkjlcaa.H
open Go.RowKit Go.Proofs.YtfnbodjmmkjlcaaW.PrintWords Go.Proofs.YtfnbodjmmkjlcaaW.PrintLast Go.Proofs.YtfnbodjmmkjlcaaW.PrintMore
attribute [local go_sem] max2_int min2_int max_two min_two max_three min_three max_four min_four
set_option linter.unusedVariables false
set_option linter.unusedSimpArgs false
mutual
def hunk_Join.l0:Nat→List (S47)→List (S44)→Int→Int→Option ((List (S47)))
  | 0,_,_,_,_=>none
  | k+1,x3,x8,x9,x10=>if x10<x9 then (if 0≤x10 then (if x10<(x8.length:Int) then (hunk_Join.l1 k x3 x8 x9 x10 ((rd_T44 x8 x10).f4) (((rd_T44 x8 x10).f4).length:Int) 0) else (none)) else (none)) else (some x3)
def hunk_Join.l1:Nat→List (S47)→List (S44)→Int→Int→List (S47)→Int→Int→Option ((List (S47)))
  | 0,_,_,_,_,_,_,_=>none
  | k+1,x3,x8,x9,x10,x15,x16,x17=>if x17<x16 then (if 0≤x17 then (if x17<(x15.length:Int) then ((api_Line_52.f ((rd_T47 x15 x17).f1)).bind fun t155=>(if x3.length<4398046511104 then (hunk_Join.l1 k (x3++ [(⟨(rd_T47 x15 x17).f0,t155⟩:S47)]) x8 x9 x10 x15 x16 (wrap64 (x17+1))) else (none))) else (none)) else (none)) else (hunk_Join.l0 k x3 x8 x9 (wrap64 (x10+1)))
end
def hunk_Join.f (k:Nat) (l0:List (S44)):Option ((List (S47))):=hunk_Join.l0 k ([]:List (S47)) l0 (l0.length:Int) 0
end Go.Proofs.Ytfnbodjmmkjlcaa.H
end
section
namespace Go.Proofs.Ytfnbodjmmkjlcaa.H
open Go.RowKit Go.Proofs.YtfnbodjmmkjlcaaW.PrintWords Go.Proofs.YtfnbodjmmkjlcaaW.PrintLast Go.Proofs.YtfnbodjmmkjlcaaW.PrintMore
attribute [local go_sem] max2_int min2_int max_two min_two max_three min_three max_four min_four
set_option linter.unusedVariables false
set_option linter.unusedSimpArgs false
def hunk_Build.takep (k c:Nat) (s:hunk_Build.St) (x:S47) (last:Bool):Option hunk_Build.St:=
  if x.f0=1 then
    (if s.now.length=0 then some ⟨s.out,s.now,x.f1⟩
    else if last=true∨2*c<x.f1.length then (hunk_Build.hk k (s.now++hunk_Build.trail c x.f1)).bind fun h=>some ⟨s.out++ [h],[],x.f1⟩
    else some ⟨s.out,s.now++ [x],s.ah⟩)
  else if s.now.length=0 then some ⟨s.out,s.now++hunk_Build.lead c s.ah++ [x],[]⟩
  else some ⟨s.out,s.now++ [x],s.ah⟩
end Go.Proofs.Ytfnbodjmmkjlcaa.H
end
section
namespace Go.Proofs.Ytfnbodjmmkjlcaa.H
open Go.RowKit Go.Proofs.YtfnbodjmmkjlcaaW.PrintWords Go.Proofs.YtfnbodjmmkjlcaaW.PrintLast Go.Proofs.YtfnbodjmmkjlcaaW.PrintMore
attribute [local go_sem] max2_int min2_int max_two min_two max_three min_three max_four min_four
set_option linter.unusedVariables false
set_option linter.unusedSimpArgs false
def hunk_Build.allp (k c:Nat):List S47→hunk_Build.St→Option hunk_Build.St
  | [],s=>some s
  | x::xs,s=>(hunk_Build.takep k c s x xs.isEmpty).bind (hunk_Build.allp k c xs)
def hunk_Build.fin (k:Nat) (s:hunk_Build.St):Option (List S44):=if 0<s.now.length then (hunk_Build.hk k s.now).bind fun h=>some (s.out++ [h]) else some s.out
end Go.Proofs.Ytfnbodjmmkjlcaa.H
end
section
namespace Go.Proofs.Ytfnbodjmmkjlcaa.H
open Go.RowKit Go.Proofs.YtfnbodjmmkjlcaaW.PrintWords Go.Proofs.YtfnbodjmmkjlcaaW.PrintLast Go.Proofs.YtfnbodjmmkjlcaaW.PrintMore
attribute [local go_sem] max2_int min2_int max_two min_two max_three min_three max_four min_four
set_option linter.unusedVariables false
set_option linter.unusedSimpArgs false
mutual
def jalousieref09_Check.l0:Nat→List (S44)→Int→Option (Int)
 | 0,_,_=>none
 | k+1,x0,x3=>if x3<(x0.length:Int) then (if 0≤x3 then ((jalousieref08_Check.f k ((rd_T44 x0 x3).f4)).bind fun t287=>(if t287=4 then (some 4) else (jalousieref09_Check.l0 k x0 (wrap64 (x3+1))))) else (none)) else (jalousieref09_Check.l1 k x0 0)
def jalousieref09_Check.l1:Nat→List (S44)→Int→Option (Int)
 | 0,_,_=>none
 | k+1,x0,x4=>if x4<(x0.length:Int) then (if 0≤x4 then ((jalousieref08_Normal.f k ((rd_T44 x0 x4).f4)).bind fun bt290=>(if bt290.2=0 then ((jalousieref08_Same.f k bt290.1 ((rd_T44 x0 x4).f4)).bind fun t294=>(if t294=true then ((jalousieref08_Changed.f k bt290.1).bind fun t295=>(jalousieref09_Check.j2 k x0 x4 bt290.1 (t295==0) ((rd_T44 x0 x4).f0) ((rd_T44 x0 x4).f1) ((rd_T44 x0 x4).f2) ((rd_T44 x0 x4).f3) ((rd_T44 x0 x4).f4))) else (jalousieref09_Check.j2 k x0 x4 bt290.1 true ((rd_T44 x0 x4).f0) ((rd_T44 x0 x4).f1) ((rd_T44 x0 x4).f2) ((rd_T44 x0 x4).f3) ((rd_T44 x0 x4).f4)))) else (jalousieref09_Check.j2 k x0 x4 bt290.1 true ((rd_T44 x0 x4).f0) ((rd_T44 x0 x4).f1) ((rd_T44 x0 x4).f2) ((rd_T44 x0 x4).f3) ((rd_T44 x0 x4).f4)))) else (none)) else (some 0)
def jalousieref09_Check.j2:Nat→List (S44)→Int→List (S47)→Bool→Int→Int→Int→Int→List (S47)→Option (Int)
 | 0,_,_,_,_,_,_,_,_,_=>none
 | k+1,x0,x4,x6,x58,x290000,x290001,x290002,x290003,x290004=>if x58=true then (some 3) else ((jalousieref08_Sides.f k x6).bind fun bt296=>(if x290001=(bt296.1.length:Int) then (if x290003=(bt296.2.1.length:Int) then (if x290001>400 then (jalousieref09_Check.j3 k x0 x4 true x290000 x290001 x290002 x290003 x290004) else (if x290003>400 then (jalousieref09_Check.j3 k x0 x4 true x290000 x290001 x290002 x290003 x290004) else (if x290000<0 then (jalousieref09_Check.j3 k x0 x4 true x290000 x290001 x290002 x290003 x290004) else (if x290000>400 then (jalousieref09_Check.j3 k x0 x4 true x290000 x290001 x290002 x290003 x290004) else (if x290002<0 then (jalousieref09_Check.j3 k x0 x4 true x290000 x290001 x290002 x290003 x290004) else (jalousieref09_Check.j3 k x0 x4 (decide (x290002>400)) x290000 x290001 x290002 x290003 x290004)))))) else (jalousieref09_Check.j3 k x0 x4 true x290000 x290001 x290002 x290003 x290004)) else (jalousieref09_Check.j3 k x0 x4 true x290000 x290001 x290002 x290003 x290004)))
def jalousieref09_Check.j3:Nat→List (S44)→Int→Bool→Int→Int→Int→Int→List (S47)→Option (Int)
 | 0,_,_,_,_,_,_,_,_=>none
 | k+1,x0,x4,x106,x290000,x290001,x290002,x290003,x290004=>if x106=true then (some 3) else (if x4>0 then (if 0≤(wrap64 (x4-1)) then (if (wrap64 (x4-1))<(x0.length:Int) then (if x290000<(wrap64 (((rd_T44 x0 (wrap64 (x4-1))).f0)+((rd_T44 x0 (wrap64 (x4-1))).f1))) then (some 3) else (if (wrap64 (x290000-(wrap64 (((rd_T44 x0 (wrap64 (x4-1))).f0)+((rd_T44 x0 (wrap64 (x4-1))).f1)))))=(wrap64 (x290002-(wrap64 (((rd_T44 x0 (wrap64 (x4-1))).f2)+((rd_T44 x0 (wrap64 (x4-1))).f3))))) then (jalousieref09_Check.l1 k x0 (wrap64 (x4+1))) else (some 3))) else (none)) else (none)) else (if x290000<0 then (some 3) else (if (wrap64 (x290000-0))=(wrap64 (x290002-0)) then (jalousieref09_Check.l1 k x0 (wrap64 (x4+1))) else (some 3))))
end
end Go.Proofs.Ytfnbodjmmkjlcaa.H
end
