/-
  What the claim needs of the words, of the walks and of the plain proofs, in one row (6).
-/
import Derived.Shelf.Small.Strs
import Derived.Shelf.Strings.Search1
import Derived.Test.YtfnbodjmmkjlcaaProg
import Derived.Deep.RegionHeld3
import Derived.WalkLawsBesides
import Derived.WalkSpells
import Derived.RangeFuncNested
import Derived.RangeFuncBound
import Derived.RangeFuncCalls
import Derived.RangeFuncLeaves
import Derived.RangeFuncBox
import Derived.RangeFuncMany
import Derived.Shelf.Abstract
import Derived.OwnWalkIn
import Derived.TacticsInMore
import Derived.LoopNIn
import Derived.LoopIn
import Derived.Test.YtfnbodjmmkjlcaaZ0
import Derived.Test.YtfnbodjmmkjlcaaZ1
import Derived.Test.YtfnbodjmmkjlcaaZ2
import Derived.Test.YtfnbodjmmkjlcaaZ3
import Derived.Test.YtfnbodjmmkjlcaaZ4
import Derived.Test.YtfnbodjmmkjlcaaZ5
section
namespace Go.Proofs.Ytfnbodjmmkjlcaa.H
open Go.RowKit Go.Proofs.YtfnbodjmmkjlcaaW.PrintWords Go.Proofs.YtfnbodjmmkjlcaaW.PrintLast Go.Proofs.YtfnbodjmmkjlcaaW.PrintMore
attribute [local go_sem] max2_int min2_int max_two min_two max_three min_three max_four min_four
set_option linter.unusedVariables false
set_option linter.unusedSimpArgs false
def hunk_Whole.l0:Nat→List (S66)→List (S47)→Int→List (S44)→Int→Int→Option ((List (S47))×Int)
 | 0,_,_,_,_,_,_=>none
 | k+1,x1,x7,x8,x23,x24,x25=>if x25<x24 then (if 0≤x25 then (if x25<(x23.length:Int) then ((script_Sides.f k ((rd_T44 x23 x25).f4)).bind fun bt178=>(if (wrap64 (((rd_T44 x23 x25).f0)+((rd_T44 x23 x25).f1)))>(x1.length:Int) then (some (([]:List (S47)),8)) else (if 0≤((rd_T44 x23 x25).f0) then (if ((rd_T44 x23 x25).f0)≤(wrap64 (((rd_T44 x23 x25).f0)+((rd_T44 x23 x25).f1))) then (if (wrap64 (((rd_T44 x23 x25).f0)+((rd_T44 x23 x25).f1)))≤(x1.length:Int) then ((api_Line_56.f k bt178.1 ((x1.take ((wrap64 (((rd_T44 x23 x25).f0)+((rd_T44 x23 x25).f1))):Int).toNat).drop (((rd_T44 x23 x25).f0):Int).toNat)).bind fun t190=>(if t190=true then (if 0≤x8 then (if x8≤((rd_T44 x23 x25).f0) then (if ((rd_T44 x23 x25).f0)≤(x1.length:Int) then (if x7.length<4398046511104 then ((some (x7++ [(⟨1,((x1.take (((rd_T44 x23 x25).f0):Int).toNat).drop (x8:Int).toNat)⟩:S47)]:List (S47))).bind fun y196=>(if y196.length+((rd_T44 x23 x25).f4).length<4398046511104 then (hunk_Whole.l0 k x1 (y196++((rd_T44 x23 x25).f4)) (wrap64 (((rd_T44 x23 x25).f0)+((rd_T44 x23 x25).f1))) x23 x24 (wrap64 (x25+1))) else (none))) else (none)) else (none)) else (none)) else (none)) else (some (([]:List (S47)),8)))) else (none)) else (none)) else (none)))) else (none)) else (none)) else (if 0≤x8 then (if x8≤(x1.length:Int) then (if x7.length<4398046511104 then ((script_Normal.f k (x7++ [(⟨1,(x1.drop (x8:Int).toNat)⟩:S47)])).bind fun bt172=>(some (bt172.1,bt172.2))) else (none)) else (none)) else (none))
def hunk_Whole.f (k:Nat) (l0:List (S44)) (l1:List (S66)):Option ((List (S47))×Int):=(hunk_Check.f k l0).bind fun t163=>(if t163=0 then (if (l1.length:Int)>400 then (some (([]:List (S47)),4)) else (hunk_Whole.l0 k l1 ([]:List (S47)) 0 l0 (l0.length:Int) 0)) else (some (([]:List (S47)),t163)))
theorem hunk_Whole.mono_l: ∀k,(∀y0 y1 y2 y3 y4 y5,LeO (hunk_Whole.l0 k y0 y1 y2 y3 y4 y5) (hunk_Whole.l0 (k+1) y0 y1 y2 y3 y4 y5))
 | 0=>fun _ _ _ _ _ _ r h=>by simp [hunk_Whole.l0] at h
 | k+1=>by
  have ih0:=hunk_Whole.mono_l k
  ·intro y0 y1 y2 y3 y4 y5
   unfold hunk_Whole.l0
   repeat' first
   | (with_reducible exact ih0 _ _ _ _ _ _)
   | (with_reducible exact api_Line_56.mono _ _ _)
   | (with_reducible exact hunk_Check.mono _ _)
   | (with_reducible exact script_Normal.mono _ _)
   | (with_reducible exact script_Sides.mono _ _)
   | (with_reducible exact LeO.refl _)
   | (with_reducible exact LeO.none _)
   | (with_reducible refine LeO.ite ?_ ?_)
   | (with_reducible refine LeO.bind ?_ (fun _=>?_))
   | exact ih0 _ _ _ _ _ _
   | exact api_Line_56.mono _ _ _
   | exact hunk_Check.mono _ _
   | exact script_Normal.mono _ _
   | exact script_Sides.mono _ _
   | exact LeO.none _
   | refine LeO.ite ?_ ?_
   | refine LeO.bind ?_ (fun _=>?_)
theorem hunk_Whole.mono: ∀a0 a1 k,LeO (hunk_Whole.f k a0 a1) (hunk_Whole.f (k+1) a0 a1):=by
 intro a0 a1 k
 have ih0:=hunk_Whole.mono_l k
 unfold hunk_Whole.f
 repeat' first
   | (with_reducible exact ih0 _ _ _ _ _ _)
   | (with_reducible exact api_Line_56.mono _ _ _)
   | (with_reducible exact hunk_Check.mono _ _)
   | (with_reducible exact script_Normal.mono _ _)
   | (with_reducible exact script_Sides.mono _ _)
   | (with_reducible exact LeO.refl _)
   | (with_reducible exact LeO.none _)
   | (with_reducible refine LeO.ite ?_ ?_)
   | (with_reducible refine LeO.bind ?_ (fun _=>?_))
   | exact ih0 _ _ _ _ _ _
   | exact api_Line_56.mono _ _ _
   | exact hunk_Check.mono _ _
   | exact script_Normal.mono _ _
   | exact script_Sides.mono _ _
   | exact LeO.none _
   | refine LeO.ite ?_ ?_
   | refine LeO.bind ?_ (fun _=>?_)
def hunk_Whole.T15:Bool×List (List Nat×List Nat):=(true,[([],[]),([],[]),([],[]),([],[]),([3],[3]),([],[]),([5],[5]),([1,2,4,6],[1,2,4,6]),([7],[7]),([8],[8]),([0,9],[0,9]),([],[]),([11],[11]),([10,12,10],[10,12]),([13,13,0,1,2,3,4,5,6,7,8,9,10,11,12,13],[0,13])])
def hunk_Whole.B15:List Nat:= [0,0,0,0,8,0,32,126,254,510,1023,0,2048,8191,16383]
theorem hunk_Whole.tab15:rtab .any (opsOf Try.f25 15)=hunk_Whole.T15:=by kernel_rfl
theorem hunk_Whole.bits15:waitsOk hunk_Whole.T15.2 hunk_Whole.B15=true:=by kernel_rfl
set_option maxHeartbeats 8000000 in
set_option maxRecDepth 100000 in
theorem hunk_Whole.calls (k:Nat) (P0_:Nat→Prop) (A0:Option Addr) (c0:Nat) (l0:List (S44)) (P1_:Nat→Prop) (A1:Option Addr) (c1:Nat) (l1:List (S66)) (r1:List (S47)) (r2:Int) (w:World) (hs0:Kd.V k44 44 w w.heap.size (fun k_=>P0_ k_) (.slice A0 l0.length c0) l0) (hs1:Kd.V k66 66 w w.heap.size (fun k_=>P1_ k_) (.slice A1 l1.length c1) l1) (h:hunk_Whole.f k l0 l1=some (r1,r2)):
  Calls Try.prog 25 #[.slice A0 l0.length c0, .slice A1 l1.length c1] w fun e w'=> ∃v0_:Value,e= .returned (.tuple #[v0_, .int .i64 r2])∧Kd.N k47 47 w' w.heap.size (fun k_=>((P0_ k_∨P1_ k_)∨w.heap.size≤k_)) v0_ r1∧Below w.heap.size w w':=by
 have hu44:=Try.underlying44
 have hu47:=Try.underlying47
 have HO0:=Aside0.mk (show Kd.V k44 44 w w.heap.size (fun k_=>((P0_ k_∨P1_ k_)∨w.heap.size≤k_)) (.slice A0 l0.length c0) l0 from Kd.V_mono hs0 (fun k_ hk=> .inl (.inl hk)))
 have HO1:=Aside0.mk (show Kd.V k66 66 w w.heap.size (fun k_=>((P0_ k_∨P1_ k_)∨w.heap.size≤k_)) (.slice A1 l1.length c1) l1 from Kd.V_mono hs1 (fun k_ hk=> .inl (.inr hk)))
 have HB:=Aside0.mk (Below.refl w.heap.size w)
 have H:((hunk_Check.f k l0).bind fun t163=>(if t163=0 then (if (l1.length:Int)>400 then (some (([]:List (S47)),4)) else (hunk_Whole.l0 k l1 ([]:List (S47)) 0 l0 (l0.length:Int) 0)) else (some (([]:List (S47)),t163))))=some (r1,r2):=h
 clear h
 replace H:=Option.bind_eq_some_iff.mp H
 obtain⟨t163,A30,H⟩:=H
 replace H:(if t163=0 then (if (l1.length:Int)>400 then (some (([]:List (S47)),4)) else (hunk_Whole.l0 k l1 ([]:List (S47)) 0 l0 (l0.length:Int) 0)) else (some (([]:List (S47)),t163)))=some (r1,r2):=H
 have A3:=Aside0.mk A30
 clear A30
 by_cases c4:t163=0
 ·rw [if_pos c4] at H
  have c4b0:(t163==0)=true:=beq_iff_eq.mpr c4
  have c4b1:(t163 != 0)=false:=bne_eq_false_iff_eq.mpr c4
  clear c4
  by_cases c5:(l1.length:Int)>400
  ·rw [if_pos c5] at H
   have c5b0:decide (400<(l1.length:Int))=true:=decide_eq_true c5
   have c5b1:decide (400<l1.length)=true:=decide_eq_true (by omega)
   clear c5
   simp only [Option.some.injEq,Prod.mk.injEq] at H
   obtain⟨rfl,rfl⟩:=H
   go_enter Try.func25,Try.ntmps25
   go_wp2_with(((with_reducible refine gate_callee (f:=18) rfl ?_);refine goesL_ (some 16) rfl rfl Try.func18 (by kernel_rfl) rfl #[.slice A0 l0.length c0] rfl (by(try simp only [List.map_toArray,List.map_cons,List.map_nil]);rfl) ?_;(with_reducible refine(hunk_Check.calls k _ _ l0 t163 _ ?side1 ?side2 A3.out).mono ?_);(case side1=>repeat(exact(Kd.V_reads' HO0.out).2.2));(case side2=>exact(Kd.V_reads' HO0.out).2.1);rintro e w6 ⟨rfl,hb⟩;refine⟨_,rfl,?_⟩;have n0_:=Aside0.mk (Kd.V_below (by exact HO0.out) hb);have n1_:=Aside0.mk (Kd.V_below (by exact HO1.out) hb);have n2_:=Aside0.mk (below_step (by repeat((with_reducible exact HB.out))) hb);clear HO0;clear HO1;clear HB;have HO0:=n0_;have HO1:=n1_;have HB:=n2_;clear n0_ n1_ n2_;(try clear hb)))
   go_ret2
   exact⟨_,by rfl,by exact Kd.N_nil _ _ _ _ _,by repeat((with_reducible exact HB.out))⟩
  ·rw [if_neg c5] at H
   have c5b0:decide (400<(l1.length:Int))=false:=decide_eq_false c5
   have c5b1:decide (400<l1.length)=false:=decide_eq_false (by omega)
   clear c5
   have H':=Aside0.mk H
   clear H
   go_enter Try.func25,Try.ntmps25
   go_wp2_with(((with_reducible refine gate_callee (f:=18) rfl ?_);refine goesL_ (some 16) rfl rfl Try.func18 (by kernel_rfl) rfl #[.slice A0 l0.length c0] rfl (by(try simp only [List.map_toArray,List.map_cons,List.map_nil]);rfl) ?_;(with_reducible refine(hunk_Check.calls k _ _ l0 t163 _ ?side1 ?side2 A3.out).mono ?_);(case side1=>repeat(exact(Kd.V_reads' HO0.out).2.2));(case side2=>exact(Kd.V_reads' HO0.out).2.1);rintro e w7 ⟨rfl,hb⟩;refine⟨_,rfl,?_⟩;have n0_:=Aside0.mk (Kd.V_below (by exact HO0.out) hb);have n1_:=Aside0.mk (Kd.V_below (by exact HO1.out) hb);have n2_:=Aside0.mk (below_step (by repeat((with_reducible exact HB.out))) hb);clear HO0;clear HO1;clear HB;have HO0:=n0_;have HO1:=n1_;have HB:=n2_;clear n0_ n1_ n2_;(try clear hb)))
   go_loopg [7,8,25] k (fun kq v7 v8 v25 w'=> ∃(x7_1:List (S47)) (x8_1:Int) (x25_1:Int),v8= .int .i64 x8_1∧v25= .int .i64 x25_1∧Aside0 (hunk_Whole.l0 kq l1 x7_1 x8_1 l0 (l0.length:Int) x25_1=some (r1,r2))∧Aside0 (kq≤k)∧Aside0 (Kd.V k66 66 w' w.heap.size (fun k_=>((P0_ k_∨P1_ k_)∨w.heap.size≤k_)∧some k_≠(v7:Value).ownBlock) (.slice A1 l1.length c1) l1)∧Aside0 (Kd.N k47 47 w' w.heap.size (fun k_=>((P0_ k_∨P1_ k_)∨w.heap.size≤k_)) v7 x7_1)∧Aside0 (Kd.V k44 44 w' w.heap.size (fun k_=>((P0_ k_∨P1_ k_)∨w.heap.size≤k_)∧some k_≠(v7:Value).ownBlock) (.slice A0 l0.length c0) l0)∧Aside0 (Below w.heap.size w w'))
   case atStart=>exact⟨(([]:List (S47))),(0),(0),(by rfl),(by rfl),H',⟨Nat.le_refl _⟩,⟨by exact Kd.V_mono HO1.out (fun _ hk=>⟨hk,(by simp [Value.ownBlock])⟩)⟩,⟨by exact Kd.N_nil _ _ _ _ _⟩,⟨by exact Kd.V_mono HO0.out (fun _ hk=>⟨hk,(by simp [Value.ownBlock])⟩)⟩,⟨by repeat((with_reducible exact HB.out))⟩⟩
   case round=>
    clear H'
    try clear c4b0
    try clear c4b1
    try clear c5b0
    try clear c5b1
    obtain⟨x7_1,x8_1,x25_1,rfl,rfl,HA,HK1,HO_1,HO_7,HO_23,HB⟩:=hrel
    cases gk with
    | zero=>exact absurd HA.out (by simp [hunk_Whole.l0])
    | succ k1=>
     have H:=HA.out
     clear HA
     simp only [hunk_Whole.l0] at H
     by_cases c8:x25_1<(l0.length:Int)
     ·rw [if_pos c8] at H
      have c8b0:decide (x25_1<(l0.length:Int))=true:=decide_eq_true c8
      clear c8
      by_cases c9:0≤x25_1
      ·rw [if_pos c9] at H
       have c9b0:decide (0≤x25_1)=true:=decide_eq_true c9
       clear c9
       by_cases c10:x25_1<(l0.length:Int)
       ·rw [if_pos c10] at H
        have c10b0:decide (x25_1<(l0.length:Int))=true:=decide_eq_true c10
        clear c10
        replace H:=Option.bind_eq_some_iff.mp H
        obtain⟨⟨t178,t179,t180⟩,A110,H⟩:=H
        replace H:(if (wrap64 (((rd_T44 l0 x25_1).f0)+((rd_T44 l0 x25_1).f1)))>(l1.length:Int) then (some (([]:List (S47)),8)) else (if 0≤((rd_T44 l0 x25_1).f0) then (if ((rd_T44 l0 x25_1).f0)≤(wrap64 (((rd_T44 l0 x25_1).f0)+((rd_T44 l0 x25_1).f1))) then (if (wrap64 (((rd_T44 l0 x25_1).f0)+((rd_T44 l0 x25_1).f1)))≤(l1.length:Int) then ((api_Line_56.f k1 t178 ((l1.take ((wrap64 (((rd_T44 l0 x25_1).f0)+((rd_T44 l0 x25_1).f1))):Int).toNat).drop (((rd_T44 l0 x25_1).f0):Int).toNat)).bind fun t190=>(if t190=true then (if 0≤x8_1 then (if x8_1≤((rd_T44 l0 x25_1).f0) then (if ((rd_T44 l0 x25_1).f0)≤(l1.length:Int) then (if x7_1.length<4398046511104 then ((some (x7_1++ [(⟨1,((l1.take (((rd_T44 l0 x25_1).f0):Int).toNat).drop (x8_1:Int).toNat)⟩:S47)]:List (S47))).bind fun y196=>(if y196.length+((rd_T44 l0 x25_1).f4).length<4398046511104 then (hunk_Whole.l0 k1 l1 (y196++((rd_T44 l0 x25_1).f4)) (wrap64 (((rd_T44 l0 x25_1).f0)+((rd_T44 l0 x25_1).f1))) l0 (l0.length:Int) (wrap64 (x25_1+1))) else (none))) else (none)) else (none)) else (none)) else (none)) else (some (([]:List (S47)),8)))) else (none)) else (none)) else (none)))=some (r1,r2):=H
        have A11:=Aside0.mk A110
        clear A110
        by_cases c12:(wrap64 (((rd_T44 l0 x25_1).f0)+((rd_T44 l0 x25_1).f1)))>(l1.length:Int)
        ·rw [if_pos c12] at H
         have c12b0:decide ((l1.length:Int)<(wrap64 (((rd_T44 l0 x25_1).f0)+((rd_T44 l0 x25_1).f1))))=true:=decide_eq_true c12
         clear c12
         simp only [Option.some.injEq,Prod.mk.injEq] at H
         obtain⟨rfl,rfl⟩:=H
         have p176:0≤(x25_1:Int):=of_decide_eq_true (by(with_reducible assumption))
         have q176:x25_1<(l0.length:Int):=of_decide_eq_true (by(with_reducible assumption))
         obtain⟨ad176,A176_4,c176_4,e176,hx176_0,hx176_1,hx176_2,hx176_3,hx176_4,hl176_4,hi176_4⟩:=at_T44 (Kd.V_reads' HO_23.out).2.2 x25_1 p176 q176
         cases e176
         obtain⟨ce176,hce176,hMe176,hcc176⟩:=Kd.V_get HO_23.out z44 x25_1 p176 (by exact q176)
         obtain⟨ua176_4,uc176_4,rfl,ul176_4,ge176_4⟩:=k44_openF hMe176
         have hv176_4:=hcc176 4 _ rfl
         rw [add_field _ _ 4 (by omega)] at hv176_4
         replace hv176_4:=Option.some.inj (hv176_4.symm.trans hx176_4)
         injection hv176_4 with hva_ hvn_ hvc_
         rw [hva_] at ge176_4
         rw [hvc_] at ul176_4
         have HL176_4:=Aside0.mk (show Kd.V k47 47 _ w.heap.size _ _ ((rd_T44 l0 x25_1).f4) from Kd.V_mk ul176_4 ge176_4)
         clear hva_ hvn_ hvc_ ge176_4 ul176_4
         clear hcc176 hce176
         have HR176_4:=Aside0.mk hi176_4
         have HC176_4:=Aside0.mk hl176_4
         clear hi176_4 hl176_4
         replace p176:=eq_true p176
         replace q176:=eq_true q176
         go_wp2_with(first|((with_reducible refine gate_dst (N:=10) rfl ?_);refine box_event ?hg (N:=10) ?hd (cs:= #[.int .i64 0, .int .i64 0, .int .i64 0, .int .i64 0, .slice none 0 0]) (t:=44) ?hr ?_;(case hd=>rfl);(case hg=>rfl);(case hr=>(go_simp;done));intro gb177 hg w13 hbox hb;have n0_:=Aside0.mk (Kd.V_below (Kd.V_elderB (by exact HO_1.out) gb177 (Nat.le_of_eq hg.symm)) hb);have n1_:=Aside0.mk (Kd.N_below (Kd.N_elderB (by exact HO_7.out) gb177 (Nat.le_of_eq hg.symm)) hb);have n2_:=Aside0.mk (Kd.V_below (Kd.V_elderB (by exact HO_23.out) gb177 (Nat.le_of_eq hg.symm)) hb);have n3_:=Aside0.mk (Kd.V_below (Kd.V_elderB (by exact HL176_4.out) gb177 (Nat.le_of_eq hg.symm)) hb);have n4_:=Aside0.mk (Kd.C_below (by repeat((with_reducible exact HR176_4.out))) hb);have n5_:=Aside0.mk (below_step (by repeat((with_reducible exact HB.out))) hb);have n6_:=Aside0.mk (hbox);have n7_:=Aside0.mk ((by rw [hg];exact(below_size (by repeat((with_reducible exact HB.out)))):w.heap.size≤gb177));have n8_:=Aside0.mk ((by rw [hg];exact(below_size (by repeat((with_reducible exact HB.out)))):w.heap.size≤gb177));clear HO_1;clear HO_7;clear HO_23;clear HL176_4;clear HR176_4;clear HB;have HO_1:=n0_;have HO_7:=n1_;have HO_23:=n2_;have HL176_4:=n3_;have HR176_4:=n4_;have HB:=n5_;have BK177:=n6_;have GW177:=n7_;have GE177:=n8_;clear n0_ n1_ n2_ n3_ n4_ n5_ n6_ n7_ n8_;clear hb hbox hg;have hcz14_0:w13.cell? ⟨gb177,0,none⟩=some (.int .i64 0):=(blk_cell BK177.out 0).trans rfl;have hcz14_1:w13.cell? ⟨gb177,1,none⟩=some (.int .i64 0):=(blk_cell BK177.out 1).trans rfl;have hcz14_2:w13.cell? ⟨gb177,2,none⟩=some (.int .i64 0):=(blk_cell BK177.out 2).trans rfl;have hcz14_3:w13.cell? ⟨gb177,3,none⟩=some (.int .i64 0):=(blk_cell BK177.out 3).trans rfl;have hcz14_4:w13.cell? ⟨gb177,4,none⟩=some (.slice none 0 0):=(blk_cell BK177.out 4).trans rfl;have hfz14_0:=blk_frozen BK177.out 0;have hfz14_1:=blk_frozen BK177.out 1;have hfz14_2:=blk_frozen BK177.out 2;have hfz14_3:=blk_frozen BK177.out 3;have hfz14_4:=blk_frozen BK177.out 4)|((with_reducible refine gate_callee (f:=55) rfl ?_);refine goesL_ (some 37) rfl rfl Try.func55 (by kernel_rfl) rfl #[.slice A176_4 ((rd_T44 l0 x25_1).f4).length c176_4] rfl (by(try simp only [List.map_toArray,List.map_cons,List.map_nil]);rfl) ?_;(with_reducible refine(script_Sides.calls k1 _ _ ((rd_T44 l0 x25_1).f4) t178 t179 t180 _ ?side1 ?side2 A11.out).mono ?_);(case side1=>repeat((exact((Kd.V_reads' (by exact(Kd.V_mono (Kd.V_far (p:=⟨gb177,4,none⟩) (Kd.V_far (p:=⟨gb177,3,none⟩) (Kd.V_far (p:=⟨gb177,2,none⟩) (Kd.V_far (p:=⟨gb177,1,none⟩) (Kd.V_far (p:=⟨gb177,0,none⟩) (Kd.V_mono HL176_4.out (fun k_ hk=>(⟨hk,hk.2⟩:_∧k_≠gb177))) (fun _ hk=>hk.2) (.int .i64 ((rd_T44 l0 x25_1).f0))) (fun _ hk=>hk.2) (.int .i64 ((rd_T44 l0 x25_1).f1))) (fun _ hk=>hk.2) (.int .i64 ((rd_T44 l0 x25_1).f2))) (fun _ hk=>hk.2) (.int .i64 ((rd_T44 l0 x25_1).f3))) (fun _ hk=>hk.2) (.slice A176_4 ((rd_T44 l0 x25_1).f4).length c176_4)) (fun _ h_=>h_.1)))).2.2))));(case side2=>exact HC176_4.out);rintro e w15 ⟨v181,v183,rfl,ho0,ho1,hb⟩;refine⟨_,rfl,?_⟩;have n0_:=Aside0.mk (Kd.V_mono (Kd.V_told (Kd.V_told (Kd.V_old (by exact(Kd.V_mono (Kd.V_far (p:=⟨gb177,4,none⟩) (Kd.V_far (p:=⟨gb177,3,none⟩) (Kd.V_far (p:=⟨gb177,2,none⟩) (Kd.V_far (p:=⟨gb177,1,none⟩) (Kd.V_far (p:=⟨gb177,0,none⟩) (Kd.V_mono HO_1.out (fun k_ hk=>(⟨hk,hk.2⟩:_∧k_≠gb177))) (fun _ hk=>hk.2) (.int .i64 ((rd_T44 l0 x25_1).f0))) (fun _ hk=>hk.2) (.int .i64 ((rd_T44 l0 x25_1).f1))) (fun _ hk=>hk.2) (.int .i64 ((rd_T44 l0 x25_1).f2))) (fun _ hk=>hk.2) (.int .i64 ((rd_T44 l0 x25_1).f3))) (fun _ hk=>hk.2) (.slice A176_4 ((rd_T44 l0 x25_1).f4).length c176_4)) (fun _ h_=>h_.1))) hb) (Kd.R_base ho0)) (Kd.R_base ho1)) (fun _ h_=>h_.1));have n1_:=Aside0.mk (Kd.N_mono (Kd.N_told (Kd.N_told (Kd.N_old (by exact(Kd.N_mono (Kd.N_far (p:=⟨gb177,4,none⟩) (Kd.N_far (p:=⟨gb177,3,none⟩) (Kd.N_far (p:=⟨gb177,2,none⟩) (Kd.N_far (p:=⟨gb177,1,none⟩) (Kd.N_far (p:=⟨gb177,0,none⟩) (Kd.N_mono HO_7.out (fun k_ hk=>(⟨hk,hk.2⟩:_∧k_≠gb177))) (fun _ hk=>hk.2) (.int .i64 ((rd_T44 l0 x25_1).f0))) (fun _ hk=>hk.2) (.int .i64 ((rd_T44 l0 x25_1).f1))) (fun _ hk=>hk.2) (.int .i64 ((rd_T44 l0 x25_1).f2))) (fun _ hk=>hk.2) (.int .i64 ((rd_T44 l0 x25_1).f3))) (fun _ hk=>hk.2) (.slice A176_4 ((rd_T44 l0 x25_1).f4).length c176_4)) (fun _ h_=>h_.1))) hb) (Kd.R_base ho0)) (Kd.R_base ho1)) (fun _ h_=>h_.1));have n2_:=Aside0.mk (Kd.V_mono (Kd.V_told (Kd.V_told (Kd.V_old (by exact(Kd.V_mono (Kd.V_far (p:=⟨gb177,4,none⟩) (Kd.V_far (p:=⟨gb177,3,none⟩) (Kd.V_far (p:=⟨gb177,2,none⟩) (Kd.V_far (p:=⟨gb177,1,none⟩) (Kd.V_far (p:=⟨gb177,0,none⟩) (Kd.V_mono HO_23.out (fun k_ hk=>(⟨hk,hk.2⟩:_∧k_≠gb177))) (fun _ hk=>hk.2) (.int .i64 ((rd_T44 l0 x25_1).f0))) (fun _ hk=>hk.2) (.int .i64 ((rd_T44 l0 x25_1).f1))) (fun _ hk=>hk.2) (.int .i64 ((rd_T44 l0 x25_1).f2))) (fun _ hk=>hk.2) (.int .i64 ((rd_T44 l0 x25_1).f3))) (fun _ hk=>hk.2) (.slice A176_4 ((rd_T44 l0 x25_1).f4).length c176_4)) (fun _ h_=>h_.1))) hb) (Kd.R_base ho0)) (Kd.R_base ho1)) (fun _ h_=>h_.1));have n3_:=Aside0.mk (Kd.V_mono (Kd.V_told (Kd.V_told (Kd.V_old (by exact(Kd.V_mono (Kd.V_far (p:=⟨gb177,4,none⟩) (Kd.V_far (p:=⟨gb177,3,none⟩) (Kd.V_far (p:=⟨gb177,2,none⟩) (Kd.V_far (p:=⟨gb177,1,none⟩) (Kd.V_far (p:=⟨gb177,0,none⟩) (Kd.V_mono HL176_4.out (fun k_ hk=>(⟨hk,hk.2⟩:_∧k_≠gb177))) (fun _ hk=>hk.2) (.int .i64 ((rd_T44 l0 x25_1).f0))) (fun _ hk=>hk.2) (.int .i64 ((rd_T44 l0 x25_1).f1))) (fun _ hk=>hk.2) (.int .i64 ((rd_T44 l0 x25_1).f2))) (fun _ hk=>hk.2) (.int .i64 ((rd_T44 l0 x25_1).f3))) (fun _ hk=>hk.2) (.slice A176_4 ((rd_T44 l0 x25_1).f4).length c176_4)) (fun _ h_=>h_.1))) hb) (Kd.R_base ho0)) (Kd.R_base ho1)) (fun _ h_=>h_.1));have n4_:=Aside0.mk (Kd.R_lower (Kd.R_newM (M:=fun k_=>(w.heap.size≤k_)) ho0 (below_size (by repeat((with_reducible first|exact HB.out|refine below_set ?_ GE177.out)))) (fun k_ h_=>h_)) (below_size (by repeat((with_reducible first|exact HB.out|refine below_set ?_ GE177.out)))));have n5_:=Aside0.mk (Kd.R_lower (Kd.R_newM (M:=fun k_=>(w.heap.size≤k_)) ho1 (below_size (by repeat((with_reducible first|exact HB.out|refine below_set ?_ GE177.out)))) (fun k_ h_=>h_)) (below_size (by repeat((with_reducible first|exact HB.out|refine below_set ?_ GE177.out)))));have n6_:=Aside0.mk (Kd.C_below ((Kd.V_reads' (by exact(Kd.V_mono (Kd.V_far (p:=⟨gb177,4,none⟩) (Kd.V_far (p:=⟨gb177,3,none⟩) (Kd.V_far (p:=⟨gb177,2,none⟩) (Kd.V_far (p:=⟨gb177,1,none⟩) (Kd.V_far (p:=⟨gb177,0,none⟩) (Kd.V_mono HL176_4.out (fun k_ hk=>(⟨hk,hk.2⟩:_∧k_≠gb177))) (fun _ hk=>hk.2) (.int .i64 ((rd_T44 l0 x25_1).f0))) (fun _ hk=>hk.2) (.int .i64 ((rd_T44 l0 x25_1).f1))) (fun _ hk=>hk.2) (.int .i64 ((rd_T44 l0 x25_1).f2))) (fun _ hk=>hk.2) (.int .i64 ((rd_T44 l0 x25_1).f3))) (fun _ hk=>hk.2) (.slice A176_4 ((rd_T44 l0 x25_1).f4).length c176_4)) (fun _ h_=>h_.1)))).2.2) hb);have n7_:=Aside0.mk (blk_below (g:=gb177) (o:= .cells #[.int .i64 ((rd_T44 l0 x25_1).f0), .int .i64 ((rd_T44 l0 x25_1).f1), .int .i64 ((rd_T44 l0 x25_1).f2), .int .i64 ((rd_T44 l0 x25_1).f3), .slice A176_4 ((rd_T44 l0 x25_1).f4).length c176_4] 44 (0,0)) (by refine blk_put (cs:= #[.int .i64 ((rd_T44 l0 x25_1).f0), .int .i64 ((rd_T44 l0 x25_1).f1), .int .i64 ((rd_T44 l0 x25_1).f2), .int .i64 ((rd_T44 l0 x25_1).f3), .slice none 0 0]) ?_ 4 _ rfl;refine blk_put (cs:= #[.int .i64 ((rd_T44 l0 x25_1).f0), .int .i64 ((rd_T44 l0 x25_1).f1), .int .i64 ((rd_T44 l0 x25_1).f2), .int .i64 0, .slice none 0 0]) ?_ 3 _ rfl;refine blk_put (cs:= #[.int .i64 ((rd_T44 l0 x25_1).f0), .int .i64 ((rd_T44 l0 x25_1).f1), .int .i64 0, .int .i64 0, .slice none 0 0]) ?_ 2 _ rfl;refine blk_put (cs:= #[.int .i64 ((rd_T44 l0 x25_1).f0), .int .i64 0, .int .i64 0, .int .i64 0, .slice none 0 0]) ?_ 1 _ rfl;refine blk_put (cs:= #[.int .i64 0, .int .i64 0, .int .i64 0, .int .i64 0, .slice none 0 0]) ?_ 0 _ rfl;exact BK177.out) hb);have n8_:=Aside0.mk (below_step (by repeat((with_reducible first|exact HB.out|refine below_set ?_ GE177.out))) hb);clear HO_1;clear HO_7;clear HO_23;clear HL176_4;clear HR176_4;clear BK177;clear HB;have HO_1:=n0_;have HO_7:=n1_;have HO_23:=n2_;have HL176_4:=n3_;have HO182:=n4_;have HO184:=n5_;have HR176_4:=n6_;have BK177:=n7_;have HB:=n8_;clear n0_ n1_ n2_ n3_ n4_ n5_ n6_ n7_ n8_;(try clear hb);(try clear ho0);(try clear ho1)))
         go_ret2
         exact⟨_,by rfl,by exact Kd.N_nil _ _ _ _ _,by repeat((with_reducible exact HB.out))⟩
        ·rw [if_neg c12] at H
         have c12b0:decide ((l1.length:Int)<(wrap64 (((rd_T44 l0 x25_1).f0)+((rd_T44 l0 x25_1).f1))))=false:=decide_eq_false c12
         clear c12
         by_cases c16:0≤((rd_T44 l0 x25_1).f0)
         ·rw [if_pos c16] at H
          have c16b0:=eq_true c16
          have c16b1:decide (0≤((rd_T44 l0 x25_1).f0))=true:=decide_eq_true c16
          clear c16
          by_cases c17:((rd_T44 l0 x25_1).f0)≤(wrap64 (((rd_T44 l0 x25_1).f0)+((rd_T44 l0 x25_1).f1)))
          ·rw [if_pos c17] at H
           have c17b0:=eq_true c17
           have c17b1:decide (((rd_T44 l0 x25_1).f0)≤(wrap64 (((rd_T44 l0 x25_1).f0)+((rd_T44 l0 x25_1).f1))))=true:=decide_eq_true c17
           by_cases c18:(wrap64 (((rd_T44 l0 x25_1).f0)+((rd_T44 l0 x25_1).f1)))≤(l1.length:Int)
           ·rw [if_pos c18] at H
            have c18b0:=eq_true c18
            have c18b1:decide ((wrap64 (((rd_T44 l0 x25_1).f0)+((rd_T44 l0 x25_1).f1)))≤(l1.length:Int))=true:=decide_eq_true c18
            obtain⟨y185,hy185⟩: ∃y_:List (S66),y_=((l1.take ((wrap64 (((rd_T44 l0 x25_1).f0)+((rd_T44 l0 x25_1).f1))):Int).toNat).drop (((rd_T44 l0 x25_1).f0):Int).toNat):=⟨_,rfl⟩
            replace H:((api_Line_56.f k1 t178 y185).bind fun t190=>(if t190=true then (if 0≤x8_1 then (if x8_1≤((rd_T44 l0 x25_1).f0) then (if ((rd_T44 l0 x25_1).f0)≤(l1.length:Int) then (if x7_1.length<4398046511104 then ((some (x7_1++ [(⟨1,((l1.take (((rd_T44 l0 x25_1).f0):Int).toNat).drop (x8_1:Int).toNat)⟩:S47)]:List (S47))).bind fun y196=>(if y196.length+((rd_T44 l0 x25_1).f4).length<4398046511104 then (hunk_Whole.l0 k1 l1 (y196++((rd_T44 l0 x25_1).f4)) (wrap64 (((rd_T44 l0 x25_1).f0)+((rd_T44 l0 x25_1).f1))) l0 (l0.length:Int) (wrap64 (x25_1+1))) else (none))) else (none)) else (none)) else (none)) else (none)) else (some (([]:List (S47)),8))))=some (r1,r2):=by(rw [hy185];with_reducible exact H)
            have Ny185:=Aside0.mk hy185
            clear hy185
            replace H:=Option.bind_eq_some_iff.mp H
            obtain⟨t190,A190,H⟩:=H
            replace H:(if t190=true then (if 0≤x8_1 then (if x8_1≤((rd_T44 l0 x25_1).f0) then (if ((rd_T44 l0 x25_1).f0)≤(l1.length:Int) then (if x7_1.length<4398046511104 then ((some (x7_1++ [(⟨1,((l1.take (((rd_T44 l0 x25_1).f0):Int).toNat).drop (x8_1:Int).toNat)⟩:S47)]:List (S47))).bind fun y196=>(if y196.length+((rd_T44 l0 x25_1).f4).length<4398046511104 then (hunk_Whole.l0 k1 l1 (y196++((rd_T44 l0 x25_1).f4)) (wrap64 (((rd_T44 l0 x25_1).f0)+((rd_T44 l0 x25_1).f1))) l0 (l0.length:Int) (wrap64 (x25_1+1))) else (none))) else (none)) else (none)) else (none)) else (none)) else (some (([]:List (S47)),8)))=some (r1,r2):=H
            have A19:=Aside0.mk A190
            clear A190
            by_cases c20:t190=true
            ·subst c20
             have H1:(if 0≤x8_1 then (if x8_1≤((rd_T44 l0 x25_1).f0) then (if ((rd_T44 l0 x25_1).f0)≤(l1.length:Int) then (if x7_1.length<4398046511104 then ((some (x7_1++ [(⟨1,((l1.take (((rd_T44 l0 x25_1).f0):Int).toNat).drop (x8_1:Int).toNat)⟩:S47)]:List (S47))).bind fun y196=>(if y196.length+((rd_T44 l0 x25_1).f4).length<4398046511104 then (hunk_Whole.l0 k1 l1 (y196++((rd_T44 l0 x25_1).f4)) (wrap64 (((rd_T44 l0 x25_1).f0)+((rd_T44 l0 x25_1).f1))) l0 (l0.length:Int) (wrap64 (x25_1+1))) else (none))) else (none)) else (none)) else (none)) else (none))=some (r1,r2):=by rw [if_pos rfl] at H;exact H
             clear H
             have H:=H1
             clear H1
             by_cases c21:0≤x8_1
             ·rw [if_pos c21] at H
              have c21b0:=eq_true c21
              have c21b1:decide (0≤x8_1)=true:=decide_eq_true c21
              clear c21
              by_cases c22:x8_1≤((rd_T44 l0 x25_1).f0)
              ·rw [if_pos c22] at H
               have c22b0:=eq_true c22
               have c22b1:decide (x8_1≤((rd_T44 l0 x25_1).f0))=true:=decide_eq_true c22
               clear c22
               by_cases c23:((rd_T44 l0 x25_1).f0)≤(l1.length:Int)
               ·rw [if_pos c23] at H
                have c23b0:=eq_true c23
                have c23b1:decide (((rd_T44 l0 x25_1).f0)≤(l1.length:Int))=true:=decide_eq_true c23
                clear c23
                obtain⟨y191,hy191⟩: ∃y_:List (S66),y_=((l1.take (((rd_T44 l0 x25_1).f0):Int).toNat).drop (x8_1:Int).toNat):=⟨_,rfl⟩
                replace H:(if x7_1.length<4398046511104 then ((some (x7_1++ [(⟨1,y191⟩:S47)]:List (S47))).bind fun y196=>(if y196.length+((rd_T44 l0 x25_1).f4).length<4398046511104 then (hunk_Whole.l0 k1 l1 (y196++((rd_T44 l0 x25_1).f4)) (wrap64 (((rd_T44 l0 x25_1).f0)+((rd_T44 l0 x25_1).f1))) l0 (l0.length:Int) (wrap64 (x25_1+1))) else (none))) else (none))=some (r1,r2):=by(rw [hy191];with_reducible exact H)
                have Ny191:=Aside0.mk hy191
                clear hy191
                by_cases c24:x7_1.length<4398046511104
                ·rw [if_pos c24] at H
                 have LMc24:=Aside0.mk c24
                 clear c24
                 obtain⟨y196,hy196⟩: ∃y_:List (S47),y_=(x7_1++ [(⟨1,y191⟩:S47)]):=⟨_,rfl⟩
                 replace H:(if y196.length+((rd_T44 l0 x25_1).f4).length<4398046511104 then (hunk_Whole.l0 k1 l1 (y196++((rd_T44 l0 x25_1).f4)) (wrap64 (((rd_T44 l0 x25_1).f0)+((rd_T44 l0 x25_1).f1))) l0 (l0.length:Int) (wrap64 (x25_1+1))) else (none))=some (r1,r2):=by(have H2_:=(Option.bind_some _ _).symm.trans H;rw [hy196];with_reducible exact H2_)
                 have Ny196:=Aside0.mk hy196
                 clear hy196
                 by_cases c25:y196.length+((rd_T44 l0 x25_1).f4).length<4398046511104
                 ·rw [if_pos c25] at H
                  have LMc25:=Aside0.mk c25
                  clear c25
                  obtain⟨y199,hy199⟩: ∃y_:List (S47),y_=(y196++((rd_T44 l0 x25_1).f4)):=⟨_,rfl⟩
                  replace H:(hunk_Whole.l0 k1 l1 y199 (wrap64 (((rd_T44 l0 x25_1).f0)+((rd_T44 l0 x25_1).f1))) l0 (l0.length:Int) (wrap64 (x25_1+1)))=some (r1,r2):=by(rw [hy199];with_reducible exact H)
                  have Ny199:=Aside0.mk hy199
                  clear hy199
                  have H':=Aside0.mk H
                  clear H
                  have p176:0≤(x25_1:Int):=of_decide_eq_true (by(with_reducible assumption))
                  have q176:x25_1<(l0.length:Int):=of_decide_eq_true (by(with_reducible assumption))
                  obtain⟨ad176,A176_4,c176_4,e176,hx176_0,hx176_1,hx176_2,hx176_3,hx176_4,hl176_4,hi176_4⟩:=at_T44 (Kd.V_reads' HO_23.out).2.2 x25_1 p176 q176
                  cases e176
                  obtain⟨ce176,hce176,hMe176,hcc176⟩:=Kd.V_get HO_23.out z44 x25_1 p176 (by exact q176)
                  obtain⟨ua176_4,uc176_4,rfl,ul176_4,ge176_4⟩:=k44_openF hMe176
                  have hv176_4:=hcc176 4 _ rfl
                  rw [add_field _ _ 4 (by omega)] at hv176_4
                  replace hv176_4:=Option.some.inj (hv176_4.symm.trans hx176_4)
                  injection hv176_4 with hva_ hvn_ hvc_
                  rw [hva_] at ge176_4
                  rw [hvc_] at ul176_4
                  have HL176_4:=Aside0.mk (show Kd.V k47 47 _ w.heap.size _ _ ((rd_T44 l0 x25_1).f4) from Kd.V_mk ul176_4 ge176_4)
                  clear hva_ hvn_ hvc_ ge176_4 ul176_4
                  clear hcc176 hce176
                  have HR176_4:=Aside0.mk hi176_4
                  have HC176_4:=Aside0.mk hl176_4
                  clear hi176_4 hl176_4
                  replace p176:=eq_true p176
                  replace q176:=eq_true q176
                  try go_wp2_with(first|((with_reducible refine gate_dst (N:=10) rfl ?_);refine box_event ?hg (N:=10) ?hd (cs:= #[.int .i64 0, .int .i64 0, .int .i64 0, .int .i64 0, .slice none 0 0]) (t:=44) ?hr ?_;(case hd=>rfl);(case hg=>rfl);(case hr=>(go_simp;done));intro gb177 hg w26 hbox hb;have n0_:=Aside0.mk (Kd.V_below (Kd.V_elderB (by exact HO_1.out) gb177 (Nat.le_of_eq hg.symm)) hb);have n1_:=Aside0.mk (Kd.N_below (Kd.N_elderB (by exact HO_7.out) gb177 (Nat.le_of_eq hg.symm)) hb);have n2_:=Aside0.mk (Kd.V_below (Kd.V_elderB (by exact HO_23.out) gb177 (Nat.le_of_eq hg.symm)) hb);have n3_:=Aside0.mk (Kd.V_below (Kd.V_elderB (by exact HL176_4.out) gb177 (Nat.le_of_eq hg.symm)) hb);have n4_:=Aside0.mk (Kd.C_below (by repeat((with_reducible exact HR176_4.out))) hb);have n5_:=Aside0.mk (below_step (by repeat((with_reducible exact HB.out))) hb);have n6_:=Aside0.mk (hbox);have n7_:=Aside0.mk ((by rw [hg];exact(below_size (by repeat((with_reducible exact HB.out)))):w.heap.size≤gb177));have n8_:=Aside0.mk ((by rw [hg];exact(below_size (by repeat((with_reducible exact HB.out)))):w.heap.size≤gb177));clear HO_1;clear HO_7;clear HO_23;clear HL176_4;clear HR176_4;clear HB;have HO_1:=n0_;have HO_7:=n1_;have HO_23:=n2_;have HL176_4:=n3_;have HR176_4:=n4_;have HB:=n5_;have BK177:=n6_;have GW177:=n7_;have GE177:=n8_;clear n0_ n1_ n2_ n3_ n4_ n5_ n6_ n7_ n8_;clear hb hbox hg;have hcz27_0:w26.cell? ⟨gb177,0,none⟩=some (.int .i64 0):=(blk_cell BK177.out 0).trans rfl;have hcz27_1:w26.cell? ⟨gb177,1,none⟩=some (.int .i64 0):=(blk_cell BK177.out 1).trans rfl;have hcz27_2:w26.cell? ⟨gb177,2,none⟩=some (.int .i64 0):=(blk_cell BK177.out 2).trans rfl;have hcz27_3:w26.cell? ⟨gb177,3,none⟩=some (.int .i64 0):=(blk_cell BK177.out 3).trans rfl;have hcz27_4:w26.cell? ⟨gb177,4,none⟩=some (.slice none 0 0):=(blk_cell BK177.out 4).trans rfl;have hfz27_0:=blk_frozen BK177.out 0;have hfz27_1:=blk_frozen BK177.out 1;have hfz27_2:=blk_frozen BK177.out 2;have hfz27_3:=blk_frozen BK177.out 3;have hfz27_4:=blk_frozen BK177.out 4)|((with_reducible refine gate_callee (f:=55) rfl ?_);refine goesL_ (some 37) rfl rfl Try.func55 (by kernel_rfl) rfl #[.slice A176_4 ((rd_T44 l0 x25_1).f4).length c176_4] rfl (by(try simp only [List.map_toArray,List.map_cons,List.map_nil]);rfl) ?_;(with_reducible refine(script_Sides.calls k1 _ _ ((rd_T44 l0 x25_1).f4) t178 t179 t180 _ ?side1 ?side2 A11.out).mono ?_);(case side1=>repeat((exact((Kd.V_reads' (by exact(Kd.V_mono (Kd.V_far (p:=⟨gb177,4,none⟩) (Kd.V_far (p:=⟨gb177,3,none⟩) (Kd.V_far (p:=⟨gb177,2,none⟩) (Kd.V_far (p:=⟨gb177,1,none⟩) (Kd.V_far (p:=⟨gb177,0,none⟩) (Kd.V_mono HL176_4.out (fun k_ hk=>(⟨hk,hk.2⟩:_∧k_≠gb177))) (fun _ hk=>hk.2) (.int .i64 ((rd_T44 l0 x25_1).f0))) (fun _ hk=>hk.2) (.int .i64 ((rd_T44 l0 x25_1).f1))) (fun _ hk=>hk.2) (.int .i64 ((rd_T44 l0 x25_1).f2))) (fun _ hk=>hk.2) (.int .i64 ((rd_T44 l0 x25_1).f3))) (fun _ hk=>hk.2) (.slice A176_4 ((rd_T44 l0 x25_1).f4).length c176_4)) (fun _ h_=>h_.1)))).2.2))));(case side2=>exact HC176_4.out);rintro e w28 ⟨v181,v183,rfl,ho0,ho1,hb⟩;refine⟨_,rfl,?_⟩;have n0_:=Aside0.mk (Kd.V_mono (Kd.V_told (Kd.V_told (Kd.V_old (by exact(Kd.V_mono (Kd.V_far (p:=⟨gb177,4,none⟩) (Kd.V_far (p:=⟨gb177,3,none⟩) (Kd.V_far (p:=⟨gb177,2,none⟩) (Kd.V_far (p:=⟨gb177,1,none⟩) (Kd.V_far (p:=⟨gb177,0,none⟩) (Kd.V_mono HO_1.out (fun k_ hk=>(⟨hk,hk.2⟩:_∧k_≠gb177))) (fun _ hk=>hk.2) (.int .i64 ((rd_T44 l0 x25_1).f0))) (fun _ hk=>hk.2) (.int .i64 ((rd_T44 l0 x25_1).f1))) (fun _ hk=>hk.2) (.int .i64 ((rd_T44 l0 x25_1).f2))) (fun _ hk=>hk.2) (.int .i64 ((rd_T44 l0 x25_1).f3))) (fun _ hk=>hk.2) (.slice A176_4 ((rd_T44 l0 x25_1).f4).length c176_4)) (fun _ h_=>h_.1))) hb) (Kd.R_base ho0)) (Kd.R_base ho1)) (fun _ h_=>h_.1));have n1_:=Aside0.mk (Kd.N_mono (Kd.N_told (Kd.N_told (Kd.N_old (by exact(Kd.N_mono (Kd.N_far (p:=⟨gb177,4,none⟩) (Kd.N_far (p:=⟨gb177,3,none⟩) (Kd.N_far (p:=⟨gb177,2,none⟩) (Kd.N_far (p:=⟨gb177,1,none⟩) (Kd.N_far (p:=⟨gb177,0,none⟩) (Kd.N_mono HO_7.out (fun k_ hk=>(⟨hk,hk.2⟩:_∧k_≠gb177))) (fun _ hk=>hk.2) (.int .i64 ((rd_T44 l0 x25_1).f0))) (fun _ hk=>hk.2) (.int .i64 ((rd_T44 l0 x25_1).f1))) (fun _ hk=>hk.2) (.int .i64 ((rd_T44 l0 x25_1).f2))) (fun _ hk=>hk.2) (.int .i64 ((rd_T44 l0 x25_1).f3))) (fun _ hk=>hk.2) (.slice A176_4 ((rd_T44 l0 x25_1).f4).length c176_4)) (fun _ h_=>h_.1))) hb) (Kd.R_base ho0)) (Kd.R_base ho1)) (fun _ h_=>h_.1));have n2_:=Aside0.mk (Kd.V_mono (Kd.V_told (Kd.V_told (Kd.V_old (by exact(Kd.V_mono (Kd.V_far (p:=⟨gb177,4,none⟩) (Kd.V_far (p:=⟨gb177,3,none⟩) (Kd.V_far (p:=⟨gb177,2,none⟩) (Kd.V_far (p:=⟨gb177,1,none⟩) (Kd.V_far (p:=⟨gb177,0,none⟩) (Kd.V_mono HO_23.out (fun k_ hk=>(⟨hk,hk.2⟩:_∧k_≠gb177))) (fun _ hk=>hk.2) (.int .i64 ((rd_T44 l0 x25_1).f0))) (fun _ hk=>hk.2) (.int .i64 ((rd_T44 l0 x25_1).f1))) (fun _ hk=>hk.2) (.int .i64 ((rd_T44 l0 x25_1).f2))) (fun _ hk=>hk.2) (.int .i64 ((rd_T44 l0 x25_1).f3))) (fun _ hk=>hk.2) (.slice A176_4 ((rd_T44 l0 x25_1).f4).length c176_4)) (fun _ h_=>h_.1))) hb) (Kd.R_base ho0)) (Kd.R_base ho1)) (fun _ h_=>h_.1));have n3_:=Aside0.mk (Kd.V_mono (Kd.V_told (Kd.V_told (Kd.V_old (by exact(Kd.V_mono (Kd.V_far (p:=⟨gb177,4,none⟩) (Kd.V_far (p:=⟨gb177,3,none⟩) (Kd.V_far (p:=⟨gb177,2,none⟩) (Kd.V_far (p:=⟨gb177,1,none⟩) (Kd.V_far (p:=⟨gb177,0,none⟩) (Kd.V_mono HL176_4.out (fun k_ hk=>(⟨hk,hk.2⟩:_∧k_≠gb177))) (fun _ hk=>hk.2) (.int .i64 ((rd_T44 l0 x25_1).f0))) (fun _ hk=>hk.2) (.int .i64 ((rd_T44 l0 x25_1).f1))) (fun _ hk=>hk.2) (.int .i64 ((rd_T44 l0 x25_1).f2))) (fun _ hk=>hk.2) (.int .i64 ((rd_T44 l0 x25_1).f3))) (fun _ hk=>hk.2) (.slice A176_4 ((rd_T44 l0 x25_1).f4).length c176_4)) (fun _ h_=>h_.1))) hb) (Kd.R_base ho0)) (Kd.R_base ho1)) (fun _ h_=>h_.1));have n4_:=Aside0.mk (Kd.R_lower (Kd.R_newM (M:=fun k_=>(w.heap.size≤k_)) ho0 (below_size (by repeat((with_reducible first|exact HB.out|refine below_set ?_ GE177.out)))) (fun k_ h_=>h_)) (below_size (by repeat((with_reducible first|exact HB.out|refine below_set ?_ GE177.out)))));have n5_:=Aside0.mk (Kd.R_lower (Kd.R_newM (M:=fun k_=>(w.heap.size≤k_)) ho1 (below_size (by repeat((with_reducible first|exact HB.out|refine below_set ?_ GE177.out)))) (fun k_ h_=>h_)) (below_size (by repeat((with_reducible first|exact HB.out|refine below_set ?_ GE177.out)))));have n6_:=Aside0.mk (Kd.C_below ((Kd.V_reads' (by exact(Kd.V_mono (Kd.V_far (p:=⟨gb177,4,none⟩) (Kd.V_far (p:=⟨gb177,3,none⟩) (Kd.V_far (p:=⟨gb177,2,none⟩) (Kd.V_far (p:=⟨gb177,1,none⟩) (Kd.V_far (p:=⟨gb177,0,none⟩) (Kd.V_mono HL176_4.out (fun k_ hk=>(⟨hk,hk.2⟩:_∧k_≠gb177))) (fun _ hk=>hk.2) (.int .i64 ((rd_T44 l0 x25_1).f0))) (fun _ hk=>hk.2) (.int .i64 ((rd_T44 l0 x25_1).f1))) (fun _ hk=>hk.2) (.int .i64 ((rd_T44 l0 x25_1).f2))) (fun _ hk=>hk.2) (.int .i64 ((rd_T44 l0 x25_1).f3))) (fun _ hk=>hk.2) (.slice A176_4 ((rd_T44 l0 x25_1).f4).length c176_4)) (fun _ h_=>h_.1)))).2.2) hb);have n7_:=Aside0.mk (blk_below (g:=gb177) (o:= .cells #[.int .i64 ((rd_T44 l0 x25_1).f0), .int .i64 ((rd_T44 l0 x25_1).f1), .int .i64 ((rd_T44 l0 x25_1).f2), .int .i64 ((rd_T44 l0 x25_1).f3), .slice A176_4 ((rd_T44 l0 x25_1).f4).length c176_4] 44 (0,0)) (by refine blk_put (cs:= #[.int .i64 ((rd_T44 l0 x25_1).f0), .int .i64 ((rd_T44 l0 x25_1).f1), .int .i64 ((rd_T44 l0 x25_1).f2), .int .i64 ((rd_T44 l0 x25_1).f3), .slice none 0 0]) ?_ 4 _ rfl;refine blk_put (cs:= #[.int .i64 ((rd_T44 l0 x25_1).f0), .int .i64 ((rd_T44 l0 x25_1).f1), .int .i64 ((rd_T44 l0 x25_1).f2), .int .i64 0, .slice none 0 0]) ?_ 3 _ rfl;refine blk_put (cs:= #[.int .i64 ((rd_T44 l0 x25_1).f0), .int .i64 ((rd_T44 l0 x25_1).f1), .int .i64 0, .int .i64 0, .slice none 0 0]) ?_ 2 _ rfl;refine blk_put (cs:= #[.int .i64 ((rd_T44 l0 x25_1).f0), .int .i64 0, .int .i64 0, .int .i64 0, .slice none 0 0]) ?_ 1 _ rfl;refine blk_put (cs:= #[.int .i64 0, .int .i64 0, .int .i64 0, .int .i64 0, .slice none 0 0]) ?_ 0 _ rfl;exact BK177.out) hb);have n8_:=Aside0.mk (below_step (by repeat((with_reducible first|exact HB.out|refine below_set ?_ GE177.out))) hb);clear HO_1;clear HO_7;clear HO_23;clear HL176_4;clear HR176_4;clear BK177;clear HB;have HO_1:=n0_;have HO_7:=n1_;have HO_23:=n2_;have HL176_4:=n3_;have HO182:=n4_;have HO184:=n5_;have HR176_4:=n6_;have BK177:=n7_;have HB:=n8_;clear n0_ n1_ n2_ n3_ n4_ n5_ n6_ n7_ n8_;(try clear hb);(try clear ho0);(try clear ho1);have hcz29_0:w28.cell? ⟨gb177,0,none⟩=some (.int .i64 ((rd_T44 l0 x25_1).f0)):=(blk_cell BK177.out 0).trans rfl;have hcz29_1:w28.cell? ⟨gb177,1,none⟩=some (.int .i64 ((rd_T44 l0 x25_1).f1)):=(blk_cell BK177.out 1).trans rfl;have hcz29_2:w28.cell? ⟨gb177,2,none⟩=some (.int .i64 ((rd_T44 l0 x25_1).f2)):=(blk_cell BK177.out 2).trans rfl;have hcz29_3:w28.cell? ⟨gb177,3,none⟩=some (.int .i64 ((rd_T44 l0 x25_1).f3)):=(blk_cell BK177.out 3).trans rfl;have hcz29_4:w28.cell? ⟨gb177,4,none⟩=some (.slice A176_4 ((rd_T44 l0 x25_1).f4).length c176_4):=(blk_cell BK177.out 4).trans rfl;have hfz29_0:=blk_frozen BK177.out 0;have hfz29_1:=blk_frozen BK177.out 1;have hfz29_2:=blk_frozen BK177.out 2;have hfz29_3:=blk_frozen BK177.out 3;have hfz29_4:=blk_frozen BK177.out 4;have q30:((wrap64 (((rd_T44 l0 x25_1).f0)+((rd_T44 l0 x25_1).f1))):Int)≤((l1.length:Int):Int):=of_decide_eq_true (by(with_reducible assumption));obtain⟨i030,hi030,_,hsz30,_⟩:=info_parts info66;have hroom30:l1.length≤c1:=(Kd.V_reads' HO_1.out).2.1;have hC30:Kd.F k66 _ _ A1 l1.length l1:=(Kd.V_at (base:=w.heap.size) HO_1.out).2.2;have ql30:(((rd_T44 l0 x25_1).f0):Int)≤((wrap64 (((rd_T44 l0 x25_1).f0)+((rd_T44 l0 x25_1).f1))):Int):=of_decide_eq_true (by(with_reducible assumption));have q030:(0:Int)≤(((rd_T44 l0 x25_1).f0):Int):=of_decide_eq_true (by(with_reducible assumption));have hcut30:=cut_mid (P:=Try.prog) 37 66 .i64 .i64 Try.underlying37 hi030 2 hsz30 A1 l1.length c1 ((rd_T44 l0 x25_1).f0) (wrap64 (((rd_T44 l0 x25_1).f0)+((rd_T44 l0 x25_1).f1))) q030 ql30 q30 hroom30;have hr30:=Kd.F_mid (lo:=(((rd_T44 l0 x25_1).f0):Int).toNat) (hi:=((wrap64 (((rd_T44 l0 x25_1).f0)+((rd_T44 l0 x25_1).f1))):Int).toNat) (c:=c1) hC30 (by omega) (by omega) hroom30;obtain⟨A30,hA30⟩: ∃A1_,A1_=(if c1=(((rd_T44 l0 x25_1).f0):Int).toNat then A1 else (A1:Option Addr).map (·.add ((((rd_T44 l0 x25_1).f0):Int).toNat*2))):=⟨_,rfl⟩;obtain⟨c30,hc30⟩: ∃c1_,c1_=c1-(((rd_T44 l0 x25_1).f0):Int).toNat:=⟨_,rfl⟩;have hy30:y185.length=((wrap64 (((rd_T44 l0 x25_1).f0)+((rd_T44 l0 x25_1).f1))):Int).toNat-(((rd_T44 l0 x25_1).f0):Int).toNat:=(by rw [Ny185.out,List.length_drop,List.length_take]<;>omega);rw [show((l1).take ((wrap64 (((rd_T44 l0 x25_1).f0)+((rd_T44 l0 x25_1).f1))):Int).toNat).drop (((rd_T44 l0 x25_1).f0):Int).toNat=y185 from Ny185.out.symm] at hr30;replace hr30:Kd.F k66 _ _ A30 y185.length y185:=(by rw [hA30];exact hr30);rw [← hy30, ← hA30, ← hc30] at hcut30;have HO189:=Aside0.mk (show Kd.V k66 66 _ w.heap.size _ (.slice A30 y185.length c30) y185 from Kd.V_mk (by rw [hy30,hc30];exact Nat.sub_le_sub_right (Nat.le_trans (by omega) hroom30) _) hr30);have HC189:=Aside0.mk (show y185.length≤c30 from by rw [hy30,hc30];exact Nat.sub_le_sub_right (Nat.le_trans (by omega) hroom30) _);clear hr30 hC30 hroom30 hi030 hsz30 hc30;have KY30:=Aside0.mk hy30;have KA30:=Aside0.mk hA30;clear hy30 hA30;replace q30:=eq_true q30;obtain⟨Ao31,co31,eo31⟩:=Kd.R_slice HO182.out;subst eo31)|(go_at_call 56;(with_reducible refine(api_Line_56.calls k1 _ _ t178 _ _ y185 true _ ?side1 ?side2 ?side3 ?side4 A19.out).mono ?_);(case side1=>repeat(exact(Kd.R_reads' HO182.out).2.2));(case side2=>exact(Kd.R_reads' HO182.out).2.1);(case side3=>repeat(exact(Kd.V_reads' HO189.out).2.2));(case side4=>exact(Kd.V_reads' HO189.out).2.1);rintro e w' ⟨rfl,⟨nd,rfl⟩⟩))
                  (try(rw [drewN_self w28];generalize hq_:World.drewN w28 _=w28;have n0_:Aside0 (Kd.V k47 47 w28 w.heap.size (fun k_=>((P0_ k_∨P1_ k_)∨w.heap.size≤k_)∧some k_≠(.slice Ao31 t178.length co31:Value).ownBlock∧some k_≠(v183:Value).ownBlock∧some k_≠(u7:Value).ownBlock∧k_≠gb177) (.slice A176_4 ((rd_T44 l0 x25_1).f4).length c176_4) ((rd_T44 l0 x25_1).f4)):=⟨by rw [← hq_];exact(by(with_reducible repeat(apply Kd.V_drewN));exact Kd.V_mono HL176_4.out (fun k_ hk=>by(try simp only [and_assoc] at hk);simp only [and_assoc,hk,ne_eq,not_false_eq_true,and_self,true_and]))⟩;have n1_:Aside0 (Kd.R k66 66 w28 w.heap.size (fun k_=>(w.heap.size≤k_)∧some k_≠(v183:Value).ownBlock) (.slice Ao31 t178.length co31) t178):=⟨by rw [← hq_];exact(by(with_reducible repeat apply zr2);exact HO182.out)⟩;have n2_:Aside0 (Kd.R k66 66 w28 w.heap.size (fun k_=>(w.heap.size≤k_)∧some k_≠(.slice Ao31 t178.length co31:Value).ownBlock) v183 t179):=⟨by rw [← hq_];exact(by(with_reducible repeat apply zr2);exact HO184.out)⟩;have n3_:Aside0 (Kd.V k66 66 w28 w.heap.size (fun k_=>((P0_ k_∨P1_ k_)∨w.heap.size≤k_)∧some k_≠(.slice Ao31 t178.length co31:Value).ownBlock∧some k_≠(v183:Value).ownBlock∧some k_≠(u7:Value).ownBlock∧k_≠gb177) (.slice A30 y185.length c30) y185):=⟨by rw [← hq_];exact(by(with_reducible repeat(apply Kd.V_drewN));exact Kd.V_mono HO189.out (fun k_ hk=>by(try simp only [and_assoc] at hk);simp only [and_assoc,hk,ne_eq,not_false_eq_true,and_self,true_and]))⟩;have n4_:Aside0 (Kd.V k66 66 w28 w.heap.size (fun k_=>((P0_ k_∨P1_ k_)∨w.heap.size≤k_)∧some k_≠(.slice Ao31 t178.length co31:Value).ownBlock∧some k_≠(v183:Value).ownBlock∧some k_≠(u7:Value).ownBlock∧k_≠gb177) (.slice A1 l1.length c1) l1):=⟨by rw [← hq_];exact(by(with_reducible repeat(apply Kd.V_drewN));exact Kd.V_mono HO_1.out (fun k_ hk=>by(try simp only [and_assoc] at hk);simp only [and_assoc,hk,ne_eq,not_false_eq_true,and_self,true_and]))⟩;have n5_:Aside0 (Kd.V k44 44 w28 w.heap.size (fun k_=>((P0_ k_∨P1_ k_)∨w.heap.size≤k_)∧some k_≠(.slice Ao31 t178.length co31:Value).ownBlock∧some k_≠(v183:Value).ownBlock∧some k_≠(u7:Value).ownBlock∧k_≠gb177) (.slice (some ad176) l0.length c0) l0):=⟨by rw [← hq_];exact(by(with_reducible repeat(apply Kd.V_drewN));exact Kd.V_mono HO_23.out (fun k_ hk=>by(try simp only [and_assoc] at hk);simp only [and_assoc,hk,ne_eq,not_false_eq_true,and_self,true_and]))⟩;have n6_:Aside0 (Kd.N k47 47 w28 w.heap.size (fun k_=>((P0_ k_∨P1_ k_)∨w.heap.size≤k_)∧some k_≠(.slice Ao31 t178.length co31:Value).ownBlock∧some k_≠(v183:Value).ownBlock∧k_≠gb177) u7 x7_1):=⟨by rw [← hq_];exact(by(with_reducible repeat(apply Kd.N_drewN));exact Kd.N_mono HO_7.out (fun k_ hk=>by(try simp only [and_assoc] at hk);simp only [and_assoc,hk,ne_eq,not_false_eq_true,and_self,true_and]))⟩;have n7_:Aside0 (w28.heap[gb177]? =some (.cells #[.int .i64 ((rd_T44 l0 x25_1).f0), .int .i64 ((rd_T44 l0 x25_1).f1), .int .i64 ((rd_T44 l0 x25_1).f2), .int .i64 ((rd_T44 l0 x25_1).f3), .slice A176_4 ((rd_T44 l0 x25_1).f4).length c176_4] 44 (0,0))):=⟨by rw [← hq_];exact(by(with_reducible repeat refine zb1 ?_ _);exact BK177.out)⟩;have n8_:Aside0 (Below w.heap.size w w28):=⟨by rw [← hq_];exact(by repeat((with_reducible first|exact HB.out|apply pw_below_drewN)))⟩;have n9_:Aside0 (Kd.C k47 w28 A176_4 ((rd_T44 l0 x25_1).f4).length ((rd_T44 l0 x25_1).f4)):=⟨by rw [← hq_];exact(by repeat(first|(with_reducible exact HR176_4.out)|(with_reducible refine Kd.C_drewN ?_ _)))⟩;clear HL176_4 HO182 HO184 HO189 HO_1 HO_23 HO_7 BK177 HB HR176_4 hq_;have HL176_4:=n0_;have HO182:=n1_;have HO184:=n2_;have HO189:=n3_;have HO_1:=n4_;have HO_23:=n5_;have HO_7:=n6_;have BK177:=n7_;have HB:=n8_;have HR176_4:=n9_;clear n0_ n1_ n2_ n3_ n4_ n5_ n6_ n7_ n8_ n9_))
                  have n0_:=Aside0.mk (Kd.V_drew HO_1.out)
                  have n1_:=Aside0.mk (Kd.N_drew HO_7.out)
                  have n2_:=Aside0.mk (Kd.V_drew HO_23.out)
                  have n3_:=Aside0.mk (Kd.V_drew HL176_4.out)
                  have n4_:=Aside0.mk (Kd.R_drew HO182.out)
                  have n5_:=Aside0.mk (Kd.R_drew HO184.out)
                  have n6_:=Aside0.mk (Kd.V_drew HO189.out)
                  have n7_:=Aside0.mk (blk_drew BK177.out)
                  have n8_:=Aside0.mk (Kd.C_drew HR176_4.out)
                  have n9_:=Aside0.mk (below_drew1 HB.out)
                  clear HO_1
                  clear HO_7
                  clear HO_23
                  clear HL176_4
                  clear HO182
                  clear HO184
                  clear HO189
                  clear BK177
                  clear HR176_4
                  clear HB
                  have HO_1:=n0_
                  have HO_7:=n1_
                  have HO_23:=n2_
                  have HL176_4:=n3_
                  have HO182:=n4_
                  have HO184:=n5_
                  have HO189:=n6_
                  have BK177:=n7_
                  have HR176_4:=n8_
                  have HB:=n9_
                  clear n0_ n1_ n2_ n3_ n4_ n5_ n6_ n7_ n8_ n9_
                  have q33:(((rd_T44 l0 x25_1).f0):Int)≤((l1.length:Int):Int):=of_decide_eq_true (by(with_reducible assumption))
                  obtain⟨i033,hi033,_,hsz33,_⟩:=info_parts info66
                  have hroom33:l1.length≤c1:=(Kd.V_reads' HO_1.out).2.1
                  have hC33:Kd.F k66 _ _ A1 l1.length l1:=(Kd.V_at (base:=w.heap.size) HO_1.out).2.2
                  have ql33:(x8_1:Int)≤(((rd_T44 l0 x25_1).f0):Int):=of_decide_eq_true (by(with_reducible assumption))
                  have q033:(0:Int)≤(x8_1:Int):=of_decide_eq_true (by(with_reducible assumption))
                  have hcut33:=Ra.cut_mid3 (P:=Try.prog) 37 66 .i64 .i64 .i64 Try.underlying37 hi033 2 hsz33 A1 l1.length c1 x8_1 ((rd_T44 l0 x25_1).f0) q033 ql33 q33 hroom33
                  have hr33:=Kd.F_cut (m:=(x8_1:Int).toNat) (c:=(((rd_T44 l0 x25_1).f0):Int).toNat) (Kd.F_take hC33 (m:=(((rd_T44 l0 x25_1).f0):Int).toNat) (by omega)) (by rw [List.length_take];omega) (by rw [List.length_take];omega)
                  obtain⟨A33,hA33⟩: ∃A1_,A1_=(if (((rd_T44 l0 x25_1).f0):Int).toNat=(x8_1:Int).toNat then A1 else (A1:Option Addr).map (·.add ((x8_1:Int).toNat*2))):=⟨_,rfl⟩
                  obtain⟨c33,hc33⟩: ∃c1_,c1_=(((rd_T44 l0 x25_1).f0):Int).toNat-(x8_1:Int).toNat:=⟨_,rfl⟩
                  have hy33:y191.length=(((rd_T44 l0 x25_1).f0):Int).toNat-(x8_1:Int).toNat:=(by rw [Ny191.out,List.length_drop,List.length_take]<;>omega)
                  rw [show((l1).take (((rd_T44 l0 x25_1).f0):Int).toNat).drop (x8_1:Int).toNat=y191 from Ny191.out.symm] at hr33
                  replace hr33:Kd.F k66 _ _ A33 y191.length y191:=(by rw [hA33];exact hr33)
                  rw [← hy33, ← hA33] at hcut33
                  rw [show(Value.slice A33 y191.length y191.length)= .slice A33 y191.length c33 from by rw [hc33,hy33]] at hcut33
                  have HO195:=Aside0.mk (show Kd.V k66 66 _ w.heap.size _ (.slice A33 y191.length c33) y191 from Kd.V_mk (by rw [hc33];exact Nat.le_of_eq hy33) hr33)
                  have HC195:=Aside0.mk (show y191.length≤c33 from by rw [hc33];exact Nat.le_of_eq hy33)
                  clear hr33 hC33 hroom33 hi033 hsz33 hc33
                  have KY33:=Aside0.mk hy33
                  have KA33:=Aside0.mk hA33
                  clear hy33 hA33
                  replace q33:=eq_true q33
                  refine start_ (n:=15) (S:=fun w'=>w'.cell? ⟨gb177,0,none⟩=some (.int .i64 ((rd_T44 l0 x25_1).f0))∧w'.cell? ⟨gb177,1,none⟩=some (.int .i64 ((rd_T44 l0 x25_1).f1))∧w'.cell? ⟨gb177,2,none⟩=some (.int .i64 ((rd_T44 l0 x25_1).f2))∧w'.cell? ⟨gb177,3,none⟩=some (.int .i64 ((rd_T44 l0 x25_1).f3))∧w'.cell? ⟨gb177,4,none⟩=some (.slice A176_4 ((rd_T44 l0 x25_1).f4).length c176_4)) (ds:= []) (Sq.bl 15 0) (by kernel_rfl) rfl rfl ⟨(blk_cell BK177.out 0).trans rfl,(blk_cell BK177.out 1).trans rfl,(blk_cell BK177.out 2).trans rfl,(blk_cell BK177.out 3).trans rfl,(blk_cell BK177.out 4).trans rfl⟩ (fun hHeld=>?_);refine with_tabW hunk_Whole.tab15 hunk_Whole.bits15 (fun HT_ HW_=>?_)
                  generalize w28.drew=w32 at HO_1 HO_7 HO_23 HL176_4 HO182 HO184 HO189 BK177 HR176_4 HB HO195 hHeld ⊢
                  refine Sq.pu (v:=?_) (a':=?_) 0 55 (Sq.bl 15 1) (any_of HT_.out (by kernel_rfl)) rfl rfl (fun _ _ _ h=>h) (by rfl) ?_ ?_ ?_;rotate_left;(· intro w';go_simp;with_reducible rfl);rotate_left;(· simp only [Act.put,zp1,zp2,zp3,zp4,zp5];rfl)
                  refine Sq.pu (v:=?_) (a':=?_) 1 56 (Sq.bl 15 3) (any_of HT_.out (by kernel_rfl)) rfl rfl (fun _ _ _ h=>h) (by rfl) ?_ ?_ ?_;rotate_left;(· intro w';go_simp;with_reducible rfl);rotate_left;(· simp only [Act.put,zp1,zp2,zp3,zp4,zp5];rfl)
                  refine Sq.pu (v:=?_) (a':=?_) 2 57 (Sq.bl 15 7) (any_of HT_.out (by kernel_rfl)) rfl rfl (fun _ _ _ h=>h) (by rfl) ?_ ?_ ?_;rotate_left;(· intro w';go_simp;with_reducible rfl);rotate_left;(· simp only [Act.put,zp1,zp2,zp3,zp4,zp5];rfl)
                  refine Sq.pu (v:=?_) (a':=?_) 3 58 (Sq.bl 15 15) (any_of HT_.out (by kernel_rfl)) rfl rfl (fun _ _ _ h=>h) (by rfl) ?_ ?_ ?_;rotate_left;(· intro w';go_simp;with_reducible rfl);rotate_left;(· simp only [Act.put,zp1,zp2,zp3,zp4,zp5];rfl)
                  refine Sq.pu (v:=?_) (a':=?_) 5 60 (Sq.bl 15 47) (any_of HT_.out (by kernel_rfl)) rfl rfl (fun _ _ _ h=>h) (by rfl) ?_ ?_ ?_;rotate_left;(· intro w';go_simp;with_reducible rfl);rotate_left;(· simp only [Act.put,zp1,zp2,zp3,zp4,zp5];rfl)
                  refine Sq.pu (v:=?_) (a':=?_) 11 66 (Sq.bl 15 2095) (any_of HT_.out (by kernel_rfl)) rfl rfl (fun _ _ _ h=>h) (by rfl) ?_ ?_ ?_;rotate_left;(· intro w';go_simp;with_reducible rfl);rotate_left;(· simp only [Act.put,zp1,zp2,zp3,zp4,zp5];rfl)
                  refine take_ (i:=4) (N:=some 59) (v:=?_) (a':=?_) (Sq.bl 15 2111) rfl rfl (take_ofW HT_.out HW_.out (by kernel_rfl)) (fun _ _ _ h=>h) (Or.inl ⟨by rfl,?_⟩) hHeld ?_ ?_
                  rotate_left
                  ·rintro w' ⟨s0,s1,s2,s3,s4⟩
                   go_simp
                   with_reducible rfl
                  rotate_left
                  ·simp only [Act.put,zp1,zp2,zp3,zp4,zp5]
                   rfl
                  refine take_ (i:=6) (N:=some 61) (v:=?_) (a':=?_) (Sq.bl 15 2175) rfl rfl (take_ofW HT_.out HW_.out (by kernel_rfl)) (fun _ _ _ h=>h) (Or.inl ⟨by rfl,?_⟩) hHeld ?_ ?_
                  rotate_left
                  ·rintro w' ⟨s0,s1,s2,s3,s4⟩
                   go_simp
                   with_reducible rfl
                  rotate_left
                  ·simp only [Act.put,zp1,zp2,zp3,zp4,zp5]
                   rfl
                  refine Sq.pu (v:=?_) (a':=?_) 7 62 (Sq.bl 15 2303) (any_of HT_.out (by kernel_rfl)) rfl rfl (fun _ _ _ h=>h) (by rfl) ?_ ?_ ?_;rotate_left;(· intro w';go_simp;with_reducible rfl);rotate_left;(· simp only [Act.put,zp1,zp2,zp3,zp4,zp5];rfl)
                  refine Sq.pu (v:=?_) (a':=?_) 8 63 (Sq.bl 15 2559) (any_of HT_.out (by kernel_rfl)) rfl rfl (fun _ _ _ h=>h) (by rfl) ?_ ?_ ?_;rotate_left;(· intro w';go_simp;with_reducible rfl);rotate_left;(· simp only [Act.put,zp1,zp2,zp3,zp4,zp5];rfl)
                  refine take_ (i:=12) (N:=some 67) (v:=?_) (a':=?_) (Sq.bl 15 6655) rfl rfl (take_ofW HT_.out HW_.out (by kernel_rfl)) (fun _ _ _ h=>h) (Or.inl ⟨by rfl,?_⟩) hHeld ?_ ?_
                  rotate_left
                  ·rintro w' ⟨s0,s1,s2,s3,s4⟩
                   go_simp
                   with_reducible rfl
                  rotate_left
                  ·simp only [Act.put,zp1,zp2,zp3,zp4,zp5]
                   rfl
                  refine one_ (i:=9) (N:=some 64) (Sq.bl 15 7167) rfl rfl (one_of HT_.out (by kernel_rfl)) (by decide) (fun K hK=>?_)
                  refine value_ (w1:=?_) (v:=?_) (by rfl) rfl ?_ ?_
                  rotate_left 2
                  ·go_simp
                   constructor
                   ·rfl
                   ·rfl
                  refine hK.out _ _ ⟨(blk_cell (blk_alloc BK177.out _) 0).trans rfl,(blk_cell (blk_alloc BK177.out _) 1).trans rfl,(blk_cell (blk_alloc BK177.out _) 2).trans rfl,(blk_cell (blk_alloc BK177.out _) 3).trans rfl,(blk_cell (blk_alloc BK177.out _) 4).trans rfl⟩ (fun hHeld=>?_)
                  clear hK K
                  refine norm_ (a':=?_) ?_ ?_
                  rotate_left
                  ·show Act.put _ (some 64) _=_
                   simp only [Act.put,zp1,zp2,zp3,zp4,zp5]
                   rfl
                  refine one_ (i:=10) (N:=some 65) (Sq.bl 15 8191) rfl rfl (one_of HT_.out (by kernel_rfl)) (by decide) (fun K hK=>?_)
                  refine Kd.N_append_step k47 (w0:=w) w.heap.size (by rfl) (.tmp 55) (.tmp 64) 22 47 (.agg #[(.int .i64 0),(.slice none 0 0)]) 32 rfl Try.underlying22 info47 rfl (by decide) (by omega) u7 x7_1 (⟨1,y191⟩:S47) [.int .i64 1, .slice A33 y191.length c33] (fun k_=>((P0_ k_∨P1_ k_)∨w.heap.size≤k_)∧some k_≠(.slice Ao31 t178.length co31:Value).ownBlock∧some k_≠(v183:Value).ownBlock∧k_≠gb177) (fun k_=>((fun k_=>((P0_ k_∨P1_ k_)∨w.heap.size≤k_)∧some k_≠(.slice Ao31 t178.length co31:Value).ownBlock∧some k_≠(v183:Value).ownBlock∧k_≠gb177)) k_∧some k_≠(u7:Value).ownBlock) rfl rfl ?aP (fun _ hk=>hk) ?aF ?aO ?aB ?aS ?aL ?_
                  (case aP=>exact(k47_mkF _ _ (⟨1,y191⟩:S47) (Kd.V_reads' (Kd.V_mono (ok':=(fun k_=>((fun k_=>((P0_ k_∨P1_ k_)∨w.heap.size≤k_)∧some k_≠(.slice Ao31 t178.length co31:Value).ownBlock∧some k_≠(v183:Value).ownBlock∧k_≠gb177)) k_∧some k_≠(u7:Value).ownBlock)) (HO195.out) (fun k_ hk=>by simp only [and_assoc,hk,ne_eq,not_false_eq_true,and_self,true_and]))).2.1 (Kd.V_F (Kd.V_mono (ok':=(fun k_=>((fun k_=>((P0_ k_∨P1_ k_)∨w.heap.size≤k_)∧some k_≠(.slice Ao31 t178.length co31:Value).ownBlock∧some k_≠(v183:Value).ownBlock∧k_≠gb177)) k_∧some k_≠(u7:Value).ownBlock)) (HO195.out) (fun k_ hk=>by simp only [and_assoc,hk,ne_eq,not_false_eq_true,and_self,true_and])))))
                  (case aB=>exact(by repeat((with_reducible exact HB.out))))
                  (case aF=>exact(fun k_ hk=>⟨(.inr (Nat.le_trans (below_size (by repeat((with_reducible exact HB.out)))) hk)),Kd.fresh' (Kd.R_lt (by exact HO182.out)) k_ hk,Kd.fresh' (Kd.R_lt (by exact HO184.out)) k_ hk,Kd.freshB (g:=gb177) (o:= .cells #[.int .i64 ((rd_T44 l0 x25_1).f0), .int .i64 ((rd_T44 l0 x25_1).f1), .int .i64 ((rd_T44 l0 x25_1).f2), .int .i64 ((rd_T44 l0 x25_1).f3), .slice A176_4 ((rd_T44 l0 x25_1).f4).length c176_4] 44 (0,0)) (by exact BK177.out) k_ hk⟩))
                  (case aO=>exact(by exact Kd.N_mono HO_7.out (fun k_ hk=>by simp only [and_assoc,hk,ne_eq,not_false_eq_true,and_self,true_and])))
                  (case aS=>exact(below_size (by repeat((with_reducible exact HB.out)))))
                  (case aL=>have:=LMc24.out;omega)
                  intro v197 w34 ho hb hg hat
                  rw [← Ny196.out] at ho
                  have n0_:=Aside0.mk (Kd.V_afterv (ok:=(fun k_=>((P0_ k_∨P1_ k_)∨w.heap.size≤k_)∧some k_≠(.slice Ao31 t178.length co31:Value).ownBlock∧some k_≠(v183:Value).ownBlock∧k_≠gb177)) (by exact Kd.V_mono HO_1.out (fun k_ hk=>by simp only [and_assoc,hk,ne_eq,not_false_eq_true,and_self,true_and])) hg hat)
                  have n1_:=Aside0.mk (Kd.V_afterv (ok:=(fun k_=>((P0_ k_∨P1_ k_)∨w.heap.size≤k_)∧some k_≠(.slice Ao31 t178.length co31:Value).ownBlock∧some k_≠(v183:Value).ownBlock∧k_≠gb177)) (by exact Kd.V_mono HO_23.out (fun k_ hk=>by simp only [and_assoc,hk,ne_eq,not_false_eq_true,and_self,true_and])) hg hat)
                  have n2_:=Aside0.mk (Kd.V_afterv (ok:=(fun k_=>((P0_ k_∨P1_ k_)∨w.heap.size≤k_)∧some k_≠(.slice Ao31 t178.length co31:Value).ownBlock∧some k_≠(v183:Value).ownBlock∧k_≠gb177)) (by exact Kd.V_mono HL176_4.out (fun k_ hk=>by simp only [and_assoc,hk,ne_eq,not_false_eq_true,and_self,true_and])) hg hat)
                  have n3_:=Aside0.mk (blk_grown (g:=gb177) (o:= .cells #[.int .i64 ((rd_T44 l0 x25_1).f0), .int .i64 ((rd_T44 l0 x25_1).f1), .int .i64 ((rd_T44 l0 x25_1).f2), .int .i64 ((rd_T44 l0 x25_1).f3), .slice A176_4 ((rd_T44 l0 x25_1).f4).length c176_4] 44 (0,0)) (by exact BK177.out) hg (Kd.N_ne HO_7.out BK177.out (by decide)))
                  have n4_:=Aside0.mk (Kd.R_over' (by exact HO182.out) (Kd.N_typed (by exact HO_7.out)) (by decide) hg)
                  have n5_:=Aside0.mk (Kd.R_over' (by exact HO184.out) (Kd.N_typed (by exact HO_7.out)) (by decide) hg)
                  have n6_:=Aside0.mk (Kd.V_afterv (ok:=(fun k_=>((P0_ k_∨P1_ k_)∨w.heap.size≤k_)∧some k_≠(.slice Ao31 t178.length co31:Value).ownBlock∧some k_≠(v183:Value).ownBlock∧k_≠gb177)) (by exact Kd.V_mono HO189.out (fun k_ hk=>by simp only [and_assoc,hk,ne_eq,not_false_eq_true,and_self,true_and])) hg hat)
                  have n7_:=Aside0.mk (Kd.V_afterv (ok:=(fun k_=>((P0_ k_∨P1_ k_)∨w.heap.size≤k_)∧some k_≠(.slice Ao31 t178.length co31:Value).ownBlock∧some k_≠(v183:Value).ownBlock∧k_≠gb177)) (by exact Kd.V_mono HO195.out (fun k_ hk=>by simp only [and_assoc,hk,ne_eq,not_false_eq_true,and_self,true_and])) hg hat)
                  have n8_:=Aside0.mk (hb)
                  have n9_:=Aside0.mk (ho)
                  clear HO_1
                  clear HO_23
                  clear HL176_4
                  clear BK177
                  clear HO182
                  clear HO184
                  clear HO189
                  clear HO195
                  clear HB
                  clear HO_7
                  have HO_1:=n0_
                  have HO_23:=n1_
                  have HL176_4:=n2_
                  have BK177:=n3_
                  have HO182:=n4_
                  have HO184:=n5_
                  have HO189:=n6_
                  have HO195:=n7_
                  have HB:=n8_
                  have HO198:=n9_
                  clear n0_ n1_ n2_ n3_ n4_ n5_ n6_ n7_ n8_ n9_
                  clear ho hb hg hat
                  refine hK.out _ _ ⟨(blk_cell BK177.out 0).trans rfl,(blk_cell BK177.out 1).trans rfl,(blk_cell BK177.out 2).trans rfl,(blk_cell BK177.out 3).trans rfl,(blk_cell BK177.out 4).trans rfl⟩ (fun hHeld=>?_)
                  clear hK K
                  refine norm_ (a':=?_) ?_ ?_
                  rotate_left
                  ·show Act.put _ (some 65) _=_
                   simp only [Act.put,zp1,zp2,zp3,zp4,zp5]
                   rfl
                  refine one_ (i:=13) (N:=some 68) (Sq.bl 15 16383) rfl rfl (one_of HT_.out (by kernel_rfl)) (by decide) (fun K hK=>?_)
                  refine Kd.N_append_rows_step k47 (w0:=w) w.heap.size (by rfl) (.tmp 65) (.tmp 67) 22 47 (.agg #[(.int .i64 0),(.slice none 0 0)]) 32 rfl Try.underlying22 info47 rfl (by decide) (by omega) v197 y196 ((rd_T44 l0 x25_1).f4) _ _ _ (fun k_=>((P0_ k_∨P1_ k_)∨w.heap.size≤k_)∧some k_≠(.slice Ao31 t178.length co31:Value).ownBlock∧some k_≠(v183:Value).ownBlock∧k_≠gb177) (fun k_=>((fun k_=>((P0_ k_∨P1_ k_)∨w.heap.size≤k_)∧some k_≠(.slice Ao31 t178.length co31:Value).ownBlock∧some k_≠(v183:Value).ownBlock∧k_≠gb177)) k_∧some k_≠(v197:Value).ownBlock) rfl rfl ?aO ?aR (fun _ hk=>hk) ?aF ?aB ?aS ?aL ?_
                  (case aR=>exact(by exact Kd.V_F (Kd.V_mono (ok':=(fun k_=>((fun k_=>((P0_ k_∨P1_ k_)∨w.heap.size≤k_)∧some k_≠(.slice Ao31 t178.length co31:Value).ownBlock∧some k_≠(v183:Value).ownBlock∧k_≠gb177)) k_∧some k_≠(v197:Value).ownBlock)) (HL176_4.out) (fun k_ hk=>by(try simp only [and_assoc] at hk);simp only [and_assoc,hk,ne_eq,not_false_eq_true,and_self,true_and]))))
                  (case aB=>exact(by repeat((with_reducible exact HB.out))))
                  (case aF=>exact(fun k_ hk=>⟨(.inr (Nat.le_trans (below_size (by repeat((with_reducible exact HB.out)))) hk)),Kd.fresh' (Kd.R_lt (by exact HO182.out)) k_ hk,Kd.fresh' (Kd.R_lt (by exact HO184.out)) k_ hk,Kd.freshB (g:=gb177) (o:= .cells #[.int .i64 ((rd_T44 l0 x25_1).f0), .int .i64 ((rd_T44 l0 x25_1).f1), .int .i64 ((rd_T44 l0 x25_1).f2), .int .i64 ((rd_T44 l0 x25_1).f3), .slice A176_4 ((rd_T44 l0 x25_1).f4).length c176_4] 44 (0,0)) (by exact BK177.out) k_ hk⟩))
                  (case aO=>exact(by exact HO198.out))
                  (case aS=>exact(below_size (by repeat((with_reducible exact HB.out)))))
                  (case aL=>have:=LMc25.out;omega)
                  intro v200 w35 ho hb hg hat
                  rw [← Ny199.out] at ho
                  have n0_:=Aside0.mk (Kd.V_afterv (ok:=(fun k_=>((P0_ k_∨P1_ k_)∨w.heap.size≤k_)∧some k_≠(.slice Ao31 t178.length co31:Value).ownBlock∧some k_≠(v183:Value).ownBlock∧k_≠gb177)) (by exact HO_1.out) hg hat)
                  have n1_:=Aside0.mk (Kd.V_afterv (ok:=(fun k_=>((P0_ k_∨P1_ k_)∨w.heap.size≤k_)∧some k_≠(.slice Ao31 t178.length co31:Value).ownBlock∧some k_≠(v183:Value).ownBlock∧k_≠gb177)) (by exact HO_23.out) hg hat)
                  have n2_:=Aside0.mk (Kd.V_afterv (ok:=(fun k_=>((P0_ k_∨P1_ k_)∨w.heap.size≤k_)∧some k_≠(.slice Ao31 t178.length co31:Value).ownBlock∧some k_≠(v183:Value).ownBlock∧k_≠gb177)) (by exact HL176_4.out) hg hat)
                  have n3_:=Aside0.mk (blk_grown (g:=gb177) (o:= .cells #[.int .i64 ((rd_T44 l0 x25_1).f0), .int .i64 ((rd_T44 l0 x25_1).f1), .int .i64 ((rd_T44 l0 x25_1).f2), .int .i64 ((rd_T44 l0 x25_1).f3), .slice A176_4 ((rd_T44 l0 x25_1).f4).length c176_4] 44 (0,0)) (by exact BK177.out) hg (Kd.N_ne HO198.out BK177.out (by decide)))
                  have n4_:=Aside0.mk (Kd.R_over' (by exact HO182.out) (Kd.N_typed (by exact HO198.out)) (by decide) hg)
                  have n5_:=Aside0.mk (Kd.R_over' (by exact HO184.out) (Kd.N_typed (by exact HO198.out)) (by decide) hg)
                  have n6_:=Aside0.mk (Kd.V_afterv (ok:=(fun k_=>((P0_ k_∨P1_ k_)∨w.heap.size≤k_)∧some k_≠(.slice Ao31 t178.length co31:Value).ownBlock∧some k_≠(v183:Value).ownBlock∧k_≠gb177)) (by exact HO189.out) hg hat)
                  have n7_:=Aside0.mk (Kd.V_afterv (ok:=(fun k_=>((P0_ k_∨P1_ k_)∨w.heap.size≤k_)∧some k_≠(.slice Ao31 t178.length co31:Value).ownBlock∧some k_≠(v183:Value).ownBlock∧k_≠gb177)) (by exact HO195.out) hg hat)
                  have n8_:=Aside0.mk (hb)
                  have n9_:=Aside0.mk (ho)
                  clear HO_1
                  clear HO_23
                  clear HL176_4
                  clear BK177
                  clear HO182
                  clear HO184
                  clear HO189
                  clear HO195
                  clear HB
                  clear HO198
                  have HO_1:=n0_
                  have HO_23:=n1_
                  have HL176_4:=n2_
                  have BK177:=n3_
                  have HO182:=n4_
                  have HO184:=n5_
                  have HO189:=n6_
                  have HO195:=n7_
                  have HB:=n8_
                  have HO201:=n9_
                  clear n0_ n1_ n2_ n3_ n4_ n5_ n6_ n7_ n8_ n9_
                  clear ho hb hg hat
                  refine hK.out _ _ ⟨(blk_cell BK177.out 0).trans rfl,(blk_cell BK177.out 1).trans rfl,(blk_cell BK177.out 2).trans rfl,(blk_cell BK177.out 3).trans rfl,(blk_cell BK177.out 4).trans rfl⟩ (fun hHeld=>?_)
                  clear hK K
                  refine norm_ (a':=?_) ?_ ?_
                  rotate_left
                  ·show Act.put _ (some 68) _=_
                   simp only [Act.put,zp1,zp2,zp3,zp4,zp5]
                   rfl
                  refine Sq.pu (v:=?_) (a':=?_) 14 7 (Sq.bl 15 32767) (any_of HT_.out (by kernel_rfl)) rfl rfl (fun _ _ _ h=>h) (by rfl) ?_ ?_ ?_;rotate_left;(· intro w';go_simp;with_reducible rfl);rotate_left;(· simp only [Act.put,zp1,zp2,zp3,zp4,zp5];rfl)
                  refine done_ (done_of HT_.out (by kernel_rfl)) ?_
                  try go_wp2
                  go_roundg k1
                  case measure=>have:=HK1.out;omega
                  case rel=>exact⟨(y199),(wrap64 (((rd_T44 l0 x25_1).f0)+((rd_T44 l0 x25_1).f1))),(wrap64 (x25_1+1)),(by rfl),(by rfl),H',⟨by have:=HK1.out;omega⟩,⟨by exact Kd.V_mono HO_1.out (fun k_ hk=>by(try simp only [and_assoc] at hk);simp only [and_assoc,hk,ne_eq,not_false_eq_true,and_self,true_and])⟩,⟨by exact Kd.N_mono HO201.out (fun _ hk=>hk.1)⟩,⟨by exact Kd.V_mono HO_23.out (fun k_ hk=>by(try simp only [and_assoc] at hk);simp only [and_assoc,hk,ne_eq,not_false_eq_true,and_self,true_and])⟩,⟨by repeat((with_reducible exact HB.out))⟩⟩
                 ·rw [if_neg c25] at H
                  exact absurd H (by simp)
                ·rw [if_neg c24] at H
                 exact absurd H (by simp)
               ·rw [if_neg c23] at H
                exact absurd H (by simp)
              ·rw [if_neg c22] at H
               exact absurd H (by simp)
             ·rw [if_neg c21] at H
              exact absurd H (by simp)
            ·replace c20:=Bool.eq_false_iff.mpr c20
             subst c20
             have H1:(some (([]:List (S47)),8))=some (r1,r2):=by rw [if_neg (show ¬(false=true) by decide)] at H;exact H
             clear H
             have H:=H1
             clear H1
             simp only [Option.some.injEq,Prod.mk.injEq] at H
             obtain⟨rfl,rfl⟩:=H
             have p176:0≤(x25_1:Int):=of_decide_eq_true (by(with_reducible assumption))
             have q176:x25_1<(l0.length:Int):=of_decide_eq_true (by(with_reducible assumption))
             obtain⟨ad176,A176_4,c176_4,e176,hx176_0,hx176_1,hx176_2,hx176_3,hx176_4,hl176_4,hi176_4⟩:=at_T44 (Kd.V_reads' HO_23.out).2.2 x25_1 p176 q176
             cases e176
             obtain⟨ce176,hce176,hMe176,hcc176⟩:=Kd.V_get HO_23.out z44 x25_1 p176 (by exact q176)
             obtain⟨ua176_4,uc176_4,rfl,ul176_4,ge176_4⟩:=k44_openF hMe176
             have hv176_4:=hcc176 4 _ rfl
             rw [add_field _ _ 4 (by omega)] at hv176_4
             replace hv176_4:=Option.some.inj (hv176_4.symm.trans hx176_4)
             injection hv176_4 with hva_ hvn_ hvc_
             rw [hva_] at ge176_4
             rw [hvc_] at ul176_4
             have HL176_4:=Aside0.mk (show Kd.V k47 47 _ w.heap.size _ _ ((rd_T44 l0 x25_1).f4) from Kd.V_mk ul176_4 ge176_4)
             clear hva_ hvn_ hvc_ ge176_4 ul176_4
             clear hcc176 hce176
             have HR176_4:=Aside0.mk hi176_4
             have HC176_4:=Aside0.mk hl176_4
             clear hi176_4 hl176_4
             replace p176:=eq_true p176
             replace q176:=eq_true q176
             go_wp2_with(first|((with_reducible refine gate_dst (N:=10) rfl ?_);refine box_event ?hg (N:=10) ?hd (cs:= #[.int .i64 0, .int .i64 0, .int .i64 0, .int .i64 0, .slice none 0 0]) (t:=44) ?hr ?_;(case hd=>rfl);(case hg=>rfl);(case hr=>(go_simp;done));intro gb177 hg w36 hbox hb;have n0_:=Aside0.mk (Kd.V_below (Kd.V_elderB (by exact HO_1.out) gb177 (Nat.le_of_eq hg.symm)) hb);have n1_:=Aside0.mk (Kd.N_below (Kd.N_elderB (by exact HO_7.out) gb177 (Nat.le_of_eq hg.symm)) hb);have n2_:=Aside0.mk (Kd.V_below (Kd.V_elderB (by exact HO_23.out) gb177 (Nat.le_of_eq hg.symm)) hb);have n3_:=Aside0.mk (Kd.V_below (Kd.V_elderB (by exact HL176_4.out) gb177 (Nat.le_of_eq hg.symm)) hb);have n4_:=Aside0.mk (Kd.C_below (by repeat((with_reducible exact HR176_4.out))) hb);have n5_:=Aside0.mk (below_step (by repeat((with_reducible exact HB.out))) hb);have n6_:=Aside0.mk (hbox);have n7_:=Aside0.mk ((by rw [hg];exact(below_size (by repeat((with_reducible exact HB.out)))):w.heap.size≤gb177));have n8_:=Aside0.mk ((by rw [hg];exact(below_size (by repeat((with_reducible exact HB.out)))):w.heap.size≤gb177));clear HO_1;clear HO_7;clear HO_23;clear HL176_4;clear HR176_4;clear HB;have HO_1:=n0_;have HO_7:=n1_;have HO_23:=n2_;have HL176_4:=n3_;have HR176_4:=n4_;have HB:=n5_;have BK177:=n6_;have GW177:=n7_;have GE177:=n8_;clear n0_ n1_ n2_ n3_ n4_ n5_ n6_ n7_ n8_;clear hb hbox hg;have hcz37_0:w36.cell? ⟨gb177,0,none⟩=some (.int .i64 0):=(blk_cell BK177.out 0).trans rfl;have hcz37_1:w36.cell? ⟨gb177,1,none⟩=some (.int .i64 0):=(blk_cell BK177.out 1).trans rfl;have hcz37_2:w36.cell? ⟨gb177,2,none⟩=some (.int .i64 0):=(blk_cell BK177.out 2).trans rfl;have hcz37_3:w36.cell? ⟨gb177,3,none⟩=some (.int .i64 0):=(blk_cell BK177.out 3).trans rfl;have hcz37_4:w36.cell? ⟨gb177,4,none⟩=some (.slice none 0 0):=(blk_cell BK177.out 4).trans rfl;have hfz37_0:=blk_frozen BK177.out 0;have hfz37_1:=blk_frozen BK177.out 1;have hfz37_2:=blk_frozen BK177.out 2;have hfz37_3:=blk_frozen BK177.out 3;have hfz37_4:=blk_frozen BK177.out 4)|((with_reducible refine gate_callee (f:=55) rfl ?_);refine goesL_ (some 37) rfl rfl Try.func55 (by kernel_rfl) rfl #[.slice A176_4 ((rd_T44 l0 x25_1).f4).length c176_4] rfl (by(try simp only [List.map_toArray,List.map_cons,List.map_nil]);rfl) ?_;(with_reducible refine(script_Sides.calls k1 _ _ ((rd_T44 l0 x25_1).f4) t178 t179 t180 _ ?side1 ?side2 A11.out).mono ?_);(case side1=>repeat((exact((Kd.V_reads' (by exact(Kd.V_mono (Kd.V_far (p:=⟨gb177,4,none⟩) (Kd.V_far (p:=⟨gb177,3,none⟩) (Kd.V_far (p:=⟨gb177,2,none⟩) (Kd.V_far (p:=⟨gb177,1,none⟩) (Kd.V_far (p:=⟨gb177,0,none⟩) (Kd.V_mono HL176_4.out (fun k_ hk=>(⟨hk,hk.2⟩:_∧k_≠gb177))) (fun _ hk=>hk.2) (.int .i64 ((rd_T44 l0 x25_1).f0))) (fun _ hk=>hk.2) (.int .i64 ((rd_T44 l0 x25_1).f1))) (fun _ hk=>hk.2) (.int .i64 ((rd_T44 l0 x25_1).f2))) (fun _ hk=>hk.2) (.int .i64 ((rd_T44 l0 x25_1).f3))) (fun _ hk=>hk.2) (.slice A176_4 ((rd_T44 l0 x25_1).f4).length c176_4)) (fun _ h_=>h_.1)))).2.2))));(case side2=>exact HC176_4.out);rintro e w38 ⟨v181,v183,rfl,ho0,ho1,hb⟩;refine⟨_,rfl,?_⟩;have n0_:=Aside0.mk (Kd.V_mono (Kd.V_told (Kd.V_told (Kd.V_old (by exact(Kd.V_mono (Kd.V_far (p:=⟨gb177,4,none⟩) (Kd.V_far (p:=⟨gb177,3,none⟩) (Kd.V_far (p:=⟨gb177,2,none⟩) (Kd.V_far (p:=⟨gb177,1,none⟩) (Kd.V_far (p:=⟨gb177,0,none⟩) (Kd.V_mono HO_1.out (fun k_ hk=>(⟨hk,hk.2⟩:_∧k_≠gb177))) (fun _ hk=>hk.2) (.int .i64 ((rd_T44 l0 x25_1).f0))) (fun _ hk=>hk.2) (.int .i64 ((rd_T44 l0 x25_1).f1))) (fun _ hk=>hk.2) (.int .i64 ((rd_T44 l0 x25_1).f2))) (fun _ hk=>hk.2) (.int .i64 ((rd_T44 l0 x25_1).f3))) (fun _ hk=>hk.2) (.slice A176_4 ((rd_T44 l0 x25_1).f4).length c176_4)) (fun _ h_=>h_.1))) hb) (Kd.R_base ho0)) (Kd.R_base ho1)) (fun _ h_=>h_.1));have n1_:=Aside0.mk (Kd.N_mono (Kd.N_told (Kd.N_told (Kd.N_old (by exact(Kd.N_mono (Kd.N_far (p:=⟨gb177,4,none⟩) (Kd.N_far (p:=⟨gb177,3,none⟩) (Kd.N_far (p:=⟨gb177,2,none⟩) (Kd.N_far (p:=⟨gb177,1,none⟩) (Kd.N_far (p:=⟨gb177,0,none⟩) (Kd.N_mono HO_7.out (fun k_ hk=>(⟨hk,hk.2⟩:_∧k_≠gb177))) (fun _ hk=>hk.2) (.int .i64 ((rd_T44 l0 x25_1).f0))) (fun _ hk=>hk.2) (.int .i64 ((rd_T44 l0 x25_1).f1))) (fun _ hk=>hk.2) (.int .i64 ((rd_T44 l0 x25_1).f2))) (fun _ hk=>hk.2) (.int .i64 ((rd_T44 l0 x25_1).f3))) (fun _ hk=>hk.2) (.slice A176_4 ((rd_T44 l0 x25_1).f4).length c176_4)) (fun _ h_=>h_.1))) hb) (Kd.R_base ho0)) (Kd.R_base ho1)) (fun _ h_=>h_.1));have n2_:=Aside0.mk (Kd.V_mono (Kd.V_told (Kd.V_told (Kd.V_old (by exact(Kd.V_mono (Kd.V_far (p:=⟨gb177,4,none⟩) (Kd.V_far (p:=⟨gb177,3,none⟩) (Kd.V_far (p:=⟨gb177,2,none⟩) (Kd.V_far (p:=⟨gb177,1,none⟩) (Kd.V_far (p:=⟨gb177,0,none⟩) (Kd.V_mono HO_23.out (fun k_ hk=>(⟨hk,hk.2⟩:_∧k_≠gb177))) (fun _ hk=>hk.2) (.int .i64 ((rd_T44 l0 x25_1).f0))) (fun _ hk=>hk.2) (.int .i64 ((rd_T44 l0 x25_1).f1))) (fun _ hk=>hk.2) (.int .i64 ((rd_T44 l0 x25_1).f2))) (fun _ hk=>hk.2) (.int .i64 ((rd_T44 l0 x25_1).f3))) (fun _ hk=>hk.2) (.slice A176_4 ((rd_T44 l0 x25_1).f4).length c176_4)) (fun _ h_=>h_.1))) hb) (Kd.R_base ho0)) (Kd.R_base ho1)) (fun _ h_=>h_.1));have n3_:=Aside0.mk (Kd.V_mono (Kd.V_told (Kd.V_told (Kd.V_old (by exact(Kd.V_mono (Kd.V_far (p:=⟨gb177,4,none⟩) (Kd.V_far (p:=⟨gb177,3,none⟩) (Kd.V_far (p:=⟨gb177,2,none⟩) (Kd.V_far (p:=⟨gb177,1,none⟩) (Kd.V_far (p:=⟨gb177,0,none⟩) (Kd.V_mono HL176_4.out (fun k_ hk=>(⟨hk,hk.2⟩:_∧k_≠gb177))) (fun _ hk=>hk.2) (.int .i64 ((rd_T44 l0 x25_1).f0))) (fun _ hk=>hk.2) (.int .i64 ((rd_T44 l0 x25_1).f1))) (fun _ hk=>hk.2) (.int .i64 ((rd_T44 l0 x25_1).f2))) (fun _ hk=>hk.2) (.int .i64 ((rd_T44 l0 x25_1).f3))) (fun _ hk=>hk.2) (.slice A176_4 ((rd_T44 l0 x25_1).f4).length c176_4)) (fun _ h_=>h_.1))) hb) (Kd.R_base ho0)) (Kd.R_base ho1)) (fun _ h_=>h_.1));have n4_:=Aside0.mk (Kd.R_lower (Kd.R_newM (M:=fun k_=>(w.heap.size≤k_)) ho0 (below_size (by repeat((with_reducible first|exact HB.out|refine below_set ?_ GE177.out)))) (fun k_ h_=>h_)) (below_size (by repeat((with_reducible first|exact HB.out|refine below_set ?_ GE177.out)))));have n5_:=Aside0.mk (Kd.R_lower (Kd.R_newM (M:=fun k_=>(w.heap.size≤k_)) ho1 (below_size (by repeat((with_reducible first|exact HB.out|refine below_set ?_ GE177.out)))) (fun k_ h_=>h_)) (below_size (by repeat((with_reducible first|exact HB.out|refine below_set ?_ GE177.out)))));have n6_:=Aside0.mk (Kd.C_below ((Kd.V_reads' (by exact(Kd.V_mono (Kd.V_far (p:=⟨gb177,4,none⟩) (Kd.V_far (p:=⟨gb177,3,none⟩) (Kd.V_far (p:=⟨gb177,2,none⟩) (Kd.V_far (p:=⟨gb177,1,none⟩) (Kd.V_far (p:=⟨gb177,0,none⟩) (Kd.V_mono HL176_4.out (fun k_ hk=>(⟨hk,hk.2⟩:_∧k_≠gb177))) (fun _ hk=>hk.2) (.int .i64 ((rd_T44 l0 x25_1).f0))) (fun _ hk=>hk.2) (.int .i64 ((rd_T44 l0 x25_1).f1))) (fun _ hk=>hk.2) (.int .i64 ((rd_T44 l0 x25_1).f2))) (fun _ hk=>hk.2) (.int .i64 ((rd_T44 l0 x25_1).f3))) (fun _ hk=>hk.2) (.slice A176_4 ((rd_T44 l0 x25_1).f4).length c176_4)) (fun _ h_=>h_.1)))).2.2) hb);have n7_:=Aside0.mk (blk_below (g:=gb177) (o:= .cells #[.int .i64 ((rd_T44 l0 x25_1).f0), .int .i64 ((rd_T44 l0 x25_1).f1), .int .i64 ((rd_T44 l0 x25_1).f2), .int .i64 ((rd_T44 l0 x25_1).f3), .slice A176_4 ((rd_T44 l0 x25_1).f4).length c176_4] 44 (0,0)) (by refine blk_put (cs:= #[.int .i64 ((rd_T44 l0 x25_1).f0), .int .i64 ((rd_T44 l0 x25_1).f1), .int .i64 ((rd_T44 l0 x25_1).f2), .int .i64 ((rd_T44 l0 x25_1).f3), .slice none 0 0]) ?_ 4 _ rfl;refine blk_put (cs:= #[.int .i64 ((rd_T44 l0 x25_1).f0), .int .i64 ((rd_T44 l0 x25_1).f1), .int .i64 ((rd_T44 l0 x25_1).f2), .int .i64 0, .slice none 0 0]) ?_ 3 _ rfl;refine blk_put (cs:= #[.int .i64 ((rd_T44 l0 x25_1).f0), .int .i64 ((rd_T44 l0 x25_1).f1), .int .i64 0, .int .i64 0, .slice none 0 0]) ?_ 2 _ rfl;refine blk_put (cs:= #[.int .i64 ((rd_T44 l0 x25_1).f0), .int .i64 0, .int .i64 0, .int .i64 0, .slice none 0 0]) ?_ 1 _ rfl;refine blk_put (cs:= #[.int .i64 0, .int .i64 0, .int .i64 0, .int .i64 0, .slice none 0 0]) ?_ 0 _ rfl;exact BK177.out) hb);have n8_:=Aside0.mk (below_step (by repeat((with_reducible first|exact HB.out|refine below_set ?_ GE177.out))) hb);clear HO_1;clear HO_7;clear HO_23;clear HL176_4;clear HR176_4;clear BK177;clear HB;have HO_1:=n0_;have HO_7:=n1_;have HO_23:=n2_;have HL176_4:=n3_;have HO182:=n4_;have HO184:=n5_;have HR176_4:=n6_;have BK177:=n7_;have HB:=n8_;clear n0_ n1_ n2_ n3_ n4_ n5_ n6_ n7_ n8_;(try clear hb);(try clear ho0);(try clear ho1);have hcz39_0:w38.cell? ⟨gb177,0,none⟩=some (.int .i64 ((rd_T44 l0 x25_1).f0)):=(blk_cell BK177.out 0).trans rfl;have hcz39_1:w38.cell? ⟨gb177,1,none⟩=some (.int .i64 ((rd_T44 l0 x25_1).f1)):=(blk_cell BK177.out 1).trans rfl;have hcz39_2:w38.cell? ⟨gb177,2,none⟩=some (.int .i64 ((rd_T44 l0 x25_1).f2)):=(blk_cell BK177.out 2).trans rfl;have hcz39_3:w38.cell? ⟨gb177,3,none⟩=some (.int .i64 ((rd_T44 l0 x25_1).f3)):=(blk_cell BK177.out 3).trans rfl;have hcz39_4:w38.cell? ⟨gb177,4,none⟩=some (.slice A176_4 ((rd_T44 l0 x25_1).f4).length c176_4):=(blk_cell BK177.out 4).trans rfl;have hfz39_0:=blk_frozen BK177.out 0;have hfz39_1:=blk_frozen BK177.out 1;have hfz39_2:=blk_frozen BK177.out 2;have hfz39_3:=blk_frozen BK177.out 3;have hfz39_4:=blk_frozen BK177.out 4;have q40:((wrap64 (((rd_T44 l0 x25_1).f0)+((rd_T44 l0 x25_1).f1))):Int)≤((l1.length:Int):Int):=of_decide_eq_true (by(with_reducible assumption));obtain⟨i040,hi040,_,hsz40,_⟩:=info_parts info66;have hroom40:l1.length≤c1:=(Kd.V_reads' HO_1.out).2.1;have hC40:Kd.F k66 _ _ A1 l1.length l1:=(Kd.V_at (base:=w.heap.size) HO_1.out).2.2;have ql40:(((rd_T44 l0 x25_1).f0):Int)≤((wrap64 (((rd_T44 l0 x25_1).f0)+((rd_T44 l0 x25_1).f1))):Int):=of_decide_eq_true (by(with_reducible assumption));have q040:(0:Int)≤(((rd_T44 l0 x25_1).f0):Int):=of_decide_eq_true (by(with_reducible assumption));have hcut40:=cut_mid (P:=Try.prog) 37 66 .i64 .i64 Try.underlying37 hi040 2 hsz40 A1 l1.length c1 ((rd_T44 l0 x25_1).f0) (wrap64 (((rd_T44 l0 x25_1).f0)+((rd_T44 l0 x25_1).f1))) q040 ql40 q40 hroom40;have hr40:=Kd.F_mid (lo:=(((rd_T44 l0 x25_1).f0):Int).toNat) (hi:=((wrap64 (((rd_T44 l0 x25_1).f0)+((rd_T44 l0 x25_1).f1))):Int).toNat) (c:=c1) hC40 (by omega) (by omega) hroom40;obtain⟨A40,hA40⟩: ∃A1_,A1_=(if c1=(((rd_T44 l0 x25_1).f0):Int).toNat then A1 else (A1:Option Addr).map (·.add ((((rd_T44 l0 x25_1).f0):Int).toNat*2))):=⟨_,rfl⟩;obtain⟨c40,hc40⟩: ∃c1_,c1_=c1-(((rd_T44 l0 x25_1).f0):Int).toNat:=⟨_,rfl⟩;have hy40:y185.length=((wrap64 (((rd_T44 l0 x25_1).f0)+((rd_T44 l0 x25_1).f1))):Int).toNat-(((rd_T44 l0 x25_1).f0):Int).toNat:=(by rw [Ny185.out,List.length_drop,List.length_take]<;>omega);rw [show((l1).take ((wrap64 (((rd_T44 l0 x25_1).f0)+((rd_T44 l0 x25_1).f1))):Int).toNat).drop (((rd_T44 l0 x25_1).f0):Int).toNat=y185 from Ny185.out.symm] at hr40;replace hr40:Kd.F k66 _ _ A40 y185.length y185:=(by rw [hA40];exact hr40);rw [← hy40, ← hA40, ← hc40] at hcut40;have HO189:=Aside0.mk (show Kd.V k66 66 _ w.heap.size _ (.slice A40 y185.length c40) y185 from Kd.V_mk (by rw [hy40,hc40];exact Nat.sub_le_sub_right (Nat.le_trans (by omega) hroom40) _) hr40);have HC189:=Aside0.mk (show y185.length≤c40 from by rw [hy40,hc40];exact Nat.sub_le_sub_right (Nat.le_trans (by omega) hroom40) _);clear hr40 hC40 hroom40 hi040 hsz40 hc40;have KY40:=Aside0.mk hy40;have KA40:=Aside0.mk hA40;clear hy40 hA40;replace q40:=eq_true q40;obtain⟨Ao41,co41,eo41⟩:=Kd.R_slice HO182.out;subst eo41)|(go_at_call 56;(with_reducible refine(api_Line_56.calls k1 _ _ t178 _ _ y185 false _ ?side1 ?side2 ?side3 ?side4 A19.out).mono ?_);(case side1=>repeat(exact(Kd.R_reads' HO182.out).2.2));(case side2=>exact(Kd.R_reads' HO182.out).2.1);(case side3=>repeat(exact(Kd.V_reads' HO189.out).2.2));(case side4=>exact(Kd.V_reads' HO189.out).2.1);rintro e w' ⟨rfl,⟨nd,rfl⟩⟩))
             go_ret2
             exact⟨_,by rfl,by exact Kd.N_nil _ _ _ _ _,by repeat((with_reducible first|exact HB.out|apply pw_below_drewN))⟩
           ·rw [if_neg c18] at H
            exact absurd H (by simp)
          ·rw [if_neg c17] at H
           exact absurd H (by simp)
         ·rw [if_neg c16] at H
          exact absurd H (by simp)
       ·rw [if_neg c10] at H
        exact absurd H (by simp)
      ·rw [if_neg c9] at H
       exact absurd H (by simp)
     ·rw [if_neg c8] at H
      have c8b0:decide (x25_1<(l0.length:Int))=false:=decide_eq_false c8
      clear c8
      by_cases c42:0≤x8_1
      ·rw [if_pos c42] at H
       have c42b0:=eq_true c42
       have c42b1:decide (0≤x8_1)=true:=decide_eq_true c42
       clear c42
       by_cases c43:x8_1≤(l1.length:Int)
       ·rw [if_pos c43] at H
        have c43b0:=eq_true c43
        have c43b1:decide (x8_1≤(l1.length:Int))=true:=decide_eq_true c43
        clear c43
        obtain⟨y164,hy164⟩: ∃y_:List (S66),y_=(l1.drop (x8_1:Int).toNat):=⟨_,rfl⟩
        replace H:(if x7_1.length<4398046511104 then ((script_Normal.f k1 (x7_1++ [(⟨1,y164⟩:S47)])).bind fun bt172=>(some (bt172.1,bt172.2))) else (none))=some (r1,r2):=by(rw [hy164];with_reducible exact H)
        have Ny164:=Aside0.mk hy164
        clear hy164
        by_cases c44:x7_1.length<4398046511104
        ·rw [if_pos c44] at H
         have LMc44:=Aside0.mk c44
         clear c44
         obtain⟨y169,hy169⟩: ∃y_:List (S47),y_=(x7_1++ [(⟨1,y164⟩:S47)]):=⟨_,rfl⟩
         replace H:((script_Normal.f k1 y169).bind fun bt172=>(some (bt172.1,bt172.2)))=some (r1,r2):=by(rw [hy169];with_reducible exact H)
         have Ny169:=Aside0.mk hy169
         clear hy169
         replace H:=Option.bind_eq_some_iff.mp H
         obtain⟨⟨t172,t173⟩,A450,H⟩:=H
         replace H:(some (t172,t173))=some (r1,r2):=H
         have A45:=Aside0.mk A450
         clear A450
         simp only [Option.some.injEq,Prod.mk.injEq] at H
         obtain⟨rfl,rfl⟩:=H
         have q46:(x8_1:Int)≤((l1.length:Int):Int):=of_decide_eq_true (by(with_reducible assumption))
         obtain⟨i046,hi046,_,hsz46,_⟩:=info_parts info66
         have hroom46:l1.length≤c1:=(Kd.V_reads' HO_1.out).2.1
         have hC46:Kd.F k66 _ _ A1 l1.length l1:=(Kd.V_at (base:=w.heap.size) HO_1.out).2.2
         have q046:(0:Int)≤(x8_1:Int):=of_decide_eq_true (by(with_reducible assumption))
         have hcut46:=cut_from (P:=Try.prog) 37 66 .i64 Try.underlying37 hi046 2 hsz46 A1 l1.length c1 x8_1 q046 q46
         have hr46:=Kd.F_cut (m:=(x8_1:Int).toNat) (c:=c1) hC46 (by omega) hroom46
         obtain⟨A46,hA46⟩: ∃A1_,A1_=(if c1=(x8_1:Int).toNat then A1 else (A1:Option Addr).map (·.add ((x8_1:Int).toNat*2))):=⟨_,rfl⟩
         obtain⟨c46,hc46⟩: ∃c1_,c1_=c1-(x8_1:Int).toNat:=⟨_,rfl⟩
         have hy46:y164.length=l1.length-(x8_1:Int).toNat:=(by rw [Ny164.out,List.length_drop]<;>omega)
         rw [show(l1).drop (x8_1:Int).toNat=y164 from Ny164.out.symm] at hr46
         replace hr46:Kd.F k66 _ _ A46 y164.length y164:=(by rw [hA46];exact hr46)
         rw [← hy46, ← hA46, ← hc46] at hcut46
         have HO168:=Aside0.mk (show Kd.V k66 66 _ w.heap.size _ (.slice A46 y164.length c46) y164 from Kd.V_mk (by rw [hy46,hc46];exact Nat.sub_le_sub_right hroom46 _) hr46)
         have HC168:=Aside0.mk (show y164.length≤c46 from by rw [hy46,hc46];exact Nat.sub_le_sub_right hroom46 _)
         clear hr46 hC46 hroom46 hi046 hsz46 hc46
         have KY46:=Aside0.mk hy46
         have KA46:=Aside0.mk hA46
         clear hy46 hA46
         replace q46:=eq_true q46
         go_wp2_with(first|((with_reducible refine gate_builtin (b:= .append) (xs:= #[.tmp 71, .tmp 76]) rfl ?_);at_builtin;refine Kd.N_append k47 (w0:=w) w.heap.size rfl (.tmp 71) (.tmp 76) 22 47 (.agg #[(.int .i64 0),(.slice none 0 0)]) 32 rfl Try.underlying22 info47 rfl (by decide) (by omega) u7 x7_1 (⟨1,y164⟩:S47) [.int .i64 1, .slice A46 y164.length c46] (fun k_=>((P0_ k_∨P1_ k_)∨w.heap.size≤k_)) (fun k_=>((fun k_=>((P0_ k_∨P1_ k_)∨w.heap.size≤k_))) k_∧some k_≠(u7:Value).ownBlock) rfl rfl ?aP (fun _ hk=>hk) ?aF ?aO ?aB ?aS ?aL ?_;(case aP=>exact(k47_mkF _ _ (⟨1,y164⟩:S47) (Kd.V_reads' (Kd.V_mono (ok':=(fun k_=>((fun k_=>((P0_ k_∨P1_ k_)∨w.heap.size≤k_))) k_∧some k_≠(u7:Value).ownBlock)) (HO168.out) (fun k_ hk=>by simp only [and_assoc,hk,ne_eq,not_false_eq_true,and_self,true_and]))).2.1 (Kd.V_F (Kd.V_mono (ok':=(fun k_=>((fun k_=>((P0_ k_∨P1_ k_)∨w.heap.size≤k_))) k_∧some k_≠(u7:Value).ownBlock)) (HO168.out) (fun k_ hk=>by simp only [and_assoc,hk,ne_eq,not_false_eq_true,and_self,true_and])))));(case aB=>exact(by repeat((with_reducible exact HB.out))));(case aF=>exact(fun k_ hk=>(.inr (Nat.le_trans (below_size (by repeat((with_reducible exact HB.out)))) hk))));(case aO=>exact(by exact HO_7.out));(case aS=>exact(below_size (by repeat((with_reducible exact HB.out)))));(case aL=>have:=LMc44.out;omega);intro v170 w47 ho hb hg hat;rw [← Ny169.out] at ho;have n0_:=Aside0.mk (Kd.V_afterv (ok:=(fun k_=>((P0_ k_∨P1_ k_)∨w.heap.size≤k_))) (by exact HO_1.out) hg hat);have n1_:=Aside0.mk (Kd.V_afterv (ok:=(fun k_=>((P0_ k_∨P1_ k_)∨w.heap.size≤k_))) (by exact HO_23.out) hg hat);have n2_:=Aside0.mk (Kd.V_afterv (ok:=(fun k_=>((P0_ k_∨P1_ k_)∨w.heap.size≤k_))) (by exact HO168.out) hg hat);have n3_:=Aside0.mk (hb);have n4_:=Aside0.mk (ho);clear HO_1;clear HO_23;clear HO168;clear HB;clear HO_7;have HO_1:=n0_;have HO_23:=n1_;have HO168:=n2_;have HB:=n3_;have HO171:=n4_;clear n0_ n1_ n2_ n3_ n4_;clear ho hb hg hat;obtain⟨Ao48,co48,eo48⟩:=Kd.N_slice HO171.out;subst eo48)|((with_reducible refine gate_callee (f:=42) rfl ?_);refine goesL_ (some 78) rfl rfl Try.func42 (by kernel_rfl) rfl #[.slice Ao48 y169.length co48] rfl (by(try simp only [List.map_toArray,List.map_cons,List.map_nil]);rfl) ?_;(with_reducible refine(script_Normal.calls k1 _ _ y169 t172 t173 _ ?side1 ?side2 A45.out).mono ?_);(case side1=>repeat(exact(Kd.N_reads' HO171.out).2.2));(case side2=>exact(Kd.N_reads' HO171.out).2.1);rintro e w49 ⟨v174,rfl,ho0,hb⟩;refine⟨_,rfl,?_⟩;have n0_:=Aside0.mk (Kd.V_elder' (by exact HO_1.out) (by exact Kd.S_base ho0) hb);have n1_:=Aside0.mk (Kd.V_elder' (by exact HO_23.out) (by exact Kd.S_base ho0) hb);have n2_:=Aside0.mk (Kd.V_elder' (by exact HO168.out) (by exact Kd.S_base ho0) hb);have n3_:=Aside0.mk (Kd.N_elder' (by exact HO171.out) (by exact Kd.S_base ho0) hb);have n4_:=Aside0.mk (Kd.N_lower (Kd.N_mono (ok':=fun k_=>((P0_ k_∨P1_ k_)∨w.heap.size≤k_)∧some k_≠(.slice Ao48 y169.length co48:Value).ownBlock) (Kd.S_N (Kd.S_bound ho0)) (fun k_ hk_=>⟨(.inr (Nat.le_trans (below_size (by repeat((with_reducible exact HB.out)))) hk_.2.1)),(Kd.fresh' (Kd.N_lt (by exact HO171.out)) k_ hk_.2.1)⟩)) (below_size (by repeat((with_reducible exact HB.out)))));have n5_:=Aside0.mk (below_step (by repeat((with_reducible exact HB.out))) hb);clear HO_1;clear HO_23;clear HO168;clear HO171;clear HB;have HO_1:=n0_;have HO_23:=n1_;have HO168:=n2_;have HO171:=n3_;have HO175:=n4_;have HB:=n5_;clear n0_ n1_ n2_ n3_ n4_ n5_;(try clear hb);(try clear ho0)))
         go_ret2
         exact⟨_,by rfl,by exact Kd.N_mono HO175.out (fun _ hk=>hk.1),by repeat((with_reducible exact HB.out))⟩
        ·rw [if_neg c44] at H
         exact absurd H (by simp)
       ·rw [if_neg c43] at H
        exact absurd H (by simp)
      ·rw [if_neg c42] at H
       exact absurd H (by simp)
 ·rw [if_neg c4] at H
  have c4b0:(t163==0)=false:=beq_eq_false_iff_ne.mpr c4
  have c4b1:(t163 != 0)=true:=bne_iff_ne.mpr c4
  simp only [Option.some.injEq,Prod.mk.injEq] at H
  obtain⟨rfl,rfl⟩:=H
  go_enter Try.func25,Try.ntmps25
  go_wp2_with(((with_reducible refine gate_callee (f:=18) rfl ?_);refine goesL_ (some 16) rfl rfl Try.func18 (by kernel_rfl) rfl #[.slice A0 l0.length c0] rfl (by(try simp only [List.map_toArray,List.map_cons,List.map_nil]);rfl) ?_;(with_reducible refine(hunk_Check.calls k _ _ l0 t163 _ ?side1 ?side2 A3.out).mono ?_);(case side1=>repeat(exact(Kd.V_reads' HO0.out).2.2));(case side2=>exact(Kd.V_reads' HO0.out).2.1);rintro e w50 ⟨rfl,hb⟩;refine⟨_,rfl,?_⟩;have n0_:=Aside0.mk (Kd.V_below (by exact HO0.out) hb);have n1_:=Aside0.mk (Kd.V_below (by exact HO1.out) hb);have n2_:=Aside0.mk (below_step (by repeat((with_reducible exact HB.out))) hb);clear HO0;clear HO1;clear HB;have HO0:=n0_;have HO1:=n1_;have HB:=n2_;clear n0_ n1_ n2_;(try clear hb)))
  go_ret2
  exact⟨_,by rfl,by exact Kd.N_nil _ _ _ _ _,by repeat((with_reducible exact HB.out))⟩
end Go.Proofs.Ytfnbodjmmkjlcaa.H
end
section
namespace Go.Proofs.Ytfnbodjmmkjlcaa.H
open Go.RowKit Go.Proofs.YtfnbodjmmkjlcaaW.PrintWords Go.Proofs.YtfnbodjmmkjlcaaW.PrintLast Go.Proofs.YtfnbodjmmkjlcaaW.PrintMore
attribute [local go_sem] max2_int min2_int max_two min_two max_three min_three max_four min_four
set_option linter.unusedVariables false
set_option linter.unusedSimpArgs false
def script_Apply.f (k:Nat) (l0:List (S47)) (l1:List (S66)):Option ((List (S66))×Int):=(script_Sides.f k l0).bind fun bt372=>(if bt372.2.2=0 then ((api_Line_56.f k bt372.1 l1).bind fun t379=>(if t379=true then (some (bt372.2.1,0)) else (some (([]:List (S66)),8)))) else (some (([]:List (S66)),bt372.2.2)))
theorem script_Apply.mono: ∀a0 a1 k,LeO (script_Apply.f k a0 a1) (script_Apply.f (k+1) a0 a1):=by
 intro a0 a1 k
 unfold script_Apply.f
 repeat' first
   | (with_reducible exact api_Line_56.mono _ _ _)
   | (with_reducible exact script_Sides.mono _ _)
   | (with_reducible exact LeO.refl _)
   | (with_reducible exact LeO.none _)
   | (with_reducible refine LeO.ite ?_ ?_)
   | (with_reducible refine LeO.bind ?_ (fun _=>?_))
   | exact api_Line_56.mono _ _ _
   | exact script_Sides.mono _ _
   | exact LeO.none _
   | refine LeO.ite ?_ ?_
   | refine LeO.bind ?_ (fun _=>?_)
set_option maxHeartbeats 8000000 in
set_option maxRecDepth 100000 in
theorem script_Apply.calls (k:Nat) (A0:Option Addr) (c0:Nat) (l0:List (S47)) (A1:Option Addr) (c1:Nat) (l1:List (S66)) (r1:List (S66)) (r2:Int) (w:World) (hr0:Kd.C k47 w A0 l0.length l0) (hc0:l0.length≤c0) (hr1:Kd.C k66 w A1 l1.length l1) (hc1:l1.length≤c1) (h:script_Apply.f k l0 l1=some (r1,r2)):
  Calls Try.prog 74 #[.slice A0 l0.length c0, .slice A1 l1.length c1] w fun e w'=> ∃v0_:Value,e= .returned (.tuple #[v0_, .int .i64 r2])∧Kd.R k66 66 w' w.heap.size (fun _=>True) v0_ r1∧Below w.heap.size w w':=by
 have HR0:=Aside0.mk hr0
 have HC0:=Aside0.mk hc0
 clear hr0 hc0
 have HR1:=Aside0.mk hr1
 have HC1:=Aside0.mk hc1
 clear hr1 hc1
 have HB:=Aside0.mk (Below.refl w.heap.size w)
 have H:((script_Sides.f k l0).bind fun bt372=>(if bt372.2.2=0 then ((api_Line_56.f k bt372.1 l1).bind fun t379=>(if t379=true then (some (bt372.2.1,0)) else (some (([]:List (S66)),8)))) else (some (([]:List (S66)),bt372.2.2))))=some (r1,r2):=h
 clear h
 replace H:=Option.bind_eq_some_iff.mp H
 obtain⟨⟨t372,t373,t374⟩,A30,H⟩:=H
 replace H:(if t374=0 then ((api_Line_56.f k t372 l1).bind fun t379=>(if t379=true then (some (t373,0)) else (some (([]:List (S66)),8)))) else (some (([]:List (S66)),t374)))=some (r1,r2):=H
 have A3:=Aside0.mk A30
 clear A30
 by_cases c4:t374=0
 ·rw [if_pos c4] at H
  have c4b0:(t374==0)=true:=beq_iff_eq.mpr c4
  have c4b1:(t374 != 0)=false:=bne_eq_false_iff_eq.mpr c4
  clear c4
  replace H:=Option.bind_eq_some_iff.mp H
  obtain⟨t379,A50,H⟩:=H
  replace H:(if t379=true then (some (t373,0)) else (some (([]:List (S66)),8)))=some (r1,r2):=H
  have A5:=Aside0.mk A50
  clear A50
  by_cases c6:t379=true
  ·subst c6
   have H1:(some (t373,0))=some (r1,r2):=by rw [if_pos rfl] at H;exact H
   clear H
   have H:=H1
   clear H1
   simp only [Option.some.injEq,Prod.mk.injEq] at H
   obtain⟨rfl,rfl⟩:=H
   go_enter Try.func74,Try.ntmps74
   go_wp2_with(first|((with_reducible refine gate_callee (f:=55) rfl ?_);refine goesL_ (some 11) rfl rfl Try.func55 (by kernel_rfl) rfl #[.slice A0 l0.length c0] rfl (by(try simp only [List.map_toArray,List.map_cons,List.map_nil]);rfl) ?_;(with_reducible refine(script_Sides.calls k _ _ l0 t372 t373 t374 _ ?side1 ?side2 A3.out).mono ?_);(case side1=>repeat(exact HR0.out));(case side2=>exact HC0.out);rintro e w7 ⟨v375,v377,rfl,ho0,ho1,hb⟩;refine⟨_,rfl,?_⟩;have n0_:=Aside0.mk (Kd.R_lower ho0 (below_size (by repeat((with_reducible exact HB.out)))));have n1_:=Aside0.mk (Kd.R_lower ho1 (below_size (by repeat((with_reducible exact HB.out)))));have n2_:=Aside0.mk (below_step (by repeat((with_reducible exact HB.out))) hb);clear HB;have HO376:=n0_;have HO378:=n1_;have HB:=n2_;clear n0_ n1_ n2_;(try clear hb);(try clear ho0);(try clear ho1);obtain⟨Ao8,co8,eo8⟩:=Kd.R_slice HO376.out;subst eo8)|((with_reducible refine gate_callee (f:=56) rfl ?_);refine goesL_ (some 22) rfl rfl Try.func56 (by kernel_rfl) rfl #[.slice Ao8 t372.length co8, .slice A1 l1.length c1] rfl (by(try simp only [List.map_toArray,List.map_cons,List.map_nil]);rfl) ?_;(with_reducible refine(api_Line_56.calls k _ _ t372 _ _ l1 true _ ?side1 ?side2 ?side3 ?side4 A5.out).mono ?_);(case side1=>repeat(exact(Kd.R_reads' HO376.out).2.2));(case side2=>exact(Kd.R_reads' HO376.out).2.1);(case side3=>repeat(exact(Kd.C_below HR1.out HB.out)));(case side4=>exact HC1.out);rintro e w' ⟨rfl,⟨nd,rfl⟩⟩;refine⟨_,rfl,?_⟩))
   go_ret2
   exact⟨_,by rfl,by(with_reducible repeat apply zr2);exact Kd.R_mono HO378.out (fun _ hk=>trivial),by repeat((with_reducible first|exact HB.out|apply pw_below_drewN))⟩
  ·replace c6:=Bool.eq_false_iff.mpr c6
   subst c6
   have H1:(some (([]:List (S66)),8))=some (r1,r2):=by rw [if_neg (show ¬(false=true) by decide)] at H;exact H
   clear H
   have H:=H1
   clear H1
   simp only [Option.some.injEq,Prod.mk.injEq] at H
   obtain⟨rfl,rfl⟩:=H
   go_enter Try.func74,Try.ntmps74
   go_wp2_with(first|((with_reducible refine gate_callee (f:=55) rfl ?_);refine goesL_ (some 11) rfl rfl Try.func55 (by kernel_rfl) rfl #[.slice A0 l0.length c0] rfl (by(try simp only [List.map_toArray,List.map_cons,List.map_nil]);rfl) ?_;(with_reducible refine(script_Sides.calls k _ _ l0 t372 t373 t374 _ ?side1 ?side2 A3.out).mono ?_);(case side1=>repeat(exact HR0.out));(case side2=>exact HC0.out);rintro e w9 ⟨v375,v377,rfl,ho0,ho1,hb⟩;refine⟨_,rfl,?_⟩;have n0_:=Aside0.mk (Kd.R_lower ho0 (below_size (by repeat((with_reducible exact HB.out)))));have n1_:=Aside0.mk (Kd.R_lower ho1 (below_size (by repeat((with_reducible exact HB.out)))));have n2_:=Aside0.mk (below_step (by repeat((with_reducible exact HB.out))) hb);clear HB;have HO376:=n0_;have HO378:=n1_;have HB:=n2_;clear n0_ n1_ n2_;(try clear hb);(try clear ho0);(try clear ho1);obtain⟨Ao10,co10,eo10⟩:=Kd.R_slice HO376.out;subst eo10)|((with_reducible refine gate_callee (f:=56) rfl ?_);refine goesL_ (some 22) rfl rfl Try.func56 (by kernel_rfl) rfl #[.slice Ao10 t372.length co10, .slice A1 l1.length c1] rfl (by(try simp only [List.map_toArray,List.map_cons,List.map_nil]);rfl) ?_;(with_reducible refine(api_Line_56.calls k _ _ t372 _ _ l1 false _ ?side1 ?side2 ?side3 ?side4 A5.out).mono ?_);(case side1=>repeat(exact(Kd.R_reads' HO376.out).2.2));(case side2=>exact(Kd.R_reads' HO376.out).2.1);(case side3=>repeat(exact(Kd.C_below HR1.out HB.out)));(case side4=>exact HC1.out);rintro e w' ⟨rfl,⟨nd,rfl⟩⟩;refine⟨_,rfl,?_⟩))
   go_ret2
   exact⟨_,by rfl,by exact Kd.R_nil _ _ _ _ _,by repeat((with_reducible first|exact HB.out|apply pw_below_drewN))⟩
 ·rw [if_neg c4] at H
  have c4b0:(t374==0)=false:=beq_eq_false_iff_ne.mpr c4
  have c4b1:(t374 != 0)=true:=bne_iff_ne.mpr c4
  simp only [Option.some.injEq,Prod.mk.injEq] at H
  obtain⟨rfl,rfl⟩:=H
  go_enter Try.func74,Try.ntmps74
  go_wp2_with(((with_reducible refine gate_callee (f:=55) rfl ?_);refine goesL_ (some 11) rfl rfl Try.func55 (by kernel_rfl) rfl #[.slice A0 l0.length c0] rfl (by(try simp only [List.map_toArray,List.map_cons,List.map_nil]);rfl) ?_;(with_reducible refine(script_Sides.calls k _ _ l0 t372 t373 t374 _ ?side1 ?side2 A3.out).mono ?_);(case side1=>repeat(exact HR0.out));(case side2=>exact HC0.out);rintro e w11 ⟨v375,v377,rfl,ho0,ho1,hb⟩;refine⟨_,rfl,?_⟩;have n0_:=Aside0.mk (Kd.R_lower ho0 (below_size (by repeat((with_reducible exact HB.out)))));have n1_:=Aside0.mk (Kd.R_lower ho1 (below_size (by repeat((with_reducible exact HB.out)))));have n2_:=Aside0.mk (below_step (by repeat((with_reducible exact HB.out))) hb);clear HB;have HO376:=n0_;have HO378:=n1_;have HB:=n2_;clear n0_ n1_ n2_;(try clear hb);(try clear ho0);(try clear ho1)))
  go_ret2
  exact⟨_,by rfl,by exact Kd.R_nil _ _ _ _ _,by repeat((with_reducible exact HB.out))⟩
end Go.Proofs.Ytfnbodjmmkjlcaa.H
end
section
namespace Go.Proofs
open Go.Shelf
def Try.lays137_ren:Go.Shelf.Ren:=⟨fun|137=>81|217=>83|266=>84|n=>n,fun|9=>9|5=>5|3=>3|n=>n,fun|n=>n⟩
theorem Try.lays137:Go.Proofs.Lays.n137 Try.prog Try.lays137_ren:= {
  mixed:=by kernel_rfl
  f137:=Try.func81.trans (congrArg some (by kernel_rfl))
  f217:=Try.func83.trans (congrArg some (by kernel_rfl))
  f266:=Try.func84.trans (congrArg some (by kernel_rfl))
  t3:=Try.underlying3
  a3:=Try.isAgg3
  z3:=Try.sizeOf3
  v3:=Try.zeroValue3
  t5:=Try.underlying5
  a5:=Try.isAgg5
  z5:=Try.sizeOf5
  v5:=Try.zeroValue5
  t9:=Try.underlying9
  a9:=Try.isAgg9
  z9:=Try.sizeOf9
  v9:=Try.zeroValue9 }
open Go.RowKit in
theorem Try.strings_IndexByte (s:ByteArray) (c:Int) (w:World):
    Calls Try.prog 81 #[.string s, .int .u8 c] w fun e w'=>e= .returned (.int .i64 (Lib.indexByte s.data.toList c.toNat.toUInt8))∧w'=w:=Any.strings_IndexByte Try.lays137 s c w
end Go.Proofs
end
section
namespace Go.Proofs.Ytfnbodjmmkjlcaa.H
open Go.RowKit Go.Proofs.YtfnbodjmmkjlcaaW.PrintWords Go.Proofs.YtfnbodjmmkjlcaaW.PrintLast Go.Proofs.YtfnbodjmmkjlcaaW.PrintMore
attribute [local go_sem] max2_int min2_int max_two min_two max_three min_three max_four min_four
set_option linter.unusedVariables false
set_option linter.unusedSimpArgs false
def strings_IndexByte.f (a0:ByteArray) (a1:Int):Option Int:=some (Lib.indexByte a0.data.toList a1.toNat.toUInt8)
theorem strings_IndexByte.calls (a0:ByteArray) (a1:Int) (r:Int) (w:World) (h:strings_IndexByte.f a0 a1=some r):
    Calls Try.prog 81 #[.string a0, .int .u8 a1] w fun e w'=>e= .returned (.int .i64 r)∧Drawn0 w w':=by
  obtain rfl:=Option.some.inj h
  exact(Try.strings_IndexByte a0 a1 w).mono (fun _ _ h=>⟨h.1,h.2▸Drawn0.refl _⟩)
end Go.Proofs.Ytfnbodjmmkjlcaa.H
end
section
namespace Go.Proofs.Ytfnbodjmmkjlcaa.H
open Go.RowKit Go.Proofs.YtfnbodjmmkjlcaaW.PrintWords Go.Proofs.YtfnbodjmmkjlcaaW.PrintLast Go.Proofs.YtfnbodjmmkjlcaaW.PrintMore
attribute [local go_sem] max2_int min2_int max_two min_two max_three min_three max_four min_four
set_option linter.unusedVariables false
set_option linter.unusedSimpArgs false
def text_Right.l0:Nat→List (S66)→List (S66)→Int→Int→Option (Bool)
 | 0,_,_,_,_=>none
 | k+1,x0,x5,x6,x7=>if x7<x6 then (if 0≤x7 then (if x7<(x5.length:Int) then ((strings_IndexByte.f ((rd_T66 x5 x7).f0) 10).bind fun t382=>(if t382≥0 then (some false) else (if (rd_T66 x5 x7).f1=true then (if x7<(wrap64 ((x0.length:Int)-1)) then (some false) else (if ((rd_T66 x5 x7).f0).toList=([]:List UInt8) then (some false) else (text_Right.l0 k x0 x5 x6 (wrap64 (x7+1))))) else (text_Right.l0 k x0 x5 x6 (wrap64 (x7+1)))))) else (none)) else (none)) else (some true)
def text_Right.f (k:Nat) (l0:List (S66)):Option (Bool):=text_Right.l0 k l0 l0 (l0.length:Int) 0
theorem text_Right.mono_l: ∀k,(∀y0 y1 y2 y3,LeO (text_Right.l0 k y0 y1 y2 y3) (text_Right.l0 (k+1) y0 y1 y2 y3))
 | 0=>fun _ _ _ _ r h=>by simp [text_Right.l0] at h
 | k+1=>by
  have ih0:=text_Right.mono_l k
  ·intro y0 y1 y2 y3
   unfold text_Right.l0
   repeat' first
   | (with_reducible exact ih0 _ _ _ _)
   | (with_reducible exact LeO.refl _)
   | (with_reducible exact LeO.none _)
   | (with_reducible refine LeO.ite ?_ ?_)
   | (with_reducible refine LeO.bind ?_ (fun _=>?_))
   | exact ih0 _ _ _ _
   | exact LeO.none _
   | refine LeO.ite ?_ ?_
   | refine LeO.bind ?_ (fun _=>?_)
theorem text_Right.mono: ∀a0 k,LeO (text_Right.f k a0) (text_Right.f (k+1) a0):=by
 intro a0 k
 have ih0:=text_Right.mono_l k
 unfold text_Right.f
 repeat' first
   | (with_reducible exact ih0 _ _ _ _)
   | (with_reducible exact LeO.refl _)
   | (with_reducible exact LeO.none _)
   | (with_reducible refine LeO.ite ?_ ?_)
   | (with_reducible refine LeO.bind ?_ (fun _=>?_))
   | exact ih0 _ _ _ _
   | exact LeO.none _
   | refine LeO.ite ?_ ?_
   | refine LeO.bind ?_ (fun _=>?_)
set_option maxHeartbeats 8000000 in
set_option maxRecDepth 100000 in
theorem text_Right.calls (k:Nat) (A0:Option Addr) (c0:Nat) (l0:List (S66)) (r:Bool) (w:World) (hr0:Kd.C k66 w A0 l0.length l0) (hc0:l0.length≤c0) (h:text_Right.f k l0=some r):
  Calls Try.prog 75 #[.slice A0 l0.length c0] w fun e w'=>e= .returned (.bool r)∧Below w.heap.size w w':=by
 have hu66:=Try.underlying66
 have HR0:=Aside0.mk hr0
 have HC0:=Aside0.mk hc0
 clear hr0 hc0
 have HB:=Aside0.mk (Below.refl w.heap.size w)
 have H:(text_Right.l0 k l0 l0 (l0.length:Int) 0)=some r:=h
 clear h
 have H':=Aside0.mk H
 clear H
 go_enter Try.func75,Try.ntmps75
 go_wp2
 go_loopg [7] k (fun kq v7 w'=> ∃(x7_1:Int),v7= .int .i64 x7_1∧Aside0 (text_Right.l0 kq l0 l0 (l0.length:Int) x7_1=some r)∧Aside0 (kq≤k)∧Aside0 (Below w.heap.size w w'))
 case atStart=>exact⟨(0),(by rfl),H',⟨Nat.le_refl _⟩,⟨by repeat((with_reducible exact HB.out))⟩⟩
 case round=>
  clear H'
  obtain⟨x7_1,rfl,HA,HK1,HB⟩:=hrel
  cases gk with
  | zero=>exact absurd HA.out (by simp [text_Right.l0])
  | succ k1=>
   have H:=HA.out
   clear HA
   simp only [text_Right.l0] at H
   by_cases c2:x7_1<(l0.length:Int)
   ·rw [if_pos c2] at H
    have c2b0:decide (x7_1<(l0.length:Int))=true:=decide_eq_true c2
    clear c2
    by_cases c3:0≤x7_1
    ·rw [if_pos c3] at H
     have c3b0:decide (0≤x7_1)=true:=decide_eq_true c3
     clear c3
     by_cases c4:x7_1<(l0.length:Int)
     ·rw [if_pos c4] at H
      have c4b0:decide (x7_1<(l0.length:Int))=true:=decide_eq_true c4
      clear c4
      replace H:=Option.bind_eq_some_iff.mp H
      obtain⟨t382,A50,H⟩:=H
      replace H:(if t382≥0 then (some false) else (if (rd_T66 l0 x7_1).f1=true then (if x7_1<(wrap64 ((l0.length:Int)-1)) then (some false) else (if ((rd_T66 l0 x7_1).f0).toList=([]:List UInt8) then (some false) else (text_Right.l0 k1 l0 l0 (l0.length:Int) (wrap64 (x7_1+1))))) else (text_Right.l0 k1 l0 l0 (l0.length:Int) (wrap64 (x7_1+1)))))=some r:=H
      have A5:=Aside0.mk A50
      clear A50
      by_cases c6:t382≥0
      ·rw [if_pos c6] at H
       have c6b0:decide (0≤t382)=true:=decide_eq_true c6
       clear c6
       obtain rfl:=Option.some.inj H
       have p380:0≤(x7_1:Int):=of_decide_eq_true (by(with_reducible assumption))
       have q380:x7_1<(l0.length:Int):=of_decide_eq_true (by(with_reducible assumption))
       obtain⟨ad380,e380,hx380_0,hx380_1⟩:=at_T66 HR0.out x7_1 p380 q380
       cases e380
       replace hx380_0:=(HB.out.cell (World.block_lt_of_cell? w _ hx380_0)).trans hx380_0
       replace hx380_1:=(HB.out.cell (World.block_lt_of_cell? w _ hx380_1)).trans hx380_1
       replace p380:=eq_true p380
       replace q380:=eq_true q380
       go_wp2_with(first|((with_reducible refine gate_dst (N:=4) rfl ?_);(try(refine gate_guard (by rfl) ?_;dsimp only));refine box_event ?hg (N:=4) ?hd (cs:= #[.string (⟨#[]⟩:ByteArray), .bool false]) (t:=66) ?hr ?_;(case hd=>rfl);(case hg=>rfl);(case hr=>(go_simp;done));intro gb381 hg w7 hbox hb;have n0_:=Aside0.mk (below_step (by repeat((with_reducible exact HB.out))) hb);have n1_:=Aside0.mk (hbox);have n2_:=Aside0.mk ((by rw [hg];exact(below_size (by repeat((with_reducible exact HB.out)))):w.heap.size≤gb381));have n3_:=Aside0.mk ((by rw [hg];exact(below_size (by repeat((with_reducible exact HB.out)))):w.heap.size≤gb381));clear HB;have HB:=n0_;have BK381:=n1_;have GW381:=n2_;have GE381:=n3_;clear n0_ n1_ n2_ n3_;clear hb hbox hg;have hcz8_0:w7.cell? ⟨gb381,0,none⟩=some (.string (⟨#[]⟩:ByteArray)):=(blk_cell BK381.out 0).trans rfl;have hcz8_1:w7.cell? ⟨gb381,1,none⟩=some (.bool false):=(blk_cell BK381.out 1).trans rfl;have hfz8_0:=blk_frozen BK381.out 0;have hfz8_1:=blk_frozen BK381.out 1)|((with_reducible refine gate_callee (f:=81) rfl ?_);refine goesL_ (some 14) rfl rfl Try.func81 (by kernel_rfl) rfl #[.string ((rd_T66 l0 x7_1).f0), .int .u8 10] rfl (by(try simp only [List.map_toArray,List.map_cons,List.map_nil]);rfl) ?_;(with_reducible refine(strings_IndexByte.calls ((rd_T66 l0 x7_1).f0) 10 t382 _ A5.out).mono ?_);rintro e w' ⟨rfl,⟨nd,rfl⟩⟩;refine⟨_,rfl,?_⟩))
       go_ret
       exact⟨by rfl,by repeat((with_reducible first|exact HB.out|apply pw_below_drewN|refine below_set ?_ GE381.out))⟩
      ·rw [if_neg c6] at H
       have c6b0:decide (0≤t382)=false:=decide_eq_false c6
       clear c6
       obtain⟨bq9,hbq9⟩: ∃b_:Bool,b_=((rd_T66 l0 x7_1).f1):=⟨_,rfl⟩
       replace H:(if bq9=true then (if x7_1<(wrap64 ((l0.length:Int)-1)) then (some false) else (if ((rd_T66 l0 x7_1).f0).toList=([]:List UInt8) then (some false) else (text_Right.l0 k1 l0 l0 (l0.length:Int) (wrap64 (x7_1+1))))) else (text_Right.l0 k1 l0 l0 (l0.length:Int) (wrap64 (x7_1+1))))=some r:=by rw [← hbq9] at H;exact H
       have Nbq9:=Aside0.mk hbq9
       clear hbq9
       by_cases c10:bq9=true
       ·subst c10
        have H1:(if x7_1<(wrap64 ((l0.length:Int)-1)) then (some false) else (if ((rd_T66 l0 x7_1).f0).toList=([]:List UInt8) then (some false) else (text_Right.l0 k1 l0 l0 (l0.length:Int) (wrap64 (x7_1+1)))))=some r:=by rw [if_pos rfl] at H;exact H
        clear H
        have H:=H1
        clear H1
        by_cases c11:x7_1<(wrap64 ((l0.length:Int)-1))
        ·rw [if_pos c11] at H
         have c11b0:decide (x7_1<(wrap64 ((l0.length:Int)-1)))=true:=decide_eq_true c11
         clear c11
         obtain rfl:=Option.some.inj H
         have p380:0≤(x7_1:Int):=of_decide_eq_true (by(with_reducible assumption))
         have q380:x7_1<(l0.length:Int):=of_decide_eq_true (by(with_reducible assumption))
         obtain⟨ad380,e380,hx380_0,hx380_1⟩:=at_T66 HR0.out x7_1 p380 q380
         (try rw [← Nbq9.out] at hx380_1)
         cases e380
         replace hx380_0:=(HB.out.cell (World.block_lt_of_cell? w _ hx380_0)).trans hx380_0
         replace hx380_1:=(HB.out.cell (World.block_lt_of_cell? w _ hx380_1)).trans hx380_1
         replace p380:=eq_true p380
         replace q380:=eq_true q380
         go_wp2_with(first|((with_reducible refine gate_dst (N:=4) rfl ?_);(try(refine gate_guard (by rfl) ?_;dsimp only));refine box_event ?hg (N:=4) ?hd (cs:= #[.string (⟨#[]⟩:ByteArray), .bool false]) (t:=66) ?hr ?_;(case hd=>rfl);(case hg=>rfl);(case hr=>(go_simp;done));intro gb381 hg w12 hbox hb;have n0_:=Aside0.mk (below_step (by repeat((with_reducible exact HB.out))) hb);have n1_:=Aside0.mk (hbox);have n2_:=Aside0.mk ((by rw [hg];exact(below_size (by repeat((with_reducible exact HB.out)))):w.heap.size≤gb381));have n3_:=Aside0.mk ((by rw [hg];exact(below_size (by repeat((with_reducible exact HB.out)))):w.heap.size≤gb381));clear HB;have HB:=n0_;have BK381:=n1_;have GW381:=n2_;have GE381:=n3_;clear n0_ n1_ n2_ n3_;clear hb hbox hg;have hcz13_0:w12.cell? ⟨gb381,0,none⟩=some (.string (⟨#[]⟩:ByteArray)):=(blk_cell BK381.out 0).trans rfl;have hcz13_1:w12.cell? ⟨gb381,1,none⟩=some (.bool false):=(blk_cell BK381.out 1).trans rfl;have hfz13_0:=blk_frozen BK381.out 0;have hfz13_1:=blk_frozen BK381.out 1)|((with_reducible refine gate_callee (f:=81) rfl ?_);refine goesL_ (some 14) rfl rfl Try.func81 (by kernel_rfl) rfl #[.string ((rd_T66 l0 x7_1).f0), .int .u8 10] rfl (by(try simp only [List.map_toArray,List.map_cons,List.map_nil]);rfl) ?_;(with_reducible refine(strings_IndexByte.calls ((rd_T66 l0 x7_1).f0) 10 t382 _ A5.out).mono ?_);rintro e w' ⟨rfl,⟨nd,rfl⟩⟩;refine⟨_,rfl,?_⟩))
         go_ret
         exact⟨by rfl,by repeat((with_reducible first|exact HB.out|apply pw_below_drewN|refine below_set ?_ GE381.out))⟩
        ·rw [if_neg c11] at H
         have c11b0:decide (x7_1<(wrap64 ((l0.length:Int)-1)))=false:=decide_eq_false c11
         clear c11
         by_cases c14:((rd_T66 l0 x7_1).f0).toList=([]:List UInt8)
         ·rw [if_pos c14] at H
          have c14b0:(((rd_T66 l0 x7_1).f0).toList==([]:List UInt8))=true:=beq_iff_eq.mpr c14
          have c14b1:(((rd_T66 l0 x7_1).f0).toList != ([]:List UInt8))=false:=bne_eq_false_iff_eq.mpr c14
          clear c14
          obtain rfl:=Option.some.inj H
          have p380:0≤(x7_1:Int):=of_decide_eq_true (by(with_reducible assumption))
          have q380:x7_1<(l0.length:Int):=of_decide_eq_true (by(with_reducible assumption))
          obtain⟨ad380,e380,hx380_0,hx380_1⟩:=at_T66 HR0.out x7_1 p380 q380
          (try rw [← Nbq9.out] at hx380_1)
          cases e380
          replace hx380_0:=(HB.out.cell (World.block_lt_of_cell? w _ hx380_0)).trans hx380_0
          replace hx380_1:=(HB.out.cell (World.block_lt_of_cell? w _ hx380_1)).trans hx380_1
          replace p380:=eq_true p380
          replace q380:=eq_true q380
          go_wp2_with(first|((with_reducible refine gate_dst (N:=4) rfl ?_);(try(refine gate_guard (by rfl) ?_;dsimp only));refine box_event ?hg (N:=4) ?hd (cs:= #[.string (⟨#[]⟩:ByteArray), .bool false]) (t:=66) ?hr ?_;(case hd=>rfl);(case hg=>rfl);(case hr=>(go_simp;done));intro gb381 hg w15 hbox hb;have n0_:=Aside0.mk (below_step (by repeat((with_reducible exact HB.out))) hb);have n1_:=Aside0.mk (hbox);have n2_:=Aside0.mk ((by rw [hg];exact(below_size (by repeat((with_reducible exact HB.out)))):w.heap.size≤gb381));have n3_:=Aside0.mk ((by rw [hg];exact(below_size (by repeat((with_reducible exact HB.out)))):w.heap.size≤gb381));clear HB;have HB:=n0_;have BK381:=n1_;have GW381:=n2_;have GE381:=n3_;clear n0_ n1_ n2_ n3_;clear hb hbox hg;have hcz16_0:w15.cell? ⟨gb381,0,none⟩=some (.string (⟨#[]⟩:ByteArray)):=(blk_cell BK381.out 0).trans rfl;have hcz16_1:w15.cell? ⟨gb381,1,none⟩=some (.bool false):=(blk_cell BK381.out 1).trans rfl;have hfz16_0:=blk_frozen BK381.out 0;have hfz16_1:=blk_frozen BK381.out 1)|((with_reducible refine gate_callee (f:=81) rfl ?_);refine goesL_ (some 14) rfl rfl Try.func81 (by kernel_rfl) rfl #[.string ((rd_T66 l0 x7_1).f0), .int .u8 10] rfl (by(try simp only [List.map_toArray,List.map_cons,List.map_nil]);rfl) ?_;(with_reducible refine(strings_IndexByte.calls ((rd_T66 l0 x7_1).f0) 10 t382 _ A5.out).mono ?_);rintro e w' ⟨rfl,⟨nd,rfl⟩⟩;refine⟨_,rfl,?_⟩))
          go_ret
          exact⟨by rfl,by repeat((with_reducible first|exact HB.out|apply pw_below_drewN|refine below_set ?_ GE381.out))⟩
         ·rw [if_neg c14] at H
          have c14b0:(((rd_T66 l0 x7_1).f0).toList==([]:List UInt8))=false:=beq_eq_false_iff_ne.mpr c14
          have c14b1:(((rd_T66 l0 x7_1).f0).toList != ([]:List UInt8))=true:=bne_iff_ne.mpr c14
          have H':=Aside0.mk H
          clear H
          have p380:0≤(x7_1:Int):=of_decide_eq_true (by(with_reducible assumption))
          have q380:x7_1<(l0.length:Int):=of_decide_eq_true (by(with_reducible assumption))
          obtain⟨ad380,e380,hx380_0,hx380_1⟩:=at_T66 HR0.out x7_1 p380 q380
          (try rw [← Nbq9.out] at hx380_1)
          cases e380
          replace hx380_0:=(HB.out.cell (World.block_lt_of_cell? w _ hx380_0)).trans hx380_0
          replace hx380_1:=(HB.out.cell (World.block_lt_of_cell? w _ hx380_1)).trans hx380_1
          replace p380:=eq_true p380
          replace q380:=eq_true q380
          go_wp2_with(first|((with_reducible refine gate_dst (N:=4) rfl ?_);(try(refine gate_guard (by rfl) ?_;dsimp only));refine box_event ?hg (N:=4) ?hd (cs:= #[.string (⟨#[]⟩:ByteArray), .bool false]) (t:=66) ?hr ?_;(case hd=>rfl);(case hg=>rfl);(case hr=>(go_simp;done));intro gb381 hg w17 hbox hb;have n0_:=Aside0.mk (below_step (by repeat((with_reducible exact HB.out))) hb);have n1_:=Aside0.mk (hbox);have n2_:=Aside0.mk ((by rw [hg];exact(below_size (by repeat((with_reducible exact HB.out)))):w.heap.size≤gb381));have n3_:=Aside0.mk ((by rw [hg];exact(below_size (by repeat((with_reducible exact HB.out)))):w.heap.size≤gb381));clear HB;have HB:=n0_;have BK381:=n1_;have GW381:=n2_;have GE381:=n3_;clear n0_ n1_ n2_ n3_;clear hb hbox hg;have hcz18_0:w17.cell? ⟨gb381,0,none⟩=some (.string (⟨#[]⟩:ByteArray)):=(blk_cell BK381.out 0).trans rfl;have hcz18_1:w17.cell? ⟨gb381,1,none⟩=some (.bool false):=(blk_cell BK381.out 1).trans rfl;have hfz18_0:=blk_frozen BK381.out 0;have hfz18_1:=blk_frozen BK381.out 1)|((with_reducible refine gate_callee (f:=81) rfl ?_);refine goesL_ (some 14) rfl rfl Try.func81 (by kernel_rfl) rfl #[.string ((rd_T66 l0 x7_1).f0), .int .u8 10] rfl (by(try simp only [List.map_toArray,List.map_cons,List.map_nil]);rfl) ?_;(with_reducible refine(strings_IndexByte.calls ((rd_T66 l0 x7_1).f0) 10 t382 _ A5.out).mono ?_);rintro e w' ⟨rfl,⟨nd,rfl⟩⟩;refine⟨_,rfl,?_⟩))
          go_roundg k1
          case measure=>have:=HK1.out;omega
          case rel=>exact⟨(wrap64 (x7_1+1)),(by rfl),H',⟨by have:=HK1.out;omega⟩,⟨by repeat((with_reducible first|exact HB.out|apply pw_below_drewN|refine below_set ?_ GE381.out))⟩⟩
       ·replace c10:=Bool.eq_false_iff.mpr c10
        subst c10
        have H1:(text_Right.l0 k1 l0 l0 (l0.length:Int) (wrap64 (x7_1+1)))=some r:=by rw [if_neg (show ¬(false=true) by decide)] at H;exact H
        clear H
        have H:=H1
        clear H1
        have H':=Aside0.mk H
        clear H
        have p380:0≤(x7_1:Int):=of_decide_eq_true (by(with_reducible assumption))
        have q380:x7_1<(l0.length:Int):=of_decide_eq_true (by(with_reducible assumption))
        obtain⟨ad380,e380,hx380_0,hx380_1⟩:=at_T66 HR0.out x7_1 p380 q380
        (try rw [← Nbq9.out] at hx380_1)
        cases e380
        replace hx380_0:=(HB.out.cell (World.block_lt_of_cell? w _ hx380_0)).trans hx380_0
        replace hx380_1:=(HB.out.cell (World.block_lt_of_cell? w _ hx380_1)).trans hx380_1
        replace p380:=eq_true p380
        replace q380:=eq_true q380
        go_wp2_with(first|((with_reducible refine gate_dst (N:=4) rfl ?_);(try(refine gate_guard (by rfl) ?_;dsimp only));refine box_event ?hg (N:=4) ?hd (cs:= #[.string (⟨#[]⟩:ByteArray), .bool false]) (t:=66) ?hr ?_;(case hd=>rfl);(case hg=>rfl);(case hr=>(go_simp;done));intro gb381 hg w19 hbox hb;have n0_:=Aside0.mk (below_step (by repeat((with_reducible exact HB.out))) hb);have n1_:=Aside0.mk (hbox);have n2_:=Aside0.mk ((by rw [hg];exact(below_size (by repeat((with_reducible exact HB.out)))):w.heap.size≤gb381));have n3_:=Aside0.mk ((by rw [hg];exact(below_size (by repeat((with_reducible exact HB.out)))):w.heap.size≤gb381));clear HB;have HB:=n0_;have BK381:=n1_;have GW381:=n2_;have GE381:=n3_;clear n0_ n1_ n2_ n3_;clear hb hbox hg;have hcz20_0:w19.cell? ⟨gb381,0,none⟩=some (.string (⟨#[]⟩:ByteArray)):=(blk_cell BK381.out 0).trans rfl;have hcz20_1:w19.cell? ⟨gb381,1,none⟩=some (.bool false):=(blk_cell BK381.out 1).trans rfl;have hfz20_0:=blk_frozen BK381.out 0;have hfz20_1:=blk_frozen BK381.out 1)|((with_reducible refine gate_callee (f:=81) rfl ?_);refine goesL_ (some 14) rfl rfl Try.func81 (by kernel_rfl) rfl #[.string ((rd_T66 l0 x7_1).f0), .int .u8 10] rfl (by(try simp only [List.map_toArray,List.map_cons,List.map_nil]);rfl) ?_;(with_reducible refine(strings_IndexByte.calls ((rd_T66 l0 x7_1).f0) 10 t382 _ A5.out).mono ?_);rintro e w' ⟨rfl,⟨nd,rfl⟩⟩;refine⟨_,rfl,?_⟩))
        go_roundg k1
        case measure=>have:=HK1.out;omega
        case rel=>exact⟨(wrap64 (x7_1+1)),(by rfl),H',⟨by have:=HK1.out;omega⟩,⟨by repeat((with_reducible first|exact HB.out|apply pw_below_drewN|refine below_set ?_ GE381.out))⟩⟩
     ·rw [if_neg c4] at H
      exact absurd H (by simp)
    ·rw [if_neg c3] at H
     exact absurd H (by simp)
   ·rw [if_neg c2] at H
    have c2b0:decide (x7_1<(l0.length:Int))=false:=decide_eq_false c2
    clear c2
    obtain rfl:=Option.some.inj H
    go_wp2
    go_ret
    exact⟨by rfl,by repeat((with_reducible exact HB.out))⟩
end Go.Proofs.Ytfnbodjmmkjlcaa.H
end
section
namespace Go.Proofs.Ytfnbodjmmkjlcaa.H
open Go.RowKit Go.Proofs.YtfnbodjmmkjlcaaW.PrintWords Go.Proofs.YtfnbodjmmkjlcaaW.PrintLast Go.Proofs.YtfnbodjmmkjlcaaW.PrintMore
attribute [local go_sem] max2_int min2_int max_two min_two max_three min_three max_four min_four
set_option linter.unusedVariables false
set_option linter.unusedSimpArgs false
def patch_whole.f (k:Nat) (l0:List (S44)) (l1:List (S66)):Option ((List (S47))×(List (S66))×Int):=(hunk_Whole.f k l0 l1).bind fun bt383=>(if bt383.2=0 then ((script_Apply.f k bt383.1 l1).bind fun bt387=>(if bt387.2=0 then (if (bt387.1.length:Int)>400 then (some (([]:List (S47)),([]:List (S66)),4)) else ((text_Right.f k bt387.1).bind fun t391=>(if t391=true then (some (bt383.1,bt387.1,0)) else (some (([]:List (S47)),([]:List (S66)),3))))) else (some (([]:List (S47)),([]:List (S66)),bt387.2)))) else (some (([]:List (S47)),([]:List (S66)),bt383.2)))
theorem patch_whole.mono: ∀a0 a1 k,LeO (patch_whole.f k a0 a1) (patch_whole.f (k+1) a0 a1):=by
 intro a0 a1 k
 unfold patch_whole.f
 repeat' first
   | (with_reducible exact hunk_Whole.mono _ _ _)
   | (with_reducible exact script_Apply.mono _ _ _)
   | (with_reducible exact text_Right.mono _ _)
   | (with_reducible exact LeO.refl _)
   | (with_reducible exact LeO.none _)
   | (with_reducible refine LeO.ite ?_ ?_)
   | (with_reducible refine LeO.bind ?_ (fun _=>?_))
   | exact hunk_Whole.mono _ _ _
   | exact script_Apply.mono _ _ _
   | exact text_Right.mono _ _
   | exact LeO.none _
   | refine LeO.ite ?_ ?_
   | refine LeO.bind ?_ (fun _=>?_)
set_option maxHeartbeats 8000000 in
set_option maxRecDepth 100000 in
theorem patch_whole.calls (k:Nat) (P0_:Nat→Prop) (A0:Option Addr) (c0:Nat) (l0:List (S44)) (P1_:Nat→Prop) (A1:Option Addr) (c1:Nat) (l1:List (S66)) (r1:List (S47)) (r2:List (S66)) (r3:Int) (w:World) (hs0:Kd.V k44 44 w w.heap.size (fun k_=>P0_ k_) (.slice A0 l0.length c0) l0) (hs1:Kd.V k66 66 w w.heap.size (fun k_=>P1_ k_) (.slice A1 l1.length c1) l1) (h:patch_whole.f k l0 l1=some (r1,r2,r3)):
  Calls Try.prog 57 #[.slice A0 l0.length c0, .slice A1 l1.length c1] w fun e w'=> ∃v0_ v1_:Value,e= .returned (.tuple #[v0_,v1_, .int .i64 r3])∧Kd.N k47 47 w' w.heap.size (fun k_=>((P0_ k_∨P1_ k_)∨w.heap.size≤k_)∧some k_≠(v1_:Value).ownBlock) v0_ r1∧Kd.R k66 66 w' w.heap.size (fun k_=>(w.heap.size≤k_)) v1_ r2∧Below w.heap.size w w':=by
 have HO0:=Aside0.mk (show Kd.V k44 44 w w.heap.size (fun k_=>((P0_ k_∨P1_ k_)∨w.heap.size≤k_)) (.slice A0 l0.length c0) l0 from Kd.V_mono hs0 (fun k_ hk=> .inl (.inl hk)))
 have HO1:=Aside0.mk (show Kd.V k66 66 w w.heap.size (fun k_=>((P0_ k_∨P1_ k_)∨w.heap.size≤k_)) (.slice A1 l1.length c1) l1 from Kd.V_mono hs1 (fun k_ hk=> .inl (.inr hk)))
 have HB:=Aside0.mk (Below.refl w.heap.size w)
 have H:((hunk_Whole.f k l0 l1).bind fun bt383=>(if bt383.2=0 then ((script_Apply.f k bt383.1 l1).bind fun bt387=>(if bt387.2=0 then (if (bt387.1.length:Int)>400 then (some (([]:List (S47)),([]:List (S66)),4)) else ((text_Right.f k bt387.1).bind fun t391=>(if t391=true then (some (bt383.1,bt387.1,0)) else (some (([]:List (S47)),([]:List (S66)),3))))) else (some (([]:List (S47)),([]:List (S66)),bt387.2)))) else (some (([]:List (S47)),([]:List (S66)),bt383.2))))=some (r1,r2,r3):=h
 clear h
 replace H:=Option.bind_eq_some_iff.mp H
 obtain⟨⟨t383,t386⟩,A30,H⟩:=H
 replace H:(if t386=0 then ((script_Apply.f k t383 l1).bind fun bt387=>(if bt387.2=0 then (if (bt387.1.length:Int)>400 then (some (([]:List (S47)),([]:List (S66)),4)) else ((text_Right.f k bt387.1).bind fun t391=>(if t391=true then (some (t383,bt387.1,0)) else (some (([]:List (S47)),([]:List (S66)),3))))) else (some (([]:List (S47)),([]:List (S66)),bt387.2)))) else (some (([]:List (S47)),([]:List (S66)),t386)))=some (r1,r2,r3):=H
 have A3:=Aside0.mk A30
 clear A30
 by_cases c4:t386=0
 ·rw [if_pos c4] at H
  have c4b0:(t386==0)=true:=beq_iff_eq.mpr c4
  have c4b1:(t386 != 0)=false:=bne_eq_false_iff_eq.mpr c4
  clear c4
  replace H:=Option.bind_eq_some_iff.mp H
  obtain⟨⟨t387,t388⟩,A50,H⟩:=H
  replace H:(if t388=0 then (if (t387.length:Int)>400 then (some (([]:List (S47)),([]:List (S66)),4)) else ((text_Right.f k t387).bind fun t391=>(if t391=true then (some (t383,t387,0)) else (some (([]:List (S47)),([]:List (S66)),3))))) else (some (([]:List (S47)),([]:List (S66)),t388)))=some (r1,r2,r3):=H
  have A5:=Aside0.mk A50
  clear A50
  by_cases c6:t388=0
  ·rw [if_pos c6] at H
   have c6b0:(t388==0)=true:=beq_iff_eq.mpr c6
   have c6b1:(t388 != 0)=false:=bne_eq_false_iff_eq.mpr c6
   clear c6
   by_cases c7:(t387.length:Int)>400
   ·rw [if_pos c7] at H
    have c7b0:decide (400<(t387.length:Int))=true:=decide_eq_true c7
    have c7b1:decide (400<t387.length)=true:=decide_eq_true (by omega)
    clear c7
    simp only [Option.some.injEq,Prod.mk.injEq] at H
    obtain⟨rfl,rfl,rfl⟩:=H
    go_enter Try.func57,Try.ntmps57
    go_wp2_with(first|((with_reducible refine gate_callee (f:=25) rfl ?_);refine goesL_ (some 13) rfl rfl Try.func25 (by kernel_rfl) rfl #[.slice A0 l0.length c0, .slice A1 l1.length c1] rfl (by(try simp only [List.map_toArray,List.map_cons,List.map_nil]);rfl) ?_;(with_reducible refine(hunk_Whole.calls k (fun k_=>((P0_ k_∨P1_ k_)∨w.heap.size≤k_)) _ _ l0 (fun k_=>((P0_ k_∨P1_ k_)∨w.heap.size≤k_)) _ _ l1 t383 t386 _ ?side1 ?side2 A3.out).mono ?_);(case side1=>exact HO0.out);(case side2=>exact HO1.out);rintro e w8 ⟨v384,rfl,ho0,hb⟩;refine⟨_,rfl,?_⟩;have n0_:=Aside0.mk (Kd.V_elder' (by exact HO0.out) (by exact Kd.N_base ho0) hb);have n1_:=Aside0.mk (Kd.V_elder' (by exact HO1.out) (by exact Kd.N_base ho0) hb);have n2_:=Aside0.mk (Kd.N_lower (Kd.N_mono (ok':=fun k_=>((P0_ k_∨P1_ k_)∨w.heap.size≤k_)) ho0 (fun k_ hk_=>Or.elim hk_ (fun hs_=>Or.elim hs_ (fun hs_=>hs_) (fun hs_=>hs_)) (fun hn_=>(.inr (Nat.le_trans (below_size (by repeat((with_reducible exact HB.out)))) hn_))))) (below_size (by repeat((with_reducible exact HB.out)))));have n3_:=Aside0.mk (below_step (by repeat((with_reducible exact HB.out))) hb);clear HO0;clear HO1;clear HB;have HO0:=n0_;have HO1:=n1_;have HO385:=n2_;have HB:=n3_;clear n0_ n1_ n2_ n3_;(try clear hb);(try clear ho0);obtain⟨Ao9,co9,eo9⟩:=Kd.N_slice HO385.out;subst eo9)|((with_reducible refine gate_callee (f:=74) rfl ?_);refine goesL_ (some 22) rfl rfl Try.func74 (by kernel_rfl) rfl #[.slice Ao9 t383.length co9, .slice A1 l1.length c1] rfl (by(try simp only [List.map_toArray,List.map_cons,List.map_nil]);rfl) ?_;(with_reducible refine(script_Apply.calls k _ _ t383 _ _ l1 t387 t388 _ ?side1 ?side2 ?side3 ?side4 A5.out).mono ?_);(case side1=>repeat(exact(Kd.N_reads' HO385.out).2.2));(case side2=>exact(Kd.N_reads' HO385.out).2.1);(case side3=>repeat(exact(Kd.V_reads' HO1.out).2.2));(case side4=>exact(Kd.V_reads' HO1.out).2.1);rintro e w10 ⟨v389,rfl,ho0,hb⟩;refine⟨_,rfl,?_⟩;have n0_:=Aside0.mk (Kd.V_elder' (by exact HO0.out) (Kd.R_base ho0) hb);have n1_:=Aside0.mk (Kd.V_elder' (by exact HO1.out) (Kd.R_base ho0) hb);have n2_:=Aside0.mk (Kd.N_elder' (by exact HO385.out) (Kd.R_base ho0) hb);have n3_:=Aside0.mk (Kd.R_lower (Kd.R_newM (M:=fun k_=>(w.heap.size≤k_)) ho0 (below_size (by repeat((with_reducible exact HB.out)))) (fun k_ h_=>h_)) (below_size (by repeat((with_reducible exact HB.out)))));have n4_:=Aside0.mk (below_step (by repeat((with_reducible exact HB.out))) hb);clear HO0;clear HO1;clear HO385;clear HB;have HO0:=n0_;have HO1:=n1_;have HO385:=n2_;have HO390:=n3_;have HB:=n4_;clear n0_ n1_ n2_ n3_ n4_;(try clear hb);(try clear ho0);obtain⟨Ao11,co11,eo11⟩:=Kd.R_slice HO390.out;subst eo11))
    go_ret3
    exact⟨_,_,by rfl,by exact Kd.N_nil _ _ _ _ _,by exact Kd.R_nil _ _ _ _ _,by repeat((with_reducible exact HB.out))⟩
   ·rw [if_neg c7] at H
    have c7b0:decide (400<(t387.length:Int))=false:=decide_eq_false c7
    have c7b1:decide (400<t387.length)=false:=decide_eq_false (by omega)
    clear c7
    replace H:=Option.bind_eq_some_iff.mp H
    obtain⟨t391,A120,H⟩:=H
    replace H:(if t391=true then (some (t383,t387,0)) else (some (([]:List (S47)),([]:List (S66)),3)))=some (r1,r2,r3):=H
    have A12:=Aside0.mk A120
    clear A120
    by_cases c13:t391=true
    ·subst c13
     have H1:(some (t383,t387,0))=some (r1,r2,r3):=by rw [if_pos rfl] at H;exact H
     clear H
     have H:=H1
     clear H1
     simp only [Option.some.injEq,Prod.mk.injEq] at H
     obtain⟨rfl,rfl,rfl⟩:=H
     go_enter Try.func57,Try.ntmps57
     go_wp2_with(first|((with_reducible refine gate_callee (f:=25) rfl ?_);refine goesL_ (some 13) rfl rfl Try.func25 (by kernel_rfl) rfl #[.slice A0 l0.length c0, .slice A1 l1.length c1] rfl (by(try simp only [List.map_toArray,List.map_cons,List.map_nil]);rfl) ?_;(with_reducible refine(hunk_Whole.calls k (fun k_=>((P0_ k_∨P1_ k_)∨w.heap.size≤k_)) _ _ l0 (fun k_=>((P0_ k_∨P1_ k_)∨w.heap.size≤k_)) _ _ l1 t383 t386 _ ?side1 ?side2 A3.out).mono ?_);(case side1=>exact HO0.out);(case side2=>exact HO1.out);rintro e w14 ⟨v384,rfl,ho0,hb⟩;refine⟨_,rfl,?_⟩;have n0_:=Aside0.mk (Kd.V_elder' (by exact HO0.out) (by exact Kd.N_base ho0) hb);have n1_:=Aside0.mk (Kd.V_elder' (by exact HO1.out) (by exact Kd.N_base ho0) hb);have n2_:=Aside0.mk (Kd.N_lower (Kd.N_mono (ok':=fun k_=>((P0_ k_∨P1_ k_)∨w.heap.size≤k_)) ho0 (fun k_ hk_=>Or.elim hk_ (fun hs_=>Or.elim hs_ (fun hs_=>hs_) (fun hs_=>hs_)) (fun hn_=>(.inr (Nat.le_trans (below_size (by repeat((with_reducible exact HB.out)))) hn_))))) (below_size (by repeat((with_reducible exact HB.out)))));have n3_:=Aside0.mk (below_step (by repeat((with_reducible exact HB.out))) hb);clear HO0;clear HO1;clear HB;have HO0:=n0_;have HO1:=n1_;have HO385:=n2_;have HB:=n3_;clear n0_ n1_ n2_ n3_;(try clear hb);(try clear ho0);obtain⟨Ao15,co15,eo15⟩:=Kd.N_slice HO385.out;subst eo15)|((with_reducible refine gate_callee (f:=74) rfl ?_);refine goesL_ (some 22) rfl rfl Try.func74 (by kernel_rfl) rfl #[.slice Ao15 t383.length co15, .slice A1 l1.length c1] rfl (by(try simp only [List.map_toArray,List.map_cons,List.map_nil]);rfl) ?_;(with_reducible refine(script_Apply.calls k _ _ t383 _ _ l1 t387 t388 _ ?side1 ?side2 ?side3 ?side4 A5.out).mono ?_);(case side1=>repeat(exact(Kd.N_reads' HO385.out).2.2));(case side2=>exact(Kd.N_reads' HO385.out).2.1);(case side3=>repeat(exact(Kd.V_reads' HO1.out).2.2));(case side4=>exact(Kd.V_reads' HO1.out).2.1);rintro e w16 ⟨v389,rfl,ho0,hb⟩;refine⟨_,rfl,?_⟩;have n0_:=Aside0.mk (Kd.V_elder' (by exact HO0.out) (Kd.R_base ho0) hb);have n1_:=Aside0.mk (Kd.V_elder' (by exact HO1.out) (Kd.R_base ho0) hb);have n2_:=Aside0.mk (Kd.N_elder' (by exact HO385.out) (Kd.R_base ho0) hb);have n3_:=Aside0.mk (Kd.R_lower (Kd.R_newM (M:=fun k_=>(w.heap.size≤k_)) ho0 (below_size (by repeat((with_reducible exact HB.out)))) (fun k_ h_=>h_)) (below_size (by repeat((with_reducible exact HB.out)))));have n4_:=Aside0.mk (below_step (by repeat((with_reducible exact HB.out))) hb);clear HO0;clear HO1;clear HO385;clear HB;have HO0:=n0_;have HO1:=n1_;have HO385:=n2_;have HO390:=n3_;have HB:=n4_;clear n0_ n1_ n2_ n3_ n4_;(try clear hb);(try clear ho0);obtain⟨Ao17,co17,eo17⟩:=Kd.R_slice HO390.out;subst eo17)|((with_reducible refine gate_callee (f:=75) rfl ?_);refine goesL_ (some 35) rfl rfl Try.func75 (by kernel_rfl) rfl #[.slice Ao17 t387.length co17] rfl (by(try simp only [List.map_toArray,List.map_cons,List.map_nil]);rfl) ?_;(with_reducible refine(text_Right.calls k _ _ t387 true _ ?side1 ?side2 A12.out).mono ?_);(case side1=>repeat(exact(Kd.R_reads' HO390.out).2.2));(case side2=>exact(Kd.R_reads' HO390.out).2.1);rintro e w18 ⟨rfl,hb⟩;refine⟨_,rfl,?_⟩;have n0_:=Aside0.mk (Kd.V_below (by exact HO0.out) hb);have n1_:=Aside0.mk (Kd.V_below (by exact HO1.out) hb);have n2_:=Aside0.mk (Kd.N_below (by exact HO385.out) hb);have n3_:=Aside0.mk (Kd.R_below (by exact HO390.out) hb);have n4_:=Aside0.mk (below_step (by repeat((with_reducible exact HB.out))) hb);clear HO0;clear HO1;clear HO385;clear HO390;clear HB;have HO0:=n0_;have HO1:=n1_;have HO385:=n2_;have HO390:=n3_;have HB:=n4_;clear n0_ n1_ n2_ n3_ n4_;(try clear hb)))
     go_ret3
     exact⟨_,_,by rfl,by exact HO385.out,by exact Kd.R_mono HO390.out (fun _ hk=>hk.1),by repeat((with_reducible exact HB.out))⟩
    ·replace c13:=Bool.eq_false_iff.mpr c13
     subst c13
     have H1:(some (([]:List (S47)),([]:List (S66)),3))=some (r1,r2,r3):=by rw [if_neg (show ¬(false=true) by decide)] at H;exact H
     clear H
     have H:=H1
     clear H1
     simp only [Option.some.injEq,Prod.mk.injEq] at H
     obtain⟨rfl,rfl,rfl⟩:=H
     go_enter Try.func57,Try.ntmps57
     go_wp2_with(first|((with_reducible refine gate_callee (f:=25) rfl ?_);refine goesL_ (some 13) rfl rfl Try.func25 (by kernel_rfl) rfl #[.slice A0 l0.length c0, .slice A1 l1.length c1] rfl (by(try simp only [List.map_toArray,List.map_cons,List.map_nil]);rfl) ?_;(with_reducible refine(hunk_Whole.calls k (fun k_=>((P0_ k_∨P1_ k_)∨w.heap.size≤k_)) _ _ l0 (fun k_=>((P0_ k_∨P1_ k_)∨w.heap.size≤k_)) _ _ l1 t383 t386 _ ?side1 ?side2 A3.out).mono ?_);(case side1=>exact HO0.out);(case side2=>exact HO1.out);rintro e w19 ⟨v384,rfl,ho0,hb⟩;refine⟨_,rfl,?_⟩;have n0_:=Aside0.mk (Kd.V_elder' (by exact HO0.out) (by exact Kd.N_base ho0) hb);have n1_:=Aside0.mk (Kd.V_elder' (by exact HO1.out) (by exact Kd.N_base ho0) hb);have n2_:=Aside0.mk (Kd.N_lower (Kd.N_mono (ok':=fun k_=>((P0_ k_∨P1_ k_)∨w.heap.size≤k_)) ho0 (fun k_ hk_=>Or.elim hk_ (fun hs_=>Or.elim hs_ (fun hs_=>hs_) (fun hs_=>hs_)) (fun hn_=>(.inr (Nat.le_trans (below_size (by repeat((with_reducible exact HB.out)))) hn_))))) (below_size (by repeat((with_reducible exact HB.out)))));have n3_:=Aside0.mk (below_step (by repeat((with_reducible exact HB.out))) hb);clear HO0;clear HO1;clear HB;have HO0:=n0_;have HO1:=n1_;have HO385:=n2_;have HB:=n3_;clear n0_ n1_ n2_ n3_;(try clear hb);(try clear ho0);obtain⟨Ao20,co20,eo20⟩:=Kd.N_slice HO385.out;subst eo20)|((with_reducible refine gate_callee (f:=74) rfl ?_);refine goesL_ (some 22) rfl rfl Try.func74 (by kernel_rfl) rfl #[.slice Ao20 t383.length co20, .slice A1 l1.length c1] rfl (by(try simp only [List.map_toArray,List.map_cons,List.map_nil]);rfl) ?_;(with_reducible refine(script_Apply.calls k _ _ t383 _ _ l1 t387 t388 _ ?side1 ?side2 ?side3 ?side4 A5.out).mono ?_);(case side1=>repeat(exact(Kd.N_reads' HO385.out).2.2));(case side2=>exact(Kd.N_reads' HO385.out).2.1);(case side3=>repeat(exact(Kd.V_reads' HO1.out).2.2));(case side4=>exact(Kd.V_reads' HO1.out).2.1);rintro e w21 ⟨v389,rfl,ho0,hb⟩;refine⟨_,rfl,?_⟩;have n0_:=Aside0.mk (Kd.V_elder' (by exact HO0.out) (Kd.R_base ho0) hb);have n1_:=Aside0.mk (Kd.V_elder' (by exact HO1.out) (Kd.R_base ho0) hb);have n2_:=Aside0.mk (Kd.N_elder' (by exact HO385.out) (Kd.R_base ho0) hb);have n3_:=Aside0.mk (Kd.R_lower (Kd.R_newM (M:=fun k_=>(w.heap.size≤k_)) ho0 (below_size (by repeat((with_reducible exact HB.out)))) (fun k_ h_=>h_)) (below_size (by repeat((with_reducible exact HB.out)))));have n4_:=Aside0.mk (below_step (by repeat((with_reducible exact HB.out))) hb);clear HO0;clear HO1;clear HO385;clear HB;have HO0:=n0_;have HO1:=n1_;have HO385:=n2_;have HO390:=n3_;have HB:=n4_;clear n0_ n1_ n2_ n3_ n4_;(try clear hb);(try clear ho0);obtain⟨Ao22,co22,eo22⟩:=Kd.R_slice HO390.out;subst eo22)|((with_reducible refine gate_callee (f:=75) rfl ?_);refine goesL_ (some 35) rfl rfl Try.func75 (by kernel_rfl) rfl #[.slice Ao22 t387.length co22] rfl (by(try simp only [List.map_toArray,List.map_cons,List.map_nil]);rfl) ?_;(with_reducible refine(text_Right.calls k _ _ t387 false _ ?side1 ?side2 A12.out).mono ?_);(case side1=>repeat(exact(Kd.R_reads' HO390.out).2.2));(case side2=>exact(Kd.R_reads' HO390.out).2.1);rintro e w23 ⟨rfl,hb⟩;refine⟨_,rfl,?_⟩;have n0_:=Aside0.mk (Kd.V_below (by exact HO0.out) hb);have n1_:=Aside0.mk (Kd.V_below (by exact HO1.out) hb);have n2_:=Aside0.mk (Kd.N_below (by exact HO385.out) hb);have n3_:=Aside0.mk (Kd.R_below (by exact HO390.out) hb);have n4_:=Aside0.mk (below_step (by repeat((with_reducible exact HB.out))) hb);clear HO0;clear HO1;clear HO385;clear HO390;clear HB;have HO0:=n0_;have HO1:=n1_;have HO385:=n2_;have HO390:=n3_;have HB:=n4_;clear n0_ n1_ n2_ n3_ n4_;(try clear hb)))
     go_ret3
     exact⟨_,_,by rfl,by exact Kd.N_nil _ _ _ _ _,by exact Kd.R_nil _ _ _ _ _,by repeat((with_reducible exact HB.out))⟩
  ·rw [if_neg c6] at H
   have c6b0:(t388==0)=false:=beq_eq_false_iff_ne.mpr c6
   have c6b1:(t388 != 0)=true:=bne_iff_ne.mpr c6
   simp only [Option.some.injEq,Prod.mk.injEq] at H
   obtain⟨rfl,rfl,rfl⟩:=H
   go_enter Try.func57,Try.ntmps57
   go_wp2_with(first|((with_reducible refine gate_callee (f:=25) rfl ?_);refine goesL_ (some 13) rfl rfl Try.func25 (by kernel_rfl) rfl #[.slice A0 l0.length c0, .slice A1 l1.length c1] rfl (by(try simp only [List.map_toArray,List.map_cons,List.map_nil]);rfl) ?_;(with_reducible refine(hunk_Whole.calls k (fun k_=>((P0_ k_∨P1_ k_)∨w.heap.size≤k_)) _ _ l0 (fun k_=>((P0_ k_∨P1_ k_)∨w.heap.size≤k_)) _ _ l1 t383 t386 _ ?side1 ?side2 A3.out).mono ?_);(case side1=>exact HO0.out);(case side2=>exact HO1.out);rintro e w24 ⟨v384,rfl,ho0,hb⟩;refine⟨_,rfl,?_⟩;have n0_:=Aside0.mk (Kd.V_elder' (by exact HO0.out) (by exact Kd.N_base ho0) hb);have n1_:=Aside0.mk (Kd.V_elder' (by exact HO1.out) (by exact Kd.N_base ho0) hb);have n2_:=Aside0.mk (Kd.N_lower (Kd.N_mono (ok':=fun k_=>((P0_ k_∨P1_ k_)∨w.heap.size≤k_)) ho0 (fun k_ hk_=>Or.elim hk_ (fun hs_=>Or.elim hs_ (fun hs_=>hs_) (fun hs_=>hs_)) (fun hn_=>(.inr (Nat.le_trans (below_size (by repeat((with_reducible exact HB.out)))) hn_))))) (below_size (by repeat((with_reducible exact HB.out)))));have n3_:=Aside0.mk (below_step (by repeat((with_reducible exact HB.out))) hb);clear HO0;clear HO1;clear HB;have HO0:=n0_;have HO1:=n1_;have HO385:=n2_;have HB:=n3_;clear n0_ n1_ n2_ n3_;(try clear hb);(try clear ho0);obtain⟨Ao25,co25,eo25⟩:=Kd.N_slice HO385.out;subst eo25)|((with_reducible refine gate_callee (f:=74) rfl ?_);refine goesL_ (some 22) rfl rfl Try.func74 (by kernel_rfl) rfl #[.slice Ao25 t383.length co25, .slice A1 l1.length c1] rfl (by(try simp only [List.map_toArray,List.map_cons,List.map_nil]);rfl) ?_;(with_reducible refine(script_Apply.calls k _ _ t383 _ _ l1 t387 t388 _ ?side1 ?side2 ?side3 ?side4 A5.out).mono ?_);(case side1=>repeat(exact(Kd.N_reads' HO385.out).2.2));(case side2=>exact(Kd.N_reads' HO385.out).2.1);(case side3=>repeat(exact(Kd.V_reads' HO1.out).2.2));(case side4=>exact(Kd.V_reads' HO1.out).2.1);rintro e w26 ⟨v389,rfl,ho0,hb⟩;refine⟨_,rfl,?_⟩;have n0_:=Aside0.mk (Kd.V_elder' (by exact HO0.out) (Kd.R_base ho0) hb);have n1_:=Aside0.mk (Kd.V_elder' (by exact HO1.out) (Kd.R_base ho0) hb);have n2_:=Aside0.mk (Kd.N_elder' (by exact HO385.out) (Kd.R_base ho0) hb);have n3_:=Aside0.mk (Kd.R_lower (Kd.R_newM (M:=fun k_=>(w.heap.size≤k_)) ho0 (below_size (by repeat((with_reducible exact HB.out)))) (fun k_ h_=>h_)) (below_size (by repeat((with_reducible exact HB.out)))));have n4_:=Aside0.mk (below_step (by repeat((with_reducible exact HB.out))) hb);clear HO0;clear HO1;clear HO385;clear HB;have HO0:=n0_;have HO1:=n1_;have HO385:=n2_;have HO390:=n3_;have HB:=n4_;clear n0_ n1_ n2_ n3_ n4_;(try clear hb);(try clear ho0)))
   go_ret3
   exact⟨_,_,by rfl,by exact Kd.N_nil _ _ _ _ _,by exact Kd.R_nil _ _ _ _ _,by repeat((with_reducible exact HB.out))⟩
 ·rw [if_neg c4] at H
  have c4b0:(t386==0)=false:=beq_eq_false_iff_ne.mpr c4
  have c4b1:(t386 != 0)=true:=bne_iff_ne.mpr c4
  simp only [Option.some.injEq,Prod.mk.injEq] at H
  obtain⟨rfl,rfl,rfl⟩:=H
  go_enter Try.func57,Try.ntmps57
  go_wp2_with(((with_reducible refine gate_callee (f:=25) rfl ?_);refine goesL_ (some 13) rfl rfl Try.func25 (by kernel_rfl) rfl #[.slice A0 l0.length c0, .slice A1 l1.length c1] rfl (by(try simp only [List.map_toArray,List.map_cons,List.map_nil]);rfl) ?_;(with_reducible refine(hunk_Whole.calls k (fun k_=>((P0_ k_∨P1_ k_)∨w.heap.size≤k_)) _ _ l0 (fun k_=>((P0_ k_∨P1_ k_)∨w.heap.size≤k_)) _ _ l1 t383 t386 _ ?side1 ?side2 A3.out).mono ?_);(case side1=>exact HO0.out);(case side2=>exact HO1.out);rintro e w27 ⟨v384,rfl,ho0,hb⟩;refine⟨_,rfl,?_⟩;have n0_:=Aside0.mk (Kd.V_elder' (by exact HO0.out) (by exact Kd.N_base ho0) hb);have n1_:=Aside0.mk (Kd.V_elder' (by exact HO1.out) (by exact Kd.N_base ho0) hb);have n2_:=Aside0.mk (Kd.N_lower (Kd.N_mono (ok':=fun k_=>((P0_ k_∨P1_ k_)∨w.heap.size≤k_)) ho0 (fun k_ hk_=>Or.elim hk_ (fun hs_=>Or.elim hs_ (fun hs_=>hs_) (fun hs_=>hs_)) (fun hn_=>(.inr (Nat.le_trans (below_size (by repeat((with_reducible exact HB.out)))) hn_))))) (below_size (by repeat((with_reducible exact HB.out)))));have n3_:=Aside0.mk (below_step (by repeat((with_reducible exact HB.out))) hb);clear HO0;clear HO1;clear HB;have HO0:=n0_;have HO1:=n1_;have HO385:=n2_;have HB:=n3_;clear n0_ n1_ n2_ n3_;(try clear hb);(try clear ho0)))
  go_ret3
  exact⟨_,_,by rfl,by exact Kd.N_nil _ _ _ _ _,by exact Kd.R_nil _ _ _ _ _,by repeat((with_reducible exact HB.out))⟩
end Go.Proofs.Ytfnbodjmmkjlcaa.H
end
section
namespace Go.Proofs.Ytfnbodjmmkjlcaa.H
open Go.RowKit Go.Proofs.YtfnbodjmmkjlcaaW.PrintWords Go.Proofs.YtfnbodjmmkjlcaaW.PrintLast Go.Proofs.YtfnbodjmmkjlcaaW.PrintMore
attribute [local go_sem] max2_int min2_int max_two min_two max_three min_three max_four min_four
set_option linter.unusedVariables false
set_option linter.unusedSimpArgs false
def patch_walk.one {σ:Type} (step:σ→Int→Nat→Nat→σ) (d:Int):Nat→σ×Nat×Nat→σ×Nat×Nat
 | 0,q=>q
 | m+1,q=>patch_walk.one step d m (step q.1 d q.2.1 q.2.2,if d=3 then q.2.1 else q.2.1+1,if d=2 then q.2.2 else q.2.2+1)
def patch_walk.all {σ:Type} (step:σ→Int→Nat→Nat→σ):List S47→σ×Nat×Nat→σ×Nat×Nat
 | [],q=>q
 | x::t,q=>patch_walk.all step t (patch_walk.one step x.f0 x.f1.length q)
def patch_walk.lines (s:List S47):Nat:=(s.map (fun e=>e.f1.length)).sum
theorem patch_walk.drop_cons (s:List S47) (i:Nat) (h:i<s.length):s.drop i=s.getD i z47::s.drop (i+1):=by
 rw [List.drop_eq_getElem_cons h,List.getD_eq_getElem?_getD,List.getElem?_eq_getElem h]
 rfl
set_option maxHeartbeats 8000000 in
set_option maxRecDepth 100000 in
theorem patch_walk.callsA {σ:Type} (step:σ→Int→Nat→Nat→σ) (v:Value) (P:World→σ→Prop) (sz:σ→Nat) (A:Option Addr) (cs:Nat) (s:List S47) (x:σ) (w:World)
  (hC: ∀w x,P w x→Kd.C k47 w A s.length s) (hcs:s.length≤cs) (hlen:s.length≤1000000) (hlines:patch_walk.lines s≤1000000) (hP:P w x) (hsz:sz x=0)
  (hal: ∀w x o,P w x→P (w.alloc o) x) (hss: ∀x d i j,sz (step x d i j)≤sz x+1)
  (hcl: ∀(w:World) (x:σ) (d:Int) (i j:Nat),P w x→sz x≤i+j→i≤1000000→j≤1000000→Calls Try.prog 59 #[.int .i64 d, .int .i64 (i:Int), .int .i64 (j:Int),v] w fun e w'=>e= .returned (.tuple #[])∧P w' (step x d i j)∧ ∀(k:Nat) (c:Array Value),w.heap[k]? =some (Obj.cells c 47 (0,0))→w'.heap[k]? =some (Obj.cells c 47 (0,0))):
  Calls Try.prog 58 #[.slice A s.length cs, .func (.func 59) #[] #[v]] w fun e w'=>e= .returned (.tuple #[])∧P w' (patch_walk.all step s (x,0,0)).1:=by
 have HC:=Aside0.mk hC
 have HAL:=Aside0.mk hal
 have HSS:=Aside0.mk hss
 have HCL:=Aside0.mk hcl
 have HP:=Aside0.mk hP
 have HSZ:=Aside0.mk hsz
 have HLN:=Aside0.mk hlines
 clear hC hal hss hcl hP hsz hlines
 go_enter Try.func58,Try.ntmps58
 go_wp2
 go_loopw [4,5,10] (fun vi vj vk wr=> ∃(k i j:Nat) (y:σ),k≤s.length∧vk= .int .i64 (k:Int)∧vi= .int .i64 (i:Int)∧vj= .int .i64 (j:Int)∧P wr y∧sz y≤i+j∧i+patch_walk.lines (s.drop k)≤1000000∧j+patch_walk.lines (s.drop k)≤1000000∧patch_walk.all step (s.drop k) (y,i,j)=patch_walk.all step s (x,0,0)) (fun _ _ vk _=>s.length-(intOf vk).toNat)
 case atStart=>exact⟨0,0,0,x,Nat.zero_le _,rfl,rfl,rfl,HP.out,by rw [HSZ.out];exact Nat.zero_le _,by simpa using HLN.out,by simpa using HLN.out,by simp⟩
 case round=>
  obtain⟨k,i,j,y,hk,rfl,rfl,rfl,hPy,hsy,hi,hj,hall⟩:=hrel
  by_cases hlt:k<s.length
  ·rw [patch_walk.drop_cons s k hlt] at hi hj hall
   have hlt2:((k:Int)<(s.length:Int))=True:=eq_true (by omega)
   have hlt3:decide ((k:Int)<(s.length:Int))=true:=decide_eq_true (by omega)
   have hk0:(0≤(k:Int))=True:=eq_true (by omega)
   have HWk:Aside0 (wrap64 ((k:Int)+1)=((k+1:Nat):Int)):=⟨by unfold wrap64;omega⟩
   obtain⟨ad,A1,c1,hA,hx0,hx1,hl1,hC1⟩:=at_T47 (HC.out wr y hPy) (k:Int) (by omega) (by omega)
   subst hA
   have hrd:rd_T47 s (k:Int)=s.getD k z47:=by simp [rd_T47]
   rw [hrd] at hx0 hx1
   rw [Int.toNat_natCast] at hx0 hx1
   clear hrd hl1 hC1
   generalize s.getD k z47=z at hi hj hall hx0 hx1
   have hbox:=World.alloc_heap_new wr (.cells #[.int .i64 z.f0, .slice A1 z.f1.length c1] 47 (0,0))
   have HPY:=Aside0.mk (HAL.out wr y (.cells #[.int .i64 z.f0, .slice A1 z.f1.length c1] 47 (0,0)) hPy)
   have HBOX:=Aside0.mk hbox
   have HALL:=Aside0.mk hall
   have HSY:=Aside0.mk hsy
   have HI:=Aside0.mk hi
   have HJ:=Aside0.mk hj
   have hz1:=(blk_cell hbox 1).trans rfl
   clear hPy hbox hall hsy hi hj
   go_wp2
   obtain⟨wo,rfl⟩: ∃wo:World,wo=wr:=⟨_,rfl⟩
   clear hx0 hx1 hz1
   go_loopw [4,5,17] (fun vi vj vm wr=> ∃(m i' j':Nat) (y':σ),m≤z.f1.length∧vm= .int .i64 (m:Int)∧vi= .int .i64 (i':Int)∧vj= .int .i64 (j':Int)∧P wr y'∧sz y'≤i'+j'∧wr.heap[wo.heap.size]? =some (Obj.cells #[.int .i64 z.f0, .slice A1 z.f1.length c1] 47 (0,0))∧i'+(z.f1.length-m)≤i+z.f1.length∧j'+(z.f1.length-m)≤j+z.f1.length∧patch_walk.one step z.f0 (z.f1.length-m) (y',i',j')=patch_walk.one step z.f0 z.f1.length (y,i,j)) (fun _ _ vm _=>z.f1.length-(intOf vm).toNat)
   case atStart=>exact⟨0,i,j,y,Nat.zero_le _,rfl,rfl,rfl,HPY.out,HSY.out,HBOX.out,by omega,by omega,rfl⟩
   case round=>
    obtain⟨m,i',j',y',hm,rfl,rfl,rfl,hPz,hsz,hbx,hi',hj',hone⟩:=hrel
    have hit:i+z.f1.length≤1000000:=by
     have:=HI.out
     simp only [patch_walk.lines,List.map_cons,List.sum_cons] at this
     omega
    have hjt:j+z.f1.length≤1000000:=by
     have:=HJ.out
     simp only [patch_walk.lines,List.map_cons,List.sum_cons] at this
     omega
    by_cases hmt:m<z.f1.length
    ·obtain⟨e,he⟩: ∃e,z.f1.length-m=e+1:=⟨z.f1.length-m-1,by omega⟩
     have hmt2:((m:Int)<(z.f1.length:Int))=True:=eq_true (by omega)
     have hmt3:decide ((m:Int)<(z.f1.length:Int))=true:=decide_eq_true (by omega)
     have HWm:Aside0 (wrap64 ((m:Int)+1)=((m+1:Nat):Int)):=⟨by unfold wrap64;omega⟩
     have HWi:Aside0 (wrap64 ((i':Int)+1)=((i'+1:Nat):Int)):=⟨by unfold wrap64;omega⟩
     have HWj:Aside0 (wrap64 ((j':Int)+1)=((j'+1:Nat):Int)):=⟨by unfold wrap64;omega⟩
     have hb0:=(blk_cell hbx 0).trans rfl
     have HBX:=Aside0.mk hbx
     have HONE:=Aside0.mk (by rw [he] at hone;exact hone)
     have HPZ:=Aside0.mk hPz
     have HSZ':=Aside0.mk hsz
     have hi6:i'≤1000000:=by omega
     have hj6:j'≤1000000:=by omega
     have HE:=Aside0.mk he
     have HM:=Aside0.mk (show i'+(e+1)≤i+z.f1.length∧j'+(e+1)≤j+z.f1.length by omega)
     clear hbx hone hPz hsz he hi' hj' hm
     by_cases h3:z.f0=3
     ·have hb3:(z.f0 != 3)=false:=by simp [h3]
      have hb2:(z.f0 != 2)=true:=by simp [h3]
      have H3:=Aside0.mk h3
      clear h3
      go_wp2_with(go_at_call 59;(with_reducible refine(HCL.out _ y' _ i' j' HPZ.out HSZ'.out hi6 hj6).mono ?_);rintro e_ w4 ⟨rfl,hp4,hk4⟩;have HP4:=Aside0.mk hp4;have HB4:=Aside0.mk (hk4 _ _ HBX.out);have hc0:=(blk_cell HB4.out 0).trans rfl;clear hp4 hk4)
      go_roundw
      case rel=>exact⟨m+1,i',j'+1,_,by omega,by rfl,rfl,by rfl,HP4.out,Nat.le_trans (HSS.out _ _ _ _) (by have:=HSZ'.out;omega),HB4.out,by have:=HM.out;have:=HE.out;omega,by have:=HM.out;have:=HE.out;omega,by rw [← HONE.out];simp [patch_walk.one,HE.out,H3.out,show z.f1.length-(m+1)=e by have:=HE.out;omega]⟩
      case measure=>(simp only [intOf,Int.toNat_natCast];omega)
     ·by_cases h2:z.f0=2
      ·have hb3:(z.f0 != 3)=true:=by simp [h2]
       have hb2:(z.f0 != 2)=false:=by simp [h2]
       have H3:=Aside0.mk h2
       clear h3 h2
       go_wp2_with(go_at_call 59;(with_reducible refine(HCL.out _ y' _ i' j' HPZ.out HSZ'.out hi6 hj6).mono ?_);rintro e_ w4 ⟨rfl,hp4,hk4⟩;have HP4:=Aside0.mk hp4;have HB4:=Aside0.mk (hk4 _ _ HBX.out);have hc0:=(blk_cell HB4.out 0).trans rfl;clear hp4 hk4)
       go_roundw
       case rel=>exact⟨m+1,i'+1,j',_,by omega,by rfl,by rfl,rfl,HP4.out,Nat.le_trans (HSS.out _ _ _ _) (by have:=HSZ'.out;omega),HB4.out,by have:=HM.out;have:=HE.out;omega,by have:=HM.out;have:=HE.out;omega,by rw [← HONE.out];simp [patch_walk.one,HE.out,H3.out,show z.f1.length-(m+1)=e by have:=HE.out;omega]⟩
       case measure=>(simp only [intOf,Int.toNat_natCast];omega)
      ·have hb3:(z.f0 != 3)=true:=by simp [h3]
       have hb2:(z.f0 != 2)=true:=by simp [h2]
       have H3:=Aside0.mk (And.intro h3 h2)
       clear h3 h2
       go_wp2_with(go_at_call 59;(with_reducible refine(HCL.out _ y' _ i' j' HPZ.out HSZ'.out hi6 hj6).mono ?_);rintro e_ w4 ⟨rfl,hp4,hk4⟩;have HP4:=Aside0.mk hp4;have HB4:=Aside0.mk (hk4 _ _ HBX.out);have hc0:=(blk_cell HB4.out 0).trans rfl;clear hp4 hk4)
       go_roundw
       case rel=>exact⟨m+1,i'+1,j'+1,_,by omega,by rfl,by rfl,by rfl,HP4.out,Nat.le_trans (HSS.out _ _ _ _) (by have:=HSZ'.out;omega),HB4.out,by have:=HM.out;have:=HE.out;omega,by have:=HM.out;have:=HE.out;omega,by rw [← HONE.out];simp [patch_walk.one,HE.out,H3.out,show z.f1.length-(m+1)=e by have:=HE.out;omega]⟩
       case measure=>(simp only [intOf,Int.toNat_natCast];omega)
    ·obtain rfl:m=z.f1.length:=by omega
     have hmt2:((z.f1.length:Int)<(z.f1.length:Int))=False:=eq_false (by omega)
     have hmt3:decide ((z.f1.length:Int)<(z.f1.length:Int))=false:=decide_eq_false (by omega)
     have hq:(y',i',j')=patch_walk.one step z.f0 z.f1.length (y,i,j):=by simpa [patch_walk.one] using hone
     have HQ:=Aside0.mk hq
     have HPZ:=Aside0.mk hPz
     have HSZ':=Aside0.mk hsz
     have HM:=Aside0.mk (And.intro hi' hj')
     clear hq hone hPz hsz hi' hj'
     go_wp2
     go_roundw
     case rel=>exact⟨k+1,i',j',y',by omega,by rfl,rfl,rfl,HPZ.out,HSZ'.out,by have:=HI.out;have:=HM.out;simp only [patch_walk.lines,List.map_cons,List.sum_cons] at this ⊢;simp only [patch_walk.lines,List.map_cons,List.sum_cons] at*;omega,by have:=HJ.out;have:=HM.out;simp only [patch_walk.lines,List.map_cons,List.sum_cons] at*;omega,by rw [HQ.out];exact HALL.out⟩
     case measure=>
      simp only [intOf,Int.toNat_natCast]
      omega
  ·obtain rfl:k=s.length:=by omega
   have hlt2:((s.length:Int)<(s.length:Int))=False:=eq_false (by omega)
   have hlt3:decide ((s.length:Int)<(s.length:Int))=false:=decide_eq_false (by omega)
   rw [List.drop_length] at hall
   have hq:y=(patch_walk.all step s (x,0,0)).1:=by rw [← hall];rfl
   have HQ:=Aside0.mk hq
   have HPY:=Aside0.mk hPy
   clear hq hall hPy hsy hi hj
   go_wp2
   go_end0
   exact⟨rfl,HQ.out▸HPY.out⟩
end Go.Proofs.Ytfnbodjmmkjlcaa.H
end
