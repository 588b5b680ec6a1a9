/-
  What the claim needs of the words, of the walks and of the plain proofs, in one row (5).
-/
import Derived.Deep.RegionHeld3
import Derived.WalkLawsBesides
import Derived.WalkSpells
import Derived.RangeFuncNested
import Derived.RangeFuncBound
import Derived.RangeFuncCalls
import Derived.RangeFuncLeaves
import Derived.RangeFuncBox
import Derived.RangeFuncMany
import Derived.Shelf.Abstract
import Derived.OwnWalkIn
import Derived.TacticsInMore
import Derived.LoopNIn
import Derived.LoopIn
import Derived.Test.YtfnbodjmmkjlcaaZ0
import Derived.Test.YtfnbodjmmkjlcaaZ1
import Derived.Test.YtfnbodjmmkjlcaaZ2
import Derived.Test.YtfnbodjmmkjlcaaZ3
import Derived.Test.YtfnbodjmmkjlcaaZ4
section
namespace Go.Proofs.Ytfnbodjmmkjlcaa.H
open Go.RowKit Go.Proofs.YtfnbodjmmkjlcaaW.PrintWords Go.Proofs.YtfnbodjmmkjlcaaW.PrintLast Go.Proofs.YtfnbodjmmkjlcaaW.PrintMore
attribute [local go_sem] max2_int min2_int max_two min_two max_three min_three max_four min_four
set_option linter.unusedVariables false
set_option linter.unusedSimpArgs false
def hunk_right.f (k:Nat) (a0_0:Int) (a0_1:Int) (a0_2:Int) (a0_3:Int) (l0_4:List (S47)):Option (Bool):=(script_Normal.f k l0_4).bind fun bt136=>((script_Sides.f k l0_4).bind fun bt140=>(if bt136.2=0 then ((hunk_same.f k bt136.1 l0_4).bind fun t147=>(if t147=true then ((script_Changed.f k bt136.1).bind fun t148=>(if t148>0 then (if (bt140.1.length:Int)=a0_1 then (if (bt140.2.1.length:Int)=a0_3 then ((hunk_within.f a0_1).bind fun t149=>(if t149=true then ((hunk_within.f a0_3).bind fun t150=>(some t150)) else (some false))) else (some false)) else (some false)) else (some false))) else (some false))) else (some false)))
theorem hunk_right.mono: ∀a0 a1 a2 a3 a4 k,LeO (hunk_right.f k a0 a1 a2 a3 a4) (hunk_right.f (k+1) a0 a1 a2 a3 a4):=by
 intro a0 a1 a2 a3 a4 k
 unfold hunk_right.f
 repeat' first
   | (with_reducible exact hunk_same.mono _ _ _)
   | (with_reducible exact script_Changed.mono _ _)
   | (with_reducible exact script_Normal.mono _ _)
   | (with_reducible exact script_Sides.mono _ _)
   | (with_reducible exact LeO.refl _)
   | (with_reducible exact LeO.none _)
   | (with_reducible refine LeO.ite ?_ ?_)
   | (with_reducible refine LeO.bind ?_ (fun _=>?_))
   | exact hunk_same.mono _ _ _
   | exact script_Changed.mono _ _
   | exact script_Normal.mono _ _
   | exact script_Sides.mono _ _
   | exact LeO.none _
   | refine LeO.ite ?_ ?_
   | refine LeO.bind ?_ (fun _=>?_)
set_option maxHeartbeats 8000000 in
set_option maxRecDepth 100000 in
theorem hunk_right.calls (k:Nat) (a0_0:Int) (a0_1:Int) (a0_2:Int) (a0_3:Int) (A0_4:Option Addr) (c0_4:Nat) (l0_4:List (S47)) (r:Bool) (w:World) (hr0_4:Kd.C k47 w A0_4 l0_4.length l0_4) (hc0_4:l0_4.length≤c0_4) (h:hunk_right.f k a0_0 a0_1 a0_2 a0_3 l0_4=some r):
  Calls Try.prog 50 #[.agg #[.int .i64 a0_0, .int .i64 a0_1, .int .i64 a0_2, .int .i64 a0_3, .slice A0_4 l0_4.length c0_4]] w fun e w'=>e= .returned (.bool r)∧Below w.heap.size w w':=by
 have hu44:=Try.underlying44
 have HR0_4:=Aside0.mk hr0_4
 have HC0_4:=Aside0.mk hc0_4
 clear hr0_4 hc0_4
 have HB:=Aside0.mk (Below.refl w.heap.size w)
 have H:((script_Normal.f k l0_4).bind fun bt136=>((script_Sides.f k l0_4).bind fun bt140=>(if bt136.2=0 then ((hunk_same.f k bt136.1 l0_4).bind fun t147=>(if t147=true then ((script_Changed.f k bt136.1).bind fun t148=>(if t148>0 then (if (bt140.1.length:Int)=a0_1 then (if (bt140.2.1.length:Int)=a0_3 then ((hunk_within.f a0_1).bind fun t149=>(if t149=true then ((hunk_within.f a0_3).bind fun t150=>(some t150)) else (some false))) else (some false)) else (some false)) else (some false))) else (some false))) else (some false))))=some r:=h
 clear h
 replace H:=Option.bind_eq_some_iff.mp H
 obtain⟨⟨t136,t137⟩,A20,H⟩:=H
 replace H:((script_Sides.f k l0_4).bind fun bt140=>(if t137=0 then ((hunk_same.f k t136 l0_4).bind fun t147=>(if t147=true then ((script_Changed.f k t136).bind fun t148=>(if t148>0 then (if (bt140.1.length:Int)=a0_1 then (if (bt140.2.1.length:Int)=a0_3 then ((hunk_within.f a0_1).bind fun t149=>(if t149=true then ((hunk_within.f a0_3).bind fun t150=>(some t150)) else (some false))) else (some false)) else (some false)) else (some false))) else (some false))) else (some false)))=some r:=H
 have A2:=Aside0.mk A20
 clear A20
 replace H:=Option.bind_eq_some_iff.mp H
 obtain⟨⟨t140,t141,t142⟩,A30,H⟩:=H
 replace H:(if t137=0 then ((hunk_same.f k t136 l0_4).bind fun t147=>(if t147=true then ((script_Changed.f k t136).bind fun t148=>(if t148>0 then (if (t140.length:Int)=a0_1 then (if (t141.length:Int)=a0_3 then ((hunk_within.f a0_1).bind fun t149=>(if t149=true then ((hunk_within.f a0_3).bind fun t150=>(some t150)) else (some false))) else (some false)) else (some false)) else (some false))) else (some false))) else (some false))=some r:=H
 have A3:=Aside0.mk A30
 clear A30
 by_cases c4:t137=0
 ·rw [if_pos c4] at H
  have c4b0:(t137==0)=true:=beq_iff_eq.mpr c4
  have c4b1:(t137 != 0)=false:=bne_eq_false_iff_eq.mpr c4
  clear c4
  replace H:=Option.bind_eq_some_iff.mp H
  obtain⟨t147,A50,H⟩:=H
  replace H:(if t147=true then ((script_Changed.f k t136).bind fun t148=>(if t148>0 then (if (t140.length:Int)=a0_1 then (if (t141.length:Int)=a0_3 then ((hunk_within.f a0_1).bind fun t149=>(if t149=true then ((hunk_within.f a0_3).bind fun t150=>(some t150)) else (some false))) else (some false)) else (some false)) else (some false))) else (some false))=some r:=H
  have A5:=Aside0.mk A50
  clear A50
  by_cases c6:t147=true
  ·subst c6
   have H1:((script_Changed.f k t136).bind fun t148=>(if t148>0 then (if (t140.length:Int)=a0_1 then (if (t141.length:Int)=a0_3 then ((hunk_within.f a0_1).bind fun t149=>(if t149=true then ((hunk_within.f a0_3).bind fun t150=>(some t150)) else (some false))) else (some false)) else (some false)) else (some false)))=some r:=by rw [if_pos rfl] at H;exact H
   clear H
   have H:=H1
   clear H1
   replace H:=Option.bind_eq_some_iff.mp H
   obtain⟨t148,A70,H⟩:=H
   replace H:(if t148>0 then (if (t140.length:Int)=a0_1 then (if (t141.length:Int)=a0_3 then ((hunk_within.f a0_1).bind fun t149=>(if t149=true then ((hunk_within.f a0_3).bind fun t150=>(some t150)) else (some false))) else (some false)) else (some false)) else (some false))=some r:=H
   have A7:=Aside0.mk A70
   clear A70
   by_cases c8:t148>0
   ·rw [if_pos c8] at H
    have c8b0:decide (0<t148)=true:=decide_eq_true c8
    clear c8
    by_cases c9:(t140.length:Int)=a0_1
    ·rw [if_pos c9] at H
     have c9b0:((t140.length:Int)==a0_1)=true:=beq_iff_eq.mpr c9
     have c9b1:((t140.length:Int) != a0_1)=false:=bne_eq_false_iff_eq.mpr c9
     clear c9
     by_cases c10:(t141.length:Int)=a0_3
     ·rw [if_pos c10] at H
      have c10b0:((t141.length:Int)==a0_3)=true:=beq_iff_eq.mpr c10
      have c10b1:((t141.length:Int) != a0_3)=false:=bne_eq_false_iff_eq.mpr c10
      clear c10
      replace H:=Option.bind_eq_some_iff.mp H
      obtain⟨t149,A110,H⟩:=H
      replace H:(if t149=true then ((hunk_within.f a0_3).bind fun t150=>(some t150)) else (some false))=some r:=H
      have A11:=Aside0.mk A110
      clear A110
      by_cases c12:t149=true
      ·subst c12
       have H1:((hunk_within.f a0_3).bind fun t150=>(some t150))=some r:=by rw [if_pos rfl] at H;exact H
       clear H
       have H:=H1
       clear H1
       replace H:=Option.bind_eq_some_iff.mp H
       obtain⟨t150,A130,H⟩:=H
       replace H:(some t150)=some r:=H
       have A13:=Aside0.mk A130
       clear A130
       obtain rfl:=Option.some.inj H
       go_enter Try.func50,Try.ntmps50
       go_wp2_with(first|((with_reducible refine gate_dst (N:=1) rfl ?_);(try(refine gate_guard (by rfl) ?_;dsimp only));refine box_event ?hg (N:=1) ?hd (cs:= #[.int .i64 a0_0, .int .i64 a0_1, .int .i64 a0_2, .int .i64 a0_3, .slice A0_4 l0_4.length c0_4]) (t:=44) ?hr ?_;(case hd=>rfl);(case hg=>rfl);(case hr=>(go_simp;done));intro gb135 hg w14 hbox hb;have n0_:=Aside0.mk (below_step (by repeat((with_reducible exact HB.out))) hb);have n1_:=Aside0.mk (hbox);have n2_:=Aside0.mk ((by rw [hg];exact(below_size (by repeat((with_reducible exact HB.out)))):w.heap.size≤gb135));have n3_:=Aside0.mk ((by rw [hg];exact(below_size (by repeat((with_reducible exact HB.out)))):w.heap.size≤gb135));clear HB;have HB:=n0_;have BK135:=n1_;have GW135:=n2_;have GE135:=n3_;clear n0_ n1_ n2_ n3_;clear hb hbox hg;have hcz15_0:w14.cell? ⟨gb135,0,none⟩=some (.int .i64 a0_0):=(blk_cell BK135.out 0).trans rfl;have hcz15_1:w14.cell? ⟨gb135,1,none⟩=some (.int .i64 a0_1):=(blk_cell BK135.out 1).trans rfl;have hcz15_2:w14.cell? ⟨gb135,2,none⟩=some (.int .i64 a0_2):=(blk_cell BK135.out 2).trans rfl;have hcz15_3:w14.cell? ⟨gb135,3,none⟩=some (.int .i64 a0_3):=(blk_cell BK135.out 3).trans rfl;have hcz15_4:w14.cell? ⟨gb135,4,none⟩=some (.slice A0_4 l0_4.length c0_4):=(blk_cell BK135.out 4).trans rfl;have hfz15_0:=blk_frozen BK135.out 0;have hfz15_1:=blk_frozen BK135.out 1;have hfz15_2:=blk_frozen BK135.out 2;have hfz15_3:=blk_frozen BK135.out 3;have hfz15_4:=blk_frozen BK135.out 4)|((with_reducible refine gate_callee (f:=42) rfl ?_);refine goesL_ (some 11) rfl rfl Try.func42 (by kernel_rfl) rfl #[.slice A0_4 l0_4.length c0_4] rfl (by(try simp only [List.map_toArray,List.map_cons,List.map_nil]);rfl) ?_;(with_reducible refine(script_Normal.calls k _ _ l0_4 t136 t137 _ ?side1 ?side2 A2.out).mono ?_);(case side1=>repeat(exact(Kd.C_below HR0_4.out HB.out)));(case side2=>exact HC0_4.out);rintro e w16 ⟨v138,rfl,ho0,hb⟩;refine⟨_,rfl,?_⟩;have n0_:=Aside0.mk (Kd.S_lower ho0 (below_size (by repeat((with_reducible exact HB.out)))));have n1_:=Aside0.mk (blk_below (g:=gb135) (o:= .cells #[.int .i64 a0_0, .int .i64 a0_1, .int .i64 a0_2, .int .i64 a0_3, .slice A0_4 l0_4.length c0_4] 44 (0,0)) (by exact BK135.out) hb);have n2_:=Aside0.mk (below_step (by repeat((with_reducible exact HB.out))) hb);clear BK135;clear HB;have HO139:=n0_;have BK135:=n1_;have HB:=n2_;clear n0_ n1_ n2_;(try clear hb);(try clear ho0);have hcz17_0:w16.cell? ⟨gb135,0,none⟩=some (.int .i64 a0_0):=(blk_cell BK135.out 0).trans rfl;have hcz17_1:w16.cell? ⟨gb135,1,none⟩=some (.int .i64 a0_1):=(blk_cell BK135.out 1).trans rfl;have hcz17_2:w16.cell? ⟨gb135,2,none⟩=some (.int .i64 a0_2):=(blk_cell BK135.out 2).trans rfl;have hcz17_3:w16.cell? ⟨gb135,3,none⟩=some (.int .i64 a0_3):=(blk_cell BK135.out 3).trans rfl;have hcz17_4:w16.cell? ⟨gb135,4,none⟩=some (.slice A0_4 l0_4.length c0_4):=(blk_cell BK135.out 4).trans rfl;have hfz17_0:=blk_frozen BK135.out 0;have hfz17_1:=blk_frozen BK135.out 1;have hfz17_2:=blk_frozen BK135.out 2;have hfz17_3:=blk_frozen BK135.out 3;have hfz17_4:=blk_frozen BK135.out 4)|((with_reducible refine gate_callee (f:=55) rfl ?_);refine goesL_ (some 17) rfl rfl Try.func55 (by kernel_rfl) rfl #[.slice A0_4 l0_4.length c0_4] rfl (by(try simp only [List.map_toArray,List.map_cons,List.map_nil]);rfl) ?_;(with_reducible refine(script_Sides.calls k _ _ l0_4 t140 t141 t142 _ ?side1 ?side2 A3.out).mono ?_);(case side1=>repeat(exact(Kd.C_below HR0_4.out HB.out)));(case side2=>exact HC0_4.out);rintro e w18 ⟨v143,v145,rfl,ho0,ho1,hb⟩;refine⟨_,rfl,?_⟩;have n0_:=Aside0.mk (Kd.S_mono (Kd.S_told (Kd.S_told (Kd.S_old (by exact HO139.out) hb) (Kd.R_base ho0)) (Kd.R_base ho1)) (fun _ h_=>h_.1));have n1_:=Aside0.mk (Kd.R_lower ho0 (below_size (by repeat((with_reducible exact HB.out)))));have n2_:=Aside0.mk (Kd.R_lower ho1 (below_size (by repeat((with_reducible exact HB.out)))));have n3_:=Aside0.mk (blk_below (g:=gb135) (o:= .cells #[.int .i64 a0_0, .int .i64 a0_1, .int .i64 a0_2, .int .i64 a0_3, .slice A0_4 l0_4.length c0_4] 44 (0,0)) (by exact BK135.out) hb);have n4_:=Aside0.mk (below_step (by repeat((with_reducible exact HB.out))) hb);clear HO139;clear BK135;clear HB;have HO139:=n0_;have HO144:=n1_;have HO146:=n2_;have BK135:=n3_;have HB:=n4_;clear n0_ n1_ n2_ n3_ n4_;(try clear hb);(try clear ho0);(try clear ho1);have hcz19_0:w18.cell? ⟨gb135,0,none⟩=some (.int .i64 a0_0):=(blk_cell BK135.out 0).trans rfl;have hcz19_1:w18.cell? ⟨gb135,1,none⟩=some (.int .i64 a0_1):=(blk_cell BK135.out 1).trans rfl;have hcz19_2:w18.cell? ⟨gb135,2,none⟩=some (.int .i64 a0_2):=(blk_cell BK135.out 2).trans rfl;have hcz19_3:w18.cell? ⟨gb135,3,none⟩=some (.int .i64 a0_3):=(blk_cell BK135.out 3).trans rfl;have hcz19_4:w18.cell? ⟨gb135,4,none⟩=some (.slice A0_4 l0_4.length c0_4):=(blk_cell BK135.out 4).trans rfl;have hfz19_0:=blk_frozen BK135.out 0;have hfz19_1:=blk_frozen BK135.out 1;have hfz19_2:=blk_frozen BK135.out 2;have hfz19_3:=blk_frozen BK135.out 3;have hfz19_4:=blk_frozen BK135.out 4;obtain⟨Ao20,co20,eo20⟩:=Kd.S_slice HO139.out;subst eo20)|(go_at_call 71;(with_reducible refine(hunk_same.calls k _ _ t136 _ _ l0_4 true _ ?side1 ?side2 ?side3 ?side4 A5.out).mono ?_);(case side1=>repeat(exact(Kd.S_reads' HO139.out).2.2));(case side2=>exact(Kd.S_reads' HO139.out).2.1);(case side3=>repeat(exact(Kd.C_below HR0_4.out HB.out)));(case side4=>exact HC0_4.out);rintro e w21 ⟨rfl,hb⟩;have n0_:=Aside0.mk (Kd.S_below (by exact HO139.out) hb);have n1_:=Aside0.mk (Kd.R_below (by exact HO144.out) hb);have n2_:=Aside0.mk (Kd.R_below (by exact HO146.out) hb);have n3_:=Aside0.mk (blk_below (g:=gb135) (o:= .cells #[.int .i64 a0_0, .int .i64 a0_1, .int .i64 a0_2, .int .i64 a0_3, .slice A0_4 l0_4.length c0_4] 44 (0,0)) (by exact BK135.out) hb);have n4_:=Aside0.mk (below_step (by repeat((with_reducible exact HB.out))) hb);clear HO139;clear HO144;clear HO146;clear BK135;clear HB;have HO139:=n0_;have HO144:=n1_;have HO146:=n2_;have BK135:=n3_;have HB:=n4_;clear n0_ n1_ n2_ n3_ n4_;(try clear hb))|(go_at_call 72;(with_reducible refine(script_Changed.calls k _ _ t136 t148 _ ?side1 ?side2 A7.out).mono ?_);(case side1=>repeat(exact(Kd.S_reads' HO139.out).2.2));(case side2=>exact(Kd.S_reads' HO139.out).2.1);rintro e w22 ⟨rfl,hb⟩;have n0_:=Aside0.mk (Kd.S_below (by exact HO139.out) hb);have n1_:=Aside0.mk (Kd.R_below (by exact HO144.out) hb);have n2_:=Aside0.mk (Kd.R_below (by exact HO146.out) hb);have n3_:=Aside0.mk (blk_below (g:=gb135) (o:= .cells #[.int .i64 a0_0, .int .i64 a0_1, .int .i64 a0_2, .int .i64 a0_3, .slice A0_4 l0_4.length c0_4] 44 (0,0)) (by exact BK135.out) hb);have n4_:=Aside0.mk (below_step (by repeat((with_reducible exact HB.out))) hb);clear HO139;clear HO144;clear HO146;clear BK135;clear HB;have HO139:=n0_;have HO144:=n1_;have HO146:=n2_;have BK135:=n3_;have HB:=n4_;clear n0_ n1_ n2_ n3_ n4_;(try clear hb);obtain⟨Ao23,co23,eo23⟩:=Kd.R_slice HO144.out;subst eo23;have hcz24_0:w22.cell? ⟨gb135,0,none⟩=some (.int .i64 a0_0):=(blk_cell BK135.out 0).trans rfl;have hcz24_1:w22.cell? ⟨gb135,1,none⟩=some (.int .i64 a0_1):=(blk_cell BK135.out 1).trans rfl;have hcz24_2:w22.cell? ⟨gb135,2,none⟩=some (.int .i64 a0_2):=(blk_cell BK135.out 2).trans rfl;have hcz24_3:w22.cell? ⟨gb135,3,none⟩=some (.int .i64 a0_3):=(blk_cell BK135.out 3).trans rfl;have hcz24_4:w22.cell? ⟨gb135,4,none⟩=some (.slice A0_4 l0_4.length c0_4):=(blk_cell BK135.out 4).trans rfl;have hfz24_0:=blk_frozen BK135.out 0;have hfz24_1:=blk_frozen BK135.out 1;have hfz24_2:=blk_frozen BK135.out 2;have hfz24_3:=blk_frozen BK135.out 3;have hfz24_4:=blk_frozen BK135.out 4;obtain⟨Ao25,co25,eo25⟩:=Kd.R_slice HO146.out;subst eo25)|(go_at_call 51;(with_reducible refine(hunk_within.calls a0_1 true _ A11.out).mono ?_);rintro e w' ⟨rfl,⟨nd,rfl⟩⟩)|(go_at_call 51;(with_reducible refine(hunk_within.calls a0_3 t150 _ A13.out).mono ?_);rintro e w' ⟨rfl,⟨nd,rfl⟩⟩))
       go_ret
       exact⟨by rfl,by repeat((with_reducible first|exact HB.out|apply pw_below_drewN))⟩
      ·replace c12:=Bool.eq_false_iff.mpr c12
       subst c12
       have H1:(some false)=some r:=by rw [if_neg (show ¬(false=true) by decide)] at H;exact H
       clear H
       have H:=H1
       clear H1
       obtain rfl:=Option.some.inj H
       go_enter Try.func50,Try.ntmps50
       go_wp2_with(first|((with_reducible refine gate_dst (N:=1) rfl ?_);(try(refine gate_guard (by rfl) ?_;dsimp only));refine box_event ?hg (N:=1) ?hd (cs:= #[.int .i64 a0_0, .int .i64 a0_1, .int .i64 a0_2, .int .i64 a0_3, .slice A0_4 l0_4.length c0_4]) (t:=44) ?hr ?_;(case hd=>rfl);(case hg=>rfl);(case hr=>(go_simp;done));intro gb135 hg w26 hbox hb;have n0_:=Aside0.mk (below_step (by repeat((with_reducible exact HB.out))) hb);have n1_:=Aside0.mk (hbox);have n2_:=Aside0.mk ((by rw [hg];exact(below_size (by repeat((with_reducible exact HB.out)))):w.heap.size≤gb135));have n3_:=Aside0.mk ((by rw [hg];exact(below_size (by repeat((with_reducible exact HB.out)))):w.heap.size≤gb135));clear HB;have HB:=n0_;have BK135:=n1_;have GW135:=n2_;have GE135:=n3_;clear n0_ n1_ n2_ n3_;clear hb hbox hg;have hcz27_0:w26.cell? ⟨gb135,0,none⟩=some (.int .i64 a0_0):=(blk_cell BK135.out 0).trans rfl;have hcz27_1:w26.cell? ⟨gb135,1,none⟩=some (.int .i64 a0_1):=(blk_cell BK135.out 1).trans rfl;have hcz27_2:w26.cell? ⟨gb135,2,none⟩=some (.int .i64 a0_2):=(blk_cell BK135.out 2).trans rfl;have hcz27_3:w26.cell? ⟨gb135,3,none⟩=some (.int .i64 a0_3):=(blk_cell BK135.out 3).trans rfl;have hcz27_4:w26.cell? ⟨gb135,4,none⟩=some (.slice A0_4 l0_4.length c0_4):=(blk_cell BK135.out 4).trans rfl;have hfz27_0:=blk_frozen BK135.out 0;have hfz27_1:=blk_frozen BK135.out 1;have hfz27_2:=blk_frozen BK135.out 2;have hfz27_3:=blk_frozen BK135.out 3;have hfz27_4:=blk_frozen BK135.out 4)|((with_reducible refine gate_callee (f:=42) rfl ?_);refine goesL_ (some 11) rfl rfl Try.func42 (by kernel_rfl) rfl #[.slice A0_4 l0_4.length c0_4] rfl (by(try simp only [List.map_toArray,List.map_cons,List.map_nil]);rfl) ?_;(with_reducible refine(script_Normal.calls k _ _ l0_4 t136 t137 _ ?side1 ?side2 A2.out).mono ?_);(case side1=>repeat(exact(Kd.C_below HR0_4.out HB.out)));(case side2=>exact HC0_4.out);rintro e w28 ⟨v138,rfl,ho0,hb⟩;refine⟨_,rfl,?_⟩;have n0_:=Aside0.mk (Kd.S_lower ho0 (below_size (by repeat((with_reducible exact HB.out)))));have n1_:=Aside0.mk (blk_below (g:=gb135) (o:= .cells #[.int .i64 a0_0, .int .i64 a0_1, .int .i64 a0_2, .int .i64 a0_3, .slice A0_4 l0_4.length c0_4] 44 (0,0)) (by exact BK135.out) hb);have n2_:=Aside0.mk (below_step (by repeat((with_reducible exact HB.out))) hb);clear BK135;clear HB;have HO139:=n0_;have BK135:=n1_;have HB:=n2_;clear n0_ n1_ n2_;(try clear hb);(try clear ho0);have hcz29_0:w28.cell? ⟨gb135,0,none⟩=some (.int .i64 a0_0):=(blk_cell BK135.out 0).trans rfl;have hcz29_1:w28.cell? ⟨gb135,1,none⟩=some (.int .i64 a0_1):=(blk_cell BK135.out 1).trans rfl;have hcz29_2:w28.cell? ⟨gb135,2,none⟩=some (.int .i64 a0_2):=(blk_cell BK135.out 2).trans rfl;have hcz29_3:w28.cell? ⟨gb135,3,none⟩=some (.int .i64 a0_3):=(blk_cell BK135.out 3).trans rfl;have hcz29_4:w28.cell? ⟨gb135,4,none⟩=some (.slice A0_4 l0_4.length c0_4):=(blk_cell BK135.out 4).trans rfl;have hfz29_0:=blk_frozen BK135.out 0;have hfz29_1:=blk_frozen BK135.out 1;have hfz29_2:=blk_frozen BK135.out 2;have hfz29_3:=blk_frozen BK135.out 3;have hfz29_4:=blk_frozen BK135.out 4)|((with_reducible refine gate_callee (f:=55) rfl ?_);refine goesL_ (some 17) rfl rfl Try.func55 (by kernel_rfl) rfl #[.slice A0_4 l0_4.length c0_4] rfl (by(try simp only [List.map_toArray,List.map_cons,List.map_nil]);rfl) ?_;(with_reducible refine(script_Sides.calls k _ _ l0_4 t140 t141 t142 _ ?side1 ?side2 A3.out).mono ?_);(case side1=>repeat(exact(Kd.C_below HR0_4.out HB.out)));(case side2=>exact HC0_4.out);rintro e w30 ⟨v143,v145,rfl,ho0,ho1,hb⟩;refine⟨_,rfl,?_⟩;have n0_:=Aside0.mk (Kd.S_mono (Kd.S_told (Kd.S_told (Kd.S_old (by exact HO139.out) hb) (Kd.R_base ho0)) (Kd.R_base ho1)) (fun _ h_=>h_.1));have n1_:=Aside0.mk (Kd.R_lower ho0 (below_size (by repeat((with_reducible exact HB.out)))));have n2_:=Aside0.mk (Kd.R_lower ho1 (below_size (by repeat((with_reducible exact HB.out)))));have n3_:=Aside0.mk (blk_below (g:=gb135) (o:= .cells #[.int .i64 a0_0, .int .i64 a0_1, .int .i64 a0_2, .int .i64 a0_3, .slice A0_4 l0_4.length c0_4] 44 (0,0)) (by exact BK135.out) hb);have n4_:=Aside0.mk (below_step (by repeat((with_reducible exact HB.out))) hb);clear HO139;clear BK135;clear HB;have HO139:=n0_;have HO144:=n1_;have HO146:=n2_;have BK135:=n3_;have HB:=n4_;clear n0_ n1_ n2_ n3_ n4_;(try clear hb);(try clear ho0);(try clear ho1);have hcz31_0:w30.cell? ⟨gb135,0,none⟩=some (.int .i64 a0_0):=(blk_cell BK135.out 0).trans rfl;have hcz31_1:w30.cell? ⟨gb135,1,none⟩=some (.int .i64 a0_1):=(blk_cell BK135.out 1).trans rfl;have hcz31_2:w30.cell? ⟨gb135,2,none⟩=some (.int .i64 a0_2):=(blk_cell BK135.out 2).trans rfl;have hcz31_3:w30.cell? ⟨gb135,3,none⟩=some (.int .i64 a0_3):=(blk_cell BK135.out 3).trans rfl;have hcz31_4:w30.cell? ⟨gb135,4,none⟩=some (.slice A0_4 l0_4.length c0_4):=(blk_cell BK135.out 4).trans rfl;have hfz31_0:=blk_frozen BK135.out 0;have hfz31_1:=blk_frozen BK135.out 1;have hfz31_2:=blk_frozen BK135.out 2;have hfz31_3:=blk_frozen BK135.out 3;have hfz31_4:=blk_frozen BK135.out 4;obtain⟨Ao32,co32,eo32⟩:=Kd.S_slice HO139.out;subst eo32)|(go_at_call 71;(with_reducible refine(hunk_same.calls k _ _ t136 _ _ l0_4 true _ ?side1 ?side2 ?side3 ?side4 A5.out).mono ?_);(case side1=>repeat(exact(Kd.S_reads' HO139.out).2.2));(case side2=>exact(Kd.S_reads' HO139.out).2.1);(case side3=>repeat(exact(Kd.C_below HR0_4.out HB.out)));(case side4=>exact HC0_4.out);rintro e w33 ⟨rfl,hb⟩;have n0_:=Aside0.mk (Kd.S_below (by exact HO139.out) hb);have n1_:=Aside0.mk (Kd.R_below (by exact HO144.out) hb);have n2_:=Aside0.mk (Kd.R_below (by exact HO146.out) hb);have n3_:=Aside0.mk (blk_below (g:=gb135) (o:= .cells #[.int .i64 a0_0, .int .i64 a0_1, .int .i64 a0_2, .int .i64 a0_3, .slice A0_4 l0_4.length c0_4] 44 (0,0)) (by exact BK135.out) hb);have n4_:=Aside0.mk (below_step (by repeat((with_reducible exact HB.out))) hb);clear HO139;clear HO144;clear HO146;clear BK135;clear HB;have HO139:=n0_;have HO144:=n1_;have HO146:=n2_;have BK135:=n3_;have HB:=n4_;clear n0_ n1_ n2_ n3_ n4_;(try clear hb))|(go_at_call 72;(with_reducible refine(script_Changed.calls k _ _ t136 t148 _ ?side1 ?side2 A7.out).mono ?_);(case side1=>repeat(exact(Kd.S_reads' HO139.out).2.2));(case side2=>exact(Kd.S_reads' HO139.out).2.1);rintro e w34 ⟨rfl,hb⟩;have n0_:=Aside0.mk (Kd.S_below (by exact HO139.out) hb);have n1_:=Aside0.mk (Kd.R_below (by exact HO144.out) hb);have n2_:=Aside0.mk (Kd.R_below (by exact HO146.out) hb);have n3_:=Aside0.mk (blk_below (g:=gb135) (o:= .cells #[.int .i64 a0_0, .int .i64 a0_1, .int .i64 a0_2, .int .i64 a0_3, .slice A0_4 l0_4.length c0_4] 44 (0,0)) (by exact BK135.out) hb);have n4_:=Aside0.mk (below_step (by repeat((with_reducible exact HB.out))) hb);clear HO139;clear HO144;clear HO146;clear BK135;clear HB;have HO139:=n0_;have HO144:=n1_;have HO146:=n2_;have BK135:=n3_;have HB:=n4_;clear n0_ n1_ n2_ n3_ n4_;(try clear hb);obtain⟨Ao35,co35,eo35⟩:=Kd.R_slice HO144.out;subst eo35;have hcz36_0:w34.cell? ⟨gb135,0,none⟩=some (.int .i64 a0_0):=(blk_cell BK135.out 0).trans rfl;have hcz36_1:w34.cell? ⟨gb135,1,none⟩=some (.int .i64 a0_1):=(blk_cell BK135.out 1).trans rfl;have hcz36_2:w34.cell? ⟨gb135,2,none⟩=some (.int .i64 a0_2):=(blk_cell BK135.out 2).trans rfl;have hcz36_3:w34.cell? ⟨gb135,3,none⟩=some (.int .i64 a0_3):=(blk_cell BK135.out 3).trans rfl;have hcz36_4:w34.cell? ⟨gb135,4,none⟩=some (.slice A0_4 l0_4.length c0_4):=(blk_cell BK135.out 4).trans rfl;have hfz36_0:=blk_frozen BK135.out 0;have hfz36_1:=blk_frozen BK135.out 1;have hfz36_2:=blk_frozen BK135.out 2;have hfz36_3:=blk_frozen BK135.out 3;have hfz36_4:=blk_frozen BK135.out 4;obtain⟨Ao37,co37,eo37⟩:=Kd.R_slice HO146.out;subst eo37)|(go_at_call 51;(with_reducible refine(hunk_within.calls a0_1 false _ A11.out).mono ?_);rintro e w' ⟨rfl,⟨nd,rfl⟩⟩))
       go_ret
       exact⟨by rfl,by repeat((with_reducible first|exact HB.out|apply pw_below_drewN))⟩
     ·rw [if_neg c10] at H
      have c10b0:((t141.length:Int)==a0_3)=false:=beq_eq_false_iff_ne.mpr c10
      have c10b1:((t141.length:Int) != a0_3)=true:=bne_iff_ne.mpr c10
      obtain rfl:=Option.some.inj H
      go_enter Try.func50,Try.ntmps50
      go_wp2_with(first|((with_reducible refine gate_dst (N:=1) rfl ?_);(try(refine gate_guard (by rfl) ?_;dsimp only));refine box_event ?hg (N:=1) ?hd (cs:= #[.int .i64 a0_0, .int .i64 a0_1, .int .i64 a0_2, .int .i64 a0_3, .slice A0_4 l0_4.length c0_4]) (t:=44) ?hr ?_;(case hd=>rfl);(case hg=>rfl);(case hr=>(go_simp;done));intro gb135 hg w38 hbox hb;have n0_:=Aside0.mk (below_step (by repeat((with_reducible exact HB.out))) hb);have n1_:=Aside0.mk (hbox);have n2_:=Aside0.mk ((by rw [hg];exact(below_size (by repeat((with_reducible exact HB.out)))):w.heap.size≤gb135));have n3_:=Aside0.mk ((by rw [hg];exact(below_size (by repeat((with_reducible exact HB.out)))):w.heap.size≤gb135));clear HB;have HB:=n0_;have BK135:=n1_;have GW135:=n2_;have GE135:=n3_;clear n0_ n1_ n2_ n3_;clear hb hbox hg;have hcz39_0:w38.cell? ⟨gb135,0,none⟩=some (.int .i64 a0_0):=(blk_cell BK135.out 0).trans rfl;have hcz39_1:w38.cell? ⟨gb135,1,none⟩=some (.int .i64 a0_1):=(blk_cell BK135.out 1).trans rfl;have hcz39_2:w38.cell? ⟨gb135,2,none⟩=some (.int .i64 a0_2):=(blk_cell BK135.out 2).trans rfl;have hcz39_3:w38.cell? ⟨gb135,3,none⟩=some (.int .i64 a0_3):=(blk_cell BK135.out 3).trans rfl;have hcz39_4:w38.cell? ⟨gb135,4,none⟩=some (.slice A0_4 l0_4.length c0_4):=(blk_cell BK135.out 4).trans rfl;have hfz39_0:=blk_frozen BK135.out 0;have hfz39_1:=blk_frozen BK135.out 1;have hfz39_2:=blk_frozen BK135.out 2;have hfz39_3:=blk_frozen BK135.out 3;have hfz39_4:=blk_frozen BK135.out 4)|((with_reducible refine gate_callee (f:=42) rfl ?_);refine goesL_ (some 11) rfl rfl Try.func42 (by kernel_rfl) rfl #[.slice A0_4 l0_4.length c0_4] rfl (by(try simp only [List.map_toArray,List.map_cons,List.map_nil]);rfl) ?_;(with_reducible refine(script_Normal.calls k _ _ l0_4 t136 t137 _ ?side1 ?side2 A2.out).mono ?_);(case side1=>repeat(exact(Kd.C_below HR0_4.out HB.out)));(case side2=>exact HC0_4.out);rintro e w40 ⟨v138,rfl,ho0,hb⟩;refine⟨_,rfl,?_⟩;have n0_:=Aside0.mk (Kd.S_lower ho0 (below_size (by repeat((with_reducible exact HB.out)))));have n1_:=Aside0.mk (blk_below (g:=gb135) (o:= .cells #[.int .i64 a0_0, .int .i64 a0_1, .int .i64 a0_2, .int .i64 a0_3, .slice A0_4 l0_4.length c0_4] 44 (0,0)) (by exact BK135.out) hb);have n2_:=Aside0.mk (below_step (by repeat((with_reducible exact HB.out))) hb);clear BK135;clear HB;have HO139:=n0_;have BK135:=n1_;have HB:=n2_;clear n0_ n1_ n2_;(try clear hb);(try clear ho0);have hcz41_0:w40.cell? ⟨gb135,0,none⟩=some (.int .i64 a0_0):=(blk_cell BK135.out 0).trans rfl;have hcz41_1:w40.cell? ⟨gb135,1,none⟩=some (.int .i64 a0_1):=(blk_cell BK135.out 1).trans rfl;have hcz41_2:w40.cell? ⟨gb135,2,none⟩=some (.int .i64 a0_2):=(blk_cell BK135.out 2).trans rfl;have hcz41_3:w40.cell? ⟨gb135,3,none⟩=some (.int .i64 a0_3):=(blk_cell BK135.out 3).trans rfl;have hcz41_4:w40.cell? ⟨gb135,4,none⟩=some (.slice A0_4 l0_4.length c0_4):=(blk_cell BK135.out 4).trans rfl;have hfz41_0:=blk_frozen BK135.out 0;have hfz41_1:=blk_frozen BK135.out 1;have hfz41_2:=blk_frozen BK135.out 2;have hfz41_3:=blk_frozen BK135.out 3;have hfz41_4:=blk_frozen BK135.out 4)|((with_reducible refine gate_callee (f:=55) rfl ?_);refine goesL_ (some 17) rfl rfl Try.func55 (by kernel_rfl) rfl #[.slice A0_4 l0_4.length c0_4] rfl (by(try simp only [List.map_toArray,List.map_cons,List.map_nil]);rfl) ?_;(with_reducible refine(script_Sides.calls k _ _ l0_4 t140 t141 t142 _ ?side1 ?side2 A3.out).mono ?_);(case side1=>repeat(exact(Kd.C_below HR0_4.out HB.out)));(case side2=>exact HC0_4.out);rintro e w42 ⟨v143,v145,rfl,ho0,ho1,hb⟩;refine⟨_,rfl,?_⟩;have n0_:=Aside0.mk (Kd.S_mono (Kd.S_told (Kd.S_told (Kd.S_old (by exact HO139.out) hb) (Kd.R_base ho0)) (Kd.R_base ho1)) (fun _ h_=>h_.1));have n1_:=Aside0.mk (Kd.R_lower ho0 (below_size (by repeat((with_reducible exact HB.out)))));have n2_:=Aside0.mk (Kd.R_lower ho1 (below_size (by repeat((with_reducible exact HB.out)))));have n3_:=Aside0.mk (blk_below (g:=gb135) (o:= .cells #[.int .i64 a0_0, .int .i64 a0_1, .int .i64 a0_2, .int .i64 a0_3, .slice A0_4 l0_4.length c0_4] 44 (0,0)) (by exact BK135.out) hb);have n4_:=Aside0.mk (below_step (by repeat((with_reducible exact HB.out))) hb);clear HO139;clear BK135;clear HB;have HO139:=n0_;have HO144:=n1_;have HO146:=n2_;have BK135:=n3_;have HB:=n4_;clear n0_ n1_ n2_ n3_ n4_;(try clear hb);(try clear ho0);(try clear ho1);have hcz43_0:w42.cell? ⟨gb135,0,none⟩=some (.int .i64 a0_0):=(blk_cell BK135.out 0).trans rfl;have hcz43_1:w42.cell? ⟨gb135,1,none⟩=some (.int .i64 a0_1):=(blk_cell BK135.out 1).trans rfl;have hcz43_2:w42.cell? ⟨gb135,2,none⟩=some (.int .i64 a0_2):=(blk_cell BK135.out 2).trans rfl;have hcz43_3:w42.cell? ⟨gb135,3,none⟩=some (.int .i64 a0_3):=(blk_cell BK135.out 3).trans rfl;have hcz43_4:w42.cell? ⟨gb135,4,none⟩=some (.slice A0_4 l0_4.length c0_4):=(blk_cell BK135.out 4).trans rfl;have hfz43_0:=blk_frozen BK135.out 0;have hfz43_1:=blk_frozen BK135.out 1;have hfz43_2:=blk_frozen BK135.out 2;have hfz43_3:=blk_frozen BK135.out 3;have hfz43_4:=blk_frozen BK135.out 4;obtain⟨Ao44,co44,eo44⟩:=Kd.S_slice HO139.out;subst eo44)|(go_at_call 71;(with_reducible refine(hunk_same.calls k _ _ t136 _ _ l0_4 true _ ?side1 ?side2 ?side3 ?side4 A5.out).mono ?_);(case side1=>repeat(exact(Kd.S_reads' HO139.out).2.2));(case side2=>exact(Kd.S_reads' HO139.out).2.1);(case side3=>repeat(exact(Kd.C_below HR0_4.out HB.out)));(case side4=>exact HC0_4.out);rintro e w45 ⟨rfl,hb⟩;have n0_:=Aside0.mk (Kd.S_below (by exact HO139.out) hb);have n1_:=Aside0.mk (Kd.R_below (by exact HO144.out) hb);have n2_:=Aside0.mk (Kd.R_below (by exact HO146.out) hb);have n3_:=Aside0.mk (blk_below (g:=gb135) (o:= .cells #[.int .i64 a0_0, .int .i64 a0_1, .int .i64 a0_2, .int .i64 a0_3, .slice A0_4 l0_4.length c0_4] 44 (0,0)) (by exact BK135.out) hb);have n4_:=Aside0.mk (below_step (by repeat((with_reducible exact HB.out))) hb);clear HO139;clear HO144;clear HO146;clear BK135;clear HB;have HO139:=n0_;have HO144:=n1_;have HO146:=n2_;have BK135:=n3_;have HB:=n4_;clear n0_ n1_ n2_ n3_ n4_;(try clear hb))|(go_at_call 72;(with_reducible refine(script_Changed.calls k _ _ t136 t148 _ ?side1 ?side2 A7.out).mono ?_);(case side1=>repeat(exact(Kd.S_reads' HO139.out).2.2));(case side2=>exact(Kd.S_reads' HO139.out).2.1);rintro e w46 ⟨rfl,hb⟩;have n0_:=Aside0.mk (Kd.S_below (by exact HO139.out) hb);have n1_:=Aside0.mk (Kd.R_below (by exact HO144.out) hb);have n2_:=Aside0.mk (Kd.R_below (by exact HO146.out) hb);have n3_:=Aside0.mk (blk_below (g:=gb135) (o:= .cells #[.int .i64 a0_0, .int .i64 a0_1, .int .i64 a0_2, .int .i64 a0_3, .slice A0_4 l0_4.length c0_4] 44 (0,0)) (by exact BK135.out) hb);have n4_:=Aside0.mk (below_step (by repeat((with_reducible exact HB.out))) hb);clear HO139;clear HO144;clear HO146;clear BK135;clear HB;have HO139:=n0_;have HO144:=n1_;have HO146:=n2_;have BK135:=n3_;have HB:=n4_;clear n0_ n1_ n2_ n3_ n4_;(try clear hb);obtain⟨Ao47,co47,eo47⟩:=Kd.R_slice HO144.out;subst eo47;have hcz48_0:w46.cell? ⟨gb135,0,none⟩=some (.int .i64 a0_0):=(blk_cell BK135.out 0).trans rfl;have hcz48_1:w46.cell? ⟨gb135,1,none⟩=some (.int .i64 a0_1):=(blk_cell BK135.out 1).trans rfl;have hcz48_2:w46.cell? ⟨gb135,2,none⟩=some (.int .i64 a0_2):=(blk_cell BK135.out 2).trans rfl;have hcz48_3:w46.cell? ⟨gb135,3,none⟩=some (.int .i64 a0_3):=(blk_cell BK135.out 3).trans rfl;have hcz48_4:w46.cell? ⟨gb135,4,none⟩=some (.slice A0_4 l0_4.length c0_4):=(blk_cell BK135.out 4).trans rfl;have hfz48_0:=blk_frozen BK135.out 0;have hfz48_1:=blk_frozen BK135.out 1;have hfz48_2:=blk_frozen BK135.out 2;have hfz48_3:=blk_frozen BK135.out 3;have hfz48_4:=blk_frozen BK135.out 4;obtain⟨Ao49,co49,eo49⟩:=Kd.R_slice HO146.out;subst eo49))
      go_ret
      exact⟨by rfl,by repeat((with_reducible exact HB.out))⟩
    ·rw [if_neg c9] at H
     have c9b0:((t140.length:Int)==a0_1)=false:=beq_eq_false_iff_ne.mpr c9
     have c9b1:((t140.length:Int) != a0_1)=true:=bne_iff_ne.mpr c9
     obtain rfl:=Option.some.inj H
     go_enter Try.func50,Try.ntmps50
     go_wp2_with(first|((with_reducible refine gate_dst (N:=1) rfl ?_);(try(refine gate_guard (by rfl) ?_;dsimp only));refine box_event ?hg (N:=1) ?hd (cs:= #[.int .i64 a0_0, .int .i64 a0_1, .int .i64 a0_2, .int .i64 a0_3, .slice A0_4 l0_4.length c0_4]) (t:=44) ?hr ?_;(case hd=>rfl);(case hg=>rfl);(case hr=>(go_simp;done));intro gb135 hg w50 hbox hb;have n0_:=Aside0.mk (below_step (by repeat((with_reducible exact HB.out))) hb);have n1_:=Aside0.mk (hbox);have n2_:=Aside0.mk ((by rw [hg];exact(below_size (by repeat((with_reducible exact HB.out)))):w.heap.size≤gb135));have n3_:=Aside0.mk ((by rw [hg];exact(below_size (by repeat((with_reducible exact HB.out)))):w.heap.size≤gb135));clear HB;have HB:=n0_;have BK135:=n1_;have GW135:=n2_;have GE135:=n3_;clear n0_ n1_ n2_ n3_;clear hb hbox hg;have hcz51_0:w50.cell? ⟨gb135,0,none⟩=some (.int .i64 a0_0):=(blk_cell BK135.out 0).trans rfl;have hcz51_1:w50.cell? ⟨gb135,1,none⟩=some (.int .i64 a0_1):=(blk_cell BK135.out 1).trans rfl;have hcz51_2:w50.cell? ⟨gb135,2,none⟩=some (.int .i64 a0_2):=(blk_cell BK135.out 2).trans rfl;have hcz51_3:w50.cell? ⟨gb135,3,none⟩=some (.int .i64 a0_3):=(blk_cell BK135.out 3).trans rfl;have hcz51_4:w50.cell? ⟨gb135,4,none⟩=some (.slice A0_4 l0_4.length c0_4):=(blk_cell BK135.out 4).trans rfl;have hfz51_0:=blk_frozen BK135.out 0;have hfz51_1:=blk_frozen BK135.out 1;have hfz51_2:=blk_frozen BK135.out 2;have hfz51_3:=blk_frozen BK135.out 3;have hfz51_4:=blk_frozen BK135.out 4)|((with_reducible refine gate_callee (f:=42) rfl ?_);refine goesL_ (some 11) rfl rfl Try.func42 (by kernel_rfl) rfl #[.slice A0_4 l0_4.length c0_4] rfl (by(try simp only [List.map_toArray,List.map_cons,List.map_nil]);rfl) ?_;(with_reducible refine(script_Normal.calls k _ _ l0_4 t136 t137 _ ?side1 ?side2 A2.out).mono ?_);(case side1=>repeat(exact(Kd.C_below HR0_4.out HB.out)));(case side2=>exact HC0_4.out);rintro e w52 ⟨v138,rfl,ho0,hb⟩;refine⟨_,rfl,?_⟩;have n0_:=Aside0.mk (Kd.S_lower ho0 (below_size (by repeat((with_reducible exact HB.out)))));have n1_:=Aside0.mk (blk_below (g:=gb135) (o:= .cells #[.int .i64 a0_0, .int .i64 a0_1, .int .i64 a0_2, .int .i64 a0_3, .slice A0_4 l0_4.length c0_4] 44 (0,0)) (by exact BK135.out) hb);have n2_:=Aside0.mk (below_step (by repeat((with_reducible exact HB.out))) hb);clear BK135;clear HB;have HO139:=n0_;have BK135:=n1_;have HB:=n2_;clear n0_ n1_ n2_;(try clear hb);(try clear ho0);have hcz53_0:w52.cell? ⟨gb135,0,none⟩=some (.int .i64 a0_0):=(blk_cell BK135.out 0).trans rfl;have hcz53_1:w52.cell? ⟨gb135,1,none⟩=some (.int .i64 a0_1):=(blk_cell BK135.out 1).trans rfl;have hcz53_2:w52.cell? ⟨gb135,2,none⟩=some (.int .i64 a0_2):=(blk_cell BK135.out 2).trans rfl;have hcz53_3:w52.cell? ⟨gb135,3,none⟩=some (.int .i64 a0_3):=(blk_cell BK135.out 3).trans rfl;have hcz53_4:w52.cell? ⟨gb135,4,none⟩=some (.slice A0_4 l0_4.length c0_4):=(blk_cell BK135.out 4).trans rfl;have hfz53_0:=blk_frozen BK135.out 0;have hfz53_1:=blk_frozen BK135.out 1;have hfz53_2:=blk_frozen BK135.out 2;have hfz53_3:=blk_frozen BK135.out 3;have hfz53_4:=blk_frozen BK135.out 4)|((with_reducible refine gate_callee (f:=55) rfl ?_);refine goesL_ (some 17) rfl rfl Try.func55 (by kernel_rfl) rfl #[.slice A0_4 l0_4.length c0_4] rfl (by(try simp only [List.map_toArray,List.map_cons,List.map_nil]);rfl) ?_;(with_reducible refine(script_Sides.calls k _ _ l0_4 t140 t141 t142 _ ?side1 ?side2 A3.out).mono ?_);(case side1=>repeat(exact(Kd.C_below HR0_4.out HB.out)));(case side2=>exact HC0_4.out);rintro e w54 ⟨v143,v145,rfl,ho0,ho1,hb⟩;refine⟨_,rfl,?_⟩;have n0_:=Aside0.mk (Kd.S_mono (Kd.S_told (Kd.S_told (Kd.S_old (by exact HO139.out) hb) (Kd.R_base ho0)) (Kd.R_base ho1)) (fun _ h_=>h_.1));have n1_:=Aside0.mk (Kd.R_lower ho0 (below_size (by repeat((with_reducible exact HB.out)))));have n2_:=Aside0.mk (Kd.R_lower ho1 (below_size (by repeat((with_reducible exact HB.out)))));have n3_:=Aside0.mk (blk_below (g:=gb135) (o:= .cells #[.int .i64 a0_0, .int .i64 a0_1, .int .i64 a0_2, .int .i64 a0_3, .slice A0_4 l0_4.length c0_4] 44 (0,0)) (by exact BK135.out) hb);have n4_:=Aside0.mk (below_step (by repeat((with_reducible exact HB.out))) hb);clear HO139;clear BK135;clear HB;have HO139:=n0_;have HO144:=n1_;have HO146:=n2_;have BK135:=n3_;have HB:=n4_;clear n0_ n1_ n2_ n3_ n4_;(try clear hb);(try clear ho0);(try clear ho1);have hcz55_0:w54.cell? ⟨gb135,0,none⟩=some (.int .i64 a0_0):=(blk_cell BK135.out 0).trans rfl;have hcz55_1:w54.cell? ⟨gb135,1,none⟩=some (.int .i64 a0_1):=(blk_cell BK135.out 1).trans rfl;have hcz55_2:w54.cell? ⟨gb135,2,none⟩=some (.int .i64 a0_2):=(blk_cell BK135.out 2).trans rfl;have hcz55_3:w54.cell? ⟨gb135,3,none⟩=some (.int .i64 a0_3):=(blk_cell BK135.out 3).trans rfl;have hcz55_4:w54.cell? ⟨gb135,4,none⟩=some (.slice A0_4 l0_4.length c0_4):=(blk_cell BK135.out 4).trans rfl;have hfz55_0:=blk_frozen BK135.out 0;have hfz55_1:=blk_frozen BK135.out 1;have hfz55_2:=blk_frozen BK135.out 2;have hfz55_3:=blk_frozen BK135.out 3;have hfz55_4:=blk_frozen BK135.out 4;obtain⟨Ao56,co56,eo56⟩:=Kd.S_slice HO139.out;subst eo56)|(go_at_call 71;(with_reducible refine(hunk_same.calls k _ _ t136 _ _ l0_4 true _ ?side1 ?side2 ?side3 ?side4 A5.out).mono ?_);(case side1=>repeat(exact(Kd.S_reads' HO139.out).2.2));(case side2=>exact(Kd.S_reads' HO139.out).2.1);(case side3=>repeat(exact(Kd.C_below HR0_4.out HB.out)));(case side4=>exact HC0_4.out);rintro e w57 ⟨rfl,hb⟩;have n0_:=Aside0.mk (Kd.S_below (by exact HO139.out) hb);have n1_:=Aside0.mk (Kd.R_below (by exact HO144.out) hb);have n2_:=Aside0.mk (Kd.R_below (by exact HO146.out) hb);have n3_:=Aside0.mk (blk_below (g:=gb135) (o:= .cells #[.int .i64 a0_0, .int .i64 a0_1, .int .i64 a0_2, .int .i64 a0_3, .slice A0_4 l0_4.length c0_4] 44 (0,0)) (by exact BK135.out) hb);have n4_:=Aside0.mk (below_step (by repeat((with_reducible exact HB.out))) hb);clear HO139;clear HO144;clear HO146;clear BK135;clear HB;have HO139:=n0_;have HO144:=n1_;have HO146:=n2_;have BK135:=n3_;have HB:=n4_;clear n0_ n1_ n2_ n3_ n4_;(try clear hb))|(go_at_call 72;(with_reducible refine(script_Changed.calls k _ _ t136 t148 _ ?side1 ?side2 A7.out).mono ?_);(case side1=>repeat(exact(Kd.S_reads' HO139.out).2.2));(case side2=>exact(Kd.S_reads' HO139.out).2.1);rintro e w58 ⟨rfl,hb⟩;have n0_:=Aside0.mk (Kd.S_below (by exact HO139.out) hb);have n1_:=Aside0.mk (Kd.R_below (by exact HO144.out) hb);have n2_:=Aside0.mk (Kd.R_below (by exact HO146.out) hb);have n3_:=Aside0.mk (blk_below (g:=gb135) (o:= .cells #[.int .i64 a0_0, .int .i64 a0_1, .int .i64 a0_2, .int .i64 a0_3, .slice A0_4 l0_4.length c0_4] 44 (0,0)) (by exact BK135.out) hb);have n4_:=Aside0.mk (below_step (by repeat((with_reducible exact HB.out))) hb);clear HO139;clear HO144;clear HO146;clear BK135;clear HB;have HO139:=n0_;have HO144:=n1_;have HO146:=n2_;have BK135:=n3_;have HB:=n4_;clear n0_ n1_ n2_ n3_ n4_;(try clear hb);obtain⟨Ao59,co59,eo59⟩:=Kd.R_slice HO144.out;subst eo59;have hcz60_0:w58.cell? ⟨gb135,0,none⟩=some (.int .i64 a0_0):=(blk_cell BK135.out 0).trans rfl;have hcz60_1:w58.cell? ⟨gb135,1,none⟩=some (.int .i64 a0_1):=(blk_cell BK135.out 1).trans rfl;have hcz60_2:w58.cell? ⟨gb135,2,none⟩=some (.int .i64 a0_2):=(blk_cell BK135.out 2).trans rfl;have hcz60_3:w58.cell? ⟨gb135,3,none⟩=some (.int .i64 a0_3):=(blk_cell BK135.out 3).trans rfl;have hcz60_4:w58.cell? ⟨gb135,4,none⟩=some (.slice A0_4 l0_4.length c0_4):=(blk_cell BK135.out 4).trans rfl;have hfz60_0:=blk_frozen BK135.out 0;have hfz60_1:=blk_frozen BK135.out 1;have hfz60_2:=blk_frozen BK135.out 2;have hfz60_3:=blk_frozen BK135.out 3;have hfz60_4:=blk_frozen BK135.out 4))
     go_ret
     exact⟨by rfl,by repeat((with_reducible exact HB.out))⟩
   ·rw [if_neg c8] at H
    have c8b0:decide (0<t148)=false:=decide_eq_false c8
    clear c8
    obtain rfl:=Option.some.inj H
    go_enter Try.func50,Try.ntmps50
    go_wp2_with(first|((with_reducible refine gate_dst (N:=1) rfl ?_);(try(refine gate_guard (by rfl) ?_;dsimp only));refine box_event ?hg (N:=1) ?hd (cs:= #[.int .i64 a0_0, .int .i64 a0_1, .int .i64 a0_2, .int .i64 a0_3, .slice A0_4 l0_4.length c0_4]) (t:=44) ?hr ?_;(case hd=>rfl);(case hg=>rfl);(case hr=>(go_simp;done));intro gb135 hg w61 hbox hb;have n0_:=Aside0.mk (below_step (by repeat((with_reducible exact HB.out))) hb);have n1_:=Aside0.mk (hbox);have n2_:=Aside0.mk ((by rw [hg];exact(below_size (by repeat((with_reducible exact HB.out)))):w.heap.size≤gb135));have n3_:=Aside0.mk ((by rw [hg];exact(below_size (by repeat((with_reducible exact HB.out)))):w.heap.size≤gb135));clear HB;have HB:=n0_;have BK135:=n1_;have GW135:=n2_;have GE135:=n3_;clear n0_ n1_ n2_ n3_;clear hb hbox hg;have hcz62_0:w61.cell? ⟨gb135,0,none⟩=some (.int .i64 a0_0):=(blk_cell BK135.out 0).trans rfl;have hcz62_1:w61.cell? ⟨gb135,1,none⟩=some (.int .i64 a0_1):=(blk_cell BK135.out 1).trans rfl;have hcz62_2:w61.cell? ⟨gb135,2,none⟩=some (.int .i64 a0_2):=(blk_cell BK135.out 2).trans rfl;have hcz62_3:w61.cell? ⟨gb135,3,none⟩=some (.int .i64 a0_3):=(blk_cell BK135.out 3).trans rfl;have hcz62_4:w61.cell? ⟨gb135,4,none⟩=some (.slice A0_4 l0_4.length c0_4):=(blk_cell BK135.out 4).trans rfl;have hfz62_0:=blk_frozen BK135.out 0;have hfz62_1:=blk_frozen BK135.out 1;have hfz62_2:=blk_frozen BK135.out 2;have hfz62_3:=blk_frozen BK135.out 3;have hfz62_4:=blk_frozen BK135.out 4)|((with_reducible refine gate_callee (f:=42) rfl ?_);refine goesL_ (some 11) rfl rfl Try.func42 (by kernel_rfl) rfl #[.slice A0_4 l0_4.length c0_4] rfl (by(try simp only [List.map_toArray,List.map_cons,List.map_nil]);rfl) ?_;(with_reducible refine(script_Normal.calls k _ _ l0_4 t136 t137 _ ?side1 ?side2 A2.out).mono ?_);(case side1=>repeat(exact(Kd.C_below HR0_4.out HB.out)));(case side2=>exact HC0_4.out);rintro e w63 ⟨v138,rfl,ho0,hb⟩;refine⟨_,rfl,?_⟩;have n0_:=Aside0.mk (Kd.S_lower ho0 (below_size (by repeat((with_reducible exact HB.out)))));have n1_:=Aside0.mk (blk_below (g:=gb135) (o:= .cells #[.int .i64 a0_0, .int .i64 a0_1, .int .i64 a0_2, .int .i64 a0_3, .slice A0_4 l0_4.length c0_4] 44 (0,0)) (by exact BK135.out) hb);have n2_:=Aside0.mk (below_step (by repeat((with_reducible exact HB.out))) hb);clear BK135;clear HB;have HO139:=n0_;have BK135:=n1_;have HB:=n2_;clear n0_ n1_ n2_;(try clear hb);(try clear ho0);have hcz64_0:w63.cell? ⟨gb135,0,none⟩=some (.int .i64 a0_0):=(blk_cell BK135.out 0).trans rfl;have hcz64_1:w63.cell? ⟨gb135,1,none⟩=some (.int .i64 a0_1):=(blk_cell BK135.out 1).trans rfl;have hcz64_2:w63.cell? ⟨gb135,2,none⟩=some (.int .i64 a0_2):=(blk_cell BK135.out 2).trans rfl;have hcz64_3:w63.cell? ⟨gb135,3,none⟩=some (.int .i64 a0_3):=(blk_cell BK135.out 3).trans rfl;have hcz64_4:w63.cell? ⟨gb135,4,none⟩=some (.slice A0_4 l0_4.length c0_4):=(blk_cell BK135.out 4).trans rfl;have hfz64_0:=blk_frozen BK135.out 0;have hfz64_1:=blk_frozen BK135.out 1;have hfz64_2:=blk_frozen BK135.out 2;have hfz64_3:=blk_frozen BK135.out 3;have hfz64_4:=blk_frozen BK135.out 4)|((with_reducible refine gate_callee (f:=55) rfl ?_);refine goesL_ (some 17) rfl rfl Try.func55 (by kernel_rfl) rfl #[.slice A0_4 l0_4.length c0_4] rfl (by(try simp only [List.map_toArray,List.map_cons,List.map_nil]);rfl) ?_;(with_reducible refine(script_Sides.calls k _ _ l0_4 t140 t141 t142 _ ?side1 ?side2 A3.out).mono ?_);(case side1=>repeat(exact(Kd.C_below HR0_4.out HB.out)));(case side2=>exact HC0_4.out);rintro e w65 ⟨v143,v145,rfl,ho0,ho1,hb⟩;refine⟨_,rfl,?_⟩;have n0_:=Aside0.mk (Kd.S_mono (Kd.S_told (Kd.S_told (Kd.S_old (by exact HO139.out) hb) (Kd.R_base ho0)) (Kd.R_base ho1)) (fun _ h_=>h_.1));have n1_:=Aside0.mk (Kd.R_lower ho0 (below_size (by repeat((with_reducible exact HB.out)))));have n2_:=Aside0.mk (Kd.R_lower ho1 (below_size (by repeat((with_reducible exact HB.out)))));have n3_:=Aside0.mk (blk_below (g:=gb135) (o:= .cells #[.int .i64 a0_0, .int .i64 a0_1, .int .i64 a0_2, .int .i64 a0_3, .slice A0_4 l0_4.length c0_4] 44 (0,0)) (by exact BK135.out) hb);have n4_:=Aside0.mk (below_step (by repeat((with_reducible exact HB.out))) hb);clear HO139;clear BK135;clear HB;have HO139:=n0_;have HO144:=n1_;have HO146:=n2_;have BK135:=n3_;have HB:=n4_;clear n0_ n1_ n2_ n3_ n4_;(try clear hb);(try clear ho0);(try clear ho1);have hcz66_0:w65.cell? ⟨gb135,0,none⟩=some (.int .i64 a0_0):=(blk_cell BK135.out 0).trans rfl;have hcz66_1:w65.cell? ⟨gb135,1,none⟩=some (.int .i64 a0_1):=(blk_cell BK135.out 1).trans rfl;have hcz66_2:w65.cell? ⟨gb135,2,none⟩=some (.int .i64 a0_2):=(blk_cell BK135.out 2).trans rfl;have hcz66_3:w65.cell? ⟨gb135,3,none⟩=some (.int .i64 a0_3):=(blk_cell BK135.out 3).trans rfl;have hcz66_4:w65.cell? ⟨gb135,4,none⟩=some (.slice A0_4 l0_4.length c0_4):=(blk_cell BK135.out 4).trans rfl;have hfz66_0:=blk_frozen BK135.out 0;have hfz66_1:=blk_frozen BK135.out 1;have hfz66_2:=blk_frozen BK135.out 2;have hfz66_3:=blk_frozen BK135.out 3;have hfz66_4:=blk_frozen BK135.out 4;obtain⟨Ao67,co67,eo67⟩:=Kd.S_slice HO139.out;subst eo67)|(go_at_call 71;(with_reducible refine(hunk_same.calls k _ _ t136 _ _ l0_4 true _ ?side1 ?side2 ?side3 ?side4 A5.out).mono ?_);(case side1=>repeat(exact(Kd.S_reads' HO139.out).2.2));(case side2=>exact(Kd.S_reads' HO139.out).2.1);(case side3=>repeat(exact(Kd.C_below HR0_4.out HB.out)));(case side4=>exact HC0_4.out);rintro e w68 ⟨rfl,hb⟩;have n0_:=Aside0.mk (Kd.S_below (by exact HO139.out) hb);have n1_:=Aside0.mk (Kd.R_below (by exact HO144.out) hb);have n2_:=Aside0.mk (Kd.R_below (by exact HO146.out) hb);have n3_:=Aside0.mk (blk_below (g:=gb135) (o:= .cells #[.int .i64 a0_0, .int .i64 a0_1, .int .i64 a0_2, .int .i64 a0_3, .slice A0_4 l0_4.length c0_4] 44 (0,0)) (by exact BK135.out) hb);have n4_:=Aside0.mk (below_step (by repeat((with_reducible exact HB.out))) hb);clear HO139;clear HO144;clear HO146;clear BK135;clear HB;have HO139:=n0_;have HO144:=n1_;have HO146:=n2_;have BK135:=n3_;have HB:=n4_;clear n0_ n1_ n2_ n3_ n4_;(try clear hb))|(go_at_call 72;(with_reducible refine(script_Changed.calls k _ _ t136 t148 _ ?side1 ?side2 A7.out).mono ?_);(case side1=>repeat(exact(Kd.S_reads' HO139.out).2.2));(case side2=>exact(Kd.S_reads' HO139.out).2.1);rintro e w69 ⟨rfl,hb⟩;have n0_:=Aside0.mk (Kd.S_below (by exact HO139.out) hb);have n1_:=Aside0.mk (Kd.R_below (by exact HO144.out) hb);have n2_:=Aside0.mk (Kd.R_below (by exact HO146.out) hb);have n3_:=Aside0.mk (blk_below (g:=gb135) (o:= .cells #[.int .i64 a0_0, .int .i64 a0_1, .int .i64 a0_2, .int .i64 a0_3, .slice A0_4 l0_4.length c0_4] 44 (0,0)) (by exact BK135.out) hb);have n4_:=Aside0.mk (below_step (by repeat((with_reducible exact HB.out))) hb);clear HO139;clear HO144;clear HO146;clear BK135;clear HB;have HO139:=n0_;have HO144:=n1_;have HO146:=n2_;have BK135:=n3_;have HB:=n4_;clear n0_ n1_ n2_ n3_ n4_;(try clear hb)))
    go_ret
    exact⟨by rfl,by repeat((with_reducible exact HB.out))⟩
  ·replace c6:=Bool.eq_false_iff.mpr c6
   subst c6
   have H1:(some false)=some r:=by rw [if_neg (show ¬(false=true) by decide)] at H;exact H
   clear H
   have H:=H1
   clear H1
   obtain rfl:=Option.some.inj H
   go_enter Try.func50,Try.ntmps50
   go_wp2_with(first|((with_reducible refine gate_dst (N:=1) rfl ?_);(try(refine gate_guard (by rfl) ?_;dsimp only));refine box_event ?hg (N:=1) ?hd (cs:= #[.int .i64 a0_0, .int .i64 a0_1, .int .i64 a0_2, .int .i64 a0_3, .slice A0_4 l0_4.length c0_4]) (t:=44) ?hr ?_;(case hd=>rfl);(case hg=>rfl);(case hr=>(go_simp;done));intro gb135 hg w70 hbox hb;have n0_:=Aside0.mk (below_step (by repeat((with_reducible exact HB.out))) hb);have n1_:=Aside0.mk (hbox);have n2_:=Aside0.mk ((by rw [hg];exact(below_size (by repeat((with_reducible exact HB.out)))):w.heap.size≤gb135));have n3_:=Aside0.mk ((by rw [hg];exact(below_size (by repeat((with_reducible exact HB.out)))):w.heap.size≤gb135));clear HB;have HB:=n0_;have BK135:=n1_;have GW135:=n2_;have GE135:=n3_;clear n0_ n1_ n2_ n3_;clear hb hbox hg;have hcz71_0:w70.cell? ⟨gb135,0,none⟩=some (.int .i64 a0_0):=(blk_cell BK135.out 0).trans rfl;have hcz71_1:w70.cell? ⟨gb135,1,none⟩=some (.int .i64 a0_1):=(blk_cell BK135.out 1).trans rfl;have hcz71_2:w70.cell? ⟨gb135,2,none⟩=some (.int .i64 a0_2):=(blk_cell BK135.out 2).trans rfl;have hcz71_3:w70.cell? ⟨gb135,3,none⟩=some (.int .i64 a0_3):=(blk_cell BK135.out 3).trans rfl;have hcz71_4:w70.cell? ⟨gb135,4,none⟩=some (.slice A0_4 l0_4.length c0_4):=(blk_cell BK135.out 4).trans rfl;have hfz71_0:=blk_frozen BK135.out 0;have hfz71_1:=blk_frozen BK135.out 1;have hfz71_2:=blk_frozen BK135.out 2;have hfz71_3:=blk_frozen BK135.out 3;have hfz71_4:=blk_frozen BK135.out 4)|((with_reducible refine gate_callee (f:=42) rfl ?_);refine goesL_ (some 11) rfl rfl Try.func42 (by kernel_rfl) rfl #[.slice A0_4 l0_4.length c0_4] rfl (by(try simp only [List.map_toArray,List.map_cons,List.map_nil]);rfl) ?_;(with_reducible refine(script_Normal.calls k _ _ l0_4 t136 t137 _ ?side1 ?side2 A2.out).mono ?_);(case side1=>repeat(exact(Kd.C_below HR0_4.out HB.out)));(case side2=>exact HC0_4.out);rintro e w72 ⟨v138,rfl,ho0,hb⟩;refine⟨_,rfl,?_⟩;have n0_:=Aside0.mk (Kd.S_lower ho0 (below_size (by repeat((with_reducible exact HB.out)))));have n1_:=Aside0.mk (blk_below (g:=gb135) (o:= .cells #[.int .i64 a0_0, .int .i64 a0_1, .int .i64 a0_2, .int .i64 a0_3, .slice A0_4 l0_4.length c0_4] 44 (0,0)) (by exact BK135.out) hb);have n2_:=Aside0.mk (below_step (by repeat((with_reducible exact HB.out))) hb);clear BK135;clear HB;have HO139:=n0_;have BK135:=n1_;have HB:=n2_;clear n0_ n1_ n2_;(try clear hb);(try clear ho0);have hcz73_0:w72.cell? ⟨gb135,0,none⟩=some (.int .i64 a0_0):=(blk_cell BK135.out 0).trans rfl;have hcz73_1:w72.cell? ⟨gb135,1,none⟩=some (.int .i64 a0_1):=(blk_cell BK135.out 1).trans rfl;have hcz73_2:w72.cell? ⟨gb135,2,none⟩=some (.int .i64 a0_2):=(blk_cell BK135.out 2).trans rfl;have hcz73_3:w72.cell? ⟨gb135,3,none⟩=some (.int .i64 a0_3):=(blk_cell BK135.out 3).trans rfl;have hcz73_4:w72.cell? ⟨gb135,4,none⟩=some (.slice A0_4 l0_4.length c0_4):=(blk_cell BK135.out 4).trans rfl;have hfz73_0:=blk_frozen BK135.out 0;have hfz73_1:=blk_frozen BK135.out 1;have hfz73_2:=blk_frozen BK135.out 2;have hfz73_3:=blk_frozen BK135.out 3;have hfz73_4:=blk_frozen BK135.out 4)|((with_reducible refine gate_callee (f:=55) rfl ?_);refine goesL_ (some 17) rfl rfl Try.func55 (by kernel_rfl) rfl #[.slice A0_4 l0_4.length c0_4] rfl (by(try simp only [List.map_toArray,List.map_cons,List.map_nil]);rfl) ?_;(with_reducible refine(script_Sides.calls k _ _ l0_4 t140 t141 t142 _ ?side1 ?side2 A3.out).mono ?_);(case side1=>repeat(exact(Kd.C_below HR0_4.out HB.out)));(case side2=>exact HC0_4.out);rintro e w74 ⟨v143,v145,rfl,ho0,ho1,hb⟩;refine⟨_,rfl,?_⟩;have n0_:=Aside0.mk (Kd.S_mono (Kd.S_told (Kd.S_told (Kd.S_old (by exact HO139.out) hb) (Kd.R_base ho0)) (Kd.R_base ho1)) (fun _ h_=>h_.1));have n1_:=Aside0.mk (Kd.R_lower ho0 (below_size (by repeat((with_reducible exact HB.out)))));have n2_:=Aside0.mk (Kd.R_lower ho1 (below_size (by repeat((with_reducible exact HB.out)))));have n3_:=Aside0.mk (blk_below (g:=gb135) (o:= .cells #[.int .i64 a0_0, .int .i64 a0_1, .int .i64 a0_2, .int .i64 a0_3, .slice A0_4 l0_4.length c0_4] 44 (0,0)) (by exact BK135.out) hb);have n4_:=Aside0.mk (below_step (by repeat((with_reducible exact HB.out))) hb);clear HO139;clear BK135;clear HB;have HO139:=n0_;have HO144:=n1_;have HO146:=n2_;have BK135:=n3_;have HB:=n4_;clear n0_ n1_ n2_ n3_ n4_;(try clear hb);(try clear ho0);(try clear ho1);have hcz75_0:w74.cell? ⟨gb135,0,none⟩=some (.int .i64 a0_0):=(blk_cell BK135.out 0).trans rfl;have hcz75_1:w74.cell? ⟨gb135,1,none⟩=some (.int .i64 a0_1):=(blk_cell BK135.out 1).trans rfl;have hcz75_2:w74.cell? ⟨gb135,2,none⟩=some (.int .i64 a0_2):=(blk_cell BK135.out 2).trans rfl;have hcz75_3:w74.cell? ⟨gb135,3,none⟩=some (.int .i64 a0_3):=(blk_cell BK135.out 3).trans rfl;have hcz75_4:w74.cell? ⟨gb135,4,none⟩=some (.slice A0_4 l0_4.length c0_4):=(blk_cell BK135.out 4).trans rfl;have hfz75_0:=blk_frozen BK135.out 0;have hfz75_1:=blk_frozen BK135.out 1;have hfz75_2:=blk_frozen BK135.out 2;have hfz75_3:=blk_frozen BK135.out 3;have hfz75_4:=blk_frozen BK135.out 4;obtain⟨Ao76,co76,eo76⟩:=Kd.S_slice HO139.out;subst eo76)|(go_at_call 71;(with_reducible refine(hunk_same.calls k _ _ t136 _ _ l0_4 false _ ?side1 ?side2 ?side3 ?side4 A5.out).mono ?_);(case side1=>repeat(exact(Kd.S_reads' HO139.out).2.2));(case side2=>exact(Kd.S_reads' HO139.out).2.1);(case side3=>repeat(exact(Kd.C_below HR0_4.out HB.out)));(case side4=>exact HC0_4.out);rintro e w77 ⟨rfl,hb⟩;have n0_:=Aside0.mk (Kd.S_below (by exact HO139.out) hb);have n1_:=Aside0.mk (Kd.R_below (by exact HO144.out) hb);have n2_:=Aside0.mk (Kd.R_below (by exact HO146.out) hb);have n3_:=Aside0.mk (blk_below (g:=gb135) (o:= .cells #[.int .i64 a0_0, .int .i64 a0_1, .int .i64 a0_2, .int .i64 a0_3, .slice A0_4 l0_4.length c0_4] 44 (0,0)) (by exact BK135.out) hb);have n4_:=Aside0.mk (below_step (by repeat((with_reducible exact HB.out))) hb);clear HO139;clear HO144;clear HO146;clear BK135;clear HB;have HO139:=n0_;have HO144:=n1_;have HO146:=n2_;have BK135:=n3_;have HB:=n4_;clear n0_ n1_ n2_ n3_ n4_;(try clear hb)))
   go_ret
   exact⟨by rfl,by repeat((with_reducible exact HB.out))⟩
 ·rw [if_neg c4] at H
  have c4b0:(t137==0)=false:=beq_eq_false_iff_ne.mpr c4
  have c4b1:(t137 != 0)=true:=bne_iff_ne.mpr c4
  obtain rfl:=Option.some.inj H
  go_enter Try.func50,Try.ntmps50
  go_wp2_with(first|((with_reducible refine gate_dst (N:=1) rfl ?_);(try(refine gate_guard (by rfl) ?_;dsimp only));refine box_event ?hg (N:=1) ?hd (cs:= #[.int .i64 a0_0, .int .i64 a0_1, .int .i64 a0_2, .int .i64 a0_3, .slice A0_4 l0_4.length c0_4]) (t:=44) ?hr ?_;(case hd=>rfl);(case hg=>rfl);(case hr=>(go_simp;done));intro gb135 hg w78 hbox hb;have n0_:=Aside0.mk (below_step (by repeat((with_reducible exact HB.out))) hb);have n1_:=Aside0.mk (hbox);have n2_:=Aside0.mk ((by rw [hg];exact(below_size (by repeat((with_reducible exact HB.out)))):w.heap.size≤gb135));have n3_:=Aside0.mk ((by rw [hg];exact(below_size (by repeat((with_reducible exact HB.out)))):w.heap.size≤gb135));clear HB;have HB:=n0_;have BK135:=n1_;have GW135:=n2_;have GE135:=n3_;clear n0_ n1_ n2_ n3_;clear hb hbox hg;have hcz79_0:w78.cell? ⟨gb135,0,none⟩=some (.int .i64 a0_0):=(blk_cell BK135.out 0).trans rfl;have hcz79_1:w78.cell? ⟨gb135,1,none⟩=some (.int .i64 a0_1):=(blk_cell BK135.out 1).trans rfl;have hcz79_2:w78.cell? ⟨gb135,2,none⟩=some (.int .i64 a0_2):=(blk_cell BK135.out 2).trans rfl;have hcz79_3:w78.cell? ⟨gb135,3,none⟩=some (.int .i64 a0_3):=(blk_cell BK135.out 3).trans rfl;have hcz79_4:w78.cell? ⟨gb135,4,none⟩=some (.slice A0_4 l0_4.length c0_4):=(blk_cell BK135.out 4).trans rfl;have hfz79_0:=blk_frozen BK135.out 0;have hfz79_1:=blk_frozen BK135.out 1;have hfz79_2:=blk_frozen BK135.out 2;have hfz79_3:=blk_frozen BK135.out 3;have hfz79_4:=blk_frozen BK135.out 4)|((with_reducible refine gate_callee (f:=42) rfl ?_);refine goesL_ (some 11) rfl rfl Try.func42 (by kernel_rfl) rfl #[.slice A0_4 l0_4.length c0_4] rfl (by(try simp only [List.map_toArray,List.map_cons,List.map_nil]);rfl) ?_;(with_reducible refine(script_Normal.calls k _ _ l0_4 t136 t137 _ ?side1 ?side2 A2.out).mono ?_);(case side1=>repeat(exact(Kd.C_below HR0_4.out HB.out)));(case side2=>exact HC0_4.out);rintro e w80 ⟨v138,rfl,ho0,hb⟩;refine⟨_,rfl,?_⟩;have n0_:=Aside0.mk (Kd.S_lower ho0 (below_size (by repeat((with_reducible exact HB.out)))));have n1_:=Aside0.mk (blk_below (g:=gb135) (o:= .cells #[.int .i64 a0_0, .int .i64 a0_1, .int .i64 a0_2, .int .i64 a0_3, .slice A0_4 l0_4.length c0_4] 44 (0,0)) (by exact BK135.out) hb);have n2_:=Aside0.mk (below_step (by repeat((with_reducible exact HB.out))) hb);clear BK135;clear HB;have HO139:=n0_;have BK135:=n1_;have HB:=n2_;clear n0_ n1_ n2_;(try clear hb);(try clear ho0);have hcz81_0:w80.cell? ⟨gb135,0,none⟩=some (.int .i64 a0_0):=(blk_cell BK135.out 0).trans rfl;have hcz81_1:w80.cell? ⟨gb135,1,none⟩=some (.int .i64 a0_1):=(blk_cell BK135.out 1).trans rfl;have hcz81_2:w80.cell? ⟨gb135,2,none⟩=some (.int .i64 a0_2):=(blk_cell BK135.out 2).trans rfl;have hcz81_3:w80.cell? ⟨gb135,3,none⟩=some (.int .i64 a0_3):=(blk_cell BK135.out 3).trans rfl;have hcz81_4:w80.cell? ⟨gb135,4,none⟩=some (.slice A0_4 l0_4.length c0_4):=(blk_cell BK135.out 4).trans rfl;have hfz81_0:=blk_frozen BK135.out 0;have hfz81_1:=blk_frozen BK135.out 1;have hfz81_2:=blk_frozen BK135.out 2;have hfz81_3:=blk_frozen BK135.out 3;have hfz81_4:=blk_frozen BK135.out 4)|((with_reducible refine gate_callee (f:=55) rfl ?_);refine goesL_ (some 17) rfl rfl Try.func55 (by kernel_rfl) rfl #[.slice A0_4 l0_4.length c0_4] rfl (by(try simp only [List.map_toArray,List.map_cons,List.map_nil]);rfl) ?_;(with_reducible refine(script_Sides.calls k _ _ l0_4 t140 t141 t142 _ ?side1 ?side2 A3.out).mono ?_);(case side1=>repeat(exact(Kd.C_below HR0_4.out HB.out)));(case side2=>exact HC0_4.out);rintro e w82 ⟨v143,v145,rfl,ho0,ho1,hb⟩;refine⟨_,rfl,?_⟩;have n0_:=Aside0.mk (Kd.S_mono (Kd.S_told (Kd.S_told (Kd.S_old (by exact HO139.out) hb) (Kd.R_base ho0)) (Kd.R_base ho1)) (fun _ h_=>h_.1));have n1_:=Aside0.mk (Kd.R_lower ho0 (below_size (by repeat((with_reducible exact HB.out)))));have n2_:=Aside0.mk (Kd.R_lower ho1 (below_size (by repeat((with_reducible exact HB.out)))));have n3_:=Aside0.mk (blk_below (g:=gb135) (o:= .cells #[.int .i64 a0_0, .int .i64 a0_1, .int .i64 a0_2, .int .i64 a0_3, .slice A0_4 l0_4.length c0_4] 44 (0,0)) (by exact BK135.out) hb);have n4_:=Aside0.mk (below_step (by repeat((with_reducible exact HB.out))) hb);clear HO139;clear BK135;clear HB;have HO139:=n0_;have HO144:=n1_;have HO146:=n2_;have BK135:=n3_;have HB:=n4_;clear n0_ n1_ n2_ n3_ n4_;(try clear hb);(try clear ho0);(try clear ho1)))
  go_ret
  exact⟨by rfl,by repeat((with_reducible exact HB.out))⟩
end Go.Proofs.Ytfnbodjmmkjlcaa.H
end
section
namespace Go.Proofs.Ytfnbodjmmkjlcaa.H
open Go.RowKit Go.Proofs.YtfnbodjmmkjlcaaW.PrintWords Go.Proofs.YtfnbodjmmkjlcaaW.PrintLast Go.Proofs.YtfnbodjmmkjlcaaW.PrintMore
attribute [local go_sem] max2_int min2_int max_two min_two max_three min_three max_four min_four
set_option linter.unusedVariables false
set_option linter.unusedSimpArgs false
def hunk_Check.has (k:Nat):List S44→Option Bool
 | []=>some false
 | h::t=>(script_Check.f k h.f4).bind fun e=>if e=4 then some true else hunk_Check.has k t
def hunk_Check.far (a b x y:Int):Bool:= !(decide (0≤x∧x≤400)&&decide (0≤y∧y≤400)&&decide (a≤x)&&decide (x-a=y-b))
def hunk_Check.all (k:Nat):List S44→Int→Int→Option Int
 | [],_,_=>some 0
 | h::t,a,b=>if 0≤a∧a≤800∧0≤b∧b≤800 then (hunk_right.f k h.f0 h.f1 h.f2 h.f3 h.f4).bind fun r=>if r=false then some 3 else if hunk_Check.far a b h.f0 h.f2=true then some 3 else if 0≤h.f1∧h.f1≤400∧0≤h.f3∧h.f3≤400 then hunk_Check.all k t (h.f0+h.f1) (h.f2+h.f3) else none else none
def hunk_Check.f (k:Nat) (l0:List S44):Option Int:=if 400<l0.length then some 4 else (hunk_Check.has k l0).bind fun b=>if b=true then some 4 else hunk_Check.all k l0 0 0
theorem hunk_Check.has_mono (k:Nat): ∀l,LeO (hunk_Check.has k l) (hunk_Check.has (k+1) l)
 | []=>LeO.refl _
 | h::t=>LeO.bind (script_Check.mono _ k) (fun _=>LeO.ite (LeO.refl _) (hunk_Check.has_mono k t))
theorem hunk_Check.all_mono (k:Nat): ∀l a b,LeO (hunk_Check.all k l a b) (hunk_Check.all (k+1) l a b)
 | [],_,_=>LeO.refl _
 | h::t,a,b=>LeO.ite (LeO.bind (hunk_right.mono _ _ _ _ _ k) (fun _=>LeO.ite (LeO.refl _) (LeO.ite (LeO.refl _) (LeO.ite (hunk_Check.all_mono k t _ _) (LeO.refl _))))) (LeO.refl _)
theorem hunk_Check.mono: ∀a0 k,LeO (hunk_Check.f k a0) (hunk_Check.f (k+1) a0):=fun a0 k=>LeO.ite (LeO.refl _) (LeO.bind (hunk_Check.has_mono k a0) (fun _=>LeO.ite (LeO.refl _) (hunk_Check.all_mono k a0 0 0)))
set_option maxHeartbeats 4000000 in
set_option maxRecDepth 100000 in
theorem hunk_Check.one_calls (k:Nat) (h:S44) (A:Option Addr) (c:Nat) (e:Int) (w:World) (hC:Kd.C k47 w A h.f4.length h.f4) (hc:h.f4.length≤c) (he:script_Check.f k h.f4=some e):
  Calls Try.prog 48 #[.agg #[.int .i64 h.f0, .int .i64 h.f1, .int .i64 h.f2, .int .i64 h.f3, .slice A h.f4.length c]] w fun e' w'=>e'= .returned (.bool (e==4))∧Below w.heap.size w w':=by
 have HC:=Aside0.mk hC
 have Hc:=Aside0.mk hc
 have He:=Aside0.mk he
 clear hC hc he
 go_enter Try.func48,Try.ntmps48
 go_wp2_with(go_at_call 49;refine(script_Check.calls k A c h.f4 e _ (Kd.C_below HC.out (below_alloc (Below.refl _ _) _)) Hc.out He.out).mono ?_;rintro e2 w2 ⟨rfl,hb⟩)
 go_ret
 exact⟨rfl,below_step (below_alloc (Below.refl _ _) _) hb⟩
set_option maxHeartbeats 4000000 in
set_option maxRecDepth 100000 in
theorem hunk_Check.has_calls (k:Nat) (A0:Option Addr) (c0:Nat) (l0:List S44) (r:Bool) (w:World) (hr0:Kd.C k44 w A0 l0.length l0) (hc0:l0.length≤c0) (h:hunk_Check.has k l0=some r):
  Calls Try.prog 47 #[.slice A0 l0.length c0, .func (.func 48) #[] #[]] w fun e w'=>e= .returned (.bool r)∧Below w.heap.size w w':=by
 have HR0:=Aside0.mk hr0
 have HC0:=Aside0.mk hc0
 have H:=Aside0.mk h
 clear hr0 hc0 h
 go_enter Try.func47,Try.ntmps47
 go_wp2
 go_loopw [8] (fun v wr=> ∃n:Nat,n≤l0.length∧v= .int .i64 (n:Int)∧hunk_Check.has k (l0.drop n)=some r∧Below w.heap.size w wr)
  (fun v _=>l0.length-(intOf v).toNat)
 case atStart=>exact⟨0,Nat.zero_le _,rfl,H.out,Below.refl _ _⟩
 case round=>
  obtain⟨n,hn,rfl,ha,hB⟩:=hrel
  have hsl:l0.length≤9223372036854775807:=HR0.out.2.1
  by_cases hlt:n<l0.length
  ·have hx:rd_T44 l0 (n:Int)=l0[n]:=by
    simp [rd_T44,hlt]
   have hlt':decide ((n:Int)<(l0.length:Int))=true:=decide_eq_true (by omega)
   have hlt2:((n:Int)<(l0.length:Int))=True:=eq_true (by omega)
   rw [List.drop_eq_getElem_cons hlt, ← hx] at ha
   unfold hunk_Check.has at ha
   obtain⟨q,hq,ha⟩:=Option.bind_eq_some_iff.1 ha
   obtain⟨ad,A4,c4,e,hx0,hx1,hx2,hx3,hx4,hl4,hC4⟩:=at_T44 HR0.out (n:Int) (by omega) (by omega)
   cases e
   replace hx0:=(hB.cell (World.block_lt_of_cell? w _ hx0)).trans hx0
   replace hx1:=(hB.cell (World.block_lt_of_cell? w _ hx1)).trans hx1
   replace hx2:=(hB.cell (World.block_lt_of_cell? w _ hx2)).trans hx2
   replace hx3:=(hB.cell (World.block_lt_of_cell? w _ hx3)).trans hx3
   replace hx4:=(hB.cell (World.block_lt_of_cell? w _ hx4)).trans hx4
   simp only [Int.toNat_natCast] at hx0 hx1 hx2 hx3 hx4
   have HC4:=Aside0.mk hC4
   have Hl4:=Aside0.mk hl4
   have HB:=Aside0.mk hB
   have Hq:=Aside0.mk hq
   have HWn:Aside0 (wrap64 ((n:Int)+1)=((n+1:Nat):Int)):=⟨by unfold wrap64;omega⟩
   clear hx hC4 hl4 hB hq
   by_cases hq4:q=4
   ·rw [if_pos hq4] at ha
    obtain rfl:=Option.some.inj ha
    have hq4':(q==4)=true:=beq_iff_eq.mpr hq4
    clear ha hq4
    go_wp2_with(go_at_call 48;refine(hunk_Check.one_calls k (rd_T44 l0 (n:Int)) A4 c4 q _ (Kd.C_below HC4.out HB.out) Hl4.out Hq.out).mono ?_;rintro e w2 ⟨rfl,hb2⟩)
    go_ret
    exact⟨rfl,below_step HB.out hb2⟩
   ·rw [if_neg hq4] at ha
    have hq4':(q==4)=false:=beq_eq_false_iff_ne.mpr hq4
    have Ha:=Aside0.mk ha
    clear ha hq4
    go_wp2_with(go_at_call 48;refine(hunk_Check.one_calls k (rd_T44 l0 (n:Int)) A4 c4 q _ (Kd.C_below HC4.out HB.out) Hl4.out Hq.out).mono ?_;rintro e w2 ⟨rfl,hb2⟩)
    go_roundw
    case rel=>exact⟨n+1,by omega,by rfl,Ha.out,below_step HB.out hb2⟩
    case measure=>
     simp only [intOf,Int.toNat_natCast]
     omega
  ·obtain rfl:n=l0.length:=by omega
   have hlt':decide ((l0.length:Int)<(l0.length:Int))=false:=decide_eq_false (by omega)
   rw [List.drop_length] at ha
   obtain rfl:=Option.some.inj ha
   clear ha
   go_wp2
   go_ret
   exact⟨rfl,hB⟩
theorem hunk_Check.within_eq (x:Int):hunk_within.f x=some (decide (0≤x∧x≤400)):=by
 unfold hunk_within.f
 split
 ·rename_i h
  congr 1
  exact decide_eq_decide.2 ⟨fun h2=>⟨h,h2⟩,fun h2=>h2.2⟩
 ·rename_i h
  congr 1
  exact(decide_eq_false (fun h2=>h h2.1)).symm
set_option maxHeartbeats 4000000 in
set_option maxRecDepth 100000 in
theorem hunk_Check.calls (k:Nat) (A0:Option Addr) (c0:Nat) (l0:List S44) (r:Int) (w:World) (hr0:Kd.C k44 w A0 l0.length l0) (hc0:l0.length≤c0) (h:hunk_Check.f k l0=some r):
  Calls Try.prog 18 #[.slice A0 l0.length c0] w fun e w'=>e= .returned (.int .i64 r)∧Below w.heap.size w w':=by
 unfold hunk_Check.f at h
 have HR0:=Aside0.mk hr0
 have HC0:=Aside0.mk hc0
 by_cases hl:400<l0.length
 ·rw [if_pos hl] at h
  obtain rfl:=Option.some.inj h
  have hl':decide (((l0.length:Nat):Int)>400)=true:=decide_eq_true (by omega)
  have hl2:decide (400<l0.length)=true:=decide_eq_true hl
  clear h hl hr0 hc0
  go_enter Try.func18,Try.ntmps18
  go_wp2
  go_ret
  exact⟨rfl,Below.refl _ _⟩
 ·rw [if_neg hl] at h
  have hl':decide (((l0.length:Nat):Int)>400)=false:=decide_eq_false (by omega)
  have hl2:decide (400<l0.length)=false:=decide_eq_false hl
  obtain⟨b,hb,h⟩:=Option.bind_eq_some_iff.1 h
  have HH:=Aside0.mk (hunk_Check.has_calls k A0 c0 l0 b w hr0 hc0 hb)
  clear hb hl hr0 hc0
  cases b with
  | true=>
   rw [if_pos rfl] at h
   obtain rfl:=Option.some.inj h
   clear h
   go_enter Try.func18,Try.ntmps18
   go_wp2_with(go_at_call 47;refine HH.out.mono ?_;rintro e w1 ⟨rfl,hb1⟩)
   go_ret
   exact⟨rfl,hb1⟩
  | false=>
   rw [if_neg (by decide)] at h
   have H:=Aside0.mk h
   clear h
   go_enter Try.func18,Try.ntmps18
   go_wp2_with(go_at_call 47;refine HH.out.mono ?_;rintro e w1 ⟨rfl,hb1⟩)
   go_loopw [3,4,16] (fun va vb v wr=> ∃(n:Nat) (a b:Int),n≤l0.length∧va= .int .i64 a∧vb= .int .i64 b∧v= .int .i64 (n:Int)∧hunk_Check.all k (l0.drop n) a b=some r∧Below w.heap.size w wr)
    (fun _ _ v _=>l0.length-(intOf v).toNat)
   case atStart=>exact⟨0,0,0,Nat.zero_le _,rfl,rfl,rfl,H.out,hb1⟩
   case round=>
    obtain⟨n,a,b,hn,rfl,rfl,rfl,ha,hB⟩:=hrel
    have hsl:l0.length≤9223372036854775807:=HR0.out.2.1
    by_cases hlt:n<l0.length
    ·have hx:rd_T44 l0 (n:Int)=l0[n]:=by
      simp [rd_T44,hlt]
     have hlt':decide ((n:Int)<(l0.length:Int))=true:=decide_eq_true (by omega)
     rw [List.drop_eq_getElem_cons hlt, ← hx] at ha
     obtain⟨ad,A4,c4,e,hx0,hx1,hx2,hx3,hx4,hl4,hC4⟩:=at_T44 HR0.out (n:Int) (by omega) (by omega)
     cases e
     replace hx0:=(hB.cell (World.block_lt_of_cell? w _ hx0)).trans hx0
     replace hx1:=(hB.cell (World.block_lt_of_cell? w _ hx1)).trans hx1
     replace hx2:=(hB.cell (World.block_lt_of_cell? w _ hx2)).trans hx2
     replace hx3:=(hB.cell (World.block_lt_of_cell? w _ hx3)).trans hx3
     replace hx4:=(hB.cell (World.block_lt_of_cell? w _ hx4)).trans hx4
     simp only [Int.toNat_natCast] at hx0 hx1 hx2 hx3 hx4
     generalize rd_T44 l0 (n:Int)=x at ha hx0 hx1 hx2 hx3 hx4 hl4 hC4
     unfold hunk_Check.all at ha
     split at ha
     case isFalse=>cases ha
     rename_i hab
     obtain⟨q,hq,ha⟩:=Option.bind_eq_some_iff.1 ha
     have HC4:=Aside0.mk hC4
     have Hl4:=Aside0.mk hl4
     have HB:=Aside0.mk hB
     have Hr:=Aside0.mk hq
     have HX:=Aside0.mk (World.alloc_heap_new wr (.cells #[.int .i64 x.f0, .int .i64 x.f1, .int .i64 x.f2, .int .i64 x.f3, .slice A4 x.f4.length c4] 44 (0,0)))
     have HBx:=Aside0.mk (hB.alloc hB.size (.cells #[.int .i64 x.f0, .int .i64 x.f1, .int .i64 x.f2, .int .i64 x.f3, .slice A4 x.f4.length c4] 44))
     have HWn:Aside0 (wrap64 ((n:Int)+1)=((n+1:Nat):Int)):=⟨by unfold wrap64;omega⟩
     clear hC4 hl4 hB hq hx
     cases q with
     | false=>
      rw [if_pos rfl] at ha
      obtain rfl:=Option.some.inj ha
      clear ha
      go_wp2_with
(first|(go_at_call 50;have hcl:=hunk_right.calls k x.f0 x.f1 x.f2 x.f3 A4 c4 x.f4 false _ (Kd.C_below HC4.out HBx.out) Hl4.out Hr.out;refine hcl.mono ?_;clear hcl;rintro e W1 ⟨rfl,hb1⟩;have hX1:=(hb1.block _ (blk_lt HX.out)).trans HX.out;have hX10:W1.cell? ⟨wr.heap.size,0,none⟩=some (.int .i64 x.f0):=(blk_cell hX1 0).trans rfl;have hX12:W1.cell? ⟨wr.heap.size,2,none⟩=some (.int .i64 x.f2):=(blk_cell hX1 2).trans rfl;have HX1:=Aside0.mk hX1;have HB1:=Aside0.mk hb1;clear hX1 hb1)|(go_at_call 51;have hcl:=hunk_within.calls x.f0 (decide (0≤x.f0∧x.f0≤400)) W1 (hunk_Check.within_eq _);with_reducible refine hcl.mono ?_;clear hcl;rintro e W2 ⟨rfl,hd2⟩;have hX2:=(hd2.below.block _ (blk_lt HX1.out)).trans HX1.out;have hX20:W2.cell? ⟨wr.heap.size,0,none⟩=some (.int .i64 x.f0):=(blk_cell hX2 0).trans rfl;have hX22:W2.cell? ⟨wr.heap.size,2,none⟩=some (.int .i64 x.f2):=(blk_cell hX2 2).trans rfl;have HX2:=Aside0.mk hX2;have HB2:=Aside0.mk (HB1.out.trans (hd2.below.mono HB1.out.size));clear hX2 hd2)|(go_at_call 51;have hcl:=hunk_within.calls x.f2 (decide (0≤x.f2∧x.f2≤400)) W2 (hunk_Check.within_eq _);with_reducible refine hcl.mono ?_;clear hcl;rintro e W3 ⟨rfl,hd3⟩;have hX3:=(hd3.below.block _ (blk_lt HX2.out)).trans HX2.out;have hX30:W3.cell? ⟨wr.heap.size,0,none⟩=some (.int .i64 x.f0):=(blk_cell hX3 0).trans rfl;have hX31:W3.cell? ⟨wr.heap.size,1,none⟩=some (.int .i64 x.f1):=(blk_cell hX3 1).trans rfl;have hX32:W3.cell? ⟨wr.heap.size,2,none⟩=some (.int .i64 x.f2):=(blk_cell hX3 2).trans rfl;have hX33:W3.cell? ⟨wr.heap.size,3,none⟩=some (.int .i64 x.f3):=(blk_cell hX3 3).trans rfl;have HX3:=Aside0.mk hX3;have HB3:=Aside0.mk (HB2.out.trans (hd3.below.mono HB2.out.size));clear hX3 hd3))
      go_ret
      exact⟨rfl,below_step HBx.out HB1.out⟩
     | true=>
      rw [if_neg (by decide)] at ha
      obtain⟨ha1,ha2,ha3,ha4⟩:=hab
      by_cases p0:0≤x.f0∧x.f0≤400
      ·have p0':decide (0≤x.f0∧x.f0≤400)=true:=decide_eq_true p0
       by_cases p2:0≤x.f2∧x.f2≤400
       ·have p2':decide (0≤x.f2∧x.f2≤400)=true:=decide_eq_true p2
        by_cases pa:a≤x.f0
        ·have pa':decide (x.f0<a)=false:=decide_eq_false (by omega)
         obtain⟨p01,p02⟩:=p0
         obtain⟨p21,p22⟩:=p2
         by_cases pd:x.f0-a=x.f2-b
         ·have pd':(x.f0-a != x.f2-b)=false:=bne_eq_false_iff_eq.mpr pd
          have hfar:hunk_Check.far a b x.f0 x.f2=false:=by
           unfold hunk_Check.far
           rw [p0',p2',decide_eq_true pa,decide_eq_true pd]
           rfl
          rw [hfar,if_neg (by decide)] at ha
          split at ha
          case isFalse=>cases ha
          rename_i h13
          obtain⟨q1,q2,q3,q4⟩:=h13
          have HW0:Aside0 (wrap64 (x.f0+x.f1)=x.f0+x.f1):=⟨by unfold wrap64;omega⟩
          have HW2:Aside0 (wrap64 (x.f2+x.f3)=x.f2+x.f3):=⟨by unfold wrap64;omega⟩
          have Ha:=Aside0.mk ha
          clear ha hfar pd pa
          go_wp2_with
(first|(go_at_call 50;have hcl:=hunk_right.calls k x.f0 x.f1 x.f2 x.f3 A4 c4 x.f4 true _ (Kd.C_below HC4.out HBx.out) Hl4.out Hr.out;refine hcl.mono ?_;clear hcl;rintro e W1 ⟨rfl,hb1⟩;have hX1:=(hb1.block _ (blk_lt HX.out)).trans HX.out;have hX10:W1.cell? ⟨wr.heap.size,0,none⟩=some (.int .i64 x.f0):=(blk_cell hX1 0).trans rfl;have hX12:W1.cell? ⟨wr.heap.size,2,none⟩=some (.int .i64 x.f2):=(blk_cell hX1 2).trans rfl;have HX1:=Aside0.mk hX1;have HB1:=Aside0.mk hb1;clear hX1 hb1)|(go_at_call 51;have hcl:=hunk_within.calls x.f0 (decide (0≤x.f0∧x.f0≤400)) W1 (hunk_Check.within_eq _);with_reducible refine hcl.mono ?_;clear hcl;rintro e W2 ⟨rfl,hd2⟩;have hX2:=(hd2.below.block _ (blk_lt HX1.out)).trans HX1.out;have hX20:W2.cell? ⟨wr.heap.size,0,none⟩=some (.int .i64 x.f0):=(blk_cell hX2 0).trans rfl;have hX22:W2.cell? ⟨wr.heap.size,2,none⟩=some (.int .i64 x.f2):=(blk_cell hX2 2).trans rfl;have HX2:=Aside0.mk hX2;have HB2:=Aside0.mk (HB1.out.trans (hd2.below.mono HB1.out.size));clear hX2 hd2)|(go_at_call 51;have hcl:=hunk_within.calls x.f2 (decide (0≤x.f2∧x.f2≤400)) W2 (hunk_Check.within_eq _);with_reducible refine hcl.mono ?_;clear hcl;rintro e W3 ⟨rfl,hd3⟩;have hX3:=(hd3.below.block _ (blk_lt HX2.out)).trans HX2.out;have hX30:W3.cell? ⟨wr.heap.size,0,none⟩=some (.int .i64 x.f0):=(blk_cell hX3 0).trans rfl;have hX31:W3.cell? ⟨wr.heap.size,1,none⟩=some (.int .i64 x.f1):=(blk_cell hX3 1).trans rfl;have hX32:W3.cell? ⟨wr.heap.size,2,none⟩=some (.int .i64 x.f2):=(blk_cell hX3 2).trans rfl;have hX33:W3.cell? ⟨wr.heap.size,3,none⟩=some (.int .i64 x.f3):=(blk_cell hX3 3).trans rfl;have HX3:=Aside0.mk hX3;have HB3:=Aside0.mk (HB2.out.trans (hd3.below.mono HB2.out.size));clear hX3 hd3))
          have hX3:=blk_drew HX3.out
          have HB4:=Aside0.mk (HB3.out.drew)
          clear hX30 hX31 hX32 hX33
          refine start_ (n:=12) (S:=fun w'=>w'.cell? ⟨wr.heap.size,0,none⟩=some (.int .i64 x.f0)∧w'.cell? ⟨wr.heap.size,1,none⟩=some (.int .i64 x.f1)∧w'.cell? ⟨wr.heap.size,2,none⟩=some (.int .i64 x.f2)∧w'.cell? ⟨wr.heap.size,3,none⟩=some (.int .i64 x.f3)) (ds:= []) (Sq.bl 12 0) (by kernel_rfl) rfl (by rfl) ⟨(blk_cell hX3 0).trans rfl,(blk_cell hX3 1).trans rfl,(blk_cell hX3 2).trans rfl,(blk_cell hX3 3).trans rfl⟩ (fun hS=>?_)
          refine Sq.pu (v:=?_) (a':=?_) 0 52 (Sq.bl 12 1) (by kernel_rfl) rfl rfl (fun _ _ _ h=>h) (by rfl) ?_ ?_ ?_;rotate_left;(· intro w';go_simp;with_reducible rfl);rotate_left;(· simp only [Act.put,List.setIfInBounds_toArray,List.set_cons_zero,List.set_cons_succ,i64_w,i32_w,HW0.out,HW2.out];rfl)
          refine Sq.pu (v:=?_) (a':=?_) 2 54 (Sq.bl 12 5) (by kernel_rfl) rfl rfl (fun _ _ _ h=>h) (by rfl) ?_ ?_ ?_;rotate_left;(· intro w';go_simp;with_reducible rfl);rotate_left;(· simp only [Act.put,List.setIfInBounds_toArray,List.set_cons_zero,List.set_cons_succ,i64_w,i32_w,HW0.out,HW2.out];rfl)
          refine Sq.pu (v:=?_) (a':=?_) 5 57 (Sq.bl 12 37) (by kernel_rfl) rfl rfl (fun _ _ _ h=>h) (by rfl) ?_ ?_ ?_;rotate_left;(· intro w';go_simp;with_reducible rfl);rotate_left;(· simp only [Act.put,List.setIfInBounds_toArray,List.set_cons_zero,List.set_cons_succ,i64_w,i32_w,HW0.out,HW2.out];rfl)
          refine Sq.pu (v:=?_) (a':=?_) 7 59 (Sq.bl 12 165) (by kernel_rfl) rfl rfl (fun _ _ _ h=>h) (by rfl) ?_ ?_ ?_;rotate_left;(· intro w';go_simp;with_reducible rfl);rotate_left;(· simp only [Act.put,List.setIfInBounds_toArray,List.set_cons_zero,List.set_cons_succ,i64_w,i32_w,HW0.out,HW2.out];rfl)
          refine take_ (i:=1) (N:=some 53) (v:=?_) (a':=?_) (Sq.bl 12 167) rfl rfl (by kernel_rfl) (fun _ _ _ h=>h) (Or.inl ⟨by rfl,?_⟩) hS ?_ ?_;rotate_left;(· rintro w' ⟨s0,s1,s2,s3⟩;go_simp;with_reducible rfl);rotate_left;(· simp only [Act.put,List.setIfInBounds_toArray,List.set_cons_zero,List.set_cons_succ,i64_w,i32_w,HW0.out,HW2.out];rfl)
          refine take_ (i:=3) (N:=some 55) (v:=?_) (a':=?_) (Sq.bl 12 175) rfl rfl (by kernel_rfl) (fun _ _ _ h=>h) (Or.inl ⟨by rfl,?_⟩) hS ?_ ?_;rotate_left;(· rintro w' ⟨s0,s1,s2,s3⟩;go_simp;with_reducible rfl);rotate_left;(· simp only [Act.put,List.setIfInBounds_toArray,List.set_cons_zero,List.set_cons_succ,i64_w,i32_w,HW0.out,HW2.out];rfl)
          refine Sq.pu (v:=?_) (a':=?_) 4 56 (Sq.bl 12 191) (by kernel_rfl) rfl rfl (fun _ _ _ h=>h) (by rfl) ?_ ?_ ?_;rotate_left;(· intro w';go_simp;with_reducible rfl);rotate_left;(· simp only [Act.put,List.setIfInBounds_toArray,List.set_cons_zero,List.set_cons_succ,i64_w,i32_w,HW0.out,HW2.out];rfl)
          refine Sq.pu (v:=?_) (a':=?_) 10 3 (Sq.bl 12 1215) (by kernel_rfl) rfl rfl (fun _ _ _ h=>h) (by rfl) ?_ ?_ ?_;rotate_left;(· intro w';go_simp;with_reducible rfl);rotate_left;(· simp only [Act.put,List.setIfInBounds_toArray,List.set_cons_zero,List.set_cons_succ,i64_w,i32_w,HW0.out,HW2.out];rfl)
          refine take_ (i:=6) (N:=some 58) (v:=?_) (a':=?_) (Sq.bl 12 1279) rfl rfl (by kernel_rfl) (fun _ _ _ h=>h) (Or.inl ⟨by rfl,?_⟩) hS ?_ ?_;rotate_left;(· rintro w' ⟨s0,s1,s2,s3⟩;go_simp;with_reducible rfl);rotate_left;(· simp only [Act.put,List.setIfInBounds_toArray,List.set_cons_zero,List.set_cons_succ,i64_w,i32_w,HW0.out,HW2.out];rfl)
          refine take_ (i:=8) (N:=some 60) (v:=?_) (a':=?_) (Sq.bl 12 1535) rfl rfl (by kernel_rfl) (fun _ _ _ h=>h) (Or.inl ⟨by rfl,?_⟩) hS ?_ ?_;rotate_left;(· rintro w' ⟨s0,s1,s2,s3⟩;go_simp;with_reducible rfl);rotate_left;(· simp only [Act.put,List.setIfInBounds_toArray,List.set_cons_zero,List.set_cons_succ,i64_w,i32_w,HW0.out,HW2.out];rfl)
          refine Sq.pu (v:=?_) (a':=?_) 9 61 (Sq.bl 12 2047) (by kernel_rfl) rfl rfl (fun _ _ _ h=>h) (by rfl) ?_ ?_ ?_;rotate_left;(· intro w';go_simp;with_reducible rfl);rotate_left;(· simp only [Act.put,List.setIfInBounds_toArray,List.set_cons_zero,List.set_cons_succ,i64_w,i32_w,HW0.out,HW2.out];rfl)
          refine Sq.pu (v:=?_) (a':=?_) 11 4 (Sq.bl 12 4095) (by kernel_rfl) rfl rfl (fun _ _ _ h=>h) (by rfl) ?_ ?_ ?_;rotate_left;(· intro w';go_simp;with_reducible rfl);rotate_left;(· simp only [Act.put,List.setIfInBounds_toArray,List.set_cons_zero,List.set_cons_succ,i64_w,i32_w,HW0.out,HW2.out];rfl)
          refine done_ (by kernel_rfl) ?_
          go_wp2
          go_roundw
          case rel=>exact⟨n+1,x.f0+x.f1,x.f2+x.f3,by omega,by first|rfl|exact congrArg _ HW0.out,by first|rfl|exact congrArg _ HW2.out,by first|rfl|exact congrArg _ HWn.out,Ha.out,below_step HBx.out HB4.out⟩
          case measure=>
           try rw [HWn.out]
           simp only [intOf,Int.toNat_natCast]
           omega
         ·have pd':(x.f0-a != x.f2-b)=true:=bne_iff_ne.mpr pd
          have hfar:hunk_Check.far a b x.f0 x.f2=true:=by
           unfold hunk_Check.far
           rw [p0',p2',decide_eq_true pa,decide_eq_false pd]
           rfl
          rw [hfar,if_pos rfl] at ha
          obtain rfl:=Option.some.inj ha
          clear ha hfar pd pa
          go_wp2_with
(first|(go_at_call 50;have hcl:=hunk_right.calls k x.f0 x.f1 x.f2 x.f3 A4 c4 x.f4 true _ (Kd.C_below HC4.out HBx.out) Hl4.out Hr.out;refine hcl.mono ?_;clear hcl;rintro e W1 ⟨rfl,hb1⟩;have hX1:=(hb1.block _ (blk_lt HX.out)).trans HX.out;have hX10:W1.cell? ⟨wr.heap.size,0,none⟩=some (.int .i64 x.f0):=(blk_cell hX1 0).trans rfl;have hX12:W1.cell? ⟨wr.heap.size,2,none⟩=some (.int .i64 x.f2):=(blk_cell hX1 2).trans rfl;have HX1:=Aside0.mk hX1;have HB1:=Aside0.mk hb1;clear hX1 hb1)|(go_at_call 51;have hcl:=hunk_within.calls x.f0 (decide (0≤x.f0∧x.f0≤400)) W1 (hunk_Check.within_eq _);with_reducible refine hcl.mono ?_;clear hcl;rintro e W2 ⟨rfl,hd2⟩;have hX2:=(hd2.below.block _ (blk_lt HX1.out)).trans HX1.out;have hX20:W2.cell? ⟨wr.heap.size,0,none⟩=some (.int .i64 x.f0):=(blk_cell hX2 0).trans rfl;have hX22:W2.cell? ⟨wr.heap.size,2,none⟩=some (.int .i64 x.f2):=(blk_cell hX2 2).trans rfl;have HX2:=Aside0.mk hX2;have HB2:=Aside0.mk (HB1.out.trans (hd2.below.mono HB1.out.size));clear hX2 hd2)|(go_at_call 51;have hcl:=hunk_within.calls x.f2 (decide (0≤x.f2∧x.f2≤400)) W2 (hunk_Check.within_eq _);with_reducible refine hcl.mono ?_;clear hcl;rintro e W3 ⟨rfl,hd3⟩;have hX3:=(hd3.below.block _ (blk_lt HX2.out)).trans HX2.out;have hX30:W3.cell? ⟨wr.heap.size,0,none⟩=some (.int .i64 x.f0):=(blk_cell hX3 0).trans rfl;have hX31:W3.cell? ⟨wr.heap.size,1,none⟩=some (.int .i64 x.f1):=(blk_cell hX3 1).trans rfl;have hX32:W3.cell? ⟨wr.heap.size,2,none⟩=some (.int .i64 x.f2):=(blk_cell hX3 2).trans rfl;have hX33:W3.cell? ⟨wr.heap.size,3,none⟩=some (.int .i64 x.f3):=(blk_cell hX3 3).trans rfl;have HX3:=Aside0.mk hX3;have HB3:=Aside0.mk (HB2.out.trans (hd3.below.mono HB2.out.size));clear hX3 hd3))
          go_ret
          exact⟨rfl,below_step HBx.out HB3.out⟩
        ·have pa':decide (x.f0<a)=true:=decide_eq_true (by omega)
         have hfar:hunk_Check.far a b x.f0 x.f2=true:=by
          unfold hunk_Check.far
          rw [p0',p2',decide_eq_false pa]
          rfl
         rw [hfar,if_pos rfl] at ha
         obtain rfl:=Option.some.inj ha
         clear ha hfar pa p0 p2
         go_wp2_with
(first|(go_at_call 50;have hcl:=hunk_right.calls k x.f0 x.f1 x.f2 x.f3 A4 c4 x.f4 true _ (Kd.C_below HC4.out HBx.out) Hl4.out Hr.out;refine hcl.mono ?_;clear hcl;rintro e W1 ⟨rfl,hb1⟩;have hX1:=(hb1.block _ (blk_lt HX.out)).trans HX.out;have hX10:W1.cell? ⟨wr.heap.size,0,none⟩=some (.int .i64 x.f0):=(blk_cell hX1 0).trans rfl;have hX12:W1.cell? ⟨wr.heap.size,2,none⟩=some (.int .i64 x.f2):=(blk_cell hX1 2).trans rfl;have HX1:=Aside0.mk hX1;have HB1:=Aside0.mk hb1;clear hX1 hb1)|(go_at_call 51;have hcl:=hunk_within.calls x.f0 (decide (0≤x.f0∧x.f0≤400)) W1 (hunk_Check.within_eq _);with_reducible refine hcl.mono ?_;clear hcl;rintro e W2 ⟨rfl,hd2⟩;have hX2:=(hd2.below.block _ (blk_lt HX1.out)).trans HX1.out;have hX20:W2.cell? ⟨wr.heap.size,0,none⟩=some (.int .i64 x.f0):=(blk_cell hX2 0).trans rfl;have hX22:W2.cell? ⟨wr.heap.size,2,none⟩=some (.int .i64 x.f2):=(blk_cell hX2 2).trans rfl;have HX2:=Aside0.mk hX2;have HB2:=Aside0.mk (HB1.out.trans (hd2.below.mono HB1.out.size));clear hX2 hd2)|(go_at_call 51;have hcl:=hunk_within.calls x.f2 (decide (0≤x.f2∧x.f2≤400)) W2 (hunk_Check.within_eq _);with_reducible refine hcl.mono ?_;clear hcl;rintro e W3 ⟨rfl,hd3⟩;have hX3:=(hd3.below.block _ (blk_lt HX2.out)).trans HX2.out;have hX30:W3.cell? ⟨wr.heap.size,0,none⟩=some (.int .i64 x.f0):=(blk_cell hX3 0).trans rfl;have hX31:W3.cell? ⟨wr.heap.size,1,none⟩=some (.int .i64 x.f1):=(blk_cell hX3 1).trans rfl;have hX32:W3.cell? ⟨wr.heap.size,2,none⟩=some (.int .i64 x.f2):=(blk_cell hX3 2).trans rfl;have hX33:W3.cell? ⟨wr.heap.size,3,none⟩=some (.int .i64 x.f3):=(blk_cell hX3 3).trans rfl;have HX3:=Aside0.mk hX3;have HB3:=Aside0.mk (HB2.out.trans (hd3.below.mono HB2.out.size));clear hX3 hd3))
         go_ret
         exact⟨rfl,below_step HBx.out HB3.out⟩
       ·have p2':decide (0≤x.f2∧x.f2≤400)=false:=decide_eq_false p2
        have hfar:hunk_Check.far a b x.f0 x.f2=true:=by
         unfold hunk_Check.far
         rw [p0',p2']
         rfl
        rw [hfar,if_pos rfl] at ha
        obtain rfl:=Option.some.inj ha
        clear ha hfar p0 p2
        go_wp2_with
(first|(go_at_call 50;have hcl:=hunk_right.calls k x.f0 x.f1 x.f2 x.f3 A4 c4 x.f4 true _ (Kd.C_below HC4.out HBx.out) Hl4.out Hr.out;refine hcl.mono ?_;clear hcl;rintro e W1 ⟨rfl,hb1⟩;have hX1:=(hb1.block _ (blk_lt HX.out)).trans HX.out;have hX10:W1.cell? ⟨wr.heap.size,0,none⟩=some (.int .i64 x.f0):=(blk_cell hX1 0).trans rfl;have hX12:W1.cell? ⟨wr.heap.size,2,none⟩=some (.int .i64 x.f2):=(blk_cell hX1 2).trans rfl;have HX1:=Aside0.mk hX1;have HB1:=Aside0.mk hb1;clear hX1 hb1)|(go_at_call 51;have hcl:=hunk_within.calls x.f0 (decide (0≤x.f0∧x.f0≤400)) W1 (hunk_Check.within_eq _);with_reducible refine hcl.mono ?_;clear hcl;rintro e W2 ⟨rfl,hd2⟩;have hX2:=(hd2.below.block _ (blk_lt HX1.out)).trans HX1.out;have hX20:W2.cell? ⟨wr.heap.size,0,none⟩=some (.int .i64 x.f0):=(blk_cell hX2 0).trans rfl;have hX22:W2.cell? ⟨wr.heap.size,2,none⟩=some (.int .i64 x.f2):=(blk_cell hX2 2).trans rfl;have HX2:=Aside0.mk hX2;have HB2:=Aside0.mk (HB1.out.trans (hd2.below.mono HB1.out.size));clear hX2 hd2)|(go_at_call 51;have hcl:=hunk_within.calls x.f2 (decide (0≤x.f2∧x.f2≤400)) W2 (hunk_Check.within_eq _);with_reducible refine hcl.mono ?_;clear hcl;rintro e W3 ⟨rfl,hd3⟩;have hX3:=(hd3.below.block _ (blk_lt HX2.out)).trans HX2.out;have hX30:W3.cell? ⟨wr.heap.size,0,none⟩=some (.int .i64 x.f0):=(blk_cell hX3 0).trans rfl;have hX31:W3.cell? ⟨wr.heap.size,1,none⟩=some (.int .i64 x.f1):=(blk_cell hX3 1).trans rfl;have hX32:W3.cell? ⟨wr.heap.size,2,none⟩=some (.int .i64 x.f2):=(blk_cell hX3 2).trans rfl;have hX33:W3.cell? ⟨wr.heap.size,3,none⟩=some (.int .i64 x.f3):=(blk_cell hX3 3).trans rfl;have HX3:=Aside0.mk hX3;have HB3:=Aside0.mk (HB2.out.trans (hd3.below.mono HB2.out.size));clear hX3 hd3))
        go_ret
        exact⟨rfl,below_step HBx.out HB3.out⟩
      ·have p0':decide (0≤x.f0∧x.f0≤400)=false:=decide_eq_false p0
       have hfar:hunk_Check.far a b x.f0 x.f2=true:=by
        unfold hunk_Check.far
        rw [p0']
        rfl
       rw [hfar,if_pos rfl] at ha
       obtain rfl:=Option.some.inj ha
       clear ha hfar p0
       go_wp2_with
(first|(go_at_call 50;have hcl:=hunk_right.calls k x.f0 x.f1 x.f2 x.f3 A4 c4 x.f4 true _ (Kd.C_below HC4.out HBx.out) Hl4.out Hr.out;refine hcl.mono ?_;clear hcl;rintro e W1 ⟨rfl,hb1⟩;have hX1:=(hb1.block _ (blk_lt HX.out)).trans HX.out;have hX10:W1.cell? ⟨wr.heap.size,0,none⟩=some (.int .i64 x.f0):=(blk_cell hX1 0).trans rfl;have hX12:W1.cell? ⟨wr.heap.size,2,none⟩=some (.int .i64 x.f2):=(blk_cell hX1 2).trans rfl;have HX1:=Aside0.mk hX1;have HB1:=Aside0.mk hb1;clear hX1 hb1)|(go_at_call 51;have hcl:=hunk_within.calls x.f0 (decide (0≤x.f0∧x.f0≤400)) W1 (hunk_Check.within_eq _);with_reducible refine hcl.mono ?_;clear hcl;rintro e W2 ⟨rfl,hd2⟩;have hX2:=(hd2.below.block _ (blk_lt HX1.out)).trans HX1.out;have hX20:W2.cell? ⟨wr.heap.size,0,none⟩=some (.int .i64 x.f0):=(blk_cell hX2 0).trans rfl;have hX22:W2.cell? ⟨wr.heap.size,2,none⟩=some (.int .i64 x.f2):=(blk_cell hX2 2).trans rfl;have HX2:=Aside0.mk hX2;have HB2:=Aside0.mk (HB1.out.trans (hd2.below.mono HB1.out.size));clear hX2 hd2)|(go_at_call 51;have hcl:=hunk_within.calls x.f2 (decide (0≤x.f2∧x.f2≤400)) W2 (hunk_Check.within_eq _);with_reducible refine hcl.mono ?_;clear hcl;rintro e W3 ⟨rfl,hd3⟩;have hX3:=(hd3.below.block _ (blk_lt HX2.out)).trans HX2.out;have hX30:W3.cell? ⟨wr.heap.size,0,none⟩=some (.int .i64 x.f0):=(blk_cell hX3 0).trans rfl;have hX31:W3.cell? ⟨wr.heap.size,1,none⟩=some (.int .i64 x.f1):=(blk_cell hX3 1).trans rfl;have hX32:W3.cell? ⟨wr.heap.size,2,none⟩=some (.int .i64 x.f2):=(blk_cell hX3 2).trans rfl;have hX33:W3.cell? ⟨wr.heap.size,3,none⟩=some (.int .i64 x.f3):=(blk_cell hX3 3).trans rfl;have HX3:=Aside0.mk hX3;have HB3:=Aside0.mk (HB2.out.trans (hd3.below.mono HB2.out.size));clear hX3 hd3))
       go_ret
       exact⟨rfl,below_step HBx.out HB2.out⟩
    ·obtain rfl:n=l0.length:=by omega
     have hlt':decide ((l0.length:Int)<(l0.length:Int))=false:=decide_eq_false (by omega)
     rw [List.drop_length] at ha
     obtain rfl:=Option.some.inj ha
     clear ha
     go_wp2
     go_ret
     exact⟨rfl,hB⟩
end Go.Proofs.Ytfnbodjmmkjlcaa.H
end
