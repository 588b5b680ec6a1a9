/-
  What the claim needs of the words, of the walks and of the plain proofs, in one row (6).
-/
import Derived.Deep.RegionHeld3
import Derived.WalkLawsBesides
import Derived.WalkSpells
import Derived.RangeFuncNested
import Derived.RangeFuncBound
import Derived.RangeFuncCalls
import Derived.RangeFuncLeaves
import Derived.RangeFuncBox
import Derived.RangeFuncMany
import Derived.Shelf.Abstract
import Derived.OwnWalkIn
import Derived.TacticsInMore
import Derived.LoopNIn
import Derived.LoopIn
import Derived.ChangeKeysEq
import Derived.Test.YtfnbodjmmkjlcaaZ0
import Derived.Test.YtfnbodjmmkjlcaaZ1
import Derived.Test.YtfnbodjmmkjlcaaZ2
import Derived.Test.YtfnbodjmmkjlcaaZ3
import Derived.Test.YtfnbodjmmkjlcaaZ4
import Derived.Test.YtfnbodjmmkjlcaaZ5
section
namespace Go.Proofs.Ytfnbodjmmkjlcaa.H
open Go.RowKit Go.Proofs.YtfnbodjmmkjlcaaW.PrintWords Go.Proofs.YtfnbodjmmkjlcaaW.PrintLast Go.Proofs.YtfnbodjmmkjlcaaW.PrintMore
attribute [local go_sem] max2_int min2_int max_two min_two max_three min_three max_four min_four
set_option linter.unusedVariables false
set_option linter.unusedSimpArgs false
def patch_whole.f (k:Nat) (l0:List (S44)) (l1:List (S66)):Option ((List (S47))×(List (S66))×Int):=(hunk_Whole.f k l0 l1).bind fun bt383=>(if bt383.2=0 then ((script_Apply.f k bt383.1 l1).bind fun bt387=>(if bt387.2=0 then (if (bt387.1.length:Int)>400 then (some (([]:List (S47)),([]:List (S66)),4)) else ((text_Right.f k bt387.1).bind fun t391=>(if t391=true then (some (bt383.1,bt387.1,0)) else (some (([]:List (S47)),([]:List (S66)),3))))) else (some (([]:List (S47)),([]:List (S66)),bt387.2)))) else (some (([]:List (S47)),([]:List (S66)),bt383.2)))
theorem patch_whole.mono: ∀a0 a1 k,LeO (patch_whole.f k a0 a1) (patch_whole.f (k+1) a0 a1):=by
 intro a0 a1 k
 unfold patch_whole.f
 repeat' first
   | (with_reducible exact hunk_Whole.mono _ _ _)
   | (with_reducible exact script_Apply.mono _ _ _)
   | (with_reducible exact text_Right.mono _ _)
   | (with_reducible exact LeO.refl _)
   | (with_reducible exact LeO.none _)
   | (with_reducible refine LeO.ite ?_ ?_)
   | (with_reducible refine LeO.bind ?_ (fun _=>?_))
   | exact hunk_Whole.mono _ _ _
   | exact script_Apply.mono _ _ _
   | exact text_Right.mono _ _
   | exact LeO.none _
   | refine LeO.ite ?_ ?_
   | refine LeO.bind ?_ (fun _=>?_)
set_option maxHeartbeats 8000000 in
set_option maxRecDepth 100000 in
theorem patch_whole.calls (k:Nat) (P0_:Nat→Prop) (A0:Option Addr) (c0:Nat) (l0:List (S44)) (P1_:Nat→Prop) (A1:Option Addr) (c1:Nat) (l1:List (S66)) (r1:List (S47)) (r2:List (S66)) (r3:Int) (w:World) (hs0:Kd.V k44 44 w w.heap.size (fun k_=>P0_ k_) (.slice A0 l0.length c0) l0) (hs1:Kd.V k66 66 w w.heap.size (fun k_=>P1_ k_) (.slice A1 l1.length c1) l1) (h:patch_whole.f k l0 l1=some (r1,r2,r3)):
  Calls Try.prog 57 #[.slice A0 l0.length c0, .slice A1 l1.length c1] w fun e w'=> ∃v0_ v1_:Value,e= .returned (.tuple #[v0_,v1_, .int .i64 r3])∧Kd.N k47 47 w' w.heap.size (fun k_=>((P0_ k_∨P1_ k_)∨w.heap.size≤k_)∧some k_≠(v1_:Value).ownBlock) v0_ r1∧Kd.R k66 66 w' w.heap.size (fun k_=>(w.heap.size≤k_)) v1_ r2∧Below w.heap.size w w':=by
 have HO0:=Aside0.mk (show Kd.V k44 44 w w.heap.size (fun k_=>((P0_ k_∨P1_ k_)∨w.heap.size≤k_)) (.slice A0 l0.length c0) l0 from Kd.V_mono hs0 (fun k_ hk=> .inl (.inl hk)))
 have HO1:=Aside0.mk (show Kd.V k66 66 w w.heap.size (fun k_=>((P0_ k_∨P1_ k_)∨w.heap.size≤k_)) (.slice A1 l1.length c1) l1 from Kd.V_mono hs1 (fun k_ hk=> .inl (.inr hk)))
 have HB:=Aside0.mk (Below.refl w.heap.size w)
 have H:((hunk_Whole.f k l0 l1).bind fun bt383=>(if bt383.2=0 then ((script_Apply.f k bt383.1 l1).bind fun bt387=>(if bt387.2=0 then (if (bt387.1.length:Int)>400 then (some (([]:List (S47)),([]:List (S66)),4)) else ((text_Right.f k bt387.1).bind fun t391=>(if t391=true then (some (bt383.1,bt387.1,0)) else (some (([]:List (S47)),([]:List (S66)),3))))) else (some (([]:List (S47)),([]:List (S66)),bt387.2)))) else (some (([]:List (S47)),([]:List (S66)),bt383.2))))=some (r1,r2,r3):=h
 clear h
 replace H:=Option.bind_eq_some_iff.mp H
 obtain⟨⟨t383,t386⟩,A30,H⟩:=H
 replace H:(if t386=0 then ((script_Apply.f k t383 l1).bind fun bt387=>(if bt387.2=0 then (if (bt387.1.length:Int)>400 then (some (([]:List (S47)),([]:List (S66)),4)) else ((text_Right.f k bt387.1).bind fun t391=>(if t391=true then (some (t383,bt387.1,0)) else (some (([]:List (S47)),([]:List (S66)),3))))) else (some (([]:List (S47)),([]:List (S66)),bt387.2)))) else (some (([]:List (S47)),([]:List (S66)),t386)))=some (r1,r2,r3):=H
 have A3:=Aside0.mk A30
 clear A30
 by_cases c4:t386=0
 ·rw [if_pos c4] at H
  have c4b0:(t386==0)=true:=beq_iff_eq.mpr c4
  have c4b1:(t386 != 0)=false:=bne_eq_false_iff_eq.mpr c4
  clear c4
  replace H:=Option.bind_eq_some_iff.mp H
  obtain⟨⟨t387,t388⟩,A50,H⟩:=H
  replace H:(if t388=0 then (if (t387.length:Int)>400 then (some (([]:List (S47)),([]:List (S66)),4)) else ((text_Right.f k t387).bind fun t391=>(if t391=true then (some (t383,t387,0)) else (some (([]:List (S47)),([]:List (S66)),3))))) else (some (([]:List (S47)),([]:List (S66)),t388)))=some (r1,r2,r3):=H
  have A5:=Aside0.mk A50
  clear A50
  by_cases c6:t388=0
  ·rw [if_pos c6] at H
   have c6b0:(t388==0)=true:=beq_iff_eq.mpr c6
   have c6b1:(t388 != 0)=false:=bne_eq_false_iff_eq.mpr c6
   clear c6
   by_cases c7:(t387.length:Int)>400
   ·rw [if_pos c7] at H
    have c7b0:decide (400<(t387.length:Int))=true:=decide_eq_true c7
    have c7b1:decide (400<t387.length)=true:=decide_eq_true (by omega)
    clear c7
    simp only [Option.some.injEq,Prod.mk.injEq] at H
    obtain⟨rfl,rfl,rfl⟩:=H
    go_enter Try.func57,Try.ntmps57
    go_wp2_with(first|((with_reducible refine gate_callee (f:=25) rfl ?_);refine goesL_ (some 13) rfl rfl Try.func25 (by kernel_rfl) rfl #[.slice A0 l0.length c0, .slice A1 l1.length c1] rfl (by(try simp only [List.map_toArray,List.map_cons,List.map_nil]);rfl) ?_;(with_reducible refine(hunk_Whole.calls k (fun k_=>((P0_ k_∨P1_ k_)∨w.heap.size≤k_)) _ _ l0 (fun k_=>((P0_ k_∨P1_ k_)∨w.heap.size≤k_)) _ _ l1 t383 t386 _ ?side1 ?side2 A3.out).mono ?_);(case side1=>exact HO0.out);(case side2=>exact HO1.out);rintro e w8 ⟨v384,rfl,ho0,hb⟩;refine⟨_,rfl,?_⟩;have n0_:=Aside0.mk (Kd.V_elder' (by exact HO0.out) (by exact Kd.N_base ho0) hb);have n1_:=Aside0.mk (Kd.V_elder' (by exact HO1.out) (by exact Kd.N_base ho0) hb);have n2_:=Aside0.mk (Kd.N_lower (Kd.N_mono (ok':=fun k_=>((P0_ k_∨P1_ k_)∨w.heap.size≤k_)) ho0 (fun k_ hk_=>Or.elim hk_ (fun hs_=>Or.elim hs_ (fun hs_=>hs_) (fun hs_=>hs_)) (fun hn_=>(.inr (Nat.le_trans (below_size (by repeat((with_reducible exact HB.out)))) hn_))))) (below_size (by repeat((with_reducible exact HB.out)))));have n3_:=Aside0.mk (below_step (by repeat((with_reducible exact HB.out))) hb);clear HO0;clear HO1;clear HB;have HO0:=n0_;have HO1:=n1_;have HO385:=n2_;have HB:=n3_;clear n0_ n1_ n2_ n3_;(try clear hb);(try clear ho0);obtain⟨Ao9,co9,eo9⟩:=Kd.N_slice HO385.out;subst eo9)|((with_reducible refine gate_callee (f:=74) rfl ?_);refine goesL_ (some 22) rfl rfl Try.func74 (by kernel_rfl) rfl #[.slice Ao9 t383.length co9, .slice A1 l1.length c1] rfl (by(try simp only [List.map_toArray,List.map_cons,List.map_nil]);rfl) ?_;(with_reducible refine(script_Apply.calls k _ _ t383 _ _ l1 t387 t388 _ ?side1 ?side2 ?side3 ?side4 A5.out).mono ?_);(case side1=>repeat(exact(Kd.N_reads' HO385.out).2.2));(case side2=>exact(Kd.N_reads' HO385.out).2.1);(case side3=>repeat(exact(Kd.V_reads' HO1.out).2.2));(case side4=>exact(Kd.V_reads' HO1.out).2.1);rintro e w10 ⟨v389,rfl,ho0,hb⟩;refine⟨_,rfl,?_⟩;have n0_:=Aside0.mk (Kd.V_elder' (by exact HO0.out) (Kd.R_base ho0) hb);have n1_:=Aside0.mk (Kd.V_elder' (by exact HO1.out) (Kd.R_base ho0) hb);have n2_:=Aside0.mk (Kd.N_elder' (by exact HO385.out) (Kd.R_base ho0) hb);have n3_:=Aside0.mk (Kd.R_lower (Kd.R_newM (M:=fun k_=>(w.heap.size≤k_)) ho0 (below_size (by repeat((with_reducible exact HB.out)))) (fun k_ h_=>h_)) (below_size (by repeat((with_reducible exact HB.out)))));have n4_:=Aside0.mk (below_step (by repeat((with_reducible exact HB.out))) hb);clear HO0;clear HO1;clear HO385;clear HB;have HO0:=n0_;have HO1:=n1_;have HO385:=n2_;have HO390:=n3_;have HB:=n4_;clear n0_ n1_ n2_ n3_ n4_;(try clear hb);(try clear ho0);obtain⟨Ao11,co11,eo11⟩:=Kd.R_slice HO390.out;subst eo11))
    go_ret3
    exact⟨_,_,by rfl,by exact Kd.N_nil _ _ _ _ _,by exact Kd.R_nil _ _ _ _ _,by repeat((with_reducible exact HB.out))⟩
   ·rw [if_neg c7] at H
    have c7b0:decide (400<(t387.length:Int))=false:=decide_eq_false c7
    have c7b1:decide (400<t387.length)=false:=decide_eq_false (by omega)
    clear c7
    replace H:=Option.bind_eq_some_iff.mp H
    obtain⟨t391,A120,H⟩:=H
    replace H:(if t391=true then (some (t383,t387,0)) else (some (([]:List (S47)),([]:List (S66)),3)))=some (r1,r2,r3):=H
    have A12:=Aside0.mk A120
    clear A120
    by_cases c13:t391=true
    ·subst c13
     have H1:(some (t383,t387,0))=some (r1,r2,r3):=by rw [if_pos rfl] at H;exact H
     clear H
     have H:=H1
     clear H1
     simp only [Option.some.injEq,Prod.mk.injEq] at H
     obtain⟨rfl,rfl,rfl⟩:=H
     go_enter Try.func57,Try.ntmps57
     go_wp2_with(first|((with_reducible refine gate_callee (f:=25) rfl ?_);refine goesL_ (some 13) rfl rfl Try.func25 (by kernel_rfl) rfl #[.slice A0 l0.length c0, .slice A1 l1.length c1] rfl (by(try simp only [List.map_toArray,List.map_cons,List.map_nil]);rfl) ?_;(with_reducible refine(hunk_Whole.calls k (fun k_=>((P0_ k_∨P1_ k_)∨w.heap.size≤k_)) _ _ l0 (fun k_=>((P0_ k_∨P1_ k_)∨w.heap.size≤k_)) _ _ l1 t383 t386 _ ?side1 ?side2 A3.out).mono ?_);(case side1=>exact HO0.out);(case side2=>exact HO1.out);rintro e w14 ⟨v384,rfl,ho0,hb⟩;refine⟨_,rfl,?_⟩;have n0_:=Aside0.mk (Kd.V_elder' (by exact HO0.out) (by exact Kd.N_base ho0) hb);have n1_:=Aside0.mk (Kd.V_elder' (by exact HO1.out) (by exact Kd.N_base ho0) hb);have n2_:=Aside0.mk (Kd.N_lower (Kd.N_mono (ok':=fun k_=>((P0_ k_∨P1_ k_)∨w.heap.size≤k_)) ho0 (fun k_ hk_=>Or.elim hk_ (fun hs_=>Or.elim hs_ (fun hs_=>hs_) (fun hs_=>hs_)) (fun hn_=>(.inr (Nat.le_trans (below_size (by repeat((with_reducible exact HB.out)))) hn_))))) (below_size (by repeat((with_reducible exact HB.out)))));have n3_:=Aside0.mk (below_step (by repeat((with_reducible exact HB.out))) hb);clear HO0;clear HO1;clear HB;have HO0:=n0_;have HO1:=n1_;have HO385:=n2_;have HB:=n3_;clear n0_ n1_ n2_ n3_;(try clear hb);(try clear ho0);obtain⟨Ao15,co15,eo15⟩:=Kd.N_slice HO385.out;subst eo15)|((with_reducible refine gate_callee (f:=74) rfl ?_);refine goesL_ (some 22) rfl rfl Try.func74 (by kernel_rfl) rfl #[.slice Ao15 t383.length co15, .slice A1 l1.length c1] rfl (by(try simp only [List.map_toArray,List.map_cons,List.map_nil]);rfl) ?_;(with_reducible refine(script_Apply.calls k _ _ t383 _ _ l1 t387 t388 _ ?side1 ?side2 ?side3 ?side4 A5.out).mono ?_);(case side1=>repeat(exact(Kd.N_reads' HO385.out).2.2));(case side2=>exact(Kd.N_reads' HO385.out).2.1);(case side3=>repeat(exact(Kd.V_reads' HO1.out).2.2));(case side4=>exact(Kd.V_reads' HO1.out).2.1);rintro e w16 ⟨v389,rfl,ho0,hb⟩;refine⟨_,rfl,?_⟩;have n0_:=Aside0.mk (Kd.V_elder' (by exact HO0.out) (Kd.R_base ho0) hb);have n1_:=Aside0.mk (Kd.V_elder' (by exact HO1.out) (Kd.R_base ho0) hb);have n2_:=Aside0.mk (Kd.N_elder' (by exact HO385.out) (Kd.R_base ho0) hb);have n3_:=Aside0.mk (Kd.R_lower (Kd.R_newM (M:=fun k_=>(w.heap.size≤k_)) ho0 (below_size (by repeat((with_reducible exact HB.out)))) (fun k_ h_=>h_)) (below_size (by repeat((with_reducible exact HB.out)))));have n4_:=Aside0.mk (below_step (by repeat((with_reducible exact HB.out))) hb);clear HO0;clear HO1;clear HO385;clear HB;have HO0:=n0_;have HO1:=n1_;have HO385:=n2_;have HO390:=n3_;have HB:=n4_;clear n0_ n1_ n2_ n3_ n4_;(try clear hb);(try clear ho0);obtain⟨Ao17,co17,eo17⟩:=Kd.R_slice HO390.out;subst eo17)|((with_reducible refine gate_callee (f:=75) rfl ?_);refine goesL_ (some 35) rfl rfl Try.func75 (by kernel_rfl) rfl #[.slice Ao17 t387.length co17] rfl (by(try simp only [List.map_toArray,List.map_cons,List.map_nil]);rfl) ?_;(with_reducible refine(text_Right.calls k _ _ t387 true _ ?side1 ?side2 A12.out).mono ?_);(case side1=>repeat(exact(Kd.R_reads' HO390.out).2.2));(case side2=>exact(Kd.R_reads' HO390.out).2.1);rintro e w18 ⟨rfl,hb⟩;refine⟨_,rfl,?_⟩;have n0_:=Aside0.mk (Kd.V_below (by exact HO0.out) hb);have n1_:=Aside0.mk (Kd.V_below (by exact HO1.out) hb);have n2_:=Aside0.mk (Kd.N_below (by exact HO385.out) hb);have n3_:=Aside0.mk (Kd.R_below (by exact HO390.out) hb);have n4_:=Aside0.mk (below_step (by repeat((with_reducible exact HB.out))) hb);clear HO0;clear HO1;clear HO385;clear HO390;clear HB;have HO0:=n0_;have HO1:=n1_;have HO385:=n2_;have HO390:=n3_;have HB:=n4_;clear n0_ n1_ n2_ n3_ n4_;(try clear hb)))
     go_ret3
     exact⟨_,_,by rfl,by exact HO385.out,by exact Kd.R_mono HO390.out (fun _ hk=>hk.1),by repeat((with_reducible exact HB.out))⟩
    ·replace c13:=Bool.eq_false_iff.mpr c13
     subst c13
     have H1:(some (([]:List (S47)),([]:List (S66)),3))=some (r1,r2,r3):=by rw [if_neg (show ¬(false=true) by decide)] at H;exact H
     clear H
     have H:=H1
     clear H1
     simp only [Option.some.injEq,Prod.mk.injEq] at H
     obtain⟨rfl,rfl,rfl⟩:=H
     go_enter Try.func57,Try.ntmps57
     go_wp2_with(first|((with_reducible refine gate_callee (f:=25) rfl ?_);refine goesL_ (some 13) rfl rfl Try.func25 (by kernel_rfl) rfl #[.slice A0 l0.length c0, .slice A1 l1.length c1] rfl (by(try simp only [List.map_toArray,List.map_cons,List.map_nil]);rfl) ?_;(with_reducible refine(hunk_Whole.calls k (fun k_=>((P0_ k_∨P1_ k_)∨w.heap.size≤k_)) _ _ l0 (fun k_=>((P0_ k_∨P1_ k_)∨w.heap.size≤k_)) _ _ l1 t383 t386 _ ?side1 ?side2 A3.out).mono ?_);(case side1=>exact HO0.out);(case side2=>exact HO1.out);rintro e w19 ⟨v384,rfl,ho0,hb⟩;refine⟨_,rfl,?_⟩;have n0_:=Aside0.mk (Kd.V_elder' (by exact HO0.out) (by exact Kd.N_base ho0) hb);have n1_:=Aside0.mk (Kd.V_elder' (by exact HO1.out) (by exact Kd.N_base ho0) hb);have n2_:=Aside0.mk (Kd.N_lower (Kd.N_mono (ok':=fun k_=>((P0_ k_∨P1_ k_)∨w.heap.size≤k_)) ho0 (fun k_ hk_=>Or.elim hk_ (fun hs_=>Or.elim hs_ (fun hs_=>hs_) (fun hs_=>hs_)) (fun hn_=>(.inr (Nat.le_trans (below_size (by repeat((with_reducible exact HB.out)))) hn_))))) (below_size (by repeat((with_reducible exact HB.out)))));have n3_:=Aside0.mk (below_step (by repeat((with_reducible exact HB.out))) hb);clear HO0;clear HO1;clear HB;have HO0:=n0_;have HO1:=n1_;have HO385:=n2_;have HB:=n3_;clear n0_ n1_ n2_ n3_;(try clear hb);(try clear ho0);obtain⟨Ao20,co20,eo20⟩:=Kd.N_slice HO385.out;subst eo20)|((with_reducible refine gate_callee (f:=74) rfl ?_);refine goesL_ (some 22) rfl rfl Try.func74 (by kernel_rfl) rfl #[.slice Ao20 t383.length co20, .slice A1 l1.length c1] rfl (by(try simp only [List.map_toArray,List.map_cons,List.map_nil]);rfl) ?_;(with_reducible refine(script_Apply.calls k _ _ t383 _ _ l1 t387 t388 _ ?side1 ?side2 ?side3 ?side4 A5.out).mono ?_);(case side1=>repeat(exact(Kd.N_reads' HO385.out).2.2));(case side2=>exact(Kd.N_reads' HO385.out).2.1);(case side3=>repeat(exact(Kd.V_reads' HO1.out).2.2));(case side4=>exact(Kd.V_reads' HO1.out).2.1);rintro e w21 ⟨v389,rfl,ho0,hb⟩;refine⟨_,rfl,?_⟩;have n0_:=Aside0.mk (Kd.V_elder' (by exact HO0.out) (Kd.R_base ho0) hb);have n1_:=Aside0.mk (Kd.V_elder' (by exact HO1.out) (Kd.R_base ho0) hb);have n2_:=Aside0.mk (Kd.N_elder' (by exact HO385.out) (Kd.R_base ho0) hb);have n3_:=Aside0.mk (Kd.R_lower (Kd.R_newM (M:=fun k_=>(w.heap.size≤k_)) ho0 (below_size (by repeat((with_reducible exact HB.out)))) (fun k_ h_=>h_)) (below_size (by repeat((with_reducible exact HB.out)))));have n4_:=Aside0.mk (below_step (by repeat((with_reducible exact HB.out))) hb);clear HO0;clear HO1;clear HO385;clear HB;have HO0:=n0_;have HO1:=n1_;have HO385:=n2_;have HO390:=n3_;have HB:=n4_;clear n0_ n1_ n2_ n3_ n4_;(try clear hb);(try clear ho0);obtain⟨Ao22,co22,eo22⟩:=Kd.R_slice HO390.out;subst eo22)|((with_reducible refine gate_callee (f:=75) rfl ?_);refine goesL_ (some 35) rfl rfl Try.func75 (by kernel_rfl) rfl #[.slice Ao22 t387.length co22] rfl (by(try simp only [List.map_toArray,List.map_cons,List.map_nil]);rfl) ?_;(with_reducible refine(text_Right.calls k _ _ t387 false _ ?side1 ?side2 A12.out).mono ?_);(case side1=>repeat(exact(Kd.R_reads' HO390.out).2.2));(case side2=>exact(Kd.R_reads' HO390.out).2.1);rintro e w23 ⟨rfl,hb⟩;refine⟨_,rfl,?_⟩;have n0_:=Aside0.mk (Kd.V_below (by exact HO0.out) hb);have n1_:=Aside0.mk (Kd.V_below (by exact HO1.out) hb);have n2_:=Aside0.mk (Kd.N_below (by exact HO385.out) hb);have n3_:=Aside0.mk (Kd.R_below (by exact HO390.out) hb);have n4_:=Aside0.mk (below_step (by repeat((with_reducible exact HB.out))) hb);clear HO0;clear HO1;clear HO385;clear HO390;clear HB;have HO0:=n0_;have HO1:=n1_;have HO385:=n2_;have HO390:=n3_;have HB:=n4_;clear n0_ n1_ n2_ n3_ n4_;(try clear hb)))
     go_ret3
     exact⟨_,_,by rfl,by exact Kd.N_nil _ _ _ _ _,by exact Kd.R_nil _ _ _ _ _,by repeat((with_reducible exact HB.out))⟩
  ·rw [if_neg c6] at H
   have c6b0:(t388==0)=false:=beq_eq_false_iff_ne.mpr c6
   have c6b1:(t388 != 0)=true:=bne_iff_ne.mpr c6
   simp only [Option.some.injEq,Prod.mk.injEq] at H
   obtain⟨rfl,rfl,rfl⟩:=H
   go_enter Try.func57,Try.ntmps57
   go_wp2_with(first|((with_reducible refine gate_callee (f:=25) rfl ?_);refine goesL_ (some 13) rfl rfl Try.func25 (by kernel_rfl) rfl #[.slice A0 l0.length c0, .slice A1 l1.length c1] rfl (by(try simp only [List.map_toArray,List.map_cons,List.map_nil]);rfl) ?_;(with_reducible refine(hunk_Whole.calls k (fun k_=>((P0_ k_∨P1_ k_)∨w.heap.size≤k_)) _ _ l0 (fun k_=>((P0_ k_∨P1_ k_)∨w.heap.size≤k_)) _ _ l1 t383 t386 _ ?side1 ?side2 A3.out).mono ?_);(case side1=>exact HO0.out);(case side2=>exact HO1.out);rintro e w24 ⟨v384,rfl,ho0,hb⟩;refine⟨_,rfl,?_⟩;have n0_:=Aside0.mk (Kd.V_elder' (by exact HO0.out) (by exact Kd.N_base ho0) hb);have n1_:=Aside0.mk (Kd.V_elder' (by exact HO1.out) (by exact Kd.N_base ho0) hb);have n2_:=Aside0.mk (Kd.N_lower (Kd.N_mono (ok':=fun k_=>((P0_ k_∨P1_ k_)∨w.heap.size≤k_)) ho0 (fun k_ hk_=>Or.elim hk_ (fun hs_=>Or.elim hs_ (fun hs_=>hs_) (fun hs_=>hs_)) (fun hn_=>(.inr (Nat.le_trans (below_size (by repeat((with_reducible exact HB.out)))) hn_))))) (below_size (by repeat((with_reducible exact HB.out)))));have n3_:=Aside0.mk (below_step (by repeat((with_reducible exact HB.out))) hb);clear HO0;clear HO1;clear HB;have HO0:=n0_;have HO1:=n1_;have HO385:=n2_;have HB:=n3_;clear n0_ n1_ n2_ n3_;(try clear hb);(try clear ho0);obtain⟨Ao25,co25,eo25⟩:=Kd.N_slice HO385.out;subst eo25)|((with_reducible refine gate_callee (f:=74) rfl ?_);refine goesL_ (some 22) rfl rfl Try.func74 (by kernel_rfl) rfl #[.slice Ao25 t383.length co25, .slice A1 l1.length c1] rfl (by(try simp only [List.map_toArray,List.map_cons,List.map_nil]);rfl) ?_;(with_reducible refine(script_Apply.calls k _ _ t383 _ _ l1 t387 t388 _ ?side1 ?side2 ?side3 ?side4 A5.out).mono ?_);(case side1=>repeat(exact(Kd.N_reads' HO385.out).2.2));(case side2=>exact(Kd.N_reads' HO385.out).2.1);(case side3=>repeat(exact(Kd.V_reads' HO1.out).2.2));(case side4=>exact(Kd.V_reads' HO1.out).2.1);rintro e w26 ⟨v389,rfl,ho0,hb⟩;refine⟨_,rfl,?_⟩;have n0_:=Aside0.mk (Kd.V_elder' (by exact HO0.out) (Kd.R_base ho0) hb);have n1_:=Aside0.mk (Kd.V_elder' (by exact HO1.out) (Kd.R_base ho0) hb);have n2_:=Aside0.mk (Kd.N_elder' (by exact HO385.out) (Kd.R_base ho0) hb);have n3_:=Aside0.mk (Kd.R_lower (Kd.R_newM (M:=fun k_=>(w.heap.size≤k_)) ho0 (below_size (by repeat((with_reducible exact HB.out)))) (fun k_ h_=>h_)) (below_size (by repeat((with_reducible exact HB.out)))));have n4_:=Aside0.mk (below_step (by repeat((with_reducible exact HB.out))) hb);clear HO0;clear HO1;clear HO385;clear HB;have HO0:=n0_;have HO1:=n1_;have HO385:=n2_;have HO390:=n3_;have HB:=n4_;clear n0_ n1_ n2_ n3_ n4_;(try clear hb);(try clear ho0)))
   go_ret3
   exact⟨_,_,by rfl,by exact Kd.N_nil _ _ _ _ _,by exact Kd.R_nil _ _ _ _ _,by repeat((with_reducible exact HB.out))⟩
 ·rw [if_neg c4] at H
  have c4b0:(t386==0)=false:=beq_eq_false_iff_ne.mpr c4
  have c4b1:(t386 != 0)=true:=bne_iff_ne.mpr c4
  simp only [Option.some.injEq,Prod.mk.injEq] at H
  obtain⟨rfl,rfl,rfl⟩:=H
  go_enter Try.func57,Try.ntmps57
  go_wp2_with(((with_reducible refine gate_callee (f:=25) rfl ?_);refine goesL_ (some 13) rfl rfl Try.func25 (by kernel_rfl) rfl #[.slice A0 l0.length c0, .slice A1 l1.length c1] rfl (by(try simp only [List.map_toArray,List.map_cons,List.map_nil]);rfl) ?_;(with_reducible refine(hunk_Whole.calls k (fun k_=>((P0_ k_∨P1_ k_)∨w.heap.size≤k_)) _ _ l0 (fun k_=>((P0_ k_∨P1_ k_)∨w.heap.size≤k_)) _ _ l1 t383 t386 _ ?side1 ?side2 A3.out).mono ?_);(case side1=>exact HO0.out);(case side2=>exact HO1.out);rintro e w27 ⟨v384,rfl,ho0,hb⟩;refine⟨_,rfl,?_⟩;have n0_:=Aside0.mk (Kd.V_elder' (by exact HO0.out) (by exact Kd.N_base ho0) hb);have n1_:=Aside0.mk (Kd.V_elder' (by exact HO1.out) (by exact Kd.N_base ho0) hb);have n2_:=Aside0.mk (Kd.N_lower (Kd.N_mono (ok':=fun k_=>((P0_ k_∨P1_ k_)∨w.heap.size≤k_)) ho0 (fun k_ hk_=>Or.elim hk_ (fun hs_=>Or.elim hs_ (fun hs_=>hs_) (fun hs_=>hs_)) (fun hn_=>(.inr (Nat.le_trans (below_size (by repeat((with_reducible exact HB.out)))) hn_))))) (below_size (by repeat((with_reducible exact HB.out)))));have n3_:=Aside0.mk (below_step (by repeat((with_reducible exact HB.out))) hb);clear HO0;clear HO1;clear HB;have HO0:=n0_;have HO1:=n1_;have HO385:=n2_;have HB:=n3_;clear n0_ n1_ n2_ n3_;(try clear hb);(try clear ho0)))
  go_ret3
  exact⟨_,_,by rfl,by exact Kd.N_nil _ _ _ _ _,by exact Kd.R_nil _ _ _ _ _,by repeat((with_reducible exact HB.out))⟩
end Go.Proofs.Ytfnbodjmmkjlcaa.H
end
section
namespace Go.Proofs.Ytfnbodjmmkjlcaa.H
open Go.RowKit Go.Proofs.YtfnbodjmmkjlcaaW.PrintWords Go.Proofs.YtfnbodjmmkjlcaaW.PrintLast Go.Proofs.YtfnbodjmmkjlcaaW.PrintMore
attribute [local go_sem] max2_int min2_int max_two min_two max_three min_three max_four min_four
set_option linter.unusedVariables false
set_option linter.unusedSimpArgs false
def patch_walk.one {σ:Type} (step:σ→Int→Nat→Nat→σ) (d:Int):Nat→σ×Nat×Nat→σ×Nat×Nat
 | 0,q=>q
 | m+1,q=>patch_walk.one step d m (step q.1 d q.2.1 q.2.2,if d=3 then q.2.1 else q.2.1+1,if d=2 then q.2.2 else q.2.2+1)
def patch_walk.all {σ:Type} (step:σ→Int→Nat→Nat→σ):List S47→σ×Nat×Nat→σ×Nat×Nat
 | [],q=>q
 | x::t,q=>patch_walk.all step t (patch_walk.one step x.f0 x.f1.length q)
def patch_walk.lines (s:List S47):Nat:=(s.map (fun e=>e.f1.length)).sum
theorem patch_walk.drop_cons (s:List S47) (i:Nat) (h:i<s.length):s.drop i=s.getD i z47::s.drop (i+1):=by
 rw [List.drop_eq_getElem_cons h,List.getD_eq_getElem?_getD,List.getElem?_eq_getElem h]
 rfl
set_option maxHeartbeats 8000000 in
set_option maxRecDepth 100000 in
theorem patch_walk.callsA {σ:Type} (step:σ→Int→Nat→Nat→σ) (v:Value) (P:World→σ→Prop) (sz:σ→Nat) (A:Option Addr) (cs:Nat) (s:List S47) (x:σ) (w:World)
  (hC: ∀w x,P w x→Kd.C k47 w A s.length s) (hcs:s.length≤cs) (hlen:s.length≤1000000) (hlines:patch_walk.lines s≤1000000) (hP:P w x) (hsz:sz x=0)
  (hal: ∀w x o,P w x→P (w.alloc o) x) (hss: ∀x d i j,sz (step x d i j)≤sz x+1)
  (hcl: ∀(w:World) (x:σ) (d:Int) (i j:Nat),P w x→sz x≤i+j→i≤1000000→j≤1000000→Calls Try.prog 59 #[.int .i64 d, .int .i64 (i:Int), .int .i64 (j:Int),v] w fun e w'=>e= .returned (.tuple #[])∧P w' (step x d i j)∧ ∀(k:Nat) (c:Array Value),w.heap[k]? =some (Obj.cells c 47 (0,0))→w'.heap[k]? =some (Obj.cells c 47 (0,0))):
  Calls Try.prog 58 #[.slice A s.length cs, .func (.func 59) #[] #[v]] w fun e w'=>e= .returned (.tuple #[])∧P w' (patch_walk.all step s (x,0,0)).1:=by
 have HC:=Aside0.mk hC
 have HAL:=Aside0.mk hal
 have HSS:=Aside0.mk hss
 have HCL:=Aside0.mk hcl
 have HP:=Aside0.mk hP
 have HSZ:=Aside0.mk hsz
 have HLN:=Aside0.mk hlines
 clear hC hal hss hcl hP hsz hlines
 go_enter Try.func58,Try.ntmps58
 go_wp2
 go_loopw [4,5,10] (fun vi vj vk wr=> ∃(k i j:Nat) (y:σ),k≤s.length∧vk= .int .i64 (k:Int)∧vi= .int .i64 (i:Int)∧vj= .int .i64 (j:Int)∧P wr y∧sz y≤i+j∧i+patch_walk.lines (s.drop k)≤1000000∧j+patch_walk.lines (s.drop k)≤1000000∧patch_walk.all step (s.drop k) (y,i,j)=patch_walk.all step s (x,0,0)) (fun _ _ vk _=>s.length-(intOf vk).toNat)
 case atStart=>exact⟨0,0,0,x,Nat.zero_le _,rfl,rfl,rfl,HP.out,by rw [HSZ.out];exact Nat.zero_le _,by simpa using HLN.out,by simpa using HLN.out,by simp⟩
 case round=>
  obtain⟨k,i,j,y,hk,rfl,rfl,rfl,hPy,hsy,hi,hj,hall⟩:=hrel
  by_cases hlt:k<s.length
  ·rw [patch_walk.drop_cons s k hlt] at hi hj hall
   have hlt2:((k:Int)<(s.length:Int))=True:=eq_true (by omega)
   have hlt3:decide ((k:Int)<(s.length:Int))=true:=decide_eq_true (by omega)
   have hk0:(0≤(k:Int))=True:=eq_true (by omega)
   have HWk:Aside0 (wrap64 ((k:Int)+1)=((k+1:Nat):Int)):=⟨by unfold wrap64;omega⟩
   obtain⟨ad,A1,c1,hA,hx0,hx1,hl1,hC1⟩:=at_T47 (HC.out wr y hPy) (k:Int) (by omega) (by omega)
   subst hA
   have hrd:rd_T47 s (k:Int)=s.getD k z47:=by simp [rd_T47]
   rw [hrd] at hx0 hx1
   rw [Int.toNat_natCast] at hx0 hx1
   clear hrd hl1 hC1
   generalize s.getD k z47=z at hi hj hall hx0 hx1
   have hbox:=World.alloc_heap_new wr (.cells #[.int .i64 z.f0, .slice A1 z.f1.length c1] 47 (0,0))
   have HPY:=Aside0.mk (HAL.out wr y (.cells #[.int .i64 z.f0, .slice A1 z.f1.length c1] 47 (0,0)) hPy)
   have HBOX:=Aside0.mk hbox
   have HALL:=Aside0.mk hall
   have HSY:=Aside0.mk hsy
   have HI:=Aside0.mk hi
   have HJ:=Aside0.mk hj
   have hz1:=(blk_cell hbox 1).trans rfl
   clear hPy hbox hall hsy hi hj
   go_wp2
   obtain⟨wo,rfl⟩: ∃wo:World,wo=wr:=⟨_,rfl⟩
   clear hx0 hx1 hz1
   go_loopw [4,5,17] (fun vi vj vm wr=> ∃(m i' j':Nat) (y':σ),m≤z.f1.length∧vm= .int .i64 (m:Int)∧vi= .int .i64 (i':Int)∧vj= .int .i64 (j':Int)∧P wr y'∧sz y'≤i'+j'∧wr.heap[wo.heap.size]? =some (Obj.cells #[.int .i64 z.f0, .slice A1 z.f1.length c1] 47 (0,0))∧i'+(z.f1.length-m)≤i+z.f1.length∧j'+(z.f1.length-m)≤j+z.f1.length∧patch_walk.one step z.f0 (z.f1.length-m) (y',i',j')=patch_walk.one step z.f0 z.f1.length (y,i,j)) (fun _ _ vm _=>z.f1.length-(intOf vm).toNat)
   case atStart=>exact⟨0,i,j,y,Nat.zero_le _,rfl,rfl,rfl,HPY.out,HSY.out,HBOX.out,by omega,by omega,rfl⟩
   case round=>
    obtain⟨m,i',j',y',hm,rfl,rfl,rfl,hPz,hsz,hbx,hi',hj',hone⟩:=hrel
    have hit:i+z.f1.length≤1000000:=by
     have:=HI.out
     simp only [patch_walk.lines,List.map_cons,List.sum_cons] at this
     omega
    have hjt:j+z.f1.length≤1000000:=by
     have:=HJ.out
     simp only [patch_walk.lines,List.map_cons,List.sum_cons] at this
     omega
    by_cases hmt:m<z.f1.length
    ·obtain⟨e,he⟩: ∃e,z.f1.length-m=e+1:=⟨z.f1.length-m-1,by omega⟩
     have hmt2:((m:Int)<(z.f1.length:Int))=True:=eq_true (by omega)
     have hmt3:decide ((m:Int)<(z.f1.length:Int))=true:=decide_eq_true (by omega)
     have HWm:Aside0 (wrap64 ((m:Int)+1)=((m+1:Nat):Int)):=⟨by unfold wrap64;omega⟩
     have HWi:Aside0 (wrap64 ((i':Int)+1)=((i'+1:Nat):Int)):=⟨by unfold wrap64;omega⟩
     have HWj:Aside0 (wrap64 ((j':Int)+1)=((j'+1:Nat):Int)):=⟨by unfold wrap64;omega⟩
     have hb0:=(blk_cell hbx 0).trans rfl
     have HBX:=Aside0.mk hbx
     have HONE:=Aside0.mk (by rw [he] at hone;exact hone)
     have HPZ:=Aside0.mk hPz
     have HSZ':=Aside0.mk hsz
     have hi6:i'≤1000000:=by omega
     have hj6:j'≤1000000:=by omega
     have HE:=Aside0.mk he
     have HM:=Aside0.mk (show i'+(e+1)≤i+z.f1.length∧j'+(e+1)≤j+z.f1.length by omega)
     clear hbx hone hPz hsz he hi' hj' hm
     by_cases h3:z.f0=3
     ·have hb3:(z.f0 != 3)=false:=by simp [h3]
      have hb2:(z.f0 != 2)=true:=by simp [h3]
      have H3:=Aside0.mk h3
      clear h3
      go_wp2_with(go_at_call 59;(with_reducible refine(HCL.out _ y' _ i' j' HPZ.out HSZ'.out hi6 hj6).mono ?_);rintro e_ w4 ⟨rfl,hp4,hk4⟩;have HP4:=Aside0.mk hp4;have HB4:=Aside0.mk (hk4 _ _ HBX.out);have hc0:=(blk_cell HB4.out 0).trans rfl;clear hp4 hk4)
      go_roundw
      case rel=>exact⟨m+1,i',j'+1,_,by omega,by rfl,rfl,by rfl,HP4.out,Nat.le_trans (HSS.out _ _ _ _) (by have:=HSZ'.out;omega),HB4.out,by have:=HM.out;have:=HE.out;omega,by have:=HM.out;have:=HE.out;omega,by rw [← HONE.out];simp [patch_walk.one,HE.out,H3.out,show z.f1.length-(m+1)=e by have:=HE.out;omega]⟩
      case measure=>(simp only [intOf,Int.toNat_natCast];omega)
     ·by_cases h2:z.f0=2
      ·have hb3:(z.f0 != 3)=true:=by simp [h2]
       have hb2:(z.f0 != 2)=false:=by simp [h2]
       have H3:=Aside0.mk h2
       clear h3 h2
       go_wp2_with(go_at_call 59;(with_reducible refine(HCL.out _ y' _ i' j' HPZ.out HSZ'.out hi6 hj6).mono ?_);rintro e_ w4 ⟨rfl,hp4,hk4⟩;have HP4:=Aside0.mk hp4;have HB4:=Aside0.mk (hk4 _ _ HBX.out);have hc0:=(blk_cell HB4.out 0).trans rfl;clear hp4 hk4)
       go_roundw
       case rel=>exact⟨m+1,i'+1,j',_,by omega,by rfl,by rfl,rfl,HP4.out,Nat.le_trans (HSS.out _ _ _ _) (by have:=HSZ'.out;omega),HB4.out,by have:=HM.out;have:=HE.out;omega,by have:=HM.out;have:=HE.out;omega,by rw [← HONE.out];simp [patch_walk.one,HE.out,H3.out,show z.f1.length-(m+1)=e by have:=HE.out;omega]⟩
       case measure=>(simp only [intOf,Int.toNat_natCast];omega)
      ·have hb3:(z.f0 != 3)=true:=by simp [h3]
       have hb2:(z.f0 != 2)=true:=by simp [h2]
       have H3:=Aside0.mk (And.intro h3 h2)
       clear h3 h2
       go_wp2_with(go_at_call 59;(with_reducible refine(HCL.out _ y' _ i' j' HPZ.out HSZ'.out hi6 hj6).mono ?_);rintro e_ w4 ⟨rfl,hp4,hk4⟩;have HP4:=Aside0.mk hp4;have HB4:=Aside0.mk (hk4 _ _ HBX.out);have hc0:=(blk_cell HB4.out 0).trans rfl;clear hp4 hk4)
       go_roundw
       case rel=>exact⟨m+1,i'+1,j'+1,_,by omega,by rfl,by rfl,by rfl,HP4.out,Nat.le_trans (HSS.out _ _ _ _) (by have:=HSZ'.out;omega),HB4.out,by have:=HM.out;have:=HE.out;omega,by have:=HM.out;have:=HE.out;omega,by rw [← HONE.out];simp [patch_walk.one,HE.out,H3.out,show z.f1.length-(m+1)=e by have:=HE.out;omega]⟩
       case measure=>(simp only [intOf,Int.toNat_natCast];omega)
    ·obtain rfl:m=z.f1.length:=by omega
     have hmt2:((z.f1.length:Int)<(z.f1.length:Int))=False:=eq_false (by omega)
     have hmt3:decide ((z.f1.length:Int)<(z.f1.length:Int))=false:=decide_eq_false (by omega)
     have hq:(y',i',j')=patch_walk.one step z.f0 z.f1.length (y,i,j):=by simpa [patch_walk.one] using hone
     have HQ:=Aside0.mk hq
     have HPZ:=Aside0.mk hPz
     have HSZ':=Aside0.mk hsz
     have HM:=Aside0.mk (And.intro hi' hj')
     clear hq hone hPz hsz hi' hj'
     go_wp2
     go_roundw
     case rel=>exact⟨k+1,i',j',y',by omega,by rfl,rfl,rfl,HPZ.out,HSZ'.out,by have:=HI.out;have:=HM.out;simp only [patch_walk.lines,List.map_cons,List.sum_cons] at this ⊢;simp only [patch_walk.lines,List.map_cons,List.sum_cons] at*;omega,by have:=HJ.out;have:=HM.out;simp only [patch_walk.lines,List.map_cons,List.sum_cons] at*;omega,by rw [HQ.out];exact HALL.out⟩
     case measure=>
      simp only [intOf,Int.toNat_natCast]
      omega
  ·obtain rfl:k=s.length:=by omega
   have hlt2:((s.length:Int)<(s.length:Int))=False:=eq_false (by omega)
   have hlt3:decide ((s.length:Int)<(s.length:Int))=false:=decide_eq_false (by omega)
   rw [List.drop_length] at hall
   have hq:y=(patch_walk.all step s (x,0,0)).1:=by rw [← hall];rfl
   have HQ:=Aside0.mk hq
   have HPY:=Aside0.mk hPy
   clear hq hall hPy hsy hi hj
   go_wp2
   go_end0
   exact⟨rfl,HQ.out▸HPY.out⟩
end Go.Proofs.Ytfnbodjmmkjlcaa.H
end
section
namespace Go.Proofs.Ytfnbodjmmkjlcaa.H
open Go.RowKit Go.Proofs.YtfnbodjmmkjlcaaW.PrintWords Go.Proofs.YtfnbodjmmkjlcaaW.PrintLast Go.Proofs.YtfnbodjmmkjlcaaW.PrintMore
attribute [local go_sem] max2_int min2_int max_two min_two max_three min_three max_four min_four
set_option linter.unusedVariables false
set_option linter.unusedSimpArgs false
def patch_Apply.step (xs:List S64) (d:Int) (i j:Nat):List S64:=if d=1 then xs++ [⟨(i:Int),(j:Int)⟩] else xs
set_option maxRecDepth 100000 in
set_option maxHeartbeats 4000000 in
theorem patch_Apply.one (base gb:Nat) (w0:World) (xs:List S64) (v:Value) (d:Int) (i j:Nat) (w:World)
  (hb:w.heap[gb]? =some (Obj.cells #[v] 50 (0,0))) (hv:Kd.R k64 64 w base (fun _=>True) v xs) (hB:Below base w0 w) (hgb:base≤gb) (hl:xs.length≤2000000) (vs:Value) (s:List S47) (hN:Kd.N k47 47 w base (fun k=>some k≠v.ownBlock∧k≠gb) vs s) (vb:Value) (bs:List S66) (hR:Kd.R k66 66 w base (fun _=>True) vb bs):
  Calls Try.prog 59 #[.int .i64 d, .int .i64 (i:Int), .int .i64 (j:Int), .pointer (some ⟨gb,0,none⟩)] w fun e w'=>e= .returned (.tuple #[])∧((∃v',w'.heap[gb]? =some (Obj.cells #[v'] 50 (0,0))∧Kd.R k64 64 w' base (fun _=>True) v' (patch_Apply.step xs d i j)∧Kd.N k47 47 w' base (fun k=>some k≠v'.ownBlock∧k≠gb) vs s∧Kd.R k66 66 w' base (fun _=>True) vb bs)∧Below base w0 w')∧ ∀(k:Nat) (c:Array Value),w.heap[k]? =some (Obj.cells c 47 (0,0))→w'.heap[k]? =some (Obj.cells c 47 (0,0)):=by
 have hsz:base≤w.heap.size:=Nat.le_trans hgb (Nat.le_of_lt (Array.getElem?_eq_some_iff.mp hb).1)
 have hc:=(blk_cell hb 0).trans rfl
 have hf:=blk_frozen hb 0
 have HB:=Aside0.mk hB
 have HV:=Aside0.mk hv
 have BK:=Aside0.mk hb
 have HN:=Aside0.mk hN
 have HRB:=Aside0.mk hR
 clear hB hv hb hN hR
 by_cases hd:d=1
 ·have hd':(d==1)=true:=by simp [hd]
  have HD:=Aside0.mk hd
  clear hd
  go_enter Try.func59,Try.ntmps59
  go_wp2_with((with_reducible refine gate_builtin (b:= .append) (xs:= #[.tmp 9, .tmp 13]) rfl ?_);at_builtin;refine Kd.R_append k64 (w0:=w0) base rfl (.tmp 9) (.tmp 13) 50 64 (.agg #[(.int .i64 0),(.int .i64 0)]) 16 rfl Try.underlying50 info64 rfl (by decide) (by omega) v xs (⟨(i:Int),(j:Int)⟩:S64) [.int .i64 (i:Int), .int .i64 (j:Int)] (fun _=>True) (fun _=>False) rfl rfl ?aP (fun _ hk=>hk.elim) ?aF ?aO ?aB ?aS ?aL ?_;(case aP=>exact k64_mkM _ _ _ (⟨(i:Int),(j:Int)⟩:S64));(case aB=>exact HB.out);(case aF=>exact(fun _ _=>trivial));(case aO=>exact HV.out);(case aS=>exact hsz);(case aL=>omega);intro v1 w1 ho hbl hgr hat;obtain⟨Ao1,co1,eo1⟩:=Kd.R_slice ho;subst eo1;have BK1:=Aside0.mk (blk_grown (g:=gb) (o:= .cells #[v] 50 (0,0)) BK.out hgr (Kd.R_ne HV.out BK.out (by decide)));have hc1:=(blk_cell BK1.out 0).trans rfl;have hf1:=blk_frozen BK1.out 0;have HR1:=Aside0.mk (Kd.R_over' HRB.out (Kd.R_typed HV.out) (by decide) hgr);have HO1:=Aside0.mk ho;have HB1:=Aside0.mk hbl;have HG1:=Aside0.mk hgr;have HN1:=Aside0.mk (Kd.N_afterv (ok:=fun k=>k≠gb) (Kd.N_mono HN.out (fun _ hk=>⟨hk.2,hk.1⟩)) hgr hat);clear ho hbl hgr hat hc hf)
  go_end0
  refine⟨rfl,⟨⟨_,blk_put (cs:= #[v]) BK1.out 0 _ rfl,?_⟩,HB1.out.setCell hgb _⟩,fun k c hk=>blk_far (blk_grown hk HG1.out (Kd.R_ne HV.out hk (by decide))) ?_ _⟩
  ·rw [patch_Apply.step,if_pos HD.out]
   refine⟨?_,?_,?_⟩
   rotate_left
   ·have h6:=Kd.N_mono (ok':=fun k=>some k≠(Value.slice Ao1 (xs.length+1) co1).ownBlock∧k≠gb) (Kd.N_far (p:=⟨gb,0,none⟩) HN1.out (fun _ hk=>hk.1) (Value.slice Ao1 (xs.length+1) co1)) (fun _ hk=>⟨by have h7:=hk.2;simpa only [List.length_append,List.length_singleton] using h7,hk.1⟩)
    exact h6
   ·exact Kd.R_mono (ok':=fun _=>True) (Kd.R_far (p:=⟨gb,0,none⟩) (Kd.R_types HR1.out BK1.out (by decide)) (fun _ hk=>hk.2) (Value.slice Ao1 (xs.length+1) co1)) (fun _ hk=>trivial)
   have h5:=Kd.R_mono (ok':=fun _=>True) (Kd.R_far (p:=⟨gb,0,none⟩) (Kd.R_types HO1.out BK1.out (by decide)) (fun _ hk=>hk.2) (Value.slice Ao1 (xs.length+1) co1)) (fun _ hk=>trivial)
   simpa only [List.length_append,List.length_singleton] using h5
  ·rintro rfl
   have:=BK.out.symm.trans hk
   simp at this
 ·have hd':(d==1)=false:=by simp [hd]
  have HD:=Aside0.mk hd
  clear hd
  go_enter Try.func59,Try.ntmps59
  go_wp2
  go_end0
  exact⟨rfl,⟨⟨v,BK.out,by rw [patch_Apply.step,if_neg HD.out];exact HV.out,HN.out,HRB.out⟩,HB.out⟩,fun _ _ h=>h⟩
def patch_Apply.f (k:Nat) (l0:List S44) (l1:List S66):Option (List S66×List S64×Int):=(patch_whole.f k l0 l1).bind fun t=>if patch_walk.lines t.1≤1000000∧t.1.length≤1000000 then some (t.2.1,(patch_walk.all patch_Apply.step t.1 ([],0,0)).1,t.2.2) else none
theorem patch_Apply.mono (k:Nat) (l0:List S44) (l1:List S66):LeO (patch_Apply.f k l0 l1) (patch_Apply.f (k+1) l0 l1):=by
 unfold patch_Apply.f
 exact LeO.bind (patch_whole.mono _ _ _) (fun _=>LeO.refl _)
set_option maxRecDepth 100000 in
set_option maxHeartbeats 4000000 in
theorem patch_Apply.calls (k:Nat) (A0:Option Addr) (c0:Nat) (l0:List S44) (A1:Option Addr) (c1:Nat) (l1:List S66) (r1:List S66) (r2:List S64) (r3:Int) (w:World) (hr0:Kd.C k44 w A0 l0.length l0) (hc0:l0.length≤c0) (hr1:Kd.C k66 w A1 l1.length l1) (hc1:l1.length≤c1) (h:patch_Apply.f k l0 l1=some (r1,r2,r3)):
  Calls Try.prog 28 #[.slice A0 l0.length c0, .slice A1 l1.length c1] w fun e w'=> ∃v0_ v1_:Value,e= .returned (.tuple #[v0_,v1_, .int .i64 r3])∧Kd.R k66 66 w' w.heap.size (fun _=>True) v0_ r1∧Kd.R k64 64 w' w.heap.size (fun _=>True) v1_ r2∧Below w.heap.size w w':=by
 unfold patch_Apply.f at h
 obtain⟨⟨s,b,e⟩,hw,h⟩:=Option.bind_eq_some_iff.mp h
 dsimp only at h
 by_cases hl:patch_walk.lines s≤1000000∧s.length≤1000000
 ·rw [if_pos hl] at h
  cases h
  have HW:=Aside0.mk hw
  have HR0:=Aside0.mk hr0
  have HR1:=Aside0.mk hr1
  have HC0:=Aside0.mk hc0
  have HC1:=Aside0.mk hc1
  have HL:=Aside0.mk hl
  clear hw hr0 hr1 hc0 hc1 hl
  have HCL:=Aside0.mk (patch_whole.calls k (fun _=>True) A0 c0 l0 (fun _=>True) A1 c1 l1 s r1 r3 w (Kd.V_mk HC0.out (fun W' hW=>k44_heap.C (fun q hq=>hW q trivial hq) HR0.out)) (Kd.V_mk HC1.out (fun W' hW=>k66_heap.C (fun q hq=>hW q trivial hq) HR1.out)) HW.out)
  have hmf: ∀(fn:Fn) (first cap:Array Value) (w:World),(Instr.makeFunc fn first cap).run Try.prog w= .ok (.func fn first cap) w:=fun _ _ _ _=>rfl
  go_enter Try.func28,Try.ntmps28
  go_wp2_with(go_at_call 57;(refine HCL.out.mono ?_);rintro e_ w1 ⟨v0,v1,rfl,hN,hRb,hB1⟩;obtain⟨As,cs,eN⟩:=Kd.N_slice hN;subst eN;have HN:=Aside0.mk (Kd.N_mono (ok':=fun _=>True) hN (fun _ _=>trivial));have HRb:=Aside0.mk (Kd.R_mono (ok':=fun _=>True) hRb (fun _ _=>trivial));have HB:=Aside0.mk hB1;clear hN hRb hB1)
  have hgb:w.heap.size≤w1.heap.size:=HB.out.size
  have hnew:=World.alloc_heap_new w1 (.cells #[.slice none 0 0] 50 (0,0))
  have HP0:Aside0 ((∃v',(w1.alloc (.cells #[.slice none 0 0] 50 (0,0))).heap[w1.heap.size]? =some (Obj.cells #[v'] 50 (0,0))∧Kd.R k64 64 (w1.alloc (.cells #[.slice none 0 0] 50 (0,0))) w.heap.size (fun _=>True) v' []∧Kd.N k47 47 (w1.alloc (.cells #[.slice none 0 0] 50 (0,0))) w.heap.size (fun k=>some k≠v'.ownBlock∧k≠w1.heap.size) (.slice As s.length cs) s∧Kd.R k66 66 (w1.alloc (.cells #[.slice none 0 0] 50 (0,0))) w.heap.size (fun _=>True) v1 r1)∧Below w.heap.size w (w1.alloc (.cells #[.slice none 0 0] 50 (0,0)))):=⟨⟨_,hnew,Kd.R_nil _ _ _ _ _,Kd.N_alloc (Kd.N_mono (Kd.N_elderB HN.out w1.heap.size (Nat.le_refl _)) (fun k hk=>⟨by simp [Value.ownBlock],hk.2⟩)) _,Kd.R_alloc HRb.out _⟩,HB.out.alloc hgb _⟩
  clear hnew
  go_wp2_with(go_at_call 58;refine(patch_walk.callsA patch_Apply.step (.pointer (some ⟨w1.heap.size,0,none⟩)) (fun W x=>(∃v',W.heap[w1.heap.size]? =some (Obj.cells #[v'] 50 (0,0))∧Kd.R k64 64 W w.heap.size (fun _=>True) v' x∧Kd.N k47 47 W w.heap.size (fun k=>some k≠v'.ownBlock∧k≠w1.heap.size) (.slice As s.length cs) s∧Kd.R k66 66 W w.heap.size (fun _=>True) v1 r1)∧Below w.heap.size w W) List.length As cs s [] _ ?aC ?aS HL.out.2 HL.out.1 HP0.out rfl ?aL ?aZ ?aK).mono ?_;(case aC=>exact(fun W x h=>(Kd.N_reads' h.1.choose_spec.2.2.1).2.2));(case aS=>exact(Kd.N_reads' HN.out).2.1);(case aL=>exact(fun W x o h=>⟨⟨_,blk_alloc h.1.choose_spec.1 _,Kd.R_alloc h.1.choose_spec.2.1 _,Kd.N_alloc h.1.choose_spec.2.2.1 _,Kd.R_alloc h.1.choose_spec.2.2.2 _⟩,h.2.alloc h.2.size _⟩));(case aZ=>exact(fun x d i j=>by unfold patch_Apply.step;split<;>simp));(case aK=>exact(fun W x d i j h hs hi hj=>(patch_Apply.one w.heap.size w1.heap.size w x _ d i j W h.1.choose_spec.1 h.1.choose_spec.2.1 h.2 hgb (by omega) _ _ h.1.choose_spec.2.2.1 _ _ h.1.choose_spec.2.2.2).mono (fun _ _ hq=>hq)));rintro e_ w2 ⟨rfl,⟨vr,hbk,hR,hN2,hRl⟩,hB2⟩;have HRr:=Aside0.mk hR;have HRl:=Aside0.mk hRl;have HB2:=Aside0.mk hB2;have hbk:=blk_drew hbk;clear hR hN2 hB2 hRl)
  refine start_ (n:=6) (S:=fun w'=>w'.cell? ⟨w1.heap.size,0,none⟩=some vr) (ds:= []) (Sq.bl 6 0) (by kernel_rfl) rfl (by rfl) ((blk_cell hbk 0).trans rfl) (fun hS=>?_)
  refine Sq.pu (v:=?_) (a':=?_) 0 21 (Sq.bl 6 1) (by kernel_rfl) rfl rfl (fun _ _ _ h=>h) (by rfl) ?_ ?_ ?_;rotate_left;(· intro w';go_simp;with_reducible rfl);rotate_left;(· simp only [Act.put,zp1,zp2,zp3,zp4,zp5];rfl)
  refine Sq.pu (v:=?_) (a':=?_) 2 23 (Sq.bl 6 5) (by kernel_rfl) rfl rfl (fun _ _ _ h=>h) (by rfl) ?_ ?_ ?_;rotate_left;(· intro w';go_simp;with_reducible rfl);rotate_left;(· simp only [Act.put,zp1,zp2,zp3,zp4,zp5];rfl)
  refine Sq.pu (v:=?_) (a':=?_) 3 4 (Sq.bl 6 13) (by kernel_rfl) rfl rfl (fun _ _ _ h=>h) (by rfl) ?_ ?_ ?_;rotate_left;(· intro w';go_simp;with_reducible rfl);rotate_left;(· simp only [Act.put,zp1,zp2,zp3,zp4,zp5];rfl)
  refine take_ (i:=1) (N:=some 22) (v:=?_) (a':=?_) (Sq.bl 6 15) rfl rfl (by kernel_rfl) (fun _ _ _ h=>h) (Or.inl ⟨by rfl,?_⟩) hS ?_ ?_;rotate_left;(· rintro w' s0;go_simp;with_reducible rfl);rotate_left;(· simp only [Act.put,zp1,zp2,zp3,zp4,zp5];rfl)
  refine Sq.pu (v:=?_) (a':=?_) 4 5 (Sq.bl 6 31) (by kernel_rfl) rfl rfl (fun _ _ _ h=>h) (by rfl) ?_ ?_ ?_;rotate_left;(· intro w';go_simp;with_reducible rfl);rotate_left;(· simp only [Act.put,zp1,zp2,zp3,zp4,zp5];rfl)
  refine Sq.pu (v:=?_) (a':=?_) 5 6 (Sq.bl 6 63) (by kernel_rfl) rfl rfl (fun _ _ _ h=>h) (by rfl) ?_ ?_ ?_;rotate_left;(· intro w';go_simp;with_reducible rfl);rotate_left;(· simp only [Act.put,zp1,zp2,zp3,zp4,zp5];rfl)
  refine done_ (by kernel_rfl) ?_
  go_wp2
  go_ret3
  exact⟨_,_,rfl,Kd.R_drew HRl.out,Kd.R_drew HRr.out,HB2.out.drew⟩
 ·rw [if_neg hl] at h
  cases h
end Go.Proofs.Ytfnbodjmmkjlcaa.H
end
section
namespace Go.Proofs.Ytfnbodjmmkjlcaa.H
open Go.RowKit Go.Proofs.YtfnbodjmmkjlcaaW.PrintWords Go.Proofs.YtfnbodjmmkjlcaaW.PrintLast Go.Proofs.YtfnbodjmmkjlcaaW.PrintMore
attribute [local go_sem] max2_int min2_int max_two min_two max_three min_three max_four min_four
set_option linter.unusedVariables false
set_option linter.unusedSimpArgs false
mutual
def jalousieref01_Right.l0:Nat→List (S66)→Int→Option (Bool)
 | 0,_,_=>none
 | k+1,x0,x3=>if x3<(x0.length:Int) then (jalousieref01_Right.l1 k x0 x3 0) else (some true)
def jalousieref01_Right.l1:Nat→List (S66)→Int→Int→Option (Bool)
 | 0,_,_,_=>none
 | k+1,x0,x3,x4=>if 0≤x3 then (if x3<(x0.length:Int) then (if x4<(((rd_T66 x0 x3).f0).size:Int) then (if 0≤x4 then (if (bt ((rd_T66 x0 x3).f0) x4)=10 then (some false) else (jalousieref01_Right.l1 k x0 x3 (wrap64 (x4+1)))) else (none)) else (if (rd_T66 x0 x3).f1=true then (if (wrap64 (x3+1))<(x0.length:Int) then (some false) else (if (((rd_T66 x0 x3).f0).size:Int)=0 then (some false) else (jalousieref01_Right.l0 k x0 (wrap64 (x3+1))))) else (jalousieref01_Right.l0 k x0 (wrap64 (x3+1))))) else (none)) else (none)
end
def jalousieref01_Right.f (k:Nat) (l0:List (S66)):Option (Bool):=jalousieref01_Right.l0 k l0 0
set_option maxHeartbeats 8000000 in
set_option maxRecDepth 100000 in
theorem jalousieref01_Right.calls (k:Nat) (A0:Option Addr) (c0:Nat) (l0:List (S66)) (r:Bool) (w:World) (hr0:Kd.C k66 w A0 l0.length l0) (hc0:l0.length≤c0) (h:jalousieref01_Right.f k l0=some r):
  Calls Try.prog 37 #[.slice A0 l0.length c0] w fun e w'=>e= .returned (.bool r)∧Drawn0 w w':=by
 have HR0:=Aside0.mk hr0
 have HC0:=Aside0.mk hc0
 clear hr0 hc0
 have H:(jalousieref01_Right.l0 k l0 0)=some r:=h
 clear h
 have H':=Aside0.mk H
 clear H
 go_enter Try.func37,Try.ntmps37
 go_wp2
 go_loopg [3] k (fun kq v3 w'=> ∃(x3_1:Int),v3= .int .i64 x3_1∧Aside0 (jalousieref01_Right.l0 kq l0 x3_1=some r)∧Aside0 (kq≤k)∧Drawn0 w w')
 case atStart=>exact⟨(0),(by rfl),H',⟨Nat.le_refl _⟩,by repeat(exact Drawn0.refl _)⟩
 case round=>
  clear H'
  obtain⟨x3_1,rfl,HA,HK1,⟨m1,rfl⟩⟩:=hrel
  cases gk with
  | zero=>exact absurd HA.out (by simp [jalousieref01_Right.l0])
  | succ k1=>
   have H:=HA.out
   clear HA
   simp only [jalousieref01_Right.l0] at H
   by_cases c2:x3_1<(l0.length:Int)
   ·rw [if_pos c2] at H
    have c2b0:decide (x3_1<(l0.length:Int))=true:=decide_eq_true c2
    clear c2
    have H':=Aside0.mk H
    clear H
    go_wp2
    go_loopg [4] k1 (fun kq v4 w'=> ∃(x4_2:Int),v4= .int .i64 x4_2∧Aside0 (jalousieref01_Right.l1 kq l0 x3_1 x4_2=some r)∧Aside0 (kq≤k1)∧Drawn0 w w')
    case atStart=>exact⟨(0),(by rfl),H',⟨Nat.le_refl _⟩,by repeat(first|exact Drawn0.refl _|apply Drawn0.step)⟩
    case round=>
     clear H'
     try clear c2b0
     obtain⟨x4_2,rfl,HA,HK2,⟨m2,rfl⟩⟩:=hrel
     cases gk with
     | zero=>exact absurd HA.out (by simp [jalousieref01_Right.l1])
     | succ k2=>
      have H:=HA.out
      clear HA
      simp only [jalousieref01_Right.l1] at H
      by_cases c3:0≤x3_1
      ·rw [if_pos c3] at H
       have c3b0:decide (0≤x3_1)=true:=decide_eq_true c3
       clear c3
       by_cases c4:x3_1<(l0.length:Int)
       ·rw [if_pos c4] at H
        have c4b0:decide (x3_1<(l0.length:Int))=true:=decide_eq_true c4
        clear c4
        by_cases c5:x4_2<(((rd_T66 l0 x3_1).f0).size:Int)
        ·rw [if_pos c5] at H
         have c5b0:decide (x4_2<(((rd_T66 l0 x3_1).f0).size:Int))=true:=decide_eq_true c5
         clear c5
         by_cases c6:0≤x4_2
         ·rw [if_pos c6] at H
          have c6b0:decide (0≤x4_2)=true:=decide_eq_true c6
          clear c6
          by_cases c8:(bt ((rd_T66 l0 x3_1).f0) x4_2)=10
          ·rw [if_pos c8] at H
           have c8b0:((bt ((rd_T66 l0 x3_1).f0) x4_2)==10)=true:=beq_iff_eq.mpr c8
           have c8b1:((bt ((rd_T66 l0 x3_1).f0) x4_2) != 10)=false:=bne_eq_false_iff_eq.mpr c8
           clear c8
           obtain rfl:=Option.some.inj H
           have p392:0≤(x3_1:Int):=of_decide_eq_true (by(with_reducible assumption))
           have q392:x3_1<(l0.length:Int):=of_decide_eq_true (by(with_reducible assumption))
           obtain⟨ad392,e392,hx392_0,hx392_1⟩:=at_T66 HR0.out x3_1 p392 q392
           cases e392
           replace p392:=eq_true p392
           replace q392:=eq_true q392
           have p393:0≤(x3_1:Int):=of_decide_eq_true (by(with_reducible assumption))
           have q393:x3_1<(l0.length:Int):=of_decide_eq_true (by(with_reducible assumption))
           obtain⟨ad393,e393,hx393_0,hx393_1⟩:=at_T66 HR0.out x3_1 p393 q393
           obtain rfl:ad392=ad393:=(by injection e393)
           replace p393:=eq_true p393
           replace q393:=eq_true q393
           have p7:0≤(x4_2:Int):=of_decide_eq_true (by(with_reducible assumption))
           have q7:x4_2<(((rd_T66 l0 x3_1).f0).size:Int):=of_decide_eq_true (by(with_reducible assumption))
           have hx7:=bt_at ((rd_T66 l0 x3_1).f0) x4_2
           replace p7:=eq_true p7
           replace q7:=eq_true q7
           go_wp2
           go_ret
           exact⟨by rfl,by repeat(first|exact Drawn0.refl _|apply Drawn0.step)⟩
          ·rw [if_neg c8] at H
           have c8b0:((bt ((rd_T66 l0 x3_1).f0) x4_2)==10)=false:=beq_eq_false_iff_ne.mpr c8
           have c8b1:((bt ((rd_T66 l0 x3_1).f0) x4_2) != 10)=true:=bne_iff_ne.mpr c8
           have H':=Aside0.mk H
           clear H
           have p392:0≤(x3_1:Int):=of_decide_eq_true (by(with_reducible assumption))
           have q392:x3_1<(l0.length:Int):=of_decide_eq_true (by(with_reducible assumption))
           obtain⟨ad392,e392,hx392_0,hx392_1⟩:=at_T66 HR0.out x3_1 p392 q392
           cases e392
           replace p392:=eq_true p392
           replace q392:=eq_true q392
           have p393:0≤(x3_1:Int):=of_decide_eq_true (by(with_reducible assumption))
           have q393:x3_1<(l0.length:Int):=of_decide_eq_true (by(with_reducible assumption))
           obtain⟨ad393,e393,hx393_0,hx393_1⟩:=at_T66 HR0.out x3_1 p393 q393
           obtain rfl:ad392=ad393:=(by injection e393)
           replace p393:=eq_true p393
           replace q393:=eq_true q393
           have p7:0≤(x4_2:Int):=of_decide_eq_true (by(with_reducible assumption))
           have q7:x4_2<(((rd_T66 l0 x3_1).f0).size:Int):=of_decide_eq_true (by(with_reducible assumption))
           have hx7:=bt_at ((rd_T66 l0 x3_1).f0) x4_2
           replace p7:=eq_true p7
           replace q7:=eq_true q7
           go_wp2
           go_roundg k2
           case measure=>have:=HK1.out;have:=HK2.out;omega
           case rel=>exact⟨(wrap64 (x4_2+1)),(by rfl),H',⟨by have:=HK1.out;have:=HK2.out;omega⟩,by repeat(first|exact Drawn0.refl _|apply Drawn0.step)⟩
         ·rw [if_neg c6] at H
          exact absurd H (by simp)
        ·rw [if_neg c5] at H
         have c5b0:decide (x4_2<(((rd_T66 l0 x3_1).f0).size:Int))=false:=decide_eq_false c5
         clear c5
         obtain⟨bq9,hbq9⟩: ∃b_:Bool,b_=((rd_T66 l0 x3_1).f1):=⟨_,rfl⟩
         replace H:(if bq9=true then (if (wrap64 (x3_1+1))<(l0.length:Int) then (some false) else (if (((rd_T66 l0 x3_1).f0).size:Int)=0 then (some false) else (jalousieref01_Right.l0 k2 l0 (wrap64 (x3_1+1))))) else (jalousieref01_Right.l0 k2 l0 (wrap64 (x3_1+1))))=some r:=by rw [← hbq9] at H;exact H
         have Nbq9:=Aside0.mk hbq9
         clear hbq9
         by_cases c10:bq9=true
         ·subst c10
          have H1:(if (wrap64 (x3_1+1))<(l0.length:Int) then (some false) else (if (((rd_T66 l0 x3_1).f0).size:Int)=0 then (some false) else (jalousieref01_Right.l0 k2 l0 (wrap64 (x3_1+1)))))=some r:=by rw [if_pos rfl] at H;exact H
          clear H
          have H:=H1
          clear H1
          by_cases c11:(wrap64 (x3_1+1))<(l0.length:Int)
          ·rw [if_pos c11] at H
           have c11b0:decide ((wrap64 (x3_1+1))<(l0.length:Int))=true:=decide_eq_true c11
           clear c11
           obtain rfl:=Option.some.inj H
           have p392:0≤(x3_1:Int):=of_decide_eq_true (by(with_reducible assumption))
           have q392:x3_1<(l0.length:Int):=of_decide_eq_true (by(with_reducible assumption))
           obtain⟨ad392,e392,hx392_0,hx392_1⟩:=at_T66 HR0.out x3_1 p392 q392
           (try rw [← Nbq9.out] at hx392_1)
           cases e392
           replace p392:=eq_true p392
           replace q392:=eq_true q392
           have p394:0≤(x3_1:Int):=of_decide_eq_true (by(with_reducible assumption))
           have q394:x3_1<(l0.length:Int):=of_decide_eq_true (by(with_reducible assumption))
           obtain⟨ad394,e394,hx394_0,hx394_1⟩:=at_T66 HR0.out x3_1 p394 q394
           (try rw [← Nbq9.out] at hx394_1)
           obtain rfl:ad392=ad394:=(by injection e394)
           replace p394:=eq_true p394
           replace q394:=eq_true q394
           go_wp2
           go_ret
           exact⟨by rfl,by repeat(first|exact Drawn0.refl _|apply Drawn0.step)⟩
          ·rw [if_neg c11] at H
           have c11b0:decide ((wrap64 (x3_1+1))<(l0.length:Int))=false:=decide_eq_false c11
           clear c11
           by_cases c12:(((rd_T66 l0 x3_1).f0).size:Int)=0
           ·rw [if_pos c12] at H
            have c12b0:((((rd_T66 l0 x3_1).f0).size:Int)==0)=true:=beq_iff_eq.mpr c12
            have c12b1:((((rd_T66 l0 x3_1).f0).size:Int) != 0)=false:=bne_eq_false_iff_eq.mpr c12
            clear c12
            obtain rfl:=Option.some.inj H
            have p392:0≤(x3_1:Int):=of_decide_eq_true (by(with_reducible assumption))
            have q392:x3_1<(l0.length:Int):=of_decide_eq_true (by(with_reducible assumption))
            obtain⟨ad392,e392,hx392_0,hx392_1⟩:=at_T66 HR0.out x3_1 p392 q392
            (try rw [← Nbq9.out] at hx392_1)
            cases e392
            replace p392:=eq_true p392
            replace q392:=eq_true q392
            have p394:0≤(x3_1:Int):=of_decide_eq_true (by(with_reducible assumption))
            have q394:x3_1<(l0.length:Int):=of_decide_eq_true (by(with_reducible assumption))
            obtain⟨ad394,e394,hx394_0,hx394_1⟩:=at_T66 HR0.out x3_1 p394 q394
            (try rw [← Nbq9.out] at hx394_1)
            obtain rfl:ad392=ad394:=(by injection e394)
            replace p394:=eq_true p394
            replace q394:=eq_true q394
            have p395:0≤(x3_1:Int):=of_decide_eq_true (by(with_reducible assumption))
            have q395:x3_1<(l0.length:Int):=of_decide_eq_true (by(with_reducible assumption))
            obtain⟨ad395,e395,hx395_0,hx395_1⟩:=at_T66 HR0.out x3_1 p395 q395
            (try rw [← Nbq9.out] at hx395_1)
            obtain rfl:ad392=ad395:=(by injection e395)
            replace p395:=eq_true p395
            replace q395:=eq_true q395
            go_wp2
            go_ret
            exact⟨by rfl,by repeat(first|exact Drawn0.refl _|apply Drawn0.step)⟩
           ·rw [if_neg c12] at H
            have c12b0:((((rd_T66 l0 x3_1).f0).size:Int)==0)=false:=beq_eq_false_iff_ne.mpr c12
            have c12b1:((((rd_T66 l0 x3_1).f0).size:Int) != 0)=true:=bne_iff_ne.mpr c12
            have H':=Aside0.mk H
            clear H
            have p392:0≤(x3_1:Int):=of_decide_eq_true (by(with_reducible assumption))
            have q392:x3_1<(l0.length:Int):=of_decide_eq_true (by(with_reducible assumption))
            obtain⟨ad392,e392,hx392_0,hx392_1⟩:=at_T66 HR0.out x3_1 p392 q392
            (try rw [← Nbq9.out] at hx392_1)
            cases e392
            replace p392:=eq_true p392
            replace q392:=eq_true q392
            have p394:0≤(x3_1:Int):=of_decide_eq_true (by(with_reducible assumption))
            have q394:x3_1<(l0.length:Int):=of_decide_eq_true (by(with_reducible assumption))
            obtain⟨ad394,e394,hx394_0,hx394_1⟩:=at_T66 HR0.out x3_1 p394 q394
            (try rw [← Nbq9.out] at hx394_1)
            obtain rfl:ad392=ad394:=(by injection e394)
            replace p394:=eq_true p394
            replace q394:=eq_true q394
            have p395:0≤(x3_1:Int):=of_decide_eq_true (by(with_reducible assumption))
            have q395:x3_1<(l0.length:Int):=of_decide_eq_true (by(with_reducible assumption))
            obtain⟨ad395,e395,hx395_0,hx395_1⟩:=at_T66 HR0.out x3_1 p395 q395
            (try rw [← Nbq9.out] at hx395_1)
            obtain rfl:ad392=ad395:=(by injection e395)
            replace p395:=eq_true p395
            replace q395:=eq_true q395
            go_wp2
            go_roundg k2
            case measure=>have:=HK1.out;have:=HK2.out;omega
            case rel=>exact⟨(wrap64 (x3_1+1)),(by rfl),H',⟨by have:=HK1.out;have:=HK2.out;omega⟩,by repeat(first|exact Drawn0.refl _|apply Drawn0.step)⟩
         ·replace c10:=Bool.eq_false_iff.mpr c10
          subst c10
          have H1:(jalousieref01_Right.l0 k2 l0 (wrap64 (x3_1+1)))=some r:=by rw [if_neg (show ¬(false=true) by decide)] at H;exact H
          clear H
          have H:=H1
          clear H1
          have H':=Aside0.mk H
          clear H
          have p392:0≤(x3_1:Int):=of_decide_eq_true (by(with_reducible assumption))
          have q392:x3_1<(l0.length:Int):=of_decide_eq_true (by(with_reducible assumption))
          obtain⟨ad392,e392,hx392_0,hx392_1⟩:=at_T66 HR0.out x3_1 p392 q392
          (try rw [← Nbq9.out] at hx392_1)
          cases e392
          replace p392:=eq_true p392
          replace q392:=eq_true q392
          have p394:0≤(x3_1:Int):=of_decide_eq_true (by(with_reducible assumption))
          have q394:x3_1<(l0.length:Int):=of_decide_eq_true (by(with_reducible assumption))
          obtain⟨ad394,e394,hx394_0,hx394_1⟩:=at_T66 HR0.out x3_1 p394 q394
          (try rw [← Nbq9.out] at hx394_1)
          obtain rfl:ad392=ad394:=(by injection e394)
          replace p394:=eq_true p394
          replace q394:=eq_true q394
          go_wp2
          go_roundg k2
          case measure=>have:=HK1.out;have:=HK2.out;omega
          case rel=>exact⟨(wrap64 (x3_1+1)),(by rfl),H',⟨by have:=HK1.out;have:=HK2.out;omega⟩,by repeat(first|exact Drawn0.refl _|apply Drawn0.step)⟩
       ·rw [if_neg c4] at H
        exact absurd H (by simp)
      ·rw [if_neg c3] at H
       exact absurd H (by simp)
   ·rw [if_neg c2] at H
    have c2b0:decide (x3_1<(l0.length:Int))=false:=decide_eq_false c2
    clear c2
    obtain rfl:=Option.some.inj H
    go_wp2
    go_ret
    exact⟨by rfl,by repeat(first|exact Drawn0.refl _|apply Drawn0.step)⟩
end Go.Proofs.Ytfnbodjmmkjlcaa.H
end
section
namespace Go.Proofs.Ytfnbodjmmkjlcaa.H
open Go.RowKit Go.Proofs.YtfnbodjmmkjlcaaW.PrintWords Go.Proofs.YtfnbodjmmkjlcaaW.PrintLast Go.Proofs.YtfnbodjmmkjlcaaW.PrintMore
attribute [local go_sem] max2_int min2_int max_two min_two max_three min_three max_four min_four
set_option linter.unusedVariables false
set_option linter.unusedSimpArgs false
theorem eqi_cons {P:Program} {d e n:Nat} {xs ys:Array Value} {i:Nat} {is:List Nat} {a b:Value} {r s:Bool} {w:World} (ha:(part e xs (i*n)).run P w= .ok a w) (hb:(part e ys (i*n)).run P w= .ok b w) (he:(Op.equalIn d e a b).run P w= .ok r w) (hr:(Op.eqItems d e n xs ys is).run P w= .ok s w):(Op.eqItems d e n xs ys (i::is)).run P w= .ok (r&&s) w:=by
  simp only [Op.eqItems,Sem.run_bind,ha,hb,he,Result.andThen_ok]
  cases r
  · simp
  · simpa using hr
theorem eqi_last {P:Program} {d e n:Nat} {xs ys:Array Value} {i:Nat} {a b:Value} {r:Bool} {w:World} (ha:(part e xs (i*n)).run P w= .ok a w) (hb:(part e ys (i*n)).run P w= .ok b w) (he:(Op.equalIn d e a b).run P w= .ok r w):(Op.eqItems d e n xs ys [i]).run P w= .ok r w:=by
  have h:=eqi_cons ha hb he (s:=true) (is:= []) (by simp [Op.eqItems])
  rwa [Bool.and_true] at h
theorem eqA64 (d:Nat) (w:World) (x0 y0 x1 y1:Int):
    (Op.equalIn (d+2) 64 (.agg #[.int .i64 x0, .int .i64 x1]) (.agg #[.int .i64 y0, .int .i64 y1])).run Try.prog w= .ok (x0==y0&&(x1==y1)) w:=by
  obtain⟨i,hi⟩:=Go.info_of_underlying (P:=Try.prog) Try.underlying3
  rw [Go.run_equalIn_array (P:=Try.prog) w (d+1) _ _ Try.underlying64 hi,show Try.prog.cellsOf 3=1 by kernel_rfl,show List.range 2= [0,1] by rfl]
  refine eqi_cons (by go_simp;rfl) (by go_simp;rfl) (by go_simp) ?_
  exact eqi_last (by go_simp;rfl) (by go_simp;rfl) (by go_simp)
end Go.Proofs.Ytfnbodjmmkjlcaa.H
end
section
namespace Go.Proofs.Ytfnbodjmmkjlcaa.H
open Go.RowKit Go.Proofs.YtfnbodjmmkjlcaaW.PrintWords Go.Proofs.YtfnbodjmmkjlcaaW.PrintLast Go.Proofs.YtfnbodjmmkjlcaaW.PrintMore
attribute [local go_sem] max2_int min2_int max_two min_two max_three min_three max_four min_four
set_option linter.unusedVariables false
set_option linter.unusedSimpArgs false
mutual
def patch_Size.l0:Nat→Int→Int→List (S44)→Int→Int→Option (Int×Int)
 | 0,_,_,_,_,_=>none
 | k+1,x4,x5,x10,x11,x12=>if x12<x11 then (if 0≤x12 then (if x12<(x10.length:Int) then (patch_Size.l1 k x4 x5 x10 x11 x12 ((rd_T44 x10 x12).f4) (((rd_T44 x10 x12).f4).length:Int) 0) else (none)) else (none)) else (some (x4,x5))
def patch_Size.l1:Nat→Int→Int→List (S44)→Int→Int→List (S47)→Int→Int→Option (Int×Int)
 | 0,_,_,_,_,_,_,_,_=>none
 | k+1,x4,x5,x10,x11,x12,x17,x18,x19=>if x19<x18 then (if 0≤x19 then (if x19<(x17.length:Int) then (if ((rd_T47 x17 x19).f0)=3 then (patch_Size.l1 k (wrap64 (x4+(((rd_T47 x17 x19).f1).length:Int))) x5 x10 x11 x12 x17 x18 (wrap64 (x19+1))) else (if ((rd_T47 x17 x19).f0)=2 then (patch_Size.l1 k x4 (wrap64 (x5+(((rd_T47 x17 x19).f1).length:Int))) x10 x11 x12 x17 x18 (wrap64 (x19+1))) else (patch_Size.l1 k x4 x5 x10 x11 x12 x17 x18 (wrap64 (x19+1))))) else (none)) else (none)) else (patch_Size.l0 k x4 x5 x10 x11 (wrap64 (x12+1)))
end
def patch_Size.f (k:Nat) (l0:List (S44)):Option (Int×Int):=patch_Size.l0 k 0 0 l0 (l0.length:Int) 0
theorem patch_Size.mono_l: ∀k,(∀y0 y1 y2 y3 y4,LeO (patch_Size.l0 k y0 y1 y2 y3 y4) (patch_Size.l0 (k+1) y0 y1 y2 y3 y4))∧(∀y0 y1 y2 y3 y4 y5 y6 y7,LeO (patch_Size.l1 k y0 y1 y2 y3 y4 y5 y6 y7) (patch_Size.l1 (k+1) y0 y1 y2 y3 y4 y5 y6 y7))
 | 0=>⟨fun _ _ _ _ _ r h=>by simp [patch_Size.l0] at h,fun _ _ _ _ _ _ _ _ r h=>by simp [patch_Size.l1] at h⟩
 | k+1=>by
  obtain⟨ih0,ih1⟩:=patch_Size.mono_l k
  refine⟨?_,?_⟩
  ·intro y0 y1 y2 y3 y4
   unfold patch_Size.l0
   repeat' first
   | (with_reducible exact ih0 _ _ _ _ _)
   | (with_reducible exact ih1 _ _ _ _ _ _ _ _)
   | (with_reducible exact LeO.refl _)
   | (with_reducible exact LeO.none _)
   | (with_reducible refine LeO.ite ?_ ?_)
   | (with_reducible refine LeO.bind ?_ (fun _=>?_))
   | exact ih0 _ _ _ _ _
   | exact ih1 _ _ _ _ _ _ _ _
   | exact LeO.none _
   | refine LeO.ite ?_ ?_
   | refine LeO.bind ?_ (fun _=>?_)
  ·intro y0 y1 y2 y3 y4 y5 y6 y7
   unfold patch_Size.l1
   repeat' first
   | (with_reducible exact ih0 _ _ _ _ _)
   | (with_reducible exact ih1 _ _ _ _ _ _ _ _)
   | (with_reducible exact LeO.refl _)
   | (with_reducible exact LeO.none _)
   | (with_reducible refine LeO.ite ?_ ?_)
   | (with_reducible refine LeO.bind ?_ (fun _=>?_))
   | exact ih0 _ _ _ _ _
   | exact ih1 _ _ _ _ _ _ _ _
   | exact LeO.none _
   | refine LeO.ite ?_ ?_
   | refine LeO.bind ?_ (fun _=>?_)
theorem patch_Size.mono: ∀a0 k,LeO (patch_Size.f k a0) (patch_Size.f (k+1) a0):=by
 intro a0 k
 obtain⟨ih0,ih1⟩:=patch_Size.mono_l k
 unfold patch_Size.f
 repeat' first
   | (with_reducible exact ih0 _ _ _ _ _)
   | (with_reducible exact ih1 _ _ _ _ _ _ _ _)
   | (with_reducible exact LeO.refl _)
   | (with_reducible exact LeO.none _)
   | (with_reducible refine LeO.ite ?_ ?_)
   | (with_reducible refine LeO.bind ?_ (fun _=>?_))
   | exact ih0 _ _ _ _ _
   | exact ih1 _ _ _ _ _ _ _ _
   | exact LeO.none _
   | refine LeO.ite ?_ ?_
   | refine LeO.bind ?_ (fun _=>?_)
set_option maxHeartbeats 8000000 in
set_option maxRecDepth 100000 in
theorem patch_Size.calls (k:Nat) (A0:Option Addr) (c0:Nat) (l0:List (S44)) (r1:Int) (r2:Int) (w:World) (hr0:Kd.C k44 w A0 l0.length l0) (hc0:l0.length≤c0) (h:patch_Size.f k l0=some (r1,r2)):
  Calls Try.prog 40 #[.slice A0 l0.length c0] w fun e w'=>e= .returned (.tuple #[.int .i64 r1, .int .i64 r2])∧Below w.heap.size w w':=by
 have hu44:=Try.underlying44
 have hu47:=Try.underlying47
 have HR0:=Aside0.mk hr0
 have HC0:=Aside0.mk hc0
 clear hr0 hc0
 have HB:=Aside0.mk (Below.refl w.heap.size w)
 have H:(patch_Size.l0 k 0 0 l0 (l0.length:Int) 0)=some (r1,r2):=h
 clear h
 have H':=Aside0.mk H
 clear H
 go_enter Try.func40,Try.ntmps40
 go_wp2
 go_loopg [4,5,12] k (fun kq v4 v5 v12 w'=> ∃(x4_1:Int) (x5_1:Int) (x12_1:Int),v4= .int .i64 x4_1∧v5= .int .i64 x5_1∧v12= .int .i64 x12_1∧Aside0 (patch_Size.l0 kq x4_1 x5_1 l0 (l0.length:Int) x12_1=some (r1,r2))∧Aside0 (kq≤k)∧Aside0 (Below w.heap.size w w'))
 case atStart=>exact⟨(0),(0),(0),(by rfl),(by rfl),(by rfl),H',⟨Nat.le_refl _⟩,⟨by repeat((with_reducible exact HB.out))⟩⟩
 case round=>
  clear H'
  obtain⟨x4_1,x5_1,x12_1,rfl,rfl,rfl,HA,HK1,HB⟩:=hrel
  cases gk with
  | zero=>exact absurd HA.out (by simp [patch_Size.l0])
  | succ k1=>
   have H:=HA.out
   clear HA
   simp only [patch_Size.l0] at H
   by_cases c2:x12_1<(l0.length:Int)
   ·rw [if_pos c2] at H
    have c2b0:decide (x12_1<(l0.length:Int))=true:=decide_eq_true c2
    clear c2
    by_cases c3:0≤x12_1
    ·rw [if_pos c3] at H
     have c3b0:decide (0≤x12_1)=true:=decide_eq_true c3
     clear c3
     by_cases c4:x12_1<(l0.length:Int)
     ·rw [if_pos c4] at H
      have c4b0:decide (x12_1<(l0.length:Int))=true:=decide_eq_true c4
      clear c4
      have H':=Aside0.mk H
      clear H
      have p471:0≤(x12_1:Int):=of_decide_eq_true (by(with_reducible assumption))
      have q471:x12_1<(l0.length:Int):=of_decide_eq_true (by(with_reducible assumption))
      obtain⟨ad471,A471_4,c471_4,e471,hx471_0,hx471_1,hx471_2,hx471_3,hx471_4,hl471_4,hi471_4⟩:=at_T44 HR0.out x12_1 p471 q471
      cases e471
      replace hx471_0:=(HB.out.cell (World.block_lt_of_cell? w _ hx471_0)).trans hx471_0
      replace hx471_1:=(HB.out.cell (World.block_lt_of_cell? w _ hx471_1)).trans hx471_1
      replace hx471_2:=(HB.out.cell (World.block_lt_of_cell? w _ hx471_2)).trans hx471_2
      replace hx471_3:=(HB.out.cell (World.block_lt_of_cell? w _ hx471_3)).trans hx471_3
      replace hx471_4:=(HB.out.cell (World.block_lt_of_cell? w _ hx471_4)).trans hx471_4
      have HR471_4:=Aside0.mk hi471_4
      have HC471_4:=Aside0.mk hl471_4
      clear hi471_4 hl471_4
      replace p471:=eq_true p471
      replace q471:=eq_true q471
      go_wp2_with(((with_reducible refine gate_dst (N:=7) rfl ?_);refine box_event ?hg (N:=7) ?hd (cs:= #[.int .i64 0, .int .i64 0, .int .i64 0, .int .i64 0, .slice none 0 0]) (t:=44) ?hr ?_;(case hd=>rfl);(case hg=>rfl);(case hr=>(go_simp;done));intro gb472 hg w5 hbox hb;have n0_:=Aside0.mk (below_step (by repeat((with_reducible exact HB.out))) hb);have n1_:=Aside0.mk (hbox);have n2_:=Aside0.mk ((by rw [hg];exact(below_size (by repeat((with_reducible exact HB.out)))):w.heap.size≤gb472));have n3_:=Aside0.mk ((by rw [hg];exact(below_size (by repeat((with_reducible exact HB.out)))):w.heap.size≤gb472));clear HB;have HB:=n0_;have BK472:=n1_;have GW472:=n2_;have GE472:=n3_;clear n0_ n1_ n2_ n3_;clear hb hbox hg;have hcz6_0:w5.cell? ⟨gb472,0,none⟩=some (.int .i64 0):=(blk_cell BK472.out 0).trans rfl;have hcz6_1:w5.cell? ⟨gb472,1,none⟩=some (.int .i64 0):=(blk_cell BK472.out 1).trans rfl;have hcz6_2:w5.cell? ⟨gb472,2,none⟩=some (.int .i64 0):=(blk_cell BK472.out 2).trans rfl;have hcz6_3:w5.cell? ⟨gb472,3,none⟩=some (.int .i64 0):=(blk_cell BK472.out 3).trans rfl;have hcz6_4:w5.cell? ⟨gb472,4,none⟩=some (.slice none 0 0):=(blk_cell BK472.out 4).trans rfl;have hfz6_0:=blk_frozen BK472.out 0;have hfz6_1:=blk_frozen BK472.out 1;have hfz6_2:=blk_frozen BK472.out 2;have hfz6_3:=blk_frozen BK472.out 3;have hfz6_4:=blk_frozen BK472.out 4))
      go_loopg [4,5,19] k1 (fun kq v4 v5 v19 w'=> ∃(x4_2:Int) (x5_2:Int) (x19_2:Int),v4= .int .i64 x4_2∧v5= .int .i64 x5_2∧v19= .int .i64 x19_2∧Aside0 (patch_Size.l1 kq x4_2 x5_2 l0 (l0.length:Int) x12_1 ((rd_T44 l0 x12_1).f4) (((rd_T44 l0 x12_1).f4).length:Int) x19_2=some (r1,r2))∧Aside0 (kq≤k1)∧Aside0 (w'.heap[gb472]? =some (.cells #[.int .i64 ((rd_T44 l0 x12_1).f0), .int .i64 ((rd_T44 l0 x12_1).f1), .int .i64 ((rd_T44 l0 x12_1).f2), .int .i64 ((rd_T44 l0 x12_1).f3),(.slice A471_4 ((rd_T44 l0 x12_1).f4).length c471_4)] 44 (0,0)))∧Aside0 (Below w.heap.size w w'))
      case atStart=>exact⟨(x4_1),(x5_1),(0),(by rfl),(by rfl),(by rfl),H',⟨Nat.le_refl _⟩,⟨by refine blk_put (cs:= #[.int .i64 ((rd_T44 l0 x12_1).f0), .int .i64 ((rd_T44 l0 x12_1).f1), .int .i64 ((rd_T44 l0 x12_1).f2), .int .i64 ((rd_T44 l0 x12_1).f3), .slice none 0 0]) ?_ 4 _ rfl;refine blk_put (cs:= #[.int .i64 ((rd_T44 l0 x12_1).f0), .int .i64 ((rd_T44 l0 x12_1).f1), .int .i64 ((rd_T44 l0 x12_1).f2), .int .i64 0, .slice none 0 0]) ?_ 3 _ rfl;refine blk_put (cs:= #[.int .i64 ((rd_T44 l0 x12_1).f0), .int .i64 ((rd_T44 l0 x12_1).f1), .int .i64 0, .int .i64 0, .slice none 0 0]) ?_ 2 _ rfl;refine blk_put (cs:= #[.int .i64 ((rd_T44 l0 x12_1).f0), .int .i64 0, .int .i64 0, .int .i64 0, .slice none 0 0]) ?_ 1 _ rfl;refine blk_put (cs:= #[.int .i64 0, .int .i64 0, .int .i64 0, .int .i64 0, .slice none 0 0]) ?_ 0 _ rfl;exact BK472.out⟩,⟨by repeat((with_reducible first|exact HB.out|refine below_set ?_ GE472.out))⟩⟩
      case round=>
       clear H'
       try clear c2b0
       try clear c3b0
       try clear c4b0
       try clear hcz6_0
       try clear hcz6_1
       try clear hcz6_2
       try clear hcz6_3
       try clear hcz6_4
       try clear hfz6_0
       try clear hfz6_1
       try clear hfz6_2
       try clear hfz6_3
       try clear hfz6_4
       try clear hx471_0
       try clear hx471_1
       try clear hx471_2
       try clear hx471_3
       try clear hx471_4
       try clear p471
       try clear q471
       obtain⟨x4_2,x5_2,x19_2,rfl,rfl,rfl,HA,HK2,BK472,HB⟩:=hrel
       cases gk with
       | zero=>exact absurd HA.out (by simp [patch_Size.l1])
       | succ k2=>
        have H:=HA.out
        clear HA
        simp only [patch_Size.l1] at H
        by_cases c7:x19_2<(((rd_T44 l0 x12_1).f4).length:Int)
        ·rw [if_pos c7] at H
         have c7b0:decide (x19_2<(((rd_T44 l0 x12_1).f4).length:Int))=true:=decide_eq_true c7
         clear c7
         by_cases c8:0≤x19_2
         ·rw [if_pos c8] at H
          have c8b0:decide (0≤x19_2)=true:=decide_eq_true c8
          clear c8
          by_cases c9:x19_2<(((rd_T44 l0 x12_1).f4).length:Int)
          ·rw [if_pos c9] at H
           have c9b0:decide (x19_2<(((rd_T44 l0 x12_1).f4).length:Int))=true:=decide_eq_true c9
           clear c9
           by_cases c10:((rd_T47 ((rd_T44 l0 x12_1).f4) x19_2).f0)=3
           ·rw [if_pos c10] at H
            have c10b0:(((rd_T47 ((rd_T44 l0 x12_1).f4) x19_2).f0)==3)=true:=beq_iff_eq.mpr c10
            have c10b1:(((rd_T47 ((rd_T44 l0 x12_1).f4) x19_2).f0) != 3)=false:=bne_eq_false_iff_eq.mpr c10
            clear c10
            have H':=Aside0.mk H
            clear H
            have p473:0≤(x19_2:Int):=of_decide_eq_true (by(with_reducible assumption))
            have q473:x19_2<(((rd_T44 l0 x12_1).f4).length:Int):=of_decide_eq_true (by(with_reducible assumption))
            obtain⟨ad473,A473_1,c473_1,e473,hx473_0,hx473_1,hl473_1,hi473_1⟩:=at_T47 HR471_4.out x19_2 p473 q473
            cases e473
            replace hx473_0:=(HB.out.cell (World.block_lt_of_cell? w _ hx473_0)).trans hx473_0
            replace hx473_1:=(HB.out.cell (World.block_lt_of_cell? w _ hx473_1)).trans hx473_1
            have HR473_1:=Aside0.mk hi473_1
            have HC473_1:=Aside0.mk hl473_1
            clear hi473_1 hl473_1
            replace p473:=eq_true p473
            replace q473:=eq_true q473
            go_wp2_with(((with_reducible refine gate_dst (N:=9) rfl ?_);refine box_event ?hg (N:=9) ?hd (cs:= #[.int .i64 0, .slice none 0 0]) (t:=47) ?hr ?_;(case hd=>rfl);(case hg=>rfl);(case hr=>(go_simp;done));intro gb474 hg w11 hbox hb;have n0_:=Aside0.mk (blk_below (g:=gb472) (o:= .cells #[.int .i64 ((rd_T44 l0 x12_1).f0), .int .i64 ((rd_T44 l0 x12_1).f1), .int .i64 ((rd_T44 l0 x12_1).f2), .int .i64 ((rd_T44 l0 x12_1).f3), .slice (some ad473) ((rd_T44 l0 x12_1).f4).length c471_4] 44 (0,0)) (by exact BK472.out) hb);have n1_:=Aside0.mk (below_step (by repeat((with_reducible exact HB.out))) hb);have n2_:=Aside0.mk (hbox);have n3_:=Aside0.mk ((by rw [hg];exact(below_size (by repeat((with_reducible exact HB.out)))):w.heap.size≤gb474));have n4_:=Aside0.mk ((by rw [hg];exact(below_size (by repeat((with_reducible exact HB.out)))):w.heap.size≤gb474));have n5_:=Aside0.mk ((by rw [hg];exact Nat.ne_of_lt (blk_lt (g:=gb472) (o:= .cells #[.int .i64 ((rd_T44 l0 x12_1).f0), .int .i64 ((rd_T44 l0 x12_1).f1), .int .i64 ((rd_T44 l0 x12_1).f2), .int .i64 ((rd_T44 l0 x12_1).f3), .slice (some ad473) ((rd_T44 l0 x12_1).f4).length c471_4] 44 (0,0)) (by exact BK472.out)):gb472≠gb474));have n6_:=Aside0.mk ((by rw [hg];exact Nat.ne_of_gt (blk_lt (g:=gb472) (o:= .cells #[.int .i64 ((rd_T44 l0 x12_1).f0), .int .i64 ((rd_T44 l0 x12_1).f1), .int .i64 ((rd_T44 l0 x12_1).f2), .int .i64 ((rd_T44 l0 x12_1).f3), .slice (some ad473) ((rd_T44 l0 x12_1).f4).length c471_4] 44 (0,0)) (by exact BK472.out)):gb474≠gb472));clear BK472;clear HB;have BK472:=n0_;have HB:=n1_;have BK474:=n2_;have GW474:=n3_;have GE474:=n4_;have NB472_474:=n5_;have NB474_472:=n6_;clear n0_ n1_ n2_ n3_ n4_ n5_ n6_;clear hb hbox hg;have hnb12:=NB474_472.out;have hnc12:=NB472_474.out;have hcz13_0:w11.cell? ⟨gb474,0,none⟩=some (.int .i64 0):=(blk_cell BK474.out 0).trans rfl;have hcz13_1:w11.cell? ⟨gb474,1,none⟩=some (.slice none 0 0):=(blk_cell BK474.out 1).trans rfl;have hfz13_0:=blk_frozen BK474.out 0;have hfz13_1:=blk_frozen BK474.out 1))
            go_roundg k2
            case measure=>have:=HK1.out;have:=HK2.out;omega
            case rel=>exact⟨(wrap64 (x4_2+(((rd_T47 ((rd_T44 l0 x12_1).f4) x19_2).f1).length:Int))),(x5_2),(wrap64 (x19_2+1)),(by rfl),(by rfl),(by rfl),H',⟨by have:=HK1.out;have:=HK2.out;omega⟩,⟨by refine blk_far ?_ NB472_474.out _;refine blk_far ?_ NB472_474.out _;exact BK472.out⟩,⟨by repeat((with_reducible first|exact HB.out|refine below_set ?_ GE474.out))⟩⟩
           ·rw [if_neg c10] at H
            have c10b0:(((rd_T47 ((rd_T44 l0 x12_1).f4) x19_2).f0)==3)=false:=beq_eq_false_iff_ne.mpr c10
            have c10b1:(((rd_T47 ((rd_T44 l0 x12_1).f4) x19_2).f0) != 3)=true:=bne_iff_ne.mpr c10
            by_cases c14:((rd_T47 ((rd_T44 l0 x12_1).f4) x19_2).f0)=2
            ·rw [if_pos c14] at H
             have c14b0:(((rd_T47 ((rd_T44 l0 x12_1).f4) x19_2).f0)==2)=true:=beq_iff_eq.mpr c14
             have c14b1:(((rd_T47 ((rd_T44 l0 x12_1).f4) x19_2).f0) != 2)=false:=bne_eq_false_iff_eq.mpr c14
             clear c14
             have H':=Aside0.mk H
             clear H
             have p473:0≤(x19_2:Int):=of_decide_eq_true (by(with_reducible assumption))
             have q473:x19_2<(((rd_T44 l0 x12_1).f4).length:Int):=of_decide_eq_true (by(with_reducible assumption))
             obtain⟨ad473,A473_1,c473_1,e473,hx473_0,hx473_1,hl473_1,hi473_1⟩:=at_T47 HR471_4.out x19_2 p473 q473
             cases e473
             replace hx473_0:=(HB.out.cell (World.block_lt_of_cell? w _ hx473_0)).trans hx473_0
             replace hx473_1:=(HB.out.cell (World.block_lt_of_cell? w _ hx473_1)).trans hx473_1
             have HR473_1:=Aside0.mk hi473_1
             have HC473_1:=Aside0.mk hl473_1
             clear hi473_1 hl473_1
             replace p473:=eq_true p473
             replace q473:=eq_true q473
             go_wp2_with(((with_reducible refine gate_dst (N:=9) rfl ?_);refine box_event ?hg (N:=9) ?hd (cs:= #[.int .i64 0, .slice none 0 0]) (t:=47) ?hr ?_;(case hd=>rfl);(case hg=>rfl);(case hr=>(go_simp;done));intro gb474 hg w15 hbox hb;have n0_:=Aside0.mk (blk_below (g:=gb472) (o:= .cells #[.int .i64 ((rd_T44 l0 x12_1).f0), .int .i64 ((rd_T44 l0 x12_1).f1), .int .i64 ((rd_T44 l0 x12_1).f2), .int .i64 ((rd_T44 l0 x12_1).f3), .slice (some ad473) ((rd_T44 l0 x12_1).f4).length c471_4] 44 (0,0)) (by exact BK472.out) hb);have n1_:=Aside0.mk (below_step (by repeat((with_reducible exact HB.out))) hb);have n2_:=Aside0.mk (hbox);have n3_:=Aside0.mk ((by rw [hg];exact(below_size (by repeat((with_reducible exact HB.out)))):w.heap.size≤gb474));have n4_:=Aside0.mk ((by rw [hg];exact(below_size (by repeat((with_reducible exact HB.out)))):w.heap.size≤gb474));have n5_:=Aside0.mk ((by rw [hg];exact Nat.ne_of_lt (blk_lt (g:=gb472) (o:= .cells #[.int .i64 ((rd_T44 l0 x12_1).f0), .int .i64 ((rd_T44 l0 x12_1).f1), .int .i64 ((rd_T44 l0 x12_1).f2), .int .i64 ((rd_T44 l0 x12_1).f3), .slice (some ad473) ((rd_T44 l0 x12_1).f4).length c471_4] 44 (0,0)) (by exact BK472.out)):gb472≠gb474));have n6_:=Aside0.mk ((by rw [hg];exact Nat.ne_of_gt (blk_lt (g:=gb472) (o:= .cells #[.int .i64 ((rd_T44 l0 x12_1).f0), .int .i64 ((rd_T44 l0 x12_1).f1), .int .i64 ((rd_T44 l0 x12_1).f2), .int .i64 ((rd_T44 l0 x12_1).f3), .slice (some ad473) ((rd_T44 l0 x12_1).f4).length c471_4] 44 (0,0)) (by exact BK472.out)):gb474≠gb472));clear BK472;clear HB;have BK472:=n0_;have HB:=n1_;have BK474:=n2_;have GW474:=n3_;have GE474:=n4_;have NB472_474:=n5_;have NB474_472:=n6_;clear n0_ n1_ n2_ n3_ n4_ n5_ n6_;clear hb hbox hg;have hnb16:=NB474_472.out;have hnc16:=NB472_474.out;have hcz17_0:w15.cell? ⟨gb474,0,none⟩=some (.int .i64 0):=(blk_cell BK474.out 0).trans rfl;have hcz17_1:w15.cell? ⟨gb474,1,none⟩=some (.slice none 0 0):=(blk_cell BK474.out 1).trans rfl;have hfz17_0:=blk_frozen BK474.out 0;have hfz17_1:=blk_frozen BK474.out 1))
             go_roundg k2
             case measure=>have:=HK1.out;have:=HK2.out;omega
             case rel=>exact⟨(x4_2),(wrap64 (x5_2+(((rd_T47 ((rd_T44 l0 x12_1).f4) x19_2).f1).length:Int))),(wrap64 (x19_2+1)),(by rfl),(by rfl),(by rfl),H',⟨by have:=HK1.out;have:=HK2.out;omega⟩,⟨by refine blk_far ?_ NB472_474.out _;refine blk_far ?_ NB472_474.out _;exact BK472.out⟩,⟨by repeat((with_reducible first|exact HB.out|refine below_set ?_ GE474.out))⟩⟩
            ·rw [if_neg c14] at H
             have c14b0:(((rd_T47 ((rd_T44 l0 x12_1).f4) x19_2).f0)==2)=false:=beq_eq_false_iff_ne.mpr c14
             have c14b1:(((rd_T47 ((rd_T44 l0 x12_1).f4) x19_2).f0) != 2)=true:=bne_iff_ne.mpr c14
             have H':=Aside0.mk H
             clear H
             have p473:0≤(x19_2:Int):=of_decide_eq_true (by(with_reducible assumption))
             have q473:x19_2<(((rd_T44 l0 x12_1).f4).length:Int):=of_decide_eq_true (by(with_reducible assumption))
             obtain⟨ad473,A473_1,c473_1,e473,hx473_0,hx473_1,hl473_1,hi473_1⟩:=at_T47 HR471_4.out x19_2 p473 q473
             cases e473
             replace hx473_0:=(HB.out.cell (World.block_lt_of_cell? w _ hx473_0)).trans hx473_0
             replace hx473_1:=(HB.out.cell (World.block_lt_of_cell? w _ hx473_1)).trans hx473_1
             have HR473_1:=Aside0.mk hi473_1
             have HC473_1:=Aside0.mk hl473_1
             clear hi473_1 hl473_1
             replace p473:=eq_true p473
             replace q473:=eq_true q473
             go_wp2_with(((with_reducible refine gate_dst (N:=9) rfl ?_);refine box_event ?hg (N:=9) ?hd (cs:= #[.int .i64 0, .slice none 0 0]) (t:=47) ?hr ?_;(case hd=>rfl);(case hg=>rfl);(case hr=>(go_simp;done));intro gb474 hg w18 hbox hb;have n0_:=Aside0.mk (blk_below (g:=gb472) (o:= .cells #[.int .i64 ((rd_T44 l0 x12_1).f0), .int .i64 ((rd_T44 l0 x12_1).f1), .int .i64 ((rd_T44 l0 x12_1).f2), .int .i64 ((rd_T44 l0 x12_1).f3), .slice (some ad473) ((rd_T44 l0 x12_1).f4).length c471_4] 44 (0,0)) (by exact BK472.out) hb);have n1_:=Aside0.mk (below_step (by repeat((with_reducible exact HB.out))) hb);have n2_:=Aside0.mk (hbox);have n3_:=Aside0.mk ((by rw [hg];exact(below_size (by repeat((with_reducible exact HB.out)))):w.heap.size≤gb474));have n4_:=Aside0.mk ((by rw [hg];exact(below_size (by repeat((with_reducible exact HB.out)))):w.heap.size≤gb474));have n5_:=Aside0.mk ((by rw [hg];exact Nat.ne_of_lt (blk_lt (g:=gb472) (o:= .cells #[.int .i64 ((rd_T44 l0 x12_1).f0), .int .i64 ((rd_T44 l0 x12_1).f1), .int .i64 ((rd_T44 l0 x12_1).f2), .int .i64 ((rd_T44 l0 x12_1).f3), .slice (some ad473) ((rd_T44 l0 x12_1).f4).length c471_4] 44 (0,0)) (by exact BK472.out)):gb472≠gb474));have n6_:=Aside0.mk ((by rw [hg];exact Nat.ne_of_gt (blk_lt (g:=gb472) (o:= .cells #[.int .i64 ((rd_T44 l0 x12_1).f0), .int .i64 ((rd_T44 l0 x12_1).f1), .int .i64 ((rd_T44 l0 x12_1).f2), .int .i64 ((rd_T44 l0 x12_1).f3), .slice (some ad473) ((rd_T44 l0 x12_1).f4).length c471_4] 44 (0,0)) (by exact BK472.out)):gb474≠gb472));clear BK472;clear HB;have BK472:=n0_;have HB:=n1_;have BK474:=n2_;have GW474:=n3_;have GE474:=n4_;have NB472_474:=n5_;have NB474_472:=n6_;clear n0_ n1_ n2_ n3_ n4_ n5_ n6_;clear hb hbox hg;have hnb19:=NB474_472.out;have hnc19:=NB472_474.out;have hcz20_0:w18.cell? ⟨gb474,0,none⟩=some (.int .i64 0):=(blk_cell BK474.out 0).trans rfl;have hcz20_1:w18.cell? ⟨gb474,1,none⟩=some (.slice none 0 0):=(blk_cell BK474.out 1).trans rfl;have hfz20_0:=blk_frozen BK474.out 0;have hfz20_1:=blk_frozen BK474.out 1))
             go_roundg k2
             case measure=>have:=HK1.out;have:=HK2.out;omega
             case rel=>exact⟨(x4_2),(x5_2),(wrap64 (x19_2+1)),(by rfl),(by rfl),(by rfl),H',⟨by have:=HK1.out;have:=HK2.out;omega⟩,⟨by refine blk_far ?_ NB472_474.out _;refine blk_far ?_ NB472_474.out _;exact BK472.out⟩,⟨by repeat((with_reducible first|exact HB.out|refine below_set ?_ GE474.out))⟩⟩
          ·rw [if_neg c9] at H
           exact absurd H (by simp)
         ·rw [if_neg c8] at H
          exact absurd H (by simp)
        ·rw [if_neg c7] at H
         have c7b0:decide (x19_2<(((rd_T44 l0 x12_1).f4).length:Int))=false:=decide_eq_false c7
         clear c7
         have H':=Aside0.mk H
         clear H
         go_wp2
         go_roundg k2
         case measure=>have:=HK1.out;have:=HK2.out;omega
         case rel=>exact⟨(x4_2),(x5_2),(wrap64 (x12_1+1)),(by rfl),(by rfl),(by rfl),H',⟨by have:=HK1.out;have:=HK2.out;omega⟩,⟨by repeat((with_reducible exact HB.out))⟩⟩
     ·rw [if_neg c4] at H
      exact absurd H (by simp)
    ·rw [if_neg c3] at H
     exact absurd H (by simp)
   ·rw [if_neg c2] at H
    have c2b0:decide (x12_1<(l0.length:Int))=false:=decide_eq_false c2
    clear c2
    simp only [Option.some.injEq,Prod.mk.injEq] at H
    obtain⟨rfl,rfl⟩:=H
    go_wp2
    go_ret2
    exact⟨by rfl,by repeat((with_reducible exact HB.out))⟩
end Go.Proofs.Ytfnbodjmmkjlcaa.H
end
section
namespace Go.Proofs.Ytfnbodjmmkjlcaa.H
open Go.RowKit Go.Proofs.YtfnbodjmmkjlcaaW.PrintWords Go.Proofs.YtfnbodjmmkjlcaaW.PrintLast Go.Proofs.YtfnbodjmmkjlcaaW.PrintMore
attribute [local go_sem] max2_int min2_int max_two min_two max_three min_three max_four min_four
set_option linter.unusedVariables false
set_option linter.unusedSimpArgs false
attribute [local go_sem high] eqA64
def jalousielaw11_live.f (k:Nat)  :Option (Bool):=(some (([(⟨0,0,0,1,(([(⟨3,(([(⟨(⟨#[120]⟩:ByteArray),false⟩:S66)]:List (S66)))⟩:S47)]:List (S47)))⟩:S44)]:List (S44)):List (S44))).bind fun y481=>((patch_Apply.f k y481 (([(⟨(⟨#[97]⟩:ByteArray),false⟩:S66)]:List (S66)))).bind fun bt487=>((patch_Size.f k y481).bind fun bt494=>(if bt487.2.2=0 then (if (bt487.1.length:Int)=2 then (if 0<(bt487.1.length:Int) then (if ((rd_T66 bt487.1 0).f0).toList=([120]:List UInt8) then (if (bt487.2.1.length:Int)=1 then (if 0<(bt487.2.1.length:Int) then (if (((rd_T64 bt487.2.1 0).f0)==0&&(((rd_T64 bt487.2.1 0).f1)==1))=true then (if bt494.1=1 then (some (bt494.2==0)) else (some false)) else (some false)) else (none)) else (some false)) else (some false)) else (none)) else (some false)) else (some false))))
theorem jalousielaw11_live.mono: ∀k,LeO (jalousielaw11_live.f k ) (jalousielaw11_live.f (k+1) ):=by
 intro  k
 unfold jalousielaw11_live.f
 repeat' first
   | (with_reducible exact patch_Apply.mono _ _ _)
   | (with_reducible exact patch_Size.mono _ _)
   | (with_reducible exact LeO.refl _)
   | (with_reducible exact LeO.none _)
   | (with_reducible refine LeO.ite ?_ ?_)
   | (with_reducible refine LeO.bind ?_ (fun _=>?_))
   | exact patch_Apply.mono _ _ _
   | exact patch_Size.mono _ _
   | exact LeO.none _
   | refine LeO.ite ?_ ?_
   | refine LeO.bind ?_ (fun _=>?_)
set_option maxHeartbeats 8000000 in
set_option maxRecDepth 100000 in
theorem jalousielaw11_live.calls (k:Nat)  (r:Bool) (w:World) (h:jalousielaw11_live.f k  =some r) (HRT:Aside0 (r=true):=by first|exact⟨rfl⟩|assumption):
  Calls Try.prog 32 #[] w fun e w'=>e= .returned (.bool r)∧Below w.heap.size w w':=by
 have hu66:=Try.underlying66
 have hu47:=Try.underlying47
 have hu44:=Try.underlying44
 have hu64:=Try.underlying64
 have HB:=Aside0.mk (Below.refl w.heap.size w)
 have H:((some (([(⟨0,0,0,1,(([(⟨3,(([(⟨(⟨#[120]⟩:ByteArray),false⟩:S66)]:List (S66)))⟩:S47)]:List (S47)))⟩:S44)]:List (S44)):List (S44))).bind fun y481=>((patch_Apply.f k y481 (([(⟨(⟨#[97]⟩:ByteArray),false⟩:S66)]:List (S66)))).bind fun bt487=>((patch_Size.f k y481).bind fun bt494=>(if bt487.2.2=0 then (if (bt487.1.length:Int)=2 then (if 0<(bt487.1.length:Int) then (if ((rd_T66 bt487.1 0).f0).toList=([120]:List UInt8) then (if (bt487.2.1.length:Int)=1 then (if 0<(bt487.2.1.length:Int) then (if (((rd_T64 bt487.2.1 0).f0)==0&&(((rd_T64 bt487.2.1 0).f1)==1))=true then (if bt494.1=1 then (some (bt494.2==0)) else (some false)) else (some false)) else (none)) else (some false)) else (some false)) else (none)) else (some false)) else (some false)))))=some r:=h
 clear h
 obtain⟨y475,hy475⟩: ∃y_:List (S66),y_=(([(⟨(⟨#[120]⟩:ByteArray),false⟩:S66)]:List (S66))):=⟨_,rfl⟩
 replace H:((some (([(⟨0,0,0,1,(([(⟨3,y475⟩:S47)]:List (S47)))⟩:S44)]:List (S44)):List (S44))).bind fun y481=>((patch_Apply.f k y481 (([(⟨(⟨#[97]⟩:ByteArray),false⟩:S66)]:List (S66)))).bind fun bt487=>((patch_Size.f k y481).bind fun bt494=>(if bt487.2.2=0 then (if (bt487.1.length:Int)=2 then (if 0<(bt487.1.length:Int) then (if ((rd_T66 bt487.1 0).f0).toList=([120]:List UInt8) then (if (bt487.2.1.length:Int)=1 then (if 0<(bt487.2.1.length:Int) then (if (((rd_T64 bt487.2.1 0).f0)==0&&(((rd_T64 bt487.2.1 0).f1)==1))=true then (if bt494.1=1 then (some (bt494.2==0)) else (some false)) else (some false)) else (none)) else (some false)) else (some false)) else (none)) else (some false)) else (some false)))))=some r:=by(rw [hy475];with_reducible exact H)
 have Ny475:=Aside0.mk hy475
 clear hy475
 obtain⟨y478,hy478⟩: ∃y_:List (S47),y_=(([(⟨3,y475⟩:S47)]:List (S47))):=⟨_,rfl⟩
 replace H:((some (([(⟨0,0,0,1,y478⟩:S44)]:List (S44)):List (S44))).bind fun y481=>((patch_Apply.f k y481 (([(⟨(⟨#[97]⟩:ByteArray),false⟩:S66)]:List (S66)))).bind fun bt487=>((patch_Size.f k y481).bind fun bt494=>(if bt487.2.2=0 then (if (bt487.1.length:Int)=2 then (if 0<(bt487.1.length:Int) then (if ((rd_T66 bt487.1 0).f0).toList=([120]:List UInt8) then (if (bt487.2.1.length:Int)=1 then (if 0<(bt487.2.1.length:Int) then (if (((rd_T64 bt487.2.1 0).f0)==0&&(((rd_T64 bt487.2.1 0).f1)==1))=true then (if bt494.1=1 then (some (bt494.2==0)) else (some false)) else (some false)) else (none)) else (some false)) else (some false)) else (none)) else (some false)) else (some false)))))=some r:=by(rw [hy478];with_reducible exact H)
 have Ny478:=Aside0.mk hy478
 clear hy478
 obtain⟨y481,hy481⟩: ∃y_:List (S44),y_=(([(⟨0,0,0,1,y478⟩:S44)]:List (S44))):=⟨_,rfl⟩
 replace H:((patch_Apply.f k y481 (([(⟨(⟨#[97]⟩:ByteArray),false⟩:S66)]:List (S66)))).bind fun bt487=>((patch_Size.f k y481).bind fun bt494=>(if bt487.2.2=0 then (if (bt487.1.length:Int)=2 then (if 0<(bt487.1.length:Int) then (if ((rd_T66 bt487.1 0).f0).toList=([120]:List UInt8) then (if (bt487.2.1.length:Int)=1 then (if 0<(bt487.2.1.length:Int) then (if (((rd_T64 bt487.2.1 0).f0)==0&&(((rd_T64 bt487.2.1 0).f1)==1))=true then (if bt494.1=1 then (some (bt494.2==0)) else (some false)) else (some false)) else (none)) else (some false)) else (some false)) else (none)) else (some false)) else (some false))))=some r:=by(have H2_:=(Option.bind_some _ _).symm.trans H;rw [hy481];with_reducible exact H2_)
 have Ny481:=Aside0.mk hy481
 clear hy481
 obtain⟨y484,hy484⟩: ∃y_:List (S66),y_=(([(⟨(⟨#[97]⟩:ByteArray),false⟩:S66)]:List (S66))):=⟨_,rfl⟩
 replace H:((patch_Apply.f k y481 y484).bind fun bt487=>((patch_Size.f k y481).bind fun bt494=>(if bt487.2.2=0 then (if (bt487.1.length:Int)=2 then (if 0<(bt487.1.length:Int) then (if ((rd_T66 bt487.1 0).f0).toList=([120]:List UInt8) then (if (bt487.2.1.length:Int)=1 then (if 0<(bt487.2.1.length:Int) then (if (((rd_T64 bt487.2.1 0).f0)==0&&(((rd_T64 bt487.2.1 0).f1)==1))=true then (if bt494.1=1 then (some (bt494.2==0)) else (some false)) else (some false)) else (none)) else (some false)) else (some false)) else (none)) else (some false)) else (some false))))=some r:=by(rw [hy484];with_reducible exact H)
 have Ny484:=Aside0.mk hy484
 clear hy484
 replace H:=Option.bind_eq_some_iff.mp H
 obtain⟨⟨t487,t488,t489⟩,A10,H⟩:=H
 replace H:((patch_Size.f k y481).bind fun bt494=>(if t489=0 then (if (t487.length:Int)=2 then (if 0<(t487.length:Int) then (if ((rd_T66 t487 0).f0).toList=([120]:List UInt8) then (if (t488.length:Int)=1 then (if 0<(t488.length:Int) then (if (((rd_T64 t488 0).f0)==0&&(((rd_T64 t488 0).f1)==1))=true then (if bt494.1=1 then (some (bt494.2==0)) else (some false)) else (some false)) else (none)) else (some false)) else (some false)) else (none)) else (some false)) else (some false)))=some r:=H
 have A1:=Aside0.mk A10
 clear A10
 replace H:=Option.bind_eq_some_iff.mp H
 obtain⟨⟨t494,t495⟩,A20,H⟩:=H
 replace H:(if t489=0 then (if (t487.length:Int)=2 then (if 0<(t487.length:Int) then (if ((rd_T66 t487 0).f0).toList=([120]:List UInt8) then (if (t488.length:Int)=1 then (if 0<(t488.length:Int) then (if (((rd_T64 t488 0).f0)==0&&(((rd_T64 t488 0).f1)==1))=true then (if t494=1 then (some (t495==0)) else (some false)) else (some false)) else (none)) else (some false)) else (some false)) else (none)) else (some false)) else (some false))=some r:=H
 have A2:=Aside0.mk A20
 clear A20
 by_cases c3:t489=0
 ·rw [if_pos c3] at H
  have c3b0:(t489==0)=true:=beq_iff_eq.mpr c3
  have c3b1:(t489 != 0)=false:=bne_eq_false_iff_eq.mpr c3
  clear c3
  by_cases c4:(t487.length:Int)=2
  ·rw [if_pos c4] at H
   have c4b0:((t487.length:Int)==2)=true:=beq_iff_eq.mpr c4
   have c4b1:((t487.length:Int) != 2)=false:=bne_eq_false_iff_eq.mpr c4
   clear c4
   by_cases c5:0<(t487.length:Int)
   ·rw [if_pos c5] at H
    have c5b0:decide (0<(t487.length:Int))=true:=decide_eq_true c5
    have c5b1:decide (0<t487.length)=true:=decide_eq_true (by omega)
    clear c5
    by_cases c6:((rd_T66 t487 0).f0).toList=([120]:List UInt8)
    ·rw [if_pos c6] at H
     have c6b0:(((rd_T66 t487 0).f0).toList==([120]:List UInt8))=true:=beq_iff_eq.mpr c6
     have c6b1:(((rd_T66 t487 0).f0).toList != ([120]:List UInt8))=false:=bne_eq_false_iff_eq.mpr c6
     clear c6
     by_cases c7:(t488.length:Int)=1
     ·rw [if_pos c7] at H
      have c7b0:((t488.length:Int)==1)=true:=beq_iff_eq.mpr c7
      have c7b1:((t488.length:Int) != 1)=false:=bne_eq_false_iff_eq.mpr c7
      clear c7
      by_cases c8:0<(t488.length:Int)
      ·rw [if_pos c8] at H
       have c8b0:decide (0<(t488.length:Int))=true:=decide_eq_true c8
       have c8b1:decide (0<t488.length)=true:=decide_eq_true (by omega)
       clear c8
       by_cases c9:(((rd_T64 t488 0).f0)==0&&(((rd_T64 t488 0).f1)==1))=true
       ·rw [if_pos c9] at H
        have c9b0:(((rd_T64 t488 0).f0)==0&&(((rd_T64 t488 0).f1)==1))=true:=c9
        (try(have c9b1:decide (((rd_T64 t488 0).f0)=0&&(((rd_T64 t488 0).f1)==1))=true:=by simpa using c9))
        (try(have c9b2:(((rd_T64 t488 0).f0)==0&&(((rd_T64 t488 0).f1)==1))=true:=by simpa using c9))
        clear c9
        by_cases c10:t494=1
        ·rw [if_pos c10] at H
         have c10b0:(t494==1)=true:=beq_iff_eq.mpr c10
         have c10b1:(t494 != 1)=false:=bne_eq_false_iff_eq.mpr c10
         clear c10
         obtain rfl:=Option.some.inj H
         go_enter Try.func32,Try.ntmps32
         go_wp2_with(first|((with_reducible refine gate_dst (N:=8) rfl ?_);(try(refine gate_guard (by rfl) ?_;dsimp only));refine Kd.R_lit k66 _ 66 ?hg (N:=8) ?hd (xs:=([(⟨(⟨#[120]⟩:ByteArray),false⟩:S66)]:List (S66))) (inner:= [.string (⟨#[120]⟩:ByteArray), .bool false]) (ok:=fun _=>True) (okp:=fun _=>True) ?hr ?hp (fun _ hk=>hk) trivial (Below.refl _ _) (Nat.le_refl _) (by simp) ?_;(case hd=>rfl);(case hg=>rfl);(case hr=>(go_simp;done));(case hp=>exact(Reps.c2 (show Kd.M k66 _ _ _ (⟨(⟨#[120]⟩:ByteArray),false⟩:S66) [.string (⟨#[120]⟩:ByteArray), .bool false] from(k66_mkM _ _ _ (⟨(⟨#[120]⟩:ByteArray),false⟩:S66) )) (Reps.none _ _)));intro v476 w11 ho12 hb hg_ hnew_;clear hg_ hnew_;(rw [← Ny475.out] at ho12);have n0_:=Aside0.mk (Kd.R_lower ho12 (below_size (by repeat((with_reducible exact HB.out)))));have n1_:=Aside0.mk (below_step (by repeat((with_reducible exact HB.out))) hb);clear HB;have HO477:=n0_;have HB:=n1_;clear n0_ n1_;clear hb ho12;obtain⟨Ao13,co13,eo13⟩:=Kd.R_slice HO477.out;subst eo13)|((with_reducible refine gate_dst (N:=10) rfl ?_);(try(refine gate_guard (by rfl) ?_;dsimp only));refine Kd.N_lit k47 _ 47 ?hg (N':=10) ?hd (xs:=([(⟨3,y475⟩:S47)]:List (S47))) (inner:= [.int .i64 3, .slice Ao13 y475.length co13]) (ok:=(fun _=>True)) (okp:=(fun _=>True)) ?hr ?hp (fun _ hk=>hk) ((show ∀k_,w11.heap.size≤k_→(fun _=>True) k_ from fun k_ hk=>trivial) _ (Nat.le_refl _)) (Below.refl _ _) (Nat.le_refl _) (by simp) ?_;(case hd=>rfl);(case hg=>rfl);(case hr=>(go_simp;done));(case hp=>exact(Reps.c2 (show Kd.FK k47 _ _ (⟨3,y475⟩:S47) [.int .i64 3, .slice Ao13 y475.length co13] from(k47_mkF _ _ (⟨3,y475⟩:S47) (Kd.R_reads' (Kd.R_mono (ok':=(fun _=>True)) (HO477.out) (fun k_ hk=>trivial))).2.1 (Kd.R_F (Kd.R_mono (ok':=(fun _=>True)) (HO477.out) (fun k_ hk=>trivial))))) (Reps.none _ _)));intro v479 w14 ho15 hb hg_ hnew_;clear hg_ hnew_;(rw [← Ny478.out] at ho15);have n0_:=Aside0.mk (Kd.N_lower ho15 (below_size (by repeat((with_reducible exact HB.out)))));have n1_:=Aside0.mk (below_step (by repeat((with_reducible exact HB.out))) hb);clear HB;clear HO477;have HO480:=n0_;have HB:=n1_;clear n0_ n1_;clear hb ho15;obtain⟨Ao16,co16,eo16⟩:=Kd.N_slice HO480.out;subst eo16)|((with_reducible refine gate_dst (N:=12) rfl ?_);(try(refine gate_guard (by rfl) ?_;dsimp only));refine Kd.N_lit k44 _ 44 ?hg (N':=12) ?hd (xs:=([(⟨0,0,0,1,y478⟩:S44)]:List (S44))) (inner:= [.int .i64 0, .int .i64 0, .int .i64 0, .int .i64 1, .slice Ao16 y478.length co16]) (ok:=(fun _=>True)) (okp:=(fun _=>True)) ?hr ?hp (fun _ hk=>hk) ((show ∀k_,w14.heap.size≤k_→(fun _=>True) k_ from fun k_ hk=>trivial) _ (Nat.le_refl _)) (Below.refl _ _) (Nat.le_refl _) (by simp) ?_;(case hd=>rfl);(case hg=>rfl);(case hr=>(go_simp;done));(case hp=>exact(Reps.c5 (show Kd.FK k44 _ _ (⟨0,0,0,1,y478⟩:S44) [.int .i64 0, .int .i64 0, .int .i64 0, .int .i64 1, .slice Ao16 y478.length co16] from(k44_mkF _ _ (⟨0,0,0,1,y478⟩:S44) (Kd.N_reads' (Kd.N_mono (ok':=(fun _=>True)) (HO480.out) (fun k_ hk=>trivial))).2.1 (Kd.N_F (Kd.N_mono (ok':=(fun _=>True)) (HO480.out) (fun k_ hk=>trivial))))) (Reps.none _ _)));intro v482 w17 ho18 hb hg_ hnew_;clear hg_ hnew_;(rw [← Ny481.out] at ho18);have n0_:=Aside0.mk (Kd.N_lower ho18 (below_size (by repeat((with_reducible exact HB.out)))));have n1_:=Aside0.mk (below_step (by repeat((with_reducible exact HB.out))) hb);clear HB;clear HO480;have HO483:=n0_;have HB:=n1_;clear n0_ n1_;clear hb ho18)|((with_reducible refine gate_dst (N:=16) rfl ?_);(try(refine gate_guard (by rfl) ?_;dsimp only));refine Kd.R_lit k66 _ 66 ?hg (N:=16) ?hd (xs:=([(⟨(⟨#[97]⟩:ByteArray),false⟩:S66)]:List (S66))) (inner:= [.string (⟨#[97]⟩:ByteArray), .bool false]) (ok:=fun _=>True) (okp:=fun _=>True) ?hr ?hp (fun _ hk=>hk) trivial (Below.refl _ _) (Nat.le_refl _) (by simp) ?_;(case hd=>rfl);(case hg=>rfl);(case hr=>(go_simp;done));(case hp=>exact(Reps.c2 (show Kd.M k66 _ _ _ (⟨(⟨#[97]⟩:ByteArray),false⟩:S66) [.string (⟨#[97]⟩:ByteArray), .bool false] from(k66_mkM _ _ _ (⟨(⟨#[97]⟩:ByteArray),false⟩:S66) )) (Reps.none _ _)));intro v485 w19 ho20 hb hg_ hnew_;clear hg_ hnew_;(rw [← Ny484.out] at ho20);have n0_:=Aside0.mk (Kd.N_elder' (by exact HO483.out) (Kd.R_base ho20) hb);have n1_:=Aside0.mk (Kd.R_lower ho20 (below_size (by repeat((with_reducible exact HB.out)))));have n2_:=Aside0.mk (below_step (by repeat((with_reducible exact HB.out))) hb);clear HO483;clear HB;have HO483:=n0_;have HO486:=n1_;have HB:=n2_;clear n0_ n1_ n2_;clear hb ho20;obtain⟨Ao21,co21,eo21⟩:=Kd.N_slice HO483.out;subst eo21;obtain⟨Ao22,co22,eo22⟩:=Kd.R_slice HO486.out;subst eo22)|((with_reducible refine gate_callee (f:=28) rfl ?_);refine goesL_ (some 17) rfl rfl Try.func28 (by kernel_rfl) rfl #[.slice Ao21 y481.length co21, .slice Ao22 y484.length co22] rfl (by(try simp only [List.map_toArray,List.map_cons,List.map_nil]);rfl) ?_;(with_reducible refine(patch_Apply.calls k _ _ y481 _ _ y484 t487 t488 t489 _ ?side1 ?side2 ?side3 ?side4 A1.out).mono ?_);(case side1=>repeat(exact(Kd.N_reads' HO483.out).2.2));(case side2=>exact(Kd.N_reads' HO483.out).2.1);(case side3=>repeat(exact(Kd.R_reads' HO486.out).2.2));(case side4=>exact(Kd.R_reads' HO486.out).2.1);rintro e w23 ⟨v490,v492,rfl,ho0,ho1,hb⟩;refine⟨_,rfl,?_⟩;have n0_:=Aside0.mk (Kd.N_mono (Kd.N_told (Kd.N_told (Kd.N_old (by exact HO483.out) hb) (Kd.R_base ho0)) (Kd.R_base ho1)) (fun _ h_=>h_.1));have n1_:=Aside0.mk (Kd.R_elder' (by exact HO486.out) (Kd.R_base ho0) hb);have n2_:=Aside0.mk (Kd.R_lower (Kd.R_new' ho0 (Kd.R_lt (by exact HO486.out))) (below_size (by repeat((with_reducible exact HB.out)))));have n3_:=Aside0.mk (Kd.R_lower ho1 (below_size (by repeat((with_reducible exact HB.out)))));have n4_:=Aside0.mk (below_step (by repeat((with_reducible exact HB.out))) hb);clear HO483;clear HO486;clear HB;have HO483:=n0_;have HO486:=n1_;have HO491:=n2_;have HO493:=n3_;have HB:=n4_;clear n0_ n1_ n2_ n3_ n4_;(try clear hb);(try clear ho0);(try clear ho1))|((with_reducible refine gate_callee (f:=40) rfl ?_);refine goesL_ (some 23) rfl rfl Try.func40 (by kernel_rfl) rfl #[.slice Ao21 y481.length co21] rfl (by(try simp only [List.map_toArray,List.map_cons,List.map_nil]);rfl) ?_;(with_reducible refine(patch_Size.calls k _ _ y481 t494 t495 _ ?side1 ?side2 A2.out).mono ?_);(case side1=>repeat(exact(Kd.N_reads' HO483.out).2.2));(case side2=>exact(Kd.N_reads' HO483.out).2.1);rintro e w24 ⟨rfl,hb⟩;refine⟨_,rfl,?_⟩;have n0_:=Aside0.mk (Kd.N_below (by exact HO483.out) hb);have n1_:=Aside0.mk (Kd.R_below (by exact HO486.out) hb);have n2_:=Aside0.mk (Kd.R_below (by exact HO491.out) hb);have n3_:=Aside0.mk (Kd.R_below (by exact HO493.out) hb);have n4_:=Aside0.mk (below_step (by repeat((with_reducible exact HB.out))) hb);clear HO483;clear HO486;clear HO491;clear HO493;clear HB;have HO483:=n0_;have HO486:=n1_;have HO491:=n2_;have HO493:=n3_;have HB:=n4_;clear n0_ n1_ n2_ n3_ n4_;(try clear hb);obtain⟨Ao25,co25,eo25⟩:=Kd.R_slice HO491.out;subst eo25;have p496:0≤(0:Int):=(by omega);have q496:0<(t487.length:Int):=of_decide_eq_true (by(with_reducible assumption));obtain⟨ad496,e496,hx496_0,hx496_1⟩:=at_T66 (Kd.R_reads' HO491.out).2.2 0 p496 q496;cases e496;have qi496:(0<t487.length)=True:=eq_true (by omega);(try rw [show((0:Int)).toNat=0 from rfl] at hx496_0);(try rw [show 0*2=0 from rfl] at hx496_0);(try rw [Addr.add_zero'] at hx496_0);(try rw [show((0:Int)).toNat=0 from rfl] at hx496_1);(try rw [show 0*2=0 from rfl] at hx496_1);(try rw [Addr.add_zero'] at hx496_1);replace p496:=eq_true p496;replace q496:=eq_true q496;obtain⟨Ao26,co26,eo26⟩:=Kd.R_slice HO493.out;subst eo26;have p497:0≤(0:Int):=(by omega);have q497:0<(t488.length:Int):=of_decide_eq_true (by(with_reducible assumption));obtain⟨ad497,e497,hx497_0,hx497_1⟩:=at_T64 (Kd.R_reads' HO493.out).2.2 0 p497 q497;cases e497;have qi497:(0<t488.length)=True:=eq_true (by omega);(try rw [show((0:Int)).toNat=0 from rfl] at hx497_0);(try rw [show 0*2=0 from rfl] at hx497_0);(try rw [Addr.add_zero'] at hx497_0);(try rw [show((0:Int)).toNat=0 from rfl] at hx497_1);(try rw [show 0*2=0 from rfl] at hx497_1);(try rw [Addr.add_zero'] at hx497_1);replace p497:=eq_true p497;replace q497:=eq_true q497))
         go_ret
         exact⟨by rfl,by repeat((with_reducible exact HB.out))⟩
        ·rw [if_neg c10] at H
         have c10b0:(t494==1)=false:=beq_eq_false_iff_ne.mpr c10
         have c10b1:(t494 != 1)=true:=bne_iff_ne.mpr c10
         exact absurd (Option.some.inj (H.trans (congrArg some HRT.out))) (by decide)
       ·rw [if_neg c9] at H
        have c9b0:(((rd_T64 t488 0).f0)==0&&(((rd_T64 t488 0).f1)==1))=false:=by simpa using c9
        (try(have c9b1:decide (((rd_T64 t488 0).f0)=0&&(((rd_T64 t488 0).f1)==1))=false:=by simpa using c9))
        (try(have c9b2:(((rd_T64 t488 0).f0)==0&&(((rd_T64 t488 0).f1)==1))=false:=by simpa using c9))
        (try(have c9b3: ¬(((rd_T64 t488 0).f0)=0&&(((rd_T64 t488 0).f1)==1)):=by simpa using c9))
        clear c9
        exact absurd (Option.some.inj (H.trans (congrArg some HRT.out))) (by decide)
      ·rw [if_neg c8] at H
       exact absurd H (by simp)
     ·rw [if_neg c7] at H
      have c7b0:((t488.length:Int)==1)=false:=beq_eq_false_iff_ne.mpr c7
      have c7b1:((t488.length:Int) != 1)=true:=bne_iff_ne.mpr c7
      exact absurd (Option.some.inj (H.trans (congrArg some HRT.out))) (by decide)
    ·rw [if_neg c6] at H
     have c6b0:(((rd_T66 t487 0).f0).toList==([120]:List UInt8))=false:=beq_eq_false_iff_ne.mpr c6
     have c6b1:(((rd_T66 t487 0).f0).toList != ([120]:List UInt8))=true:=bne_iff_ne.mpr c6
     exact absurd (Option.some.inj (H.trans (congrArg some HRT.out))) (by decide)
   ·rw [if_neg c5] at H
    exact absurd H (by simp)
  ·rw [if_neg c4] at H
   have c4b0:((t487.length:Int)==2)=false:=beq_eq_false_iff_ne.mpr c4
   have c4b1:((t487.length:Int) != 2)=true:=bne_iff_ne.mpr c4
   exact absurd (Option.some.inj (H.trans (congrArg some HRT.out))) (by decide)
 ·rw [if_neg c3] at H
  have c3b0:(t489==0)=false:=beq_eq_false_iff_ne.mpr c3
  have c3b1:(t489 != 0)=true:=bne_iff_ne.mpr c3
  exact absurd (Option.some.inj (H.trans (congrArg some HRT.out))) (by decide)
end Go.Proofs.Ytfnbodjmmkjlcaa.H
end
