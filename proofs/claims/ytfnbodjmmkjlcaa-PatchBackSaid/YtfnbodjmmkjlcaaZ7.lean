/-
  What the claim needs of the words, of the walks and of the plain proofs, in one row (7).
-/
import Derived.Test.YtfnbodjmmkjlcaaZ0
import Derived.Test.YtfnbodjmmkjlcaaZ1
import Derived.Test.YtfnbodjmmkjlcaaZ2
import Derived.Test.YtfnbodjmmkjlcaaZ3
section
namespace Go.Proofs.Ytfnbodjmmkjlcaa.H
open Go.RowKit Go.Proofs.YtfnbodjmmkjlcaaW.PrintWords Go.Proofs.YtfnbodjmmkjlcaaW.PrintLast Go.Proofs.YtfnbodjmmkjlcaaW.PrintMore
attribute [local go_sem] max2_int min2_int max_two min_two max_three min_three max_four min_four
set_option linter.unusedVariables false
set_option linter.unusedSimpArgs false
attribute [local go_sem high] eqA66
mutual
def jalousieref06_Numbers.l0:Nat→List (List (S66))→List (S66)→List (List Int)→Int→Option ((List (List Int)))
 | 0,_,_,_,_=>none
 | k+1,x0,x3,x4,x5=>if x5<(x0.length:Int) then (jalousieref06_Numbers.l1 k x0 x3 x4 x5 (([]:List Int)) 0) else (some x4)
def jalousieref06_Numbers.l1:Nat→List (List (S66))→List (S66)→List (List Int)→Int→List Int→Int→Option ((List (List Int)))
 | 0,_,_,_,_,_,_=>none
 | k+1,x0,x3,x4,x5,x6,x7=>if 0≤x5 then (if x5<(x0.length:Int) then (if x7<((rd_L4 x0 x5).length:Int) then (jalousieref06_Numbers.l2 k x0 x3 x4 x5 x6 x7 0) else (if x4.length<5864062014805 then (jalousieref06_Numbers.l0 k x0 x3 (x4++ [x6]) (wrap64 (x5+1))) else (none))) else (none)) else (none)
def jalousieref06_Numbers.l2:Nat→List (List (S66))→List (S66)→List (List Int)→Int→List Int→Int→Int→Option ((List (List Int)))
 | 0,_,_,_,_,_,_,_=>none
 | k+1,x0,x3,x4,x5,x6,x7,x8=>if x8<(x3.length:Int) then (if 0≤x8 then (if 0≤x5 then (if x5<(x0.length:Int) then (if 0≤x7 then (if x7<((rd_L4 x0 x5).length:Int) then (if (!((((rd_T66 x3 x8).f0).toList)==(((rd_T66 (rd_L4 x0 x5) x7).f0).toList))||(!(((rd_T66 x3 x8).f1)==((rd_T66 (rd_L4 x0 x5) x7).f1))))=true then (jalousieref06_Numbers.l2 k x0 x3 x4 x5 x6 x7 (wrap64 (x8+1))) else (if x8=(x3.length:Int) then (if x3.length<5864062014805 then (if x6.length<17592186044416 then (jalousieref06_Numbers.l1 k x0 (x3++ [(⟨(rd_T66 (rd_L4 x0 x5) x7).f0,(rd_T66 (rd_L4 x0 x5) x7).f1⟩:S66)]) x4 x5 (x6++ [x8]) (wrap64 (x7+1))) else (none)) else (none)) else (if x6.length<17592186044416 then (jalousieref06_Numbers.l1 k x0 x3 x4 x5 (x6++ [x8]) (wrap64 (x7+1))) else (none)))) else (none)) else (none)) else (none)) else (none)) else (none)) else (if x8=(x3.length:Int) then (if 0≤x5 then (if x5<(x0.length:Int) then (if 0≤x7 then (if x7<((rd_L4 x0 x5).length:Int) then (if x3.length<5864062014805 then (if x6.length<17592186044416 then (jalousieref06_Numbers.l1 k x0 (x3++ [(⟨(rd_T66 (rd_L4 x0 x5) x7).f0,(rd_T66 (rd_L4 x0 x5) x7).f1⟩:S66)]) x4 x5 (x6++ [x8]) (wrap64 (x7+1))) else (none)) else (none)) else (none)) else (none)) else (none)) else (none)) else (if x6.length<17592186044416 then (jalousieref06_Numbers.l1 k x0 x3 x4 x5 (x6++ [x8]) (wrap64 (x7+1))) else (none)))
end
def jalousieref06_Numbers.f (k:Nat) (l0:List (List (S66))):Option ((List (List Int))):=jalousieref06_Numbers.l0 k l0 (([]:List (S66))) (([]:List (List Int))) 0
set_option maxHeartbeats 8000000 in
set_option maxRecDepth 100000 in
theorem jalousieref06_Numbers.calls (k:Nat) (A0:Option Addr) (c0:Nat) (l0:List (List (S66))) (r:List (List Int)) (w:World) (hr0:Kd.C (Kd.slice 66 k66) w A0 l0.length l0) (hc0:l0.length≤c0) (h:jalousieref06_Numbers.f k l0=some r):
  Calls Try.prog 63 #[.slice A0 l0.length c0] w fun e w'=> ∃v0_:Value,e= .returned (v0_)∧Kd.S (Kd.slice 3 (Kd.int .i64)) 53 w' w.heap.size (fun _=>True) v0_ r∧Below w.heap.size w w':=by
 have hu66:=Try.underlying66
 have HR0:=Aside0.mk hr0
 have HC0:=Aside0.mk hc0
 clear hr0 hc0
 have HB:=Aside0.mk (Below.refl w.heap.size w)
 have H:(jalousieref06_Numbers.l0 k l0 (([]:List (S66))) (([]:List (List Int))) 0)=some r:=h
 clear h
 obtain⟨y587,hy587⟩: ∃y_:List (S66),y_=(([]:List (S66))):=⟨_,rfl⟩
 replace H:(jalousieref06_Numbers.l0 k l0 y587 (([]:List (List Int))) 0)=some r:=by(rw [hy587];with_reducible exact H)
 have Ny587:=Aside0.mk hy587
 clear hy587
 obtain⟨y590,hy590⟩: ∃y_:List (List Int),y_=(([]:List (List Int))):=⟨_,rfl⟩
 replace H:(jalousieref06_Numbers.l0 k l0 y587 y590 0)=some r:=by(rw [hy590];with_reducible exact H)
 have Ny590:=Aside0.mk hy590
 clear hy590
 have H':=Aside0.mk H
 clear H
 go_enter Try.func63,Try.ntmps63
 go_wp2_with(first|((with_reducible refine gate_dst (N:=9) rfl ?_);refine Kd.R_lit k66 _ 66 ?hg (N:=9) ?hd (xs:=([]:List (S66))) (inner:= []) (ok:=fun _=>True) (okp:=fun _=>True) ?hr ?hp (fun _ hk=>hk) trivial (Below.refl _ _) (Nat.le_refl _) (by simp) ?_;(case hd=>rfl);(case hg=>rfl);(case hr=>(go_simp;done));(case hp=>exact(Reps.none _ _));intro v588 w2 ho3 hb hg_ hnew_;clear hg_ hnew_;(rw [← Ny587.out] at ho3);have n0_:=Aside0.mk (Kd.R_lower ho3 (below_size (by repeat((with_reducible exact HB.out)))));have n1_:=Aside0.mk (below_step (by repeat((with_reducible exact HB.out))) hb);clear HB;have HO589:=n0_;have HB:=n1_;clear n0_ n1_;clear hb ho3)|((with_reducible refine gate_dst (N:=10) rfl ?_);refine Kd.S_lit (Kd.slice 3 (Kd.int .i64)) _ 53 ?hg (N:=10) ?hd (xs:=([]:List (List Int))) (inner:= []) (ok:=fun _=>True) (okp:=fun _=>True) ?hr ?hp (fun _ hk=>hk) trivial (Below.refl _ _) (Nat.le_refl _) (by simp) ?_;(case hd=>rfl);(case hg=>rfl);(case hr=>(go_simp;done));(case hp=>exact(Reps.none _ _));intro v591 w4 ho5 hb hg_ hnew_;clear hg_ hnew_;(rw [← Ny590.out] at ho5);have n0_:=Aside0.mk (Kd.R_below (by exact HO589.out) hb);have n1_:=Aside0.mk (Kd.S_lower ho5 (below_size (by repeat((with_reducible exact HB.out)))));have n2_:=Aside0.mk (below_step (by repeat((with_reducible exact HB.out))) hb);clear HO589;clear HB;have HO589:=n0_;have HO592:=n1_;have HB:=n2_;clear n0_ n1_ n2_;clear hb ho5))
 go_loopg [3,4,5] k (fun kq v3 v4 v5 w'=> ∃(x3_1:List (S66)) (x4_1:List (List Int)) (x5_1:Int),v5= .int .i64 x5_1∧Aside0 (jalousieref06_Numbers.l0 kq l0 x3_1 x4_1 x5_1=some r)∧Aside0 (kq≤k)∧Aside0 (Kd.R k66 66 w' w.heap.size (fun _=>True) v3 x3_1)∧Aside0 (Kd.S (Kd.slice 3 (Kd.int .i64)) 53 w' w.heap.size (fun _=>True) v4 x4_1)∧Aside0 (Below w.heap.size w w'))
 case atStart=>exact⟨(y587),(y590),(0),(by rfl),H',⟨Nat.le_refl _⟩,⟨by exact HO589.out⟩,⟨by exact HO592.out⟩,⟨by repeat((with_reducible exact HB.out))⟩⟩
 case round=>
  clear H'
  obtain⟨x3_1,x4_1,x5_1,rfl,HA,HK1,HO_3,HO_4,HB⟩:=hrel
  cases gk with
  | zero=>exact absurd HA.out (by simp [jalousieref06_Numbers.l0])
  | succ k1=>
   have H:=HA.out
   clear HA
   simp only [jalousieref06_Numbers.l0] at H
   by_cases c6:x5_1<(l0.length:Int)
   ·rw [if_pos c6] at H
    have c6b0:decide (x5_1<(l0.length:Int))=true:=decide_eq_true c6
    clear c6
    obtain⟨y593,hy593⟩: ∃y_:List Int,y_=(([]:List Int)):=⟨_,rfl⟩
    replace H:(jalousieref06_Numbers.l1 k1 l0 x3_1 x4_1 x5_1 y593 0)=some r:=by(rw [hy593];with_reducible exact H)
    have Ny593:=Aside0.mk hy593
    clear hy593
    have H':=Aside0.mk H
    clear H
    go_wp2_with(((with_reducible refine gate_dst (N:=17) rfl ?_);refine Kd.R_lit (Kd.int .i64) _ 3 ?hg (N:=17) ?hd (xs:=([]:List Int)) (inner:= []) (ok:=fun _=>True) (okp:=fun _=>True) ?hr ?hp (fun _ hk=>hk) trivial (Below.refl _ _) (Nat.le_refl _) (by simp) ?_;(case hd=>rfl);(case hg=>rfl);(case hr=>(go_simp;done));(case hp=>exact(Reps.none _ _));intro v594 w7 ho8 hb hg_ hnew_;clear hg_ hnew_;(rw [← Ny593.out] at ho8);have n0_:=Aside0.mk (Kd.R_below (by exact HO_3.out) hb);have n1_:=Aside0.mk (Kd.S_elder' (by exact HO_4.out) (Kd.R_base ho8) hb);have n2_:=Aside0.mk (Kd.R_lower ho8 (below_size (by repeat((with_reducible exact HB.out)))));have n3_:=Aside0.mk (below_step (by repeat((with_reducible exact HB.out))) hb);clear HO_3;clear HO_4;clear HB;have HO_3:=n0_;have HO_4:=n1_;have HO595:=n2_;have HB:=n3_;clear n0_ n1_ n2_ n3_;clear hb ho8))
    go_loopg [3,6,7] k1 (fun kq v3 v6 v7 w'=> ∃(x3_2:List (S66)) (x6_2:List Int) (x7_2:Int),v7= .int .i64 x7_2∧Aside0 (jalousieref06_Numbers.l1 kq l0 x3_2 x4_1 x5_1 x6_2 x7_2=some r)∧Aside0 (kq≤k1)∧Aside0 (Kd.R k66 66 w' w.heap.size (fun _=>True) v3 x3_2)∧Aside0 (Kd.S (Kd.slice 3 (Kd.int .i64)) 53 w' w.heap.size (fun k_=>some k_≠(v6:Value).ownBlock) u4 x4_1)∧Aside0 (Kd.R (Kd.int .i64) 3 w' w.heap.size (fun _=>True) v6 x6_2)∧Aside0 (Below w.heap.size w w'))
    case atStart=>exact⟨(x3_1),(y593),(0),(by rfl),H',⟨Nat.le_refl _⟩,⟨by exact HO_3.out⟩,⟨by exact Kd.S_mono HO_4.out (fun _ hk=>hk.2)⟩,⟨by exact HO595.out⟩,⟨by repeat((with_reducible exact HB.out))⟩⟩
    case round=>
     clear H'
     try clear c6b0
     obtain⟨x3_2,x6_2,x7_2,rfl,HA,HK2,HO_3,HO_4,HO_6,HB⟩:=hrel
     cases gk with
     | zero=>exact absurd HA.out (by simp [jalousieref06_Numbers.l1])
     | succ k2=>
      have H:=HA.out
      clear HA
      simp only [jalousieref06_Numbers.l1] at H
      by_cases c9:0≤x5_1
      ·rw [if_pos c9] at H
       have c9b0:decide (0≤x5_1)=true:=decide_eq_true c9
       clear c9
       by_cases c10:x5_1<(l0.length:Int)
       ·rw [if_pos c10] at H
        have c10b0:decide (x5_1<(l0.length:Int))=true:=decide_eq_true c10
        clear c10
        by_cases c11:x7_2<((rd_L4 l0 x5_1).length:Int)
        ·rw [if_pos c11] at H
         have c11b0:decide (x7_2<((rd_L4 l0 x5_1).length:Int))=true:=decide_eq_true c11
         clear c11
         have H':=Aside0.mk H
         clear H
         have p596:0≤(x5_1:Int):=of_decide_eq_true (by(with_reducible assumption))
         have q596:x5_1<(l0.length:Int):=of_decide_eq_true (by(with_reducible assumption))
         obtain⟨ad596,A596_0,c596_0,e596,hx596_0,hl596_0,hi596_0⟩:=at_L4 HR0.out x5_1 p596 q596
         cases e596
         replace hx596_0:=(HB.out.cell (World.block_lt_of_cell? w _ hx596_0)).trans hx596_0
         have HR596_0:=Aside0.mk hi596_0
         have HC596_0:=Aside0.mk hl596_0
         clear hi596_0 hl596_0
         replace p596:=eq_true p596
         replace q596:=eq_true q596
         go_wp2
         go_loopg [8] k2 (fun kq v8 w'=> ∃(x8_3:Int),v8= .int .i64 x8_3∧Aside0 (jalousieref06_Numbers.l2 kq l0 x3_2 x4_1 x5_1 x6_2 x7_2 x8_3=some r)∧Aside0 (kq≤k2)∧Aside0 (Kd.R k66 66 w' w.heap.size (fun _=>True) u3 x3_2)∧Aside0 (Kd.S (Kd.slice 3 (Kd.int .i64)) 53 w' w.heap.size (fun k_=>some k_≠(u6:Value).ownBlock) u4 x4_1)∧Aside0 (Kd.R (Kd.int .i64) 3 w' w.heap.size (fun _=>True) u6 x6_2)∧Aside0 (Below w.heap.size w w'))
         case atStart=>exact⟨(0),(by rfl),H',⟨Nat.le_refl _⟩,⟨by exact HO_3.out⟩,⟨by exact HO_4.out⟩,⟨by exact HO_6.out⟩,⟨by repeat((with_reducible exact HB.out))⟩⟩
         case round=>
          clear H'
          try clear c9b0
          try clear c10b0
          try clear c11b0
          try clear hx596_0
          try clear p596
          try clear q596
          obtain⟨x8_3,rfl,HA,HK3,HO_3,HO_4,HO_6,HB⟩:=hrel
          cases gk with
          | zero=>exact absurd HA.out (by simp [jalousieref06_Numbers.l2])
          | succ k3=>
           have H:=HA.out
           clear HA
           simp only [jalousieref06_Numbers.l2] at H
           by_cases c12:x8_3<(x3_2.length:Int)
           ·rw [if_pos c12] at H
            have c12b0:decide (x8_3<(x3_2.length:Int))=true:=decide_eq_true c12
            clear c12
            by_cases c13:0≤x8_3
            ·rw [if_pos c13] at H
             have c13b0:decide (0≤x8_3)=true:=decide_eq_true c13
             clear c13
             by_cases c14:0≤x5_1
             ·rw [if_pos c14] at H
              have c14b0:decide (0≤x5_1)=true:=decide_eq_true c14
              clear c14
              by_cases c15:x5_1<(l0.length:Int)
              ·rw [if_pos c15] at H
               have c15b0:decide (x5_1<(l0.length:Int))=true:=decide_eq_true c15
               clear c15
               by_cases c16:0≤x7_2
               ·rw [if_pos c16] at H
                have c16b0:decide (0≤x7_2)=true:=decide_eq_true c16
                clear c16
                by_cases c17:x7_2<((rd_L4 l0 x5_1).length:Int)
                ·rw [if_pos c17] at H
                 have c17b0:decide (x7_2<((rd_L4 l0 x5_1).length:Int))=true:=decide_eq_true c17
                 clear c17
                 by_cases c18:(!((((rd_T66 x3_2 x8_3).f0).toList)==(((rd_T66 (rd_L4 l0 x5_1) x7_2).f0).toList))||(!(((rd_T66 x3_2 x8_3).f1)==((rd_T66 (rd_L4 l0 x5_1) x7_2).f1))))=true
                 ·rw [if_pos c18] at H
                  have c18b0:(!((((rd_T66 x3_2 x8_3).f0).toList)==(((rd_T66 (rd_L4 l0 x5_1) x7_2).f0).toList))||(!(((rd_T66 x3_2 x8_3).f1)==((rd_T66 (rd_L4 l0 x5_1) x7_2).f1))))=true:=c18
                  clear c18
                  have H':=Aside0.mk H
                  clear H
                  obtain⟨Ao19,co19,eo19⟩:=Kd.R_slice HO_3.out
                  subst eo19
                  have p600:0≤(x8_3:Int):=of_decide_eq_true (by(with_reducible assumption))
                  have q600:x8_3<(x3_2.length:Int):=of_decide_eq_true (by(with_reducible assumption))
                  obtain⟨ad600,e600,hx600_0,hx600_1⟩:=at_T66 (Kd.R_reads' HO_3.out).2.2 x8_3 p600 q600
                  cases e600
                  replace p600:=eq_true p600
                  replace q600:=eq_true q600
                  have p601:0≤(x5_1:Int):=of_decide_eq_true (by(with_reducible assumption))
                  have q601:x5_1<(l0.length:Int):=of_decide_eq_true (by(with_reducible assumption))
                  obtain⟨ad601,A601_0,c601_0,e601,hx601_0,hl601_0,hi601_0⟩:=at_L4 HR0.out x5_1 p601 q601
                  obtain rfl:ad596=ad601:=(by injection e601)
                  replace hx601_0:=(HB.out.cell (World.block_lt_of_cell? w _ hx601_0)).trans hx601_0
                  have HR601_0:=Aside0.mk hi601_0
                  have HC601_0:=Aside0.mk hl601_0
                  clear hi601_0 hl601_0
                  replace p601:=eq_true p601
                  replace q601:=eq_true q601
                  have p602:0≤(x7_2:Int):=of_decide_eq_true (by(with_reducible assumption))
                  have q602:x7_2<((rd_L4 l0 x5_1).length:Int):=of_decide_eq_true (by(with_reducible assumption))
                  obtain⟨ad602,e602,hx602_0,hx602_1⟩:=at_T66 HR601_0.out x7_2 p602 q602
                  cases e602
                  replace hx602_0:=(HB.out.cell (World.block_lt_of_cell? w _ hx602_0)).trans hx602_0
                  replace hx602_1:=(HB.out.cell (World.block_lt_of_cell? w _ hx602_1)).trans hx602_1
                  replace p602:=eq_true p602
                  replace q602:=eq_true q602
                  go_wp2
                  repeat(go_quiet (fail);try go_wp2)
                  go_roundg k3
                  case measure=>have:=HK1.out;have:=HK2.out;have:=HK3.out;omega
                  case rel=>exact⟨(wrap64 (x8_3+1)),(by rfl),H',⟨by have:=HK1.out;have:=HK2.out;have:=HK3.out;omega⟩,⟨by(with_reducible repeat apply zr2);exact HO_3.out⟩,⟨by(with_reducible repeat(apply Kd.S_drewN));exact HO_4.out⟩,⟨by(with_reducible repeat apply zr2);exact HO_6.out⟩,⟨by repeat((with_reducible first|exact HB.out|apply pw_below_drewN))⟩⟩
                 ·rw [if_neg c18] at H
                  have c18b0:(!((((rd_T66 x3_2 x8_3).f0).toList)==(((rd_T66 (rd_L4 l0 x5_1) x7_2).f0).toList))||(!(((rd_T66 x3_2 x8_3).f1)==((rd_T66 (rd_L4 l0 x5_1) x7_2).f1))))=false:=by simpa using c18
                  clear c18
                  by_cases c20:x8_3=(x3_2.length:Int)
                  ·rw [if_pos c20] at H
                   have c20b0:(x8_3==(x3_2.length:Int))=true:=beq_iff_eq.mpr c20
                   have c20b1:(x8_3 != (x3_2.length:Int))=false:=bne_eq_false_iff_eq.mpr c20
                   clear c20
                   by_cases c21:x3_2.length<5864062014805
                   ·rw [if_pos c21] at H
                    have LMc21:=Aside0.mk c21
                    clear c21
                    obtain⟨y605,hy605⟩: ∃y_:List (S66),y_=(x3_2++ [(⟨(rd_T66 (rd_L4 l0 x5_1) x7_2).f0,(rd_T66 (rd_L4 l0 x5_1) x7_2).f1⟩:S66)]):=⟨_,rfl⟩
                    replace H:(if x6_2.length<17592186044416 then (jalousieref06_Numbers.l1 k3 l0 y605 x4_1 x5_1 (x6_2++ [x8_3]) (wrap64 (x7_2+1))) else (none))=some r:=by(rw [hy605];with_reducible exact H)
                    have Ny605:=Aside0.mk hy605
                    clear hy605
                    by_cases c22:x6_2.length<17592186044416
                    ·rw [if_pos c22] at H
                     have LMc22:=Aside0.mk c22
                     clear c22
                     obtain⟨y608,hy608⟩: ∃y_:List Int,y_=(x6_2++ [x8_3]):=⟨_,rfl⟩
                     replace H:(jalousieref06_Numbers.l1 k3 l0 y605 x4_1 x5_1 y608 (wrap64 (x7_2+1)))=some r:=by(rw [hy608];with_reducible exact H)
                     have Ny608:=Aside0.mk hy608
                     clear hy608
                     have H':=Aside0.mk H
                     clear H
                     obtain⟨Ao23,co23,eo23⟩:=Kd.R_slice HO_3.out
                     subst eo23
                     have p600:0≤(x8_3:Int):=of_decide_eq_true (by(with_reducible assumption))
                     have q600:x8_3<(x3_2.length:Int):=of_decide_eq_true (by(with_reducible assumption))
                     obtain⟨ad600,e600,hx600_0,hx600_1⟩:=at_T66 (Kd.R_reads' HO_3.out).2.2 x8_3 p600 q600
                     cases e600
                     replace p600:=eq_true p600
                     replace q600:=eq_true q600
                     have p601:0≤(x5_1:Int):=of_decide_eq_true (by(with_reducible assumption))
                     have q601:x5_1<(l0.length:Int):=of_decide_eq_true (by(with_reducible assumption))
                     obtain⟨ad601,A601_0,c601_0,e601,hx601_0,hl601_0,hi601_0⟩:=at_L4 HR0.out x5_1 p601 q601
                     obtain rfl:ad596=ad601:=(by injection e601)
                     replace hx601_0:=(HB.out.cell (World.block_lt_of_cell? w _ hx601_0)).trans hx601_0
                     have HR601_0:=Aside0.mk hi601_0
                     have HC601_0:=Aside0.mk hl601_0
                     clear hi601_0 hl601_0
                     replace p601:=eq_true p601
                     replace q601:=eq_true q601
                     have p602:0≤(x7_2:Int):=of_decide_eq_true (by(with_reducible assumption))
                     have q602:x7_2<((rd_L4 l0 x5_1).length:Int):=of_decide_eq_true (by(with_reducible assumption))
                     obtain⟨ad602,e602,hx602_0,hx602_1⟩:=at_T66 HR601_0.out x7_2 p602 q602
                     cases e602
                     replace hx602_0:=(HB.out.cell (World.block_lt_of_cell? w _ hx602_0)).trans hx602_0
                     replace hx602_1:=(HB.out.cell (World.block_lt_of_cell? w _ hx602_1)).trans hx602_1
                     replace p602:=eq_true p602
                     replace q602:=eq_true q602
                     have p603:0≤(x5_1:Int):=of_decide_eq_true (by(with_reducible assumption))
                     have q603:x5_1<(l0.length:Int):=of_decide_eq_true (by(with_reducible assumption))
                     obtain⟨ad603,A603_0,c603_0,e603,hx603_0,hl603_0,hi603_0⟩:=at_L4 HR0.out x5_1 p603 q603
                     obtain rfl:ad596=ad603:=(by injection e603)
                     replace hx603_0:=(HB.out.cell (World.block_lt_of_cell? w _ hx603_0)).trans hx603_0
                     have HR603_0:=Aside0.mk hi603_0
                     have HC603_0:=Aside0.mk hl603_0
                     clear hi603_0 hl603_0
                     replace p603:=eq_true p603
                     replace q603:=eq_true q603
                     have ea_:=Option.some.inj (hx601_0.symm.trans hx603_0)
                     injection ea_ with ea_ en_ ec_
                     subst ea_
                     subst ec_
                     clear en_
                     have p604:0≤(x7_2:Int):=of_decide_eq_true (by(with_reducible assumption))
                     have q604:x7_2<((rd_L4 l0 x5_1).length:Int):=of_decide_eq_true (by(with_reducible assumption))
                     obtain⟨ad604,e604,hx604_0,hx604_1⟩:=at_T66 HR603_0.out x7_2 p604 q604
                     cases e604
                     replace hx604_0:=(HB.out.cell (World.block_lt_of_cell? w _ hx604_0)).trans hx604_0
                     replace hx604_1:=(HB.out.cell (World.block_lt_of_cell? w _ hx604_1)).trans hx604_1
                     replace p604:=eq_true p604
                     replace q604:=eq_true q604
                     go_wp2_with(fail)
                     repeat(go_quiet (fail);try go_wp2_with(first|((with_reducible refine gate_builtin (b:= .append) (xs:= #[.tmp 51, .tmp 59]) rfl ?_);at_builtin;refine Kd.R_append k66 (w0:=w) w.heap.size rfl (.tmp 51) (.tmp 59) 37 66 (.agg #[(.string ⟨#[]⟩),(.bool false)]) 24 rfl Try.underlying37 info66 rfl (by decide) (by omega) (.slice (some ad600) x3_2.length co23) x3_2 (⟨(rd_T66 (rd_L4 l0 x5_1) x7_2).f0,(rd_T66 (rd_L4 l0 x5_1) x7_2).f1⟩:S66) [.string ((rd_T66 (rd_L4 l0 x5_1) x7_2).f0), .bool ((rd_T66 (rd_L4 l0 x5_1) x7_2).f1)] (fun _=>True) (fun _=>False) rfl rfl ?aP (fun _ hk=>hk.elim) ?aF ?aO ?aB ?aS ?aL ?_;(case aP=>exact k66_mkM _ _ _ (⟨(rd_T66 (rd_L4 l0 x5_1) x7_2).f0,(rd_T66 (rd_L4 l0 x5_1) x7_2).f1⟩:S66));(case aB=>exact(by repeat((with_reducible first|exact HB.out|apply pw_below_drewN))));(case aF=>exact(fun _ _=>trivial));(case aO=>exact(by(with_reducible repeat apply zr2);exact HO_3.out));(case aS=>exact(below_size (by repeat((with_reducible first|exact HB.out|apply pw_below_drewN)))));(case aL=>have:=LMc21.out;omega);intro v606 w24 ho hb hg hat;rw [← Ny605.out] at ho;have n0_:=Aside0.mk (Kd.S_over' (by(with_reducible repeat(apply Kd.S_drewN));exact HO_4.out) (Kd.R_typed (by(with_reducible repeat apply zr2);exact HO_3.out)) (by decide) hg);have n1_:=Aside0.mk (Kd.R_over' (by(with_reducible repeat apply zr2);exact HO_6.out) (Kd.R_typed (by(with_reducible repeat apply zr2);exact HO_3.out)) (by decide) hg);have n2_:=Aside0.mk (hb);have n3_:=Aside0.mk (ho);clear HO_4;clear HO_6;clear HB;clear HO_3;have HO_4:=n0_;have HO_6:=n1_;have HB:=n2_;have HO607:=n3_;clear n0_ n1_ n2_ n3_;clear ho hb hg hat)|((with_reducible refine gate_builtin (b:= .append) (xs:= #[.tmp 61, .tmp 63]) rfl ?_);at_builtin;refine Kd.R_append (Kd.int .i64) (w0:=w) w.heap.size rfl (.tmp 61) (.tmp 63) 53 3 (.int .i64 0) 8 rfl Try.underlying53 info3 rfl (by decide) (by omega) u6 x6_2 x8_3 [.int .i64 x8_3] (fun _=>True) (fun _=>False) rfl rfl ?aP (fun _ hk=>hk.elim) ?aF ?aO ?aB ?aS ?aL ?_;(case aP=>exact rfl);(case aB=>exact(by repeat((with_reducible exact HB.out))));(case aF=>exact(fun _ _=>trivial));(case aO=>exact(by exact HO_6.out));(case aS=>exact(below_size (by repeat((with_reducible exact HB.out)))));(case aL=>have:=LMc22.out;omega);intro v609 w25 ho hb hg hat;rw [← Ny608.out] at ho;have n0_:=Aside0.mk (Kd.S_after (ok:=(fun _=>True)) (by exact Kd.S_mono HO_4.out (fun _ hk=>⟨trivial,hk⟩)) hg hat);have n1_:=Aside0.mk (Kd.R_over' (by exact HO607.out) (Kd.R_typed (by exact HO_6.out)) (by decide) hg);have n2_:=Aside0.mk (hb);have n3_:=Aside0.mk (ho);clear HO_4;clear HO607;clear HB;clear HO_6;have HO_4:=n0_;have HO607:=n1_;have HB:=n2_;have HO610:=n3_;clear n0_ n1_ n2_ n3_;clear ho hb hg hat)))
                     go_roundg k3
                     case measure=>have:=HK1.out;have:=HK2.out;have:=HK3.out;omega
                     case rel=>exact⟨(y605),(y608),(wrap64 (x7_2+1)),(by rfl),H',⟨by have:=HK1.out;have:=HK2.out;have:=HK3.out;omega⟩,⟨by exact HO607.out⟩,⟨by exact Kd.S_mono HO_4.out (fun _ hk=>hk.2)⟩,⟨by exact HO610.out⟩,⟨by repeat((with_reducible exact HB.out))⟩⟩
                    ·rw [if_neg c22] at H
                     exact absurd H (by simp)
                   ·rw [if_neg c21] at H
                    exact absurd H (by simp)
                  ·rw [if_neg c20] at H
                   have c20b0:(x8_3==(x3_2.length:Int))=false:=beq_eq_false_iff_ne.mpr c20
                   have c20b1:(x8_3 != (x3_2.length:Int))=true:=bne_iff_ne.mpr c20
                   by_cases c26:x6_2.length<17592186044416
                   ·rw [if_pos c26] at H
                    have LMc26:=Aside0.mk c26
                    clear c26
                    obtain⟨y611,hy611⟩: ∃y_:List Int,y_=(x6_2++ [x8_3]):=⟨_,rfl⟩
                    replace H:(jalousieref06_Numbers.l1 k3 l0 x3_2 x4_1 x5_1 y611 (wrap64 (x7_2+1)))=some r:=by(rw [hy611];with_reducible exact H)
                    have Ny611:=Aside0.mk hy611
                    clear hy611
                    have H':=Aside0.mk H
                    clear H
                    obtain⟨Ao27,co27,eo27⟩:=Kd.R_slice HO_3.out
                    subst eo27
                    have p600:0≤(x8_3:Int):=of_decide_eq_true (by(with_reducible assumption))
                    have q600:x8_3<(x3_2.length:Int):=of_decide_eq_true (by(with_reducible assumption))
                    obtain⟨ad600,e600,hx600_0,hx600_1⟩:=at_T66 (Kd.R_reads' HO_3.out).2.2 x8_3 p600 q600
                    cases e600
                    replace p600:=eq_true p600
                    replace q600:=eq_true q600
                    have p601:0≤(x5_1:Int):=of_decide_eq_true (by(with_reducible assumption))
                    have q601:x5_1<(l0.length:Int):=of_decide_eq_true (by(with_reducible assumption))
                    obtain⟨ad601,A601_0,c601_0,e601,hx601_0,hl601_0,hi601_0⟩:=at_L4 HR0.out x5_1 p601 q601
                    obtain rfl:ad596=ad601:=(by injection e601)
                    replace hx601_0:=(HB.out.cell (World.block_lt_of_cell? w _ hx601_0)).trans hx601_0
                    have HR601_0:=Aside0.mk hi601_0
                    have HC601_0:=Aside0.mk hl601_0
                    clear hi601_0 hl601_0
                    replace p601:=eq_true p601
                    replace q601:=eq_true q601
                    have p602:0≤(x7_2:Int):=of_decide_eq_true (by(with_reducible assumption))
                    have q602:x7_2<((rd_L4 l0 x5_1).length:Int):=of_decide_eq_true (by(with_reducible assumption))
                    obtain⟨ad602,e602,hx602_0,hx602_1⟩:=at_T66 HR601_0.out x7_2 p602 q602
                    cases e602
                    replace hx602_0:=(HB.out.cell (World.block_lt_of_cell? w _ hx602_0)).trans hx602_0
                    replace hx602_1:=(HB.out.cell (World.block_lt_of_cell? w _ hx602_1)).trans hx602_1
                    replace p602:=eq_true p602
                    replace q602:=eq_true q602
                    go_wp2_with(fail)
                    repeat(go_quiet (fail);try go_wp2_with(((with_reducible refine gate_builtin (b:= .append) (xs:= #[.tmp 61, .tmp 63]) rfl ?_);at_builtin;refine Kd.R_append (Kd.int .i64) (w0:=w) w.heap.size rfl (.tmp 61) (.tmp 63) 53 3 (.int .i64 0) 8 rfl Try.underlying53 info3 rfl (by decide) (by omega) u6 x6_2 x8_3 [.int .i64 x8_3] (fun _=>True) (fun _=>False) rfl rfl ?aP (fun _ hk=>hk.elim) ?aF ?aO ?aB ?aS ?aL ?_;(case aP=>exact rfl);(case aB=>exact(by repeat((with_reducible first|exact HB.out|apply pw_below_drewN))));(case aF=>exact(fun _ _=>trivial));(case aO=>exact(by(with_reducible repeat apply zr2);exact HO_6.out));(case aS=>exact(below_size (by repeat((with_reducible first|exact HB.out|apply pw_below_drewN)))));(case aL=>have:=LMc26.out;omega);intro v612 w28 ho hb hg hat;rw [← Ny611.out] at ho;have n0_:=Aside0.mk (Kd.R_over' (by(with_reducible repeat apply zr2);exact HO_3.out) (Kd.R_typed (by(with_reducible repeat apply zr2);exact HO_6.out)) (by decide) hg);have n1_:=Aside0.mk (Kd.S_after (ok:=(fun _=>True)) (by(with_reducible repeat(apply Kd.S_drewN));exact Kd.S_mono HO_4.out (fun _ hk=>⟨trivial,hk⟩)) hg hat);have n2_:=Aside0.mk (hb);have n3_:=Aside0.mk (ho);clear HO_3;clear HO_4;clear HB;clear HO_6;have HO_3:=n0_;have HO_4:=n1_;have HB:=n2_;have HO613:=n3_;clear n0_ n1_ n2_ n3_;clear ho hb hg hat)))
                    go_roundg k3
                    case measure=>have:=HK1.out;have:=HK2.out;have:=HK3.out;omega
                    case rel=>exact⟨(x3_2),(y611),(wrap64 (x7_2+1)),(by rfl),H',⟨by have:=HK1.out;have:=HK2.out;have:=HK3.out;omega⟩,⟨by exact HO_3.out⟩,⟨by exact Kd.S_mono HO_4.out (fun _ hk=>hk.2)⟩,⟨by exact HO613.out⟩,⟨by repeat((with_reducible exact HB.out))⟩⟩
                   ·rw [if_neg c26] at H
                    exact absurd H (by simp)
                ·rw [if_neg c17] at H
                 exact absurd H (by simp)
               ·rw [if_neg c16] at H
                exact absurd H (by simp)
              ·rw [if_neg c15] at H
               exact absurd H (by simp)
             ·rw [if_neg c14] at H
              exact absurd H (by simp)
            ·rw [if_neg c13] at H
             exact absurd H (by simp)
           ·rw [if_neg c12] at H
            have c12b0:decide (x8_3<(x3_2.length:Int))=false:=decide_eq_false c12
            clear c12
            by_cases c29:x8_3=(x3_2.length:Int)
            ·rw [if_pos c29] at H
             have c29b0:(x8_3==(x3_2.length:Int))=true:=beq_iff_eq.mpr c29
             have c29b1:(x8_3 != (x3_2.length:Int))=false:=bne_eq_false_iff_eq.mpr c29
             clear c29
             by_cases c30:0≤x5_1
             ·rw [if_pos c30] at H
              have c30b0:decide (0≤x5_1)=true:=decide_eq_true c30
              clear c30
              by_cases c31:x5_1<(l0.length:Int)
              ·rw [if_pos c31] at H
               have c31b0:decide (x5_1<(l0.length:Int))=true:=decide_eq_true c31
               clear c31
               by_cases c32:0≤x7_2
               ·rw [if_pos c32] at H
                have c32b0:decide (0≤x7_2)=true:=decide_eq_true c32
                clear c32
                by_cases c33:x7_2<((rd_L4 l0 x5_1).length:Int)
                ·rw [if_pos c33] at H
                 have c33b0:decide (x7_2<((rd_L4 l0 x5_1).length:Int))=true:=decide_eq_true c33
                 clear c33
                 by_cases c34:x3_2.length<5864062014805
                 ·rw [if_pos c34] at H
                  have LMc34:=Aside0.mk c34
                  clear c34
                  obtain⟨y616,hy616⟩: ∃y_:List (S66),y_=(x3_2++ [(⟨(rd_T66 (rd_L4 l0 x5_1) x7_2).f0,(rd_T66 (rd_L4 l0 x5_1) x7_2).f1⟩:S66)]):=⟨_,rfl⟩
                  replace H:(if x6_2.length<17592186044416 then (jalousieref06_Numbers.l1 k3 l0 y616 x4_1 x5_1 (x6_2++ [x8_3]) (wrap64 (x7_2+1))) else (none))=some r:=by(rw [hy616];with_reducible exact H)
                  have Ny616:=Aside0.mk hy616
                  clear hy616
                  by_cases c35:x6_2.length<17592186044416
                  ·rw [if_pos c35] at H
                   have LMc35:=Aside0.mk c35
                   clear c35
                   obtain⟨y619,hy619⟩: ∃y_:List Int,y_=(x6_2++ [x8_3]):=⟨_,rfl⟩
                   replace H:(jalousieref06_Numbers.l1 k3 l0 y616 x4_1 x5_1 y619 (wrap64 (x7_2+1)))=some r:=by(rw [hy619];with_reducible exact H)
                   have Ny619:=Aside0.mk hy619
                   clear hy619
                   have H':=Aside0.mk H
                   clear H
                   obtain⟨Ao36,co36,eo36⟩:=Kd.R_slice HO_3.out
                   subst eo36
                   have p614:0≤(x5_1:Int):=of_decide_eq_true (by(with_reducible assumption))
                   have q614:x5_1<(l0.length:Int):=of_decide_eq_true (by(with_reducible assumption))
                   obtain⟨ad614,A614_0,c614_0,e614,hx614_0,hl614_0,hi614_0⟩:=at_L4 HR0.out x5_1 p614 q614
                   obtain rfl:ad596=ad614:=(by injection e614)
                   replace hx614_0:=(HB.out.cell (World.block_lt_of_cell? w _ hx614_0)).trans hx614_0
                   have HR614_0:=Aside0.mk hi614_0
                   have HC614_0:=Aside0.mk hl614_0
                   clear hi614_0 hl614_0
                   replace p614:=eq_true p614
                   replace q614:=eq_true q614
                   have p615:0≤(x7_2:Int):=of_decide_eq_true (by(with_reducible assumption))
                   have q615:x7_2<((rd_L4 l0 x5_1).length:Int):=of_decide_eq_true (by(with_reducible assumption))
                   obtain⟨ad615,e615,hx615_0,hx615_1⟩:=at_T66 HR614_0.out x7_2 p615 q615
                   cases e615
                   replace hx615_0:=(HB.out.cell (World.block_lt_of_cell? w _ hx615_0)).trans hx615_0
                   replace hx615_1:=(HB.out.cell (World.block_lt_of_cell? w _ hx615_1)).trans hx615_1
                   replace p615:=eq_true p615
                   replace q615:=eq_true q615
                   go_wp2_with(fail)
                   repeat(go_quiet (fail);try go_wp2_with(first|((with_reducible refine gate_builtin (b:= .append) (xs:= #[.tmp 51, .tmp 59]) rfl ?_);at_builtin;refine Kd.R_append k66 (w0:=w) w.heap.size rfl (.tmp 51) (.tmp 59) 37 66 (.agg #[(.string ⟨#[]⟩),(.bool false)]) 24 rfl Try.underlying37 info66 rfl (by decide) (by omega) (.slice Ao36 x3_2.length co36) x3_2 (⟨(rd_T66 (rd_L4 l0 x5_1) x7_2).f0,(rd_T66 (rd_L4 l0 x5_1) x7_2).f1⟩:S66) [.string ((rd_T66 (rd_L4 l0 x5_1) x7_2).f0), .bool ((rd_T66 (rd_L4 l0 x5_1) x7_2).f1)] (fun _=>True) (fun _=>False) rfl rfl ?aP (fun _ hk=>hk.elim) ?aF ?aO ?aB ?aS ?aL ?_;(case aP=>exact k66_mkM _ _ _ (⟨(rd_T66 (rd_L4 l0 x5_1) x7_2).f0,(rd_T66 (rd_L4 l0 x5_1) x7_2).f1⟩:S66));(case aB=>exact(by repeat((with_reducible first|exact HB.out|apply pw_below_drewN))));(case aF=>exact(fun _ _=>trivial));(case aO=>exact(by(with_reducible repeat apply zr2);exact HO_3.out));(case aS=>exact(below_size (by repeat((with_reducible first|exact HB.out|apply pw_below_drewN)))));(case aL=>have:=LMc34.out;omega);intro v617 w37 ho hb hg hat;rw [← Ny616.out] at ho;have n0_:=Aside0.mk (Kd.S_over' (by(with_reducible repeat(apply Kd.S_drewN));exact HO_4.out) (Kd.R_typed (by(with_reducible repeat apply zr2);exact HO_3.out)) (by decide) hg);have n1_:=Aside0.mk (Kd.R_over' (by(with_reducible repeat apply zr2);exact HO_6.out) (Kd.R_typed (by(with_reducible repeat apply zr2);exact HO_3.out)) (by decide) hg);have n2_:=Aside0.mk (hb);have n3_:=Aside0.mk (ho);clear HO_4;clear HO_6;clear HB;clear HO_3;have HO_4:=n0_;have HO_6:=n1_;have HB:=n2_;have HO618:=n3_;clear n0_ n1_ n2_ n3_;clear ho hb hg hat)|((with_reducible refine gate_builtin (b:= .append) (xs:= #[.tmp 61, .tmp 63]) rfl ?_);at_builtin;refine Kd.R_append (Kd.int .i64) (w0:=w) w.heap.size rfl (.tmp 61) (.tmp 63) 53 3 (.int .i64 0) 8 rfl Try.underlying53 info3 rfl (by decide) (by omega) u6 x6_2 x8_3 [.int .i64 x8_3] (fun _=>True) (fun _=>False) rfl rfl ?aP (fun _ hk=>hk.elim) ?aF ?aO ?aB ?aS ?aL ?_;(case aP=>exact rfl);(case aB=>exact(by repeat((with_reducible exact HB.out))));(case aF=>exact(fun _ _=>trivial));(case aO=>exact(by exact HO_6.out));(case aS=>exact(below_size (by repeat((with_reducible exact HB.out)))));(case aL=>have:=LMc35.out;omega);intro v620 w38 ho hb hg hat;rw [← Ny619.out] at ho;have n0_:=Aside0.mk (Kd.S_after (ok:=(fun _=>True)) (by exact Kd.S_mono HO_4.out (fun _ hk=>⟨trivial,hk⟩)) hg hat);have n1_:=Aside0.mk (Kd.R_over' (by exact HO618.out) (Kd.R_typed (by exact HO_6.out)) (by decide) hg);have n2_:=Aside0.mk (hb);have n3_:=Aside0.mk (ho);clear HO_4;clear HO618;clear HB;clear HO_6;have HO_4:=n0_;have HO618:=n1_;have HB:=n2_;have HO621:=n3_;clear n0_ n1_ n2_ n3_;clear ho hb hg hat)))
                   go_roundg k3
                   case measure=>have:=HK1.out;have:=HK2.out;have:=HK3.out;omega
                   case rel=>exact⟨(y616),(y619),(wrap64 (x7_2+1)),(by rfl),H',⟨by have:=HK1.out;have:=HK2.out;have:=HK3.out;omega⟩,⟨by exact HO618.out⟩,⟨by exact Kd.S_mono HO_4.out (fun _ hk=>hk.2)⟩,⟨by exact HO621.out⟩,⟨by repeat((with_reducible exact HB.out))⟩⟩
                  ·rw [if_neg c35] at H
                   exact absurd H (by simp)
                 ·rw [if_neg c34] at H
                  exact absurd H (by simp)
                ·rw [if_neg c33] at H
                 exact absurd H (by simp)
               ·rw [if_neg c32] at H
                exact absurd H (by simp)
              ·rw [if_neg c31] at H
               exact absurd H (by simp)
             ·rw [if_neg c30] at H
              exact absurd H (by simp)
            ·rw [if_neg c29] at H
             have c29b0:(x8_3==(x3_2.length:Int))=false:=beq_eq_false_iff_ne.mpr c29
             have c29b1:(x8_3 != (x3_2.length:Int))=true:=bne_iff_ne.mpr c29
             by_cases c39:x6_2.length<17592186044416
             ·rw [if_pos c39] at H
              have LMc39:=Aside0.mk c39
              clear c39
              obtain⟨y622,hy622⟩: ∃y_:List Int,y_=(x6_2++ [x8_3]):=⟨_,rfl⟩
              replace H:(jalousieref06_Numbers.l1 k3 l0 x3_2 x4_1 x5_1 y622 (wrap64 (x7_2+1)))=some r:=by(rw [hy622];with_reducible exact H)
              have Ny622:=Aside0.mk hy622
              clear hy622
              have H':=Aside0.mk H
              clear H
              obtain⟨Ao40,co40,eo40⟩:=Kd.R_slice HO_3.out
              subst eo40
              go_wp2_with(fail)
              repeat(go_quiet (fail);try go_wp2_with(((with_reducible refine gate_builtin (b:= .append) (xs:= #[.tmp 61, .tmp 63]) rfl ?_);at_builtin;refine Kd.R_append (Kd.int .i64) (w0:=w) w.heap.size rfl (.tmp 61) (.tmp 63) 53 3 (.int .i64 0) 8 rfl Try.underlying53 info3 rfl (by decide) (by omega) u6 x6_2 x8_3 [.int .i64 x8_3] (fun _=>True) (fun _=>False) rfl rfl ?aP (fun _ hk=>hk.elim) ?aF ?aO ?aB ?aS ?aL ?_;(case aP=>exact rfl);(case aB=>exact(by repeat((with_reducible first|exact HB.out|apply pw_below_drewN))));(case aF=>exact(fun _ _=>trivial));(case aO=>exact(by(with_reducible repeat apply zr2);exact HO_6.out));(case aS=>exact(below_size (by repeat((with_reducible first|exact HB.out|apply pw_below_drewN)))));(case aL=>have:=LMc39.out;omega);intro v623 w41 ho hb hg hat;rw [← Ny622.out] at ho;have n0_:=Aside0.mk (Kd.R_over' (by(with_reducible repeat apply zr2);exact HO_3.out) (Kd.R_typed (by(with_reducible repeat apply zr2);exact HO_6.out)) (by decide) hg);have n1_:=Aside0.mk (Kd.S_after (ok:=(fun _=>True)) (by(with_reducible repeat(apply Kd.S_drewN));exact Kd.S_mono HO_4.out (fun _ hk=>⟨trivial,hk⟩)) hg hat);have n2_:=Aside0.mk (hb);have n3_:=Aside0.mk (ho);clear HO_3;clear HO_4;clear HB;clear HO_6;have HO_3:=n0_;have HO_4:=n1_;have HB:=n2_;have HO624:=n3_;clear n0_ n1_ n2_ n3_;clear ho hb hg hat)))
              go_roundg k3
              case measure=>have:=HK1.out;have:=HK2.out;have:=HK3.out;omega
              case rel=>exact⟨(x3_2),(y622),(wrap64 (x7_2+1)),(by rfl),H',⟨by have:=HK1.out;have:=HK2.out;have:=HK3.out;omega⟩,⟨by exact HO_3.out⟩,⟨by exact Kd.S_mono HO_4.out (fun _ hk=>hk.2)⟩,⟨by exact HO624.out⟩,⟨by repeat((with_reducible exact HB.out))⟩⟩
             ·rw [if_neg c39] at H
              exact absurd H (by simp)
        ·rw [if_neg c11] at H
         have c11b0:decide (x7_2<((rd_L4 l0 x5_1).length:Int))=false:=decide_eq_false c11
         clear c11
         by_cases c42:x4_1.length<5864062014805
         ·rw [if_pos c42] at H
          have LMc42:=Aside0.mk c42
          clear c42
          obtain⟨y597,hy597⟩: ∃y_:List (List Int),y_=(x4_1++ [x6_2]):=⟨_,rfl⟩
          replace H:(jalousieref06_Numbers.l0 k2 l0 x3_2 y597 (wrap64 (x5_1+1)))=some r:=by(rw [hy597];with_reducible exact H)
          have Ny597:=Aside0.mk hy597
          clear hy597
          have H':=Aside0.mk H
          clear H
          have p596:0≤(x5_1:Int):=of_decide_eq_true (by(with_reducible assumption))
          have q596:x5_1<(l0.length:Int):=of_decide_eq_true (by(with_reducible assumption))
          obtain⟨ad596,A596_0,c596_0,e596,hx596_0,hl596_0,hi596_0⟩:=at_L4 HR0.out x5_1 p596 q596
          cases e596
          replace hx596_0:=(HB.out.cell (World.block_lt_of_cell? w _ hx596_0)).trans hx596_0
          have HR596_0:=Aside0.mk hi596_0
          have HC596_0:=Aside0.mk hl596_0
          clear hi596_0 hl596_0
          replace p596:=eq_true p596
          replace q596:=eq_true q596
          obtain⟨Ao44,co44,eo44⟩:=Kd.R_slice HO_6.out
          subst eo44
          go_wp2_with(((with_reducible refine gate_builtin (b:= .append) (xs:= #[.tmp 65, .tmp 67]) rfl ?_);at_builtin;refine Kd.S_append (Kd.slice 3 (Kd.int .i64)) (w0:=w) w.heap.size rfl (.tmp 65) (.tmp 67) 91 53 (.slice none 0 0) 24 rfl Try.underlying91 info53 rfl (by decide) (by omega) u4 x4_1 x6_2 [.slice Ao44 x6_2.length co44] (fun _=>True) (fun k_=>some k_=(.slice Ao44 x6_2.length co44:Value).ownBlock) rfl rfl ?aP (fun k_ hk_=>((Kd.R_mono (ok':=fun k_=>((fun _=>True)) k_∧some k_≠(u4:Value).ownBlock) (Kd.R_apart' (HO_6.out) (Kd.S_typed HO_4.out) (by decide)) (fun k_ hk=>⟨trivial,hk.2⟩))).1 k_ hk_.symm) ?aF ?aO ?aB ?aS ?aL ?_;(case aP=>exact Kd.M_row (Kd.R_mono (Kd.R_tight rfl (Kd.R_mono (ok':=fun k_=>((fun _=>True)) k_∧some k_≠(u4:Value).ownBlock) (Kd.R_apart' (HO_6.out) (Kd.S_typed HO_4.out) (by decide)) (fun k_ hk=>⟨trivial,hk.2⟩))) (fun _ h_=>h_)));(case aB=>exact(by repeat((with_reducible exact HB.out))));(case aF=>exact(fun _ _=>trivial));(case aO=>exact(by exact Kd.S_mono HO_4.out (fun k_ hk=>⟨trivial,fun e_=>hk e_⟩)));(case aS=>exact(below_size (by repeat((with_reducible exact HB.out)))));(case aL=>have:=LMc42.out;omega);intro v598 w43 ho hb hg hat;rw [← Ny597.out] at ho;have n0_:=Aside0.mk (Kd.R_over' (by exact HO_3.out) (Kd.S_typed (by exact HO_4.out)) (by decide) hg);have n1_:=Aside0.mk (hb);have n2_:=Aside0.mk (ho);clear HO_3;clear HB;clear HO_4;clear HO_6;have HO_3:=n0_;have HB:=n1_;have HO599:=n2_;clear n0_ n1_ n2_;clear ho hb hg hat))
          go_roundg k2
          case measure=>have:=HK1.out;have:=HK2.out;omega
          case rel=>exact⟨(x3_2),(y597),(wrap64 (x5_1+1)),(by rfl),H',⟨by have:=HK1.out;have:=HK2.out;omega⟩,⟨by exact HO_3.out⟩,⟨by exact HO599.out⟩,⟨by repeat((with_reducible exact HB.out))⟩⟩
         ·rw [if_neg c42] at H
          exact absurd H (by simp)
       ·rw [if_neg c10] at H
        exact absurd H (by simp)
      ·rw [if_neg c9] at H
       exact absurd H (by simp)
   ·rw [if_neg c6] at H
    have c6b0:decide (x5_1<(l0.length:Int))=false:=decide_eq_false c6
    clear c6
    obtain rfl:=Option.some.inj H
    go_wp2
    go_ret
    exact⟨_,by rfl,by exact HO_4.out,by repeat((with_reducible exact HB.out))⟩
end Go.Proofs.Ytfnbodjmmkjlcaa.H
end
