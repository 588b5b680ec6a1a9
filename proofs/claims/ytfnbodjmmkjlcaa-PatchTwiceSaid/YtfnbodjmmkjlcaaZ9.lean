/-
  What the claim needs of the words, of the walks and of the plain proofs, in one row (9).
-/
import Derived.Test.YtfnbodjmmkjlcaaZ0
import Derived.Test.YtfnbodjmmkjlcaaZ1
import Derived.Test.YtfnbodjmmkjlcaaZ2
import Derived.Test.YtfnbodjmmkjlcaaZ3
import Derived.Test.YtfnbodjmmkjlcaaZ7
import Derived.Test.YtfnbodjmmkjlcaaZ8
section
namespace Go.Proofs.Ytfnbodjmmkjlcaa.H
open Go.RowKit Go.Proofs.YtfnbodjmmkjlcaaW.PrintWords Go.Proofs.YtfnbodjmmkjlcaaW.PrintLast Go.Proofs.YtfnbodjmmkjlcaaW.PrintMore
attribute [local go_sem] max2_int min2_int max_two min_two max_three min_three max_four min_four
set_option linter.unusedVariables false
set_option linter.unusedSimpArgs false
mutual
def jalousieref07_Steps.j0:Nat→List Int→List Int→List Int→Bool→Option (List Int)
 | 0,_,_,_,_=>none
 | k+1,x0,x1,x5,x17=>if x17=true then (some x5) else ((jalousieref07_Table.f k x0 x1).bind fun t671=>(jalousieref07_Steps.l0 k x0 x1 x5 t671 0 0))
def jalousieref07_Steps.l0:Nat→List Int→List Int→List Int→List (List Int)→Int→Int→Option (List Int)
 | 0,_,_,_,_,_,_=>none
 | k+1,x0,x1,x5,x6,x7,x8=>if x7<(x0.length:Int) then (jalousieref07_Steps.j2 k x0 x1 x5 x6 x7 x8 true) else (jalousieref07_Steps.j2 k x0 x1 x5 x6 x7 x8 (decide (x8<(x1.length:Int))))
def jalousieref07_Steps.j2:Nat→List Int→List Int→List Int→List (List Int)→Int→Int→Bool→Option (List Int)
 | 0,_,_,_,_,_,_,_=>none
 | k+1,x0,x1,x5,x6,x7,x8,x31=>if x31=true then (if x7<(x0.length:Int) then (if x8<(x1.length:Int) then (if 0≤x7 then (if 0≤x8 then (jalousieref07_Steps.j3 k x0 x1 x5 x6 x7 x8 ((rd x0 x7)==(rd x1 x8))) else (none)) else (none)) else (jalousieref07_Steps.j3 k x0 x1 x5 x6 x7 x8 false)) else (jalousieref07_Steps.j3 k x0 x1 x5 x6 x7 x8 false)) else (some x5)
def jalousieref07_Steps.j3:Nat→List Int→List Int→List Int→List (List Int)→Int→Int→Bool→Option (List Int)
 | 0,_,_,_,_,_,_,_=>none
 | k+1,x0,x1,x5,x6,x7,x8,x52=>if x52=true then (if x5.length<17592186044416 then (jalousieref07_Steps.l0 k x0 x1 (x5++ [1]) x6 (wrap64 (x7+1)) (wrap64 (x8+1))) else (none)) else (if x7<(x0.length:Int) then (if 0≤(wrap64 (x7+1)) then (if (wrap64 (x7+1))<(x6.length:Int) then (if 0≤x8 then (if x8<((rd_L12 x6 (wrap64 (x7+1))).length:Int) then (if 0≤x7 then (if x7<(x6.length:Int) then (if x8<((rd_L12 x6 x7).length:Int) then (if (wrap64 ((rd (rd_L12 x6 (wrap64 (x7+1))) x8)+1))=(rd (rd_L12 x6 x7) x8) then (if x5.length<17592186044416 then (jalousieref07_Steps.l0 k x0 x1 (x5++ [2]) x6 (wrap64 (x7+1)) x8) else (none)) else (if x5.length<17592186044416 then (jalousieref07_Steps.l0 k x0 x1 (x5++ [3]) x6 x7 (wrap64 (x8+1))) else (none))) else (none)) else (none)) else (none)) else (none)) else (none)) else (none)) else (none)) else (if x5.length<17592186044416 then (jalousieref07_Steps.l0 k x0 x1 (x5++ [3]) x6 x7 (wrap64 (x8+1))) else (none)))
end
def jalousieref07_Steps.f (k:Nat) (l0:List Int) (l1:List Int):Option (List Int):=(some (([]:List Int):List Int)).bind fun y668=>(if (l0.length:Int)>400 then (jalousieref07_Steps.j0 k l0 l1 y668 true) else (jalousieref07_Steps.j0 k l0 l1 y668 (decide ((l1.length:Int)>400))))
set_option maxHeartbeats 8000000 in
set_option maxRecDepth 100000 in
theorem jalousieref07_Steps.calls (k:Nat) (A0:Option Addr) (c0:Nat) (l0:List Int) (A1:Option Addr) (c1:Nat) (l1:List Int) (r:List Int) (w:World) (hr0:Kd.C (Kd.int .i64) w A0 l0.length l0) (hc0:l0.length≤c0) (hr1:Kd.C (Kd.int .i64) w A1 l1.length l1) (hc1:l1.length≤c1) (h:jalousieref07_Steps.f k l0 l1=some r):
  Calls Try.prog 64 #[.slice A0 l0.length c0, .slice A1 l1.length c1] w fun e w'=> ∃v0_:Value,e= .returned (v0_)∧Kd.R (Kd.int .i64) 45 w' w.heap.size (fun _=>True) v0_ r∧Below w.heap.size w w':=by
 have HR0:=Aside0.mk hr0
 have HC0:=Aside0.mk hc0
 clear hr0 hc0
 have HR1:=Aside0.mk hr1
 have HC1:=Aside0.mk hc1
 clear hr1 hc1
 have HB:=Aside0.mk (Below.refl w.heap.size w)
 have H:((some (([]:List Int):List Int)).bind fun y668=>(if (l0.length:Int)>400 then (jalousieref07_Steps.j0 k l0 l1 y668 true) else (jalousieref07_Steps.j0 k l0 l1 y668 (decide ((l1.length:Int)>400)))))=some r:=h
 clear h
 obtain⟨y668,hy668⟩: ∃y_:List Int,y_=(([]:List Int)):=⟨_,rfl⟩
 replace H:(if (l0.length:Int)>400 then (jalousieref07_Steps.j0 k l0 l1 y668 true) else (jalousieref07_Steps.j0 k l0 l1 y668 (decide ((l1.length:Int)>400))))=some r:=by(have H2_:=(Option.bind_some _ _).symm.trans H;rw [hy668];with_reducible exact H2_)
 have Ny668:=Aside0.mk hy668
 clear hy668
 have HC3:=Aside0.mk H
 clear H
 go_enter Try.func64,Try.ntmps64
 go_upto_region 2 with (((with_reducible refine gate_dst (N:=9) rfl ?_);(try(refine gate_guard (by rfl) ?_;dsimp only));refine Kd.R_lit (Kd.int .i64) _ 45 ?hg (N:=9) ?hd (xs:=([]:List Int)) (inner:= []) (ok:=fun _=>True) (okp:=fun _=>True) ?hr ?hp (fun _ hk=>hk) trivial (Below.refl _ _) (Nat.le_refl _) (by simp) ?_;(case hd=>rfl);(case hg=>rfl);(case hr=>(go_simp;done));(case hp=>exact(Reps.none _ _));intro v669 w4 ho5 hb hg_ hnew_;clear hg_ hnew_;(rw [← Ny668.out] at ho5);have n0_:=Aside0.mk (Kd.R_lower ho5 (below_size (by repeat((with_reducible exact HB.out)))));have n1_:=Aside0.mk (below_step (by repeat((with_reducible exact HB.out))) hb);clear HB;have HO670:=n0_;have HB:=n1_;clear n0_ n1_;clear hb ho5))
 go_cut [17] (fun v17 wc=> ∃(kq:Nat) (x17_2:Bool),v17= .bool x17_2∧Aside0 (jalousieref07_Steps.j0 kq l0 l1 y668 x17_2=some r)∧Aside0 (kq≤k)∧Aside0 (Kd.R (Kd.int .i64) 45 wc w.heap.size (fun _=>True) v669 y668)∧Aside0 (Below w.heap.size w wc))
 case first=>
  have H:=HC3.out
  clear HC3
  by_cases c6:(l0.length:Int)>400
  ·rw [if_pos c6] at H
   have c6b0:decide (400<(l0.length:Int))=true:=decide_eq_true c6
   have c6b1:decide (400<l0.length)=true:=decide_eq_true (by omega)
   clear c6
   have H':=Aside0.mk H
   clear H
   go_wp2
   go_meet
   case rel=>exact⟨_,(true),(by rfl),H',⟨by omega⟩,⟨by exact HO670.out⟩,⟨by repeat((with_reducible exact HB.out))⟩⟩
  ·rw [if_neg c6] at H
   have c6b0:decide (400<(l0.length:Int))=false:=decide_eq_false c6
   have c6b1:decide (400<l0.length)=false:=decide_eq_false (by omega)
   clear c6
   have H':=Aside0.mk H
   clear H
   go_wp2
   go_meet
   case rel=>exact⟨_,(decide ((l1.length:Int)>400)),(by rfl),H',⟨by omega⟩,⟨by exact HO670.out⟩,⟨by repeat((with_reducible exact HB.out))⟩⟩
 case rest=>
  clear HC3
  obtain⟨kq,x17_2,rfl,HA,HJ2,HO_5,HB⟩:=hcut
  cases kq with
  | zero=>exact absurd HA.out (by simp [jalousieref07_Steps.j0])
  | succ kj2=>
   have H:=HA.out
   clear HA
   simp only [jalousieref07_Steps.j0] at H
   by_cases c7:x17_2=true
   ·subst c7
    have H1:(some y668)=some r:=by rw [if_pos rfl] at H;exact H
    clear H
    have H:=H1
    clear H1
    obtain rfl:=Option.some.inj H
    go_wp2
    go_ret
    exact⟨_,by rfl,by exact HO_5.out,by repeat((with_reducible exact HB.out))⟩
   ·replace c7:=Bool.eq_false_iff.mpr c7
    subst c7
    have H1:((jalousieref07_Table.f kj2 l0 l1).bind fun t671=>(jalousieref07_Steps.l0 kj2 l0 l1 y668 t671 0 0))=some r:=by rw [if_neg (show ¬(false=true) by decide)] at H;exact H
    clear H
    have H:=H1
    clear H1
    replace H:=Option.bind_eq_some_iff.mp H
    obtain⟨t671,A80,H⟩:=H
    replace H:(jalousieref07_Steps.l0 kj2 l0 l1 y668 t671 0 0)=some r:=H
    have A8:=Aside0.mk A80
    clear A80
    have H':=Aside0.mk H
    clear H
    go_wp2_with((go_at_call 76;(with_reducible refine(jalousieref07_Table.calls kj2 _ _ l0 _ _ l1 t671 _ ?side1 ?side2 ?side3 ?side4 A8.out).mono ?_);(case side1=>repeat(exact(Kd.C_below HR0.out HB.out)));(case side2=>exact HC0.out);(case side3=>repeat(exact(Kd.C_below HR1.out HB.out)));(case side4=>exact HC1.out);rintro e w9 ⟨v672,rfl,ho0,hb⟩;have n0_:=Aside0.mk (Kd.R_below (by exact HO_5.out) hb);have n1_:=Aside0.mk (Kd.S_lower ho0 (below_size (by repeat((with_reducible exact HB.out)))));have n2_:=Aside0.mk (below_step (by repeat((with_reducible exact HB.out))) hb);clear HO_5;clear HB;have HO_5:=n0_;have HO673:=n1_;have HB:=n2_;clear n0_ n1_ n2_;(try clear hb);(try clear ho0)))
    go_loopg [5,7,8] kj2 (fun kq v5 v7 v8 w'=> ∃(x5_2:List Int) (x7_2:Int) (x8_2:Int),v7= .int .i64 x7_2∧v8= .int .i64 x8_2∧Aside0 (jalousieref07_Steps.l0 kq l0 l1 x5_2 t671 x7_2 x8_2=some r)∧Aside0 (kq≤kj2)∧Aside0 (Kd.R (Kd.int .i64) 45 w' w.heap.size (fun _=>True) v5 x5_2)∧Aside0 (Kd.S (Kd.slice 3 (Kd.int .i64)) 53 w' w.heap.size (fun _=>True) v672 t671)∧Aside0 (Below w.heap.size w w'))
    case atStart=>exact⟨(y668),(0),(0),(by rfl),(by rfl),H',⟨Nat.le_refl _⟩,⟨by exact HO_5.out⟩,⟨by exact HO673.out⟩,⟨by repeat((with_reducible exact HB.out))⟩⟩
    case round=>
     clear H'
     obtain⟨x5_2,x7_2,x8_2,rfl,rfl,HA,HK2,HO_5,HO_6,HB⟩:=hrel
     cases gk with
     | zero=>exact absurd HA.out (by simp [jalousieref07_Steps.l0])
     | succ k2=>
      have H:=HA.out
      clear HA
      simp only [jalousieref07_Steps.l0] at H
      have HC10:=Aside0.mk H
      clear H
      go_upto_region 7 with (fail)
      go_cut [31] (fun v31 wc=> ∃(kq:Nat) (x31_9:Bool),v31= .bool x31_9∧Aside0 (jalousieref07_Steps.j2 kq l0 l1 x5_2 t671 x7_2 x8_2 x31_9=some r)∧Aside0 (kq≤k2)∧Aside0 (Kd.R (Kd.int .i64) 45 wc w.heap.size (fun _=>True) u5 x5_2)∧Aside0 (Kd.S (Kd.slice 3 (Kd.int .i64)) 53 wc w.heap.size (fun _=>True) v672 t671)∧Aside0 (Below w.heap.size w wc))
      case first=>
       have H:=HC10.out
       clear HC10
       by_cases c11:x7_2<(l0.length:Int)
       ·rw [if_pos c11] at H
        have c11b0:decide (x7_2<(l0.length:Int))=true:=decide_eq_true c11
        clear c11
        have H':=Aside0.mk H
        clear H
        go_wp2
        go_meet
        case rel=>exact⟨_,(true),(by rfl),H',⟨by have:=HJ2.out;have:=HK2.out;omega⟩,⟨by exact HO_5.out⟩,⟨by exact HO_6.out⟩,⟨by repeat((with_reducible exact HB.out))⟩⟩
       ·rw [if_neg c11] at H
        have c11b0:decide (x7_2<(l0.length:Int))=false:=decide_eq_false c11
        clear c11
        have H':=Aside0.mk H
        clear H
        go_wp2
        go_meet
        case rel=>exact⟨_,(decide (x8_2<(l1.length:Int))),(by rfl),H',⟨by have:=HJ2.out;have:=HK2.out;omega⟩,⟨by exact HO_5.out⟩,⟨by exact HO_6.out⟩,⟨by repeat((with_reducible exact HB.out))⟩⟩
      case rest=>
       clear HC10
       obtain⟨kq,x31_9,rfl,HA,HJ9,HO_5,HO_6,HB⟩:=hcut
       cases kq with
       | zero=>exact absurd HA.out (by simp [jalousieref07_Steps.j2])
       | succ kj9=>
        have H:=HA.out
        clear HA
        simp only [jalousieref07_Steps.j2] at H
        by_cases c12:x31_9=true
        ·subst c12
         have H1:(if x7_2<(l0.length:Int) then (if x8_2<(l1.length:Int) then (if 0≤x7_2 then (if 0≤x8_2 then (jalousieref07_Steps.j3 kj9 l0 l1 x5_2 t671 x7_2 x8_2 ((rd l0 x7_2)==(rd l1 x8_2))) else (none)) else (none)) else (jalousieref07_Steps.j3 kj9 l0 l1 x5_2 t671 x7_2 x8_2 false)) else (jalousieref07_Steps.j3 kj9 l0 l1 x5_2 t671 x7_2 x8_2 false))=some r:=by rw [if_pos rfl] at H;exact H
         clear H
         have H:=H1
         clear H1
         have HC13:=Aside0.mk H
         clear H
         go_upto_region 8 with (fail)
         go_cut [52] (fun v52 wc=> ∃(kq:Nat) (x52_12:Bool),v52= .bool x52_12∧Aside0 (jalousieref07_Steps.j3 kq l0 l1 x5_2 t671 x7_2 x8_2 x52_12=some r)∧Aside0 (kq≤kj9)∧Aside0 (Kd.R (Kd.int .i64) 45 wc w.heap.size (fun _=>True) u5 x5_2)∧Aside0 (Kd.S (Kd.slice 3 (Kd.int .i64)) 53 wc w.heap.size (fun _=>True) v672 t671)∧Aside0 (Below w.heap.size w wc))
         case first=>
          have H:=HC13.out
          clear HC13
          by_cases c14:x7_2<(l0.length:Int)
          ·rw [if_pos c14] at H
           have c14b0:decide (x7_2<(l0.length:Int))=true:=decide_eq_true c14
           clear c14
           by_cases c15:x8_2<(l1.length:Int)
           ·rw [if_pos c15] at H
            have c15b0:decide (x8_2<(l1.length:Int))=true:=decide_eq_true c15
            clear c15
            by_cases c16:0≤x7_2
            ·rw [if_pos c16] at H
             have c16b0:decide (0≤x7_2)=true:=decide_eq_true c16
             clear c16
             by_cases c17:0≤x8_2
             ·rw [if_pos c17] at H
              have c17b0:decide (0≤x8_2)=true:=decide_eq_true c17
              clear c17
              have H':=Aside0.mk H
              clear H
              have p674:0≤(x7_2:Int):=of_decide_eq_true (by(with_reducible assumption))
              have q674:x7_2<(l0.length:Int):=of_decide_eq_true (by(with_reducible assumption))
              obtain⟨ad674,e674,hx674_0⟩:=Kd.at_int HR0.out x7_2 p674 q674
              cases e674
              replace hx674_0:=(HB.out.cell (World.block_lt_of_cell? w _ hx674_0)).trans hx674_0
              replace p674:=eq_true p674
              replace q674:=eq_true q674
              have p675:0≤(x8_2:Int):=of_decide_eq_true (by(with_reducible assumption))
              have q675:x8_2<(l1.length:Int):=of_decide_eq_true (by(with_reducible assumption))
              obtain⟨ad675,e675,hx675_0⟩:=Kd.at_int HR1.out x8_2 p675 q675
              cases e675
              replace hx675_0:=(HB.out.cell (World.block_lt_of_cell? w _ hx675_0)).trans hx675_0
              replace p675:=eq_true p675
              replace q675:=eq_true q675
              go_wp2
              repeat(go_quiet (fail);try go_wp2)
              go_meet
              case rel=>exact⟨_,(((rd l0 x7_2)==(rd l1 x8_2))),(by rfl),H',⟨by have:=HJ2.out;have:=HK2.out;have:=HJ9.out;omega⟩,⟨by(with_reducible repeat apply zr2);exact HO_5.out⟩,⟨by(with_reducible repeat(apply Kd.S_drewN));exact HO_6.out⟩,⟨by repeat((with_reducible first|exact HB.out|apply pw_below_drewN))⟩⟩
             ·rw [if_neg c17] at H
              exact absurd H (by simp)
            ·rw [if_neg c16] at H
             exact absurd H (by simp)
           ·rw [if_neg c15] at H
            have c15b0:decide (x8_2<(l1.length:Int))=false:=decide_eq_false c15
            clear c15
            have H':=Aside0.mk H
            clear H
            go_wp2
            repeat(go_quiet (fail);try go_wp2)
            go_meet
            case rel=>exact⟨_,(false),(by rfl),H',⟨by have:=HJ2.out;have:=HK2.out;have:=HJ9.out;omega⟩,⟨by(with_reducible repeat apply zr2);exact HO_5.out⟩,⟨by(with_reducible repeat(apply Kd.S_drewN));exact HO_6.out⟩,⟨by repeat((with_reducible first|exact HB.out|apply pw_below_drewN))⟩⟩
          ·rw [if_neg c14] at H
           have c14b0:decide (x7_2<(l0.length:Int))=false:=decide_eq_false c14
           clear c14
           have H':=Aside0.mk H
           clear H
           go_wp2
           repeat(go_quiet (fail);try go_wp2)
           go_meet
           case rel=>exact⟨_,(false),(by rfl),H',⟨by have:=HJ2.out;have:=HK2.out;have:=HJ9.out;omega⟩,⟨by(with_reducible repeat apply zr2);exact HO_5.out⟩,⟨by(with_reducible repeat(apply Kd.S_drewN));exact HO_6.out⟩,⟨by repeat((with_reducible first|exact HB.out|apply pw_below_drewN))⟩⟩
         case rest=>
          clear HC13
          obtain⟨kq,x52_12,rfl,HA,HJ12,HO_5,HO_6,HB⟩:=hcut
          cases kq with
          | zero=>exact absurd HA.out (by simp [jalousieref07_Steps.j3])
          | succ kj12=>
           have H:=HA.out
           clear HA
           simp only [jalousieref07_Steps.j3] at H
           by_cases c18:x52_12=true
           ·subst c18
            have H1:(if x5_2.length<17592186044416 then (jalousieref07_Steps.l0 kj12 l0 l1 (x5_2++ [1]) t671 (wrap64 (x7_2+1)) (wrap64 (x8_2+1))) else (none))=some r:=by rw [if_pos rfl] at H;exact H
            clear H
            have H:=H1
            clear H1
            by_cases c19:x5_2.length<17592186044416
            ·rw [if_pos c19] at H
             have LMc19:=Aside0.mk c19
             clear c19
             obtain⟨y676,hy676⟩: ∃y_:List Int,y_=(x5_2++ [1]):=⟨_,rfl⟩
             replace H:(jalousieref07_Steps.l0 kj12 l0 l1 y676 t671 (wrap64 (x7_2+1)) (wrap64 (x8_2+1)))=some r:=by(rw [hy676];with_reducible exact H)
             have Ny676:=Aside0.mk hy676
             clear hy676
             have H':=Aside0.mk H
             clear H
             go_wp2_with(((with_reducible refine gate_builtin (b:= .append) (xs:= #[.tmp 53, .tmp 54]) rfl ?_);(try(refine gate_guard (by rfl) ?_;dsimp only));at_builtin;refine Kd.R_append (Kd.int .i64) (w0:=w) w.heap.size rfl (.tmp 53) (.tmp 54) 94 45 (.int .i64 0) 8 rfl Try.underlying94 info45 rfl (by decide) (by omega) u5 x5_2 1 [.int .i64 1] (fun _=>True) (fun _=>False) rfl rfl ?aP (fun _ hk=>hk.elim) ?aF ?aO ?aB ?aS ?aL ?_;(case aP=>exact rfl);(case aB=>exact(by repeat((with_reducible exact HB.out))));(case aF=>exact(fun _ _=>trivial));(case aO=>exact(by exact HO_5.out));(case aS=>exact(below_size (by repeat((with_reducible exact HB.out)))));(case aL=>have:=LMc19.out;omega);intro v677 w20 ho hb hg hat;rw [← Ny676.out] at ho;have n0_:=Aside0.mk (Kd.S_over' (by exact HO_6.out) (Kd.R_typed (by exact HO_5.out)) (by decide) hg);have n1_:=Aside0.mk (hb);have n2_:=Aside0.mk (ho);clear HO_6;clear HB;clear HO_5;have HO_6:=n0_;have HB:=n1_;have HO678:=n2_;clear n0_ n1_ n2_;clear ho hb hg hat))
             go_roundg kj12
             case measure=>have:=HJ2.out;have:=HK2.out;have:=HJ9.out;have:=HJ12.out;omega
             case rel=>exact⟨(y676),(wrap64 (x7_2+1)),(wrap64 (x8_2+1)),(by rfl),(by rfl),H',⟨by have:=HJ2.out;have:=HK2.out;have:=HJ9.out;have:=HJ12.out;omega⟩,⟨by exact HO678.out⟩,⟨by exact HO_6.out⟩,⟨by repeat((with_reducible exact HB.out))⟩⟩
            ·rw [if_neg c19] at H
             exact absurd H (by simp)
           ·replace c18:=Bool.eq_false_iff.mpr c18
            subst c18
            have H1:(if x7_2<(l0.length:Int) then (if 0≤(wrap64 (x7_2+1)) then (if (wrap64 (x7_2+1))<(t671.length:Int) then (if 0≤x8_2 then (if x8_2<((rd_L12 t671 (wrap64 (x7_2+1))).length:Int) then (if 0≤x7_2 then (if x7_2<(t671.length:Int) then (if x8_2<((rd_L12 t671 x7_2).length:Int) then (if (wrap64 ((rd (rd_L12 t671 (wrap64 (x7_2+1))) x8_2)+1))=(rd (rd_L12 t671 x7_2) x8_2) then (if x5_2.length<17592186044416 then (jalousieref07_Steps.l0 kj12 l0 l1 (x5_2++ [2]) t671 (wrap64 (x7_2+1)) x8_2) else (none)) else (if x5_2.length<17592186044416 then (jalousieref07_Steps.l0 kj12 l0 l1 (x5_2++ [3]) t671 x7_2 (wrap64 (x8_2+1))) else (none))) else (none)) else (none)) else (none)) else (none)) else (none)) else (none)) else (none)) else (if x5_2.length<17592186044416 then (jalousieref07_Steps.l0 kj12 l0 l1 (x5_2++ [3]) t671 x7_2 (wrap64 (x8_2+1))) else (none)))=some r:=by rw [if_neg (show ¬(false=true) by decide)] at H;exact H
            clear H
            have H:=H1
            clear H1
            by_cases c21:x7_2<(l0.length:Int)
            ·rw [if_pos c21] at H
             have c21b0:decide (x7_2<(l0.length:Int))=true:=decide_eq_true c21
             clear c21
             obtain⟨ji22,hji22⟩: ∃j_:Int,(wrap64 (x7_2+1))=j_:=⟨_,rfl⟩
             replace H:(if 0≤(ji22) then (if (ji22)<(t671.length:Int) then (if 0≤x8_2 then (if x8_2<((rd_L12 t671 (ji22)).length:Int) then (if 0≤x7_2 then (if x7_2<(t671.length:Int) then (if x8_2<((rd_L12 t671 x7_2).length:Int) then (if (wrap64 ((rd (rd_L12 t671 (ji22)) x8_2)+1))=(rd (rd_L12 t671 x7_2) x8_2) then (if x5_2.length<17592186044416 then (jalousieref07_Steps.l0 kj12 l0 l1 (x5_2++ [2]) t671 ji22 x8_2) else (none)) else (if x5_2.length<17592186044416 then (jalousieref07_Steps.l0 kj12 l0 l1 (x5_2++ [3]) t671 x7_2 (wrap64 (x8_2+1))) else (none))) else (none)) else (none)) else (none)) else (none)) else (none)) else (none)) else (none))=some r:=by(rw [hji22] at H;exact H)
             have hji22w:(IntKind.i64.wrap (x7_2+1))=ji22:=(i64_w _).trans hji22
             by_cases c23:0≤(ji22)
             ·rw [if_pos c23] at H
              have c23b0:decide (0≤(ji22))=true:=decide_eq_true c23
              clear c23
              by_cases c24:(ji22)<(t671.length:Int)
              ·rw [if_pos c24] at H
               have c24b0:decide ((ji22)<(t671.length:Int))=true:=decide_eq_true c24
               clear c24
               by_cases c25:0≤x8_2
               ·rw [if_pos c25] at H
                have c25b0:decide (0≤x8_2)=true:=decide_eq_true c25
                clear c25
                by_cases c26:x8_2<((rd_L12 t671 (ji22)).length:Int)
                ·rw [if_pos c26] at H
                 have c26b0:decide (x8_2<((rd_L12 t671 (ji22)).length:Int))=true:=decide_eq_true c26
                 clear c26
                 by_cases c27:0≤x7_2
                 ·rw [if_pos c27] at H
                  have c27b0:decide (0≤x7_2)=true:=decide_eq_true c27
                  clear c27
                  by_cases c28:x7_2<(t671.length:Int)
                  ·rw [if_pos c28] at H
                   have c28b0:decide (x7_2<(t671.length:Int))=true:=decide_eq_true c28
                   clear c28
                   by_cases c29:x8_2<((rd_L12 t671 x7_2).length:Int)
                   ·rw [if_pos c29] at H
                    have c29b0:decide (x8_2<((rd_L12 t671 x7_2).length:Int))=true:=decide_eq_true c29
                    clear c29
                    by_cases c30:(wrap64 ((rd (rd_L12 t671 (ji22)) x8_2)+1))=(rd (rd_L12 t671 x7_2) x8_2)
                    ·rw [if_pos c30] at H
                     have c30b0:((wrap64 ((rd (rd_L12 t671 (ji22)) x8_2)+1))==(rd (rd_L12 t671 x7_2) x8_2))=true:=beq_iff_eq.mpr c30
                     have c30b1:((wrap64 ((rd (rd_L12 t671 (ji22)) x8_2)+1)) != (rd (rd_L12 t671 x7_2) x8_2))=false:=bne_eq_false_iff_eq.mpr c30
                     clear c30
                     by_cases c31:x5_2.length<17592186044416
                     ·rw [if_pos c31] at H
                      have LMc31:=Aside0.mk c31
                      clear c31
                      obtain⟨y683,hy683⟩: ∃y_:List Int,y_=(x5_2++ [2]):=⟨_,rfl⟩
                      replace H:(jalousieref07_Steps.l0 kj12 l0 l1 y683 t671 ji22 x8_2)=some r:=by(rw [hy683];with_reducible exact H)
                      have Ny683:=Aside0.mk hy683
                      clear hy683
                      have H':=Aside0.mk H
                      clear H
                      obtain⟨Ao32,co32,eo32⟩:=Kd.S_slice HO_6.out
                      subst eo32
                      have p679:0≤((ji22):Int):=of_decide_eq_true (by(with_reducible assumption))
                      have q679:(ji22)<(t671.length:Int):=of_decide_eq_true (by(with_reducible assumption))
                      obtain⟨ad679,A679_0,c679_0,e679,hx679_0,hl679_0,hi679_0⟩:=at_L12 (Kd.S_reads' HO_6.out).2.2 (ji22) p679 q679
                      cases e679
                      obtain⟨ce679,hce679,hMe679,hcc679⟩:=Kd.S_get HO_6.out [] (ji22) p679 (by exact q679)
                      obtain⟨ve679_0,rfl,ge679_0⟩:=hMe679
                      have hv679_0:=hcc679 0 _ rfl
                      rw [Nat.add_zero,show((Kd.slice 3 (Kd.int .i64))).sz=1 from rfl,Nat.mul_one] at hv679_0
                      replace hv679_0:=Option.some.inj (hv679_0.symm.trans hx679_0)
                      rw [hv679_0] at ge679_0
                      have HL679_0:=Aside0.mk (show Kd.R (Kd.int .i64) 3 _ _ _ _ (rd_L12 t671 (ji22)) from ge679_0)
                      clear hv679_0 ge679_0
                      clear hcc679 hce679
                      have HR679_0:=Aside0.mk hi679_0
                      have HC679_0:=Aside0.mk hl679_0
                      clear hi679_0 hl679_0
                      replace p679:=eq_true p679
                      replace q679:=eq_true q679
                      have p680:0≤(x8_2:Int):=of_decide_eq_true (by(with_reducible assumption))
                      have q680:x8_2<((rd_L12 t671 (ji22)).length:Int):=of_decide_eq_true (by(with_reducible assumption))
                      obtain⟨ad680,e680,hx680_0⟩:=Kd.at_int (by repeat((with_reducible exact HR679_0.out))) x8_2 p680 q680
                      cases e680
                      replace p680:=eq_true p680
                      replace q680:=eq_true q680
                      have p681:0≤(x7_2:Int):=of_decide_eq_true (by(with_reducible assumption))
                      have q681:x7_2<(t671.length:Int):=of_decide_eq_true (by(with_reducible assumption))
                      obtain⟨ad681,A681_0,c681_0,e681,hx681_0,hl681_0,hi681_0⟩:=at_L12 (Kd.S_reads' HO_6.out).2.2 x7_2 p681 q681
                      obtain rfl:ad679=ad681:=(by injection e681)
                      obtain⟨ce681,hce681,hMe681,hcc681⟩:=Kd.S_get HO_6.out [] x7_2 p681 (by exact q681)
                      obtain⟨ve681_0,rfl,ge681_0⟩:=hMe681
                      have hv681_0:=hcc681 0 _ rfl
                      rw [Nat.add_zero,show((Kd.slice 3 (Kd.int .i64))).sz=1 from rfl,Nat.mul_one] at hv681_0
                      replace hv681_0:=Option.some.inj (hv681_0.symm.trans hx681_0)
                      rw [hv681_0] at ge681_0
                      have HL681_0:=Aside0.mk (show Kd.R (Kd.int .i64) 3 _ _ _ _ (rd_L12 t671 x7_2) from ge681_0)
                      clear hv681_0 ge681_0
                      clear hcc681 hce681
                      have HR681_0:=Aside0.mk hi681_0
                      have HC681_0:=Aside0.mk hl681_0
                      clear hi681_0 hl681_0
                      replace p681:=eq_true p681
                      replace q681:=eq_true q681
                      have p682:0≤(x8_2:Int):=of_decide_eq_true (by(with_reducible assumption))
                      have q682:x8_2<((rd_L12 t671 x7_2).length:Int):=of_decide_eq_true (by(with_reducible assumption))
                      obtain⟨ad682,e682,hx682_0⟩:=Kd.at_int (by repeat((with_reducible exact HR681_0.out))) x8_2 p682 q682
                      cases e682
                      replace p682:=eq_true p682
                      replace q682:=eq_true q682
                      go_wp2_with(fail)
                      repeat(go_quiet (fail);try go_wp2_with(((with_reducible refine gate_builtin (b:= .append) (xs:= #[.tmp 83, .tmp 84]) rfl ?_);(try(refine gate_guard (by rfl) ?_;dsimp only));at_builtin;refine Kd.R_append (Kd.int .i64) (w0:=w) w.heap.size rfl (.tmp 83) (.tmp 84) 94 45 (.int .i64 0) 8 rfl Try.underlying94 info45 rfl (by decide) (by omega) u5 x5_2 2 [.int .i64 2] (fun _=>True) (fun _=>False) rfl rfl ?aP (fun _ hk=>hk.elim) ?aF ?aO ?aB ?aS ?aL ?_;(case aP=>exact rfl);(case aB=>exact(by repeat((with_reducible first|exact HB.out|apply pw_below_drewN))));(case aF=>exact(fun _ _=>trivial));(case aO=>exact(by(with_reducible repeat apply zr2);exact HO_5.out));(case aS=>exact(below_size (by repeat((with_reducible first|exact HB.out|apply pw_below_drewN)))));(case aL=>have:=LMc31.out;omega);intro v684 w33 ho hb hg hat;rw [← Ny683.out] at ho;have n0_:=Aside0.mk (Kd.S_over' (by(with_reducible repeat(apply Kd.S_drewN));exact HO_6.out) (Kd.R_typed (by(with_reducible repeat apply zr2);exact HO_5.out)) (by decide) hg);have n1_:=Aside0.mk (Kd.R_over' (by(with_reducible repeat apply zr2);exact HL679_0.out) (Kd.R_typed (by(with_reducible repeat apply zr2);exact HO_5.out)) (by decide) hg);have n2_:=Aside0.mk (Kd.R_over' (by(with_reducible repeat apply zr2);exact HL681_0.out) (Kd.R_typed (by(with_reducible repeat apply zr2);exact HO_5.out)) (by decide) hg);have n3_:=Aside0.mk (hb);have n4_:=Aside0.mk (ho);clear HO_6;clear HL679_0;clear HL681_0;clear HB;clear HO_5;have HO_6:=n0_;have HL679_0:=n1_;have HL681_0:=n2_;have HB:=n3_;have HO685:=n4_;clear n0_ n1_ n2_ n3_ n4_;clear ho hb hg hat)))
                      go_roundg kj12
                      case measure=>have:=HJ2.out;have:=HK2.out;have:=HJ9.out;have:=HJ12.out;omega
                      case rel=>exact⟨(y683),(ji22),(x8_2),(by rfl),(by rfl),H',⟨by have:=HJ2.out;have:=HK2.out;have:=HJ9.out;have:=HJ12.out;omega⟩,⟨by exact HO685.out⟩,⟨by exact HO_6.out⟩,⟨by repeat((with_reducible exact HB.out))⟩⟩
                     ·rw [if_neg c31] at H
                      exact absurd H (by simp)
                    ·rw [if_neg c30] at H
                     have c30b0:((wrap64 ((rd (rd_L12 t671 (ji22)) x8_2)+1))==(rd (rd_L12 t671 x7_2) x8_2))=false:=beq_eq_false_iff_ne.mpr c30
                     have c30b1:((wrap64 ((rd (rd_L12 t671 (ji22)) x8_2)+1)) != (rd (rd_L12 t671 x7_2) x8_2))=true:=bne_iff_ne.mpr c30
                     by_cases c34:x5_2.length<17592186044416
                     ·rw [if_pos c34] at H
                      have LMc34:=Aside0.mk c34
                      clear c34
                      obtain⟨y686,hy686⟩: ∃y_:List Int,y_=(x5_2++ [3]):=⟨_,rfl⟩
                      replace H:(jalousieref07_Steps.l0 kj12 l0 l1 y686 t671 x7_2 (wrap64 (x8_2+1)))=some r:=by(rw [hy686];with_reducible exact H)
                      have Ny686:=Aside0.mk hy686
                      clear hy686
                      have H':=Aside0.mk H
                      clear H
                      obtain⟨Ao35,co35,eo35⟩:=Kd.S_slice HO_6.out
                      subst eo35
                      have p679:0≤((ji22):Int):=of_decide_eq_true (by(with_reducible assumption))
                      have q679:(ji22)<(t671.length:Int):=of_decide_eq_true (by(with_reducible assumption))
                      obtain⟨ad679,A679_0,c679_0,e679,hx679_0,hl679_0,hi679_0⟩:=at_L12 (Kd.S_reads' HO_6.out).2.2 (ji22) p679 q679
                      cases e679
                      obtain⟨ce679,hce679,hMe679,hcc679⟩:=Kd.S_get HO_6.out [] (ji22) p679 (by exact q679)
                      obtain⟨ve679_0,rfl,ge679_0⟩:=hMe679
                      have hv679_0:=hcc679 0 _ rfl
                      rw [Nat.add_zero,show((Kd.slice 3 (Kd.int .i64))).sz=1 from rfl,Nat.mul_one] at hv679_0
                      replace hv679_0:=Option.some.inj (hv679_0.symm.trans hx679_0)
                      rw [hv679_0] at ge679_0
                      have HL679_0:=Aside0.mk (show Kd.R (Kd.int .i64) 3 _ _ _ _ (rd_L12 t671 (ji22)) from ge679_0)
                      clear hv679_0 ge679_0
                      clear hcc679 hce679
                      have HR679_0:=Aside0.mk hi679_0
                      have HC679_0:=Aside0.mk hl679_0
                      clear hi679_0 hl679_0
                      replace p679:=eq_true p679
                      replace q679:=eq_true q679
                      have p680:0≤(x8_2:Int):=of_decide_eq_true (by(with_reducible assumption))
                      have q680:x8_2<((rd_L12 t671 (ji22)).length:Int):=of_decide_eq_true (by(with_reducible assumption))
                      obtain⟨ad680,e680,hx680_0⟩:=Kd.at_int (by repeat((with_reducible exact HR679_0.out))) x8_2 p680 q680
                      cases e680
                      replace p680:=eq_true p680
                      replace q680:=eq_true q680
                      have p681:0≤(x7_2:Int):=of_decide_eq_true (by(with_reducible assumption))
                      have q681:x7_2<(t671.length:Int):=of_decide_eq_true (by(with_reducible assumption))
                      obtain⟨ad681,A681_0,c681_0,e681,hx681_0,hl681_0,hi681_0⟩:=at_L12 (Kd.S_reads' HO_6.out).2.2 x7_2 p681 q681
                      obtain rfl:ad679=ad681:=(by injection e681)
                      obtain⟨ce681,hce681,hMe681,hcc681⟩:=Kd.S_get HO_6.out [] x7_2 p681 (by exact q681)
                      obtain⟨ve681_0,rfl,ge681_0⟩:=hMe681
                      have hv681_0:=hcc681 0 _ rfl
                      rw [Nat.add_zero,show((Kd.slice 3 (Kd.int .i64))).sz=1 from rfl,Nat.mul_one] at hv681_0
                      replace hv681_0:=Option.some.inj (hv681_0.symm.trans hx681_0)
                      rw [hv681_0] at ge681_0
                      have HL681_0:=Aside0.mk (show Kd.R (Kd.int .i64) 3 _ _ _ _ (rd_L12 t671 x7_2) from ge681_0)
                      clear hv681_0 ge681_0
                      clear hcc681 hce681
                      have HR681_0:=Aside0.mk hi681_0
                      have HC681_0:=Aside0.mk hl681_0
                      clear hi681_0 hl681_0
                      replace p681:=eq_true p681
                      replace q681:=eq_true q681
                      have p682:0≤(x8_2:Int):=of_decide_eq_true (by(with_reducible assumption))
                      have q682:x8_2<((rd_L12 t671 x7_2).length:Int):=of_decide_eq_true (by(with_reducible assumption))
                      obtain⟨ad682,e682,hx682_0⟩:=Kd.at_int (by repeat((with_reducible exact HR681_0.out))) x8_2 p682 q682
                      cases e682
                      replace p682:=eq_true p682
                      replace q682:=eq_true q682
                      go_wp2_with(fail)
                      repeat(go_quiet (fail);try go_wp2_with(((with_reducible refine gate_builtin (b:= .append) (xs:= #[.tmp 88, .tmp 89]) rfl ?_);(try(refine gate_guard (by rfl) ?_;dsimp only));at_builtin;refine Kd.R_append (Kd.int .i64) (w0:=w) w.heap.size rfl (.tmp 88) (.tmp 89) 94 45 (.int .i64 0) 8 rfl Try.underlying94 info45 rfl (by decide) (by omega) u5 x5_2 3 [.int .i64 3] (fun _=>True) (fun _=>False) rfl rfl ?aP (fun _ hk=>hk.elim) ?aF ?aO ?aB ?aS ?aL ?_;(case aP=>exact rfl);(case aB=>exact(by repeat((with_reducible first|exact HB.out|apply pw_below_drewN))));(case aF=>exact(fun _ _=>trivial));(case aO=>exact(by(with_reducible repeat apply zr2);exact HO_5.out));(case aS=>exact(below_size (by repeat((with_reducible first|exact HB.out|apply pw_below_drewN)))));(case aL=>have:=LMc34.out;omega);intro v687 w36 ho hb hg hat;rw [← Ny686.out] at ho;have n0_:=Aside0.mk (Kd.S_over' (by(with_reducible repeat(apply Kd.S_drewN));exact HO_6.out) (Kd.R_typed (by(with_reducible repeat apply zr2);exact HO_5.out)) (by decide) hg);have n1_:=Aside0.mk (Kd.R_over' (by(with_reducible repeat apply zr2);exact HL679_0.out) (Kd.R_typed (by(with_reducible repeat apply zr2);exact HO_5.out)) (by decide) hg);have n2_:=Aside0.mk (Kd.R_over' (by(with_reducible repeat apply zr2);exact HL681_0.out) (Kd.R_typed (by(with_reducible repeat apply zr2);exact HO_5.out)) (by decide) hg);have n3_:=Aside0.mk (hb);have n4_:=Aside0.mk (ho);clear HO_6;clear HL679_0;clear HL681_0;clear HB;clear HO_5;have HO_6:=n0_;have HL679_0:=n1_;have HL681_0:=n2_;have HB:=n3_;have HO688:=n4_;clear n0_ n1_ n2_ n3_ n4_;clear ho hb hg hat)))
                      go_roundg kj12
                      case measure=>have:=HJ2.out;have:=HK2.out;have:=HJ9.out;have:=HJ12.out;omega
                      case rel=>exact⟨(y686),(x7_2),(wrap64 (x8_2+1)),(by rfl),(by rfl),H',⟨by have:=HJ2.out;have:=HK2.out;have:=HJ9.out;have:=HJ12.out;omega⟩,⟨by exact HO688.out⟩,⟨by exact HO_6.out⟩,⟨by repeat((with_reducible exact HB.out))⟩⟩
                     ·rw [if_neg c34] at H
                      exact absurd H (by simp)
                   ·rw [if_neg c29] at H
                    exact absurd H (by simp)
                  ·rw [if_neg c28] at H
                   exact absurd H (by simp)
                 ·rw [if_neg c27] at H
                  exact absurd H (by simp)
                ·rw [if_neg c26] at H
                 exact absurd H (by simp)
               ·rw [if_neg c25] at H
                exact absurd H (by simp)
              ·rw [if_neg c24] at H
               exact absurd H (by simp)
             ·rw [if_neg c23] at H
              exact absurd H (by simp)
            ·rw [if_neg c21] at H
             have c21b0:decide (x7_2<(l0.length:Int))=false:=decide_eq_false c21
             clear c21
             by_cases c37:x5_2.length<17592186044416
             ·rw [if_pos c37] at H
              have LMc37:=Aside0.mk c37
              clear c37
              obtain⟨y689,hy689⟩: ∃y_:List Int,y_=(x5_2++ [3]):=⟨_,rfl⟩
              replace H:(jalousieref07_Steps.l0 kj12 l0 l1 y689 t671 x7_2 (wrap64 (x8_2+1)))=some r:=by(rw [hy689];with_reducible exact H)
              have Ny689:=Aside0.mk hy689
              clear hy689
              have H':=Aside0.mk H
              clear H
              go_wp2_with(fail)
              repeat(go_quiet (fail);try go_wp2_with(((with_reducible refine gate_builtin (b:= .append) (xs:= #[.tmp 88, .tmp 89]) rfl ?_);(try(refine gate_guard (by rfl) ?_;dsimp only));at_builtin;refine Kd.R_append (Kd.int .i64) (w0:=w) w.heap.size rfl (.tmp 88) (.tmp 89) 94 45 (.int .i64 0) 8 rfl Try.underlying94 info45 rfl (by decide) (by omega) u5 x5_2 3 [.int .i64 3] (fun _=>True) (fun _=>False) rfl rfl ?aP (fun _ hk=>hk.elim) ?aF ?aO ?aB ?aS ?aL ?_;(case aP=>exact rfl);(case aB=>exact(by repeat((with_reducible first|exact HB.out|apply pw_below_drewN))));(case aF=>exact(fun _ _=>trivial));(case aO=>exact(by(with_reducible repeat apply zr2);exact HO_5.out));(case aS=>exact(below_size (by repeat((with_reducible first|exact HB.out|apply pw_below_drewN)))));(case aL=>have:=LMc37.out;omega);intro v690 w38 ho hb hg hat;rw [← Ny689.out] at ho;have n0_:=Aside0.mk (Kd.S_over' (by(with_reducible repeat(apply Kd.S_drewN));exact HO_6.out) (Kd.R_typed (by(with_reducible repeat apply zr2);exact HO_5.out)) (by decide) hg);have n1_:=Aside0.mk (hb);have n2_:=Aside0.mk (ho);clear HO_6;clear HB;clear HO_5;have HO_6:=n0_;have HB:=n1_;have HO691:=n2_;clear n0_ n1_ n2_;clear ho hb hg hat)))
              go_roundg kj12
              case measure=>have:=HJ2.out;have:=HK2.out;have:=HJ9.out;have:=HJ12.out;omega
              case rel=>exact⟨(y689),(x7_2),(wrap64 (x8_2+1)),(by rfl),(by rfl),H',⟨by have:=HJ2.out;have:=HK2.out;have:=HJ9.out;have:=HJ12.out;omega⟩,⟨by exact HO691.out⟩,⟨by exact HO_6.out⟩,⟨by repeat((with_reducible exact HB.out))⟩⟩
             ·rw [if_neg c37] at H
              exact absurd H (by simp)
        ·replace c12:=Bool.eq_false_iff.mpr c12
         subst c12
         have H1:(some x5_2)=some r:=by rw [if_neg (show ¬(false=true) by decide)] at H;exact H
         clear H
         have H:=H1
         clear H1
         obtain rfl:=Option.some.inj H
         go_wp2
         go_ret
         exact⟨_,by rfl,by exact HO_5.out,by repeat((with_reducible exact HB.out))⟩
end Go.Proofs.Ytfnbodjmmkjlcaa.H
end
section
namespace Go.Proofs.Ytfnbodjmmkjlcaa.H
open Go.RowKit Go.Proofs.YtfnbodjmmkjlcaaW.PrintWords Go.Proofs.YtfnbodjmmkjlcaaW.PrintLast Go.Proofs.YtfnbodjmmkjlcaaW.PrintMore
attribute [local go_sem] max2_int min2_int max_two min_two max_three min_three max_four min_four
set_option linter.unusedVariables false
set_option linter.unusedSimpArgs false
mutual
def jalousieref08_Make.j0:Nat→List (S66)→List (S66)→Bool→Option ((List (S47))×Int)
 | 0,_,_,_=>none
 | k+1,x0,x1,x19=>if x19=true then (some (([]:List (S47)),4)) else ((jalousieref06_Numbers.f k (([x0,x1]:List (List (S66))))).bind fun t695=>(if 0<(t695.length:Int) then (if 1<(t695.length:Int) then ((jalousieref07_Steps.f k (rd_L12 t695 0) (rd_L12 t695 1)).bind fun t700=>(jalousieref08_Make.l0 k x0 x1 t700 (([]:List (S47))) 0 0 0)) else (none)) else (none)))
def jalousieref08_Make.l0:Nat→List (S66)→List (S66)→List Int→List (S47)→Int→Int→Int→Option ((List (S47))×Int)
 | 0,_,_,_,_,_,_,_=>none
 | k+1,x0,x1,x7,x8,x9,x10,x11=>if x11<(x7.length:Int) then (if 0≤x11 then (if (rd x7 x11)=3 then (if 0≤x10 then (if x10<(x1.length:Int) then (if x8.length<4398046511104 then (jalousieref08_Make.j2 k x0 x1 x7 (x8++ [(⟨rd x7 x11,(([(⟨(rd_T66 x1 x10).f0,(rd_T66 x1 x10).f1⟩:S66)]:List (S66)))⟩:S47)]) x9 x10 x11) else (none)) else (none)) else (none)) else (if 0≤x9 then (if x9<(x0.length:Int) then (if x8.length<4398046511104 then (jalousieref08_Make.j2 k x0 x1 x7 (x8++ [(⟨rd x7 x11,(([(⟨(rd_T66 x0 x9).f0,(rd_T66 x0 x9).f1⟩:S66)]:List (S66)))⟩:S47)]) x9 x10 x11) else (none)) else (none)) else (none))) else (none)) else ((jalousieref08_Normal.f k x8).bind fun bt706=>(some (bt706.1,bt706.2)))
def jalousieref08_Make.j2:Nat→List (S66)→List (S66)→List Int→List (S47)→Int→Int→Int→Option ((List (S47))×Int)
 | 0,_,_,_,_,_,_,_=>none
 | k+1,x0,x1,x7,x8,x9,x10,x11=>if 0≤x11 then (if x11<(x7.length:Int) then (if (rd x7 x11)=3 then (if (rd x7 x11)=2 then (jalousieref08_Make.l0 k x0 x1 x7 x8 x9 x10 (wrap64 (x11+1))) else (jalousieref08_Make.l0 k x0 x1 x7 x8 x9 (wrap64 (x10+1)) (wrap64 (x11+1)))) else (if (rd x7 x11)=2 then (jalousieref08_Make.l0 k x0 x1 x7 x8 (wrap64 (x9+1)) x10 (wrap64 (x11+1))) else (jalousieref08_Make.l0 k x0 x1 x7 x8 (wrap64 (x9+1)) (wrap64 (x10+1)) (wrap64 (x11+1))))) else (none)) else (none)
end
def jalousieref08_Make.f (k:Nat) (l0:List (S66)) (l1:List (S66)):Option ((List (S47))×Int):=if (l0.length:Int)>400 then (jalousieref08_Make.j0 k l0 l1 true) else (jalousieref08_Make.j0 k l0 l1 (decide ((l1.length:Int)>400)))
def jalousieref08_Make.T4:Bool×List (List Nat×List Nat):=(true,[([],[]),([0],[0]),([1],[1]),([],[]),([3],[3]),([4],[4]),([2,5],[2,5]),([6,6,0,1,2,3,4,5,6],[6])])
def jalousieref08_Make.B4:List Nat:= [0,1,3,0,8,24,63,127]
theorem jalousieref08_Make.tab4:rtab .any (opsOf Try.f36 4)=jalousieref08_Make.T4:=by kernel_rfl
theorem jalousieref08_Make.bits4:waitsOk jalousieref08_Make.T4.2 jalousieref08_Make.B4=true:=by kernel_rfl
def jalousieref08_Make.T12:Bool×List (List Nat×List Nat):=(true,[([],[]),([],[]),([],[]),([1,2],[1,2]),([3],[3]),([],[]),([],[]),([5,6],[5,6]),([7],[7]),([8],[8]),([4,9],[4,9]),([10],[10]),([0,11],[0,11]),([12,12,0,1,2,3,4,5,6,7,8,9,10,11,12],[0,12])])
def jalousieref08_Make.B12:List Nat:= [0,0,0,6,14,0,0,96,224,480,1022,2046,4095,8191]
theorem jalousieref08_Make.tab12:rtab .any (opsOf Try.f36 12)=jalousieref08_Make.T12:=by kernel_rfl
theorem jalousieref08_Make.bits12:waitsOk jalousieref08_Make.T12.2 jalousieref08_Make.B12=true:=by kernel_rfl
def jalousieref08_Make.T13:Bool×List (List Nat×List Nat):=(true,[([],[]),([],[]),([],[]),([1,2],[1,2]),([3],[3]),([],[]),([],[]),([5,6],[5,6]),([7],[7]),([8],[8]),([4,9],[4,9]),([10],[10]),([0,11],[0,11]),([12,12,0,1,2,3,4,5,6,7,8,9,10,11,12],[0,12])])
def jalousieref08_Make.B13:List Nat:= [0,0,0,6,14,0,0,96,224,480,1022,2046,4095,8191]
theorem jalousieref08_Make.tab13:rtab .any (opsOf Try.f36 13)=jalousieref08_Make.T13:=by kernel_rfl
theorem jalousieref08_Make.bits13:waitsOk jalousieref08_Make.T13.2 jalousieref08_Make.B13=true:=by kernel_rfl
set_option maxHeartbeats 8000000 in
set_option maxRecDepth 100000 in
theorem jalousieref08_Make.calls (k:Nat) (P0_:Nat→Prop) (A0:Option Addr) (c0:Nat) (l0:List (S66)) (P1_:Nat→Prop) (A1:Option Addr) (c1:Nat) (l1:List (S66)) (r1:List (S47)) (r2:Int) (w:World) (hs0:Kd.V k66 66 w w.heap.size (fun k_=>P0_ k_) (.slice A0 l0.length c0) l0) (hs1:Kd.V k66 66 w w.heap.size (fun k_=>P1_ k_) (.slice A1 l1.length c1) l1) (h:jalousieref08_Make.f k l0 l1=some (r1,r2)):
  Calls Try.prog 36 #[.slice A0 l0.length c0, .slice A1 l1.length c1] w fun e w'=> ∃v0_:Value,e= .returned (.tuple #[v0_, .int .i64 r2])∧Kd.N k47 47 w' w.heap.size (fun k_=>((P0_ k_∨P1_ k_)∨w.heap.size≤k_)) v0_ r1∧Below w.heap.size w w':=by
 have hu66:=Try.underlying66
 have hu47:=Try.underlying47
 have HO0:=Aside0.mk (show Kd.V k66 66 w w.heap.size (fun k_=>((P0_ k_∨P1_ k_)∨w.heap.size≤k_)) (.slice A0 l0.length c0) l0 from Kd.V_mono hs0 (fun k_ hk=> .inl (.inl hk)))
 have HO1:=Aside0.mk (show Kd.V k66 66 w w.heap.size (fun k_=>((P0_ k_∨P1_ k_)∨w.heap.size≤k_)) (.slice A1 l1.length c1) l1 from Kd.V_mono hs1 (fun k_ hk=> .inl (.inr hk)))
 have HB:=Aside0.mk (Below.refl w.heap.size w)
 have H:(if (l0.length:Int)>400 then (jalousieref08_Make.j0 k l0 l1 true) else (jalousieref08_Make.j0 k l0 l1 (decide ((l1.length:Int)>400))))=some (r1,r2):=h
 clear h
 have HC3:=Aside0.mk H
 clear H
 go_enter Try.func36,Try.ntmps36
 go_upto_region 1 with (fail)
 go_cut [19] (fun v19 wc=> ∃(kq:Nat) (x19_2:Bool),v19= .bool x19_2∧Aside0 (jalousieref08_Make.j0 kq l0 l1 x19_2=some (r1,r2))∧Aside0 (kq≤k)∧Aside0 (Kd.V k66 66 wc w.heap.size (fun k_=>((P0_ k_∨P1_ k_)∨w.heap.size≤k_)) (.slice A0 l0.length c0) l0)∧Aside0 (Kd.V k66 66 wc w.heap.size (fun k_=>((P0_ k_∨P1_ k_)∨w.heap.size≤k_)) (.slice A1 l1.length c1) l1)∧Aside0 (Below w.heap.size w wc))
 case first=>
  have H:=HC3.out
  clear HC3
  by_cases c4:(l0.length:Int)>400
  ·rw [if_pos c4] at H
   have c4b0:decide (400<(l0.length:Int))=true:=decide_eq_true c4
   have c4b1:decide (400<l0.length)=true:=decide_eq_true (by omega)
   clear c4
   have H':=Aside0.mk H
   clear H
   go_wp2
   go_meet
   case rel=>exact⟨_,(true),(by rfl),H',⟨by omega⟩,⟨by exact HO0.out⟩,⟨by exact HO1.out⟩,⟨by repeat((with_reducible exact HB.out))⟩⟩
  ·rw [if_neg c4] at H
   have c4b0:decide (400<(l0.length:Int))=false:=decide_eq_false c4
   have c4b1:decide (400<l0.length)=false:=decide_eq_false (by omega)
   clear c4
   have H':=Aside0.mk H
   clear H
   go_wp2
   go_meet
   case rel=>exact⟨_,(decide ((l1.length:Int)>400)),(by rfl),H',⟨by omega⟩,⟨by exact HO0.out⟩,⟨by exact HO1.out⟩,⟨by repeat((with_reducible exact HB.out))⟩⟩
 case rest=>
  clear HC3
  obtain⟨kq,x19_2,rfl,HA,HJ2,HO_0,HO_1,HB⟩:=hcut
  cases kq with
  | zero=>exact absurd HA.out (by simp [jalousieref08_Make.j0])
  | succ kj2=>
   have H:=HA.out
   clear HA
   simp only [jalousieref08_Make.j0] at H
   by_cases c5:x19_2=true
   ·subst c5
    have H1:(some (([]:List (S47)),4))=some (r1,r2):=by rw [if_pos rfl] at H;exact H
    clear H
    have H:=H1
    clear H1
    simp only [Option.some.injEq,Prod.mk.injEq] at H
    obtain⟨rfl,rfl⟩:=H
    go_wp2
    go_ret2
    exact⟨_,by rfl,by exact Kd.N_nil _ _ _ _ _,by repeat((with_reducible exact HB.out))⟩
   ·replace c5:=Bool.eq_false_iff.mpr c5
    subst c5
    have H1:((jalousieref06_Numbers.f kj2 (([l0,l1]:List (List (S66))))).bind fun t695=>(if 0<(t695.length:Int) then (if 1<(t695.length:Int) then ((jalousieref07_Steps.f kj2 (rd_L12 t695 0) (rd_L12 t695 1)).bind fun t700=>(jalousieref08_Make.l0 kj2 l0 l1 t700 (([]:List (S47))) 0 0 0)) else (none)) else (none)))=some (r1,r2):=by rw [if_neg (show ¬(false=true) by decide)] at H;exact H
    clear H
    have H:=H1
    clear H1
    obtain⟨y692,hy692⟩: ∃y_:List (List (S66)),y_=(([l0,l1]:List (List (S66)))):=⟨_,rfl⟩
    replace H:((jalousieref06_Numbers.f kj2 y692).bind fun t695=>(if 0<(t695.length:Int) then (if 1<(t695.length:Int) then ((jalousieref07_Steps.f kj2 (rd_L12 t695 0) (rd_L12 t695 1)).bind fun t700=>(jalousieref08_Make.l0 kj2 l0 l1 t700 (([]:List (S47))) 0 0 0)) else (none)) else (none)))=some (r1,r2):=by(rw [hy692];with_reducible exact H)
    have Ny692:=Aside0.mk hy692
    clear hy692
    replace H:=Option.bind_eq_some_iff.mp H
    obtain⟨t695,A60,H⟩:=H
    replace H:(if 0<(t695.length:Int) then (if 1<(t695.length:Int) then ((jalousieref07_Steps.f kj2 (rd_L12 t695 0) (rd_L12 t695 1)).bind fun t700=>(jalousieref08_Make.l0 kj2 l0 l1 t700 (([]:List (S47))) 0 0 0)) else (none)) else (none))=some (r1,r2):=H
    have A6:=Aside0.mk A60
    clear A60
    by_cases c7:0<(t695.length:Int)
    ·rw [if_pos c7] at H
     have c7b0:decide (0<(t695.length:Int))=true:=decide_eq_true c7
     have c7b1:decide (0<t695.length)=true:=decide_eq_true (by omega)
     clear c7
     by_cases c8:1<(t695.length:Int)
     ·rw [if_pos c8] at H
      have c8b0:decide (1<(t695.length:Int))=true:=decide_eq_true c8
      have c8b1:decide (1<t695.length)=true:=decide_eq_true (by omega)
      clear c8
      replace H:=Option.bind_eq_some_iff.mp H
      obtain⟨t700,A90,H⟩:=H
      replace H:(jalousieref08_Make.l0 kj2 l0 l1 t700 (([]:List (S47))) 0 0 0)=some (r1,r2):=H
      have A9:=Aside0.mk A90
      clear A90
      obtain⟨y703,hy703⟩: ∃y_:List (S47),y_=(([]:List (S47))):=⟨_,rfl⟩
      replace H:(jalousieref08_Make.l0 kj2 l0 l1 t700 y703 0 0 0)=some (r1,r2):=by(rw [hy703];with_reducible exact H)
      have Ny703:=Aside0.mk hy703
      clear hy703
      have H':=Aside0.mk H
      clear H
      try go_wp2_with(first|((with_reducible refine gate_dst (N:=22) rfl ?_);(try(refine gate_guard (by rfl) ?_;dsimp only));refine Kd.N_lit (Kd.slice 66 k66) _ 37 ?hg (N':=22) ?hd (xs:=([l0,l1]:List (List (S66)))) (inner:= [.slice A0 l0.length c0, .slice A1 l1.length c1]) (ok:=(fun k_=>((P0_ k_∨P1_ k_)∨w.heap.size≤k_))) (okp:=(fun k_=>((P0_ k_∨P1_ k_)∨w.heap.size≤k_))) ?hr ?hp (fun _ hk=>hk) ((show ∀k_,wc.heap.size≤k_→(fun k_=>((P0_ k_∨P1_ k_)∨w.heap.size≤k_)) k_ from fun k_ hk=>(.inr (Nat.le_trans (below_size (by repeat((with_reducible exact HB.out)))) hk))) _ (Nat.le_refl _)) (Below.refl _ _) (Nat.le_refl _) (by simp) ?_;(case hd=>rfl);(case hg=>rfl);(case hr=>(go_simp;done));(case hp=>exact(Reps.one (show Kd.FK (Kd.slice 66 k66) _ _ l0 [.slice A0 l0.length c0] from(Kd.FK_slice_mk (Kd.V_reads' (Kd.V_mono (ok':=(fun k_=>((P0_ k_∨P1_ k_)∨w.heap.size≤k_))) (HO_0.out) (fun k_ hk=>hk))).2.1 (Kd.V_F (Kd.V_mono (ok':=(fun k_=>((P0_ k_∨P1_ k_)∨w.heap.size≤k_))) (HO_0.out) (fun k_ hk=>hk))))) (Reps.one (show Kd.FK (Kd.slice 66 k66) _ _ l1 [.slice A1 l1.length c1] from(Kd.FK_slice_mk (Kd.V_reads' (Kd.V_mono (ok':=(fun k_=>((P0_ k_∨P1_ k_)∨w.heap.size≤k_))) (HO_1.out) (fun k_ hk=>hk))).2.1 (Kd.V_F (Kd.V_mono (ok':=(fun k_=>((P0_ k_∨P1_ k_)∨w.heap.size≤k_))) (HO_1.out) (fun k_ hk=>hk))))) (Reps.none _ _))));intro v693 w10 ho11 hb hg_ hnew_;clear hg_ hnew_;(rw [← Ny692.out] at ho11);have n0_:=Aside0.mk (Kd.V_elder' (by exact HO_0.out) (by exact Kd.N_base ho11) hb);have n1_:=Aside0.mk (Kd.V_elder' (by exact HO_1.out) (by exact Kd.N_base ho11) hb);have n2_:=Aside0.mk (Kd.N_lower ho11 (below_size (by repeat((with_reducible exact HB.out)))));have n3_:=Aside0.mk (below_step (by repeat((with_reducible exact HB.out))) hb);clear HO_0;clear HO_1;clear HB;have HO_0:=n0_;have HO_1:=n1_;have HO694:=n2_;have HB:=n3_;clear n0_ n1_ n2_ n3_;clear hb ho11;obtain⟨Ao12,co12,eo12⟩:=Kd.N_slice HO694.out;subst eo12)|((with_reducible refine gate_callee (f:=63) rfl ?_);refine goesL_ (some 23) rfl rfl Try.func63 (by kernel_rfl) rfl #[.slice Ao12 y692.length co12] rfl (by(try simp only [List.map_toArray,List.map_cons,List.map_nil]);rfl) ?_;(with_reducible refine(jalousieref06_Numbers.calls kj2 _ _ y692 t695 _ ?side1 ?side2 A6.out).mono ?_);(case side1=>repeat(exact(Kd.N_reads' HO694.out).2.2));(case side2=>exact(Kd.N_reads' HO694.out).2.1);rintro e w13 ⟨v696,rfl,ho0,hb⟩;refine⟨_,rfl,?_⟩;have n0_:=Aside0.mk (Kd.V_elder' (by exact HO_0.out) (by exact Kd.S_base ho0) hb);have n1_:=Aside0.mk (Kd.V_elder' (by exact HO_1.out) (by exact Kd.S_base ho0) hb);have n2_:=Aside0.mk (Kd.N_elder' (by exact HO694.out) (by exact Kd.S_base ho0) hb);have n3_:=Aside0.mk (Kd.N_lower (Kd.N_mono (ok':=fun k_=>((P0_ k_∨P1_ k_)∨w.heap.size≤k_)∧some k_≠(.slice Ao12 y692.length co12:Value).ownBlock) (Kd.S_N (Kd.S_bound ho0)) (fun k_ hk_=>⟨(.inr (Nat.le_trans (below_size (by repeat((with_reducible exact HB.out)))) hk_.2.1)),(Kd.fresh' (Kd.N_lt (by exact HO694.out)) k_ hk_.2.1)⟩)) (below_size (by repeat((with_reducible exact HB.out)))));have n4_:=Aside0.mk (below_step (by repeat((with_reducible exact HB.out))) hb);clear HO_0;clear HO_1;clear HO694;clear HB;have HO_0:=n0_;have HO_1:=n1_;have HO694:=n2_;have HO697:=n3_;have HB:=n4_;clear n0_ n1_ n2_ n3_ n4_;(try clear hb);(try clear ho0)))
      have n0_:=Aside0.mk (Kd.V_drew HO_0.out)
      have n1_:=Aside0.mk (Kd.V_drew HO_1.out)
      have n2_:=Aside0.mk (Kd.N_drew HO694.out)
      have n3_:=Aside0.mk (Kd.N_drew HO697.out)
      have n4_:=Aside0.mk (below_drew1 HB.out)
      clear HO_0
      clear HO_1
      clear HO694
      clear HO697
      clear HB
      have HO_0:=n0_
      have HO_1:=n1_
      have HO694:=n2_
      have HO697:=n3_
      have HB:=n4_
      clear n0_ n1_ n2_ n3_ n4_
      obtain⟨Ao15,co15,eo15⟩:=Kd.N_slice HO697.out
      (subst eo15)
      have p698:0≤(0:Int):=(by omega)
      have q698:0<(t695.length:Int):=of_decide_eq_true (by(with_reducible assumption))
      obtain⟨ad698,A698_0,c698_0,e698,hx698_0,hl698_0,hi698_0⟩:=at_L12 (Kd.N_reads' HO697.out).2.2 0 p698 q698
      cases e698
      obtain⟨ce698,hce698,hMe698,hcc698⟩:=Kd.N_get HO697.out [] 0 p698 (by exact q698)
      obtain⟨ua698_0,uc698_0,rfl,ul698_0,ge698_0⟩:=Kd.FK_slice_open hMe698
      have hv698_0:=hcc698 0 _ rfl
      rw [Nat.add_zero,show((Kd.slice 3 (Kd.int .i64))).sz=1 from rfl,Nat.mul_one] at hv698_0
      replace hv698_0:=Option.some.inj (hv698_0.symm.trans hx698_0)
      injection hv698_0 with hva_ hvn_ hvc_
      rw [hva_] at ge698_0
      rw [hvc_] at ul698_0
      have HL698_0:=Aside0.mk (show Kd.V (Kd.int .i64) 3 _ w.heap.size _ _ (rd_L12 t695 0) from Kd.V_mk ul698_0 ge698_0)
      clear hva_ hvn_ hvc_ ge698_0 ul698_0
      clear hcc698 hce698
      have qi698:(0<t695.length)=True:=eq_true (by omega)
      (try rw [show((0:Int)).toNat=0 from rfl] at hx698_0)
      (try rw [Addr.add_zero'] at hx698_0)
      have HR698_0:=Aside0.mk hi698_0
      have HC698_0:=Aside0.mk hl698_0
      clear hi698_0 hl698_0
      replace p698:=eq_true p698
      replace q698:=eq_true q698
      have p699:0≤(1:Int):=(by omega)
      have q699:1<(t695.length:Int):=of_decide_eq_true (by(with_reducible assumption))
      obtain⟨ad699,A699_0,c699_0,e699,hx699_0,hl699_0,hi699_0⟩:=at_L12 (Kd.N_reads' HO697.out).2.2 1 p699 q699
      obtain rfl:ad698=ad699:=(by injection e699)
      obtain⟨ce699,hce699,hMe699,hcc699⟩:=Kd.N_get HO697.out [] 1 p699 (by exact q699)
      obtain⟨ua699_0,uc699_0,rfl,ul699_0,ge699_0⟩:=Kd.FK_slice_open hMe699
      have hv699_0:=hcc699 0 _ rfl
      rw [Nat.add_zero,show((Kd.slice 3 (Kd.int .i64))).sz=1 from rfl,Nat.mul_one] at hv699_0
      replace hv699_0:=Option.some.inj (hv699_0.symm.trans hx699_0)
      injection hv699_0 with hva_ hvn_ hvc_
      rw [hva_] at ge699_0
      rw [hvc_] at ul699_0
      have HL699_0:=Aside0.mk (show Kd.V (Kd.int .i64) 3 _ w.heap.size _ _ (rd_L12 t695 1) from Kd.V_mk ul699_0 ge699_0)
      clear hva_ hvn_ hvc_ ge699_0 ul699_0
      clear hcc699 hce699
      (try simp only [show(1:Int).toNat=1 from rfl,Nat.reduceMul,Nat.reduceEqDiff,Go.Addr.add, ↓reduceIte] at hx699_0)
      have qi699:(1<t695.length)=True:=eq_true (by omega)
      have HR699_0:=Aside0.mk hi699_0
      have HC699_0:=Aside0.mk hl699_0
      clear hi699_0 hl699_0
      replace p699:=eq_true p699
      replace q699:=eq_true q699
      refine start_ (n:=8) (S:=fun w'=>w'.cell? ad698=some (.slice A698_0 (rd_L12 t695 0).length c698_0)∧w'.cell? ⟨ad698.block,ad698.off+1,none⟩=some (.slice A699_0 (rd_L12 t695 1).length c699_0)) (ds:= []) (Sq.bl 8 0) (by kernel_rfl) rfl rfl ⟨hx698_0,hx699_0⟩ (fun hHeld=>?_);refine with_tabW jalousieref08_Make.tab4 jalousieref08_Make.bits4 (fun HT_ HW_=>?_)
      generalize w13.drew=w14 at HO_0 HO_1 HO694 HO697 HB HL698_0 HL699_0 HR698_0 HR699_0 hx698_0 hx699_0 hHeld ⊢
      refine Sq.pu (v:=?_) (a':=?_) 0 24 (Sq.bl 8 1) (any_of HT_.out (by kernel_rfl)) rfl rfl (fun _ _ _ h=>h) (by rfl) ?_ ?_ ?_;rotate_left;(· intro w';go_simp;with_reducible rfl);rotate_left;(· simp only [Act.put,zp1,zp2,zp3,zp4,zp5];rfl)
      refine Sq.pu (v:=?_) (a':=?_) 1 25 (Sq.bl 8 3) (any_of HT_.out (by kernel_rfl)) rfl rfl (fun _ _ _ h=>h) (by rfl) ?_ ?_ ?_;rotate_left;(· intro w';go_simp;with_reducible rfl);rotate_left;(· simp only [Act.put,zp1,zp2,zp3,zp4,zp5];rfl)
      refine Sq.pu (v:=?_) (a':=?_) 3 27 (Sq.bl 8 11) (any_of HT_.out (by kernel_rfl)) rfl rfl (fun _ _ _ h=>h) (by rfl) ?_ ?_ ?_;rotate_left;(· intro w';go_simp;with_reducible rfl);rotate_left;(· simp only [Act.put,zp1,zp2,zp3,zp4,zp5];rfl)
      refine Sq.pu (v:=?_) (a':=?_) 4 28 (Sq.bl 8 27) (any_of HT_.out (by kernel_rfl)) rfl rfl (fun _ _ _ h=>h) (by rfl) ?_ ?_ ?_;rotate_left;(· intro w';go_simp;with_reducible rfl);rotate_left;(· simp only [Act.put,zp1,zp2,zp3,zp4,zp5];rfl)
      refine take_ (i:=2) (N:=some 26) (v:=?_) (a':=?_) (Sq.bl 8 31) rfl rfl (take_ofW HT_.out HW_.out (by kernel_rfl)) (fun _ _ _ h=>h) (Or.inl ⟨by rfl,?_⟩) hHeld ?_ ?_
      rotate_left
      ·rintro w' ⟨s0,s1⟩
       go_simp
       with_reducible rfl
      rotate_left
      ·simp only [Act.put,zp1,zp2,zp3,zp4,zp5]
       rfl
      refine take_ (i:=5) (N:=some 29) (v:=?_) (a':=?_) (Sq.bl 8 63) rfl rfl (take_ofW HT_.out HW_.out (by kernel_rfl)) (fun _ _ _ h=>h) (Or.inl ⟨by rfl,?_⟩) hHeld ?_ ?_
      rotate_left
      ·rintro w' ⟨s0,s1⟩
       go_simp
       with_reducible rfl
      rotate_left
      ·simp only [Act.put,zp1,zp2,zp3,zp4,zp5]
       rfl
      refine one_ (i:=6) (N:=some 30) (Sq.bl 8 127) rfl rfl (one_of HT_.out (by kernel_rfl)) (by decide) (fun K hK=>?_)
      refine goes_ Try.func64 (by kernel_rfl) rfl #[.slice A698_0 (rd_L12 t695 0).length c698_0, .slice A699_0 (rd_L12 t695 1).length c699_0] (by rfl) rfl rfl (by(try simp only [List.map_toArray,List.map_cons,List.map_nil]);rfl) ?_
      with_reducible refine(jalousieref07_Steps.calls kj2 _ _ (rd_L12 t695 0) _ _ (rd_L12 t695 1) t700 _ ?side1 ?side2 ?side3 ?side4 A9.out).mono ?_
      (case side1=>repeat(exact(by repeat((with_reducible exact HR698_0.out)))))
      (case side2=>exact HC698_0.out)
      (case side3=>repeat(exact(by repeat((with_reducible exact HR699_0.out)))))
      (case side4=>exact HC699_0.out)
      rintro e w16 ⟨v701,rfl,ho0,hb⟩
      have HS0_:=(hb.cell (World.block_lt_of_cell? _ _ (hHeld.1))).trans (hHeld.1)
      have HS1_:=(hb.cell (World.block_lt_of_cell? _ _ (hHeld.2))).trans (hHeld.2)
      refine⟨_,rfl,?_⟩
      have n0_:=Aside0.mk (Kd.V_elder' (by exact HO_0.out) (Kd.R_base ho0) hb)
      have n1_:=Aside0.mk (Kd.V_elder' (by exact HO_1.out) (Kd.R_base ho0) hb)
      have n2_:=Aside0.mk (Kd.N_elder' (by exact HO694.out) (Kd.R_base ho0) hb)
      have n3_:=Aside0.mk (Kd.N_elder' (by exact HO697.out) (Kd.R_base ho0) hb)
      have n4_:=Aside0.mk (Kd.V_elder' (by exact HL698_0.out) (Kd.R_base ho0) hb)
      have n5_:=Aside0.mk (Kd.V_elder' (by exact HL699_0.out) (Kd.R_base ho0) hb)
      have n6_:=Aside0.mk (Kd.R_lower (Kd.R_newM (M:=fun k_=>(w.heap.size≤k_)) ho0 (below_size (by repeat((with_reducible exact HB.out)))) (fun k_ h_=>h_)) (below_size (by repeat((with_reducible exact HB.out)))))
      have n7_:=Aside0.mk (Kd.C_below (by repeat((with_reducible exact HR698_0.out))) hb)
      have n8_:=Aside0.mk (Kd.C_below (by repeat((with_reducible exact HR699_0.out))) hb)
      have n9_:=Aside0.mk (below_step (by repeat((with_reducible exact HB.out))) hb)
      clear HO_0
      clear HO_1
      clear HO694
      clear HO697
      clear HL698_0
      clear HL699_0
      clear HR698_0
      clear HR699_0
      clear HB
      have HO_0:=n0_
      have HO_1:=n1_
      have HO694:=n2_
      have HO697:=n3_
      have HL698_0:=n4_
      have HL699_0:=n5_
      have HO702:=n6_
      have HR698_0:=n7_
      have HR699_0:=n8_
      have HB:=n9_
      clear n0_ n1_ n2_ n3_ n4_ n5_ n6_ n7_ n8_ n9_
      (try clear hb)
      (try clear ho0)
      refine hK.out _ _ ⟨HS0_,HS1_⟩ (fun hHeld=>?_)
      clear hK K
      refine norm_ (a':=?_) ?_ ?_
      rotate_left
      ·show Act.put _ (some 30) _=_
       simp only [Act.put,zp1,zp2,zp3,zp4,zp5]
       rfl
      refine Sq.pu (v:=?_) (a':=?_) 7 7 (Sq.bl 8 255) (any_of HT_.out (by kernel_rfl)) rfl rfl (fun _ _ _ h=>h) (by rfl) ?_ ?_ ?_;rotate_left;(· intro w';go_simp;with_reducible rfl);rotate_left;(· simp only [Act.put,zp1,zp2,zp3,zp4,zp5];rfl)
      refine done_ (done_of HT_.out (by kernel_rfl)) ?_
      try go_wp2_with(((with_reducible refine gate_dst (N:=31) rfl ?_);(try(refine gate_guard (by rfl) ?_;dsimp only));refine Kd.N_lit k47 _ 47 ?hg (N':=31) ?hd (xs:=([]:List (S47))) (inner:= []) (ok:=(fun k_=>((P0_ k_∨P1_ k_)∨w.heap.size≤k_)∧some k_≠(.slice Ao12 y692.length co12:Value).ownBlock∧some k_≠(.slice (some ad698) t695.length co15:Value).ownBlock∧some k_≠(v701:Value).ownBlock)) (okp:=(fun k_=>((P0_ k_∨P1_ k_)∨w.heap.size≤k_)∧some k_≠(.slice Ao12 y692.length co12:Value).ownBlock∧some k_≠(.slice (some ad698) t695.length co15:Value).ownBlock∧some k_≠(v701:Value).ownBlock)) ?hr ?hp (fun _ hk=>hk) ((show ∀k_,w16.heap.size≤k_→(fun k_=>((P0_ k_∨P1_ k_)∨w.heap.size≤k_)∧some k_≠(.slice Ao12 y692.length co12:Value).ownBlock∧some k_≠(.slice (some ad698) t695.length co15:Value).ownBlock∧some k_≠(v701:Value).ownBlock) k_ from fun k_ hk=>⟨(.inr (Nat.le_trans (below_size (by repeat((with_reducible exact HB.out)))) hk)),Kd.fresh' (Kd.N_lt (by exact HO694.out)) k_ hk,Kd.fresh' (Kd.N_lt (by exact HO697.out)) k_ hk,Kd.fresh' (Kd.R_lt (by exact HO702.out)) k_ hk⟩) _ (Nat.le_refl _)) (Below.refl _ _) (Nat.le_refl _) (by simp) ?_;(case hd=>rfl);(case hg=>rfl);(case hr=>(go_simp;done));(case hp=>exact(Reps.none _ _));intro v704 w17 ho18 hb hg_ hnew_;clear hg_ hnew_;(rw [← Ny703.out] at ho18);have n0_:=Aside0.mk (Kd.V_elder' (by exact HO_0.out) (by exact Kd.N_base ho18) hb);have n1_:=Aside0.mk (Kd.V_elder' (by exact HO_1.out) (by exact Kd.N_base ho18) hb);have n2_:=Aside0.mk (Kd.N_elder' (by exact HO694.out) (by exact Kd.N_base ho18) hb);have n3_:=Aside0.mk (Kd.N_elder' (by exact HO697.out) (by exact Kd.N_base ho18) hb);have n4_:=Aside0.mk (Kd.V_elder' (by exact HL698_0.out) (by exact Kd.N_base ho18) hb);have n5_:=Aside0.mk (Kd.V_elder' (by exact HL699_0.out) (by exact Kd.N_base ho18) hb);have n6_:=Aside0.mk (Kd.R_below (by exact HO702.out) hb);have n7_:=Aside0.mk (Kd.N_lower ho18 (below_size (by repeat((with_reducible exact HB.out)))));have n8_:=Aside0.mk (Kd.C_below (by repeat((with_reducible exact HR698_0.out))) hb);have n9_:=Aside0.mk (Kd.C_below (by repeat((with_reducible exact HR699_0.out))) hb);have n10_:=Aside0.mk (below_step (by repeat((with_reducible exact HB.out))) hb);clear HO_0;clear HO_1;clear HO694;clear HO697;clear HL698_0;clear HL699_0;clear HO702;clear HR698_0;clear HR699_0;clear HB;have HO_0:=n0_;have HO_1:=n1_;have HO694:=n2_;have HO697:=n3_;have HL698_0:=n4_;have HL699_0:=n5_;have HO702:=n6_;have HO705:=n7_;have HR698_0:=n8_;have HR699_0:=n9_;have HB:=n10_;clear n0_ n1_ n2_ n3_ n4_ n5_ n6_ n7_ n8_ n9_ n10_;clear hb ho18))
      go_loopg [8,9,10,11] kj2 (fun kq v8 v9 v10 v11 w'=> ∃(x8_2:List (S47)) (x9_2:Int) (x10_2:Int) (x11_2:Int),v9= .int .i64 x9_2∧v10= .int .i64 x10_2∧v11= .int .i64 x11_2∧Aside0 (jalousieref08_Make.l0 kq l0 l1 t700 x8_2 x9_2 x10_2 x11_2=some (r1,r2))∧Aside0 (kq≤kj2)∧Aside0 (Kd.V k66 66 w' w.heap.size (fun k_=>((P0_ k_∨P1_ k_)∨w.heap.size≤k_)∧some k_≠(v701:Value).ownBlock∧some k_≠(v8:Value).ownBlock) (.slice A0 l0.length c0) l0)∧Aside0 (Kd.V k66 66 w' w.heap.size (fun k_=>((P0_ k_∨P1_ k_)∨w.heap.size≤k_)∧some k_≠(v701:Value).ownBlock∧some k_≠(v8:Value).ownBlock) (.slice A1 l1.length c1) l1)∧Aside0 (Kd.R (Kd.int .i64) 45 w' w.heap.size (fun k_=>(w.heap.size≤k_)) v701 t700)∧Aside0 (Kd.N k47 47 w' w.heap.size (fun k_=>((P0_ k_∨P1_ k_)∨w.heap.size≤k_)∧some k_≠(v701:Value).ownBlock) v8 x8_2)∧Aside0 (Below w.heap.size w w'))
      case atStart=>exact⟨(y703),(0),(0),(0),(by rfl),(by rfl),(by rfl),H',⟨Nat.le_refl _⟩,⟨by exact Kd.V_mono HO_0.out (fun _ hk=>⟨hk.1.1.1.1,⟨hk.1.2,hk.2⟩⟩)⟩,⟨by exact Kd.V_mono HO_1.out (fun _ hk=>⟨hk.1.1.1.1,⟨hk.1.2,hk.2⟩⟩)⟩,⟨by exact Kd.R_mono HO702.out (fun _ hk=>hk.1)⟩,⟨by exact Kd.N_mono HO705.out (fun _ hk=>⟨hk.1,hk.2.2.2⟩)⟩,⟨by repeat((with_reducible exact HB.out))⟩⟩
      case round=>
       clear H'
       try clear c7b0
       try clear c7b1
       try clear c8b0
       try clear c8b1
       try clear hx698_0
       try clear hx699_0
       try clear p698
       try clear p699
       try clear q698
       try clear q699
       obtain⟨x8_2,x9_2,x10_2,x11_2,rfl,rfl,rfl,HA,HK2,HO_0,HO_1,HO_7,HO_8,HB⟩:=hrel
       cases gk with
       | zero=>exact absurd HA.out (by simp [jalousieref08_Make.l0])
       | succ k2=>
        have H:=HA.out
        clear HA
        simp only [jalousieref08_Make.l0] at H
        by_cases c19:x11_2<(t700.length:Int)
        ·rw [if_pos c19] at H
         have c19b0:decide (x11_2<(t700.length:Int))=true:=decide_eq_true c19
         clear c19
         by_cases c20:0≤x11_2
         ·rw [if_pos c20] at H
          have c20b0:decide (0≤x11_2)=true:=decide_eq_true c20
          clear c20
          have HC21:=Aside0.mk H
          clear H
          obtain⟨Ao22,co22,eo22⟩:=Kd.R_slice HO_7.out
          subst eo22
          have p710:0≤(x11_2:Int):=of_decide_eq_true (by(with_reducible assumption))
          have q710:x11_2<(t700.length:Int):=of_decide_eq_true (by(with_reducible assumption))
          obtain⟨ad710,e710,hx710_0⟩:=Kd.at_int (Kd.R_reads' HO_7.out).2.2 x11_2 p710 q710
          cases e710
          replace p710:=eq_true p710
          replace q710:=eq_true q710
          go_upto_if 42 with (fail)
          go_cut [8] (fun v8 wc=> ∃(kq:Nat) (x8_20:List (S47)),Aside0 (jalousieref08_Make.j2 kq l0 l1 t700 x8_20 x9_2 x10_2 x11_2=some (r1,r2))∧Aside0 (kq≤k2)∧Aside0 (Kd.V k66 66 wc w.heap.size (fun k_=>((P0_ k_∨P1_ k_)∨w.heap.size≤k_)∧some k_≠((.slice (some ad710) t700.length co22):Value).ownBlock∧some k_≠(v8:Value).ownBlock) (.slice A0 l0.length c0) l0)∧Aside0 (Kd.V k66 66 wc w.heap.size (fun k_=>((P0_ k_∨P1_ k_)∨w.heap.size≤k_)∧some k_≠((.slice (some ad710) t700.length co22):Value).ownBlock∧some k_≠(v8:Value).ownBlock) (.slice A1 l1.length c1) l1)∧Aside0 (Kd.R (Kd.int .i64) 45 wc w.heap.size (fun k_=>(w.heap.size≤k_)) (.slice (some ad710) t700.length co22) t700)∧Aside0 (Kd.N k47 47 wc w.heap.size (fun k_=>((P0_ k_∨P1_ k_)∨w.heap.size≤k_)∧some k_≠((.slice (some ad710) t700.length co22):Value).ownBlock) v8 x8_20)∧Aside0 (Below w.heap.size w wc))
          case first=>
           have H:=HC21.out
           clear HC21
           by_cases c23:(rd t700 x11_2)=3
           ·rw [if_pos c23] at H
            have c23b0:((rd t700 x11_2)==3)=true:=beq_iff_eq.mpr c23
            have c23b1:((rd t700 x11_2) != 3)=false:=bne_eq_false_iff_eq.mpr c23
            clear c23
            (rw [c23b0])
            by_cases c24:0≤x10_2
            ·rw [if_pos c24] at H
             have c24b0:decide (0≤x10_2)=true:=decide_eq_true c24
             clear c24
             by_cases c25:x10_2<(l1.length:Int)
             ·rw [if_pos c25] at H
              have c25b0:decide (x10_2<(l1.length:Int))=true:=decide_eq_true c25
              clear c25
              obtain⟨y713,hy713⟩: ∃y_:List (S66),y_=(([(⟨(rd_T66 l1 x10_2).f0,(rd_T66 l1 x10_2).f1⟩:S66)]:List (S66))):=⟨_,rfl⟩
              replace H:(if x8_2.length<4398046511104 then (jalousieref08_Make.j2 k2 l0 l1 t700 (x8_2++ [(⟨rd t700 x11_2,y713⟩:S47)]) x9_2 x10_2 x11_2) else (none))=some (r1,r2):=by(rw [hy713];with_reducible exact H)
              have Ny713:=Aside0.mk hy713
              clear hy713
              by_cases c26:x8_2.length<4398046511104
              ·rw [if_pos c26] at H
               have LMc26:=Aside0.mk c26
               clear c26
               obtain⟨y716,hy716⟩: ∃y_:List (S47),y_=(x8_2++ [(⟨rd t700 x11_2,y713⟩:S47)]):=⟨_,rfl⟩
               replace H:(jalousieref08_Make.j2 k2 l0 l1 t700 y716 x9_2 x10_2 x11_2)=some (r1,r2):=by(rw [hy716];with_reducible exact H)
               have Ny716:=Aside0.mk hy716
               clear hy716
               have H':=Aside0.mk H
               clear H
               try go_wp2
               have n0_:=Aside0.mk (Kd.V_drew HO_0.out)
               have n1_:=Aside0.mk (Kd.V_drew HO_1.out)
               have n2_:=Aside0.mk (Kd.R_drew HO_7.out)
               have n3_:=Aside0.mk (Kd.N_drew HO_8.out)
               have n4_:=Aside0.mk (below_drew1 HB.out)
               clear HO_0
               clear HO_1
               clear HO_7
               clear HO_8
               clear HB
               have HO_0:=n0_
               have HO_1:=n1_
               have HO_7:=n2_
               have HO_8:=n3_
               have HB:=n4_
               clear n0_ n1_ n2_ n3_ n4_
               have p711:0≤(x11_2:Int):=of_decide_eq_true (by(with_reducible assumption))
               have q711:x11_2<(t700.length:Int):=of_decide_eq_true (by(with_reducible assumption))
               obtain⟨ad711,e711,hx711_0⟩:=Kd.at_int (Kd.R_reads' HO_7.out).2.2 x11_2 p711 q711
               obtain rfl:ad710=ad711:=(by injection e711)
               replace p711:=eq_true p711
               replace q711:=eq_true q711
               have p712:0≤(x10_2:Int):=of_decide_eq_true (by(with_reducible assumption))
               have q712:x10_2<(l1.length:Int):=of_decide_eq_true (by(with_reducible assumption))
               obtain⟨ad712,e712,hx712_0,hx712_1⟩:=at_T66 (Kd.V_reads' HO_1.out).2.2 x10_2 p712 q712
               cases e712
               replace p712:=eq_true p712
               replace q712:=eq_true q712
               refine start_ (n:=14) (S:=fun w'=>w'.cell? (ad710.add (x11_2).toNat)=some (.int .i64 (rd t700 x11_2))∧w'.cell? (ad712.add ((x10_2).toNat*2))=some (.string ((rd_T66 l1 x10_2).f0))∧w'.cell? ⟨(ad712.add ((x10_2).toNat*2)).block,(ad712.add ((x10_2).toNat*2)).off+1,none⟩=some (.bool ((rd_T66 l1 x10_2).f1))) (ds:= [11,12]) (Sq.bl 14 0) (by kernel_rfl) rfl rfl ⟨hx711_0,hx712_0,hx712_1⟩ (fun hHeld=>?_);refine with_tabW jalousieref08_Make.tab12 jalousieref08_Make.bits12 (fun HT_ HW_=>?_)
               generalize wr.drew=w27 at HO_0 HO_1 HO_7 HO_8 HB hx711_0 hx712_0 hx712_1 hHeld ⊢
               refine Sq.pu (v:=?_) (a':=?_) 0 43 (Sq.bl 14 1) (any_of HT_.out (by kernel_rfl)) rfl rfl (fun _ _ _ h=>h) (by rfl) ?_ ?_ ?_;rotate_left;(· intro w';go_simp;with_reducible rfl);rotate_left;(· simp only [Act.put,zp1,zp2,zp3,zp4,zp5];rfl)
               refine Sq.pu (v:=?_) (a':=?_) 1 44 (Sq.bl 14 3) (any_of HT_.out (by kernel_rfl)) rfl rfl (fun _ _ _ h=>h) (by rfl) ?_ ?_ ?_;rotate_left;(· intro w';go_simp;with_reducible rfl);rotate_left;(· simp only [Act.put,zp1,zp2,zp3,zp4,zp5];rfl)
               refine Sq.pu (v:=?_) (a':=?_) 2 45 (Sq.bl 14 7) (any_of HT_.out (by kernel_rfl)) rfl rfl (fun _ _ _ h=>h) (by rfl) ?_ ?_ ?_;rotate_left;(· intro w';go_simp;with_reducible rfl);rotate_left;(· simp only [Act.put,zp1,zp2,zp3,zp4,zp5];rfl)
               refine Sq.pu (v:=?_) (a':=?_) 3 46 (Sq.bl 14 15) (any_of HT_.out (by kernel_rfl)) rfl rfl (fun _ _ _ h=>h) (by rfl) ?_ ?_ ?_;rotate_left;(· intro w';go_simp;with_reducible rfl);rotate_left;(· simp only [Act.put,zp1,zp2,zp3,zp4,zp5];rfl)
               refine Sq.pu (v:=?_) (a':=?_) 5 48 (Sq.bl 14 47) (any_of HT_.out (by kernel_rfl)) rfl rfl (fun _ _ _ h=>h) (by rfl) ?_ ?_ ?_;rotate_left;(· intro w';go_simp;with_reducible rfl);rotate_left;(· simp only [Act.put,zp1,zp2,zp3,zp4,zp5];rfl)
               refine Sq.pu (v:=?_) (a':=?_) 6 49 (Sq.bl 14 111) (any_of HT_.out (by kernel_rfl)) rfl rfl (fun _ _ _ h=>h) (by rfl) ?_ ?_ ?_;rotate_left;(· intro w';go_simp;with_reducible rfl);rotate_left;(· simp only [Act.put,zp1,zp2,zp3,zp4,zp5];rfl)
               refine Sq.pu (v:=?_) (a':=?_) 7 50 (Sq.bl 14 239) (any_of HT_.out (by kernel_rfl)) rfl rfl (fun _ _ _ h=>h) (by rfl) ?_ ?_ ?_;rotate_left;(· intro w';go_simp;with_reducible rfl);rotate_left;(· simp only [Act.put,zp1,zp2,zp3,zp4,zp5];rfl)
               refine take_ (i:=4) (N:=some 47) (v:=?_) (a':=?_) (Sq.bl 14 255) rfl rfl (take_ofW HT_.out HW_.out (by kernel_rfl)) (fun _ _ _ h=>h) (Or.inl ⟨by rfl,?_⟩) hHeld ?_ ?_
               rotate_left
               ·rintro w' ⟨s0,s1,s2⟩
                go_simp
                with_reducible rfl
               rotate_left
               ·simp only [Act.put,zp1,zp2,zp3,zp4,zp5]
                rfl
               refine take_ (i:=8) (N:=some 51) (v:=?_) (a':=?_) (Sq.bl 14 511) rfl rfl (take_ofW HT_.out HW_.out (by kernel_rfl)) (fun _ _ _ h=>h) (Or.inl ⟨by rfl,?_⟩) hHeld ?_ ?_
               rotate_left
               ·rintro w' ⟨s0,s1,s2⟩
                go_simp
                with_reducible rfl
               rotate_left
               ·simp only [Act.put,zp1,zp2,zp3,zp4,zp5]
                rfl
               refine one_ (i:=9) (N:=some 52) (Sq.bl 14 1023) rfl rfl (one_of HT_.out (by kernel_rfl)) (by decide) (fun K hK=>?_)
               refine Kd.R_lit_step k66 _ 66 ?hg (N:=52) ?hd (xs:=([(⟨(rd_T66 l1 x10_2).f0,(rd_T66 l1 x10_2).f1⟩:S66)]:List (S66))) (inner:= [.string ((rd_T66 l1 x10_2).f0), .bool ((rd_T66 l1 x10_2).f1)]) (ok:=fun _=>True) (okp:=fun _=>True) ?hr ?hp (fun _ hk=>hk) trivial (Below.refl _ _) (Nat.le_refl _) (by simp) ?_;(case hd=>rfl);(case hg=>rfl);(case hr=>(go_simp;done));(case hp=>exact(Reps.c2 (show Kd.M k66 _ _ _ (⟨(rd_T66 l1 x10_2).f0,(rd_T66 l1 x10_2).f1⟩:S66) [.string ((rd_T66 l1 x10_2).f0), .bool ((rd_T66 l1 x10_2).f1)] from(k66_mkM _ _ _ (⟨(rd_T66 l1 x10_2).f0,(rd_T66 l1 x10_2).f1⟩:S66) )) (Reps.none _ _)))
               intro v714 w28 ho29 hb hg_ hnew_
               have HS0_:=(hb.cell (World.block_lt_of_cell? _ _ (hHeld.1))).trans (hHeld.1)
               have HS1_:=(hb.cell (World.block_lt_of_cell? _ _ (hHeld.2.1))).trans (hHeld.2.1)
               have HS2_:=(hb.cell (World.block_lt_of_cell? _ _ (hHeld.2.2))).trans (hHeld.2.2)
               clear hg_ hnew_
               (rw [← Ny713.out] at ho29)
               have n0_:=Aside0.mk (Kd.V_elder' (by exact HO_0.out) (Kd.R_base ho29) hb)
               have n1_:=Aside0.mk (Kd.V_elder' (by exact HO_1.out) (Kd.R_base ho29) hb)
               have n2_:=Aside0.mk (Kd.R_below (by exact HO_7.out) hb)
               have n3_:=Aside0.mk (Kd.N_elder' (by exact HO_8.out) (Kd.R_base ho29) hb)
               have n4_:=Aside0.mk (Kd.R_lower (Kd.R_newM (M:=fun k_=>(w.heap.size≤k_)) ho29 (below_size (by repeat((with_reducible exact HB.out)))) (fun k_ h_=>h_)) (below_size (by repeat((with_reducible exact HB.out)))))
               have n5_:=Aside0.mk (below_step (by repeat((with_reducible exact HB.out))) hb)
               clear HO_0
               clear HO_1
               clear HO_7
               clear HO_8
               clear HB
               have HO_0:=n0_
               have HO_1:=n1_
               have HO_7:=n2_
               have HO_8:=n3_
               have HO715:=n4_
               have HB:=n5_
               clear n0_ n1_ n2_ n3_ n4_ n5_
               clear hb ho29
               obtain⟨Ao30,co30,eo30⟩:=Kd.R_slice HO715.out
               (subst eo30)
               refine hK.out _ _ ⟨HS0_,HS1_,HS2_⟩ (fun hHeld=>?_)
               clear hK K
               refine norm_ (a':=?_) ?_ ?_
               rotate_left
               ·show Act.put _ (some 52) _=_
                simp only [Act.put,zp1,zp2,zp3,zp4,zp5]
                rfl
               refine Sq.pu (v:=?_) (a':=?_) 10 53 (Sq.bl 14 2047) (any_of HT_.out (by kernel_rfl)) rfl rfl (fun _ _ _ h=>h) (by rfl) ?_ ?_ ?_;rotate_left;(· intro w';go_simp;with_reducible rfl);rotate_left;(· simp only [Act.put,zp1,zp2,zp3,zp4,zp5];rfl)
               refine last_ (i:=11) (N:=some 54) (Sq.bl 14 4095) rfl rfl (one_of HT_.out (by kernel_rfl)) (by decide) (fun K hK=>?_)
               refine value_ (w1:=?_) (v:=?_) (by rfl) rfl ?_ ?_
               rotate_left 2
               ·go_simp
                constructor
                ·rfl
                ·rfl
               refine hK.out _ _ ?_
               clear hK K
               refine norm_ (a':=?_) ?_ ?_
               rotate_left
               ·show Act.put _ (some 54) _=_
                simp only [Act.put,zp1,zp2,zp3,zp4,zp5]
                rfl
               refine last_ (i:=12) (N:=some 55) (Sq.bl 14 8191) rfl rfl (one_of HT_.out (by kernel_rfl)) (by decide) (fun K hK=>?_)
               refine Kd.N_append_step k47 (w0:=w) w.heap.size (by rfl) (.tmp 43) (.tmp 54) 22 47 (.agg #[(.int .i64 0),(.slice none 0 0)]) 32 rfl Try.underlying22 info47 rfl (by decide) (by omega) u8 x8_2 (⟨rd t700 x11_2,y713⟩:S47) [.int .i64 (rd t700 x11_2), .slice Ao30 y713.length co30] (fun k_=>((P0_ k_∨P1_ k_)∨w.heap.size≤k_)∧some k_≠(.slice (some ad710) t700.length co22:Value).ownBlock) (fun k_=>((fun k_=>((P0_ k_∨P1_ k_)∨w.heap.size≤k_)∧some k_≠(.slice (some ad710) t700.length co22:Value).ownBlock)) k_∧some k_≠(u8:Value).ownBlock) rfl rfl ?aP (fun _ hk=>hk) ?aF ?aO ?aB ?aS ?aL ?_
               (case aP=>exact(k47_mkF _ _ (⟨rd t700 x11_2,y713⟩:S47) (Kd.R_reads' (Kd.R_mono (ok':=(fun k_=>((fun k_=>((P0_ k_∨P1_ k_)∨w.heap.size≤k_)∧some k_≠(.slice (some ad710) t700.length co22:Value).ownBlock)) k_∧some k_≠(u8:Value).ownBlock)) (Kd.R_apart' (Kd.R_apart' (HO715.out) (Kd.R_typed HO_7.out) (by decide)) (Kd.N_typed HO_8.out) (by decide)) (fun k_ hk=>⟨⟨(.inr (hk.1.1.1)),hk.1.2⟩,hk.2⟩))).2.1 (Kd.R_F (Kd.R_mono (ok':=(fun k_=>((fun k_=>((P0_ k_∨P1_ k_)∨w.heap.size≤k_)∧some k_≠(.slice (some ad710) t700.length co22:Value).ownBlock)) k_∧some k_≠(u8:Value).ownBlock)) (Kd.R_apart' (Kd.R_apart' (HO715.out) (Kd.R_typed HO_7.out) (by decide)) (Kd.N_typed HO_8.out) (by decide)) (fun k_ hk=>⟨⟨(.inr (hk.1.1.1)),hk.1.2⟩,hk.2⟩)))))
               (case aB=>exact(by repeat((with_reducible exact HB.out))))
               (case aF=>exact(fun k_ hk=>⟨(.inr (Nat.le_trans (below_size (by repeat((with_reducible exact HB.out)))) hk)),Kd.fresh' (Kd.R_lt (by exact HO_7.out)) k_ hk⟩))
               (case aO=>exact(by exact Kd.N_mono HO_8.out (fun _ hk=>⟨hk.1.1,hk.1.2⟩)))
               (case aS=>exact(below_size (by repeat((with_reducible exact HB.out)))))
               (case aL=>have:=LMc26.out;omega)
               intro v717 w31 ho hb hg hat
               rw [← Ny716.out] at ho
               have n0_:=Aside0.mk (Kd.V_afterv (ok:=(fun k_=>((P0_ k_∨P1_ k_)∨w.heap.size≤k_)∧some k_≠(.slice (some ad710) t700.length co22:Value).ownBlock∧some k_≠(.slice Ao30 y713.length co30:Value).ownBlock)) (by exact Kd.V_mono HO_0.out (fun _ hk=>⟨⟨hk.1.1,⟨hk.1.2.1,hk.2⟩⟩,hk.1.2.2⟩)) hg hat)
               have n1_:=Aside0.mk (Kd.V_afterv (ok:=(fun k_=>((P0_ k_∨P1_ k_)∨w.heap.size≤k_)∧some k_≠(.slice (some ad710) t700.length co22:Value).ownBlock∧some k_≠(.slice Ao30 y713.length co30:Value).ownBlock)) (by exact Kd.V_mono HO_1.out (fun _ hk=>⟨⟨hk.1.1,⟨hk.1.2.1,hk.2⟩⟩,hk.1.2.2⟩)) hg hat)
               have n2_:=Aside0.mk (Kd.R_over' (by exact HO_7.out) (Kd.N_typed (by exact HO_8.out)) (by decide) hg)
               have n3_:=Aside0.mk (hb)
               have n4_:=Aside0.mk (ho)
               clear HO_0
               clear HO_1
               clear HO_7
               clear HB
               clear HO_8
               clear HO715
               have HO_0:=n0_
               have HO_1:=n1_
               have HO_7:=n2_
               have HB:=n3_
               have HO718:=n4_
               clear n0_ n1_ n2_ n3_ n4_
               clear ho hb hg hat
               refine hK.out _ _ ?_
               clear hK K
               refine norm_ (a':=?_) ?_ ?_
               rotate_left
               ·show Act.put _ (some 55) _=_
                simp only [Act.put,zp1,zp2,zp3,zp4,zp5]
                rfl
               refine Sq.pu (v:=?_) (a':=?_) 13 8 (Sq.bl 14 16383) (any_of HT_.out (by kernel_rfl)) rfl rfl (fun _ _ _ h=>h) (by rfl) ?_ ?_ ?_;rotate_left;(· intro w';go_simp;with_reducible rfl);rotate_left;(· simp only [Act.put,zp1,zp2,zp3,zp4,zp5];rfl)
               refine done_ (done_of HT_.out (by kernel_rfl)) ?_
               try go_wp2
               go_meet
               case rel=>exact⟨_,(y716),H',⟨by have:=HJ2.out;have:=HK2.out;omega⟩,⟨by exact Kd.V_mono HO_0.out (fun _ hk=>⟨hk.1.1,⟨hk.1.2.1,hk.2⟩⟩)⟩,⟨by exact Kd.V_mono HO_1.out (fun _ hk=>⟨hk.1.1,⟨hk.1.2.1,hk.2⟩⟩)⟩,⟨by exact HO_7.out⟩,⟨by exact HO718.out⟩,⟨by repeat((with_reducible exact HB.out))⟩⟩
              ·rw [if_neg c26] at H
               exact absurd H (by simp)
             ·rw [if_neg c25] at H
              exact absurd H (by simp)
            ·rw [if_neg c24] at H
             exact absurd H (by simp)
           ·rw [if_neg c23] at H
            have c23b0:((rd t700 x11_2)==3)=false:=beq_eq_false_iff_ne.mpr c23
            have c23b1:((rd t700 x11_2) != 3)=true:=bne_iff_ne.mpr c23
            (rw [c23b0])
            by_cases c32:0≤x9_2
            ·rw [if_pos c32] at H
             have c32b0:decide (0≤x9_2)=true:=decide_eq_true c32
             clear c32
             by_cases c33:x9_2<(l0.length:Int)
             ·rw [if_pos c33] at H
              have c33b0:decide (x9_2<(l0.length:Int))=true:=decide_eq_true c33
              clear c33
              obtain⟨y721,hy721⟩: ∃y_:List (S66),y_=(([(⟨(rd_T66 l0 x9_2).f0,(rd_T66 l0 x9_2).f1⟩:S66)]:List (S66))):=⟨_,rfl⟩
              replace H:(if x8_2.length<4398046511104 then (jalousieref08_Make.j2 k2 l0 l1 t700 (x8_2++ [(⟨rd t700 x11_2,y721⟩:S47)]) x9_2 x10_2 x11_2) else (none))=some (r1,r2):=by(rw [hy721];with_reducible exact H)
              have Ny721:=Aside0.mk hy721
              clear hy721
              by_cases c34:x8_2.length<4398046511104
              ·rw [if_pos c34] at H
               have LMc34:=Aside0.mk c34
               clear c34
               obtain⟨y724,hy724⟩: ∃y_:List (S47),y_=(x8_2++ [(⟨rd t700 x11_2,y721⟩:S47)]):=⟨_,rfl⟩
               replace H:(jalousieref08_Make.j2 k2 l0 l1 t700 y724 x9_2 x10_2 x11_2)=some (r1,r2):=by(rw [hy724];with_reducible exact H)
               have Ny724:=Aside0.mk hy724
               clear hy724
               have H':=Aside0.mk H
               clear H
               try go_wp2
               have n0_:=Aside0.mk (Kd.V_drew HO_0.out)
               have n1_:=Aside0.mk (Kd.V_drew HO_1.out)
               have n2_:=Aside0.mk (Kd.R_drew HO_7.out)
               have n3_:=Aside0.mk (Kd.N_drew HO_8.out)
               have n4_:=Aside0.mk (below_drew1 HB.out)
               clear HO_0
               clear HO_1
               clear HO_7
               clear HO_8
               clear HB
               have HO_0:=n0_
               have HO_1:=n1_
               have HO_7:=n2_
               have HO_8:=n3_
               have HB:=n4_
               clear n0_ n1_ n2_ n3_ n4_
               have p719:0≤(x11_2:Int):=of_decide_eq_true (by(with_reducible assumption))
               have q719:x11_2<(t700.length:Int):=of_decide_eq_true (by(with_reducible assumption))
               obtain⟨ad719,e719,hx719_0⟩:=Kd.at_int (Kd.R_reads' HO_7.out).2.2 x11_2 p719 q719
               obtain rfl:ad710=ad719:=(by injection e719)
               replace p719:=eq_true p719
               replace q719:=eq_true q719
               have p720:0≤(x9_2:Int):=of_decide_eq_true (by(with_reducible assumption))
               have q720:x9_2<(l0.length:Int):=of_decide_eq_true (by(with_reducible assumption))
               obtain⟨ad720,e720,hx720_0,hx720_1⟩:=at_T66 (Kd.V_reads' HO_0.out).2.2 x9_2 p720 q720
               cases e720
               replace p720:=eq_true p720
               replace q720:=eq_true q720
               refine start_ (n:=14) (S:=fun w'=>w'.cell? (ad710.add (x11_2).toNat)=some (.int .i64 (rd t700 x11_2))∧w'.cell? (ad720.add ((x9_2).toNat*2))=some (.string ((rd_T66 l0 x9_2).f0))∧w'.cell? ⟨(ad720.add ((x9_2).toNat*2)).block,(ad720.add ((x9_2).toNat*2)).off+1,none⟩=some (.bool ((rd_T66 l0 x9_2).f1))) (ds:= [11,12]) (Sq.bl 14 0) (by kernel_rfl) rfl rfl ⟨hx719_0,hx720_0,hx720_1⟩ (fun hHeld=>?_);refine with_tabW jalousieref08_Make.tab13 jalousieref08_Make.bits13 (fun HT_ HW_=>?_)
               generalize wr.drew=w35 at HO_0 HO_1 HO_7 HO_8 HB hx719_0 hx720_0 hx720_1 hHeld ⊢
               refine Sq.pu (v:=?_) (a':=?_) 0 56 (Sq.bl 14 1) (any_of HT_.out (by kernel_rfl)) rfl rfl (fun _ _ _ h=>h) (by rfl) ?_ ?_ ?_;rotate_left;(· intro w';go_simp;with_reducible rfl);rotate_left;(· simp only [Act.put,zp1,zp2,zp3,zp4,zp5];rfl)
               refine Sq.pu (v:=?_) (a':=?_) 1 57 (Sq.bl 14 3) (any_of HT_.out (by kernel_rfl)) rfl rfl (fun _ _ _ h=>h) (by rfl) ?_ ?_ ?_;rotate_left;(· intro w';go_simp;with_reducible rfl);rotate_left;(· simp only [Act.put,zp1,zp2,zp3,zp4,zp5];rfl)
               refine Sq.pu (v:=?_) (a':=?_) 2 58 (Sq.bl 14 7) (any_of HT_.out (by kernel_rfl)) rfl rfl (fun _ _ _ h=>h) (by rfl) ?_ ?_ ?_;rotate_left;(· intro w';go_simp;with_reducible rfl);rotate_left;(· simp only [Act.put,zp1,zp2,zp3,zp4,zp5];rfl)
               refine Sq.pu (v:=?_) (a':=?_) 3 59 (Sq.bl 14 15) (any_of HT_.out (by kernel_rfl)) rfl rfl (fun _ _ _ h=>h) (by rfl) ?_ ?_ ?_;rotate_left;(· intro w';go_simp;with_reducible rfl);rotate_left;(· simp only [Act.put,zp1,zp2,zp3,zp4,zp5];rfl)
               refine Sq.pu (v:=?_) (a':=?_) 5 61 (Sq.bl 14 47) (any_of HT_.out (by kernel_rfl)) rfl rfl (fun _ _ _ h=>h) (by rfl) ?_ ?_ ?_;rotate_left;(· intro w';go_simp;with_reducible rfl);rotate_left;(· simp only [Act.put,zp1,zp2,zp3,zp4,zp5];rfl)
               refine Sq.pu (v:=?_) (a':=?_) 6 62 (Sq.bl 14 111) (any_of HT_.out (by kernel_rfl)) rfl rfl (fun _ _ _ h=>h) (by rfl) ?_ ?_ ?_;rotate_left;(· intro w';go_simp;with_reducible rfl);rotate_left;(· simp only [Act.put,zp1,zp2,zp3,zp4,zp5];rfl)
               refine Sq.pu (v:=?_) (a':=?_) 7 63 (Sq.bl 14 239) (any_of HT_.out (by kernel_rfl)) rfl rfl (fun _ _ _ h=>h) (by rfl) ?_ ?_ ?_;rotate_left;(· intro w';go_simp;with_reducible rfl);rotate_left;(· simp only [Act.put,zp1,zp2,zp3,zp4,zp5];rfl)
               refine take_ (i:=4) (N:=some 60) (v:=?_) (a':=?_) (Sq.bl 14 255) rfl rfl (take_ofW HT_.out HW_.out (by kernel_rfl)) (fun _ _ _ h=>h) (Or.inl ⟨by rfl,?_⟩) hHeld ?_ ?_
               rotate_left
               ·rintro w' ⟨s0,s1,s2⟩
                go_simp
                with_reducible rfl
               rotate_left
               ·simp only [Act.put,zp1,zp2,zp3,zp4,zp5]
                rfl
               refine take_ (i:=8) (N:=some 64) (v:=?_) (a':=?_) (Sq.bl 14 511) rfl rfl (take_ofW HT_.out HW_.out (by kernel_rfl)) (fun _ _ _ h=>h) (Or.inl ⟨by rfl,?_⟩) hHeld ?_ ?_
               rotate_left
               ·rintro w' ⟨s0,s1,s2⟩
                go_simp
                with_reducible rfl
               rotate_left
               ·simp only [Act.put,zp1,zp2,zp3,zp4,zp5]
                rfl
               refine one_ (i:=9) (N:=some 65) (Sq.bl 14 1023) rfl rfl (one_of HT_.out (by kernel_rfl)) (by decide) (fun K hK=>?_)
               refine Kd.R_lit_step k66 _ 66 ?hg (N:=65) ?hd (xs:=([(⟨(rd_T66 l0 x9_2).f0,(rd_T66 l0 x9_2).f1⟩:S66)]:List (S66))) (inner:= [.string ((rd_T66 l0 x9_2).f0), .bool ((rd_T66 l0 x9_2).f1)]) (ok:=fun _=>True) (okp:=fun _=>True) ?hr ?hp (fun _ hk=>hk) trivial (Below.refl _ _) (Nat.le_refl _) (by simp) ?_;(case hd=>rfl);(case hg=>rfl);(case hr=>(go_simp;done));(case hp=>exact(Reps.c2 (show Kd.M k66 _ _ _ (⟨(rd_T66 l0 x9_2).f0,(rd_T66 l0 x9_2).f1⟩:S66) [.string ((rd_T66 l0 x9_2).f0), .bool ((rd_T66 l0 x9_2).f1)] from(k66_mkM _ _ _ (⟨(rd_T66 l0 x9_2).f0,(rd_T66 l0 x9_2).f1⟩:S66) )) (Reps.none _ _)))
               intro v722 w36 ho37 hb hg_ hnew_
               have HS0_:=(hb.cell (World.block_lt_of_cell? _ _ (hHeld.1))).trans (hHeld.1)
               have HS1_:=(hb.cell (World.block_lt_of_cell? _ _ (hHeld.2.1))).trans (hHeld.2.1)
               have HS2_:=(hb.cell (World.block_lt_of_cell? _ _ (hHeld.2.2))).trans (hHeld.2.2)
               clear hg_ hnew_
               (rw [← Ny721.out] at ho37)
               have n0_:=Aside0.mk (Kd.V_elder' (by exact HO_0.out) (Kd.R_base ho37) hb)
               have n1_:=Aside0.mk (Kd.V_elder' (by exact HO_1.out) (Kd.R_base ho37) hb)
               have n2_:=Aside0.mk (Kd.R_below (by exact HO_7.out) hb)
               have n3_:=Aside0.mk (Kd.N_elder' (by exact HO_8.out) (Kd.R_base ho37) hb)
               have n4_:=Aside0.mk (Kd.R_lower (Kd.R_newM (M:=fun k_=>(w.heap.size≤k_)) ho37 (below_size (by repeat((with_reducible exact HB.out)))) (fun k_ h_=>h_)) (below_size (by repeat((with_reducible exact HB.out)))))
               have n5_:=Aside0.mk (below_step (by repeat((with_reducible exact HB.out))) hb)
               clear HO_0
               clear HO_1
               clear HO_7
               clear HO_8
               clear HB
               have HO_0:=n0_
               have HO_1:=n1_
               have HO_7:=n2_
               have HO_8:=n3_
               have HO723:=n4_
               have HB:=n5_
               clear n0_ n1_ n2_ n3_ n4_ n5_
               clear hb ho37
               obtain⟨Ao38,co38,eo38⟩:=Kd.R_slice HO723.out
               (subst eo38)
               refine hK.out _ _ ⟨HS0_,HS1_,HS2_⟩ (fun hHeld=>?_)
               clear hK K
               refine norm_ (a':=?_) ?_ ?_
               rotate_left
               ·show Act.put _ (some 65) _=_
                simp only [Act.put,zp1,zp2,zp3,zp4,zp5]
                rfl
               refine Sq.pu (v:=?_) (a':=?_) 10 66 (Sq.bl 14 2047) (any_of HT_.out (by kernel_rfl)) rfl rfl (fun _ _ _ h=>h) (by rfl) ?_ ?_ ?_;rotate_left;(· intro w';go_simp;with_reducible rfl);rotate_left;(· simp only [Act.put,zp1,zp2,zp3,zp4,zp5];rfl)
               refine last_ (i:=11) (N:=some 67) (Sq.bl 14 4095) rfl rfl (one_of HT_.out (by kernel_rfl)) (by decide) (fun K hK=>?_)
               refine value_ (w1:=?_) (v:=?_) (by rfl) rfl ?_ ?_
               rotate_left 2
               ·go_simp
                constructor
                ·rfl
                ·rfl
               refine hK.out _ _ ?_
               clear hK K
               refine norm_ (a':=?_) ?_ ?_
               rotate_left
               ·show Act.put _ (some 67) _=_
                simp only [Act.put,zp1,zp2,zp3,zp4,zp5]
                rfl
               refine last_ (i:=12) (N:=some 68) (Sq.bl 14 8191) rfl rfl (one_of HT_.out (by kernel_rfl)) (by decide) (fun K hK=>?_)
               refine Kd.N_append_step k47 (w0:=w) w.heap.size (by rfl) (.tmp 56) (.tmp 67) 22 47 (.agg #[(.int .i64 0),(.slice none 0 0)]) 32 rfl Try.underlying22 info47 rfl (by decide) (by omega) u8 x8_2 (⟨rd t700 x11_2,y721⟩:S47) [.int .i64 (rd t700 x11_2), .slice Ao38 y721.length co38] (fun k_=>((P0_ k_∨P1_ k_)∨w.heap.size≤k_)∧some k_≠(.slice (some ad710) t700.length co22:Value).ownBlock) (fun k_=>((fun k_=>((P0_ k_∨P1_ k_)∨w.heap.size≤k_)∧some k_≠(.slice (some ad710) t700.length co22:Value).ownBlock)) k_∧some k_≠(u8:Value).ownBlock) rfl rfl ?aP (fun _ hk=>hk) ?aF ?aO ?aB ?aS ?aL ?_
               (case aP=>exact(k47_mkF _ _ (⟨rd t700 x11_2,y721⟩:S47) (Kd.R_reads' (Kd.R_mono (ok':=(fun k_=>((fun k_=>((P0_ k_∨P1_ k_)∨w.heap.size≤k_)∧some k_≠(.slice (some ad710) t700.length co22:Value).ownBlock)) k_∧some k_≠(u8:Value).ownBlock)) (Kd.R_apart' (Kd.R_apart' (HO723.out) (Kd.R_typed HO_7.out) (by decide)) (Kd.N_typed HO_8.out) (by decide)) (fun k_ hk=>⟨⟨(.inr (hk.1.1.1)),hk.1.2⟩,hk.2⟩))).2.1 (Kd.R_F (Kd.R_mono (ok':=(fun k_=>((fun k_=>((P0_ k_∨P1_ k_)∨w.heap.size≤k_)∧some k_≠(.slice (some ad710) t700.length co22:Value).ownBlock)) k_∧some k_≠(u8:Value).ownBlock)) (Kd.R_apart' (Kd.R_apart' (HO723.out) (Kd.R_typed HO_7.out) (by decide)) (Kd.N_typed HO_8.out) (by decide)) (fun k_ hk=>⟨⟨(.inr (hk.1.1.1)),hk.1.2⟩,hk.2⟩)))))
               (case aB=>exact(by repeat((with_reducible exact HB.out))))
               (case aF=>exact(fun k_ hk=>⟨(.inr (Nat.le_trans (below_size (by repeat((with_reducible exact HB.out)))) hk)),Kd.fresh' (Kd.R_lt (by exact HO_7.out)) k_ hk⟩))
               (case aO=>exact(by exact Kd.N_mono HO_8.out (fun _ hk=>⟨hk.1.1,hk.1.2⟩)))
               (case aS=>exact(below_size (by repeat((with_reducible exact HB.out)))))
               (case aL=>have:=LMc34.out;omega)
               intro v725 w39 ho hb hg hat
               rw [← Ny724.out] at ho
               have n0_:=Aside0.mk (Kd.V_afterv (ok:=(fun k_=>((P0_ k_∨P1_ k_)∨w.heap.size≤k_)∧some k_≠(.slice (some ad710) t700.length co22:Value).ownBlock∧some k_≠(.slice Ao38 y721.length co38:Value).ownBlock)) (by exact Kd.V_mono HO_0.out (fun _ hk=>⟨⟨hk.1.1,⟨hk.1.2.1,hk.2⟩⟩,hk.1.2.2⟩)) hg hat)
               have n1_:=Aside0.mk (Kd.V_afterv (ok:=(fun k_=>((P0_ k_∨P1_ k_)∨w.heap.size≤k_)∧some k_≠(.slice (some ad710) t700.length co22:Value).ownBlock∧some k_≠(.slice Ao38 y721.length co38:Value).ownBlock)) (by exact Kd.V_mono HO_1.out (fun _ hk=>⟨⟨hk.1.1,⟨hk.1.2.1,hk.2⟩⟩,hk.1.2.2⟩)) hg hat)
               have n2_:=Aside0.mk (Kd.R_over' (by exact HO_7.out) (Kd.N_typed (by exact HO_8.out)) (by decide) hg)
               have n3_:=Aside0.mk (hb)
               have n4_:=Aside0.mk (ho)
               clear HO_0
               clear HO_1
               clear HO_7
               clear HB
               clear HO_8
               clear HO723
               have HO_0:=n0_
               have HO_1:=n1_
               have HO_7:=n2_
               have HB:=n3_
               have HO726:=n4_
               clear n0_ n1_ n2_ n3_ n4_
               clear ho hb hg hat
               refine hK.out _ _ ?_
               clear hK K
               refine norm_ (a':=?_) ?_ ?_
               rotate_left
               ·show Act.put _ (some 68) _=_
                simp only [Act.put,zp1,zp2,zp3,zp4,zp5]
                rfl
               refine Sq.pu (v:=?_) (a':=?_) 13 8 (Sq.bl 14 16383) (any_of HT_.out (by kernel_rfl)) rfl rfl (fun _ _ _ h=>h) (by rfl) ?_ ?_ ?_;rotate_left;(· intro w';go_simp;with_reducible rfl);rotate_left;(· simp only [Act.put,zp1,zp2,zp3,zp4,zp5];rfl)
               refine done_ (done_of HT_.out (by kernel_rfl)) ?_
               try go_wp2
               go_meet
               case rel=>exact⟨_,(y724),H',⟨by have:=HJ2.out;have:=HK2.out;omega⟩,⟨by exact Kd.V_mono HO_0.out (fun _ hk=>⟨hk.1.1,⟨hk.1.2.1,hk.2⟩⟩)⟩,⟨by exact Kd.V_mono HO_1.out (fun _ hk=>⟨hk.1.1,⟨hk.1.2.1,hk.2⟩⟩)⟩,⟨by exact HO_7.out⟩,⟨by exact HO726.out⟩,⟨by repeat((with_reducible exact HB.out))⟩⟩
              ·rw [if_neg c34] at H
               exact absurd H (by simp)
             ·rw [if_neg c33] at H
              exact absurd H (by simp)
            ·rw [if_neg c32] at H
             exact absurd H (by simp)
          case rest=>
           clear HC21
           try clear c19b0
           try clear c20b0
           try clear hx710_0
           try clear p710
           try clear q710
           obtain⟨kq,x8_20,HA,HJ20,HO_0,HO_1,HO_7,HO_8,HB⟩:=hcut
           cases kq with
           | zero=>exact absurd HA.out (by simp [jalousieref08_Make.j2])
           | succ kj20=>
            have H:=HA.out
            clear HA
            simp only [jalousieref08_Make.j2] at H
            by_cases c40:0≤x11_2
            ·rw [if_pos c40] at H
             have c40b0:decide (0≤x11_2)=true:=decide_eq_true c40
             clear c40
             by_cases c41:x11_2<(t700.length:Int)
             ·rw [if_pos c41] at H
              have c41b0:decide (x11_2<(t700.length:Int))=true:=decide_eq_true c41
              clear c41
              by_cases c42:(rd t700 x11_2)=3
              ·rw [if_pos c42] at H
               have c42b0:((rd t700 x11_2)==3)=true:=beq_iff_eq.mpr c42
               have c42b1:((rd t700 x11_2) != 3)=false:=bne_eq_false_iff_eq.mpr c42
               clear c42
               by_cases c43:(rd t700 x11_2)=2
               ·rw [if_pos c43] at H
                have c43b0:((rd t700 x11_2)==2)=true:=beq_iff_eq.mpr c43
                have c43b1:((rd t700 x11_2) != 2)=false:=bne_eq_false_iff_eq.mpr c43
                clear c43
                have H':=Aside0.mk H
                clear H
                have p727:0≤(x11_2:Int):=of_decide_eq_true (by(with_reducible assumption))
                have q727:x11_2<(t700.length:Int):=of_decide_eq_true (by(with_reducible assumption))
                obtain⟨ad727,e727,hx727_0⟩:=Kd.at_int (Kd.R_reads' HO_7.out).2.2 x11_2 p727 q727
                obtain rfl:ad710=ad727:=(by injection e727)
                replace p727:=eq_true p727
                replace q727:=eq_true q727
                have p728:0≤(x11_2:Int):=of_decide_eq_true (by(with_reducible assumption))
                have q728:x11_2<(t700.length:Int):=of_decide_eq_true (by(with_reducible assumption))
                obtain⟨ad728,e728,hx728_0⟩:=Kd.at_int (Kd.R_reads' HO_7.out).2.2 x11_2 p728 q728
                obtain rfl:ad710=ad728:=(by injection e728)
                replace p728:=eq_true p728
                replace q728:=eq_true q728
                go_wp2
                go_roundg kj20
                case measure=>have:=HJ2.out;have:=HK2.out;have:=HJ20.out;omega
                case rel=>exact⟨(x8_20),(x9_2),(x10_2),(wrap64 (x11_2+1)),(by rfl),(by rfl),(by rfl),H',⟨by have:=HJ2.out;have:=HK2.out;have:=HJ20.out;omega⟩,⟨by exact HO_0.out⟩,⟨by exact HO_1.out⟩,⟨by exact HO_7.out⟩,⟨by exact HO_8.out⟩,⟨by repeat((with_reducible exact HB.out))⟩⟩
               ·rw [if_neg c43] at H
                have c43b0:((rd t700 x11_2)==2)=false:=beq_eq_false_iff_ne.mpr c43
                have c43b1:((rd t700 x11_2) != 2)=true:=bne_iff_ne.mpr c43
                have H':=Aside0.mk H
                clear H
                have p727:0≤(x11_2:Int):=of_decide_eq_true (by(with_reducible assumption))
                have q727:x11_2<(t700.length:Int):=of_decide_eq_true (by(with_reducible assumption))
                obtain⟨ad727,e727,hx727_0⟩:=Kd.at_int (Kd.R_reads' HO_7.out).2.2 x11_2 p727 q727
                obtain rfl:ad710=ad727:=(by injection e727)
                replace p727:=eq_true p727
                replace q727:=eq_true q727
                have p728:0≤(x11_2:Int):=of_decide_eq_true (by(with_reducible assumption))
                have q728:x11_2<(t700.length:Int):=of_decide_eq_true (by(with_reducible assumption))
                obtain⟨ad728,e728,hx728_0⟩:=Kd.at_int (Kd.R_reads' HO_7.out).2.2 x11_2 p728 q728
                obtain rfl:ad710=ad728:=(by injection e728)
                replace p728:=eq_true p728
                replace q728:=eq_true q728
                go_wp2
                go_roundg kj20
                case measure=>have:=HJ2.out;have:=HK2.out;have:=HJ20.out;omega
                case rel=>exact⟨(x8_20),(x9_2),(wrap64 (x10_2+1)),(wrap64 (x11_2+1)),(by rfl),(by rfl),(by rfl),H',⟨by have:=HJ2.out;have:=HK2.out;have:=HJ20.out;omega⟩,⟨by exact HO_0.out⟩,⟨by exact HO_1.out⟩,⟨by exact HO_7.out⟩,⟨by exact HO_8.out⟩,⟨by repeat((with_reducible exact HB.out))⟩⟩
              ·rw [if_neg c42] at H
               have c42b0:((rd t700 x11_2)==3)=false:=beq_eq_false_iff_ne.mpr c42
               have c42b1:((rd t700 x11_2) != 3)=true:=bne_iff_ne.mpr c42
               by_cases c44:(rd t700 x11_2)=2
               ·rw [if_pos c44] at H
                have c44b0:((rd t700 x11_2)==2)=true:=beq_iff_eq.mpr c44
                have c44b1:((rd t700 x11_2) != 2)=false:=bne_eq_false_iff_eq.mpr c44
                clear c44
                have H':=Aside0.mk H
                clear H
                have p727:0≤(x11_2:Int):=of_decide_eq_true (by(with_reducible assumption))
                have q727:x11_2<(t700.length:Int):=of_decide_eq_true (by(with_reducible assumption))
                obtain⟨ad727,e727,hx727_0⟩:=Kd.at_int (Kd.R_reads' HO_7.out).2.2 x11_2 p727 q727
                obtain rfl:ad710=ad727:=(by injection e727)
                replace p727:=eq_true p727
                replace q727:=eq_true q727
                have p729:0≤(x11_2:Int):=of_decide_eq_true (by(with_reducible assumption))
                have q729:x11_2<(t700.length:Int):=of_decide_eq_true (by(with_reducible assumption))
                obtain⟨ad729,e729,hx729_0⟩:=Kd.at_int (Kd.R_reads' HO_7.out).2.2 x11_2 p729 q729
                obtain rfl:ad710=ad729:=(by injection e729)
                replace p729:=eq_true p729
                replace q729:=eq_true q729
                go_wp2
                go_roundg kj20
                case measure=>have:=HJ2.out;have:=HK2.out;have:=HJ20.out;omega
                case rel=>exact⟨(x8_20),(wrap64 (x9_2+1)),(x10_2),(wrap64 (x11_2+1)),(by rfl),(by rfl),(by rfl),H',⟨by have:=HJ2.out;have:=HK2.out;have:=HJ20.out;omega⟩,⟨by exact HO_0.out⟩,⟨by exact HO_1.out⟩,⟨by exact HO_7.out⟩,⟨by exact HO_8.out⟩,⟨by repeat((with_reducible exact HB.out))⟩⟩
               ·rw [if_neg c44] at H
                have c44b0:((rd t700 x11_2)==2)=false:=beq_eq_false_iff_ne.mpr c44
                have c44b1:((rd t700 x11_2) != 2)=true:=bne_iff_ne.mpr c44
                have H':=Aside0.mk H
                clear H
                have p727:0≤(x11_2:Int):=of_decide_eq_true (by(with_reducible assumption))
                have q727:x11_2<(t700.length:Int):=of_decide_eq_true (by(with_reducible assumption))
                obtain⟨ad727,e727,hx727_0⟩:=Kd.at_int (Kd.R_reads' HO_7.out).2.2 x11_2 p727 q727
                obtain rfl:ad710=ad727:=(by injection e727)
                replace p727:=eq_true p727
                replace q727:=eq_true q727
                have p729:0≤(x11_2:Int):=of_decide_eq_true (by(with_reducible assumption))
                have q729:x11_2<(t700.length:Int):=of_decide_eq_true (by(with_reducible assumption))
                obtain⟨ad729,e729,hx729_0⟩:=Kd.at_int (Kd.R_reads' HO_7.out).2.2 x11_2 p729 q729
                obtain rfl:ad710=ad729:=(by injection e729)
                replace p729:=eq_true p729
                replace q729:=eq_true q729
                go_wp2
                go_roundg kj20
                case measure=>have:=HJ2.out;have:=HK2.out;have:=HJ20.out;omega
                case rel=>exact⟨(x8_20),(wrap64 (x9_2+1)),(wrap64 (x10_2+1)),(wrap64 (x11_2+1)),(by rfl),(by rfl),(by rfl),H',⟨by have:=HJ2.out;have:=HK2.out;have:=HJ20.out;omega⟩,⟨by exact HO_0.out⟩,⟨by exact HO_1.out⟩,⟨by exact HO_7.out⟩,⟨by exact HO_8.out⟩,⟨by repeat((with_reducible exact HB.out))⟩⟩
             ·rw [if_neg c41] at H
              exact absurd H (by simp)
            ·rw [if_neg c40] at H
             exact absurd H (by simp)
         ·rw [if_neg c20] at H
          exact absurd H (by simp)
        ·rw [if_neg c19] at H
         have c19b0:decide (x11_2<(t700.length:Int))=false:=decide_eq_false c19
         clear c19
         replace H:=Option.bind_eq_some_iff.mp H
         obtain⟨⟨t706,t707⟩,A450,H⟩:=H
         replace H:(some (t706,t707))=some (r1,r2):=H
         have A45:=Aside0.mk A450
         clear A450
         simp only [Option.some.injEq,Prod.mk.injEq] at H
         obtain⟨rfl,rfl⟩:=H
         obtain⟨Ao46,co46,eo46⟩:=Kd.R_slice HO_7.out
         subst eo46
         obtain⟨Ao47,co47,eo47⟩:=Kd.N_slice HO_8.out
         subst eo47
         go_wp2_with(((with_reducible refine gate_callee (f:=23) rfl ?_);refine goesL_ (some 84) rfl rfl Try.func23 (by kernel_rfl) rfl #[.slice Ao47 x8_2.length co47] rfl (by(try simp only [List.map_toArray,List.map_cons,List.map_nil]);rfl) ?_;(with_reducible refine(jalousieref08_Normal.calls k2 _ _ x8_2 t706 t707 _ ?side1 ?side2 A45.out).mono ?_);(case side1=>repeat(exact(Kd.N_reads' HO_8.out).2.2));(case side2=>exact(Kd.N_reads' HO_8.out).2.1);rintro e w48 ⟨v708,rfl,ho0,hb⟩;refine⟨_,rfl,?_⟩;have n0_:=Aside0.mk (Kd.V_elder' (by exact HO_0.out) (by exact Kd.S_base ho0) hb);have n1_:=Aside0.mk (Kd.V_elder' (by exact HO_1.out) (by exact Kd.S_base ho0) hb);have n2_:=Aside0.mk (Kd.R_below (by exact HO_7.out) hb);have n3_:=Aside0.mk (Kd.N_elder' (by exact HO_8.out) (by exact Kd.S_base ho0) hb);have n4_:=Aside0.mk (Kd.N_lower (Kd.N_mono (ok':=fun k_=>((P0_ k_∨P1_ k_)∨w.heap.size≤k_)∧some k_≠(.slice Ao46 t700.length co46:Value).ownBlock∧some k_≠(.slice Ao47 x8_2.length co47:Value).ownBlock) (Kd.S_N (Kd.S_bound ho0)) (fun k_ hk_=>⟨(.inr (Nat.le_trans (below_size (by repeat((with_reducible exact HB.out)))) hk_.2.1)),(Kd.fresh' (Kd.R_lt (by exact HO_7.out)) k_ hk_.2.1),(Kd.fresh' (Kd.N_lt (by exact HO_8.out)) k_ hk_.2.1)⟩)) (below_size (by repeat((with_reducible exact HB.out)))));have n5_:=Aside0.mk (below_step (by repeat((with_reducible exact HB.out))) hb);clear HO_0;clear HO_1;clear HO_7;clear HO_8;clear HB;have HO_0:=n0_;have HO_1:=n1_;have HO_7:=n2_;have HO_8:=n3_;have HO709:=n4_;have HB:=n5_;clear n0_ n1_ n2_ n3_ n4_ n5_;(try clear hb);(try clear ho0)))
         go_ret2
         exact⟨_,by rfl,by exact Kd.N_mono HO709.out (fun _ hk=>hk.1),by repeat((with_reducible exact HB.out))⟩
     ·rw [if_neg c8] at H
      exact absurd H (by simp)
    ·rw [if_neg c7] at H
     exact absurd H (by simp)
end Go.Proofs.Ytfnbodjmmkjlcaa.H
end
