/-
  What the claim needs of the words, of the walks and of the plain proofs, in one row (8).
-/
import Derived.Test.YtfnbodjmmkjlcaaZ0
import Derived.Test.YtfnbodjmmkjlcaaZ1
import Derived.Test.YtfnbodjmmkjlcaaZ2
section
namespace Go.Proofs.Ytfnbodjmmkjlcaa.H
open Go.RowKit Go.Proofs.YtfnbodjmmkjlcaaW.PrintWords Go.Proofs.YtfnbodjmmkjlcaaW.PrintLast Go.Proofs.YtfnbodjmmkjlcaaW.PrintMore
attribute [local go_sem] max2_int min2_int max_two min_two max_three min_three max_four min_four
set_option linter.unusedVariables false
set_option linter.unusedSimpArgs false
mutual
def jalousieref07_Table.l0:Nat→List Int→List Int→List (List Int)→Int→Option ((List (List Int)))
 | 0,_,_,_,_=>none
 | k+1,x0,x1,x5,x6=>if x6≤(x0.length:Int) then (if 0≤(wrap64 ((x1.length:Int)+1)) then (if (wrap64 ((x1.length:Int)+1):Int).toNat≤35184372088832 then (if x5.length<5864062014805 then (jalousieref07_Table.l0 k x0 x1 (x5++ [(List.replicate (wrap64 ((x1.length:Int)+1):Int).toNat 0)]) (wrap64 (x6+1))) else (none)) else (none)) else (none)) else (jalousieref07_Table.l1 k x0 x1 x5 (x0.length:Int))
def jalousieref07_Table.l1:Nat→List Int→List Int→List (List Int)→Int→Option ((List (List Int)))
 | 0,_,_,_,_=>none
 | k+1,x0,x1,x5,x7=>if x7≥0 then (jalousieref07_Table.l2 k x0 x1 x5 x7 (x1.length:Int)) else (some x5)
def jalousieref07_Table.l2:Nat→List Int→List Int→List (List Int)→Int→Int→Option ((List (List Int)))
 | 0,_,_,_,_,_=>none
 | k+1,x0,x1,x5,x7,x8=>if x8≥0 then (if x7=(x0.length:Int) then (if 0≤x7 then (if x7<(x5.length:Int) then (if 0≤x8 then (if x8<((rd_L12 x5 x7).length:Int) then (jalousieref07_Table.l2 k x0 x1 (x5.set (x7:Int).toNat ((rd_L12 x5 x7).set (x8:Int).toNat (wrap64 ((x1.length:Int)-x8)))) x7 (wrap64 (x8-1))) else (none)) else (none)) else (none)) else (none)) else (if x8=(x1.length:Int) then (if 0≤x7 then (if x7<(x5.length:Int) then (if 0≤x8 then (if x8<((rd_L12 x5 x7).length:Int) then (jalousieref07_Table.l2 k x0 x1 (x5.set (x7:Int).toNat ((rd_L12 x5 x7).set (x8:Int).toNat (wrap64 ((x0.length:Int)-x7)))) x7 (wrap64 (x8-1))) else (none)) else (none)) else (none)) else (none)) else (if 0≤x7 then (if x7<(x0.length:Int) then (if 0≤x8 then (if x8<(x1.length:Int) then (if (rd x0 x7)=(rd x1 x8) then (if x7<(x5.length:Int) then (if 0≤(wrap64 (x7+1)) then (if (wrap64 (x7+1))<(x5.length:Int) then (if 0≤(wrap64 (x8+1)) then (if (wrap64 (x8+1))<((rd_L12 x5 (wrap64 (x7+1))).length:Int) then (if x8<((rd_L12 x5 x7).length:Int) then (jalousieref07_Table.l2 k x0 x1 (x5.set (x7:Int).toNat ((rd_L12 x5 x7).set (x8:Int).toNat (rd (rd_L12 x5 (wrap64 (x7+1))) (wrap64 (x8+1))))) x7 (wrap64 (x8-1))) else (none)) else (none)) else (none)) else (none)) else (none)) else (none)) else (if 0≤(wrap64 (x7+1)) then (if (wrap64 (x7+1))<(x5.length:Int) then (if x8<((rd_L12 x5 (wrap64 (x7+1))).length:Int) then (if x7<(x5.length:Int) then (if 0≤(wrap64 (x8+1)) then (if (wrap64 (x8+1))<((rd_L12 x5 x7).length:Int) then (if (rd (rd_L12 x5 (wrap64 (x7+1))) x8)<(rd (rd_L12 x5 x7) (wrap64 (x8+1))) then (if x8<((rd_L12 x5 x7).length:Int) then (jalousieref07_Table.l2 k x0 x1 (x5.set (x7:Int).toNat ((rd_L12 x5 x7).set (x8:Int).toNat (wrap64 ((rd (rd_L12 x5 (wrap64 (x7+1))) x8)+1)))) x7 (wrap64 (x8-1))) else (none)) else (if x8<((rd_L12 x5 x7).length:Int) then (jalousieref07_Table.l2 k x0 x1 (x5.set (x7:Int).toNat ((rd_L12 x5 x7).set (x8:Int).toNat (wrap64 ((rd (rd_L12 x5 x7) (wrap64 (x8+1)))+1)))) x7 (wrap64 (x8-1))) else (none))) else (none)) else (none)) else (none)) else (none)) else (none)) else (none))) else (none)) else (none)) else (none)) else (none)))) else (jalousieref07_Table.l1 k x0 x1 x5 (wrap64 (x7-1)))
end
def jalousieref07_Table.f (k:Nat) (l0:List Int) (l1:List Int):Option ((List (List Int))):=jalousieref07_Table.l0 k l0 l1 (([]:List (List Int))) 0
def jalousieref07_Table.T16:Bool×List (List Nat×List Nat):=(true,[([],[]),([],[]),([0,1],[0,1]),([2],[2]),([],[]),([],[]),([4,5],[4,5]),([6],[6]),([3,7],[3,7])])
def jalousieref07_Table.B16:List Nat:= [0,0,3,7,0,0,48,112,255]
theorem jalousieref07_Table.tab16:rtab .any (opsOf Try.f76 16)=jalousieref07_Table.T16:=by kernel_rfl
theorem jalousieref07_Table.bits16:waitsOk jalousieref07_Table.T16.2 jalousieref07_Table.B16=true:=by kernel_rfl
def jalousieref07_Table.T17:Bool×List (List Nat×List Nat):=(true,[([],[]),([],[]),([0,1],[0,1]),([2],[2]),([],[]),([],[]),([],[]),([6],[6]),([5,7],[5,7]),([8],[8]),([],[]),([10],[10]),([9,11],[9,11]),([12],[12]),([3,4,0,1,2,3,4,5,6,7,8,9,10,11,12,13],[3,4]),([14,13,0,1,2,3,4,5,6,7,8,9,10,11,12,13],[13,14])])
def jalousieref07_Table.B17:List Nat:= [0,0,3,7,0,0,0,64,224,480,0,1024,4064,8160,16383,32767]
theorem jalousieref07_Table.tab17:rtab .any (opsOf Try.f76 17)=jalousieref07_Table.T17:=by kernel_rfl
theorem jalousieref07_Table.bits17:waitsOk jalousieref07_Table.T17.2 jalousieref07_Table.B17=true:=by kernel_rfl
def jalousieref07_Table.T18:Bool×List (List Nat×List Nat):=(true,[([],[]),([],[]),([1],[1]),([0,2],[0,2]),([3],[3]),([],[]),([4,5],[4,5]),([6],[6]),([],[]),([],[]),([8,9],[8,9]),([10],[10]),([],[]),([12],[12]),([11,13],[11,13]),([14],[14]),([7,15],[7,15])])
def jalousieref07_Table.B18:List Nat:= [0,0,2,7,15,0,63,127,0,0,768,1792,0,4096,16128,32512,65535]
theorem jalousieref07_Table.tab18:rtab .any (opsOf Try.f76 18)=jalousieref07_Table.T18:=by kernel_rfl
theorem jalousieref07_Table.bits18:waitsOk jalousieref07_Table.T18.2 jalousieref07_Table.B18=true:=by kernel_rfl
def jalousieref07_Table.T19:Bool×List (List Nat×List Nat):=(true,[([],[]),([],[]),([0,1],[0,1]),([2],[2]),([],[]),([],[]),([],[]),([6],[6]),([5,7],[5,7]),([8],[8]),([],[]),([9,10],[9,10]),([11],[11]),([12],[12]),([3,4,0,1,2,3,4,5,6,7,8,9,10,11,12,13],[3,4]),([14,13,0,1,2,3,4,5,6,7,8,9,10,11,12,13],[13,14])])
def jalousieref07_Table.B19:List Nat:= [0,0,3,7,0,0,0,64,224,480,0,2016,4064,8160,16383,32767]
theorem jalousieref07_Table.tab19:rtab .any (opsOf Try.f76 19)=jalousieref07_Table.T19:=by kernel_rfl
theorem jalousieref07_Table.bits19:waitsOk jalousieref07_Table.T19.2 jalousieref07_Table.B19=true:=by kernel_rfl
def jalousieref07_Table.T20:Bool×List (List Nat×List Nat):=(true,[([],[]),([],[]),([0,1],[0,1]),([2],[2]),([],[]),([],[]),([],[]),([5,6],[5,6]),([7],[7]),([],[]),([9],[9]),([8,10],[8,10]),([11],[11]),([12],[12]),([3,4,0,1,2,3,4,5,6,7,8,9,10,11,12,13],[3,4]),([14,13,0,1,2,3,4,5,6,7,8,9,10,11,12,13],[13,14])])
def jalousieref07_Table.B20:List Nat:= [0,0,3,7,0,0,0,96,224,0,512,2016,4064,8160,16383,32767]
theorem jalousieref07_Table.tab20:rtab .any (opsOf Try.f76 20)=jalousieref07_Table.T20:=by kernel_rfl
theorem jalousieref07_Table.bits20:waitsOk jalousieref07_Table.T20.2 jalousieref07_Table.B20=true:=by kernel_rfl
set_option maxHeartbeats 8000000 in
set_option maxRecDepth 100000 in
theorem jalousieref07_Table.calls (k:Nat) (A0:Option Addr) (c0:Nat) (l0:List Int) (A1:Option Addr) (c1:Nat) (l1:List Int) (r:List (List Int)) (w:World) (hr0:Kd.C (Kd.int .i64) w A0 l0.length l0) (hc0:l0.length≤c0) (hr1:Kd.C (Kd.int .i64) w A1 l1.length l1) (hc1:l1.length≤c1) (h:jalousieref07_Table.f k l0 l1=some r):
  Calls Try.prog 76 #[.slice A0 l0.length c0, .slice A1 l1.length c1] w fun e w'=> ∃v0_:Value,e= .returned (v0_)∧Kd.S (Kd.slice 3 (Kd.int .i64)) 53 w' w.heap.size (fun _=>True) v0_ r∧Below w.heap.size w w':=by
 have HR0:=Aside0.mk hr0
 have HC0:=Aside0.mk hc0
 clear hr0 hc0
 have HR1:=Aside0.mk hr1
 have HC1:=Aside0.mk hc1
 clear hr1 hc1
 have HB:=Aside0.mk (Below.refl w.heap.size w)
 have H:(jalousieref07_Table.l0 k l0 l1 (([]:List (List Int))) 0)=some r:=h
 clear h
 obtain⟨y625,hy625⟩: ∃y_:List (List Int),y_=(([]:List (List Int))):=⟨_,rfl⟩
 replace H:(jalousieref07_Table.l0 k l0 l1 y625 0)=some r:=by(rw [hy625];with_reducible exact H)
 have Ny625:=Aside0.mk hy625
 clear hy625
 have H':=Aside0.mk H
 clear H
 go_enter Try.func76,Try.ntmps76
 go_wp2_with(((with_reducible refine gate_dst (N:=9) rfl ?_);refine Kd.S_lit (Kd.slice 3 (Kd.int .i64)) _ 53 ?hg (N:=9) ?hd (xs:=([]:List (List Int))) (inner:= []) (ok:=fun _=>True) (okp:=fun _=>True) ?hr ?hp (fun _ hk=>hk) trivial (Below.refl _ _) (Nat.le_refl _) (by simp) ?_;(case hd=>rfl);(case hg=>rfl);(case hr=>(go_simp;done));(case hp=>exact(Reps.none _ _));intro v626 w3 ho4 hb hg_ hnew_;clear hg_ hnew_;(rw [← Ny625.out] at ho4);have n0_:=Aside0.mk (Kd.S_lower ho4 (below_size (by repeat((with_reducible exact HB.out)))));have n1_:=Aside0.mk (below_step (by repeat((with_reducible exact HB.out))) hb);clear HB;have HO627:=n0_;have HB:=n1_;clear n0_ n1_;clear hb ho4))
 go_loopg [5,6] k (fun kq v5 v6 w'=> ∃(x5_1:List (List Int)) (x6_1:Int),v6= .int .i64 x6_1∧Aside0 (jalousieref07_Table.l0 kq l0 l1 x5_1 x6_1=some r)∧Aside0 (kq≤k)∧Aside0 (Kd.S (Kd.slice 3 (Kd.int .i64)) 53 w' w.heap.size (fun _=>True) v5 x5_1)∧Aside0 (Below w.heap.size w w'))
 case atStart=>exact⟨(y625),(0),(by rfl),H',⟨Nat.le_refl _⟩,⟨by exact HO627.out⟩,⟨by repeat((with_reducible exact HB.out))⟩⟩
 case round=>
  clear H'
  obtain⟨x5_1,x6_1,rfl,HA,HK1,HO_5,HB⟩:=hrel
  cases gk with
  | zero=>exact absurd HA.out (by simp [jalousieref07_Table.l0])
  | succ k1=>
   have H:=HA.out
   clear HA
   simp only [jalousieref07_Table.l0] at H
   by_cases c5:x6_1≤(l0.length:Int)
   ·rw [if_pos c5] at H
    have c5b0:decide (x6_1≤(l0.length:Int))=true:=decide_eq_true c5
    clear c5
    obtain⟨ji6,hji6⟩: ∃j_:Int,(wrap64 ((l1.length:Int)+1))=j_:=⟨_,rfl⟩
    replace H:(if 0≤(ji6) then (if (ji6:Int).toNat≤35184372088832 then (if x5_1.length<5864062014805 then (jalousieref07_Table.l0 k1 l0 l1 (x5_1++ [(List.replicate (ji6:Int).toNat 0)]) (wrap64 (x6_1+1))) else (none)) else (none)) else (none))=some r:=by(rw [hji6] at H;exact H)
    have hji6w:(IntKind.i64.wrap ((l1.length:Int)+1))=ji6:=(i64_w _).trans hji6
    by_cases c7:0≤(ji6)
    ·rw [if_pos c7] at H
     have c7b0:=eq_true c7
     have c7b1:decide (0≤(ji6))=true:=decide_eq_true c7
     clear c7
     by_cases c8:(ji6:Int).toNat≤35184372088832
     ·rw [if_pos c8] at H
      have c8b0:=eq_true c8
      have c8b1:decide ((ji6:Int).toNat≤35184372088832)=true:=decide_eq_true c8
      clear c8
      obtain⟨y628,hy628⟩: ∃y_:List Int,y_=(List.replicate (ji6:Int).toNat 0):=⟨_,rfl⟩
      replace H:(if x5_1.length<5864062014805 then (jalousieref07_Table.l0 k1 l0 l1 (x5_1++ [y628]) (wrap64 (x6_1+1))) else (none))=some r:=by(rw [hy628];with_reducible exact H)
      have Ny628:=Aside0.mk hy628
      clear hy628
      by_cases c9:x5_1.length<5864062014805
      ·rw [if_pos c9] at H
       have LMc9:=Aside0.mk c9
       clear c9
       obtain⟨y631,hy631⟩: ∃y_:List (List Int),y_=(x5_1++ [y628]):=⟨_,rfl⟩
       replace H:(jalousieref07_Table.l0 k1 l0 l1 y631 (wrap64 (x6_1+1)))=some r:=by(rw [hy631];with_reducible exact H)
       have Ny631:=Aside0.mk hy631
       clear hy631
       have H':=Aside0.mk H
       clear H
       go_wp2_with(first|((with_reducible refine gate_dst (N:=20) rfl ?_);refine Kd.R_make (Kd.int .i64) _ 3 rfl (N:=20) rfl 53 _ _ rfl ji6 rfl rfl Try.underlying53 (.int .i64 0) 8 info3 rfl (by decide) (by omega) 0 (ok:=fun _=>True) (okp:=fun _=>True) rfl (fun _ hk=>hk) trivial (of_decide_eq_true (by(with_reducible assumption))) (Nat.le_trans (Nat.mul_le_mul_right _ (of_decide_eq_true (by(with_reducible assumption)):ji6.toNat≤35184372088832)) (by omega)) (Below.refl _ _) (Nat.le_refl _) ?_;intro v629 w10 ho11 hb hg_ hnew_;clear hg_ hnew_;(rw [← Ny628.out] at ho11);have n0_:=Aside0.mk (Kd.S_elder' (by exact HO_5.out) (Kd.R_base ho11) hb);have n1_:=Aside0.mk (Kd.R_lower ho11 (below_size (by repeat((with_reducible exact HB.out)))));have n2_:=Aside0.mk (below_step (by repeat((with_reducible exact HB.out))) hb);clear HO_5;clear HB;have HO_5:=n0_;have HO630:=n1_;have HB:=n2_;clear n0_ n1_ n2_;clear hb ho11;obtain⟨Ao13,co13,eo13⟩:=Kd.R_slice HO630.out;subst eo13)|((with_reducible refine gate_builtin (b:= .append) (xs:= #[.tmp 16, .tmp 21]) rfl ?_);at_builtin;refine Kd.S_append (Kd.slice 3 (Kd.int .i64)) (w0:=w) w.heap.size rfl (.tmp 16) (.tmp 21) 91 53 (.slice none 0 0) 24 rfl Try.underlying91 info53 rfl (by decide) (by omega) u5 x5_1 y628 [.slice Ao13 y628.length co13] (fun _=>True) (fun k_=>some k_=(.slice Ao13 y628.length co13:Value).ownBlock) rfl rfl ?aP (fun k_ hk_=>((Kd.R_mono (ok':=fun k_=>((fun _=>True)) k_∧some k_≠(u5:Value).ownBlock) (Kd.R_apart' (HO630.out) (Kd.S_typed HO_5.out) (by decide)) (fun k_ hk=>⟨trivial,hk.2⟩))).1 k_ hk_.symm) ?aF ?aO ?aB ?aS ?aL ?_;(case aP=>exact Kd.M_row (Kd.R_mono (Kd.R_tight rfl (Kd.R_mono (ok':=fun k_=>((fun _=>True)) k_∧some k_≠(u5:Value).ownBlock) (Kd.R_apart' (HO630.out) (Kd.S_typed HO_5.out) (by decide)) (fun k_ hk=>⟨trivial,hk.2⟩))) (fun _ h_=>h_)));(case aB=>exact(by repeat((with_reducible exact HB.out))));(case aF=>exact(fun _ _=>trivial));(case aO=>exact(by exact Kd.S_mono HO_5.out (fun k_ hk=>⟨trivial,fun e_=>hk.2 e_⟩)));(case aS=>exact(below_size (by repeat((with_reducible exact HB.out)))));(case aL=>have:=LMc9.out;omega);intro v632 w12 ho hb hg hat;rw [← Ny631.out] at ho;have n0_:=Aside0.mk (hb);have n1_:=Aside0.mk (ho);clear HB;clear HO_5;clear HO630;have HB:=n0_;have HO633:=n1_;clear n0_ n1_;clear ho hb hg hat))
       go_roundg k1
       case measure=>have:=HK1.out;omega
       case rel=>exact⟨(y631),(wrap64 (x6_1+1)),(by rfl),H',⟨by have:=HK1.out;omega⟩,⟨by exact HO633.out⟩,⟨by repeat((with_reducible exact HB.out))⟩⟩
      ·rw [if_neg c9] at H
       exact absurd H (by simp)
     ·rw [if_neg c8] at H
      exact absurd H (by simp)
    ·rw [if_neg c7] at H
     exact absurd H (by simp)
   ·rw [if_neg c5] at H
    have c5b0:decide (x6_1≤(l0.length:Int))=false:=decide_eq_false c5
    clear c5
    have H':=Aside0.mk H
    clear H
    go_wp2
    go_loopg [7] k1 (fun kq v7 w'=> ∃(x5_2:List (List Int)) (x7_2:Int),v7= .int .i64 x7_2∧Aside0 (jalousieref07_Table.l1 kq l0 l1 x5_2 x7_2=some r)∧Aside0 (kq≤k1)∧Aside0 (Kd.S (Kd.slice 3 (Kd.int .i64)) 53 w' w.heap.size (fun _=>True) u5 x5_2)∧Aside0 (Below w.heap.size w w'))
    case atStart=>exact⟨(x5_1),((l0.length:Int)),(by rfl),H',⟨Nat.le_refl _⟩,⟨by exact HO_5.out⟩,⟨by repeat((with_reducible exact HB.out))⟩⟩
    case round=>
     clear H'
     try clear c5b0
     obtain⟨x5_2,x7_2,rfl,HA,HK2,HO_5,HB⟩:=hrel
     cases gk with
     | zero=>exact absurd HA.out (by simp [jalousieref07_Table.l1])
     | succ k2=>
      have H:=HA.out
      clear HA
      simp only [jalousieref07_Table.l1] at H
      by_cases c14:x7_2≥0
      ·rw [if_pos c14] at H
       have c14b0:decide (0≤x7_2)=true:=decide_eq_true c14
       clear c14
       have H':=Aside0.mk H
       clear H
       go_wp2
       go_loopg [8] k2 (fun kq v8 w'=> ∃(x5_3:List (List Int)) (x8_3:Int),v8= .int .i64 x8_3∧Aside0 (jalousieref07_Table.l2 kq l0 l1 x5_3 x7_2 x8_3=some r)∧Aside0 (kq≤k2)∧Aside0 (Kd.S (Kd.slice 3 (Kd.int .i64)) 53 w' w.heap.size (fun _=>True) u5 x5_3)∧Aside0 (Below w.heap.size w w'))
       case atStart=>exact⟨(x5_2),((l1.length:Int)),(by rfl),H',⟨Nat.le_refl _⟩,⟨by exact HO_5.out⟩,⟨by repeat((with_reducible exact HB.out))⟩⟩
       case round=>
        clear H'
        try clear c14b0
        obtain⟨x5_3,x8_3,rfl,HA,HK3,HO_5,HB⟩:=hrel
        cases gk with
        | zero=>exact absurd HA.out (by simp [jalousieref07_Table.l2])
        | succ k3=>
         have H:=HA.out
         clear HA
         simp only [jalousieref07_Table.l2] at H
         by_cases c15:x8_3≥0
         ·rw [if_pos c15] at H
          have c15b0:decide (0≤x8_3)=true:=decide_eq_true c15
          clear c15
          by_cases c16:x7_2=(l0.length:Int)
          ·rw [if_pos c16] at H
           have c16b0:(x7_2==(l0.length:Int))=true:=beq_iff_eq.mpr c16
           have c16b1:(x7_2 != (l0.length:Int))=false:=bne_eq_false_iff_eq.mpr c16
           clear c16
           by_cases c17:0≤x7_2
           ·rw [if_pos c17] at H
            have c17b0:decide (0≤x7_2)=true:=decide_eq_true c17
            clear c17
            by_cases c18:x7_2<(x5_3.length:Int)
            ·rw [if_pos c18] at H
             have c18b0:decide (x7_2<(x5_3.length:Int))=true:=decide_eq_true c18
             clear c18
             by_cases c19:0≤x8_3
             ·rw [if_pos c19] at H
              have c19b0:decide (0≤x8_3)=true:=decide_eq_true c19
              clear c19
              by_cases c20:x8_3<((rd_L12 x5_3 x7_2).length:Int)
              ·rw [if_pos c20] at H
               have c20b0:decide (x8_3<((rd_L12 x5_3 x7_2).length:Int))=true:=decide_eq_true c20
               clear c20
               obtain⟨y635,hy635⟩: ∃y_:List Int,y_=((rd_L12 x5_3 x7_2).set (x8_3:Int).toNat (wrap64 ((l1.length:Int)-x8_3))):=⟨_,rfl⟩
               replace H:(jalousieref07_Table.l2 k3 l0 l1 (x5_3.set (x7_2:Int).toNat y635) x7_2 (wrap64 (x8_3-1)))=some r:=by(rw [hy635];with_reducible exact H)
               have Ny635:=Aside0.mk hy635
               clear hy635
               obtain⟨y637,hy637⟩: ∃y_:List (List Int),y_=(x5_3.set (x7_2:Int).toNat y635):=⟨_,rfl⟩
               replace H:(jalousieref07_Table.l2 k3 l0 l1 y637 x7_2 (wrap64 (x8_3-1)))=some r:=by(rw [hy637];with_reducible exact H)
               have Ny637:=Aside0.mk hy637
               clear hy637
               have H':=Aside0.mk H
               clear H
               obtain⟨Ao22,co22,eo22⟩:=Kd.S_slice HO_5.out
               subst eo22
               have p634:0≤(x7_2:Int):=of_decide_eq_true (by(with_reducible assumption))
               have q634:x7_2<(x5_3.length:Int):=of_decide_eq_true (by(with_reducible assumption))
               obtain⟨ad634,A634_0,c634_0,e634,hx634_0,hl634_0,hi634_0⟩:=at_L12 (Kd.S_reads' HO_5.out).2.2 x7_2 p634 q634
               cases e634
               obtain⟨ce634,hce634,hMe634,hcc634⟩:=Kd.S_get HO_5.out [] x7_2 p634 (by exact q634)
               obtain⟨ve634_0,rfl,ge634_0⟩:=hMe634
               have hv634_0:=hcc634 0 _ rfl
               rw [Nat.add_zero,show((Kd.slice 3 (Kd.int .i64))).sz=1 from rfl,Nat.mul_one] at hv634_0
               replace hv634_0:=Option.some.inj (hv634_0.symm.trans hx634_0)
               rw [hv634_0] at ge634_0
               have HL634_0:=Aside0.mk (show Kd.R (Kd.int .i64) 3 _ _ _ _ (rd_L12 x5_3 x7_2) from ge634_0)
               clear hv634_0 ge634_0
               have HX634_0:=Aside0.mk hx634_0
               clear hcc634 hce634
               have HR634_0:=Aside0.mk hi634_0
               have HC634_0:=Aside0.mk hl634_0
               clear hi634_0 hl634_0
               replace p634:=eq_true p634
               replace q634:=eq_true q634
               have p21:0≤(x8_3:Int):=of_decide_eq_true (by(with_reducible assumption))
               have q21:(x8_3:Int)<(((rd_L12 x5_3 x7_2).length:Int):Int):=of_decide_eq_true (by(with_reducible assumption))
               obtain⟨go21,co21,eo21,gb21,gl21,cl21,HG21⟩:=Kd.R_form HL634_0.out (by omega)
               (first|cases eo21|(injection eo21 with ea_ en_ ec_;(fail);subst ec_;clear en_))
               have GB21:=Aside0.mk gb21
               have GG21:=Aside0.mk HG21
               clear gb21 gl21 HG21
               obtain⟨hx21_0,hf21_0⟩:=Kd.R_celln 0 HL634_0.out (x8_3:Int) p21 q21
               replace p21:=eq_true p21
               replace q21:=eq_true q21
               have hq23:(x7_2:Int)<(x5_3.length:Int):=(by have h_:(x7_2:Int)<((x5_3.length:Int):Int):=of_decide_eq_true (by(with_reducible assumption));exact h_)
               obtain⟨oki23,ce23,hcl23,hM23,hcc23,hok23,hbk23⟩:=Kd.S_borrow HO_5.out [] (x7_2:Int) (of_decide_eq_true (by(with_reducible assumption))) hq23
               obtain⟨ve23_0,rfl,ge23_0⟩:=hM23
               have hv23:=hcc23 0 _ rfl
               rw [Nat.add_zero,show((Kd.slice 3 (Kd.int .i64))).sz=1 from rfl,Nat.mul_one] at hv23
               replace hv23:=Option.some.inj (hv23.symm.trans HX634_0.out)
               subst hv23
               clear hcc23 hcl23
               replace ge23_0:=(show Kd.R (Kd.int .i64) 3 _ _ _ _ (rd_L12 x5_3 x7_2) from ge23_0)
               have HP23:=Kd.R_putg ge23_0 (x8_3:Int) (wrap64 ((l1.length:Int)-x8_3))
               go_wp2_with(((with_reducible refine gate_store (t:=3) (p:=48) rfl ?_);refine store_event (t:=3) (p:=48) (v:= ?vo_w24) (w1:=(wr.setCell ⟨go21,(x8_3:Int).toNat,none⟩ (.int .i64 (wrap64 ((l1.length:Int)-x8_3))))) ?hg ?ho ?hn ?hr ?_;(case ho=>rfl);(case hg=>rfl);(case hn=>rfl);(case hr=>(go_simp;done));intro w24 hw;have hg:wr.grownBy w24 (some go21):=(by rw [hw];exact HP23.2);have hz_:Kd.R (Kd.int .i64) 3 w24 w.heap.size oki23 (.slice (some ⟨go21,0,none⟩) (rd_L12 x5_3 x7_2).length c634_0) y635:=(by rw [hw,Ny635.out];exact HP23.1);have hp_:Kd.S (Kd.slice 3 (Kd.int .i64)) 53 w24 w.heap.size (fun _=>True) (.slice (some ad634) x5_3.length co22) y637:=(by rw [Ny637.out];exact hbk23 hg (fun k_ e_=>by injection e_ with e_;subst e_;exact ge23_0.1 _ rfl) (Kd.M_row hz_));have hm_:=Kd.R_mono hz_ hok23;clear HP23 hbk23;have n0_:=Aside0.mk (hp_);have n1_:=Aside0.mk ((by rw [hw];exact below_set (HB.out) GB21.out:Below w.heap.size w w24));have n2_:=Aside0.mk (hm_);have n3_:=Aside0.mk ((Kd.R_reads' hm_).2.1);clear HO_5;clear HB;clear HL634_0;have HO_5:=n0_;have HB:=n1_;have HL666:=n2_;have HC636:=n3_;clear n0_ n1_ n2_ n3_;clear hg hw hp_ hz_ hm_ hok23))
               go_roundg k3
               case measure=>have:=HK1.out;have:=HK2.out;have:=HK3.out;omega
               case rel=>exact⟨(y637),(wrap64 (x8_3-1)),(by rfl),H',⟨by have:=HK1.out;have:=HK2.out;have:=HK3.out;omega⟩,⟨by exact HO_5.out⟩,⟨by repeat((with_reducible exact HB.out))⟩⟩
              ·rw [if_neg c20] at H
               exact absurd H (by simp)
             ·rw [if_neg c19] at H
              exact absurd H (by simp)
            ·rw [if_neg c18] at H
             exact absurd H (by simp)
           ·rw [if_neg c17] at H
            exact absurd H (by simp)
          ·rw [if_neg c16] at H
           have c16b0:(x7_2==(l0.length:Int))=false:=beq_eq_false_iff_ne.mpr c16
           have c16b1:(x7_2 != (l0.length:Int))=true:=bne_iff_ne.mpr c16
           by_cases c25:x8_3=(l1.length:Int)
           ·rw [if_pos c25] at H
            have c25b0:(x8_3==(l1.length:Int))=true:=beq_iff_eq.mpr c25
            have c25b1:(x8_3 != (l1.length:Int))=false:=bne_eq_false_iff_eq.mpr c25
            clear c25
            by_cases c26:0≤x7_2
            ·rw [if_pos c26] at H
             have c26b0:decide (0≤x7_2)=true:=decide_eq_true c26
             clear c26
             by_cases c27:x7_2<(x5_3.length:Int)
             ·rw [if_pos c27] at H
              have c27b0:decide (x7_2<(x5_3.length:Int))=true:=decide_eq_true c27
              clear c27
              by_cases c28:0≤x8_3
              ·rw [if_pos c28] at H
               have c28b0:decide (0≤x8_3)=true:=decide_eq_true c28
               clear c28
               by_cases c29:x8_3<((rd_L12 x5_3 x7_2).length:Int)
               ·rw [if_pos c29] at H
                have c29b0:decide (x8_3<((rd_L12 x5_3 x7_2).length:Int))=true:=decide_eq_true c29
                clear c29
                obtain⟨y639,hy639⟩: ∃y_:List Int,y_=((rd_L12 x5_3 x7_2).set (x8_3:Int).toNat (wrap64 ((l0.length:Int)-x7_2))):=⟨_,rfl⟩
                replace H:(jalousieref07_Table.l2 k3 l0 l1 (x5_3.set (x7_2:Int).toNat y639) x7_2 (wrap64 (x8_3-1)))=some r:=by(rw [hy639];with_reducible exact H)
                have Ny639:=Aside0.mk hy639
                clear hy639
                obtain⟨y641,hy641⟩: ∃y_:List (List Int),y_=(x5_3.set (x7_2:Int).toNat y639):=⟨_,rfl⟩
                replace H:(jalousieref07_Table.l2 k3 l0 l1 y641 x7_2 (wrap64 (x8_3-1)))=some r:=by(rw [hy641];with_reducible exact H)
                have Ny641:=Aside0.mk hy641
                clear hy641
                have H':=Aside0.mk H
                clear H
                obtain⟨Ao31,co31,eo31⟩:=Kd.S_slice HO_5.out
                subst eo31
                have p638:0≤(x7_2:Int):=of_decide_eq_true (by(with_reducible assumption))
                have q638:x7_2<(x5_3.length:Int):=of_decide_eq_true (by(with_reducible assumption))
                obtain⟨ad638,A638_0,c638_0,e638,hx638_0,hl638_0,hi638_0⟩:=at_L12 (Kd.S_reads' HO_5.out).2.2 x7_2 p638 q638
                cases e638
                obtain⟨ce638,hce638,hMe638,hcc638⟩:=Kd.S_get HO_5.out [] x7_2 p638 (by exact q638)
                obtain⟨ve638_0,rfl,ge638_0⟩:=hMe638
                have hv638_0:=hcc638 0 _ rfl
                rw [Nat.add_zero,show((Kd.slice 3 (Kd.int .i64))).sz=1 from rfl,Nat.mul_one] at hv638_0
                replace hv638_0:=Option.some.inj (hv638_0.symm.trans hx638_0)
                rw [hv638_0] at ge638_0
                have HL638_0:=Aside0.mk (show Kd.R (Kd.int .i64) 3 _ _ _ _ (rd_L12 x5_3 x7_2) from ge638_0)
                clear hv638_0 ge638_0
                have HX638_0:=Aside0.mk hx638_0
                clear hcc638 hce638
                have HR638_0:=Aside0.mk hi638_0
                have HC638_0:=Aside0.mk hl638_0
                clear hi638_0 hl638_0
                replace p638:=eq_true p638
                replace q638:=eq_true q638
                have p30:0≤(x8_3:Int):=of_decide_eq_true (by(with_reducible assumption))
                have q30:(x8_3:Int)<(((rd_L12 x5_3 x7_2).length:Int):Int):=of_decide_eq_true (by(with_reducible assumption))
                obtain⟨go30,co30,eo30,gb30,gl30,cl30,HG30⟩:=Kd.R_form HL638_0.out (by omega)
                (first|cases eo30|(injection eo30 with ea_ en_ ec_;(fail);subst ec_;clear en_))
                have GB30:=Aside0.mk gb30
                have GG30:=Aside0.mk HG30
                clear gb30 gl30 HG30
                obtain⟨hx30_0,hf30_0⟩:=Kd.R_celln 0 HL638_0.out (x8_3:Int) p30 q30
                replace p30:=eq_true p30
                replace q30:=eq_true q30
                have hq32:(x7_2:Int)<(x5_3.length:Int):=(by have h_:(x7_2:Int)<((x5_3.length:Int):Int):=of_decide_eq_true (by(with_reducible assumption));exact h_)
                obtain⟨oki32,ce32,hcl32,hM32,hcc32,hok32,hbk32⟩:=Kd.S_borrow HO_5.out [] (x7_2:Int) (of_decide_eq_true (by(with_reducible assumption))) hq32
                obtain⟨ve32_0,rfl,ge32_0⟩:=hM32
                have hv32:=hcc32 0 _ rfl
                rw [Nat.add_zero,show((Kd.slice 3 (Kd.int .i64))).sz=1 from rfl,Nat.mul_one] at hv32
                replace hv32:=Option.some.inj (hv32.symm.trans HX638_0.out)
                subst hv32
                clear hcc32 hcl32
                replace ge32_0:=(show Kd.R (Kd.int .i64) 3 _ _ _ _ (rd_L12 x5_3 x7_2) from ge32_0)
                have HP32:=Kd.R_putg ge32_0 (x8_3:Int) (wrap64 ((l0.length:Int)-x7_2))
                go_wp2_with(((with_reducible refine gate_store (t:=3) (p:=62) rfl ?_);refine store_event (t:=3) (p:=62) (v:= ?vo_w33) (w1:=(wr.setCell ⟨go30,(x8_3:Int).toNat,none⟩ (.int .i64 (wrap64 ((l0.length:Int)-x7_2))))) ?hg ?ho ?hn ?hr ?_;(case ho=>rfl);(case hg=>rfl);(case hn=>rfl);(case hr=>(go_simp;done));intro w33 hw;have hg:wr.grownBy w33 (some go30):=(by rw [hw];exact HP32.2);have hz_:Kd.R (Kd.int .i64) 3 w33 w.heap.size oki32 (.slice (some ⟨go30,0,none⟩) (rd_L12 x5_3 x7_2).length c638_0) y639:=(by rw [hw,Ny639.out];exact HP32.1);have hp_:Kd.S (Kd.slice 3 (Kd.int .i64)) 53 w33 w.heap.size (fun _=>True) (.slice (some ad638) x5_3.length co31) y641:=(by rw [Ny641.out];exact hbk32 hg (fun k_ e_=>by injection e_ with e_;subst e_;exact ge32_0.1 _ rfl) (Kd.M_row hz_));have hm_:=Kd.R_mono hz_ hok32;clear HP32 hbk32;have n0_:=Aside0.mk (hp_);have n1_:=Aside0.mk ((by rw [hw];exact below_set (HB.out) GB30.out:Below w.heap.size w w33));have n2_:=Aside0.mk (hm_);have n3_:=Aside0.mk ((Kd.R_reads' hm_).2.1);clear HO_5;clear HB;clear HL638_0;have HO_5:=n0_;have HB:=n1_;have HL667:=n2_;have HC640:=n3_;clear n0_ n1_ n2_ n3_;clear hg hw hp_ hz_ hm_ hok32))
                go_roundg k3
                case measure=>have:=HK1.out;have:=HK2.out;have:=HK3.out;omega
                case rel=>exact⟨(y641),(wrap64 (x8_3-1)),(by rfl),H',⟨by have:=HK1.out;have:=HK2.out;have:=HK3.out;omega⟩,⟨by exact HO_5.out⟩,⟨by repeat((with_reducible exact HB.out))⟩⟩
               ·rw [if_neg c29] at H
                exact absurd H (by simp)
              ·rw [if_neg c28] at H
               exact absurd H (by simp)
             ·rw [if_neg c27] at H
              exact absurd H (by simp)
            ·rw [if_neg c26] at H
             exact absurd H (by simp)
           ·rw [if_neg c25] at H
            have c25b0:(x8_3==(l1.length:Int))=false:=beq_eq_false_iff_ne.mpr c25
            have c25b1:(x8_3 != (l1.length:Int))=true:=bne_iff_ne.mpr c25
            by_cases c34:0≤x7_2
            ·rw [if_pos c34] at H
             have c34b0:decide (0≤x7_2)=true:=decide_eq_true c34
             clear c34
             by_cases c35:x7_2<(l0.length:Int)
             ·rw [if_pos c35] at H
              have c35b0:decide (x7_2<(l0.length:Int))=true:=decide_eq_true c35
              clear c35
              by_cases c36:0≤x8_3
              ·rw [if_pos c36] at H
               have c36b0:decide (0≤x8_3)=true:=decide_eq_true c36
               clear c36
               by_cases c37:x8_3<(l1.length:Int)
               ·rw [if_pos c37] at H
                have c37b0:decide (x8_3<(l1.length:Int))=true:=decide_eq_true c37
                clear c37
                by_cases c38:(rd l0 x7_2)=(rd l1 x8_3)
                ·rw [if_pos c38] at H
                 have c38b0:((rd l0 x7_2)==(rd l1 x8_3))=true:=beq_iff_eq.mpr c38
                 have c38b1:((rd l0 x7_2) != (rd l1 x8_3))=false:=bne_eq_false_iff_eq.mpr c38
                 clear c38
                 by_cases c39:x7_2<(x5_3.length:Int)
                 ·rw [if_pos c39] at H
                  have c39b0:decide (x7_2<(x5_3.length:Int))=true:=decide_eq_true c39
                  clear c39
                  obtain⟨ji40,hji40⟩: ∃j_:Int,(wrap64 (x7_2+1))=j_:=⟨_,rfl⟩
                  replace H:(if 0≤(ji40) then (if (ji40)<(x5_3.length:Int) then (if 0≤(wrap64 (x8_3+1)) then (if (wrap64 (x8_3+1))<((rd_L12 x5_3 (ji40)).length:Int) then (if x8_3<((rd_L12 x5_3 x7_2).length:Int) then (jalousieref07_Table.l2 k3 l0 l1 (x5_3.set (x7_2:Int).toNat ((rd_L12 x5_3 x7_2).set (x8_3:Int).toNat (rd (rd_L12 x5_3 (ji40)) (wrap64 (x8_3+1))))) x7_2 (wrap64 (x8_3-1))) else (none)) else (none)) else (none)) else (none)) else (none))=some r:=by(rw [hji40] at H;exact H)
                  have hji40w:(IntKind.i64.wrap (x7_2+1))=ji40:=(i64_w _).trans hji40
                  by_cases c41:0≤(ji40)
                  ·rw [if_pos c41] at H
                   have c41b0:decide (0≤(ji40))=true:=decide_eq_true c41
                   clear c41
                   by_cases c42:(ji40)<(x5_3.length:Int)
                   ·rw [if_pos c42] at H
                    have c42b0:decide ((ji40)<(x5_3.length:Int))=true:=decide_eq_true c42
                    clear c42
                    obtain⟨ji43,hji43⟩: ∃j_:Int,(wrap64 (x8_3+1))=j_:=⟨_,rfl⟩
                    replace H:(if 0≤(ji43) then (if (ji43)<((rd_L12 x5_3 (ji40)).length:Int) then (if x8_3<((rd_L12 x5_3 x7_2).length:Int) then (jalousieref07_Table.l2 k3 l0 l1 (x5_3.set (x7_2:Int).toNat ((rd_L12 x5_3 x7_2).set (x8_3:Int).toNat (rd (rd_L12 x5_3 (ji40)) (ji43)))) x7_2 (wrap64 (x8_3-1))) else (none)) else (none)) else (none))=some r:=by(rw [hji43] at H;exact H)
                    have hji43w:(IntKind.i64.wrap (x8_3+1))=ji43:=(i64_w _).trans hji43
                    by_cases c44:0≤(ji43)
                    ·rw [if_pos c44] at H
                     have c44b0:decide (0≤(ji43))=true:=decide_eq_true c44
                     clear c44
                     by_cases c45:(ji43)<((rd_L12 x5_3 (ji40)).length:Int)
                     ·rw [if_pos c45] at H
                      have c45b0:decide ((ji43)<((rd_L12 x5_3 (ji40)).length:Int))=true:=decide_eq_true c45
                      clear c45
                      by_cases c46:x8_3<((rd_L12 x5_3 x7_2).length:Int)
                      ·rw [if_pos c46] at H
                       have c46b0:decide (x8_3<((rd_L12 x5_3 x7_2).length:Int))=true:=decide_eq_true c46
                       clear c46
                       obtain⟨y647,hy647⟩: ∃y_:List Int,y_=((rd_L12 x5_3 x7_2).set (x8_3:Int).toNat (rd (rd_L12 x5_3 (ji40)) (ji43))):=⟨_,rfl⟩
                       replace H:(jalousieref07_Table.l2 k3 l0 l1 (x5_3.set (x7_2:Int).toNat y647) x7_2 (wrap64 (x8_3-1)))=some r:=by(rw [hy647];with_reducible exact H)
                       have Ny647:=Aside0.mk hy647
                       clear hy647
                       obtain⟨y649,hy649⟩: ∃y_:List (List Int),y_=(x5_3.set (x7_2:Int).toNat y647):=⟨_,rfl⟩
                       replace H:(jalousieref07_Table.l2 k3 l0 l1 y649 x7_2 (wrap64 (x8_3-1)))=some r:=by(rw [hy649];with_reducible exact H)
                       have Ny649:=Aside0.mk hy649
                       clear hy649
                       have H':=Aside0.mk H
                       clear H
                       try go_wp2
                       have n0_:=Aside0.mk (Kd.S_drew HO_5.out)
                       have n1_:=Aside0.mk (below_drew1 HB.out)
                       clear HO_5
                       clear HB
                       have HO_5:=n0_
                       have HB:=n1_
                       clear n0_ n1_
                       have p642:0≤(x7_2:Int):=of_decide_eq_true (by(with_reducible assumption))
                       have q642:x7_2<(l0.length:Int):=of_decide_eq_true (by(with_reducible assumption))
                       obtain⟨ad642,e642,hx642_0⟩:=Kd.at_int HR0.out x7_2 p642 q642
                       have hw642_0:=hx642_0
                       cases e642
                       replace hx642_0:=(HB.out.cell (World.block_lt_of_cell? w _ hx642_0)).trans hx642_0
                       replace p642:=eq_true p642
                       replace q642:=eq_true q642
                       have p643:0≤(x8_3:Int):=of_decide_eq_true (by(with_reducible assumption))
                       have q643:x8_3<(l1.length:Int):=of_decide_eq_true (by(with_reducible assumption))
                       obtain⟨ad643,e643,hx643_0⟩:=Kd.at_int HR1.out x8_3 p643 q643
                       have hw643_0:=hx643_0
                       cases e643
                       replace hx643_0:=(HB.out.cell (World.block_lt_of_cell? w _ hx643_0)).trans hx643_0
                       replace p643:=eq_true p643
                       replace q643:=eq_true q643
                       refine start_ (n:=9) (S:=fun w'=>w'.cell? (ad642.add (x7_2).toNat)=some (.int .i64 (rd l0 x7_2))∧w'.cell? (ad643.add (x8_3).toNat)=some (.int .i64 (rd l1 x8_3))) (ds:= []) (Sq.bl 9 0) (by kernel_rfl) rfl rfl ⟨((HB.out.cell (World.block_lt_of_cell? w _ hw642_0)).trans hw642_0),((HB.out.cell (World.block_lt_of_cell? w _ hw643_0)).trans hw643_0)⟩ (fun hHeld=>?_);refine with_tabW jalousieref07_Table.tab16 jalousieref07_Table.bits16 (fun HT_ HW_=>?_)
                       generalize wr.drew=w48 at HO_5 HB hx642_0 hx643_0 hHeld ⊢
                       refine Sq.pu (v:=?_) (a':=?_) 0 63 (Sq.bl 9 1) (any_of HT_.out (by kernel_rfl)) rfl rfl (fun _ _ _ h=>h) (by rfl) ?_ ?_ ?_;rotate_left;(· intro w';go_simp;with_reducible rfl);rotate_left;(· simp only [Act.put,zp1,zp2,zp3,zp4,zp5];rfl)
                       refine Sq.pu (v:=?_) (a':=?_) 1 64 (Sq.bl 9 3) (any_of HT_.out (by kernel_rfl)) rfl rfl (fun _ _ _ h=>h) (by rfl) ?_ ?_ ?_;rotate_left;(· intro w';go_simp;with_reducible rfl);rotate_left;(· simp only [Act.put,zp1,zp2,zp3,zp4,zp5];rfl)
                       refine Sq.pu (v:=?_) (a':=?_) 2 65 (Sq.bl 9 7) (any_of HT_.out (by kernel_rfl)) rfl rfl (fun _ _ _ h=>h) (by rfl) ?_ ?_ ?_;rotate_left;(· intro w';go_simp;with_reducible rfl);rotate_left;(· simp only [Act.put,zp1,zp2,zp3,zp4,zp5];rfl)
                       refine Sq.pu (v:=?_) (a':=?_) 4 67 (Sq.bl 9 23) (any_of HT_.out (by kernel_rfl)) rfl rfl (fun _ _ _ h=>h) (by rfl) ?_ ?_ ?_;rotate_left;(· intro w';go_simp;with_reducible rfl);rotate_left;(· simp only [Act.put,zp1,zp2,zp3,zp4,zp5];rfl)
                       refine Sq.pu (v:=?_) (a':=?_) 5 68 (Sq.bl 9 55) (any_of HT_.out (by kernel_rfl)) rfl rfl (fun _ _ _ h=>h) (by rfl) ?_ ?_ ?_;rotate_left;(· intro w';go_simp;with_reducible rfl);rotate_left;(· simp only [Act.put,zp1,zp2,zp3,zp4,zp5];rfl)
                       refine Sq.pu (v:=?_) (a':=?_) 6 69 (Sq.bl 9 119) (any_of HT_.out (by kernel_rfl)) rfl rfl (fun _ _ _ h=>h) (by rfl) ?_ ?_ ?_;rotate_left;(· intro w';go_simp;with_reducible rfl);rotate_left;(· simp only [Act.put,zp1,zp2,zp3,zp4,zp5];rfl)
                       refine take_ (i:=3) (N:=some 66) (v:=?_) (a':=?_) (Sq.bl 9 127) rfl rfl (take_ofW HT_.out HW_.out (by kernel_rfl)) (fun _ _ _ h=>h) (Or.inl ⟨by rfl,?_⟩) hHeld ?_ ?_
                       rotate_left
                       ·rintro w' ⟨s0,s1⟩
                        go_simp
                        with_reducible rfl
                       rotate_left
                       ·simp only [Act.put,zp1,zp2,zp3,zp4,zp5]
                        rfl
                       refine take_ (i:=7) (N:=some 70) (v:=?_) (a':=?_) (Sq.bl 9 255) rfl rfl (take_ofW HT_.out HW_.out (by kernel_rfl)) (fun _ _ _ h=>h) (Or.inl ⟨by rfl,?_⟩) hHeld ?_ ?_
                       rotate_left
                       ·rintro w' ⟨s0,s1⟩
                        go_simp
                        with_reducible rfl
                       rotate_left
                       ·simp only [Act.put,zp1,zp2,zp3,zp4,zp5]
                        rfl
                       refine Sq.pu (v:=?_) (a':=?_) 8 71 (Sq.bl 9 511) (any_of HT_.out (by kernel_rfl)) rfl rfl (fun _ _ _ h=>h) (by rfl) ?_ ?_ ?_;rotate_left;(· intro w';go_simp;with_reducible rfl);rotate_left;(· simp only [Act.put,zp1,zp2,zp3,zp4,zp5];rfl)
                       refine done_ (done_of HT_.out (by kernel_rfl)) ?_
                       try go_wp2
                       have n0_:=Aside0.mk (Kd.S_drew HO_5.out)
                       have n1_:=Aside0.mk (below_drew1 HB.out)
                       clear HO_5
                       clear HB
                       have HO_5:=n0_
                       have HB:=n1_
                       clear n0_ n1_
                       obtain⟨Ao50,co50,eo50⟩:=Kd.S_slice HO_5.out
                       (subst eo50)
                       have p644:0≤(x7_2:Int):=of_decide_eq_true (by(with_reducible assumption))
                       have q644:x7_2<(x5_3.length:Int):=of_decide_eq_true (by(with_reducible assumption))
                       obtain⟨ad644,A644_0,c644_0,e644,hx644_0,hl644_0,hi644_0⟩:=at_L12 (Kd.S_reads' HO_5.out).2.2 x7_2 p644 q644
                       cases e644
                       obtain⟨ce644,hce644,hMe644,hcc644⟩:=Kd.S_get HO_5.out [] x7_2 p644 (by exact q644)
                       obtain⟨ve644_0,rfl,ge644_0⟩:=hMe644
                       have hv644_0:=hcc644 0 _ rfl
                       rw [Nat.add_zero,show((Kd.slice 3 (Kd.int .i64))).sz=1 from rfl,Nat.mul_one] at hv644_0
                       replace hv644_0:=Option.some.inj (hv644_0.symm.trans hx644_0)
                       rw [hv644_0] at ge644_0
                       have HL644_0:=Aside0.mk (show Kd.R (Kd.int .i64) 3 _ _ _ _ (rd_L12 x5_3 x7_2) from ge644_0)
                       clear hv644_0 ge644_0
                       have HX644_0:=Aside0.mk hx644_0
                       clear hcc644 hce644
                       have HR644_0:=Aside0.mk hi644_0
                       have HC644_0:=Aside0.mk hl644_0
                       clear hi644_0 hl644_0
                       replace p644:=eq_true p644
                       replace q644:=eq_true q644
                       have p645:0≤((ji40):Int):=of_decide_eq_true (by(with_reducible assumption))
                       have q645:(ji40)<(x5_3.length:Int):=of_decide_eq_true (by(with_reducible assumption))
                       obtain⟨ad645,A645_0,c645_0,e645,hx645_0,hl645_0,hi645_0⟩:=at_L12 (Kd.S_reads' HO_5.out).2.2 (ji40) p645 q645
                       obtain rfl:ad644=ad645:=(by injection e645)
                       obtain⟨ce645,hce645,hMe645,hcc645⟩:=Kd.S_get HO_5.out [] (ji40) p645 (by exact q645)
                       obtain⟨ve645_0,rfl,ge645_0⟩:=hMe645
                       have hv645_0:=hcc645 0 _ rfl
                       rw [Nat.add_zero,show((Kd.slice 3 (Kd.int .i64))).sz=1 from rfl,Nat.mul_one] at hv645_0
                       replace hv645_0:=Option.some.inj (hv645_0.symm.trans hx645_0)
                       rw [hv645_0] at ge645_0
                       have HL645_0:=Aside0.mk (show Kd.R (Kd.int .i64) 3 _ _ _ _ (rd_L12 x5_3 (ji40)) from ge645_0)
                       clear hv645_0 ge645_0
                       have HX645_0:=Aside0.mk hx645_0
                       clear hcc645 hce645
                       have HR645_0:=Aside0.mk hi645_0
                       have HC645_0:=Aside0.mk hl645_0
                       clear hi645_0 hl645_0
                       replace p645:=eq_true p645
                       replace q645:=eq_true q645
                       have p646:0≤((ji43):Int):=of_decide_eq_true (by(with_reducible assumption))
                       have q646:(ji43)<((rd_L12 x5_3 (ji40)).length:Int):=of_decide_eq_true (by(with_reducible assumption))
                       obtain⟨ad646,e646,hx646_0⟩:=Kd.at_int (by repeat((with_reducible exact HR645_0.out))) (ji43) p646 q646
                       cases e646
                       replace p646:=eq_true p646
                       replace q646:=eq_true q646
                       have p47:0≤(x8_3:Int):=of_decide_eq_true (by(with_reducible assumption))
                       have q47:(x8_3:Int)<(((rd_L12 x5_3 x7_2).length:Int):Int):=of_decide_eq_true (by(with_reducible assumption))
                       obtain⟨go47,co47,eo47,gb47,gl47,cl47,HG47⟩:=Kd.R_form HL644_0.out (by omega)
                       (first|cases eo47|(injection eo47 with ea_ en_ ec_;(fail);subst ec_;clear en_))
                       have GB47:=Aside0.mk gb47
                       have GG47:=Aside0.mk HG47
                       clear gb47 gl47 HG47
                       obtain⟨hx47_0,hf47_0⟩:=Kd.R_celln 0 HL644_0.out (x8_3:Int) p47 q47
                       replace p47:=eq_true p47
                       replace q47:=eq_true q47
                       have hq51:(x7_2:Int)<(x5_3.length:Int):=(by have h_:(x7_2:Int)<((x5_3.length:Int):Int):=of_decide_eq_true (by(with_reducible assumption));exact h_)
                       obtain⟨oki51,ce51,hcl51,hM51,hcc51,hok51,hbk51⟩:=Kd.S_borrow HO_5.out [] (x7_2:Int) (of_decide_eq_true (by(with_reducible assumption))) hq51
                       obtain⟨ve51_0,rfl,ge51_0⟩:=hM51
                       have hv51:=hcc51 0 _ rfl
                       rw [Nat.add_zero,show((Kd.slice 3 (Kd.int .i64))).sz=1 from rfl,Nat.mul_one] at hv51
                       replace hv51:=Option.some.inj (hv51.symm.trans HX644_0.out)
                       subst hv51
                       clear hcc51 hcl51
                       replace ge51_0:=(show Kd.R (Kd.int .i64) 3 _ _ _ _ (rd_L12 x5_3 x7_2) from ge51_0)
                       have HP51:=Kd.R_putg ge51_0 (x8_3:Int) (rd (rd_L12 x5_3 (ji40)) (ji43))
                       rw [← Ny647.out] at HP51
                       have HS51:=hbk51 HP51.2 (fun k_ e_=>by injection e_ with e_;subst e_;exact ge51_0.1 _ rfl) (x':=y647) (Kd.M_row HP51.1)
                       rw [← Ny649.out] at HS51
                       have HQ51:=Aside0.mk HS51
                       clear HP51 HS51 hbk51 hok51
                       refine start_ (n:=16) (S:=fun w'=>w'.cell? (ad644.add (x7_2).toNat)=some (.slice (some ⟨go47,0,none⟩) (rd_L12 x5_3 x7_2).length c644_0)∧w'.cell? (ad644.add ((ji40)).toNat)=some (.slice (some ad646) (rd_L12 x5_3 (ji40)).length c645_0)∧w'.cell? (ad646.add ((ji43)).toNat)=some (.int .i64 (rd (rd_L12 x5_3 (ji40)) (ji43)))) (ds:= [15]) (Sq.bl 16 0) (by kernel_rfl) rfl rfl ⟨hx644_0,hx645_0,hx646_0⟩ (fun hHeld=>?_);refine with_tabW jalousieref07_Table.tab17 jalousieref07_Table.bits17 (fun HT_ HW_=>?_)
                       generalize w48.drew=w49 at HO_5 HB GG47 HL644_0 HL645_0 HQ51 HR644_0 HR645_0 HX644_0 HX645_0 hf47_0 hx47_0 hx644_0 hx645_0 hx646_0 hHeld ⊢
                       refine Sq.pu (v:=?_) (a':=?_) 0 72 (Sq.bl 16 1) (any_of HT_.out (by kernel_rfl)) rfl rfl (fun _ _ _ h=>h) (by rfl) ?_ ?_ ?_;rotate_left;(· intro w';go_simp;with_reducible rfl);rotate_left;(· simp only [Act.put,zp1,zp2,zp3,zp4,zp5];rfl)
                       refine Sq.pu (v:=?_) (a':=?_) 1 73 (Sq.bl 16 3) (any_of HT_.out (by kernel_rfl)) rfl rfl (fun _ _ _ h=>h) (by rfl) ?_ ?_ ?_;rotate_left;(· intro w';go_simp;with_reducible rfl);rotate_left;(· simp only [Act.put,zp1,zp2,zp3,zp4,zp5];rfl)
                       refine Sq.pu (v:=?_) (a':=?_) 2 74 (Sq.bl 16 7) (any_of HT_.out (by kernel_rfl)) rfl rfl (fun _ _ _ h=>h) (by rfl) ?_ ?_ ?_;rotate_left;(· intro w';go_simp;with_reducible rfl);rotate_left;(· simp only [Act.put,zp1,zp2,zp3,zp4,zp5];rfl)
                       refine Sq.pu (v:=?_) (a':=?_) 4 76 (Sq.bl 16 23) (any_of HT_.out (by kernel_rfl)) rfl rfl (fun _ _ _ h=>h) (by rfl) ?_ ?_ ?_;rotate_left;(· intro w';go_simp;with_reducible rfl);rotate_left;(· simp only [Act.put,zp1,zp2,zp3,zp4,zp5];rfl)
                       refine Sq.pu (v:=?_) (a':=?_) 5 77 (Sq.bl 16 55) (any_of HT_.out (by kernel_rfl)) rfl rfl (fun _ _ _ h=>h) (by rfl) ?_ ?_ ?_;rotate_left;(· intro w';go_simp;with_reducible rfl);rotate_left;(· simp only [Act.put,zp1,zp2,zp3,zp4,zp5];rfl)
                       refine Sq.pu (v:=?_) (a':=?_) 6 78 (Sq.bl 16 119) (any_of HT_.out (by kernel_rfl)) rfl rfl (fun _ _ _ h=>h) (by rfl) ?_ ?_ ?_;rotate_left;(· intro w';go_simp;with_reducible rfl);rotate_left;(· simp only [Act.put,zp1,zp2,zp3,zp4,zp5];rfl)
                       refine Sq.pu (v:=?_) (a':=?_) 7 79 (Sq.bl 16 247) (any_of HT_.out (by kernel_rfl)) rfl rfl (fun _ _ _ h=>h) (by rfl) ?_ ?_ ?_;rotate_left;(· intro w';go_simp;with_reducible rfl);rotate_left;(· simp only [Act.put,zp1,zp2,zp3,zp4,zp5];rfl)
                       refine Sq.pu (v:=?_) (a':=?_) 8 80 (Sq.bl 16 503) (any_of HT_.out (by kernel_rfl)) rfl rfl (fun _ _ _ h=>h) (by rfl) ?_ ?_ ?_;rotate_left;(· intro w';go_simp;with_reducible rfl);rotate_left;(· simp only [Act.put,zp1,zp2,zp3,zp4,zp5];rfl)
                       refine Sq.pu (v:=?_) (a':=?_) 10 82 (Sq.bl 16 1527) (any_of HT_.out (by kernel_rfl)) rfl rfl (fun _ _ _ h=>h) (by rfl) ?_ ?_ ?_;rotate_left;(· intro w';go_simp;with_reducible rfl);rotate_left;(· simp only [Act.put,zp1,zp2,zp3,zp4,zp5];rfl)
                       refine Sq.pu (v:=?_) (a':=?_) 11 83 (Sq.bl 16 3575) (any_of HT_.out (by kernel_rfl)) rfl rfl (fun _ _ _ h=>h) (by rfl) ?_ ?_ ?_;rotate_left;(· intro w';go_simp;with_reducible rfl);rotate_left;(· simp only [Act.put,zp1,zp2,zp3,zp4,zp5];rfl)
                       refine take_ (i:=3) (N:=some 75) (v:=?_) (a':=?_) (Sq.bl 16 3583) rfl rfl (take_ofW HT_.out HW_.out (by kernel_rfl)) (fun _ _ _ h=>h) (Or.inl ⟨by rfl,?_⟩) hHeld ?_ ?_
                       rotate_left
                       ·rintro w' ⟨s0,s1,s2⟩
                        go_simp
                        with_reducible rfl
                       rotate_left
                       ·simp only [Act.put,zp1,zp2,zp3,zp4,zp5]
                        rfl
                       refine take_ (i:=9) (N:=some 81) (v:=?_) (a':=?_) (Sq.bl 16 4095) rfl rfl (take_ofW HT_.out HW_.out (by kernel_rfl)) (fun _ _ _ h=>h) (Or.inl ⟨by rfl,?_⟩) hHeld ?_ ?_
                       rotate_left
                       ·rintro w' ⟨s0,s1,s2⟩
                        go_simp
                        with_reducible rfl
                       rotate_left
                       ·simp only [Act.put,zp1,zp2,zp3,zp4,zp5]
                        rfl
                       refine Sq.pu (v:=?_) (a':=?_) 12 84 (Sq.bl 16 8191) (any_of HT_.out (by kernel_rfl)) rfl rfl (fun _ _ _ h=>h) (by rfl) ?_ ?_ ?_;rotate_left;(· intro w';go_simp;with_reducible rfl);rotate_left;(· simp only [Act.put,zp1,zp2,zp3,zp4,zp5];rfl)
                       refine take_ (i:=13) (N:=some 85) (v:=?_) (a':=?_) (Sq.bl 16 16383) rfl rfl (take_ofW HT_.out HW_.out (by kernel_rfl)) (fun _ _ _ h=>h) (Or.inl ⟨by rfl,?_⟩) hHeld ?_ ?_
                       rotate_left
                       ·rintro w' ⟨s0,s1,s2⟩
                        go_simp
                        with_reducible rfl
                       rotate_left
                       ·simp only [Act.put,zp1,zp2,zp3,zp4,zp5]
                        rfl
                       refine Sq.pu (v:=?_) (a':=?_) 14 86 (Sq.bl 16 32767) (any_of HT_.out (by kernel_rfl)) rfl rfl (fun _ _ _ h=>h) (by rfl) ?_ ?_ ?_;rotate_left;(· intro w';go_simp;with_reducible rfl);rotate_left;(· simp only [Act.put,zp1,zp2,zp3,zp4,zp5];rfl)
                       refine last_ (i:=15) (N:=none) (Sq.bl 16 65535) rfl rfl (one_of HT_.out (by kernel_rfl)) (by decide) (fun K hK=>?_)
                       refine skip_ (w1:=?_) (by rfl) rfl ?_ ?_
                       rotate_left
                       ·go_simp
                        rfl
                       refine hK.out _ _ ?_
                       clear hK K
                       refine done_ (done_of HT_.out (by kernel_rfl)) ?_
                       try go_wp2
                       go_roundg k3
                       case measure=>have:=HK1.out;have:=HK2.out;have:=HK3.out;omega
                       case rel=>exact⟨(y649),(wrap64 (x8_3-1)),(by rfl),H',⟨by have:=HK1.out;have:=HK2.out;have:=HK3.out;omega⟩,⟨by exact HQ51.out⟩,⟨by repeat((with_reducible first|exact HB.out|refine below_set ?_ GB47.out))⟩⟩
                      ·rw [if_neg c46] at H
                       exact absurd H (by simp)
                     ·rw [if_neg c45] at H
                      exact absurd H (by simp)
                    ·rw [if_neg c44] at H
                     exact absurd H (by simp)
                   ·rw [if_neg c42] at H
                    exact absurd H (by simp)
                  ·rw [if_neg c41] at H
                   exact absurd H (by simp)
                 ·rw [if_neg c39] at H
                  exact absurd H (by simp)
                ·rw [if_neg c38] at H
                 have c38b0:((rd l0 x7_2)==(rd l1 x8_3))=false:=beq_eq_false_iff_ne.mpr c38
                 have c38b1:((rd l0 x7_2) != (rd l1 x8_3))=true:=bne_iff_ne.mpr c38
                 obtain⟨ji53,hji53⟩: ∃j_:Int,(wrap64 (x7_2+1))=j_:=⟨_,rfl⟩
                 replace H:(if 0≤(ji53) then (if (ji53)<(x5_3.length:Int) then (if x8_3<((rd_L12 x5_3 (ji53)).length:Int) then (if x7_2<(x5_3.length:Int) then (if 0≤(wrap64 (x8_3+1)) then (if (wrap64 (x8_3+1))<((rd_L12 x5_3 x7_2).length:Int) then (if (rd (rd_L12 x5_3 (ji53)) x8_3)<(rd (rd_L12 x5_3 x7_2) (wrap64 (x8_3+1))) then (if x8_3<((rd_L12 x5_3 x7_2).length:Int) then (jalousieref07_Table.l2 k3 l0 l1 (x5_3.set (x7_2:Int).toNat ((rd_L12 x5_3 x7_2).set (x8_3:Int).toNat (wrap64 ((rd (rd_L12 x5_3 (ji53)) x8_3)+1)))) x7_2 (wrap64 (x8_3-1))) else (none)) else (if x8_3<((rd_L12 x5_3 x7_2).length:Int) then (jalousieref07_Table.l2 k3 l0 l1 (x5_3.set (x7_2:Int).toNat ((rd_L12 x5_3 x7_2).set (x8_3:Int).toNat (wrap64 ((rd (rd_L12 x5_3 x7_2) (wrap64 (x8_3+1)))+1)))) x7_2 (wrap64 (x8_3-1))) else (none))) else (none)) else (none)) else (none)) else (none)) else (none)) else (none))=some r:=by(rw [hji53] at H;exact H)
                 have hji53w:(IntKind.i64.wrap (x7_2+1))=ji53:=(i64_w _).trans hji53
                 by_cases c54:0≤(ji53)
                 ·rw [if_pos c54] at H
                  have c54b0:decide (0≤(ji53))=true:=decide_eq_true c54
                  clear c54
                  by_cases c55:(ji53)<(x5_3.length:Int)
                  ·rw [if_pos c55] at H
                   have c55b0:decide ((ji53)<(x5_3.length:Int))=true:=decide_eq_true c55
                   clear c55
                   by_cases c56:x8_3<((rd_L12 x5_3 (ji53)).length:Int)
                   ·rw [if_pos c56] at H
                    have c56b0:decide (x8_3<((rd_L12 x5_3 (ji53)).length:Int))=true:=decide_eq_true c56
                    clear c56
                    by_cases c57:x7_2<(x5_3.length:Int)
                    ·rw [if_pos c57] at H
                     have c57b0:decide (x7_2<(x5_3.length:Int))=true:=decide_eq_true c57
                     clear c57
                     obtain⟨ji58,hji58⟩: ∃j_:Int,(wrap64 (x8_3+1))=j_:=⟨_,rfl⟩
                     replace H:(if 0≤(ji58) then (if (ji58)<((rd_L12 x5_3 x7_2).length:Int) then (if (rd (rd_L12 x5_3 (ji53)) x8_3)<(rd (rd_L12 x5_3 x7_2) (ji58)) then (if x8_3<((rd_L12 x5_3 x7_2).length:Int) then (jalousieref07_Table.l2 k3 l0 l1 (x5_3.set (x7_2:Int).toNat ((rd_L12 x5_3 x7_2).set (x8_3:Int).toNat (wrap64 ((rd (rd_L12 x5_3 (ji53)) x8_3)+1)))) x7_2 (wrap64 (x8_3-1))) else (none)) else (if x8_3<((rd_L12 x5_3 x7_2).length:Int) then (jalousieref07_Table.l2 k3 l0 l1 (x5_3.set (x7_2:Int).toNat ((rd_L12 x5_3 x7_2).set (x8_3:Int).toNat (wrap64 ((rd (rd_L12 x5_3 x7_2) (ji58))+1)))) x7_2 (wrap64 (x8_3-1))) else (none))) else (none)) else (none))=some r:=by(rw [hji58] at H;exact H)
                     have hji58w:(IntKind.i64.wrap (x8_3+1))=ji58:=(i64_w _).trans hji58
                     by_cases c59:0≤(ji58)
                     ·rw [if_pos c59] at H
                      have c59b0:decide (0≤(ji58))=true:=decide_eq_true c59
                      clear c59
                      by_cases c60:(ji58)<((rd_L12 x5_3 x7_2).length:Int)
                      ·rw [if_pos c60] at H
                       have c60b0:decide ((ji58)<((rd_L12 x5_3 x7_2).length:Int))=true:=decide_eq_true c60
                       clear c60
                       by_cases c61:(rd (rd_L12 x5_3 (ji53)) x8_3)<(rd (rd_L12 x5_3 x7_2) (ji58))
                       ·rw [if_pos c61] at H
                        have c61b0:decide ((rd (rd_L12 x5_3 (ji53)) x8_3)<(rd (rd_L12 x5_3 x7_2) (ji58)))=true:=decide_eq_true c61
                        clear c61
                        by_cases c62:x8_3<((rd_L12 x5_3 x7_2).length:Int)
                        ·rw [if_pos c62] at H
                         have c62b0:decide (x8_3<((rd_L12 x5_3 x7_2).length:Int))=true:=decide_eq_true c62
                         clear c62
                         obtain⟨y657,hy657⟩: ∃y_:List Int,y_=((rd_L12 x5_3 x7_2).set (x8_3:Int).toNat (wrap64 ((rd (rd_L12 x5_3 (ji53)) x8_3)+1))):=⟨_,rfl⟩
                         replace H:(jalousieref07_Table.l2 k3 l0 l1 (x5_3.set (x7_2:Int).toNat y657) x7_2 (wrap64 (x8_3-1)))=some r:=by(rw [hy657];with_reducible exact H)
                         have Ny657:=Aside0.mk hy657
                         clear hy657
                         obtain⟨y659,hy659⟩: ∃y_:List (List Int),y_=(x5_3.set (x7_2:Int).toNat y657):=⟨_,rfl⟩
                         replace H:(jalousieref07_Table.l2 k3 l0 l1 y659 x7_2 (wrap64 (x8_3-1)))=some r:=by(rw [hy659];with_reducible exact H)
                         have Ny659:=Aside0.mk hy659
                         clear hy659
                         have H':=Aside0.mk H
                         clear H
                         try go_wp2
                         have n0_:=Aside0.mk (Kd.S_drew HO_5.out)
                         have n1_:=Aside0.mk (below_drew1 HB.out)
                         clear HO_5
                         clear HB
                         have HO_5:=n0_
                         have HB:=n1_
                         clear n0_ n1_
                         have p642:0≤(x7_2:Int):=of_decide_eq_true (by(with_reducible assumption))
                         have q642:x7_2<(l0.length:Int):=of_decide_eq_true (by(with_reducible assumption))
                         obtain⟨ad642,e642,hx642_0⟩:=Kd.at_int HR0.out x7_2 p642 q642
                         have hw642_0:=hx642_0
                         cases e642
                         replace hx642_0:=(HB.out.cell (World.block_lt_of_cell? w _ hx642_0)).trans hx642_0
                         replace p642:=eq_true p642
                         replace q642:=eq_true q642
                         have p643:0≤(x8_3:Int):=of_decide_eq_true (by(with_reducible assumption))
                         have q643:x8_3<(l1.length:Int):=of_decide_eq_true (by(with_reducible assumption))
                         obtain⟨ad643,e643,hx643_0⟩:=Kd.at_int HR1.out x8_3 p643 q643
                         have hw643_0:=hx643_0
                         cases e643
                         replace hx643_0:=(HB.out.cell (World.block_lt_of_cell? w _ hx643_0)).trans hx643_0
                         replace p643:=eq_true p643
                         replace q643:=eq_true q643
                         refine start_ (n:=9) (S:=fun w'=>w'.cell? (ad642.add (x7_2).toNat)=some (.int .i64 (rd l0 x7_2))∧w'.cell? (ad643.add (x8_3).toNat)=some (.int .i64 (rd l1 x8_3))) (ds:= []) (Sq.bl 9 0) (by kernel_rfl) rfl rfl ⟨((HB.out.cell (World.block_lt_of_cell? w _ hw642_0)).trans hw642_0),((HB.out.cell (World.block_lt_of_cell? w _ hw643_0)).trans hw643_0)⟩ (fun hHeld=>?_);refine with_tabW jalousieref07_Table.tab16 jalousieref07_Table.bits16 (fun HT_ HW_=>?_)
                         generalize wr.drew=w64 at HO_5 HB hx642_0 hx643_0 hHeld ⊢
                         refine Sq.pu (v:=?_) (a':=?_) 0 63 (Sq.bl 9 1) (any_of HT_.out (by kernel_rfl)) rfl rfl (fun _ _ _ h=>h) (by rfl) ?_ ?_ ?_;rotate_left;(· intro w';go_simp;with_reducible rfl);rotate_left;(· simp only [Act.put,zp1,zp2,zp3,zp4,zp5];rfl)
                         refine Sq.pu (v:=?_) (a':=?_) 1 64 (Sq.bl 9 3) (any_of HT_.out (by kernel_rfl)) rfl rfl (fun _ _ _ h=>h) (by rfl) ?_ ?_ ?_;rotate_left;(· intro w';go_simp;with_reducible rfl);rotate_left;(· simp only [Act.put,zp1,zp2,zp3,zp4,zp5];rfl)
                         refine Sq.pu (v:=?_) (a':=?_) 2 65 (Sq.bl 9 7) (any_of HT_.out (by kernel_rfl)) rfl rfl (fun _ _ _ h=>h) (by rfl) ?_ ?_ ?_;rotate_left;(· intro w';go_simp;with_reducible rfl);rotate_left;(· simp only [Act.put,zp1,zp2,zp3,zp4,zp5];rfl)
                         refine Sq.pu (v:=?_) (a':=?_) 4 67 (Sq.bl 9 23) (any_of HT_.out (by kernel_rfl)) rfl rfl (fun _ _ _ h=>h) (by rfl) ?_ ?_ ?_;rotate_left;(· intro w';go_simp;with_reducible rfl);rotate_left;(· simp only [Act.put,zp1,zp2,zp3,zp4,zp5];rfl)
                         refine Sq.pu (v:=?_) (a':=?_) 5 68 (Sq.bl 9 55) (any_of HT_.out (by kernel_rfl)) rfl rfl (fun _ _ _ h=>h) (by rfl) ?_ ?_ ?_;rotate_left;(· intro w';go_simp;with_reducible rfl);rotate_left;(· simp only [Act.put,zp1,zp2,zp3,zp4,zp5];rfl)
                         refine Sq.pu (v:=?_) (a':=?_) 6 69 (Sq.bl 9 119) (any_of HT_.out (by kernel_rfl)) rfl rfl (fun _ _ _ h=>h) (by rfl) ?_ ?_ ?_;rotate_left;(· intro w';go_simp;with_reducible rfl);rotate_left;(· simp only [Act.put,zp1,zp2,zp3,zp4,zp5];rfl)
                         refine take_ (i:=3) (N:=some 66) (v:=?_) (a':=?_) (Sq.bl 9 127) rfl rfl (take_ofW HT_.out HW_.out (by kernel_rfl)) (fun _ _ _ h=>h) (Or.inl ⟨by rfl,?_⟩) hHeld ?_ ?_
                         rotate_left
                         ·rintro w' ⟨s0,s1⟩
                          go_simp
                          with_reducible rfl
                         rotate_left
                         ·simp only [Act.put,zp1,zp2,zp3,zp4,zp5]
                          rfl
                         refine take_ (i:=7) (N:=some 70) (v:=?_) (a':=?_) (Sq.bl 9 255) rfl rfl (take_ofW HT_.out HW_.out (by kernel_rfl)) (fun _ _ _ h=>h) (Or.inl ⟨by rfl,?_⟩) hHeld ?_ ?_
                         rotate_left
                         ·rintro w' ⟨s0,s1⟩
                          go_simp
                          with_reducible rfl
                         rotate_left
                         ·simp only [Act.put,zp1,zp2,zp3,zp4,zp5]
                          rfl
                         refine Sq.pu (v:=?_) (a':=?_) 8 71 (Sq.bl 9 511) (any_of HT_.out (by kernel_rfl)) rfl rfl (fun _ _ _ h=>h) (by rfl) ?_ ?_ ?_;rotate_left;(· intro w';go_simp;with_reducible rfl);rotate_left;(· simp only [Act.put,zp1,zp2,zp3,zp4,zp5];rfl)
                         refine done_ (done_of HT_.out (by kernel_rfl)) ?_
                         try go_wp2
                         have n0_:=Aside0.mk (Kd.S_drew HO_5.out)
                         have n1_:=Aside0.mk (below_drew1 HB.out)
                         clear HO_5
                         clear HB
                         have HO_5:=n0_
                         have HB:=n1_
                         clear n0_ n1_
                         obtain⟨Ao66,co66,eo66⟩:=Kd.S_slice HO_5.out
                         (subst eo66)
                         have p650:0≤((ji53):Int):=of_decide_eq_true (by(with_reducible assumption))
                         have q650:(ji53)<(x5_3.length:Int):=of_decide_eq_true (by(with_reducible assumption))
                         obtain⟨ad650,A650_0,c650_0,e650,hx650_0,hl650_0,hi650_0⟩:=at_L12 (Kd.S_reads' HO_5.out).2.2 (ji53) p650 q650
                         cases e650
                         obtain⟨ce650,hce650,hMe650,hcc650⟩:=Kd.S_get HO_5.out [] (ji53) p650 (by exact q650)
                         obtain⟨ve650_0,rfl,ge650_0⟩:=hMe650
                         have hv650_0:=hcc650 0 _ rfl
                         rw [Nat.add_zero,show((Kd.slice 3 (Kd.int .i64))).sz=1 from rfl,Nat.mul_one] at hv650_0
                         replace hv650_0:=Option.some.inj (hv650_0.symm.trans hx650_0)
                         rw [hv650_0] at ge650_0
                         have HL650_0:=Aside0.mk (show Kd.R (Kd.int .i64) 3 _ _ _ _ (rd_L12 x5_3 (ji53)) from ge650_0)
                         clear hv650_0 ge650_0
                         have HX650_0:=Aside0.mk hx650_0
                         clear hcc650 hce650
                         have HR650_0:=Aside0.mk hi650_0
                         have HC650_0:=Aside0.mk hl650_0
                         clear hi650_0 hl650_0
                         replace p650:=eq_true p650
                         replace q650:=eq_true q650
                         have p651:0≤(x8_3:Int):=of_decide_eq_true (by(with_reducible assumption))
                         have q651:x8_3<((rd_L12 x5_3 (ji53)).length:Int):=of_decide_eq_true (by(with_reducible assumption))
                         obtain⟨ad651,e651,hx651_0⟩:=Kd.at_int (by repeat((with_reducible exact HR650_0.out))) x8_3 p651 q651
                         cases e651
                         replace p651:=eq_true p651
                         replace q651:=eq_true q651
                         have p652:0≤(x7_2:Int):=of_decide_eq_true (by(with_reducible assumption))
                         have q652:x7_2<(x5_3.length:Int):=of_decide_eq_true (by(with_reducible assumption))
                         obtain⟨ad652,A652_0,c652_0,e652,hx652_0,hl652_0,hi652_0⟩:=at_L12 (Kd.S_reads' HO_5.out).2.2 x7_2 p652 q652
                         obtain rfl:ad650=ad652:=(by injection e652)
                         obtain⟨ce652,hce652,hMe652,hcc652⟩:=Kd.S_get HO_5.out [] x7_2 p652 (by exact q652)
                         obtain⟨ve652_0,rfl,ge652_0⟩:=hMe652
                         have hv652_0:=hcc652 0 _ rfl
                         rw [Nat.add_zero,show((Kd.slice 3 (Kd.int .i64))).sz=1 from rfl,Nat.mul_one] at hv652_0
                         replace hv652_0:=Option.some.inj (hv652_0.symm.trans hx652_0)
                         rw [hv652_0] at ge652_0
                         have HL652_0:=Aside0.mk (show Kd.R (Kd.int .i64) 3 _ _ _ _ (rd_L12 x5_3 x7_2) from ge652_0)
                         clear hv652_0 ge652_0
                         have HX652_0:=Aside0.mk hx652_0
                         clear hcc652 hce652
                         have HR652_0:=Aside0.mk hi652_0
                         have HC652_0:=Aside0.mk hl652_0
                         clear hi652_0 hl652_0
                         replace p652:=eq_true p652
                         replace q652:=eq_true q652
                         have p653:0≤((ji58):Int):=of_decide_eq_true (by(with_reducible assumption))
                         have q653:(ji58)<((rd_L12 x5_3 x7_2).length:Int):=of_decide_eq_true (by(with_reducible assumption))
                         obtain⟨ad653,e653,hx653_0⟩:=Kd.at_int (by repeat((with_reducible exact HR652_0.out))) (ji58) p653 q653
                         cases e653
                         replace p653:=eq_true p653
                         replace q653:=eq_true q653
                         refine start_ (n:=17) (S:=fun w'=>w'.cell? (ad650.add ((ji53)).toNat)=some (.slice (some ad651) (rd_L12 x5_3 (ji53)).length c650_0)∧w'.cell? (ad651.add (x8_3).toNat)=some (.int .i64 (rd (rd_L12 x5_3 (ji53)) x8_3))∧w'.cell? (ad650.add (x7_2).toNat)=some (.slice (some ad653) (rd_L12 x5_3 x7_2).length c652_0)∧w'.cell? (ad653.add ((ji58)).toNat)=some (.int .i64 (rd (rd_L12 x5_3 x7_2) (ji58)))) (ds:= []) (Sq.bl 17 0) (by kernel_rfl) rfl rfl ⟨hx650_0,hx651_0,hx652_0,hx653_0⟩ (fun hHeld=>?_);refine with_tabW jalousieref07_Table.tab18 jalousieref07_Table.bits18 (fun HT_ HW_=>?_)
                         generalize w64.drew=w65 at HO_5 HB HL650_0 HL652_0 HR650_0 HR652_0 HX650_0 HX652_0 hx650_0 hx651_0 hx652_0 hx653_0 hHeld ⊢
                         refine Sq.pu (v:=?_) (a':=?_) 0 87 (Sq.bl 17 1) (any_of HT_.out (by kernel_rfl)) rfl rfl (fun _ _ _ h=>h) (by rfl) ?_ ?_ ?_;rotate_left;(· intro w';go_simp;with_reducible rfl);rotate_left;(· simp only [Act.put,zp1,zp2,zp3,zp4,zp5];rfl)
                         refine Sq.pu (v:=?_) (a':=?_) 1 88 (Sq.bl 17 3) (any_of HT_.out (by kernel_rfl)) rfl rfl (fun _ _ _ h=>h) (by rfl) ?_ ?_ ?_;rotate_left;(· intro w';go_simp;with_reducible rfl);rotate_left;(· simp only [Act.put,zp1,zp2,zp3,zp4,zp5];rfl)
                         refine Sq.pu (v:=?_) (a':=?_) 2 89 (Sq.bl 17 7) (any_of HT_.out (by kernel_rfl)) rfl rfl (fun _ _ _ h=>h) (by rfl) ?_ ?_ ?_;rotate_left;(· intro w';go_simp;with_reducible rfl);rotate_left;(· simp only [Act.put,zp1,zp2,zp3,zp4,zp5];rfl)
                         refine Sq.pu (v:=?_) (a':=?_) 3 90 (Sq.bl 17 15) (any_of HT_.out (by kernel_rfl)) rfl rfl (fun _ _ _ h=>h) (by rfl) ?_ ?_ ?_;rotate_left;(· intro w';go_simp;with_reducible rfl);rotate_left;(· simp only [Act.put,zp1,zp2,zp3,zp4,zp5];rfl)
                         refine Sq.pu (v:=?_) (a':=?_) 5 92 (Sq.bl 17 47) (any_of HT_.out (by kernel_rfl)) rfl rfl (fun _ _ _ h=>h) (by rfl) ?_ ?_ ?_;rotate_left;(· intro w';go_simp;with_reducible rfl);rotate_left;(· simp only [Act.put,zp1,zp2,zp3,zp4,zp5];rfl)
                         refine Sq.pu (v:=?_) (a':=?_) 8 95 (Sq.bl 17 303) (any_of HT_.out (by kernel_rfl)) rfl rfl (fun _ _ _ h=>h) (by rfl) ?_ ?_ ?_;rotate_left;(· intro w';go_simp;with_reducible rfl);rotate_left;(· simp only [Act.put,zp1,zp2,zp3,zp4,zp5];rfl)
                         refine Sq.pu (v:=?_) (a':=?_) 9 96 (Sq.bl 17 815) (any_of HT_.out (by kernel_rfl)) rfl rfl (fun _ _ _ h=>h) (by rfl) ?_ ?_ ?_;rotate_left;(· intro w';go_simp;with_reducible rfl);rotate_left;(· simp only [Act.put,zp1,zp2,zp3,zp4,zp5];rfl)
                         refine Sq.pu (v:=?_) (a':=?_) 10 97 (Sq.bl 17 1839) (any_of HT_.out (by kernel_rfl)) rfl rfl (fun _ _ _ h=>h) (by rfl) ?_ ?_ ?_;rotate_left;(· intro w';go_simp;with_reducible rfl);rotate_left;(· simp only [Act.put,zp1,zp2,zp3,zp4,zp5];rfl)
                         refine Sq.pu (v:=?_) (a':=?_) 12 99 (Sq.bl 17 5935) (any_of HT_.out (by kernel_rfl)) rfl rfl (fun _ _ _ h=>h) (by rfl) ?_ ?_ ?_;rotate_left;(· intro w';go_simp;with_reducible rfl);rotate_left;(· simp only [Act.put,zp1,zp2,zp3,zp4,zp5];rfl)
                         refine Sq.pu (v:=?_) (a':=?_) 13 100 (Sq.bl 17 14127) (any_of HT_.out (by kernel_rfl)) rfl rfl (fun _ _ _ h=>h) (by rfl) ?_ ?_ ?_;rotate_left;(· intro w';go_simp;with_reducible rfl);rotate_left;(· simp only [Act.put,zp1,zp2,zp3,zp4,zp5];rfl)
                         refine take_ (i:=4) (N:=some 91) (v:=?_) (a':=?_) (Sq.bl 17 14143) rfl rfl (take_ofW HT_.out HW_.out (by kernel_rfl)) (fun _ _ _ h=>h) (Or.inl ⟨by rfl,?_⟩) hHeld ?_ ?_
                         rotate_left
                         ·rintro w' ⟨s0,s1,s2,s3⟩
                          go_simp
                          with_reducible rfl
                         rotate_left
                         ·simp only [Act.put,zp1,zp2,zp3,zp4,zp5]
                          rfl
                         refine Sq.pu (v:=?_) (a':=?_) 6 93 (Sq.bl 17 14207) (any_of HT_.out (by kernel_rfl)) rfl rfl (fun _ _ _ h=>h) (by rfl) ?_ ?_ ?_;rotate_left;(· intro w';go_simp;with_reducible rfl);rotate_left;(· simp only [Act.put,zp1,zp2,zp3,zp4,zp5];rfl)
                         refine take_ (i:=7) (N:=some 94) (v:=?_) (a':=?_) (Sq.bl 17 14335) rfl rfl (take_ofW HT_.out HW_.out (by kernel_rfl)) (fun _ _ _ h=>h) (Or.inl ⟨by rfl,?_⟩) hHeld ?_ ?_
                         rotate_left
                         ·rintro w' ⟨s0,s1,s2,s3⟩
                          go_simp
                          with_reducible rfl
                         rotate_left
                         ·simp only [Act.put,zp1,zp2,zp3,zp4,zp5]
                          rfl
                         refine take_ (i:=11) (N:=some 98) (v:=?_) (a':=?_) (Sq.bl 17 16383) rfl rfl (take_ofW HT_.out HW_.out (by kernel_rfl)) (fun _ _ _ h=>h) (Or.inl ⟨by rfl,?_⟩) hHeld ?_ ?_
                         rotate_left
                         ·rintro w' ⟨s0,s1,s2,s3⟩
                          go_simp
                          with_reducible rfl
                         rotate_left
                         ·simp only [Act.put,zp1,zp2,zp3,zp4,zp5]
                          rfl
                         refine Sq.pu (v:=?_) (a':=?_) 14 101 (Sq.bl 17 32767) (any_of HT_.out (by kernel_rfl)) rfl rfl (fun _ _ _ h=>h) (by rfl) ?_ ?_ ?_;rotate_left;(· intro w';go_simp;with_reducible rfl);rotate_left;(· simp only [Act.put,zp1,zp2,zp3,zp4,zp5];rfl)
                         refine take_ (i:=15) (N:=some 102) (v:=?_) (a':=?_) (Sq.bl 17 65535) rfl rfl (take_ofW HT_.out HW_.out (by kernel_rfl)) (fun _ _ _ h=>h) (Or.inl ⟨by rfl,?_⟩) hHeld ?_ ?_
                         rotate_left
                         ·rintro w' ⟨s0,s1,s2,s3⟩
                          go_simp
                          with_reducible rfl
                         rotate_left
                         ·simp only [Act.put,zp1,zp2,zp3,zp4,zp5]
                          rfl
                         refine Sq.pu (v:=?_) (a':=?_) 16 103 (Sq.bl 17 131071) (any_of HT_.out (by kernel_rfl)) rfl rfl (fun _ _ _ h=>h) (by rfl) ?_ ?_ ?_;rotate_left;(· intro w';go_simp;with_reducible rfl);rotate_left;(· simp only [Act.put,zp1,zp2,zp3,zp4,zp5];rfl)
                         refine done_ (done_of HT_.out (by kernel_rfl)) ?_
                         try go_wp2
                         have n0_:=Aside0.mk (Kd.S_drew HO_5.out)
                         have n1_:=Aside0.mk (Kd.R_drew HL650_0.out)
                         have n2_:=Aside0.mk (Kd.R_drew HL652_0.out)
                         have n3_:=Aside0.mk (Kd.C_drew HR650_0.out)
                         have n4_:=Aside0.mk (Kd.C_drew HR652_0.out)
                         have n5_:=Aside0.mk (below_drew1 HB.out)
                         clear HO_5
                         clear HL650_0
                         clear HL652_0
                         clear HR650_0
                         clear HR652_0
                         clear HB
                         have HO_5:=n0_
                         have HL650_0:=n1_
                         have HL652_0:=n2_
                         have HR650_0:=n3_
                         have HR652_0:=n4_
                         have HB:=n5_
                         clear n0_ n1_ n2_ n3_ n4_ n5_
                         have p654:0≤(x7_2:Int):=of_decide_eq_true (by(with_reducible assumption))
                         have q654:x7_2<(x5_3.length:Int):=of_decide_eq_true (by(with_reducible assumption))
                         obtain⟨ad654,A654_0,c654_0,e654,hx654_0,hl654_0,hi654_0⟩:=at_L12 (Kd.S_reads' HO_5.out).2.2 x7_2 p654 q654
                         obtain rfl:ad650=ad654:=(by injection e654)
                         obtain⟨ce654,hce654,hMe654,hcc654⟩:=Kd.S_get HO_5.out [] x7_2 p654 (by exact q654)
                         obtain⟨ve654_0,rfl,ge654_0⟩:=hMe654
                         have hv654_0:=hcc654 0 _ rfl
                         rw [Nat.add_zero,show((Kd.slice 3 (Kd.int .i64))).sz=1 from rfl,Nat.mul_one] at hv654_0
                         replace hv654_0:=Option.some.inj (hv654_0.symm.trans hx654_0)
                         rw [hv654_0] at ge654_0
                         have HL654_0:=Aside0.mk (show Kd.R (Kd.int .i64) 3 _ _ _ _ (rd_L12 x5_3 x7_2) from ge654_0)
                         clear hv654_0 ge654_0
                         have HX654_0:=Aside0.mk hx654_0
                         clear hcc654 hce654
                         have HR654_0:=Aside0.mk hi654_0
                         have HC654_0:=Aside0.mk hl654_0
                         clear hi654_0 hl654_0
                         replace p654:=eq_true p654
                         replace q654:=eq_true q654
                         have p655:0≤((ji53):Int):=of_decide_eq_true (by(with_reducible assumption))
                         have q655:(ji53)<(x5_3.length:Int):=of_decide_eq_true (by(with_reducible assumption))
                         obtain⟨ad655,A655_0,c655_0,e655,hx655_0,hl655_0,hi655_0⟩:=at_L12 (Kd.S_reads' HO_5.out).2.2 (ji53) p655 q655
                         obtain rfl:ad650=ad655:=(by injection e655)
                         obtain⟨ce655,hce655,hMe655,hcc655⟩:=Kd.S_get HO_5.out [] (ji53) p655 (by exact q655)
                         obtain⟨ve655_0,rfl,ge655_0⟩:=hMe655
                         have hv655_0:=hcc655 0 _ rfl
                         rw [Nat.add_zero,show((Kd.slice 3 (Kd.int .i64))).sz=1 from rfl,Nat.mul_one] at hv655_0
                         replace hv655_0:=Option.some.inj (hv655_0.symm.trans hx655_0)
                         rw [hv655_0] at ge655_0
                         have HL655_0:=Aside0.mk (show Kd.R (Kd.int .i64) 3 _ _ _ _ (rd_L12 x5_3 (ji53)) from ge655_0)
                         clear hv655_0 ge655_0
                         have HX655_0:=Aside0.mk hx655_0
                         clear hcc655 hce655
                         have HR655_0:=Aside0.mk hi655_0
                         have HC655_0:=Aside0.mk hl655_0
                         clear hi655_0 hl655_0
                         replace p655:=eq_true p655
                         replace q655:=eq_true q655
                         have p656:0≤(x8_3:Int):=of_decide_eq_true (by(with_reducible assumption))
                         have q656:x8_3<((rd_L12 x5_3 (ji53)).length:Int):=of_decide_eq_true (by(with_reducible assumption))
                         obtain⟨ad656,e656,hx656_0⟩:=Kd.at_int (by repeat((with_reducible exact HR655_0.out))) x8_3 p656 q656
                         cases e656
                         replace p656:=eq_true p656
                         replace q656:=eq_true q656
                         have p63:0≤(x8_3:Int):=of_decide_eq_true (by(with_reducible assumption))
                         have q63:(x8_3:Int)<(((rd_L12 x5_3 x7_2).length:Int):Int):=of_decide_eq_true (by(with_reducible assumption))
                         obtain⟨go63,co63,eo63,gb63,gl63,cl63,HG63⟩:=Kd.R_form HL654_0.out (by omega)
                         (first|cases eo63|(injection eo63 with ea_ en_ ec_;(fail);subst ec_;clear en_))
                         have GB63:=Aside0.mk gb63
                         have GG63:=Aside0.mk HG63
                         clear gb63 gl63 HG63
                         obtain⟨hx63_0,hf63_0⟩:=Kd.R_celln 0 HL654_0.out (x8_3:Int) p63 q63
                         replace p63:=eq_true p63
                         replace q63:=eq_true q63
                         have hq68:(x7_2:Int)<(x5_3.length:Int):=(by have h_:(x7_2:Int)<((x5_3.length:Int):Int):=of_decide_eq_true (by(with_reducible assumption));exact h_)
                         obtain⟨oki68,ce68,hcl68,hM68,hcc68,hok68,hbk68⟩:=Kd.S_borrow HO_5.out [] (x7_2:Int) (of_decide_eq_true (by(with_reducible assumption))) hq68
                         obtain⟨ve68_0,rfl,ge68_0⟩:=hM68
                         have hv68:=hcc68 0 _ rfl
                         rw [Nat.add_zero,show((Kd.slice 3 (Kd.int .i64))).sz=1 from rfl,Nat.mul_one] at hv68
                         replace hv68:=Option.some.inj (hv68.symm.trans HX654_0.out)
                         subst hv68
                         clear hcc68 hcl68
                         replace ge68_0:=(show Kd.R (Kd.int .i64) 3 _ _ _ _ (rd_L12 x5_3 x7_2) from ge68_0)
                         have HP68:=Kd.R_putg ge68_0 (x8_3:Int) (wrap64 ((rd (rd_L12 x5_3 (ji53)) x8_3)+1))
                         rw [← Ny657.out] at HP68
                         have HS68:=hbk68 HP68.2 (fun k_ e_=>by injection e_ with e_;subst e_;exact ge68_0.1 _ rfl) (x':=y657) (Kd.M_row HP68.1)
                         rw [← Ny659.out] at HS68
                         have HQ68:=Aside0.mk HS68
                         clear HP68 HS68 hbk68 hok68
                         refine start_ (n:=16) (S:=fun w'=>w'.cell? (ad650.add (x7_2).toNat)=some (.slice (some ⟨go63,0,none⟩) (rd_L12 x5_3 x7_2).length c654_0)∧w'.cell? (ad650.add ((ji53)).toNat)=some (.slice (some ad656) (rd_L12 x5_3 (ji53)).length c655_0)∧w'.cell? (ad656.add (x8_3).toNat)=some (.int .i64 (rd (rd_L12 x5_3 (ji53)) x8_3))) (ds:= [15]) (Sq.bl 16 0) (by kernel_rfl) rfl rfl ⟨hx654_0,hx655_0,hx656_0⟩ (fun hHeld=>?_);refine with_tabW jalousieref07_Table.tab19 jalousieref07_Table.bits19 (fun HT_ HW_=>?_)
                         generalize w65.drew=w67 at HO_5 HL650_0 HL652_0 HR650_0 HR652_0 HB GG63 HL654_0 HL655_0 HQ68 HR654_0 HR655_0 HX654_0 HX655_0 hf63_0 hx63_0 hx654_0 hx655_0 hx656_0 hHeld ⊢
                         refine Sq.pu (v:=?_) (a':=?_) 0 104 (Sq.bl 16 1) (any_of HT_.out (by kernel_rfl)) rfl rfl (fun _ _ _ h=>h) (by rfl) ?_ ?_ ?_;rotate_left;(· intro w';go_simp;with_reducible rfl);rotate_left;(· simp only [Act.put,zp1,zp2,zp3,zp4,zp5];rfl)
                         refine Sq.pu (v:=?_) (a':=?_) 1 105 (Sq.bl 16 3) (any_of HT_.out (by kernel_rfl)) rfl rfl (fun _ _ _ h=>h) (by rfl) ?_ ?_ ?_;rotate_left;(· intro w';go_simp;with_reducible rfl);rotate_left;(· simp only [Act.put,zp1,zp2,zp3,zp4,zp5];rfl)
                         refine Sq.pu (v:=?_) (a':=?_) 2 106 (Sq.bl 16 7) (any_of HT_.out (by kernel_rfl)) rfl rfl (fun _ _ _ h=>h) (by rfl) ?_ ?_ ?_;rotate_left;(· intro w';go_simp;with_reducible rfl);rotate_left;(· simp only [Act.put,zp1,zp2,zp3,zp4,zp5];rfl)
                         refine Sq.pu (v:=?_) (a':=?_) 4 108 (Sq.bl 16 23) (any_of HT_.out (by kernel_rfl)) rfl rfl (fun _ _ _ h=>h) (by rfl) ?_ ?_ ?_;rotate_left;(· intro w';go_simp;with_reducible rfl);rotate_left;(· simp only [Act.put,zp1,zp2,zp3,zp4,zp5];rfl)
                         refine Sq.pu (v:=?_) (a':=?_) 5 109 (Sq.bl 16 55) (any_of HT_.out (by kernel_rfl)) rfl rfl (fun _ _ _ h=>h) (by rfl) ?_ ?_ ?_;rotate_left;(· intro w';go_simp;with_reducible rfl);rotate_left;(· simp only [Act.put,zp1,zp2,zp3,zp4,zp5];rfl)
                         refine Sq.pu (v:=?_) (a':=?_) 6 110 (Sq.bl 16 119) (any_of HT_.out (by kernel_rfl)) rfl rfl (fun _ _ _ h=>h) (by rfl) ?_ ?_ ?_;rotate_left;(· intro w';go_simp;with_reducible rfl);rotate_left;(· simp only [Act.put,zp1,zp2,zp3,zp4,zp5];rfl)
                         refine Sq.pu (v:=?_) (a':=?_) 7 111 (Sq.bl 16 247) (any_of HT_.out (by kernel_rfl)) rfl rfl (fun _ _ _ h=>h) (by rfl) ?_ ?_ ?_;rotate_left;(· intro w';go_simp;with_reducible rfl);rotate_left;(· simp only [Act.put,zp1,zp2,zp3,zp4,zp5];rfl)
                         refine Sq.pu (v:=?_) (a':=?_) 8 112 (Sq.bl 16 503) (any_of HT_.out (by kernel_rfl)) rfl rfl (fun _ _ _ h=>h) (by rfl) ?_ ?_ ?_;rotate_left;(· intro w';go_simp;with_reducible rfl);rotate_left;(· simp only [Act.put,zp1,zp2,zp3,zp4,zp5];rfl)
                         refine Sq.pu (v:=?_) (a':=?_) 10 114 (Sq.bl 16 1527) (any_of HT_.out (by kernel_rfl)) rfl rfl (fun _ _ _ h=>h) (by rfl) ?_ ?_ ?_;rotate_left;(· intro w';go_simp;with_reducible rfl);rotate_left;(· simp only [Act.put,zp1,zp2,zp3,zp4,zp5];rfl)
                         refine take_ (i:=3) (N:=some 107) (v:=?_) (a':=?_) (Sq.bl 16 1535) rfl rfl (take_ofW HT_.out HW_.out (by kernel_rfl)) (fun _ _ _ h=>h) (Or.inl ⟨by rfl,?_⟩) hHeld ?_ ?_
                         rotate_left
                         ·rintro w' ⟨s0,s1,s2⟩
                          go_simp
                          with_reducible rfl
                         rotate_left
                         ·simp only [Act.put,zp1,zp2,zp3,zp4,zp5]
                          rfl
                         refine take_ (i:=9) (N:=some 113) (v:=?_) (a':=?_) (Sq.bl 16 2047) rfl rfl (take_ofW HT_.out HW_.out (by kernel_rfl)) (fun _ _ _ h=>h) (Or.inl ⟨by rfl,?_⟩) hHeld ?_ ?_
                         rotate_left
                         ·rintro w' ⟨s0,s1,s2⟩
                          go_simp
                          with_reducible rfl
                         rotate_left
                         ·simp only [Act.put,zp1,zp2,zp3,zp4,zp5]
                          rfl
                         refine Sq.pu (v:=?_) (a':=?_) 11 115 (Sq.bl 16 4095) (any_of HT_.out (by kernel_rfl)) rfl rfl (fun _ _ _ h=>h) (by rfl) ?_ ?_ ?_;rotate_left;(· intro w';go_simp;with_reducible rfl);rotate_left;(· simp only [Act.put,zp1,zp2,zp3,zp4,zp5];rfl)
                         refine take_ (i:=12) (N:=some 116) (v:=?_) (a':=?_) (Sq.bl 16 8191) rfl rfl (take_ofW HT_.out HW_.out (by kernel_rfl)) (fun _ _ _ h=>h) (Or.inl ⟨by rfl,?_⟩) hHeld ?_ ?_
                         rotate_left
                         ·rintro w' ⟨s0,s1,s2⟩
                          go_simp
                          with_reducible rfl
                         rotate_left
                         ·simp only [Act.put,zp1,zp2,zp3,zp4,zp5]
                          rfl
                         refine Sq.pu (v:=?_) (a':=?_) 13 117 (Sq.bl 16 16383) (any_of HT_.out (by kernel_rfl)) rfl rfl (fun _ _ _ h=>h) (by rfl) ?_ ?_ ?_;rotate_left;(· intro w';go_simp;with_reducible rfl);rotate_left;(· simp only [Act.put,zp1,zp2,zp3,zp4,zp5];rfl)
                         refine Sq.pu (v:=?_) (a':=?_) 14 118 (Sq.bl 16 32767) (any_of HT_.out (by kernel_rfl)) rfl rfl (fun _ _ _ h=>h) (by rfl) ?_ ?_ ?_;rotate_left;(· intro w';go_simp;with_reducible rfl);rotate_left;(· simp only [Act.put,zp1,zp2,zp3,zp4,zp5];rfl)
                         refine last_ (i:=15) (N:=none) (Sq.bl 16 65535) rfl rfl (one_of HT_.out (by kernel_rfl)) (by decide) (fun K hK=>?_)
                         refine skip_ (w1:=?_) (by rfl) rfl ?_ ?_
                         rotate_left
                         ·go_simp
                          rfl
                         refine hK.out _ _ ?_
                         clear hK K
                         refine done_ (done_of HT_.out (by kernel_rfl)) ?_
                         try go_wp2
                         go_roundg k3
                         case measure=>have:=HK1.out;have:=HK2.out;have:=HK3.out;omega
                         case rel=>exact⟨(y659),(wrap64 (x8_3-1)),(by rfl),H',⟨by have:=HK1.out;have:=HK2.out;have:=HK3.out;omega⟩,⟨by exact HQ68.out⟩,⟨by repeat((with_reducible first|exact HB.out|refine below_set ?_ GB63.out))⟩⟩
                        ·rw [if_neg c62] at H
                         exact absurd H (by simp)
                       ·rw [if_neg c61] at H
                        have c61b0:decide ((rd (rd_L12 x5_3 (ji53)) x8_3)<(rd (rd_L12 x5_3 x7_2) (ji58)))=false:=decide_eq_false c61
                        clear c61
                        by_cases c70:x8_3<((rd_L12 x5_3 x7_2).length:Int)
                        ·rw [if_pos c70] at H
                         have c70b0:decide (x8_3<((rd_L12 x5_3 x7_2).length:Int))=true:=decide_eq_true c70
                         clear c70
                         obtain⟨y663,hy663⟩: ∃y_:List Int,y_=((rd_L12 x5_3 x7_2).set (x8_3:Int).toNat (wrap64 ((rd (rd_L12 x5_3 x7_2) (ji58))+1))):=⟨_,rfl⟩
                         replace H:(jalousieref07_Table.l2 k3 l0 l1 (x5_3.set (x7_2:Int).toNat y663) x7_2 (wrap64 (x8_3-1)))=some r:=by(rw [hy663];with_reducible exact H)
                         have Ny663:=Aside0.mk hy663
                         clear hy663
                         obtain⟨y665,hy665⟩: ∃y_:List (List Int),y_=(x5_3.set (x7_2:Int).toNat y663):=⟨_,rfl⟩
                         replace H:(jalousieref07_Table.l2 k3 l0 l1 y665 x7_2 (wrap64 (x8_3-1)))=some r:=by(rw [hy665];with_reducible exact H)
                         have Ny665:=Aside0.mk hy665
                         clear hy665
                         have H':=Aside0.mk H
                         clear H
                         try go_wp2
                         have n0_:=Aside0.mk (Kd.S_drew HO_5.out)
                         have n1_:=Aside0.mk (below_drew1 HB.out)
                         clear HO_5
                         clear HB
                         have HO_5:=n0_
                         have HB:=n1_
                         clear n0_ n1_
                         have p642:0≤(x7_2:Int):=of_decide_eq_true (by(with_reducible assumption))
                         have q642:x7_2<(l0.length:Int):=of_decide_eq_true (by(with_reducible assumption))
                         obtain⟨ad642,e642,hx642_0⟩:=Kd.at_int HR0.out x7_2 p642 q642
                         have hw642_0:=hx642_0
                         cases e642
                         replace hx642_0:=(HB.out.cell (World.block_lt_of_cell? w _ hx642_0)).trans hx642_0
                         replace p642:=eq_true p642
                         replace q642:=eq_true q642
                         have p643:0≤(x8_3:Int):=of_decide_eq_true (by(with_reducible assumption))
                         have q643:x8_3<(l1.length:Int):=of_decide_eq_true (by(with_reducible assumption))
                         obtain⟨ad643,e643,hx643_0⟩:=Kd.at_int HR1.out x8_3 p643 q643
                         have hw643_0:=hx643_0
                         cases e643
                         replace hx643_0:=(HB.out.cell (World.block_lt_of_cell? w _ hx643_0)).trans hx643_0
                         replace p643:=eq_true p643
                         replace q643:=eq_true q643
                         refine start_ (n:=9) (S:=fun w'=>w'.cell? (ad642.add (x7_2).toNat)=some (.int .i64 (rd l0 x7_2))∧w'.cell? (ad643.add (x8_3).toNat)=some (.int .i64 (rd l1 x8_3))) (ds:= []) (Sq.bl 9 0) (by kernel_rfl) rfl rfl ⟨((HB.out.cell (World.block_lt_of_cell? w _ hw642_0)).trans hw642_0),((HB.out.cell (World.block_lt_of_cell? w _ hw643_0)).trans hw643_0)⟩ (fun hHeld=>?_);refine with_tabW jalousieref07_Table.tab16 jalousieref07_Table.bits16 (fun HT_ HW_=>?_)
                         generalize wr.drew=w72 at HO_5 HB hx642_0 hx643_0 hHeld ⊢
                         refine Sq.pu (v:=?_) (a':=?_) 0 63 (Sq.bl 9 1) (any_of HT_.out (by kernel_rfl)) rfl rfl (fun _ _ _ h=>h) (by rfl) ?_ ?_ ?_;rotate_left;(· intro w';go_simp;with_reducible rfl);rotate_left;(· simp only [Act.put,zp1,zp2,zp3,zp4,zp5];rfl)
                         refine Sq.pu (v:=?_) (a':=?_) 1 64 (Sq.bl 9 3) (any_of HT_.out (by kernel_rfl)) rfl rfl (fun _ _ _ h=>h) (by rfl) ?_ ?_ ?_;rotate_left;(· intro w';go_simp;with_reducible rfl);rotate_left;(· simp only [Act.put,zp1,zp2,zp3,zp4,zp5];rfl)
                         refine Sq.pu (v:=?_) (a':=?_) 2 65 (Sq.bl 9 7) (any_of HT_.out (by kernel_rfl)) rfl rfl (fun _ _ _ h=>h) (by rfl) ?_ ?_ ?_;rotate_left;(· intro w';go_simp;with_reducible rfl);rotate_left;(· simp only [Act.put,zp1,zp2,zp3,zp4,zp5];rfl)
                         refine Sq.pu (v:=?_) (a':=?_) 4 67 (Sq.bl 9 23) (any_of HT_.out (by kernel_rfl)) rfl rfl (fun _ _ _ h=>h) (by rfl) ?_ ?_ ?_;rotate_left;(· intro w';go_simp;with_reducible rfl);rotate_left;(· simp only [Act.put,zp1,zp2,zp3,zp4,zp5];rfl)
                         refine Sq.pu (v:=?_) (a':=?_) 5 68 (Sq.bl 9 55) (any_of HT_.out (by kernel_rfl)) rfl rfl (fun _ _ _ h=>h) (by rfl) ?_ ?_ ?_;rotate_left;(· intro w';go_simp;with_reducible rfl);rotate_left;(· simp only [Act.put,zp1,zp2,zp3,zp4,zp5];rfl)
                         refine Sq.pu (v:=?_) (a':=?_) 6 69 (Sq.bl 9 119) (any_of HT_.out (by kernel_rfl)) rfl rfl (fun _ _ _ h=>h) (by rfl) ?_ ?_ ?_;rotate_left;(· intro w';go_simp;with_reducible rfl);rotate_left;(· simp only [Act.put,zp1,zp2,zp3,zp4,zp5];rfl)
                         refine take_ (i:=3) (N:=some 66) (v:=?_) (a':=?_) (Sq.bl 9 127) rfl rfl (take_ofW HT_.out HW_.out (by kernel_rfl)) (fun _ _ _ h=>h) (Or.inl ⟨by rfl,?_⟩) hHeld ?_ ?_
                         rotate_left
                         ·rintro w' ⟨s0,s1⟩
                          go_simp
                          with_reducible rfl
                         rotate_left
                         ·simp only [Act.put,zp1,zp2,zp3,zp4,zp5]
                          rfl
                         refine take_ (i:=7) (N:=some 70) (v:=?_) (a':=?_) (Sq.bl 9 255) rfl rfl (take_ofW HT_.out HW_.out (by kernel_rfl)) (fun _ _ _ h=>h) (Or.inl ⟨by rfl,?_⟩) hHeld ?_ ?_
                         rotate_left
                         ·rintro w' ⟨s0,s1⟩
                          go_simp
                          with_reducible rfl
                         rotate_left
                         ·simp only [Act.put,zp1,zp2,zp3,zp4,zp5]
                          rfl
                         refine Sq.pu (v:=?_) (a':=?_) 8 71 (Sq.bl 9 511) (any_of HT_.out (by kernel_rfl)) rfl rfl (fun _ _ _ h=>h) (by rfl) ?_ ?_ ?_;rotate_left;(· intro w';go_simp;with_reducible rfl);rotate_left;(· simp only [Act.put,zp1,zp2,zp3,zp4,zp5];rfl)
                         refine done_ (done_of HT_.out (by kernel_rfl)) ?_
                         try go_wp2
                         have n0_:=Aside0.mk (Kd.S_drew HO_5.out)
                         have n1_:=Aside0.mk (below_drew1 HB.out)
                         clear HO_5
                         clear HB
                         have HO_5:=n0_
                         have HB:=n1_
                         clear n0_ n1_
                         obtain⟨Ao74,co74,eo74⟩:=Kd.S_slice HO_5.out
                         (subst eo74)
                         have p650:0≤((ji53):Int):=of_decide_eq_true (by(with_reducible assumption))
                         have q650:(ji53)<(x5_3.length:Int):=of_decide_eq_true (by(with_reducible assumption))
                         obtain⟨ad650,A650_0,c650_0,e650,hx650_0,hl650_0,hi650_0⟩:=at_L12 (Kd.S_reads' HO_5.out).2.2 (ji53) p650 q650
                         cases e650
                         obtain⟨ce650,hce650,hMe650,hcc650⟩:=Kd.S_get HO_5.out [] (ji53) p650 (by exact q650)
                         obtain⟨ve650_0,rfl,ge650_0⟩:=hMe650
                         have hv650_0:=hcc650 0 _ rfl
                         rw [Nat.add_zero,show((Kd.slice 3 (Kd.int .i64))).sz=1 from rfl,Nat.mul_one] at hv650_0
                         replace hv650_0:=Option.some.inj (hv650_0.symm.trans hx650_0)
                         rw [hv650_0] at ge650_0
                         have HL650_0:=Aside0.mk (show Kd.R (Kd.int .i64) 3 _ _ _ _ (rd_L12 x5_3 (ji53)) from ge650_0)
                         clear hv650_0 ge650_0
                         have HX650_0:=Aside0.mk hx650_0
                         clear hcc650 hce650
                         have HR650_0:=Aside0.mk hi650_0
                         have HC650_0:=Aside0.mk hl650_0
                         clear hi650_0 hl650_0
                         replace p650:=eq_true p650
                         replace q650:=eq_true q650
                         have p651:0≤(x8_3:Int):=of_decide_eq_true (by(with_reducible assumption))
                         have q651:x8_3<((rd_L12 x5_3 (ji53)).length:Int):=of_decide_eq_true (by(with_reducible assumption))
                         obtain⟨ad651,e651,hx651_0⟩:=Kd.at_int (by repeat((with_reducible exact HR650_0.out))) x8_3 p651 q651
                         cases e651
                         replace p651:=eq_true p651
                         replace q651:=eq_true q651
                         have p652:0≤(x7_2:Int):=of_decide_eq_true (by(with_reducible assumption))
                         have q652:x7_2<(x5_3.length:Int):=of_decide_eq_true (by(with_reducible assumption))
                         obtain⟨ad652,A652_0,c652_0,e652,hx652_0,hl652_0,hi652_0⟩:=at_L12 (Kd.S_reads' HO_5.out).2.2 x7_2 p652 q652
                         obtain rfl:ad650=ad652:=(by injection e652)
                         obtain⟨ce652,hce652,hMe652,hcc652⟩:=Kd.S_get HO_5.out [] x7_2 p652 (by exact q652)
                         obtain⟨ve652_0,rfl,ge652_0⟩:=hMe652
                         have hv652_0:=hcc652 0 _ rfl
                         rw [Nat.add_zero,show((Kd.slice 3 (Kd.int .i64))).sz=1 from rfl,Nat.mul_one] at hv652_0
                         replace hv652_0:=Option.some.inj (hv652_0.symm.trans hx652_0)
                         rw [hv652_0] at ge652_0
                         have HL652_0:=Aside0.mk (show Kd.R (Kd.int .i64) 3 _ _ _ _ (rd_L12 x5_3 x7_2) from ge652_0)
                         clear hv652_0 ge652_0
                         have HX652_0:=Aside0.mk hx652_0
                         clear hcc652 hce652
                         have HR652_0:=Aside0.mk hi652_0
                         have HC652_0:=Aside0.mk hl652_0
                         clear hi652_0 hl652_0
                         replace p652:=eq_true p652
                         replace q652:=eq_true q652
                         have p653:0≤((ji58):Int):=of_decide_eq_true (by(with_reducible assumption))
                         have q653:(ji58)<((rd_L12 x5_3 x7_2).length:Int):=of_decide_eq_true (by(with_reducible assumption))
                         obtain⟨ad653,e653,hx653_0⟩:=Kd.at_int (by repeat((with_reducible exact HR652_0.out))) (ji58) p653 q653
                         cases e653
                         replace p653:=eq_true p653
                         replace q653:=eq_true q653
                         refine start_ (n:=17) (S:=fun w'=>w'.cell? (ad650.add ((ji53)).toNat)=some (.slice (some ad651) (rd_L12 x5_3 (ji53)).length c650_0)∧w'.cell? (ad651.add (x8_3).toNat)=some (.int .i64 (rd (rd_L12 x5_3 (ji53)) x8_3))∧w'.cell? (ad650.add (x7_2).toNat)=some (.slice (some ad653) (rd_L12 x5_3 x7_2).length c652_0)∧w'.cell? (ad653.add ((ji58)).toNat)=some (.int .i64 (rd (rd_L12 x5_3 x7_2) (ji58)))) (ds:= []) (Sq.bl 17 0) (by kernel_rfl) rfl rfl ⟨hx650_0,hx651_0,hx652_0,hx653_0⟩ (fun hHeld=>?_);refine with_tabW jalousieref07_Table.tab18 jalousieref07_Table.bits18 (fun HT_ HW_=>?_)
                         generalize w72.drew=w73 at HO_5 HB HL650_0 HL652_0 HR650_0 HR652_0 HX650_0 HX652_0 hx650_0 hx651_0 hx652_0 hx653_0 hHeld ⊢
                         refine Sq.pu (v:=?_) (a':=?_) 0 87 (Sq.bl 17 1) (any_of HT_.out (by kernel_rfl)) rfl rfl (fun _ _ _ h=>h) (by rfl) ?_ ?_ ?_;rotate_left;(· intro w';go_simp;with_reducible rfl);rotate_left;(· simp only [Act.put,zp1,zp2,zp3,zp4,zp5];rfl)
                         refine Sq.pu (v:=?_) (a':=?_) 1 88 (Sq.bl 17 3) (any_of HT_.out (by kernel_rfl)) rfl rfl (fun _ _ _ h=>h) (by rfl) ?_ ?_ ?_;rotate_left;(· intro w';go_simp;with_reducible rfl);rotate_left;(· simp only [Act.put,zp1,zp2,zp3,zp4,zp5];rfl)
                         refine Sq.pu (v:=?_) (a':=?_) 2 89 (Sq.bl 17 7) (any_of HT_.out (by kernel_rfl)) rfl rfl (fun _ _ _ h=>h) (by rfl) ?_ ?_ ?_;rotate_left;(· intro w';go_simp;with_reducible rfl);rotate_left;(· simp only [Act.put,zp1,zp2,zp3,zp4,zp5];rfl)
                         refine Sq.pu (v:=?_) (a':=?_) 3 90 (Sq.bl 17 15) (any_of HT_.out (by kernel_rfl)) rfl rfl (fun _ _ _ h=>h) (by rfl) ?_ ?_ ?_;rotate_left;(· intro w';go_simp;with_reducible rfl);rotate_left;(· simp only [Act.put,zp1,zp2,zp3,zp4,zp5];rfl)
                         refine Sq.pu (v:=?_) (a':=?_) 5 92 (Sq.bl 17 47) (any_of HT_.out (by kernel_rfl)) rfl rfl (fun _ _ _ h=>h) (by rfl) ?_ ?_ ?_;rotate_left;(· intro w';go_simp;with_reducible rfl);rotate_left;(· simp only [Act.put,zp1,zp2,zp3,zp4,zp5];rfl)
                         refine Sq.pu (v:=?_) (a':=?_) 8 95 (Sq.bl 17 303) (any_of HT_.out (by kernel_rfl)) rfl rfl (fun _ _ _ h=>h) (by rfl) ?_ ?_ ?_;rotate_left;(· intro w';go_simp;with_reducible rfl);rotate_left;(· simp only [Act.put,zp1,zp2,zp3,zp4,zp5];rfl)
                         refine Sq.pu (v:=?_) (a':=?_) 9 96 (Sq.bl 17 815) (any_of HT_.out (by kernel_rfl)) rfl rfl (fun _ _ _ h=>h) (by rfl) ?_ ?_ ?_;rotate_left;(· intro w';go_simp;with_reducible rfl);rotate_left;(· simp only [Act.put,zp1,zp2,zp3,zp4,zp5];rfl)
                         refine Sq.pu (v:=?_) (a':=?_) 10 97 (Sq.bl 17 1839) (any_of HT_.out (by kernel_rfl)) rfl rfl (fun _ _ _ h=>h) (by rfl) ?_ ?_ ?_;rotate_left;(· intro w';go_simp;with_reducible rfl);rotate_left;(· simp only [Act.put,zp1,zp2,zp3,zp4,zp5];rfl)
                         refine Sq.pu (v:=?_) (a':=?_) 12 99 (Sq.bl 17 5935) (any_of HT_.out (by kernel_rfl)) rfl rfl (fun _ _ _ h=>h) (by rfl) ?_ ?_ ?_;rotate_left;(· intro w';go_simp;with_reducible rfl);rotate_left;(· simp only [Act.put,zp1,zp2,zp3,zp4,zp5];rfl)
                         refine Sq.pu (v:=?_) (a':=?_) 13 100 (Sq.bl 17 14127) (any_of HT_.out (by kernel_rfl)) rfl rfl (fun _ _ _ h=>h) (by rfl) ?_ ?_ ?_;rotate_left;(· intro w';go_simp;with_reducible rfl);rotate_left;(· simp only [Act.put,zp1,zp2,zp3,zp4,zp5];rfl)
                         refine take_ (i:=4) (N:=some 91) (v:=?_) (a':=?_) (Sq.bl 17 14143) rfl rfl (take_ofW HT_.out HW_.out (by kernel_rfl)) (fun _ _ _ h=>h) (Or.inl ⟨by rfl,?_⟩) hHeld ?_ ?_
                         rotate_left
                         ·rintro w' ⟨s0,s1,s2,s3⟩
                          go_simp
                          with_reducible rfl
                         rotate_left
                         ·simp only [Act.put,zp1,zp2,zp3,zp4,zp5]
                          rfl
                         refine Sq.pu (v:=?_) (a':=?_) 6 93 (Sq.bl 17 14207) (any_of HT_.out (by kernel_rfl)) rfl rfl (fun _ _ _ h=>h) (by rfl) ?_ ?_ ?_;rotate_left;(· intro w';go_simp;with_reducible rfl);rotate_left;(· simp only [Act.put,zp1,zp2,zp3,zp4,zp5];rfl)
                         refine take_ (i:=7) (N:=some 94) (v:=?_) (a':=?_) (Sq.bl 17 14335) rfl rfl (take_ofW HT_.out HW_.out (by kernel_rfl)) (fun _ _ _ h=>h) (Or.inl ⟨by rfl,?_⟩) hHeld ?_ ?_
                         rotate_left
                         ·rintro w' ⟨s0,s1,s2,s3⟩
                          go_simp
                          with_reducible rfl
                         rotate_left
                         ·simp only [Act.put,zp1,zp2,zp3,zp4,zp5]
                          rfl
                         refine take_ (i:=11) (N:=some 98) (v:=?_) (a':=?_) (Sq.bl 17 16383) rfl rfl (take_ofW HT_.out HW_.out (by kernel_rfl)) (fun _ _ _ h=>h) (Or.inl ⟨by rfl,?_⟩) hHeld ?_ ?_
                         rotate_left
                         ·rintro w' ⟨s0,s1,s2,s3⟩
                          go_simp
                          with_reducible rfl
                         rotate_left
                         ·simp only [Act.put,zp1,zp2,zp3,zp4,zp5]
                          rfl
                         refine Sq.pu (v:=?_) (a':=?_) 14 101 (Sq.bl 17 32767) (any_of HT_.out (by kernel_rfl)) rfl rfl (fun _ _ _ h=>h) (by rfl) ?_ ?_ ?_;rotate_left;(· intro w';go_simp;with_reducible rfl);rotate_left;(· simp only [Act.put,zp1,zp2,zp3,zp4,zp5];rfl)
                         refine take_ (i:=15) (N:=some 102) (v:=?_) (a':=?_) (Sq.bl 17 65535) rfl rfl (take_ofW HT_.out HW_.out (by kernel_rfl)) (fun _ _ _ h=>h) (Or.inl ⟨by rfl,?_⟩) hHeld ?_ ?_
                         rotate_left
                         ·rintro w' ⟨s0,s1,s2,s3⟩
                          go_simp
                          with_reducible rfl
                         rotate_left
                         ·simp only [Act.put,zp1,zp2,zp3,zp4,zp5]
                          rfl
                         refine Sq.pu (v:=?_) (a':=?_) 16 103 (Sq.bl 17 131071) (any_of HT_.out (by kernel_rfl)) rfl rfl (fun _ _ _ h=>h) (by rfl) ?_ ?_ ?_;rotate_left;(· intro w';go_simp;with_reducible rfl);rotate_left;(· simp only [Act.put,zp1,zp2,zp3,zp4,zp5];rfl)
                         refine done_ (done_of HT_.out (by kernel_rfl)) ?_
                         try go_wp2
                         have n0_:=Aside0.mk (Kd.S_drew HO_5.out)
                         have n1_:=Aside0.mk (Kd.R_drew HL650_0.out)
                         have n2_:=Aside0.mk (Kd.R_drew HL652_0.out)
                         have n3_:=Aside0.mk (Kd.C_drew HR650_0.out)
                         have n4_:=Aside0.mk (Kd.C_drew HR652_0.out)
                         have n5_:=Aside0.mk (below_drew1 HB.out)
                         clear HO_5
                         clear HL650_0
                         clear HL652_0
                         clear HR650_0
                         clear HR652_0
                         clear HB
                         have HO_5:=n0_
                         have HL650_0:=n1_
                         have HL652_0:=n2_
                         have HR650_0:=n3_
                         have HR652_0:=n4_
                         have HB:=n5_
                         clear n0_ n1_ n2_ n3_ n4_ n5_
                         have p660:0≤(x7_2:Int):=of_decide_eq_true (by(with_reducible assumption))
                         have q660:x7_2<(x5_3.length:Int):=of_decide_eq_true (by(with_reducible assumption))
                         obtain⟨ad660,A660_0,c660_0,e660,hx660_0,hl660_0,hi660_0⟩:=at_L12 (Kd.S_reads' HO_5.out).2.2 x7_2 p660 q660
                         obtain rfl:ad650=ad660:=(by injection e660)
                         obtain⟨ce660,hce660,hMe660,hcc660⟩:=Kd.S_get HO_5.out [] x7_2 p660 (by exact q660)
                         obtain⟨ve660_0,rfl,ge660_0⟩:=hMe660
                         have hv660_0:=hcc660 0 _ rfl
                         rw [Nat.add_zero,show((Kd.slice 3 (Kd.int .i64))).sz=1 from rfl,Nat.mul_one] at hv660_0
                         replace hv660_0:=Option.some.inj (hv660_0.symm.trans hx660_0)
                         rw [hv660_0] at ge660_0
                         have HL660_0:=Aside0.mk (show Kd.R (Kd.int .i64) 3 _ _ _ _ (rd_L12 x5_3 x7_2) from ge660_0)
                         clear hv660_0 ge660_0
                         have HX660_0:=Aside0.mk hx660_0
                         clear hcc660 hce660
                         have HR660_0:=Aside0.mk hi660_0
                         have HC660_0:=Aside0.mk hl660_0
                         clear hi660_0 hl660_0
                         replace p660:=eq_true p660
                         replace q660:=eq_true q660
                         have p661:0≤(x7_2:Int):=of_decide_eq_true (by(with_reducible assumption))
                         have q661:x7_2<(x5_3.length:Int):=of_decide_eq_true (by(with_reducible assumption))
                         obtain⟨ad661,A661_0,c661_0,e661,hx661_0,hl661_0,hi661_0⟩:=at_L12 (Kd.S_reads' HO_5.out).2.2 x7_2 p661 q661
                         obtain rfl:ad650=ad661:=(by injection e661)
                         obtain⟨ce661,hce661,hMe661,hcc661⟩:=Kd.S_get HO_5.out [] x7_2 p661 (by exact q661)
                         obtain⟨ve661_0,rfl,ge661_0⟩:=hMe661
                         have hv661_0:=hcc661 0 _ rfl
                         rw [Nat.add_zero,show((Kd.slice 3 (Kd.int .i64))).sz=1 from rfl,Nat.mul_one] at hv661_0
                         replace hv661_0:=Option.some.inj (hv661_0.symm.trans hx661_0)
                         rw [hv661_0] at ge661_0
                         have HL661_0:=Aside0.mk (show Kd.R (Kd.int .i64) 3 _ _ _ _ (rd_L12 x5_3 x7_2) from ge661_0)
                         clear hv661_0 ge661_0
                         have HX661_0:=Aside0.mk hx661_0
                         clear hcc661 hce661
                         have HR661_0:=Aside0.mk hi661_0
                         have HC661_0:=Aside0.mk hl661_0
                         clear hi661_0 hl661_0
                         replace p661:=eq_true p661
                         replace q661:=eq_true q661
                         have ea_:=Option.some.inj (hx660_0.symm.trans hx661_0)
                         injection ea_ with ea_ en_ ec_
                         subst ea_
                         subst ec_
                         clear en_
                         have p662:0≤((ji58):Int):=of_decide_eq_true (by(with_reducible assumption))
                         have q662:(ji58)<((rd_L12 x5_3 x7_2).length:Int):=of_decide_eq_true (by(with_reducible assumption))
                         obtain⟨ad662,e662,hx662_0⟩:=Kd.at_int (by repeat((with_reducible exact HR661_0.out))) (ji58) p662 q662
                         cases e662
                         replace p662:=eq_true p662
                         replace q662:=eq_true q662
                         have p71:0≤(x8_3:Int):=of_decide_eq_true (by(with_reducible assumption))
                         have q71:(x8_3:Int)<(((rd_L12 x5_3 x7_2).length:Int):Int):=of_decide_eq_true (by(with_reducible assumption))
                         obtain⟨go71,co71,eo71,gb71,gl71,cl71,HG71⟩:=Kd.R_form HL660_0.out (by omega)
                         (first|cases eo71|(injection eo71 with ea_ en_ ec_;(fail);subst ec_;clear en_))
                         have GB71:=Aside0.mk gb71
                         have GG71:=Aside0.mk HG71
                         clear gb71 gl71 HG71
                         (simp only [add_plain] at hx662_0)
                         obtain⟨hx71_0,hf71_0⟩:=Kd.R_celln 0 HL660_0.out (x8_3:Int) p71 q71
                         replace p71:=eq_true p71
                         replace q71:=eq_true q71
                         have hq76:(x7_2:Int)<(x5_3.length:Int):=(by have h_:(x7_2:Int)<((x5_3.length:Int):Int):=of_decide_eq_true (by(with_reducible assumption));exact h_)
                         obtain⟨oki76,ce76,hcl76,hM76,hcc76,hok76,hbk76⟩:=Kd.S_borrow HO_5.out [] (x7_2:Int) (of_decide_eq_true (by(with_reducible assumption))) hq76
                         obtain⟨ve76_0,rfl,ge76_0⟩:=hM76
                         have hv76:=hcc76 0 _ rfl
                         rw [Nat.add_zero,show((Kd.slice 3 (Kd.int .i64))).sz=1 from rfl,Nat.mul_one] at hv76
                         replace hv76:=Option.some.inj (hv76.symm.trans HX660_0.out)
                         subst hv76
                         clear hcc76 hcl76
                         replace ge76_0:=(show Kd.R (Kd.int .i64) 3 _ _ _ _ (rd_L12 x5_3 x7_2) from ge76_0)
                         have HP76:=Kd.R_putg ge76_0 (x8_3:Int) (wrap64 ((rd (rd_L12 x5_3 x7_2) (ji58))+1))
                         rw [← Ny663.out] at HP76
                         have HS76:=hbk76 HP76.2 (fun k_ e_=>by injection e_ with e_;subst e_;exact ge76_0.1 _ rfl) (x':=y663) (Kd.M_row HP76.1)
                         rw [← Ny665.out] at HS76
                         have HQ76:=Aside0.mk HS76
                         clear HP76 HS76 hbk76 hok76
                         refine start_ (n:=16) (S:=fun w'=>w'.cell? (ad650.add (x7_2).toNat)=some (.slice (some ⟨go71,0,none⟩) (rd_L12 x5_3 x7_2).length c660_0)∧w'.cell? (ad650.add (x7_2).toNat)=some (.slice (some ⟨go71,0,none⟩) (rd_L12 x5_3 x7_2).length c660_0)∧w'.cell? ⟨go71,((ji58)).toNat,none⟩=some (.int .i64 (rd (rd_L12 x5_3 x7_2) (ji58)))) (ds:= [15]) (Sq.bl 16 0) (by kernel_rfl) rfl rfl ⟨hx660_0,hx661_0,hx662_0⟩ (fun hHeld=>?_);refine with_tabW jalousieref07_Table.tab20 jalousieref07_Table.bits20 (fun HT_ HW_=>?_)
                         generalize w73.drew=w75 at HO_5 HL650_0 HL652_0 HR650_0 HR652_0 HB GG71 HL660_0 HL661_0 HQ76 HR660_0 HR661_0 HX660_0 HX661_0 hf71_0 hx660_0 hx661_0 hx662_0 hx71_0 hHeld ⊢
                         refine Sq.pu (v:=?_) (a':=?_) 0 119 (Sq.bl 16 1) (any_of HT_.out (by kernel_rfl)) rfl rfl (fun _ _ _ h=>h) (by rfl) ?_ ?_ ?_;rotate_left;(· intro w';go_simp;with_reducible rfl);rotate_left;(· simp only [Act.put,zp1,zp2,zp3,zp4,zp5];rfl)
                         refine Sq.pu (v:=?_) (a':=?_) 1 120 (Sq.bl 16 3) (any_of HT_.out (by kernel_rfl)) rfl rfl (fun _ _ _ h=>h) (by rfl) ?_ ?_ ?_;rotate_left;(· intro w';go_simp;with_reducible rfl);rotate_left;(· simp only [Act.put,zp1,zp2,zp3,zp4,zp5];rfl)
                         refine Sq.pu (v:=?_) (a':=?_) 2 121 (Sq.bl 16 7) (any_of HT_.out (by kernel_rfl)) rfl rfl (fun _ _ _ h=>h) (by rfl) ?_ ?_ ?_;rotate_left;(· intro w';go_simp;with_reducible rfl);rotate_left;(· simp only [Act.put,zp1,zp2,zp3,zp4,zp5];rfl)
                         refine Sq.pu (v:=?_) (a':=?_) 4 123 (Sq.bl 16 23) (any_of HT_.out (by kernel_rfl)) rfl rfl (fun _ _ _ h=>h) (by rfl) ?_ ?_ ?_;rotate_left;(· intro w';go_simp;with_reducible rfl);rotate_left;(· simp only [Act.put,zp1,zp2,zp3,zp4,zp5];rfl)
                         refine Sq.pu (v:=?_) (a':=?_) 5 124 (Sq.bl 16 55) (any_of HT_.out (by kernel_rfl)) rfl rfl (fun _ _ _ h=>h) (by rfl) ?_ ?_ ?_;rotate_left;(· intro w';go_simp;with_reducible rfl);rotate_left;(· simp only [Act.put,zp1,zp2,zp3,zp4,zp5];rfl)
                         refine Sq.pu (v:=?_) (a':=?_) 6 125 (Sq.bl 16 119) (any_of HT_.out (by kernel_rfl)) rfl rfl (fun _ _ _ h=>h) (by rfl) ?_ ?_ ?_;rotate_left;(· intro w';go_simp;with_reducible rfl);rotate_left;(· simp only [Act.put,zp1,zp2,zp3,zp4,zp5];rfl)
                         refine Sq.pu (v:=?_) (a':=?_) 7 126 (Sq.bl 16 247) (any_of HT_.out (by kernel_rfl)) rfl rfl (fun _ _ _ h=>h) (by rfl) ?_ ?_ ?_;rotate_left;(· intro w';go_simp;with_reducible rfl);rotate_left;(· simp only [Act.put,zp1,zp2,zp3,zp4,zp5];rfl)
                         refine Sq.pu (v:=?_) (a':=?_) 9 128 (Sq.bl 16 759) (any_of HT_.out (by kernel_rfl)) rfl rfl (fun _ _ _ h=>h) (by rfl) ?_ ?_ ?_;rotate_left;(· intro w';go_simp;with_reducible rfl);rotate_left;(· simp only [Act.put,zp1,zp2,zp3,zp4,zp5];rfl)
                         refine Sq.pu (v:=?_) (a':=?_) 10 129 (Sq.bl 16 1783) (any_of HT_.out (by kernel_rfl)) rfl rfl (fun _ _ _ h=>h) (by rfl) ?_ ?_ ?_;rotate_left;(· intro w';go_simp;with_reducible rfl);rotate_left;(· simp only [Act.put,zp1,zp2,zp3,zp4,zp5];rfl)
                         refine take_ (i:=3) (N:=some 122) (v:=?_) (a':=?_) (Sq.bl 16 1791) rfl rfl (take_ofW HT_.out HW_.out (by kernel_rfl)) (fun _ _ _ h=>h) (Or.inl ⟨by rfl,?_⟩) hHeld ?_ ?_
                         rotate_left
                         ·rintro w' ⟨s0,s1,s2⟩
                          go_simp
                          with_reducible rfl
                         rotate_left
                         ·simp only [Act.put,zp1,zp2,zp3,zp4,zp5]
                          rfl
                         refine take_ (i:=8) (N:=some 127) (v:=?_) (a':=?_) (Sq.bl 16 2047) rfl rfl (take_ofW HT_.out HW_.out (by kernel_rfl)) (fun _ _ _ h=>h) (Or.inl ⟨by rfl,?_⟩) hHeld ?_ ?_
                         rotate_left
                         ·rintro w' ⟨s0,s1,s2⟩
                          go_simp
                          with_reducible rfl
                         rotate_left
                         ·simp only [Act.put,zp1,zp2,zp3,zp4,zp5]
                          rfl
                         refine Sq.pu (v:=?_) (a':=?_) 11 130 (Sq.bl 16 4095) (any_of HT_.out (by kernel_rfl)) rfl rfl (fun _ _ _ h=>h) (by rfl) ?_ ?_ ?_;rotate_left;(· intro w';go_simp;with_reducible rfl);rotate_left;(· simp only [Act.put,zp1,zp2,zp3,zp4,zp5];rfl)
                         refine take_ (i:=12) (N:=some 131) (v:=?_) (a':=?_) (Sq.bl 16 8191) rfl rfl (take_ofW HT_.out HW_.out (by kernel_rfl)) (fun _ _ _ h=>h) (Or.inl ⟨by rfl,?_⟩) hHeld ?_ ?_
                         rotate_left
                         ·rintro w' ⟨s0,s1,s2⟩
                          go_simp
                          with_reducible rfl
                         rotate_left
                         ·simp only [Act.put,zp1,zp2,zp3,zp4,zp5]
                          rfl
                         refine Sq.pu (v:=?_) (a':=?_) 13 132 (Sq.bl 16 16383) (any_of HT_.out (by kernel_rfl)) rfl rfl (fun _ _ _ h=>h) (by rfl) ?_ ?_ ?_;rotate_left;(· intro w';go_simp;with_reducible rfl);rotate_left;(· simp only [Act.put,zp1,zp2,zp3,zp4,zp5];rfl)
                         refine Sq.pu (v:=?_) (a':=?_) 14 133 (Sq.bl 16 32767) (any_of HT_.out (by kernel_rfl)) rfl rfl (fun _ _ _ h=>h) (by rfl) ?_ ?_ ?_;rotate_left;(· intro w';go_simp;with_reducible rfl);rotate_left;(· simp only [Act.put,zp1,zp2,zp3,zp4,zp5];rfl)
                         refine last_ (i:=15) (N:=none) (Sq.bl 16 65535) rfl rfl (one_of HT_.out (by kernel_rfl)) (by decide) (fun K hK=>?_)
                         refine skip_ (w1:=?_) (by rfl) rfl ?_ ?_
                         rotate_left
                         ·go_simp
                          rfl
                         refine hK.out _ _ ?_
                         clear hK K
                         refine done_ (done_of HT_.out (by kernel_rfl)) ?_
                         try go_wp2
                         go_roundg k3
                         case measure=>have:=HK1.out;have:=HK2.out;have:=HK3.out;omega
                         case rel=>exact⟨(y665),(wrap64 (x8_3-1)),(by rfl),H',⟨by have:=HK1.out;have:=HK2.out;have:=HK3.out;omega⟩,⟨by exact HQ76.out⟩,⟨by repeat((with_reducible first|exact HB.out|refine below_set ?_ GB71.out))⟩⟩
                        ·rw [if_neg c70] at H
                         exact absurd H (by simp)
                      ·rw [if_neg c60] at H
                       exact absurd H (by simp)
                     ·rw [if_neg c59] at H
                      exact absurd H (by simp)
                    ·rw [if_neg c57] at H
                     exact absurd H (by simp)
                   ·rw [if_neg c56] at H
                    exact absurd H (by simp)
                  ·rw [if_neg c55] at H
                   exact absurd H (by simp)
                 ·rw [if_neg c54] at H
                  exact absurd H (by simp)
               ·rw [if_neg c37] at H
                exact absurd H (by simp)
              ·rw [if_neg c36] at H
               exact absurd H (by simp)
             ·rw [if_neg c35] at H
              exact absurd H (by simp)
            ·rw [if_neg c34] at H
             exact absurd H (by simp)
         ·rw [if_neg c15] at H
          have c15b0:decide (0≤x8_3)=false:=decide_eq_false c15
          clear c15
          have H':=Aside0.mk H
          clear H
          go_wp2
          go_roundg k3
          case measure=>have:=HK1.out;have:=HK2.out;have:=HK3.out;omega
          case rel=>exact⟨(x5_3),(wrap64 (x7_2-1)),(by rfl),H',⟨by have:=HK1.out;have:=HK2.out;have:=HK3.out;omega⟩,⟨by exact HO_5.out⟩,⟨by repeat((with_reducible exact HB.out))⟩⟩
      ·rw [if_neg c14] at H
       have c14b0:decide (0≤x7_2)=false:=decide_eq_false c14
       clear c14
       obtain rfl:=Option.some.inj H
       go_wp2
       go_ret
       exact⟨_,by rfl,by exact HO_5.out,by repeat((with_reducible exact HB.out))⟩
end Go.Proofs.Ytfnbodjmmkjlcaa.H
end
