/-
  What the claim needs of the words, of the walks and of the plain proofs, in one row (7).
-/
import Derived.Deep.RegionHeld3
import Derived.WalkLawsBesides
import Derived.WalkSpells
import Derived.RangeFuncNested
import Derived.RangeFuncBound
import Derived.RangeFuncCalls
import Derived.RangeFuncLeaves
import Derived.RangeFuncBox
import Derived.RangeFuncMany
import Derived.Shelf.Abstract
import Derived.OwnWalkIn
import Derived.TacticsInMore
import Derived.LoopNIn
import Derived.LoopIn
import Derived.Test.YtfnbodjmmkjlcaaZ0
import Derived.Test.YtfnbodjmmkjlcaaZ1
import Derived.Test.YtfnbodjmmkjlcaaZ2
import Derived.Test.YtfnbodjmmkjlcaaZ3
import Derived.Test.YtfnbodjmmkjlcaaZ4
import Derived.Test.YtfnbodjmmkjlcaaZ5
import Derived.Test.YtfnbodjmmkjlcaaZ6
section
namespace Go.Proofs.Ytfnbodjmmkjlcaa.H
open Go.RowKit Go.Proofs.YtfnbodjmmkjlcaaW.PrintWords Go.Proofs.YtfnbodjmmkjlcaaW.PrintLast Go.Proofs.YtfnbodjmmkjlcaaW.PrintMore
attribute [local go_sem] max2_int min2_int max_two min_two max_three min_three max_four min_four
set_option linter.unusedVariables false
set_option linter.unusedSimpArgs false
def patch_Apply.step (xs:List S64) (d:Int) (i j:Nat):List S64:=if d=1 then xs++ [⟨(i:Int),(j:Int)⟩] else xs
set_option maxRecDepth 100000 in
set_option maxHeartbeats 4000000 in
theorem patch_Apply.one (base gb:Nat) (w0:World) (xs:List S64) (v:Value) (d:Int) (i j:Nat) (w:World)
  (hb:w.heap[gb]? =some (Obj.cells #[v] 50 (0,0))) (hv:Kd.R k64 64 w base (fun _=>True) v xs) (hB:Below base w0 w) (hgb:base≤gb) (hl:xs.length≤2000000) (vs:Value) (s:List S47) (hN:Kd.N k47 47 w base (fun k=>some k≠v.ownBlock∧k≠gb) vs s) (vb:Value) (bs:List S66) (hR:Kd.R k66 66 w base (fun _=>True) vb bs):
  Calls Try.prog 59 #[.int .i64 d, .int .i64 (i:Int), .int .i64 (j:Int), .pointer (some ⟨gb,0,none⟩)] w fun e w'=>e= .returned (.tuple #[])∧((∃v',w'.heap[gb]? =some (Obj.cells #[v'] 50 (0,0))∧Kd.R k64 64 w' base (fun _=>True) v' (patch_Apply.step xs d i j)∧Kd.N k47 47 w' base (fun k=>some k≠v'.ownBlock∧k≠gb) vs s∧Kd.R k66 66 w' base (fun _=>True) vb bs)∧Below base w0 w')∧ ∀(k:Nat) (c:Array Value),w.heap[k]? =some (Obj.cells c 47 (0,0))→w'.heap[k]? =some (Obj.cells c 47 (0,0)):=by
 have hsz:base≤w.heap.size:=Nat.le_trans hgb (Nat.le_of_lt (Array.getElem?_eq_some_iff.mp hb).1)
 have hc:=(blk_cell hb 0).trans rfl
 have hf:=blk_frozen hb 0
 have HB:=Aside0.mk hB
 have HV:=Aside0.mk hv
 have BK:=Aside0.mk hb
 have HN:=Aside0.mk hN
 have HRB:=Aside0.mk hR
 clear hB hv hb hN hR
 by_cases hd:d=1
 ·have hd':(d==1)=true:=by simp [hd]
  have HD:=Aside0.mk hd
  clear hd
  go_enter Try.func59,Try.ntmps59
  go_wp2_with((with_reducible refine gate_builtin (b:= .append) (xs:= #[.tmp 9, .tmp 13]) rfl ?_);at_builtin;refine Kd.R_append k64 (w0:=w0) base rfl (.tmp 9) (.tmp 13) 50 64 (.agg #[(.int .i64 0),(.int .i64 0)]) 16 rfl Try.underlying50 info64 rfl (by decide) (by omega) v xs (⟨(i:Int),(j:Int)⟩:S64) [.int .i64 (i:Int), .int .i64 (j:Int)] (fun _=>True) (fun _=>False) rfl rfl ?aP (fun _ hk=>hk.elim) ?aF ?aO ?aB ?aS ?aL ?_;(case aP=>exact k64_mkM _ _ _ (⟨(i:Int),(j:Int)⟩:S64));(case aB=>exact HB.out);(case aF=>exact(fun _ _=>trivial));(case aO=>exact HV.out);(case aS=>exact hsz);(case aL=>omega);intro v1 w1 ho hbl hgr hat;obtain⟨Ao1,co1,eo1⟩:=Kd.R_slice ho;subst eo1;have BK1:=Aside0.mk (blk_grown (g:=gb) (o:= .cells #[v] 50 (0,0)) BK.out hgr (Kd.R_ne HV.out BK.out (by decide)));have hc1:=(blk_cell BK1.out 0).trans rfl;have hf1:=blk_frozen BK1.out 0;have HR1:=Aside0.mk (Kd.R_over' HRB.out (Kd.R_typed HV.out) (by decide) hgr);have HO1:=Aside0.mk ho;have HB1:=Aside0.mk hbl;have HG1:=Aside0.mk hgr;have HN1:=Aside0.mk (Kd.N_afterv (ok:=fun k=>k≠gb) (Kd.N_mono HN.out (fun _ hk=>⟨hk.2,hk.1⟩)) hgr hat);clear ho hbl hgr hat hc hf)
  go_end0
  refine⟨rfl,⟨⟨_,blk_put (cs:= #[v]) BK1.out 0 _ rfl,?_⟩,HB1.out.setCell hgb _⟩,fun k c hk=>blk_far (blk_grown hk HG1.out (Kd.R_ne HV.out hk (by decide))) ?_ _⟩
  ·rw [patch_Apply.step,if_pos HD.out]
   refine⟨?_,?_,?_⟩
   rotate_left
   ·have h6:=Kd.N_mono (ok':=fun k=>some k≠(Value.slice Ao1 (xs.length+1) co1).ownBlock∧k≠gb) (Kd.N_far (p:=⟨gb,0,none⟩) HN1.out (fun _ hk=>hk.1) (Value.slice Ao1 (xs.length+1) co1)) (fun _ hk=>⟨by have h7:=hk.2;simpa only [List.length_append,List.length_singleton] using h7,hk.1⟩)
    exact h6
   ·exact Kd.R_mono (ok':=fun _=>True) (Kd.R_far (p:=⟨gb,0,none⟩) (Kd.R_types HR1.out BK1.out (by decide)) (fun _ hk=>hk.2) (Value.slice Ao1 (xs.length+1) co1)) (fun _ hk=>trivial)
   have h5:=Kd.R_mono (ok':=fun _=>True) (Kd.R_far (p:=⟨gb,0,none⟩) (Kd.R_types HO1.out BK1.out (by decide)) (fun _ hk=>hk.2) (Value.slice Ao1 (xs.length+1) co1)) (fun _ hk=>trivial)
   simpa only [List.length_append,List.length_singleton] using h5
  ·rintro rfl
   have:=BK.out.symm.trans hk
   simp at this
 ·have hd':(d==1)=false:=by simp [hd]
  have HD:=Aside0.mk hd
  clear hd
  go_enter Try.func59,Try.ntmps59
  go_wp2
  go_end0
  exact⟨rfl,⟨⟨v,BK.out,by rw [patch_Apply.step,if_neg HD.out];exact HV.out,HN.out,HRB.out⟩,HB.out⟩,fun _ _ h=>h⟩
def patch_Apply.f (k:Nat) (l0:List S44) (l1:List S66):Option (List S66×List S64×Int):=(patch_whole.f k l0 l1).bind fun t=>if patch_walk.lines t.1≤1000000∧t.1.length≤1000000 then some (t.2.1,(patch_walk.all patch_Apply.step t.1 ([],0,0)).1,t.2.2) else none
theorem patch_Apply.mono (k:Nat) (l0:List S44) (l1:List S66):LeO (patch_Apply.f k l0 l1) (patch_Apply.f (k+1) l0 l1):=by
 unfold patch_Apply.f
 exact LeO.bind (patch_whole.mono _ _ _) (fun _=>LeO.refl _)
set_option maxRecDepth 100000 in
set_option maxHeartbeats 4000000 in
theorem patch_Apply.calls (k:Nat) (A0:Option Addr) (c0:Nat) (l0:List S44) (A1:Option Addr) (c1:Nat) (l1:List S66) (r1:List S66) (r2:List S64) (r3:Int) (w:World) (hr0:Kd.C k44 w A0 l0.length l0) (hc0:l0.length≤c0) (hr1:Kd.C k66 w A1 l1.length l1) (hc1:l1.length≤c1) (h:patch_Apply.f k l0 l1=some (r1,r2,r3)):
  Calls Try.prog 28 #[.slice A0 l0.length c0, .slice A1 l1.length c1] w fun e w'=> ∃v0_ v1_:Value,e= .returned (.tuple #[v0_,v1_, .int .i64 r3])∧Kd.R k66 66 w' w.heap.size (fun _=>True) v0_ r1∧Kd.R k64 64 w' w.heap.size (fun _=>True) v1_ r2∧Below w.heap.size w w':=by
 unfold patch_Apply.f at h
 obtain⟨⟨s,b,e⟩,hw,h⟩:=Option.bind_eq_some_iff.mp h
 dsimp only at h
 by_cases hl:patch_walk.lines s≤1000000∧s.length≤1000000
 ·rw [if_pos hl] at h
  cases h
  have HW:=Aside0.mk hw
  have HR0:=Aside0.mk hr0
  have HR1:=Aside0.mk hr1
  have HC0:=Aside0.mk hc0
  have HC1:=Aside0.mk hc1
  have HL:=Aside0.mk hl
  clear hw hr0 hr1 hc0 hc1 hl
  have HCL:=Aside0.mk (patch_whole.calls k (fun _=>True) A0 c0 l0 (fun _=>True) A1 c1 l1 s r1 r3 w (Kd.V_mk HC0.out (fun W' hW=>k44_heap.C (fun q hq=>hW q trivial hq) HR0.out)) (Kd.V_mk HC1.out (fun W' hW=>k66_heap.C (fun q hq=>hW q trivial hq) HR1.out)) HW.out)
  have hmf: ∀(fn:Fn) (first cap:Array Value) (w:World),(Instr.makeFunc fn first cap).run Try.prog w= .ok (.func fn first cap) w:=fun _ _ _ _=>rfl
  go_enter Try.func28,Try.ntmps28
  go_wp2_with(go_at_call 57;(refine HCL.out.mono ?_);rintro e_ w1 ⟨v0,v1,rfl,hN,hRb,hB1⟩;obtain⟨As,cs,eN⟩:=Kd.N_slice hN;subst eN;have HN:=Aside0.mk (Kd.N_mono (ok':=fun _=>True) hN (fun _ _=>trivial));have HRb:=Aside0.mk (Kd.R_mono (ok':=fun _=>True) hRb (fun _ _=>trivial));have HB:=Aside0.mk hB1;clear hN hRb hB1)
  have hgb:w.heap.size≤w1.heap.size:=HB.out.size
  have hnew:=World.alloc_heap_new w1 (.cells #[.slice none 0 0] 50 (0,0))
  have HP0:Aside0 ((∃v',(w1.alloc (.cells #[.slice none 0 0] 50 (0,0))).heap[w1.heap.size]? =some (Obj.cells #[v'] 50 (0,0))∧Kd.R k64 64 (w1.alloc (.cells #[.slice none 0 0] 50 (0,0))) w.heap.size (fun _=>True) v' []∧Kd.N k47 47 (w1.alloc (.cells #[.slice none 0 0] 50 (0,0))) w.heap.size (fun k=>some k≠v'.ownBlock∧k≠w1.heap.size) (.slice As s.length cs) s∧Kd.R k66 66 (w1.alloc (.cells #[.slice none 0 0] 50 (0,0))) w.heap.size (fun _=>True) v1 r1)∧Below w.heap.size w (w1.alloc (.cells #[.slice none 0 0] 50 (0,0)))):=⟨⟨_,hnew,Kd.R_nil _ _ _ _ _,Kd.N_alloc (Kd.N_mono (Kd.N_elderB HN.out w1.heap.size (Nat.le_refl _)) (fun k hk=>⟨by simp [Value.ownBlock],hk.2⟩)) _,Kd.R_alloc HRb.out _⟩,HB.out.alloc hgb _⟩
  clear hnew
  go_wp2_with(go_at_call 58;refine(patch_walk.callsA patch_Apply.step (.pointer (some ⟨w1.heap.size,0,none⟩)) (fun W x=>(∃v',W.heap[w1.heap.size]? =some (Obj.cells #[v'] 50 (0,0))∧Kd.R k64 64 W w.heap.size (fun _=>True) v' x∧Kd.N k47 47 W w.heap.size (fun k=>some k≠v'.ownBlock∧k≠w1.heap.size) (.slice As s.length cs) s∧Kd.R k66 66 W w.heap.size (fun _=>True) v1 r1)∧Below w.heap.size w W) List.length As cs s [] _ ?aC ?aS HL.out.2 HL.out.1 HP0.out rfl ?aL ?aZ ?aK).mono ?_;(case aC=>exact(fun W x h=>(Kd.N_reads' h.1.choose_spec.2.2.1).2.2));(case aS=>exact(Kd.N_reads' HN.out).2.1);(case aL=>exact(fun W x o h=>⟨⟨_,blk_alloc h.1.choose_spec.1 _,Kd.R_alloc h.1.choose_spec.2.1 _,Kd.N_alloc h.1.choose_spec.2.2.1 _,Kd.R_alloc h.1.choose_spec.2.2.2 _⟩,h.2.alloc h.2.size _⟩));(case aZ=>exact(fun x d i j=>by unfold patch_Apply.step;split<;>simp));(case aK=>exact(fun W x d i j h hs hi hj=>(patch_Apply.one w.heap.size w1.heap.size w x _ d i j W h.1.choose_spec.1 h.1.choose_spec.2.1 h.2 hgb (by omega) _ _ h.1.choose_spec.2.2.1 _ _ h.1.choose_spec.2.2.2).mono (fun _ _ hq=>hq)));rintro e_ w2 ⟨rfl,⟨vr,hbk,hR,hN2,hRl⟩,hB2⟩;have HRr:=Aside0.mk hR;have HRl:=Aside0.mk hRl;have HB2:=Aside0.mk hB2;have hbk:=blk_drew hbk;clear hR hN2 hB2 hRl)
  refine start_ (n:=6) (S:=fun w'=>w'.cell? ⟨w1.heap.size,0,none⟩=some vr) (ds:= []) (Sq.bl 6 0) (by kernel_rfl) rfl (by rfl) ((blk_cell hbk 0).trans rfl) (fun hS=>?_)
  refine Sq.pu (v:=?_) (a':=?_) 0 21 (Sq.bl 6 1) (by kernel_rfl) rfl rfl (fun _ _ _ h=>h) (by rfl) ?_ ?_ ?_;rotate_left;(· intro w';go_simp;with_reducible rfl);rotate_left;(· simp only [Act.put,zp1,zp2,zp3,zp4,zp5];rfl)
  refine Sq.pu (v:=?_) (a':=?_) 2 23 (Sq.bl 6 5) (by kernel_rfl) rfl rfl (fun _ _ _ h=>h) (by rfl) ?_ ?_ ?_;rotate_left;(· intro w';go_simp;with_reducible rfl);rotate_left;(· simp only [Act.put,zp1,zp2,zp3,zp4,zp5];rfl)
  refine Sq.pu (v:=?_) (a':=?_) 3 4 (Sq.bl 6 13) (by kernel_rfl) rfl rfl (fun _ _ _ h=>h) (by rfl) ?_ ?_ ?_;rotate_left;(· intro w';go_simp;with_reducible rfl);rotate_left;(· simp only [Act.put,zp1,zp2,zp3,zp4,zp5];rfl)
  refine take_ (i:=1) (N:=some 22) (v:=?_) (a':=?_) (Sq.bl 6 15) rfl rfl (by kernel_rfl) (fun _ _ _ h=>h) (Or.inl ⟨by rfl,?_⟩) hS ?_ ?_;rotate_left;(· rintro w' s0;go_simp;with_reducible rfl);rotate_left;(· simp only [Act.put,zp1,zp2,zp3,zp4,zp5];rfl)
  refine Sq.pu (v:=?_) (a':=?_) 4 5 (Sq.bl 6 31) (by kernel_rfl) rfl rfl (fun _ _ _ h=>h) (by rfl) ?_ ?_ ?_;rotate_left;(· intro w';go_simp;with_reducible rfl);rotate_left;(· simp only [Act.put,zp1,zp2,zp3,zp4,zp5];rfl)
  refine Sq.pu (v:=?_) (a':=?_) 5 6 (Sq.bl 6 63) (by kernel_rfl) rfl rfl (fun _ _ _ h=>h) (by rfl) ?_ ?_ ?_;rotate_left;(· intro w';go_simp;with_reducible rfl);rotate_left;(· simp only [Act.put,zp1,zp2,zp3,zp4,zp5];rfl)
  refine done_ (by kernel_rfl) ?_
  go_wp2
  go_ret3
  exact⟨_,_,rfl,Kd.R_drew HRl.out,Kd.R_drew HRr.out,HB2.out.drew⟩
 ·rw [if_neg hl] at h
  cases h
end Go.Proofs.Ytfnbodjmmkjlcaa.H
end
section
namespace Go.Proofs.Ytfnbodjmmkjlcaa.H
open Go.RowKit Go.Proofs.YtfnbodjmmkjlcaaW.PrintWords Go.Proofs.YtfnbodjmmkjlcaaW.PrintLast Go.Proofs.YtfnbodjmmkjlcaaW.PrintMore
attribute [local go_sem] max2_int min2_int max_two min_two max_three min_three max_four min_four
set_option linter.unusedVariables false
set_option linter.unusedSimpArgs false
attribute [local go_sem high] eqA64
def jalousielaw11_live.f (k:Nat)  :Option (Bool):=(some (([(⟨0,0,0,1,(([(⟨3,(([(⟨(⟨#[120]⟩:ByteArray),false⟩:S66)]:List (S66)))⟩:S47)]:List (S47)))⟩:S44)]:List (S44)):List (S44))).bind fun y481=>((patch_Apply.f k y481 (([(⟨(⟨#[97]⟩:ByteArray),false⟩:S66)]:List (S66)))).bind fun bt487=>((patch_Size.f k y481).bind fun bt494=>(if bt487.2.2=0 then (if (bt487.1.length:Int)=2 then (if 0<(bt487.1.length:Int) then (if ((rd_T66 bt487.1 0).f0).toList=([120]:List UInt8) then (if (bt487.2.1.length:Int)=1 then (if 0<(bt487.2.1.length:Int) then (if (((rd_T64 bt487.2.1 0).f0)==0&&(((rd_T64 bt487.2.1 0).f1)==1))=true then (if bt494.1=1 then (some (bt494.2==0)) else (some false)) else (some false)) else (none)) else (some false)) else (some false)) else (none)) else (some false)) else (some false))))
theorem jalousielaw11_live.mono: ∀k,LeO (jalousielaw11_live.f k ) (jalousielaw11_live.f (k+1) ):=by
 intro  k
 unfold jalousielaw11_live.f
 repeat' first
   | (with_reducible exact patch_Apply.mono _ _ _)
   | (with_reducible exact patch_Size.mono _ _)
   | (with_reducible exact LeO.refl _)
   | (with_reducible exact LeO.none _)
   | (with_reducible refine LeO.ite ?_ ?_)
   | (with_reducible refine LeO.bind ?_ (fun _=>?_))
   | exact patch_Apply.mono _ _ _
   | exact patch_Size.mono _ _
   | exact LeO.none _
   | refine LeO.ite ?_ ?_
   | refine LeO.bind ?_ (fun _=>?_)
set_option maxHeartbeats 8000000 in
set_option maxRecDepth 100000 in
theorem jalousielaw11_live.calls (k:Nat)  (r:Bool) (w:World) (h:jalousielaw11_live.f k  =some r) (HRT:Aside0 (r=true):=by first|exact⟨rfl⟩|assumption):
  Calls Try.prog 32 #[] w fun e w'=>e= .returned (.bool r)∧Below w.heap.size w w':=by
 have hu66:=Try.underlying66
 have hu47:=Try.underlying47
 have hu44:=Try.underlying44
 have hu64:=Try.underlying64
 have HB:=Aside0.mk (Below.refl w.heap.size w)
 have H:((some (([(⟨0,0,0,1,(([(⟨3,(([(⟨(⟨#[120]⟩:ByteArray),false⟩:S66)]:List (S66)))⟩:S47)]:List (S47)))⟩:S44)]:List (S44)):List (S44))).bind fun y481=>((patch_Apply.f k y481 (([(⟨(⟨#[97]⟩:ByteArray),false⟩:S66)]:List (S66)))).bind fun bt487=>((patch_Size.f k y481).bind fun bt494=>(if bt487.2.2=0 then (if (bt487.1.length:Int)=2 then (if 0<(bt487.1.length:Int) then (if ((rd_T66 bt487.1 0).f0).toList=([120]:List UInt8) then (if (bt487.2.1.length:Int)=1 then (if 0<(bt487.2.1.length:Int) then (if (((rd_T64 bt487.2.1 0).f0)==0&&(((rd_T64 bt487.2.1 0).f1)==1))=true then (if bt494.1=1 then (some (bt494.2==0)) else (some false)) else (some false)) else (none)) else (some false)) else (some false)) else (none)) else (some false)) else (some false)))))=some r:=h
 clear h
 obtain⟨y475,hy475⟩: ∃y_:List (S66),y_=(([(⟨(⟨#[120]⟩:ByteArray),false⟩:S66)]:List (S66))):=⟨_,rfl⟩
 replace H:((some (([(⟨0,0,0,1,(([(⟨3,y475⟩:S47)]:List (S47)))⟩:S44)]:List (S44)):List (S44))).bind fun y481=>((patch_Apply.f k y481 (([(⟨(⟨#[97]⟩:ByteArray),false⟩:S66)]:List (S66)))).bind fun bt487=>((patch_Size.f k y481).bind fun bt494=>(if bt487.2.2=0 then (if (bt487.1.length:Int)=2 then (if 0<(bt487.1.length:Int) then (if ((rd_T66 bt487.1 0).f0).toList=([120]:List UInt8) then (if (bt487.2.1.length:Int)=1 then (if 0<(bt487.2.1.length:Int) then (if (((rd_T64 bt487.2.1 0).f0)==0&&(((rd_T64 bt487.2.1 0).f1)==1))=true then (if bt494.1=1 then (some (bt494.2==0)) else (some false)) else (some false)) else (none)) else (some false)) else (some false)) else (none)) else (some false)) else (some false)))))=some r:=by(rw [hy475];with_reducible exact H)
 have Ny475:=Aside0.mk hy475
 clear hy475
 obtain⟨y478,hy478⟩: ∃y_:List (S47),y_=(([(⟨3,y475⟩:S47)]:List (S47))):=⟨_,rfl⟩
 replace H:((some (([(⟨0,0,0,1,y478⟩:S44)]:List (S44)):List (S44))).bind fun y481=>((patch_Apply.f k y481 (([(⟨(⟨#[97]⟩:ByteArray),false⟩:S66)]:List (S66)))).bind fun bt487=>((patch_Size.f k y481).bind fun bt494=>(if bt487.2.2=0 then (if (bt487.1.length:Int)=2 then (if 0<(bt487.1.length:Int) then (if ((rd_T66 bt487.1 0).f0).toList=([120]:List UInt8) then (if (bt487.2.1.length:Int)=1 then (if 0<(bt487.2.1.length:Int) then (if (((rd_T64 bt487.2.1 0).f0)==0&&(((rd_T64 bt487.2.1 0).f1)==1))=true then (if bt494.1=1 then (some (bt494.2==0)) else (some false)) else (some false)) else (none)) else (some false)) else (some false)) else (none)) else (some false)) else (some false)))))=some r:=by(rw [hy478];with_reducible exact H)
 have Ny478:=Aside0.mk hy478
 clear hy478
 obtain⟨y481,hy481⟩: ∃y_:List (S44),y_=(([(⟨0,0,0,1,y478⟩:S44)]:List (S44))):=⟨_,rfl⟩
 replace H:((patch_Apply.f k y481 (([(⟨(⟨#[97]⟩:ByteArray),false⟩:S66)]:List (S66)))).bind fun bt487=>((patch_Size.f k y481).bind fun bt494=>(if bt487.2.2=0 then (if (bt487.1.length:Int)=2 then (if 0<(bt487.1.length:Int) then (if ((rd_T66 bt487.1 0).f0).toList=([120]:List UInt8) then (if (bt487.2.1.length:Int)=1 then (if 0<(bt487.2.1.length:Int) then (if (((rd_T64 bt487.2.1 0).f0)==0&&(((rd_T64 bt487.2.1 0).f1)==1))=true then (if bt494.1=1 then (some (bt494.2==0)) else (some false)) else (some false)) else (none)) else (some false)) else (some false)) else (none)) else (some false)) else (some false))))=some r:=by(have H2_:=(Option.bind_some _ _).symm.trans H;rw [hy481];with_reducible exact H2_)
 have Ny481:=Aside0.mk hy481
 clear hy481
 obtain⟨y484,hy484⟩: ∃y_:List (S66),y_=(([(⟨(⟨#[97]⟩:ByteArray),false⟩:S66)]:List (S66))):=⟨_,rfl⟩
 replace H:((patch_Apply.f k y481 y484).bind fun bt487=>((patch_Size.f k y481).bind fun bt494=>(if bt487.2.2=0 then (if (bt487.1.length:Int)=2 then (if 0<(bt487.1.length:Int) then (if ((rd_T66 bt487.1 0).f0).toList=([120]:List UInt8) then (if (bt487.2.1.length:Int)=1 then (if 0<(bt487.2.1.length:Int) then (if (((rd_T64 bt487.2.1 0).f0)==0&&(((rd_T64 bt487.2.1 0).f1)==1))=true then (if bt494.1=1 then (some (bt494.2==0)) else (some false)) else (some false)) else (none)) else (some false)) else (some false)) else (none)) else (some false)) else (some false))))=some r:=by(rw [hy484];with_reducible exact H)
 have Ny484:=Aside0.mk hy484
 clear hy484
 replace H:=Option.bind_eq_some_iff.mp H
 obtain⟨⟨t487,t488,t489⟩,A10,H⟩:=H
 replace H:((patch_Size.f k y481).bind fun bt494=>(if t489=0 then (if (t487.length:Int)=2 then (if 0<(t487.length:Int) then (if ((rd_T66 t487 0).f0).toList=([120]:List UInt8) then (if (t488.length:Int)=1 then (if 0<(t488.length:Int) then (if (((rd_T64 t488 0).f0)==0&&(((rd_T64 t488 0).f1)==1))=true then (if bt494.1=1 then (some (bt494.2==0)) else (some false)) else (some false)) else (none)) else (some false)) else (some false)) else (none)) else (some false)) else (some false)))=some r:=H
 have A1:=Aside0.mk A10
 clear A10
 replace H:=Option.bind_eq_some_iff.mp H
 obtain⟨⟨t494,t495⟩,A20,H⟩:=H
 replace H:(if t489=0 then (if (t487.length:Int)=2 then (if 0<(t487.length:Int) then (if ((rd_T66 t487 0).f0).toList=([120]:List UInt8) then (if (t488.length:Int)=1 then (if 0<(t488.length:Int) then (if (((rd_T64 t488 0).f0)==0&&(((rd_T64 t488 0).f1)==1))=true then (if t494=1 then (some (t495==0)) else (some false)) else (some false)) else (none)) else (some false)) else (some false)) else (none)) else (some false)) else (some false))=some r:=H
 have A2:=Aside0.mk A20
 clear A20
 by_cases c3:t489=0
 ·rw [if_pos c3] at H
  have c3b0:(t489==0)=true:=beq_iff_eq.mpr c3
  have c3b1:(t489 != 0)=false:=bne_eq_false_iff_eq.mpr c3
  clear c3
  by_cases c4:(t487.length:Int)=2
  ·rw [if_pos c4] at H
   have c4b0:((t487.length:Int)==2)=true:=beq_iff_eq.mpr c4
   have c4b1:((t487.length:Int) != 2)=false:=bne_eq_false_iff_eq.mpr c4
   clear c4
   by_cases c5:0<(t487.length:Int)
   ·rw [if_pos c5] at H
    have c5b0:decide (0<(t487.length:Int))=true:=decide_eq_true c5
    have c5b1:decide (0<t487.length)=true:=decide_eq_true (by omega)
    clear c5
    by_cases c6:((rd_T66 t487 0).f0).toList=([120]:List UInt8)
    ·rw [if_pos c6] at H
     have c6b0:(((rd_T66 t487 0).f0).toList==([120]:List UInt8))=true:=beq_iff_eq.mpr c6
     have c6b1:(((rd_T66 t487 0).f0).toList != ([120]:List UInt8))=false:=bne_eq_false_iff_eq.mpr c6
     clear c6
     by_cases c7:(t488.length:Int)=1
     ·rw [if_pos c7] at H
      have c7b0:((t488.length:Int)==1)=true:=beq_iff_eq.mpr c7
      have c7b1:((t488.length:Int) != 1)=false:=bne_eq_false_iff_eq.mpr c7
      clear c7
      by_cases c8:0<(t488.length:Int)
      ·rw [if_pos c8] at H
       have c8b0:decide (0<(t488.length:Int))=true:=decide_eq_true c8
       have c8b1:decide (0<t488.length)=true:=decide_eq_true (by omega)
       clear c8
       by_cases c9:(((rd_T64 t488 0).f0)==0&&(((rd_T64 t488 0).f1)==1))=true
       ·rw [if_pos c9] at H
        have c9b0:(((rd_T64 t488 0).f0)==0&&(((rd_T64 t488 0).f1)==1))=true:=c9
        (try(have c9b1:decide (((rd_T64 t488 0).f0)=0&&(((rd_T64 t488 0).f1)==1))=true:=by simpa using c9))
        (try(have c9b2:(((rd_T64 t488 0).f0)==0&&(((rd_T64 t488 0).f1)==1))=true:=by simpa using c9))
        clear c9
        by_cases c10:t494=1
        ·rw [if_pos c10] at H
         have c10b0:(t494==1)=true:=beq_iff_eq.mpr c10
         have c10b1:(t494 != 1)=false:=bne_eq_false_iff_eq.mpr c10
         clear c10
         obtain rfl:=Option.some.inj H
         go_enter Try.func32,Try.ntmps32
         go_wp2_with(first|((with_reducible refine gate_dst (N:=8) rfl ?_);(try(refine gate_guard (by rfl) ?_;dsimp only));refine Kd.R_lit k66 _ 66 ?hg (N:=8) ?hd (xs:=([(⟨(⟨#[120]⟩:ByteArray),false⟩:S66)]:List (S66))) (inner:= [.string (⟨#[120]⟩:ByteArray), .bool false]) (ok:=fun _=>True) (okp:=fun _=>True) ?hr ?hp (fun _ hk=>hk) trivial (Below.refl _ _) (Nat.le_refl _) (by simp) ?_;(case hd=>rfl);(case hg=>rfl);(case hr=>(go_simp;done));(case hp=>exact(Reps.c2 (show Kd.M k66 _ _ _ (⟨(⟨#[120]⟩:ByteArray),false⟩:S66) [.string (⟨#[120]⟩:ByteArray), .bool false] from(k66_mkM _ _ _ (⟨(⟨#[120]⟩:ByteArray),false⟩:S66) )) (Reps.none _ _)));intro v476 w11 ho12 hb hg_ hnew_;clear hg_ hnew_;(rw [← Ny475.out] at ho12);have n0_:=Aside0.mk (Kd.R_lower ho12 (below_size (by repeat((with_reducible exact HB.out)))));have n1_:=Aside0.mk (below_step (by repeat((with_reducible exact HB.out))) hb);clear HB;have HO477:=n0_;have HB:=n1_;clear n0_ n1_;clear hb ho12;obtain⟨Ao13,co13,eo13⟩:=Kd.R_slice HO477.out;subst eo13)|((with_reducible refine gate_dst (N:=10) rfl ?_);(try(refine gate_guard (by rfl) ?_;dsimp only));refine Kd.N_lit k47 _ 47 ?hg (N':=10) ?hd (xs:=([(⟨3,y475⟩:S47)]:List (S47))) (inner:= [.int .i64 3, .slice Ao13 y475.length co13]) (ok:=(fun _=>True)) (okp:=(fun _=>True)) ?hr ?hp (fun _ hk=>hk) ((show ∀k_,w11.heap.size≤k_→(fun _=>True) k_ from fun k_ hk=>trivial) _ (Nat.le_refl _)) (Below.refl _ _) (Nat.le_refl _) (by simp) ?_;(case hd=>rfl);(case hg=>rfl);(case hr=>(go_simp;done));(case hp=>exact(Reps.c2 (show Kd.FK k47 _ _ (⟨3,y475⟩:S47) [.int .i64 3, .slice Ao13 y475.length co13] from(k47_mkF _ _ (⟨3,y475⟩:S47) (Kd.R_reads' (Kd.R_mono (ok':=(fun _=>True)) (HO477.out) (fun k_ hk=>trivial))).2.1 (Kd.R_F (Kd.R_mono (ok':=(fun _=>True)) (HO477.out) (fun k_ hk=>trivial))))) (Reps.none _ _)));intro v479 w14 ho15 hb hg_ hnew_;clear hg_ hnew_;(rw [← Ny478.out] at ho15);have n0_:=Aside0.mk (Kd.N_lower ho15 (below_size (by repeat((with_reducible exact HB.out)))));have n1_:=Aside0.mk (below_step (by repeat((with_reducible exact HB.out))) hb);clear HB;clear HO477;have HO480:=n0_;have HB:=n1_;clear n0_ n1_;clear hb ho15;obtain⟨Ao16,co16,eo16⟩:=Kd.N_slice HO480.out;subst eo16)|((with_reducible refine gate_dst (N:=12) rfl ?_);(try(refine gate_guard (by rfl) ?_;dsimp only));refine Kd.N_lit k44 _ 44 ?hg (N':=12) ?hd (xs:=([(⟨0,0,0,1,y478⟩:S44)]:List (S44))) (inner:= [.int .i64 0, .int .i64 0, .int .i64 0, .int .i64 1, .slice Ao16 y478.length co16]) (ok:=(fun _=>True)) (okp:=(fun _=>True)) ?hr ?hp (fun _ hk=>hk) ((show ∀k_,w14.heap.size≤k_→(fun _=>True) k_ from fun k_ hk=>trivial) _ (Nat.le_refl _)) (Below.refl _ _) (Nat.le_refl _) (by simp) ?_;(case hd=>rfl);(case hg=>rfl);(case hr=>(go_simp;done));(case hp=>exact(Reps.c5 (show Kd.FK k44 _ _ (⟨0,0,0,1,y478⟩:S44) [.int .i64 0, .int .i64 0, .int .i64 0, .int .i64 1, .slice Ao16 y478.length co16] from(k44_mkF _ _ (⟨0,0,0,1,y478⟩:S44) (Kd.N_reads' (Kd.N_mono (ok':=(fun _=>True)) (HO480.out) (fun k_ hk=>trivial))).2.1 (Kd.N_F (Kd.N_mono (ok':=(fun _=>True)) (HO480.out) (fun k_ hk=>trivial))))) (Reps.none _ _)));intro v482 w17 ho18 hb hg_ hnew_;clear hg_ hnew_;(rw [← Ny481.out] at ho18);have n0_:=Aside0.mk (Kd.N_lower ho18 (below_size (by repeat((with_reducible exact HB.out)))));have n1_:=Aside0.mk (below_step (by repeat((with_reducible exact HB.out))) hb);clear HB;clear HO480;have HO483:=n0_;have HB:=n1_;clear n0_ n1_;clear hb ho18)|((with_reducible refine gate_dst (N:=16) rfl ?_);(try(refine gate_guard (by rfl) ?_;dsimp only));refine Kd.R_lit k66 _ 66 ?hg (N:=16) ?hd (xs:=([(⟨(⟨#[97]⟩:ByteArray),false⟩:S66)]:List (S66))) (inner:= [.string (⟨#[97]⟩:ByteArray), .bool false]) (ok:=fun _=>True) (okp:=fun _=>True) ?hr ?hp (fun _ hk=>hk) trivial (Below.refl _ _) (Nat.le_refl _) (by simp) ?_;(case hd=>rfl);(case hg=>rfl);(case hr=>(go_simp;done));(case hp=>exact(Reps.c2 (show Kd.M k66 _ _ _ (⟨(⟨#[97]⟩:ByteArray),false⟩:S66) [.string (⟨#[97]⟩:ByteArray), .bool false] from(k66_mkM _ _ _ (⟨(⟨#[97]⟩:ByteArray),false⟩:S66) )) (Reps.none _ _)));intro v485 w19 ho20 hb hg_ hnew_;clear hg_ hnew_;(rw [← Ny484.out] at ho20);have n0_:=Aside0.mk (Kd.N_elder' (by exact HO483.out) (Kd.R_base ho20) hb);have n1_:=Aside0.mk (Kd.R_lower ho20 (below_size (by repeat((with_reducible exact HB.out)))));have n2_:=Aside0.mk (below_step (by repeat((with_reducible exact HB.out))) hb);clear HO483;clear HB;have HO483:=n0_;have HO486:=n1_;have HB:=n2_;clear n0_ n1_ n2_;clear hb ho20;obtain⟨Ao21,co21,eo21⟩:=Kd.N_slice HO483.out;subst eo21;obtain⟨Ao22,co22,eo22⟩:=Kd.R_slice HO486.out;subst eo22)|((with_reducible refine gate_callee (f:=28) rfl ?_);refine goesL_ (some 17) rfl rfl Try.func28 (by kernel_rfl) rfl #[.slice Ao21 y481.length co21, .slice Ao22 y484.length co22] rfl (by(try simp only [List.map_toArray,List.map_cons,List.map_nil]);rfl) ?_;(with_reducible refine(patch_Apply.calls k _ _ y481 _ _ y484 t487 t488 t489 _ ?side1 ?side2 ?side3 ?side4 A1.out).mono ?_);(case side1=>repeat(exact(Kd.N_reads' HO483.out).2.2));(case side2=>exact(Kd.N_reads' HO483.out).2.1);(case side3=>repeat(exact(Kd.R_reads' HO486.out).2.2));(case side4=>exact(Kd.R_reads' HO486.out).2.1);rintro e w23 ⟨v490,v492,rfl,ho0,ho1,hb⟩;refine⟨_,rfl,?_⟩;have n0_:=Aside0.mk (Kd.N_mono (Kd.N_told (Kd.N_told (Kd.N_old (by exact HO483.out) hb) (Kd.R_base ho0)) (Kd.R_base ho1)) (fun _ h_=>h_.1));have n1_:=Aside0.mk (Kd.R_elder' (by exact HO486.out) (Kd.R_base ho0) hb);have n2_:=Aside0.mk (Kd.R_lower (Kd.R_new' ho0 (Kd.R_lt (by exact HO486.out))) (below_size (by repeat((with_reducible exact HB.out)))));have n3_:=Aside0.mk (Kd.R_lower ho1 (below_size (by repeat((with_reducible exact HB.out)))));have n4_:=Aside0.mk (below_step (by repeat((with_reducible exact HB.out))) hb);clear HO483;clear HO486;clear HB;have HO483:=n0_;have HO486:=n1_;have HO491:=n2_;have HO493:=n3_;have HB:=n4_;clear n0_ n1_ n2_ n3_ n4_;(try clear hb);(try clear ho0);(try clear ho1))|((with_reducible refine gate_callee (f:=40) rfl ?_);refine goesL_ (some 23) rfl rfl Try.func40 (by kernel_rfl) rfl #[.slice Ao21 y481.length co21] rfl (by(try simp only [List.map_toArray,List.map_cons,List.map_nil]);rfl) ?_;(with_reducible refine(patch_Size.calls k _ _ y481 t494 t495 _ ?side1 ?side2 A2.out).mono ?_);(case side1=>repeat(exact(Kd.N_reads' HO483.out).2.2));(case side2=>exact(Kd.N_reads' HO483.out).2.1);rintro e w24 ⟨rfl,hb⟩;refine⟨_,rfl,?_⟩;have n0_:=Aside0.mk (Kd.N_below (by exact HO483.out) hb);have n1_:=Aside0.mk (Kd.R_below (by exact HO486.out) hb);have n2_:=Aside0.mk (Kd.R_below (by exact HO491.out) hb);have n3_:=Aside0.mk (Kd.R_below (by exact HO493.out) hb);have n4_:=Aside0.mk (below_step (by repeat((with_reducible exact HB.out))) hb);clear HO483;clear HO486;clear HO491;clear HO493;clear HB;have HO483:=n0_;have HO486:=n1_;have HO491:=n2_;have HO493:=n3_;have HB:=n4_;clear n0_ n1_ n2_ n3_ n4_;(try clear hb);obtain⟨Ao25,co25,eo25⟩:=Kd.R_slice HO491.out;subst eo25;have p496:0≤(0:Int):=(by omega);have q496:0<(t487.length:Int):=of_decide_eq_true (by(with_reducible assumption));obtain⟨ad496,e496,hx496_0,hx496_1⟩:=at_T66 (Kd.R_reads' HO491.out).2.2 0 p496 q496;cases e496;have qi496:(0<t487.length)=True:=eq_true (by omega);(try rw [show((0:Int)).toNat=0 from rfl] at hx496_0);(try rw [show 0*2=0 from rfl] at hx496_0);(try rw [Addr.add_zero'] at hx496_0);(try rw [show((0:Int)).toNat=0 from rfl] at hx496_1);(try rw [show 0*2=0 from rfl] at hx496_1);(try rw [Addr.add_zero'] at hx496_1);replace p496:=eq_true p496;replace q496:=eq_true q496;obtain⟨Ao26,co26,eo26⟩:=Kd.R_slice HO493.out;subst eo26;have p497:0≤(0:Int):=(by omega);have q497:0<(t488.length:Int):=of_decide_eq_true (by(with_reducible assumption));obtain⟨ad497,e497,hx497_0,hx497_1⟩:=at_T64 (Kd.R_reads' HO493.out).2.2 0 p497 q497;cases e497;have qi497:(0<t488.length)=True:=eq_true (by omega);(try rw [show((0:Int)).toNat=0 from rfl] at hx497_0);(try rw [show 0*2=0 from rfl] at hx497_0);(try rw [Addr.add_zero'] at hx497_0);(try rw [show((0:Int)).toNat=0 from rfl] at hx497_1);(try rw [show 0*2=0 from rfl] at hx497_1);(try rw [Addr.add_zero'] at hx497_1);replace p497:=eq_true p497;replace q497:=eq_true q497))
         go_ret
         exact⟨by rfl,by repeat((with_reducible exact HB.out))⟩
        ·rw [if_neg c10] at H
         have c10b0:(t494==1)=false:=beq_eq_false_iff_ne.mpr c10
         have c10b1:(t494 != 1)=true:=bne_iff_ne.mpr c10
         exact absurd (Option.some.inj (H.trans (congrArg some HRT.out))) (by decide)
       ·rw [if_neg c9] at H
        have c9b0:(((rd_T64 t488 0).f0)==0&&(((rd_T64 t488 0).f1)==1))=false:=by simpa using c9
        (try(have c9b1:decide (((rd_T64 t488 0).f0)=0&&(((rd_T64 t488 0).f1)==1))=false:=by simpa using c9))
        (try(have c9b2:(((rd_T64 t488 0).f0)==0&&(((rd_T64 t488 0).f1)==1))=false:=by simpa using c9))
        (try(have c9b3: ¬(((rd_T64 t488 0).f0)=0&&(((rd_T64 t488 0).f1)==1)):=by simpa using c9))
        clear c9
        exact absurd (Option.some.inj (H.trans (congrArg some HRT.out))) (by decide)
      ·rw [if_neg c8] at H
       exact absurd H (by simp)
     ·rw [if_neg c7] at H
      have c7b0:((t488.length:Int)==1)=false:=beq_eq_false_iff_ne.mpr c7
      have c7b1:((t488.length:Int) != 1)=true:=bne_iff_ne.mpr c7
      exact absurd (Option.some.inj (H.trans (congrArg some HRT.out))) (by decide)
    ·rw [if_neg c6] at H
     have c6b0:(((rd_T66 t487 0).f0).toList==([120]:List UInt8))=false:=beq_eq_false_iff_ne.mpr c6
     have c6b1:(((rd_T66 t487 0).f0).toList != ([120]:List UInt8))=true:=bne_iff_ne.mpr c6
     exact absurd (Option.some.inj (H.trans (congrArg some HRT.out))) (by decide)
   ·rw [if_neg c5] at H
    exact absurd H (by simp)
  ·rw [if_neg c4] at H
   have c4b0:((t487.length:Int)==2)=false:=beq_eq_false_iff_ne.mpr c4
   have c4b1:((t487.length:Int) != 2)=true:=bne_iff_ne.mpr c4
   exact absurd (Option.some.inj (H.trans (congrArg some HRT.out))) (by decide)
 ·rw [if_neg c3] at H
  have c3b0:(t489==0)=false:=beq_eq_false_iff_ne.mpr c3
  have c3b1:(t489 != 0)=true:=bne_iff_ne.mpr c3
  exact absurd (Option.some.inj (H.trans (congrArg some HRT.out))) (by decide)
end Go.Proofs.Ytfnbodjmmkjlcaa.H
end
section
namespace Go.Proofs.Ytfnbodjmmkjlcaa.H
open Go.RowKit Go.Proofs.YtfnbodjmmkjlcaaW.PrintWords Go.Proofs.YtfnbodjmmkjlcaaW.PrintLast Go.Proofs.YtfnbodjmmkjlcaaW.PrintMore
attribute [local go_sem] max2_int min2_int max_two min_two max_three min_three max_four min_four
set_option linter.unusedVariables false
set_option linter.unusedSimpArgs false
attribute [local go_sem high] eqA66
mutual
def jalousieref06_Numbers.l0:Nat→List (List (S66))→List (S66)→List (List Int)→Int→Option ((List (List Int)))
 | 0,_,_,_,_=>none
 | k+1,x0,x3,x4,x5=>if x5<(x0.length:Int) then (jalousieref06_Numbers.l1 k x0 x3 x4 x5 (([]:List Int)) 0) else (some x4)
def jalousieref06_Numbers.l1:Nat→List (List (S66))→List (S66)→List (List Int)→Int→List Int→Int→Option ((List (List Int)))
 | 0,_,_,_,_,_,_=>none
 | k+1,x0,x3,x4,x5,x6,x7=>if 0≤x5 then (if x5<(x0.length:Int) then (if x7<((rd_L4 x0 x5).length:Int) then (jalousieref06_Numbers.l2 k x0 x3 x4 x5 x6 x7 0) else (if x4.length<5864062014805 then (jalousieref06_Numbers.l0 k x0 x3 (x4++ [x6]) (wrap64 (x5+1))) else (none))) else (none)) else (none)
def jalousieref06_Numbers.l2:Nat→List (List (S66))→List (S66)→List (List Int)→Int→List Int→Int→Int→Option ((List (List Int)))
 | 0,_,_,_,_,_,_,_=>none
 | k+1,x0,x3,x4,x5,x6,x7,x8=>if x8<(x3.length:Int) then (if 0≤x8 then (if 0≤x5 then (if x5<(x0.length:Int) then (if 0≤x7 then (if x7<((rd_L4 x0 x5).length:Int) then (if (!((((rd_T66 x3 x8).f0).toList)==(((rd_T66 (rd_L4 x0 x5) x7).f0).toList))||(!(((rd_T66 x3 x8).f1)==((rd_T66 (rd_L4 x0 x5) x7).f1))))=true then (jalousieref06_Numbers.l2 k x0 x3 x4 x5 x6 x7 (wrap64 (x8+1))) else (if x8=(x3.length:Int) then (if x3.length<5864062014805 then (if x6.length<17592186044416 then (jalousieref06_Numbers.l1 k x0 (x3++ [(⟨(rd_T66 (rd_L4 x0 x5) x7).f0,(rd_T66 (rd_L4 x0 x5) x7).f1⟩:S66)]) x4 x5 (x6++ [x8]) (wrap64 (x7+1))) else (none)) else (none)) else (if x6.length<17592186044416 then (jalousieref06_Numbers.l1 k x0 x3 x4 x5 (x6++ [x8]) (wrap64 (x7+1))) else (none)))) else (none)) else (none)) else (none)) else (none)) else (none)) else (if x8=(x3.length:Int) then (if 0≤x5 then (if x5<(x0.length:Int) then (if 0≤x7 then (if x7<((rd_L4 x0 x5).length:Int) then (if x3.length<5864062014805 then (if x6.length<17592186044416 then (jalousieref06_Numbers.l1 k x0 (x3++ [(⟨(rd_T66 (rd_L4 x0 x5) x7).f0,(rd_T66 (rd_L4 x0 x5) x7).f1⟩:S66)]) x4 x5 (x6++ [x8]) (wrap64 (x7+1))) else (none)) else (none)) else (none)) else (none)) else (none)) else (none)) else (if x6.length<17592186044416 then (jalousieref06_Numbers.l1 k x0 x3 x4 x5 (x6++ [x8]) (wrap64 (x7+1))) else (none)))
end
def jalousieref06_Numbers.f (k:Nat) (l0:List (List (S66))):Option ((List (List Int))):=jalousieref06_Numbers.l0 k l0 (([]:List (S66))) (([]:List (List Int))) 0
set_option maxHeartbeats 8000000 in
set_option maxRecDepth 100000 in
theorem jalousieref06_Numbers.calls (k:Nat) (A0:Option Addr) (c0:Nat) (l0:List (List (S66))) (r:List (List Int)) (w:World) (hr0:Kd.C (Kd.slice 66 k66) w A0 l0.length l0) (hc0:l0.length≤c0) (h:jalousieref06_Numbers.f k l0=some r):
  Calls Try.prog 63 #[.slice A0 l0.length c0] w fun e w'=> ∃v0_:Value,e= .returned (v0_)∧Kd.S (Kd.slice 3 (Kd.int .i64)) 53 w' w.heap.size (fun _=>True) v0_ r∧Below w.heap.size w w':=by
 have hu66:=Try.underlying66
 have HR0:=Aside0.mk hr0
 have HC0:=Aside0.mk hc0
 clear hr0 hc0
 have HB:=Aside0.mk (Below.refl w.heap.size w)
 have H:(jalousieref06_Numbers.l0 k l0 (([]:List (S66))) (([]:List (List Int))) 0)=some r:=h
 clear h
 obtain⟨y587,hy587⟩: ∃y_:List (S66),y_=(([]:List (S66))):=⟨_,rfl⟩
 replace H:(jalousieref06_Numbers.l0 k l0 y587 (([]:List (List Int))) 0)=some r:=by(rw [hy587];with_reducible exact H)
 have Ny587:=Aside0.mk hy587
 clear hy587
 obtain⟨y590,hy590⟩: ∃y_:List (List Int),y_=(([]:List (List Int))):=⟨_,rfl⟩
 replace H:(jalousieref06_Numbers.l0 k l0 y587 y590 0)=some r:=by(rw [hy590];with_reducible exact H)
 have Ny590:=Aside0.mk hy590
 clear hy590
 have H':=Aside0.mk H
 clear H
 go_enter Try.func63,Try.ntmps63
 go_wp2_with(first|((with_reducible refine gate_dst (N:=9) rfl ?_);refine Kd.R_lit k66 _ 66 ?hg (N:=9) ?hd (xs:=([]:List (S66))) (inner:= []) (ok:=fun _=>True) (okp:=fun _=>True) ?hr ?hp (fun _ hk=>hk) trivial (Below.refl _ _) (Nat.le_refl _) (by simp) ?_;(case hd=>rfl);(case hg=>rfl);(case hr=>(go_simp;done));(case hp=>exact(Reps.none _ _));intro v588 w2 ho3 hb hg_ hnew_;clear hg_ hnew_;(rw [← Ny587.out] at ho3);have n0_:=Aside0.mk (Kd.R_lower ho3 (below_size (by repeat((with_reducible exact HB.out)))));have n1_:=Aside0.mk (below_step (by repeat((with_reducible exact HB.out))) hb);clear HB;have HO589:=n0_;have HB:=n1_;clear n0_ n1_;clear hb ho3)|((with_reducible refine gate_dst (N:=10) rfl ?_);refine Kd.S_lit (Kd.slice 3 (Kd.int .i64)) _ 53 ?hg (N:=10) ?hd (xs:=([]:List (List Int))) (inner:= []) (ok:=fun _=>True) (okp:=fun _=>True) ?hr ?hp (fun _ hk=>hk) trivial (Below.refl _ _) (Nat.le_refl _) (by simp) ?_;(case hd=>rfl);(case hg=>rfl);(case hr=>(go_simp;done));(case hp=>exact(Reps.none _ _));intro v591 w4 ho5 hb hg_ hnew_;clear hg_ hnew_;(rw [← Ny590.out] at ho5);have n0_:=Aside0.mk (Kd.R_below (by exact HO589.out) hb);have n1_:=Aside0.mk (Kd.S_lower ho5 (below_size (by repeat((with_reducible exact HB.out)))));have n2_:=Aside0.mk (below_step (by repeat((with_reducible exact HB.out))) hb);clear HO589;clear HB;have HO589:=n0_;have HO592:=n1_;have HB:=n2_;clear n0_ n1_ n2_;clear hb ho5))
 go_loopg [3,4,5] k (fun kq v3 v4 v5 w'=> ∃(x3_1:List (S66)) (x4_1:List (List Int)) (x5_1:Int),v5= .int .i64 x5_1∧Aside0 (jalousieref06_Numbers.l0 kq l0 x3_1 x4_1 x5_1=some r)∧Aside0 (kq≤k)∧Aside0 (Kd.R k66 66 w' w.heap.size (fun _=>True) v3 x3_1)∧Aside0 (Kd.S (Kd.slice 3 (Kd.int .i64)) 53 w' w.heap.size (fun _=>True) v4 x4_1)∧Aside0 (Below w.heap.size w w'))
 case atStart=>exact⟨(y587),(y590),(0),(by rfl),H',⟨Nat.le_refl _⟩,⟨by exact HO589.out⟩,⟨by exact HO592.out⟩,⟨by repeat((with_reducible exact HB.out))⟩⟩
 case round=>
  clear H'
  obtain⟨x3_1,x4_1,x5_1,rfl,HA,HK1,HO_3,HO_4,HB⟩:=hrel
  cases gk with
  | zero=>exact absurd HA.out (by simp [jalousieref06_Numbers.l0])
  | succ k1=>
   have H:=HA.out
   clear HA
   simp only [jalousieref06_Numbers.l0] at H
   by_cases c6:x5_1<(l0.length:Int)
   ·rw [if_pos c6] at H
    have c6b0:decide (x5_1<(l0.length:Int))=true:=decide_eq_true c6
    clear c6
    obtain⟨y593,hy593⟩: ∃y_:List Int,y_=(([]:List Int)):=⟨_,rfl⟩
    replace H:(jalousieref06_Numbers.l1 k1 l0 x3_1 x4_1 x5_1 y593 0)=some r:=by(rw [hy593];with_reducible exact H)
    have Ny593:=Aside0.mk hy593
    clear hy593
    have H':=Aside0.mk H
    clear H
    go_wp2_with(((with_reducible refine gate_dst (N:=17) rfl ?_);refine Kd.R_lit (Kd.int .i64) _ 3 ?hg (N:=17) ?hd (xs:=([]:List Int)) (inner:= []) (ok:=fun _=>True) (okp:=fun _=>True) ?hr ?hp (fun _ hk=>hk) trivial (Below.refl _ _) (Nat.le_refl _) (by simp) ?_;(case hd=>rfl);(case hg=>rfl);(case hr=>(go_simp;done));(case hp=>exact(Reps.none _ _));intro v594 w7 ho8 hb hg_ hnew_;clear hg_ hnew_;(rw [← Ny593.out] at ho8);have n0_:=Aside0.mk (Kd.R_below (by exact HO_3.out) hb);have n1_:=Aside0.mk (Kd.S_elder' (by exact HO_4.out) (Kd.R_base ho8) hb);have n2_:=Aside0.mk (Kd.R_lower ho8 (below_size (by repeat((with_reducible exact HB.out)))));have n3_:=Aside0.mk (below_step (by repeat((with_reducible exact HB.out))) hb);clear HO_3;clear HO_4;clear HB;have HO_3:=n0_;have HO_4:=n1_;have HO595:=n2_;have HB:=n3_;clear n0_ n1_ n2_ n3_;clear hb ho8))
    go_loopg [3,6,7] k1 (fun kq v3 v6 v7 w'=> ∃(x3_2:List (S66)) (x6_2:List Int) (x7_2:Int),v7= .int .i64 x7_2∧Aside0 (jalousieref06_Numbers.l1 kq l0 x3_2 x4_1 x5_1 x6_2 x7_2=some r)∧Aside0 (kq≤k1)∧Aside0 (Kd.R k66 66 w' w.heap.size (fun _=>True) v3 x3_2)∧Aside0 (Kd.S (Kd.slice 3 (Kd.int .i64)) 53 w' w.heap.size (fun k_=>some k_≠(v6:Value).ownBlock) u4 x4_1)∧Aside0 (Kd.R (Kd.int .i64) 3 w' w.heap.size (fun _=>True) v6 x6_2)∧Aside0 (Below w.heap.size w w'))
    case atStart=>exact⟨(x3_1),(y593),(0),(by rfl),H',⟨Nat.le_refl _⟩,⟨by exact HO_3.out⟩,⟨by exact Kd.S_mono HO_4.out (fun _ hk=>hk.2)⟩,⟨by exact HO595.out⟩,⟨by repeat((with_reducible exact HB.out))⟩⟩
    case round=>
     clear H'
     try clear c6b0
     obtain⟨x3_2,x6_2,x7_2,rfl,HA,HK2,HO_3,HO_4,HO_6,HB⟩:=hrel
     cases gk with
     | zero=>exact absurd HA.out (by simp [jalousieref06_Numbers.l1])
     | succ k2=>
      have H:=HA.out
      clear HA
      simp only [jalousieref06_Numbers.l1] at H
      by_cases c9:0≤x5_1
      ·rw [if_pos c9] at H
       have c9b0:decide (0≤x5_1)=true:=decide_eq_true c9
       clear c9
       by_cases c10:x5_1<(l0.length:Int)
       ·rw [if_pos c10] at H
        have c10b0:decide (x5_1<(l0.length:Int))=true:=decide_eq_true c10
        clear c10
        by_cases c11:x7_2<((rd_L4 l0 x5_1).length:Int)
        ·rw [if_pos c11] at H
         have c11b0:decide (x7_2<((rd_L4 l0 x5_1).length:Int))=true:=decide_eq_true c11
         clear c11
         have H':=Aside0.mk H
         clear H
         have p596:0≤(x5_1:Int):=of_decide_eq_true (by(with_reducible assumption))
         have q596:x5_1<(l0.length:Int):=of_decide_eq_true (by(with_reducible assumption))
         obtain⟨ad596,A596_0,c596_0,e596,hx596_0,hl596_0,hi596_0⟩:=at_L4 HR0.out x5_1 p596 q596
         cases e596
         replace hx596_0:=(HB.out.cell (World.block_lt_of_cell? w _ hx596_0)).trans hx596_0
         have HR596_0:=Aside0.mk hi596_0
         have HC596_0:=Aside0.mk hl596_0
         clear hi596_0 hl596_0
         replace p596:=eq_true p596
         replace q596:=eq_true q596
         go_wp2
         go_loopg [8] k2 (fun kq v8 w'=> ∃(x8_3:Int),v8= .int .i64 x8_3∧Aside0 (jalousieref06_Numbers.l2 kq l0 x3_2 x4_1 x5_1 x6_2 x7_2 x8_3=some r)∧Aside0 (kq≤k2)∧Aside0 (Kd.R k66 66 w' w.heap.size (fun _=>True) u3 x3_2)∧Aside0 (Kd.S (Kd.slice 3 (Kd.int .i64)) 53 w' w.heap.size (fun k_=>some k_≠(u6:Value).ownBlock) u4 x4_1)∧Aside0 (Kd.R (Kd.int .i64) 3 w' w.heap.size (fun _=>True) u6 x6_2)∧Aside0 (Below w.heap.size w w'))
         case atStart=>exact⟨(0),(by rfl),H',⟨Nat.le_refl _⟩,⟨by exact HO_3.out⟩,⟨by exact HO_4.out⟩,⟨by exact HO_6.out⟩,⟨by repeat((with_reducible exact HB.out))⟩⟩
         case round=>
          clear H'
          try clear c9b0
          try clear c10b0
          try clear c11b0
          try clear hx596_0
          try clear p596
          try clear q596
          obtain⟨x8_3,rfl,HA,HK3,HO_3,HO_4,HO_6,HB⟩:=hrel
          cases gk with
          | zero=>exact absurd HA.out (by simp [jalousieref06_Numbers.l2])
          | succ k3=>
           have H:=HA.out
           clear HA
           simp only [jalousieref06_Numbers.l2] at H
           by_cases c12:x8_3<(x3_2.length:Int)
           ·rw [if_pos c12] at H
            have c12b0:decide (x8_3<(x3_2.length:Int))=true:=decide_eq_true c12
            clear c12
            by_cases c13:0≤x8_3
            ·rw [if_pos c13] at H
             have c13b0:decide (0≤x8_3)=true:=decide_eq_true c13
             clear c13
             by_cases c14:0≤x5_1
             ·rw [if_pos c14] at H
              have c14b0:decide (0≤x5_1)=true:=decide_eq_true c14
              clear c14
              by_cases c15:x5_1<(l0.length:Int)
              ·rw [if_pos c15] at H
               have c15b0:decide (x5_1<(l0.length:Int))=true:=decide_eq_true c15
               clear c15
               by_cases c16:0≤x7_2
               ·rw [if_pos c16] at H
                have c16b0:decide (0≤x7_2)=true:=decide_eq_true c16
                clear c16
                by_cases c17:x7_2<((rd_L4 l0 x5_1).length:Int)
                ·rw [if_pos c17] at H
                 have c17b0:decide (x7_2<((rd_L4 l0 x5_1).length:Int))=true:=decide_eq_true c17
                 clear c17
                 by_cases c18:(!((((rd_T66 x3_2 x8_3).f0).toList)==(((rd_T66 (rd_L4 l0 x5_1) x7_2).f0).toList))||(!(((rd_T66 x3_2 x8_3).f1)==((rd_T66 (rd_L4 l0 x5_1) x7_2).f1))))=true
                 ·rw [if_pos c18] at H
                  have c18b0:(!((((rd_T66 x3_2 x8_3).f0).toList)==(((rd_T66 (rd_L4 l0 x5_1) x7_2).f0).toList))||(!(((rd_T66 x3_2 x8_3).f1)==((rd_T66 (rd_L4 l0 x5_1) x7_2).f1))))=true:=c18
                  clear c18
                  have H':=Aside0.mk H
                  clear H
                  obtain⟨Ao19,co19,eo19⟩:=Kd.R_slice HO_3.out
                  subst eo19
                  have p600:0≤(x8_3:Int):=of_decide_eq_true (by(with_reducible assumption))
                  have q600:x8_3<(x3_2.length:Int):=of_decide_eq_true (by(with_reducible assumption))
                  obtain⟨ad600,e600,hx600_0,hx600_1⟩:=at_T66 (Kd.R_reads' HO_3.out).2.2 x8_3 p600 q600
                  cases e600
                  replace p600:=eq_true p600
                  replace q600:=eq_true q600
                  have p601:0≤(x5_1:Int):=of_decide_eq_true (by(with_reducible assumption))
                  have q601:x5_1<(l0.length:Int):=of_decide_eq_true (by(with_reducible assumption))
                  obtain⟨ad601,A601_0,c601_0,e601,hx601_0,hl601_0,hi601_0⟩:=at_L4 HR0.out x5_1 p601 q601
                  obtain rfl:ad596=ad601:=(by injection e601)
                  replace hx601_0:=(HB.out.cell (World.block_lt_of_cell? w _ hx601_0)).trans hx601_0
                  have HR601_0:=Aside0.mk hi601_0
                  have HC601_0:=Aside0.mk hl601_0
                  clear hi601_0 hl601_0
                  replace p601:=eq_true p601
                  replace q601:=eq_true q601
                  have p602:0≤(x7_2:Int):=of_decide_eq_true (by(with_reducible assumption))
                  have q602:x7_2<((rd_L4 l0 x5_1).length:Int):=of_decide_eq_true (by(with_reducible assumption))
                  obtain⟨ad602,e602,hx602_0,hx602_1⟩:=at_T66 HR601_0.out x7_2 p602 q602
                  cases e602
                  replace hx602_0:=(HB.out.cell (World.block_lt_of_cell? w _ hx602_0)).trans hx602_0
                  replace hx602_1:=(HB.out.cell (World.block_lt_of_cell? w _ hx602_1)).trans hx602_1
                  replace p602:=eq_true p602
                  replace q602:=eq_true q602
                  go_wp2
                  repeat(go_quiet (fail);try go_wp2)
                  go_roundg k3
                  case measure=>have:=HK1.out;have:=HK2.out;have:=HK3.out;omega
                  case rel=>exact⟨(wrap64 (x8_3+1)),(by rfl),H',⟨by have:=HK1.out;have:=HK2.out;have:=HK3.out;omega⟩,⟨by(with_reducible repeat apply zr2);exact HO_3.out⟩,⟨by(with_reducible repeat(apply Kd.S_drewN));exact HO_4.out⟩,⟨by(with_reducible repeat apply zr2);exact HO_6.out⟩,⟨by repeat((with_reducible first|exact HB.out|apply pw_below_drewN))⟩⟩
                 ·rw [if_neg c18] at H
                  have c18b0:(!((((rd_T66 x3_2 x8_3).f0).toList)==(((rd_T66 (rd_L4 l0 x5_1) x7_2).f0).toList))||(!(((rd_T66 x3_2 x8_3).f1)==((rd_T66 (rd_L4 l0 x5_1) x7_2).f1))))=false:=by simpa using c18
                  clear c18
                  by_cases c20:x8_3=(x3_2.length:Int)
                  ·rw [if_pos c20] at H
                   have c20b0:(x8_3==(x3_2.length:Int))=true:=beq_iff_eq.mpr c20
                   have c20b1:(x8_3 != (x3_2.length:Int))=false:=bne_eq_false_iff_eq.mpr c20
                   clear c20
                   by_cases c21:x3_2.length<5864062014805
                   ·rw [if_pos c21] at H
                    have LMc21:=Aside0.mk c21
                    clear c21
                    obtain⟨y605,hy605⟩: ∃y_:List (S66),y_=(x3_2++ [(⟨(rd_T66 (rd_L4 l0 x5_1) x7_2).f0,(rd_T66 (rd_L4 l0 x5_1) x7_2).f1⟩:S66)]):=⟨_,rfl⟩
                    replace H:(if x6_2.length<17592186044416 then (jalousieref06_Numbers.l1 k3 l0 y605 x4_1 x5_1 (x6_2++ [x8_3]) (wrap64 (x7_2+1))) else (none))=some r:=by(rw [hy605];with_reducible exact H)
                    have Ny605:=Aside0.mk hy605
                    clear hy605
                    by_cases c22:x6_2.length<17592186044416
                    ·rw [if_pos c22] at H
                     have LMc22:=Aside0.mk c22
                     clear c22
                     obtain⟨y608,hy608⟩: ∃y_:List Int,y_=(x6_2++ [x8_3]):=⟨_,rfl⟩
                     replace H:(jalousieref06_Numbers.l1 k3 l0 y605 x4_1 x5_1 y608 (wrap64 (x7_2+1)))=some r:=by(rw [hy608];with_reducible exact H)
                     have Ny608:=Aside0.mk hy608
                     clear hy608
                     have H':=Aside0.mk H
                     clear H
                     obtain⟨Ao23,co23,eo23⟩:=Kd.R_slice HO_3.out
                     subst eo23
                     have p600:0≤(x8_3:Int):=of_decide_eq_true (by(with_reducible assumption))
                     have q600:x8_3<(x3_2.length:Int):=of_decide_eq_true (by(with_reducible assumption))
                     obtain⟨ad600,e600,hx600_0,hx600_1⟩:=at_T66 (Kd.R_reads' HO_3.out).2.2 x8_3 p600 q600
                     cases e600
                     replace p600:=eq_true p600
                     replace q600:=eq_true q600
                     have p601:0≤(x5_1:Int):=of_decide_eq_true (by(with_reducible assumption))
                     have q601:x5_1<(l0.length:Int):=of_decide_eq_true (by(with_reducible assumption))
                     obtain⟨ad601,A601_0,c601_0,e601,hx601_0,hl601_0,hi601_0⟩:=at_L4 HR0.out x5_1 p601 q601
                     obtain rfl:ad596=ad601:=(by injection e601)
                     replace hx601_0:=(HB.out.cell (World.block_lt_of_cell? w _ hx601_0)).trans hx601_0
                     have HR601_0:=Aside0.mk hi601_0
                     have HC601_0:=Aside0.mk hl601_0
                     clear hi601_0 hl601_0
                     replace p601:=eq_true p601
                     replace q601:=eq_true q601
                     have p602:0≤(x7_2:Int):=of_decide_eq_true (by(with_reducible assumption))
                     have q602:x7_2<((rd_L4 l0 x5_1).length:Int):=of_decide_eq_true (by(with_reducible assumption))
                     obtain⟨ad602,e602,hx602_0,hx602_1⟩:=at_T66 HR601_0.out x7_2 p602 q602
                     cases e602
                     replace hx602_0:=(HB.out.cell (World.block_lt_of_cell? w _ hx602_0)).trans hx602_0
                     replace hx602_1:=(HB.out.cell (World.block_lt_of_cell? w _ hx602_1)).trans hx602_1
                     replace p602:=eq_true p602
                     replace q602:=eq_true q602
                     have p603:0≤(x5_1:Int):=of_decide_eq_true (by(with_reducible assumption))
                     have q603:x5_1<(l0.length:Int):=of_decide_eq_true (by(with_reducible assumption))
                     obtain⟨ad603,A603_0,c603_0,e603,hx603_0,hl603_0,hi603_0⟩:=at_L4 HR0.out x5_1 p603 q603
                     obtain rfl:ad596=ad603:=(by injection e603)
                     replace hx603_0:=(HB.out.cell (World.block_lt_of_cell? w _ hx603_0)).trans hx603_0
                     have HR603_0:=Aside0.mk hi603_0
                     have HC603_0:=Aside0.mk hl603_0
                     clear hi603_0 hl603_0
                     replace p603:=eq_true p603
                     replace q603:=eq_true q603
                     have ea_:=Option.some.inj (hx601_0.symm.trans hx603_0)
                     injection ea_ with ea_ en_ ec_
                     subst ea_
                     subst ec_
                     clear en_
                     have p604:0≤(x7_2:Int):=of_decide_eq_true (by(with_reducible assumption))
                     have q604:x7_2<((rd_L4 l0 x5_1).length:Int):=of_decide_eq_true (by(with_reducible assumption))
                     obtain⟨ad604,e604,hx604_0,hx604_1⟩:=at_T66 HR603_0.out x7_2 p604 q604
                     cases e604
                     replace hx604_0:=(HB.out.cell (World.block_lt_of_cell? w _ hx604_0)).trans hx604_0
                     replace hx604_1:=(HB.out.cell (World.block_lt_of_cell? w _ hx604_1)).trans hx604_1
                     replace p604:=eq_true p604
                     replace q604:=eq_true q604
                     go_wp2_with(fail)
                     repeat(go_quiet (fail);try go_wp2_with(first|((with_reducible refine gate_builtin (b:= .append) (xs:= #[.tmp 51, .tmp 59]) rfl ?_);at_builtin;refine Kd.R_append k66 (w0:=w) w.heap.size rfl (.tmp 51) (.tmp 59) 37 66 (.agg #[(.string ⟨#[]⟩),(.bool false)]) 24 rfl Try.underlying37 info66 rfl (by decide) (by omega) (.slice (some ad600) x3_2.length co23) x3_2 (⟨(rd_T66 (rd_L4 l0 x5_1) x7_2).f0,(rd_T66 (rd_L4 l0 x5_1) x7_2).f1⟩:S66) [.string ((rd_T66 (rd_L4 l0 x5_1) x7_2).f0), .bool ((rd_T66 (rd_L4 l0 x5_1) x7_2).f1)] (fun _=>True) (fun _=>False) rfl rfl ?aP (fun _ hk=>hk.elim) ?aF ?aO ?aB ?aS ?aL ?_;(case aP=>exact k66_mkM _ _ _ (⟨(rd_T66 (rd_L4 l0 x5_1) x7_2).f0,(rd_T66 (rd_L4 l0 x5_1) x7_2).f1⟩:S66));(case aB=>exact(by repeat((with_reducible first|exact HB.out|apply pw_below_drewN))));(case aF=>exact(fun _ _=>trivial));(case aO=>exact(by(with_reducible repeat apply zr2);exact HO_3.out));(case aS=>exact(below_size (by repeat((with_reducible first|exact HB.out|apply pw_below_drewN)))));(case aL=>have:=LMc21.out;omega);intro v606 w24 ho hb hg hat;rw [← Ny605.out] at ho;have n0_:=Aside0.mk (Kd.S_over' (by(with_reducible repeat(apply Kd.S_drewN));exact HO_4.out) (Kd.R_typed (by(with_reducible repeat apply zr2);exact HO_3.out)) (by decide) hg);have n1_:=Aside0.mk (Kd.R_over' (by(with_reducible repeat apply zr2);exact HO_6.out) (Kd.R_typed (by(with_reducible repeat apply zr2);exact HO_3.out)) (by decide) hg);have n2_:=Aside0.mk (hb);have n3_:=Aside0.mk (ho);clear HO_4;clear HO_6;clear HB;clear HO_3;have HO_4:=n0_;have HO_6:=n1_;have HB:=n2_;have HO607:=n3_;clear n0_ n1_ n2_ n3_;clear ho hb hg hat)|((with_reducible refine gate_builtin (b:= .append) (xs:= #[.tmp 61, .tmp 63]) rfl ?_);at_builtin;refine Kd.R_append (Kd.int .i64) (w0:=w) w.heap.size rfl (.tmp 61) (.tmp 63) 53 3 (.int .i64 0) 8 rfl Try.underlying53 info3 rfl (by decide) (by omega) u6 x6_2 x8_3 [.int .i64 x8_3] (fun _=>True) (fun _=>False) rfl rfl ?aP (fun _ hk=>hk.elim) ?aF ?aO ?aB ?aS ?aL ?_;(case aP=>exact rfl);(case aB=>exact(by repeat((with_reducible exact HB.out))));(case aF=>exact(fun _ _=>trivial));(case aO=>exact(by exact HO_6.out));(case aS=>exact(below_size (by repeat((with_reducible exact HB.out)))));(case aL=>have:=LMc22.out;omega);intro v609 w25 ho hb hg hat;rw [← Ny608.out] at ho;have n0_:=Aside0.mk (Kd.S_after (ok:=(fun _=>True)) (by exact Kd.S_mono HO_4.out (fun _ hk=>⟨trivial,hk⟩)) hg hat);have n1_:=Aside0.mk (Kd.R_over' (by exact HO607.out) (Kd.R_typed (by exact HO_6.out)) (by decide) hg);have n2_:=Aside0.mk (hb);have n3_:=Aside0.mk (ho);clear HO_4;clear HO607;clear HB;clear HO_6;have HO_4:=n0_;have HO607:=n1_;have HB:=n2_;have HO610:=n3_;clear n0_ n1_ n2_ n3_;clear ho hb hg hat)))
                     go_roundg k3
                     case measure=>have:=HK1.out;have:=HK2.out;have:=HK3.out;omega
                     case rel=>exact⟨(y605),(y608),(wrap64 (x7_2+1)),(by rfl),H',⟨by have:=HK1.out;have:=HK2.out;have:=HK3.out;omega⟩,⟨by exact HO607.out⟩,⟨by exact Kd.S_mono HO_4.out (fun _ hk=>hk.2)⟩,⟨by exact HO610.out⟩,⟨by repeat((with_reducible exact HB.out))⟩⟩
                    ·rw [if_neg c22] at H
                     exact absurd H (by simp)
                   ·rw [if_neg c21] at H
                    exact absurd H (by simp)
                  ·rw [if_neg c20] at H
                   have c20b0:(x8_3==(x3_2.length:Int))=false:=beq_eq_false_iff_ne.mpr c20
                   have c20b1:(x8_3 != (x3_2.length:Int))=true:=bne_iff_ne.mpr c20
                   by_cases c26:x6_2.length<17592186044416
                   ·rw [if_pos c26] at H
                    have LMc26:=Aside0.mk c26
                    clear c26
                    obtain⟨y611,hy611⟩: ∃y_:List Int,y_=(x6_2++ [x8_3]):=⟨_,rfl⟩
                    replace H:(jalousieref06_Numbers.l1 k3 l0 x3_2 x4_1 x5_1 y611 (wrap64 (x7_2+1)))=some r:=by(rw [hy611];with_reducible exact H)
                    have Ny611:=Aside0.mk hy611
                    clear hy611
                    have H':=Aside0.mk H
                    clear H
                    obtain⟨Ao27,co27,eo27⟩:=Kd.R_slice HO_3.out
                    subst eo27
                    have p600:0≤(x8_3:Int):=of_decide_eq_true (by(with_reducible assumption))
                    have q600:x8_3<(x3_2.length:Int):=of_decide_eq_true (by(with_reducible assumption))
                    obtain⟨ad600,e600,hx600_0,hx600_1⟩:=at_T66 (Kd.R_reads' HO_3.out).2.2 x8_3 p600 q600
                    cases e600
                    replace p600:=eq_true p600
                    replace q600:=eq_true q600
                    have p601:0≤(x5_1:Int):=of_decide_eq_true (by(with_reducible assumption))
                    have q601:x5_1<(l0.length:Int):=of_decide_eq_true (by(with_reducible assumption))
                    obtain⟨ad601,A601_0,c601_0,e601,hx601_0,hl601_0,hi601_0⟩:=at_L4 HR0.out x5_1 p601 q601
                    obtain rfl:ad596=ad601:=(by injection e601)
                    replace hx601_0:=(HB.out.cell (World.block_lt_of_cell? w _ hx601_0)).trans hx601_0
                    have HR601_0:=Aside0.mk hi601_0
                    have HC601_0:=Aside0.mk hl601_0
                    clear hi601_0 hl601_0
                    replace p601:=eq_true p601
                    replace q601:=eq_true q601
                    have p602:0≤(x7_2:Int):=of_decide_eq_true (by(with_reducible assumption))
                    have q602:x7_2<((rd_L4 l0 x5_1).length:Int):=of_decide_eq_true (by(with_reducible assumption))
                    obtain⟨ad602,e602,hx602_0,hx602_1⟩:=at_T66 HR601_0.out x7_2 p602 q602
                    cases e602
                    replace hx602_0:=(HB.out.cell (World.block_lt_of_cell? w _ hx602_0)).trans hx602_0
                    replace hx602_1:=(HB.out.cell (World.block_lt_of_cell? w _ hx602_1)).trans hx602_1
                    replace p602:=eq_true p602
                    replace q602:=eq_true q602
                    go_wp2_with(fail)
                    repeat(go_quiet (fail);try go_wp2_with(((with_reducible refine gate_builtin (b:= .append) (xs:= #[.tmp 61, .tmp 63]) rfl ?_);at_builtin;refine Kd.R_append (Kd.int .i64) (w0:=w) w.heap.size rfl (.tmp 61) (.tmp 63) 53 3 (.int .i64 0) 8 rfl Try.underlying53 info3 rfl (by decide) (by omega) u6 x6_2 x8_3 [.int .i64 x8_3] (fun _=>True) (fun _=>False) rfl rfl ?aP (fun _ hk=>hk.elim) ?aF ?aO ?aB ?aS ?aL ?_;(case aP=>exact rfl);(case aB=>exact(by repeat((with_reducible first|exact HB.out|apply pw_below_drewN))));(case aF=>exact(fun _ _=>trivial));(case aO=>exact(by(with_reducible repeat apply zr2);exact HO_6.out));(case aS=>exact(below_size (by repeat((with_reducible first|exact HB.out|apply pw_below_drewN)))));(case aL=>have:=LMc26.out;omega);intro v612 w28 ho hb hg hat;rw [← Ny611.out] at ho;have n0_:=Aside0.mk (Kd.R_over' (by(with_reducible repeat apply zr2);exact HO_3.out) (Kd.R_typed (by(with_reducible repeat apply zr2);exact HO_6.out)) (by decide) hg);have n1_:=Aside0.mk (Kd.S_after (ok:=(fun _=>True)) (by(with_reducible repeat(apply Kd.S_drewN));exact Kd.S_mono HO_4.out (fun _ hk=>⟨trivial,hk⟩)) hg hat);have n2_:=Aside0.mk (hb);have n3_:=Aside0.mk (ho);clear HO_3;clear HO_4;clear HB;clear HO_6;have HO_3:=n0_;have HO_4:=n1_;have HB:=n2_;have HO613:=n3_;clear n0_ n1_ n2_ n3_;clear ho hb hg hat)))
                    go_roundg k3
                    case measure=>have:=HK1.out;have:=HK2.out;have:=HK3.out;omega
                    case rel=>exact⟨(x3_2),(y611),(wrap64 (x7_2+1)),(by rfl),H',⟨by have:=HK1.out;have:=HK2.out;have:=HK3.out;omega⟩,⟨by exact HO_3.out⟩,⟨by exact Kd.S_mono HO_4.out (fun _ hk=>hk.2)⟩,⟨by exact HO613.out⟩,⟨by repeat((with_reducible exact HB.out))⟩⟩
                   ·rw [if_neg c26] at H
                    exact absurd H (by simp)
                ·rw [if_neg c17] at H
                 exact absurd H (by simp)
               ·rw [if_neg c16] at H
                exact absurd H (by simp)
              ·rw [if_neg c15] at H
               exact absurd H (by simp)
             ·rw [if_neg c14] at H
              exact absurd H (by simp)
            ·rw [if_neg c13] at H
             exact absurd H (by simp)
           ·rw [if_neg c12] at H
            have c12b0:decide (x8_3<(x3_2.length:Int))=false:=decide_eq_false c12
            clear c12
            by_cases c29:x8_3=(x3_2.length:Int)
            ·rw [if_pos c29] at H
             have c29b0:(x8_3==(x3_2.length:Int))=true:=beq_iff_eq.mpr c29
             have c29b1:(x8_3 != (x3_2.length:Int))=false:=bne_eq_false_iff_eq.mpr c29
             clear c29
             by_cases c30:0≤x5_1
             ·rw [if_pos c30] at H
              have c30b0:decide (0≤x5_1)=true:=decide_eq_true c30
              clear c30
              by_cases c31:x5_1<(l0.length:Int)
              ·rw [if_pos c31] at H
               have c31b0:decide (x5_1<(l0.length:Int))=true:=decide_eq_true c31
               clear c31
               by_cases c32:0≤x7_2
               ·rw [if_pos c32] at H
                have c32b0:decide (0≤x7_2)=true:=decide_eq_true c32
                clear c32
                by_cases c33:x7_2<((rd_L4 l0 x5_1).length:Int)
                ·rw [if_pos c33] at H
                 have c33b0:decide (x7_2<((rd_L4 l0 x5_1).length:Int))=true:=decide_eq_true c33
                 clear c33
                 by_cases c34:x3_2.length<5864062014805
                 ·rw [if_pos c34] at H
                  have LMc34:=Aside0.mk c34
                  clear c34
                  obtain⟨y616,hy616⟩: ∃y_:List (S66),y_=(x3_2++ [(⟨(rd_T66 (rd_L4 l0 x5_1) x7_2).f0,(rd_T66 (rd_L4 l0 x5_1) x7_2).f1⟩:S66)]):=⟨_,rfl⟩
                  replace H:(if x6_2.length<17592186044416 then (jalousieref06_Numbers.l1 k3 l0 y616 x4_1 x5_1 (x6_2++ [x8_3]) (wrap64 (x7_2+1))) else (none))=some r:=by(rw [hy616];with_reducible exact H)
                  have Ny616:=Aside0.mk hy616
                  clear hy616
                  by_cases c35:x6_2.length<17592186044416
                  ·rw [if_pos c35] at H
                   have LMc35:=Aside0.mk c35
                   clear c35
                   obtain⟨y619,hy619⟩: ∃y_:List Int,y_=(x6_2++ [x8_3]):=⟨_,rfl⟩
                   replace H:(jalousieref06_Numbers.l1 k3 l0 y616 x4_1 x5_1 y619 (wrap64 (x7_2+1)))=some r:=by(rw [hy619];with_reducible exact H)
                   have Ny619:=Aside0.mk hy619
                   clear hy619
                   have H':=Aside0.mk H
                   clear H
                   obtain⟨Ao36,co36,eo36⟩:=Kd.R_slice HO_3.out
                   subst eo36
                   have p614:0≤(x5_1:Int):=of_decide_eq_true (by(with_reducible assumption))
                   have q614:x5_1<(l0.length:Int):=of_decide_eq_true (by(with_reducible assumption))
                   obtain⟨ad614,A614_0,c614_0,e614,hx614_0,hl614_0,hi614_0⟩:=at_L4 HR0.out x5_1 p614 q614
                   obtain rfl:ad596=ad614:=(by injection e614)
                   replace hx614_0:=(HB.out.cell (World.block_lt_of_cell? w _ hx614_0)).trans hx614_0
                   have HR614_0:=Aside0.mk hi614_0
                   have HC614_0:=Aside0.mk hl614_0
                   clear hi614_0 hl614_0
                   replace p614:=eq_true p614
                   replace q614:=eq_true q614
                   have p615:0≤(x7_2:Int):=of_decide_eq_true (by(with_reducible assumption))
                   have q615:x7_2<((rd_L4 l0 x5_1).length:Int):=of_decide_eq_true (by(with_reducible assumption))
                   obtain⟨ad615,e615,hx615_0,hx615_1⟩:=at_T66 HR614_0.out x7_2 p615 q615
                   cases e615
                   replace hx615_0:=(HB.out.cell (World.block_lt_of_cell? w _ hx615_0)).trans hx615_0
                   replace hx615_1:=(HB.out.cell (World.block_lt_of_cell? w _ hx615_1)).trans hx615_1
                   replace p615:=eq_true p615
                   replace q615:=eq_true q615
                   go_wp2_with(fail)
                   repeat(go_quiet (fail);try go_wp2_with(first|((with_reducible refine gate_builtin (b:= .append) (xs:= #[.tmp 51, .tmp 59]) rfl ?_);at_builtin;refine Kd.R_append k66 (w0:=w) w.heap.size rfl (.tmp 51) (.tmp 59) 37 66 (.agg #[(.string ⟨#[]⟩),(.bool false)]) 24 rfl Try.underlying37 info66 rfl (by decide) (by omega) (.slice Ao36 x3_2.length co36) x3_2 (⟨(rd_T66 (rd_L4 l0 x5_1) x7_2).f0,(rd_T66 (rd_L4 l0 x5_1) x7_2).f1⟩:S66) [.string ((rd_T66 (rd_L4 l0 x5_1) x7_2).f0), .bool ((rd_T66 (rd_L4 l0 x5_1) x7_2).f1)] (fun _=>True) (fun _=>False) rfl rfl ?aP (fun _ hk=>hk.elim) ?aF ?aO ?aB ?aS ?aL ?_;(case aP=>exact k66_mkM _ _ _ (⟨(rd_T66 (rd_L4 l0 x5_1) x7_2).f0,(rd_T66 (rd_L4 l0 x5_1) x7_2).f1⟩:S66));(case aB=>exact(by repeat((with_reducible first|exact HB.out|apply pw_below_drewN))));(case aF=>exact(fun _ _=>trivial));(case aO=>exact(by(with_reducible repeat apply zr2);exact HO_3.out));(case aS=>exact(below_size (by repeat((with_reducible first|exact HB.out|apply pw_below_drewN)))));(case aL=>have:=LMc34.out;omega);intro v617 w37 ho hb hg hat;rw [← Ny616.out] at ho;have n0_:=Aside0.mk (Kd.S_over' (by(with_reducible repeat(apply Kd.S_drewN));exact HO_4.out) (Kd.R_typed (by(with_reducible repeat apply zr2);exact HO_3.out)) (by decide) hg);have n1_:=Aside0.mk (Kd.R_over' (by(with_reducible repeat apply zr2);exact HO_6.out) (Kd.R_typed (by(with_reducible repeat apply zr2);exact HO_3.out)) (by decide) hg);have n2_:=Aside0.mk (hb);have n3_:=Aside0.mk (ho);clear HO_4;clear HO_6;clear HB;clear HO_3;have HO_4:=n0_;have HO_6:=n1_;have HB:=n2_;have HO618:=n3_;clear n0_ n1_ n2_ n3_;clear ho hb hg hat)|((with_reducible refine gate_builtin (b:= .append) (xs:= #[.tmp 61, .tmp 63]) rfl ?_);at_builtin;refine Kd.R_append (Kd.int .i64) (w0:=w) w.heap.size rfl (.tmp 61) (.tmp 63) 53 3 (.int .i64 0) 8 rfl Try.underlying53 info3 rfl (by decide) (by omega) u6 x6_2 x8_3 [.int .i64 x8_3] (fun _=>True) (fun _=>False) rfl rfl ?aP (fun _ hk=>hk.elim) ?aF ?aO ?aB ?aS ?aL ?_;(case aP=>exact rfl);(case aB=>exact(by repeat((with_reducible exact HB.out))));(case aF=>exact(fun _ _=>trivial));(case aO=>exact(by exact HO_6.out));(case aS=>exact(below_size (by repeat((with_reducible exact HB.out)))));(case aL=>have:=LMc35.out;omega);intro v620 w38 ho hb hg hat;rw [← Ny619.out] at ho;have n0_:=Aside0.mk (Kd.S_after (ok:=(fun _=>True)) (by exact Kd.S_mono HO_4.out (fun _ hk=>⟨trivial,hk⟩)) hg hat);have n1_:=Aside0.mk (Kd.R_over' (by exact HO618.out) (Kd.R_typed (by exact HO_6.out)) (by decide) hg);have n2_:=Aside0.mk (hb);have n3_:=Aside0.mk (ho);clear HO_4;clear HO618;clear HB;clear HO_6;have HO_4:=n0_;have HO618:=n1_;have HB:=n2_;have HO621:=n3_;clear n0_ n1_ n2_ n3_;clear ho hb hg hat)))
                   go_roundg k3
                   case measure=>have:=HK1.out;have:=HK2.out;have:=HK3.out;omega
                   case rel=>exact⟨(y616),(y619),(wrap64 (x7_2+1)),(by rfl),H',⟨by have:=HK1.out;have:=HK2.out;have:=HK3.out;omega⟩,⟨by exact HO618.out⟩,⟨by exact Kd.S_mono HO_4.out (fun _ hk=>hk.2)⟩,⟨by exact HO621.out⟩,⟨by repeat((with_reducible exact HB.out))⟩⟩
                  ·rw [if_neg c35] at H
                   exact absurd H (by simp)
                 ·rw [if_neg c34] at H
                  exact absurd H (by simp)
                ·rw [if_neg c33] at H
                 exact absurd H (by simp)
               ·rw [if_neg c32] at H
                exact absurd H (by simp)
              ·rw [if_neg c31] at H
               exact absurd H (by simp)
             ·rw [if_neg c30] at H
              exact absurd H (by simp)
            ·rw [if_neg c29] at H
             have c29b0:(x8_3==(x3_2.length:Int))=false:=beq_eq_false_iff_ne.mpr c29
             have c29b1:(x8_3 != (x3_2.length:Int))=true:=bne_iff_ne.mpr c29
             by_cases c39:x6_2.length<17592186044416
             ·rw [if_pos c39] at H
              have LMc39:=Aside0.mk c39
              clear c39
              obtain⟨y622,hy622⟩: ∃y_:List Int,y_=(x6_2++ [x8_3]):=⟨_,rfl⟩
              replace H:(jalousieref06_Numbers.l1 k3 l0 x3_2 x4_1 x5_1 y622 (wrap64 (x7_2+1)))=some r:=by(rw [hy622];with_reducible exact H)
              have Ny622:=Aside0.mk hy622
              clear hy622
              have H':=Aside0.mk H
              clear H
              obtain⟨Ao40,co40,eo40⟩:=Kd.R_slice HO_3.out
              subst eo40
              go_wp2_with(fail)
              repeat(go_quiet (fail);try go_wp2_with(((with_reducible refine gate_builtin (b:= .append) (xs:= #[.tmp 61, .tmp 63]) rfl ?_);at_builtin;refine Kd.R_append (Kd.int .i64) (w0:=w) w.heap.size rfl (.tmp 61) (.tmp 63) 53 3 (.int .i64 0) 8 rfl Try.underlying53 info3 rfl (by decide) (by omega) u6 x6_2 x8_3 [.int .i64 x8_3] (fun _=>True) (fun _=>False) rfl rfl ?aP (fun _ hk=>hk.elim) ?aF ?aO ?aB ?aS ?aL ?_;(case aP=>exact rfl);(case aB=>exact(by repeat((with_reducible first|exact HB.out|apply pw_below_drewN))));(case aF=>exact(fun _ _=>trivial));(case aO=>exact(by(with_reducible repeat apply zr2);exact HO_6.out));(case aS=>exact(below_size (by repeat((with_reducible first|exact HB.out|apply pw_below_drewN)))));(case aL=>have:=LMc39.out;omega);intro v623 w41 ho hb hg hat;rw [← Ny622.out] at ho;have n0_:=Aside0.mk (Kd.R_over' (by(with_reducible repeat apply zr2);exact HO_3.out) (Kd.R_typed (by(with_reducible repeat apply zr2);exact HO_6.out)) (by decide) hg);have n1_:=Aside0.mk (Kd.S_after (ok:=(fun _=>True)) (by(with_reducible repeat(apply Kd.S_drewN));exact Kd.S_mono HO_4.out (fun _ hk=>⟨trivial,hk⟩)) hg hat);have n2_:=Aside0.mk (hb);have n3_:=Aside0.mk (ho);clear HO_3;clear HO_4;clear HB;clear HO_6;have HO_3:=n0_;have HO_4:=n1_;have HB:=n2_;have HO624:=n3_;clear n0_ n1_ n2_ n3_;clear ho hb hg hat)))
              go_roundg k3
              case measure=>have:=HK1.out;have:=HK2.out;have:=HK3.out;omega
              case rel=>exact⟨(x3_2),(y622),(wrap64 (x7_2+1)),(by rfl),H',⟨by have:=HK1.out;have:=HK2.out;have:=HK3.out;omega⟩,⟨by exact HO_3.out⟩,⟨by exact Kd.S_mono HO_4.out (fun _ hk=>hk.2)⟩,⟨by exact HO624.out⟩,⟨by repeat((with_reducible exact HB.out))⟩⟩
             ·rw [if_neg c39] at H
              exact absurd H (by simp)
        ·rw [if_neg c11] at H
         have c11b0:decide (x7_2<((rd_L4 l0 x5_1).length:Int))=false:=decide_eq_false c11
         clear c11
         by_cases c42:x4_1.length<5864062014805
         ·rw [if_pos c42] at H
          have LMc42:=Aside0.mk c42
          clear c42
          obtain⟨y597,hy597⟩: ∃y_:List (List Int),y_=(x4_1++ [x6_2]):=⟨_,rfl⟩
          replace H:(jalousieref06_Numbers.l0 k2 l0 x3_2 y597 (wrap64 (x5_1+1)))=some r:=by(rw [hy597];with_reducible exact H)
          have Ny597:=Aside0.mk hy597
          clear hy597
          have H':=Aside0.mk H
          clear H
          have p596:0≤(x5_1:Int):=of_decide_eq_true (by(with_reducible assumption))
          have q596:x5_1<(l0.length:Int):=of_decide_eq_true (by(with_reducible assumption))
          obtain⟨ad596,A596_0,c596_0,e596,hx596_0,hl596_0,hi596_0⟩:=at_L4 HR0.out x5_1 p596 q596
          cases e596
          replace hx596_0:=(HB.out.cell (World.block_lt_of_cell? w _ hx596_0)).trans hx596_0
          have HR596_0:=Aside0.mk hi596_0
          have HC596_0:=Aside0.mk hl596_0
          clear hi596_0 hl596_0
          replace p596:=eq_true p596
          replace q596:=eq_true q596
          obtain⟨Ao44,co44,eo44⟩:=Kd.R_slice HO_6.out
          subst eo44
          go_wp2_with(((with_reducible refine gate_builtin (b:= .append) (xs:= #[.tmp 65, .tmp 67]) rfl ?_);at_builtin;refine Kd.S_append (Kd.slice 3 (Kd.int .i64)) (w0:=w) w.heap.size rfl (.tmp 65) (.tmp 67) 91 53 (.slice none 0 0) 24 rfl Try.underlying91 info53 rfl (by decide) (by omega) u4 x4_1 x6_2 [.slice Ao44 x6_2.length co44] (fun _=>True) (fun k_=>some k_=(.slice Ao44 x6_2.length co44:Value).ownBlock) rfl rfl ?aP (fun k_ hk_=>((Kd.R_mono (ok':=fun k_=>((fun _=>True)) k_∧some k_≠(u4:Value).ownBlock) (Kd.R_apart' (HO_6.out) (Kd.S_typed HO_4.out) (by decide)) (fun k_ hk=>⟨trivial,hk.2⟩))).1 k_ hk_.symm) ?aF ?aO ?aB ?aS ?aL ?_;(case aP=>exact Kd.M_row (Kd.R_mono (Kd.R_tight rfl (Kd.R_mono (ok':=fun k_=>((fun _=>True)) k_∧some k_≠(u4:Value).ownBlock) (Kd.R_apart' (HO_6.out) (Kd.S_typed HO_4.out) (by decide)) (fun k_ hk=>⟨trivial,hk.2⟩))) (fun _ h_=>h_)));(case aB=>exact(by repeat((with_reducible exact HB.out))));(case aF=>exact(fun _ _=>trivial));(case aO=>exact(by exact Kd.S_mono HO_4.out (fun k_ hk=>⟨trivial,fun e_=>hk e_⟩)));(case aS=>exact(below_size (by repeat((with_reducible exact HB.out)))));(case aL=>have:=LMc42.out;omega);intro v598 w43 ho hb hg hat;rw [← Ny597.out] at ho;have n0_:=Aside0.mk (Kd.R_over' (by exact HO_3.out) (Kd.S_typed (by exact HO_4.out)) (by decide) hg);have n1_:=Aside0.mk (hb);have n2_:=Aside0.mk (ho);clear HO_3;clear HB;clear HO_4;clear HO_6;have HO_3:=n0_;have HB:=n1_;have HO599:=n2_;clear n0_ n1_ n2_;clear ho hb hg hat))
          go_roundg k2
          case measure=>have:=HK1.out;have:=HK2.out;omega
          case rel=>exact⟨(x3_2),(y597),(wrap64 (x5_1+1)),(by rfl),H',⟨by have:=HK1.out;have:=HK2.out;omega⟩,⟨by exact HO_3.out⟩,⟨by exact HO599.out⟩,⟨by repeat((with_reducible exact HB.out))⟩⟩
         ·rw [if_neg c42] at H
          exact absurd H (by simp)
       ·rw [if_neg c10] at H
        exact absurd H (by simp)
      ·rw [if_neg c9] at H
       exact absurd H (by simp)
   ·rw [if_neg c6] at H
    have c6b0:decide (x5_1<(l0.length:Int))=false:=decide_eq_false c6
    clear c6
    obtain rfl:=Option.some.inj H
    go_wp2
    go_ret
    exact⟨_,by rfl,by exact HO_4.out,by repeat((with_reducible exact HB.out))⟩
end Go.Proofs.Ytfnbodjmmkjlcaa.H
end
